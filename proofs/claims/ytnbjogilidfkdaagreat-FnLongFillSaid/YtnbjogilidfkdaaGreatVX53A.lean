/- Contracts: reading tokens, what is spoken of. -/
import Derived.Test.YtnbjogilidfkdaaGreatVK3
import Derived.Test.YtnbjogilidfkdaaGreatVX1
import Derived.Test.YtnbjogilidfkdaaGreatVS0

namespace Go.Proofs.YtnbjogilidfkdaaGreat
set_option maxRecDepth 100000
set_option linter.unusedVariables false
set_option linter.unusedSimpArgs false
open Go.RowKit
--LV=X53A
@[go_sem] def tkC:PC:=rel (α:=Bs) (fun x=>[.str x]) (fun x=>x.length≤1099511627776) (fun x=> .tup [.seq (encTks ((tokM x).getD [])),.bool (tokM x).isSome])
theorem bytes_app53 (a:Bs) (b:UInt8):a.map bc++[[.int .u8 b.toNat]]=(a++[b]).map bc:=by simp [bc]
theorem bytes_all53 (a:Bs):(∀ e ∈ a.map bc,e.length=1)=True:=eq_true (by
 intro e he
 obtain ⟨b,_,rfl⟩:=List.mem_map.1 he;rfl)
theorem tok_app53n (l:List TokD) (k:Int) (n v:Bs):encTks l++[[.int .i64 k,.str n,.str v,.seq []]]=encTks (l++[⟨k,n,v,[]⟩]):=encTks_pt l k n v []
def kd53 (m:Int):Int:=if 2≤m∧m≤8 then 2 else 0
theorem kd53_in {m:Int} (h:2≤m∧m≤8):kd53 m=2:=if_pos h
theorem kd53_out {m:Int} (h: ¬ (2≤m∧m≤8)):kd53 m=0:=if_neg h
def firstLoop:Code→Option Code
 | .loop c=>some c
 | .seq a b=>match firstLoop a with
   | some c=>some c
   | none=>firstLoop b
 | .block _ c=>firstLoop c
 | .scope c=>firstLoop c
 | _=>none
theorem tkStep_e53 {m n:Int} {tg ta ng na raw:Bs} {ts ns:Bool} {ps:List (Bs×Bs)} {out:List TokD} {b:UInt8} (hm:2≤m∧m≤8) (hn:step ⟨m,tg,ta,ts⟩ b=⟨n,ng,na,ns⟩) (h:n=0∨n=11) (h60: ¬ 60<ps.length):tkStep ⟨⟨m,tg,ta,ts⟩,raw,ps,out⟩ b=some ⟨⟨n,ng,na,ns⟩,raw,[],out++[tkOpen tg (unPs ps)]⟩:=by
 unfold tkStep
 rw [hn]
 dsimp only
 rw [if_neg (by omega),if_pos ⟨hm,h⟩,if_neg h60]
theorem tkStep_f53 {m n:Int} {tg ta ng na raw:Bs} {ts ns:Bool} {ps:List (Bs×Bs)} {out:List TokD} {b:UInt8} (hm:2≤m∧m≤8) (hn:step ⟨m,tg,ta,ts⟩ b=⟨n,ng,na,ns⟩) (h:n=0∨n=11) (h60:60<ps.length):tkStep ⟨⟨m,tg,ta,ts⟩,raw,ps,out⟩ b=none:=by
 unfold tkStep
 rw [hn]
 dsimp only
 rw [if_neg (by omega),if_pos ⟨hm,h⟩,if_pos h60]
/-- What is done with a byte. -/
noncomputable def body53:Code:=match Tryz.f9.body with
 | some c=>(firstLoop c).getD .skip
 | none=> .skip
def T53 (s:Bs) (i:Nat×TkI×Bool×Bool):List (Nat×PV):=[(0,.str s),(4,.own 0),(5,.ref 1 0),(6,cond i.2.2.1 (.own 2) .nil),(7,.ref 3 0),(8,.int .i64 i.1)]
def M53 (i:Nat×TkI×Bool×Bool):List (Nat×MB):=[(0,.row 68 4 (encTks i.2.1.out)),(1,.box (encS i.2.1.s)),(3,.box [.int .i64 (kd53 i.2.1.s.mode),.str [],.str [],cond i.2.2.2 (.own 4) .nil])]++cond i.2.2.1 [(2,.row 5 1 (i.2.1.raw.map bc))] []++cond i.2.2.2 [(4,.row 72 2 (encPrs i.2.1.ps))] []
def good53 (s:Bs) (i:Nat×TkI×Bool×Bool):Prop:=i.1≤s.length∧TkAt s i.1 i.2.1∧(cond i.2.2.1 (i.2.1.s.mode=0∨10≤i.2.1.s.mode) (i.2.1.raw=[]))∧(cond i.2.2.2 (3≤i.2.1.s.mode∧i.2.1.s.mode≤8) (i.2.1.ps=[]))
def mu53 (s:Bs) (i:Nat×TkI×Bool×Bool):Nat:=s.length - i.1
def G53:PCtr:=tab [(11,strC textB),(35,sbC okS step),(36,tC fun s=> .str (unT s))]
/-- One round leads on. -/
def Round53 (s:Bs) (i:Nat×TkI×Bool×Bool) (Q:AX→AS→Prop):Prop:=awp Tryz.prog G53 (Γof G53) 0 body53 (AX.then (Again 0 (T53 s) M53 5 (good53 s) (mu53 s) i) Q) (mkS (T53 s i) (M53 i) 5)
end Go.Proofs.YtnbjogilidfkdaaGreat

/- Reading tokens: texts, ends. -/
namespace Go.Proofs.YtnbjogilidfkdaaGreat
attribute [local irreducible] awp arun acalm FinP Fin AX.then AX.inBlock Again aG gsel amix amixN amixC aop aopc aopd cutK
attribute [local go_sem] aBSliceD aSlice aSliceC boundOf aMk aCall aCallC aLenL aLen aPick_t aPick_f aNil aAlloc aBox aBuild bldPV aBSlice bsPV aApp newsOf destOf drp aConvX aConv aConvInt aLoad cellsAt aStore cellsPV setAt aFld aField aIdx aIndex aUn aBin' aBin aMax aExtract pvOf PV.isCell nmbL PV.nmb List.map_cons List.map_nil List.all_cons List.all_nil Bool.and_true Bool.true_and if_true if_false List.getD_cons_zero List.getD_cons_succ List.getD_nil Option.isSome_some true_and and_true and_self eq_self true_or or_true List.drop_zero List.drop_succ_cons List.drop_nil List.take_zero List.take_succ_cons List.take_nil List.length_cons List.length_nil List.length_map Option.getD_some Option.getD_none List.nil_append List.cons_append List.append_nil Option.some.injEq exists_eq_left' List.getElem?_cons_zero List.getElem?_cons_succ Int.toNat_natCast Int.natCast_inj toNat_succ Nat.zero_add res res1 resC owns owns1 ownsC List.flatMap_cons List.flatMap_nil List.flatten_cons List.flatten_nil List.mem_cons List.not_mem_nil or_false false_or forall_eq forall_eq_or_imp isFro frz frz1 pureC tabA isBld List.cons.injEq PV.seq.injEq PV.int.injEq PV.str.injEq PV.bool.injEq PV.agg.injEq inR tab Γof aRes packR Option.map_some Option.map_none rel Prod.exists exists_and_left exists_eq_left and_assoc beq_self_eq_true Bool.not_true Bool.not_false decide_true decide_false List.set_cons_zero List.set_cons_succ rst_nil rst_cons
attribute [local go_sem ↓] evT upd_def aop aopc aopd
set_option maxRecDepth 100000
set_option linter.unusedVariables false
set_option linter.unusedSimpArgs false
open Go.RowKit
def lvX53B_9:Nat→List Nat
 | 0=>[0]
 | 1=>[0,15]
 | 2=>[2,3]
 | 3=>[0,4]
 | 4=>[0,4,5]
 | 5=>[0,4,5,6]
 | 6=>[0,4,5,6,7]
 | 7=>[0,4,5,6,7,8]
 | 8=>[0,4,5,6,7,8,23]
 | 9=>[0,4,5,6,7,8]
 | 10=>[0,4,5,6,7,8,9]
 | 11=>[0,4,5,6,7,8,9,10]
 | 12=>[0,4,5,6,7,8,9,10,32]
 | 13=>[2,3]
 | 14=>[0,4,5,6,7,8,9,10,36]
 | 15=>[0,4,5,6,7,8,9,10]
 | 16=>[0,4,5,6,7,8,9,10,49]
 | 17=>[0,4,5,6,7,8,9,10,55]
 | 18=>[0,4,5,7,8,9,10]
 | 19=>[0,4,5,6,7,8,9,10]
 | 20=>[0,4,5,6,7,8,9,10,63]
 | 21=>[0,4,5,6,7,8,9,10]
 | 22=>[0,4,5,6,7,8,9,10,73]
 | 23=>[0,4,5,6,7,8,9,10]
 | 24=>[0,4,5,6,7,8,9,10,88]
 | 25=>[0,4,5,7,8,9,10]
 | 26=>[0,4,5,6,7,8,9,10]
 | 27=>[0,4,5,6,7,8,9,10,103]
 | 28=>[0,4,5,6,7,8,9,10]
 | 29=>[0,4,5,6,7,8,9,10,111]
 | 30=>[0,4,5,6,7,8,9,10,122]
 | 31=>[0,4,5,7,8,9,10]
 | 32=>[0,4,5,6,7,8,9,10]
 | 33=>[0,4,5,6,7,8,9,10,133]
 | 34=>[0,4,5,6,7,8,9,10]
 | 35=>[0,4,5,6,7,8,9,10,148]
 | 36=>[0,4,5,6,7,8,9,10,11]
 | 37=>[0,4,5,6,7,8,9,10,11,153]
 | 38=>[0,4,5,6,7,8,10]
 | 39=>[0,4,5,6,7,8,9,10,11,170]
 | 40=>[0,4,5,6,7,8,10]
 | 41=>[0,4,5,6,7,8,9,10,11,181]
 | 42=>[0,4,5,6,7,8,10]
 | 43=>[0,4,5,6,7,8,10,214]
 | 44=>[0,4,5,6,7,8,10]
 | 45=>[0,4,5,6,7,8,10,228,229]
 | 46=>[0,4,5,6,7,8,10,228,229,230]
 | 47=>[0,4,5,6,7,8,10,12,228,229]
 | 48=>[0,4,5,6,7,8,10,228,229]
 | 49=>[0,4,5,6,7,8,10,228,229]
 | 50=>[0,4,5,6,7,8,10,248]
 | 51=>[2,3]
 | 52=>[0,4,5,6,7,8,10]
 | 53=>[0,4,5,6,7,8,10]
 | 54=>[0,4,5,6,7,8]
 | 55=>[4,6,257]
 | 56=>[2,3]
 | 57=>[4,6,260]
 | 58=>[4]
 | 59=>[4,270]
 | 60=>[2,3]
 | 61=>[2,3]
 | _=>[]
--LV=X53B
set_option maxHeartbeats 40000000 in
theorem w53_00 {s:Bs} {k:Nat} {m:Int} {tg ta:Bs} {ts:Bool} {raw:Bs} {ps:List (Bs×Bs)} {out:List TokD} {rb pb:Bool} {b:UInt8} {n:Int} {ng na:Bs} {ns:Bool} {Q:AX→AS→Prop}
 (hsl:s.length≤600) (hkl:k<s.length) (hb:s.getD k 0=b) (hn:step ⟨m,tg,ta,ts⟩ b=⟨n,ng,na,ns⟩) (hx:TkAt s k ⟨⟨m,tg,ta,ts⟩,raw,ps,out⟩)
 (hrb:cond rb (m=0∨10≤m) (raw=[])) (hpb:cond pb (3≤m∧m≤8) (ps=[])) (hm:m=0) (hn0:n=0):Round53 s (k,⟨⟨m,tg,ta,ts⟩,raw,ps,out⟩,rb,pb) Q:=by
 have hok:=hx.ok
 have hoS:okS ⟨m,tg,ta,ts⟩:=okS_of hok.v
 have hoN:=okS_of (stV_step ⟨m,tg,ta,ts⟩ b)
 rw [hn] at hoN
 have hst:=fun y=>hx.step (y:=y) hkl
 rw [hb] at hst
 have hlo:out.length≤k:=hx.lo
 have hlp:ps.length≤k:=hx.lp
 have hbr:raw.length≤k:=hx.bd.raw
 have hbp: ∀ p ∈ ps,bdP k p:=hx.bd.ps
 have hops:4≤m∧m≤8→ ∃ l v,ps=l++[(ta,v)]:=hok.ps
 have hz: ¬ (2≤m∧m≤8)→ps=[]:=hok.z
 have hles:m=14→raw≠[]:=hok.less
 clear hok hx
 have hbl:=byte_lt s k
 rw [hb] at hbl
 try dsimp only at hst
 have hkd:kd53 m=0:=kd53_out (by omega)
 subst hm hn0
 have hp0:ps=[]:=hz (by omega)
 subst hp0
 have hpb0:pb=false:=by
  cases pb
  · rfl
  · simp only [cond_true] at hpb;omega
 subst hpb0
 clear hpb
 unfold Round53 body53
 simp only [Tryz.f9,firstLoop,Option.getD_some,G53]
 cases rb
 · have hr0:raw=[]:=hrb
   subst hr0
   have hat:=hst ⟨⟨0,ng,na,ns⟩,[b],[],out⟩ (by simp [tkStep,rawI,prsI, *])
   simp only [T53,M53,mkS,mkT,mkM,cond_false,List.append_nil,hkd]
   repeat' (first|((first|apply qwd|apply qa1|apply qa2|apply qh1|apply qg1 rfl|apply qcd);(try intro K hk);focus (simp only [lvX53B_9,mkT,go_sem,Nat.reduceEqDiff,Nat.reduceAdd,Nat.reduceLeDiff,↓reduceIte,reduceCtorEq,hb,hn,encS_eq,ex_St,List.length_nil,List.length_cons,Int.reduceEq,Int.reduceLE,decide_true,decide_false];first|exact rfl|((repeat refine ai ?_);intros;apply hk;clear hk K)))|apply qw1|refine qwc lvX53B_9 ?_|apply qt1|apply qw5|apply qw2|apply qt4|apply qj1|apply qj4|apply qu1|(refine qj6 ?_ ?_<;>intro hc<;>(try simp only [hc])<;>(try simp only [decide_eq_true_eq,decide_eq_false_iff_not] at hc)<;>(try (exfalso;omega))))
   refine s_againR ((k+1,⟨⟨0,ng,na,ns⟩,[b],[],out⟩,true,false)) (fun i=>if i=2 then 7 else i) ?_ ?_ ?_ ?_ ?_ ?_<;>(first|omega|(dsimp only;omega)|(intro i hi;(try dsimp only);(repeat' split)<;>omega)|(intro i j hi hj h;(try dsimp only at h);(repeat' split at h)<;>omega)|skip)
   all_goals first|(unfold good53;exact ⟨by dsimp only;omega,hat,by simp<;>omega,by simp<;>omega⟩)|(unfold mu53;dsimp only;omega)|(simp [T53,M53,fitsTR,fitsMR,PV.ren,renL,MB.ren,upd_def,PV.nmb,nmbL,MB.nmb,encS_mk,kd53,bc];done)
 · have hat:=hst ⟨⟨0,ng,na,ns⟩,raw++[b],[],out⟩ (by simp [tkStep,rawI,prsI, *])
   simp only [T53,M53,mkS,mkT,mkM,cond_true,cond_false,List.append_nil,List.cons_append,List.nil_append,hkd]
   repeat' (first|((first|apply qwd|apply qa1|apply qa2|apply qh1|apply qg1 rfl|apply qcd);(try intro K hk);focus (simp only [lvX53B_9,mkT,go_sem,Nat.reduceEqDiff,Nat.reduceAdd,Nat.reduceLeDiff,↓reduceIte,reduceCtorEq,hb,hn,encS_eq,ex_St,bytes_app53,List.length_map,List.length_nil,List.length_cons,Int.reduceEq,Int.reduceLE,decide_true,decide_false];first|exact rfl|((repeat refine ai ?_);intros;apply hk;clear hk K)))|apply qw1|refine qwc lvX53B_9 ?_|apply qt1|apply qw5|apply qw2|apply qt4|apply qj1|apply qj4|apply qu1|(refine qj6 ?_ ?_<;>intro hc<;>(try simp only [hc])<;>(try simp only [decide_eq_true_eq,decide_eq_false_iff_not] at hc)<;>(try (exfalso;omega))))
   refine s_againR ((k+1,⟨⟨0,ng,na,ns⟩,raw++[b],[],out⟩,true,false)) (fun i=>if i=2 then 7 else i) ?_ ?_ ?_ ?_ ?_ ?_<;>(first|omega|(dsimp only;omega)|(intro i hi;(try dsimp only);(repeat' split)<;>omega)|(intro i j hi hj h;(try dsimp only at h);(repeat' split at h)<;>omega)|skip)
   all_goals first|(unfold good53;exact ⟨by dsimp only;omega,hat,by simp<;>omega,by simp<;>omega⟩)|(unfold mu53;dsimp only;omega)|(simp [T53,M53,fitsTR,fitsMR,PV.ren,renL,MB.ren,upd_def,PV.nmb,nmbL,MB.nmb,encS_mk,kd53,bc];done)
set_option maxHeartbeats 40000000 in
theorem w53_01 {s:Bs} {k:Nat} {m:Int} {tg ta:Bs} {ts:Bool} {raw:Bs} {ps:List (Bs×Bs)} {out:List TokD} {rb pb:Bool} {b:UInt8} {n:Int} {ng na:Bs} {ns:Bool} {Q:AX→AS→Prop}
 (hsl:s.length≤600) (hkl:k<s.length) (hb:s.getD k 0=b) (hn:step ⟨m,tg,ta,ts⟩ b=⟨n,ng,na,ns⟩) (hx:TkAt s k ⟨⟨m,tg,ta,ts⟩,raw,ps,out⟩)
 (hrb:cond rb (m=0∨10≤m) (raw=[])) (hpb:cond pb (3≤m∧m≤8) (ps=[])) (hm:m=0) (hn0:n=1):Round53 s (k,⟨⟨m,tg,ta,ts⟩,raw,ps,out⟩,rb,pb) Q:=by
 have hok:=hx.ok
 have hoS:okS ⟨m,tg,ta,ts⟩:=okS_of hok.v
 have hoN:=okS_of (stV_step ⟨m,tg,ta,ts⟩ b)
 rw [hn] at hoN
 have hst:=fun y=>hx.step (y:=y) hkl
 rw [hb] at hst
 have hlo:out.length≤k:=hx.lo
 have hlp:ps.length≤k:=hx.lp
 have hbr:raw.length≤k:=hx.bd.raw
 have hbp: ∀ p ∈ ps,bdP k p:=hx.bd.ps
 have hops:4≤m∧m≤8→ ∃ l v,ps=l++[(ta,v)]:=hok.ps
 have hz: ¬ (2≤m∧m≤8)→ps=[]:=hok.z
 have hles:m=14→raw≠[]:=hok.less
 clear hok hx
 have hbl:=byte_lt s k
 rw [hb] at hbl
 try dsimp only at hst
 have hkd:kd53 m=0:=kd53_out (by omega)
 subst hm hn0
 have hp0:ps=[]:=hz (by omega)
 subst hp0
 have hpb0:pb=false:=by
  cases pb
  · rfl
  · simp only [cond_true] at hpb;omega
 subst hpb0
 clear hpb
 unfold Round53 body53
 simp only [Tryz.f9,firstLoop,Option.getD_some,G53]
 cases rb
 · have hr0:raw=[]:=hrb
   subst hr0
   have hat:=hst ⟨⟨1,ng,na,ns⟩,[],[],out⟩ (by simp [tkStep,rawI,prsI, *])
   simp only [T53,M53,mkS,mkT,mkM,cond_false,List.append_nil,hkd]
   repeat' (first|((first|apply qwd|apply qa1|apply qa2|apply qh1|apply qg1 rfl|apply qcd);(try intro K hk);focus (simp only [lvX53B_9,mkT,go_sem,Nat.reduceEqDiff,Nat.reduceAdd,Nat.reduceLeDiff,↓reduceIte,reduceCtorEq,hb,hn,encS_eq,ex_St,List.length_nil,List.length_cons,Int.reduceEq,Int.reduceLE,Int.reduceLT,decide_true,decide_false];first|exact rfl|((repeat refine ai ?_);intros;apply hk;clear hk K)))|apply qw1|refine qwc lvX53B_9 ?_|apply qt1|apply qw5|apply qw2|apply qt4|apply qj1|apply qj4|apply qu1|(refine qj6 ?_ ?_<;>intro hc<;>(try simp only [hc])<;>(try simp only [decide_eq_true_eq,decide_eq_false_iff_not] at hc)<;>(try (exfalso;omega))))
   refine s_again ((k+1,⟨⟨1,ng,na,ns⟩,[],[],out⟩,false,false)) ?_ ?_ ?_<;>(first|omega|(dsimp only;omega)|skip)
   all_goals first|(unfold good53;exact ⟨by dsimp only;omega,hat,by simp<;>omega,by simp<;>omega⟩)|(unfold mu53;dsimp only;omega)|(simp [T53,M53,fits,fitsT,fitsM,upd_def,PV.nmb,nmbL,MB.nmb,encS_mk,kd53];done)
 · by_cases hr:raw=[]
   · subst hr
     have hat:=hst ⟨⟨1,ng,na,ns⟩,[],[],out⟩ (by simp [tkStep,rawI,prsI, *])
     simp only [T53,M53,mkS,mkT,mkM,cond_true,cond_false,List.append_nil,List.cons_append,List.nil_append,hkd]
     repeat' (first|((first|apply qwd|apply qa1|apply qa2|apply qh1|apply qg1 rfl|apply qcd);(try intro K hk);focus (simp only [lvX53B_9,mkT,go_sem,Nat.reduceEqDiff,Nat.reduceAdd,Nat.reduceLeDiff,↓reduceIte,reduceCtorEq,hb,hn,encS_eq,ex_St,List.length_nil,List.length_cons,Int.reduceEq,Int.reduceLE,decide_true,decide_false];first|exact rfl|((repeat refine ai ?_);intros;apply hk;clear hk K)))|apply qw1|refine qwc lvX53B_9 ?_|apply qt1|apply qw5|apply qw2|apply qt4|apply qj1|apply qj4|apply qu1|(refine qj6 ?_ ?_<;>intro hc<;>(try simp only [hc])<;>(try simp only [decide_eq_true_eq,decide_eq_false_iff_not] at hc)<;>(try (exfalso;omega))))
     refine s_again ((k+1,⟨⟨1,ng,na,ns⟩,[],[],out⟩,false,false)) ?_ ?_ ?_<;>(first|omega|(dsimp only;omega)|skip)
     all_goals first|(unfold good53;exact ⟨by dsimp only;omega,hat,by simp<;>omega,by simp<;>omega⟩)|(unfold mu53;dsimp only;omega)|(simp [T53,M53,fits,fitsT,fitsM,upd_def,PV.nmb,nmbL,MB.nmb,encS_mk,kd53];done)
   · have hrl:0<raw.length:=List.length_pos_iff.2 hr
     have hat:=hst ⟨⟨1,ng,na,ns⟩,[],[],out++[tkText (unT raw)]⟩ (by simp [tkStep,rawI,prsI, *])
     simp only [T53,M53,mkS,mkT,mkM,cond_true,cond_false,List.append_nil,List.cons_append,List.nil_append,hkd]
     repeat' (first|((first|apply qwd|apply qa1|apply qa2|apply qh1|apply qg1 rfl|apply qcd);(try intro K hk);focus (simp only [lvX53B_9,mkT,go_sem,Nat.reduceEqDiff,Nat.reduceAdd,Nat.reduceLeDiff,Nat.reduceLT,↓reduceIte,reduceCtorEq,hb,hn,encS_eq,ex_St,encTks_len,tok_app53n,List.length_map,List.length_nil,List.length_cons,Int.reduceEq,Int.reduceLE,decide_true,decide_false];first|exact rfl|((repeat refine ai ?_);intros;apply hk;clear hk K)))|apply qw1|refine qwc lvX53B_9 ?_|apply qt1|apply qw5|apply qw2|apply qt4|apply qj1|apply qj4|apply qu1|(refine qj6 ?_ ?_<;>intro hc<;>(try simp only [hc])<;>(try simp only [decide_eq_true_eq,decide_eq_false_iff_not] at hc)<;>(try (exfalso;omega))))
     refine s_againR ((k+1,⟨⟨1,ng,na,ns⟩,[],[],out++[tkText (unT raw)]⟩,false,false)) (fun i=>if i=0 then 7 else i) ?_ ?_ ?_ ?_ ?_ ?_<;>(first|omega|(dsimp only;omega)|(intro i hi;(try dsimp only);(repeat' split)<;>omega)|(intro i j hi hj h;(try dsimp only at h);(repeat' split at h)<;>omega)|skip)
     all_goals first|(unfold good53;exact ⟨by dsimp only;omega,hat,by simp<;>omega,by simp<;>omega⟩)|(unfold mu53;dsimp only;omega)|(simp [T53,M53,fitsTR,fitsMR,PV.ren,renL,MB.ren,upd_def,PV.nmb,nmbL,MB.nmb,encS_mk,kd53,tkText];done)
set_option maxHeartbeats 40000000 in
theorem w53_12 {s:Bs} {k:Nat} {m:Int} {tg ta:Bs} {ts:Bool} {raw:Bs} {ps:List (Bs×Bs)} {out:List TokD} {rb pb:Bool} {b:UInt8} {n:Int} {ng na:Bs} {ns:Bool} {Q:AX→AS→Prop}
 (hsl:s.length≤600) (hkl:k<s.length) (hb:s.getD k 0=b) (hn:step ⟨m,tg,ta,ts⟩ b=⟨n,ng,na,ns⟩) (hx:TkAt s k ⟨⟨m,tg,ta,ts⟩,raw,ps,out⟩)
 (hrb:cond rb (m=0∨10≤m) (raw=[])) (hpb:cond pb (3≤m∧m≤8) (ps=[])) (hm:m=1) (hn0:n=2):Round53 s (k,⟨⟨m,tg,ta,ts⟩,raw,ps,out⟩,rb,pb) Q:=by
 have hok:=hx.ok
 have hoS:okS ⟨m,tg,ta,ts⟩:=okS_of hok.v
 have hoN:=okS_of (stV_step ⟨m,tg,ta,ts⟩ b)
 rw [hn] at hoN
 have hst:=fun y=>hx.step (y:=y) hkl
 rw [hb] at hst
 have hlo:out.length≤k:=hx.lo
 have hlp:ps.length≤k:=hx.lp
 have hbr:raw.length≤k:=hx.bd.raw
 have hbp: ∀ p ∈ ps,bdP k p:=hx.bd.ps
 have hops:4≤m∧m≤8→ ∃ l v,ps=l++[(ta,v)]:=hok.ps
 have hz: ¬ (2≤m∧m≤8)→ps=[]:=hok.z
 have hles:m=14→raw≠[]:=hok.less
 clear hok hx
 have hbl:=byte_lt s k
 rw [hb] at hbl
 try dsimp only at hst
 have hkd:kd53 m=0:=kd53_out (by omega)
 subst hm hn0
 have hp0:ps=[]:=hz (by omega)
 subst hp0
 have hpb0:pb=false:=by
  cases pb
  · rfl
  · simp only [cond_true] at hpb;omega
 subst hpb0
 clear hpb
 have hrb0:rb=false:=by
  cases rb
  · rfl
  · simp only [cond_true] at hrb;omega
 subst hrb0
 have hr0:raw=[]:=hrb
 subst hr0
 clear hrb
 unfold Round53 body53
 simp only [Tryz.f9,firstLoop,Option.getD_some,G53]
 have hat:=hst ⟨⟨2,ng,na,ns⟩,[],[],out⟩ (by simp [tkStep,rawI,prsI, *])
 simp only [T53,M53,mkS,mkT,mkM,cond_false,List.append_nil,hkd]
 repeat' (first|((first|apply qwd|apply qa1|apply qa2|apply qh1|apply qg1 rfl|apply qcd);(try intro K hk);focus (simp only [lvX53B_9,mkT,go_sem,Nat.reduceEqDiff,Nat.reduceAdd,Nat.reduceLeDiff,Nat.reduceLT,↓reduceIte,reduceCtorEq,hb,hn,encS_eq,ex_St,List.length_nil,List.length_cons,Int.reduceEq,Int.reduceLE,decide_true,decide_false];first|exact rfl|((repeat refine ai ?_);intros;apply hk;clear hk K)))|apply qw1|refine qwc lvX53B_9 ?_|apply qt1|apply qw5|apply qw2|apply qt4|apply qj1|apply qj4|apply qu1|(refine qj6 ?_ ?_<;>intro hc<;>(try simp only [hc])<;>(try simp only [decide_eq_true_eq,decide_eq_false_iff_not] at hc)<;>(try (exfalso;omega))))
 refine s_again ((k+1,⟨⟨2,ng,na,ns⟩,[],[],out⟩,false,false)) ?_ ?_ ?_<;>(first|omega|(dsimp only;omega)|skip)
 all_goals first|(unfold good53;exact ⟨by dsimp only;omega,hat,by simp<;>omega,by simp<;>omega⟩)|(unfold mu53;dsimp only;omega)|(simp [T53,M53,fits,fitsT,fitsM,upd_def,PV.nmb,nmbL,MB.nmb,encS_mk,kd53];done)
set_option maxHeartbeats 40000000 in
theorem w53_1n {s:Bs} {k:Nat} {m:Int} {tg ta:Bs} {ts:Bool} {raw:Bs} {ps:List (Bs×Bs)} {out:List TokD} {rb pb:Bool} {b:UInt8} {n:Int} {ng na:Bs} {ns:Bool} {Q:AX→AS→Prop}
 (hsl:s.length≤600) (hkl:k<s.length) (hb:s.getD k 0=b) (hn:step ⟨m,tg,ta,ts⟩ b=⟨n,ng,na,ns⟩) (hx:TkAt s k ⟨⟨m,tg,ta,ts⟩,raw,ps,out⟩)
 (hrb:cond rb (m=0∨10≤m) (raw=[])) (hpb:cond pb (3≤m∧m≤8) (ps=[])) (hm:m=1) (hn0:n=9∨n=10):Round53 s (k,⟨⟨m,tg,ta,ts⟩,raw,ps,out⟩,rb,pb) Q:=by
 have hok:=hx.ok
 have hoS:okS ⟨m,tg,ta,ts⟩:=okS_of hok.v
 have hoN:=okS_of (stV_step ⟨m,tg,ta,ts⟩ b)
 rw [hn] at hoN
 have hst:=fun y=>hx.step (y:=y) hkl
 rw [hb] at hst
 have hlo:out.length≤k:=hx.lo
 have hlp:ps.length≤k:=hx.lp
 have hbr:raw.length≤k:=hx.bd.raw
 have hbp: ∀ p ∈ ps,bdP k p:=hx.bd.ps
 have hops:4≤m∧m≤8→ ∃ l v,ps=l++[(ta,v)]:=hok.ps
 have hz: ¬ (2≤m∧m≤8)→ps=[]:=hok.z
 have hles:m=14→raw≠[]:=hok.less
 clear hok hx
 have hbl:=byte_lt s k
 rw [hb] at hbl
 try dsimp only at hst
 have hkd:kd53 m=0:=kd53_out (by omega)
 subst hm
 have hp0:ps=[]:=hz (by omega)
 subst hp0
 have hpb0:pb=false:=by
  cases pb
  · rfl
  · simp only [cond_true] at hpb;omega
 subst hpb0
 clear hpb
 have hrb0:rb=false:=by
  cases rb
  · rfl
  · simp only [cond_true] at hrb;omega
 subst hrb0
 have hr0:raw=[]:=hrb
 subst hr0
 clear hrb
 have hkn:kd53 n=0:=kd53_out (by omega)
 have hn0:decide (n=0)=false:=decide_eq_false (by omega)
 have hn1:decide (n=1)=false:=decide_eq_false (by omega)
 have hn2:decide (n=2)=false:=decide_eq_false (by omega)
 have hn15:decide (n=15)=false:=decide_eq_false (by omega)
 unfold Round53 body53
 simp only [Tryz.f9,firstLoop,Option.getD_some,G53]
 have hat:=hst ⟨⟨n,ng,na,ns⟩,[],[],out⟩ (by simp only [tkStep,rawI,prsI,hn];(repeat (first|rw [if_pos (by omega)]|rw [if_neg (by omega)]));try simp [lastP_snoc,tkEnd,tkCom,tkScr])
 simp only [T53,M53,mkS,mkT,mkM,cond_false,List.append_nil,hkd]
 repeat' (first|((first|apply qwd|apply qa1|apply qa2|apply qh1|apply qg1 rfl|apply qcd);(try intro K hk);focus (simp only [lvX53B_9,mkT,go_sem,Nat.reduceEqDiff,Nat.reduceAdd,Nat.reduceLeDiff,↓reduceIte,reduceCtorEq,hb,hn,encS_eq,ex_St,List.length_nil,List.length_cons,Int.reduceEq,Int.reduceLE,decide_true,decide_false,hn2,hn15];first|exact rfl|((repeat refine ai ?_);intros;apply hk;clear hk K)))|apply qw1|refine qwc lvX53B_9 ?_|apply qt1|apply qw5|apply qw2|apply qt4|apply qj1|apply qj4|apply qu1|(refine qj6 ?_ ?_<;>intro hc<;>(try simp only [hc])<;>(try simp only [decide_eq_true_eq,decide_eq_false_iff_not] at hc)<;>(try (exfalso;omega))))
 refine s_again ((k+1,⟨⟨n,ng,na,ns⟩,[],[],out⟩,false,false)) ?_ ?_ ?_<;>(first|omega|(dsimp only;omega)|skip)
 all_goals first|(unfold good53;exact ⟨by dsimp only;omega,hat,by simp<;>omega,by simp<;>omega⟩)|(unfold mu53;dsimp only;omega)|(simp [T53,M53,fits,fitsT,fitsM,upd_def,PV.nmb,nmbL,MB.nmb,encS_mk,hkn];done)
set_option maxHeartbeats 40000000 in
theorem w53_90 {s:Bs} {k:Nat} {m:Int} {tg ta:Bs} {ts:Bool} {raw:Bs} {ps:List (Bs×Bs)} {out:List TokD} {rb pb:Bool} {b:UInt8} {n:Int} {ng na:Bs} {ns:Bool} {Q:AX→AS→Prop}
 (hsl:s.length≤600) (hkl:k<s.length) (hb:s.getD k 0=b) (hn:step ⟨m,tg,ta,ts⟩ b=⟨n,ng,na,ns⟩) (hx:TkAt s k ⟨⟨m,tg,ta,ts⟩,raw,ps,out⟩)
 (hrb:cond rb (m=0∨10≤m) (raw=[])) (hpb:cond pb (3≤m∧m≤8) (ps=[])) (hm:m=9) (hn0:n=0):Round53 s (k,⟨⟨m,tg,ta,ts⟩,raw,ps,out⟩,rb,pb) Q:=by
 have hok:=hx.ok
 have hoS:okS ⟨m,tg,ta,ts⟩:=okS_of hok.v
 have hoN:=okS_of (stV_step ⟨m,tg,ta,ts⟩ b)
 rw [hn] at hoN
 have hst:=fun y=>hx.step (y:=y) hkl
 rw [hb] at hst
 have hlo:out.length≤k:=hx.lo
 have hlp:ps.length≤k:=hx.lp
 have hbr:raw.length≤k:=hx.bd.raw
 have hbp: ∀ p ∈ ps,bdP k p:=hx.bd.ps
 have hops:4≤m∧m≤8→ ∃ l v,ps=l++[(ta,v)]:=hok.ps
 have hz: ¬ (2≤m∧m≤8)→ps=[]:=hok.z
 have hles:m=14→raw≠[]:=hok.less
 clear hok hx
 have hbl:=byte_lt s k
 rw [hb] at hbl
 try dsimp only at hst
 have hkd:kd53 m=0:=kd53_out (by omega)
 subst hm hn0
 have hp0:ps=[]:=hz (by omega)
 subst hp0
 have hpb0:pb=false:=by
  cases pb
  · rfl
  · simp only [cond_true] at hpb;omega
 subst hpb0
 clear hpb
 have hrb0:rb=false:=by
  cases rb
  · rfl
  · simp only [cond_true] at hrb;omega
 subst hrb0
 have hr0:raw=[]:=hrb
 subst hr0
 clear hrb
 unfold Round53 body53
 simp only [Tryz.f9,firstLoop,Option.getD_some,G53]
 have hat:=hst ⟨⟨0,ng,na,ns⟩,[],[],out++[tkEnd tg]⟩ (by simp [tkStep,rawI,prsI, *])
 simp only [T53,M53,mkS,mkT,mkM,cond_false,List.append_nil,hkd]
 repeat' (first|((first|apply qwd|apply qa1|apply qa2|apply qh1|apply qg1 rfl|apply qcd);(try intro K hk);focus (simp only [lvX53B_9,mkT,go_sem,Nat.reduceEqDiff,Nat.reduceAdd,Nat.reduceLeDiff,Nat.reduceLT,↓reduceIte,reduceCtorEq,hb,hn,encS_eq,ex_St,encTks_len,tok_app53n,List.length_nil,List.length_cons,Int.reduceEq,Int.reduceLE,decide_true,decide_false];first|exact rfl|((repeat refine ai ?_);intros;apply hk;clear hk K)))|apply qw1|refine qwc lvX53B_9 ?_|apply qt1|apply qw5|apply qw2|apply qt4|apply qj1|apply qj4|apply qu1|(refine qj6 ?_ ?_<;>intro hc<;>(try simp only [hc])<;>(try simp only [decide_eq_true_eq,decide_eq_false_iff_not] at hc)<;>(try (exfalso;omega))))
 refine s_againR ((k+1,⟨⟨0,ng,na,ns⟩,[],[],out++[tkEnd tg]⟩,false,false)) (fun i=>if i=0 then 7 else i) ?_ ?_ ?_ ?_ ?_ ?_<;>(first|omega|(dsimp only;omega)|(intro i hi;(try dsimp only);(repeat' split)<;>omega)|(intro i j hi hj h;(try dsimp only at h);(repeat' split at h)<;>omega)|skip)
 all_goals first|(unfold good53;exact ⟨by dsimp only;omega,hat,by simp<;>omega,by simp<;>omega⟩)|(unfold mu53;dsimp only;omega)|(simp [T53,M53,fitsTR,fitsMR,PV.ren,renL,MB.ren,upd_def,PV.nmb,nmbL,MB.nmb,encS_mk,kd53,tkEnd];done)
set_option maxHeartbeats 40000000 in
theorem w53_99 {s:Bs} {k:Nat} {m:Int} {tg ta:Bs} {ts:Bool} {raw:Bs} {ps:List (Bs×Bs)} {out:List TokD} {rb pb:Bool} {b:UInt8} {n:Int} {ng na:Bs} {ns:Bool} {Q:AX→AS→Prop}
 (hsl:s.length≤600) (hkl:k<s.length) (hb:s.getD k 0=b) (hn:step ⟨m,tg,ta,ts⟩ b=⟨n,ng,na,ns⟩) (hx:TkAt s k ⟨⟨m,tg,ta,ts⟩,raw,ps,out⟩)
 (hrb:cond rb (m=0∨10≤m) (raw=[])) (hpb:cond pb (3≤m∧m≤8) (ps=[])) (hm:m=9) (hn0:n=9):Round53 s (k,⟨⟨m,tg,ta,ts⟩,raw,ps,out⟩,rb,pb) Q:=by
 have hok:=hx.ok
 have hoS:okS ⟨m,tg,ta,ts⟩:=okS_of hok.v
 have hoN:=okS_of (stV_step ⟨m,tg,ta,ts⟩ b)
 rw [hn] at hoN
 have hst:=fun y=>hx.step (y:=y) hkl
 rw [hb] at hst
 have hlo:out.length≤k:=hx.lo
 have hlp:ps.length≤k:=hx.lp
 have hbr:raw.length≤k:=hx.bd.raw
 have hbp: ∀ p ∈ ps,bdP k p:=hx.bd.ps
 have hops:4≤m∧m≤8→ ∃ l v,ps=l++[(ta,v)]:=hok.ps
 have hz: ¬ (2≤m∧m≤8)→ps=[]:=hok.z
 have hles:m=14→raw≠[]:=hok.less
 clear hok hx
 have hbl:=byte_lt s k
 rw [hb] at hbl
 try dsimp only at hst
 have hkd:kd53 m=0:=kd53_out (by omega)
 subst hm hn0
 have hp0:ps=[]:=hz (by omega)
 subst hp0
 have hpb0:pb=false:=by
  cases pb
  · rfl
  · simp only [cond_true] at hpb;omega
 subst hpb0
 clear hpb
 have hrb0:rb=false:=by
  cases rb
  · rfl
  · simp only [cond_true] at hrb;omega
 subst hrb0
 have hr0:raw=[]:=hrb
 subst hr0
 clear hrb
 unfold Round53 body53
 simp only [Tryz.f9,firstLoop,Option.getD_some,G53]
 have hat:=hst ⟨⟨9,ng,na,ns⟩,[],[],out⟩ (by simp [tkStep,rawI,prsI, *])
 simp only [T53,M53,mkS,mkT,mkM,cond_false,List.append_nil,hkd]
 repeat' (first|((first|apply qwd|apply qa1|apply qa2|apply qh1|apply qg1 rfl|apply qcd);(try intro K hk);focus (simp only [lvX53B_9,mkT,go_sem,Nat.reduceEqDiff,Nat.reduceAdd,Nat.reduceLeDiff,↓reduceIte,reduceCtorEq,hb,hn,encS_eq,ex_St,List.length_nil,List.length_cons,Int.reduceEq,Int.reduceLE,decide_true,decide_false];first|exact rfl|((repeat refine ai ?_);intros;apply hk;clear hk K)))|apply qw1|refine qwc lvX53B_9 ?_|apply qt1|apply qw5|apply qw2|apply qt4|apply qj1|apply qj4|apply qu1|(refine qj6 ?_ ?_<;>intro hc<;>(try simp only [hc])<;>(try simp only [decide_eq_true_eq,decide_eq_false_iff_not] at hc)<;>(try (exfalso;omega))))
 refine s_again ((k+1,⟨⟨9,ng,na,ns⟩,[],[],out⟩,false,false)) ?_ ?_ ?_<;>(first|omega|(dsimp only;omega)|skip)
 all_goals first|(unfold good53;exact ⟨by dsimp only;omega,hat,by simp<;>omega,by simp<;>omega⟩)|(unfold mu53;dsimp only;omega)|(simp [T53,M53,fits,fitsT,fitsM,upd_def,PV.nmb,nmbL,MB.nmb,encS_mk,kd53];done)
end Go.Proofs.YtnbjogilidfkdaaGreat

/- Reading tokens: comments, scripts. -/
namespace Go.Proofs.YtnbjogilidfkdaaGreat
attribute [local irreducible] awp arun acalm FinP Fin AX.then AX.inBlock Again aG gsel amix amixN amixC aop aopc aopd cutK
attribute [local go_sem] aBSliceD aSlice aSliceC boundOf aMk aCall aCallC aLenL aLen aPick_t aPick_f aNil aAlloc aBox aBuild bldPV aBSlice bsPV aApp newsOf destOf drp aConvX aConv aConvInt aLoad cellsAt aStore cellsPV setAt aFld aField aIdx aIndex aUn aBin' aBin aMax aExtract pvOf PV.isCell nmbL PV.nmb List.map_cons List.map_nil List.all_cons List.all_nil Bool.and_true Bool.true_and if_true if_false List.getD_cons_zero List.getD_cons_succ List.getD_nil Option.isSome_some true_and and_true and_self eq_self true_or or_true List.drop_zero List.drop_succ_cons List.drop_nil List.take_zero List.take_succ_cons List.take_nil List.length_cons List.length_nil List.length_map Option.getD_some Option.getD_none List.nil_append List.cons_append List.append_nil Option.some.injEq exists_eq_left' List.getElem?_cons_zero List.getElem?_cons_succ Int.toNat_natCast Int.natCast_inj toNat_succ Nat.zero_add res res1 resC owns owns1 ownsC List.flatMap_cons List.flatMap_nil List.flatten_cons List.flatten_nil List.mem_cons List.not_mem_nil or_false false_or forall_eq forall_eq_or_imp isFro frz frz1 pureC tabA isBld List.cons.injEq PV.seq.injEq PV.int.injEq PV.str.injEq PV.bool.injEq PV.agg.injEq inR tab Γof aRes packR Option.map_some Option.map_none rel Prod.exists exists_and_left exists_eq_left and_assoc beq_self_eq_true Bool.not_true Bool.not_false decide_true decide_false List.set_cons_zero List.set_cons_succ rst_nil rst_cons
attribute [local go_sem ↓] evT upd_def aop aopc aopd
set_option maxRecDepth 100000
set_option linter.unusedVariables false
set_option linter.unusedSimpArgs false
open Go.RowKit
def lvX53C_9:Nat→List Nat
 | 0=>[0]
 | 1=>[0,15]
 | 2=>[2,3]
 | 3=>[0,4]
 | 4=>[0,4,5]
 | 5=>[0,4,5,6]
 | 6=>[0,4,5,6,7]
 | 7=>[0,4,5,6,7,8]
 | 8=>[0,4,5,6,7,8,23]
 | 9=>[0,4,5,6,7,8]
 | 10=>[0,4,5,6,7,8,9]
 | 11=>[0,4,5,6,7,8,9,10]
 | 12=>[0,4,5,6,7,8,9,10,32]
 | 13=>[2,3]
 | 14=>[0,4,5,6,7,8,9,10,36]
 | 15=>[0,4,5,6,7,8,9,10]
 | 16=>[0,4,5,6,7,8,9,10,49]
 | 17=>[0,4,5,6,7,8,9,10,55]
 | 18=>[0,4,5,7,8,9,10]
 | 19=>[0,4,5,6,7,8,9,10]
 | 20=>[0,4,5,6,7,8,9,10,63]
 | 21=>[0,4,5,6,7,8,9,10]
 | 22=>[0,4,5,6,7,8,9,10,73]
 | 23=>[0,4,5,6,7,8,9,10]
 | 24=>[0,4,5,6,7,8,9,10,88]
 | 25=>[0,4,5,7,8,9,10]
 | 26=>[0,4,5,6,7,8,9,10]
 | 27=>[0,4,5,6,7,8,9,10,103]
 | 28=>[0,4,5,6,7,8,9,10]
 | 29=>[0,4,5,6,7,8,9,10,111]
 | 30=>[0,4,5,6,7,8,9,10,122]
 | 31=>[0,4,5,7,8,9,10]
 | 32=>[0,4,5,6,7,8,9,10]
 | 33=>[0,4,5,6,7,8,9,10,133]
 | 34=>[0,4,5,6,7,8,9,10]
 | 35=>[0,4,5,6,7,8,9,10,148]
 | 36=>[0,4,5,6,7,8,9,10,11]
 | 37=>[0,4,5,6,7,8,9,10,11,153]
 | 38=>[0,4,5,6,7,8,10]
 | 39=>[0,4,5,6,7,8,9,10,11,170]
 | 40=>[0,4,5,6,7,8,10]
 | 41=>[0,4,5,6,7,8,9,10,11,181]
 | 42=>[0,4,5,6,7,8,10]
 | 43=>[0,4,5,6,7,8,10,214]
 | 44=>[0,4,5,6,7,8,10]
 | 45=>[0,4,5,6,7,8,10,228,229]
 | 46=>[0,4,5,6,7,8,10,228,229,230]
 | 47=>[0,4,5,6,7,8,10,12,228,229]
 | 48=>[0,4,5,6,7,8,10,228,229]
 | 49=>[0,4,5,6,7,8,10,228,229]
 | 50=>[0,4,5,6,7,8,10,248]
 | 51=>[2,3]
 | 52=>[0,4,5,6,7,8,10]
 | 53=>[0,4,5,6,7,8,10]
 | 54=>[0,4,5,6,7,8]
 | 55=>[4,6,257]
 | 56=>[2,3]
 | 57=>[4,6,260]
 | 58=>[4]
 | 59=>[4,270]
 | 60=>[2,3]
 | 61=>[2,3]
 | _=>[]
--LV=X53C
set_option maxHeartbeats 40000000 in
theorem w53_100 {s:Bs} {k:Nat} {m:Int} {tg ta:Bs} {ts:Bool} {raw:Bs} {ps:List (Bs×Bs)} {out:List TokD} {rb pb:Bool} {b:UInt8} {n:Int} {ng na:Bs} {ns:Bool} {Q:AX→AS→Prop}
 (hsl:s.length≤600) (hkl:k<s.length) (hb:s.getD k 0=b) (hn:step ⟨m,tg,ta,ts⟩ b=⟨n,ng,na,ns⟩) (hx:TkAt s k ⟨⟨m,tg,ta,ts⟩,raw,ps,out⟩)
 (hrb:cond rb (m=0∨10≤m) (raw=[])) (hpb:cond pb (3≤m∧m≤8) (ps=[])) (hm:m=10) (hn0:n=0):Round53 s (k,⟨⟨m,tg,ta,ts⟩,raw,ps,out⟩,rb,pb) Q:=by
 have hok:=hx.ok
 have hoS:okS ⟨m,tg,ta,ts⟩:=okS_of hok.v
 have hoN:=okS_of (stV_step ⟨m,tg,ta,ts⟩ b)
 rw [hn] at hoN
 have hst:=fun y=>hx.step (y:=y) hkl
 rw [hb] at hst
 have hlo:out.length≤k:=hx.lo
 have hlp:ps.length≤k:=hx.lp
 have hbr:raw.length≤k:=hx.bd.raw
 have hbp: ∀ p ∈ ps,bdP k p:=hx.bd.ps
 have hops:4≤m∧m≤8→ ∃ l v,ps=l++[(ta,v)]:=hok.ps
 have hz: ¬ (2≤m∧m≤8)→ps=[]:=hok.z
 have hles:m=14→raw≠[]:=hok.less
 clear hok hx
 have hbl:=byte_lt s k
 rw [hb] at hbl
 try dsimp only at hst
 have hkd:kd53 m=0:=kd53_out (by omega)
 subst hm hn0
 have hp0:ps=[]:=hz (by omega)
 subst hp0
 have hpb0:pb=false:=by
  cases pb
  · rfl
  · simp only [cond_true] at hpb;omega
 subst hpb0
 clear hpb
 unfold Round53 body53
 simp only [Tryz.f9,firstLoop,Option.getD_some,G53]
 cases rb
 · have hr0:raw=[]:=hrb
   subst hr0
   have hat:=hst ⟨⟨0,ng,na,ns⟩,[],[],out++[tkCom []]⟩ (by simp [tkStep,rawI,prsI, *])
   simp only [T53,M53,mkS,mkT,mkM,cond_false,List.append_nil,hkd]
   repeat' (first|((first|apply qwd|apply qa1|apply qa2|apply qh1|apply qg1 rfl|apply qcd);(try intro K hk);focus (simp only [lvX53C_9,mkT,go_sem,Nat.reduceEqDiff,Nat.reduceAdd,Nat.reduceLeDiff,Nat.reduceLT,↓reduceIte,reduceCtorEq,hb,hn,encS_eq,ex_St,encTks_len,tok_app53n,List.length_nil,List.length_cons,Int.reduceEq,Int.reduceLE,decide_true,decide_false];first|exact rfl|((repeat refine ai ?_);intros;apply hk;clear hk K)))|apply qw1|refine qwc lvX53C_9 ?_|apply qt1|apply qw5|apply qw2|apply qt4|apply qj1|apply qj4|apply qu1|(refine qj6 ?_ ?_<;>intro hc<;>(try simp only [hc])<;>(try simp only [decide_eq_true_eq,decide_eq_false_iff_not] at hc)<;>(try (exfalso;omega))))
   refine s_againR ((k+1,⟨⟨0,ng,na,ns⟩,[],[],out++[tkCom []]⟩,false,false)) (fun i=>if i=0 then 7 else i) ?_ ?_ ?_ ?_ ?_ ?_<;>(first|omega|(dsimp only;omega)|(intro i hi;(try dsimp only);(repeat' split)<;>omega)|(intro i j hi hj h;(try dsimp only at h);(repeat' split at h)<;>omega)|skip)
   all_goals first|(unfold good53;exact ⟨by dsimp only;omega,hat,by simp<;>omega,by simp<;>omega⟩)|(unfold mu53;dsimp only;omega)|(simp [T53,M53,fitsTR,fitsMR,PV.ren,renL,MB.ren,upd_def,PV.nmb,nmbL,MB.nmb,encS_mk,kd53,tkCom];done)
 · have hat:=hst ⟨⟨0,ng,na,ns⟩,[],[],out++[tkCom raw]⟩ (by simp [tkStep,rawI,prsI, *])
   simp only [T53,M53,mkS,mkT,mkM,cond_true,cond_false,List.append_nil,List.cons_append,List.nil_append,hkd]
   repeat' (first|((first|apply qwd|apply qa1|apply qa2|apply qh1|apply qg1 rfl|apply qcd);(try intro K hk);focus (simp only [lvX53C_9,mkT,go_sem,Nat.reduceEqDiff,Nat.reduceAdd,Nat.reduceLeDiff,Nat.reduceLT,↓reduceIte,reduceCtorEq,hb,hn,encS_eq,ex_St,encTks_len,tok_app53n,List.length_nil,List.length_cons,Int.reduceEq,Int.reduceLE,decide_true,decide_false];first|exact rfl|((repeat refine ai ?_);intros;apply hk;clear hk K)))|apply qw1|refine qwc lvX53C_9 ?_|apply qt1|apply qw5|apply qw2|apply qt4|apply qj1|apply qj4|apply qu1|(refine qj6 ?_ ?_<;>intro hc<;>(try simp only [hc])<;>(try simp only [decide_eq_true_eq,decide_eq_false_iff_not] at hc)<;>(try (exfalso;omega))))
   refine s_againR ((k+1,⟨⟨0,ng,na,ns⟩,[],[],out++[tkCom raw]⟩,false,false)) (fun i=>if i=0 then 7 else i) ?_ ?_ ?_ ?_ ?_ ?_<;>(first|omega|(dsimp only;omega)|(intro i hi;(try dsimp only);(repeat' split)<;>omega)|(intro i j hi hj h;(try dsimp only at h);(repeat' split at h)<;>omega)|skip)
   all_goals first|(unfold good53;exact ⟨by dsimp only;omega,hat,by simp<;>omega,by simp<;>omega⟩)|(unfold mu53;dsimp only;omega)|(simp [T53,M53,fitsTR,fitsMR,PV.ren,renL,MB.ren,upd_def,PV.nmb,nmbL,MB.nmb,encS_mk,kd53,tkCom];done)
set_option maxHeartbeats 40000000 in
theorem w53_1010 {s:Bs} {k:Nat} {m:Int} {tg ta:Bs} {ts:Bool} {raw:Bs} {ps:List (Bs×Bs)} {out:List TokD} {rb pb:Bool} {b:UInt8} {n:Int} {ng na:Bs} {ns:Bool} {Q:AX→AS→Prop}
 (hsl:s.length≤600) (hkl:k<s.length) (hb:s.getD k 0=b) (hn:step ⟨m,tg,ta,ts⟩ b=⟨n,ng,na,ns⟩) (hx:TkAt s k ⟨⟨m,tg,ta,ts⟩,raw,ps,out⟩)
 (hrb:cond rb (m=0∨10≤m) (raw=[])) (hpb:cond pb (3≤m∧m≤8) (ps=[])) (hm:m=10) (hn0:n=10):Round53 s (k,⟨⟨m,tg,ta,ts⟩,raw,ps,out⟩,rb,pb) Q:=by
 have hok:=hx.ok
 have hoS:okS ⟨m,tg,ta,ts⟩:=okS_of hok.v
 have hoN:=okS_of (stV_step ⟨m,tg,ta,ts⟩ b)
 rw [hn] at hoN
 have hst:=fun y=>hx.step (y:=y) hkl
 rw [hb] at hst
 have hlo:out.length≤k:=hx.lo
 have hlp:ps.length≤k:=hx.lp
 have hbr:raw.length≤k:=hx.bd.raw
 have hbp: ∀ p ∈ ps,bdP k p:=hx.bd.ps
 have hops:4≤m∧m≤8→ ∃ l v,ps=l++[(ta,v)]:=hok.ps
 have hz: ¬ (2≤m∧m≤8)→ps=[]:=hok.z
 have hles:m=14→raw≠[]:=hok.less
 clear hok hx
 have hbl:=byte_lt s k
 rw [hb] at hbl
 try dsimp only at hst
 have hkd:kd53 m=0:=kd53_out (by omega)
 subst hm hn0
 have hp0:ps=[]:=hz (by omega)
 subst hp0
 have hpb0:pb=false:=by
  cases pb
  · rfl
  · simp only [cond_true] at hpb;omega
 subst hpb0
 clear hpb
 unfold Round53 body53
 simp only [Tryz.f9,firstLoop,Option.getD_some,G53]
 cases rb
 · have hr0:raw=[]:=hrb
   subst hr0
   have hat:=hst ⟨⟨10,ng,na,ns⟩,[b],[],out⟩ (by simp [tkStep,rawI,prsI, *])
   simp only [T53,M53,mkS,mkT,mkM,cond_false,List.append_nil,hkd]
   repeat' (first|((first|apply qwd|apply qa1|apply qa2|apply qh1|apply qg1 rfl|apply qcd);(try intro K hk);focus (simp only [lvX53C_9,mkT,go_sem,Nat.reduceEqDiff,Nat.reduceAdd,Nat.reduceLeDiff,↓reduceIte,reduceCtorEq,hb,hn,encS_eq,ex_St,List.length_nil,List.length_cons,Int.reduceEq,Int.reduceLE,decide_true,decide_false];first|exact rfl|((repeat refine ai ?_);intros;apply hk;clear hk K)))|apply qw1|refine qwc lvX53C_9 ?_|apply qt1|apply qw5|apply qw2|apply qt4|apply qj1|apply qj4|apply qu1|(refine qj6 ?_ ?_<;>intro hc<;>(try simp only [hc])<;>(try simp only [decide_eq_true_eq,decide_eq_false_iff_not] at hc)<;>(try (exfalso;omega))))
   refine s_againR ((k+1,⟨⟨10,ng,na,ns⟩,[b],[],out⟩,true,false)) (fun i=>if i=2 then 7 else i) ?_ ?_ ?_ ?_ ?_ ?_<;>(first|omega|(dsimp only;omega)|(intro i hi;(try dsimp only);(repeat' split)<;>omega)|(intro i j hi hj h;(try dsimp only at h);(repeat' split at h)<;>omega)|skip)
   all_goals first|(unfold good53;exact ⟨by dsimp only;omega,hat,by simp<;>omega,by simp<;>omega⟩)|(unfold mu53;dsimp only;omega)|(simp [T53,M53,fitsTR,fitsMR,PV.ren,renL,MB.ren,upd_def,PV.nmb,nmbL,MB.nmb,encS_mk,kd53,bc];done)
 · have hat:=hst ⟨⟨10,ng,na,ns⟩,raw++[b],[],out⟩ (by simp [tkStep,rawI,prsI, *])
   simp only [T53,M53,mkS,mkT,mkM,cond_true,cond_false,List.append_nil,List.cons_append,List.nil_append,hkd]
   repeat' (first|((first|apply qwd|apply qa1|apply qa2|apply qh1|apply qg1 rfl|apply qcd);(try intro K hk);focus (simp only [lvX53C_9,mkT,go_sem,Nat.reduceEqDiff,Nat.reduceAdd,Nat.reduceLeDiff,↓reduceIte,reduceCtorEq,hb,hn,encS_eq,ex_St,bytes_app53,List.length_map,List.length_nil,List.length_cons,Int.reduceEq,Int.reduceLE,decide_true,decide_false];first|exact rfl|((repeat refine ai ?_);intros;apply hk;clear hk K)))|apply qw1|refine qwc lvX53C_9 ?_|apply qt1|apply qw5|apply qw2|apply qt4|apply qj1|apply qj4|apply qu1|(refine qj6 ?_ ?_<;>intro hc<;>(try simp only [hc])<;>(try simp only [decide_eq_true_eq,decide_eq_false_iff_not] at hc)<;>(try (exfalso;omega))))
   refine s_againR ((k+1,⟨⟨10,ng,na,ns⟩,raw++[b],[],out⟩,true,false)) (fun i=>if i=2 then 7 else i) ?_ ?_ ?_ ?_ ?_ ?_<;>(first|omega|(dsimp only;omega)|(intro i hi;(try dsimp only);(repeat' split)<;>omega)|(intro i j hi hj h;(try dsimp only at h);(repeat' split at h)<;>omega)|skip)
   all_goals first|(unfold good53;exact ⟨by dsimp only;omega,hat,by simp<;>omega,by simp<;>omega⟩)|(unfold mu53;dsimp only;omega)|(simp [T53,M53,fitsTR,fitsMR,PV.ren,renL,MB.ren,upd_def,PV.nmb,nmbL,MB.nmb,encS_mk,kd53,bc];done)
set_option maxHeartbeats 40000000 in
theorem w53_11n {s:Bs} {k:Nat} {m:Int} {tg ta:Bs} {ts:Bool} {raw:Bs} {ps:List (Bs×Bs)} {out:List TokD} {rb pb:Bool} {b:UInt8} {n:Int} {ng na:Bs} {ns:Bool} {Q:AX→AS→Prop}
 (hsl:s.length≤600) (hkl:k<s.length) (hb:s.getD k 0=b) (hn:step ⟨m,tg,ta,ts⟩ b=⟨n,ng,na,ns⟩) (hx:TkAt s k ⟨⟨m,tg,ta,ts⟩,raw,ps,out⟩)
 (hrb:cond rb (m=0∨10≤m) (raw=[])) (hpb:cond pb (3≤m∧m≤8) (ps=[])) (hm:m=11∨m=12∨m=13) (hn0:11≤n∧n≤14):Round53 s (k,⟨⟨m,tg,ta,ts⟩,raw,ps,out⟩,rb,pb) Q:=by
 have hok:=hx.ok
 have hoS:okS ⟨m,tg,ta,ts⟩:=okS_of hok.v
 have hoN:=okS_of (stV_step ⟨m,tg,ta,ts⟩ b)
 rw [hn] at hoN
 have hst:=fun y=>hx.step (y:=y) hkl
 rw [hb] at hst
 have hlo:out.length≤k:=hx.lo
 have hlp:ps.length≤k:=hx.lp
 have hbr:raw.length≤k:=hx.bd.raw
 have hbp: ∀ p ∈ ps,bdP k p:=hx.bd.ps
 have hops:4≤m∧m≤8→ ∃ l v,ps=l++[(ta,v)]:=hok.ps
 have hz: ¬ (2≤m∧m≤8)→ps=[]:=hok.z
 have hles:m=14→raw≠[]:=hok.less
 clear hok hx
 have hbl:=byte_lt s k
 rw [hb] at hbl
 try dsimp only at hst
 have hkd:kd53 m=0:=kd53_out (by omega)
 have hkn:kd53 n=0:=kd53_out (by omega)
 have hp0:ps=[]:=hz (by omega)
 subst hp0
 have hpb0:pb=false:=by
  cases pb
  · rfl
  · simp only [cond_true] at hpb;omega
 subst hpb0
 clear hpb
 have hm0:decide (m=0)=false:=decide_eq_false (by omega)
 have hm1:decide (m=1)=false:=decide_eq_false (by omega)
 have hm9:decide (m=9)=false:=decide_eq_false (by omega)
 have hm10:decide (m=10)=false:=decide_eq_false (by omega)
 have hm14:decide (m=14)=false:=decide_eq_false (by omega)
 have hn15:decide (n=15)=false:=decide_eq_false (by omega)
 unfold Round53 body53
 simp only [Tryz.f9,firstLoop,Option.getD_some,G53]
 cases rb
 · have hr0:raw=[]:=hrb
   subst hr0
   have hat:=hst ⟨⟨n,ng,na,ns⟩,[b],[],out⟩ (by simp only [tkStep,rawI,prsI,hn];(repeat (first|rw [if_pos (by omega)]|rw [if_neg (by omega)]));try simp)
   simp only [T53,M53,mkS,mkT,mkM,cond_false,List.append_nil,hkd]
   repeat' (first|((first|apply qwd|apply qa1|apply qa2|apply qh1|apply qg1 rfl|apply qcd);(try intro K hk);focus (simp only [lvX53C_9,mkT,go_sem,Nat.reduceEqDiff,Nat.reduceAdd,Nat.reduceLeDiff,↓reduceIte,reduceCtorEq,hb,hn,encS_eq,ex_St,List.length_nil,List.length_cons,hm0,hm1,hm9,hm10,hm14,hn15];first|exact rfl|((repeat refine ai ?_);intros;apply hk;clear hk K)))|apply qw1|refine qwc lvX53C_9 ?_|apply qt1|apply qw5|apply qw2|apply qt4|apply qj1|apply qj4|apply qu1|(refine qj6 ?_ ?_<;>intro hc<;>(try simp only [hc])<;>(try simp only [decide_eq_true_eq,decide_eq_false_iff_not] at hc)<;>(try (exfalso;omega))))
   refine s_againR ((k+1,⟨⟨n,ng,na,ns⟩,[b],[],out⟩,true,false)) (fun i=>if i=2 then 7 else i) ?_ ?_ ?_ ?_ ?_ ?_<;>(first|omega|(dsimp only;omega)|(intro i hi;(try dsimp only);(repeat' split)<;>omega)|(intro i j hi hj h;(try dsimp only at h);(repeat' split at h)<;>omega)|skip)
   all_goals first|(unfold good53;exact ⟨by dsimp only;omega,hat,by simp<;>omega,by simp<;>omega⟩)|(unfold mu53;dsimp only;omega)|(simp [T53,M53,fitsTR,fitsMR,PV.ren,renL,MB.ren,upd_def,PV.nmb,nmbL,MB.nmb,encS_mk,hkn,bc];done)
 · have hat:=hst ⟨⟨n,ng,na,ns⟩,raw++[b],[],out⟩ (by simp only [tkStep,rawI,prsI,hn];(repeat (first|rw [if_pos (by omega)]|rw [if_neg (by omega)]));try simp [lastP_snoc,tkEnd,tkCom,tkScr])
   simp only [T53,M53,mkS,mkT,mkM,cond_true,cond_false,List.append_nil,List.cons_append,List.nil_append,hkd]
   repeat' (first|((first|apply qwd|apply qa1|apply qa2|apply qh1|apply qg1 rfl|apply qcd);(try intro K hk);focus (simp only [lvX53C_9,mkT,go_sem,Nat.reduceEqDiff,Nat.reduceAdd,Nat.reduceLeDiff,↓reduceIte,reduceCtorEq,hb,hn,encS_eq,ex_St,bytes_app53,List.length_map,List.length_nil,List.length_cons,hm0,hm1,hm9,hm10,hm14,hn15];first|exact rfl|((repeat refine ai ?_);intros;apply hk;clear hk K)))|apply qw1|refine qwc lvX53C_9 ?_|apply qt1|apply qw5|apply qw2|apply qt4|apply qj1|apply qj4|apply qu1|(refine qj6 ?_ ?_<;>intro hc<;>(try simp only [hc])<;>(try simp only [decide_eq_true_eq,decide_eq_false_iff_not] at hc)<;>(try (exfalso;omega))))
   refine s_againR ((k+1,⟨⟨n,ng,na,ns⟩,raw++[b],[],out⟩,true,false)) (fun i=>if i=2 then 7 else i) ?_ ?_ ?_ ?_ ?_ ?_<;>(first|omega|(dsimp only;omega)|(intro i hi;(try dsimp only);(repeat' split)<;>omega)|(intro i j hi hj h;(try dsimp only at h);(repeat' split at h)<;>omega)|skip)
   all_goals first|(unfold good53;exact ⟨by dsimp only;omega,hat,by simp<;>omega,by simp<;>omega⟩)|(unfold mu53;dsimp only;omega)|(simp [T53,M53,fitsTR,fitsMR,PV.ren,renL,MB.ren,upd_def,PV.nmb,nmbL,MB.nmb,encS_mk,hkn,bc];done)
set_option maxHeartbeats 40000000 in
theorem w53_149 {s:Bs} {k:Nat} {m:Int} {tg ta:Bs} {ts:Bool} {raw:Bs} {ps:List (Bs×Bs)} {out:List TokD} {rb pb:Bool} {b:UInt8} {n:Int} {ng na:Bs} {ns:Bool} {Q:AX→AS→Prop}
 (hsl:s.length≤600) (hkl:k<s.length) (hb:s.getD k 0=b) (hn:step ⟨m,tg,ta,ts⟩ b=⟨n,ng,na,ns⟩) (hx:TkAt s k ⟨⟨m,tg,ta,ts⟩,raw,ps,out⟩)
 (hrb:cond rb (m=0∨10≤m) (raw=[])) (hpb:cond pb (3≤m∧m≤8) (ps=[])) (hm:m=14) (hn0:n=9):Round53 s (k,⟨⟨m,tg,ta,ts⟩,raw,ps,out⟩,rb,pb) Q:=by
 have hok:=hx.ok
 have hoS:okS ⟨m,tg,ta,ts⟩:=okS_of hok.v
 have hoN:=okS_of (stV_step ⟨m,tg,ta,ts⟩ b)
 rw [hn] at hoN
 have hst:=fun y=>hx.step (y:=y) hkl
 rw [hb] at hst
 have hlo:out.length≤k:=hx.lo
 have hlp:ps.length≤k:=hx.lp
 have hbr:raw.length≤k:=hx.bd.raw
 have hbp: ∀ p ∈ ps,bdP k p:=hx.bd.ps
 have hops:4≤m∧m≤8→ ∃ l v,ps=l++[(ta,v)]:=hok.ps
 have hz: ¬ (2≤m∧m≤8)→ps=[]:=hok.z
 have hles:m=14→raw≠[]:=hok.less
 clear hok hx
 have hbl:=byte_lt s k
 rw [hb] at hbl
 try dsimp only at hst
 have hkd:kd53 m=0:=kd53_out (by omega)
 subst hm hn0
 have hp0:ps=[]:=hz (by omega)
 subst hp0
 have hpb0:pb=false:=by
  cases pb
  · rfl
  · simp only [cond_true] at hpb;omega
 subst hpb0
 clear hpb
 have hr0:raw≠[]:=hles rfl
 have hrb0:rb=true:=by
  cases rb
  · exact absurd hrb hr0
  · rfl
 subst hrb0
 have hrl:0<raw.length:=List.length_pos_iff.2 hr0
 unfold Round53 body53
 simp only [Tryz.f9,firstLoop,Option.getD_some,G53]
 by_cases h1:1<raw.length
 · have hd1:((raw.length:Int) - 1).toNat=raw.length - 1:=by omega
   have hdl:raw.dropLast=raw.take (raw.length - 1):=List.dropLast_eq_take
   have hat:=hst ⟨⟨9,ng,na,ns⟩,[],[],out++[tkScr raw.dropLast]⟩ (by simp [tkStep,rawI,prsI, *])
   simp only [T53,M53,mkS,mkT,mkM,cond_true,cond_false,List.append_nil,List.cons_append,List.nil_append,hkd]
   repeat' (first|((first|apply qwd|apply qa1|apply qa2|apply qh1|apply qg1 rfl|apply qcd);(try intro K hk);focus (simp only [lvX53C_9,mkT,go_sem,Nat.reduceEqDiff,Nat.reduceAdd,Nat.reduceLeDiff,Nat.reduceLT,↓reduceIte,reduceCtorEq,hb,hn,encS_eq,ex_St,encTks_len,tok_app53n,List.length_map,List.length_nil,List.length_cons,Int.reduceEq,Int.reduceLE,decide_true,decide_false,hd1,← List.map_take];first|exact rfl|((repeat refine ai ?_);intros;apply hk;clear hk K)))|apply qw1|refine qwc lvX53C_9 ?_|apply qt1|apply qw5|apply qw2|apply qt4|apply qj1|apply qj4|apply qu1|(refine qj6 ?_ ?_<;>intro hc<;>(try simp only [hc])<;>(try simp only [decide_eq_true_eq,decide_eq_false_iff_not] at hc)<;>(try (exfalso;omega))))
   first
    | (refine s_againR ((k+1,⟨⟨9,ng,na,ns⟩,[],[],out++[tkScr raw.dropLast]⟩,false,false)) (fun i=>if i=0 then 7 else i) ?_ ?_ ?_ ?_ ?_ ?_<;>(first|omega|(dsimp only;omega)|(intro i hi;(try dsimp only);(repeat' split)<;>omega)|(intro i j hi hj h;(try dsimp only at h);(repeat' split at h)<;>omega)|skip)
       all_goals first|(unfold good53;exact ⟨by dsimp only;omega,hat,by simp<;>omega,by simp<;>omega⟩)|(unfold mu53;dsimp only;omega)|(simp [T53,fitsTR,PV.ren,upd_def,PV.nmb];done))
    | (refine s_againR ((k+1,⟨⟨9,ng,na,ns⟩,[],[],out++[tkScr raw.dropLast]⟩,false,false)) (fun i=>if i=0 then 8 else i) ?_ ?_ ?_ ?_ ?_ ?_<;>(first|omega|(dsimp only;omega)|(intro i hi;(try dsimp only);(repeat' split)<;>omega)|(intro i j hi hj h;(try dsimp only at h);(repeat' split at h)<;>omega)|skip)
       all_goals first|(unfold good53;exact ⟨by dsimp only;omega,hat,by simp<;>omega,by simp<;>omega⟩)|(unfold mu53;dsimp only;omega)|(simp [T53,M53,fitsTR,fitsMR,PV.ren,renL,MB.ren,upd_def,PV.nmb,nmbL,MB.nmb,encS_mk,kd53,tkScr,hdl];done))
    | (refine s_againR ((k+1,⟨⟨9,ng,na,ns⟩,[],[],out++[tkScr raw.dropLast]⟩,false,false)) (fun i=>if i=0 then 9 else i) ?_ ?_ ?_ ?_ ?_ ?_<;>(first|omega|(dsimp only;omega)|(intro i hi;(try dsimp only);(repeat' split)<;>omega)|(intro i j hi hj h;(try dsimp only at h);(repeat' split at h)<;>omega)|skip)
       all_goals first|(unfold good53;exact ⟨by dsimp only;omega,hat,by simp<;>omega,by simp<;>omega⟩)|(unfold mu53;dsimp only;omega)|(simp [T53,M53,fitsTR,fitsMR,PV.ren,renL,MB.ren,upd_def,PV.nmb,nmbL,MB.nmb,List.getD_cons_zero,List.getD_cons_succ,frz,drp,encS_mk,kd53,bc,tkText,tkEnd,tkCom,tkScr,tkOpen,hd1,hdl,← List.map_take];done))
 · have hat:=hst ⟨⟨9,ng,na,ns⟩,[],[],out⟩ (by simp [tkStep,rawI,prsI, *])
   simp only [T53,M53,mkS,mkT,mkM,cond_true,cond_false,List.append_nil,List.cons_append,List.nil_append,hkd]
   repeat' (first|((first|apply qwd|apply qa1|apply qa2|apply qh1|apply qg1 rfl|apply qcd);(try intro K hk);focus (simp only [lvX53C_9,mkT,go_sem,Nat.reduceEqDiff,Nat.reduceAdd,Nat.reduceLeDiff,↓reduceIte,reduceCtorEq,hb,hn,encS_eq,ex_St,List.length_map,List.length_nil,List.length_cons,Int.reduceEq,Int.reduceLE,decide_true,decide_false];first|exact rfl|((repeat refine ai ?_);intros;apply hk;clear hk K)))|apply qw1|refine qwc lvX53C_9 ?_|apply qt1|apply qw5|apply qw2|apply qt4|apply qj1|apply qj4|apply qu1|(refine qj6 ?_ ?_<;>intro hc<;>(try simp only [hc])<;>(try simp only [decide_eq_true_eq,decide_eq_false_iff_not] at hc)<;>(try (exfalso;omega))))
   refine s_again ((k+1,⟨⟨9,ng,na,ns⟩,[],[],out⟩,false,false)) ?_ ?_ ?_<;>(first|omega|(dsimp only;omega)|skip)
   all_goals first|(unfold good53;exact ⟨by dsimp only;omega,hat,by simp<;>omega,by simp<;>omega⟩)|(unfold mu53;dsimp only;omega)|(simp [T53,M53,fits,fitsT,fitsM,upd_def,PV.nmb,nmbL,MB.nmb,encS_mk,kd53];done)
set_option maxHeartbeats 40000000 in
theorem w53_14n {s:Bs} {k:Nat} {m:Int} {tg ta:Bs} {ts:Bool} {raw:Bs} {ps:List (Bs×Bs)} {out:List TokD} {rb pb:Bool} {b:UInt8} {n:Int} {ng na:Bs} {ns:Bool} {Q:AX→AS→Prop}
 (hsl:s.length≤600) (hkl:k<s.length) (hb:s.getD k 0=b) (hn:step ⟨m,tg,ta,ts⟩ b=⟨n,ng,na,ns⟩) (hx:TkAt s k ⟨⟨m,tg,ta,ts⟩,raw,ps,out⟩)
 (hrb:cond rb (m=0∨10≤m) (raw=[])) (hpb:cond pb (3≤m∧m≤8) (ps=[])) (hm:m=14) (hn0:11≤n∧n≤14):Round53 s (k,⟨⟨m,tg,ta,ts⟩,raw,ps,out⟩,rb,pb) Q:=by
 have hok:=hx.ok
 have hoS:okS ⟨m,tg,ta,ts⟩:=okS_of hok.v
 have hoN:=okS_of (stV_step ⟨m,tg,ta,ts⟩ b)
 rw [hn] at hoN
 have hst:=fun y=>hx.step (y:=y) hkl
 rw [hb] at hst
 have hlo:out.length≤k:=hx.lo
 have hlp:ps.length≤k:=hx.lp
 have hbr:raw.length≤k:=hx.bd.raw
 have hbp: ∀ p ∈ ps,bdP k p:=hx.bd.ps
 have hops:4≤m∧m≤8→ ∃ l v,ps=l++[(ta,v)]:=hok.ps
 have hz: ¬ (2≤m∧m≤8)→ps=[]:=hok.z
 have hles:m=14→raw≠[]:=hok.less
 clear hok hx
 have hbl:=byte_lt s k
 rw [hb] at hbl
 try dsimp only at hst
 have hkd:kd53 m=0:=kd53_out (by omega)
 subst hm
 have hkn:kd53 n=0:=kd53_out (by omega)
 have hp0:ps=[]:=hz (by omega)
 subst hp0
 have hpb0:pb=false:=by
  cases pb
  · rfl
  · simp only [cond_true] at hpb;omega
 subst hpb0
 clear hpb
 have hr0:raw≠[]:=hles rfl
 have hrb0:rb=true:=by
  cases rb
  · exact absurd hrb hr0
  · rfl
 subst hrb0
 have hrl:0<raw.length:=List.length_pos_iff.2 hr0
 have hn9:decide (n=9)=false:=decide_eq_false (by omega)
 have hn15:decide (n=15)=false:=decide_eq_false (by omega)
 unfold Round53 body53
 simp only [Tryz.f9,firstLoop,Option.getD_some,G53]
 have hat:=hst ⟨⟨n,ng,na,ns⟩,raw++[b],[],out⟩ (by simp only [tkStep,rawI,prsI,hn];(repeat (first|rw [if_pos (by omega)]|rw [if_neg (by omega)]));try simp [lastP_snoc,tkEnd,tkCom,tkScr])
 simp only [T53,M53,mkS,mkT,mkM,cond_true,cond_false,List.append_nil,List.cons_append,List.nil_append,hkd]
 repeat' (first|((first|apply qwd|apply qa1|apply qa2|apply qh1|apply qg1 rfl|apply qcd);(try intro K hk);focus (simp only [lvX53C_9,mkT,go_sem,Nat.reduceEqDiff,Nat.reduceAdd,Nat.reduceLeDiff,↓reduceIte,reduceCtorEq,hb,hn,encS_eq,ex_St,bytes_app53,List.length_map,List.length_nil,List.length_cons,Int.reduceEq,Int.reduceLE,decide_true,decide_false,hn9,hn15];first|exact rfl|((repeat refine ai ?_);intros;apply hk;clear hk K)))|apply qw1|refine qwc lvX53C_9 ?_|apply qt1|apply qw5|apply qw2|apply qt4|apply qj1|apply qj4|apply qu1|(refine qj6 ?_ ?_<;>intro hc<;>(try simp only [hc])<;>(try simp only [decide_eq_true_eq,decide_eq_false_iff_not] at hc)<;>(try (exfalso;omega))))
 refine s_againR ((k+1,⟨⟨n,ng,na,ns⟩,raw++[b],[],out⟩,true,false)) (fun i=>if i=2 then 7 else i) ?_ ?_ ?_ ?_ ?_ ?_<;>(first|omega|(dsimp only;omega)|(intro i hi;(try dsimp only);(repeat' split)<;>omega)|(intro i j hi hj h;(try dsimp only at h);(repeat' split at h)<;>omega)|skip)
 all_goals first|(unfold good53;exact ⟨by dsimp only;omega,hat,by simp<;>omega,by simp<;>omega⟩)|(unfold mu53;dsimp only;omega)|(simp [T53,M53,fitsTR,fitsMR,PV.ren,renL,MB.ren,upd_def,PV.nmb,nmbL,MB.nmb,encS_mk,hkn,bc];done)
end Go.Proofs.YtnbjogilidfkdaaGreat
