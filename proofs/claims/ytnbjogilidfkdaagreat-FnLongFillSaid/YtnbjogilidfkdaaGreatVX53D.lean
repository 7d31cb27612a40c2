/- Reading tokens: names of tags. -/
import Derived.Test.YtnbjogilidfkdaaGreatVX53A

namespace Go.Proofs.YtnbjogilidfkdaaGreat
attribute [local irreducible] awp arun acalm FinP Fin AX.then AX.inBlock Again aG gsel amix amixN amixC aop aopc aopd cutK
attribute [local go_sem] aBSliceD aSlice aSliceC boundOf aMk aCall aCallC aLenL aLen aPick_t aPick_f aNil aAlloc aBox aBuild bldPV aBSlice bsPV aApp newsOf destOf drp aConvX aConv aConvInt aLoad cellsAt aStore cellsPV setAt aFld aField aIdx aIndex aUn aBin' aBin aMax aExtract pvOf PV.isCell nmbL PV.nmb List.map_cons List.map_nil List.all_cons List.all_nil Bool.and_true Bool.true_and if_true if_false List.getD_cons_zero List.getD_cons_succ List.getD_nil Option.isSome_some true_and and_true and_self eq_self true_or or_true List.drop_zero List.drop_succ_cons List.drop_nil List.take_zero List.take_succ_cons List.take_nil List.length_cons List.length_nil List.length_map Option.getD_some Option.getD_none List.nil_append List.cons_append List.append_nil Option.some.injEq exists_eq_left' List.getElem?_cons_zero List.getElem?_cons_succ Int.toNat_natCast Int.natCast_inj toNat_succ Nat.zero_add res res1 resC owns owns1 ownsC List.flatMap_cons List.flatMap_nil List.flatten_cons List.flatten_nil List.mem_cons List.not_mem_nil or_false false_or forall_eq forall_eq_or_imp isFro frz frz1 pureC tabA isBld List.cons.injEq PV.seq.injEq PV.int.injEq PV.str.injEq PV.bool.injEq PV.agg.injEq inR tab Γof aRes packR Option.map_some Option.map_none rel Prod.exists exists_and_left exists_eq_left and_assoc beq_self_eq_true Bool.not_true Bool.not_false decide_true decide_false List.set_cons_zero List.set_cons_succ rst_nil rst_cons
attribute [local go_sem ↓] evT upd_def aop aopc aopd
set_option maxRecDepth 100000
set_option linter.unusedVariables false
set_option linter.unusedSimpArgs false
open Go.RowKit
def lvX53D_9:Nat→List Nat
 | 0=>[0]
 | 1=>[0,15]
 | 2=>[2,3]
 | 3=>[0,4]
 | 4=>[0,4,5]
 | 5=>[0,4,5,6]
 | 6=>[0,4,5,6,7]
 | 7=>[0,4,5,6,7,8]
 | 8=>[0,4,5,6,7,8,23]
 | 9=>[0,4,5,6,7,8]
 | 10=>[0,4,5,6,7,8,9]
 | 11=>[0,4,5,6,7,8,9,10]
 | 12=>[0,4,5,6,7,8,9,10,32]
 | 13=>[2,3]
 | 14=>[0,4,5,6,7,8,9,10,36]
 | 15=>[0,4,5,6,7,8,9,10]
 | 16=>[0,4,5,6,7,8,9,10,49]
 | 17=>[0,4,5,6,7,8,9,10,55]
 | 18=>[0,4,5,7,8,9,10]
 | 19=>[0,4,5,6,7,8,9,10]
 | 20=>[0,4,5,6,7,8,9,10,63]
 | 21=>[0,4,5,6,7,8,9,10]
 | 22=>[0,4,5,6,7,8,9,10,73]
 | 23=>[0,4,5,6,7,8,9,10]
 | 24=>[0,4,5,6,7,8,9,10,88]
 | 25=>[0,4,5,7,8,9,10]
 | 26=>[0,4,5,6,7,8,9,10]
 | 27=>[0,4,5,6,7,8,9,10,103]
 | 28=>[0,4,5,6,7,8,9,10]
 | 29=>[0,4,5,6,7,8,9,10,111]
 | 30=>[0,4,5,6,7,8,9,10,122]
 | 31=>[0,4,5,7,8,9,10]
 | 32=>[0,4,5,6,7,8,9,10]
 | 33=>[0,4,5,6,7,8,9,10,133]
 | 34=>[0,4,5,6,7,8,9,10]
 | 35=>[0,4,5,6,7,8,9,10,148]
 | 36=>[0,4,5,6,7,8,9,10,11]
 | 37=>[0,4,5,6,7,8,9,10,11,153]
 | 38=>[0,4,5,6,7,8,10]
 | 39=>[0,4,5,6,7,8,9,10,11,170]
 | 40=>[0,4,5,6,7,8,10]
 | 41=>[0,4,5,6,7,8,9,10,11,181]
 | 42=>[0,4,5,6,7,8,10]
 | 43=>[0,4,5,6,7,8,10,214]
 | 44=>[0,4,5,6,7,8,10]
 | 45=>[0,4,5,6,7,8,10,228,229]
 | 46=>[0,4,5,6,7,8,10,228,229,230]
 | 47=>[0,4,5,6,7,8,10,12,228,229]
 | 48=>[0,4,5,6,7,8,10,228,229]
 | 49=>[0,4,5,6,7,8,10,228,229]
 | 50=>[0,4,5,6,7,8,10,248]
 | 51=>[2,3]
 | 52=>[0,4,5,6,7,8,10]
 | 53=>[0,4,5,6,7,8,10]
 | 54=>[0,4,5,6,7,8]
 | 55=>[4,6,257]
 | 56=>[2,3]
 | 57=>[4,6,260]
 | 58=>[4]
 | 59=>[4,270]
 | 60=>[2,3]
 | 61=>[2,3]
 | _=>[]
--LV=X53D
set_option maxHeartbeats 40000000 in
theorem w53_2n {s:Bs} {k:Nat} {m:Int} {tg ta:Bs} {ts:Bool} {raw:Bs} {ps:List (Bs×Bs)} {out:List TokD} {rb pb:Bool} {b:UInt8} {n:Int} {ng na:Bs} {ns:Bool} {Q:AX→AS→Prop}
 (hsl:s.length≤600) (hkl:k<s.length) (hb:s.getD k 0=b) (hn:step ⟨m,tg,ta,ts⟩ b=⟨n,ng,na,ns⟩) (hx:TkAt s k ⟨⟨m,tg,ta,ts⟩,raw,ps,out⟩)
 (hrb:cond rb (m=0∨10≤m) (raw=[])) (hpb:cond pb (3≤m∧m≤8) (ps=[])) (hm:m=2) (hn0:n=2∨n=3):Round53 s (k,⟨⟨m,tg,ta,ts⟩,raw,ps,out⟩,rb,pb) Q:=by
 have hok:=hx.ok
 have hoS:okS ⟨m,tg,ta,ts⟩:=okS_of hok.v
 have hoN:=okS_of (stV_step ⟨m,tg,ta,ts⟩ b)
 rw [hn] at hoN
 have hst:=fun y=>hx.step (y:=y) hkl
 rw [hb] at hst
 have hlo:out.length≤k:=hx.lo
 have hlp:ps.length≤k:=hx.lp
 have hbr:raw.length≤k:=hx.bd.raw
 have hbp: ∀ p ∈ ps,bdP k p:=hx.bd.ps
 have hops:4≤m∧m≤8→ ∃ l v,ps=l++[(ta,v)]:=hok.ps
 have hz: ¬ (2≤m∧m≤8)→ps=[]:=hok.z
 have hles:m=14→raw≠[]:=hok.less
 clear hok hx
 have hbl:=byte_lt s k
 rw [hb] at hbl
 try dsimp only at hst
 have hkd:kd53 m=2:=kd53_in (by omega)
 subst hm
 have hrb0:rb=false:=by
  cases rb
  · rfl
  · simp only [cond_true] at hrb;omega
 subst hrb0
 have hr0:raw=[]:=hrb
 subst hr0
 clear hrb
 have hpb0:pb=false:=by
  cases pb
  · rfl
  · simp only [cond_true] at hpb;omega
 subst hpb0
 have hp0:ps=[]:=hpb
 subst hp0
 clear hpb
 unfold Round53 body53
 simp only [Tryz.f9,firstLoop,Option.getD_some,G53]
 rcases hn0 with rfl|rfl
 · have hat:=hst ⟨⟨2,ng,na,ns⟩,[],[],out⟩ (by simp [tkStep,rawI,prsI, *])
   simp only [T53,M53,mkS,mkT,mkM,cond_false,List.append_nil,hkd]
   repeat' (first|((first|apply qwd|apply qa1|apply qa2|apply qh1|apply qg1 rfl|apply qcd);(try intro K hk);focus (simp only [lvX53D_9,mkT,go_sem,Nat.reduceEqDiff,Nat.reduceAdd,Nat.reduceLeDiff,↓reduceIte,reduceCtorEq,hb,hn,encS_eq,ex_St,List.length_nil,List.length_cons,Int.reduceEq,Int.reduceLE,decide_true,decide_false];first|exact rfl|((repeat refine ai ?_);intros;apply hk;clear hk K)))|apply qw1|refine qwc lvX53D_9 ?_|apply qt1|apply qw5|apply qw2|apply qt4|apply qj1|apply qj2|apply qj4|apply qu1|(refine qj6 ?_ ?_<;>intro hc<;>(try simp only [hc])<;>(try simp only [decide_eq_true_eq,decide_eq_false_iff_not] at hc)<;>(try (exfalso;omega))))
   refine s_again ((k+1,⟨⟨2,ng,na,ns⟩,[],[],out⟩,false,false)) ?_ ?_ ?_<;>(first|omega|(dsimp only;omega)|skip)
   all_goals first|(unfold good53;exact ⟨by dsimp only;omega,hat,by simp<;>omega,by simp<;>omega⟩)|(unfold mu53;dsimp only;omega)|(simp [T53,M53,fits,fitsT,fitsM,upd_def,PV.nmb,nmbL,MB.nmb,encS_mk,kd53];done)
 · have hat:=hst ⟨⟨3,ng,na,ns⟩,[],[],out⟩ (by simp [tkStep,rawI,prsI, *])
   simp only [T53,M53,mkS,mkT,mkM,cond_false,List.append_nil,hkd]
   repeat' (first|((first|apply qwd|apply qa1|apply qa2|apply qh1|apply qg1 rfl|apply qcd);(try intro K hk);focus (simp only [lvX53D_9,mkT,go_sem,Nat.reduceEqDiff,Nat.reduceAdd,Nat.reduceLeDiff,↓reduceIte,reduceCtorEq,hb,hn,encS_eq,ex_St,List.length_nil,List.length_cons,Int.reduceEq,Int.reduceLE,decide_true,decide_false];first|exact rfl|((repeat refine ai ?_);intros;apply hk;clear hk K)))|apply qw1|refine qwc lvX53D_9 ?_|apply qt1|apply qw5|apply qw2|apply qt4|apply qj1|apply qj2|apply qj4|apply qj5|apply qu1|(refine qj6 ?_ ?_<;>intro hc<;>(try simp only [hc])<;>(try simp only [decide_eq_true_eq,decide_eq_false_iff_not] at hc)<;>(try (exfalso;omega))))
   refine s_again ((k+1,⟨⟨3,ng,na,ns⟩,[],[],out⟩,false,false)) ?_ ?_ ?_<;>(first|omega|(dsimp only;omega)|skip)
   all_goals first|(unfold good53;exact ⟨by dsimp only;omega,hat,by simp<;>omega,by simp<;>omega⟩)|(unfold mu53;dsimp only;omega)|(simp [T53,M53,fits,fitsT,fitsM,upd_def,PV.nmb,nmbL,MB.nmb,encS_mk,kd53];done)
set_option maxHeartbeats 40000000 in
theorem w53_33 {s:Bs} {k:Nat} {m:Int} {tg ta:Bs} {ts:Bool} {raw:Bs} {ps:List (Bs×Bs)} {out:List TokD} {rb pb:Bool} {b:UInt8} {n:Int} {ng na:Bs} {ns:Bool} {Q:AX→AS→Prop}
 (hsl:s.length≤600) (hkl:k<s.length) (hb:s.getD k 0=b) (hn:step ⟨m,tg,ta,ts⟩ b=⟨n,ng,na,ns⟩) (hx:TkAt s k ⟨⟨m,tg,ta,ts⟩,raw,ps,out⟩)
 (hrb:cond rb (m=0∨10≤m) (raw=[])) (hpb:cond pb (3≤m∧m≤8) (ps=[])) (hm:m=3) (hn0:n=3):Round53 s (k,⟨⟨m,tg,ta,ts⟩,raw,ps,out⟩,rb,pb) Q:=by
 have hok:=hx.ok
 have hoS:okS ⟨m,tg,ta,ts⟩:=okS_of hok.v
 have hoN:=okS_of (stV_step ⟨m,tg,ta,ts⟩ b)
 rw [hn] at hoN
 have hst:=fun y=>hx.step (y:=y) hkl
 rw [hb] at hst
 have hlo:out.length≤k:=hx.lo
 have hlp:ps.length≤k:=hx.lp
 have hbr:raw.length≤k:=hx.bd.raw
 have hbp: ∀ p ∈ ps,bdP k p:=hx.bd.ps
 have hops:4≤m∧m≤8→ ∃ l v,ps=l++[(ta,v)]:=hok.ps
 have hz: ¬ (2≤m∧m≤8)→ps=[]:=hok.z
 have hles:m=14→raw≠[]:=hok.less
 clear hok hx
 have hbl:=byte_lt s k
 rw [hb] at hbl
 try dsimp only at hst
 have hkd:kd53 m=2:=kd53_in (by omega)
 subst hm hn0
 have hrb0:rb=false:=by
  cases rb
  · rfl
  · simp only [cond_true] at hrb;omega
 subst hrb0
 have hr0:raw=[]:=hrb
 subst hr0
 clear hrb
 unfold Round53 body53
 simp only [Tryz.f9,firstLoop,Option.getD_some,G53]
 cases pb
 · have hp0:ps=[]:=hpb
   subst hp0
   have hat:=hst ⟨⟨3,ng,na,ns⟩,[],[],out⟩ (by simp [tkStep,rawI,prsI, *])
   simp only [T53,M53,mkS,mkT,mkM,cond_false,List.append_nil,hkd]
   repeat' (first|((first|apply qwd|apply qa1|apply qa2|apply qh1|apply qg1 rfl|apply qcd);(try intro K hk);focus (simp only [lvX53D_9,mkT,go_sem,Nat.reduceEqDiff,Nat.reduceAdd,Nat.reduceLeDiff,↓reduceIte,reduceCtorEq,hb,hn,encS_eq,ex_St,List.length_nil,List.length_cons,Int.reduceEq,Int.reduceLE,decide_true,decide_false];first|exact rfl|((repeat refine ai ?_);intros;apply hk;clear hk K)))|apply qw1|refine qwc lvX53D_9 ?_|apply qt1|apply qw5|apply qw2|apply qt4|apply qj1|apply qj2|apply qj4|apply qu1|(refine qj6 ?_ ?_<;>intro hc<;>(try simp only [hc])<;>(try simp only [decide_eq_true_eq,decide_eq_false_iff_not] at hc)<;>(try (exfalso;omega))))
   refine s_again ((k+1,⟨⟨3,ng,na,ns⟩,[],[],out⟩,false,false)) ?_ ?_ ?_<;>(first|omega|(dsimp only;omega)|skip)
   all_goals first|(unfold good53;exact ⟨by dsimp only;omega,hat,by simp<;>omega,by simp<;>omega⟩)|(unfold mu53;dsimp only;omega)|(simp [T53,M53,fits,fitsT,fitsM,upd_def,PV.nmb,nmbL,MB.nmb,encS_mk,kd53];done)
 · have hat:=hst ⟨⟨3,ng,na,ns⟩,[],ps,out⟩ (by simp [tkStep,rawI,prsI, *])
   simp only [T53,M53,mkS,mkT,mkM,cond_true,cond_false,List.append_nil,List.cons_append,List.nil_append,hkd]
   repeat' (first|((first|apply qwd|apply qa1|apply qa2|apply qh1|apply qg1 rfl|apply qcd);(try intro K hk);focus (simp only [lvX53D_9,mkT,go_sem,Nat.reduceEqDiff,Nat.reduceAdd,Nat.reduceLeDiff,↓reduceIte,reduceCtorEq,hb,hn,encS_eq,ex_St,encPrs_len,List.length_nil,List.length_cons,Int.reduceEq,Int.reduceLE,decide_true,decide_false];first|exact rfl|((repeat refine ai ?_);intros;apply hk;clear hk K)))|apply qw1|refine qwc lvX53D_9 ?_|apply qt1|apply qw5|apply qw2|apply qt4|apply qj1|apply qj2|apply qj4|apply qu1|(refine qj6 ?_ ?_<;>intro hc<;>(try simp only [hc])<;>(try simp only [decide_eq_true_eq,decide_eq_false_iff_not] at hc)<;>(try (exfalso;omega))))
   refine s_again ((k+1,⟨⟨3,ng,na,ns⟩,[],ps,out⟩,false,true)) ?_ ?_ ?_<;>(first|omega|(dsimp only;omega)|skip)
   all_goals first|(unfold good53;exact ⟨by dsimp only;omega,hat,by simp<;>omega,by simp<;>omega⟩)|(unfold mu53;dsimp only;omega)|(simp [T53,M53,fits,fitsT,fitsM,upd_def,PV.nmb,nmbL,MB.nmb,encS_mk,kd53];done)
set_option maxHeartbeats 40000000 in
theorem w53_34 {s:Bs} {k:Nat} {m:Int} {tg ta:Bs} {ts:Bool} {raw:Bs} {ps:List (Bs×Bs)} {out:List TokD} {rb pb:Bool} {b:UInt8} {n:Int} {ng na:Bs} {ns:Bool} {Q:AX→AS→Prop}
 (hsl:s.length≤600) (hkl:k<s.length) (hb:s.getD k 0=b) (hn:step ⟨m,tg,ta,ts⟩ b=⟨n,ng,na,ns⟩) (hx:TkAt s k ⟨⟨m,tg,ta,ts⟩,raw,ps,out⟩)
 (hrb:cond rb (m=0∨10≤m) (raw=[])) (hpb:cond pb (3≤m∧m≤8) (ps=[])) (hm:m=3) (hn0:n=4):Round53 s (k,⟨⟨m,tg,ta,ts⟩,raw,ps,out⟩,rb,pb) Q:=by
 have hok:=hx.ok
 have hoS:okS ⟨m,tg,ta,ts⟩:=okS_of hok.v
 have hoN:=okS_of (stV_step ⟨m,tg,ta,ts⟩ b)
 rw [hn] at hoN
 have hst:=fun y=>hx.step (y:=y) hkl
 rw [hb] at hst
 have hlo:out.length≤k:=hx.lo
 have hlp:ps.length≤k:=hx.lp
 have hbr:raw.length≤k:=hx.bd.raw
 have hbp: ∀ p ∈ ps,bdP k p:=hx.bd.ps
 have hops:4≤m∧m≤8→ ∃ l v,ps=l++[(ta,v)]:=hok.ps
 have hz: ¬ (2≤m∧m≤8)→ps=[]:=hok.z
 have hles:m=14→raw≠[]:=hok.less
 clear hok hx
 have hbl:=byte_lt s k
 rw [hb] at hbl
 try dsimp only at hst
 have hkd:kd53 m=2:=kd53_in (by omega)
 subst hm hn0
 have hrb0:rb=false:=by
  cases rb
  · rfl
  · simp only [cond_true] at hrb;omega
 subst hrb0
 have hr0:raw=[]:=hrb
 subst hr0
 clear hrb
 unfold Round53 body53
 simp only [Tryz.f9,firstLoop,Option.getD_some,G53]
 cases pb
 · have hp0:ps=[]:=hpb
   subst hp0
   have hat:=hst ⟨⟨4,ng,na,ns⟩,[],[(na,[])],out⟩ (by simp [tkStep,rawI,prsI, *])
   simp only [T53,M53,mkS,mkT,mkM,cond_false,List.append_nil,hkd]
   repeat' (first|((first|apply qwd|apply qa1|apply qa2|apply qh1|apply qg1 rfl|apply qcd);(try intro K hk);focus (simp only [lvX53D_9,mkT,go_sem,Nat.reduceEqDiff,Nat.reduceAdd,Nat.reduceLeDiff,Nat.reduceLT,↓reduceIte,reduceCtorEq,hb,hn,encS_eq,ex_St,List.length_nil,List.length_cons,Int.reduceEq,Int.reduceLE,decide_true,decide_false];first|exact rfl|((repeat refine ai ?_);intros;apply hk;clear hk K)))|apply qw1|refine qwc lvX53D_9 ?_|apply qt1|apply qw5|apply qw2|apply qt4|apply qj1|apply qj4|apply qu1|(refine qj6 ?_ ?_<;>intro hc<;>(try simp only [hc])<;>(try simp only [decide_eq_true_eq,decide_eq_false_iff_not] at hc)<;>(try (exfalso;omega))))
   refine s_againR ((k+1,⟨⟨4,ng,na,ns⟩,[],[(na,[])],out⟩,false,true)) (fun i=>if i=4 then 7 else i) ?_ ?_ ?_ ?_ ?_ ?_<;>(first|omega|(dsimp only;omega)|(intro i hi;(try dsimp only);(repeat' split)<;>omega)|(intro i j hi hj h;(try dsimp only at h);(repeat' split at h)<;>omega)|skip)
   all_goals first|(unfold good53;exact ⟨by dsimp only;omega,hat,by simp<;>omega,by simp<;>omega⟩)|(unfold mu53;dsimp only;omega)|(simp [T53,M53,fitsTR,fitsMR,PV.ren,renL,MB.ren,upd_def,PV.nmb,nmbL,MB.nmb,encS_mk,kd53,encPrs,encPr];done)
 · have hat:=hst ⟨⟨4,ng,na,ns⟩,[],ps++[(na,[])],out⟩ (by simp [tkStep,rawI,prsI, *])
   simp only [T53,M53,mkS,mkT,mkM,cond_true,cond_false,List.append_nil,List.cons_append,List.nil_append,hkd]
   repeat' (first|((first|apply qwd|apply qa1|apply qa2|apply qh1|apply qg1 rfl|apply qcd);(try intro K hk);focus (simp only [lvX53D_9,mkT,go_sem,Nat.reduceEqDiff,Nat.reduceAdd,Nat.reduceLeDiff,Nat.reduceLT,↓reduceIte,reduceCtorEq,hb,hn,encS_eq,ex_St,encPrs_len,List.length_nil,List.length_cons,Int.reduceEq,Int.reduceLE,decide_true,decide_false,encPrs_pt];first|exact rfl|((repeat refine ai ?_);intros;apply hk;clear hk K)))|apply qw1|refine qwc lvX53D_9 ?_|apply qt1|apply qw5|apply qw2|apply qt4|apply qj1|apply qj4|apply qu1|(refine qj6 ?_ ?_<;>intro hc<;>(try simp only [hc])<;>(try simp only [decide_eq_true_eq,decide_eq_false_iff_not] at hc)<;>(try (exfalso;omega))))
   refine s_againR ((k+1,⟨⟨4,ng,na,ns⟩,[],ps++[(na,[])],out⟩,false,true)) (fun i=>if i=4 then 7 else i) ?_ ?_ ?_ ?_ ?_ ?_<;>(first|omega|(dsimp only;omega)|(intro i hi;(try dsimp only);(repeat' split)<;>omega)|(intro i j hi hj h;(try dsimp only at h);(repeat' split at h)<;>omega)|skip)
   all_goals first|(unfold good53;exact ⟨by dsimp only;omega,hat,by simp<;>omega,by simp<;>omega⟩)|(unfold mu53;dsimp only;omega)|(simp [T53,M53,fitsTR,fitsMR,PV.ren,renL,MB.ren,upd_def,PV.nmb,nmbL,MB.nmb,encS_mk,kd53];done)
end Go.Proofs.YtnbjogilidfkdaaGreat

/- Reading tokens: attributes. -/
namespace Go.Proofs.YtnbjogilidfkdaaGreat
attribute [local irreducible] awp arun acalm FinP Fin AX.then AX.inBlock Again aG gsel amix amixN amixC aop aopc aopd cutK
attribute [local go_sem] aBSliceD aSlice aSliceC boundOf aMk aCall aCallC aLenL aLen aPick_t aPick_f aNil aAlloc aBox aBuild bldPV aBSlice bsPV aApp newsOf destOf drp aConvX aConv aConvInt aLoad cellsAt aStore cellsPV setAt aFld aField aIdx aIndex aUn aBin' aBin aMax aExtract pvOf PV.isCell nmbL PV.nmb List.map_cons List.map_nil List.all_cons List.all_nil Bool.and_true Bool.true_and if_true if_false List.getD_cons_zero List.getD_cons_succ List.getD_nil Option.isSome_some true_and and_true and_self eq_self true_or or_true List.drop_zero List.drop_succ_cons List.drop_nil List.take_zero List.take_succ_cons List.take_nil List.length_cons List.length_nil List.length_map Option.getD_some Option.getD_none List.nil_append List.cons_append List.append_nil Option.some.injEq exists_eq_left' List.getElem?_cons_zero List.getElem?_cons_succ Int.toNat_natCast Int.natCast_inj toNat_succ Nat.zero_add res res1 resC owns owns1 ownsC List.flatMap_cons List.flatMap_nil List.flatten_cons List.flatten_nil List.mem_cons List.not_mem_nil or_false false_or forall_eq forall_eq_or_imp isFro frz frz1 pureC tabA isBld List.cons.injEq PV.seq.injEq PV.int.injEq PV.str.injEq PV.bool.injEq PV.agg.injEq inR tab Γof aRes packR Option.map_some Option.map_none rel Prod.exists exists_and_left exists_eq_left and_assoc beq_self_eq_true Bool.not_true Bool.not_false decide_true decide_false List.set_cons_zero List.set_cons_succ rst_nil rst_cons
attribute [local go_sem ↓] evT upd_def aop aopc aopd
set_option maxRecDepth 100000
set_option linter.unusedVariables false
set_option linter.unusedSimpArgs false
open Go.RowKit
def lvX53E_9:Nat→List Nat
 | 0=>[0]
 | 1=>[0,15]
 | 2=>[2,3]
 | 3=>[0,4]
 | 4=>[0,4,5]
 | 5=>[0,4,5,6]
 | 6=>[0,4,5,6,7]
 | 7=>[0,4,5,6,7,8]
 | 8=>[0,4,5,6,7,8,23]
 | 9=>[0,4,5,6,7,8]
 | 10=>[0,4,5,6,7,8,9]
 | 11=>[0,4,5,6,7,8,9,10]
 | 12=>[0,4,5,6,7,8,9,10,32]
 | 13=>[2,3]
 | 14=>[0,4,5,6,7,8,9,10,36]
 | 15=>[0,4,5,6,7,8,9,10]
 | 16=>[0,4,5,6,7,8,9,10,49]
 | 17=>[0,4,5,6,7,8,9,10,55]
 | 18=>[0,4,5,7,8,9,10]
 | 19=>[0,4,5,6,7,8,9,10]
 | 20=>[0,4,5,6,7,8,9,10,63]
 | 21=>[0,4,5,6,7,8,9,10]
 | 22=>[0,4,5,6,7,8,9,10,73]
 | 23=>[0,4,5,6,7,8,9,10]
 | 24=>[0,4,5,6,7,8,9,10,88]
 | 25=>[0,4,5,7,8,9,10]
 | 26=>[0,4,5,6,7,8,9,10]
 | 27=>[0,4,5,6,7,8,9,10,103]
 | 28=>[0,4,5,6,7,8,9,10]
 | 29=>[0,4,5,6,7,8,9,10,111]
 | 30=>[0,4,5,6,7,8,9,10,122]
 | 31=>[0,4,5,7,8,9,10]
 | 32=>[0,4,5,6,7,8,9,10]
 | 33=>[0,4,5,6,7,8,9,10,133]
 | 34=>[0,4,5,6,7,8,9,10]
 | 35=>[0,4,5,6,7,8,9,10,148]
 | 36=>[0,4,5,6,7,8,9,10,11]
 | 37=>[0,4,5,6,7,8,9,10,11,153]
 | 38=>[0,4,5,6,7,8,10]
 | 39=>[0,4,5,6,7,8,9,10,11,170]
 | 40=>[0,4,5,6,7,8,10]
 | 41=>[0,4,5,6,7,8,9,10,11,181]
 | 42=>[0,4,5,6,7,8,10]
 | 43=>[0,4,5,6,7,8,10,214]
 | 44=>[0,4,5,6,7,8,10]
 | 45=>[0,4,5,6,7,8,10,228,229]
 | 46=>[0,4,5,6,7,8,10,228,229,230]
 | 47=>[0,4,5,6,7,8,10,12,228,229]
 | 48=>[0,4,5,6,7,8,10,228,229]
 | 49=>[0,4,5,6,7,8,10,228,229]
 | 50=>[0,4,5,6,7,8,10,248]
 | 51=>[2,3]
 | 52=>[0,4,5,6,7,8,10]
 | 53=>[0,4,5,6,7,8,10]
 | 54=>[0,4,5,6,7,8]
 | 55=>[4,6,257]
 | 56=>[2,3]
 | 57=>[4,6,260]
 | 58=>[4]
 | 59=>[4,270]
 | 60=>[2,3]
 | 61=>[2,3]
 | _=>[]
--LV=X53E
set_option maxHeartbeats 40000000 in
theorem w53_k {s:Bs} {k:Nat} {m:Int} {tg ta:Bs} {ts:Bool} {raw:Bs} {ps:List (Bs×Bs)} {out:List TokD} {rb pb:Bool} {b:UInt8} {n:Int} {ng na:Bs} {ns:Bool} {Q:AX→AS→Prop}
 (hsl:s.length≤600) (hkl:k<s.length) (hb:s.getD k 0=b) (hn:step ⟨m,tg,ta,ts⟩ b=⟨n,ng,na,ns⟩) (hx:TkAt s k ⟨⟨m,tg,ta,ts⟩,raw,ps,out⟩)
 (hrb:cond rb (m=0∨10≤m) (raw=[])) (hpb:cond pb (3≤m∧m≤8) (ps=[])) (hm:4≤m∧m≤8) (hn0:n=3∨n=5∨n=6∨n=7) (hmn:m≠n):Round53 s (k,⟨⟨m,tg,ta,ts⟩,raw,ps,out⟩,rb,pb) Q:=by
 have hok:=hx.ok
 have hoS:okS ⟨m,tg,ta,ts⟩:=okS_of hok.v
 have hoN:=okS_of (stV_step ⟨m,tg,ta,ts⟩ b)
 rw [hn] at hoN
 have hst:=fun y=>hx.step (y:=y) hkl
 rw [hb] at hst
 have hlo:out.length≤k:=hx.lo
 have hlp:ps.length≤k:=hx.lp
 have hbr:raw.length≤k:=hx.bd.raw
 have hbp: ∀ p ∈ ps,bdP k p:=hx.bd.ps
 have hops:4≤m∧m≤8→ ∃ l v,ps=l++[(ta,v)]:=hok.ps
 have hz: ¬ (2≤m∧m≤8)→ps=[]:=hok.z
 have hles:m=14→raw≠[]:=hok.less
 clear hok hx
 have hbl:=byte_lt s k
 rw [hb] at hbl
 try dsimp only at hst
 have hkd:kd53 m=2:=kd53_in (by omega)
 have hrb0:rb=false:=by
  cases rb
  · rfl
  · simp only [cond_true] at hrb;omega
 subst hrb0
 have hr0:raw=[]:=hrb
 subst hr0
 clear hrb
 obtain ⟨l,v,rfl⟩:=hops (by omega)
 have hpb1:pb=true:=by
  cases pb
  · have hpb:l++[(ta,v)]=[]:=hpb;simp at hpb
  · rfl
 subst hpb1
 have hvl:=(hbp (ta,v) (by simp)).2
 have hgl:=encPrs_getl l (ta,v)
 have hll:(l++[(ta,v)]).length=l.length+1:=by simp
 rw [hll] at hlp
 dsimp only at hvl hgl
 have hl1:((l.length+1:Nat):Int) - 1=(l.length:Int):=by omega
 have hkn:kd53 n=2:=kd53_in (by omega)
 have hmn0:decide (m=n)=false:=decide_eq_false hmn
 have hm0:decide (m=0)=false:=decide_eq_false (by omega)
 have hm1:decide (m=1)=false:=decide_eq_false (by omega)
 have hm2:decide (m=2)=false:=decide_eq_false (by omega)
 have hm3:decide (m=3)=false:=decide_eq_false (by omega)
 have hm9:decide (m=9)=false:=decide_eq_false (by omega)
 have hm10:decide (m=10)=false:=decide_eq_false (by omega)
 have hm14:decide (m=14)=false:=decide_eq_false (by omega)
 have hn0:decide (n=0)=false:=decide_eq_false (by omega)
 have hn4:decide (n=4)=false:=decide_eq_false (by omega)
 have hn8:decide (n=8)=false:=decide_eq_false (by omega)
 have hn11:decide (n=11)=false:=decide_eq_false (by omega)
 have hn15:decide (n=15)=false:=decide_eq_false (by omega)
 unfold Round53 body53
 simp only [Tryz.f9,firstLoop,Option.getD_some,G53]
 have hat:=hst ⟨⟨n,ng,na,ns⟩,[],l++[(ta,v)],out⟩ (by simp only [tkStep,rawI,prsI,hn];(repeat (first|rw [if_pos (by omega)]|rw [if_neg (by omega)]));try simp [lastP_snoc,tkEnd,tkCom,tkScr])
 simp only [T53,M53,mkS,mkT,mkM,cond_true,cond_false,List.append_nil,List.cons_append,List.nil_append,hkd]
 repeat' (first|((first|apply qwd|apply qa1|apply qa2|apply qh1|apply qg1 rfl|apply qcd);(try intro K hk);focus (simp only [lvX53E_9,mkT,go_sem,Nat.reduceEqDiff,Nat.reduceAdd,Nat.reduceLeDiff,↓reduceIte,reduceCtorEq,hb,hn,encS_eq,ex_St,encPrs_len,List.length_nil,List.length_cons,hll,hl1,Int.toNat_natCast,hmn0,hm0,hm1,hm9,hm10,hm14,hn0,hn4,hn8,hn11,hn15];first|exact rfl|((repeat refine ai ?_);intros;apply hk;clear hk K)))|apply qw1|refine qwc lvX53E_9 ?_|apply qt1|apply qw5|apply qw2|apply qt4|apply qj1|apply qj2|apply qj4|apply qj5|apply qu1|(refine qj6 ?_ ?_<;>intro hc<;>(try simp only [hc])<;>(try simp only [decide_eq_true_eq,decide_eq_false_iff_not] at hc)<;>(try (exfalso;omega))))
 refine s_again ((k+1,⟨⟨n,ng,na,ns⟩,[],l++[(ta,v)],out⟩,false,true)) ?_ ?_ ?_<;>(first|omega|(dsimp only;omega)|skip)
 all_goals first|(unfold good53;exact ⟨by dsimp only;omega,hat,by simp<;>omega,by simp<;>omega⟩)|(unfold mu53;dsimp only;omega)|(simp [T53,M53,fits,fitsT,fitsM,upd_def,PV.nmb,nmbL,MB.nmb,encS_mk,hkn];done)
set_option maxHeartbeats 40000000 in
theorem w53_44 {s:Bs} {k:Nat} {m:Int} {tg ta:Bs} {ts:Bool} {raw:Bs} {ps:List (Bs×Bs)} {out:List TokD} {rb pb:Bool} {b:UInt8} {n:Int} {ng na:Bs} {ns:Bool} {Q:AX→AS→Prop}
 (hsl:s.length≤600) (hkl:k<s.length) (hb:s.getD k 0=b) (hn:step ⟨m,tg,ta,ts⟩ b=⟨n,ng,na,ns⟩) (hx:TkAt s k ⟨⟨m,tg,ta,ts⟩,raw,ps,out⟩)
 (hrb:cond rb (m=0∨10≤m) (raw=[])) (hpb:cond pb (3≤m∧m≤8) (ps=[])) (hm:m=4) (hn0:n=4):Round53 s (k,⟨⟨m,tg,ta,ts⟩,raw,ps,out⟩,rb,pb) Q:=by
 have hok:=hx.ok
 have hoS:okS ⟨m,tg,ta,ts⟩:=okS_of hok.v
 have hoN:=okS_of (stV_step ⟨m,tg,ta,ts⟩ b)
 rw [hn] at hoN
 have hst:=fun y=>hx.step (y:=y) hkl
 rw [hb] at hst
 have hlo:out.length≤k:=hx.lo
 have hlp:ps.length≤k:=hx.lp
 have hbr:raw.length≤k:=hx.bd.raw
 have hbp: ∀ p ∈ ps,bdP k p:=hx.bd.ps
 have hops:4≤m∧m≤8→ ∃ l v,ps=l++[(ta,v)]:=hok.ps
 have hz: ¬ (2≤m∧m≤8)→ps=[]:=hok.z
 have hles:m=14→raw≠[]:=hok.less
 clear hok hx
 have hbl:=byte_lt s k
 rw [hb] at hbl
 try dsimp only at hst
 have hkd:kd53 m=2:=kd53_in (by omega)
 subst hm hn0
 have hrb0:rb=false:=by
  cases rb
  · rfl
  · simp only [cond_true] at hrb;omega
 subst hrb0
 have hr0:raw=[]:=hrb
 subst hr0
 clear hrb
 obtain ⟨l,v,rfl⟩:=hops (by omega)
 have hpb1:pb=true:=by
  cases pb
  · have hpb:l++[(ta,v)]=[]:=hpb;simp at hpb
  · rfl
 subst hpb1
 have hvl:=(hbp (ta,v) (by simp)).2
 have hgl:=encPrs_getl l (ta,v)
 have hll:(l++[(ta,v)]).length=l.length+1:=by simp
 rw [hll] at hlp
 dsimp only at hvl hgl
 have hl1:((l.length+1:Nat):Int) - 1=(l.length:Int):=by omega
 unfold Round53 body53
 simp only [Tryz.f9,firstLoop,Option.getD_some,G53]
 have hsetl:=encPrs_setl l (ta,v) (na,v)
 dsimp only at hsetl
 have hat:=hst ⟨⟨4,ng,na,ns⟩,[],l++[(na,v)],out⟩ (by simp [tkStep,rawI,prsI,lastP_snoc, *])
 simp only [T53,M53,mkS,mkT,mkM,cond_true,cond_false,List.append_nil,List.cons_append,List.nil_append,hkd]
 repeat' (first|(refine qw10 [3] [0,1,2,4,6,7,8,9,11] [0,1,2,6,7,8,3,4,5,9,10,11,12] ?_ ?_;focus (decide +kernel))|(first|((first|apply qwd|apply qa1|apply qa2|apply qh1|apply qg1 rfl|apply qcd);(try intro K hk);focus (simp only [lvX53E_9,mkT,go_sem,Nat.reduceEqDiff,Nat.reduceAdd,Nat.reduceLeDiff,↓reduceIte,reduceCtorEq,hb,hn,encS_eq,ex_St,encPrs_len,List.length_nil,List.length_cons,Int.reduceEq,Int.reduceLE,decide_true,decide_false,hsetl,hgl,hll,hl1,Int.toNat_natCast];first|exact rfl|((repeat refine ai ?_);intros;apply hk;clear hk K)))|apply qw1|refine qwc lvX53E_9 ?_|apply qt1|apply qw5|apply qw2|apply qt4|apply qj1|apply qj4|apply qu1|(refine qj6 ?_ ?_<;>intro hc<;>(try simp only [hc])<;>(try simp only [decide_eq_true_eq,decide_eq_false_iff_not] at hc)<;>(try (exfalso;omega)))))
 refine s_again ((k+1,⟨⟨4,ng,na,ns⟩,[],l++[(na,v)],out⟩,false,true)) ?_ ?_ ?_<;>(first|omega|(dsimp only;omega)|skip)
 all_goals first|(unfold good53;exact ⟨by dsimp only;omega,hat,by simp<;>omega,by simp<;>omega⟩)|(unfold mu53;dsimp only;omega)|(simp [T53,M53,fits,fitsT,fitsM,upd_def,PV.nmb,nmbL,MB.nmb,encS_mk,kd53];done)
set_option maxHeartbeats 40000000 in
theorem w53_n8 {s:Bs} {k:Nat} {m:Int} {tg ta:Bs} {ts:Bool} {raw:Bs} {ps:List (Bs×Bs)} {out:List TokD} {rb pb:Bool} {b:UInt8} {n:Int} {ng na:Bs} {ns:Bool} {Q:AX→AS→Prop}
 (hsl:s.length≤600) (hkl:k<s.length) (hb:s.getD k 0=b) (hn:step ⟨m,tg,ta,ts⟩ b=⟨n,ng,na,ns⟩) (hx:TkAt s k ⟨⟨m,tg,ta,ts⟩,raw,ps,out⟩)
 (hrb:cond rb (m=0∨10≤m) (raw=[])) (hpb:cond pb (3≤m∧m≤8) (ps=[])) (hm:m=5∨m=8) (hn0:n=8):Round53 s (k,⟨⟨m,tg,ta,ts⟩,raw,ps,out⟩,rb,pb) Q:=by
 have hok:=hx.ok
 have hoS:okS ⟨m,tg,ta,ts⟩:=okS_of hok.v
 have hoN:=okS_of (stV_step ⟨m,tg,ta,ts⟩ b)
 rw [hn] at hoN
 have hst:=fun y=>hx.step (y:=y) hkl
 rw [hb] at hst
 have hlo:out.length≤k:=hx.lo
 have hlp:ps.length≤k:=hx.lp
 have hbr:raw.length≤k:=hx.bd.raw
 have hbp: ∀ p ∈ ps,bdP k p:=hx.bd.ps
 have hops:4≤m∧m≤8→ ∃ l v,ps=l++[(ta,v)]:=hok.ps
 have hz: ¬ (2≤m∧m≤8)→ps=[]:=hok.z
 have hles:m=14→raw≠[]:=hok.less
 clear hok hx
 have hbl:=byte_lt s k
 rw [hb] at hbl
 try dsimp only at hst
 have hkd:kd53 m=2:=kd53_in (by omega)
 subst hn0
 have hrb0:rb=false:=by
  cases rb
  · rfl
  · simp only [cond_true] at hrb;omega
 subst hrb0
 have hr0:raw=[]:=hrb
 subst hr0
 clear hrb
 obtain ⟨l,v,rfl⟩:=hops (by omega)
 have hpb1:pb=true:=by
  cases pb
  · have hpb:l++[(ta,v)]=[]:=hpb;simp at hpb
  · rfl
 subst hpb1
 have hvl:=(hbp (ta,v) (by simp)).2
 have hgl:=encPrs_getl l (ta,v)
 have hll:(l++[(ta,v)]).length=l.length+1:=by simp
 rw [hll] at hlp
 dsimp only at hvl hgl
 have hl1:((l.length+1:Nat):Int) - 1=(l.length:Int):=by omega
 have hm0:decide (m=0)=false:=decide_eq_false (by omega)
 have hm1:decide (m=1)=false:=decide_eq_false (by omega)
 have hm9:decide (m=9)=false:=decide_eq_false (by omega)
 have hm10:decide (m=10)=false:=decide_eq_false (by omega)
 have hm14:decide (m=14)=false:=decide_eq_false (by omega)
 unfold Round53 body53
 simp only [Tryz.f9,firstLoop,Option.getD_some,G53]
 have hsetl:=encPrs_setl l (ta,v) (ta,v++[b])
 dsimp only at hsetl
 have hat:=hst ⟨⟨8,ng,na,ns⟩,[],l++[(ta,v++[b])],out⟩ (by simp only [tkStep,rawI,prsI,hn];(repeat (first|rw [if_pos (by omega)]|rw [if_neg (by omega)]));try simp [lastP_snoc])
 simp only [T53,M53,mkS,mkT,mkM,cond_true,cond_false,List.append_nil,List.cons_append,List.nil_append,hkd]
 repeat' (first|(refine qw10 [3] [0,1,2,4,6,7,8,9,11] [0,1,2,6,7,8,3,4,5,9,10,11,12] ?_ ?_;focus (decide +kernel))|(first|((first|apply qwd|apply qa1|apply qa2|apply qh1|apply qm1|apply qm2|apply qm3|apply qg1 rfl|apply qcd);(try intro K hk);focus (simp only [lvX53E_9,mkT,go_sem,Nat.reduceEqDiff,Nat.reduceAdd,Nat.reduceLeDiff,↓reduceIte,reduceCtorEq,hb,hn,encS_eq,ex_St,encPrs_len,List.length_nil,List.length_cons,Int.reduceEq,decide_true,decide_false,hsetl,hgl,hll,hl1,Int.toNat_natCast,hm0,hm1,hm9,hm10,hm14];first|exact rfl|((repeat refine ai ?_);intros;apply hk;clear hk K)))|apply qw1|refine qwc lvX53E_9 ?_|apply qt1|apply qw5|apply qw2|apply qt4|apply qj1|apply qj3|apply qj4|apply qj5|apply qu1|apply qne|(refine qj6 ?_ ?_<;>intro hc<;>(try simp only [hc])<;>(try simp only [decide_eq_true_eq,decide_eq_false_iff_not] at hc)<;>(try (exfalso;omega)))|(refine qk1 ?_ ?_;focus (repeat (first|exact qsub0|(refine qsub1 ?_ ?_;focus (simp only [go_sem,Nat.reduceEqDiff,↓reduceIte,reduceCtorEq])))))))
 refine s_again ((k+1,⟨⟨8,ng,na,ns⟩,[],l++[(ta,v++[b])],out⟩,false,true)) ?_ ?_ ?_<;>(first|omega|(dsimp only;omega)|skip)
 all_goals first|(unfold good53;exact ⟨by dsimp only;omega,hat,by simp<;>omega,by simp<;>omega⟩)|(unfold mu53;dsimp only;omega)|(simp [T53,M53,fits,fitsT,fitsM,upd_def,PV.nmb,nmbL,MB.nmb,encS_mk,kd53];done)
set_option maxHeartbeats 40000000 in
theorem w53_66 {s:Bs} {k:Nat} {m:Int} {tg ta:Bs} {ts:Bool} {raw:Bs} {ps:List (Bs×Bs)} {out:List TokD} {rb pb:Bool} {b:UInt8} {n:Int} {ng na:Bs} {ns:Bool} {Q:AX→AS→Prop}
 (hsl:s.length≤600) (hkl:k<s.length) (hb:s.getD k 0=b) (hn:step ⟨m,tg,ta,ts⟩ b=⟨n,ng,na,ns⟩) (hx:TkAt s k ⟨⟨m,tg,ta,ts⟩,raw,ps,out⟩)
 (hrb:cond rb (m=0∨10≤m) (raw=[])) (hpb:cond pb (3≤m∧m≤8) (ps=[])) (hm:m=6) (hn0:n=6):Round53 s (k,⟨⟨m,tg,ta,ts⟩,raw,ps,out⟩,rb,pb) Q:=by
 have hok:=hx.ok
 have hoS:okS ⟨m,tg,ta,ts⟩:=okS_of hok.v
 have hoN:=okS_of (stV_step ⟨m,tg,ta,ts⟩ b)
 rw [hn] at hoN
 have hst:=fun y=>hx.step (y:=y) hkl
 rw [hb] at hst
 have hlo:out.length≤k:=hx.lo
 have hlp:ps.length≤k:=hx.lp
 have hbr:raw.length≤k:=hx.bd.raw
 have hbp: ∀ p ∈ ps,bdP k p:=hx.bd.ps
 have hops:4≤m∧m≤8→ ∃ l v,ps=l++[(ta,v)]:=hok.ps
 have hz: ¬ (2≤m∧m≤8)→ps=[]:=hok.z
 have hles:m=14→raw≠[]:=hok.less
 clear hok hx
 have hbl:=byte_lt s k
 rw [hb] at hbl
 try dsimp only at hst
 have hkd:kd53 m=2:=kd53_in (by omega)
 subst hm hn0
 have hrb0:rb=false:=by
  cases rb
  · rfl
  · simp only [cond_true] at hrb;omega
 subst hrb0
 have hr0:raw=[]:=hrb
 subst hr0
 clear hrb
 obtain ⟨l,v,rfl⟩:=hops (by omega)
 have hpb1:pb=true:=by
  cases pb
  · have hpb:l++[(ta,v)]=[]:=hpb;simp at hpb
  · rfl
 subst hpb1
 have hvl:=(hbp (ta,v) (by simp)).2
 have hgl:=encPrs_getl l (ta,v)
 have hll:(l++[(ta,v)]).length=l.length+1:=by simp
 rw [hll] at hlp
 dsimp only at hvl hgl
 have hl1:((l.length+1:Nat):Int) - 1=(l.length:Int):=by omega
 unfold Round53 body53
 simp only [Tryz.f9,firstLoop,Option.getD_some,G53]
 have hsetl:=encPrs_setl l (ta,v) (ta,v++[b])
 dsimp only at hsetl
 have hat:=hst ⟨⟨6,ng,na,ns⟩,[],l++[(ta,v++[b])],out⟩ (by simp [tkStep,rawI,prsI,lastP_snoc, *])
 simp only [T53,M53,mkS,mkT,mkM,cond_true,cond_false,List.append_nil,List.cons_append,List.nil_append,hkd]
 repeat' (first|(refine qw10 [3] [0,1,2,4,6,7,8,9,11] [0,1,2,6,7,8,3,4,5,9,10,11,12] ?_ ?_;focus (decide +kernel))|(first|((first|apply qwd|apply qa1|apply qa2|apply qh1|apply qm1|apply qm2|apply qm3|apply qg1 rfl|apply qcd);(try intro K hk);focus (simp only [lvX53E_9,mkT,go_sem,Nat.reduceEqDiff,Nat.reduceAdd,Nat.reduceLeDiff,↓reduceIte,reduceCtorEq,hb,hn,encS_eq,ex_St,encPrs_len,List.length_nil,List.length_cons,Int.reduceEq,Int.reduceLE,decide_true,decide_false,hsetl,hgl,hll,hl1,Int.toNat_natCast];first|exact rfl|((repeat refine ai ?_);intros;apply hk;clear hk K)))|apply qw1|refine qwc lvX53E_9 ?_|apply qt1|apply qw5|apply qw2|apply qt4|apply qj1|apply qj2|apply qj3|apply qj4|apply qu1|apply qne|(refine qj6 ?_ ?_<;>intro hc<;>(try simp only [hc])<;>(try simp only [decide_eq_true_eq,decide_eq_false_iff_not] at hc)<;>(try (exfalso;omega)))|(refine qk1 ?_ ?_;focus (repeat (first|exact qsub0|(refine qsub1 ?_ ?_;focus (simp only [go_sem,Nat.reduceEqDiff,↓reduceIte,reduceCtorEq])))))))
 refine s_again ((k+1,⟨⟨6,ng,na,ns⟩,[],l++[(ta,v++[b])],out⟩,false,true)) ?_ ?_ ?_<;>(first|omega|(dsimp only;omega)|skip)
 all_goals first|(unfold good53;exact ⟨by dsimp only;omega,hat,by simp<;>omega,by simp<;>omega⟩)|(unfold mu53;dsimp only;omega)|(simp [T53,M53,fits,fitsT,fitsM,upd_def,PV.nmb,nmbL,MB.nmb,encS_mk,kd53];done)
set_option maxHeartbeats 40000000 in
theorem w53_77 {s:Bs} {k:Nat} {m:Int} {tg ta:Bs} {ts:Bool} {raw:Bs} {ps:List (Bs×Bs)} {out:List TokD} {rb pb:Bool} {b:UInt8} {n:Int} {ng na:Bs} {ns:Bool} {Q:AX→AS→Prop}
 (hsl:s.length≤600) (hkl:k<s.length) (hb:s.getD k 0=b) (hn:step ⟨m,tg,ta,ts⟩ b=⟨n,ng,na,ns⟩) (hx:TkAt s k ⟨⟨m,tg,ta,ts⟩,raw,ps,out⟩)
 (hrb:cond rb (m=0∨10≤m) (raw=[])) (hpb:cond pb (3≤m∧m≤8) (ps=[])) (hm:m=7) (hn0:n=7):Round53 s (k,⟨⟨m,tg,ta,ts⟩,raw,ps,out⟩,rb,pb) Q:=by
 have hok:=hx.ok
 have hoS:okS ⟨m,tg,ta,ts⟩:=okS_of hok.v
 have hoN:=okS_of (stV_step ⟨m,tg,ta,ts⟩ b)
 rw [hn] at hoN
 have hst:=fun y=>hx.step (y:=y) hkl
 rw [hb] at hst
 have hlo:out.length≤k:=hx.lo
 have hlp:ps.length≤k:=hx.lp
 have hbr:raw.length≤k:=hx.bd.raw
 have hbp: ∀ p ∈ ps,bdP k p:=hx.bd.ps
 have hops:4≤m∧m≤8→ ∃ l v,ps=l++[(ta,v)]:=hok.ps
 have hz: ¬ (2≤m∧m≤8)→ps=[]:=hok.z
 have hles:m=14→raw≠[]:=hok.less
 clear hok hx
 have hbl:=byte_lt s k
 rw [hb] at hbl
 try dsimp only at hst
 have hkd:kd53 m=2:=kd53_in (by omega)
 subst hm hn0
 have hrb0:rb=false:=by
  cases rb
  · rfl
  · simp only [cond_true] at hrb;omega
 subst hrb0
 have hr0:raw=[]:=hrb
 subst hr0
 clear hrb
 obtain ⟨l,v,rfl⟩:=hops (by omega)
 have hpb1:pb=true:=by
  cases pb
  · have hpb:l++[(ta,v)]=[]:=hpb;simp at hpb
  · rfl
 subst hpb1
 have hvl:=(hbp (ta,v) (by simp)).2
 have hgl:=encPrs_getl l (ta,v)
 have hll:(l++[(ta,v)]).length=l.length+1:=by simp
 rw [hll] at hlp
 dsimp only at hvl hgl
 have hl1:((l.length+1:Nat):Int) - 1=(l.length:Int):=by omega
 unfold Round53 body53
 simp only [Tryz.f9,firstLoop,Option.getD_some,G53]
 have hsetl:=encPrs_setl l (ta,v) (ta,v++[b])
 dsimp only at hsetl
 have hat:=hst ⟨⟨7,ng,na,ns⟩,[],l++[(ta,v++[b])],out⟩ (by simp [tkStep,rawI,prsI,lastP_snoc, *])
 simp only [T53,M53,mkS,mkT,mkM,cond_true,cond_false,List.append_nil,List.cons_append,List.nil_append,hkd]
 repeat' (first|(refine qw10 [3] [0,1,2,4,6,7,8,9,11] [0,1,2,6,7,8,3,4,5,9,10,11,12] ?_ ?_;focus (decide +kernel))|(first|((first|apply qwd|apply qa1|apply qa2|apply qh1|apply qm1|apply qm2|apply qm3|apply qg1 rfl|apply qcd);(try intro K hk);focus (simp only [lvX53E_9,mkT,go_sem,Nat.reduceEqDiff,Nat.reduceAdd,Nat.reduceLeDiff,↓reduceIte,reduceCtorEq,hb,hn,encS_eq,ex_St,encPrs_len,List.length_nil,List.length_cons,Int.reduceEq,Int.reduceLE,decide_true,decide_false,hsetl,hgl,hll,hl1,Int.toNat_natCast];first|exact rfl|((repeat refine ai ?_);intros;apply hk;clear hk K)))|apply qw1|refine qwc lvX53E_9 ?_|apply qt1|apply qw5|apply qw2|apply qt4|apply qj1|apply qj2|apply qj4|apply qu1|apply qne|(refine qj6 ?_ ?_<;>intro hc<;>(try simp only [hc])<;>(try simp only [decide_eq_true_eq,decide_eq_false_iff_not] at hc)<;>(try (exfalso;omega)))|(refine qk1 ?_ ?_;focus (repeat (first|exact qsub0|(refine qsub1 ?_ ?_;focus (simp only [go_sem,Nat.reduceEqDiff,↓reduceIte,reduceCtorEq])))))))
 refine s_again ((k+1,⟨⟨7,ng,na,ns⟩,[],l++[(ta,v++[b])],out⟩,false,true)) ?_ ?_ ?_<;>(first|omega|(dsimp only;omega)|skip)
 all_goals first|(unfold good53;exact ⟨by dsimp only;omega,hat,by simp<;>omega,by simp<;>omega⟩)|(unfold mu53;dsimp only;omega)|(simp [T53,M53,fits,fitsT,fitsM,upd_def,PV.nmb,nmbL,MB.nmb,encS_mk,kd53];done)
end Go.Proofs.YtnbjogilidfkdaaGreat

/- Reading tokens: where a tag ends. -/
namespace Go.Proofs.YtnbjogilidfkdaaGreat
attribute [local irreducible] awp arun acalm FinP Fin AX.then AX.inBlock Again aG gsel amix amixN amixC aop aopc aopd cutK
attribute [local go_sem] aBSliceD aSlice aSliceC boundOf aMk aCall aCallC aLenL aLen aPick_t aPick_f aNil aAlloc aBox aBuild bldPV aBSlice bsPV aApp newsOf destOf drp aConvX aConv aConvInt aLoad cellsAt aStore cellsPV setAt aFld aField aIdx aIndex aUn aBin' aBin aMax aExtract pvOf PV.isCell nmbL PV.nmb List.map_cons List.map_nil List.all_cons List.all_nil Bool.and_true Bool.true_and if_true if_false List.getD_cons_zero List.getD_cons_succ List.getD_nil Option.isSome_some true_and and_true and_self eq_self true_or or_true List.drop_zero List.drop_succ_cons List.drop_nil List.take_zero List.take_succ_cons List.take_nil List.length_cons List.length_nil List.length_map Option.getD_some Option.getD_none List.nil_append List.cons_append List.append_nil Option.some.injEq exists_eq_left' List.getElem?_cons_zero List.getElem?_cons_succ Int.toNat_natCast Int.natCast_inj toNat_succ Nat.zero_add res res1 resC owns owns1 ownsC List.flatMap_cons List.flatMap_nil List.flatten_cons List.flatten_nil List.mem_cons List.not_mem_nil or_false false_or forall_eq forall_eq_or_imp isFro frz frz1 pureC tabA isBld List.cons.injEq PV.seq.injEq PV.int.injEq PV.str.injEq PV.bool.injEq PV.agg.injEq inR tab Γof aRes packR Option.map_some Option.map_none rel Prod.exists exists_and_left exists_eq_left and_assoc beq_self_eq_true Bool.not_true Bool.not_false decide_true decide_false List.set_cons_zero List.set_cons_succ rst_nil rst_cons
attribute [local go_sem ↓] evT upd_def aop aopc aopd
set_option maxRecDepth 100000
set_option linter.unusedVariables false
set_option linter.unusedSimpArgs false
open Go.RowKit
def lvX53F_9:Nat→List Nat
 | 0=>[0]
 | 1=>[0,15]
 | 2=>[2,3]
 | 3=>[0,4]
 | 4=>[0,4,5]
 | 5=>[0,4,5,6]
 | 6=>[0,4,5,6,7]
 | 7=>[0,4,5,6,7,8]
 | 8=>[0,4,5,6,7,8,23]
 | 9=>[0,4,5,6,7,8]
 | 10=>[0,4,5,6,7,8,9]
 | 11=>[0,4,5,6,7,8,9,10]
 | 12=>[0,4,5,6,7,8,9,10,32]
 | 13=>[2,3]
 | 14=>[0,4,5,6,7,8,9,10,36]
 | 15=>[0,4,5,6,7,8,9,10]
 | 16=>[0,4,5,6,7,8,9,10,49]
 | 17=>[0,4,5,6,7,8,9,10,55]
 | 18=>[0,4,5,7,8,9,10]
 | 19=>[0,4,5,6,7,8,9,10]
 | 20=>[0,4,5,6,7,8,9,10,63]
 | 21=>[0,4,5,6,7,8,9,10]
 | 22=>[0,4,5,6,7,8,9,10,73]
 | 23=>[0,4,5,6,7,8,9,10]
 | 24=>[0,4,5,6,7,8,9,10,88]
 | 25=>[0,4,5,7,8,9,10]
 | 26=>[0,4,5,6,7,8,9,10]
 | 27=>[0,4,5,6,7,8,9,10,103]
 | 28=>[0,4,5,6,7,8,9,10]
 | 29=>[0,4,5,6,7,8,9,10,111]
 | 30=>[0,4,5,6,7,8,9,10,122]
 | 31=>[0,4,5,7,8,9,10]
 | 32=>[0,4,5,6,7,8,9,10]
 | 33=>[0,4,5,6,7,8,9,10,133]
 | 34=>[0,4,5,6,7,8,9,10]
 | 35=>[0,4,5,6,7,8,9,10,148]
 | 36=>[0,4,5,6,7,8,9,10,11]
 | 37=>[0,4,5,6,7,8,9,10,11,153]
 | 38=>[0,4,5,6,7,8,10]
 | 39=>[0,4,5,6,7,8,9,10,11,170]
 | 40=>[0,4,5,6,7,8,10]
 | 41=>[0,4,5,6,7,8,9,10,11,181]
 | 42=>[0,4,5,6,7,8,10]
 | 43=>[0,4,5,6,7,8,10,214]
 | 44=>[0,4,5,6,7,8,10]
 | 45=>[0,4,5,6,7,8,10,228,229]
 | 46=>[0,4,5,6,7,8,10,228,229,230]
 | 47=>[0,4,5,6,7,8,10,12,228,229]
 | 48=>[0,4,5,6,7,8,10,228,229]
 | 49=>[0,4,5,6,7,8,10,228,229]
 | 50=>[0,4,5,6,7,8,10,248]
 | 51=>[2,3]
 | 52=>[0,4,5,6,7,8,10]
 | 53=>[0,4,5,6,7,8,10]
 | 54=>[0,4,5,6,7,8]
 | 55=>[4,6,257]
 | 56=>[2,3]
 | 57=>[4,6,260]
 | 58=>[4]
 | 59=>[4,270]
 | 60=>[2,3]
 | 61=>[2,3]
 | _=>[]
--LV=X53F
set_option maxHeartbeats 40000000 in
theorem w53_e0 {s:Bs} {k:Nat} {m:Int} {tg ta:Bs} {ts:Bool} {raw:Bs} {ps:List (Bs×Bs)} {out:List TokD} {rb pb:Bool} {b:UInt8} {n:Int} {ng na:Bs} {ns:Bool} {Q:AX→AS→Prop}
 (hsl:s.length≤600) (hkl:k<s.length) (hb:s.getD k 0=b) (hn:step ⟨m,tg,ta,ts⟩ b=⟨n,ng,na,ns⟩) (hx:TkAt s k ⟨⟨m,tg,ta,ts⟩,raw,ps,out⟩)
 (hrb:cond rb (m=0∨10≤m) (raw=[])) (hpb:cond pb (3≤m∧m≤8) (ps=[])) (hm:2≤m∧m≤8) (hn0:n=0) (hQ:tkStep ⟨⟨m,tg,ta,ts⟩,raw,ps,out⟩ b=none→ ∀ σ,σ.tmp 2= .nil→σ.tmp 3= .bool false→Q .ret σ):Round53 s (k,⟨⟨m,tg,ta,ts⟩,raw,ps,out⟩,rb,pb) Q:=by
 have hok:=hx.ok
 have hoS:okS ⟨m,tg,ta,ts⟩:=okS_of hok.v
 have hoN:=okS_of (stV_step ⟨m,tg,ta,ts⟩ b)
 rw [hn] at hoN
 have hst:=fun y=>hx.step (y:=y) hkl
 rw [hb] at hst
 have hlo:out.length≤k:=hx.lo
 have hlp:ps.length≤k:=hx.lp
 have hbr:raw.length≤k:=hx.bd.raw
 have hbp: ∀ p ∈ ps,bdP k p:=hx.bd.ps
 have hops:4≤m∧m≤8→ ∃ l v,ps=l++[(ta,v)]:=hok.ps
 have hz: ¬ (2≤m∧m≤8)→ps=[]:=hok.z
 have hles:m=14→raw≠[]:=hok.less
 clear hok hx
 have hbl:=byte_lt s k
 rw [hb] at hbl
 try dsimp only at hst
 have hkd:kd53 m=2:=kd53_in (by omega)
 subst hn0
 have hrb0:rb=false:=by
  cases rb
  · rfl
  · simp only [cond_true] at hrb;omega
 subst hrb0
 have hr0:raw=[]:=hrb
 subst hr0
 clear hrb
 have hm0:decide (m=0)=false:=decide_eq_false (by omega)
 have hm1:decide (m=1)=false:=decide_eq_false (by omega)
 have hm9:decide (m=9)=false:=decide_eq_false (by omega)
 have hm10:decide (m=10)=false:=decide_eq_false (by omega)
 have hm14:decide (m=14)=false:=decide_eq_false (by omega)
 unfold Round53 body53
 simp only [Tryz.f9,firstLoop,Option.getD_some,G53]
 cases pb
 · have hp0:ps=[]:=hpb
   subst hp0
   simp only [T53,M53,mkS,mkT,mkM,cond_false,List.append_nil,hkd]
   repeat' (first|((first|apply qwd|apply qa1|apply qa2|apply qh1|apply qg1 rfl|apply qcd);(try intro K hk);focus (simp only [lvX53F_9,mkT,go_sem,Nat.reduceEqDiff,Nat.reduceAdd,Nat.reduceLeDiff,↓reduceIte,reduceCtorEq,hb,hn,encS_eq,ex_St,List.length_nil,List.length_cons,Int.reduceEq,decide_true,decide_false,hm0,hm1,hm9,hm10,hm14];first|exact rfl|((repeat refine ai ?_);intros;apply hk;clear hk K)))|apply qw1|refine qwc lvX53F_9 ?_|apply qt1|apply qw5|apply qw2|apply qt4|apply qj1|apply qj2|apply qj3|apply qj4|apply qj5|apply qu1|(refine qj6 ?_ ?_<;>intro hc<;>(try simp only [hc])<;>(try simp only [decide_eq_true_eq,decide_eq_false_iff_not] at hc)<;>(try (exfalso;omega))))
   refine s_loop (ι:=Unit) (fun _=>[(0,.str s),(4,.own 0),(5,.ref 1 0),(6,.nil),(7,.ref 3 0),(8,.int .i64 k),(10,.ref 5 0),(228,.int .i64 0),(229,.int .i64 0)]) (fun _=>[(0,.row 68 4 (encTks out)),(1,.box [.int .i64 m,.str tg,.str ta,.bool ts]),(3,.box [.int .i64 2,.str tg,.str [],.nil]),(5,.box [.int .i64 0,.str ng,.str na,.bool ns])]) 6 (fun _=>True) (fun _=>0) () (by omega) trivial ?_ ?_
   · simp [fits,fitsT,fitsM,upd_def,PV.nmb,nmbL,MB.nmb]
   intro u hu
   simp only [mkS,mkT,mkM]
   have hat:=hst ⟨⟨0,ng,na,ns⟩,[],[],out++[⟨2,tg,[],[]⟩]⟩ (tkStep_e53 hm hn (by omega) (by first|assumption|simp))
   repeat' (first|((first|apply qwd|apply qa1|apply qa2|apply qcd);(try intro K hk);focus (simp only [lvX53F_9,mkT,go_sem,Nat.reduceEqDiff,Nat.reduceAdd,Nat.reduceLeDiff,↓reduceIte,reduceCtorEq,encTks_len,tok_app53n,List.length_nil,List.length_cons,Int.reduceLT,decide_false];first|exact rfl|((repeat refine ai ?_);intros;apply hk;clear hk K)))|apply qw1|refine qwc lvX53F_9 ?_|apply qt1|apply qw2|apply qt2|apply qt4|apply qt5|apply qw3|apply qj4)
   refine s_againR ((k+1,⟨⟨0,ng,na,ns⟩,[],[],out++[⟨2,tg,[],[]⟩]⟩,false,false)) (fun i=>if i=0 then 7 else i) ?_ ?_ ?_ ?_ ?_ ?_<;>(first|omega|(dsimp only;omega)|(intro i hi;(try dsimp only);(repeat' split)<;>omega)|(intro i j hi hj h;(try dsimp only at h);(repeat' split at h)<;>omega)|skip)
   all_goals first|(unfold good53;exact ⟨by dsimp only;omega,hat,rfl,rfl⟩)|(unfold mu53;dsimp only;omega)|(simp [T53,M53,fitsTR,fitsMR,PV.ren,renL,MB.ren,upd_def,PV.nmb,nmbL,MB.nmb,encS_mk,kd53, *];done)
 · simp only [T53,M53,mkS,mkT,mkM,cond_true,cond_false,List.append_nil,List.cons_append,List.nil_append,hkd]
   repeat' (first|((first|apply qwd|apply qa1|apply qa2|apply qh1|apply qg1 rfl|apply qcd);(try intro K hk);focus (simp only [lvX53F_9,mkT,go_sem,Nat.reduceEqDiff,Nat.reduceAdd,Nat.reduceLeDiff,↓reduceIte,reduceCtorEq,hb,hn,encS_eq,ex_St,encPrs_len,List.length_nil,List.length_cons,Int.reduceEq,decide_true,decide_false,hm0,hm1,hm9,hm10,hm14];first|exact rfl|((repeat refine ai ?_);intros;apply hk;clear hk K)))|apply qw1|refine qwc lvX53F_9 ?_|apply qt1|apply qw5|apply qw2|apply qt4|apply qj1|apply qj2|apply qj3|apply qj4|apply qj5|apply qu1|(refine qj6 ?_ ?_<;>intro hc<;>(try simp only [hc])<;>(try simp only [decide_eq_true_eq,decide_eq_false_iff_not] at hc)<;>(try (exfalso;omega))))
   refine s_loop (ι:=Nat) (fun j=>[(0,.str s),(4,.own 0),(5,.ref 1 0),(6,.nil),(7,.ref 3 0),(8,.int .i64 k),(10,.ref 5 0),(228,.int .i64 ps.length),(229,.int .i64 j)]) (fun j=>[(0,.row 68 4 (encTks out)),(1,.box [.int .i64 m,.str tg,.str ta,.bool ts]),(3,.box [.int .i64 2,.str tg,.str [],.own 4]),(4,.row 72 2 (encPrs (psJ ps j))),(5,.box [.int .i64 0,.str ng,.str na,.bool ns])]) 6 (fun j=>j≤ps.length) (fun j=>ps.length - j) 0 (by omega) (Nat.zero_le _) ?_ ?_
   · simp [fits,fitsT,fitsM,upd_def,PV.nmb,nmbL,MB.nmb,psJ_zero]
   intro j hj
   simp only [mkS,mkT,mkM]
   have hpl:=psJ_len ps j
   by_cases hjl:j<ps.length
   · obtain ⟨⟨pn,pv⟩,hp⟩:=get_some (xs:=ps) (k:=j) hjl
     have hg:=psJ_get hp
     have hset:=psJ_set hp
     have hpv:=(hbp _ (List.mem_of_getElem? hp)).2
     dsimp only at hg hset hpv
     repeat' (first|(refine qw10 [3] [0,1,2,3,4,5,7,9,11] [0,1,2,3,4,5,6,7,8,9,10,11,12] ?_ ?_;focus (decide +kernel))|(first|((first|apply qwd|apply qa1|apply qm1|apply qm2|apply qm3|apply qcd);(try intro K hk);focus (simp only [lvX53F_9,mkT,go_sem,Nat.reduceEqDiff,Nat.reduceAdd,Nat.reduceLeDiff,↓reduceIte,reduceCtorEq,encPrs_len,List.length_nil,List.length_cons,hpl,hg,hset];first|exact rfl|((repeat refine ai ?_);intros;apply hk;clear hk K)))|apply qw1|refine qwc lvX53F_9 ?_|apply qt1|apply qw5|apply qw2|apply qt4|apply qj1|apply qne|(refine qj6 ?_ ?_<;>intro hc<;>(try simp only [hc])<;>(try simp only [decide_eq_true_eq,decide_eq_false_iff_not] at hc)<;>(try (exfalso;omega)))|(refine qk1 ?_ ?_;focus (repeat (first|exact qsub0|(refine qsub1 ?_ ?_;focus (simp only [go_sem,Nat.reduceEqDiff,↓reduceIte,reduceCtorEq])))))))
     refine s_again (j+1) ?_ ?_ ?_<;>(first|omega|(dsimp only;omega)|skip)
     all_goals (simp [fits,fitsT,fitsM,upd_def,PV.nmb,nmbL,MB.nmb, *];done)
   · obtain rfl:j=ps.length:=by omega
     rw [psJ_all] at *
     by_cases h60:60<ps.length
     · have h61:((ps.length:Int) > 60):=by omega
       repeat' (first|((first|apply qwd|apply qa1|apply qcd);(try intro K hk);focus (simp only [lvX53F_9,mkT,go_sem,Nat.reduceEqDiff,↓reduceIte,reduceCtorEq,encPrs_len,decide_true,unPs_len,h61,decide_true];first|exact rfl|((repeat refine ai ?_);intros;apply hk;clear hk K)))|apply qw1|refine qwc lvX53F_9 ?_|apply qt1|apply qt2|apply qt3|apply qt5|apply qt6|apply qw3|apply qw4|apply qj1|apply qj4|(refine qj6 ?_ ?_<;>intro hc<;>(try simp only [hc])<;>(try simp only [decide_eq_true_eq,decide_eq_false_iff_not] at hc)<;>(try (exfalso;omega))))
       exact hQ (tkStep_f53 hm hn (by omega) h60) _ rfl rfl
     · have h61: ¬ ((ps.length:Int) > 60):=by omega
       have hat:=hst ⟨⟨0,ng,na,ns⟩,[],[],out++[⟨2,tg,[],unPs ps⟩]⟩ (tkStep_e53 hm hn (by omega) (by first|assumption|simp))
       repeat' (first|((first|apply qwd|apply qa1|apply qa2|apply qcd);(try intro K hk);focus (simp only [lvX53F_9,mkT,go_sem,Nat.reduceEqDiff,Nat.reduceAdd,Nat.reduceLeDiff,↓reduceIte,reduceCtorEq,encTks_len,encPrs_len,List.length_nil,List.length_cons,decide_false,unPs_len,h61,decide_false,encTks_pt];first|exact rfl|((repeat refine ai ?_);intros;apply hk;clear hk K)))|apply qw1|refine qwc lvX53F_9 ?_|apply qt1|apply qw2|apply qt2|apply qt4|apply qt5|apply qw3|apply qj4|(refine qj6 ?_ ?_<;>intro hc<;>(try simp only [hc])<;>(try simp only [decide_eq_true_eq,decide_eq_false_iff_not] at hc)<;>(try (exfalso;omega))))
       refine s_againR ((k+1,⟨⟨0,ng,na,ns⟩,[],[],out++[⟨2,tg,[],unPs ps⟩]⟩,false,false)) (fun i=>if i=0 then 7 else i) ?_ ?_ ?_ ?_ ?_ ?_<;>(first|omega|(dsimp only;omega)|(intro i hi;(try dsimp only);(repeat' split)<;>omega)|(intro i j hi hj h;(try dsimp only at h);(repeat' split at h)<;>omega)|skip)
       all_goals first|(unfold good53;exact ⟨by dsimp only;omega,hat,rfl,rfl⟩)|(unfold mu53;dsimp only;omega)|(simp [T53,M53,fitsTR,fitsMR,PV.ren,renL,MB.ren,upd_def,PV.nmb,nmbL,MB.nmb,encS_mk,kd53, *];done)
set_option maxHeartbeats 40000000 in
theorem w53_e11 {s:Bs} {k:Nat} {m:Int} {tg ta:Bs} {ts:Bool} {raw:Bs} {ps:List (Bs×Bs)} {out:List TokD} {rb pb:Bool} {b:UInt8} {n:Int} {ng na:Bs} {ns:Bool} {Q:AX→AS→Prop}
 (hsl:s.length≤600) (hkl:k<s.length) (hb:s.getD k 0=b) (hn:step ⟨m,tg,ta,ts⟩ b=⟨n,ng,na,ns⟩) (hx:TkAt s k ⟨⟨m,tg,ta,ts⟩,raw,ps,out⟩)
 (hrb:cond rb (m=0∨10≤m) (raw=[])) (hpb:cond pb (3≤m∧m≤8) (ps=[])) (hm:2≤m∧m≤8) (hn0:n=11) (hQ:tkStep ⟨⟨m,tg,ta,ts⟩,raw,ps,out⟩ b=none→ ∀ σ,σ.tmp 2= .nil→σ.tmp 3= .bool false→Q .ret σ):Round53 s (k,⟨⟨m,tg,ta,ts⟩,raw,ps,out⟩,rb,pb) Q:=by
 have hok:=hx.ok
 have hoS:okS ⟨m,tg,ta,ts⟩:=okS_of hok.v
 have hoN:=okS_of (stV_step ⟨m,tg,ta,ts⟩ b)
 rw [hn] at hoN
 have hst:=fun y=>hx.step (y:=y) hkl
 rw [hb] at hst
 have hlo:out.length≤k:=hx.lo
 have hlp:ps.length≤k:=hx.lp
 have hbr:raw.length≤k:=hx.bd.raw
 have hbp: ∀ p ∈ ps,bdP k p:=hx.bd.ps
 have hops:4≤m∧m≤8→ ∃ l v,ps=l++[(ta,v)]:=hok.ps
 have hz: ¬ (2≤m∧m≤8)→ps=[]:=hok.z
 have hles:m=14→raw≠[]:=hok.less
 clear hok hx
 have hbl:=byte_lt s k
 rw [hb] at hbl
 try dsimp only at hst
 have hkd:kd53 m=2:=kd53_in (by omega)
 subst hn0
 have hrb0:rb=false:=by
  cases rb
  · rfl
  · simp only [cond_true] at hrb;omega
 subst hrb0
 have hr0:raw=[]:=hrb
 subst hr0
 clear hrb
 have hm0:decide (m=0)=false:=decide_eq_false (by omega)
 have hm1:decide (m=1)=false:=decide_eq_false (by omega)
 have hm9:decide (m=9)=false:=decide_eq_false (by omega)
 have hm10:decide (m=10)=false:=decide_eq_false (by omega)
 have hm14:decide (m=14)=false:=decide_eq_false (by omega)
 unfold Round53 body53
 simp only [Tryz.f9,firstLoop,Option.getD_some,G53]
 cases pb
 · have hp0:ps=[]:=hpb
   subst hp0
   simp only [T53,M53,mkS,mkT,mkM,cond_false,List.append_nil,hkd]
   repeat' (first|((first|apply qwd|apply qa1|apply qa2|apply qh1|apply qg1 rfl|apply qcd);(try intro K hk);focus (simp only [lvX53F_9,mkT,go_sem,Nat.reduceEqDiff,Nat.reduceAdd,Nat.reduceLeDiff,↓reduceIte,reduceCtorEq,hb,hn,encS_eq,ex_St,List.length_nil,List.length_cons,Int.reduceEq,decide_true,decide_false,hm0,hm1,hm9,hm10,hm14];first|exact rfl|((repeat refine ai ?_);intros;apply hk;clear hk K)))|apply qw1|refine qwc lvX53F_9 ?_|apply qt1|apply qw5|apply qw2|apply qt4|apply qj1|apply qj2|apply qj4|apply qj5|apply qu1|(refine qj6 ?_ ?_<;>intro hc<;>(try simp only [hc])<;>(try simp only [decide_eq_true_eq,decide_eq_false_iff_not] at hc)<;>(try (exfalso;omega))))
   refine s_loop (ι:=Unit) (fun _=>[(0,.str s),(4,.own 0),(5,.ref 1 0),(6,.nil),(7,.ref 3 0),(8,.int .i64 k),(10,.ref 5 0),(228,.int .i64 0),(229,.int .i64 0)]) (fun _=>[(0,.row 68 4 (encTks out)),(1,.box [.int .i64 m,.str tg,.str ta,.bool ts]),(3,.box [.int .i64 2,.str tg,.str [],.nil]),(5,.box [.int .i64 11,.str ng,.str na,.bool ns])]) 6 (fun _=>True) (fun _=>0) () (by omega) trivial ?_ ?_
   · simp [fits,fitsT,fitsM,upd_def,PV.nmb,nmbL,MB.nmb]
   intro u hu
   simp only [mkS,mkT,mkM]
   have hat:=hst ⟨⟨11,ng,na,ns⟩,[],[],out++[⟨2,tg,[],[]⟩]⟩ (tkStep_e53 hm hn (by omega) (by first|assumption|simp))
   repeat' (first|((first|apply qwd|apply qa1|apply qa2|apply qcd);(try intro K hk);focus (simp only [lvX53F_9,mkT,go_sem,Nat.reduceEqDiff,Nat.reduceAdd,Nat.reduceLeDiff,↓reduceIte,reduceCtorEq,encTks_len,tok_app53n,List.length_nil,List.length_cons,Int.reduceLT,decide_false];first|exact rfl|((repeat refine ai ?_);intros;apply hk;clear hk K)))|apply qw1|refine qwc lvX53F_9 ?_|apply qt1|apply qw2|apply qt2|apply qt4|apply qt5|apply qw3|apply qj4)
   refine s_againR ((k+1,⟨⟨11,ng,na,ns⟩,[],[],out++[⟨2,tg,[],[]⟩]⟩,false,false)) (fun i=>if i=0 then 7 else i) ?_ ?_ ?_ ?_ ?_ ?_<;>(first|omega|(dsimp only;omega)|(intro i hi;(try dsimp only);(repeat' split)<;>omega)|(intro i j hi hj h;(try dsimp only at h);(repeat' split at h)<;>omega)|skip)
   all_goals first|(unfold good53;exact ⟨by dsimp only;omega,hat,rfl,rfl⟩)|(unfold mu53;dsimp only;omega)|(simp [T53,M53,fitsTR,fitsMR,PV.ren,renL,MB.ren,upd_def,PV.nmb,nmbL,MB.nmb,encS_mk,kd53, *];done)
 · simp only [T53,M53,mkS,mkT,mkM,cond_true,cond_false,List.append_nil,List.cons_append,List.nil_append,hkd]
   repeat' (first|((first|apply qwd|apply qa1|apply qa2|apply qh1|apply qg1 rfl|apply qcd);(try intro K hk);focus (simp only [lvX53F_9,mkT,go_sem,Nat.reduceEqDiff,Nat.reduceAdd,Nat.reduceLeDiff,↓reduceIte,reduceCtorEq,hb,hn,encS_eq,ex_St,encPrs_len,List.length_nil,List.length_cons,Int.reduceEq,decide_true,decide_false,hm0,hm1,hm9,hm10,hm14];first|exact rfl|((repeat refine ai ?_);intros;apply hk;clear hk K)))|apply qw1|refine qwc lvX53F_9 ?_|apply qt1|apply qw5|apply qw2|apply qt4|apply qj1|apply qj2|apply qj4|apply qj5|apply qu1|(refine qj6 ?_ ?_<;>intro hc<;>(try simp only [hc])<;>(try simp only [decide_eq_true_eq,decide_eq_false_iff_not] at hc)<;>(try (exfalso;omega))))
   refine s_loop (ι:=Nat) (fun j=>[(0,.str s),(4,.own 0),(5,.ref 1 0),(6,.nil),(7,.ref 3 0),(8,.int .i64 k),(10,.ref 5 0),(228,.int .i64 ps.length),(229,.int .i64 j)]) (fun j=>[(0,.row 68 4 (encTks out)),(1,.box [.int .i64 m,.str tg,.str ta,.bool ts]),(3,.box [.int .i64 2,.str tg,.str [],.own 4]),(4,.row 72 2 (encPrs (psJ ps j))),(5,.box [.int .i64 11,.str ng,.str na,.bool ns])]) 6 (fun j=>j≤ps.length) (fun j=>ps.length - j) 0 (by omega) (Nat.zero_le _) ?_ ?_
   · simp [fits,fitsT,fitsM,upd_def,PV.nmb,nmbL,MB.nmb,psJ_zero]
   intro j hj
   simp only [mkS,mkT,mkM]
   have hpl:=psJ_len ps j
   by_cases hjl:j<ps.length
   · obtain ⟨⟨pn,pv⟩,hp⟩:=get_some (xs:=ps) (k:=j) hjl
     have hg:=psJ_get hp
     have hset:=psJ_set hp
     have hpv:=(hbp _ (List.mem_of_getElem? hp)).2
     dsimp only at hg hset hpv
     repeat' (first|(refine qw10 [3] [0,1,2,3,4,5,7,9,11] [0,1,2,3,4,5,6,7,8,9,10,11,12] ?_ ?_;focus (decide +kernel))|(first|((first|apply qwd|apply qa1|apply qm1|apply qm2|apply qm3|apply qcd);(try intro K hk);focus (simp only [lvX53F_9,mkT,go_sem,Nat.reduceEqDiff,Nat.reduceAdd,Nat.reduceLeDiff,↓reduceIte,reduceCtorEq,encPrs_len,List.length_nil,List.length_cons,hpl,hg,hset];first|exact rfl|((repeat refine ai ?_);intros;apply hk;clear hk K)))|apply qw1|refine qwc lvX53F_9 ?_|apply qt1|apply qw5|apply qw2|apply qt4|apply qj1|apply qne|(refine qj6 ?_ ?_<;>intro hc<;>(try simp only [hc])<;>(try simp only [decide_eq_true_eq,decide_eq_false_iff_not] at hc)<;>(try (exfalso;omega)))|(refine qk1 ?_ ?_;focus (repeat (first|exact qsub0|(refine qsub1 ?_ ?_;focus (simp only [go_sem,Nat.reduceEqDiff,↓reduceIte,reduceCtorEq])))))))
     refine s_again (j+1) ?_ ?_ ?_<;>(first|omega|(dsimp only;omega)|skip)
     all_goals (simp [fits,fitsT,fitsM,upd_def,PV.nmb,nmbL,MB.nmb, *];done)
   · obtain rfl:j=ps.length:=by omega
     rw [psJ_all] at *
     by_cases h60:60<ps.length
     · have h61:((ps.length:Int) > 60):=by omega
       repeat' (first|((first|apply qwd|apply qa1|apply qcd);(try intro K hk);focus (simp only [lvX53F_9,mkT,go_sem,Nat.reduceEqDiff,↓reduceIte,reduceCtorEq,encPrs_len,decide_true,unPs_len,h61,decide_true];first|exact rfl|((repeat refine ai ?_);intros;apply hk;clear hk K)))|apply qw1|refine qwc lvX53F_9 ?_|apply qt1|apply qt2|apply qt3|apply qt5|apply qt6|apply qw3|apply qw4|apply qj1|apply qj4|(refine qj6 ?_ ?_<;>intro hc<;>(try simp only [hc])<;>(try simp only [decide_eq_true_eq,decide_eq_false_iff_not] at hc)<;>(try (exfalso;omega))))
       exact hQ (tkStep_f53 hm hn (by omega) h60) _ rfl rfl
     · have h61: ¬ ((ps.length:Int) > 60):=by omega
       have hat:=hst ⟨⟨11,ng,na,ns⟩,[],[],out++[⟨2,tg,[],unPs ps⟩]⟩ (tkStep_e53 hm hn (by omega) (by first|assumption|simp))
       repeat' (first|((first|apply qwd|apply qa1|apply qa2|apply qcd);(try intro K hk);focus (simp only [lvX53F_9,mkT,go_sem,Nat.reduceEqDiff,Nat.reduceAdd,Nat.reduceLeDiff,↓reduceIte,reduceCtorEq,encTks_len,encPrs_len,List.length_nil,List.length_cons,decide_false,unPs_len,h61,decide_false,encTks_pt];first|exact rfl|((repeat refine ai ?_);intros;apply hk;clear hk K)))|apply qw1|refine qwc lvX53F_9 ?_|apply qt1|apply qw2|apply qt2|apply qt4|apply qt5|apply qw3|apply qj4|(refine qj6 ?_ ?_<;>intro hc<;>(try simp only [hc])<;>(try simp only [decide_eq_true_eq,decide_eq_false_iff_not] at hc)<;>(try (exfalso;omega))))
       refine s_againR ((k+1,⟨⟨11,ng,na,ns⟩,[],[],out++[⟨2,tg,[],unPs ps⟩]⟩,false,false)) (fun i=>if i=0 then 7 else i) ?_ ?_ ?_ ?_ ?_ ?_<;>(first|omega|(dsimp only;omega)|(intro i hi;(try dsimp only);(repeat' split)<;>omega)|(intro i j hi hj h;(try dsimp only at h);(repeat' split at h)<;>omega)|skip)
       all_goals first|(unfold good53;exact ⟨by dsimp only;omega,hat,rfl,rfl⟩)|(unfold mu53;dsimp only;omega)|(simp [T53,M53,fitsTR,fitsMR,PV.ren,renL,MB.ren,upd_def,PV.nmb,nmbL,MB.nmb,encS_mk,kd53, *];done)
end Go.Proofs.YtnbjogilidfkdaaGreat
