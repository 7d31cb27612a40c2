/- Contracts: reading tokens, what is spoken of. -/
import Derived.Test.YtnbjogilidfkdaaHK21
import Derived.Test.YtnbjogilidfkdaaHX3
import Derived.Test.YtnbjogilidfkdaaHS0
import Derived.Test.YtnbjogilidfkdaaHX1
import Derived.Test.YtnbjogilidfkdaaHK3

namespace Go.Proofs.Ytnbjogilidfkdaa
set_option maxRecDepth 100000
set_option linter.unusedVariables false
set_option linter.unusedSimpArgs false
open Go.RowKit
--LV=X53A
@[go_sem] def tkC:PC:=rel (α:=Bs) (fun x=>[.str x]) (fun x=>x.length≤1099511627776) (fun x=> .tup [.seq (encTks ((tokM x).getD [])),.bool (tokM x).isSome])
theorem bytes_app53 (a:Bs) (b:UInt8):a.map bc++[[.int .u8 b.toNat]]=(a++[b]).map bc:=by simp [bc]
theorem bytes_all53 (a:Bs):(∀ e ∈ a.map bc,e.length=1)=True:=eq_true (by
 intro e he
 obtain ⟨b,_,rfl⟩:=List.mem_map.1 he;rfl)
theorem tok_app53n (l:List TokD) (k:Int) (n v:Bs):encTks l++[[.int .i64 k,.str n,.str v,.seq []]]=encTks (l++[⟨k,n,v,[]⟩]):=encTks_pt l k n v []
def kd53 (m:Int):Int:=if 2≤m∧m≤8 then 2 else 0
theorem kd53_in {m:Int} (h:2≤m∧m≤8):kd53 m=2:=if_pos h
theorem kd53_out {m:Int} (h: ¬ (2≤m∧m≤8)):kd53 m=0:=if_neg h
def firstLoop:Code→Option Code
 | .loop c=>some c
 | .seq a b=>match firstLoop a with
   | some c=>some c
   | none=>firstLoop b
 | .block _ c=>firstLoop c
 | .scope c=>firstLoop c
 | _=>none
theorem tkStep_e53 {m n:Int} {tg ta ng na raw:Bs} {ts ns:Bool} {ps:List (Bs×Bs)} {out:List TokD} {b:UInt8} (hm:2≤m∧m≤8) (hn:step ⟨m,tg,ta,ts⟩ b=⟨n,ng,na,ns⟩) (h:n=0∨n=11) (h60: ¬ 60<ps.length):tkStep ⟨⟨m,tg,ta,ts⟩,raw,ps,out⟩ b=some ⟨⟨n,ng,na,ns⟩,raw,[],out++[tkOpen tg (unPs ps)]⟩:=by
 unfold tkStep
 rw [hn]
 dsimp only
 rw [if_neg (by omega),if_pos ⟨hm,h⟩,if_neg h60]
theorem tkStep_f53 {m n:Int} {tg ta ng na raw:Bs} {ts ns:Bool} {ps:List (Bs×Bs)} {out:List TokD} {b:UInt8} (hm:2≤m∧m≤8) (hn:step ⟨m,tg,ta,ts⟩ b=⟨n,ng,na,ns⟩) (h:n=0∨n=11) (h60:60<ps.length):tkStep ⟨⟨m,tg,ta,ts⟩,raw,ps,out⟩ b=none:=by
 unfold tkStep
 rw [hn]
 dsimp only
 rw [if_neg (by omega),if_pos ⟨hm,h⟩,if_pos h60]
/-- What is done with a byte. -/
noncomputable def body53:Code:=match Try.f29.body with
 | some c=>(firstLoop c).getD .skip
 | none=> .skip
def T53 (s:Bs) (i:Nat×TkI×Bool×Bool):List (Nat×PV):=[(0,.str s),(4,.own 0),(5,.ref 1 0),(6,cond i.2.2.1 (.own 2) .nil),(7,.ref 3 0),(8,.int .i64 i.1)]
def M53 (i:Nat×TkI×Bool×Bool):List (Nat×MB):=[(0,.row 29 4 (encTks i.2.1.out)),(1,.box (encS i.2.1.s)),(3,.box [.int .i64 (kd53 i.2.1.s.mode),.str [],.str [],cond i.2.2.2 (.own 4) .nil])]++cond i.2.2.1 [(2,.row 5 1 (i.2.1.raw.map bc))] []++cond i.2.2.2 [(4,.row 33 2 (encPrs i.2.1.ps))] []
def good53 (s:Bs) (i:Nat×TkI×Bool×Bool):Prop:=i.1≤s.length∧TkAt s i.1 i.2.1∧(cond i.2.2.1 (i.2.1.s.mode=0∨10≤i.2.1.s.mode) (i.2.1.raw=[]))∧(cond i.2.2.2 (3≤i.2.1.s.mode∧i.2.1.s.mode≤8) (i.2.1.ps=[]))
def mu53 (s:Bs) (i:Nat×TkI×Bool×Bool):Nat:=s.length - i.1
def G53:PCtr:=tab [(23,strC textB),(71,sbC okS step),(72,tC fun s=> .str (unT s))]
/-- One round leads on. -/
def Round53 (s:Bs) (i:Nat×TkI×Bool×Bool) (Q:AX→AS→Prop):Prop:=awp Try.prog G53 (Γof G53) 0 body53 (AX.then (Again 0 (T53 s) M53 5 (good53 s) (mu53 s) i) Q) (mkS (T53 s i) (M53 i) 5)
end Go.Proofs.Ytnbjogilidfkdaa

/- Contracts: tags that may stand, tags without an end, balanced tokens. -/
namespace Go.Proofs.Ytnbjogilidfkdaa
attribute [local irreducible] awp arun acalm FinP Fin AX.then AX.inBlock Again aG gsel amix amixN amixC aop aopc aopd cutK
attribute [local go_sem] aBSliceD aSlice aSliceC boundOf aMk aCall aCallC aLenL aLen aPick_t aPick_f aNil aAlloc aBox aBuild bldPV aBSlice bsPV aApp newsOf destOf drp aConvX aConv aConvInt aLoad cellsAt aStore cellsPV setAt aFld aField aIdx aIndex aUn aBin' aBin aMax aExtract pvOf PV.isCell nmbL PV.nmb List.map_cons List.map_nil List.all_cons List.all_nil Bool.and_true Bool.true_and if_true if_false List.getD_cons_zero List.getD_cons_succ List.getD_nil Option.isSome_some true_and and_true and_self eq_self true_or or_true List.drop_zero List.drop_succ_cons List.drop_nil List.take_zero List.take_succ_cons List.take_nil List.length_cons List.length_nil List.length_map Option.getD_some Option.getD_none List.nil_append List.cons_append List.append_nil Option.some.injEq exists_eq_left' List.getElem?_cons_zero List.getElem?_cons_succ Int.toNat_natCast Int.natCast_inj toNat_succ Nat.zero_add res res1 resC owns owns1 ownsC List.flatMap_cons List.flatMap_nil List.flatten_cons List.flatten_nil List.mem_cons List.not_mem_nil or_false false_or forall_eq forall_eq_or_imp isFro frz frz1 pureC tabA isBld List.cons.injEq PV.seq.injEq PV.int.injEq PV.str.injEq PV.bool.injEq PV.agg.injEq inR tab Γof aRes packR Option.map_some Option.map_none rel Prod.exists exists_and_left exists_eq_left and_assoc beq_self_eq_true Bool.not_true Bool.not_false decide_true decide_false List.set_cons_zero List.set_cons_succ rst_nil rst_cons
attribute [local go_sem ↓] evT upd_def aop aopc aopd
set_option maxRecDepth 100000
set_option linter.unusedVariables false
set_option linter.unusedSimpArgs false
open Go.RowKit
def lvX50_16:Nat→List Nat
 | 0=>[0]
 | 1=>[3]
 | 2=>[3,4]
 | 3=>[3,4]
 | 4=>[3,4]
 | 5=>[3,4]
 | 6=>[3,4]
 | 7=>[3,4]
 | 8=>[3,4]
 | 9=>[4]
 | 10=>[2]
 | 11=>[2]
 | _=>[]
def lvX50_46:Nat→List Nat
 | 0=>[0]
 | 1=>[2]
 | _=>[]
def lvX50_50:Nat→List Nat
 | 0=>[0]
 | 1=>[0,4]
 | 2=>[0,4,5]
 | 3=>[4,5,9,10,11]
 | 4=>[4,5,9,10,11,12]
 | 5=>[4,5,7,9,10,11]
 | 6=>[4,5,7,9,10,11,23]
 | 7=>[4,5,7,9,10,11]
 | 8=>[4,5,7,9,10,11]
 | 9=>[4,5,7,9,10,11,35]
 | 10=>[4,5,9,10,11,49]
 | 11=>[2,3]
 | 12=>[4,5,9,10,11]
 | 13=>[4,5,9,10,11]
 | 14=>[2,3]
 | _=>[]
def lvX50_84:Nat→List Nat
 | 0=>[0]
 | 1=>[2]
 | _=>[]
def lvX50_86:Nat→List Nat
 | 0=>[0]
 | 1=>[2]
 | _=>[]
--LV=X50
@[go_sem] def tgC (f:Bs→Bool):PC:=rel (α:=Bs) (fun x=>[.str x]) (fun x=>x.length≤1048576) (fun x=> .bool (f x))
theorem strs_all50 (l:List Bs):(∀ e ∈ strs l,e.length=1)=True:=strs_all l
theorem tgA_i:PureOk Try.prog 16 (tgC tagN):=by
 refine pure_rel 1 tab_nil mixed [.tmp 2] Try.func16 rfl rfl (by kernel_rfl) (by kernel_rfl) (fun _=>rfl) (by kernel_rfl) ?_
 rintro n K hn hK
 unfold tagN at hK
 unfold entry
 repeat' (first|((first|apply qwd|apply qa1|apply qcd);(try intro K hk);focus (simp only [lvX50_16,mkT,go_sem,Nat.reduceEqDiff,↓reduceIte,reduceCtorEq];first|exact rfl|((repeat refine ai ?_);intros;apply hk;clear hk K)))|apply qw1|refine qwc lvX50_16 ?_|apply qt1|apply qw5|apply qw2|apply qt3|apply qt4|apply qt6|apply qw4|apply qj1|apply qj4|(refine qj6 ?_ ?_<;>intro hc<;>(try simp only [hc])<;>(try simp only [decide_eq_true_eq,decide_eq_false_iff_not] at hc)<;>(try (exfalso;omega))))
 all_goals
  ((first|refine fin_ret ?_|refine fin_end ?_);simp only [go_sem,↓upd_def,↓reduceIte])
  refine K_bool hK ?_
  simp [*]
theorem tgA_s:PureOk Try.prog 46 (tgC tagN):=by
 refine pure_rel 1 tab_nil mixed [.tmp 2] Try.func46 rfl rfl (by kernel_rfl) (by kernel_rfl) (fun _=>rfl) (by kernel_rfl) ?_
 rintro n K hn hK
 unfold tagN at hK
 unfold entry
 repeat' (first|((first|apply qwd|apply qa1|apply qh1|apply qg1 rfl);(try intro K hk);focus (simp only [lvX50_46,mkT,go_sem,Nat.reduceEqDiff,↓reduceIte,reduceCtorEq];first|exact rfl|((repeat refine ai ?_);intros;apply hk;clear hk K)))|apply qw1|refine qwc lvX50_46 ?_|apply qt1|apply qw4|apply qj2|apply qj3|apply qu1|(refine qj6 ?_ ?_<;>intro hc<;>(try simp only [hc])<;>(try simp only [decide_eq_true_eq,decide_eq_false_iff_not] at hc)<;>(try (exfalso;omega))))
 all_goals
  ((first|refine fin_ret ?_|refine fin_end ?_);simp only [go_sem,↓upd_def,↓reduceIte])
  refine K_bool hK ?_
  simp [*]
theorem vo_i:PureOk Try.prog 84 (tgC voidN):=by
 refine pure_rel 1 tab_nil mixed [.tmp 2] Try.func84 rfl rfl (by kernel_rfl) (by kernel_rfl) (fun _=>rfl) (by kernel_rfl) ?_
 rintro n K hn hK
 unfold voidN at hK
 unfold entry
 repeat' (first|((first|apply qwd|apply qa1|apply qh1|apply qg1 rfl);(try intro K hk);focus (simp only [lvX50_84,mkT,go_sem,Nat.reduceEqDiff,↓reduceIte,reduceCtorEq];first|exact rfl|((repeat refine ai ?_);intros;apply hk;clear hk K)))|apply qw1|refine qwc lvX50_84 ?_|apply qt1|apply qw4|apply qj2|apply qj3|apply qu1|(refine qj6 ?_ ?_<;>intro hc<;>(try simp only [hc])<;>(try simp only [decide_eq_true_eq,decide_eq_false_iff_not] at hc)<;>(try (exfalso;omega))))
 all_goals
  ((first|refine fin_ret ?_|refine fin_end ?_);simp only [go_sem,↓upd_def,↓reduceIte])
  refine K_bool hK ?_
  simp [*]
theorem vo_s:PureOk Try.prog 86 (tgC voidN):=by
 refine pure_rel 1 tab_nil mixed [.tmp 2] Try.func86 rfl rfl (by kernel_rfl) (by kernel_rfl) (fun _=>rfl) (by kernel_rfl) ?_
 rintro n K hn hK
 unfold voidN at hK
 unfold entry
 repeat' (first|((first|apply qwd|apply qa1|apply qh1|apply qg1 rfl);(try intro K hk);focus (simp only [lvX50_86,mkT,go_sem,Nat.reduceEqDiff,↓reduceIte,reduceCtorEq];first|exact rfl|((repeat refine ai ?_);intros;apply hk;clear hk K)))|apply qw1|refine qwc lvX50_86 ?_|apply qt1|apply qw4|apply qj2|apply qj3|apply qu1|(refine qj6 ?_ ?_<;>intro hc<;>(try simp only [hc])<;>(try simp only [decide_eq_true_eq,decide_eq_false_iff_not] at hc)<;>(try (exfalso;omega))))
 all_goals
  ((first|refine fin_ret ?_|refine fin_end ?_);simp only [go_sem,↓upd_def,↓reduceIte])
  refine K_bool hK ?_
  simp [*]
@[go_sem] def balC:PC:=rel (α:=List TokD) (fun x=>[.seq (encTks x)]) smTks (fun x=> .bool (balF [] x))
@[go_sem] def depC:PC:=rel (α:=List TokD) (fun x=>[.seq (encTks x)]) smTks (fun x=> .tup [.int .i64 (depF [] 0 x).1,.bool (depF [] 0 x).2])
set_option maxHeartbeats 8000000 in
theorem dep_i:PureOk Try.prog 50 depC:=by
 refine pure_rel 1 (tab_cons vo_i tab_nil) mixed [.tmp 2,.tmp 3] Try.func50 rfl rfl (by kernel_rfl) (by kernel_rfl) (fun _=>rfl) (by kernel_rfl) ?_
 rintro l K hsm hK
 obtain ⟨hl,hall⟩:=id hsm
 have hst:=strs_all50
 have hsl:=strs_length
 have hz0:decide (((0:Nat):Int)=0)=true:=by simp
 unfold entry
 repeat' (first|((first|apply qwd|apply qa1);(try intro K hk);focus (simp only [lvX50_50,mkT,go_sem,Nat.reduceEqDiff,↓reduceIte,reduceCtorEq,encTks_len];first|exact rfl|((repeat refine ai ?_);intros;apply hk;clear hk K)))|apply qw1|refine qwc lvX50_50 ?_|apply qt1|apply qw5)
 refine s_loop (ι:=Nat×List Bs×Nat) (fun i=>[(4,.own 0),(5,.int .i64 i.2.2),(9,.seq (encTks l)),(10,.int .i64 l.length),(11,.int .i64 i.1)]) (fun i=>[(0,.row 9 1 (strs i.2.1.reverse))]) 1 (fun i=>i.1≤l.length∧i.2.1.length≤i.1∧i.2.2≤1000∧(∀ n ∈ i.2.1,n.length≤10)∧depF [] 0 l=depF i.2.1 i.2.2 (l.drop i.1)) (fun i=>l.length - i.1) (0,[],0) (by omega) (by dsimp only;exact ⟨Nat.zero_le _,Nat.zero_le _,Nat.zero_le _,(fun n hn=>by cases hn),rfl⟩) ?_ ?_
 · simp [fits,fitsT,fitsM,upd_def,PV.nmb,MB.nmb,strs]
 rintro ⟨k,st,m⟩ ⟨hk,hs,hm,hn,hd⟩
 dsimp only at hk hs hm hn hd
 simp only [mkS,mkT,mkM]
 have hrl:(strs st.reverse).length=st.length:=by simp [strs]
 by_cases hkl:k<l.length
 · obtain ⟨⟨kd,nm,v,ps⟩,hx⟩:=get_some (xs:=l) (k:=k) hkl
   have hsk:=smTk_at hsm hx
   obtain ⟨b1,b2,b3,b4⟩:=hsk
   dsimp only at b1 b2 b3 b4
   have hg:(encTks l)[k]?=some [.int .i64 kd,.str nm,.str v,.seq (encPrs ps)]:=by rw [encTks_get,hx];rfl
   rw [drop_tk hx] at hd
   by_cases k2:kd=2
   · subst k2
     cases hv:voidN nm with
     | false =>
       rw [dep_2 rfl hv] at hd
       have hnc: ∀ a ∈ nm::st,a.length≤10:=by
        intro a ha
        rcases List.mem_cons.1 ha with rfl|ha
        · exact b1
        · exact hn a ha
       have hmx:max (m:Int) ((st.length+1:Nat):Int)=((max m (st.length+1):Nat):Int):=by omega
       repeat' (first|((first|apply qwd|apply qa1|apply qa2|apply qh1|apply qg1 rfl|apply qcd);(try intro K hk);focus (simp only [lvX50_50,mkT,go_sem,Nat.reduceEqDiff,Nat.reduceAdd,Nat.reduceLeDiff,↓reduceIte,reduceCtorEq,hg,hv,hsl,hmx,strs_rev,List.length_reverse,List.length_cons,decide_true,decide_false,Int.reduceEq,Bool.not_false];first|exact rfl|((repeat refine ai ?_);intros;apply hk;clear hk K)))|apply qw1|refine qwc lvX50_50 ?_|apply qt1|apply qw5|apply qw2|apply qt4|apply qj1|apply qj4|apply qu1|(refine qj6 ?_ ?_<;>intro hc<;>(try simp only [hc])<;>(try simp only [decide_eq_true_eq,decide_eq_false_iff_not] at hc)<;>(try (exfalso;omega))))
       first
        | (refine s_againR ((k+1,nm::st,max m (st.length+1))) (fun i=>if i=0 then 1 else i) ?_ ?_ ?_ ?_ ?_ ?_<;>(first|omega|(dsimp only;omega)|(intro i hi;(try dsimp only);(repeat' split)<;>omega)|(intro i j hi hj h;(try dsimp only at h);(repeat' split at h)<;>omega)|skip)
           all_goals first|exact ⟨by dsimp only;omega,by dsimp only;(try simp only [List.length_cons]);omega,by dsimp only;omega,by dsimp only;assumption,by dsimp only;assumption⟩|(simp [fitsTR,PV.ren,upd_def,PV.nmb, *];done))
        | (refine s_againR ((k+1,nm::st,max m (st.length+1))) (fun i=>if i=0 then 2 else i) ?_ ?_ ?_ ?_ ?_ ?_<;>(first|omega|(dsimp only;omega)|(intro i hi;(try dsimp only);(repeat' split)<;>omega)|(intro i j hi hj h;(try dsimp only at h);(repeat' split at h)<;>omega)|skip)
           all_goals first|exact ⟨by dsimp only;omega,by dsimp only;(try simp only [List.length_cons]);omega,by dsimp only;omega,by dsimp only;assumption,by dsimp only;assumption⟩|(simp [fitsTR,PV.ren,upd_def,PV.nmb, *];done))
        | (refine s_againR ((k+1,nm::st,max m (st.length+1))) (fun i=>if i=0 then 3 else i) ?_ ?_ ?_ ?_ ?_ ?_<;>(first|omega|(dsimp only;omega)|(intro i hi;(try dsimp only);(repeat' split)<;>omega)|(intro i j hi hj h;(try dsimp only at h);(repeat' split at h)<;>omega)|skip)
           all_goals first|exact ⟨by dsimp only;omega,by dsimp only;(try simp only [List.length_cons]);omega,by dsimp only;omega,by dsimp only;assumption,by dsimp only;assumption⟩|(simp [fitsTR,fitsMR,PV.ren,MB.ren,upd_def,PV.nmb,MB.nmb, *];done))
        | (refine s_againR ((k+1,nm::st,max m (st.length+1))) (fun i=>if i=0 then 4 else i) ?_ ?_ ?_ ?_ ?_ ?_<;>(first|omega|(dsimp only;omega)|(intro i hi;(try dsimp only);(repeat' split)<;>omega)|(intro i j hi hj h;(try dsimp only at h);(repeat' split at h)<;>omega)|skip)
           all_goals first|exact ⟨by dsimp only;omega,by dsimp only;(try simp only [List.length_cons]);omega,by dsimp only;omega,by dsimp only;assumption,by dsimp only;assumption⟩|(simp [fitsTR,fitsMR,PV.ren,renL,MB.ren,upd_def,PV.nmb,nmbL,MB.nmb,List.getD_cons_zero,List.getD_cons_succ,frz,drp, *];done))
        | (refine s_againR ((k+1,nm::st,max m (st.length+1))) (fun i=>if i=0 then 5 else i) ?_ ?_ ?_ ?_ ?_ ?_<;>(first|omega|(dsimp only;omega)|(intro i hi;(try dsimp only);(repeat' split)<;>omega)|(intro i j hi hj h;(try dsimp only at h);(repeat' split at h)<;>omega)|skip)
           all_goals first|exact ⟨by dsimp only;omega,by dsimp only;(try simp only [List.length_cons]);omega,by dsimp only;omega,by dsimp only;assumption,by dsimp only;assumption⟩|(simp [fitsTR,fitsMR,PV.ren,renL,MB.ren,upd_def,PV.nmb,nmbL,MB.nmb,List.getD_cons_zero,List.getD_cons_succ,frz,drp, *];done))
     | true =>
       rw [dep_o (by show (2:Int)≠3;decide) (fun h=>by have h2:voidN nm=false:=h.2;rw [hv] at h2;cases h2)] at hd
       repeat' (first|((first|apply qwd|apply qa1|apply qa2|apply qh1|apply qg1 rfl|apply qcd);(try intro K hk);focus (simp only [lvX50_50,mkT,go_sem,Nat.reduceEqDiff,Nat.reduceAdd,Nat.reduceLeDiff,↓reduceIte,reduceCtorEq,hg,hv,decide_true,decide_false,Int.reduceEq,Bool.not_true];first|exact rfl|((repeat refine ai ?_);intros;apply hk;clear hk K)))|apply qw1|refine qwc lvX50_50 ?_|apply qt1|apply qw5|apply qw2|apply qt4|apply qj1|apply qj4|apply qu1|(refine qj6 ?_ ?_<;>intro hc<;>(try simp only [hc])<;>(try simp only [decide_eq_true_eq,decide_eq_false_iff_not] at hc)<;>(try (exfalso;omega))))
       refine s_again ((k+1,st,m)) ?_ ?_ ?_<;>(first|omega|(dsimp only;omega)|skip)
       · exact ⟨by dsimp only;omega,by dsimp only;omega,hm,hn,hd⟩
       · simp [fits,fitsT,fitsM,upd_def,PV.nmb,MB.nmb]
   by_cases k3:kd=3
   · subst k3
     rw [dep_3 rfl] at hd
     cases st with
     | nil =>
       repeat' (first|(refine s_draw 14 ?_ ?_;focus (decide +kernel))|(first|((first|apply qwd|apply qa1|apply qa2|apply qa3|apply qg1 rfl|apply qcd);(try intro K hk);focus (simp only [lvX50_50,mkT,go_sem,Nat.reduceEqDiff,Nat.reduceAdd,Nat.reduceLeDiff,↓reduceIte,reduceCtorEq,hg,hrl,hz0,List.length_nil,decide_true,decide_false,Int.reduceEq];first|exact rfl|((repeat refine ai ?_);intros;apply hk;clear hk K)))|apply qw8|apply qw1|refine qwc lvX50_50 ?_|apply qt1|apply qw5|apply qw2|apply qw9|apply qt3|apply qt6|apply qw4|apply qj1|apply qj3|apply qj4|apply qu1|apply qu2|(refine qj6 ?_ ?_<;>intro hc<;>(try simp only [hc])<;>(try simp only [decide_eq_true_eq,decide_eq_false_iff_not] at hc)<;>(try (exfalso;omega)))))
       ((first|refine fin_ret ?_|refine fin_end ?_);simp only [go_sem,↓upd_def,Nat.reduceEqDiff,↓reduceIte])
       refine K_eq hK ?_
       rw [hd]
       rfl
     | cons n q =>
       dsimp only at hd
       have hn1:=hn n List.mem_cons_self
       have hnc: ∀ a ∈ q,a.length≤10:=fun a ha=>hn a (List.mem_cons_of_mem _ ha)
       have htop:=strs_top n q
       have hpop:=strs_pop n q
       have htn:((q.length+1:Nat):Int) - 1=(q.length:Int):=by omega
       have hlz:decide (((q.length+1:Nat):Int)=0)=false:=decide_eq_false (by omega)
       rw [List.length_cons] at hrl hs
       have hql:q.length+1≤1000:=by omega
       by_cases hnn:n=nm
       · rw [if_pos hnn] at hd
         obtain rfl:nm=n:=hnn.symm
         repeat' (first|(refine s_draw 14 ?_ ?_;focus (decide +kernel))|(first|((first|apply qwd|apply qa1|apply qa2|apply qa3|apply qh2|apply qg1 rfl|apply qcd);(try intro K hk);focus (simp only [lvX50_50,mkT,go_sem,Nat.reduceEqDiff,Nat.reduceAdd,Nat.reduceLeDiff,↓reduceIte,reduceCtorEq,hg,hrl,htop,hpop,htn,hlz,Int.toNat_natCast,decide_true,decide_false,Int.reduceEq,Bool.not_true];first|exact rfl|((repeat refine ai ?_);intros;apply hk;clear hk K)))|apply qw8|apply qw1|refine qwc lvX50_50 ?_|apply qt1|apply qw5|apply qw2|apply qw9|apply qt4|apply qj1|apply qj2|apply qj4|apply qu1|apply qu2|(refine qj6 ?_ ?_<;>intro hc<;>(try simp only [hc])<;>(try simp only [decide_eq_true_eq,decide_eq_false_iff_not] at hc)<;>(try (exfalso;omega)))))
         first
          | (refine s_againR ((k+1,q,m)) (fun i=>if i=0 then 1 else i) ?_ ?_ ?_ ?_ ?_ ?_<;>(first|omega|(dsimp only;omega)|(intro i hi;(try dsimp only);(repeat' split)<;>omega)|(intro i j hi hj h;(try dsimp only at h);(repeat' split at h)<;>omega)|skip)
             all_goals first|exact ⟨by dsimp only;omega,by dsimp only;(try simp only [List.length_cons]);omega,by dsimp only;omega,by dsimp only;assumption,by dsimp only;assumption⟩|(simp [fitsTR,PV.ren,upd_def,PV.nmb, *];done))
          | (refine s_againR ((k+1,q,m)) (fun i=>if i=0 then 2 else i) ?_ ?_ ?_ ?_ ?_ ?_<;>(first|omega|(dsimp only;omega)|(intro i hi;(try dsimp only);(repeat' split)<;>omega)|(intro i j hi hj h;(try dsimp only at h);(repeat' split at h)<;>omega)|skip)
             all_goals first|exact ⟨by dsimp only;omega,by dsimp only;(try simp only [List.length_cons]);omega,by dsimp only;omega,by dsimp only;assumption,by dsimp only;assumption⟩|(simp [fitsTR,fitsMR,PV.ren,MB.ren,upd_def,PV.nmb,MB.nmb, *];done))
          | (refine s_againR ((k+1,q,m)) (fun i=>if i=0 then 3 else i) ?_ ?_ ?_ ?_ ?_ ?_<;>(first|omega|(dsimp only;omega)|(intro i hi;(try dsimp only);(repeat' split)<;>omega)|(intro i j hi hj h;(try dsimp only at h);(repeat' split at h)<;>omega)|skip)
             all_goals first|exact ⟨by dsimp only;omega,by dsimp only;(try simp only [List.length_cons]);omega,by dsimp only;omega,by dsimp only;assumption,by dsimp only;assumption⟩|(simp [fitsTR,fitsMR,PV.ren,renL,MB.ren,upd_def,PV.nmb,nmbL,MB.nmb,List.getD_cons_zero,List.getD_cons_succ,frz,drp, *];done))
          | (refine s_againR ((k+1,q,m)) (fun i=>if i=0 then 4 else i) ?_ ?_ ?_ ?_ ?_ ?_<;>(first|omega|(dsimp only;omega)|(intro i hi;(try dsimp only);(repeat' split)<;>omega)|(intro i j hi hj h;(try dsimp only at h);(repeat' split at h)<;>omega)|skip)
             all_goals first|exact ⟨by dsimp only;omega,by dsimp only;(try simp only [List.length_cons]);omega,by dsimp only;omega,by dsimp only;assumption,by dsimp only;assumption⟩|(simp [fitsTR,fitsMR,PV.ren,renL,MB.ren,upd_def,PV.nmb,nmbL,MB.nmb,List.getD_cons_zero,List.getD_cons_succ,frz,drp, *];done))
          | (refine s_againR ((k+1,q,m)) (fun i=>if i=0 then 5 else i) ?_ ?_ ?_ ?_ ?_ ?_<;>(first|omega|(dsimp only;omega)|(intro i hi;(try dsimp only);(repeat' split)<;>omega)|(intro i j hi hj h;(try dsimp only at h);(repeat' split at h)<;>omega)|skip)
             all_goals first|exact ⟨by dsimp only;omega,by dsimp only;(try simp only [List.length_cons]);omega,by dsimp only;omega,by dsimp only;assumption,by dsimp only;assumption⟩|(simp [fitsTR,fitsMR,PV.ren,renL,MB.ren,upd_def,PV.nmb,nmbL,MB.nmb,List.getD_cons_zero,List.getD_cons_succ,frz,drp, *];done))
       · rw [if_neg hnn] at hd
         repeat' (first|(refine s_draw 14 ?_ ?_;focus (decide +kernel))|(first|((first|apply qwd|apply qa1|apply qa2|apply qa3|apply qh2|apply qg1 rfl|apply qcd);(try intro K hk);focus (simp only [lvX50_50,mkT,go_sem,Nat.reduceEqDiff,Nat.reduceAdd,Nat.reduceLeDiff,↓reduceIte,reduceCtorEq,hg,hrl,htop,htn,hlz,hnn,Int.toNat_natCast,decide_true,decide_false,Int.reduceEq,Bool.not_false];first|exact rfl|((repeat refine ai ?_);intros;apply hk;clear hk K)))|apply qw8|apply qw1|refine qwc lvX50_50 ?_|apply qt1|apply qw5|apply qw2|apply qw9|apply qt3|apply qt6|apply qw4|apply qj1|apply qj2|apply qj4|apply qu1|apply qu2|(refine qj6 ?_ ?_<;>intro hc<;>(try simp only [hc])<;>(try simp only [decide_eq_true_eq,decide_eq_false_iff_not] at hc)<;>(try (exfalso;omega)))))
         ((first|refine fin_ret ?_|refine fin_end ?_);simp only [go_sem,↓upd_def,Nat.reduceEqDiff,↓reduceIte])
         refine K_eq hK ?_
         rw [hd]
         rfl
   · rw [dep_o k3 (fun h=>k2 h.1)] at hd
     repeat' (first|((first|apply qwd|apply qa1|apply qa2|apply qg1 rfl|apply qcd);(try intro K hk);focus (simp only [lvX50_50,mkT,go_sem,Nat.reduceEqDiff,Nat.reduceAdd,Nat.reduceLeDiff,↓reduceIte,reduceCtorEq,hg,k2,k3,decide_false];first|exact rfl|((repeat refine ai ?_);intros;apply hk;clear hk K)))|apply qw1|refine qwc lvX50_50 ?_|apply qt1|apply qw5|apply qw2|apply qt4|apply qj1|apply qj4|apply qu1|(refine qj6 ?_ ?_<;>intro hc<;>(try simp only [hc])<;>(try simp only [decide_eq_true_eq,decide_eq_false_iff_not] at hc)<;>(try (exfalso;omega))))
     refine s_again ((k+1,st,m)) ?_ ?_ ?_<;>(first|omega|(dsimp only;omega)|skip)
     · exact ⟨by dsimp only;omega,by dsimp only;omega,hm,hn,hd⟩
     · simp [fits,fitsT,fitsM,upd_def,PV.nmb,MB.nmb]
 · obtain rfl:k=l.length:=by omega
   rw [List.drop_length,dep_nil] at hd
   repeat' (first|((first|apply qwd|apply qa1|apply qcd);(try intro K hk);focus (simp only [lvX50_50,mkT,go_sem,Nat.reduceEqDiff,↓reduceIte,hrl];first|exact rfl|((repeat refine ai ?_);intros;apply hk;clear hk K)))|apply qw1|refine qwc lvX50_50 ?_|apply qt1|apply qt2|apply qt5|apply qw3|apply qw4|apply qj4|(refine qj6 ?_ ?_<;>intro hc<;>(try simp only [hc])<;>(try simp only [decide_eq_true_eq,decide_eq_false_iff_not] at hc)<;>(try (exfalso;omega))))
   ((first|refine fin_ret ?_|refine fin_end ?_);simp only [go_sem,↓upd_def,Nat.reduceEqDiff,↓reduceIte])
   refine K_eq hK ?_
   rw [hd]
   cases st<;>simp<;>omega
end Go.Proofs.Ytnbjogilidfkdaa

/- Contracts: balanced tokens. -/
namespace Go.Proofs.Ytnbjogilidfkdaa
attribute [local irreducible] awp arun acalm FinP Fin AX.then AX.inBlock Again aG gsel amix amixN amixC aop aopc aopd cutK
attribute [local go_sem] aBSliceD aSlice aSliceC boundOf aMk aCall aCallC aLenL aLen aPick_t aPick_f aNil aAlloc aBox aBuild bldPV aBSlice bsPV aApp newsOf destOf drp aConvX aConv aConvInt aLoad cellsAt aStore cellsPV setAt aFld aField aIdx aIndex aUn aBin' aBin aMax aExtract pvOf PV.isCell nmbL PV.nmb List.map_cons List.map_nil List.all_cons List.all_nil Bool.and_true Bool.true_and if_true if_false List.getD_cons_zero List.getD_cons_succ List.getD_nil Option.isSome_some true_and and_true and_self eq_self true_or or_true List.drop_zero List.drop_succ_cons List.drop_nil List.take_zero List.take_succ_cons List.take_nil List.length_cons List.length_nil List.length_map Option.getD_some Option.getD_none List.nil_append List.cons_append List.append_nil Option.some.injEq exists_eq_left' List.getElem?_cons_zero List.getElem?_cons_succ Int.toNat_natCast Int.natCast_inj toNat_succ Nat.zero_add res res1 resC owns owns1 ownsC List.flatMap_cons List.flatMap_nil List.flatten_cons List.flatten_nil List.mem_cons List.not_mem_nil or_false false_or forall_eq forall_eq_or_imp isFro frz frz1 pureC tabA isBld List.cons.injEq PV.seq.injEq PV.int.injEq PV.str.injEq PV.bool.injEq PV.agg.injEq inR tab Γof aRes packR Option.map_some Option.map_none rel Prod.exists exists_and_left exists_eq_left and_assoc beq_self_eq_true Bool.not_true Bool.not_false decide_true decide_false List.set_cons_zero List.set_cons_succ rst_nil rst_cons
attribute [local go_sem ↓] evT upd_def aop aopc aopd
set_option maxRecDepth 100000
set_option linter.unusedVariables false
set_option linter.unusedSimpArgs false
open Go.RowKit
def lvX51_18:Nat→List Nat
 | 0=>[0]
 | 1=>[4]
 | 2=>[2]
 | _=>[]
def lvX51_60:Nat→List Nat
 | 0=>[0]
 | 1=>[0,3]
 | 2=>[0,3,4]
 | 3=>[0,3,4,10]
 | 4=>[0,3,4]
 | 5=>[0,3,4,17]
 | 6=>[0,3,4,17,18]
 | 7=>[0,3,4,26]
 | 8=>[0,3,4]
 | 9=>[0,3,4,35]
 | 10=>[0,3,4,5]
 | 11=>[0,3,4,5,53]
 | 12=>[2]
 | 13=>[0,3,4]
 | 14=>[2]
 | _=>[]
--LV=X51
theorem ba_i:PureOk Try.prog 18 balC:=by
 refine pure_rel 1 (tab_cons dep_i tab_nil) mixed [.tmp 2] Try.func18 rfl rfl (by kernel_rfl) (by kernel_rfl) (fun _=>rfl) (by kernel_rfl) ?_
 rintro l K hsm hK
 have hb:=dep_bal l [] 0
 unfold entry
 repeat' (first|((first|apply qwd|apply qa1);(try intro K hk);focus (simp only [lvX51_18,mkT,go_sem,Nat.reduceEqDiff,↓reduceIte,reduceCtorEq,encTks_iff];first|exact rfl|((repeat refine ai ?_);intros;apply hk;clear hk K)))|apply qw1|refine qwc lvX51_18 ?_|apply qt1|apply qw4)
 ((first|refine fin_ret ?_|refine fin_end ?_);simp only [go_sem,↓upd_def,↓reduceIte])
 rw [hb]
 exact hK
set_option maxHeartbeats 8000000 in
theorem ba_s:PureOk Try.prog 60 balC:=by
 refine pure_rel 1 (tab_cons vo_s tab_nil) mixed [.tmp 2] Try.func60 rfl rfl (by kernel_rfl) (by kernel_rfl) (fun _=>rfl) (by kernel_rfl) ?_
 rintro l K hsm hK
 obtain ⟨hl,hall⟩:=id hsm
 have hst:=strs_all50
 have hsl:=strs_length
 have hz0:decide (((0:Nat):Int) - 1<0)=true:=by simp
 unfold entry
 repeat' (first|((first|apply qwd|apply qa1);(try intro K hk);focus (simp only [lvX51_60,mkT,go_sem,Nat.reduceEqDiff,↓reduceIte,reduceCtorEq];first|exact rfl|((repeat refine ai ?_);intros;apply hk;clear hk K)))|apply qw1|refine qwc lvX51_60 ?_|apply qt1|apply qw5)
 refine s_loop (ι:=Nat×List Bs) (fun i=>[(0,.seq (encTks l)),(3,.own 0),(4,.int .i64 i.1)]) (fun i=>[(0,.row 9 1 (strs i.2.reverse))]) 1 (fun i=>i.1≤l.length∧i.2.length≤i.1∧(∀ n ∈ i.2,n.length≤10)∧balF [] l=balF i.2 (l.drop i.1)) (fun i=>l.length - i.1) (0,[]) (by omega) (by dsimp only;exact ⟨Nat.zero_le _,Nat.zero_le _,(fun n hn=>by cases hn),rfl⟩) ?_ ?_
 · simp [fits,fitsT,fitsM,upd_def,PV.nmb,MB.nmb,strs]
 rintro ⟨k,st⟩ ⟨hk,hs,hn,hd⟩
 dsimp only at hk hs hn hd
 simp only [mkS,mkT,mkM]
 have hrl:(strs st.reverse).length=st.length:=by simp [strs]
 by_cases hkl:k<l.length
 · obtain ⟨⟨kd,nm,v,ps⟩,hx⟩:=get_some (xs:=l) (k:=k) hkl
   have hsk:=smTk_at hsm hx
   obtain ⟨b1,b2,b3,b4⟩:=hsk
   dsimp only at b1 b2 b3 b4
   have hg:(encTks l)[k]?=some [.int .i64 kd,.str nm,.str v,.seq (encPrs ps)]:=by rw [encTks_get,hx];rfl
   rw [drop_tk hx] at hd
   by_cases k2:kd=2
   · subst k2
     cases hv:voidN nm with
     | false =>
       rw [bal_2 rfl hv] at hd
       have hnc: ∀ a ∈ nm::st,a.length≤10:=by
        intro a ha
        rcases List.mem_cons.1 ha with rfl|ha
        · exact b1
        · exact hn a ha
       repeat' (first|((first|apply qwd|apply qa1|apply qcd);(try intro K hk);focus (simp only [lvX51_60,mkT,go_sem,Nat.reduceEqDiff,Nat.reduceAdd,Nat.reduceLeDiff,↓reduceIte,reduceCtorEq,encTks_len,hg,hv,hsl,strs_rev,List.length_reverse,List.length_cons,decide_true,Bool.not_false];first|exact rfl|((repeat refine ai ?_);intros;apply hk;clear hk K)))|apply qw1|refine qwc lvX51_60 ?_|apply qt1|apply qw5|apply qw2|apply qt4|apply qj1|(refine qj6 ?_ ?_<;>intro hc<;>(try simp only [hc])<;>(try simp only [decide_eq_true_eq,decide_eq_false_iff_not] at hc)<;>(try (exfalso;omega))))
       first
        | (refine s_againR ((k+1,nm::st)) (fun i=>if i=0 then 2 else i) ?_ ?_ ?_ ?_ ?_ ?_<;>(first|omega|(dsimp only;omega)|(intro i hi;(try dsimp only);(repeat' split)<;>omega)|(intro i j hi hj h;(try dsimp only at h);(repeat' split at h)<;>omega)|skip)
           all_goals first|exact ⟨by dsimp only;omega,by dsimp only;(try simp only [List.length_cons]);omega,by dsimp only;assumption,by dsimp only;assumption⟩|(simp [fitsTR,fitsMR,PV.ren,MB.ren,upd_def,PV.nmb,MB.nmb, *];done))
        | (refine s_againR ((k+1,nm::st)) (fun i=>if i=0 then 3 else i) ?_ ?_ ?_ ?_ ?_ ?_<;>(first|omega|(dsimp only;omega)|(intro i hi;(try dsimp only);(repeat' split)<;>omega)|(intro i j hi hj h;(try dsimp only at h);(repeat' split at h)<;>omega)|skip)
           all_goals first|exact ⟨by dsimp only;omega,by dsimp only;(try simp only [List.length_cons]);omega,by dsimp only;assumption,by dsimp only;assumption⟩|(simp [fitsTR,fitsMR,PV.ren,renL,MB.ren,upd_def,PV.nmb,nmbL,MB.nmb,List.getD_cons_zero,List.getD_cons_succ,frz,drp, *];done))
     | true =>
       rw [bal_o (by show (2:Int)≠3;decide) (fun h=>by have h2:voidN nm=false:=h.2;rw [hv] at h2;cases h2)] at hd
       repeat' (first|((first|apply qwd|apply qa1|apply qcd);(try intro K hk);focus (simp only [lvX51_60,mkT,go_sem,Nat.reduceEqDiff,Nat.reduceAdd,↓reduceIte,reduceCtorEq,encTks_len,hg,hv,decide_true,Bool.not_true];first|exact rfl|((repeat refine ai ?_);intros;apply hk;clear hk K)))|apply qw1|refine qwc lvX51_60 ?_|apply qt1|apply qw5|apply qw2|apply qt4|apply qj1|apply qj4|(refine qj6 ?_ ?_<;>intro hc<;>(try simp only [hc])<;>(try simp only [decide_eq_true_eq,decide_eq_false_iff_not] at hc)<;>(try (exfalso;omega))))
       refine s_again ((k+1,st)) ?_ ?_ ?_<;>(first|omega|(dsimp only;omega)|skip)
       · exact ⟨by dsimp only;omega,by dsimp only;omega,hn,hd⟩
       · simp [fits,fitsT,fitsM,upd_def,PV.nmb,MB.nmb]
   by_cases k3:kd=3
   · subst k3
     rw [bal_3 rfl] at hd
     cases st with
     | nil =>
       dsimp only at hd
       repeat' (first|(refine s_draw 14 ?_ ?_;focus (decide +kernel))|(first|((first|apply qwd|apply qa1|apply qa3|apply qg1 rfl|apply qcd);(try intro K hk);focus (simp only [lvX51_60,mkT,go_sem,Nat.reduceEqDiff,Nat.reduceAdd,↓reduceIte,reduceCtorEq,encTks_len,hg,hrl,hz0,List.length_nil,decide_true,decide_false,Int.reduceEq];first|exact rfl|((repeat refine ai ?_);intros;apply hk;clear hk K)))|apply qw8|apply qw1|refine qwc lvX51_60 ?_|apply qt1|apply qw5|apply qw2|apply qw9|apply qt3|apply qt6|apply qw4|apply qj1|apply qj3|apply qj4|apply qu2|(refine qj6 ?_ ?_<;>intro hc<;>(try simp only [hc])<;>(try simp only [decide_eq_true_eq,decide_eq_false_iff_not] at hc)<;>(try (exfalso;omega)))))
       ((first|refine fin_ret ?_|refine fin_end ?_);simp only [go_sem,↓upd_def,↓reduceIte])
       refine K_eq hK ?_
       rw [hd]
     | cons n q =>
       dsimp only at hd
       have hn1:=hn n List.mem_cons_self
       have hnc: ∀ a ∈ q,a.length≤10:=fun a ha=>hn a (List.mem_cons_of_mem _ ha)
       have htop:=strs_top n q
       have hpop:=strs_pop n q
       have htn:((q.length+1:Nat):Int) - 1=(q.length:Int):=by omega
       have hlz:decide ((q.length:Int)<0)=false:=decide_eq_false (by omega)
       rw [List.length_cons] at hrl hs
       have hql:q.length+1≤1000:=by omega
       by_cases hnn:n=nm
       · obtain rfl:nm=n:=hnn.symm
         rw [decide_eq_true rfl,Bool.true_and] at hd
         repeat' (first|(refine s_draw 14 ?_ ?_;focus (decide +kernel))|(first|((first|apply qwd|apply qa1|apply qa3|apply qh2|apply qg1 rfl|apply qcd);(try intro K hk);focus (simp only [lvX51_60,mkT,go_sem,Nat.reduceEqDiff,Nat.reduceAdd,↓reduceIte,reduceCtorEq,encTks_len,hg,hrl,htop,hpop,htn,hlz,Int.toNat_natCast,decide_true,decide_false,Int.reduceEq,Bool.not_true];first|exact rfl|((repeat refine ai ?_);intros;apply hk;clear hk K)))|apply qw8|apply qw1|refine qwc lvX51_60 ?_|apply qt1|apply qw5|apply qw2|apply qw9|apply qt4|apply qj1|apply qj2|apply qj4|apply qu2|(refine qj6 ?_ ?_<;>intro hc<;>(try simp only [hc])<;>(try simp only [decide_eq_true_eq,decide_eq_false_iff_not] at hc)<;>(try (exfalso;omega)))))
         first
          | (refine s_againR ((k+1,q)) (fun i=>if i=0 then 1 else i) ?_ ?_ ?_ ?_ ?_ ?_<;>(first|omega|(dsimp only;omega)|(intro i hi;(try dsimp only);(repeat' split)<;>omega)|(intro i j hi hj h;(try dsimp only at h);(repeat' split at h)<;>omega)|skip)
             all_goals first|exact ⟨by dsimp only;omega,by dsimp only;omega,by dsimp only;assumption,by dsimp only;assumption⟩|(simp [fitsTR,fitsMR,PV.ren,MB.ren,upd_def,PV.nmb,MB.nmb, *];done))
          | (refine s_againR ((k+1,q)) (fun i=>if i=0 then 2 else i) ?_ ?_ ?_ ?_ ?_ ?_<;>(first|omega|(dsimp only;omega)|(intro i hi;(try dsimp only);(repeat' split)<;>omega)|(intro i j hi hj h;(try dsimp only at h);(repeat' split at h)<;>omega)|skip)
             all_goals first|exact ⟨by dsimp only;omega,by dsimp only;omega,by dsimp only;assumption,by dsimp only;assumption⟩|(simp [fitsTR,fitsMR,PV.ren,renL,MB.ren,upd_def,PV.nmb,nmbL,MB.nmb,List.getD_cons_zero,List.getD_cons_succ,frz,drp, *];done))
       · rw [decide_eq_false hnn,Bool.false_and] at hd
         repeat' (first|(refine s_draw 14 ?_ ?_;focus (decide +kernel))|(first|((first|apply qwd|apply qa1|apply qa3|apply qh2|apply qg1 rfl|apply qcd);(try intro K hk);focus (simp only [lvX51_60,mkT,go_sem,Nat.reduceEqDiff,Nat.reduceAdd,↓reduceIte,reduceCtorEq,encTks_len,hg,hrl,htop,htn,hlz,hnn,Int.toNat_natCast,decide_true,decide_false,Int.reduceEq,Bool.not_false];first|exact rfl|((repeat refine ai ?_);intros;apply hk;clear hk K)))|apply qw8|apply qw1|refine qwc lvX51_60 ?_|apply qt1|apply qw5|apply qw2|apply qw9|apply qt3|apply qt6|apply qw4|apply qj1|apply qj2|apply qj4|apply qu2|(refine qj6 ?_ ?_<;>intro hc<;>(try simp only [hc])<;>(try simp only [decide_eq_true_eq,decide_eq_false_iff_not] at hc)<;>(try (exfalso;omega)))))
         ((first|refine fin_ret ?_|refine fin_end ?_);simp only [go_sem,↓upd_def,↓reduceIte])
         refine K_eq hK ?_
         rw [hd]
   · rw [bal_o k3 (fun h=>k2 h.1)] at hd
     repeat' (first|((first|apply qwd|apply qa1|apply qcd);(try intro K hk);focus (simp only [lvX51_60,mkT,go_sem,Nat.reduceEqDiff,Nat.reduceAdd,↓reduceIte,reduceCtorEq,encTks_len,hg,k2,k3,decide_false];first|exact rfl|((repeat refine ai ?_);intros;apply hk;clear hk K)))|apply qw1|refine qwc lvX51_60 ?_|apply qt1|apply qw5|apply qw2|apply qt4|apply qj1|apply qj4|(refine qj6 ?_ ?_<;>intro hc<;>(try simp only [hc])<;>(try simp only [decide_eq_true_eq,decide_eq_false_iff_not] at hc)<;>(try (exfalso;omega))))
     refine s_again ((k+1,st)) ?_ ?_ ?_<;>(first|omega|(dsimp only;omega)|skip)
     · exact ⟨by dsimp only;omega,by dsimp only;omega,hn,hd⟩
     · simp [fits,fitsT,fitsM,upd_def,PV.nmb,MB.nmb]
 · obtain rfl:k=l.length:=by omega
   rw [List.drop_length] at hd
   repeat' (first|((first|apply qwd|apply qa1|apply qcd);(try intro K hk);focus (simp only [lvX51_60,mkT,go_sem,Nat.reduceEqDiff,↓reduceIte,reduceCtorEq,encTks_len,hrl];first|exact rfl|((repeat refine ai ?_);intros;apply hk;clear hk K)))|apply qw1|refine qwc lvX51_60 ?_|apply qt1|apply qt2|apply qt5|apply qw3|apply qw4|apply qj4|(refine qj6 ?_ ?_<;>intro hc<;>(try simp only [hc])<;>(try simp only [decide_eq_true_eq,decide_eq_false_iff_not] at hc)<;>(try (exfalso;omega))))
   ((first|refine fin_ret ?_|refine fin_end ?_);simp only [go_sem,↓upd_def,↓reduceIte])
   refine K_eq hK ?_
   rw [hd]
   cases st<;>simp [balF]<;>omega
end Go.Proofs.Ytnbjogilidfkdaa

/- Contracts: tokens with pairs of their own. -/
namespace Go.Proofs.Ytnbjogilidfkdaa
attribute [local irreducible] awp arun acalm FinP Fin AX.then AX.inBlock Again aG gsel amix amixN amixC aop aopc aopd cutK
attribute [local go_sem] aBSliceD aSlice aSliceC boundOf aMk aCall aCallC aLenL aLen aPick_t aPick_f aNil aAlloc aBox aBuild bldPV aBSlice bsPV aApp newsOf destOf drp aConvX aConv aConvInt aLoad cellsAt aStore cellsPV setAt aFld aField aIdx aIndex aUn aBin' aBin aMax aExtract pvOf PV.isCell nmbL PV.nmb List.map_cons List.map_nil List.all_cons List.all_nil Bool.and_true Bool.true_and if_true if_false List.getD_cons_zero List.getD_cons_succ List.getD_nil Option.isSome_some true_and and_true and_self eq_self true_or or_true List.drop_zero List.drop_succ_cons List.drop_nil List.take_zero List.take_succ_cons List.take_nil List.length_cons List.length_nil List.length_map Option.getD_some Option.getD_none List.nil_append List.cons_append List.append_nil Option.some.injEq exists_eq_left' List.getElem?_cons_zero List.getElem?_cons_succ Int.toNat_natCast Int.natCast_inj toNat_succ Nat.zero_add res res1 resC owns owns1 ownsC List.flatMap_cons List.flatMap_nil List.flatten_cons List.flatten_nil List.mem_cons List.not_mem_nil or_false false_or forall_eq forall_eq_or_imp isFro frz frz1 pureC tabA isBld List.cons.injEq PV.seq.injEq PV.int.injEq PV.str.injEq PV.bool.injEq PV.agg.injEq inR tab Γof aRes packR Option.map_some Option.map_none rel Prod.exists exists_and_left exists_eq_left and_assoc beq_self_eq_true Bool.not_true Bool.not_false decide_true decide_false List.set_cons_zero List.set_cons_succ rst_nil rst_cons
attribute [local go_sem ↓] evT upd_def aop aopc aopd
set_option maxRecDepth 100000
set_option linter.unusedVariables false
set_option linter.unusedSimpArgs false
open Go.RowKit
def lvX52_45:Nat→List Nat
 | 0=>[0]
 | 1=>[0,3]
 | 2=>[0,3,4]
 | 3=>[0,3,4,9]
 | 4=>[0,3,4]
 | 5=>[0,3,4]
 | 6=>[2]
 | _=>[]
def lvX52_85:Nat→List Nat
 | 0=>[1,2]
 | 1=>[1,2,3]
 | 2=>[2,3]
 | 3=>[2]
 | _=>[]
--LV=X52
@[go_sem] def owtC:PC:=rel (α:=TokD) (fun x=>[.agg (encTk x)]) (fun x=>x.pairs.length≤1048576) (fun x=> .agg (encTk x))
@[go_sem] def owlC:PC:=rel (α:=List TokD) (fun x=>[.seq (encTks x)]) (fun x=>x.length≤1048576∧ ∀ t ∈ x,t.pairs.length≤1048576) (fun x=> .seq (encTks x))
theorem owt_s:PureOk Try.prog 85 owtC:=by
 refine pure_rel 1 tab_nil mixed [.cell 2 29] Try.func85 rfl rfl (by kernel_rfl) (by kernel_rfl) (fun _=>rfl) (by kernel_rfl) ?_
 rintro ⟨k,n,v,ps⟩ K hp hK
 dsimp only at hp
 unfold entry
 rw [encTk_mk]
 rw [encTk_mk] at hK
 repeat' (first|((first|apply qwd|apply qa1|apply qa2);(try intro K hk);focus (simp only [lvX52_85,mkT,go_sem,Nat.reduceEqDiff,Nat.reduceAdd,Nat.reduceLeDiff,↓reduceIte,reduceCtorEq,encPrs_all,encPrs_len,List.nil_append];first|exact rfl|((repeat refine ai ?_);intros;apply hk;clear hk K)))|apply qw1|refine qwc lvX52_85 ?_|apply qt1|apply qw4)
 ((first|refine fin_ret ?_|refine fin_end ?_);simp only [go_sem,↓upd_def,Nat.reduceEqDiff,Nat.reduceAdd,↓reduceIte])
 exact ⟨Nat.le_refl _,hK⟩
theorem owl_s:PureOk Try.prog 45 owlC:=by
 refine pure_rel 1 (tab_cons owt_s tab_nil) mixed [.tmp 2] Try.func45 rfl rfl (by kernel_rfl) (by kernel_rfl) (fun _=>rfl) (by kernel_rfl) ?_
 rintro l K ⟨hl,hall⟩ hK
 unfold entry
 repeat' (first|((first|apply qwd|apply qa1);(try intro K hk);focus (simp only [lvX52_45,mkT,go_sem,Nat.reduceEqDiff,↓reduceIte,reduceCtorEq];first|exact rfl|((repeat refine ai ?_);intros;apply hk;clear hk K)))|apply qw1|refine qwc lvX52_45 ?_|apply qt1|apply qw5)
 refine s_loop (ι:=Nat) (fun k=>[(0,.seq (encTks l)),(3,.own 0),(4,.int .i64 k)]) (fun k=>[(0,.row 29 4 (encTks (l.take k)))]) 1 (fun k=>k≤l.length) (fun k=>l.length - k) 0 (by omega) (Nat.zero_le _) ?_ ?_
 · simp [fits,fitsT,fitsM,upd_def,PV.nmb,MB.nmb,encTks_nil]
 intro k hk
 simp only [mkS,mkT,mkM]
 by_cases hkl:k<l.length
 · obtain ⟨⟨kd,nm,v,ps⟩,hx⟩:=get_some (xs:=l) (k:=k) hkl
   have hpl:ps.length≤1048576:=hall _ (List.mem_of_getElem? hx)
   have hg:(encTks l)[k]?=some [.int .i64 kd,.str nm,.str v,.seq (encPrs ps)]:=by rw [encTks_get,hx];rfl
   have htk:=take_snoc' hx
   have hlt:(l.take k).length=k:=by rw [List.length_take];omega
   repeat' (first|((first|apply qwd|apply qa1|apply qcd);(try intro K hk);focus (simp only [lvX52_45,mkT,go_sem,Nat.reduceEqDiff,Nat.reduceAdd,Nat.reduceLeDiff,↓reduceIte,reduceCtorEq,encTks_len,hg];first|exact rfl|((repeat refine ai ?_);intros;apply hk;clear hk K)))|apply qw1|refine qwc lvX52_45 ?_|apply qt1|apply qw5|apply qw2|apply qj1|(refine qj6 ?_ ?_<;>intro hc<;>(try simp only [hc])<;>(try simp only [decide_eq_true_eq,decide_eq_false_iff_not] at hc)<;>(try (exfalso;omega))))
   (refine qa1 fun K hk=>?_);simp only [go_sem,↓upd_def,↓evT,↓reduceIte,↓aop];repeat (refine And.intro ?_ ?_;focus (first|omega|assumption|with_reducible rfl|(simp only [go_sem,↓upd_def,↓evT,Nat.reduceEqDiff,Nat.reduceAdd,Nat.reduceLeDiff,Nat.reduceLT,Nat.reduceSub,Int.reduceToNat,↓reduceIte,reduceCtorEq,↓aop,↓aopc,↓aopd,encTks_len];done)))
   refine ⟨⟨kd,nm,v,ps⟩,by simp [encTk_mk],hpl,?_⟩
   apply hk;clear hk K
   dsimp only
   rw [encTk_mk]
   repeat' (first|((first|apply qwd|apply qa1);(try intro K hk);focus (simp only [lvX52_45,mkT,go_sem,Nat.reduceEqDiff,Nat.reduceAdd,Nat.reduceLeDiff,↓reduceIte,reduceCtorEq,encTks_len,encTks_pt,hlt];first|exact rfl|((repeat refine ai ?_);intros;apply hk;clear hk K)))|refine qwc lvX52_45 ?_|apply qt1|apply qt4)
   refine s_againR (k+1) (fun i=>if i=0 then 2 else i) ?_ ?_ ?_ ?_ ?_ ?_<;>(first|omega|(dsimp only;omega)|(intro i hi;(try dsimp only);(repeat' split)<;>omega)|(intro i j hi hj h;(try dsimp only at h);(repeat' split at h)<;>omega)|skip)
   all_goals (simp [fitsTR,fitsMR,PV.ren,MB.ren,upd_def,PV.nmb,MB.nmb,htk];done)
 · obtain rfl:k=l.length:=by omega
   repeat' (first|((first|apply qwd|apply qa1|apply qcd);(try intro K hk);focus (simp only [lvX52_45,mkT,go_sem,Nat.reduceEqDiff,↓reduceIte,reduceCtorEq,encTks_len];first|exact rfl|((repeat refine ai ?_);intros;apply hk;clear hk K)))|apply qw1|refine qwc lvX52_45 ?_|apply qt1|apply qt2|apply qt5|apply qw3|apply qw4|apply qj4|(refine qj6 ?_ ?_<;>intro hc<;>(try simp only [hc])<;>(try simp only [decide_eq_true_eq,decide_eq_false_iff_not] at hc)<;>(try (exfalso;omega))))
   ((first|refine fin_ret ?_|refine fin_end ?_);simp only [go_sem,↓upd_def,↓reduceIte])
   rw [List.take_length]
   exact hK
end Go.Proofs.Ytnbjogilidfkdaa
