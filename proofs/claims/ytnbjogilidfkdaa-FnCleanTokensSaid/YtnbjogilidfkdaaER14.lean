/- Drawn tokens, drawn markup. -/
import Derived.Test.YtnbjogilidfkdaaEX1
import Derived.Test.YtnbjogilidfkdaaER9
import Derived.Test.YtnbjogilidfkdaaEX63

namespace Go.Proofs.Ytnbjogilidfkdaa
attribute [local irreducible] awp arun acalm FinP Fin AX.then AX.inBlock Again aG gsel amix amixN amixC aop aopc aopd cutK
attribute [local go_sem] aBSliceD aSlice aSliceC boundOf aMk aCall aCallC aLenL aLen aPick_t aPick_f aNil aAlloc aBox aBuild bldPV aBSlice bsPV aApp newsOf destOf drp aConvX aConv aConvInt aLoad cellsAt aStore cellsPV setAt aFld aField aIdx aIndex aUn aBin' aBin aMax aExtract pvOf PV.isCell nmbL PV.nmb List.map_cons List.map_nil List.all_cons List.all_nil Bool.and_true Bool.true_and if_true if_false List.getD_cons_zero List.getD_cons_succ List.getD_nil Option.isSome_some true_and and_true and_self eq_self true_or or_true List.drop_zero List.drop_succ_cons List.drop_nil List.take_zero List.take_succ_cons List.take_nil List.length_cons List.length_nil List.length_map Option.getD_some Option.getD_none List.nil_append List.cons_append List.append_nil Option.some.injEq exists_eq_left' List.getElem?_cons_zero List.getElem?_cons_succ Int.toNat_natCast Int.natCast_inj toNat_succ Nat.zero_add res res1 resC owns owns1 ownsC List.flatMap_cons List.flatMap_nil List.flatten_cons List.flatten_nil List.mem_cons List.not_mem_nil or_false false_or forall_eq forall_eq_or_imp isFro frz frz1 pureC tabA isBld List.cons.injEq PV.seq.injEq PV.int.injEq PV.str.injEq PV.bool.injEq PV.agg.injEq inR tab Γof aRes packR Option.map_some Option.map_none rel Prod.exists exists_and_left exists_eq_left and_assoc beq_self_eq_true Bool.not_true Bool.not_false decide_true decide_false List.set_cons_zero List.set_cons_succ rst_nil rst_cons
attribute [local go_sem ↓] evT upd_def aop aopc aopd
set_option maxRecDepth 100000
set_option linter.unusedVariables false
set_option linter.unusedSimpArgs false
open Go.RowKit
--LV=R14
theorem tok_no {s:Bs} (h:(tokM s).isSome=false):(tokM s).getD []=[]:=by cases ht:tokM s<;>simp_all
/-- Tokens of a drawn text; behind it any memory. -/
def tkD0:AC:=fun args mem n K=>match args with
 | [.ref i o,.int .i64 m]=>(match mem i with
   | some (.box [.seq es,.int .i64 p])=>o=0∧m=0∧i<n∧(∃ l:Bs,es=l.map bc∧l.length≤2000)∧0≤p∧p≤1000∧ ∀ (s:Bs) r m' n',s.length≤200→res m' r= .seq (encTks ((tokM s).getD []))→n≤n'→K r m' n'
   | _=>False)
 | _=>False
@[go_sem] def tkDC:AC:=fun args mem n K=>match args with
 | [.ref i o,.int .i64 m]=>(match mem i with
   | some (.box [.seq es,.int .i64 p])=>o=0∧m=0∧i<n∧(∃ l:Bs,es=l.map bc∧l.length≤2000)∧0≤p∧p≤1000∧ ∀ (s:Bs),s.length≤200→ ∀ m' n',n≤n'→K (.seq (encTks ((tokM s).getD []))) m' n'
   | _=>False)
 | _=>False
set_option maxHeartbeats 8000000 in
theorem tkD_ok0:ACok Try.prog 42 tkD0:=by
 refine ac_body 2 (tabA_cons mkD_ok (tabA_cons odd_ok (tabA_cons pick_ok (tabA_nil (Γof_ok (tab_cons tok_s tab_nil)))))) (tab_cons tok_s tab_nil) mixed [.tmp 4] Try.func42 rfl rfl (by kernel_rfl) (by kernel_rfl) ?_ (by kernel_rfl) ?_
 · intro args mem n K h
   unfold tkD0 at h
   split at h
   · rfl
   · exact h.elim
 intro args mem n K h
 unfold tkD0 at h
 split at h
 · rename_i i o m
   split at h
   · rename_i es p hm
     obtain ⟨rfl,rfl,hin,⟨l,rfl,hl⟩,h0,h1,hK⟩:=h
     have i1:(i=n)=False:=eq_false (by omega)
     have i2:(n=i)=False:=eq_false (by omega)
     have i3:(i=n+1)=False:=eq_false (by omega)
     have i4:(n+1=i)=False:=eq_false (by omega)
     unfold entry
     repeat' (first|((first|apply qa1|apply qcd);(try intro K hk);focus (simp only [go_sem,Nat.reduceEqDiff,Nat.reduceAdd,Nat.reduceLT,↓reduceIte,reduceCtorEq,exl,hm,i1,i3,i4,q_1,q_2,q_3,q_9];first|exact rfl|((repeat refine ai ?_);intros;apply hk;clear hk K)))|apply qw8|apply qw1|apply qw6|apply qt1|apply qw2|apply qw4|apply qj1|apply qj4|(refine qj6 ?_ ?_<;>intro hc<;>(try simp only [hc])<;>(try simp only [Bool.not_eq_true',Bool.not_eq_false'] at hc)<;>(try (exfalso;omega))))
     all_goals first
      | (exfalso
         rename True→_=false=>hb9
         have hb8:=hb9 trivial
         subst hb8
         contradiction)
      | (refine fin_retA ?_
         simp only [go_sem,↓upd_def,↓reduceIte]
         refine hK _ _ _ _ (by assumption) ?_ (by omega)
         first
          | (simp [res,res1,resC,upd_def,i2];done)
          | (rw [tok_no (by assumption)];simp [res,res1,resC,upd_def,i2,encTks_nil];done)
          | skip)
   · exact h.elim
 · exact h.elim
theorem tkD_ok:ACok Try.prog 42 tkDC:=(frzR_ok9 tkD_ok0).mono fun args mem n K h=>by
 unfold tkDC at h
 split at h
 · rename_i i o m
   split at h
   · rename_i es p hm
     obtain ⟨rfl,rfl,hin,hl,h0,h1,hK⟩:=h
     show tkD0 _ _ _ _
     unfold tkD0
     simp only [hm,true_and]
     refine ⟨hin,hl,h0,h1,fun s r m' n' hs hr hn=>?_⟩
     show K (res m' r) _ _
     rw [hr]
     exact hK s hs _ _ hn
   · exact h.elim
 · exact h.elim
theorem drwCT:ACok Try.prog 12 (drwG (α:=Bs) (fun s=>s.length≤200) (fun s=> .seq (encTks ((tokM s).getD [])))):=drw_of (by
 refine ac_body 1 (tabA_cons open_ok (tabA_cons tkD_ok (tabA_nil (Γof_ok tab_nil)))) tab_nil mixed [.tmp 2] Try.func12 rfl rfl (by kernel_rfl) (by kernel_rfl) ?_ (by kernel_rfl) ?_
 · intro args mem n K h
   obtain ⟨es,rfl,h⟩:=drw_args h
   rfl
 intro args mem n K h
 obtain ⟨es,rfl,⟨l,rfl,hl⟩,hK⟩:=drw_args h
 have hba:=bc_all l
 unfold entry
 repeat' (first|((first|apply qa1);(try intro K hk);focus (simp only [go_sem,↓reduceIte,exl,q_1,q_3];first|exact rfl|((repeat refine ai ?_);intros;apply hk;clear hk K)))|apply qw8|apply qw1|apply qw6|apply qt1|apply qw4)
 rename Bs=>s
 refine fin_retA ?_
 simp only [go_sem,↓upd_def,↓reduceIte]
 refine hK s _ _ _ (by assumption) ?_ (by omega)
 simp [res,res1,resC])
end Go.Proofs.Ytnbjogilidfkdaa

/- Contracts: tokens with pairs of their own. -/
namespace Go.Proofs.Ytnbjogilidfkdaa
attribute [local irreducible] awp arun acalm FinP Fin AX.then AX.inBlock Again aG gsel amix amixN amixC aop aopc aopd cutK
attribute [local go_sem] aBSliceD aSlice aSliceC boundOf aMk aCall aCallC aLenL aLen aPick_t aPick_f aNil aAlloc aBox aBuild bldPV aBSlice bsPV aApp newsOf destOf drp aConvX aConv aConvInt aLoad cellsAt aStore cellsPV setAt aFld aField aIdx aIndex aUn aBin' aBin aMax aExtract pvOf PV.isCell nmbL PV.nmb List.map_cons List.map_nil List.all_cons List.all_nil Bool.and_true Bool.true_and if_true if_false List.getD_cons_zero List.getD_cons_succ List.getD_nil Option.isSome_some true_and and_true and_self eq_self true_or or_true List.drop_zero List.drop_succ_cons List.drop_nil List.take_zero List.take_succ_cons List.take_nil List.length_cons List.length_nil List.length_map Option.getD_some Option.getD_none List.nil_append List.cons_append List.append_nil Option.some.injEq exists_eq_left' List.getElem?_cons_zero List.getElem?_cons_succ Int.toNat_natCast Int.natCast_inj toNat_succ Nat.zero_add res res1 resC owns owns1 ownsC List.flatMap_cons List.flatMap_nil List.flatten_cons List.flatten_nil List.mem_cons List.not_mem_nil or_false false_or forall_eq forall_eq_or_imp isFro frz frz1 pureC tabA isBld List.cons.injEq PV.seq.injEq PV.int.injEq PV.str.injEq PV.bool.injEq PV.agg.injEq inR tab Γof aRes packR Option.map_some Option.map_none rel Prod.exists exists_and_left exists_eq_left and_assoc beq_self_eq_true Bool.not_true Bool.not_false decide_true decide_false List.set_cons_zero List.set_cons_succ rst_nil rst_cons
attribute [local go_sem ↓] evT upd_def aop aopc aopd
set_option maxRecDepth 100000
set_option linter.unusedVariables false
set_option linter.unusedSimpArgs false
open Go.RowKit
def lvX52_45:Nat→List Nat
 | 0=>[0]
 | 1=>[0,3]
 | 2=>[0,3,4]
 | 3=>[0,3,4,9]
 | 4=>[0,3,4]
 | 5=>[0,3,4]
 | 6=>[2]
 | _=>[]
def lvX52_85:Nat→List Nat
 | 0=>[1,2]
 | 1=>[1,2,3]
 | 2=>[2,3]
 | 3=>[2]
 | _=>[]
--LV=X52
@[go_sem] def owtC:PC:=rel (α:=TokD) (fun x=>[.agg (encTk x)]) (fun x=>x.pairs.length≤1048576) (fun x=> .agg (encTk x))
@[go_sem] def owlC:PC:=rel (α:=List TokD) (fun x=>[.seq (encTks x)]) (fun x=>x.length≤1048576∧ ∀ t ∈ x,t.pairs.length≤1048576) (fun x=> .seq (encTks x))
theorem owt_s:PureOk Try.prog 85 owtC:=by
 refine pure_rel 1 tab_nil mixed [.cell 2 29] Try.func85 rfl rfl (by kernel_rfl) (by kernel_rfl) (fun _=>rfl) (by kernel_rfl) ?_
 rintro ⟨k,n,v,ps⟩ K hp hK
 dsimp only at hp
 unfold entry
 rw [encTk_mk]
 rw [encTk_mk] at hK
 repeat' (first|((first|apply qwd|apply qa1|apply qa2);(try intro K hk);focus (simp only [lvX52_85,mkT,go_sem,Nat.reduceEqDiff,Nat.reduceAdd,Nat.reduceLeDiff,↓reduceIte,reduceCtorEq,encPrs_all,encPrs_len,List.nil_append];first|exact rfl|((repeat refine ai ?_);intros;apply hk;clear hk K)))|apply qw1|refine qwc lvX52_85 ?_|apply qt1|apply qw4)
 ((first|refine fin_ret ?_|refine fin_end ?_);simp only [go_sem,↓upd_def,Nat.reduceEqDiff,Nat.reduceAdd,↓reduceIte])
 exact ⟨Nat.le_refl _,hK⟩
theorem owl_s:PureOk Try.prog 45 owlC:=by
 refine pure_rel 1 (tab_cons owt_s tab_nil) mixed [.tmp 2] Try.func45 rfl rfl (by kernel_rfl) (by kernel_rfl) (fun _=>rfl) (by kernel_rfl) ?_
 rintro l K ⟨hl,hall⟩ hK
 unfold entry
 repeat' (first|((first|apply qwd|apply qa1);(try intro K hk);focus (simp only [lvX52_45,mkT,go_sem,Nat.reduceEqDiff,↓reduceIte,reduceCtorEq];first|exact rfl|((repeat refine ai ?_);intros;apply hk;clear hk K)))|apply qw1|refine qwc lvX52_45 ?_|apply qt1|apply qw5)
 refine s_loop (ι:=Nat) (fun k=>[(0,.seq (encTks l)),(3,.own 0),(4,.int .i64 k)]) (fun k=>[(0,.row 29 4 (encTks (l.take k)))]) 1 (fun k=>k≤l.length) (fun k=>l.length - k) 0 (by omega) (Nat.zero_le _) ?_ ?_
 · simp [fits,fitsT,fitsM,upd_def,PV.nmb,MB.nmb,encTks_nil]
 intro k hk
 simp only [mkS,mkT,mkM]
 by_cases hkl:k<l.length
 · obtain ⟨⟨kd,nm,v,ps⟩,hx⟩:=get_some (xs:=l) (k:=k) hkl
   have hpl:ps.length≤1048576:=hall _ (List.mem_of_getElem? hx)
   have hg:(encTks l)[k]?=some [.int .i64 kd,.str nm,.str v,.seq (encPrs ps)]:=by rw [encTks_get,hx];rfl
   have htk:=take_snoc' hx
   have hlt:(l.take k).length=k:=by rw [List.length_take];omega
   repeat' (first|((first|apply qwd|apply qa1|apply qcd);(try intro K hk);focus (simp only [lvX52_45,mkT,go_sem,Nat.reduceEqDiff,Nat.reduceAdd,Nat.reduceLeDiff,↓reduceIte,reduceCtorEq,encTks_len,hg];first|exact rfl|((repeat refine ai ?_);intros;apply hk;clear hk K)))|apply qw1|refine qwc lvX52_45 ?_|apply qt1|apply qw5|apply qw2|apply qj1|(refine qj6 ?_ ?_<;>intro hc<;>(try simp only [hc])<;>(try simp only [decide_eq_true_eq,decide_eq_false_iff_not] at hc)<;>(try (exfalso;omega))))
   (refine qa1 fun K hk=>?_);simp only [go_sem,↓upd_def,↓evT,↓reduceIte,↓aop];repeat (refine And.intro ?_ ?_;focus (first|omega|assumption|with_reducible rfl|(simp only [go_sem,↓upd_def,↓evT,Nat.reduceEqDiff,Nat.reduceAdd,Nat.reduceLeDiff,Nat.reduceLT,Nat.reduceSub,Int.reduceToNat,↓reduceIte,reduceCtorEq,↓aop,↓aopc,↓aopd,encTks_len];done)))
   refine ⟨⟨kd,nm,v,ps⟩,by simp [encTk_mk],hpl,?_⟩
   apply hk;clear hk K
   dsimp only
   rw [encTk_mk]
   repeat' (first|((first|apply qwd|apply qa1);(try intro K hk);focus (simp only [lvX52_45,mkT,go_sem,Nat.reduceEqDiff,Nat.reduceAdd,Nat.reduceLeDiff,↓reduceIte,reduceCtorEq,encTks_len,encTks_pt,hlt];first|exact rfl|((repeat refine ai ?_);intros;apply hk;clear hk K)))|refine qwc lvX52_45 ?_|apply qt1|apply qt4)
   refine s_againR (k+1) (fun i=>if i=0 then 2 else i) ?_ ?_ ?_ ?_ ?_ ?_<;>(first|omega|(dsimp only;omega)|(intro i hi;(try dsimp only);(repeat' split)<;>omega)|(intro i j hi hj h;(try dsimp only at h);(repeat' split at h)<;>omega)|skip)
   all_goals (simp [fitsTR,fitsMR,PV.ren,MB.ren,upd_def,PV.nmb,MB.nmb,htk];done)
 · obtain rfl:k=l.length:=by omega
   repeat' (first|((first|apply qwd|apply qa1|apply qcd);(try intro K hk);focus (simp only [lvX52_45,mkT,go_sem,Nat.reduceEqDiff,↓reduceIte,reduceCtorEq,encTks_len];first|exact rfl|((repeat refine ai ?_);intros;apply hk;clear hk K)))|apply qw1|refine qwc lvX52_45 ?_|apply qt1|apply qt2|apply qt5|apply qw3|apply qw4|apply qj4|(refine qj6 ?_ ?_<;>intro hc<;>(try simp only [hc])<;>(try simp only [decide_eq_true_eq,decide_eq_false_iff_not] at hc)<;>(try (exfalso;omega))))
   ((first|refine fin_ret ?_|refine fin_end ?_);simp only [go_sem,↓upd_def,↓reduceIte])
   rw [List.take_length]
   exact hK
end Go.Proofs.Ytnbjogilidfkdaa

/- Contracts: tags that are closed. -/
namespace Go.Proofs.Ytnbjogilidfkdaa
attribute [local irreducible] awp arun acalm FinP Fin AX.then AX.inBlock Again aG gsel amix amixN amixC aop aopc aopd cutK
attribute [local go_sem] aBSliceD aSlice aSliceC boundOf aMk aCall aCallC aLenL aLen aPick_t aPick_f aNil aAlloc aBox aBuild bldPV aBSlice bsPV aApp newsOf destOf drp aConvX aConv aConvInt aLoad cellsAt aStore cellsPV setAt aFld aField aIdx aIndex aUn aBin' aBin aMax aExtract pvOf PV.isCell nmbL PV.nmb List.map_cons List.map_nil List.all_cons List.all_nil Bool.and_true Bool.true_and if_true if_false List.getD_cons_zero List.getD_cons_succ List.getD_nil Option.isSome_some true_and and_true and_self eq_self true_or or_true List.drop_zero List.drop_succ_cons List.drop_nil List.take_zero List.take_succ_cons List.take_nil List.length_cons List.length_nil List.length_map Option.getD_some Option.getD_none List.nil_append List.cons_append List.append_nil Option.some.injEq exists_eq_left' List.getElem?_cons_zero List.getElem?_cons_succ Int.toNat_natCast Int.natCast_inj toNat_succ Nat.zero_add res res1 resC owns owns1 ownsC List.flatMap_cons List.flatMap_nil List.flatten_cons List.flatten_nil List.mem_cons List.not_mem_nil or_false false_or forall_eq forall_eq_or_imp isFro frz frz1 pureC tabA isBld List.cons.injEq PV.seq.injEq PV.int.injEq PV.str.injEq PV.bool.injEq PV.agg.injEq inR tab Γof aRes packR Option.map_some Option.map_none rel Prod.exists exists_and_left exists_eq_left and_assoc beq_self_eq_true Bool.not_true Bool.not_false decide_true decide_false List.set_cons_zero List.set_cons_succ rst_nil rst_cons
attribute [local go_sem ↓] evT upd_def aop aopc aopd
set_option maxRecDepth 100000
set_option linter.unusedVariables false
set_option linter.unusedSimpArgs false
open Go.RowKit
def lvX54_44:Nat→List Nat
 | 0=>[0]
 | 1=>[0,3]
 | 2=>[0,3,4]
 | 3=>[3,4,10,11,12]
 | 4=>[3,4,10,11,12,13]
 | 5=>[3,4,6,10,11,12]
 | 6=>[3,4,6,10,11,12,18]
 | 7=>[3,4,6,10,11,12,32]
 | 8=>[3,4,6,10,11,12]
 | 9=>[3,4,6,10,11,12,46]
 | 10=>[3,4,6,10,11,12]
 | 11=>[3,4,6,10,11,12]
 | 12=>[3,4,10,11,12]
 | 13=>[3,4,10,11,12]
 | 14=>[3,4,7]
 | 15=>[3,4,7,66]
 | 16=>[3,4,7]
 | 17=>[3,4,7]
 | 18=>[2]
 | _=>[]
def lvX54_49:Nat→List Nat
 | 0=>[0]
 | 1=>[0]
 | 2=>[0,3]
 | 3=>[0,3,4]
 | 4=>[0,3,4,5]
 | 5=>[0,3,4,5,16]
 | 6=>[0,3,4,5]
 | 7=>[0,3,4,5,6]
 | 8=>[0,3,4,5,6,7]
 | 9=>[0,3,4,5,6,7,28]
 | 10=>[0,3,4,5,6,7,39]
 | 11=>[0,3,4,5,6]
 | 12=>[0,3,4,5,6,51]
 | 13=>[0,3,4,5,6]
 | 14=>[0,3,4,5]
 | 15=>[3,4,8]
 | 16=>[3,4,8,65]
 | 17=>[3,4,8]
 | 18=>[3,4,8]
 | 19=>[2]
 | _=>[]
--LV=X54
/-- Tokens that may be closed. -/
@[go_sem] def clC:PC:=rel (α:=List TokD) (fun x=>[.seq (encTks x)]) smTks (fun x=> .seq (encTks (closeF [] x)))
theorem encTks_end54 (l:List TokD) (n:Bs):encTks l++[[.int .i64 3,.str n,.str [],.seq []]]=encTks (l++[tkEnd n]):=encTks_pt l 3 n [] []
theorem st_end54 {st:List Bs} {i:Nat} (h:i<st.length): ∃ n,st[i]?=some n∧(strs st.reverse)[st.length - 1 - i]?=some [.str n]∧(st.take (i+1)).map tkEnd=(st.take i).map tkEnd++[tkEnd n]:=by
 refine ⟨st[i],List.getElem?_eq_getElem h,?_,?_⟩
 · have h2:st.length - 1 - i<st.length:=by omega
   have h3:st.length - 1 - (st.length - 1 - i)=i:=by omega
   simp only [strs,List.getElem?_map,List.getElem?_reverse h2,h3,List.getElem?_eq_getElem h,Option.map_some]
 · rw [(List.take_append_getElem h).symm,List.map_append];rfl
set_option maxHeartbeats 8000000 in
theorem cl_i:PureOk Try.prog 44 clC:=by
 refine pure_rel 1 (tab_cons vo_i tab_nil) mixed [.tmp 2] Try.func44 rfl rfl (by kernel_rfl) (by kernel_rfl) (fun _=>rfl) (by kernel_rfl) ?_
 rintro l K hsm hK
 obtain ⟨hl,hall⟩:=id hsm
 have hst:=strs_all50
 have hsl:=strs_length
 have hz0:decide (((0:Nat):Int)=0)=true:=by simp
 have hz1:decide (((0:Nat):Int) - 1<0)=true:=by simp
 have hall2: ∀ t ∈ l,t.pairs.length≤1048576:=fun t ht=>by have:=(hall t ht).2.2.1;omega
 unfold entry
 repeat' (first|((first|apply qwd|apply qa1);(try intro K hk);focus (simp only [lvX54_44,mkT,go_sem,Nat.reduceEqDiff,Nat.reduceAdd,↓reduceIte,reduceCtorEq,encTks_len];first|exact rfl|((repeat refine ai ?_);intros;apply hk;clear hk K)))|apply qw1|refine qwc lvX54_44 ?_|apply qt1|apply qw5)
 refine s_loop (ι:=Nat×List Bs×List TokD) (fun i=>[(3,.own 0),(4,.own 1),(10,.seq (encTks l)),(11,.int .i64 l.length),(12,.int .i64 i.1)]) (fun i=>[(0,.row 29 4 (encTks i.2.2)),(1,.row 9 1 (strs i.2.1.reverse))]) 2 (fun i=>i.1≤l.length∧i.2.1.length≤i.1∧i.2.2.length≤i.1∧(∀ n ∈ i.2.1,n.length≤10)∧closeF [] l=i.2.2++closeF i.2.1 (l.drop i.1)) (fun i=>l.length - i.1) (0,[],[]) (by omega) (by dsimp only;exact ⟨Nat.zero_le _,Nat.zero_le _,Nat.zero_le _,(fun n hn=>by cases hn),rfl⟩) ?_ ?_
 · simp [fits,fitsT,fitsM,upd_def,PV.nmb,MB.nmb,strs,encTks_nil]
 rintro ⟨k,st,out⟩ ⟨hk,hs,ho,hn,hd⟩
 dsimp only at hk hs ho hn hd
 simp only [mkS,mkT,mkM]
 have hrl:(strs st.reverse).length=st.length:=by simp [strs]
 by_cases hkl:k<l.length
 · obtain ⟨⟨kd,nm,v,ps⟩,hx⟩:=get_some (xs:=l) (k:=k) hkl
   have hsk:=smTk_at hsm hx
   obtain ⟨b1,b2,b3,b4⟩:=hsk
   dsimp only at b1 b2 b3 b4
   have hg:(encTks l)[k]?=some [.int .i64 kd,.str nm,.str v,.seq (encPrs ps)]:=by rw [encTks_get,hx];rfl
   rw [drop_tk hx] at hd
   by_cases k2:kd=2
   · subst k2
     cases hv:voidN nm with
     | false =>
       rw [close_2 rfl hv] at hd
       have hnc: ∀ a ∈ nm::st,a.length≤10:=by
        intro a ha
        rcases List.mem_cons.1 ha with rfl|ha
        · exact b1
        · exact hn a ha
       repeat' (first|((first|apply qwd|apply qa1|apply qa2|apply qh1|apply qg1 rfl|apply qcd);(try intro K hk);focus (simp only [lvX54_44,mkT,go_sem,Nat.reduceEqDiff,Nat.reduceAdd,Nat.reduceLeDiff,↓reduceIte,reduceCtorEq,encTks_len,hg,hsl,List.length_reverse,encPrs_all,encPrs_len,List.nil_append,encTks_pt,hv,strs_rev,List.length_reverse,List.length_cons,decide_true,decide_false,Int.reduceEq,Bool.not_false];first|exact rfl|((repeat refine ai ?_);intros;apply hk;clear hk K)))|apply qw1|refine qwc lvX54_44 ?_|apply qt1|apply qw5|apply qw2|apply qt4|apply qj1|apply qj4|apply qu1|(refine qj6 ?_ ?_<;>intro hc<;>(try simp only [hc])<;>(try simp only [decide_eq_true_eq,decide_eq_false_iff_not] at hc)<;>(try (exfalso;omega))))
       refine s_againR ((k+1,nm::st,out++[⟨2,nm,v,ps⟩])) (fun i=>if i=0 then 8 else if i =  1 then 4 else i) ?_ ?_ ?_ ?_ ?_ ?_<;>(first|omega|(dsimp only;omega)|(intro i hi;(try dsimp only);(repeat' split)<;>omega)|(intro i j hi hj h;(try dsimp only at h);(repeat' split at h)<;>omega)|skip)
       all_goals first|exact ⟨by dsimp only;omega,by dsimp only;(try simp only [List.length_cons]);omega,by dsimp only;(try simp only [List.length_append,List.length_singleton]);omega,by dsimp only;assumption,by dsimp only;first|assumption|(rw [hd];simp [List.append_assoc])⟩|(simp [fitsTR,fitsMR,PV.ren,MB.ren,upd_def,PV.nmb,MB.nmb, *];done)
     | true =>
       rw [close_o (by show (2:Int)≠3;decide) (fun h=>by have h2:voidN nm=false:=h.2;rw [hv] at h2;cases h2)] at hd
       repeat' (first|((first|apply qwd|apply qa1|apply qa2|apply qh1|apply qg1 rfl|apply qcd);(try intro K hk);focus (simp only [lvX54_44,mkT,go_sem,Nat.reduceEqDiff,Nat.reduceAdd,Nat.reduceLeDiff,↓reduceIte,reduceCtorEq,encTks_len,hg,encPrs_all,encPrs_len,List.nil_append,encTks_pt,hv,decide_true,decide_false,Int.reduceEq,Bool.not_true];first|exact rfl|((repeat refine ai ?_);intros;apply hk;clear hk K)))|apply qw1|refine qwc lvX54_44 ?_|apply qt1|apply qw5|apply qw2|apply qt4|apply qj1|apply qj4|apply qu1|(refine qj6 ?_ ?_<;>intro hc<;>(try simp only [hc])<;>(try simp only [decide_eq_true_eq,decide_eq_false_iff_not] at hc)<;>(try (exfalso;omega))))
       refine s_againR ((k+1,st,out++[⟨2,nm,v,ps⟩])) (fun i=>if i=0 then 6 else i) ?_ ?_ ?_ ?_ ?_ ?_<;>(first|omega|(dsimp only;omega)|(intro i hi;(try dsimp only);(repeat' split)<;>omega)|(intro i j hi hj h;(try dsimp only at h);(repeat' split at h)<;>omega)|skip)
       all_goals first|exact ⟨by dsimp only;omega,by dsimp only;(try simp only [List.length_cons]);omega,by dsimp only;(try simp only [List.length_append,List.length_singleton]);omega,by dsimp only;assumption,by dsimp only;first|assumption|(rw [hd];simp [List.append_assoc])⟩|(simp [fitsTR,fitsMR,PV.ren,MB.ren,upd_def,PV.nmb,MB.nmb, *];done)
   by_cases k3:kd=3
   · subst k3
     rw [close_3 rfl] at hd
     cases st with
     | nil =>
       dsimp only at hd
       repeat' (first|(refine s_draw 14 ?_ ?_;focus (decide +kernel))|(first|((first|apply qwd|apply qa1|apply qa2|apply qa3|apply qg1 rfl|apply qcd);(try intro K hk);focus (simp only [lvX54_44,mkT,go_sem,Nat.reduceEqDiff,Nat.reduceAdd,Nat.reduceLeDiff,↓reduceIte,reduceCtorEq,hg,hrl,hz0,List.length_nil,decide_true];first|exact rfl|((repeat refine ai ?_);intros;apply hk;clear hk K)))|apply qw8|apply qw1|refine qwc lvX54_44 ?_|apply qt1|apply qw5|apply qw2|apply qw9|apply qt2|apply qt5|apply qw3|apply qj1|apply qj3|apply qu2|(refine qj6 ?_ ?_<;>intro hc<;>(try simp only [hc])<;>(try simp only [decide_eq_true_eq,decide_eq_false_iff_not] at hc)<;>(try (exfalso;omega)))))
       refine s_again ((k+1,[],out)) ?_ ?_ ?_<;>(first|omega|(dsimp only;omega)|skip)
       · exact ⟨by dsimp only;omega,by dsimp only [List.length_nil];omega,by dsimp only;omega,hn,hd⟩
       · simp [fits,fitsT,fitsM,upd_def,PV.nmb,MB.nmb]
     | cons n q =>
       dsimp only at hd
       have hn1:=hn n List.mem_cons_self
       have hnc: ∀ a ∈ q,a.length≤10:=fun a ha=>hn a (List.mem_cons_of_mem _ ha)
       have htop:=strs_top n q
       have hpop:=strs_pop n q
       have htn:((q.length+1:Nat):Int) - 1=(q.length:Int):=by omega
       have hlz:decide ((q.length:Int)<0)=false:=decide_eq_false (by omega)
       have hlw:decide (((q.length+1:Nat):Int)=0)=false:=decide_eq_false (by omega)
       rw [List.length_cons] at hrl hs
       have hql:q.length+1≤1000:=by omega
       by_cases hnn:n=nm
       · obtain rfl:nm=n:=hnn.symm
         rw [if_pos rfl] at hd
         repeat' (first|(refine s_draw 14 ?_ ?_;focus (decide +kernel))|(first|((first|apply qwd|apply qa1|apply qa2|apply qa3|apply qh2|apply qg1 rfl|apply qcd);(try intro K hk);focus (simp only [lvX54_44,mkT,go_sem,Nat.reduceEqDiff,Nat.reduceAdd,Nat.reduceLeDiff,↓reduceIte,reduceCtorEq,encTks_len,encPrs_all,encPrs_len,List.nil_append,encTks_pt,hg,hrl,htop,hpop,htn,hlw,Int.toNat_natCast,decide_true,decide_false,Int.reduceEq,Bool.not_true];first|exact rfl|((repeat refine ai ?_);intros;apply hk;clear hk K)))|apply qw8|apply qw1|refine qwc lvX54_44 ?_|apply qt1|apply qw5|apply qw2|apply qw9|apply qt4|apply qj1|apply qj2|apply qj4|apply qu1|apply qu2|(refine qj6 ?_ ?_<;>intro hc<;>(try simp only [hc])<;>(try simp only [decide_eq_true_eq,decide_eq_false_iff_not] at hc)<;>(try (exfalso;omega)))))
         refine s_againR ((k+1,q,out++[⟨3,nm,v,ps⟩])) (fun i=>if i=0 then 7 else if i =  1 then 3 else i) ?_ ?_ ?_ ?_ ?_ ?_<;>(first|omega|(dsimp only;omega)|(intro i hi;(try dsimp only);(repeat' split)<;>omega)|(intro i j hi hj h;(try dsimp only at h);(repeat' split at h)<;>omega)|skip)
         all_goals first|exact ⟨by dsimp only;omega,by dsimp only;(try simp only [List.length_cons]);omega,by dsimp only;(try simp only [List.length_append,List.length_singleton]);omega,by dsimp only;assumption,by dsimp only;first|assumption|(rw [hd];simp [List.append_assoc])⟩|(simp [fitsTR,fitsMR,PV.ren,MB.ren,upd_def,PV.nmb,MB.nmb, *];done)
       · rw [if_neg hnn] at hd
         repeat' (first|(refine s_draw 14 ?_ ?_;focus (decide +kernel))|(first|((first|apply qwd|apply qa1|apply qa2|apply qa3|apply qh2|apply qg1 rfl|apply qcd);(try intro K hk);focus (simp only [lvX54_44,mkT,go_sem,Nat.reduceEqDiff,Nat.reduceAdd,Nat.reduceLeDiff,↓reduceIte,reduceCtorEq,hg,hrl,htop,htn,hlw,hnn,Int.toNat_natCast,decide_true,decide_false,Bool.not_false];first|exact rfl|((repeat refine ai ?_);intros;apply hk;clear hk K)))|apply qw8|apply qw1|refine qwc lvX54_44 ?_|apply qt1|apply qw5|apply qw2|apply qw9|apply qt2|apply qt5|apply qw3|apply qj1|apply qj2|apply qu2|(refine qj6 ?_ ?_<;>intro hc<;>(try simp only [hc])<;>(try simp only [decide_eq_true_eq,decide_eq_false_iff_not] at hc)<;>(try (exfalso;omega)))))
         refine s_again ((k+1,n::q,out)) ?_ ?_ ?_<;>(first|omega|(dsimp only;omega)|skip)
         · exact ⟨by dsimp only;omega,by dsimp only [List.length_cons];omega,by dsimp only;omega,hn,hd⟩
         · simp [fits,fitsT,fitsM,upd_def,PV.nmb,MB.nmb]
   · rw [close_o k3 (fun h=>k2 h.1)] at hd
     repeat' (first|((first|apply qwd|apply qa1|apply qa2|apply qg1 rfl|apply qcd);(try intro K hk);focus (simp only [lvX54_44,mkT,go_sem,Nat.reduceEqDiff,Nat.reduceAdd,Nat.reduceLeDiff,↓reduceIte,reduceCtorEq,encTks_len,hg,encPrs_all,encPrs_len,List.nil_append,encTks_pt,k2,k3,decide_false];first|exact rfl|((repeat refine ai ?_);intros;apply hk;clear hk K)))|apply qw1|refine qwc lvX54_44 ?_|apply qt1|apply qw5|apply qw2|apply qt4|apply qj1|apply qj4|apply qu1|(refine qj6 ?_ ?_<;>intro hc<;>(try simp only [hc])<;>(try simp only [decide_eq_true_eq,decide_eq_false_iff_not] at hc)<;>(try (exfalso;omega))))
     refine s_againR ((k+1,st,out++[⟨kd,nm,v,ps⟩])) (fun i=>if i=0 then 6 else i) ?_ ?_ ?_ ?_ ?_ ?_<;>(first|omega|(dsimp only;omega)|(intro i hi;(try dsimp only);(repeat' split)<;>omega)|(intro i j hi hj h;(try dsimp only at h);(repeat' split at h)<;>omega)|skip)
     all_goals first|exact ⟨by dsimp only;omega,by dsimp only;(try simp only [List.length_cons]);omega,by dsimp only;(try simp only [List.length_append,List.length_singleton]);omega,by dsimp only;assumption,by dsimp only;first|assumption|(rw [hd];simp [List.append_assoc])⟩|(simp [fitsTR,fitsMR,PV.ren,MB.ren,upd_def,PV.nmb,MB.nmb, *];done)
 · obtain rfl:k=l.length:=by omega
   rw [List.drop_length,close_nil] at hd
   repeat' (first|((first|apply qwd|apply qa1|apply qcd);(try intro K hk);focus (simp only [lvX54_44,mkT,go_sem,Nat.reduceEqDiff,↓reduceIte,reduceCtorEq,hrl];first|exact rfl|((repeat refine ai ?_);intros;apply hk;clear hk K)))|apply qw1|refine qwc lvX54_44 ?_|apply qt1|apply qw5|apply qt2|apply qt5|apply qw3|apply qj4|(refine qj6 ?_ ?_<;>intro hc<;>(try simp only [hc])<;>(try simp only [decide_eq_true_eq,decide_eq_false_iff_not] at hc)<;>(try (exfalso;omega))))
   refine s_loop (ι:=Nat) (fun i=>[(3,.own 0),(4,.own 1),(7,.int .i64 ((st.length:Int) - 1 - i))]) (fun i=>[(0,.row 29 4 (encTks (out++(st.take i).map tkEnd))),(1,.row 9 1 (strs st.reverse))]) 2 (fun i=>i≤st.length) (fun i=>st.length - i) 0 (by omega) (Nat.zero_le _) ?_ ?_
   · simp [fits,fitsT,fitsM,upd_def,PV.nmb,MB.nmb]
   intro i hi
   simp only [mkS,mkT,mkM]
   have hlo2:(out++(st.take i).map tkEnd).length≤2000:=by simp;omega
   by_cases his:i<st.length
   · obtain ⟨n,hn1,hn2,hn3⟩:=st_end54 his
     have hge:decide ((st.length:Int) - 1 - i ≥ 0)=true:=decide_eq_true (by omega)
     have hto:((st.length:Int) - 1 - i).toNat=st.length - 1 - i:=by omega
     repeat' (first|((first|apply qwd|apply qa1|apply qcd);(try intro K hk);focus (simp only [lvX54_44,mkT,go_sem,Nat.reduceEqDiff,Nat.reduceAdd,Nat.reduceLeDiff,Nat.reduceLT,↓reduceIte,reduceCtorEq,encTks_len,encTks_end54,hge,hto,hrl,hn2];first|exact rfl|((repeat refine ai ?_);intros;apply hk;clear hk K)))|apply qw1|refine qwc lvX54_44 ?_|apply qt1|apply qw5|apply qw2|apply qt4|apply qj1)
     first
      | (refine s_againR (i+1) (fun i=>if i=0 then 3 else i) ?_ ?_ ?_ ?_ ?_ ?_<;>(first|omega|(dsimp only;omega)|(intro i hi;(try dsimp only);(repeat' split)<;>omega)|(intro i j hi hj h;(try dsimp only at h);(repeat' split at h)<;>omega)|skip)
         all_goals (simp [fitsTR,fitsMR,PV.ren,MB.ren,upd_def,PV.nmb,MB.nmb,hn3];try omega;done))
      | (refine s_againR (i+1) (fun i=>if i=0 then 3 else i) ?_ ?_ ?_ ?_ ?_ ?_<;>(first|omega|(dsimp only;omega)|(intro i hi;(try dsimp only);(repeat' split)<;>omega)|(intro i j hi hj h;(try dsimp only at h);(repeat' split at h)<;>omega)|skip)
         all_goals (simp [fitsTR,fitsMR,PV.ren,renL,MB.ren,upd_def,PV.nmb,nmbL,MB.nmb,List.getD_cons_zero,List.getD_cons_succ,frz,drp,hn3]<;>omega))
   · obtain rfl:i=st.length:=by omega
     rw [List.take_length,← hd] at *
     have hge:decide ((st.length:Int) - 1 - st.length ≥ 0)=false:=decide_eq_false (by omega)
     repeat' (first|((first|apply qwd|apply qa1|apply qcd);(try intro K hk);focus (simp only [lvX54_44,mkT,go_sem,Nat.reduceEqDiff,↓reduceIte,hge];first|exact rfl|((repeat refine ai ?_);intros;apply hk;clear hk K)))|apply qw1|refine qwc lvX54_44 ?_|apply qt1|apply qt2|apply qt5|apply qw3|apply qw4|apply qj4)
     ((first|refine fin_ret ?_|refine fin_end ?_);simp only [go_sem,↓upd_def,↓reduceIte])
     exact hK
set_option maxHeartbeats 8000000 in
theorem cl_s:PureOk Try.prog 49 clC:=by
 refine pure_rel 1 (tab_cons owl_s (tab_cons vo_s tab_nil)) mixed [.tmp 2] Try.func49 rfl rfl (by kernel_rfl) (by kernel_rfl) (fun _=>rfl) (by kernel_rfl) ?_
 rintro l K hsm hK
 obtain ⟨hl,hall⟩:=id hsm
 have hst:=strs_all50
 have hsl:=strs_length
 have hz0:decide (((0:Nat):Int)=0)=true:=by simp
 have hz1:decide (((0:Nat):Int) - 1<0)=true:=by simp
 have hall2: ∀ t ∈ l,t.pairs.length≤1048576:=fun t ht=>by have:=(hall t ht).2.2.1;omega
 unfold entry
 repeat' (first|((first|apply qwd|apply qa1);(try intro K hk);focus (simp only [lvX54_49,mkT,go_sem,Nat.reduceEqDiff,Nat.reduceAdd,↓reduceIte,reduceCtorEq,encTks_iff];first|exact rfl|((repeat refine ai ?_);intros;apply hk;clear hk K)))|apply qw1|refine qwc lvX54_49 ?_|apply qt1|apply qw5)
 refine s_loop (ι:=Nat×List Bs×List TokD) (fun i=>[(0,.seq (encTks l)),(3,.own 0),(4,.own 1),(5,.int .i64 i.1)]) (fun i=>[(0,.row 29 4 (encTks i.2.2)),(1,.row 9 1 (strs i.2.1.reverse))]) 2 (fun i=>i.1≤l.length∧i.2.1.length≤i.1∧i.2.2.length≤i.1∧(∀ n ∈ i.2.1,n.length≤10)∧closeF [] l=i.2.2++closeF i.2.1 (l.drop i.1)) (fun i=>l.length - i.1) (0,[],[]) (by omega) (by dsimp only;exact ⟨Nat.zero_le _,Nat.zero_le _,Nat.zero_le _,(fun n hn=>by cases hn),rfl⟩) ?_ ?_
 · simp [fits,fitsT,fitsM,upd_def,PV.nmb,MB.nmb,strs,encTks_nil]
 rintro ⟨k,st,out⟩ ⟨hk,hs,ho,hn,hd⟩
 dsimp only at hk hs ho hn hd
 simp only [mkS,mkT,mkM]
 have hrl:(strs st.reverse).length=st.length:=by simp [strs]
 by_cases hkl:k<l.length
 · obtain ⟨⟨kd,nm,v,ps⟩,hx⟩:=get_some (xs:=l) (k:=k) hkl
   have hsk:=smTk_at hsm hx
   obtain ⟨b1,b2,b3,b4⟩:=hsk
   dsimp only at b1 b2 b3 b4
   have hg:(encTks l)[k]?=some [.int .i64 kd,.str nm,.str v,.seq (encPrs ps)]:=by rw [encTks_get,hx];rfl
   rw [drop_tk hx] at hd
   by_cases k2:kd=2
   · subst k2
     cases hv:voidN nm with
     | false =>
       rw [close_2 rfl hv] at hd
       have hnc: ∀ a ∈ nm::st,a.length≤10:=by
        intro a ha
        rcases List.mem_cons.1 ha with rfl|ha
        · exact b1
        · exact hn a ha
       repeat' (first|((first|apply qwd|apply qa1|apply qa2|apply qh1|apply qg1 rfl|apply qcd);(try intro K hk);focus (simp only [lvX54_49,mkT,go_sem,Nat.reduceEqDiff,Nat.reduceAdd,Nat.reduceLeDiff,↓reduceIte,reduceCtorEq,encTks_len,hg,hsl,List.length_reverse,List.nil_append,encTks_pt,hv,strs_rev,List.length_reverse,List.length_cons,decide_true,decide_false,Int.reduceEq,Bool.not_false];first|exact rfl|((repeat refine ai ?_);intros;apply hk;clear hk K)))|apply qw1|refine qwc lvX54_49 ?_|apply qt1|apply qw5|apply qw2|apply qt4|apply qj1|apply qj4|apply qu1|(refine qj6 ?_ ?_<;>intro hc<;>(try simp only [hc])<;>(try simp only [decide_eq_true_eq,decide_eq_false_iff_not] at hc)<;>(try (exfalso;omega))))
       refine s_againR ((k+1,nm::st,out++[⟨2,nm,v,ps⟩])) (fun i=>if i=0 then 6 else if i =  1 then 4 else i) ?_ ?_ ?_ ?_ ?_ ?_<;>(first|omega|(dsimp only;omega)|(intro i hi;(try dsimp only);(repeat' split)<;>omega)|(intro i j hi hj h;(try dsimp only at h);(repeat' split at h)<;>omega)|skip)
       all_goals first|exact ⟨by dsimp only;omega,by dsimp only;(try simp only [List.length_cons]);omega,by dsimp only;(try simp only [List.length_append,List.length_singleton]);omega,by dsimp only;assumption,by dsimp only;first|assumption|(rw [hd];simp [List.append_assoc])⟩|(simp [fitsTR,fitsMR,PV.ren,MB.ren,upd_def,PV.nmb,MB.nmb, *];done)
     | true =>
       rw [close_o (by show (2:Int)≠3;decide) (fun h=>by have h2:voidN nm=false:=h.2;rw [hv] at h2;cases h2)] at hd
       repeat' (first|((first|apply qwd|apply qa1|apply qa2|apply qh1|apply qg1 rfl|apply qcd);(try intro K hk);focus (simp only [lvX54_49,mkT,go_sem,Nat.reduceEqDiff,Nat.reduceAdd,Nat.reduceLeDiff,↓reduceIte,reduceCtorEq,encTks_len,hg,hsl,List.length_reverse,List.nil_append,encTks_pt,hv,decide_true,decide_false,Int.reduceEq,Bool.not_true];first|exact rfl|((repeat refine ai ?_);intros;apply hk;clear hk K)))|apply qw1|refine qwc lvX54_49 ?_|apply qt1|apply qw5|apply qw2|apply qt4|apply qj1|apply qj4|apply qu1|(refine qj6 ?_ ?_<;>intro hc<;>(try simp only [hc])<;>(try simp only [decide_eq_true_eq,decide_eq_false_iff_not] at hc)<;>(try (exfalso;omega))))
       refine s_againR ((k+1,st,out++[⟨2,nm,v,ps⟩])) (fun i=>if i=0 then 4 else i) ?_ ?_ ?_ ?_ ?_ ?_<;>(first|omega|(dsimp only;omega)|(intro i hi;(try dsimp only);(repeat' split)<;>omega)|(intro i j hi hj h;(try dsimp only at h);(repeat' split at h)<;>omega)|skip)
       all_goals first|exact ⟨by dsimp only;omega,by dsimp only;(try simp only [List.length_cons]);omega,by dsimp only;(try simp only [List.length_append,List.length_singleton]);omega,by dsimp only;assumption,by dsimp only;first|assumption|(rw [hd];simp [List.append_assoc])⟩|(simp [fitsTR,fitsMR,PV.ren,MB.ren,upd_def,PV.nmb,MB.nmb, *];done)
   by_cases k3:kd=3
   · subst k3
     rw [close_3 rfl] at hd
     cases st with
     | nil =>
       dsimp only at hd
       repeat' (first|(refine s_draw 11 ?_ ?_;focus (decide +kernel))|(first|((first|apply qwd|apply qa1|apply qa2|apply qa3|apply qg1 rfl|apply qcd);(try intro K hk);focus (simp only [lvX54_49,mkT,go_sem,Nat.reduceEqDiff,Nat.reduceAdd,Nat.reduceLeDiff,↓reduceIte,reduceCtorEq,encTks_len,hg,hrl,hz1,List.length_nil,decide_true];first|exact rfl|((repeat refine ai ?_);intros;apply hk;clear hk K)))|apply qw8|apply qw1|refine qwc lvX54_49 ?_|apply qt1|apply qw5|apply qw2|apply qw9|apply qt2|apply qt5|apply qw3|apply qj1|apply qj3|apply qu2|(refine qj6 ?_ ?_<;>intro hc<;>(try simp only [hc])<;>(try simp only [decide_eq_true_eq,decide_eq_false_iff_not] at hc)<;>(try (exfalso;omega)))))
       refine s_again ((k+1,[],out)) ?_ ?_ ?_<;>(first|omega|(dsimp only;omega)|skip)
       · exact ⟨by dsimp only;omega,by dsimp only [List.length_nil];omega,by dsimp only;omega,hn,hd⟩
       · simp [fits,fitsT,fitsM,upd_def,PV.nmb,MB.nmb]
     | cons n q =>
       dsimp only at hd
       have hn1:=hn n List.mem_cons_self
       have hnc: ∀ a ∈ q,a.length≤10:=fun a ha=>hn a (List.mem_cons_of_mem _ ha)
       have htop:=strs_top n q
       have hpop:=strs_pop n q
       have htn:((q.length+1:Nat):Int) - 1=(q.length:Int):=by omega
       have hlz:decide ((q.length:Int)<0)=false:=decide_eq_false (by omega)
       have hlw:decide (((q.length+1:Nat):Int)=0)=false:=decide_eq_false (by omega)
       rw [List.length_cons] at hrl hs
       have hql:q.length+1≤1000:=by omega
       by_cases hnn:n=nm
       · obtain rfl:nm=n:=hnn.symm
         rw [if_pos rfl] at hd
         repeat' (first|(refine s_draw 11 ?_ ?_;focus (decide +kernel))|(first|((first|apply qwd|apply qa1|apply qa2|apply qa3|apply qh2|apply qg1 rfl|apply qcd);(try intro K hk);focus (simp only [lvX54_49,mkT,go_sem,Nat.reduceEqDiff,Nat.reduceAdd,Nat.reduceLeDiff,↓reduceIte,reduceCtorEq,encTks_len,List.nil_append,encTks_pt,hg,hrl,htop,hpop,htn,hlz,Int.toNat_natCast,decide_true,decide_false,Int.reduceEq,Bool.not_true];first|exact rfl|((repeat refine ai ?_);intros;apply hk;clear hk K)))|apply qw8|apply qw1|refine qwc lvX54_49 ?_|apply qt1|apply qw5|apply qw2|apply qw9|apply qt4|apply qj1|apply qj2|apply qj4|apply qu1|apply qu2|(refine qj6 ?_ ?_<;>intro hc<;>(try simp only [hc])<;>(try simp only [decide_eq_true_eq,decide_eq_false_iff_not] at hc)<;>(try (exfalso;omega)))))
         refine s_againR ((k+1,q,out++[⟨3,nm,v,ps⟩])) (fun i=>if i=0 then 5 else if i =  1 then 3 else i) ?_ ?_ ?_ ?_ ?_ ?_<;>(first|omega|(dsimp only;omega)|(intro i hi;(try dsimp only);(repeat' split)<;>omega)|(intro i j hi hj h;(try dsimp only at h);(repeat' split at h)<;>omega)|skip)
         all_goals first|exact ⟨by dsimp only;omega,by dsimp only;(try simp only [List.length_cons]);omega,by dsimp only;(try simp only [List.length_append,List.length_singleton]);omega,by dsimp only;assumption,by dsimp only;first|assumption|(rw [hd];simp [List.append_assoc])⟩|(simp [fitsTR,fitsMR,PV.ren,MB.ren,upd_def,PV.nmb,MB.nmb, *];done)
       · rw [if_neg hnn] at hd
         repeat' (first|(refine s_draw 11 ?_ ?_;focus (decide +kernel))|(first|((first|apply qwd|apply qa1|apply qa2|apply qa3|apply qh2|apply qg1 rfl|apply qcd);(try intro K hk);focus (simp only [lvX54_49,mkT,go_sem,Nat.reduceEqDiff,Nat.reduceAdd,Nat.reduceLeDiff,↓reduceIte,reduceCtorEq,encTks_len,hg,hrl,htop,htn,hlz,hnn,Int.toNat_natCast,decide_true,decide_false,Bool.not_false];first|exact rfl|((repeat refine ai ?_);intros;apply hk;clear hk K)))|apply qw8|apply qw1|refine qwc lvX54_49 ?_|apply qt1|apply qw5|apply qw2|apply qw9|apply qt2|apply qt5|apply qw3|apply qj1|apply qj2|apply qu2|(refine qj6 ?_ ?_<;>intro hc<;>(try simp only [hc])<;>(try simp only [decide_eq_true_eq,decide_eq_false_iff_not] at hc)<;>(try (exfalso;omega)))))
         refine s_again ((k+1,n::q,out)) ?_ ?_ ?_<;>(first|omega|(dsimp only;omega)|skip)
         · exact ⟨by dsimp only;omega,by dsimp only [List.length_cons];omega,by dsimp only;omega,hn,hd⟩
         · simp [fits,fitsT,fitsM,upd_def,PV.nmb,MB.nmb]
   · rw [close_o k3 (fun h=>k2 h.1)] at hd
     repeat' (first|((first|apply qwd|apply qa1|apply qa2|apply qg1 rfl|apply qcd);(try intro K hk);focus (simp only [lvX54_49,mkT,go_sem,Nat.reduceEqDiff,Nat.reduceAdd,Nat.reduceLeDiff,↓reduceIte,reduceCtorEq,encTks_len,hg,hsl,List.length_reverse,List.nil_append,encTks_pt,k2,k3,decide_false];first|exact rfl|((repeat refine ai ?_);intros;apply hk;clear hk K)))|apply qw1|refine qwc lvX54_49 ?_|apply qt1|apply qw5|apply qw2|apply qt4|apply qj1|apply qj4|apply qu1|(refine qj6 ?_ ?_<;>intro hc<;>(try simp only [hc])<;>(try simp only [decide_eq_true_eq,decide_eq_false_iff_not] at hc)<;>(try (exfalso;omega))))
     refine s_againR ((k+1,st,out++[⟨kd,nm,v,ps⟩])) (fun i=>if i=0 then 4 else i) ?_ ?_ ?_ ?_ ?_ ?_<;>(first|omega|(dsimp only;omega)|(intro i hi;(try dsimp only);(repeat' split)<;>omega)|(intro i j hi hj h;(try dsimp only at h);(repeat' split at h)<;>omega)|skip)
     all_goals first|exact ⟨by dsimp only;omega,by dsimp only;(try simp only [List.length_cons]);omega,by dsimp only;(try simp only [List.length_append,List.length_singleton]);omega,by dsimp only;assumption,by dsimp only;first|assumption|(rw [hd];simp [List.append_assoc])⟩|(simp [fitsTR,fitsMR,PV.ren,MB.ren,upd_def,PV.nmb,MB.nmb, *];done)
 · obtain rfl:k=l.length:=by omega
   rw [List.drop_length,close_nil] at hd
   repeat' (first|((first|apply qwd|apply qa1|apply qcd);(try intro K hk);focus (simp only [lvX54_49,mkT,go_sem,Nat.reduceEqDiff,↓reduceIte,reduceCtorEq,encTks_len,hrl];first|exact rfl|((repeat refine ai ?_);intros;apply hk;clear hk K)))|apply qw1|refine qwc lvX54_49 ?_|apply qt1|apply qw5|apply qt2|apply qt5|apply qw3|apply qj4|(refine qj6 ?_ ?_<;>intro hc<;>(try simp only [hc])<;>(try simp only [decide_eq_true_eq,decide_eq_false_iff_not] at hc)<;>(try (exfalso;omega))))
   refine s_loop (ι:=Nat) (fun i=>[(3,.own 0),(4,.own 1),(8,.int .i64 ((st.length:Int) - 1 - i))]) (fun i=>[(0,.row 29 4 (encTks (out++(st.take i).map tkEnd))),(1,.row 9 1 (strs st.reverse))]) 2 (fun i=>i≤st.length) (fun i=>st.length - i) 0 (by omega) (Nat.zero_le _) ?_ ?_
   · simp [fits,fitsT,fitsM,upd_def,PV.nmb,MB.nmb]
   intro i hi
   simp only [mkS,mkT,mkM]
   have hlo2:(out++(st.take i).map tkEnd).length≤2000:=by simp;omega
   by_cases his:i<st.length
   · obtain ⟨n,hn1,hn2,hn3⟩:=st_end54 his
     have hge:decide ((st.length:Int) - 1 - i ≥ 0)=true:=decide_eq_true (by omega)
     have hto:((st.length:Int) - 1 - i).toNat=st.length - 1 - i:=by omega
     repeat' (first|((first|apply qwd|apply qa1|apply qcd);(try intro K hk);focus (simp only [lvX54_49,mkT,go_sem,Nat.reduceEqDiff,Nat.reduceAdd,Nat.reduceLeDiff,Nat.reduceLT,↓reduceIte,reduceCtorEq,encTks_len,encTks_end54,hge,hto,hrl,hn2];first|exact rfl|((repeat refine ai ?_);intros;apply hk;clear hk K)))|apply qw1|refine qwc lvX54_49 ?_|apply qt1|apply qw5|apply qw2|apply qt4|apply qj1)
     first
      | (refine s_againR (i+1) (fun i=>if i=0 then 3 else i) ?_ ?_ ?_ ?_ ?_ ?_<;>(first|omega|(dsimp only;omega)|(intro i hi;(try dsimp only);(repeat' split)<;>omega)|(intro i j hi hj h;(try dsimp only at h);(repeat' split at h)<;>omega)|skip)
         all_goals (simp [fitsTR,fitsMR,PV.ren,MB.ren,upd_def,PV.nmb,MB.nmb,hn3];try omega;done))
      | (refine s_againR (i+1) (fun i=>if i=0 then 3 else i) ?_ ?_ ?_ ?_ ?_ ?_<;>(first|omega|(dsimp only;omega)|(intro i hi;(try dsimp only);(repeat' split)<;>omega)|(intro i j hi hj h;(try dsimp only at h);(repeat' split at h)<;>omega)|skip)
         all_goals (simp [fitsTR,fitsMR,PV.ren,renL,MB.ren,upd_def,PV.nmb,nmbL,MB.nmb,List.getD_cons_zero,List.getD_cons_succ,frz,drp,hn3]<;>omega))
   · obtain rfl:i=st.length:=by omega
     rw [List.take_length,← hd] at *
     have hge:decide ((st.length:Int) - 1 - st.length ≥ 0)=false:=decide_eq_false (by omega)
     repeat' (first|((first|apply qwd|apply qa1|apply qcd);(try intro K hk);focus (simp only [lvX54_49,mkT,go_sem,Nat.reduceEqDiff,↓reduceIte,hge];first|exact rfl|((repeat refine ai ?_);intros;apply hk;clear hk K)))|apply qw1|refine qwc lvX54_49 ?_|apply qt1|apply qt2|apply qt5|apply qw3|apply qw4|apply qj4)
     ((first|refine fin_ret ?_|refine fin_end ?_);simp only [go_sem,↓upd_def,↓reduceIte])
     exact hK
end Go.Proofs.Ytnbjogilidfkdaa
