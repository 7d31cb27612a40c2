/- The laws' own functions on parts: copies. -/
import Derived.Test.YtnbjogilidfkdaaGreatQTY

namespace Go.Proofs.YtnbjogilidfkdaaGreat
attribute [local irreducible] awp arun acalm FinP Fin AX.then AX.inBlock Again aG gsel amix amixN amixC aop aopc aopd cutK
attribute [local go_sem] aBSliceD aSlice aSliceC boundOf aMk aCall aCallC aLenL aLen aPick_t aPick_f aNil aAlloc aBox aBuild bldPV aBSlice bsPV aApp newsOf destOf drp aConvX aConv aConvInt aLoad cellsAt aStore cellsPV setAt aFld aField aIdx aIndex aUn aBin' aBin aMax aExtract pvOf PV.isCell nmbL PV.nmb List.map_cons List.map_nil List.all_cons List.all_nil Bool.and_true Bool.true_and if_true if_false List.getD_cons_zero List.getD_cons_succ List.getD_nil Option.isSome_some true_and and_true and_self eq_self true_or or_true List.drop_zero List.drop_succ_cons List.drop_nil List.take_zero List.take_succ_cons List.take_nil List.length_cons List.length_nil List.length_map Option.getD_some Option.getD_none List.nil_append List.cons_append List.append_nil Option.some.injEq exists_eq_left' List.getElem?_cons_zero List.getElem?_cons_succ Int.toNat_natCast Int.natCast_inj toNat_succ Nat.zero_add res res1 resC owns owns1 ownsC List.flatMap_cons List.flatMap_nil List.flatten_cons List.flatten_nil List.mem_cons List.not_mem_nil or_false false_or forall_eq forall_eq_or_imp isFro frz frz1 pureC tabA isBld List.cons.injEq PV.seq.injEq PV.int.injEq PV.str.injEq PV.bool.injEq PV.agg.injEq inR tab Γof aRes packR Option.map_some Option.map_none rel Prod.exists exists_and_left exists_eq_left and_assoc beq_self_eq_true Bool.not_true Bool.not_false decide_true decide_false List.set_cons_zero List.set_cons_succ rst_nil rst_cons
attribute [local go_sem ↓] evT upd_def aop aopc aopd
set_option maxRecDepth 100000
set_option linter.unusedVariables false
set_option linter.unusedSimpArgs false
open Go.RowKit
def zP:List PV:=[.int .i64 0,.str [],.str [],.seq [],.seq []]
/-- Copies. -/
def toLC (n:Nat):PC:=rel (α:=List PartD) (fun x=>[.seq (encPs x)]) (fun x=>wtL x<n∧okL x∧wtL x≤1048576) (fun x=> .seq (encPs x))
def toPC (n:Nat):PC:=rel (α:=PartD) (fun x=>[.agg (encP x)]) (fun x=>wtP x<n∧okP x∧wtP x≤1048576) (fun x=> .agg (encP x))
theorem toP_of (n:Nat) (h:PureOk Tryz.prog 15 (toLC n)):PureOk Tryz.prog 41 (toPC n):=by
 refine pure_rel 1 (tab_cons h tab_nil) mixed [.cell 2 79] Tryz.func41 rfl rfl (by kernel_rfl) (by kernel_rfl) (fun _=>rfl) (by kernel_rfl) ?_
 rintro ⟨kd,t,nm,ps,os⟩ K ⟨hn,hok,h1⟩ hK
 have hx2:=encP_mk kd t nm ps os
 have hw:=wtP_mk kd t nm ps os
 rw [okP_mk] at hok
 simp only [hx2,hw] at *
 obtain ⟨o1,o2,o3,o4,o5,o6⟩:=hok
 clear hx2 hw
 unfold entry
 repeat' (first|((first|apply qa1|apply qa2|apply qa3|apply qh1|apply qh2|apply qg1 rfl|apply qcd);(try intro K hk);focus (simp only [go_sem,Nat.reduceEqDiff,Nat.reduceAdd,Nat.reduceLeDiff,Nat.reduceLT,Nat.reduceSub,Int.reduceToNat,↓reduceIte,reduceCtorEq,toLC];first|exact rfl|((repeat refine ai ?_);intros;apply hk;clear hk K)))|apply qw8|apply qw1|apply qw6|apply qt1|apply qw5|apply qw2|apply qw9|apply qt2|apply qt3|apply qt4|apply qt5|apply qt6|apply qw3|apply qw4|apply qj1|apply qj2|apply qj3|apply qj4|apply qj5|apply qu1|apply qu2|(refine qj6 ?_ ?_<;>intro hc<;>(try simp only [hc])<;>(try simp only [decide_eq_true_eq,decide_eq_false_iff_not,Bool.not_eq_true',Bool.not_eq_false',Bool.not_eq_true,reduceCtorEq] at hc)<;>(try (exfalso;omega)))|(refine qt7 ?_ ?_;focus decide)|(refine qw7 ?_ ?_ ?_;(focus (decide +kernel));(focus (decide +kernel))))
 ((first|refine fin_ret ?_|refine fin_end ?_);simp only [go_sem,↓upd_def,Nat.reduceEqDiff,Nat.reduceAdd,↓reduceIte,reduceCtorEq])
 exact ⟨Nat.le_refl _,hK⟩
set_option maxHeartbeats 4000000 in
theorem toL_of (n:Nat) (h:PureOk Tryz.prog 41 (toPC n)):PureOk Tryz.prog 15 (toLC (n+1)):=by
 refine pure_rel 1 (tab_cons h tab_nil) mixed [.tmp 2] Tryz.func15 rfl rfl (by kernel_rfl) (by kernel_rfl) (fun _=>rfl) (by kernel_rfl) ?_
 rintro xs K ⟨hn,hok,h1⟩ hK
 have hlw:=len_le_wtL xs
 unfold entry
 repeat' (first|((first|apply qa1|apply qa2|apply qa3|apply qh1|apply qh2|apply qg1 rfl|apply qcd);(try intro K hk);focus (simp only [go_sem,Nat.reduceEqDiff,Nat.reduceAdd,Nat.reduceLeDiff,Nat.reduceLT,Nat.reduceSub,Int.reduceToNat,↓reduceIte,reduceCtorEq,toPC];first|exact rfl|((repeat refine ai ?_);intros;apply hk;clear hk K)))|apply qw8|apply qw1|apply qw6|apply qt1|apply qw5|apply qw2|apply qw9|apply qt2|apply qt3|apply qt4|apply qt5|apply qt6|apply qw3|apply qw4|apply qj1|apply qj2|apply qj3|apply qj4|apply qj5|apply qu1|apply qu2|(refine qj6 ?_ ?_<;>intro hc<;>(try simp only [hc])<;>(try simp only [decide_eq_true_eq,decide_eq_false_iff_not,Bool.not_eq_true',Bool.not_eq_false',Bool.not_eq_true,reduceCtorEq] at hc)<;>(try (exfalso;omega)))|(refine qt7 ?_ ?_;focus decide)|(refine qw7 ?_ ?_ ?_;(focus (decide +kernel));(focus (decide +kernel))))
 refine s_loop (ι:=Nat) (fun k=>[(0,.seq (encPs xs)),(2,.nil),(3,.own 0),(4,.int .i64 k)]) (fun k=>[(0,.row 79 5 (encPs (xs.take k)++List.replicate (xs.length - k) zP))]) 1 (fun k=>k≤xs.length) (fun k=>xs.length - k) 0 (by omega) (Nat.zero_le _) ?_ ?_
 · simp [fits,fitsT,fitsM,upd_def,PV.nmb,nmbL,MB.nmb,List.getD_cons_zero,List.getD_cons_succ,encPs_nil,zP]
 intro k hk
 simp only [mkS,mkT,mkM]
 have hL1:(encPs (xs.take k)).length=k:=by simp [encPs_length,hk]
 repeat' (first|((first|apply qa1|apply qa2|apply qa3|apply qh1|apply qh2|apply qg1 rfl|apply qcd);(try intro K hk);focus (simp only [go_sem,Nat.reduceEqDiff,Nat.reduceAdd,Nat.reduceLeDiff,Nat.reduceLT,Nat.reduceSub,Int.reduceToNat,↓reduceIte,reduceCtorEq,toPC];first|exact rfl|((repeat refine ai ?_);intros;apply hk;clear hk K)))|apply qw8|apply qw1|apply qw6|apply qt1|apply qw5|apply qw2|apply qw9|apply qt2|apply qt3|apply qt4|apply qt5|apply qt6|apply qw3|apply qw4|apply qj1|apply qj2|apply qj3|apply qj4|apply qj5|apply qu1|apply qu2|(refine qj6 ?_ ?_<;>intro hc<;>(try simp only [hc])<;>(try simp only [decide_eq_true_eq,decide_eq_false_iff_not,Bool.not_eq_true',Bool.not_eq_false',Bool.not_eq_true,reduceCtorEq] at hc)<;>(try (exfalso;omega)))|(refine qt7 ?_ ?_;focus decide)|(refine qw7 ?_ ?_ ?_;(focus (decide +kernel));(focus (decide +kernel))))
 · obtain ⟨x,hx⟩:=get_some (xs:=xs) (k:=k) (by omega)
   have htk:=take_snoc' hx
   have ws:=wtL_split hx
   have hok':=okL_get hok hx
   have hget:=encPs_get xs
   have hL2:(encPs (xs.take k)++List.replicate (xs.length - k) zP).length=xs.length:=by simp;omega
   have hgz:(encPs (xs.take k)++List.replicate (xs.length - k) zP)[k]?=some zP:=by
    rw [List.getElem?_append_right (by omega),List.getElem?_replicate,if_pos (by omega)]
   have hse:(encPs (xs.take k)++List.replicate (xs.length - k) zP).set k (encP x)=encPs (xs.take (k+1))++List.replicate (xs.length - (k+1)) zP:=by
    rw [htk,encPs_append,encPs_one,List.set_append_right _ _ (by omega),hL1,Nat.sub_self,show xs.length - k=(xs.length - (k+1))+1 by omega,List.replicate_succ,List.set_cons_zero,List.append_assoc]
    rfl
   have hzl:zP.length=5:=rfl
   have hzd:List.drop 5 zP=[]:=rfl
   repeat' (first|((first|apply qa1|apply qa2|apply qa3|apply qh1|apply qh2|apply qg1 rfl|apply qcd);(try intro K hk);focus (simp only [go_sem,Nat.reduceEqDiff,Nat.reduceAdd,Nat.reduceLeDiff,Nat.reduceLT,Nat.reduceSub,Int.reduceToNat,↓reduceIte,reduceCtorEq,toPC,hget,hx,hL2,hgz,hse,hzl,hzd];first|exact rfl|((repeat refine ai ?_);intros;apply hk;clear hk K)))|apply qw8|apply qw1|apply qw6|apply qt1|apply qw5|apply qw2|apply qw9|apply qt2|apply qt3|apply qt4|apply qt5|apply qt6|apply qw3|apply qw4|apply qj1|apply qj2|apply qj3|apply qj4|apply qj5|apply qu1|apply qu2|(refine qj6 ?_ ?_<;>intro hc<;>(try simp only [hc])<;>(try simp only [decide_eq_true_eq,decide_eq_false_iff_not,Bool.not_eq_true',Bool.not_eq_false',Bool.not_eq_true,reduceCtorEq] at hc)<;>(try (exfalso;omega)))|(refine qt7 ?_ ?_;focus decide)|(refine qw7 ?_ ?_ ?_;(focus (decide +kernel));(focus (decide +kernel))))
   refine s_again (k+1) ?_ ?_ ?_<;>(first|omega|(dsimp only;omega)|skip)
   simp [fits,fitsT,fitsM,upd_def,PV.nmb,nmbL,MB.nmb,List.getD_cons_zero,List.getD_cons_succ]
 · have hk':k=xs.length:=by omega
   subst hk'
   repeat' (first|((first|apply qa1|apply qa2|apply qa3|apply qh1|apply qh2|apply qg1 rfl|apply qcd);(try intro K hk);focus (simp only [go_sem,Nat.reduceEqDiff,Nat.reduceAdd,Nat.reduceLeDiff,Nat.reduceLT,Nat.reduceSub,Int.reduceToNat,↓reduceIte,reduceCtorEq];first|exact rfl|((repeat refine ai ?_);intros;apply hk;clear hk K)))|apply qw8|apply qw1|apply qw6|apply qt1|apply qw5|apply qw2|apply qw9|apply qt2|apply qt3|apply qt4|apply qt5|apply qt6|apply qw3|apply qw4|apply qj1|apply qj2|apply qj3|apply qj4|apply qj5|apply qu1|apply qu2|(refine qj6 ?_ ?_<;>intro hc<;>(try simp only [hc])<;>(try simp only [decide_eq_true_eq,decide_eq_false_iff_not,Bool.not_eq_true',Bool.not_eq_false',Bool.not_eq_true,reduceCtorEq] at hc)<;>(try (exfalso;omega)))|(refine qt7 ?_ ?_;focus decide)|(refine qw7 ?_ ?_ ?_;(focus (decide +kernel));(focus (decide +kernel))))
   ((first|refine fin_ret ?_|refine fin_end ?_);simp only [go_sem,↓upd_def,Nat.reduceEqDiff,Nat.reduceAdd,↓reduceIte,reduceCtorEq])
   simp
   exact hK
/-- Comparison. -/
noncomputable def eqLC (n:Nat):PC:=rel (α:=List PartD×List PartD) (fun x=>[.seq (encPs x.1),.seq (encPs x.2)]) (fun x=>wtL x.1<n∧okL x.1∧okL x.2∧x.1.length≤9223372036854775807∧x.2.length≤9223372036854775807) (fun x=> .bool (eqB x.1 x.2))
noncomputable def eqPC (n:Nat):PC:=rel (α:=PartD×PartD) (fun x=>[.agg (encP x.1),.agg (encP x.2)]) (fun x=>wtP x.1<n∧okP x.1∧okP x.2) (fun x=> .bool (eqB x.1 x.2))
set_option maxHeartbeats 4000000 in
theorem eqP_of (n:Nat) (h:PureOk Tryz.prog 18 (eqLC n)):PureOk Tryz.prog 46 (eqPC n):=by
 refine pure_rel 2 (tab_cons h tab_nil) mixed [.tmp 4] Tryz.func46 rfl rfl (by kernel_rfl) (by kernel_rfl) (fun _=>rfl) (by kernel_rfl) ?_
 rintro ⟨⟨kd,t,nm,ps,os⟩,⟨kd',t',nm',ps',os'⟩⟩ K ⟨hn,hok,hok'⟩ hK
 have hw:=wtP_mk kd t nm ps os
 have hx2:=encP_mk kd t nm ps os
 have hx2':=encP_mk kd' t' nm' ps' os'
 rw [okP_mk] at hok hok'
 simp only [hx2,hx2',hw] at *
 obtain ⟨o1,o2,o3,o4,o5,o6⟩:=hok
 obtain ⟨o1',o2',o3',o4',o5',o6'⟩:=hok'
 clear hx2 hx2' hw
 unfold entry
 repeat' (first|((first|apply qa1|apply qa2|apply qa3|apply qh1|apply qh2|apply qg1 rfl|apply qcd);(try intro K hk);focus (simp only [go_sem,Nat.reduceEqDiff,Nat.reduceAdd,Nat.reduceLeDiff,Nat.reduceLT,Nat.reduceSub,Int.reduceToNat,↓reduceIte,reduceCtorEq,eqLC];first|exact rfl|((repeat refine ai ?_);intros;apply hk;clear hk K)))|apply qw8|apply qw1|apply qw6|apply qt1|apply qw5|apply qw2|apply qw9|apply qt2|apply qt3|apply qt4|apply qt5|apply qt6|apply qw3|apply qw4|apply qj1|apply qj2|apply qj3|apply qj4|apply qj5|apply qu1|apply qu2|(refine qj6 ?_ ?_<;>intro hc<;>(try simp only [hc])<;>(try simp only [decide_eq_true_eq,decide_eq_false_iff_not,Bool.not_eq_true',Bool.not_eq_false',Bool.not_eq_true,reduceCtorEq] at hc)<;>(try (exfalso;omega)))|(refine qt7 ?_ ?_;focus decide)|(refine qw7 ?_ ?_ ?_;(focus (decide +kernel));(focus (decide +kernel))))
 all_goals
  ((first|refine fin_ret ?_|refine fin_end ?_);simp only [go_sem,↓upd_def,Nat.reduceEqDiff,Nat.reduceAdd,↓reduceIte,reduceCtorEq])
  refine K_bool hK ?_
  clear hK h
  first
   | exact (eqB_f.2 (by simp_all [eqB_t,eqB_f]))
   | exact (eqB_f.2 (by simp_all [eqB_t,eqB_f])).symm
   | exact (eqB_t.2 (by simp_all [eqB_t,eqB_f]))
   | exact (eqB_t.2 (by simp_all [eqB_t,eqB_f])).symm
set_option maxHeartbeats 4000000 in
theorem eqL_of (n:Nat) (h:PureOk Tryz.prog 46 (eqPC n)):PureOk Tryz.prog 18 (eqLC (n+1)):=by
 refine pure_rel 2 (tab_cons h tab_nil) mixed [.tmp 4] Tryz.func18 rfl rfl (by kernel_rfl) (by kernel_rfl) (fun _=>rfl) (by kernel_rfl) ?_
 rintro ⟨xs,ys⟩ K ⟨hn,hok,hok',hl,hl'⟩ hK
 dsimp only at *
 unfold entry
 repeat' (first|((first|apply qa1|apply qa2|apply qa3|apply qh1|apply qh2|apply qg1 rfl|apply qcd);(try intro K hk);focus (simp only [go_sem,Nat.reduceEqDiff,Nat.reduceAdd,Nat.reduceLeDiff,Nat.reduceLT,Nat.reduceSub,Int.reduceToNat,↓reduceIte,reduceCtorEq,eqPC];first|exact rfl|((repeat refine ai ?_);intros;apply hk;clear hk K)))|apply qw8|apply qw1|apply qw6|apply qt1|apply qw5|apply qw2|apply qw9|apply qt2|apply qt3|apply qt4|apply qt5|apply qt6|apply qw3|apply qw4|apply qj1|apply qj2|apply qj3|apply qj4|apply qj5|apply qu1|apply qu2|(refine qj6 ?_ ?_<;>intro hc<;>(try simp only [hc])<;>(try simp only [decide_eq_true_eq,decide_eq_false_iff_not,Bool.not_eq_true',Bool.not_eq_false',Bool.not_eq_true,reduceCtorEq] at hc)<;>(try (exfalso;omega)))|(refine qt7 ?_ ?_;focus decide)|(refine qw7 ?_ ?_ ?_;(focus (decide +kernel));(focus (decide +kernel))))
 · ((first|refine fin_ret ?_|refine fin_end ?_);simp only [go_sem,↓upd_def,Nat.reduceEqDiff,Nat.reduceAdd,↓reduceIte,reduceCtorEq])
   exact K_bool hK (eqB_f.2 (fun h=>by subst h;omega))
 have hcl:xs.length=ys.length:=by omega
 refine s_loop (ι:=Nat) (fun k=>[(0,.seq (encPs xs)),(1,.seq (encPs ys)),(4,.bool false),(5,.int .i64 k)]) (fun _=>[]) 0 (fun k=>k≤xs.length∧xs.take k=ys.take k) (fun k=>xs.length - k) 0 (by omega) (by simp) ?_ ?_
 · simp [fits,fitsT,fitsM,upd_def,PV.nmb,nmbL,MB.nmb,List.getD_cons_zero,List.getD_cons_succ]
 rintro k ⟨hk,hp⟩
 simp only [mkS,mkT,mkM]
 repeat' (first|((first|apply qa1|apply qa2|apply qa3|apply qh1|apply qh2|apply qg1 rfl|apply qcd);(try intro K hk);focus (simp only [go_sem,Nat.reduceEqDiff,Nat.reduceAdd,Nat.reduceLeDiff,Nat.reduceLT,Nat.reduceSub,Int.reduceToNat,↓reduceIte,reduceCtorEq,eqPC];first|exact rfl|((repeat refine ai ?_);intros;apply hk;clear hk K)))|apply qw8|apply qw1|apply qw6|apply qt1|apply qw5|apply qw2|apply qw9|apply qt2|apply qt3|apply qt4|apply qt5|apply qt6|apply qw3|apply qw4|apply qj1|apply qj2|apply qj3|apply qj4|apply qj5|apply qu1|apply qu2|(refine qj6 ?_ ?_<;>intro hc<;>(try simp only [hc])<;>(try simp only [decide_eq_true_eq,decide_eq_false_iff_not,Bool.not_eq_true',Bool.not_eq_false',Bool.not_eq_true,reduceCtorEq] at hc)<;>(try (exfalso;omega)))|(refine qt7 ?_ ?_;focus decide)|(refine qw7 ?_ ?_ ?_;(focus (decide +kernel));(focus (decide +kernel))))
 · obtain ⟨x,hx⟩:=get_some (xs:=xs) (k:=k) (by omega)
   obtain ⟨y,hy⟩:=get_some (xs:=ys) (k:=k) (by omega)
   have htk:=take_snoc' hx
   have htk':=take_snoc' hy
   have ws:=wtL_split hx
   have hok1:=okL_get hok hx
   have hok2:=okL_get hok' hy
   have hget:=encPs_get
   repeat' (first|((first|apply qa1|apply qa2|apply qa3|apply qh1|apply qh2|apply qg1 rfl|apply qcd);(try intro K hk);focus (simp only [go_sem,Nat.reduceEqDiff,Nat.reduceAdd,Nat.reduceLeDiff,Nat.reduceLT,Nat.reduceSub,Int.reduceToNat,↓reduceIte,reduceCtorEq,eqPC,hget,hx,hy];first|exact rfl|((repeat refine ai ?_);intros;apply hk;clear hk K)))|apply qw8|apply qw1|apply qw6|apply qt1|apply qw5|apply qw2|apply qw9|apply qt2|apply qt3|apply qt4|apply qt5|apply qt6|apply qw3|apply qw4|apply qj1|apply qj2|apply qj3|apply qj4|apply qj5|apply qu1|apply qu2|(refine qj6 ?_ ?_<;>intro hc<;>(try simp only [hc])<;>(try simp only [decide_eq_true_eq,decide_eq_false_iff_not,Bool.not_eq_true',Bool.not_eq_false',Bool.not_eq_true,reduceCtorEq] at hc)<;>(try (exfalso;omega)))|(refine qt7 ?_ ?_;focus decide)|(refine qw7 ?_ ?_ ?_;(focus (decide +kernel));(focus (decide +kernel))))
   · have hc:=eqB_f.1 ‹_›
     ((first|refine fin_ret ?_|refine fin_end ?_);simp only [go_sem,↓upd_def,Nat.reduceEqDiff,Nat.reduceAdd,↓reduceIte,reduceCtorEq])
     refine K_bool hK (eqB_f.2 fun h=>hc ?_)
     subst h
     rw [hx] at hy
     exact Option.some.inj hy
   · have hc:=eqB_t.1 ‹_›
     subst hc
     refine s_again (k+1) ?_ ?_ ?_<;>(first|omega|(dsimp only;omega)|skip)
     · exact ⟨by omega,by rw [htk,htk',hp]⟩
     · simp [fits,fitsT,fitsM,upd_def,PV.nmb,nmbL,MB.nmb,List.getD_cons_zero,List.getD_cons_succ]
 · have hk':k=xs.length:=by omega
   subst hk'
   repeat' (first|((first|apply qa1|apply qa2|apply qa3|apply qh1|apply qh2|apply qg1 rfl|apply qcd);(try intro K hk);focus (simp only [go_sem,Nat.reduceEqDiff,Nat.reduceAdd,Nat.reduceLeDiff,Nat.reduceLT,Nat.reduceSub,Int.reduceToNat,↓reduceIte,reduceCtorEq];first|exact rfl|((repeat refine ai ?_);intros;apply hk;clear hk K)))|apply qw8|apply qw1|apply qw6|apply qt1|apply qw5|apply qw2|apply qw9|apply qt2|apply qt3|apply qt4|apply qt5|apply qt6|apply qw3|apply qw4|apply qj1|apply qj2|apply qj3|apply qj4|apply qj5|apply qu1|apply qu2|(refine qj6 ?_ ?_<;>intro hc<;>(try simp only [hc])<;>(try simp only [decide_eq_true_eq,decide_eq_false_iff_not,Bool.not_eq_true',Bool.not_eq_false',Bool.not_eq_true,reduceCtorEq] at hc)<;>(try (exfalso;omega)))|(refine qt7 ?_ ?_;focus decide)|(refine qw7 ?_ ?_ ?_;(focus (decide +kernel));(focus (decide +kernel))))
   ((first|refine fin_ret ?_|refine fin_end ?_);simp only [go_sem,↓upd_def,Nat.reduceEqDiff,Nat.reduceAdd,↓reduceIte,reduceCtorEq])
   rw [List.take_length,hcl,List.take_length] at hp
   exact K_bool hK (eqB_t.2 hp)
/-- The laws' functions on parts, of any weight. -/
theorem sz_all: ∀ n,PureOk Tryz.prog 12 (szLC n)∧PureOk Tryz.prog 38 (szPC n):=by
 intro n
 induction n with
 | zero=>exact ⟨never_rel Tryz.func12 (by kernel_rfl) (by kernel_rfl) (fun x h=>by omega),szP_of 0 (never_rel Tryz.func12 (by kernel_rfl) (by kernel_rfl) (fun x h=>by omega))⟩
 | succ n ih=>exact ⟨szL_of n ih.2,szP_of _ (szL_of n ih.2)⟩
theorem to_all: ∀ n,PureOk Tryz.prog 15 (toLC n)∧PureOk Tryz.prog 41 (toPC n):=by
 intro n
 induction n with
 | zero=>exact ⟨never_rel Tryz.func15 (by kernel_rfl) (by kernel_rfl) (fun x h=>by omega),toP_of 0 (never_rel Tryz.func15 (by kernel_rfl) (by kernel_rfl) (fun x h=>by omega))⟩
 | succ n ih=>exact ⟨toL_of n ih.2,toP_of _ (toL_of n ih.2)⟩
theorem eq_all: ∀ n,PureOk Tryz.prog 18 (eqLC n)∧PureOk Tryz.prog 46 (eqPC n):=by
 intro n
 induction n with
 | zero=>exact ⟨never_rel Tryz.func18 (by kernel_rfl) (by kernel_rfl) (fun x h=>by omega),eqP_of 0 (never_rel Tryz.func18 (by kernel_rfl) (by kernel_rfl) (fun x h=>by omega))⟩
 | succ n ih=>exact ⟨eqL_of n ih.2,eqP_of _ (eqL_of n ih.2)⟩
#print axioms eq_all
end Go.Proofs.YtnbjogilidfkdaaGreat
