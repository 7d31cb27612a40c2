/- Contracts: CheckParts, TemplateSafe, TemplateFault. -/
import Derived.Test.YtnbjogilidfkdaaGreatVS8
import Derived.Test.YtnbjogilidfkdaaGreatVX9

namespace Go.Proofs.YtnbjogilidfkdaaGreat
attribute [local irreducible] awp arun acalm FinP Fin AX.then AX.inBlock Again aG gsel amix amixN amixC aop aopc aopd cutK
attribute [local go_sem] aBSliceD aSlice aSliceC boundOf aMk aCall aCallC aLenL aLen aPick_t aPick_f aNil aAlloc aBox aBuild bldPV aBSlice bsPV aApp newsOf destOf drp aConvX aConv aConvInt aLoad cellsAt aStore cellsPV setAt aFld aField aIdx aIndex aUn aBin' aBin aMax aExtract pvOf PV.isCell nmbL PV.nmb List.map_cons List.map_nil List.all_cons List.all_nil Bool.and_true Bool.true_and if_true if_false List.getD_cons_zero List.getD_cons_succ List.getD_nil Option.isSome_some true_and and_true and_self eq_self true_or or_true List.drop_zero List.drop_succ_cons List.drop_nil List.take_zero List.take_succ_cons List.take_nil List.length_cons List.length_nil List.length_map Option.getD_some Option.getD_none List.nil_append List.cons_append List.append_nil Option.some.injEq exists_eq_left' List.getElem?_cons_zero List.getElem?_cons_succ Int.toNat_natCast Int.natCast_inj toNat_succ Nat.zero_add res res1 resC owns owns1 ownsC List.flatMap_cons List.flatMap_nil List.flatten_cons List.flatten_nil List.mem_cons List.not_mem_nil or_false false_or forall_eq forall_eq_or_imp isFro frz frz1 pureC tabA isBld List.cons.injEq PV.seq.injEq PV.int.injEq PV.str.injEq PV.bool.injEq PV.agg.injEq inR tab Γof aRes packR Option.map_some Option.map_none rel Prod.exists exists_and_left exists_eq_left and_assoc beq_self_eq_true Bool.not_true Bool.not_false decide_true decide_false List.set_cons_zero List.set_cons_succ rst_nil rst_cons
attribute [local go_sem ↓] evT upd_def aop aopc aopd
set_option maxRecDepth 100000
set_option linter.unusedVariables false
set_option linter.unusedSimpArgs false
open Go.RowKit
def lvS10_23:Nat→List Nat
 | 0=>[0]
 | 1=>[2]
 | _=>[]
def lvS10_32:Nat→List Nat
 | 0=>[0]
 | 1=>[2]
 | _=>[]
def lvS10_67:Nat→List Nat
 | 0=>[1,2,4]
 | 1=>[1,2,4,12]
 | 2=>[4]
 | 3=>[4]
 | _=>[]
--LV=S10
@[go_sem] def cpC:PC:=rel (α:=St×List PartD) (fun x=>[.agg (encS x.1),.seq (encPs x.2)]) (fun x=>wtL x.2≤4294967280∧okS x.1) (fun x=> .agg (encS (checkM x.1 x.2)))
theorem parts_gd {xs:List PartD} (h:partsB xs=true): ∃ d b,gdL d b xs=true:=by
 unfold partsB at h
 simp only [Bool.and_eq_true] at h
 exact ⟨_,_,h.2⟩
theorem encS_st0:[PV.int .i64 0,PV.str [],PV.str [],PV.bool false]=encS st0:=rfl
theorem ok_of {s:St} {xs:List PartD} (h:stV s=true) (hb:wtL xs≤4294967280) (hp:partsB xs=true):wtL xs≤1099511627776∧stV s=true∧ ∃ d b,gdL d b xs=true:=⟨by omega,h,parts_gd hp⟩
theorem chk_ic:PureOk Tryz.prog 53 chkQ:=rel_all (fun x:St×List PartD=>wtL x.2) chk_i
theorem chk_sc:PureOk Tryz.prog 74 chkQ:=rel_all (fun x:St×List PartD=>wtL x.2) chk_s
theorem cp_s:PureOk Tryz.prog 67 cpC:=by
 refine pure_rel 2 (tab_cons chk_sc (tab_cons pv_s (tab_cons sv_s tab_nil))) mixed [.cell 4 48] Tryz.func67 rfl rfl (by kernel_rfl) (by kernel_rfl) (fun _=>rfl) (by kernel_rfl) ?_
 rintro ⟨s,xs⟩ K ⟨hb,hok⟩ hK
 dsimp only at *
 unfold checkM at hK
 unfold entry
 cases hs:stV s
 · repeat' (first|((first|apply qwd|apply qa1|apply qa2|apply qa3|apply qh1|apply qh2|apply qg1 rfl|apply qcd);(try intro K hk);focus (simp only [lvS10_67,mkT,go_sem,Nat.reduceEqDiff,Nat.reduceAdd,Nat.reduceLeDiff,Nat.reduceLT,Nat.reduceSub,Int.reduceToNat,↓reduceIte,reduceCtorEq,encS_eq,ex_St,St_eta,hs,Bool.not_false,Bool.not_true];first|exact rfl|((repeat refine ai ?_);intros;apply hk;clear hk K)))|apply qw8|apply qw1|refine qwc lvS10_67 ?_|apply qt1|apply qw5|apply qw2|apply qw9|apply qt2|apply qt3|apply qt4|apply qt5|apply qt6|apply qw3|apply qw4|apply qj1|apply qj2|apply qj3|apply qj4|apply qj5|apply qu1|apply qu2|(refine qj6 ?_ ?_<;>intro hc<;>(try simp only [hc])<;>(try simp only [decide_eq_true_eq,decide_eq_false_iff_not,Bool.not_eq_true',Bool.not_eq_false',Bool.not_eq_true,reduceCtorEq] at hc)<;>(try (exfalso;omega)))|(refine qt7 ?_ ?_;focus decide)|(refine qw7 ?_ ?_ ?_;(focus (decide +kernel));(focus (decide +kernel))))
   ((first|refine fin_ret ?_|refine fin_end ?_);simp only [go_sem,↓upd_def,Nat.reduceEqDiff,Nat.reduceAdd,↓reduceIte,reduceCtorEq])
   rw [hs] at hK
   simp only [Bool.false_eq_true,and_false,if_false] at hK
   exact ⟨by omega,hK⟩
 cases hp:partsB xs
 · repeat' (first|((first|apply qwd|apply qa1|apply qa2|apply qa3|apply qh1|apply qh2|apply qg1 rfl|apply qcd);(try intro K hk);focus (simp only [lvS10_67,mkT,go_sem,Nat.reduceEqDiff,Nat.reduceAdd,Nat.reduceLeDiff,Nat.reduceLT,Nat.reduceSub,Int.reduceToNat,↓reduceIte,reduceCtorEq,encS_eq,ex_St,St_eta,hp,hs,Bool.not_false,Bool.not_true];first|exact rfl|((repeat refine ai ?_);intros;apply hk;clear hk K)))|apply qw8|apply qw1|refine qwc lvS10_67 ?_|apply qt1|apply qw5|apply qw2|apply qw9|apply qt2|apply qt3|apply qt4|apply qt5|apply qt6|apply qw3|apply qw4|apply qj1|apply qj2|apply qj3|apply qj4|apply qj5|apply qu1|apply qu2|(refine qj6 ?_ ?_<;>intro hc<;>(try simp only [hc])<;>(try simp only [decide_eq_true_eq,decide_eq_false_iff_not,Bool.not_eq_true',Bool.not_eq_false',Bool.not_eq_true,reduceCtorEq] at hc)<;>(try (exfalso;omega)))|(refine qt7 ?_ ?_;focus decide)|(refine qw7 ?_ ?_ ?_;(focus (decide +kernel));(focus (decide +kernel))))
   ((first|refine fin_ret ?_|refine fin_end ?_);simp only [go_sem,↓upd_def,Nat.reduceEqDiff,Nat.reduceAdd,↓reduceIte,reduceCtorEq])
   rw [hp] at hK
   exact ⟨by omega,hK⟩
 rw [hs,hp] at hK
 simp only [and_self,if_true] at hK
 obtain ⟨hh1,hh2,hh3⟩:=ok_of hs hb hp
 repeat' (first|((first|apply qwd|apply qa1|apply qa2|apply qa3|apply qh1|apply qh2|apply qg1 rfl|apply qcd);(try intro K hk);focus (simp only [lvS10_67,mkT,go_sem,Nat.reduceEqDiff,Nat.reduceAdd,Nat.reduceLeDiff,Nat.reduceLT,Nat.reduceSub,Int.reduceToNat,↓reduceIte,reduceCtorEq,encS_eq,ex_St,St_eta,hp,hs,Bool.not_false,Bool.not_true];first|exact rfl|((repeat refine ai ?_);intros;apply hk;clear hk K)))|apply qw8|apply qw1|refine qwc lvS10_67 ?_|apply qt1|apply qw5|apply qw2|apply qw9|apply qt2|apply qt3|apply qt4|apply qt5|apply qt6|apply qw3|apply qw4|apply qj1|apply qj2|apply qj3|apply qj4|apply qj5|apply qu1|apply qu2|(refine qj6 ?_ ?_<;>intro hc<;>(try simp only [hc])<;>(try simp only [decide_eq_true_eq,decide_eq_false_iff_not,Bool.not_eq_true',Bool.not_eq_false',Bool.not_eq_true,reduceCtorEq] at hc)<;>(try (exfalso;omega)))|(refine qt7 ?_ ?_;focus decide)|(refine qw7 ?_ ?_ ?_;(focus (decide +kernel));(focus (decide +kernel))))
 ((first|refine fin_ret ?_|refine fin_end ?_);simp only [go_sem,↓upd_def,Nat.reduceEqDiff,Nat.reduceAdd,↓reduceIte,reduceCtorEq])
 exact ⟨by omega,hK⟩
theorem ok_of0 {xs:List PartD} (hb:wtL xs≤4294967280) (hp:partsB xs=true):wtL xs≤1099511627776∧stV st0=true∧ ∃ d b,gdL d b xs=true:=ok_of stV_st0 hb hp
theorem ts_i:PureOk Tryz.prog 23 (parV fun x=> .bool (safeM x)):=by
 refine pure_rel 1 (tab_cons chk_ic (tab_cons pv_i tab_nil)) mixed [.tmp 2] Tryz.func23 rfl rfl (by kernel_rfl) (by kernel_rfl) (fun _=>rfl) (by kernel_rfl) ?_
 rintro xs K hb hK
 unfold safeM at hK
 unfold entry
 cases hp:partsB xs
 · repeat' (first|((first|apply qwd|apply qa1|apply qg1 rfl);(try intro K hk);focus (simp only [lvS10_23,mkT,go_sem,Nat.reduceEqDiff,↓reduceIte,reduceCtorEq,hp];first|exact rfl|((repeat refine ai ?_);intros;apply hk;clear hk K)))|apply qw1|refine qwc lvS10_23 ?_|apply qt1|apply qw4|apply qj4|apply qu1)
   ((first|refine fin_ret ?_|refine fin_end ?_);simp only [go_sem,↓upd_def,↓reduceIte])
   rw [hp] at hK
   exact hK
 rw [hp] at hK
 obtain ⟨hh1,hh2,hh3⟩:=ok_of0 hb hp
 repeat' (first|((first|apply qwd|apply qa1|apply qh1|apply qg1 rfl);(try intro K hk);focus (simp only [lvS10_23,mkT,go_sem,Nat.reduceEqDiff,↓reduceIte,reduceCtorEq,encS_st0,encS_eq,ex_St,St_eta,hp,eqSt];first|exact rfl|((repeat refine ai ?_);intros;apply hk;clear hk K)))|apply qw1|refine qwc lvS10_23 ?_|apply qt1|apply qw4|apply qj1|apply qu1)
 ((first|refine fin_ret ?_|refine fin_end ?_);simp only [go_sem,↓upd_def,↓reduceIte])
 exact hK
theorem ts_s:PureOk Tryz.prog 32 (parV fun x=> .bool (safeM x)):=by
 refine pure_rel 1 (tab_cons cp_s tab_nil) mixed [.tmp 2] Tryz.func32 rfl rfl (by kernel_rfl) (by kernel_rfl) (fun _=>rfl) (by kernel_rfl) ?_
 rintro xs K hb hK
 unfold safeM at hK
 unfold entry
 have hok:okS st0:=okS_of stV_st0
 repeat' (first|((first|apply qwd|apply qa1|apply qa2|apply qa3|apply qh1|apply qh2|apply qg1 rfl|apply qcd);(try intro K hk);focus (simp only [lvS10_32,mkT,go_sem,Nat.reduceEqDiff,Nat.reduceAdd,Nat.reduceLeDiff,Nat.reduceLT,Nat.reduceSub,Int.reduceToNat,↓reduceIte,reduceCtorEq,encS_st0,encS_eq,ex_St,St_eta,eqSt,Bool.not_false,Bool.not_true];first|exact rfl|((repeat refine ai ?_);intros;apply hk;clear hk K)))|apply qw8|apply qw1|refine qwc lvS10_32 ?_|apply qt1|apply qw5|apply qw2|apply qw9|apply qt2|apply qt3|apply qt4|apply qt5|apply qt6|apply qw3|apply qw4|apply qj1|apply qj2|apply qj3|apply qj4|apply qj5|apply qu1|apply qu2|(refine qj6 ?_ ?_<;>intro hc<;>(try simp only [hc])<;>(try simp only [decide_eq_true_eq,decide_eq_false_iff_not,Bool.not_eq_true',Bool.not_eq_false',Bool.not_eq_true,reduceCtorEq] at hc)<;>(try (exfalso;omega)))|(refine qt7 ?_ ?_;focus decide)|(refine qw7 ?_ ?_ ?_;(focus (decide +kernel));(focus (decide +kernel))))
 ((first|refine fin_ret ?_|refine fin_end ?_);simp only [go_sem,↓upd_def,Nat.reduceEqDiff,Nat.reduceAdd,↓reduceIte,reduceCtorEq])
 refine K_bool hK ?_
 unfold checkM
 rw [stV_st0]
 cases partsB xs
 · simp;decide
 · simp
end Go.Proofs.YtnbjogilidfkdaaGreat
