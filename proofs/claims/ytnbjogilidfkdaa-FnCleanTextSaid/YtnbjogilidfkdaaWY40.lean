/- The law's walk: the value of a hole comes back. -/
import Derived.Test.YtnbjogilidfkdaaWD1
import Derived.Test.YtnbjogilidfkdaaWK3
import Derived.Test.YtnbjogilidfkdaaWX9
import Derived.Test.YtnbjogilidfkdaaWX1
import Derived.Test.YtnbjogilidfkdaaWTY
import Derived.Test.YtnbjogilidfkdaaWXC
import Derived.Test.YtnbjogilidfkdaaWFM
import Derived.Test.YtnbjogilidfkdaaWFP
import Derived.Test.YtnbjogilidfkdaaWS5
import Derived.Test.YtnbjogilidfkdaaWX5
import Derived.Test.YtnbjogilidfkdaaWF11
import Derived.Test.YtnbjogilidfkdaaWSh
import Derived.Lib.IndexMore
import Derived.Test.YtnbjogilidfkdaaWX53
import Derived.Test.YtnbjogilidfkdaaWK23
import Derived.Test.YtnbjogilidfkdaaWR9
import Derived.Test.YtnbjogilidfkdaaWY9

namespace Go.Proofs.Ytnbjogilidfkdaa
attribute [local irreducible] awp arun acalm FinP Fin AX.then AX.inBlock Again aG gsel amix amixN amixC aop aopc aopd cutK
attribute [local go_sem] aBSliceD aSlice aSliceC boundOf aMk aCall aCallC aLenL aLen aPick_t aPick_f aNil aAlloc aBox aBuild bldPV aBSlice bsPV aApp newsOf destOf drp aConvX aConv aConvInt aLoad cellsAt aStore cellsPV setAt aFld aField aIdx aIndex aUn aBin' aBin aMax aExtract pvOf PV.isCell nmbL PV.nmb List.map_cons List.map_nil List.all_cons List.all_nil Bool.and_true Bool.true_and if_true if_false List.getD_cons_zero List.getD_cons_succ List.getD_nil Option.isSome_some true_and and_true and_self eq_self true_or or_true List.drop_zero List.drop_succ_cons List.drop_nil List.take_zero List.take_succ_cons List.take_nil List.length_cons List.length_nil List.length_map Option.getD_some Option.getD_none List.nil_append List.cons_append List.append_nil Option.some.injEq exists_eq_left' List.getElem?_cons_zero List.getElem?_cons_succ Int.toNat_natCast Int.natCast_inj toNat_succ Nat.zero_add res res1 resC owns owns1 ownsC List.flatMap_cons List.flatMap_nil List.flatten_cons List.flatten_nil List.mem_cons List.not_mem_nil or_false false_or forall_eq forall_eq_or_imp isFro frz frz1 pureC tabA isBld List.cons.injEq PV.seq.injEq PV.int.injEq PV.str.injEq PV.bool.injEq PV.agg.injEq inR tab Γof aRes packR Option.map_some Option.map_none rel Prod.exists exists_and_left exists_eq_left and_assoc beq_self_eq_true Bool.not_true Bool.not_false decide_true decide_false List.set_cons_zero List.set_cons_succ rst_nil rst_cons
attribute [local go_sem ↓] evT upd_def aop aopc aopd
set_option maxRecDepth 100000
set_option linter.unusedVariables false
set_option linter.unusedSimpArgs false
open Go.RowKit
--LV=Y40
theorem drwET : ACok Try.prog 20 (drwG (α := Bs) (fun s => s.length ≤ 200) (fun s => .str s)) := drw_of (by
  refine ac_body 1 (tabA_cons open_ok (tabA_cons txD_ok (tabA_nil (Γof_ok tab_nil)))) tab_nil mixed [.tmp 2] Try.func20 rfl rfl (by kernel_rfl) (by kernel_rfl) ?_ (by kernel_rfl) ?_
  · intro args mem n K h
    obtain ⟨es, rfl, h⟩ := drw_args h
    rfl
  intro args mem n K h
  obtain ⟨es, rfl, ⟨l, rfl, hl⟩, hK⟩ := drw_args h
  have hba := bc_all l
  unfold entry
  repeat' (first | ((first | apply qa1 | apply qa2 | apply qa3 | apply qh1 | apply qh2 | apply qg1 rfl | apply qcd); (try intro K hk); focus (simp only [go_sem, Nat.reduceEqDiff, Nat.reduceAdd, Nat.reduceLeDiff, Nat.reduceLT, Nat.reduceSub, Int.reduceToNat, ↓reduceIte, reduceCtorEq, exl, q_1, q_2, q_3, q_4, q_5, q_6, q_7, q_8, q_9, q_10]; first | exact rfl | ((repeat (refine And.intro ?_ ?_; focus (first | omega | assumption | with_reducible rfl))); intros; apply hk; clear hk K))) | apply qw8 | apply qw1 | apply qw6 | apply qt1 | apply qw5 | apply qw2 | apply qw9 | apply qt2 | apply qt3 | apply qt4 | apply qt5 | apply qt6 | apply qw3 | apply qw4 | apply qj1 | apply qj2 | apply qj3 | apply qj4 | apply qj5 | apply qu1 | apply qu2 | (refine qj6 ?_ ?_ <;> intro hc <;> (try simp only [hc]) <;> (try simp only [decide_eq_true_eq, decide_eq_false_iff_not, Bool.not_eq_true', Bool.not_eq_false', Bool.not_eq_true, reduceCtorEq] at hc) <;> (try (exfalso; omega))) | (refine qt7 ?_ ?_; focus decide) | (refine qw7 ?_ ?_ ?_; (focus (decide +kernel)); (focus (decide +kernel))))
  rename Bs => s
  refine fin_retA ?_
  simp only [go_sem, ↓upd_def, Nat.reduceEqDiff, ↓reduceIte, q_1, q_2, q_3, q_4, q_5, q_6, q_7, q_8, q_9, q_10]
  refine hK s _ _ _ (by omega) ?_ (by omega)
  simp [res, res1, resC, upd_def, q_1, q_2, q_3, q_4, q_5, q_6, q_7, q_8, q_9, q_10])
end Go.Proofs.Ytnbjogilidfkdaa
