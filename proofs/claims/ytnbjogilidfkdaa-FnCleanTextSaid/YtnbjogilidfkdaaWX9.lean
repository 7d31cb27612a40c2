/- Contracts: valid parts. -/
import Derived.Test.YtnbjogilidfkdaaWX1
import Derived.Test.YtnbjogilidfkdaaWFP
import Derived.Test.YtnbjogilidfkdaaWF11
import Derived.Test.YtnbjogilidfkdaaWSh
import Derived.Lib.IndexMore
import Derived.Test.YtnbjogilidfkdaaWTY

namespace Go.Proofs.Ytnbjogilidfkdaa
attribute [local irreducible] awp arun acalm FinP Fin AX.then AX.inBlock Again aG gsel amix amixN amixC aop aopc aopd cutK
attribute [local go_sem] aBSliceD aSlice aSliceC boundOf aMk aCall aCallC aLenL aLen aPick_t aPick_f aNil aAlloc aBox aBuild bldPV aBSlice bsPV aApp newsOf destOf drp aConvX aConv aConvInt aLoad cellsAt aStore cellsPV setAt aFld aField aIdx aIndex aUn aBin' aBin aMax aExtract pvOf PV.isCell nmbL PV.nmb List.map_cons List.map_nil List.all_cons List.all_nil Bool.and_true Bool.true_and if_true if_false List.getD_cons_zero List.getD_cons_succ List.getD_nil Option.isSome_some true_and and_true and_self eq_self true_or or_true List.drop_zero List.drop_succ_cons List.drop_nil List.take_zero List.take_succ_cons List.take_nil List.length_cons List.length_nil List.length_map Option.getD_some Option.getD_none List.nil_append List.cons_append List.append_nil Option.some.injEq exists_eq_left' List.getElem?_cons_zero List.getElem?_cons_succ Int.toNat_natCast Int.natCast_inj toNat_succ Nat.zero_add res res1 resC owns owns1 ownsC List.flatMap_cons List.flatMap_nil List.flatten_cons List.flatten_nil List.mem_cons List.not_mem_nil or_false false_or forall_eq forall_eq_or_imp isFro frz frz1 pureC tabA isBld List.cons.injEq PV.seq.injEq PV.int.injEq PV.str.injEq PV.bool.injEq PV.agg.injEq inR tab Γof aRes packR Option.map_some Option.map_none rel Prod.exists exists_and_left exists_eq_left and_assoc beq_self_eq_true Bool.not_true Bool.not_false decide_true decide_false List.set_cons_zero List.set_cons_succ rst_nil rst_cons
attribute [local go_sem ↓] evT upd_def aop aopc aopd
set_option maxRecDepth 100000
set_option linter.unusedVariables false
set_option linter.unusedSimpArgs false
open Go.RowKit
theorem len0 {α : Type} {xs : List α} (h : (xs.length : Int) = 0) : xs = [] := List.eq_nil_of_length_eq_zero (by omega)
section
variable {d : Nat} {k : Int} {t nm : Bs} {ps os : List PartD}
end
section
variable {deep : Int} {k : Int} {t nm : Bs} {ps os : List PartD}
end
end Go.Proofs.Ytnbjogilidfkdaa

/- The plain law: valid parts of the same text are the same. -/
namespace Go.Proofs.Ytnbjogilidfkdaa
set_option maxRecDepth 100000
set_option linter.unusedVariables false
set_option linter.unusedSimpArgs false
open Go.RowKit
def wEnd : Bs := [101, 110, 100]
def wElse : Bs := [101, 108, 115, 101]
def wEach (n : Bs) : Bs := 101 :: 97 :: 99 :: 104 :: 32 :: n
def wIf (n : Bs) : Bs := 105 :: 102 :: 32 :: n
structure TxtOk (t : Bs) : Prop where
  ne : t ≠ []
  no : dbl 123 t = false
  first : t.getD 0 0 ≠ 123
  last : t.getD (t.length - 1) 0 ≠ 123
theorem txtB_ok {t : Bs} (h : txtB t = true) : TxtOk t := by
  unfold txtB edgeT at h
  simp only [Bool.and_eq_true, Bool.not_eq_true', decide_eq_false_iff_not, Bool.or_eq_false_iff] at h
  obtain ⟨⟨⟨⟨_, h1⟩, h2⟩, _⟩, h3, h4⟩ := h
  refine ⟨h1, h2, fun e => ?_, fun e => ?_⟩
  · rw [e] at h3; exact absurd h3 (by decide)
  · rw [e] at h4; exact absurd h4 (by decide)
/-- A valid part, seen. -/
inductive Vw (d : Nat) : PartD → Prop
  | text {t : Bs} : TxtOk t → Vw d (.mk 1 t [] [] [])
  | hole {n : Bs} : nameB n = true → n ≠ wEnd → n ≠ wElse → Vw d (.mk 2 [] n [] [])
  | each {n : Bs} {ps : List PartD} : nameB n = true → gdL (d - 1) false ps = true → Vw d (.mk 4 [] n ps [])
  | cond {n : Bs} {ps os : List PartD} : nameB n = true → gdL (d - 1) false ps = true → gdL (d - 1) false os = true → Vw d (.mk 3 [] n ps os)
theorem view {d : Nat} : ∀ {x : PartD}, gdP d x = true → Vw d x
  | .mk k t n ps os, h => by
    rw [gdP_mk] at h
    split at h
    · rename_i e
      simp only [Bool.and_eq_true, decide_eq_true_eq] at h
      obtain ⟨⟨⟨h1, rfl⟩, rfl⟩, rfl⟩ := h
      subst e
      exact .text (txtB_ok h1)
    split at h
    · rename_i e
      simp only [Bool.and_eq_true, decide_eq_true_eq, Bool.not_eq_true'] at h
      obtain ⟨⟨⟨⟨h1, h2⟩, rfl⟩, rfl⟩, rfl⟩ := h
      subst e
      refine .hole h1 (fun e => ?_) (fun e => ?_) <;> · subst e; exact absurd h2 (by decide)
    split at h
    · rename_i e
      simp only [Bool.and_eq_true, decide_eq_true_eq, Bool.not_eq_true', Bool.and_eq_false_iff, decide_eq_false_iff_not, Bool.not_eq_false'] at h
      obtain ⟨⟨⟨⟨⟨h1, rfl⟩, h2⟩, _⟩, h3⟩, h4⟩ := h
      rcases e with rfl | rfl
      · exact .cond h1 h3 h4
      · have : os = [] := by rcases h2 with h2 | h2 <;> simp_all
        subst this
        exact .each h1 h3
    · cases h
end Go.Proofs.Ytnbjogilidfkdaa

/- Texts of templates are read back. Plain. -/
namespace Go.Proofs.Ytnbjogilidfkdaa
set_option maxRecDepth 100000
set_option linter.unusedVariables false
set_option linter.unusedSimpArgs false
open Go.RowKit
/-- Where the reading of a word is as it is of valid parts. -/
structure KdOk (K : Bs → Int) : Prop where
  name : ∀ n, nameB n = true → K n = 0
  each : ∀ n, nameB n = true → K (wEach n) = 4
  cond : ∀ n, nameB n = true → K (wIf n) = 3
end Go.Proofs.Ytnbjogilidfkdaa
