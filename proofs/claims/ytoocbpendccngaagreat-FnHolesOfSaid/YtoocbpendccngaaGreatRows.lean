/-
  NARROWER THAN 'FOR EVERY INPUT', by the rows' own cells (each row's printed sentence says how): FnExactFillSafe: loops.
  DERIVED. THE GIVEN ROWS OF THIS SEAT. 4 by the template 'for every input the law returns true; each argument reads behind the call as it read before'; 0 by the template 'total and deterministic' (their statements: YtoocbpendccngaaGreatTotals.lean).
  GIVEN WITH THE SEED: the statements are not yours to turn. If you find one false, say at which input.
  Laid BY PROGRAM, IN A SANDBOX (cutbox-rows.mjs): the forced cells as the released guide's own fill.sh prints them over the translation 0a0cce5e9835493d… (all of the seat's roots in one cut). By AI agents, Wed Nov 11 2026. No macro, syntax, notation, axiom, sorry.
-/
import Derived.Test.YtoocbpendccngaaGreatChecked
import GoSem.Claim
import GoSem.ClaimJoined
import GoSem.ClaimMapViews
import Derived.JoinedTies
import Derived.KernelRfl
namespace Go.Proofs.YtoocbpendccngaaGreat
/- THE CELL 'sum', in the pinned program and in every row, IS THE sha256 OF THE DUMP (.gsa) THAT YtoocbpendccngaaGreatProg.lean LOADS. Nothing in Lean hashes anything: it is a label: what it is worth is what the hold of that sum in a sandbox is worth. -/
noncomputable def Tryz.pinned : Pinned := { name := "ytoocbpendccngaagreat", sum := "0a0cce5e9835493d3a5e0937ab8a868879778eba8e20da850d89fa0694217943", checked := Tryz.checked }
namespace Rows
def none {H : Type} : Left H := { results := [], args := [] }

/-- 'laws.FnNamePlaces': WHATEVER THE INPUT: true; the input reads as it did. -/
def fnNamePlacesSpec : ChangeSpec := { name := "fnNamePlaces", fn := fun _ => fun
  | [d] => { results := [.lit (.bool true)], args := [d] }
  | _ => none }
def fnNamePlacesRow : OpenClaim := { program := "ytoocbpendccngaagreat", sum := "0a0cce5e9835493d3a5e0937ab8a868879778eba8e20da850d89fa0694217943", func := "loop.example/templateescaper/laws.FnNamePlaces", spec := "fnNamePlaces", inPlace := ["internal/bytealg.IndexByteString", "internal/bytealg.IndexString"], unfollowed := true, recurses := true, named := ["internal/bytealg.MaxLen"], apart := false }
def FnNamePlacesSaid : Prop := fnNamePlacesRow.holds Tryz.pinned (OpenSpec.ofChange fnNamePlacesSpec)

/-- ITS FALSE NEIGHBOUR: 'it returns false'. Refute it at one input. -/
def fnNamePlacesWrong : ChangeSpec := { name := "fnNamePlaces", fn := fun _ => fun
  | [d] => { results := [.lit (.bool false)], args := [d] }
  | _ => none }
def FnNamePlacesWrongFalsely : Prop := fnNamePlacesRow.holds Tryz.pinned (OpenSpec.ofChange fnNamePlacesWrong)

/-- 'laws.FnHolesOf': WHATEVER THE INPUT: true; the input reads as it did. -/
def fnHolesOfSpec : ChangeSpec := { name := "fnHolesOf", fn := fun _ => fun
  | [d] => { results := [.lit (.bool true)], args := [d] }
  | _ => none }
def fnHolesOfRow : OpenClaim := { program := "ytoocbpendccngaagreat", sum := "0a0cce5e9835493d3a5e0937ab8a868879778eba8e20da850d89fa0694217943", func := "loop.example/templateescaper/laws.FnHolesOf", spec := "fnHolesOf", inPlace := ["internal/bytealg.IndexByteString", "internal/bytealg.IndexString", "internal/abi.NoEscape"], unfollowed := true, recurses := true, named := ["internal/bytealg.MaxLen"], apart := false }
def FnHolesOfSaid : Prop := fnHolesOfRow.holds Tryz.pinned (OpenSpec.ofChange fnHolesOfSpec)

/-- ITS FALSE NEIGHBOUR: 'it returns false'. Refute it at one input. -/
def fnHolesOfWrong : ChangeSpec := { name := "fnHolesOf", fn := fun _ => fun
  | [d] => { results := [.lit (.bool false)], args := [d] }
  | _ => none }
def FnHolesOfWrongFalsely : Prop := fnHolesOfRow.holds Tryz.pinned (OpenSpec.ofChange fnHolesOfWrong)

/-- 'laws.FnFillSafe': WHATEVER THE INPUT: true; the input reads as it did. -/
def fnFillSafeSpec : ChangeSpec := { name := "fnFillSafe", fn := fun _ => fun
  | [d] => { results := [.lit (.bool true)], args := [d] }
  | _ => none }
def fnFillSafeRow : OpenClaim := { program := "ytoocbpendccngaagreat", sum := "0a0cce5e9835493d3a5e0937ab8a868879778eba8e20da850d89fa0694217943", func := "loop.example/templateescaper/laws.FnFillSafe", spec := "fnFillSafe", inPlace := ["internal/bytealg.IndexByteString", "internal/bytealg.IndexString", "internal/abi.NoEscape"], unfollowed := true, recurses := true, named := ["internal/bytealg.MaxLen"], apart := false }
def FnFillSafeSaid : Prop := fnFillSafeRow.holds Tryz.pinned (OpenSpec.ofChange fnFillSafeSpec)

/-- ITS FALSE NEIGHBOUR: 'it returns false'. Refute it at one input. -/
def fnFillSafeWrong : ChangeSpec := { name := "fnFillSafe", fn := fun _ => fun
  | [d] => { results := [.lit (.bool false)], args := [d] }
  | _ => none }
def FnFillSafeWrongFalsely : Prop := fnFillSafeRow.holds Tryz.pinned (OpenSpec.ofChange fnFillSafeWrong)

/-- 'laws.FnExactFillSafe': WHATEVER THE INPUT: true; the input reads as it did. -/
def fnExactFillSafeSpec : ChangeSpec := { name := "fnExactFillSafe", fn := fun _ => fun
  | [d1, d2] => { results := [.lit (.bool true)], args := [d1, d2] }
  | _ => none }
def fnExactFillSafeRow : OpenClaim := { program := "ytoocbpendccngaagreat", sum := "0a0cce5e9835493d3a5e0937ab8a868879778eba8e20da850d89fa0694217943", func := "loop.example/templateescaper/laws.FnExactFillSafe", spec := "fnExactFillSafe", inPlace := ["internal/bytealg.IndexByteString", "internal/bytealg.IndexString", "internal/abi.NoEscape"], unfollowed := true, recurses := true, named := ["internal/bytealg.MaxLen"], loops := true, apart := false }
def FnExactFillSafeSaid : Prop := fnExactFillSafeRow.holds Tryz.pinned (OpenSpec.ofChange fnExactFillSafeSpec)

/-- ITS FALSE NEIGHBOUR: 'it returns false'. Refute it at one input. -/
def fnExactFillSafeWrong : ChangeSpec := { name := "fnExactFillSafe", fn := fun _ => fun
  | [d1, d2] => { results := [.lit (.bool false)], args := [d1, d2] }
  | _ => none }
def FnExactFillSafeWrongFalsely : Prop := fnExactFillSafeRow.holds Tryz.pinned (OpenSpec.ofChange fnExactFillSafeWrong)

/- THE SECOND FORM. 'bulk': how many values and letters a reading holds, each counted each time it is reached (what is shared counts as often as it is met; a slice's spare places count too). A statement '..UptoSaid' is the law's where the arguments, and the package variables that the reading takes, are together of bulk at most 1048576: NARROWER than '..Said'. Prove '..Said' where nothing that the law and all that it calls make is longer than what came in: it says more and counts as full. Else prove '..UptoSaid'. A law counts once. -/
mutual
def uptoBulk {H : Type} : DataW H → Nat
  | .lit (.string bytes) => bytes.length + 1
  | .lit _ => 1
  | .nil => 1
  | .ptr d => uptoBulk d + 1
  | .slice elems spare => uptoBulkAll elems + uptoBulkAll spare + 1
  | .agg parts => uptoBulkAll parts + 1
  | .iface _ d => uptoBulk d + 1
  | .map entries => uptoBulkEntries entries + 1
  | .held _ => 1
def uptoBulkAll {H : Type} : List (DataW H) → Nat
  | [] => 0
  | d :: r => uptoBulk d + uptoBulkAll r
def uptoBulkEntries {H : Type} : List (Lit × DataW H) → Nat
  | [] => 0
  | x :: r => uptoBulkEntry x + uptoBulkEntries r
def uptoBulkEntry {H : Type} : Lit × DataW H → Nat
  | (.string bytes, d) => bytes.length + uptoBulk d + 1
  | (_, d) => uptoBulk d + 1
 end
def uptoSmall : (H : Type) → List (DataW H) → Bool := fun _ ds => decide (uptoBulkAll ds ≤ 1048576)
def OpenSpec.upto (s : _root_.Go.ChangeSpec) : _root_.Go.OpenSpec := { _root_.Go.OpenSpec.ofChange s with cond := some uptoSmall }

/-- 'laws.FnNamePlaces', WHERE WHAT IT READS IS OF BULK AT MOST 1048576: true; the input reads as it did. -/
def fnNamePlacesUptoRow : OpenClaim := { program := "ytoocbpendccngaagreat", sum := "0a0cce5e9835493d3a5e0937ab8a868879778eba8e20da850d89fa0694217943", func := "loop.example/templateescaper/laws.FnNamePlaces", spec := "fnNamePlaces", inPlace := ["internal/bytealg.IndexByteString", "internal/bytealg.IndexString"], unfollowed := true, recurses := true, named := ["internal/bytealg.MaxLen"], apart := false, narrowed := true }
def FnNamePlacesUptoSaid : Prop := fnNamePlacesUptoRow.holds Tryz.pinned (OpenSpec.upto fnNamePlacesSpec)

/-- 'laws.FnHolesOf', WHERE WHAT IT READS IS OF BULK AT MOST 1048576: true; the input reads as it did. -/
def fnHolesOfUptoRow : OpenClaim := { program := "ytoocbpendccngaagreat", sum := "0a0cce5e9835493d3a5e0937ab8a868879778eba8e20da850d89fa0694217943", func := "loop.example/templateescaper/laws.FnHolesOf", spec := "fnHolesOf", inPlace := ["internal/bytealg.IndexByteString", "internal/bytealg.IndexString", "internal/abi.NoEscape"], unfollowed := true, recurses := true, named := ["internal/bytealg.MaxLen"], apart := false, narrowed := true }
def FnHolesOfUptoSaid : Prop := fnHolesOfUptoRow.holds Tryz.pinned (OpenSpec.upto fnHolesOfSpec)

/-- 'laws.FnFillSafe', WHERE WHAT IT READS IS OF BULK AT MOST 1048576: true; the input reads as it did. -/
def fnFillSafeUptoRow : OpenClaim := { program := "ytoocbpendccngaagreat", sum := "0a0cce5e9835493d3a5e0937ab8a868879778eba8e20da850d89fa0694217943", func := "loop.example/templateescaper/laws.FnFillSafe", spec := "fnFillSafe", inPlace := ["internal/bytealg.IndexByteString", "internal/bytealg.IndexString", "internal/abi.NoEscape"], unfollowed := true, recurses := true, named := ["internal/bytealg.MaxLen"], apart := false, narrowed := true }
def FnFillSafeUptoSaid : Prop := fnFillSafeUptoRow.holds Tryz.pinned (OpenSpec.upto fnFillSafeSpec)

/-- 'laws.FnExactFillSafe', WHERE WHAT IT READS IS OF BULK AT MOST 1048576: true; the input reads as it did. -/
def fnExactFillSafeUptoRow : OpenClaim := { program := "ytoocbpendccngaagreat", sum := "0a0cce5e9835493d3a5e0937ab8a868879778eba8e20da850d89fa0694217943", func := "loop.example/templateescaper/laws.FnExactFillSafe", spec := "fnExactFillSafe", inPlace := ["internal/bytealg.IndexByteString", "internal/bytealg.IndexString", "internal/abi.NoEscape"], unfollowed := true, recurses := true, named := ["internal/bytealg.MaxLen"], loops := true, apart := false, narrowed := true }
def FnExactFillSafeUptoSaid : Prop := fnExactFillSafeUptoRow.holds Tryz.pinned (OpenSpec.upto fnExactFillSafeSpec)

end Rows
end Go.Proofs.YtoocbpendccngaaGreat
