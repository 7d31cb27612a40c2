/-
  NARROWER THAN 'FOR EVERY INPUT', by the rows' own cells (each row's printed sentence says how): FnExactOutlineOf: loops · FnExactSimplerParts: loops · FnExactInsertParts: loops · FnExactNamesUsed: loops · FnExactHolePlaces: loops · FnExactNamePlaces: loops · FnExactNamesMissing: loops · FnExactHolesOf: loops.
  DERIVED. THE GIVEN ROWS OF THIS SEAT. 8 by the template 'for every input the law returns true; each argument reads behind the call as it read before'; 0 by the template 'total and deterministic' (their statements: YtdedddmnacomfaaTotals.lean).
  GIVEN WITH THE SEED: the statements are not yours to turn. If you find one false, say at which input.
  Laid BY PROGRAM, IN A SANDBOX (cutbox-rows.mjs): the forced cells as the released guide's own fill.sh prints them over the translation bf3e228c5bcbc22b… (all of the seat's roots in one cut). By AI agents, Wed Nov 11 2026. No macro, syntax, notation, axiom, sorry.
-/
import Derived.Test.YtdedddmnacomfaaChecked
import GoSem.Claim
import GoSem.ClaimJoined
import GoSem.ClaimMapViews
import Derived.JoinedTies
import Derived.KernelRfl
namespace Go.Proofs.Ytdedddmnacomfaa
/- THE CELL 'sum', in the pinned program and in every row, IS THE sha256 OF THE DUMP (.gsa) THAT YtdedddmnacomfaaProg.lean LOADS. Nothing in Lean hashes anything: it is a label: what it is worth is what the hold of that sum in a sandbox is worth. -/
noncomputable def Try.pinned : Pinned := { name := "ytdedddmnacomfaa", sum := "bf3e228c5bcbc22b145f79a1855f970e84d72c9ed0eddc8f615c0933500199ad", checked := Try.checked }
namespace Rows
def none {H : Type} : Left H := { results := [], args := [] }

/-- 'laws.FnExactOutlineOf': WHATEVER THE INPUT: true; the input reads as it did. -/
def fnExactOutlineOfSpec : ChangeSpec := { name := "fnExactOutlineOf", fn := fun _ => fun
  | [d] => { results := [.lit (.bool true)], args := [d] }
  | _ => none }
def fnExactOutlineOfRow : OpenClaim := { program := "ytdedddmnacomfaa", sum := "bf3e228c5bcbc22b145f79a1855f970e84d72c9ed0eddc8f615c0933500199ad", func := "loop.example/templateescaper/laws.FnExactOutlineOf", spec := "fnExactOutlineOf", inPlace := ["internal/bytealg.IndexByteString", "internal/bytealg.IndexString"], recurses := true, named := ["internal/bytealg.MaxLen"], loops := true, apart := false }
def FnExactOutlineOfSaid : Prop := fnExactOutlineOfRow.holds Try.pinned (OpenSpec.ofChange fnExactOutlineOfSpec)

/-- ITS FALSE NEIGHBOUR: 'it returns false'. Refute it at one input. -/
def fnExactOutlineOfWrong : ChangeSpec := { name := "fnExactOutlineOf", fn := fun _ => fun
  | [d] => { results := [.lit (.bool false)], args := [d] }
  | _ => none }
def FnExactOutlineOfWrongFalsely : Prop := fnExactOutlineOfRow.holds Try.pinned (OpenSpec.ofChange fnExactOutlineOfWrong)

/-- 'laws.FnExactSimplerParts': WHATEVER THE INPUT: true; the input reads as it did. -/
def fnExactSimplerPartsSpec : ChangeSpec := { name := "fnExactSimplerParts", fn := fun _ => fun
  | [d] => { results := [.lit (.bool true)], args := [d] }
  | _ => none }
def fnExactSimplerPartsRow : OpenClaim := { program := "ytdedddmnacomfaa", sum := "bf3e228c5bcbc22b145f79a1855f970e84d72c9ed0eddc8f615c0933500199ad", func := "loop.example/templateescaper/laws.FnExactSimplerParts", spec := "fnExactSimplerParts", inPlace := ["internal/bytealg.IndexByteString", "internal/bytealg.IndexString"], recurses := true, named := ["internal/bytealg.MaxLen"], loops := true, apart := false }
def FnExactSimplerPartsSaid : Prop := fnExactSimplerPartsRow.holds Try.pinned (OpenSpec.ofChange fnExactSimplerPartsSpec)

/-- ITS FALSE NEIGHBOUR: 'it returns false'. Refute it at one input. -/
def fnExactSimplerPartsWrong : ChangeSpec := { name := "fnExactSimplerParts", fn := fun _ => fun
  | [d] => { results := [.lit (.bool false)], args := [d] }
  | _ => none }
def FnExactSimplerPartsWrongFalsely : Prop := fnExactSimplerPartsRow.holds Try.pinned (OpenSpec.ofChange fnExactSimplerPartsWrong)

/-- 'laws.FnExactInsertParts': WHATEVER THE INPUT: true; the input reads as it did. -/
def fnExactInsertPartsSpec : ChangeSpec := { name := "fnExactInsertParts", fn := fun _ => fun
  | [d1, d2, d3] => { results := [.lit (.bool true)], args := [d1, d2, d3] }
  | _ => none }
def fnExactInsertPartsRow : OpenClaim := { program := "ytdedddmnacomfaa", sum := "bf3e228c5bcbc22b145f79a1855f970e84d72c9ed0eddc8f615c0933500199ad", func := "loop.example/templateescaper/laws.FnExactInsertParts", spec := "fnExactInsertParts", inPlace := ["internal/bytealg.IndexByteString", "internal/bytealg.IndexString"], recurses := true, named := ["internal/bytealg.MaxLen"], loops := true, apart := false }
def FnExactInsertPartsSaid : Prop := fnExactInsertPartsRow.holds Try.pinned (OpenSpec.ofChange fnExactInsertPartsSpec)

/-- ITS FALSE NEIGHBOUR: 'it returns false'. Refute it at one input. -/
def fnExactInsertPartsWrong : ChangeSpec := { name := "fnExactInsertParts", fn := fun _ => fun
  | [d1, d2, d3] => { results := [.lit (.bool false)], args := [d1, d2, d3] }
  | _ => none }
def FnExactInsertPartsWrongFalsely : Prop := fnExactInsertPartsRow.holds Try.pinned (OpenSpec.ofChange fnExactInsertPartsWrong)

/-- 'laws.FnExactNamesUsed': WHATEVER THE INPUT: true; the input reads as it did. -/
def fnExactNamesUsedSpec : ChangeSpec := { name := "fnExactNamesUsed", fn := fun _ => fun
  | [d1, d2] => { results := [.lit (.bool true)], args := [d1, d2] }
  | _ => none }
def fnExactNamesUsedRow : OpenClaim := { program := "ytdedddmnacomfaa", sum := "bf3e228c5bcbc22b145f79a1855f970e84d72c9ed0eddc8f615c0933500199ad", func := "loop.example/templateescaper/laws.FnExactNamesUsed", spec := "fnExactNamesUsed", inPlace := ["internal/bytealg.IndexByteString", "internal/bytealg.IndexString"], recurses := true, named := ["internal/bytealg.MaxLen"], loops := true, apart := false }
def FnExactNamesUsedSaid : Prop := fnExactNamesUsedRow.holds Try.pinned (OpenSpec.ofChange fnExactNamesUsedSpec)

/-- ITS FALSE NEIGHBOUR: 'it returns false'. Refute it at one input. -/
def fnExactNamesUsedWrong : ChangeSpec := { name := "fnExactNamesUsed", fn := fun _ => fun
  | [d1, d2] => { results := [.lit (.bool false)], args := [d1, d2] }
  | _ => none }
def FnExactNamesUsedWrongFalsely : Prop := fnExactNamesUsedRow.holds Try.pinned (OpenSpec.ofChange fnExactNamesUsedWrong)

/-- 'laws.FnExactHolePlaces': WHATEVER THE INPUT: true; the input reads as it did. -/
def fnExactHolePlacesSpec : ChangeSpec := { name := "fnExactHolePlaces", fn := fun _ => fun
  | [d] => { results := [.lit (.bool true)], args := [d] }
  | _ => none }
def fnExactHolePlacesRow : OpenClaim := { program := "ytdedddmnacomfaa", sum := "bf3e228c5bcbc22b145f79a1855f970e84d72c9ed0eddc8f615c0933500199ad", func := "loop.example/templateescaper/laws.FnExactHolePlaces", spec := "fnExactHolePlaces", inPlace := ["internal/bytealg.IndexByteString", "internal/bytealg.IndexString"], unfollowed := true, recurses := true, named := ["internal/bytealg.MaxLen"], loops := true, apart := false }
def FnExactHolePlacesSaid : Prop := fnExactHolePlacesRow.holds Try.pinned (OpenSpec.ofChange fnExactHolePlacesSpec)

/-- ITS FALSE NEIGHBOUR: 'it returns false'. Refute it at one input. -/
def fnExactHolePlacesWrong : ChangeSpec := { name := "fnExactHolePlaces", fn := fun _ => fun
  | [d] => { results := [.lit (.bool false)], args := [d] }
  | _ => none }
def FnExactHolePlacesWrongFalsely : Prop := fnExactHolePlacesRow.holds Try.pinned (OpenSpec.ofChange fnExactHolePlacesWrong)

/-- 'laws.FnExactNamePlaces': WHATEVER THE INPUT: true; the input reads as it did. -/
def fnExactNamePlacesSpec : ChangeSpec := { name := "fnExactNamePlaces", fn := fun _ => fun
  | [d1, d2] => { results := [.lit (.bool true)], args := [d1, d2] }
  | _ => none }
def fnExactNamePlacesRow : OpenClaim := { program := "ytdedddmnacomfaa", sum := "bf3e228c5bcbc22b145f79a1855f970e84d72c9ed0eddc8f615c0933500199ad", func := "loop.example/templateescaper/laws.FnExactNamePlaces", spec := "fnExactNamePlaces", inPlace := ["internal/bytealg.IndexByteString", "internal/bytealg.IndexString"], unfollowed := true, recurses := true, named := ["internal/bytealg.MaxLen"], loops := true, apart := false }
def FnExactNamePlacesSaid : Prop := fnExactNamePlacesRow.holds Try.pinned (OpenSpec.ofChange fnExactNamePlacesSpec)

/-- ITS FALSE NEIGHBOUR: 'it returns false'. Refute it at one input. -/
def fnExactNamePlacesWrong : ChangeSpec := { name := "fnExactNamePlaces", fn := fun _ => fun
  | [d1, d2] => { results := [.lit (.bool false)], args := [d1, d2] }
  | _ => none }
def FnExactNamePlacesWrongFalsely : Prop := fnExactNamePlacesRow.holds Try.pinned (OpenSpec.ofChange fnExactNamePlacesWrong)

/-- 'laws.FnExactNamesMissing': WHATEVER THE INPUT: true; the input reads as it did. -/
def fnExactNamesMissingSpec : ChangeSpec := { name := "fnExactNamesMissing", fn := fun _ => fun
  | [d1, d2] => { results := [.lit (.bool true)], args := [d1, d2] }
  | _ => none }
def fnExactNamesMissingRow : OpenClaim := { program := "ytdedddmnacomfaa", sum := "bf3e228c5bcbc22b145f79a1855f970e84d72c9ed0eddc8f615c0933500199ad", func := "loop.example/templateescaper/laws.FnExactNamesMissing", spec := "fnExactNamesMissing", inPlace := ["internal/bytealg.IndexByteString", "internal/bytealg.IndexString"], recurses := true, named := ["internal/bytealg.MaxLen"], loops := true, apart := false }
def FnExactNamesMissingSaid : Prop := fnExactNamesMissingRow.holds Try.pinned (OpenSpec.ofChange fnExactNamesMissingSpec)

/-- ITS FALSE NEIGHBOUR: 'it returns false'. Refute it at one input. -/
def fnExactNamesMissingWrong : ChangeSpec := { name := "fnExactNamesMissing", fn := fun _ => fun
  | [d1, d2] => { results := [.lit (.bool false)], args := [d1, d2] }
  | _ => none }
def FnExactNamesMissingWrongFalsely : Prop := fnExactNamesMissingRow.holds Try.pinned (OpenSpec.ofChange fnExactNamesMissingWrong)

/-- 'laws.FnExactHolesOf': WHATEVER THE INPUT: true; the input reads as it did. -/
def fnExactHolesOfSpec : ChangeSpec := { name := "fnExactHolesOf", fn := fun _ => fun
  | [d1, d2] => { results := [.lit (.bool true)], args := [d1, d2] }
  | _ => none }
def fnExactHolesOfRow : OpenClaim := { program := "ytdedddmnacomfaa", sum := "bf3e228c5bcbc22b145f79a1855f970e84d72c9ed0eddc8f615c0933500199ad", func := "loop.example/templateescaper/laws.FnExactHolesOf", spec := "fnExactHolesOf", inPlace := ["internal/bytealg.IndexByteString", "internal/bytealg.IndexString"], unfollowed := true, recurses := true, named := ["internal/bytealg.MaxLen"], loops := true, apart := false }
def FnExactHolesOfSaid : Prop := fnExactHolesOfRow.holds Try.pinned (OpenSpec.ofChange fnExactHolesOfSpec)

/-- ITS FALSE NEIGHBOUR: 'it returns false'. Refute it at one input. -/
def fnExactHolesOfWrong : ChangeSpec := { name := "fnExactHolesOf", fn := fun _ => fun
  | [d1, d2] => { results := [.lit (.bool false)], args := [d1, d2] }
  | _ => none }
def FnExactHolesOfWrongFalsely : Prop := fnExactHolesOfRow.holds Try.pinned (OpenSpec.ofChange fnExactHolesOfWrong)

/- THE SECOND FORM. 'bulk': how many values and letters a reading holds, each counted each time it is reached (what is shared counts as often as it is met; a slice's spare places count too). A statement '..UptoSaid' is the law's where the arguments, and the package variables that the reading takes, are together of bulk at most 1048576: NARROWER than '..Said'. Prove '..Said' where nothing that the law and all that it calls make is longer than what came in: it says more and counts as full. Else prove '..UptoSaid'. A law counts once. -/
mutual
def uptoBulk {H : Type} : DataW H → Nat
  | .lit (.string bytes) => bytes.length + 1
  | .lit _ => 1
  | .nil => 1
  | .ptr d => uptoBulk d + 1
  | .slice elems spare => uptoBulkAll elems + uptoBulkAll spare + 1
  | .agg parts => uptoBulkAll parts + 1
  | .iface _ d => uptoBulk d + 1
  | .map entries => uptoBulkEntries entries + 1
  | .held _ => 1
def uptoBulkAll {H : Type} : List (DataW H) → Nat
  | [] => 0
  | d :: r => uptoBulk d + uptoBulkAll r
def uptoBulkEntries {H : Type} : List (Lit × DataW H) → Nat
  | [] => 0
  | x :: r => uptoBulkEntry x + uptoBulkEntries r
def uptoBulkEntry {H : Type} : Lit × DataW H → Nat
  | (.string bytes, d) => bytes.length + uptoBulk d + 1
  | (_, d) => uptoBulk d + 1
 end
def uptoSmall : (H : Type) → List (DataW H) → Bool := fun _ ds => decide (uptoBulkAll ds ≤ 1048576)
def OpenSpec.upto (s : _root_.Go.ChangeSpec) : _root_.Go.OpenSpec := { _root_.Go.OpenSpec.ofChange s with cond := some uptoSmall }

/-- 'laws.FnExactOutlineOf', WHERE WHAT IT READS IS OF BULK AT MOST 1048576: true; the input reads as it did. -/
def fnExactOutlineOfUptoRow : OpenClaim := { program := "ytdedddmnacomfaa", sum := "bf3e228c5bcbc22b145f79a1855f970e84d72c9ed0eddc8f615c0933500199ad", func := "loop.example/templateescaper/laws.FnExactOutlineOf", spec := "fnExactOutlineOf", inPlace := ["internal/bytealg.IndexByteString", "internal/bytealg.IndexString"], recurses := true, named := ["internal/bytealg.MaxLen"], loops := true, apart := false, narrowed := true }
def FnExactOutlineOfUptoSaid : Prop := fnExactOutlineOfUptoRow.holds Try.pinned (OpenSpec.upto fnExactOutlineOfSpec)

/-- 'laws.FnExactSimplerParts', WHERE WHAT IT READS IS OF BULK AT MOST 1048576: true; the input reads as it did. -/
def fnExactSimplerPartsUptoRow : OpenClaim := { program := "ytdedddmnacomfaa", sum := "bf3e228c5bcbc22b145f79a1855f970e84d72c9ed0eddc8f615c0933500199ad", func := "loop.example/templateescaper/laws.FnExactSimplerParts", spec := "fnExactSimplerParts", inPlace := ["internal/bytealg.IndexByteString", "internal/bytealg.IndexString"], recurses := true, named := ["internal/bytealg.MaxLen"], loops := true, apart := false, narrowed := true }
def FnExactSimplerPartsUptoSaid : Prop := fnExactSimplerPartsUptoRow.holds Try.pinned (OpenSpec.upto fnExactSimplerPartsSpec)

/-- 'laws.FnExactInsertParts', WHERE WHAT IT READS IS OF BULK AT MOST 1048576: true; the input reads as it did. -/
def fnExactInsertPartsUptoRow : OpenClaim := { program := "ytdedddmnacomfaa", sum := "bf3e228c5bcbc22b145f79a1855f970e84d72c9ed0eddc8f615c0933500199ad", func := "loop.example/templateescaper/laws.FnExactInsertParts", spec := "fnExactInsertParts", inPlace := ["internal/bytealg.IndexByteString", "internal/bytealg.IndexString"], recurses := true, named := ["internal/bytealg.MaxLen"], loops := true, apart := false, narrowed := true }
def FnExactInsertPartsUptoSaid : Prop := fnExactInsertPartsUptoRow.holds Try.pinned (OpenSpec.upto fnExactInsertPartsSpec)

/-- 'laws.FnExactNamesUsed', WHERE WHAT IT READS IS OF BULK AT MOST 1048576: true; the input reads as it did. -/
def fnExactNamesUsedUptoRow : OpenClaim := { program := "ytdedddmnacomfaa", sum := "bf3e228c5bcbc22b145f79a1855f970e84d72c9ed0eddc8f615c0933500199ad", func := "loop.example/templateescaper/laws.FnExactNamesUsed", spec := "fnExactNamesUsed", inPlace := ["internal/bytealg.IndexByteString", "internal/bytealg.IndexString"], recurses := true, named := ["internal/bytealg.MaxLen"], loops := true, apart := false, narrowed := true }
def FnExactNamesUsedUptoSaid : Prop := fnExactNamesUsedUptoRow.holds Try.pinned (OpenSpec.upto fnExactNamesUsedSpec)

/-- 'laws.FnExactHolePlaces', WHERE WHAT IT READS IS OF BULK AT MOST 1048576: true; the input reads as it did. -/
def fnExactHolePlacesUptoRow : OpenClaim := { program := "ytdedddmnacomfaa", sum := "bf3e228c5bcbc22b145f79a1855f970e84d72c9ed0eddc8f615c0933500199ad", func := "loop.example/templateescaper/laws.FnExactHolePlaces", spec := "fnExactHolePlaces", inPlace := ["internal/bytealg.IndexByteString", "internal/bytealg.IndexString"], unfollowed := true, recurses := true, named := ["internal/bytealg.MaxLen"], loops := true, apart := false, narrowed := true }
def FnExactHolePlacesUptoSaid : Prop := fnExactHolePlacesUptoRow.holds Try.pinned (OpenSpec.upto fnExactHolePlacesSpec)

/-- 'laws.FnExactNamePlaces', WHERE WHAT IT READS IS OF BULK AT MOST 1048576: true; the input reads as it did. -/
def fnExactNamePlacesUptoRow : OpenClaim := { program := "ytdedddmnacomfaa", sum := "bf3e228c5bcbc22b145f79a1855f970e84d72c9ed0eddc8f615c0933500199ad", func := "loop.example/templateescaper/laws.FnExactNamePlaces", spec := "fnExactNamePlaces", inPlace := ["internal/bytealg.IndexByteString", "internal/bytealg.IndexString"], unfollowed := true, recurses := true, named := ["internal/bytealg.MaxLen"], loops := true, apart := false, narrowed := true }
def FnExactNamePlacesUptoSaid : Prop := fnExactNamePlacesUptoRow.holds Try.pinned (OpenSpec.upto fnExactNamePlacesSpec)

/-- 'laws.FnExactNamesMissing', WHERE WHAT IT READS IS OF BULK AT MOST 1048576: true; the input reads as it did. -/
def fnExactNamesMissingUptoRow : OpenClaim := { program := "ytdedddmnacomfaa", sum := "bf3e228c5bcbc22b145f79a1855f970e84d72c9ed0eddc8f615c0933500199ad", func := "loop.example/templateescaper/laws.FnExactNamesMissing", spec := "fnExactNamesMissing", inPlace := ["internal/bytealg.IndexByteString", "internal/bytealg.IndexString"], recurses := true, named := ["internal/bytealg.MaxLen"], loops := true, apart := false, narrowed := true }
def FnExactNamesMissingUptoSaid : Prop := fnExactNamesMissingUptoRow.holds Try.pinned (OpenSpec.upto fnExactNamesMissingSpec)

/-- 'laws.FnExactHolesOf', WHERE WHAT IT READS IS OF BULK AT MOST 1048576: true; the input reads as it did. -/
def fnExactHolesOfUptoRow : OpenClaim := { program := "ytdedddmnacomfaa", sum := "bf3e228c5bcbc22b145f79a1855f970e84d72c9ed0eddc8f615c0933500199ad", func := "loop.example/templateescaper/laws.FnExactHolesOf", spec := "fnExactHolesOf", inPlace := ["internal/bytealg.IndexByteString", "internal/bytealg.IndexString"], unfollowed := true, recurses := true, named := ["internal/bytealg.MaxLen"], loops := true, apart := false, narrowed := true }
def FnExactHolesOfUptoSaid : Prop := fnExactHolesOfUptoRow.holds Try.pinned (OpenSpec.upto fnExactHolesOfSpec)

end Rows
end Go.Proofs.Ytdedddmnacomfaa
