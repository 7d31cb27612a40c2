/-
  NARROWER THAN 'FOR EVERY INPUT', by the rows' own cells (each row's printed sentence says how): FnExactSameParts: loops · FnExactDeepestPart: loops.
  DERIVED. THE GIVEN ROWS OF THIS SEAT. 12 by the template 'for every input the law returns true; each argument reads behind the call as it read before'; 0 by the template 'total and deterministic' (their statements: YtdehpafflbhadaaTotals.lean).
  GIVEN WITH THE SEED: the statements are not yours to turn. If you find one false, say at which input.
  Laid BY PROGRAM, IN A SANDBOX (cutbox-rows.mjs): the forced cells as the released guide's own fill.sh prints them over the translation a5528df4f8e3a318… (all of the seat's roots in one cut). By AI agents, Wed Nov 11 2026. No macro, syntax, notation, axiom, sorry.
-/
import Derived.Test.YtdehpafflbhadaaChecked
import GoSem.Claim
import GoSem.ClaimJoined
import GoSem.ClaimMapViews
import Derived.JoinedTies
import Derived.KernelRfl
namespace Go.Proofs.Ytdehpafflbhadaa
/- THE CELL 'sum', in the pinned program and in every row, IS THE sha256 OF THE DUMP (.gsa) THAT YtdehpafflbhadaaProg.lean LOADS. Nothing in Lean hashes anything: it is a label: what it is worth is what the hold of that sum in a sandbox is worth. -/
noncomputable def Try.pinned : Pinned := { name := "ytdehpafflbhadaa", sum := "a5528df4f8e3a3187675f656c486868ff071a1f19e4db4f9235e6d32b1dd4e49", checked := Try.checked }
namespace Rows
def none {H : Type} : Left H := { results := [], args := [] }

/-- 'laws.FnExactSameParts': WHATEVER THE INPUT: true; the input reads as it did. -/
def fnExactSamePartsSpec : ChangeSpec := { name := "fnExactSameParts", fn := fun _ => fun
  | [d1, d2] => { results := [.lit (.bool true)], args := [d1, d2] }
  | _ => none }
def fnExactSamePartsRow : OpenClaim := { program := "ytdehpafflbhadaa", sum := "a5528df4f8e3a3187675f656c486868ff071a1f19e4db4f9235e6d32b1dd4e49", func := "loop.example/templateescaper/laws.FnExactSameParts", spec := "fnExactSameParts", recurses := true, loops := true, apart := false }
def FnExactSamePartsSaid : Prop := fnExactSamePartsRow.holds Try.pinned (OpenSpec.ofChange fnExactSamePartsSpec)

/-- ITS FALSE NEIGHBOUR: 'it returns false'. Refute it at one input. -/
def fnExactSamePartsWrong : ChangeSpec := { name := "fnExactSameParts", fn := fun _ => fun
  | [d1, d2] => { results := [.lit (.bool false)], args := [d1, d2] }
  | _ => none }
def FnExactSamePartsWrongFalsely : Prop := fnExactSamePartsRow.holds Try.pinned (OpenSpec.ofChange fnExactSamePartsWrong)

/-- 'laws.FnExactTextsOf': WHATEVER THE INPUT: true; the input reads as it did. -/
def fnExactTextsOfSpec : ChangeSpec := { name := "fnExactTextsOf", fn := fun _ => fun
  | [d1, d2] => { results := [.lit (.bool true)], args := [d1, d2] }
  | _ => none }
def fnExactTextsOfRow : OpenClaim := { program := "ytdehpafflbhadaa", sum := "a5528df4f8e3a3187675f656c486868ff071a1f19e4db4f9235e6d32b1dd4e49", func := "loop.example/templateescaper/laws.FnExactTextsOf", spec := "fnExactTextsOf", apart := false }
def FnExactTextsOfSaid : Prop := fnExactTextsOfRow.holds Try.pinned (OpenSpec.ofChange fnExactTextsOfSpec)

/-- ITS FALSE NEIGHBOUR: 'it returns false'. Refute it at one input. -/
def fnExactTextsOfWrong : ChangeSpec := { name := "fnExactTextsOf", fn := fun _ => fun
  | [d1, d2] => { results := [.lit (.bool false)], args := [d1, d2] }
  | _ => none }
def FnExactTextsOfWrongFalsely : Prop := fnExactTextsOfRow.holds Try.pinned (OpenSpec.ofChange fnExactTextsOfWrong)

/-- 'laws.FnExactPlaceOf': WHATEVER THE INPUT: true; the input reads as it did. -/
def fnExactPlaceOfSpec : ChangeSpec := { name := "fnExactPlaceOf", fn := fun _ => fun
  | [d] => { results := [.lit (.bool true)], args := [d] }
  | _ => none }
def fnExactPlaceOfRow : OpenClaim := { program := "ytdehpafflbhadaa", sum := "a5528df4f8e3a3187675f656c486868ff071a1f19e4db4f9235e6d32b1dd4e49", func := "loop.example/templateescaper/laws.FnExactPlaceOf", spec := "fnExactPlaceOf", apart := false }
def FnExactPlaceOfSaid : Prop := fnExactPlaceOfRow.holds Try.pinned (OpenSpec.ofChange fnExactPlaceOfSpec)

/-- ITS FALSE NEIGHBOUR: 'it returns false'. Refute it at one input. -/
def fnExactPlaceOfWrong : ChangeSpec := { name := "fnExactPlaceOf", fn := fun _ => fun
  | [d] => { results := [.lit (.bool false)], args := [d] }
  | _ => none }
def FnExactPlaceOfWrongFalsely : Prop := fnExactPlaceOfRow.holds Try.pinned (OpenSpec.ofChange fnExactPlaceOfWrong)

/-- 'laws.FnExactStateBehind': WHATEVER THE INPUT: true; the input reads as it did. -/
def fnExactStateBehindSpec : ChangeSpec := { name := "fnExactStateBehind", fn := fun _ => fun
  | [d] => { results := [.lit (.bool true)], args := [d] }
  | _ => none }
def fnExactStateBehindRow : OpenClaim := { program := "ytdehpafflbhadaa", sum := "a5528df4f8e3a3187675f656c486868ff071a1f19e4db4f9235e6d32b1dd4e49", func := "loop.example/templateescaper/laws.FnExactStateBehind", spec := "fnExactStateBehind", apart := false }
def FnExactStateBehindSaid : Prop := fnExactStateBehindRow.holds Try.pinned (OpenSpec.ofChange fnExactStateBehindSpec)

/-- ITS FALSE NEIGHBOUR: 'it returns false'. Refute it at one input. -/
def fnExactStateBehindWrong : ChangeSpec := { name := "fnExactStateBehind", fn := fun _ => fun
  | [d] => { results := [.lit (.bool false)], args := [d] }
  | _ => none }
def FnExactStateBehindWrongFalsely : Prop := fnExactStateBehindRow.holds Try.pinned (OpenSpec.ofChange fnExactStateBehindWrong)

/-- 'laws.FnExactPairAllowed': WHATEVER THE INPUT: true; the input reads as it did. -/
def fnExactPairAllowedSpec : ChangeSpec := { name := "fnExactPairAllowed", fn := fun _ => fun
  | [d1, d2] => { results := [.lit (.bool true)], args := [d1, d2] }
  | _ => none }
def fnExactPairAllowedRow : OpenClaim := { program := "ytdehpafflbhadaa", sum := "a5528df4f8e3a3187675f656c486868ff071a1f19e4db4f9235e6d32b1dd4e49", func := "loop.example/templateescaper/laws.FnExactPairAllowed", spec := "fnExactPairAllowed", inPlace := ["internal/bytealg.IndexByteString", "internal/bytealg.IndexString"], named := ["internal/bytealg.MaxLen"], apart := false }
def FnExactPairAllowedSaid : Prop := fnExactPairAllowedRow.holds Try.pinned (OpenSpec.ofChange fnExactPairAllowedSpec)

/-- ITS FALSE NEIGHBOUR: 'it returns false'. Refute it at one input. -/
def fnExactPairAllowedWrong : ChangeSpec := { name := "fnExactPairAllowed", fn := fun _ => fun
  | [d1, d2] => { results := [.lit (.bool false)], args := [d1, d2] }
  | _ => none }
def FnExactPairAllowedWrongFalsely : Prop := fnExactPairAllowedRow.holds Try.pinned (OpenSpec.ofChange fnExactPairAllowedWrong)

/-- 'laws.FnPairAllowed': WHATEVER THE INPUT: true; the input reads as it did. -/
def fnPairAllowedSpec : ChangeSpec := { name := "fnPairAllowed", fn := fun _ => fun
  | [d] => { results := [.lit (.bool true)], args := [d] }
  | _ => none }
def fnPairAllowedRow : OpenClaim := { program := "ytdehpafflbhadaa", sum := "a5528df4f8e3a3187675f656c486868ff071a1f19e4db4f9235e6d32b1dd4e49", func := "loop.example/templateescaper/laws.FnPairAllowed", spec := "fnPairAllowed", inPlace := ["internal/bytealg.IndexByteString", "internal/bytealg.IndexString"], named := ["internal/bytealg.MaxLen"], apart := false }
def FnPairAllowedSaid : Prop := fnPairAllowedRow.holds Try.pinned (OpenSpec.ofChange fnPairAllowedSpec)

/-- ITS FALSE NEIGHBOUR: 'it returns false'. Refute it at one input. -/
def fnPairAllowedWrong : ChangeSpec := { name := "fnPairAllowed", fn := fun _ => fun
  | [d] => { results := [.lit (.bool false)], args := [d] }
  | _ => none }
def FnPairAllowedWrongFalsely : Prop := fnPairAllowedRow.holds Try.pinned (OpenSpec.ofChange fnPairAllowedWrong)

/-- 'laws.FnPlaceOf': WHATEVER THE INPUT: true; the input reads as it did. -/
def fnPlaceOfSpec : ChangeSpec := { name := "fnPlaceOf", fn := fun _ => fun
  | [d] => { results := [.lit (.bool true)], args := [d] }
  | _ => none }
def fnPlaceOfRow : OpenClaim := { program := "ytdehpafflbhadaa", sum := "a5528df4f8e3a3187675f656c486868ff071a1f19e4db4f9235e6d32b1dd4e49", func := "loop.example/templateescaper/laws.FnPlaceOf", spec := "fnPlaceOf", apart := false }
def FnPlaceOfSaid : Prop := fnPlaceOfRow.holds Try.pinned (OpenSpec.ofChange fnPlaceOfSpec)

/-- ITS FALSE NEIGHBOUR: 'it returns false'. Refute it at one input. -/
def fnPlaceOfWrong : ChangeSpec := { name := "fnPlaceOf", fn := fun _ => fun
  | [d] => { results := [.lit (.bool false)], args := [d] }
  | _ => none }
def FnPlaceOfWrongFalsely : Prop := fnPlaceOfRow.holds Try.pinned (OpenSpec.ofChange fnPlaceOfWrong)

/-- 'laws.FnExactUnescapeFor': WHATEVER THE INPUT: true; the input reads as it did. -/
def fnExactUnescapeForSpec : ChangeSpec := { name := "fnExactUnescapeFor", fn := fun _ => fun
  | [d1, d2] => { results := [.lit (.bool true)], args := [d1, d2] }
  | _ => none }
def fnExactUnescapeForRow : OpenClaim := { program := "ytdehpafflbhadaa", sum := "a5528df4f8e3a3187675f656c486868ff071a1f19e4db4f9235e6d32b1dd4e49", func := "loop.example/templateescaper/laws.FnExactUnescapeFor", spec := "fnExactUnescapeFor", inPlace := ["internal/abi.NoEscape", "internal/bytealg.IndexByteString"], apart := false }
def FnExactUnescapeForSaid : Prop := fnExactUnescapeForRow.holds Try.pinned (OpenSpec.ofChange fnExactUnescapeForSpec)

/-- ITS FALSE NEIGHBOUR: 'it returns false'. Refute it at one input. -/
def fnExactUnescapeForWrong : ChangeSpec := { name := "fnExactUnescapeFor", fn := fun _ => fun
  | [d1, d2] => { results := [.lit (.bool false)], args := [d1, d2] }
  | _ => none }
def FnExactUnescapeForWrongFalsely : Prop := fnExactUnescapeForRow.holds Try.pinned (OpenSpec.ofChange fnExactUnescapeForWrong)

/-- 'laws.FnStateBehind': WHATEVER THE INPUT: true; the input reads as it did. -/
def fnStateBehindSpec : ChangeSpec := { name := "fnStateBehind", fn := fun _ => fun
  | [d] => { results := [.lit (.bool true)], args := [d] }
  | _ => none }
def fnStateBehindRow : OpenClaim := { program := "ytdehpafflbhadaa", sum := "a5528df4f8e3a3187675f656c486868ff071a1f19e4db4f9235e6d32b1dd4e49", func := "loop.example/templateescaper/laws.FnStateBehind", spec := "fnStateBehind", apart := false }
def FnStateBehindSaid : Prop := fnStateBehindRow.holds Try.pinned (OpenSpec.ofChange fnStateBehindSpec)

/-- ITS FALSE NEIGHBOUR: 'it returns false'. Refute it at one input. -/
def fnStateBehindWrong : ChangeSpec := { name := "fnStateBehind", fn := fun _ => fun
  | [d] => { results := [.lit (.bool false)], args := [d] }
  | _ => none }
def FnStateBehindWrongFalsely : Prop := fnStateBehindRow.holds Try.pinned (OpenSpec.ofChange fnStateBehindWrong)

/-- 'laws.FnExactDeepestPart': WHATEVER THE INPUT: true; the input reads as it did. -/
def fnExactDeepestPartSpec : ChangeSpec := { name := "fnExactDeepestPart", fn := fun _ => fun
  | [d] => { results := [.lit (.bool true)], args := [d] }
  | _ => none }
def fnExactDeepestPartRow : OpenClaim := { program := "ytdehpafflbhadaa", sum := "a5528df4f8e3a3187675f656c486868ff071a1f19e4db4f9235e6d32b1dd4e49", func := "loop.example/templateescaper/laws.FnExactDeepestPart", spec := "fnExactDeepestPart", inPlace := ["internal/bytealg.IndexByteString", "internal/bytealg.IndexString"], recurses := true, named := ["internal/bytealg.MaxLen"], loops := true, apart := false }
def FnExactDeepestPartSaid : Prop := fnExactDeepestPartRow.holds Try.pinned (OpenSpec.ofChange fnExactDeepestPartSpec)

/-- ITS FALSE NEIGHBOUR: 'it returns false'. Refute it at one input. -/
def fnExactDeepestPartWrong : ChangeSpec := { name := "fnExactDeepestPart", fn := fun _ => fun
  | [d] => { results := [.lit (.bool false)], args := [d] }
  | _ => none }
def FnExactDeepestPartWrongFalsely : Prop := fnExactDeepestPartRow.holds Try.pinned (OpenSpec.ofChange fnExactDeepestPartWrong)

/-- 'laws.FnSameParts': WHATEVER THE INPUT: true; the input reads as it did. -/
def fnSamePartsSpec : ChangeSpec := { name := "fnSameParts", fn := fun _ => fun
  | [d] => { results := [.lit (.bool true)], args := [d] }
  | _ => none }
def fnSamePartsRow : OpenClaim := { program := "ytdehpafflbhadaa", sum := "a5528df4f8e3a3187675f656c486868ff071a1f19e4db4f9235e6d32b1dd4e49", func := "loop.example/templateescaper/laws.FnSameParts", spec := "fnSameParts", inPlace := ["internal/bytealg.IndexByteString", "internal/bytealg.IndexString"], recurses := true, named := ["internal/bytealg.MaxLen"], apart := false }
def FnSamePartsSaid : Prop := fnSamePartsRow.holds Try.pinned (OpenSpec.ofChange fnSamePartsSpec)

/-- ITS FALSE NEIGHBOUR: 'it returns false'. Refute it at one input. -/
def fnSamePartsWrong : ChangeSpec := { name := "fnSameParts", fn := fun _ => fun
  | [d] => { results := [.lit (.bool false)], args := [d] }
  | _ => none }
def FnSamePartsWrongFalsely : Prop := fnSamePartsRow.holds Try.pinned (OpenSpec.ofChange fnSamePartsWrong)

/-- 'laws.FnDeepestPart': WHATEVER THE INPUT: true; the input reads as it did. -/
def fnDeepestPartSpec : ChangeSpec := { name := "fnDeepestPart", fn := fun _ => fun
  | [d] => { results := [.lit (.bool true)], args := [d] }
  | _ => none }
def fnDeepestPartRow : OpenClaim := { program := "ytdehpafflbhadaa", sum := "a5528df4f8e3a3187675f656c486868ff071a1f19e4db4f9235e6d32b1dd4e49", func := "loop.example/templateescaper/laws.FnDeepestPart", spec := "fnDeepestPart", inPlace := ["internal/bytealg.IndexByteString", "internal/bytealg.IndexString"], recurses := true, named := ["internal/bytealg.MaxLen"], apart := false }
def FnDeepestPartSaid : Prop := fnDeepestPartRow.holds Try.pinned (OpenSpec.ofChange fnDeepestPartSpec)

/-- ITS FALSE NEIGHBOUR: 'it returns false'. Refute it at one input. -/
def fnDeepestPartWrong : ChangeSpec := { name := "fnDeepestPart", fn := fun _ => fun
  | [d] => { results := [.lit (.bool false)], args := [d] }
  | _ => none }
def FnDeepestPartWrongFalsely : Prop := fnDeepestPartRow.holds Try.pinned (OpenSpec.ofChange fnDeepestPartWrong)

/- THE SECOND FORM. 'bulk': how many values and letters a reading holds, each counted each time it is reached (what is shared counts as often as it is met; a slice's spare places count too). A statement '..UptoSaid' is the law's where the arguments, and the package variables that the reading takes, are together of bulk at most 1048576: NARROWER than '..Said'. Prove '..Said' where nothing that the law and all that it calls make is longer than what came in: it says more and counts as full. Else prove '..UptoSaid'. A law counts once. -/
mutual
def uptoBulk {H : Type} : DataW H → Nat
  | .lit (.string bytes) => bytes.length + 1
  | .lit _ => 1
  | .nil => 1
  | .ptr d => uptoBulk d + 1
  | .slice elems spare => uptoBulkAll elems + uptoBulkAll spare + 1
  | .agg parts => uptoBulkAll parts + 1
  | .iface _ d => uptoBulk d + 1
  | .map entries => uptoBulkEntries entries + 1
  | .held _ => 1
def uptoBulkAll {H : Type} : List (DataW H) → Nat
  | [] => 0
  | d :: r => uptoBulk d + uptoBulkAll r
def uptoBulkEntries {H : Type} : List (Lit × DataW H) → Nat
  | [] => 0
  | x :: r => uptoBulkEntry x + uptoBulkEntries r
def uptoBulkEntry {H : Type} : Lit × DataW H → Nat
  | (.string bytes, d) => bytes.length + uptoBulk d + 1
  | (_, d) => uptoBulk d + 1
 end
def uptoSmall : (H : Type) → List (DataW H) → Bool := fun _ ds => decide (uptoBulkAll ds ≤ 1048576)
def OpenSpec.upto (s : _root_.Go.ChangeSpec) : _root_.Go.OpenSpec := { _root_.Go.OpenSpec.ofChange s with cond := some uptoSmall }

/-- 'laws.FnExactSameParts', WHERE WHAT IT READS IS OF BULK AT MOST 1048576: true; the input reads as it did. -/
def fnExactSamePartsUptoRow : OpenClaim := { program := "ytdehpafflbhadaa", sum := "a5528df4f8e3a3187675f656c486868ff071a1f19e4db4f9235e6d32b1dd4e49", func := "loop.example/templateescaper/laws.FnExactSameParts", spec := "fnExactSameParts", recurses := true, loops := true, apart := false, narrowed := true }
def FnExactSamePartsUptoSaid : Prop := fnExactSamePartsUptoRow.holds Try.pinned (OpenSpec.upto fnExactSamePartsSpec)

/-- 'laws.FnExactTextsOf', WHERE WHAT IT READS IS OF BULK AT MOST 1048576: true; the input reads as it did. -/
def fnExactTextsOfUptoRow : OpenClaim := { program := "ytdehpafflbhadaa", sum := "a5528df4f8e3a3187675f656c486868ff071a1f19e4db4f9235e6d32b1dd4e49", func := "loop.example/templateescaper/laws.FnExactTextsOf", spec := "fnExactTextsOf", apart := false, narrowed := true }
def FnExactTextsOfUptoSaid : Prop := fnExactTextsOfUptoRow.holds Try.pinned (OpenSpec.upto fnExactTextsOfSpec)

/-- 'laws.FnExactPlaceOf', WHERE WHAT IT READS IS OF BULK AT MOST 1048576: true; the input reads as it did. -/
def fnExactPlaceOfUptoRow : OpenClaim := { program := "ytdehpafflbhadaa", sum := "a5528df4f8e3a3187675f656c486868ff071a1f19e4db4f9235e6d32b1dd4e49", func := "loop.example/templateescaper/laws.FnExactPlaceOf", spec := "fnExactPlaceOf", apart := false, narrowed := true }
def FnExactPlaceOfUptoSaid : Prop := fnExactPlaceOfUptoRow.holds Try.pinned (OpenSpec.upto fnExactPlaceOfSpec)

/-- 'laws.FnExactStateBehind', WHERE WHAT IT READS IS OF BULK AT MOST 1048576: true; the input reads as it did. -/
def fnExactStateBehindUptoRow : OpenClaim := { program := "ytdehpafflbhadaa", sum := "a5528df4f8e3a3187675f656c486868ff071a1f19e4db4f9235e6d32b1dd4e49", func := "loop.example/templateescaper/laws.FnExactStateBehind", spec := "fnExactStateBehind", apart := false, narrowed := true }
def FnExactStateBehindUptoSaid : Prop := fnExactStateBehindUptoRow.holds Try.pinned (OpenSpec.upto fnExactStateBehindSpec)

/-- 'laws.FnExactPairAllowed', WHERE WHAT IT READS IS OF BULK AT MOST 1048576: true; the input reads as it did. -/
def fnExactPairAllowedUptoRow : OpenClaim := { program := "ytdehpafflbhadaa", sum := "a5528df4f8e3a3187675f656c486868ff071a1f19e4db4f9235e6d32b1dd4e49", func := "loop.example/templateescaper/laws.FnExactPairAllowed", spec := "fnExactPairAllowed", inPlace := ["internal/bytealg.IndexByteString", "internal/bytealg.IndexString"], named := ["internal/bytealg.MaxLen"], apart := false, narrowed := true }
def FnExactPairAllowedUptoSaid : Prop := fnExactPairAllowedUptoRow.holds Try.pinned (OpenSpec.upto fnExactPairAllowedSpec)

/-- 'laws.FnPairAllowed', WHERE WHAT IT READS IS OF BULK AT MOST 1048576: true; the input reads as it did. -/
def fnPairAllowedUptoRow : OpenClaim := { program := "ytdehpafflbhadaa", sum := "a5528df4f8e3a3187675f656c486868ff071a1f19e4db4f9235e6d32b1dd4e49", func := "loop.example/templateescaper/laws.FnPairAllowed", spec := "fnPairAllowed", inPlace := ["internal/bytealg.IndexByteString", "internal/bytealg.IndexString"], named := ["internal/bytealg.MaxLen"], apart := false, narrowed := true }
def FnPairAllowedUptoSaid : Prop := fnPairAllowedUptoRow.holds Try.pinned (OpenSpec.upto fnPairAllowedSpec)

/-- 'laws.FnPlaceOf', WHERE WHAT IT READS IS OF BULK AT MOST 1048576: true; the input reads as it did. -/
def fnPlaceOfUptoRow : OpenClaim := { program := "ytdehpafflbhadaa", sum := "a5528df4f8e3a3187675f656c486868ff071a1f19e4db4f9235e6d32b1dd4e49", func := "loop.example/templateescaper/laws.FnPlaceOf", spec := "fnPlaceOf", apart := false, narrowed := true }
def FnPlaceOfUptoSaid : Prop := fnPlaceOfUptoRow.holds Try.pinned (OpenSpec.upto fnPlaceOfSpec)

/-- 'laws.FnExactUnescapeFor', WHERE WHAT IT READS IS OF BULK AT MOST 1048576: true; the input reads as it did. -/
def fnExactUnescapeForUptoRow : OpenClaim := { program := "ytdehpafflbhadaa", sum := "a5528df4f8e3a3187675f656c486868ff071a1f19e4db4f9235e6d32b1dd4e49", func := "loop.example/templateescaper/laws.FnExactUnescapeFor", spec := "fnExactUnescapeFor", inPlace := ["internal/abi.NoEscape", "internal/bytealg.IndexByteString"], apart := false, narrowed := true }
def FnExactUnescapeForUptoSaid : Prop := fnExactUnescapeForUptoRow.holds Try.pinned (OpenSpec.upto fnExactUnescapeForSpec)

/-- 'laws.FnStateBehind', WHERE WHAT IT READS IS OF BULK AT MOST 1048576: true; the input reads as it did. -/
def fnStateBehindUptoRow : OpenClaim := { program := "ytdehpafflbhadaa", sum := "a5528df4f8e3a3187675f656c486868ff071a1f19e4db4f9235e6d32b1dd4e49", func := "loop.example/templateescaper/laws.FnStateBehind", spec := "fnStateBehind", apart := false, narrowed := true }
def FnStateBehindUptoSaid : Prop := fnStateBehindUptoRow.holds Try.pinned (OpenSpec.upto fnStateBehindSpec)

/-- 'laws.FnExactDeepestPart', WHERE WHAT IT READS IS OF BULK AT MOST 1048576: true; the input reads as it did. -/
def fnExactDeepestPartUptoRow : OpenClaim := { program := "ytdehpafflbhadaa", sum := "a5528df4f8e3a3187675f656c486868ff071a1f19e4db4f9235e6d32b1dd4e49", func := "loop.example/templateescaper/laws.FnExactDeepestPart", spec := "fnExactDeepestPart", inPlace := ["internal/bytealg.IndexByteString", "internal/bytealg.IndexString"], recurses := true, named := ["internal/bytealg.MaxLen"], loops := true, apart := false, narrowed := true }
def FnExactDeepestPartUptoSaid : Prop := fnExactDeepestPartUptoRow.holds Try.pinned (OpenSpec.upto fnExactDeepestPartSpec)

/-- 'laws.FnSameParts', WHERE WHAT IT READS IS OF BULK AT MOST 1048576: true; the input reads as it did. -/
def fnSamePartsUptoRow : OpenClaim := { program := "ytdehpafflbhadaa", sum := "a5528df4f8e3a3187675f656c486868ff071a1f19e4db4f9235e6d32b1dd4e49", func := "loop.example/templateescaper/laws.FnSameParts", spec := "fnSameParts", inPlace := ["internal/bytealg.IndexByteString", "internal/bytealg.IndexString"], recurses := true, named := ["internal/bytealg.MaxLen"], apart := false, narrowed := true }
def FnSamePartsUptoSaid : Prop := fnSamePartsUptoRow.holds Try.pinned (OpenSpec.upto fnSamePartsSpec)

/-- 'laws.FnDeepestPart', WHERE WHAT IT READS IS OF BULK AT MOST 1048576: true; the input reads as it did. -/
def fnDeepestPartUptoRow : OpenClaim := { program := "ytdehpafflbhadaa", sum := "a5528df4f8e3a3187675f656c486868ff071a1f19e4db4f9235e6d32b1dd4e49", func := "loop.example/templateescaper/laws.FnDeepestPart", spec := "fnDeepestPart", inPlace := ["internal/bytealg.IndexByteString", "internal/bytealg.IndexString"], recurses := true, named := ["internal/bytealg.MaxLen"], apart := false, narrowed := true }
def FnDeepestPartUptoSaid : Prop := fnDeepestPartUptoRow.holds Try.pinned (OpenSpec.upto fnDeepestPartSpec)

end Rows
end Go.Proofs.Ytdehpafflbhadaa
