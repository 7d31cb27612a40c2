/-
  NARROWER THAN 'FOR EVERY INPUT', by the rows' own cells (each row's printed sentence says how): FnExactOutlineOf: loops · FnExactTemplateSafe: loops · FnExactTemplateFault: loops · FnExactCheckParts: loops.
  DERIVED. THE GIVEN ROWS OF THIS SEAT. 16 by the template 'for every input the law returns true; each argument reads behind the call as it read before'; 0 by the template 'total and deterministic' (their statements: YtcagfbgplpokkaaTotals.lean).
  GIVEN WITH THE SEED: the statements are not yours to turn. If you find one false, say at which input.
  Laid BY PROGRAM, IN A SANDBOX (cutbox-rows.mjs): the forced cells as the released guide's own fill.sh prints them over the translation 45c05ec2a4479f3f… (all of the seat's roots in one cut). By AI agents, Wed Nov 11 2026. No macro, syntax, notation, axiom, sorry.
-/
import Derived.Test.YtcagfbgplpokkaaChecked
import GoSem.Claim
import GoSem.ClaimJoined
import GoSem.ClaimMapViews
import Derived.JoinedTies
import Derived.KernelRfl
namespace Go.Proofs.Ytcagfbgplpokkaa
/- THE CELL 'sum', in the pinned program and in every row, IS THE sha256 OF THE DUMP (.gsa) THAT YtcagfbgplpokkaaProg.lean LOADS. Nothing in Lean hashes anything: it is a label: what it is worth is what the hold of that sum in a sandbox is worth. -/
noncomputable def Try.pinned : Pinned := { name := "ytcagfbgplpokkaa", sum := "45c05ec2a4479f3f131196691b9ec30c856d78e3c78dc94b980c0e1748b1004f", checked := Try.checked }
namespace Rows
def none {H : Type} : Left H := { results := [], args := [] }

/-- 'laws.FnExactTextsOf': WHATEVER THE INPUT: true; the input reads as it did. -/
def fnExactTextsOfSpec : ChangeSpec := { name := "fnExactTextsOf", fn := fun _ => fun
  | [d1, d2] => { results := [.lit (.bool true)], args := [d1, d2] }
  | _ => none }
def fnExactTextsOfRow : OpenClaim := { program := "ytcagfbgplpokkaa", sum := "45c05ec2a4479f3f131196691b9ec30c856d78e3c78dc94b980c0e1748b1004f", func := "loop.example/templateescaper/laws.FnExactTextsOf", spec := "fnExactTextsOf", apart := false }
def FnExactTextsOfSaid : Prop := fnExactTextsOfRow.holds Try.pinned (OpenSpec.ofChange fnExactTextsOfSpec)

/-- ITS FALSE NEIGHBOUR: 'it returns false'. Refute it at one input. -/
def fnExactTextsOfWrong : ChangeSpec := { name := "fnExactTextsOf", fn := fun _ => fun
  | [d1, d2] => { results := [.lit (.bool false)], args := [d1, d2] }
  | _ => none }
def FnExactTextsOfWrongFalsely : Prop := fnExactTextsOfRow.holds Try.pinned (OpenSpec.ofChange fnExactTextsOfWrong)

/-- 'laws.FnExactPairAllowed': WHATEVER THE INPUT: true; the input reads as it did. -/
def fnExactPairAllowedSpec : ChangeSpec := { name := "fnExactPairAllowed", fn := fun _ => fun
  | [d1, d2] => { results := [.lit (.bool true)], args := [d1, d2] }
  | _ => none }
def fnExactPairAllowedRow : OpenClaim := { program := "ytcagfbgplpokkaa", sum := "45c05ec2a4479f3f131196691b9ec30c856d78e3c78dc94b980c0e1748b1004f", func := "loop.example/templateescaper/laws.FnExactPairAllowed", spec := "fnExactPairAllowed", inPlace := ["internal/bytealg.IndexByteString", "internal/bytealg.IndexString"], named := ["internal/bytealg.MaxLen"], apart := false }
def FnExactPairAllowedSaid : Prop := fnExactPairAllowedRow.holds Try.pinned (OpenSpec.ofChange fnExactPairAllowedSpec)

/-- ITS FALSE NEIGHBOUR: 'it returns false'. Refute it at one input. -/
def fnExactPairAllowedWrong : ChangeSpec := { name := "fnExactPairAllowed", fn := fun _ => fun
  | [d1, d2] => { results := [.lit (.bool false)], args := [d1, d2] }
  | _ => none }
def FnExactPairAllowedWrongFalsely : Prop := fnExactPairAllowedRow.holds Try.pinned (OpenSpec.ofChange fnExactPairAllowedWrong)

/-- 'laws.FnPairAllowed': WHATEVER THE INPUT: true; the input reads as it did. -/
def fnPairAllowedSpec : ChangeSpec := { name := "fnPairAllowed", fn := fun _ => fun
  | [d] => { results := [.lit (.bool true)], args := [d] }
  | _ => none }
def fnPairAllowedRow : OpenClaim := { program := "ytcagfbgplpokkaa", sum := "45c05ec2a4479f3f131196691b9ec30c856d78e3c78dc94b980c0e1748b1004f", func := "loop.example/templateescaper/laws.FnPairAllowed", spec := "fnPairAllowed", inPlace := ["internal/bytealg.IndexByteString", "internal/bytealg.IndexString"], named := ["internal/bytealg.MaxLen"], apart := false }
def FnPairAllowedSaid : Prop := fnPairAllowedRow.holds Try.pinned (OpenSpec.ofChange fnPairAllowedSpec)

/-- ITS FALSE NEIGHBOUR: 'it returns false'. Refute it at one input. -/
def fnPairAllowedWrong : ChangeSpec := { name := "fnPairAllowed", fn := fun _ => fun
  | [d] => { results := [.lit (.bool false)], args := [d] }
  | _ => none }
def FnPairAllowedWrongFalsely : Prop := fnPairAllowedRow.holds Try.pinned (OpenSpec.ofChange fnPairAllowedWrong)

/-- 'laws.FnStateBehind': WHATEVER THE INPUT: true; the input reads as it did. -/
def fnStateBehindSpec : ChangeSpec := { name := "fnStateBehind", fn := fun _ => fun
  | [d] => { results := [.lit (.bool true)], args := [d] }
  | _ => none }
def fnStateBehindRow : OpenClaim := { program := "ytcagfbgplpokkaa", sum := "45c05ec2a4479f3f131196691b9ec30c856d78e3c78dc94b980c0e1748b1004f", func := "loop.example/templateescaper/laws.FnStateBehind", spec := "fnStateBehind", apart := false }
def FnStateBehindSaid : Prop := fnStateBehindRow.holds Try.pinned (OpenSpec.ofChange fnStateBehindSpec)

/-- ITS FALSE NEIGHBOUR: 'it returns false'. Refute it at one input. -/
def fnStateBehindWrong : ChangeSpec := { name := "fnStateBehind", fn := fun _ => fun
  | [d] => { results := [.lit (.bool false)], args := [d] }
  | _ => none }
def FnStateBehindWrongFalsely : Prop := fnStateBehindRow.holds Try.pinned (OpenSpec.ofChange fnStateBehindWrong)

/-- 'laws.FnExactEscapeFor': WHATEVER THE INPUT: true; the input reads as it did. -/
def fnExactEscapeForSpec : ChangeSpec := { name := "fnExactEscapeFor", fn := fun _ => fun
  | [d1, d2] => { results := [.lit (.bool true)], args := [d1, d2] }
  | _ => none }
def fnExactEscapeForRow : OpenClaim := { program := "ytcagfbgplpokkaa", sum := "45c05ec2a4479f3f131196691b9ec30c856d78e3c78dc94b980c0e1748b1004f", func := "loop.example/templateescaper/laws.FnExactEscapeFor", spec := "fnExactEscapeFor", inPlace := ["internal/abi.NoEscape", "internal/bytealg.IndexByteString", "internal/bytealg.IndexString"], named := ["internal/bytealg.MaxLen"], apart := false }
def FnExactEscapeForSaid : Prop := fnExactEscapeForRow.holds Try.pinned (OpenSpec.ofChange fnExactEscapeForSpec)

/-- ITS FALSE NEIGHBOUR: 'it returns false'. Refute it at one input. -/
def fnExactEscapeForWrong : ChangeSpec := { name := "fnExactEscapeFor", fn := fun _ => fun
  | [d1, d2] => { results := [.lit (.bool false)], args := [d1, d2] }
  | _ => none }
def FnExactEscapeForWrongFalsely : Prop := fnExactEscapeForRow.holds Try.pinned (OpenSpec.ofChange fnExactEscapeForWrong)

/-- 'laws.FnExactOutlineOf': WHATEVER THE INPUT: true; the input reads as it did. -/
def fnExactOutlineOfSpec : ChangeSpec := { name := "fnExactOutlineOf", fn := fun _ => fun
  | [d] => { results := [.lit (.bool true)], args := [d] }
  | _ => none }
def fnExactOutlineOfRow : OpenClaim := { program := "ytcagfbgplpokkaa", sum := "45c05ec2a4479f3f131196691b9ec30c856d78e3c78dc94b980c0e1748b1004f", func := "loop.example/templateescaper/laws.FnExactOutlineOf", spec := "fnExactOutlineOf", inPlace := ["internal/bytealg.IndexByteString", "internal/bytealg.IndexString"], recurses := true, named := ["internal/bytealg.MaxLen"], loops := true, apart := false }
def FnExactOutlineOfSaid : Prop := fnExactOutlineOfRow.holds Try.pinned (OpenSpec.ofChange fnExactOutlineOfSpec)

/-- ITS FALSE NEIGHBOUR: 'it returns false'. Refute it at one input. -/
def fnExactOutlineOfWrong : ChangeSpec := { name := "fnExactOutlineOf", fn := fun _ => fun
  | [d] => { results := [.lit (.bool false)], args := [d] }
  | _ => none }
def FnExactOutlineOfWrongFalsely : Prop := fnExactOutlineOfRow.holds Try.pinned (OpenSpec.ofChange fnExactOutlineOfWrong)

/-- 'laws.FnEscapeFor': WHATEVER THE INPUT: true; the input reads as it did. -/
def fnEscapeForSpec : ChangeSpec := { name := "fnEscapeFor", fn := fun _ => fun
  | [d] => { results := [.lit (.bool true)], args := [d] }
  | _ => none }
def fnEscapeForRow : OpenClaim := { program := "ytcagfbgplpokkaa", sum := "45c05ec2a4479f3f131196691b9ec30c856d78e3c78dc94b980c0e1748b1004f", func := "loop.example/templateescaper/laws.FnEscapeFor", spec := "fnEscapeFor", inPlace := ["internal/abi.NoEscape", "internal/bytealg.IndexByteString", "internal/bytealg.IndexString"], named := ["internal/bytealg.MaxLen"], apart := false }
def FnEscapeForSaid : Prop := fnEscapeForRow.holds Try.pinned (OpenSpec.ofChange fnEscapeForSpec)

/-- ITS FALSE NEIGHBOUR: 'it returns false'. Refute it at one input. -/
def fnEscapeForWrong : ChangeSpec := { name := "fnEscapeFor", fn := fun _ => fun
  | [d] => { results := [.lit (.bool false)], args := [d] }
  | _ => none }
def FnEscapeForWrongFalsely : Prop := fnEscapeForRow.holds Try.pinned (OpenSpec.ofChange fnEscapeForWrong)

/-- 'laws.FnUnescapeFor': WHATEVER THE INPUT: true; the input reads as it did. -/
def fnUnescapeForSpec : ChangeSpec := { name := "fnUnescapeFor", fn := fun _ => fun
  | [d] => { results := [.lit (.bool true)], args := [d] }
  | _ => none }
def fnUnescapeForRow : OpenClaim := { program := "ytcagfbgplpokkaa", sum := "45c05ec2a4479f3f131196691b9ec30c856d78e3c78dc94b980c0e1748b1004f", func := "loop.example/templateescaper/laws.FnUnescapeFor", spec := "fnUnescapeFor", inPlace := ["internal/abi.NoEscape", "internal/bytealg.IndexByteString", "internal/bytealg.IndexString"], named := ["internal/bytealg.MaxLen"], apart := false }
def FnUnescapeForSaid : Prop := fnUnescapeForRow.holds Try.pinned (OpenSpec.ofChange fnUnescapeForSpec)

/-- ITS FALSE NEIGHBOUR: 'it returns false'. Refute it at one input. -/
def fnUnescapeForWrong : ChangeSpec := { name := "fnUnescapeFor", fn := fun _ => fun
  | [d] => { results := [.lit (.bool false)], args := [d] }
  | _ => none }
def FnUnescapeForWrongFalsely : Prop := fnUnescapeForRow.holds Try.pinned (OpenSpec.ofChange fnUnescapeForWrong)

/-- 'laws.FnExactTemplateSafe': WHATEVER THE INPUT: true; the input reads as it did. -/
def fnExactTemplateSafeSpec : ChangeSpec := { name := "fnExactTemplateSafe", fn := fun _ => fun
  | [d] => { results := [.lit (.bool true)], args := [d] }
  | _ => none }
def fnExactTemplateSafeRow : OpenClaim := { program := "ytcagfbgplpokkaa", sum := "45c05ec2a4479f3f131196691b9ec30c856d78e3c78dc94b980c0e1748b1004f", func := "loop.example/templateescaper/laws.FnExactTemplateSafe", spec := "fnExactTemplateSafe", inPlace := ["internal/bytealg.IndexByteString", "internal/bytealg.IndexString"], recurses := true, named := ["internal/bytealg.MaxLen"], loops := true, apart := false }
def FnExactTemplateSafeSaid : Prop := fnExactTemplateSafeRow.holds Try.pinned (OpenSpec.ofChange fnExactTemplateSafeSpec)

/-- ITS FALSE NEIGHBOUR: 'it returns false'. Refute it at one input. -/
def fnExactTemplateSafeWrong : ChangeSpec := { name := "fnExactTemplateSafe", fn := fun _ => fun
  | [d] => { results := [.lit (.bool false)], args := [d] }
  | _ => none }
def FnExactTemplateSafeWrongFalsely : Prop := fnExactTemplateSafeRow.holds Try.pinned (OpenSpec.ofChange fnExactTemplateSafeWrong)

/-- 'laws.FnExactTemplateFault': WHATEVER THE INPUT: true; the input reads as it did. -/
def fnExactTemplateFaultSpec : ChangeSpec := { name := "fnExactTemplateFault", fn := fun _ => fun
  | [d] => { results := [.lit (.bool true)], args := [d] }
  | _ => none }
def fnExactTemplateFaultRow : OpenClaim := { program := "ytcagfbgplpokkaa", sum := "45c05ec2a4479f3f131196691b9ec30c856d78e3c78dc94b980c0e1748b1004f", func := "loop.example/templateescaper/laws.FnExactTemplateFault", spec := "fnExactTemplateFault", inPlace := ["internal/bytealg.IndexByteString", "internal/bytealg.IndexString"], recurses := true, named := ["internal/bytealg.MaxLen"], loops := true, apart := false }
def FnExactTemplateFaultSaid : Prop := fnExactTemplateFaultRow.holds Try.pinned (OpenSpec.ofChange fnExactTemplateFaultSpec)

/-- ITS FALSE NEIGHBOUR: 'it returns false'. Refute it at one input. -/
def fnExactTemplateFaultWrong : ChangeSpec := { name := "fnExactTemplateFault", fn := fun _ => fun
  | [d] => { results := [.lit (.bool false)], args := [d] }
  | _ => none }
def FnExactTemplateFaultWrongFalsely : Prop := fnExactTemplateFaultRow.holds Try.pinned (OpenSpec.ofChange fnExactTemplateFaultWrong)

/-- 'laws.FnExactCheckParts': WHATEVER THE INPUT: true; the input reads as it did. -/
def fnExactCheckPartsSpec : ChangeSpec := { name := "fnExactCheckParts", fn := fun _ => fun
  | [d1, d2] => { results := [.lit (.bool true)], args := [d1, d2] }
  | _ => none }
def fnExactCheckPartsRow : OpenClaim := { program := "ytcagfbgplpokkaa", sum := "45c05ec2a4479f3f131196691b9ec30c856d78e3c78dc94b980c0e1748b1004f", func := "loop.example/templateescaper/laws.FnExactCheckParts", spec := "fnExactCheckParts", inPlace := ["internal/bytealg.IndexByteString", "internal/bytealg.IndexString"], recurses := true, named := ["internal/bytealg.MaxLen"], loops := true, apart := false }
def FnExactCheckPartsSaid : Prop := fnExactCheckPartsRow.holds Try.pinned (OpenSpec.ofChange fnExactCheckPartsSpec)

/-- ITS FALSE NEIGHBOUR: 'it returns false'. Refute it at one input. -/
def fnExactCheckPartsWrong : ChangeSpec := { name := "fnExactCheckParts", fn := fun _ => fun
  | [d1, d2] => { results := [.lit (.bool false)], args := [d1, d2] }
  | _ => none }
def FnExactCheckPartsWrongFalsely : Prop := fnExactCheckPartsRow.holds Try.pinned (OpenSpec.ofChange fnExactCheckPartsWrong)

/-- 'laws.FnExactKeepsPlace': WHATEVER THE INPUT: true; the input reads as it did. -/
def fnExactKeepsPlaceSpec : ChangeSpec := { name := "fnExactKeepsPlace", fn := fun _ => fun
  | [d1, d2] => { results := [.lit (.bool true)], args := [d1, d2] }
  | _ => none }
def fnExactKeepsPlaceRow : OpenClaim := { program := "ytcagfbgplpokkaa", sum := "45c05ec2a4479f3f131196691b9ec30c856d78e3c78dc94b980c0e1748b1004f", func := "loop.example/templateescaper/laws.FnExactKeepsPlace", spec := "fnExactKeepsPlace", inPlace := ["internal/abi.NoEscape", "internal/bytealg.IndexByteString", "internal/bytealg.IndexString"], named := ["internal/bytealg.MaxLen"], apart := false }
def FnExactKeepsPlaceSaid : Prop := fnExactKeepsPlaceRow.holds Try.pinned (OpenSpec.ofChange fnExactKeepsPlaceSpec)

/-- ITS FALSE NEIGHBOUR: 'it returns false'. Refute it at one input. -/
def fnExactKeepsPlaceWrong : ChangeSpec := { name := "fnExactKeepsPlace", fn := fun _ => fun
  | [d1, d2] => { results := [.lit (.bool false)], args := [d1, d2] }
  | _ => none }
def FnExactKeepsPlaceWrongFalsely : Prop := fnExactKeepsPlaceRow.holds Try.pinned (OpenSpec.ofChange fnExactKeepsPlaceWrong)

/-- 'laws.FnCheckParts': WHATEVER THE INPUT: true; the input reads as it did. -/
def fnCheckPartsSpec : ChangeSpec := { name := "fnCheckParts", fn := fun _ => fun
  | [d] => { results := [.lit (.bool true)], args := [d] }
  | _ => none }
def fnCheckPartsRow : OpenClaim := { program := "ytcagfbgplpokkaa", sum := "45c05ec2a4479f3f131196691b9ec30c856d78e3c78dc94b980c0e1748b1004f", func := "loop.example/templateescaper/laws.FnCheckParts", spec := "fnCheckParts", inPlace := ["internal/bytealg.IndexByteString", "internal/bytealg.IndexString"], recurses := true, named := ["internal/bytealg.MaxLen"], apart := false }
def FnCheckPartsSaid : Prop := fnCheckPartsRow.holds Try.pinned (OpenSpec.ofChange fnCheckPartsSpec)

/-- ITS FALSE NEIGHBOUR: 'it returns false'. Refute it at one input. -/
def fnCheckPartsWrong : ChangeSpec := { name := "fnCheckParts", fn := fun _ => fun
  | [d] => { results := [.lit (.bool false)], args := [d] }
  | _ => none }
def FnCheckPartsWrongFalsely : Prop := fnCheckPartsRow.holds Try.pinned (OpenSpec.ofChange fnCheckPartsWrong)

/-- 'laws.FnTemplateSafe': WHATEVER THE INPUT: true; the input reads as it did. -/
def fnTemplateSafeSpec : ChangeSpec := { name := "fnTemplateSafe", fn := fun _ => fun
  | [d] => { results := [.lit (.bool true)], args := [d] }
  | _ => none }
def fnTemplateSafeRow : OpenClaim := { program := "ytcagfbgplpokkaa", sum := "45c05ec2a4479f3f131196691b9ec30c856d78e3c78dc94b980c0e1748b1004f", func := "loop.example/templateescaper/laws.FnTemplateSafe", spec := "fnTemplateSafe", inPlace := ["internal/bytealg.IndexByteString", "internal/bytealg.IndexString"], recurses := true, named := ["internal/bytealg.MaxLen"], apart := false }
def FnTemplateSafeSaid : Prop := fnTemplateSafeRow.holds Try.pinned (OpenSpec.ofChange fnTemplateSafeSpec)

/-- ITS FALSE NEIGHBOUR: 'it returns false'. Refute it at one input. -/
def fnTemplateSafeWrong : ChangeSpec := { name := "fnTemplateSafe", fn := fun _ => fun
  | [d] => { results := [.lit (.bool false)], args := [d] }
  | _ => none }
def FnTemplateSafeWrongFalsely : Prop := fnTemplateSafeRow.holds Try.pinned (OpenSpec.ofChange fnTemplateSafeWrong)

/-- 'laws.FnKeepsPlace': WHATEVER THE INPUT: true; the input reads as it did. -/
def fnKeepsPlaceSpec : ChangeSpec := { name := "fnKeepsPlace", fn := fun _ => fun
  | [d] => { results := [.lit (.bool true)], args := [d] }
  | _ => none }
def fnKeepsPlaceRow : OpenClaim := { program := "ytcagfbgplpokkaa", sum := "45c05ec2a4479f3f131196691b9ec30c856d78e3c78dc94b980c0e1748b1004f", func := "loop.example/templateescaper/laws.FnKeepsPlace", spec := "fnKeepsPlace", inPlace := ["internal/abi.NoEscape", "internal/bytealg.IndexByteString", "internal/bytealg.IndexString"], named := ["internal/bytealg.MaxLen"], apart := false }
def FnKeepsPlaceSaid : Prop := fnKeepsPlaceRow.holds Try.pinned (OpenSpec.ofChange fnKeepsPlaceSpec)

/-- ITS FALSE NEIGHBOUR: 'it returns false'. Refute it at one input. -/
def fnKeepsPlaceWrong : ChangeSpec := { name := "fnKeepsPlace", fn := fun _ => fun
  | [d] => { results := [.lit (.bool false)], args := [d] }
  | _ => none }
def FnKeepsPlaceWrongFalsely : Prop := fnKeepsPlaceRow.holds Try.pinned (OpenSpec.ofChange fnKeepsPlaceWrong)

/-- 'laws.FnTemplateFault': WHATEVER THE INPUT: true; the input reads as it did. -/
def fnTemplateFaultSpec : ChangeSpec := { name := "fnTemplateFault", fn := fun _ => fun
  | [d] => { results := [.lit (.bool true)], args := [d] }
  | _ => none }
def fnTemplateFaultRow : OpenClaim := { program := "ytcagfbgplpokkaa", sum := "45c05ec2a4479f3f131196691b9ec30c856d78e3c78dc94b980c0e1748b1004f", func := "loop.example/templateescaper/laws.FnTemplateFault", spec := "fnTemplateFault", inPlace := ["internal/bytealg.IndexByteString", "internal/bytealg.IndexString"], recurses := true, named := ["internal/bytealg.MaxLen"], apart := false }
def FnTemplateFaultSaid : Prop := fnTemplateFaultRow.holds Try.pinned (OpenSpec.ofChange fnTemplateFaultSpec)

/-- ITS FALSE NEIGHBOUR: 'it returns false'. Refute it at one input. -/
def fnTemplateFaultWrong : ChangeSpec := { name := "fnTemplateFault", fn := fun _ => fun
  | [d] => { results := [.lit (.bool false)], args := [d] }
  | _ => none }
def FnTemplateFaultWrongFalsely : Prop := fnTemplateFaultRow.holds Try.pinned (OpenSpec.ofChange fnTemplateFaultWrong)

/- THE SECOND FORM. 'bulk': how many values and letters a reading holds, each counted each time it is reached (what is shared counts as often as it is met; a slice's spare places count too). A statement '..UptoSaid' is the law's where the arguments, and the package variables that the reading takes, are together of bulk at most 1048576: NARROWER than '..Said'. Prove '..Said' where nothing that the law and all that it calls make is longer than what came in: it says more and counts as full. Else prove '..UptoSaid'. A law counts once. -/
mutual
def uptoBulk {H : Type} : DataW H → Nat
  | .lit (.string bytes) => bytes.length + 1
  | .lit _ => 1
  | .nil => 1
  | .ptr d => uptoBulk d + 1
  | .slice elems spare => uptoBulkAll elems + uptoBulkAll spare + 1
  | .agg parts => uptoBulkAll parts + 1
  | .iface _ d => uptoBulk d + 1
  | .map entries => uptoBulkEntries entries + 1
  | .held _ => 1
def uptoBulkAll {H : Type} : List (DataW H) → Nat
  | [] => 0
  | d :: r => uptoBulk d + uptoBulkAll r
def uptoBulkEntries {H : Type} : List (Lit × DataW H) → Nat
  | [] => 0
  | x :: r => uptoBulkEntry x + uptoBulkEntries r
def uptoBulkEntry {H : Type} : Lit × DataW H → Nat
  | (.string bytes, d) => bytes.length + uptoBulk d + 1
  | (_, d) => uptoBulk d + 1
 end
def uptoSmall : (H : Type) → List (DataW H) → Bool := fun _ ds => decide (uptoBulkAll ds ≤ 1048576)
def OpenSpec.upto (s : _root_.Go.ChangeSpec) : _root_.Go.OpenSpec := { _root_.Go.OpenSpec.ofChange s with cond := some uptoSmall }

/-- 'laws.FnExactTextsOf', WHERE WHAT IT READS IS OF BULK AT MOST 1048576: true; the input reads as it did. -/
def fnExactTextsOfUptoRow : OpenClaim := { program := "ytcagfbgplpokkaa", sum := "45c05ec2a4479f3f131196691b9ec30c856d78e3c78dc94b980c0e1748b1004f", func := "loop.example/templateescaper/laws.FnExactTextsOf", spec := "fnExactTextsOf", apart := false, narrowed := true }
def FnExactTextsOfUptoSaid : Prop := fnExactTextsOfUptoRow.holds Try.pinned (OpenSpec.upto fnExactTextsOfSpec)

/-- 'laws.FnExactPairAllowed', WHERE WHAT IT READS IS OF BULK AT MOST 1048576: true; the input reads as it did. -/
def fnExactPairAllowedUptoRow : OpenClaim := { program := "ytcagfbgplpokkaa", sum := "45c05ec2a4479f3f131196691b9ec30c856d78e3c78dc94b980c0e1748b1004f", func := "loop.example/templateescaper/laws.FnExactPairAllowed", spec := "fnExactPairAllowed", inPlace := ["internal/bytealg.IndexByteString", "internal/bytealg.IndexString"], named := ["internal/bytealg.MaxLen"], apart := false, narrowed := true }
def FnExactPairAllowedUptoSaid : Prop := fnExactPairAllowedUptoRow.holds Try.pinned (OpenSpec.upto fnExactPairAllowedSpec)

/-- 'laws.FnPairAllowed', WHERE WHAT IT READS IS OF BULK AT MOST 1048576: true; the input reads as it did. -/
def fnPairAllowedUptoRow : OpenClaim := { program := "ytcagfbgplpokkaa", sum := "45c05ec2a4479f3f131196691b9ec30c856d78e3c78dc94b980c0e1748b1004f", func := "loop.example/templateescaper/laws.FnPairAllowed", spec := "fnPairAllowed", inPlace := ["internal/bytealg.IndexByteString", "internal/bytealg.IndexString"], named := ["internal/bytealg.MaxLen"], apart := false, narrowed := true }
def FnPairAllowedUptoSaid : Prop := fnPairAllowedUptoRow.holds Try.pinned (OpenSpec.upto fnPairAllowedSpec)

/-- 'laws.FnStateBehind', WHERE WHAT IT READS IS OF BULK AT MOST 1048576: true; the input reads as it did. -/
def fnStateBehindUptoRow : OpenClaim := { program := "ytcagfbgplpokkaa", sum := "45c05ec2a4479f3f131196691b9ec30c856d78e3c78dc94b980c0e1748b1004f", func := "loop.example/templateescaper/laws.FnStateBehind", spec := "fnStateBehind", apart := false, narrowed := true }
def FnStateBehindUptoSaid : Prop := fnStateBehindUptoRow.holds Try.pinned (OpenSpec.upto fnStateBehindSpec)

/-- 'laws.FnExactEscapeFor', WHERE WHAT IT READS IS OF BULK AT MOST 1048576: true; the input reads as it did. -/
def fnExactEscapeForUptoRow : OpenClaim := { program := "ytcagfbgplpokkaa", sum := "45c05ec2a4479f3f131196691b9ec30c856d78e3c78dc94b980c0e1748b1004f", func := "loop.example/templateescaper/laws.FnExactEscapeFor", spec := "fnExactEscapeFor", inPlace := ["internal/abi.NoEscape", "internal/bytealg.IndexByteString", "internal/bytealg.IndexString"], named := ["internal/bytealg.MaxLen"], apart := false, narrowed := true }
def FnExactEscapeForUptoSaid : Prop := fnExactEscapeForUptoRow.holds Try.pinned (OpenSpec.upto fnExactEscapeForSpec)

/-- 'laws.FnExactOutlineOf', WHERE WHAT IT READS IS OF BULK AT MOST 1048576: true; the input reads as it did. -/
def fnExactOutlineOfUptoRow : OpenClaim := { program := "ytcagfbgplpokkaa", sum := "45c05ec2a4479f3f131196691b9ec30c856d78e3c78dc94b980c0e1748b1004f", func := "loop.example/templateescaper/laws.FnExactOutlineOf", spec := "fnExactOutlineOf", inPlace := ["internal/bytealg.IndexByteString", "internal/bytealg.IndexString"], recurses := true, named := ["internal/bytealg.MaxLen"], loops := true, apart := false, narrowed := true }
def FnExactOutlineOfUptoSaid : Prop := fnExactOutlineOfUptoRow.holds Try.pinned (OpenSpec.upto fnExactOutlineOfSpec)

/-- 'laws.FnEscapeFor', WHERE WHAT IT READS IS OF BULK AT MOST 1048576: true; the input reads as it did. -/
def fnEscapeForUptoRow : OpenClaim := { program := "ytcagfbgplpokkaa", sum := "45c05ec2a4479f3f131196691b9ec30c856d78e3c78dc94b980c0e1748b1004f", func := "loop.example/templateescaper/laws.FnEscapeFor", spec := "fnEscapeFor", inPlace := ["internal/abi.NoEscape", "internal/bytealg.IndexByteString", "internal/bytealg.IndexString"], named := ["internal/bytealg.MaxLen"], apart := false, narrowed := true }
def FnEscapeForUptoSaid : Prop := fnEscapeForUptoRow.holds Try.pinned (OpenSpec.upto fnEscapeForSpec)

/-- 'laws.FnUnescapeFor', WHERE WHAT IT READS IS OF BULK AT MOST 1048576: true; the input reads as it did. -/
def fnUnescapeForUptoRow : OpenClaim := { program := "ytcagfbgplpokkaa", sum := "45c05ec2a4479f3f131196691b9ec30c856d78e3c78dc94b980c0e1748b1004f", func := "loop.example/templateescaper/laws.FnUnescapeFor", spec := "fnUnescapeFor", inPlace := ["internal/abi.NoEscape", "internal/bytealg.IndexByteString", "internal/bytealg.IndexString"], named := ["internal/bytealg.MaxLen"], apart := false, narrowed := true }
def FnUnescapeForUptoSaid : Prop := fnUnescapeForUptoRow.holds Try.pinned (OpenSpec.upto fnUnescapeForSpec)

/-- 'laws.FnExactTemplateSafe', WHERE WHAT IT READS IS OF BULK AT MOST 1048576: true; the input reads as it did. -/
def fnExactTemplateSafeUptoRow : OpenClaim := { program := "ytcagfbgplpokkaa", sum := "45c05ec2a4479f3f131196691b9ec30c856d78e3c78dc94b980c0e1748b1004f", func := "loop.example/templateescaper/laws.FnExactTemplateSafe", spec := "fnExactTemplateSafe", inPlace := ["internal/bytealg.IndexByteString", "internal/bytealg.IndexString"], recurses := true, named := ["internal/bytealg.MaxLen"], loops := true, apart := false, narrowed := true }
def FnExactTemplateSafeUptoSaid : Prop := fnExactTemplateSafeUptoRow.holds Try.pinned (OpenSpec.upto fnExactTemplateSafeSpec)

/-- 'laws.FnExactTemplateFault', WHERE WHAT IT READS IS OF BULK AT MOST 1048576: true; the input reads as it did. -/
def fnExactTemplateFaultUptoRow : OpenClaim := { program := "ytcagfbgplpokkaa", sum := "45c05ec2a4479f3f131196691b9ec30c856d78e3c78dc94b980c0e1748b1004f", func := "loop.example/templateescaper/laws.FnExactTemplateFault", spec := "fnExactTemplateFault", inPlace := ["internal/bytealg.IndexByteString", "internal/bytealg.IndexString"], recurses := true, named := ["internal/bytealg.MaxLen"], loops := true, apart := false, narrowed := true }
def FnExactTemplateFaultUptoSaid : Prop := fnExactTemplateFaultUptoRow.holds Try.pinned (OpenSpec.upto fnExactTemplateFaultSpec)

/-- 'laws.FnExactCheckParts', WHERE WHAT IT READS IS OF BULK AT MOST 1048576: true; the input reads as it did. -/
def fnExactCheckPartsUptoRow : OpenClaim := { program := "ytcagfbgplpokkaa", sum := "45c05ec2a4479f3f131196691b9ec30c856d78e3c78dc94b980c0e1748b1004f", func := "loop.example/templateescaper/laws.FnExactCheckParts", spec := "fnExactCheckParts", inPlace := ["internal/bytealg.IndexByteString", "internal/bytealg.IndexString"], recurses := true, named := ["internal/bytealg.MaxLen"], loops := true, apart := false, narrowed := true }
def FnExactCheckPartsUptoSaid : Prop := fnExactCheckPartsUptoRow.holds Try.pinned (OpenSpec.upto fnExactCheckPartsSpec)

/-- 'laws.FnExactKeepsPlace', WHERE WHAT IT READS IS OF BULK AT MOST 1048576: true; the input reads as it did. -/
def fnExactKeepsPlaceUptoRow : OpenClaim := { program := "ytcagfbgplpokkaa", sum := "45c05ec2a4479f3f131196691b9ec30c856d78e3c78dc94b980c0e1748b1004f", func := "loop.example/templateescaper/laws.FnExactKeepsPlace", spec := "fnExactKeepsPlace", inPlace := ["internal/abi.NoEscape", "internal/bytealg.IndexByteString", "internal/bytealg.IndexString"], named := ["internal/bytealg.MaxLen"], apart := false, narrowed := true }
def FnExactKeepsPlaceUptoSaid : Prop := fnExactKeepsPlaceUptoRow.holds Try.pinned (OpenSpec.upto fnExactKeepsPlaceSpec)

/-- 'laws.FnCheckParts', WHERE WHAT IT READS IS OF BULK AT MOST 1048576: true; the input reads as it did. -/
def fnCheckPartsUptoRow : OpenClaim := { program := "ytcagfbgplpokkaa", sum := "45c05ec2a4479f3f131196691b9ec30c856d78e3c78dc94b980c0e1748b1004f", func := "loop.example/templateescaper/laws.FnCheckParts", spec := "fnCheckParts", inPlace := ["internal/bytealg.IndexByteString", "internal/bytealg.IndexString"], recurses := true, named := ["internal/bytealg.MaxLen"], apart := false, narrowed := true }
def FnCheckPartsUptoSaid : Prop := fnCheckPartsUptoRow.holds Try.pinned (OpenSpec.upto fnCheckPartsSpec)

/-- 'laws.FnTemplateSafe', WHERE WHAT IT READS IS OF BULK AT MOST 1048576: true; the input reads as it did. -/
def fnTemplateSafeUptoRow : OpenClaim := { program := "ytcagfbgplpokkaa", sum := "45c05ec2a4479f3f131196691b9ec30c856d78e3c78dc94b980c0e1748b1004f", func := "loop.example/templateescaper/laws.FnTemplateSafe", spec := "fnTemplateSafe", inPlace := ["internal/bytealg.IndexByteString", "internal/bytealg.IndexString"], recurses := true, named := ["internal/bytealg.MaxLen"], apart := false, narrowed := true }
def FnTemplateSafeUptoSaid : Prop := fnTemplateSafeUptoRow.holds Try.pinned (OpenSpec.upto fnTemplateSafeSpec)

/-- 'laws.FnKeepsPlace', WHERE WHAT IT READS IS OF BULK AT MOST 1048576: true; the input reads as it did. -/
def fnKeepsPlaceUptoRow : OpenClaim := { program := "ytcagfbgplpokkaa", sum := "45c05ec2a4479f3f131196691b9ec30c856d78e3c78dc94b980c0e1748b1004f", func := "loop.example/templateescaper/laws.FnKeepsPlace", spec := "fnKeepsPlace", inPlace := ["internal/abi.NoEscape", "internal/bytealg.IndexByteString", "internal/bytealg.IndexString"], named := ["internal/bytealg.MaxLen"], apart := false, narrowed := true }
def FnKeepsPlaceUptoSaid : Prop := fnKeepsPlaceUptoRow.holds Try.pinned (OpenSpec.upto fnKeepsPlaceSpec)

/-- 'laws.FnTemplateFault', WHERE WHAT IT READS IS OF BULK AT MOST 1048576: true; the input reads as it did. -/
def fnTemplateFaultUptoRow : OpenClaim := { program := "ytcagfbgplpokkaa", sum := "45c05ec2a4479f3f131196691b9ec30c856d78e3c78dc94b980c0e1748b1004f", func := "loop.example/templateescaper/laws.FnTemplateFault", spec := "fnTemplateFault", inPlace := ["internal/bytealg.IndexByteString", "internal/bytealg.IndexString"], recurses := true, named := ["internal/bytealg.MaxLen"], apart := false, narrowed := true }
def FnTemplateFaultUptoSaid : Prop := fnTemplateFaultUptoRow.holds Try.pinned (OpenSpec.upto fnTemplateFaultSpec)

end Rows
end Go.Proofs.Ytcagfbgplpokkaa
