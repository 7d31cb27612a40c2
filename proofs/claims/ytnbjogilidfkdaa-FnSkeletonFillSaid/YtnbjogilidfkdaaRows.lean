/-
  No cell of these rows narrows 'for every input' (looked for: loops, veiled, ifaces, maps, wideKeys, modest, calm, conditions, laid).
  DERIVED. THE GIVEN ROWS OF THIS SEAT. 9 by the template 'for every input the law returns true; each argument reads behind the call as it read before'; 0 by the template 'total and deterministic' (their statements: YtnbjogilidfkdaaTotals.lean).
  GIVEN WITH THE SEED: the statements are not yours to turn. If you find one false, say at which input.
  Laid BY PROGRAM, IN A SANDBOX (cutbox-rows.mjs): the forced cells as the released guide's own fill.sh prints them over the translation 4d84675190c686ee… (all of the seat's roots in one cut). By AI agents, Wed Nov 11 2026. No macro, syntax, notation, axiom, sorry.
-/
import Derived.Test.YtnbjogilidfkdaaChecked
import GoSem.Claim
import GoSem.ClaimJoined
import GoSem.ClaimMapViews
import Derived.JoinedTies
import Derived.KernelRfl
namespace Go.Proofs.Ytnbjogilidfkdaa
/- THE CELL 'sum', in the pinned program and in every row, IS THE sha256 OF THE DUMP (.gsa) THAT YtnbjogilidfkdaaProg.lean LOADS. Nothing in Lean hashes anything: it is a label: what it is worth is what the hold of that sum in a sandbox is worth. -/
noncomputable def Try.pinned : Pinned := { name := "ytnbjogilidfkdaa", sum := "4d84675190c686ee033f51f5aba9c18d0bff8c333bf98ce8776272665c4e0a5a", checked := Try.checked }
namespace Rows
def none {H : Type} : Left H := { results := [], args := [] }

/-- 'laws.FnCleanTokens': WHATEVER THE INPUT: true; the input reads as it did. -/
def fnCleanTokensSpec : ChangeSpec := { name := "fnCleanTokens", fn := fun _ => fun
  | [d] => { results := [.lit (.bool true)], args := [d] }
  | _ => none }
def fnCleanTokensRow : OpenClaim := { program := "ytnbjogilidfkdaa", sum := "4d84675190c686ee033f51f5aba9c18d0bff8c333bf98ce8776272665c4e0a5a", func := "loop.example/templateescaper/laws.FnCleanTokens", spec := "fnCleanTokens", inPlace := ["internal/bytealg.IndexByteString", "internal/bytealg.IndexString"], named := ["internal/bytealg.MaxLen"], apart := false }
def FnCleanTokensSaid : Prop := fnCleanTokensRow.holds Try.pinned (OpenSpec.ofChange fnCleanTokensSpec)

/-- ITS FALSE NEIGHBOUR: 'it returns false'. Refute it at one input. -/
def fnCleanTokensWrong : ChangeSpec := { name := "fnCleanTokens", fn := fun _ => fun
  | [d] => { results := [.lit (.bool false)], args := [d] }
  | _ => none }
def FnCleanTokensWrongFalsely : Prop := fnCleanTokensRow.holds Try.pinned (OpenSpec.ofChange fnCleanTokensWrong)

/-- 'laws.FnCleanText': WHATEVER THE INPUT: true; the input reads as it did. -/
def fnCleanTextSpec : ChangeSpec := { name := "fnCleanText", fn := fun _ => fun
  | [d] => { results := [.lit (.bool true)], args := [d] }
  | _ => none }
def fnCleanTextRow : OpenClaim := { program := "ytnbjogilidfkdaa", sum := "4d84675190c686ee033f51f5aba9c18d0bff8c333bf98ce8776272665c4e0a5a", func := "loop.example/templateescaper/laws.FnCleanText", spec := "fnCleanText", inPlace := ["internal/abi.NoEscape", "internal/bytealg.IndexByteString", "internal/bytealg.IndexString"], named := ["internal/bytealg.MaxLen"], apart := false }
def FnCleanTextSaid : Prop := fnCleanTextRow.holds Try.pinned (OpenSpec.ofChange fnCleanTextSpec)

/-- ITS FALSE NEIGHBOUR: 'it returns false'. Refute it at one input. -/
def fnCleanTextWrong : ChangeSpec := { name := "fnCleanText", fn := fun _ => fun
  | [d] => { results := [.lit (.bool false)], args := [d] }
  | _ => none }
def FnCleanTextWrongFalsely : Prop := fnCleanTextRow.holds Try.pinned (OpenSpec.ofChange fnCleanTextWrong)

/-- 'laws.FnExactMarkupSafe': WHATEVER THE INPUT: true; the input reads as it did. -/
def fnExactMarkupSafeSpec : ChangeSpec := { name := "fnExactMarkupSafe", fn := fun _ => fun
  | [d] => { results := [.lit (.bool true)], args := [d] }
  | _ => none }
def fnExactMarkupSafeRow : OpenClaim := { program := "ytnbjogilidfkdaa", sum := "4d84675190c686ee033f51f5aba9c18d0bff8c333bf98ce8776272665c4e0a5a", func := "loop.example/templateescaper/laws.FnExactMarkupSafe", spec := "fnExactMarkupSafe", inPlace := ["internal/abi.NoEscape", "internal/bytealg.IndexByteString", "internal/bytealg.IndexString"], named := ["internal/bytealg.MaxLen"], apart := false }
def FnExactMarkupSafeSaid : Prop := fnExactMarkupSafeRow.holds Try.pinned (OpenSpec.ofChange fnExactMarkupSafeSpec)

/-- ITS FALSE NEIGHBOUR: 'it returns false'. Refute it at one input. -/
def fnExactMarkupSafeWrong : ChangeSpec := { name := "fnExactMarkupSafe", fn := fun _ => fun
  | [d] => { results := [.lit (.bool false)], args := [d] }
  | _ => none }
def FnExactMarkupSafeWrongFalsely : Prop := fnExactMarkupSafeRow.holds Try.pinned (OpenSpec.ofChange fnExactMarkupSafeWrong)

/-- 'laws.FnHoleValue': WHATEVER THE INPUT: true; the input reads as it did. -/
def fnHoleValueSpec : ChangeSpec := { name := "fnHoleValue", fn := fun _ => fun
  | [d] => { results := [.lit (.bool true)], args := [d] }
  | _ => none }
def fnHoleValueRow : OpenClaim := { program := "ytnbjogilidfkdaa", sum := "4d84675190c686ee033f51f5aba9c18d0bff8c333bf98ce8776272665c4e0a5a", func := "loop.example/templateescaper/laws.FnHoleValue", spec := "fnHoleValue", inPlace := ["internal/abi.NoEscape", "internal/bytealg.IndexByteString", "internal/bytealg.IndexString"], unfollowed := true, recurses := true, named := ["internal/bytealg.MaxLen"], apart := false }
def FnHoleValueSaid : Prop := fnHoleValueRow.holds Try.pinned (OpenSpec.ofChange fnHoleValueSpec)

/-- ITS FALSE NEIGHBOUR: 'it returns false'. Refute it at one input. -/
def fnHoleValueWrong : ChangeSpec := { name := "fnHoleValue", fn := fun _ => fun
  | [d] => { results := [.lit (.bool false)], args := [d] }
  | _ => none }
def FnHoleValueWrongFalsely : Prop := fnHoleValueRow.holds Try.pinned (OpenSpec.ofChange fnHoleValueWrong)

/-- 'laws.FnAddressHole': WHATEVER THE INPUT: true; the input reads as it did. -/
def fnAddressHoleSpec : ChangeSpec := { name := "fnAddressHole", fn := fun _ => fun
  | [d] => { results := [.lit (.bool true)], args := [d] }
  | _ => none }
def fnAddressHoleRow : OpenClaim := { program := "ytnbjogilidfkdaa", sum := "4d84675190c686ee033f51f5aba9c18d0bff8c333bf98ce8776272665c4e0a5a", func := "loop.example/templateescaper/laws.FnAddressHole", spec := "fnAddressHole", inPlace := ["internal/bytealg.IndexByteString", "internal/bytealg.IndexString", "internal/abi.NoEscape"], unfollowed := true, recurses := true, named := ["internal/bytealg.MaxLen"], apart := false }
def FnAddressHoleSaid : Prop := fnAddressHoleRow.holds Try.pinned (OpenSpec.ofChange fnAddressHoleSpec)

/-- ITS FALSE NEIGHBOUR: 'it returns false'. Refute it at one input. -/
def fnAddressHoleWrong : ChangeSpec := { name := "fnAddressHole", fn := fun _ => fun
  | [d] => { results := [.lit (.bool false)], args := [d] }
  | _ => none }
def FnAddressHoleWrongFalsely : Prop := fnAddressHoleRow.holds Try.pinned (OpenSpec.ofChange fnAddressHoleWrong)

/-- 'laws.FnMarkupSafe': WHATEVER THE INPUT: true; the input reads as it did. -/
def fnMarkupSafeSpec : ChangeSpec := { name := "fnMarkupSafe", fn := fun _ => fun
  | [d] => { results := [.lit (.bool true)], args := [d] }
  | _ => none }
def fnMarkupSafeRow : OpenClaim := { program := "ytnbjogilidfkdaa", sum := "4d84675190c686ee033f51f5aba9c18d0bff8c333bf98ce8776272665c4e0a5a", func := "loop.example/templateescaper/laws.FnMarkupSafe", spec := "fnMarkupSafe", inPlace := ["internal/abi.NoEscape", "internal/bytealg.IndexByteString", "internal/bytealg.IndexString"], named := ["internal/bytealg.MaxLen"], apart := false }
def FnMarkupSafeSaid : Prop := fnMarkupSafeRow.holds Try.pinned (OpenSpec.ofChange fnMarkupSafeSpec)

/-- ITS FALSE NEIGHBOUR: 'it returns false'. Refute it at one input. -/
def fnMarkupSafeWrong : ChangeSpec := { name := "fnMarkupSafe", fn := fun _ => fun
  | [d] => { results := [.lit (.bool false)], args := [d] }
  | _ => none }
def FnMarkupSafeWrongFalsely : Prop := fnMarkupSafeRow.holds Try.pinned (OpenSpec.ofChange fnMarkupSafeWrong)

/-- 'laws.FnExactCleanMarkup': WHATEVER THE INPUT: true; the input reads as it did. -/
def fnExactCleanMarkupSpec : ChangeSpec := { name := "fnExactCleanMarkup", fn := fun _ => fun
  | [d] => { results := [.lit (.bool true)], args := [d] }
  | _ => none }
def fnExactCleanMarkupRow : OpenClaim := { program := "ytnbjogilidfkdaa", sum := "4d84675190c686ee033f51f5aba9c18d0bff8c333bf98ce8776272665c4e0a5a", func := "loop.example/templateescaper/laws.FnExactCleanMarkup", spec := "fnExactCleanMarkup", inPlace := ["internal/abi.NoEscape", "internal/bytealg.IndexByteString", "internal/bytealg.IndexString"], named := ["internal/bytealg.MaxLen"], apart := false }
def FnExactCleanMarkupSaid : Prop := fnExactCleanMarkupRow.holds Try.pinned (OpenSpec.ofChange fnExactCleanMarkupSpec)

/-- ITS FALSE NEIGHBOUR: 'it returns false'. Refute it at one input. -/
def fnExactCleanMarkupWrong : ChangeSpec := { name := "fnExactCleanMarkup", fn := fun _ => fun
  | [d] => { results := [.lit (.bool false)], args := [d] }
  | _ => none }
def FnExactCleanMarkupWrongFalsely : Prop := fnExactCleanMarkupRow.holds Try.pinned (OpenSpec.ofChange fnExactCleanMarkupWrong)

/-- 'laws.FnSkeletonFill': WHATEVER THE INPUT: true; the input reads as it did. -/
def fnSkeletonFillSpec : ChangeSpec := { name := "fnSkeletonFill", fn := fun _ => fun
  | [d1, d2] => { results := [.lit (.bool true)], args := [d1, d2] }
  | _ => none }
def fnSkeletonFillRow : OpenClaim := { program := "ytnbjogilidfkdaa", sum := "4d84675190c686ee033f51f5aba9c18d0bff8c333bf98ce8776272665c4e0a5a", func := "loop.example/templateescaper/laws.FnSkeletonFill", spec := "fnSkeletonFill", inPlace := ["internal/bytealg.IndexByteString", "internal/bytealg.IndexString", "internal/abi.NoEscape"], unfollowed := true, recurses := true, named := ["internal/bytealg.MaxLen"], apart := false }
def FnSkeletonFillSaid : Prop := fnSkeletonFillRow.holds Try.pinned (OpenSpec.ofChange fnSkeletonFillSpec)

/-- ITS FALSE NEIGHBOUR: 'it returns false'. Refute it at one input. -/
def fnSkeletonFillWrong : ChangeSpec := { name := "fnSkeletonFill", fn := fun _ => fun
  | [d1, d2] => { results := [.lit (.bool false)], args := [d1, d2] }
  | _ => none }
def FnSkeletonFillWrongFalsely : Prop := fnSkeletonFillRow.holds Try.pinned (OpenSpec.ofChange fnSkeletonFillWrong)

/-- 'laws.FnCleanMarkup': WHATEVER THE INPUT: true; the input reads as it did. -/
def fnCleanMarkupSpec : ChangeSpec := { name := "fnCleanMarkup", fn := fun _ => fun
  | [d] => { results := [.lit (.bool true)], args := [d] }
  | _ => none }
def fnCleanMarkupRow : OpenClaim := { program := "ytnbjogilidfkdaa", sum := "4d84675190c686ee033f51f5aba9c18d0bff8c333bf98ce8776272665c4e0a5a", func := "loop.example/templateescaper/laws.FnCleanMarkup", spec := "fnCleanMarkup", inPlace := ["internal/abi.NoEscape", "internal/bytealg.IndexByteString", "internal/bytealg.IndexString"], named := ["internal/bytealg.MaxLen"], apart := false }
def FnCleanMarkupSaid : Prop := fnCleanMarkupRow.holds Try.pinned (OpenSpec.ofChange fnCleanMarkupSpec)

/-- ITS FALSE NEIGHBOUR: 'it returns false'. Refute it at one input. -/
def fnCleanMarkupWrong : ChangeSpec := { name := "fnCleanMarkup", fn := fun _ => fun
  | [d] => { results := [.lit (.bool false)], args := [d] }
  | _ => none }
def FnCleanMarkupWrongFalsely : Prop := fnCleanMarkupRow.holds Try.pinned (OpenSpec.ofChange fnCleanMarkupWrong)

/- THE SECOND FORM. 'bulk': how many values and letters a reading holds, each counted each time it is reached (what is shared counts as often as it is met; a slice's spare places count too). A statement '..UptoSaid' is the law's where the arguments, and the package variables that the reading takes, are together of bulk at most 1048576: NARROWER than '..Said'. Prove '..Said' where nothing that the law and all that it calls make is longer than what came in: it says more and counts as full. Else prove '..UptoSaid'. A law counts once. -/
mutual
def uptoBulk {H : Type} : DataW H → Nat
  | .lit (.string bytes) => bytes.length + 1
  | .lit _ => 1
  | .nil => 1
  | .ptr d => uptoBulk d + 1
  | .slice elems spare => uptoBulkAll elems + uptoBulkAll spare + 1
  | .agg parts => uptoBulkAll parts + 1
  | .iface _ d => uptoBulk d + 1
  | .map entries => uptoBulkEntries entries + 1
  | .held _ => 1
def uptoBulkAll {H : Type} : List (DataW H) → Nat
  | [] => 0
  | d :: r => uptoBulk d + uptoBulkAll r
def uptoBulkEntries {H : Type} : List (Lit × DataW H) → Nat
  | [] => 0
  | x :: r => uptoBulkEntry x + uptoBulkEntries r
def uptoBulkEntry {H : Type} : Lit × DataW H → Nat
  | (.string bytes, d) => bytes.length + uptoBulk d + 1
  | (_, d) => uptoBulk d + 1
 end
def uptoSmall : (H : Type) → List (DataW H) → Bool := fun _ ds => decide (uptoBulkAll ds ≤ 1048576)
def OpenSpec.upto (s : _root_.Go.ChangeSpec) : _root_.Go.OpenSpec := { _root_.Go.OpenSpec.ofChange s with cond := some uptoSmall }

/-- 'laws.FnCleanTokens', WHERE WHAT IT READS IS OF BULK AT MOST 1048576: true; the input reads as it did. -/
def fnCleanTokensUptoRow : OpenClaim := { program := "ytnbjogilidfkdaa", sum := "4d84675190c686ee033f51f5aba9c18d0bff8c333bf98ce8776272665c4e0a5a", func := "loop.example/templateescaper/laws.FnCleanTokens", spec := "fnCleanTokens", inPlace := ["internal/bytealg.IndexByteString", "internal/bytealg.IndexString"], named := ["internal/bytealg.MaxLen"], apart := false, narrowed := true }
def FnCleanTokensUptoSaid : Prop := fnCleanTokensUptoRow.holds Try.pinned (OpenSpec.upto fnCleanTokensSpec)

/-- 'laws.FnCleanText', WHERE WHAT IT READS IS OF BULK AT MOST 1048576: true; the input reads as it did. -/
def fnCleanTextUptoRow : OpenClaim := { program := "ytnbjogilidfkdaa", sum := "4d84675190c686ee033f51f5aba9c18d0bff8c333bf98ce8776272665c4e0a5a", func := "loop.example/templateescaper/laws.FnCleanText", spec := "fnCleanText", inPlace := ["internal/abi.NoEscape", "internal/bytealg.IndexByteString", "internal/bytealg.IndexString"], named := ["internal/bytealg.MaxLen"], apart := false, narrowed := true }
def FnCleanTextUptoSaid : Prop := fnCleanTextUptoRow.holds Try.pinned (OpenSpec.upto fnCleanTextSpec)

/-- 'laws.FnExactMarkupSafe', WHERE WHAT IT READS IS OF BULK AT MOST 1048576: true; the input reads as it did. -/
def fnExactMarkupSafeUptoRow : OpenClaim := { program := "ytnbjogilidfkdaa", sum := "4d84675190c686ee033f51f5aba9c18d0bff8c333bf98ce8776272665c4e0a5a", func := "loop.example/templateescaper/laws.FnExactMarkupSafe", spec := "fnExactMarkupSafe", inPlace := ["internal/abi.NoEscape", "internal/bytealg.IndexByteString", "internal/bytealg.IndexString"], named := ["internal/bytealg.MaxLen"], apart := false, narrowed := true }
def FnExactMarkupSafeUptoSaid : Prop := fnExactMarkupSafeUptoRow.holds Try.pinned (OpenSpec.upto fnExactMarkupSafeSpec)

/-- 'laws.FnHoleValue', WHERE WHAT IT READS IS OF BULK AT MOST 1048576: true; the input reads as it did. -/
def fnHoleValueUptoRow : OpenClaim := { program := "ytnbjogilidfkdaa", sum := "4d84675190c686ee033f51f5aba9c18d0bff8c333bf98ce8776272665c4e0a5a", func := "loop.example/templateescaper/laws.FnHoleValue", spec := "fnHoleValue", inPlace := ["internal/abi.NoEscape", "internal/bytealg.IndexByteString", "internal/bytealg.IndexString"], unfollowed := true, recurses := true, named := ["internal/bytealg.MaxLen"], apart := false, narrowed := true }
def FnHoleValueUptoSaid : Prop := fnHoleValueUptoRow.holds Try.pinned (OpenSpec.upto fnHoleValueSpec)

/-- 'laws.FnAddressHole', WHERE WHAT IT READS IS OF BULK AT MOST 1048576: true; the input reads as it did. -/
def fnAddressHoleUptoRow : OpenClaim := { program := "ytnbjogilidfkdaa", sum := "4d84675190c686ee033f51f5aba9c18d0bff8c333bf98ce8776272665c4e0a5a", func := "loop.example/templateescaper/laws.FnAddressHole", spec := "fnAddressHole", inPlace := ["internal/bytealg.IndexByteString", "internal/bytealg.IndexString", "internal/abi.NoEscape"], unfollowed := true, recurses := true, named := ["internal/bytealg.MaxLen"], apart := false, narrowed := true }
def FnAddressHoleUptoSaid : Prop := fnAddressHoleUptoRow.holds Try.pinned (OpenSpec.upto fnAddressHoleSpec)

/-- 'laws.FnMarkupSafe', WHERE WHAT IT READS IS OF BULK AT MOST 1048576: true; the input reads as it did. -/
def fnMarkupSafeUptoRow : OpenClaim := { program := "ytnbjogilidfkdaa", sum := "4d84675190c686ee033f51f5aba9c18d0bff8c333bf98ce8776272665c4e0a5a", func := "loop.example/templateescaper/laws.FnMarkupSafe", spec := "fnMarkupSafe", inPlace := ["internal/abi.NoEscape", "internal/bytealg.IndexByteString", "internal/bytealg.IndexString"], named := ["internal/bytealg.MaxLen"], apart := false, narrowed := true }
def FnMarkupSafeUptoSaid : Prop := fnMarkupSafeUptoRow.holds Try.pinned (OpenSpec.upto fnMarkupSafeSpec)

/-- 'laws.FnExactCleanMarkup', WHERE WHAT IT READS IS OF BULK AT MOST 1048576: true; the input reads as it did. -/
def fnExactCleanMarkupUptoRow : OpenClaim := { program := "ytnbjogilidfkdaa", sum := "4d84675190c686ee033f51f5aba9c18d0bff8c333bf98ce8776272665c4e0a5a", func := "loop.example/templateescaper/laws.FnExactCleanMarkup", spec := "fnExactCleanMarkup", inPlace := ["internal/abi.NoEscape", "internal/bytealg.IndexByteString", "internal/bytealg.IndexString"], named := ["internal/bytealg.MaxLen"], apart := false, narrowed := true }
def FnExactCleanMarkupUptoSaid : Prop := fnExactCleanMarkupUptoRow.holds Try.pinned (OpenSpec.upto fnExactCleanMarkupSpec)

/-- 'laws.FnSkeletonFill', WHERE WHAT IT READS IS OF BULK AT MOST 1048576: true; the input reads as it did. -/
def fnSkeletonFillUptoRow : OpenClaim := { program := "ytnbjogilidfkdaa", sum := "4d84675190c686ee033f51f5aba9c18d0bff8c333bf98ce8776272665c4e0a5a", func := "loop.example/templateescaper/laws.FnSkeletonFill", spec := "fnSkeletonFill", inPlace := ["internal/bytealg.IndexByteString", "internal/bytealg.IndexString", "internal/abi.NoEscape"], unfollowed := true, recurses := true, named := ["internal/bytealg.MaxLen"], apart := false, narrowed := true }
def FnSkeletonFillUptoSaid : Prop := fnSkeletonFillUptoRow.holds Try.pinned (OpenSpec.upto fnSkeletonFillSpec)

/-- 'laws.FnCleanMarkup', WHERE WHAT IT READS IS OF BULK AT MOST 1048576: true; the input reads as it did. -/
def fnCleanMarkupUptoRow : OpenClaim := { program := "ytnbjogilidfkdaa", sum := "4d84675190c686ee033f51f5aba9c18d0bff8c333bf98ce8776272665c4e0a5a", func := "loop.example/templateescaper/laws.FnCleanMarkup", spec := "fnCleanMarkup", inPlace := ["internal/abi.NoEscape", "internal/bytealg.IndexByteString", "internal/bytealg.IndexString"], named := ["internal/bytealg.MaxLen"], apart := false, narrowed := true }
def FnCleanMarkupUptoSaid : Prop := fnCleanMarkupUptoRow.holds Try.pinned (OpenSpec.upto fnCleanMarkupSpec)

end Rows
end Go.Proofs.Ytnbjogilidfkdaa
