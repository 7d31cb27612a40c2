/-
  NARROWER THAN 'FOR EVERY INPUT', by the rows' own cells (each row's printed sentence says how): FnExactFillPlain: loops.
  DERIVED. THE GIVEN ROWS OF THIS SEAT. 10 by the template 'for every input the law returns true; each argument reads behind the call as it read before'; 0 by the template 'total and deterministic' (their statements: YtoocbpendccngaaTotals.lean).
  GIVEN WITH THE SEED: the statements are not yours to turn. If you find one false, say at which input.
  Laid BY PROGRAM, IN A SANDBOX (cutbox-rows.mjs): the forced cells as the released guide's own fill.sh prints them over the translation 81a9c24ee37d8af3… (all of the seat's roots in one cut). By AI agents, Wed Nov 11 2026. No macro, syntax, notation, axiom, sorry.
-/
import Derived.Test.YtoocbpendccngaaChecked
import GoSem.Claim
import GoSem.ClaimJoined
import GoSem.ClaimMapViews
import Derived.JoinedTies
import Derived.KernelRfl
namespace Go.Proofs.Ytoocbpendccngaa
/- THE CELL 'sum', in the pinned program and in every row, IS THE sha256 OF THE DUMP (.gsa) THAT YtoocbpendccngaaProg.lean LOADS. Nothing in Lean hashes anything: it is a label: what it is worth is what the hold of that sum in a sandbox is worth. -/
noncomputable def Try.pinned : Pinned := { name := "ytoocbpendccngaa", sum := "81a9c24ee37d8af39a386408ba2ad16cca2f491ea202547cc64e99ad4fac7e49", checked := Try.checked }
namespace Rows
def none {H : Type} : Left H := { results := [], args := [] }

/-- 'laws.FnTemplateText': WHATEVER THE INPUT: true; the input reads as it did. -/
def fnTemplateTextSpec : ChangeSpec := { name := "fnTemplateText", fn := fun _ => fun
  | [d] => { results := [.lit (.bool true)], args := [d] }
  | _ => none }
def fnTemplateTextRow : OpenClaim := { program := "ytoocbpendccngaa", sum := "81a9c24ee37d8af39a386408ba2ad16cca2f491ea202547cc64e99ad4fac7e49", func := "loop.example/templateescaper/laws.FnTemplateText", spec := "fnTemplateText", inPlace := ["internal/bytealg.IndexByteString", "internal/bytealg.IndexString"], recurses := true, named := ["internal/bytealg.MaxLen"], apart := false }
def FnTemplateTextSaid : Prop := fnTemplateTextRow.holds Try.pinned (OpenSpec.ofChange fnTemplateTextSpec)

/-- ITS FALSE NEIGHBOUR: 'it returns false'. Refute it at one input. -/
def fnTemplateTextWrong : ChangeSpec := { name := "fnTemplateText", fn := fun _ => fun
  | [d] => { results := [.lit (.bool false)], args := [d] }
  | _ => none }
def FnTemplateTextWrongFalsely : Prop := fnTemplateTextRow.holds Try.pinned (OpenSpec.ofChange fnTemplateTextWrong)

/-- 'laws.FnReadTemplate': WHATEVER THE INPUT: true; the input reads as it did. -/
def fnReadTemplateSpec : ChangeSpec := { name := "fnReadTemplate", fn := fun _ => fun
  | [d] => { results := [.lit (.bool true)], args := [d] }
  | _ => none }
def fnReadTemplateRow : OpenClaim := { program := "ytoocbpendccngaa", sum := "81a9c24ee37d8af39a386408ba2ad16cca2f491ea202547cc64e99ad4fac7e49", func := "loop.example/templateescaper/laws.FnReadTemplate", spec := "fnReadTemplate", inPlace := ["internal/bytealg.IndexByteString", "internal/bytealg.IndexString"], recurses := true, named := ["internal/bytealg.MaxLen"], apart := false }
def FnReadTemplateSaid : Prop := fnReadTemplateRow.holds Try.pinned (OpenSpec.ofChange fnReadTemplateSpec)

/-- ITS FALSE NEIGHBOUR: 'it returns false'. Refute it at one input. -/
def fnReadTemplateWrong : ChangeSpec := { name := "fnReadTemplate", fn := fun _ => fun
  | [d] => { results := [.lit (.bool false)], args := [d] }
  | _ => none }
def FnReadTemplateWrongFalsely : Prop := fnReadTemplateRow.holds Try.pinned (OpenSpec.ofChange fnReadTemplateWrong)

/-- 'laws.FnTextsOf': WHATEVER THE INPUT: true; the input reads as it did. -/
def fnTextsOfSpec : ChangeSpec := { name := "fnTextsOf", fn := fun _ => fun
  | [d] => { results := [.lit (.bool true)], args := [d] }
  | _ => none }
def fnTextsOfRow : OpenClaim := { program := "ytoocbpendccngaa", sum := "81a9c24ee37d8af39a386408ba2ad16cca2f491ea202547cc64e99ad4fac7e49", func := "loop.example/templateescaper/laws.FnTextsOf", spec := "fnTextsOf", recurses := true, apart := false }
def FnTextsOfSaid : Prop := fnTextsOfRow.holds Try.pinned (OpenSpec.ofChange fnTextsOfSpec)

/-- ITS FALSE NEIGHBOUR: 'it returns false'. Refute it at one input. -/
def fnTextsOfWrong : ChangeSpec := { name := "fnTextsOf", fn := fun _ => fun
  | [d] => { results := [.lit (.bool false)], args := [d] }
  | _ => none }
def FnTextsOfWrongFalsely : Prop := fnTextsOfRow.holds Try.pinned (OpenSpec.ofChange fnTextsOfWrong)

/-- 'laws.FnInsertParts': WHATEVER THE INPUT: true; the input reads as it did. -/
def fnInsertPartsSpec : ChangeSpec := { name := "fnInsertParts", fn := fun _ => fun
  | [d] => { results := [.lit (.bool true)], args := [d] }
  | _ => none }
def fnInsertPartsRow : OpenClaim := { program := "ytoocbpendccngaa", sum := "81a9c24ee37d8af39a386408ba2ad16cca2f491ea202547cc64e99ad4fac7e49", func := "loop.example/templateescaper/laws.FnInsertParts", spec := "fnInsertParts", inPlace := ["internal/bytealg.IndexByteString", "internal/bytealg.IndexString"], unfollowed := true, recurses := true, named := ["internal/bytealg.MaxLen"], apart := false }
def FnInsertPartsSaid : Prop := fnInsertPartsRow.holds Try.pinned (OpenSpec.ofChange fnInsertPartsSpec)

/-- ITS FALSE NEIGHBOUR: 'it returns false'. Refute it at one input. -/
def fnInsertPartsWrong : ChangeSpec := { name := "fnInsertParts", fn := fun _ => fun
  | [d] => { results := [.lit (.bool false)], args := [d] }
  | _ => none }
def FnInsertPartsWrongFalsely : Prop := fnInsertPartsRow.holds Try.pinned (OpenSpec.ofChange fnInsertPartsWrong)

/-- 'laws.FnNamesUsed': WHATEVER THE INPUT: true; the input reads as it did. -/
def fnNamesUsedSpec : ChangeSpec := { name := "fnNamesUsed", fn := fun _ => fun
  | [d] => { results := [.lit (.bool true)], args := [d] }
  | _ => none }
def fnNamesUsedRow : OpenClaim := { program := "ytoocbpendccngaa", sum := "81a9c24ee37d8af39a386408ba2ad16cca2f491ea202547cc64e99ad4fac7e49", func := "loop.example/templateescaper/laws.FnNamesUsed", spec := "fnNamesUsed", inPlace := ["internal/bytealg.IndexByteString", "internal/bytealg.IndexString"], recurses := true, named := ["internal/bytealg.MaxLen"], apart := false }
def FnNamesUsedSaid : Prop := fnNamesUsedRow.holds Try.pinned (OpenSpec.ofChange fnNamesUsedSpec)

/-- ITS FALSE NEIGHBOUR: 'it returns false'. Refute it at one input. -/
def fnNamesUsedWrong : ChangeSpec := { name := "fnNamesUsed", fn := fun _ => fun
  | [d] => { results := [.lit (.bool false)], args := [d] }
  | _ => none }
def FnNamesUsedWrongFalsely : Prop := fnNamesUsedRow.holds Try.pinned (OpenSpec.ofChange fnNamesUsedWrong)

/-- 'laws.FnFillPlain': WHATEVER THE INPUT: true; the input reads as it did. -/
def fnFillPlainSpec : ChangeSpec := { name := "fnFillPlain", fn := fun _ => fun
  | [d] => { results := [.lit (.bool true)], args := [d] }
  | _ => none }
def fnFillPlainRow : OpenClaim := { program := "ytoocbpendccngaa", sum := "81a9c24ee37d8af39a386408ba2ad16cca2f491ea202547cc64e99ad4fac7e49", func := "loop.example/templateescaper/laws.FnFillPlain", spec := "fnFillPlain", inPlace := ["internal/bytealg.IndexByteString", "internal/bytealg.IndexString", "internal/abi.NoEscape"], unfollowed := true, recurses := true, named := ["internal/bytealg.MaxLen"], apart := false }
def FnFillPlainSaid : Prop := fnFillPlainRow.holds Try.pinned (OpenSpec.ofChange fnFillPlainSpec)

/-- ITS FALSE NEIGHBOUR: 'it returns false'. Refute it at one input. -/
def fnFillPlainWrong : ChangeSpec := { name := "fnFillPlain", fn := fun _ => fun
  | [d] => { results := [.lit (.bool false)], args := [d] }
  | _ => none }
def FnFillPlainWrongFalsely : Prop := fnFillPlainRow.holds Try.pinned (OpenSpec.ofChange fnFillPlainWrong)

/-- 'laws.FnExactFillPlain': WHATEVER THE INPUT: true; the input reads as it did. -/
def fnExactFillPlainSpec : ChangeSpec := { name := "fnExactFillPlain", fn := fun _ => fun
  | [d1, d2] => { results := [.lit (.bool true)], args := [d1, d2] }
  | _ => none }
def fnExactFillPlainRow : OpenClaim := { program := "ytoocbpendccngaa", sum := "81a9c24ee37d8af39a386408ba2ad16cca2f491ea202547cc64e99ad4fac7e49", func := "loop.example/templateescaper/laws.FnExactFillPlain", spec := "fnExactFillPlain", inPlace := ["internal/bytealg.IndexByteString", "internal/bytealg.IndexString", "internal/abi.NoEscape"], unfollowed := true, recurses := true, named := ["internal/bytealg.MaxLen"], loops := true, apart := false }
def FnExactFillPlainSaid : Prop := fnExactFillPlainRow.holds Try.pinned (OpenSpec.ofChange fnExactFillPlainSpec)

/-- ITS FALSE NEIGHBOUR: 'it returns false'. Refute it at one input. -/
def fnExactFillPlainWrong : ChangeSpec := { name := "fnExactFillPlain", fn := fun _ => fun
  | [d1, d2] => { results := [.lit (.bool false)], args := [d1, d2] }
  | _ => none }
def FnExactFillPlainWrongFalsely : Prop := fnExactFillPlainRow.holds Try.pinned (OpenSpec.ofChange fnExactFillPlainWrong)

/-- 'laws.FnHolePlaces': WHATEVER THE INPUT: true; the input reads as it did. -/
def fnHolePlacesSpec : ChangeSpec := { name := "fnHolePlaces", fn := fun _ => fun
  | [d] => { results := [.lit (.bool true)], args := [d] }
  | _ => none }
def fnHolePlacesRow : OpenClaim := { program := "ytoocbpendccngaa", sum := "81a9c24ee37d8af39a386408ba2ad16cca2f491ea202547cc64e99ad4fac7e49", func := "loop.example/templateescaper/laws.FnHolePlaces", spec := "fnHolePlaces", inPlace := ["internal/bytealg.IndexByteString", "internal/bytealg.IndexString"], unfollowed := true, recurses := true, named := ["internal/bytealg.MaxLen"], apart := false }
def FnHolePlacesSaid : Prop := fnHolePlacesRow.holds Try.pinned (OpenSpec.ofChange fnHolePlacesSpec)

/-- ITS FALSE NEIGHBOUR: 'it returns false'. Refute it at one input. -/
def fnHolePlacesWrong : ChangeSpec := { name := "fnHolePlaces", fn := fun _ => fun
  | [d] => { results := [.lit (.bool false)], args := [d] }
  | _ => none }
def FnHolePlacesWrongFalsely : Prop := fnHolePlacesRow.holds Try.pinned (OpenSpec.ofChange fnHolePlacesWrong)

/-- 'laws.FnNamesMissing': WHATEVER THE INPUT: true; the input reads as it did. -/
def fnNamesMissingSpec : ChangeSpec := { name := "fnNamesMissing", fn := fun _ => fun
  | [d] => { results := [.lit (.bool true)], args := [d] }
  | _ => none }
def fnNamesMissingRow : OpenClaim := { program := "ytoocbpendccngaa", sum := "81a9c24ee37d8af39a386408ba2ad16cca2f491ea202547cc64e99ad4fac7e49", func := "loop.example/templateescaper/laws.FnNamesMissing", spec := "fnNamesMissing", inPlace := ["internal/bytealg.IndexByteString", "internal/bytealg.IndexString"], recurses := true, named := ["internal/bytealg.MaxLen"], apart := false }
def FnNamesMissingSaid : Prop := fnNamesMissingRow.holds Try.pinned (OpenSpec.ofChange fnNamesMissingSpec)

/-- ITS FALSE NEIGHBOUR: 'it returns false'. Refute it at one input. -/
def fnNamesMissingWrong : ChangeSpec := { name := "fnNamesMissing", fn := fun _ => fun
  | [d] => { results := [.lit (.bool false)], args := [d] }
  | _ => none }
def FnNamesMissingWrongFalsely : Prop := fnNamesMissingRow.holds Try.pinned (OpenSpec.ofChange fnNamesMissingWrong)

/-- 'laws.FnSimplerParts': WHATEVER THE INPUT: true; the input reads as it did. -/
def fnSimplerPartsSpec : ChangeSpec := { name := "fnSimplerParts", fn := fun _ => fun
  | [d] => { results := [.lit (.bool true)], args := [d] }
  | _ => none }
def fnSimplerPartsRow : OpenClaim := { program := "ytoocbpendccngaa", sum := "81a9c24ee37d8af39a386408ba2ad16cca2f491ea202547cc64e99ad4fac7e49", func := "loop.example/templateescaper/laws.FnSimplerParts", spec := "fnSimplerParts", inPlace := ["internal/bytealg.IndexByteString", "internal/bytealg.IndexString", "internal/abi.NoEscape"], unfollowed := true, recurses := true, named := ["internal/bytealg.MaxLen"], apart := false }
def FnSimplerPartsSaid : Prop := fnSimplerPartsRow.holds Try.pinned (OpenSpec.ofChange fnSimplerPartsSpec)

/-- ITS FALSE NEIGHBOUR: 'it returns false'. Refute it at one input. -/
def fnSimplerPartsWrong : ChangeSpec := { name := "fnSimplerParts", fn := fun _ => fun
  | [d] => { results := [.lit (.bool false)], args := [d] }
  | _ => none }
def FnSimplerPartsWrongFalsely : Prop := fnSimplerPartsRow.holds Try.pinned (OpenSpec.ofChange fnSimplerPartsWrong)

/- THE SECOND FORM. 'bulk': how many values and letters a reading holds, each counted each time it is reached (what is shared counts as often as it is met; a slice's spare places count too). A statement '..UptoSaid' is the law's where the arguments, and the package variables that the reading takes, are together of bulk at most 1048576: NARROWER than '..Said'. Prove '..Said' where nothing that the law and all that it calls make is longer than what came in: it says more and counts as full. Else prove '..UptoSaid'. A law counts once. -/
mutual
def uptoBulk {H : Type} : DataW H → Nat
  | .lit (.string bytes) => bytes.length + 1
  | .lit _ => 1
  | .nil => 1
  | .ptr d => uptoBulk d + 1
  | .slice elems spare => uptoBulkAll elems + uptoBulkAll spare + 1
  | .agg parts => uptoBulkAll parts + 1
  | .iface _ d => uptoBulk d + 1
  | .map entries => uptoBulkEntries entries + 1
  | .held _ => 1
def uptoBulkAll {H : Type} : List (DataW H) → Nat
  | [] => 0
  | d :: r => uptoBulk d + uptoBulkAll r
def uptoBulkEntries {H : Type} : List (Lit × DataW H) → Nat
  | [] => 0
  | x :: r => uptoBulkEntry x + uptoBulkEntries r
def uptoBulkEntry {H : Type} : Lit × DataW H → Nat
  | (.string bytes, d) => bytes.length + uptoBulk d + 1
  | (_, d) => uptoBulk d + 1
 end
def uptoSmall : (H : Type) → List (DataW H) → Bool := fun _ ds => decide (uptoBulkAll ds ≤ 1048576)
def OpenSpec.upto (s : _root_.Go.ChangeSpec) : _root_.Go.OpenSpec := { _root_.Go.OpenSpec.ofChange s with cond := some uptoSmall }

/-- 'laws.FnTemplateText', WHERE WHAT IT READS IS OF BULK AT MOST 1048576: true; the input reads as it did. -/
def fnTemplateTextUptoRow : OpenClaim := { program := "ytoocbpendccngaa", sum := "81a9c24ee37d8af39a386408ba2ad16cca2f491ea202547cc64e99ad4fac7e49", func := "loop.example/templateescaper/laws.FnTemplateText", spec := "fnTemplateText", inPlace := ["internal/bytealg.IndexByteString", "internal/bytealg.IndexString"], recurses := true, named := ["internal/bytealg.MaxLen"], apart := false, narrowed := true }
def FnTemplateTextUptoSaid : Prop := fnTemplateTextUptoRow.holds Try.pinned (OpenSpec.upto fnTemplateTextSpec)

/-- 'laws.FnReadTemplate', WHERE WHAT IT READS IS OF BULK AT MOST 1048576: true; the input reads as it did. -/
def fnReadTemplateUptoRow : OpenClaim := { program := "ytoocbpendccngaa", sum := "81a9c24ee37d8af39a386408ba2ad16cca2f491ea202547cc64e99ad4fac7e49", func := "loop.example/templateescaper/laws.FnReadTemplate", spec := "fnReadTemplate", inPlace := ["internal/bytealg.IndexByteString", "internal/bytealg.IndexString"], recurses := true, named := ["internal/bytealg.MaxLen"], apart := false, narrowed := true }
def FnReadTemplateUptoSaid : Prop := fnReadTemplateUptoRow.holds Try.pinned (OpenSpec.upto fnReadTemplateSpec)

/-- 'laws.FnTextsOf', WHERE WHAT IT READS IS OF BULK AT MOST 1048576: true; the input reads as it did. -/
def fnTextsOfUptoRow : OpenClaim := { program := "ytoocbpendccngaa", sum := "81a9c24ee37d8af39a386408ba2ad16cca2f491ea202547cc64e99ad4fac7e49", func := "loop.example/templateescaper/laws.FnTextsOf", spec := "fnTextsOf", recurses := true, apart := false, narrowed := true }
def FnTextsOfUptoSaid : Prop := fnTextsOfUptoRow.holds Try.pinned (OpenSpec.upto fnTextsOfSpec)

/-- 'laws.FnInsertParts', WHERE WHAT IT READS IS OF BULK AT MOST 1048576: true; the input reads as it did. -/
def fnInsertPartsUptoRow : OpenClaim := { program := "ytoocbpendccngaa", sum := "81a9c24ee37d8af39a386408ba2ad16cca2f491ea202547cc64e99ad4fac7e49", func := "loop.example/templateescaper/laws.FnInsertParts", spec := "fnInsertParts", inPlace := ["internal/bytealg.IndexByteString", "internal/bytealg.IndexString"], unfollowed := true, recurses := true, named := ["internal/bytealg.MaxLen"], apart := false, narrowed := true }
def FnInsertPartsUptoSaid : Prop := fnInsertPartsUptoRow.holds Try.pinned (OpenSpec.upto fnInsertPartsSpec)

/-- 'laws.FnNamesUsed', WHERE WHAT IT READS IS OF BULK AT MOST 1048576: true; the input reads as it did. -/
def fnNamesUsedUptoRow : OpenClaim := { program := "ytoocbpendccngaa", sum := "81a9c24ee37d8af39a386408ba2ad16cca2f491ea202547cc64e99ad4fac7e49", func := "loop.example/templateescaper/laws.FnNamesUsed", spec := "fnNamesUsed", inPlace := ["internal/bytealg.IndexByteString", "internal/bytealg.IndexString"], recurses := true, named := ["internal/bytealg.MaxLen"], apart := false, narrowed := true }
def FnNamesUsedUptoSaid : Prop := fnNamesUsedUptoRow.holds Try.pinned (OpenSpec.upto fnNamesUsedSpec)

/-- 'laws.FnFillPlain', WHERE WHAT IT READS IS OF BULK AT MOST 1048576: true; the input reads as it did. -/
def fnFillPlainUptoRow : OpenClaim := { program := "ytoocbpendccngaa", sum := "81a9c24ee37d8af39a386408ba2ad16cca2f491ea202547cc64e99ad4fac7e49", func := "loop.example/templateescaper/laws.FnFillPlain", spec := "fnFillPlain", inPlace := ["internal/bytealg.IndexByteString", "internal/bytealg.IndexString", "internal/abi.NoEscape"], unfollowed := true, recurses := true, named := ["internal/bytealg.MaxLen"], apart := false, narrowed := true }
def FnFillPlainUptoSaid : Prop := fnFillPlainUptoRow.holds Try.pinned (OpenSpec.upto fnFillPlainSpec)

/-- 'laws.FnExactFillPlain', WHERE WHAT IT READS IS OF BULK AT MOST 1048576: true; the input reads as it did. -/
def fnExactFillPlainUptoRow : OpenClaim := { program := "ytoocbpendccngaa", sum := "81a9c24ee37d8af39a386408ba2ad16cca2f491ea202547cc64e99ad4fac7e49", func := "loop.example/templateescaper/laws.FnExactFillPlain", spec := "fnExactFillPlain", inPlace := ["internal/bytealg.IndexByteString", "internal/bytealg.IndexString", "internal/abi.NoEscape"], unfollowed := true, recurses := true, named := ["internal/bytealg.MaxLen"], loops := true, apart := false, narrowed := true }
def FnExactFillPlainUptoSaid : Prop := fnExactFillPlainUptoRow.holds Try.pinned (OpenSpec.upto fnExactFillPlainSpec)

/-- 'laws.FnHolePlaces', WHERE WHAT IT READS IS OF BULK AT MOST 1048576: true; the input reads as it did. -/
def fnHolePlacesUptoRow : OpenClaim := { program := "ytoocbpendccngaa", sum := "81a9c24ee37d8af39a386408ba2ad16cca2f491ea202547cc64e99ad4fac7e49", func := "loop.example/templateescaper/laws.FnHolePlaces", spec := "fnHolePlaces", inPlace := ["internal/bytealg.IndexByteString", "internal/bytealg.IndexString"], unfollowed := true, recurses := true, named := ["internal/bytealg.MaxLen"], apart := false, narrowed := true }
def FnHolePlacesUptoSaid : Prop := fnHolePlacesUptoRow.holds Try.pinned (OpenSpec.upto fnHolePlacesSpec)

/-- 'laws.FnNamesMissing', WHERE WHAT IT READS IS OF BULK AT MOST 1048576: true; the input reads as it did. -/
def fnNamesMissingUptoRow : OpenClaim := { program := "ytoocbpendccngaa", sum := "81a9c24ee37d8af39a386408ba2ad16cca2f491ea202547cc64e99ad4fac7e49", func := "loop.example/templateescaper/laws.FnNamesMissing", spec := "fnNamesMissing", inPlace := ["internal/bytealg.IndexByteString", "internal/bytealg.IndexString"], recurses := true, named := ["internal/bytealg.MaxLen"], apart := false, narrowed := true }
def FnNamesMissingUptoSaid : Prop := fnNamesMissingUptoRow.holds Try.pinned (OpenSpec.upto fnNamesMissingSpec)

/-- 'laws.FnSimplerParts', WHERE WHAT IT READS IS OF BULK AT MOST 1048576: true; the input reads as it did. -/
def fnSimplerPartsUptoRow : OpenClaim := { program := "ytoocbpendccngaa", sum := "81a9c24ee37d8af39a386408ba2ad16cca2f491ea202547cc64e99ad4fac7e49", func := "loop.example/templateescaper/laws.FnSimplerParts", spec := "fnSimplerParts", inPlace := ["internal/bytealg.IndexByteString", "internal/bytealg.IndexString", "internal/abi.NoEscape"], unfollowed := true, recurses := true, named := ["internal/bytealg.MaxLen"], apart := false, narrowed := true }
def FnSimplerPartsUptoSaid : Prop := fnSimplerPartsUptoRow.holds Try.pinned (OpenSpec.upto fnSimplerPartsSpec)

end Rows
end Go.Proofs.Ytoocbpendccngaa
