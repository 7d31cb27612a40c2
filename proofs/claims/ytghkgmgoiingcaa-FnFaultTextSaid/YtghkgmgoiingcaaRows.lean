/-
  No cell of these rows narrows 'for every input' (looked for: loops, veiled, ifaces, maps, wideKeys, modest, calm, conditions, laid).
  DERIVED. THE GIVEN ROWS OF THIS SEAT. 5 by the template 'for every input the law returns true; each argument reads behind the call as it read before'; 0 by the template 'total and deterministic' (their statements: YtghkgmgoiingcaaTotals.lean).
  GIVEN WITH THE SEED: the statements are not yours to turn. If you find one false, say at which input.
  Laid BY PROGRAM, IN A SANDBOX (cutbox-rows.mjs): the forced cells as the released guide's own fill.sh prints them over the translation 549ae3c2dd93842e… (all of the seat's roots in one cut). By AI agents, Wed Nov 11 2026. No macro, syntax, notation, axiom, sorry.
-/
import Derived.Test.YtghkgmgoiingcaaChecked
import GoSem.Claim
import GoSem.ClaimJoined
import GoSem.ClaimMapViews
import Derived.JoinedTies
import Derived.KernelRfl
namespace Go.Proofs.Ytghkgmgoiingcaa
/- THE CELL 'sum', in the pinned program and in every row, IS THE sha256 OF THE DUMP (.gsa) THAT YtghkgmgoiingcaaProg.lean LOADS. Nothing in Lean hashes anything: it is a label: what it is worth is what the hold of that sum in a sandbox is worth. -/
noncomputable def Try.pinned : Pinned := { name := "ytghkgmgoiingcaa", sum := "549ae3c2dd93842e88f16b59e0753f59d9cc5f0f387a69a8357af801aae118ba", checked := Try.checked }
namespace Rows
def none {H : Type} : Left H := { results := [], args := [] }

/-- 'laws.FnExactTagAllowed': WHATEVER THE INPUT: true; the input reads as it did. -/
def fnExactTagAllowedSpec : ChangeSpec := { name := "fnExactTagAllowed", fn := fun _ => fun
  | [d] => { results := [.lit (.bool true)], args := [d] }
  | _ => none }
def fnExactTagAllowedRow : OpenClaim := { program := "ytghkgmgoiingcaa", sum := "549ae3c2dd93842e88f16b59e0753f59d9cc5f0f387a69a8357af801aae118ba", func := "loop.example/templateescaper/laws.FnExactTagAllowed", spec := "fnExactTagAllowed", apart := false }
def FnExactTagAllowedSaid : Prop := fnExactTagAllowedRow.holds Try.pinned (OpenSpec.ofChange fnExactTagAllowedSpec)

/-- ITS FALSE NEIGHBOUR: 'it returns false'. Refute it at one input. -/
def fnExactTagAllowedWrong : ChangeSpec := { name := "fnExactTagAllowed", fn := fun _ => fun
  | [d] => { results := [.lit (.bool false)], args := [d] }
  | _ => none }
def FnExactTagAllowedWrongFalsely : Prop := fnExactTagAllowedRow.holds Try.pinned (OpenSpec.ofChange fnExactTagAllowedWrong)

/-- 'laws.FnExactFaultText': WHATEVER THE INPUT: true; the input reads as it did. -/
def fnExactFaultTextSpec : ChangeSpec := { name := "fnExactFaultText", fn := fun _ => fun
  | [d] => { results := [.lit (.bool true)], args := [d] }
  | _ => none }
def fnExactFaultTextRow : OpenClaim := { program := "ytghkgmgoiingcaa", sum := "549ae3c2dd93842e88f16b59e0753f59d9cc5f0f387a69a8357af801aae118ba", func := "loop.example/templateescaper/laws.FnExactFaultText", spec := "fnExactFaultText", apart := false }
def FnExactFaultTextSaid : Prop := fnExactFaultTextRow.holds Try.pinned (OpenSpec.ofChange fnExactFaultTextSpec)

/-- ITS FALSE NEIGHBOUR: 'it returns false'. Refute it at one input. -/
def fnExactFaultTextWrong : ChangeSpec := { name := "fnExactFaultText", fn := fun _ => fun
  | [d] => { results := [.lit (.bool false)], args := [d] }
  | _ => none }
def FnExactFaultTextWrongFalsely : Prop := fnExactFaultTextRow.holds Try.pinned (OpenSpec.ofChange fnExactFaultTextWrong)

/-- 'laws.FnAddressName': WHATEVER THE INPUT: true; the input reads as it did. -/
def fnAddressNameSpec : ChangeSpec := { name := "fnAddressName", fn := fun _ => fun
  | [d] => { results := [.lit (.bool true)], args := [d] }
  | _ => none }
def fnAddressNameRow : OpenClaim := { program := "ytghkgmgoiingcaa", sum := "549ae3c2dd93842e88f16b59e0753f59d9cc5f0f387a69a8357af801aae118ba", func := "loop.example/templateescaper/laws.FnAddressName", spec := "fnAddressName", apart := false }
def FnAddressNameSaid : Prop := fnAddressNameRow.holds Try.pinned (OpenSpec.ofChange fnAddressNameSpec)

/-- ITS FALSE NEIGHBOUR: 'it returns false'. Refute it at one input. -/
def fnAddressNameWrong : ChangeSpec := { name := "fnAddressName", fn := fun _ => fun
  | [d] => { results := [.lit (.bool false)], args := [d] }
  | _ => none }
def FnAddressNameWrongFalsely : Prop := fnAddressNameRow.holds Try.pinned (OpenSpec.ofChange fnAddressNameWrong)

/-- 'laws.FnFaultText': WHATEVER THE INPUT: true; the input reads as it did. -/
def fnFaultTextSpec : ChangeSpec := { name := "fnFaultText", fn := fun _ => fun
  | [d] => { results := [.lit (.bool true)], args := [d] }
  | _ => none }
def fnFaultTextRow : OpenClaim := { program := "ytghkgmgoiingcaa", sum := "549ae3c2dd93842e88f16b59e0753f59d9cc5f0f387a69a8357af801aae118ba", func := "loop.example/templateescaper/laws.FnFaultText", spec := "fnFaultText", apart := false }
def FnFaultTextSaid : Prop := fnFaultTextRow.holds Try.pinned (OpenSpec.ofChange fnFaultTextSpec)

/-- ITS FALSE NEIGHBOUR: 'it returns false'. Refute it at one input. -/
def fnFaultTextWrong : ChangeSpec := { name := "fnFaultText", fn := fun _ => fun
  | [d] => { results := [.lit (.bool false)], args := [d] }
  | _ => none }
def FnFaultTextWrongFalsely : Prop := fnFaultTextRow.holds Try.pinned (OpenSpec.ofChange fnFaultTextWrong)

/-- 'laws.FnTagAllowed': WHATEVER THE INPUT: true; the input reads as it did. -/
def fnTagAllowedSpec : ChangeSpec := { name := "fnTagAllowed", fn := fun _ => fun
  | [d] => { results := [.lit (.bool true)], args := [d] }
  | _ => none }
def fnTagAllowedRow : OpenClaim := { program := "ytghkgmgoiingcaa", sum := "549ae3c2dd93842e88f16b59e0753f59d9cc5f0f387a69a8357af801aae118ba", func := "loop.example/templateescaper/laws.FnTagAllowed", spec := "fnTagAllowed", apart := false }
def FnTagAllowedSaid : Prop := fnTagAllowedRow.holds Try.pinned (OpenSpec.ofChange fnTagAllowedSpec)

/-- ITS FALSE NEIGHBOUR: 'it returns false'. Refute it at one input. -/
def fnTagAllowedWrong : ChangeSpec := { name := "fnTagAllowed", fn := fun _ => fun
  | [d] => { results := [.lit (.bool false)], args := [d] }
  | _ => none }
def FnTagAllowedWrongFalsely : Prop := fnTagAllowedRow.holds Try.pinned (OpenSpec.ofChange fnTagAllowedWrong)

/- THE SECOND FORM. 'bulk': how many values and letters a reading holds, each counted each time it is reached (what is shared counts as often as it is met; a slice's spare places count too). A statement '..UptoSaid' is the law's where the arguments, and the package variables that the reading takes, are together of bulk at most 1048576: NARROWER than '..Said'. Prove '..Said' where nothing that the law and all that it calls make is longer than what came in: it says more and counts as full. Else prove '..UptoSaid'. A law counts once. -/
mutual
def uptoBulk {H : Type} : DataW H → Nat
  | .lit (.string bytes) => bytes.length + 1
  | .lit _ => 1
  | .nil => 1
  | .ptr d => uptoBulk d + 1
  | .slice elems spare => uptoBulkAll elems + uptoBulkAll spare + 1
  | .agg parts => uptoBulkAll parts + 1
  | .iface _ d => uptoBulk d + 1
  | .map entries => uptoBulkEntries entries + 1
  | .held _ => 1
def uptoBulkAll {H : Type} : List (DataW H) → Nat
  | [] => 0
  | d :: r => uptoBulk d + uptoBulkAll r
def uptoBulkEntries {H : Type} : List (Lit × DataW H) → Nat
  | [] => 0
  | x :: r => uptoBulkEntry x + uptoBulkEntries r
def uptoBulkEntry {H : Type} : Lit × DataW H → Nat
  | (.string bytes, d) => bytes.length + uptoBulk d + 1
  | (_, d) => uptoBulk d + 1
 end
def uptoSmall : (H : Type) → List (DataW H) → Bool := fun _ ds => decide (uptoBulkAll ds ≤ 1048576)
def OpenSpec.upto (s : _root_.Go.ChangeSpec) : _root_.Go.OpenSpec := { _root_.Go.OpenSpec.ofChange s with cond := some uptoSmall }

/-- 'laws.FnExactTagAllowed', WHERE WHAT IT READS IS OF BULK AT MOST 1048576: true; the input reads as it did. -/
def fnExactTagAllowedUptoRow : OpenClaim := { program := "ytghkgmgoiingcaa", sum := "549ae3c2dd93842e88f16b59e0753f59d9cc5f0f387a69a8357af801aae118ba", func := "loop.example/templateescaper/laws.FnExactTagAllowed", spec := "fnExactTagAllowed", apart := false, narrowed := true }
def FnExactTagAllowedUptoSaid : Prop := fnExactTagAllowedUptoRow.holds Try.pinned (OpenSpec.upto fnExactTagAllowedSpec)

/-- 'laws.FnExactFaultText', WHERE WHAT IT READS IS OF BULK AT MOST 1048576: true; the input reads as it did. -/
def fnExactFaultTextUptoRow : OpenClaim := { program := "ytghkgmgoiingcaa", sum := "549ae3c2dd93842e88f16b59e0753f59d9cc5f0f387a69a8357af801aae118ba", func := "loop.example/templateescaper/laws.FnExactFaultText", spec := "fnExactFaultText", apart := false, narrowed := true }
def FnExactFaultTextUptoSaid : Prop := fnExactFaultTextUptoRow.holds Try.pinned (OpenSpec.upto fnExactFaultTextSpec)

/-- 'laws.FnAddressName', WHERE WHAT IT READS IS OF BULK AT MOST 1048576: true; the input reads as it did. -/
def fnAddressNameUptoRow : OpenClaim := { program := "ytghkgmgoiingcaa", sum := "549ae3c2dd93842e88f16b59e0753f59d9cc5f0f387a69a8357af801aae118ba", func := "loop.example/templateescaper/laws.FnAddressName", spec := "fnAddressName", apart := false, narrowed := true }
def FnAddressNameUptoSaid : Prop := fnAddressNameUptoRow.holds Try.pinned (OpenSpec.upto fnAddressNameSpec)

/-- 'laws.FnFaultText', WHERE WHAT IT READS IS OF BULK AT MOST 1048576: true; the input reads as it did. -/
def fnFaultTextUptoRow : OpenClaim := { program := "ytghkgmgoiingcaa", sum := "549ae3c2dd93842e88f16b59e0753f59d9cc5f0f387a69a8357af801aae118ba", func := "loop.example/templateescaper/laws.FnFaultText", spec := "fnFaultText", apart := false, narrowed := true }
def FnFaultTextUptoSaid : Prop := fnFaultTextUptoRow.holds Try.pinned (OpenSpec.upto fnFaultTextSpec)

/-- 'laws.FnTagAllowed', WHERE WHAT IT READS IS OF BULK AT MOST 1048576: true; the input reads as it did. -/
def fnTagAllowedUptoRow : OpenClaim := { program := "ytghkgmgoiingcaa", sum := "549ae3c2dd93842e88f16b59e0753f59d9cc5f0f387a69a8357af801aae118ba", func := "loop.example/templateescaper/laws.FnTagAllowed", spec := "fnTagAllowed", apart := false, narrowed := true }
def FnTagAllowedUptoSaid : Prop := fnTagAllowedUptoRow.holds Try.pinned (OpenSpec.upto fnTagAllowedSpec)

end Rows
end Go.Proofs.Ytghkgmgoiingcaa
