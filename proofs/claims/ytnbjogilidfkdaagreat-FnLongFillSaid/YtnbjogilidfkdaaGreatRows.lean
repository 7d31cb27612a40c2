/-
  NARROWER THAN 'FOR EVERY INPUT', by the rows' own cells (each row's printed sentence says how): FnExactFillMixed: loops.
  DERIVED. THE GIVEN ROWS OF THIS SEAT. 3 by the template 'for every input the law returns true; each argument reads behind the call as it read before'; 0 by the template 'total and deterministic' (their statements: YtnbjogilidfkdaaGreatTotals.lean).
  GIVEN WITH THE SEED: the statements are not yours to turn. If you find one false, say at which input.
  Laid BY PROGRAM, IN A SANDBOX (cutbox-rows.mjs): the forced cells as the released guide's own fill.sh prints them over the translation 04ceda77265792fa… (all of the seat's roots in one cut). By AI agents, Wed Nov 11 2026. No macro, syntax, notation, axiom, sorry.
-/
import Derived.Test.YtnbjogilidfkdaaGreatChecked
import GoSem.Claim
import GoSem.ClaimJoined
import GoSem.ClaimMapViews
import Derived.JoinedTies
import Derived.KernelRfl
namespace Go.Proofs.YtnbjogilidfkdaaGreat
/- THE CELL 'sum', in the pinned program and in every row, IS THE sha256 OF THE DUMP (.gsa) THAT YtnbjogilidfkdaaGreatProg.lean LOADS. Nothing in Lean hashes anything: it is a label: what it is worth is what the hold of that sum in a sandbox is worth. -/
noncomputable def Tryz.pinned : Pinned := { name := "ytnbjogilidfkdaagreat", sum := "04ceda77265792fa39c080f92331be1fc77e70802c38d26ab47596da1dec5162", checked := Tryz.checked }
namespace Rows
def none {H : Type} : Left H := { results := [], args := [] }

/-- 'laws.FnLongFill': WHATEVER THE INPUT: true; the input reads as it did. -/
def fnLongFillSpec : ChangeSpec := { name := "fnLongFill", fn := fun _ => fun
  | [d] => { results := [.lit (.bool true)], args := [d] }
  | _ => none }
def fnLongFillRow : OpenClaim := { program := "ytnbjogilidfkdaagreat", sum := "04ceda77265792fa39c080f92331be1fc77e70802c38d26ab47596da1dec5162", func := "loop.example/templateescaper/laws.FnLongFill", spec := "fnLongFill", inPlace := ["internal/bytealg.IndexByteString", "internal/bytealg.IndexString", "internal/abi.NoEscape"], unfollowed := true, recurses := true, named := ["internal/bytealg.MaxLen"], apart := false }
def FnLongFillSaid : Prop := fnLongFillRow.holds Tryz.pinned (OpenSpec.ofChange fnLongFillSpec)

/-- ITS FALSE NEIGHBOUR: 'it returns false'. Refute it at one input. -/
def fnLongFillWrong : ChangeSpec := { name := "fnLongFill", fn := fun _ => fun
  | [d] => { results := [.lit (.bool false)], args := [d] }
  | _ => none }
def FnLongFillWrongFalsely : Prop := fnLongFillRow.holds Tryz.pinned (OpenSpec.ofChange fnLongFillWrong)

/-- 'laws.FnExactFillMixed': WHATEVER THE INPUT: true; the input reads as it did. -/
def fnExactFillMixedSpec : ChangeSpec := { name := "fnExactFillMixed", fn := fun _ => fun
  | [d1, d2] => { results := [.lit (.bool true)], args := [d1, d2] }
  | _ => none }
def fnExactFillMixedRow : OpenClaim := { program := "ytnbjogilidfkdaagreat", sum := "04ceda77265792fa39c080f92331be1fc77e70802c38d26ab47596da1dec5162", func := "loop.example/templateescaper/laws.FnExactFillMixed", spec := "fnExactFillMixed", inPlace := ["internal/bytealg.IndexByteString", "internal/bytealg.IndexString", "internal/abi.NoEscape"], unfollowed := true, recurses := true, named := ["internal/bytealg.MaxLen"], loops := true, apart := false }
def FnExactFillMixedSaid : Prop := fnExactFillMixedRow.holds Tryz.pinned (OpenSpec.ofChange fnExactFillMixedSpec)

/-- ITS FALSE NEIGHBOUR: 'it returns false'. Refute it at one input. -/
def fnExactFillMixedWrong : ChangeSpec := { name := "fnExactFillMixed", fn := fun _ => fun
  | [d1, d2] => { results := [.lit (.bool false)], args := [d1, d2] }
  | _ => none }
def FnExactFillMixedWrongFalsely : Prop := fnExactFillMixedRow.holds Tryz.pinned (OpenSpec.ofChange fnExactFillMixedWrong)

/-- 'laws.FnFillMixed': WHATEVER THE INPUT: true; the input reads as it did. -/
def fnFillMixedSpec : ChangeSpec := { name := "fnFillMixed", fn := fun _ => fun
  | [d] => { results := [.lit (.bool true)], args := [d] }
  | _ => none }
def fnFillMixedRow : OpenClaim := { program := "ytnbjogilidfkdaagreat", sum := "04ceda77265792fa39c080f92331be1fc77e70802c38d26ab47596da1dec5162", func := "loop.example/templateescaper/laws.FnFillMixed", spec := "fnFillMixed", inPlace := ["internal/bytealg.IndexByteString", "internal/bytealg.IndexString", "internal/abi.NoEscape"], unfollowed := true, recurses := true, named := ["internal/bytealg.MaxLen"], apart := false }
def FnFillMixedSaid : Prop := fnFillMixedRow.holds Tryz.pinned (OpenSpec.ofChange fnFillMixedSpec)

/-- ITS FALSE NEIGHBOUR: 'it returns false'. Refute it at one input. -/
def fnFillMixedWrong : ChangeSpec := { name := "fnFillMixed", fn := fun _ => fun
  | [d] => { results := [.lit (.bool false)], args := [d] }
  | _ => none }
def FnFillMixedWrongFalsely : Prop := fnFillMixedRow.holds Tryz.pinned (OpenSpec.ofChange fnFillMixedWrong)

/- THE SECOND FORM. 'bulk': how many values and letters a reading holds, each counted each time it is reached (what is shared counts as often as it is met; a slice's spare places count too). A statement '..UptoSaid' is the law's where the arguments, and the package variables that the reading takes, are together of bulk at most 1048576: NARROWER than '..Said'. Prove '..Said' where nothing that the law and all that it calls make is longer than what came in: it says more and counts as full. Else prove '..UptoSaid'. A law counts once. -/
mutual
def uptoBulk {H : Type} : DataW H → Nat
  | .lit (.string bytes) => bytes.length + 1
  | .lit _ => 1
  | .nil => 1
  | .ptr d => uptoBulk d + 1
  | .slice elems spare => uptoBulkAll elems + uptoBulkAll spare + 1
  | .agg parts => uptoBulkAll parts + 1
  | .iface _ d => uptoBulk d + 1
  | .map entries => uptoBulkEntries entries + 1
  | .held _ => 1
def uptoBulkAll {H : Type} : List (DataW H) → Nat
  | [] => 0
  | d :: r => uptoBulk d + uptoBulkAll r
def uptoBulkEntries {H : Type} : List (Lit × DataW H) → Nat
  | [] => 0
  | x :: r => uptoBulkEntry x + uptoBulkEntries r
def uptoBulkEntry {H : Type} : Lit × DataW H → Nat
  | (.string bytes, d) => bytes.length + uptoBulk d + 1
  | (_, d) => uptoBulk d + 1
 end
def uptoSmall : (H : Type) → List (DataW H) → Bool := fun _ ds => decide (uptoBulkAll ds ≤ 1048576)
def OpenSpec.upto (s : _root_.Go.ChangeSpec) : _root_.Go.OpenSpec := { _root_.Go.OpenSpec.ofChange s with cond := some uptoSmall }

/-- 'laws.FnLongFill', WHERE WHAT IT READS IS OF BULK AT MOST 1048576: true; the input reads as it did. -/
def fnLongFillUptoRow : OpenClaim := { program := "ytnbjogilidfkdaagreat", sum := "04ceda77265792fa39c080f92331be1fc77e70802c38d26ab47596da1dec5162", func := "loop.example/templateescaper/laws.FnLongFill", spec := "fnLongFill", inPlace := ["internal/bytealg.IndexByteString", "internal/bytealg.IndexString", "internal/abi.NoEscape"], unfollowed := true, recurses := true, named := ["internal/bytealg.MaxLen"], apart := false, narrowed := true }
def FnLongFillUptoSaid : Prop := fnLongFillUptoRow.holds Tryz.pinned (OpenSpec.upto fnLongFillSpec)

/-- 'laws.FnExactFillMixed', WHERE WHAT IT READS IS OF BULK AT MOST 1048576: true; the input reads as it did. -/
def fnExactFillMixedUptoRow : OpenClaim := { program := "ytnbjogilidfkdaagreat", sum := "04ceda77265792fa39c080f92331be1fc77e70802c38d26ab47596da1dec5162", func := "loop.example/templateescaper/laws.FnExactFillMixed", spec := "fnExactFillMixed", inPlace := ["internal/bytealg.IndexByteString", "internal/bytealg.IndexString", "internal/abi.NoEscape"], unfollowed := true, recurses := true, named := ["internal/bytealg.MaxLen"], loops := true, apart := false, narrowed := true }
def FnExactFillMixedUptoSaid : Prop := fnExactFillMixedUptoRow.holds Tryz.pinned (OpenSpec.upto fnExactFillMixedSpec)

/-- 'laws.FnFillMixed', WHERE WHAT IT READS IS OF BULK AT MOST 1048576: true; the input reads as it did. -/
def fnFillMixedUptoRow : OpenClaim := { program := "ytnbjogilidfkdaagreat", sum := "04ceda77265792fa39c080f92331be1fc77e70802c38d26ab47596da1dec5162", func := "loop.example/templateescaper/laws.FnFillMixed", spec := "fnFillMixed", inPlace := ["internal/bytealg.IndexByteString", "internal/bytealg.IndexString", "internal/abi.NoEscape"], unfollowed := true, recurses := true, named := ["internal/bytealg.MaxLen"], apart := false, narrowed := true }
def FnFillMixedUptoSaid : Prop := fnFillMixedUptoRow.holds Tryz.pinned (OpenSpec.upto fnFillMixedSpec)

end Rows
end Go.Proofs.YtnbjogilidfkdaaGreat
