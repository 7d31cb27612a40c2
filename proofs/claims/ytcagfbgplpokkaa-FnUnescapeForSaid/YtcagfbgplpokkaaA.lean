/- append(out, x) at this program's slice types. -/
import Derived.Test.YtcagfbgplpokkaaRows
import Derived.Test.YtcagfbgplpokkaaM2
namespace Go.Proofs.Ytcagfbgplpokkaa
set_option maxRecDepth 100000
set_option linter.unusedVariables false
set_option linter.unusedSimpArgs false
open Go.RowKit

theorem info_u8 : (Try.prog.info? 5).map (fun i => (i.zero, i.size, i.bytes)) = some (some (.int .u8 0), 1, 1) := by kernel_rfl
theorem app_u8 (W : World) {ops : Array Oper} {rest : List Oper} {o : Oper} {a : Act} {Q : Exit → Act → World → Prop} (hgd : o.guard = none) (s x : Operand)
    (ho : o.op = .call { callee := .builtin .append, args := #[s, x], argTypes := #[40, 40] })
    {base : Nat} {v : Value} {n : Nat} {xs : List Value} (hown : W.ownsRow base 5 1 v n xs) (hs : a.eval s = v)
    {u : Value} (hx : a.eval x = .slice (some ⟨W.heap.size, 0, none⟩) 1 1) (h1 : u.oneCell' = true) (h47 : n + 1 ≤ 140737488355328) (hbase : base ≤ W.heap.size)
    (h : ∀ v' w', w'.ownsRow base 5 1 v' (n + 1) (xs ++ [u]) → W.grownBy w' v.ownBlock → (v'.ownBlock = v.ownBlock ∨ v'.ownBlock = some (W.heap.size + 1)) → wpList Try.prog ops Q rest (a.put o.dst v') w') :
    wpList Try.prog ops Q (o :: rest) a (W.alloc (.cells #[u] 5)) := by
  obtain ⟨i0, hi, hz0, hz1, hz2⟩ := info_parts info_u8
  exact wpList_append_new (P := Try.prog) W hgd s x _ ho 5 i0 _ 1 1 Try.underlying40 hi hz0 hz1 hz2 rfl (by decide) hown hs [u] hx rfl (by intro y hy; simp at hy; subst hy; exact h1) (by unfold maxLen; omega) (by omega) hbase h
theorem info_string : (Try.prog.info? 9).map (fun i => (i.zero, i.size, i.bytes)) = some (some (.string ByteArray.empty), 1, 16) := by kernel_rfl
theorem app_string (W : World) {ops : Array Oper} {rest : List Oper} {o : Oper} {a : Act} {Q : Exit → Act → World → Prop} (hgd : o.guard = none) (s x : Operand)
    (ho : o.op = .call { callee := .builtin .append, args := #[s, x], argTypes := #[24, 24] })
    {base : Nat} {v : Value} {n : Nat} {xs : List Value} (hown : W.ownsRow base 9 1 v n xs) (hs : a.eval s = v)
    {u : Value} (hx : a.eval x = .slice (some ⟨W.heap.size, 0, none⟩) 1 1) (h1 : u.oneCell' = true) (h47 : n + 1 ≤ 8796093022208) (hbase : base ≤ W.heap.size)
    (h : ∀ v' w', w'.ownsRow base 9 1 v' (n + 1) (xs ++ [u]) → W.grownBy w' v.ownBlock → (v'.ownBlock = v.ownBlock ∨ v'.ownBlock = some (W.heap.size + 1)) → wpList Try.prog ops Q rest (a.put o.dst v') w') :
    wpList Try.prog ops Q (o :: rest) a (W.alloc (.cells #[u] 9)) := by
  obtain ⟨i0, hi, hz0, hz1, hz2⟩ := info_parts info_string
  exact wpList_append_new (P := Try.prog) W hgd s x _ ho 9 i0 _ 1 16 Try.underlying24 hi hz0 hz1 hz2 rfl (by decide) hown hs [u] hx rfl (by intro y hy; simp at hy; subst hy; exact h1) (by unfold maxLen; omega) (by omega) hbase h
end Go.Proofs.Ytcagfbgplpokkaa
