/- slices.Sort and slices.Compact over a row of texts of one's own. -/
import Derived.Test.YtdedddmnacomfaaVSh
import Derived.Test.YtdedddmnacomfaaVFU
import Derived.Test.YtdedddmnacomfaaVK6
import Derived.Test.YtdedddmnacomfaaVK3
import Derived.Sort.OwnSorted
import Derived.Lib.OwnBridge

namespace Go.Proofs.Ytdedddmnacomfaa
set_option maxRecDepth 100000
set_option linter.unusedVariables false
set_option linter.unusedSimpArgs false
open Go.RowKit Go.Sort
/-- A row is changed where it stands. -/
theorem same_row {c : Cx} {mem : Mem} {n i : Nat} {e : TypeId} {s : Nat} {es es' : List (List PV)} {vs' : List Value} {v : Value} {w' : World} (hI : InvM c mem) (hn : Names c n) (hm : mem i = some (.row e s es)) (hv : c.ρ i = some v)
    (hos : w'.os = c.w.os) (htp : w'.tape = c.w.tape) (hou : w'.output = c.w.output) (hsz : c.w.heap.size ≤ w'.heap.size)
    (hblk : ∀ b, b < c.w.heap.size → v.ownBlock ≠ some b → w'.heap[b]? = c.w.heap[b]?)
    (hown : w'.ownsRow 0 e s v es'.length vs') (hr : RepL es'.flatten c.data vs') (hc : cellsOk es' s) :
    Step c mem n ⟨w', c.fz, c.ρ⟩ (upd mem i (some (.row e s es'))) n := by
  have hmr : MRep c i (fun b => v.ownBlock = some b) (.row e s es) := by
    obtain ⟨_, S, q1, _, _⟩ := id hI
    obtain ⟨v0, vs0, e1, e2, e3, e4, e5⟩ := q1 i _ hm
    rw [hv] at e1; cases e1
    exact ⟨v, vs0, hv, e2, e3, e4, rfl⟩
  obtain ⟨h1, h2, h3⟩ := InvM.put (c := c) (c' := ⟨w', c.fz, c.ρ⟩) (mem := mem) (mem' := upd mem i (some (.row e s es'))) (j := i) (S' := fun b => v.ownBlock = some b) hI (some i) rfl (fun _ _ => rfl) (.inr rfl)
    (upd_same _ _ _) (fun k hk => .inl (upd_other _ _ hk)) (fun j hj => by cases hj; exact ⟨by simp [hm], .inl rfl⟩) (.inl rfl) hsz
    (fun b hb hs => hblk b hb (fun e => hs i _ _ rfl hm hmr e)) (fun hle => ⟨v, vs', hv, hown, RepL.mono _ hle.data hr, hc, rfl⟩) (fun b hb => .inl ⟨i, _, _, rfl, hm, hmr, hb⟩)
  exact ⟨h1, h2, hos, htp, hou, hsz, fun b hb hb' => hblk b hb (fun hs => hb' ⟨i, _, _, hm, hmr, hs⟩), h3, fun b hb => .inl hb, Nat.le_refl _, fun _ _ => rfl, hn⟩
theorem strs_vals {c : Cx} : ∀ {l : List Bs} {vs : List Value}, RepL ((strs l).flatten) c vs → vs = l.map encStr
  | [], vs, h => by
    rw [strs_nil, List.flatten_nil, RepL.nil_iff] at h
    rw [h]; rfl
  | t :: l, vs, h => by
    have e : (strs (t :: l)).flatten = PV.str t :: (strs l).flatten := rfl
    rw [e, RepL.cons_iff] at h
    obtain ⟨x, xs, rfl, h1, h2⟩ := h
    unfold Rep at h1
    rw [List.map_cons, strs_vals h2, h1]
theorem strs_rep {c : Cx} : ∀ (l : List Bs), RepL ((strs l).flatten) c (l.map encStr)
  | [] => by rw [strs_nil, List.flatten_nil, RepL.nil_iff]; rfl
  | t :: l => by
    have e : (strs (t :: l)).flatten = PV.str t :: (strs l).flatten := rfl
    rw [e, RepL.cons_iff]
    refine ⟨encStr t, l.map encStr, rfl, ?_, strs_rep l⟩
    unfold Rep
    rfl
theorem strs_cells (l : List Bs) : cellsOk (strs l) 1 := by
  refine ⟨fun e he => ?_, fun u hu => ?_⟩
  · unfold strs at he
    obtain ⟨t, _, rfl⟩ := List.mem_map.1 he
    rfl
  · unfold strs at hu
    simp only [List.mem_flatten, List.mem_map] at hu
    obtain ⟨e, ⟨t, _, rfl⟩, he⟩ := hu
    simp only [List.mem_singleton] at he
    subst he; rfl
def sortL (l : List Bs) : List Bs := l.mergeSort fun x y => decide (x ≤ y)
theorem sortL_nil : sortL [] = [] := by simp [sortL]
theorem sortL_len (l : List Bs) : (sortL l).length = l.length := List.length_mergeSort l
@[go_sem] def srtC : AC := fun args mem n K => match args with
  | [.own i] => (match mem i with
    | some (.row e s es) => e = 9 ∧ s = 1 ∧ ∃ l : List Bs, es = strs l ∧ l.length ≤ 1099511627776 ∧ K (.tup []) (upd mem i (some (.row e s (strs (sortL l))))) n
    | _ => False)
  | _ => False
theorem srt_ok : ACok Try.prog 92 srtC := by
  refine ⟨⟨_, Try.func92, by kernel_rfl, by kernel_rfl⟩, fun c mem n args vs K hI hn hr hC => ?_⟩
  unfold srtC at hC
  split at hC
  · rename_i i
    split at hC
    · rename_i e s es hm
      obtain ⟨rfl, rfl, l, rfl, hl, hK⟩ := hC
      rw [RepL.cons_iff] at hr
      obtain ⟨v, vs0, rfl, hv, h0⟩ := hr
      rw [RepL.nil_iff] at h0
      subst h0
      unfold Rep at hv
      obtain ⟨_, S, q1, _, _⟩ := id hI
      obtain ⟨v0, vs0, e1, e2, e3, e4, e5⟩ := q1 i _ hm
      rw [hv] at e1; cases e1
      have e6 := strs_vals e3
      subst e6
      rw [strs_length] at e2
      rcases e2.2 with ⟨rfl, hz⟩ | ⟨g, cap, cur, rfl, hbase, hb, h1, h2, h3, h4⟩
      · have hl0 : l = [] := by
          have : l.length = 0 := by omega
          exact List.length_eq_zero_iff.1 this
        subst hl0
        refine (Try.slices_Sort_string_none none 0 c.w).mono ?_
        rintro e w' ⟨rfl, rfl⟩
        refine ⟨_, .tup [], c, mem, n, rfl, rfl, ?_, Step.refl hI hn, ?_⟩
        · have : upd mem i (some (.row 9 1 (strs (sortL [])))) = mem := by
            funext j; simp only [upd]; split
            · rename_i ej; rw [ej, hm, sortL_nil]
            · rfl
          rwa [this] at hK
        · unfold Rep; exact ⟨#[], rfl, RepL.nil_iff.2 rfl⟩
      · have hH := Go.holds_of_block (ss := l) hb (by simpa using h4)
        refine (Try.slices_Sort_string g 0 cap l c.w hH (Array.getElem?_eq_some_iff.1 hb).1 (by omega)).mono ?_
        rintro e w' ⟨rfl, nn, os, rfl⟩
        have hg := Go.grownBy_sorted (w := c.w) (g := g) (n := nn) (os := os) (sortL l).toArray
        have ho := Go.ownsRow_sorted (n := nn) (os := os) (ts := sortL l) (sortL_len l) hbase hb h1 h2 h3
        have st := same_row (es' := strs (sortL l)) hI hn hm hv hg.os hg.tape hg.output hg.size (fun b hb' hne => hg.block b hb' (fun e => hne (by rw [e]; rfl))) (by rw [strs_length, sortL_len]; exact ho) (strs_rep _) (strs_cells _)
        exact ⟨_, .tup [], _, _, n, rfl, rfl, hK, st, by unfold Rep; exact ⟨#[], rfl, RepL.nil_iff.2 rfl⟩⟩
    · exact hC.elim
  · exact hC.elim
@[go_sem] def cmpC : AC := fun args mem n K => match args with
  | [.own i] => (match mem i with
    | some (.row e s es) => e = 9 ∧ s = 1 ∧ ∃ l : List Bs, es = strs (sortL l) ∧ l.length ≤ 1099511627776 ∧ K (.own n) (upd (upd mem i none) n (some (.row e s (strs (usedL l))))) (n + 1)
    | _ => False)
  | _ => False
theorem cmp_ok : ACok Try.prog 93 cmpC := by
  refine ⟨⟨_, Try.func93, by kernel_rfl, by kernel_rfl⟩, fun c mem n args vs K hI hn hr hC => ?_⟩
  unfold cmpC at hC
  split at hC
  · rename_i i
    split at hC
    · rename_i e s es hm
      obtain ⟨rfl, rfl, l, rfl, hl, hK⟩ := hC
      rw [RepL.cons_iff] at hr
      obtain ⟨v, vs0, rfl, hv, h0⟩ := hr
      rw [RepL.nil_iff] at h0
      subst h0
      unfold Rep at hv
      obtain ⟨_, S, q1, _, _⟩ := id hI
      obtain ⟨v0, vs0, e1, e2, e3, e4, e5⟩ := q1 i _ hm
      have e2' := e2
      rw [hv] at e1; cases e1
      have e6 := strs_vals e3
      subst e6
      rw [strs_length, sortL_len] at e2
      have hsc : Lib.compact (sortL l) = usedL l := sort_compact l
      rcases e2.2 with ⟨rfl, hz⟩ | ⟨g, cap, cur, rfl, hbase, hb, h1, h2, h3, h4⟩
      · have hl0 : l = [] := by
          have : l.length = 0 := by omega
          exact List.length_eq_zero_iff.1 this
        subst hl0
        refine (Try.slices_Compact_string_empty none 0 c.w).mono ?_
        rintro e w' ⟨rfl, rfl⟩
        obtain ⟨c', hw, st, hrep, _⟩ := new_row (es := strs (usedL [])) (vs := []) hI hn (some i) (w' := c.w) (v := .slice none 0 0) rfl rfl rfl (Nat.le_refl _) (fun j hj => by cases hj; simp [hm]) (fun _ _ _ => rfl) ⟨by simp [usedL, strs], .inl ⟨rfl, rfl⟩⟩ (by rw [show usedL [] = [] from rfl, strs_nil, List.flatten_nil, RepL.nil_iff]) (strs_cells _) (fun b hb => by cases hb)
        exact ⟨_, .own n, c', _, _, rfl, hw, hK, st, hrep⟩
      · have hH : Holds encStr c.w g 0 (sortL l).toArray := Go.holds_of_block (ss := sortL l) hb (by rw [sortL_len]; simpa using h4)
        have hcall := Try.slices_Compact_string g 0 cap (sortL l) c.w hH (by rw [sortL_len]; omega) (by rw [sortL_len]; omega)
        rw [sortL_len] at hcall
        refine hcall.mono ?_
        rintro e w' ⟨rfl, q, rfl⟩
        rw [hsc]
        have hul := usedL_len l
        have ho := Lib.ownsRow_putRow (q := q) (k := (usedL l).length) (ys := usedL l ++ List.replicate (l.length - (usedL l).length) []) e2 (by simp; omega) (by omega)
        rw [List.take_left] at ho
        have hmr : MRep c i (fun b => (Value.slice (some ⟨g, 0, none⟩) l.length cap).ownBlock = some b) (.row 9 1 (strs (sortL l))) := ⟨_, _, hv, e2', e3, e4, rfl⟩
        obtain ⟨c', hw, st, hrep, _⟩ := new_row (es := strs (usedL l)) (vs := (usedL l).map encStr) hI hn (some i) (v := .slice (some ⟨g, 0, none⟩) (usedL l).length cap)
          (w' := putRow encStr (Sort.ahead c.w q) g 0 (usedL l ++ List.replicate (l.length - (usedL l).length) []).toArray) rfl rfl rfl (by simp [putRow, mapBlock, Sort.ahead]) (fun j hj => by cases hj; simp [hm])
          (fun b hb' hs => by
            have hne : g ≠ b := fun e => hs i _ _ rfl hm hmr (by rw [← e]; rfl)
            simp [putRow, mapBlock, Sort.ahead, Array.getElem?_modify, hne]) (by rw [strs_length]; exact ho) (strs_rep _) (strs_cells _) (fun b hb' => .inl ⟨i, _, _, rfl, hm, hmr, hb'⟩)
        exact ⟨_, .own n, c', _, _, rfl, hw, hK, st, hrep⟩
    · exact hC.elim
  · exact hC.elim
end Go.Proofs.Ytdedddmnacomfaa
