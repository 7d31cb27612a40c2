/- The laws FnPlaceOf, FnStateBehind. -/
import Derived.Test.YtdehpafflbhadaaWD
import Derived.Test.YtdehpafflbhadaaWB
import Derived.Test.YtdehpafflbhadaaW1
import Derived.Test.YtdehpafflbhadaaWL
namespace Go.Proofs.Ytdehpafflbhadaa
set_option maxRecDepth 100000
set_option linter.unusedVariables false
set_option linter.unusedSimpArgs false
open Go.RowKit

theorem below_only' {B : Nat} {a w w' : World} {blk : Nat} (h : Below B a w) (hg : w.grownBy w' (some blk)) (hb : B ≤ blk) (hB : B ≤ a.heap.size) : Below B a w' := below_only h hg hb hB

set_option maxHeartbeats 1000000 in
theorem alive_w (w : World) : Calls Try.prog 42 #[] w fun e w' => e = .returned (.bool true) ∧ Below w.heap.size w w' := by
  go_enter Try.func42, Try.ntmps42
  go_wp2_with fail
  refine (lowerText_i _ (by decide) _).mono ?_
  rintro e w1 ⟨rfl, hb⟩
  have HB := Lib.hid hb
  clear hb
  have e1 : lowL (ByteArray.mk #[65, 98]).data.toList = [97, 98] := by decide
  rw [e1]
  go_wp2
  go_ret
  exact ⟨rfl, HB.out⟩

theorem isRow_alloc {k : IntKind} {w : World} {a : Option Addr} {len cap : Nat} {zs : List Int} (h : IsRow k w a len cap zs) (o : Obj) : IsRow k (w.alloc o) a len cap zs := by
  rcases h with h | ⟨x, rfl, hl, hm, hz, hc, hwf⟩
  · exact .inl h
  · exact .inr ⟨x, rfl, hl, hm, hz, fun i hi => (World.cell?_alloc_lt w o _ (World.block_lt_of_cell? w _ (hc i hi))).trans (hc i hi), hwf⟩

set_option maxHeartbeats 4000000 in
theorem DrawPlaceOf_any (a : Option Addr) (len cap : Nat) (zs : List Int) (w : World) (h : IsRow .u8 w a len cap zs) :
    Calls Try.prog 43 #[.slice a len cap] w fun e w' => ∃ (m : Int) (tag attr : ByteArray) (seen : Bool), e = .returned (.agg #[.int .i64 m, .string tag, .string attr, .bool seen]) ∧ tag.size ≤ 100 ∧ attr.size ≤ 100 ∧ Below w.heap.size w w' := by
  have H := Lib.hid h
  clear h
  go_enter Try.func43, Try.ntmps43
  go_wp2_with fail
  refine (open_any a len cap zs _ (isRow_alloc H.out _)).mono ?_
  rintro e w1 ⟨rfl, hrd, hb⟩
  rw [World.size_alloc] at hrd ⊢
  have HR := Lib.hid hrd
  have HB := Lib.hid (below_call ((Below.refl w.heap.size w).alloc (Nat.le_refl _) _) hb (by first | omega | (simp; done) | (simp; omega)))
  have hbs := hb.size
  have HB4 := Lib.hid ((Blk.new w 43 #[.int .i64 0, .string ⟨#[]⟩, .string ⟨#[]⟩, .bool false] rfl).below hb (by first | omega | (simp; done) | (simp; omega)))
  clear hrd hb H
  simp at hbs
  go_wp2_with fail
  refine (l20State_any (w.heap.size + 1) 0 6 (by omega) (by omega) _ (by omega) HR.out).mono ?_
  rintro e w2 ⟨m, tag, attr, seen, rfl, ht, ha, hrd, hg⟩
  have C4 := (HB4.out.grown hg (by simp)).c4
  have HB2 := Lib.hid (below_only HB.out hg (by omega) (Nat.le_refl _))
  have hsz := hg.size
  clear hrd hg HB HB4 HR
  go_wp2_with fail
  refine bodyPost_ret (v := .agg #[.int .i64 m, .string tag, .string attr, .bool seen]) (by simp [results, Try.results43, go_sem, C4]) rfl ⟨m, tag, attr, seen, rfl, ht, ha, ?_⟩
  repeat (first | with_reducible exact HB2.out | refine Below.setCell ?_ (by first | omega | (simp; done) | (simp; omega)) _)

set_option maxHeartbeats 4000000 in
theorem DrawStateBehind_any (a : Option Addr) (len cap : Nat) (zs : List Int) (w : World) (h : IsRow .u8 w a len cap zs) :
    Calls Try.prog 47 #[.slice a len cap] w fun e w' => ∃ (m : Int) (tag attr : ByteArray) (seen : Bool), e = .returned (.agg #[.int .i64 m, .string tag, .string attr, .bool seen]) ∧ tag.size ≤ 100 ∧ attr.size ≤ 100 ∧ Below w.heap.size w w' := by
  have H := Lib.hid h
  clear h
  go_enter Try.func47, Try.ntmps47
  go_wp2_with fail
  refine (open_any a len cap zs _ (isRow_alloc H.out _)).mono ?_
  rintro e w1 ⟨rfl, hrd, hb⟩
  rw [World.size_alloc] at hrd ⊢
  have HR := Lib.hid hrd
  have HB := Lib.hid (below_call ((Below.refl w.heap.size w).alloc (Nat.le_refl _) _) hb (by first | omega | (simp; done) | (simp; omega)))
  have hbs := hb.size
  have HB4 := Lib.hid ((Blk.new w 43 #[.int .i64 0, .string ⟨#[]⟩, .string ⟨#[]⟩, .bool false] rfl).below hb (by first | omega | (simp; done) | (simp; omega)))
  clear hrd hb H
  simp at hbs
  go_wp2_with fail
  refine (l20State_any (w.heap.size + 1) 0 6 (by omega) (by omega) _ (by omega) HR.out).mono ?_
  rintro e w2 ⟨m, tag, attr, seen, rfl, ht, ha, hrd, hg⟩
  have C4 := (HB4.out.grown hg (by simp)).c4
  have HB2 := Lib.hid (below_only HB.out hg (by omega) (Nat.le_refl _))
  have hsz := hg.size
  clear hrd hg HB HB4 HR
  go_wp2_with fail
  refine bodyPost_ret (v := .agg #[.int .i64 m, .string tag, .string attr, .bool seen]) (by simp [results, Try.results47, go_sem, C4]) rfl ⟨m, tag, attr, seen, rfl, ht, ha, ?_⟩
  repeat (first | with_reducible exact HB2.out | refine Below.setCell ?_ (by first | omega | (simp; done) | (simp; omega)) _)

theorem placeB_pos {m : Int} {tag attr : List UInt8} {seen : Bool} (h : ¬ placeB m tag attr seen = 0) :
    stOk m tag attr seen = true ∧ (m = 0 ∨ m = 6 ∨ m = 7 ∨ m = 12) ∧ placeB m tag attr seen ≤ 5 := by
  cases hv : stOk m tag attr seen with
  | false => exact absurd (placeB_bad hv) h
  | true =>
    refine ⟨rfl, ?_, ?_⟩
    · by_cases h1 : m = 0 ∨ m = 6 ∨ m = 7 ∨ m = 12
      · exact h1
      · exfalso
        apply h
        unfold placeB
        rw [hv, if_neg (by decide), if_neg (by omega), if_neg (by omega), if_neg (by omega)]
    · unfold placeB
      repeat' split
      all_goals omega

set_option maxHeartbeats 8000000 in
theorem FnPlaceOf_walk (a : Option Addr) (len cap : Nat) (zs : List Int) (w : World) (h : IsRow .u8 w a len cap zs) :
    Calls Try.prog 9 #[.slice a len cap] w fun e w' => e = .returned (.bool true) ∧ Below w.heap.size w w' := by
  have H := Lib.hid h
  have hmax : len ≤ maxLen := by
    rcases h with ⟨rfl, rfl, rfl, rfl⟩ | ⟨x, rfl, hl, hm, hz, hc, hwf⟩
    · omega
    · omega
  unfold maxLen at hmax
  clear h
  by_cases hbig : 1048576 < len
  · go_enter Try.func9, Try.ntmps9
    go_wp2
    go_ret
    exact ⟨rfl, Below.refl _ _⟩
  go_enter Try.func9, Try.ntmps9
  go_wp2_with fail
  refine (DrawPlaceOf_any a len cap zs _ H.out).mono ?_
  rintro e w1 ⟨m, tag, attr, seen, rfl, ht, ha, hb⟩
  have HB := Lib.hid hb
  have hbs := hb.size
  have HT : Hid (tag.size ≤ maxLen) := Lib.hid (by unfold maxLen; omega)
  have HA : Hid (attr.size ≤ maxLen) := Lib.hid (by unfold maxLen; omega)
  clear hb ht ha H
  go_wp2_with fail
  refine (placeOf_i m tag attr seen HT.out HA.out _).mono ?_
  rintro e w2 ⟨rfl, hb⟩
  have HB2 := Lib.hid (below_call (HB.out.alloc (by first | omega | (simp; done) | (simp; omega)) _) hb (by first | omega | (simp; done) | (simp; omega)))
  have hbs2 := hb.size
  simp at hbs2
  have HC := Lib.hid ((Blk.new w1 43 #[.int .i64 m, .string tag, .string attr, .bool seen] rfl).below hb (by first | omega | (simp; done) | (simp; omega)))
  have C := HC.out.c4
  have hl : w1.heap.size < w2.heap.size := by omega
  clear hb HB
  go_wp2_with fail
  refine (placeOf_s m tag attr seen HT.out HA.out _).mono ?_
  rintro e w3 ⟨rfl, hb⟩
  have HB3 := Lib.hid (below_call HB2.out hb (by first | omega | (simp; done) | (simp; omega)))
  have hbs3 := hb.size
  have HC3 := Lib.hid (HC.out.below hb (by first | omega | (simp; done) | (simp; omega)))
  have hl3 : w1.heap.size < w3.heap.size := by omega
  clear hb HB2 C HC
  have C := HC3.out.c4
  by_cases hp : placeB m tag.data.toList attr.data.toList seen = 0
  · go_wp2_with fail
    refine (alive_w _).mono ?_
    rintro e w4 ⟨rfl, hb⟩
    have HB4 := Lib.hid (below_call HB3.out hb (by first | omega | (simp; done) | (simp; omega)))
    clear hb HB3 C HC3
    go_wp2_with fail
    go_ret
    exact ⟨rfl, HB4.out⟩
  · obtain ⟨hv, hm, h5⟩ := placeB_pos hp
    have hp0 : (placeB m tag.data.toList attr.data.toList seen == 0) = false := by simp [hp]
    clear hp
    generalize placeB m tag.data.toList attr.data.toList seen = p at *
    rcases hm with rfl | rfl | rfl | rfl
    all_goals
      go_wp2_with fail
      refine (stateValid_i _ tag attr seen HT.out HA.out _).mono ?_
      rintro e w4 ⟨rfl, hb⟩
      have HB4 := Lib.hid (below_call HB3.out hb (by first | omega | (simp; done) | (simp; omega)))
      have hbs4 := hb.size
      have C' := (HC3.out.below hb (by first | omega | (simp; done) | (simp; omega))).c4
      clear hb HB3 C HC3
      go_wp2_with fail
      go_ret
      exact ⟨rfl, HB4.out⟩
end Go.Proofs.Ytdehpafflbhadaa
