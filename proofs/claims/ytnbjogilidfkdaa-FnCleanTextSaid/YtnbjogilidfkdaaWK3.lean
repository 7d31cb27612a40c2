/- Data; what comes when parts are filled in: as data. No program. -/
import Derived.Test.YtnbjogilidfkdaaWFM
import Derived.Test.YtnbjogilidfkdaaWFP
import Derived.Test.YtnbjogilidfkdaaWFE

namespace Go.Proofs.Ytnbjogilidfkdaa
set_option maxRecDepth 100000
set_option linter.unusedVariables false
set_option linter.unusedSimpArgs false
open Go.RowKit
structure FieldD where
  name : Bs
  text : Bs
  holds : Bool
  items : List Bs
  deriving DecidableEq
def strs (l : List Bs) : List (List PV) := l.map fun t => [.str t]
inductive Ev where
  | txt (t : Bs)
  | hole (f : FieldD) (s : St)
end Go.Proofs.Ytnbjogilidfkdaa

/- Tokens of markup: what is read, as the program and as the reference do. Plain. -/
namespace Go.Proofs.Ytnbjogilidfkdaa
set_option maxRecDepth 100000
set_option linter.unusedVariables false
set_option linter.unusedSimpArgs false
open Go.RowKit
structure TokD where
  kind : Int
  name : Bs
  value : Bs
  pairs : List (Bs × Bs)
  deriving DecidableEq
def encPr (p : Bs × Bs) : List PV := [.str p.1, .str p.2]
def encPrs (l : List (Bs × Bs)) : List (List PV) := l.map encPr
def encTk (t : TokD) : List PV := [.int .i64 t.kind, .str t.name, .str t.value, .seq (encPrs t.pairs)]
def encTks (l : List TokD) : List (List PV) := l.map encTk
def tkText (v : Bs) : TokD := ⟨1, [], v, []⟩
def tkOpen (n : Bs) (ps : List (Bs × Bs)) : TokD := ⟨2, n, [], ps⟩
def tkEnd (n : Bs) : TokD := ⟨3, n, [], []⟩
def tkCom (v : Bs) : TokD := ⟨4, [], v, []⟩
def tkScr (v : Bs) : TokD := ⟨5, [], v, []⟩
def unPs (ps : List (Bs × Bs)) : List (Bs × Bs) := ps.map fun p => (p.1, unT p.2)
/-- The last attribute, turned. -/
def lastP (g : Bs × Bs → Bs × Bs) : List (Bs × Bs) → List (Bs × Bs)
  | [] => []
  | [p] => [g p]
  | p :: q :: r => p :: lastP g (q :: r)
theorem lastP_snoc (g : Bs × Bs → Bs × Bs) : ∀ (l : List (Bs × Bs)) (p : Bs × Bs), lastP g (l ++ [p]) = l ++ [g p]
  | [], p => rfl
  | [q], p => by simp [lastP]
  | q :: r :: l, p => by
    have := lastP_snoc g (r :: l) p
    simpa [lastP] using this
structure TkI where
  s : St
  raw : Bs
  ps : List (Bs × Bs)
  out : List TokD
def tkI0 : TkI := ⟨st0, [], [], []⟩
/-- The texts: behind a byte, where the state behind it is n. -/
def rawI (x : TkI) (n : St) (b : UInt8) : Bs × List TokD :=
  if x.s.mode = 0 ∧ n.mode = 0 then (x.raw ++ [b], x.out)
  else if x.s.mode = 0 then ([], if x.raw = [] then x.out else x.out ++ [tkText (unT x.raw)])
  else if x.s.mode = 1 ∧ n.mode = 2 then (x.raw, x.out)
  else if x.s.mode = 9 ∧ n.mode = 0 then (x.raw, x.out ++ [tkEnd x.s.tag])
  else if x.s.mode = 10 ∧ n.mode = 0 then ([], x.out ++ [tkCom x.raw])
  else if x.s.mode = 10 then (x.raw ++ [b], x.out)
  else if x.s.mode = 14 ∧ n.mode = 9 then ([], if 1 < x.raw.length then x.out ++ [tkScr x.raw.dropLast] else x.out)
  else if 11 ≤ x.s.mode then (x.raw ++ [b], x.out)
  else (x.raw, x.out)
def prsI (x : TkI) (n : St) (b : UInt8) : List (Bs × Bs) :=
  if x.s.mode = 1 ∧ n.mode = 2 then []
  else if 2 ≤ x.s.mode ∧ x.s.mode ≤ 8 then
    (if n.mode = 4 ∧ x.s.mode = 3 then x.ps ++ [(n.attr, [])]
     else if n.mode = 4 then lastP (fun p => (n.attr, p.2)) x.ps
     else if n.mode = 8 ∨ x.s.mode = n.mode ∧ (n.mode = 6 ∨ n.mode = 7) then lastP (fun p => (p.1, p.2 ++ [b])) x.ps
     else if n.mode = 0 ∨ n.mode = 11 then []
     else x.ps)
  else x.ps
def tkStep (x : TkI) (b : UInt8) : Option TkI :=
  if (step x.s b).mode = 15 then none
  else if (2 ≤ x.s.mode ∧ x.s.mode ≤ 8) ∧ ((step x.s b).mode = 0 ∨ (step x.s b).mode = 11) then
    (if 60 < x.ps.length then none else some ⟨step x.s b, x.raw, [], x.out ++ [tkOpen x.s.tag (unPs x.ps)]⟩)
  else some ⟨step x.s b, (rawI x (step x.s b) b).1, prsI x (step x.s b) b, (rawI x (step x.s b) b).2⟩
def tkFold : TkI → Bs → Option TkI
  | x, [] => some x
  | x, b :: t => (tkStep x b).bind fun y => tkFold y t
def tkFin (x : TkI) : Option (List TokD) :=
  if x.s.mode ≠ 0 then none
  else if (if x.raw = [] then x.out else x.out ++ [tkText (unT x.raw)]).length > 60 then none
  else some (if x.raw = [] then x.out else x.out ++ [tkText (unT x.raw)])
def tokM (t : Bs) : Option (List TokD) := if textB t = true then (tkFold tkI0 t).bind tkFin else none
theorem tkFold_cons (x : TkI) (b : UInt8) (t : Bs) : tkFold x (b :: t) = (tkStep x b).bind fun y => tkFold y t := rfl
theorem tkFold_append : ∀ (t u : Bs) (x : TkI), tkFold x (t ++ u) = (tkFold x t).bind fun y => tkFold y u
  | [], u, x => rfl
  | b :: t, u, x => by
    rw [List.cons_append, tkFold_cons, tkFold_cons]
    cases tkStep x b with
    | none => rfl
    | some y => exact tkFold_append t u y
/-- The state, the text and the attributes fit: where an attribute is read there is one. -/
structure TkOk (x : TkI) : Prop where
  v : stV x.s = true
  raw : x.raw ≠ [] → x.s.mode = 0 ∨ 10 ≤ x.s.mode
  ps : 4 ≤ x.s.mode ∧ x.s.mode ≤ 8 → ∃ l v, x.ps = l ++ [(x.s.attr, v)]
  z : ¬ (2 ≤ x.s.mode ∧ x.s.mode ≤ 8) → x.ps = []
  less : x.s.mode = 14 → x.raw ≠ []
theorem tkI0_ok : TkOk tkI0 := ⟨stV_st0, fun h => absurd rfl h, fun h => by simp [tkI0, st0] at h, fun _ => rfl, fun h => by simp [tkI0, st0] at h⟩
/-- Where a byte leads from a mode. -/
theorem step_modes {s : St} (h : stV s = true) (b : UInt8) : (step s b).mode = 15 ∨
    (s.mode = 0 ∧ ((step s b).mode = 0 ∨ (step s b).mode = 1)) ∨
    (s.mode = 1 ∧ ((step s b).mode = 2 ∨ (step s b).mode = 9 ∨ (step s b).mode = 10)) ∨
    (s.mode = 2 ∧ ((step s b).mode = 2 ∨ (step s b).mode = 3 ∨ (step s b).mode = 0 ∨ (step s b).mode = 11)) ∨
    (s.mode = 3 ∧ ((step s b).mode = 3 ∨ (step s b).mode = 4 ∨ (step s b).mode = 0 ∨ (step s b).mode = 11)) ∨
    (s.mode = 4 ∧ ((step s b).mode = 3 ∨ (step s b).mode = 4 ∨ (step s b).mode = 5 ∧ (step s b).attr = s.attr ∨ (step s b).mode = 0 ∨ (step s b).mode = 11)) ∨
    (s.mode = 5 ∧ ((step s b).mode = 6 ∨ (step s b).mode = 7 ∨ (step s b).mode = 8) ∧ (step s b).attr = s.attr) ∨
    (s.mode = 6 ∧ ((step s b).mode = 3 ∨ (step s b).mode = 6 ∧ (step s b).attr = s.attr)) ∨
    (s.mode = 7 ∧ ((step s b).mode = 3 ∨ (step s b).mode = 7 ∧ (step s b).attr = s.attr)) ∨
    (s.mode = 8 ∧ ((step s b).mode = 3 ∨ (step s b).mode = 8 ∧ (step s b).attr = s.attr ∨ (step s b).mode = 0 ∨ (step s b).mode = 11)) ∨
    (s.mode = 9 ∧ ((step s b).mode = 0 ∨ (step s b).mode = 9)) ∨
    (s.mode = 10 ∧ ((step s b).mode = 0 ∨ (step s b).mode = 10)) ∨
    (s.mode = 11 ∧ ((step s b).mode = 11 ∨ (step s b).mode = 12 ∨ (step s b).mode = 14)) ∨
    (s.mode = 12 ∧ ((step s b).mode = 11 ∨ (step s b).mode = 12 ∨ (step s b).mode = 13)) ∨
    (s.mode = 13 ∧ (step s b).mode = 12) ∨
    (s.mode = 14 ∧ ((step s b).mode = 9 ∨ (step s b).mode = 11 ∨ (step s b).mode = 12 ∨ (step s b).mode = 14)) := by
  rw [step_val h]
  have tagm : s.mode = 2 ∨ s.mode = 3 ∨ s.mode = 4 ∨ s.mode = 8 → stepV s b = stepTagM s b := fun m => stepV_t m
  rcases modes h with m | m | m | m | m | m | m | m | m | m | m | m | m
  · rw [stepV_0 m]; split <;> simp [m, st0]
  · rw [stepV_1 m]; (repeat' split) <;> simp [m, bad]
  · rw [stepV_t m]
    unfold stepTagM longT longA
    rcases m with m | m | m | m <;> (repeat' split) <;> simp_all [st0, bad]
  · rw [stepV_5 m]; (repeat' split) <;> simp [m, bad]
  · rw [stepV_6 m]; (repeat' split) <;> simp [m, bad]
  · rw [stepV_7 m]; (repeat' split) <;> simp [m, bad]
  · rw [stepV_9 m]
    unfold longT
    (repeat' split) <;> simp [m, bad, st0]
  · rw [stepV_10 m]; (repeat' split) <;> simp [m, bad, st0]
  · rw [stepV_11 m]; (repeat' split) <;> simp [m, bad]
  · rw [stepV_12 m]; (repeat' split) <;> simp [m, bad]
  · rw [stepV_13 m]; (repeat' split) <;> simp [m, bad]
  · rw [stepV_14 m]; (repeat' split) <;> simp [m, bad]
  · rw [stepV_15 m]; simp [bad]
set_option maxHeartbeats 4000000 in
theorem tk_ok {x y : TkI} {b : UInt8} (h : TkOk x) (e : tkStep x b = some y) : TkOk y := by
  obtain ⟨hv, hr, hp, hz, hl⟩ := h
  have hv' := stV_step x.s b
  have hm := step_modes hv b
  unfold tkStep at e
  generalize step x.s b = n at *
  obtain ⟨xs, raw, ps, out⟩ := x
  dsimp only at *
  have hraw : ¬ (xs.mode = 0 ∨ 10 ≤ xs.mode) → raw = [] := fun h9 => Classical.byContradiction fun h8 => h9 (hr h8)
  split at e
  · cases e
  rename_i n15
  have hm := hm.resolve_left n15
  split at e
  · rename_i hc
    split at e
    · cases e
    · cases e
      have := hraw (by omega)
      subst this
      exact ⟨hv', fun h9 => absurd rfl h9, fun h9 => by dsimp only at *; omega, fun _ => rfl, fun h9 => by dsimp only at *; omega⟩
  · rename_i hc
    cases e
    by_cases h48 : 4 ≤ xs.mode ∧ xs.mode ≤ 8
    · obtain ⟨l, v, rfl⟩ := hp h48
      have := hraw (by omega)
      subst this
      rcases hm with ⟨m, _⟩ | ⟨m, _⟩ | ⟨m, _⟩ | ⟨m, _⟩ | ⟨m, m' | m' | ⟨m', ha⟩ | m' | m'⟩ | ⟨m, m' | m' | m', ha⟩ | ⟨m, m' | ⟨m', ha⟩⟩ | ⟨m, m' | ⟨m', ha⟩⟩ | ⟨m, m' | ⟨m', ha⟩ | m' | m'⟩ | ⟨m, _⟩ | ⟨m, _⟩ | ⟨m, _⟩ | ⟨m, _⟩ | ⟨m, _⟩ | ⟨m, _⟩
      all_goals first
        | (exfalso; omega)
        | (refine ⟨hv', ?_, ?_, ?_, ?_⟩ <;> simp [rawI, prsI, m, m', lastP_snoc, *]; done)
        | (refine ⟨hv', ?_, ?_, ?_, ?_⟩ <;> simp [rawI, prsI, m, m', lastP_snoc, *] <;> exact ⟨_, _, rfl⟩)
    · by_cases h23 : xs.mode = 2 ∨ xs.mode = 3
      · have := hraw (by omega)
        subst this
        rcases hm with ⟨m, _⟩ | ⟨m, _⟩ | ⟨m, m' | m' | m' | m'⟩ | ⟨m, m' | m' | m' | m'⟩ | ⟨m, _⟩ | ⟨m, _⟩ | ⟨m, _⟩ | ⟨m, _⟩ | ⟨m, _⟩ | ⟨m, _⟩ | ⟨m, _⟩ | ⟨m, _⟩ | ⟨m, _⟩ | ⟨m, _⟩ | ⟨m, _⟩
        all_goals first
          | (exfalso; omega)
          | (refine ⟨hv', ?_, ?_, ?_, ?_⟩ <;> simp [rawI, prsI, m, m']; done)
          | (refine ⟨hv', ?_, ?_, ?_, ?_⟩ <;> simp [rawI, prsI, m, m'] <;> exact ⟨_, _, rfl⟩)
      · have := hz (by omega)
        subst this
        rcases hm with ⟨m, m' | m'⟩ | ⟨m, m' | m' | m'⟩ | ⟨m, _⟩ | ⟨m, _⟩ | ⟨m, _⟩ | ⟨m, _⟩ | ⟨m, _⟩ | ⟨m, _⟩ | ⟨m, _⟩ | ⟨m, m' | m'⟩ | ⟨m, m' | m'⟩ | ⟨m, m' | m' | m'⟩ | ⟨m, m' | m' | m'⟩ | ⟨m, m'⟩ | ⟨m, m' | m' | m' | m'⟩
        all_goals first
          | (exfalso; omega)
          | (refine ⟨hv', ?_, ?_, ?_, ?_⟩ <;> simp [rawI, prsI, m, m'] <;> (try (have := hraw (by omega); simp_all)); done)
          | skip
structure TkS where
  s : St
  buf : Bs
  ps : List (Bs × Bs)
  out : List TokD
end Go.Proofs.Ytnbjogilidfkdaa

/- Tokens of markup: the program's reading and the reference's agree. Plain. -/
namespace Go.Proofs.Ytnbjogilidfkdaa
set_option maxRecDepth 100000
set_option linter.unusedVariables false
set_option linter.unusedSimpArgs false
open Go.RowKit
theorem unPs_append (a b : List (Bs × Bs)) : unPs (a ++ b) = unPs a ++ unPs b := by simp [unPs]
theorem unPs_len (a : List (Bs × Bs)) : (unPs a).length = a.length := by simp [unPs]
theorem lastP_len (g : Bs × Bs → Bs × Bs) : ∀ l : List (Bs × Bs), (lastP g l).length = l.length
  | [] => rfl
  | [p] => rfl
  | p :: q :: r => by
    have := lastP_len g (q :: r)
    simp [lastP, this]
structure SimT (x : TkI) (y : TkS) : Prop where
  ok : TkOk x
  s : x.s = y.s
  out : x.out = y.out
  b0 : x.s.mode = 0 ∨ 10 ≤ x.s.mode → x.raw = y.buf
  b1 : (1 ≤ x.s.mode ∧ x.s.mode ≤ 5) ∨ x.s.mode = 9 → y.buf = []
  p1 : x.s.mode = 1 → y.ps = []
  p2 : x.s.mode = 2 ∨ x.s.mode = 3 → y.ps = unPs x.ps
  p4 : 4 ≤ x.s.mode ∧ x.s.mode ≤ 8 → ∃ l, x.ps = l ++ [(x.s.attr, y.buf)] ∧ y.ps = unPs l
  lo : y.out.length ≤ 60
  lp : y.ps.length ≤ 60
theorem tkStep_go {x : TkI} {b : UInt8} (n15 : (step x.s b).mode ≠ 15) (hcl : ¬ ((2 ≤ x.s.mode ∧ x.s.mode ≤ 8) ∧ ((step x.s b).mode = 0 ∨ (step x.s b).mode = 11))) : tkStep x b = some ⟨step x.s b, (rawI x (step x.s b) b).1, prsI x (step x.s b) b, (rawI x (step x.s b) b).2⟩ := by
  unfold tkStep
  rw [if_neg n15, if_neg hcl]
theorem tkStep_end {x : TkI} {b : UInt8} (n15 : (step x.s b).mode ≠ 15) (hcl : (2 ≤ x.s.mode ∧ x.s.mode ≤ 8) ∧ ((step x.s b).mode = 0 ∨ (step x.s b).mode = 11)) : tkStep x b = if 60 < x.ps.length then none else some ⟨step x.s b, x.raw, [], x.out ++ [tkOpen x.s.tag (unPs x.ps)]⟩ := by
  unfold tkStep
  rw [if_neg n15, if_pos hcl]
end Go.Proofs.Ytnbjogilidfkdaa

/- Trusted markup: balanced tokens, tags that are closed, cleaned tokens. Plain. -/
namespace Go.Proofs.Ytnbjogilidfkdaa
set_option maxRecDepth 100000
set_option linter.unusedVariables false
set_option linter.unusedSimpArgs false
open Go.RowKit
def tagN (n : Bs) : Bool := decide (n = [98]) || decide (n = [105]) || decide (n = [112]) || decide (n = [97]) || decide (n = [117, 108]) || decide (n = [108, 105]) || decide (n = [98, 114]) || decide (n = [105, 109, 103])
def voidN (n : Bs) : Bool := decide (n = [98, 114]) || decide (n = [105, 109, 103]) || decide (n = [104, 114])
def prN (t : Bs) (p : Bs × Bs) : Bool := if p.1 = [116, 105, 116, 108, 101] then true else if p.1 = [104, 114, 101, 102] ∧ t = [97] ∨ p.1 = [115, 114, 99] ∧ t = [105, 109, 103] then safeB p.2 else false
def balF : List Bs → List TokD → Bool
  | [], [] => true
  | _ :: _, [] => false
  | [], t :: r => if t.kind = 3 then false else if t.kind = 2 ∧ voidN t.name = false then balF [t.name] r else balF [] r
  | n :: st, t :: r => if t.kind = 3 then decide (n = t.name) && balF st r else if t.kind = 2 ∧ voidN t.name = false then balF (t.name :: n :: st) r else balF (n :: st) r
def closeF : List Bs → List TokD → List TokD
  | st, [] => st.map tkEnd
  | [], t :: r => if t.kind = 3 then closeF [] r else if t.kind = 2 ∧ voidN t.name = false then t :: closeF [t.name] r else t :: closeF [] r
  | n :: st, t :: r => if t.kind = 3 then (if n = t.name then t :: closeF st r else closeF (n :: st) r) else if t.kind = 2 ∧ voidN t.name = false then t :: closeF (t.name :: n :: st) r else t :: closeF (n :: st) r
theorem bal_3 {st : List Bs} {t : TokD} {r : List TokD} (h : t.kind = 3) : balF st (t :: r) = match st with | [] => false | n :: q => decide (n = t.name) && balF q r := by
  cases st <;> simp [balF, h]
theorem bal_2 {st : List Bs} {t : TokD} {r : List TokD} (h : t.kind = 2) (hv : voidN t.name = false) : balF st (t :: r) = balF (t.name :: st) r := by
  cases st <;> simp [balF, h, hv]
theorem bal_o {st : List Bs} {t : TokD} {r : List TokD} (h : t.kind ≠ 3) (h2 : ¬ (t.kind = 2 ∧ voidN t.name = false)) : balF st (t :: r) = balF st r := by
  cases st <;> simp only [balF, if_neg h, if_neg h2]
theorem close_3 {st : List Bs} {t : TokD} {r : List TokD} (h : t.kind = 3) : closeF st (t :: r) = match st with | [] => closeF [] r | n :: q => if n = t.name then t :: closeF q r else closeF (n :: q) r := by
  cases st <;> simp [closeF, h]
theorem close_2 {st : List Bs} {t : TokD} {r : List TokD} (h : t.kind = 2) (hv : voidN t.name = false) : closeF st (t :: r) = t :: closeF (t.name :: st) r := by
  cases st <;> simp [closeF, h, hv]
theorem close_o {st : List Bs} {t : TokD} {r : List TokD} (h : t.kind ≠ 3) (h2 : ¬ (t.kind = 2 ∧ voidN t.name = false)) : closeF st (t :: r) = t :: closeF st r := by
  cases st <;> simp only [closeF, if_neg h, if_neg h2]
theorem close_nil (st : List Bs) : closeF st [] = st.map tkEnd := by cases st <;> rfl
theorem close_id : ∀ (l : List TokD) (st : List Bs), balF st l = true → closeF st l = l
  | [], [], _ => rfl
  | [], _ :: _, h => by simp [balF] at h
  | t :: r, st, h => by
    by_cases h3 : t.kind = 3
    · rw [bal_3 h3] at h
      rw [close_3 h3]
      cases st with
      | nil => simp at h
      | cons n q =>
        dsimp only at h ⊢
        simp only [Bool.and_eq_true, decide_eq_true_eq] at h
        rw [if_pos h.1, close_id r q h.2]
    · by_cases h2 : t.kind = 2 ∧ voidN t.name = false
      · rw [bal_2 h2.1 h2.2] at h
        rw [close_2 h2.1 h2.2, close_id r _ h]
      · rw [bal_o h3 h2] at h
        rw [close_o h3 h2, close_id r st h]
def dropN (t : TokD) : Bool := decide (t.kind = 4) || decide (t.kind = 5) || (decide (t.kind ≠ 1) && !tagN t.name)
def keepT (t : TokD) : TokD := { t with pairs := t.pairs.filter (prN t.name) }
def keepMk (l : List TokD) : List TokD := (l.filter fun t => !dropN t).map keepT
/-- A token that may stay. -/
def goodT (t : TokD) : Prop := (t.kind = 1 ∨ t.kind = 2 ∨ t.kind = 3) ∧ (t.kind ≠ 1 → tagN t.name = true) ∧ ∀ p ∈ t.pairs, prN t.name p = true
/-- A token that a text is divided into. -/
def wfT (t : TokD) : Prop := (t.kind = 1 ∨ t.kind = 2 ∨ t.kind = 3 ∨ t.kind = 4 ∨ t.kind = 5) ∧ (t.kind ≠ 2 → t.pairs = [])
theorem keep_good {l : List TokD} (h : ∀ t ∈ l, wfT t) : ∀ t ∈ keepMk l, goodT t := by
  intro t ht
  obtain ⟨u, hu, rfl⟩ := List.mem_map.1 ht
  obtain ⟨h1, h2⟩ := List.mem_filter.1 hu
  have hw := h u h1
  unfold dropN at h2
  simp only [Bool.not_eq_true', Bool.or_eq_false_iff, Bool.and_eq_false_iff, decide_eq_false_iff_not, Bool.not_eq_false'] at h2
  have hw1 := hw.1
  refine ⟨show u.kind = 1 ∨ u.kind = 2 ∨ u.kind = 3 by omega, fun h9 => ?_, fun p hp => (List.mem_filter.1 hp).2⟩
  have h9 : u.kind ≠ 1 := h9
  rcases h2.2 with h3 | h3
  · exact absurd h9 h3
  · exact h3
theorem keep_id : ∀ {l : List TokD}, (∀ t ∈ l, goodT t) → keepMk l = l
  | [], _ => rfl
  | t :: r, h => by
    have ht := h t List.mem_cons_self
    have ih := keep_id (l := r) (fun u hu => h u (List.mem_cons_of_mem _ hu))
    have hd : dropN t = false := by
      obtain ⟨h1, h2, _⟩ := ht
      unfold dropN
      rcases h1 with e | e | e
      · simp [e]
      · have := h2 (by omega); simp [e, this]
      · have := h2 (by omega); simp [e, this]
    have hk : keepT t = t := by
      unfold keepT
      have : t.pairs.filter (prN t.name) = t.pairs := List.filter_eq_self.2 ht.2.2
      rw [this]
    unfold keepMk at *
    rw [List.filter_cons, hd]
    simp only [Bool.not_false, if_true, List.map_cons, hk, ih]
theorem close_good : ∀ (l : List TokD) (st : List Bs), (∀ t ∈ l, goodT t) → (∀ n ∈ st, tagN n = true) → ∀ t ∈ closeF st l, goodT t
  | [], st, _, hs => by
    rw [close_nil]
    intro t ht
    obtain ⟨n, hn, rfl⟩ := List.mem_map.1 ht
    exact ⟨.inr (.inr rfl), fun _ => hs n hn, fun p hp => by cases hp⟩
  | t :: r, st, h, hs => by
    have ht := h t List.mem_cons_self
    have hr : ∀ u ∈ r, goodT u := fun u hu => h u (List.mem_cons_of_mem _ hu)
    by_cases h3 : t.kind = 3
    · rw [close_3 h3]
      cases st with
      | nil => exact close_good r [] hr hs
      | cons n q =>
        dsimp only
        split
        · intro u hu
          rcases List.mem_cons.1 hu with rfl | hu
          · exact ht
          · exact close_good r q hr (fun m hm => hs m (List.mem_cons_of_mem _ hm)) u hu
        · exact close_good r (n :: q) hr hs
    · by_cases h2 : t.kind = 2 ∧ voidN t.name = false
      · rw [close_2 h2.1 h2.2]
        intro u hu
        rcases List.mem_cons.1 hu with rfl | hu
        · exact ht
        · refine close_good r _ hr (fun m hm => ?_) u hu
          rcases List.mem_cons.1 hm with rfl | hm
          · exact ht.2.1 (by omega)
          · exact hs m hm
      · rw [close_o h3 h2]
        intro u hu
        rcases List.mem_cons.1 hu with rfl | hu
        · exact ht
        · exact close_good r st hr hs u hu
/-- One more token behind others. -/
def addT : List TokD → TokD → List TokD
  | [], t => [t]
  | [u], t => if t.kind = 1 ∧ u.kind = 1 then [{ u with value := u.value ++ t.value }] else [u, t]
  | u :: v :: r, t => u :: addT (v :: r) t
def joinM (l : List TokD) : List TokD := l.foldl addT []
theorem addT_snoc : ∀ (l : List TokD) (u t : TokD), addT (l ++ [u]) t = if t.kind = 1 ∧ u.kind = 1 then l ++ [{ u with value := u.value ++ t.value }] else l ++ [u, t]
  | [], u, t => by simp only [List.nil_append]; rw [addT]
  | [v], u, t => by
    show v :: addT ([] ++ [u]) t = _
    rw [addT_snoc []]
    split <;> rfl
  | v :: w :: r, u, t => by
    show v :: addT ((w :: r) ++ [u]) t = _
    rw [addT_snoc (w :: r)]
    split <;> rfl
theorem addT_nil (t : TokD) : addT [] t = [t] := rfl
/-- No two texts stand one behind the other. -/
def noAdj : List TokD → Bool
  | t :: u :: r => !(decide (t.kind = 1) && decide (u.kind = 1)) && noAdj (u :: r)
  | _ => true
theorem noAdj_cons (t u : TokD) (r : List TokD) : noAdj (t :: u :: r) = (!(decide (t.kind = 1) && decide (u.kind = 1)) && noAdj (u :: r)) := rfl
theorem snoc_cases {α : Type} (l : List α) : l = [] ∨ ∃ q x, l = q ++ [x] := by
  rcases List.eq_nil_or_concat l with h | ⟨q, x, h⟩
  · exact .inl h
  · exact .inr ⟨q, x, by rw [h, List.concat_eq_append]⟩
theorem join_id {l : List TokD} (h : noAdj l = true) : joinM l = l := by
  have key : ∀ (l q : List TokD), noAdj (q ++ l) = true → l.foldl addT q = q ++ l := by
    intro l
    induction l with
    | nil => intro q _; simp
    | cons t r ih =>
      intro q h
      have hq : addT q t = q ++ [t] := by
        rcases snoc_cases q with rfl | ⟨p, u, rfl⟩
        · rfl
        · rw [addT_snoc, if_neg, List.append_assoc]; rfl
          rintro ⟨h1, h2⟩
          have e : (p ++ [u]) ++ t :: r = p ++ (u :: t :: r) := by simp
          rw [e] at h
          have hsuf : ∀ (p : List TokD), noAdj (p ++ (u :: t :: r)) = true → noAdj (u :: t :: r) = true := by
            intro p
            induction p with
            | nil => intro h; exact h
            | cons v s ihs =>
              intro h
              refine ihs ?_
              cases s with
              | nil => rw [List.cons_append, List.nil_append, noAdj_cons, Bool.and_eq_true] at h; exact h.2
              | cons w s => rw [List.cons_append, List.cons_append, noAdj_cons, Bool.and_eq_true] at h; exact h.2
          have := hsuf p h
          rw [noAdj_cons] at this
          simp [h1, h2] at this
      rw [List.foldl_cons, hq, ih (q ++ [t]) (by rw [List.append_assoc]; exact h), List.append_assoc]; rfl
  exact key l [] h
theorem add_good {l : List TokD} {t : TokD} (h : ∀ u ∈ l, goodT u) (ht : goodT t) : ∀ u ∈ addT l t, goodT u := by
  rcases snoc_cases l with rfl | ⟨q, v, rfl⟩
  · intro u hu
    obtain rfl : u = t := by simpa [addT_nil] using hu
    exact ht
  · rw [addT_snoc]
    split
    · intro u hu
      rcases List.mem_append.1 hu with hu | hu
      · exact h u (List.mem_append_left _ hu)
      · obtain rfl : u = _ := by simpa using hu
        exact h v (by simp)
    · intro u hu
      rcases List.mem_append.1 hu with hu | hu
      · exact h u (List.mem_append_left _ hu)
      · rcases List.mem_cons.1 hu with rfl | hu
        · exact h u (by simp)
        · obtain rfl : u = t := by simpa using hu
          exact ht
theorem join_good {l : List TokD} (h : ∀ u ∈ l, goodT u) : ∀ u ∈ joinM l, goodT u := by
  have key : ∀ (l q : List TokD), (∀ u ∈ l, goodT u) → (∀ u ∈ q, goodT u) → ∀ u ∈ l.foldl addT q, goodT u := by
    intro l
    induction l with
    | nil => intro q _ h; exact h
    | cons t r ih =>
      intro q hl hq
      exact ih _ (fun u hu => hl u (List.mem_cons_of_mem _ hu)) (add_good hq (hl t List.mem_cons_self))
  exact key l [] h (fun u hu => by cases hu)
def cleanMk (l : List TokD) : List TokD := joinM (closeF [] (keepMk l))
theorem clean_good {l : List TokD} (h : ∀ t ∈ l, wfT t) : ∀ t ∈ cleanMk l, goodT t := join_good (close_good _ [] (keep_good h) (fun n hn => by cases hn))
/-- What is clean stays as it is. -/
theorem clean_id {l : List TokD} (h1 : ∀ t ∈ l, goodT t) (h2 : balF [] l = true) (h3 : noAdj l = true) : cleanMk l = l := by
  unfold cleanMk
  rw [keep_id h1, close_id l [] h2, join_id h3]
end Go.Proofs.Ytnbjogilidfkdaa

/- Printed tokens are read back. Plain. -/
namespace Go.Proofs.Ytnbjogilidfkdaa
set_option maxRecDepth 100000
set_option linter.unusedVariables false
set_option linter.unusedSimpArgs false
open Go.RowKit
theorem nm_byte : ∀ b : UInt8, okNm b.toNat = true → nmByte b = true ∧ low1 b = b ∧ b.toNat ≠ 62 ∧ b.toNat ≠ 32 ∧ b.toNat ≠ 61 ∧ (isLet b = true ∨ isDig b = true ∨ b.toNat = 45) := all_bytes (by decide)
theorem let_byte : ∀ b : UInt8, 97 ≤ b.toNat ∧ b.toNat ≤ 122 → isLet b = true ∧ low1 b = b ∧ b.toNat ≠ 62 ∧ b.toNat ≠ 32 ∧ b.toNat ≠ 61 := all_bytes (by decide)
theorem nameB_iff {s : Bs} : nameB s = true ↔ (1 ≤ s.length ∧ s.length ≤ 10 ∧ 97 ≤ (s.getD 0 0).toNat ∧ (s.getD 0 0).toNat ≤ 122) ∧ ∀ b ∈ s, okNm b.toNat = true := by
  unfold nameB allB
  rw [Bool.and_eq_true, decide_eq_true_eq, List.all_eq_true]
theorem nameB_cons {c : UInt8} {t : Bs} (h : nameB (c :: t) = true) : (97 ≤ c.toNat ∧ c.toNat ≤ 122) ∧ nameB [c] = true := by
  rw [nameB_iff] at h
  have h1 : 97 ≤ c.toNat ∧ c.toNat ≤ 122 := h.1.2.2
  exact ⟨h1, nameB_one h1⟩
theorem nameB_pre {m t : Bs} (hm : m ≠ []) (h : nameB (m ++ t) = true) : nameB m = true := by
  rw [nameB_iff] at *
  obtain ⟨⟨h1, h2, h3, h4⟩, h5⟩ := h
  cases m with
  | nil => exact absurd rfl hm
  | cons c r =>
    rw [List.length_append] at h2
    exact ⟨⟨by simp, by omega, h3, h4⟩, fun b hb => h5 b (List.mem_append_left _ hb)⟩
theorem nameB_mid {m t : Bs} {b : UInt8} (h : nameB (m ++ b :: t) = true) : okNm b.toNat = true ∧ m.length + 1 ≤ 10 := by
  rw [nameB_iff] at h
  have h2 := h.1.2.1
  rw [List.length_append, List.length_cons] at h2
  exact ⟨h.2 b (by simp), by omega⟩
theorem stV_2 {m : Bs} (h : nameB m = true) : stV ⟨2, m, [], false⟩ = true := by simp [stV, tagOk, attrOk, seenOk, h]
theorem stV_3 {m : Bs} (h : nameB m = true) : stV ⟨3, m, [], false⟩ = true := by simp [stV, tagOk, attrOk, seenOk, h]
theorem stV_4 {m a : Bs} (h : nameB m = true) (h' : nameB a = true) : stV ⟨4, m, a, false⟩ = true := by simp [stV, tagOk, attrOk, seenOk, h, h']
theorem stV_5 {m a : Bs} (h : nameB m = true) (h' : nameB a = true) : stV ⟨5, m, a, false⟩ = true := by simp [stV, tagOk, attrOk, seenOk, h, h']
theorem stV_67 {k : Int} (hk : k = 6 ∨ k = 7) {m a : Bs} (h : nameB m = true) (h' : nameB a = true) (s : Bool) : stV ⟨k, m, a, s⟩ = true := by
  rcases hk with rfl | rfl <;> simp [stV, tagOk, attrOk, seenOk, h, h']
theorem stV_9 {m : Bs} (h : m = [] ∨ nameB m = true) : stV ⟨9, m, [], false⟩ = true := by
  rcases h with rfl | h
  · decide
  · simp [stV, tagOk, attrOk, seenOk, h]
theorem stV_1 : stV ⟨1, [], [], false⟩ = true := by decide
theorem fold_nil (x : TkI) : tkFold x [] = some x := rfl
theorem fold_one {x y : TkI} {b : UInt8} {t : Bs} (h : tkStep x b = some y) : tkFold x (b :: t) = tkFold y t := by rw [tkFold_cons, h]; rfl
theorem fold_run {x y : TkI} {t u : Bs} (h : tkFold x t = some y) : tkFold x (t ++ u) = tkFold y u := by rw [tkFold_append, h]; rfl
/-- Texts without a bracket. -/
theorem run_text : ∀ (t raw : Bs) (out : List TokD), (∀ b ∈ t, b.toNat ≠ 60) → tkFold ⟨st0, raw, [], out⟩ t = some ⟨st0, raw ++ t, [], out⟩
  | [], raw, out, _ => by rw [fold_nil, List.append_nil]
  | b :: t, raw, out, h => by
    have hb := h b List.mem_cons_self
    have hs : step st0 b = st0 := by rw [step_val stV_st0, stepV_0 rfl, if_neg hb]
    have e : tkStep ⟨st0, raw, [], out⟩ b = some ⟨st0, raw ++ [b], [], out⟩ := by
      rw [tkStep_go (by rw [hs]; simp [st0]) (by dsimp only; rw [hs]; simp [st0])]
      have hs' := hs
      unfold st0 at hs'
      simp [rawI, prsI, hs', st0]
    rw [fold_one e, run_text t _ out (fun c hc => h c (List.mem_cons_of_mem _ hc)), List.append_assoc]; rfl
/-- A bracket: the text before it is told. -/
def flushT (raw : Bs) (out : List TokD) : List TokD := if raw = [] then out else out ++ [tkText (unT raw)]
theorem step_lt (raw : Bs) (out : List TokD) : tkStep ⟨st0, raw, [], out⟩ 60 = some ⟨⟨1, [], [], false⟩, [], [], flushT raw out⟩ := by
  have hs : step st0 60 = ⟨1, [], [], false⟩ := by decide
  rw [tkStep_go (by rw [hs]; simp [st0]) (by dsimp only; rw [hs]; simp [st0])]
  have hs' := hs
  unfold st0 at hs'
  simp [rawI, prsI, hs', st0, flushT]
/-- A name behind </. -/
theorem run_end9 : ∀ (t m : Bs) (out : List TokD), m ≠ [] → nameB (m ++ t) = true → tkFold ⟨⟨9, m, [], false⟩, [], [], out⟩ t = some ⟨⟨9, m ++ t, [], false⟩, [], [], out⟩
  | [], m, out, _, _ => by rw [fold_nil, List.append_nil]
  | b :: t, m, out, hm, h => by
    obtain ⟨h1, h2⟩ := nameB_mid h
    obtain ⟨g1, g2, g3, g4, g5, g6⟩ := nm_byte b h1
    have hv := stV_9 (.inr (nameB_pre hm h))
    have hs : step ⟨9, m, [], false⟩ b = ⟨9, m ++ [b], [], false⟩ := by
      rw [step_val hv, stepV_9 rfl, if_neg (by simp [g3])]
      rw [if_pos]
      · unfold longT
        rw [if_neg (by dsimp only; omega), g2]
      · rcases g6 with g | g
        · exact .inl g
        · exact .inr ⟨hm, g⟩
    have e : tkStep ⟨⟨9, m, [], false⟩, [], [], out⟩ b = some ⟨⟨9, m ++ [b], [], false⟩, [], [], out⟩ := by
      rw [tkStep_go (by rw [hs]; simp [st0]) (by dsimp only; omega)]
      simp [rawI, prsI, hs]
    rw [fold_one e, run_end9 t (m ++ [b]) out (by simp) (by rw [List.append_assoc]; exact h), List.append_assoc]; rfl
theorem run_end (n raw : Bs) (out : List TokD) (h : nameB n = true) : tkFold ⟨st0, raw, [], out⟩ ([60, 47] ++ n ++ [62]) = some ⟨st0, [], [], flushT raw out ++ [tkEnd n]⟩ := by
  cases n with
  | nil => rw [nameB_iff] at h; simp at h
  | cons c t =>
    obtain ⟨hc, h1⟩ := nameB_cons h
    obtain ⟨g1, g2, g3, g4, g5⟩ := let_byte c hc
    have e1 : tkStep ⟨⟨1, [], [], false⟩, [], [], flushT raw out⟩ 47 = some ⟨⟨9, [], [], false⟩, [], [], flushT raw out⟩ := by
      have hs : step ⟨1, [], [], false⟩ 47 = ⟨9, [], [], false⟩ := by decide
      rw [tkStep_go (by rw [hs]; simp [st0]) (by dsimp only; rw [hs]; decide)]
      simp [rawI, prsI, hs]
    have e2 : tkStep ⟨⟨9, [], [], false⟩, [], [], flushT raw out⟩ c = some ⟨⟨9, [c], [], false⟩, [], [], flushT raw out⟩ := by
      have hs : step ⟨9, [], [], false⟩ c = ⟨9, [c], [], false⟩ := by
        rw [step_val (stV_9 (.inl rfl)), stepV_9 rfl, if_neg (by simp), if_pos (.inl g1)]
        unfold longT
        rw [if_neg (by simp), g2]; rfl
      rw [tkStep_go (by rw [hs]; simp [st0]) (by dsimp only; rw [hs]; simp)]
      simp [rawI, prsI, hs]
    have e3 : tkStep ⟨⟨9, c :: t, [], false⟩, [], [], flushT raw out⟩ 62 = some ⟨st0, [], [], flushT raw out ++ [tkEnd (c :: t)]⟩ := by
      have hs : step ⟨9, c :: t, [], false⟩ 62 = st0 := by
        rw [step_val (stV_9 (.inr h)), stepV_9 rfl, if_pos (by simp)]
      rw [tkStep_go (by rw [hs]; simp [st0]) (by dsimp only; rw [hs]; simp)]
      simp [rawI, prsI, hs, st0]
    have e4 := run_end9 t [c] (flushT raw out) (by simp) h
    show tkFold _ (60 :: 47 :: c :: (t ++ [62])) = _
    rw [fold_one (step_lt raw out), fold_one e1, fold_one e2, fold_run e4, List.singleton_append, fold_one e3, fold_nil]
/-- A name behind <. -/
theorem run_tag2 : ∀ (t m : Bs) (out : List TokD), m ≠ [] → nameB (m ++ t) = true → tkFold ⟨⟨2, m, [], false⟩, [], [], out⟩ t = some ⟨⟨2, m ++ t, [], false⟩, [], [], out⟩
  | [], m, out, _, _ => by rw [fold_nil, List.append_nil]
  | b :: t, m, out, hm, h => by
    obtain ⟨h1, h2⟩ := nameB_mid h
    obtain ⟨g1, g2, g3, g4, g5, g6⟩ := nm_byte b h1
    have hv := stV_2 (nameB_pre hm h)
    have hs : step ⟨2, m, [], false⟩ b = ⟨2, m ++ [b], [], false⟩ := by
      rw [step_val hv, stepV_t (.inl rfl)]
      unfold stepTagM longT
      rw [if_neg g3, if_neg g4, if_pos ⟨rfl, g1⟩, if_neg (by dsimp only; omega), g2]
    have e : tkStep ⟨⟨2, m, [], false⟩, [], [], out⟩ b = some ⟨⟨2, m ++ [b], [], false⟩, [], [], out⟩ := by
      rw [tkStep_go (by rw [hs]; simp [st0]) (by dsimp only; rw [hs]; simp)]
      simp [rawI, prsI, hs]
    rw [fold_one e, run_tag2 t (m ++ [b]) out (by simp) (by rw [List.append_assoc]; exact h), List.append_assoc]; rfl
theorem run_open (n raw : Bs) (out : List TokD) (h : nameB n = true) : tkFold ⟨st0, raw, [], out⟩ ([60] ++ n) = some ⟨⟨2, n, [], false⟩, [], [], flushT raw out⟩ := by
  cases n with
  | nil => rw [nameB_iff] at h; simp at h
  | cons c t =>
    obtain ⟨hc, h1⟩ := nameB_cons h
    obtain ⟨g1, g2, g3, g4, g5⟩ := let_byte c hc
    have e2 : tkStep ⟨⟨1, [], [], false⟩, [], [], flushT raw out⟩ c = some ⟨⟨2, [c], [], false⟩, [], [], flushT raw out⟩ := by
      have hs : step ⟨1, [], [], false⟩ c = ⟨2, [c], [], false⟩ := by
        rw [step_val stV_1, stepV_1 rfl, if_pos g1, g2]
      rw [tkStep_go (by rw [hs]; simp [st0]) (by dsimp only; rw [hs]; simp)]
      simp [rawI, prsI, hs]
    show tkFold _ (60 :: c :: t) = _
    rw [fold_one (step_lt raw out), fold_one e2, run_tag2 t [c] (flushT raw out) (by simp) h]; rfl
/-- The name of an attribute. -/
theorem run_attr4 : ∀ (t a n : Bs) (ps : List (Bs × Bs)) (out : List TokD), a ≠ [] → nameB n = true → nameB (a ++ t) = true → tkFold ⟨⟨4, n, a, false⟩, [], ps ++ [(a, [])], out⟩ t = some ⟨⟨4, n, a ++ t, false⟩, [], ps ++ [(a ++ t, [])], out⟩
  | [], a, n, ps, out, _, _, _ => by rw [fold_nil, List.append_nil]
  | b :: t, a, n, ps, out, hm, hn, h => by
    obtain ⟨h1, h2⟩ := nameB_mid h
    obtain ⟨g1, g2, g3, g4, g5, g6⟩ := nm_byte b h1
    have hv := stV_4 hn (nameB_pre hm h)
    have hs : step ⟨4, n, a, false⟩ b = ⟨4, n, a ++ [b], false⟩ := by
      rw [step_val hv, stepV_t (.inr (.inr (.inl rfl)))]
      unfold stepTagM longA
      rw [if_neg g3, if_neg g4, if_neg (by simp), if_neg (by simp), if_pos ⟨rfl, g1⟩, if_neg (by dsimp only; omega), g2]
    have e : tkStep ⟨⟨4, n, a, false⟩, [], ps ++ [(a, [])], out⟩ b = some ⟨⟨4, n, a ++ [b], false⟩, [], ps ++ [(a ++ [b], [])], out⟩ := by
      rw [tkStep_go (by rw [hs]; simp [st0]) (by dsimp only; rw [hs]; simp)]
      simp [rawI, prsI, hs, lastP_snoc]
    rw [fold_one e, run_attr4 t (a ++ [b]) n ps out (by simp) hn (by rw [List.append_assoc]; exact h), List.append_assoc]; rfl
/-- A value in quotes. -/
theorem run_val {k : Int} {q : Nat} (hk : k = 6 ∧ q = 34 ∨ k = 7 ∧ q = 39) : ∀ (t v n a : Bs) (s : Bool) (ps : List (Bs × Bs)) (out : List TokD), nameB n = true → nameB a = true → (∀ b ∈ t, b.toNat ≠ q) →
    tkFold ⟨⟨k, n, a, s⟩, [], ps ++ [(a, v)], out⟩ t = some ⟨⟨k, n, a, s || !t.isEmpty⟩, [], ps ++ [(a, v ++ t)], out⟩
  | [], v, n, a, s, ps, out, _, _, _ => by rw [fold_nil, List.append_nil]; simp
  | b :: t, v, n, a, s, ps, out, hn, ha, h => by
    have hb := h b List.mem_cons_self
    have hv := stV_67 (by omega : k = 6 ∨ k = 7) hn ha s
    have hs : step ⟨k, n, a, s⟩ b = ⟨k, n, a, true⟩ := by
      rw [step_val hv]
      rcases hk with ⟨rfl, rfl⟩ | ⟨rfl, rfl⟩
      · rw [stepV_6 rfl, if_neg hb]
      · rw [stepV_7 rfl, if_neg hb]
    have e : tkStep ⟨⟨k, n, a, s⟩, [], ps ++ [(a, v)], out⟩ b = some ⟨⟨k, n, a, true⟩, [], ps ++ [(a, v ++ [b])], out⟩ := by
      rw [tkStep_go (by rw [hs]; dsimp only; omega) (by dsimp only; rw [hs]; dsimp only; omega)]
      rcases hk with ⟨rfl, rfl⟩ | ⟨rfl, rfl⟩ <;> simp [rawI, prsI, hs, lastP_snoc]
    rw [fold_one e, run_val hk t (v ++ [b]) n a true ps out hn ha (fun c hc => h c (List.mem_cons_of_mem _ hc)), List.append_assoc]
    simp
theorem run_pair {k : Int} {q : UInt8} (hk : k = 6 ∧ q = 34 ∨ k = 7 ∧ q = 39) (n a v : Bs) (ps : List (Bs × Bs)) (out : List TokD) (m : Int) (hm : m = 2 ∨ m = 3) (hn : nameB n = true) (ha : nameB a = true) (hv : ∀ b ∈ v, b.toNat ≠ q.toNat) :
    tkFold ⟨⟨m, n, [], false⟩, [], ps, out⟩ ([32] ++ a ++ [61, q] ++ v ++ [q]) = some ⟨⟨3, n, [], false⟩, [], ps ++ [(a, v)], out⟩ := by
  cases a with
  | nil => rw [nameB_iff] at ha; simp at ha
  | cons c t =>
    obtain ⟨hc, h1⟩ := nameB_cons ha
    obtain ⟨g1, g2, g3, g4, g5⟩ := let_byte c hc
    have hq : k = 6 ∧ q.toNat = 34 ∨ k = 7 ∧ q.toNat = 39 := by
      rcases hk with ⟨h, rfl⟩ | ⟨h, rfl⟩
      · exact .inl ⟨h, rfl⟩
      · exact .inr ⟨h, rfl⟩
    have e0 : tkStep ⟨⟨m, n, [], false⟩, [], ps, out⟩ 32 = some ⟨⟨3, n, [], false⟩, [], ps, out⟩ := by
      have hs : step ⟨m, n, [], false⟩ 32 = ⟨3, n, [], false⟩ := by
        rcases hm with rfl | rfl
        · rw [step_val (stV_2 hn), stepV_t (.inl rfl)]; rfl
        · rw [step_val (stV_3 hn), stepV_t (.inr (.inl rfl))]; rfl
      rw [tkStep_go (by rw [hs]; simp [st0]) (by dsimp only; rw [hs]; simp)]
      rcases hm with rfl | rfl <;> simp [rawI, prsI, hs]
    have e1 : tkStep ⟨⟨3, n, [], false⟩, [], ps, out⟩ c = some ⟨⟨4, n, [c], false⟩, [], ps ++ [([c], [])], out⟩ := by
      have hs : step ⟨3, n, [], false⟩ c = ⟨4, n, [c], false⟩ := by
        rw [step_val (stV_3 hn), stepV_t (.inr (.inl rfl))]
        unfold stepTagM longA
        rw [if_neg g3, if_neg g4, if_neg (by simp), if_pos ⟨rfl, g1⟩, if_neg (by simp), g2]; rfl
      rw [tkStep_go (by rw [hs]; simp [st0]) (by dsimp only; rw [hs]; simp)]
      simp [rawI, prsI, hs]
    have e2 := run_attr4 t [c] n ps out (by simp) hn ha
    have e3 : tkStep ⟨⟨4, n, c :: t, false⟩, [], ps ++ [(c :: t, [])], out⟩ 61 = some ⟨⟨5, n, c :: t, false⟩, [], ps ++ [(c :: t, [])], out⟩ := by
      have hs : step ⟨4, n, c :: t, false⟩ 61 = ⟨5, n, c :: t, false⟩ := by
        rw [step_val (stV_4 hn ha), stepV_t (.inr (.inr (.inl rfl)))]; rfl
      rw [tkStep_go (by rw [hs]; simp [st0]) (by dsimp only; rw [hs]; simp)]
      simp [rawI, prsI, hs]
    have e4 : tkStep ⟨⟨5, n, c :: t, false⟩, [], ps ++ [(c :: t, [])], out⟩ q = some ⟨⟨k, n, c :: t, false⟩, [], ps ++ [(c :: t, [])], out⟩ := by
      have hs : step ⟨5, n, c :: t, false⟩ q = ⟨k, n, c :: t, false⟩ := by
        rw [step_val (stV_5 hn ha), stepV_5 rfl]
        rcases hq with ⟨rfl, hq⟩ | ⟨rfl, hq⟩
        · rw [if_pos hq]
        · rw [if_neg (by omega), if_pos hq]
      rw [tkStep_go (by rw [hs]; dsimp only; omega) (by dsimp only; rw [hs]; dsimp only; omega)]
      rcases hq with ⟨rfl, hq⟩ | ⟨rfl, hq⟩ <;> simp [rawI, prsI, hs]
    have e5 := run_val hq v [] n (c :: t) false ps out hn ha hv
    have e6 : ∀ s, tkStep ⟨⟨k, n, c :: t, s⟩, [], ps ++ [(c :: t, v)], out⟩ q = some ⟨⟨3, n, [], false⟩, [], ps ++ [(c :: t, v)], out⟩ := by
      intro s
      have hs : step ⟨k, n, c :: t, s⟩ q = ⟨3, n, [], false⟩ := by
        rw [step_val (stV_67 (by omega) hn ha s)]
        rcases hq with ⟨rfl, hq⟩ | ⟨rfl, hq⟩
        · rw [stepV_6 rfl, if_pos hq]
        · rw [stepV_7 rfl, if_pos hq]
      rw [tkStep_go (by rw [hs]; simp [st0]) (by dsimp only; rw [hs]; simp)]
      rcases hq with ⟨rfl, hq⟩ | ⟨rfl, hq⟩ <;> simp [rawI, prsI, hs]
    have es : [32] ++ c :: t ++ [61, q] ++ v ++ [q] = 32 :: c :: (t ++ (61 :: q :: (v ++ [q]))) := by simp
    rw [es, fold_one e0, fold_one e1, fold_run e2]
    show tkFold ⟨⟨4, n, c :: t, false⟩, [], ps ++ [(c :: t, [])], out⟩ _ = _
    rw [fold_one e3, fold_one e4, fold_run e5, List.nil_append, fold_one (e6 _), fold_nil]
/-- A tag ends. -/
theorem run_close {n : Bs} (hn : nameB n = true) (hs : n ≠ script) (ps : List (Bs × Bs)) (out : List TokD) (m : Int) (hm : m = 2 ∨ m = 3) (hl : ps.length ≤ 60) :
    tkStep ⟨⟨m, n, [], false⟩, [], ps, out⟩ 62 = some ⟨st0, [], [], out ++ [tkOpen n (unPs ps)]⟩ := by
  have hst : step ⟨m, n, [], false⟩ 62 = st0 := by
    rcases hm with rfl | rfl
    · rw [step_val (stV_2 hn), stepV_t (.inl rfl)]
      unfold stepTagM
      rw [if_pos (by decide), if_neg hs]
    · rw [step_val (stV_3 hn), stepV_t (.inr (.inl rfl))]
      unfold stepTagM
      rw [if_pos (by decide), if_neg hs]
  rw [tkStep_end (by rw [hst]; simp [st0]) (by dsimp only; rw [hst]; exact ⟨by omega, .inl rfl⟩), if_neg (by dsimp only; omega), hst]
def printP (p : Bs × Bs) : Bs := [32] ++ p.1 ++ [61, 34] ++ escT p.2 ++ [34]
def printT (t : TokD) : Bs :=
  if t.kind = 1 then escT t.value
  else if t.kind = 3 then [60, 47] ++ t.name ++ [62]
  else if t.kind = 4 then [60, 33] ++ t.value ++ [62]
  else if t.kind = 5 then t.value
  else [60] ++ t.name ++ t.pairs.flatMap printP ++ [62]
def printL (l : List TokD) : Bs := l.flatMap printT
theorem printL_cons (t : TokD) (r : List TokD) : printL (t :: r) = printT t ++ printL r := rfl
theorem esc_noq (v : Bs) : ∀ b ∈ escT v, b.toNat ≠ 60 ∧ b.toNat ≠ 62 ∧ b.toNat ≠ 34 ∧ b.toNat ≠ 39 := by
  intro b hb
  have := List.all_eq_true.1 (escT_noSp v) b hb
  unfold noSp at this
  simp at this
  omega
theorem esc_ne {v : Bs} (h : v ≠ []) : escT v ≠ [] := by
  intro e
  have := unT_esc v
  rw [e, unT_nil] at this
  exact h this.symm
theorem unPs_print (l : List (Bs × Bs)) : unPs (l.map fun p => (p.1, escT p.2)) = l := by
  unfold unPs
  rw [List.map_map]
  conv => rhs; rw [← List.map_id l]
  refine List.map_congr_left fun p _ => ?_
  simp [unT_esc]
theorem run_pairs {n : Bs} (hn : nameB n = true) : ∀ (l ps : List (Bs × Bs)) (out : List TokD) (m : Int), (m = 2 ∨ m = 3) → (∀ p ∈ l, nameB p.1 = true) →
    ∃ m', (m' = 2 ∨ m' = 3) ∧ tkFold ⟨⟨m, n, [], false⟩, [], ps, out⟩ (l.flatMap printP) = some ⟨⟨m', n, [], false⟩, [], ps ++ l.map (fun p => (p.1, escT p.2)), out⟩
  | [], ps, out, m, hm, _ => ⟨m, hm, by simp [fold_nil]⟩
  | p :: l, ps, out, m, hm, h => by
    have e := run_pair (k := 6) (q := 34) (.inl ⟨rfl, rfl⟩) n p.1 (escT p.2) ps out m hm hn (h p List.mem_cons_self) (fun b hb => (esc_noq p.2 b hb).2.2.1)
    obtain ⟨m', h1, h2⟩ := run_pairs hn l (ps ++ [(p.1, escT p.2)]) out 3 (.inr rfl) (fun q hq => h q (List.mem_cons_of_mem _ hq))
    refine ⟨m', h1, ?_⟩
    rw [List.flatMap_cons]
    have e' : tkFold ⟨⟨m, n, [], false⟩, [], ps, out⟩ (printP p) = some ⟨⟨3, n, [], false⟩, [], ps ++ [(p.1, escT p.2)], out⟩ := e
    rw [fold_run e', h2, List.append_assoc]; rfl
/-- A token that can be read back. -/
def rdT (t : TokD) : Prop := (t.kind = 1 ∧ t.name = [] ∧ t.pairs = [] ∧ t.value ≠ []) ∨ (t.kind = 3 ∧ t.value = [] ∧ t.pairs = [] ∧ nameB t.name = true) ∨
  (t.kind = 2 ∧ t.value = [] ∧ nameB t.name = true ∧ t.name ≠ script ∧ t.pairs.length ≤ 60 ∧ ∀ p ∈ t.pairs, nameB p.1 = true)
theorem run_tag {n : Bs} (hn : nameB n = true) (hs : n ≠ script) (ps : List (Bs × Bs)) (hl : ps.length ≤ 60) (hp : ∀ p ∈ ps, nameB p.1 = true) (raw : Bs) (out : List TokD) :
    tkFold ⟨st0, raw, [], out⟩ ([60] ++ n ++ ps.flatMap printP ++ [62]) = some ⟨st0, [], [], flushT raw out ++ [tkOpen n ps]⟩ := by
  obtain ⟨m', h1, h2⟩ := run_pairs hn ps [] (flushT raw out) 2 (.inl rfl) hp
  have e : tkFold ⟨st0, raw, [], out⟩ ([60] ++ n ++ ps.flatMap printP) = some ⟨⟨m', n, [], false⟩, [], ps.map (fun p => (p.1, escT p.2)), flushT raw out⟩ := by
    rw [fold_run (run_open n raw out hn), h2, List.nil_append]
  rw [fold_run e, fold_one (run_close hn hs _ _ m' h1 (by rw [List.length_map]; exact hl)), fold_nil, unPs_print]
theorem read_list : ∀ (l : List TokD) (raw : Bs) (out : List TokD), (∀ t ∈ l, rdT t) → noAdj l = true → (raw = [] ∨ ∀ t, l.head? = some t → t.kind ≠ 1) →
    (tkFold ⟨st0, raw, [], out⟩ (printL l)).bind tkFin = if (flushT raw out ++ l).length > 60 then none else some (flushT raw out ++ l)
  | [], raw, out, _, _, _ => by
    show tkFin ⟨st0, raw, [], out⟩ = _
    unfold tkFin
    rw [if_neg (by simp [st0]), List.append_nil]; rfl
  | t :: r, raw, out, h, ha, hr => by
    have ht := h t List.mem_cons_self
    have hr' : ∀ u ∈ r, rdT u := fun u hu => h u (List.mem_cons_of_mem _ hu)
    have ha' : noAdj r = true := by
      cases r with
      | nil => rfl
      | cons u q => rw [noAdj_cons, Bool.and_eq_true] at ha; exact ha.2
    rw [printL_cons]
    obtain ⟨k, n, v, ps⟩ := t
    rcases ht with ⟨h1, h2, h3, h4⟩ | ⟨h1, h2, h3, h4⟩ | ⟨h1, h2, h3, h4, h5, h6⟩
    · dsimp only at h1 h2 h3 h4
      subst h1 h2 h3
      have hraw : raw = [] := hr.resolve_right fun h9 => h9 _ rfl rfl
      subst hraw
      have e : tkFold ⟨st0, [], [], out⟩ (printT ⟨1, [], v, []⟩) = some ⟨st0, escT v, [], out⟩ := by
        rw [show printT ⟨1, [], v, []⟩ = escT v from rfl, run_text (escT v) [] out (fun b hb => (esc_noq v b hb).1), List.nil_append]
      rw [fold_run e, read_list r (escT v) out hr' ha' (.inr fun u hu => ?_)]
      · have ef : flushT (escT v) out = out ++ [⟨1, [], v, []⟩] := by unfold flushT; rw [if_neg (esc_ne h4), unT_esc]; rfl
        have eg : flushT [] out = out := rfl
        rw [ef, eg, List.append_assoc]; rfl
      · cases r with
        | nil => cases hu
        | cons w q =>
          obtain rfl : w = u := by simpa using hu
          rw [noAdj_cons, Bool.and_eq_true] at ha
          simpa using ha.1
    · dsimp only at h1 h2 h3 h4
      subst h1 h2 h3
      have e : tkFold ⟨st0, raw, [], out⟩ (printT ⟨3, n, [], []⟩) = some ⟨st0, [], [], flushT raw out ++ [tkEnd n]⟩ := run_end n raw out h4
      rw [fold_run e, read_list r [] _ hr' ha' (.inl rfl)]
      have eg : ∀ o, flushT [] o = o := fun o => rfl
      rw [eg, List.append_assoc]; rfl
    · dsimp only at h1 h2 h3 h4 h5 h6
      subst h1 h2
      have e : tkFold ⟨st0, raw, [], out⟩ (printT ⟨2, n, [], ps⟩) = some ⟨st0, [], [], flushT raw out ++ [tkOpen n ps]⟩ := run_tag h3 h4 ps h5 h6 raw out
      rw [fold_run e, read_list r [] _ hr' ha' (.inl rfl)]
      have eg : ∀ o, flushT [] o = o := fun o => rfl
      rw [eg, List.append_assoc]; rfl
/-- Printed tokens are read back. -/
theorem read_print {l : List TokD} (h : ∀ t ∈ l, rdT t) (ha : noAdj l = true) (hl : l.length ≤ 60) (ht : textB (printL l) = true) : tokM (printL l) = some l := by
  unfold tokM
  rw [if_pos ht]
  have := read_list l [] [] h ha (.inl rfl)
  have e : flushT [] [] = [] := rfl
  rw [e, List.nil_append, if_neg (by omega)] at this
  exact this
end Go.Proofs.Ytnbjogilidfkdaa

/- Data: places of fields. Plain. -/
namespace Go.Proofs.Ytnbjogilidfkdaa
set_option maxRecDepth 100000
set_option linter.unusedVariables false
set_option linter.unusedSimpArgs false
open Go.RowKit
theorem strs_length (l : List Bs) : (strs l).length = l.length := by unfold strs; simp
theorem strs_all (l : List Bs) : (∀ e ∈ strs l, e.length = 1) = True := eq_true (by
  intro e he; unfold strs at he
  obtain ⟨f, _, rfl⟩ := List.mem_map.1 he; rfl)
/-- Lengths that are numbers. -/
def okF (l : List FieldD) : Prop := l.length ≤ 9223372036854775807 ∧ ∀ f ∈ l, f.name.length ≤ 9223372036854775807 ∧ f.text.length ≤ 9223372036854775807 ∧ f.items.length ≤ 9223372036854775807 ∧ ∀ t ∈ f.items, t.length ≤ 9223372036854775807
end Go.Proofs.Ytnbjogilidfkdaa
