import Derived.Test.YtcagfbgplpokkaaYS
/- The law's walk over drawn states and parts: CheckParts. -/
namespace Go.Proofs.Ytcagfbgplpokkaa
attribute [local irreducible] awp arun acalm FinP Fin AX.then AX.inBlock Again aG gsel amix amixN amixC aop aopc aopd cutK
attribute [local go_sem] aop aopc aopd aBSliceD aSlice aSliceC boundOf aMk evT upd_def aCall aCallC aLenL aLen aPick_t aPick_f aNil aAlloc aBox aBuild bldPV aBSlice bsPV aApp newsOf destOf drp aConvX aConv aConvInt aLoad cellsAt aStore cellsPV setAt aFld aField aIdx aIndex aUn aBin' aBin aMax aExtract pvOf PV.isCell nmbL PV.nmb List.map_cons List.map_nil List.all_cons List.all_nil Bool.and_true Bool.true_and if_true if_false List.getD_cons_zero List.getD_cons_succ List.getD_nil Option.isSome_some true_and and_true and_self eq_self true_or or_true List.drop_zero List.drop_succ_cons List.drop_nil List.take_zero List.take_succ_cons List.take_nil List.length_cons List.length_nil List.length_map Option.getD_some Option.getD_none List.nil_append List.cons_append List.append_nil Option.some.injEq exists_eq_left' List.getElem?_cons_zero List.getElem?_cons_succ Int.toNat_natCast Int.natCast_inj toNat_succ Nat.zero_add res res1 resC owns owns1 ownsC List.flatMap_cons List.flatMap_nil List.flatten_cons List.flatten_nil List.mem_cons List.not_mem_nil or_false false_or forall_eq forall_eq_or_imp isFro frz frz1 pureC tabA isBld List.cons.injEq PV.seq.injEq PV.int.injEq PV.str.injEq PV.bool.injEq PV.agg.injEq inR tab Γof aRes packR Option.map_some Option.map_none rel Prod.exists exists_and_left exists_eq_left and_assoc beq_self_eq_true Bool.not_true Bool.not_false decide_true decide_false List.set_cons_zero List.set_cons_succ rst_nil rst_cons
set_option maxRecDepth 100000
set_option linter.unusedVariables false
set_option linter.unusedSimpArgs false
open Go.RowKit
--LV=Y6
theorem n_3 {n : Nat} : (n = n + 1 + 1) = False := by simp <;> omega
theorem n_4 {n : Nat} : (n + 1 + 1 = n) = False := by simp <;> omega
theorem n_5 {n : Nat} : (n = n + 1 + 1 + 1) = False := by simp <;> omega
theorem n_6 {n : Nat} : (n + 1 + 1 + 1 = n) = False := by simp <;> omega
theorem K_mem {K : PV → Mem → Nat → Prop} {r : PV} {m m' : Mem} {n : Nat} (h : K r m n) (e : m = m') : K r m' n := e ▸ h
/-- What comes back is frozen. -/
def frzR (C : AC) : AC := fun args mem n K => C args mem n fun r mem' n' => K (res mem' r) (frz mem' (owns r)) n'
theorem frzR_ok {P : Program} {f : FuncId} {C : AC} (h : ACok P f C) : ACok P f (frzR C) := by
  refine ⟨h.fn, fun c mem n args vs K hI hn hr hC => ?_⟩
  refine (h.run c mem n args vs _ hI hn hr hC).mono ?_
  rintro e w' ⟨v', r, c', mem', n', rfl, hw, hK, st', hrep⟩
  obtain ⟨c1, w1, r1, st⟩ := Step.frz (owns r) st'.inv st'.free
  exact ⟨v', res mem' r, c1, frz mem' (owns r), n', rfl, w1.trans hw, hK, st'.trans st, rep_res st.inv (frz_fits mem' (owns r)) (Rep.mono _ st.le hrep)⟩
@[go_sem] def drwCQ : AC := fun args mem n K => match args with
  | [.seq es] => (∃ l : Bs, es = l.map bc ∧ l.length ≤ 1048576) ∧ ∀ (s : St) (xs : List PartD) (l' : Bs) (p : Int), okS s → wtL xs ≤ 5000 → xs.length ≤ 5000 → K (.tup [.agg (encS s), .seq (encPs xs)]) (upd (upd (upd (upd mem n (some (.box (encS s)))) (n + 1) (some (.box [.seq (l'.map bc), .int .i64 p]))) (n + 2) (some (.box (encS s)))) (n + 3) (some (.fro (encPs xs)))) (n + 4)
  | _ => False
@[go_sem] def drwCP : AC := fun args mem n K => match args with
  | [.seq es] => (∃ l : Bs, es = l.map bc ∧ l.length ≤ 1048576) ∧ ∀ (s : St) (xs : List PartD) (l' : Bs) (p : Int), okS s → wtL xs ≤ 5000 → xs.length ≤ 5000 → K (.tup [.agg (encS s), .own (n + 3)]) (upd (upd (upd (upd mem n (some (.box (encS s)))) (n + 1) (some (.box [.seq (l'.map bc), .int .i64 p]))) (n + 2) (some (.box (encS s)))) (n + 3) (some (.row 80 5 (encPs xs)))) (n + 4)
  | _ => False
theorem drwCheck : ACok Try.prog 62 drwCP := by
  refine ac_body 1 (tabA_cons open_ok (tabA_cons stD_ok (tabA_cons odd_ok (tabA_cons tpl_ok (tabA_nil (Γof_ok tab_nil)))))) tab_nil mixed [.cell 2 47, .tmp 3] Try.func62 rfl rfl (by kernel_rfl) (by kernel_rfl) ?_ (by kernel_rfl) ?_
  · intro args mem n K h
    unfold drwCP at h
    split at h
    · rfl
    · exact h.elim
  intro args mem n K h
  unfold drwCP at h
  split at h
  · rename_i es
    obtain ⟨⟨l, rfl, hl⟩, hK⟩ := h
    have hba := bc_all l
    have hok0 : okS st0 := okS_of stV_st0
    unfold entry
    repeat' (first | (first | refine qw8 ?_ | refine qw1 ?_ | refine qw6 ?_ | refine qt1 ?_ | refine qw5 ?_ | refine qw2 ?_ | refine qw9 ?_ | refine qt2 ?_ | refine qt3 ?_ | refine qt4 ?_ | refine qt5 ?_ | refine qt6 ?_ | refine qw3 ?_ | refine qw4 ?_ | refine qj1 ?_ | refine qj2 ?_ | refine qj3 ?_ | refine qj4 ?_ | refine qj5 ?_ | refine qu1 ?_ | refine qu2 ?_ | refine qne ?_ | refine qyn ?_ | refine qyz ?_ | refine qy0 ?_ | refine qnt rfl rfl ?_ | refine qnf rfl rfl ?_ | refine qyc rfl ?_ | refine qy1 rfl ?_ | refine qy2 rfl ?_ ?_ | ((first | refine qa1 fun K hk => ?_ | refine qa2 fun K hk => ?_ | refine qa3 fun K hk => ?_ | refine qh1 fun K hk => ?_ | refine qh2 fun K hk => ?_ | refine qm1 fun K hk => ?_ | refine qm2 fun K hk => ?_ | refine qm3 fun K hk => ?_); simp only [go_sem, ↓upd_def, ↓evT, ↓aop, ↓aopc, ↓aopd, Nat.reduceEqDiff, Nat.reduceAdd, Nat.reduceLeDiff, Nat.reduceLT, Nat.reduceSub, Int.reduceToNat, ↓reduceIte, reduceCtorEq, exl, encS_st0, encS_eq, ex_St, St_eta, n_1, n_2, n_3, n_4, n_5, n_6]; (repeat (refine And.intro ?_ ?_; focus (first | omega | assumption | with_reducible rfl | (simp only [go_sem, ↓upd_def, ↓evT, ↓aop, ↓aopc, ↓aopd, Nat.reduceEqDiff, Nat.reduceAdd, Nat.reduceLeDiff, Nat.reduceLT, Nat.reduceSub, Int.reduceToNat, ↓reduceIte, reduceCtorEq, exl, encS_st0, encS_eq, ex_St, St_eta, n_1, n_2, n_3, n_4, n_5, n_6]; done)))); intros; apply hk; clear hk K) | ((first | apply qg1 rfl | apply qcd); focus (simp only [go_sem, ↓upd_def, ↓evT, ↓aop, ↓aopc, ↓aopd, Nat.reduceEqDiff, Nat.reduceAdd, Nat.reduceLeDiff, Nat.reduceLT, Nat.reduceSub, Int.reduceToNat, ↓reduceIte, reduceCtorEq, exl, encS_st0, encS_eq, ex_St, St_eta, n_1, n_2, n_3, n_4, n_5, n_6]; exact rfl)) | (refine qj6 ?_ ?_ <;> intro hc <;> (try simp only [hc]) <;> (try simp only [decide_eq_true_eq, decide_eq_false_iff_not, Bool.not_eq_true', Bool.not_eq_false', Bool.not_eq_true, reduceCtorEq] at hc) <;> (try (exfalso; omega))) | (refine qk1 ?_ ?_; focus (repeat (first | exact qsub0 | (refine qsub1 ?_ ?_; focus (simp only [go_sem, ↓upd_def, ↓evT, ↓aop, ↓aopc, ↓aopd, Nat.reduceEqDiff, Nat.reduceAdd, Nat.reduceLeDiff, Nat.reduceLT, Nat.reduceSub, Int.reduceToNat, ↓reduceIte, reduceCtorEq, exl, encS_st0, encS_eq, ex_St, St_eta, n_1, n_2, n_3, n_4, n_5, n_6]))))) | (refine qt7 ?_ ?_; focus decide) | (refine qw7 ?_ ?_ ?_; (focus (decide +kernel)); (focus (decide +kernel)))) | (refine qw10 [n + 1 + 1] [0, 1, 4] [0, 1, 2, 3, 4] ?_ ?_; focus (decide +kernel)))
    all_goals
      rename List PartD => xs
      rename Bs => l9
      rename Int => q9
      refine fin_retA ?_
      simp only [go_sem, ↓upd_def, Nat.reduceEqDiff, ↓reduceIte, n_1, n_2, n_3, n_4, n_5, n_6]
      refine ⟨by omega, ?_⟩
      first
        | (rename St => s
           refine K_mem (hK s xs l9 q9 (by assumption) (by assumption) (by assumption)) ?_
           funext i
           simp only [upd_def]
           (repeat' split) <;> first | rfl | (exfalso; omega))
        | (refine K_mem (hK st0 xs l9 q9 hok0 (by assumption) (by assumption)) ?_
           funext i
           simp only [upd_def]
           (repeat' split) <;> first | rfl | (exfalso; omega))
        | (rename St => s
           refine K_mem (hK s xs l9 q9 (by assumption) (by assumption) (by assumption)) ?_
           funext i
           simp only [upd_def]
           (repeat' split) <;> first | rfl | (exfalso; omega) | skip)
  · exact h.elim
theorem drwCheckQ : ACok Try.prog 62 drwCQ := (frzR_ok drwCheck).mono fun args mem n K h => by
  unfold drwCQ at h
  split at h
  · rename_i es
    obtain ⟨he, hK⟩ := h
    refine ⟨he, fun s xs l' p h1 h2 h3 => ?_⟩
    have := hK s xs l' p h1 h2 h3
    simpa [frz, frz1, owns, owns1, ownsC, res, res1, resC, encS, upd_upd, upd_same] using this
  · exact h.elim
theorem gdL_weak {d : Nat} : ∀ {xs : List PartD} {b : Bool}, gdL d b xs = true → gdL d false xs = true
  | [], _, _ => gdL_nil _ _
  | x :: xs, b, h => by
    rw [gdL] at h ⊢
    simp only [Bool.and_eq_true] at h ⊢
    exact ⟨⟨h.1.1, by simp⟩, h.2⟩
theorem cntL_app : ∀ xs ys : List PartD, cntL (xs ++ ys) = cntL xs + cntL ys
  | [], ys => by simp [cntL]
  | x :: xs, ys => by rw [List.cons_append, cntL, cntL, cntL_app xs ys]; omega
theorem parts_split {xs ys : List PartD} (h : partsB (xs ++ ys) = true) : partsB xs = true ∧ partsB ys = true := by
  unfold partsB at h ⊢
  rw [cntL_app, gdL_append] at h
  simp only [Bool.and_eq_true, decide_eq_true_eq] at h ⊢
  exact ⟨⟨by omega, h.2.1⟩, by omega, gdL_weak h.2.2⟩
theorem check_split {s : St} {xs : List PartD} (k : Nat) (hp : partsB xs = true) (hs : stV s = true) : checkM (checkM s (xs.take k)) (xs.drop k) = checkM s xs := by
  have hp' : partsB (xs.take k ++ xs.drop k) = true := by rw [List.take_append_drop]; exact hp
  obtain ⟨h1, h2⟩ := parts_split hp'
  unfold checkM
  rw [if_pos (show partsB (xs.take k) = true ∧ stV s = true from ⟨h1, hs⟩), if_pos (show partsB (xs.drop k) = true ∧ _ from ⟨h2, stV_chkL _ _ hs⟩), if_pos (show partsB xs = true ∧ stV s = true from ⟨hp, hs⟩)]
  exact chkL_split xs k s hs
theorem okS_check {s : St} {xs : List PartD} : okS (checkM s xs) = True := eq_true (by
  unfold checkM
  split
  · rename_i h; exact okS_of (stV_chkL _ _ h.2)
  · exact okS_of stV_bad)
theorem check_bad {s : St} {xs : List PartD} (h : ¬ (partsB xs = true ∧ stV s = true)) : (checkM s xs).mode = 15 := by
  unfold checkM; rw [if_neg h]; rfl
theorem check_ok (s : St) (xs : List PartD) : stV (checkM s xs) = true := by
  unfold checkM
  split
  · rename_i h; exact stV_chkL _ _ h.2
  · exact stV_bad
theorem encPs_take (k : Nat) (xs : List PartD) : List.take k (encPs xs) = encPs (List.take k xs) := by rw [encPs_map, encPs_map, List.map_take]
theorem encPs_drop (k : Nat) (xs : List PartD) : List.drop k (encPs xs) = encPs (List.drop k xs) := by rw [encPs_map, encPs_map, List.map_drop]
theorem wtL_split2 (k : Nat) (xs : List PartD) : wtL (xs.take k) + wtL (xs.drop k) = wtL xs := by
  rw [← wtL_append, List.take_append_drop]
set_option maxHeartbeats 8000000 in
theorem FnCheckParts_pure : PureOk Try.prog 15 (rel (α := Bs) (fun x => [.seq (x.map bc)]) (fun x => x.length ≤ 9223372036854775807) (fun _ => .bool true)) := by
  refine pure_relA 1 (tabA_cons drwCheckQ (tabA_nil (Γof_ok (tab_cons cp_i (tab_cons cp_s (tab_cons sv_i (tab_cons sv_s (tab_cons pv_s (tab_cons alive_c tab_nil))))))))) (tab_cons cp_i (tab_cons cp_s (tab_cons sv_i (tab_cons sv_s (tab_cons pv_s (tab_cons alive_c tab_nil)))))) mixed [.tmp 2] Try.func15 rfl rfl (by kernel_rfl) (by kernel_rfl) (fun _ => rfl) (by kernel_rfl) ?_
  rintro l K hl hK
  have hba := bc_all l
  unfold entry
  repeat' (first | refine qw8 ?_ | refine qw1 ?_ | refine qw6 ?_ | refine qt1 ?_ | refine qw5 ?_ | refine qw2 ?_ | refine qw9 ?_ | refine qt2 ?_ | refine qt3 ?_ | refine qt4 ?_ | refine qt5 ?_ | refine qt6 ?_ | refine qw3 ?_ | refine qw4 ?_ | refine qj1 ?_ | refine qj2 ?_ | refine qj3 ?_ | refine qj4 ?_ | refine qj5 ?_ | refine qu1 ?_ | refine qu2 ?_ | refine qne ?_ | refine qyn ?_ | refine qyz ?_ | refine qy0 ?_ | refine qnt rfl rfl ?_ | refine qnf rfl rfl ?_ | refine qyc rfl ?_ | refine qy1 rfl ?_ | refine qy2 rfl ?_ ?_ | ((first | refine qa1 fun K hk => ?_ | refine qa2 fun K hk => ?_ | refine qa3 fun K hk => ?_ | refine qh1 fun K hk => ?_ | refine qh2 fun K hk => ?_ | refine qm1 fun K hk => ?_ | refine qm2 fun K hk => ?_ | refine qm3 fun K hk => ?_); simp only [go_sem, ↓upd_def, ↓evT, ↓aop, ↓aopc, ↓aopd, Nat.reduceEqDiff, Nat.reduceAdd, Nat.reduceLeDiff, Nat.reduceLT, Nat.reduceSub, Int.reduceToNat, ↓reduceIte, reduceCtorEq, exl, ex_unit, true_and, encS_eq, ex_St, St_eta, eqSt, okS_check, decide_true, Bool.not_true, Bool.not_false]; (repeat (refine And.intro ?_ ?_; focus (first | omega | assumption | with_reducible rfl | (simp only [go_sem, ↓upd_def, ↓evT, ↓aop, ↓aopc, ↓aopd, Nat.reduceEqDiff, Nat.reduceAdd, Nat.reduceLeDiff, Nat.reduceLT, Nat.reduceSub, Int.reduceToNat, ↓reduceIte, reduceCtorEq, exl, ex_unit, true_and, encS_eq, ex_St, St_eta, eqSt, okS_check, decide_true, Bool.not_true, Bool.not_false]; done)))); intros; apply hk; clear hk K) | ((first | apply qg1 rfl | apply qcd); focus (simp only [go_sem, ↓upd_def, ↓evT, ↓aop, ↓aopc, ↓aopd, Nat.reduceEqDiff, Nat.reduceAdd, Nat.reduceLeDiff, Nat.reduceLT, Nat.reduceSub, Int.reduceToNat, ↓reduceIte, reduceCtorEq, exl, ex_unit, true_and, encS_eq, ex_St, St_eta, eqSt, okS_check, decide_true, Bool.not_true, Bool.not_false]; exact rfl)) | (refine qj6 ?_ ?_ <;> intro hc <;> (try simp only [hc]) <;> (try simp only [decide_eq_true_eq, decide_eq_false_iff_not, Bool.not_eq_true', Bool.not_eq_false', Bool.not_eq_true, reduceCtorEq] at hc) <;> (try (exfalso; omega))) | (refine qk1 ?_ ?_; focus (repeat (first | exact qsub0 | (refine qsub1 ?_ ?_; focus (simp only [go_sem, ↓upd_def, ↓evT, ↓aop, ↓aopc, ↓aopd, Nat.reduceEqDiff, Nat.reduceAdd, Nat.reduceLeDiff, Nat.reduceLT, Nat.reduceSub, Int.reduceToNat, ↓reduceIte, reduceCtorEq, exl, ex_unit, true_and, encS_eq, ex_St, St_eta, eqSt, okS_check, decide_true, Bool.not_true, Bool.not_false]))))) | (refine qt7 ?_ ?_; focus decide) | (refine qw7 ?_ ?_ ?_; (focus (decide +kernel)); (focus (decide +kernel))))
  all_goals first
    | (((first | refine fin_ret ?_ | refine fin_end ?_); simp only [go_sem, ↓upd_def, Nat.reduceEqDiff, Nat.reduceAdd, ↓reduceIte, reduceCtorEq])
       exact hK)
    | (((first | refine fin_ret ?_ | refine fin_end ?_); simp only [go_sem, ↓upd_def, Nat.reduceEqDiff, Nat.reduceAdd, ↓reduceIte, reduceCtorEq])
       rename List PartD => xs
       rename St => s
       exfalso
       have := @check_bad s xs
       simp_all; done)
    | skip
  rename List PartD => xs
  rename St => s
  have hw := wtL_split2 ((xs.length : Int) / 2).toNat xs
  have hsp := @check_split s xs ((xs.length : Int) / 2).toNat
  have hck := check_ok s xs
  repeat' (first | refine qw8 ?_ | refine qw1 ?_ | refine qw6 ?_ | refine qt1 ?_ | refine qw5 ?_ | refine qw2 ?_ | refine qw9 ?_ | refine qt2 ?_ | refine qt3 ?_ | refine qt4 ?_ | refine qt5 ?_ | refine qt6 ?_ | refine qw3 ?_ | refine qw4 ?_ | refine qj1 ?_ | refine qj2 ?_ | refine qj3 ?_ | refine qj4 ?_ | refine qj5 ?_ | refine qu1 ?_ | refine qu2 ?_ | refine qne ?_ | refine qyn ?_ | refine qyz ?_ | refine qy0 ?_ | refine qnt rfl rfl ?_ | refine qnf rfl rfl ?_ | refine qyc rfl ?_ | refine qy1 rfl ?_ | refine qy2 rfl ?_ ?_ | ((first | refine qa1 fun K hk => ?_ | refine qa2 fun K hk => ?_ | refine qa3 fun K hk => ?_ | refine qh1 fun K hk => ?_ | refine qh2 fun K hk => ?_ | refine qm1 fun K hk => ?_ | refine qm2 fun K hk => ?_ | refine qm3 fun K hk => ?_); simp only [go_sem, ↓upd_def, ↓evT, ↓aop, ↓aopc, ↓aopd, Nat.reduceEqDiff, Nat.reduceAdd, Nat.reduceLeDiff, Nat.reduceLT, Nat.reduceSub, Int.reduceToNat, ↓reduceIte, reduceCtorEq, exl, ex_unit, true_and, encS_eq, ex_St, St_eta, eqSt, okS_check, encPs_all5, encPs_take, encPs_drop, List.drop_zero, List.take_length, Int.toNat_natCast, decide_true, Bool.not_true, Bool.not_false]; (repeat (refine And.intro ?_ ?_; focus (first | omega | assumption | with_reducible rfl | (simp only [go_sem, ↓upd_def, ↓evT, ↓aop, ↓aopc, ↓aopd, Nat.reduceEqDiff, Nat.reduceAdd, Nat.reduceLeDiff, Nat.reduceLT, Nat.reduceSub, Int.reduceToNat, ↓reduceIte, reduceCtorEq, exl, ex_unit, true_and, encS_eq, ex_St, St_eta, eqSt, okS_check, encPs_all5, encPs_take, encPs_drop, List.drop_zero, List.take_length, Int.toNat_natCast, decide_true, Bool.not_true, Bool.not_false]; done)))); intros; apply hk; clear hk K) | ((first | apply qg1 rfl | apply qcd); focus (simp only [go_sem, ↓upd_def, ↓evT, ↓aop, ↓aopc, ↓aopd, Nat.reduceEqDiff, Nat.reduceAdd, Nat.reduceLeDiff, Nat.reduceLT, Nat.reduceSub, Int.reduceToNat, ↓reduceIte, reduceCtorEq, exl, ex_unit, true_and, encS_eq, ex_St, St_eta, eqSt, okS_check, encPs_all5, encPs_take, encPs_drop, List.drop_zero, List.take_length, Int.toNat_natCast, decide_true, Bool.not_true, Bool.not_false]; exact rfl)) | (refine qj6 ?_ ?_ <;> intro hc <;> (try simp only [hc]) <;> (try simp only [decide_eq_true_eq, decide_eq_false_iff_not, Bool.not_eq_true', Bool.not_eq_false', Bool.not_eq_true, reduceCtorEq] at hc) <;> (try (exfalso; omega))) | (refine qk1 ?_ ?_; focus (repeat (first | exact qsub0 | (refine qsub1 ?_ ?_; focus (simp only [go_sem, ↓upd_def, ↓evT, ↓aop, ↓aopc, ↓aopd, Nat.reduceEqDiff, Nat.reduceAdd, Nat.reduceLeDiff, Nat.reduceLT, Nat.reduceSub, Int.reduceToNat, ↓reduceIte, reduceCtorEq, exl, ex_unit, true_and, encS_eq, ex_St, St_eta, eqSt, okS_check, encPs_all5, encPs_take, encPs_drop, List.drop_zero, List.take_length, Int.toNat_natCast, decide_true, Bool.not_true, Bool.not_false]))))) | (refine qt7 ?_ ?_; focus decide) | (refine qw7 ?_ ?_ ?_; (focus (decide +kernel)); (focus (decide +kernel))))
  · ((first | refine fin_ret ?_ | refine fin_end ?_); simp only [go_sem, ↓upd_def, Nat.reduceEqDiff, Nat.reduceAdd, ↓reduceIte, reduceCtorEq])
    first
      | exact hK
      | (rw [hck]; exact hK)
  · exact absurd (hsp (by assumption) (by assumption)) hc
end Go.Proofs.Ytcagfbgplpokkaa
