import Derived.Test.YtnkgdapdccpjmaaM9
/- CaskPlays. -/
namespace Go.Proofs.Ytnkgdapdccpjmaa
open Go Go.RowKit Go.Sx

theorem all_eq_of {α : Type} {l : List α} {p q : α → Bool} (h : ∀ x ∈ l, p x = q x) : l.all p = l.all q := by
  rw [Bool.eq_iff_iff, List.all_eq_true, List.all_eq_true]
  exact ⟨fun k x hx => by rw [← h x hx]; exact k x hx, fun k x hx => by rw [h x hx]; exact k x hx⟩
theorem thinF_all (c : Clr) : ∀ n i, c.casks.length - i ≤ n → c.casks.length ≤ 5 → thinF c i = true → ∀ j, i ≤ j → j < c.casks.length → (c.casks.getD j default).marks.length ≤ 8 := by
  intro n
  induction n with
  | zero => intro i h _ _ j h1 h2; omega
  | succ n ih =>
    intro i h h5 hf j h1 h2
    rw [thinF, if_pos ⟨by omega, by omega⟩] at hf
    split at hf
    · cases hf
    · rcases Nat.lt_or_ge i j with h3 | h3
      · exact ih (i + 1) (by omega) h5 hf j (by omega) h2
      · obtain rfl : i = j := by omega
        omega
theorem thin_lens {c : Clr} (h : c.thin = true) : c.casks.length ≤ 9 ∧ c.moves.length ≤ 9 ∧ c.gauges.length ≤ 9 ∧ ∀ k ∈ c.casks, k.marks.length ≤ 9 := by
  simp only [Clr.thin, Bool.and_eq_true, decide_eq_true_eq] at h
  obtain ⟨⟨⟨h1, h2⟩, h3⟩, h4⟩ := h
  have h4 : c.gauges.length ≤ 9 := h4
  refine ⟨by omega, by omega, by omega, fun k hk => ?_⟩
  obtain ⟨i, hi, rfl⟩ := List.getElem_of_mem hk
  have := thinF_all c _ 0 (Nat.le_refl _) h2 h1 i (Nat.zero_le _) hi
  rw [show c.casks.getD i default = c.casks[i] by simp [List.getD, List.getElem?_eq_getElem hi]] at this
  omega
theorem thinT_lens {t : Tru} (h : t.thin = true) : t.start.length ≤ 1000000 ∧ t.leak.length ≤ 1000000 ∧ t.quantity.length ≤ 1000000 := by
  simp only [Tru.thin, Bool.and_eq_true, decide_eq_true_eq] at h
  omega
theorem intsEq_self (a : List Int) : ∀ n i, a.length - i ≤ n → intsEq a a i = true := by
  intro n
  induction n with
  | zero => intro i h; rw [intsEq, if_neg (by omega)]
  | succ n ih =>
    intro i h
    rw [intsEq]
    split
    · rw [if_pos rfl]; exact ih _ (by omega)
    · rfl
theorem sameInts_self (a : List Int) : sameInts a a = true := by rw [sameInts, if_pos rfl]; exact intsEq_self a _ 0 (Nat.le_refl _)
theorem cont_zero (c : Clr) (t : Tru) (i : Nat) : c.cont t i 0 = t.start.getD i 0 := by simp [Clr.cont, Clr.gain]
theorem rowOk0_all (c : Clr) (t : Tru) (i : Nat) (h0 : within (c.cont t i 0) 0 (c.casks.getD i default).top.content = true) : ∀ m, c.rowOk0 t i (m + 1) = c.rowOk t i m
  | 0 => by rw [rowOk0_succ, h0]; simp [Clr.rowOk0, Clr.rowOk]
  | m + 1 => by rw [rowOk0_succ, rowOk0_all c t i h0 m, rowOk_succ]; rfl
theorem play_right {c : Clr} {t : Tru} (hG : c.Good) (h : c.ofT t = true) : c.playOk t = c.rightTo t c.casks.length := by
  rw [Clr.playOk, Clr.rightTo]
  refine all_eq_of fun i hi => ?_
  have hi := List.mem_range.1 hi
  refine rowOk0_all c t i ?_ _
  rw [cont_zero]
  have h3 := (ofT_elim h).2.1 i hi
  have h4 := (hG.cask _ (getD_mem (d := default) hi)).start
  simp only [Clr.caskOk, Rng.has, within, Bool.and_eq_true, decide_eq_true_eq] at h3 ⊢
  omega
theorem wrong_none (c : Clr) (Y : List (List Int)) : ∀ n, c.wrongTo Y n = 0 ↔ ∀ i, i < n → c.badG Y i = false
  | 0 => by simp [Clr.wrongTo]
  | n + 1 => by
    have hb := wrongTo_bounds c Y n
    have ih := wrong_none c Y n
    rw [Clr.wrongTo]
    have hp : (0 : Int) < 2 ^ n := Int.pow_pos (by decide)
    constructor
    · intro h i hi
      have h0 : c.wrongTo Y n = 0 := by split at h <;> omega
      have h1 : c.badG Y n = false := by
        cases hg : c.badG Y n with
        | false => rfl
        | true => rw [hg] at h; simp at h; omega
      rcases Nat.lt_succ_iff_lt_or_eq.1 hi with h2 | rfl
      · exact ih.1 h0 i h2
      · exact h1
    · intro h
      rw [ih.2 fun i hi => h i (by omega), h n (by omega)]; rfl
theorem badG_test (c : Clr) (Y : List (List Int)) (i : Nat) : c.badG Y i = !c.testG Y (c.gauges.getD i default) := rfl
theorem tests_wrong (c : Clr) (Y : List (List Int)) : c.gauges.all (c.testG Y) = decide (c.wrongTo Y c.gauges.length = 0) := by
  rw [Bool.eq_iff_iff, decide_eq_true_eq, wrong_none, List.all_eq_true]
  constructor
  · intro h i hi
    rw [badG_test, h _ (getD_mem hi)]; rfl
  · intro h g hg
    obtain ⟨i, hi, rfl⟩ := List.getElem_of_mem hg
    have := h i hi
    rw [badG_test, show c.gauges.getD i default = c.gauges[i] by simp [List.getD, List.getElem?_eq_getElem hi]] at this
    simpa using this
theorem proves_eq {c : Clr} {t : Tru} (hc : c.check = 0) : c.proves t = c.isTruth t := by
  have hG := Clr.good hc
  rw [Clr.proves, Clr.isTruth, Clr.playA, if_pos hc]
  by_cases ho : c.ofT t = true
  · rw [if_pos ho, play_right hG ho, ho, tests_wrong]
    by_cases hr : c.rightTo t c.casks.length = true
    · rw [if_pos hr, hr]; rfl
    · rw [if_neg hr]; simp [hr]
  · rw [if_neg ho]; simp [ho]
theorem proves_bad {c : Clr} {t : Tru} (hc : c.check ≠ 0) : c.proves t = false := by
  rw [Clr.proves, Clr.playA, if_neg hc]; simp [hc]

theorem Plays1 (c : Clr) (t : Tru) (h1 : c.thin = false) : CallC Try.prog 6 0 (lkF [] fun _ => none) [aClr c, aTru t] 0 (lkF [] fun _ => none) (aBool true) := by
  refine callC_intro tabOk mixed Try.func6 rfl rfl rfl rfl ?_
  intro w0 e0 Z0 X hX n
  refine vc_seq ?_
  refine vc_region ?_
  refine run_box rfl trivial rfl rfl rfl rfl rfl rfl (by intro _ _ h; cases h <;> (intro _; rfl)) ?_
  refine run_box rfl trivial rfl rfl rfl rfl rfl rfl (by intro _ _ h; cases h <;> (intro _; rfl)) ?_
  refine oq1 ?_
  refine run_nil ?_
  refine vc_seq ?_
  refine vc_seq ?_
  refine vc_region ?_
  refine oq2 ?_
  refine run_callP (by have h := thin_c c; rw [h1] at h; exact h) rfl rfl rfl trivial rfl rfl rfl rfl ?_
  refine oq1 ?_
  refine oq1 ?_
  refine osk ?_
  refine osk ?_
  refine osk ?_
  refine oq1 ?_
  refine run_nil ?_
  refine vc_cond rfl (fun _ => ?_) (fun h => Bool.noConfusion h)
  refine vc_seq ?_
  refine vc_region ?_
  refine run_callP awake_c rfl rfl rfl trivial rfl rfl rfl rfl ?_
  refine oq1 ?_
  refine run_nil ?_
  refine vc_ret ?_
  refine ret_pure rfl trivial rfl (AVle.of_eq ?_)
  rfl

theorem Plays2 (c : Clr) (t : Tru) (h1 : c.thin = true) (h2 : t.thin = false) : CallC Try.prog 6 0 (lkF [] fun _ => none) [aClr c, aTru t] 0 (lkF [] fun _ => none) (aBool true) := by
  refine callC_intro tabOk mixed Try.func6 rfl rfl rfl rfl ?_
  intro w0 e0 Z0 X hX n
  refine vc_seq ?_
  refine vc_region ?_
  refine run_box rfl trivial rfl rfl rfl rfl rfl rfl (by intro _ _ h; cases h <;> (intro _; rfl)) ?_
  refine run_box rfl trivial rfl rfl rfl rfl rfl rfl (by intro _ _ h; cases h <;> (intro _; rfl)) ?_
  refine oq1 ?_
  refine run_nil ?_
  refine vc_seq ?_
  refine vc_seq ?_
  refine vc_region ?_
  refine oq2 ?_
  refine run_callP (by have h := thin_c c; rw [h1] at h; exact h) rfl rfl rfl trivial rfl rfl rfl rfl ?_
  refine oq1 ?_
  refine oq1 ?_
  refine oq2 ?_
  refine run_callP (by have h := thinTruth_c t; rw [h2] at h; exact h) rfl rfl rfl rfl rfl rfl rfl rfl ?_
  refine oq1 ?_
  refine oq1 ?_
  refine run_nil ?_
  refine vc_cond rfl (fun _ => ?_) (fun h => Bool.noConfusion h)
  refine vc_seq ?_
  refine vc_region ?_
  refine run_callP awake_c rfl rfl rfl trivial rfl rfl rfl rfl ?_
  refine oq1 ?_
  refine run_nil ?_
  refine vc_ret ?_
  refine ret_pure rfl trivial rfl (AVle.of_eq ?_)
  rfl

theorem Plays3 (c : Clr) (t : Tru) (h1 : c.thin = true) (h2 : t.thin = true) (hc : c.check ≠ 0) : CallC Try.prog 6 0 (lkF [] fun _ => none) [aClr c, aTru t] 0 (lkF [] fun _ => none) (aBool true) := by
  refine callC_intro tabOk mixed Try.func6 rfl rfl rfl rfl ?_
  intro w0 e0 Z0 X hX n
  have hl := thin_lens h1
  have htl := thinT_lens h2
  have hp : c.playA t = ([], c.check) := by rw [Clr.playA, if_neg hc]
  refine vc_seq ?_
  refine vc_region ?_
  refine run_box rfl trivial rfl rfl rfl rfl rfl rfl (by intro _ _ h; cases h <;> (intro _; rfl)) ?_
  refine run_box rfl trivial rfl rfl rfl rfl rfl rfl (by intro _ _ h; cases h <;> (intro _; rfl)) ?_
  refine oq1 ?_
  refine run_nil ?_
  refine vc_seq ?_
  refine vc_seq ?_
  refine vc_region ?_
  refine oq2 ?_
  refine run_callP (by have h := thin_c c; rw [h1] at h; exact h) rfl rfl rfl trivial rfl rfl rfl rfl ?_
  refine oq1 ?_
  refine oq1 ?_
  refine oq2 ?_
  refine run_callP (by have h := thinTruth_c t; rw [h2] at h; exact h) rfl rfl rfl rfl rfl rfl rfl rfl ?_
  refine oq1 ?_
  refine oq1 ?_
  refine run_nil ?_
  refine vc_cond rfl (fun h => Bool.noConfusion h) (fun _ => ?_)
  refine vc_skip ?_
  refine vc_seq ?_
  refine vc_regionD rfl ?_
  refine oq2 ?_
  refine run_callP (Cellar_c c hl.1 hl.2.1 hl.2.2.1 hl.2.2.2) rfl rfl rfl trivial rfl rfl rfl rfl ?_
  refine oq2 ?_
  refine run_callP (Truth_c t htl.1 htl.2.1 htl.2.2) rfl rfl rfl trivial rfl rfl rfl rfl ?_
  refine run_callP (by have h := Play_c c t; rw [hp] at h; exact h) rfl rfl rfl trivial rfl rfl rfl rfl ?_
  refine oq1 ?_
  refine oq1 ?_
  refine oq1 ?_
  refine oq1 ?_
  refine oq1 ?_
  refine run_nil ⟨rfl, ?_⟩
  refine vc_seq ?_
  refine vc_regionD rfl ?_
  refine oq2 ?_
  refine run_callP (Cellar_c c hl.1 hl.2.1 hl.2.2.1 hl.2.2.2) rfl rfl rfl trivial rfl rfl rfl rfl ?_
  refine oq2 ?_
  refine run_callP (Truth_c t htl.1 htl.2.1 htl.2.2) rfl rfl rfl trivial rfl rfl rfl rfl ?_
  refine run_callP (by have h := ProveTruth_c c t; rw [proves_bad hc] at h; exact h) rfl rfl rfl trivial rfl rfl rfl rfl ?_
  refine oq1 ?_
  refine run_nil ⟨rfl, ?_⟩
  refine vc_seq ?_
  refine vc_region ?_
  refine oq2 ?_
  refine run_callP (fault_c _) rfl rfl rfl trivial rfl rfl rfl rfl ?_
  refine oq1 ?_
  refine run_nil ?_
  refine vc_seq ?_
  refine vc_seq ?_
  refine vc_region ?_
  refine oq1 ?_
  refine oq1 ?_
  refine run_qW (aBool false) rfl trivial rfl rfl rfl rfl (.of_eq (aBool_eq (decide_eq_false hc))) ?_
  refine oq1 ?_
  refine osk ?_
  refine osk ?_
  refine osk ?_
  refine oq1 ?_
  refine oq1 ?_
  refine run_nil ?_
  refine vc_cond rfl (fun h => Bool.noConfusion h) (fun _ => ?_)
  refine vc_skip ?_
  refine vc_seq ?_
  refine vc_seq ?_
  refine vc_region ?_
  refine oq1 ?_
  refine run_qW (aBool false) rfl trivial rfl rfl rfl rfl (.of_eq (aBool_eq (decide_eq_false hc))) ?_
  refine oq1 ?_
  refine osk ?_
  refine osk ?_
  refine osk ?_
  refine osk ?_
  refine oq1 ?_
  refine run_nil ?_
  refine vc_cond rfl (fun h => Bool.noConfusion h) (fun _ => ?_)
  refine vc_skip ?_
  refine vc_seq ?_
  refine vc_region ?_
  refine oq1 ?_
  refine run_nil ?_
  refine vc_seq ?_
  refine vc_seq ?_
  refine vc_region ?_
  refine oq1 ?_
  refine run_qW (aBool false) rfl trivial rfl rfl rfl rfl (.of_eq (aBool_eq (decide_eq_false hc))) ?_
  refine run_nil ?_
  refine vc_cond rfl (fun h => Bool.noConfusion h) (fun _ => ?_)
  refine vc_skip ?_
  refine vc_seq ?_
  refine vc_seq ?_
  refine vc_region ?_
  refine oq1 ?_
  refine run_qW (aBool true) rfl trivial rfl rfl rfl rfl (.of_eq (aBool_eq (by simpa using hc))) ?_
  refine run_nil ?_
  refine vc_cond rfl (fun _ => ?_) (fun h => Bool.noConfusion h)
  refine vc_seq ?_
  refine vc_region ?_
  refine oq1 ?_
  refine oq1 ?_
  refine run_qW (aBool true) rfl trivial rfl rfl rfl rfl (.of_eq (aBool_eq (decide_eq_true rfl))) ?_
  refine oq1 ?_
  refine oq1 ?_
  refine oq1 ?_
  refine oq6 ?_
  refine oq1 ?_
  refine oq1 ?_
  refine run_callP awake_c rfl rfl rfl rfl rfl rfl rfl rfl ?_
  refine oq1 ?_
  refine oq1 ?_
  refine run_nil ?_
  refine vc_ret ?_
  refine ret_pure rfl trivial rfl (AVle.of_eq ?_)
  rfl

theorem Plays4 (c : Clr) (t : Tru) (h1 : c.thin = true) (h2 : t.thin = true) (hc : c.check = 0) (ho : c.ofT t = false) : CallC Try.prog 6 0 (lkF [] fun _ => none) [aClr c, aTru t] 0 (lkF [] fun _ => none) (aBool true) := by
  refine callC_intro tabOk mixed Try.func6 rfl rfl rfl rfl ?_
  intro w0 e0 Z0 X hX n
  have hl := thin_lens h1
  have htl := thinT_lens h2
  have hG := Clr.good hc
  have hp : c.playA t = ([], 2) := by rw [Clr.playA, if_pos hc, if_neg (by simp [ho])]
  have hit : c.isTruth t = false := by simp [Clr.isTruth, ho]
  have hpr : c.proves t = false := by rw [proves_eq hc, hit]
  refine vc_seq ?_
  refine vc_region ?_
  refine run_box rfl trivial rfl rfl rfl rfl rfl rfl (by intro _ _ h; cases h <;> (intro _; rfl)) ?_
  refine run_box rfl trivial rfl rfl rfl rfl rfl rfl (by intro _ _ h; cases h <;> (intro _; rfl)) ?_
  refine oq1 ?_
  refine run_nil ?_
  refine vc_seq ?_
  refine vc_seq ?_
  refine vc_region ?_
  refine oq2 ?_
  refine run_callP (by have h := thin_c c; rw [h1] at h; exact h) rfl rfl rfl trivial rfl rfl rfl rfl ?_
  refine oq1 ?_
  refine oq1 ?_
  refine oq2 ?_
  refine run_callP (by have h := thinTruth_c t; rw [h2] at h; exact h) rfl rfl rfl rfl rfl rfl rfl rfl ?_
  refine oq1 ?_
  refine oq1 ?_
  refine run_nil ?_
  refine vc_cond rfl (fun h => Bool.noConfusion h) (fun _ => ?_)
  refine vc_skip ?_
  refine vc_seq ?_
  refine vc_regionD rfl ?_
  refine oq2 ?_
  refine run_callP (Cellar_c c hl.1 hl.2.1 hl.2.2.1 hl.2.2.2) rfl rfl rfl trivial rfl rfl rfl rfl ?_
  refine oq2 ?_
  refine run_callP (Truth_c t htl.1 htl.2.1 htl.2.2) rfl rfl rfl trivial rfl rfl rfl rfl ?_
  refine run_callP (by have h := Play_c c t; rw [hp] at h; exact h) rfl rfl rfl trivial rfl rfl rfl rfl ?_
  refine oq1 ?_
  refine oq1 ?_
  refine oq1 ?_
  refine oq1 ?_
  refine oq1 ?_
  refine run_nil ⟨rfl, ?_⟩
  refine vc_seq ?_
  refine vc_regionD rfl ?_
  refine oq2 ?_
  refine run_callP (Cellar_c c hl.1 hl.2.1 hl.2.2.1 hl.2.2.2) rfl rfl rfl trivial rfl rfl rfl rfl ?_
  refine oq2 ?_
  refine run_callP (Truth_c t htl.1 htl.2.1 htl.2.2) rfl rfl rfl trivial rfl rfl rfl rfl ?_
  refine run_callP (by have h := ProveTruth_c c t; rw [hpr] at h; exact h) rfl rfl rfl trivial rfl rfl rfl rfl ?_
  refine oq1 ?_
  refine run_nil ⟨rfl, ?_⟩
  refine vc_seq ?_
  refine vc_region ?_
  refine oq2 ?_
  refine run_callP (by have h := fault_c c; rw [hc] at h; exact h) rfl rfl rfl trivial rfl rfl rfl rfl ?_
  refine oq1 ?_
  refine run_nil ?_
  refine vc_seq ?_
  refine vc_seq ?_
  refine vc_region ?_
  refine oq1 ?_
  refine oq1 ?_
  refine oq6 ?_
  refine oq1 ?_
  refine oq2 ?_
  refine oq2 ?_
  refine run_callP (by have h := IsTruth_c c t hG; rw [hit] at h; exact h) rfl rfl rfl rfl rfl rfl rfl rfl ?_
  refine oq1 ?_
  refine oq1 ?_
  refine run_nil ?_
  refine vc_cond rfl (fun h => Bool.noConfusion h) (fun _ => ?_)
  refine vc_skip ?_
  refine vc_seq ?_
  refine vc_seq ?_
  refine vc_region ?_
  refine oq1 ?_
  refine oq6 ?_
  refine oq1 ?_
  refine oq2 ?_
  refine oq2 ?_
  refine run_callP (by have h := Of30_c c t; rw [ho] at h; exact h) rfl rfl rfl rfl rfl rfl rfl rfl ?_
  refine oq1 ?_
  refine oq1 ?_
  refine run_nil ?_
  refine vc_cond rfl (fun _ => ?_) (fun h => Bool.noConfusion h)
  refine vc_region ?_
  refine oq1 ?_
  refine run_nil ?_
  refine vc_seq ?_
  refine vc_region ?_
  refine oq1 ?_
  refine run_nil ?_
  refine vc_seq ?_
  refine vc_seq ?_
  refine vc_region ?_
  refine oq1 ?_
  refine oq6 ?_
  refine run_nil ?_
  refine vc_cond rfl (fun h => Bool.noConfusion h) (fun _ => ?_)
  refine vc_skip ?_
  refine vc_seq ?_
  refine vc_seq ?_
  refine vc_region ?_
  refine oq1 ?_
  refine oq6 ?_
  refine run_nil ?_
  refine vc_cond rfl (fun _ => ?_) (fun h => Bool.noConfusion h)
  refine vc_seq ?_
  refine vc_region ?_
  refine oq1 ?_
  refine oq1 ?_
  refine oq6 ?_
  refine oq1 ?_
  refine oq1 ?_
  refine oq1 ?_
  refine oq6 ?_
  refine oq1 ?_
  refine oq1 ?_
  refine run_callP awake_c rfl rfl rfl rfl rfl rfl rfl rfl ?_
  refine oq1 ?_
  refine oq1 ?_
  refine run_nil ?_
  refine vc_ret ?_
  refine ret_pure rfl trivial rfl (AVle.of_eq ?_)
  rfl

theorem Plays5 (c : Clr) (t : Tru) (h1 : c.thin = true) (h2 : t.thin = true) (hc : c.check = 0) (ho : c.ofT t = true) (hr : c.rightTo t c.casks.length = false) : CallC Try.prog 6 0 (lkF [] fun _ => none) [aClr c, aTru t] 0 (lkF [] fun _ => none) (aBool true) := by
  refine callC_intro tabOk mixed Try.func6 rfl rfl rfl rfl ?_
  intro w0 e0 Z0 X hX n
  have hl := thin_lens h1
  have htl := thinT_lens h2
  have hG := Clr.good hc
  have hp : c.playA t = ([], 11) := by rw [Clr.playA, if_pos hc, if_pos ho, if_neg (by simp [play_right hG ho, hr])]
  refine vc_seq ?_
  refine vc_region ?_
  refine run_box rfl trivial rfl rfl rfl rfl rfl rfl (by intro _ _ h; cases h <;> (intro _; rfl)) ?_
  refine run_box rfl trivial rfl rfl rfl rfl rfl rfl (by intro _ _ h; cases h <;> (intro _; rfl)) ?_
  refine oq1 ?_
  refine run_nil ?_
  refine vc_seq ?_
  refine vc_seq ?_
  refine vc_region ?_
  refine oq2 ?_
  refine run_callP (by have h := thin_c c; rw [h1] at h; exact h) rfl rfl rfl trivial rfl rfl rfl rfl ?_
  refine oq1 ?_
  refine oq1 ?_
  refine oq2 ?_
  refine run_callP (by have h := thinTruth_c t; rw [h2] at h; exact h) rfl rfl rfl rfl rfl rfl rfl rfl ?_
  refine oq1 ?_
  refine oq1 ?_
  refine run_nil ?_
  refine vc_cond rfl (fun h => Bool.noConfusion h) (fun _ => ?_)
  refine vc_skip ?_
  refine vc_seq ?_
  refine vc_regionD rfl ?_
  refine oq2 ?_
  refine run_callP (Cellar_c c hl.1 hl.2.1 hl.2.2.1 hl.2.2.2) rfl rfl rfl trivial rfl rfl rfl rfl ?_
  refine oq2 ?_
  refine run_callP (Truth_c t htl.1 htl.2.1 htl.2.2) rfl rfl rfl trivial rfl rfl rfl rfl ?_
  refine run_callP (by have h := Play_c c t; rw [hp] at h; exact h) rfl rfl rfl trivial rfl rfl rfl rfl ?_
  refine oq1 ?_
  refine oq1 ?_
  refine oq1 ?_
  refine oq1 ?_
  refine oq1 ?_
  refine run_nil ⟨rfl, ?_⟩
  refine vc_seq ?_
  refine vc_regionD rfl ?_
  refine oq2 ?_
  refine run_callP (Cellar_c c hl.1 hl.2.1 hl.2.2.1 hl.2.2.2) rfl rfl rfl trivial rfl rfl rfl rfl ?_
  refine oq2 ?_
  refine run_callP (Truth_c t htl.1 htl.2.1 htl.2.2) rfl rfl rfl trivial rfl rfl rfl rfl ?_
  refine run_callP (by have h := ProveTruth_c c t; rw [proves_eq hc] at h; exact h) rfl rfl rfl trivial rfl rfl rfl rfl ?_
  refine oq1 ?_
  refine run_nil ⟨rfl, ?_⟩
  refine vc_seq ?_
  refine vc_region ?_
  refine oq2 ?_
  refine run_callP (by have h := fault_c c; rw [hc] at h; exact h) rfl rfl rfl trivial rfl rfl rfl rfl ?_
  refine oq1 ?_
  refine run_nil ?_
  refine vc_seq ?_
  refine vc_seq ?_
  refine vc_region ?_
  refine oq1 ?_
  refine oq1 ?_
  refine oq6 ?_
  refine oq1 ?_
  refine oq2 ?_
  refine oq2 ?_
  refine run_callP (IsTruth_c c t hG) rfl rfl rfl rfl rfl rfl rfl rfl ?_
  refine oq1 ?_
  refine run_qW (aBool false) rfl trivial rfl rfl rfl trivial (.of_eq (aBool_eq (by simp))) ?_
  refine run_nil ?_
  refine vc_cond rfl (fun h => Bool.noConfusion h) (fun _ => ?_)
  refine vc_skip ?_
  refine vc_seq ?_
  refine vc_seq ?_
  refine vc_region ?_
  refine oq1 ?_
  refine oq6 ?_
  refine oq1 ?_
  refine oq2 ?_
  refine oq2 ?_
  refine run_callP (by have h := Of30_c c t; rw [ho] at h; exact h) rfl rfl rfl rfl rfl rfl rfl rfl ?_
  refine oq1 ?_
  refine oq1 ?_
  refine run_nil ?_
  refine vc_cond rfl (fun h => Bool.noConfusion h) (fun _ => ?_)
  refine vc_skip ?_
  refine vc_seq ?_
  refine vc_region ?_
  refine oq1 ?_
  refine run_nil ?_
  refine vc_seq ?_
  refine vc_seq ?_
  refine vc_region ?_
  refine oq1 ?_
  refine oq6 ?_
  refine run_nil ?_
  refine vc_cond rfl (fun _ => ?_) (fun h => Bool.noConfusion h)
  refine vc_seq ?_
  refine vc_region ?_
  refine oq1 ?_
  refine run_nil ?_
  refine vc_seq ?_
  refine vc_region ?_
  refine oq2 ?_
  refine oq2 ?_
  refine run_callP (by have h := Run_c c t hG ho; rw [hr] at h; exact h) rfl rfl rfl trivial rfl rfl rfl rfl ?_
  refine oq1 ?_
  refine oq1 ?_
  refine oq1 ?_
  refine oq1 ?_
  refine oq1 ?_
  refine run_nil ?_
  refine vc_seq ?_
  refine vc_region ?_
  refine oq1 ?_
  refine oq1 ?_
  refine run_nil ?_
  refine vc_cond rfl (fun _ => ?_) (fun h => Bool.noConfusion h)
  refine vc_region ?_
  refine oq1 ?_
  refine run_nil ?_
  refine vc_seq ?_
  refine vc_seq ?_
  refine vc_region ?_
  refine oq1 ?_
  refine oq6 ?_
  refine run_nil ?_
  refine vc_cond rfl (fun _ => ?_) (fun h => Bool.noConfusion h)
  refine vc_seq ?_
  refine vc_region ?_
  refine oq1 ?_
  refine oq1 ?_
  refine oq6 ?_
  refine oq1 ?_
  refine oq1 ?_
  refine oq1 ?_
  refine oq6 ?_
  refine oq1 ?_
  refine oq1 ?_
  refine run_callP awake_c rfl rfl rfl rfl rfl rfl rfl rfl ?_
  refine oq1 ?_
  refine oq1 ?_
  refine run_nil ?_
  refine vc_ret ?_
  refine ret_pure rfl trivial rfl (AVle.of_eq ?_)
  rfl

theorem Plays6 (c : Clr) (t : Tru) (h1 : c.thin = true) (h2 : t.thin = true) (hc : c.check = 0) (ho : c.ofT t = true) (hr : c.rightTo t c.casks.length = true) : CallC Try.prog 6 0 (lkF [] fun _ => none) [aClr c, aTru t] 0 (lkF [] fun _ => none) (aBool true) := by
  refine callC_intro tabOk mixed Try.func6 rfl rfl rfl rfl ?_
  intro w0 e0 Z0 X hX n
  have hl := thin_lens h1
  have htl := thinT_lens h2
  have hG := Clr.good hc
  have hrl : (c.runs t).length ≤ 9 := by simp [Clr.runs]; omega
  have hp : c.playA t = (c.runs t, 0) := by rw [Clr.playA, if_pos hc, if_pos ho, if_pos (by rw [play_right hG ho, hr])]
  refine vc_seq ?_
  refine vc_region ?_
  refine run_box rfl trivial rfl rfl rfl rfl rfl rfl (by intro _ _ h; cases h <;> (intro _; rfl)) ?_
  refine run_box rfl trivial rfl rfl rfl rfl rfl rfl (by intro _ _ h; cases h <;> (intro _; rfl)) ?_
  refine oq1 ?_
  refine run_nil ?_
  refine vc_seq ?_
  refine vc_seq ?_
  refine vc_region ?_
  refine oq2 ?_
  refine run_callP (by have h := thin_c c; rw [h1] at h; exact h) rfl rfl rfl trivial rfl rfl rfl rfl ?_
  refine oq1 ?_
  refine oq1 ?_
  refine oq2 ?_
  refine run_callP (by have h := thinTruth_c t; rw [h2] at h; exact h) rfl rfl rfl rfl rfl rfl rfl rfl ?_
  refine oq1 ?_
  refine oq1 ?_
  refine run_nil ?_
  refine vc_cond rfl (fun h => Bool.noConfusion h) (fun _ => ?_)
  refine vc_skip ?_
  refine vc_seq ?_
  refine vc_regionD rfl ?_
  refine oq2 ?_
  refine run_callP (Cellar_c c hl.1 hl.2.1 hl.2.2.1 hl.2.2.2) rfl rfl rfl trivial rfl rfl rfl rfl ?_
  refine oq2 ?_
  refine run_callP (Truth_c t htl.1 htl.2.1 htl.2.2) rfl rfl rfl trivial rfl rfl rfl rfl ?_
  refine run_callP (by have h := Play_c c t; rw [hp] at h; exact h) rfl rfl rfl trivial rfl rfl rfl rfl ?_
  refine oq1 ?_
  refine oq1 ?_
  refine oq1 ?_
  refine oq1 ?_
  refine oq1 ?_
  refine run_nil ⟨rfl, ?_⟩
  refine vc_seq ?_
  refine vc_regionD rfl ?_
  refine oq2 ?_
  refine run_callP (Cellar_c c hl.1 hl.2.1 hl.2.2.1 hl.2.2.2) rfl rfl rfl trivial rfl rfl rfl rfl ?_
  refine oq2 ?_
  refine run_callP (Truth_c t htl.1 htl.2.1 htl.2.2) rfl rfl rfl trivial rfl rfl rfl rfl ?_
  refine run_callP (by have h := ProveTruth_c c t; rw [proves_eq hc] at h; exact h) rfl rfl rfl trivial rfl rfl rfl rfl ?_
  refine oq1 ?_
  refine run_nil ⟨rfl, ?_⟩
  refine vc_seq ?_
  refine vc_region ?_
  refine oq2 ?_
  refine run_callP (by have h := fault_c c; rw [hc] at h; exact h) rfl rfl rfl trivial rfl rfl rfl rfl ?_
  refine oq1 ?_
  refine run_nil ?_
  refine vc_seq ?_
  refine vc_seq ?_
  refine vc_region ?_
  refine oq1 ?_
  refine oq1 ?_
  refine oq6 ?_
  refine oq1 ?_
  refine oq2 ?_
  refine oq2 ?_
  refine run_callP (IsTruth_c c t hG) rfl rfl rfl rfl rfl rfl rfl rfl ?_
  refine oq1 ?_
  refine run_qW (aBool false) rfl trivial rfl rfl rfl trivial (.of_eq (aBool_eq (by simp))) ?_
  refine run_nil ?_
  refine vc_cond rfl (fun h => Bool.noConfusion h) (fun _ => ?_)
  refine vc_skip ?_
  refine vc_seq ?_
  refine vc_seq ?_
  refine vc_region ?_
  refine oq1 ?_
  refine oq6 ?_
  refine oq1 ?_
  refine oq2 ?_
  refine oq2 ?_
  refine run_callP (by have h := Of30_c c t; rw [ho] at h; exact h) rfl rfl rfl rfl rfl rfl rfl rfl ?_
  refine oq1 ?_
  refine oq1 ?_
  refine run_nil ?_
  refine vc_cond rfl (fun h => Bool.noConfusion h) (fun _ => ?_)
  refine vc_skip ?_
  refine vc_seq ?_
  refine vc_region ?_
  refine oq1 ?_
  refine run_nil ?_
  refine vc_seq ?_
  refine vc_seq ?_
  refine vc_region ?_
  refine oq1 ?_
  refine oq6 ?_
  refine run_nil ?_
  refine vc_cond rfl (fun _ => ?_) (fun h => Bool.noConfusion h)
  refine vc_seq ?_
  refine vc_region ?_
  refine oq1 ?_
  refine run_nil ?_
  refine vc_seq ?_
  refine vc_region ?_
  refine oq2 ?_
  refine oq2 ?_
  refine run_callP (by have h := Run_c c t hG ho; rw [hr] at h; exact h) rfl rfl rfl trivial rfl rfl rfl rfl ?_
  refine oq1 ?_
  refine oq1 ?_
  refine oq1 ?_
  refine oq1 ?_
  refine oq1 ?_
  refine run_nil ?_
  refine vc_seq ?_
  refine vc_region ?_
  refine oq1 ?_
  refine oq1 ?_
  refine run_nil ?_
  refine vc_cond rfl (fun h => Bool.noConfusion h) (fun _ => ?_)
  refine vc_skip ?_
  refine vc_seq ?_
  refine vc_seq ?_
  refine vc_region ?_
  refine oq1 ?_
  refine oq6 ?_
  refine run_nil ?_
  refine vc_cond rfl (fun h => Bool.noConfusion h) (fun _ => ?_)
  refine vc_skip ?_
  refine vc_seq ?_
  refine vc_seq ?_
  refine vc_region ?_
  refine oq1 ?_
  refine oq6 ?_
  refine oq1 ?_
  refine oq1 ?_
  refine oq1 ?_
  refine oq1 ?_
  refine oq1 ?_
  refine run_qW (aBool false) rfl rfl rfl rfl rfl rfl (.of_eq (aBool_eq (by simp))) ?_
  refine oq1 ?_
  refine run_nil ?_
  refine vc_cond rfl (fun h => Bool.noConfusion h) (fun _ => ?_)
  refine vc_skip ?_
  refine vc_seq ?_
  refine vc_seq ?_
  refine vc_region ?_
  refine oq1 ?_
  refine run_nil ?_
  refine vc_block ?_
  refine vc_loopO (κ := Nat) (fun i => i ≤ (c.runs t).length) (fun i => [(11, aInt .i64 (i : Int))] ++ deadL [4, 85, 86, 87, 88, 89, 90, 91, 92, 93, 94, 95, 96, 97, 98, 99, 100]) (fun i => (c.runs t).length - i) 0 (Nat.zero_le _) ?_ ?_
  ·
    exact ent_over .base (.app (.cons (.refl _) (.nil)) _)
  rintro i hi
  refine vc_seq ?_
  refine vc_seq ?_
  refine vc_region ?_
  refine oq1 ?_
  refine oq1 ?_
  refine oq1 ?_
  refine oq6 ?_
  refine run_nil ?_
  refine vc_condP rfl (fun h1 => ?_) (fun h1 => ?_)
  ·
    try simp only [Int.toNat_natCast] at h1
    refine vc_skip ?_
    refine vc_seq ?_
    refine vc_block ?_
    refine vc_seq ?_
    refine vc_regionD rfl ?_
    refine oq1 ?_
    refine oq1 ?_
    refine oq3 ?_
    refine oq2 ?_
    refine oq1 ?_
    refine oq1 ?_
    refine oq3 ?_
    refine oq2 ?_
    refine run_callP (by have h := ints_c ((c.runs t).getD i []) ((c.runs t).getD i []); rw [sameInts_self] at h; exact h) rfl rfl rfl trivial rfl rfl rfl rfl ?_
    refine oq1 ?_
    refine run_nil ⟨rfl, ?_⟩
    refine vc_cond rfl (fun h => Bool.noConfusion h) (fun _ => ?_)
    refine vc_skip ?_
    refine vc_region ?_
    refine oq1 ?_
    refine oq4 ?_
    refine oq1 ?_
    refine run_nil ?_
    refine ⟨i + 1, by omega, by omega, ent_over (by repeat (first | exact .base | refine .step rfl ?_)) (.app (.cons (.refl _) (.nil)) _)⟩
  ·
    try simp only [Int.toNat_natCast] at h1
    refine vc_exit ?_
    refine vc_seq ?_
    refine vc_region ?_
    refine run_callP awake_c rfl rfl rfl trivial rfl rfl rfl rfl ?_
    refine oq1 ?_
    refine run_nil ?_
    refine vc_ret ?_
    refine ret_pure rfl trivial rfl (AVle.of_eq ?_)
    rfl

theorem CaskPlays_c (c : Clr) (t : Tru) : CallC Try.prog 6 0 (lkF [] fun _ => none) [aClr c, aTru t] 0 (lkF [] fun _ => none) (aBool true) := by
  by_cases h1 : c.thin = true
  · by_cases h2 : t.thin = true
    · by_cases hc : c.check = 0
      · by_cases ho : c.ofT t = true
        · by_cases hr : c.rightTo t c.casks.length = true
          · exact Plays6 c t h1 h2 hc ho hr
          · exact Plays5 c t h1 h2 hc ho (by simpa using hr)
        · exact Plays4 c t h1 h2 hc (by simpa using ho)
      · exact Plays3 c t h1 h2 hc
    · exact Plays2 c t h1 (by simpa using h2)
  · exact Plays1 c t (by simpa using h1)

end Go.Proofs.Ytnkgdapdccpjmaa

/- What the tries of quantities come to: the first, or all, of the quantities that can be. -/
namespace Go.Proofs.Ytnkgdapdccpjmaa
open Go Go.RowKit Go.Sx

/-- All quantities, in the order in which they are tried. -/
def allQ : List Mov → Nat → List Int → List (List Int)
  | [], _, q => [q]
  | m :: ms, i, q => (List.range (m.q.hi - m.q.lo + 1).toNat).flatMap fun v : Nat => allQ ms (i + 1) (q.set i (m.q.lo + (v : Int)))
def runL {S : Type} (leaf : List Int → S → Bool × S) : List (List Int) → S → Bool × S
  | [], s => (false, s)
  | q :: l, s => if (leaf q s).1 = true then (true, (leaf q s).2) else runL leaf l (leaf q s).2
theorem runL_append {S : Type} (leaf : List Int → S → Bool × S) (m : List (List Int)) : ∀ (l : List (List Int)) (s : S), runL leaf (l ++ m) s = if (runL leaf l s).1 = true then runL leaf l s else runL leaf m (runL leaf l s).2
  | [], s => by simp [runL]
  | q :: l, s => by
    rw [List.cons_append, runL, runL]
    by_cases h : (leaf q s).1 = true
    · simp [h]
    · rw [if_neg h, if_neg h]; exact runL_append leaf m l _
theorem runL_one {S : Type} (leaf : List Int → S → Bool × S) (q : List Int) (s : S) : runL leaf [q] s = leaf q s := by
  rw [runL, runL]
  split
  · rename_i h; rw [← h]
  · rename_i h; rw [← (by simpa using h : (leaf q s).1 = false)]
theorem loopF_runL {S : Type} {leaf : List Int → S → Bool × S} {g : Int → S → Bool × S} {L : Int → List (List Int)} (hg : ∀ v s, g v s = runL leaf (L v) s) : ∀ (k : Nat) (v : Int) (s : S), loopF g k v s = runL leaf ((List.range k).flatMap fun j : Nat => L (v + (j : Int))) s
  | 0, v, s => rfl
  | k + 1, v, s => by
    have hs : (List.range (k + 1)).flatMap (fun j : Nat => L (v + (j : Int))) = L v ++ (List.range k).flatMap fun j : Nat => L (v + 1 + (j : Int)) := by
      rw [List.range_succ_eq_map, List.flatMap_cons, List.flatMap_map]
      congr 1
      · simp
      · congr 1; funext j
        rw [show v + ((Nat.succ j : Nat) : Int) = v + 1 + (j : Int) by push_cast; omega]
    rw [hs, runL_append, loopF, hg v s]
    split
    · rename_i h; rw [← h]
    · exact loopF_runL hg k (v + 1) _
theorem chooseM_runL {S : Type} (leaf : List Int → S → Bool × S) : ∀ (ms : List Mov) (i : Nat) (q : List Int) (s : S), chooseM leaf ms i q s = runL leaf (allQ ms i q) s
  | [], i, q, s => by rw [chooseM, allQ, runL_one]
  | m :: ms, i, q, s => by
    rw [chooseM, allQ]
    exact loopF_runL (L := fun v => allQ ms (i + 1) (q.set i v)) (fun v s => chooseM_runL leaf ms (i + 1) (q.set i v) s) _ _ _
theorem allQ_mem : ∀ {ms : List Mov} {i : Nat} {q x : List Int}, x ∈ allQ ms i q → x.length = q.length ∧ ∀ j, j < i → x.getD j 0 = q.getD j 0
  | [], i, q, x, h => by rw [allQ, List.mem_singleton] at h; subst h; exact ⟨rfl, fun _ _ => rfl⟩
  | m :: ms, i, q, x, h => by
    rw [allQ, List.mem_flatMap] at h
    obtain ⟨v, _, h⟩ := h
    obtain ⟨h1, h2⟩ := allQ_mem h
    refine ⟨by rw [h1]; simp, fun j hj => ?_⟩
    rw [h2 j (by omega)]
    simp [List.getD, List.getElem?_set, show i ≠ j by omega]
theorem allQ_nodup : ∀ (ms : List Mov) (i : Nat) (q : List Int), i + ms.length ≤ q.length → (allQ ms i q).Nodup
  | [], i, q, _ => by simp [allQ]
  | m :: ms, i, q, h => by
    simp only [List.length_cons] at h
    rw [allQ, List.Nodup, List.pairwise_flatMap]
    refine ⟨fun v _ => allQ_nodup ms (i + 1) _ (by simp; omega), ?_⟩
    refine List.nodup_range.imp ?_
    intro a b hab x hx y hy e
    subst e
    have h1 := (allQ_mem hx).2 i (by omega)
    have h2 := (allQ_mem hy).2 i (by omega)
    rw [h1] at h2
    simp [List.getD, List.getElem?_set, show i < q.length by omega] at h2
    omega
theorem eq4_eq {a b : List Int} (ha : a.length = 4) (hb : b.length = 4) : eq4 a b = decide (a = b) := by
  match a, b, ha, hb with
  | [a0, a1, a2, a3], [b0, b1, b2, b3], _, _ =>
    rw [Bool.eq_iff_iff]
    simp [eq4, List.getD]
theorem runL_leaf {α : Type} {c : Clr} {en : List Int → α → Bool × α} : ∀ (l : List (List Int)) (s : Tried α), (∀ x ∈ l, x.length = 4) → l.Nodup → (s.tried = true → s.last.length = 4 ∧ s.last ∉ l) →
    (runL (leafM c en) l s).1 = (runL en (l.filter fun q => decide (c.atOk q)) s.kept).1 ∧ (runL (leafM c en) l s).2.kept = (runL en (l.filter fun q => decide (c.atOk q)) s.kept).2
  | [], s, _, _, _ => ⟨rfl, rfl⟩
  | q :: l, s, h4, hn, hs => by
    have hq := h4 q (by simp)
    have hnq := (List.nodup_cons.1 hn).1
    have hnew : s.tried = false ∨ eq4 q s.last = false := by
      cases ht : s.tried with
      | false => exact .inl rfl
      | true =>
        obtain ⟨h1, h2⟩ := hs ht
        right
        rw [eq4_eq hq h1, decide_eq_false_iff_not]
        rintro rfl; exact h2 (by simp)
    by_cases ha : c.atOk q
    · rw [List.filter_cons_of_pos (by simpa using ha), runL, runL, leafM_yes hnew ha]
      dsimp only
      by_cases he : (en q s.kept).1 = true
      · rw [if_pos he, if_pos he]; exact ⟨rfl, rfl⟩
      · rw [if_neg he, if_neg he]
        exact runL_leaf l _ (fun x hx => h4 x (by simp [hx])) (List.nodup_cons.1 hn).2 fun _ => ⟨hq, hnq⟩
    · rw [List.filter_cons_of_neg (by simpa using ha), runL, leafM_no hnew ha]
      exact runL_leaf l _ (fun x hx => h4 x (by simp [hx])) (List.nodup_cons.1 hn).2 fun _ => ⟨hq, hnq⟩

/-- The quantities with which something can have been. -/
def Clr.goodQ (c : Clr) : List (List Int) := (allQ c.moves 0 [0, 0, 0, 0]).filter fun q => decide (c.atOk q)
theorem worksM_run {α : Type} {c : Clr} (hm : c.moves.length ≤ 4) (en : List Int → α → Bool × α) (k : α) : worksM c en k = runL en c.goodQ k := by
  rw [worksM, chooseM_runL]
  obtain ⟨h1, h2⟩ := runL_leaf (c := c) (en := en) (allQ c.moves 0 [0, 0, 0, 0]) ⟨false, [0, 0, 0, 0], k⟩ (fun x hx => (allQ_mem hx).1) (allQ_nodup _ _ _ (by simpa using hm)) (fun h => by cases h)
  exact Prod.ext h1 h2
theorem goodQ_ok {c : Clr} {q : List Int} (h : q ∈ c.goodQ) : c.atOk q ∧ q.length = 4 := by
  rw [Clr.goodQ, List.mem_filter] at h
  exact ⟨by simpa using h.2, (allQ_mem h.1).1⟩
theorem runL_yes {α : Type} (l : List (List Int)) (k : α) : (runL (fun _ u => (true, u)) l k).1 = !l.isEmpty := by cases l <;> rfl
theorem possible_eq {c : Clr} (hm : c.moves.length ≤ 4) : c.possible = !c.goodQ.isEmpty := by rw [Clr.possible, worksM_run hm, runL_yes]
theorem runL_all {β : Type} (f : Option β → List Int → β) : ∀ (l : List (List Int)) (k : Option β), (runL (fun q k => (false, some (f k q))) l k).2 = l.foldl (fun k q => some (f k q)) k
  | [], k => rfl
  | q :: l, k => by rw [runL, if_neg (by simp), List.foldl_cons]; exact runL_all f l _
theorem inM_eq {c : Clr} (hm : c.moves.length ≤ 4) (B : List Int → List Rng) : c.inM B = c.goodQ.foldl (fun k q => some (joinK k (B q))) none := by
  rw [Clr.inM, worksM_run hm]; exact runL_all (fun k q => joinK k (B q)) _ _
theorem fold_some {β : Type} (f : Option β → List Int → β) {P : β → Prop} (hf : ∀ k q, (∀ x, k = some x → P x) → P (f k q)) : ∀ (l : List (List Int)) (k : Option β), (∀ x, k = some x → P x) → ∀ x, l.foldl (fun k q => some (f k q)) k = some x → P x
  | [], k, hk => hk
  | q :: l, k, hk => by
    rw [List.foldl_cons]
    exact fold_some f hf l _ fun x hx => by cases hx; exact hf k q hk
/-- All ranges hold something, and nothing below 0. -/
def Sound (l : List Rng) : Prop := ∀ r ∈ l, 0 ≤ r.lo ∧ r.lo ≤ r.hi
theorem joinK_sound {k : Option (List Rng)} {r : List Rng} {N : Nat} (hr : Sound r ∧ r.length = N) (hk : ∀ l, k = some l → Sound l ∧ l.length = N) : Sound (joinK k r) ∧ (joinK k r).length = N := by
  refine ⟨?_, joinK_len hr.2 fun l h => (hk l h).2⟩
  cases k with
  | none => exact hr.1
  | some l =>
    obtain ⟨h1, h2⟩ := hk l rfl
    intro x hx
    simp only [joinK, List.mem_map, List.mem_range] at hx
    obtain ⟨i, hi, rfl⟩ := hx
    have a := h1 _ (getD_mem (d := default) hi)
    have b := hr.1 _ (getD_mem (d := default) (show i < r.length by omega))
    dsimp only
    omega
theorem fold_sound {B : List Int → List Rng} {N : Nat} : ∀ (l : List (List Int)) (k : Option (List Rng)), (∀ q ∈ l, Sound (B q) ∧ (B q).length = N) → (∀ l, k = some l → Sound l ∧ l.length = N) → ∀ x, l.foldl (fun k q => some (joinK k (B q))) k = some x → Sound x
  | [], k, _, hk, x, hx => (hk x hx).1
  | q :: l, k, h, hk, x, hx => by
    rw [List.foldl_cons] at hx
    exact fold_sound l _ (fun q hq => h q (by simp [hq])) (fun l hl => by cases hl; exact joinK_sound (h q (by simp)) hk) x hx
theorem startsTo_has {c : Clr} {q : List Int} : ∀ {n i : Nat} {x : Ent3}, i < n → x ∈ c.entries (i : Int) q → x ∈ c.startsTo q n
  | 0, _, _, h, _ => by omega
  | n + 1, i, x, h, hx => by
    rw [Clr.startsTo, List.mem_append]
    rcases Nat.lt_succ_iff_lt_or_eq.1 h with h1 | rfl
    · exact .inl (startsTo_has h1 hx)
    · exact .inr hx
end Go.Proofs.Ytnkgdapdccpjmaa

/- CaskOver. -/
namespace Go.Proofs.Ytnkgdapdccpjmaa
open Go Go.RowKit Go.Sx

theorem leak_fold {c : Clr} (k : Int) : ∀ (l : List Ent3) (r : Rng), (∀ x ∈ l, 0 ≤ x.leak) → 0 ≤ r.lo → (r.lo ≤ r.hi ∨ ∃ x ∈ l, x.cask = k) →
    0 ≤ (l.foldl (fun r x => if x.cask = k then (⟨min r.lo (c.moves.length * x.leak), max r.hi (c.moves.length * x.leak)⟩ : Rng) else r) r).lo ∧
    (l.foldl (fun r x => if x.cask = k then (⟨min r.lo (c.moves.length * x.leak), max r.hi (c.moves.length * x.leak)⟩ : Rng) else r) r).lo ≤ (l.foldl (fun r x => if x.cask = k then (⟨min r.lo (c.moves.length * x.leak), max r.hi (c.moves.length * x.leak)⟩ : Rng) else r) r).hi
  | [], r, _, h0, h => by
    rcases h with h | ⟨x, hx, _⟩
    · exact ⟨h0, h⟩
    · simp at hx
  | x :: l, r, hl, h0, h => by
    rw [List.foldl_cons]
    have hm : 0 ≤ (c.moves.length : Int) * x.leak := Int.mul_nonneg (by omega) (hl x (by simp))
    refine leak_fold k l _ (fun y hy => hl y (by simp [hy])) ?_ ?_
    · split
      · dsimp only; omega
      · exact h0
    · by_cases hx : x.cask = k
      · rw [if_pos hx]; left; dsimp only; omega
      · rw [if_neg hx]
        rcases h with h | ⟨y, hy, he⟩
        · exact .inl h
        · right
          rcases List.mem_cons.1 hy with rfl | hy
          · exact absurd he hx
          · exact ⟨y, hy, he⟩
theorem leaks_sound {c : Clr} (hG : c.Good) {q : List Int} (ha : c.atOk q) : Sound (c.leaksL (c.starts q)) := by
  intro r hr
  simp only [Clr.leaksL, List.mem_map, List.mem_range] at hr
  obtain ⟨i, hi, rfl⟩ := hr
  refine leak_fold _ _ _ (fun x hx => (goodE_starts hG x hx).leak.1) (by dsimp only; omega) (.inr ?_)
  obtain ⟨x, hx⟩ := List.exists_mem_of_ne_nil _ (ha i hi)
  exact ⟨x, startsTo_has hi hx, (leaksTo_mem hx).1⟩
theorem asked_cases {c : Clr} (hc : c.check = 0) (B : List Int → List Rng) : c.askedA B = ([], 11) ∨ ∃ l, c.inM B = some l ∧ c.askedA B = (l, 0) := by
  rw [Clr.askedA, if_pos hc]
  cases h : c.inM B with
  | none => exact .inl rfl
  | some l => exact .inr ⟨l, rfl, rfl⟩
theorem asked_sound {c : Clr} (hG : c.Good) {B : List Int → List Rng} {N : Nat} (hB : ∀ q, c.atOk q → Sound (B q)) (hN : ∀ q, (B q).length = N) {l : List Rng} (h : c.inM B = some l) : Sound l := by
  rw [inM_eq hG.moves] at h
  exact fold_sound _ none (fun q hq => ⟨hB q (goodQ_ok hq).1, hN q⟩) (fun _ h => by cases h) l h
theorem over_has {l : List Rng} {p : Rng → Bool} {i : Nat} (hi : i < l.length) : ((overTo l p l.length).any fun x => decide (x = (i : Int))) = p (l.getD i default) := by
  rw [Bool.eq_iff_iff, List.any_eq_true]
  simp only [overTo, List.mem_map, List.mem_filter, List.mem_range, decide_eq_true_eq]
  constructor
  · rintro ⟨_, ⟨j, ⟨_, h⟩, rfl⟩, e⟩
    obtain rfl : j = i := by omega
    exact h
  · intro h; exact ⟨_, ⟨i, ⟨hi, h⟩, rfl⟩, rfl⟩

theorem Over1 (c : Clr) (a b : Int) (ha : 0 ≤ a ∧ a ≤ 255) (hb : 0 ≤ b ∧ b ≤ 255) (hr : c.ready = false) : CallC Try.prog 5 0 (lkF [] fun _ => none) [aClr c, aInt .u8 a, aInt .u8 b] 0 (lkF [] fun _ => none) (aBool true) := by
  refine callC_intro tabOk mixed Try.func5 rfl rfl rfl rfl ?_
  intro w0 e0 Z0 X hX n
  refine vc_seq ?_
  refine vc_region ?_
  refine run_box rfl trivial rfl rfl rfl rfl rfl rfl (by intro _ _ h; cases h <;> (intro _; rfl)) ?_
  refine oq1 ?_
  refine run_nil ?_
  refine vc_seq ?_
  refine vc_seq ?_
  refine vc_region ?_
  refine oq2 ?_
  refine run_callP (by have h := ready_c c; rw [hr] at h; exact h) rfl rfl rfl trivial rfl rfl rfl rfl ?_
  refine oq1 ?_
  refine run_nil ?_
  refine vc_cond rfl (fun _ => ?_) (fun h => Bool.noConfusion h)
  refine vc_seq ?_
  refine vc_region ?_
  refine run_callP awake_c rfl rfl rfl trivial rfl rfl rfl rfl ?_
  refine oq1 ?_
  refine run_nil ?_
  refine vc_ret ?_
  refine ret_pure rfl trivial rfl (AVle.of_eq ?_)
  rfl

theorem ready_split {c : Clr} (h : c.ready = true) : c.thin = true ∧ c.check = 0 := by
  simpa [Clr.ready] using h
theorem tmod_box {a m : Int} (h : 0 ≤ a ∧ a ≤ 255) (hm : 0 < m) : 0 ≤ a % m ∧ a % m < m := by
  exact ⟨Int.emod_nonneg _ (by omega), Int.emod_lt_of_pos _ hm⟩

theorem Over2 (c : Clr) (a b : Int) (ha : 0 ≤ a ∧ a ≤ 255) (hb : 0 ≤ b ∧ b ≤ 255) (hr : c.ready = true) (hlk : c.leakedA = ([], 11)) : CallC Try.prog 5 0 (lkF [] fun _ => none) [aClr c, aInt .u8 a, aInt .u8 b] 0 (lkF [] fun _ => none) (aBool true) := by
  refine callC_intro tabOk mixed Try.func5 rfl rfl rfl rfl ?_
  intro w0 e0 Z0 X hX n
  have hrd := ready_split hr
  have hl := thin_lens hrd.1
  have hc := hrd.2
  have hG := Clr.good hc
  have hm1 := tmod_box ha (m := 20) (by decide)
  have hm2 := tmod_box hb (m := 8) (by decide)
  have ho1 : c.overA (a % 20) = ([], [], 11) := by rw [Clr.overA, hlk]; rfl
  have ho2 : c.overA (a % 20 + b % 8) = ([], [], 11) := by rw [Clr.overA, hlk]; rfl
  refine vc_seq ?_
  refine vc_region ?_
  refine run_box rfl trivial rfl rfl rfl rfl rfl rfl (by intro _ _ h; cases h <;> (intro _; rfl)) ?_
  refine oq1 ?_
  refine run_nil ?_
  refine vc_seq ?_
  refine vc_seq ?_
  refine vc_region ?_
  refine oq2 ?_
  refine run_callP (by have h := ready_c c; rw [hr] at h; exact h) rfl rfl rfl trivial rfl rfl rfl rfl ?_
  refine oq1 ?_
  refine run_nil ?_
  refine vc_cond rfl (fun h => Bool.noConfusion h) (fun _ => ?_)
  refine vc_skip ?_
  refine vc_seq ?_
  refine vc_region ?_
  refine oq1 ?_
  refine run_q rfl trivial rfl rfl rfl (wrap64 (by (try simp only [Int.toNat_natCast]); omega) (by (try simp only [Int.toNat_natCast]); omega)) ?_
  refine run_q rfl trivial rfl rfl rfl ⟨rfl, by (try simp only [Int.toNat_natCast]); omega, by (try simp only [Int.toNat_natCast]); omega⟩ ?_
  refine oq1 ?_
  refine run_nil ?_
  refine vc_seq ?_
  refine vc_region ?_
  refine oq2 ?_
  refine run_callP (Cellar_c c hl.1 hl.2.1 hl.2.2.1 hl.2.2.2) rfl rfl rfl trivial rfl rfl rfl rfl ?_
  refine run_callP (by have h := Leaked_c c; rw [hlk] at h; exact h) rfl rfl rfl trivial rfl rfl rfl rfl ?_
  refine oq1 ?_
  refine oq1 ?_
  refine oq1 ?_
  refine oq1 ?_
  refine oq1 ?_
  refine run_nil ?_
  refine vc_seq ?_
  refine vc_region ?_
  refine oq2 ?_
  refine run_callP (Cellar_c c hl.1 hl.2.1 hl.2.2.1 hl.2.2.2) rfl rfl rfl trivial rfl rfl rfl rfl ?_
  refine oq1 ?_
  refine run_callP (by have h := Over_c c (a % 20); rw [ho1] at h; exact h) rfl rfl rfl trivial rfl rfl rfl rfl ?_
  refine oq1 ?_
  refine oq1 ?_
  refine oq1 ?_
  refine oq1 ?_
  refine oq1 ?_
  refine oq1 ?_
  refine oq1 ?_
  refine run_nil ?_
  refine vc_seq ?_
  refine vc_region ?_
  refine oq2 ?_
  refine run_callP (Cellar_c c hl.1 hl.2.1 hl.2.2.1 hl.2.2.2) rfl rfl rfl trivial rfl rfl rfl rfl ?_
  refine oq1 ?_
  refine oq1 ?_
  refine run_q rfl trivial rfl rfl rfl (wrap64 (by (try simp only [Int.toNat_natCast]); omega) (by (try simp only [Int.toNat_natCast]); omega)) ?_
  refine run_q rfl trivial rfl rfl rfl ⟨rfl, by (try simp only [Int.toNat_natCast]); omega, by (try simp only [Int.toNat_natCast]); omega⟩ ?_
  refine oq4 ?_
  refine run_callP (by have h := Over_c c (a % 20 + b % 8); rw [ho2] at h; exact h) rfl rfl rfl trivial rfl rfl rfl rfl ?_
  refine oq1 ?_
  refine oq1 ?_
  refine oq1 ?_
  refine oq1 ?_
  refine oq1 ?_
  refine oq1 ?_
  refine oq1 ?_
  refine run_nil ?_
  refine vc_seq ?_
  refine vc_seq ?_
  refine vc_region ?_
  refine oq1 ?_
  refine oq1 ?_
  refine oq6 ?_
  refine oq1 ?_
  refine oq1 ?_
  refine oq1 ?_
  refine oq6 ?_
  refine oq1 ?_
  refine oq1 ?_
  refine oq1 ?_
  refine oq6 ?_
  refine oq1 ?_
  refine run_nil ?_
  refine vc_cond rfl (fun _ => ?_) (fun h => Bool.noConfusion h)
  refine vc_seq ?_
  refine vc_region ?_
  refine oq1 ?_
  refine oq6 ?_
  refine oq1 ?_
  refine oq1 ?_
  refine oq1 ?_
  refine oq6 ?_
  refine oq1 ?_
  refine oq1 ?_
  refine oq1 ?_
  refine oq1 ?_
  refine oq6 ?_
  refine oq1 ?_
  refine oq1 ?_
  refine run_callP awake_c rfl rfl rfl rfl rfl rfl rfl rfl ?_
  refine oq1 ?_
  refine oq1 ?_
  refine run_nil ?_
  refine vc_ret ?_
  refine ret_pure rfl trivial rfl (AVle.of_eq ?_)
  rfl

theorem Over3 (c : Clr) (a b : Int) (ha : 0 ≤ a ∧ a ≤ 255) (hb : 0 ≤ b ∧ b ≤ 255) (hr : c.ready = true) (l : List Rng) (hlk : c.leakedA = (l, 0)) (hll : l.length = c.casks.length) (hsd : Sound l) : CallC Try.prog 5 0 (lkF [] fun _ => none) [aClr c, aInt .u8 a, aInt .u8 b] 0 (lkF [] fun _ => none) (aBool true) := by
  refine callC_intro tabOk mixed Try.func5 rfl rfl rfl rfl ?_
  intro w0 e0 Z0 X hX n
  have hrd := ready_split hr
  have hl := thin_lens hrd.1
  have hc := hrd.2
  have hG := Clr.good hc
  have hm1 := tmod_box ha (m := 20) (by decide)
  have hm2 := tmod_box hb (m := 8) (by decide)
  have ho1 : c.overA (a % 20) = (overTo l (fun r => decide ((a % 20) < r.lo)) l.length, overTo l (fun r => decide ((a % 20) < r.hi)) l.length, 0) := by rw [Clr.overA, hlk]
  have ho2 : c.overA (a % 20 + b % 8) = (overTo l (fun r => decide ((a % 20 + b % 8) < r.lo)) l.length, overTo l (fun r => decide ((a % 20 + b % 8) < r.hi)) l.length, 0) := by rw [Clr.overA, hlk]
  refine vc_seq ?_
  refine vc_region ?_
  refine run_box rfl trivial rfl rfl rfl rfl rfl rfl (by intro _ _ h; cases h <;> (intro _; rfl)) ?_
  refine oq1 ?_
  refine run_nil ?_
  refine vc_seq ?_
  refine vc_seq ?_
  refine vc_region ?_
  refine oq2 ?_
  refine run_callP (by have h := ready_c c; rw [hr] at h; exact h) rfl rfl rfl trivial rfl rfl rfl rfl ?_
  refine oq1 ?_
  refine run_nil ?_
  refine vc_cond rfl (fun h => Bool.noConfusion h) (fun _ => ?_)
  refine vc_skip ?_
  refine vc_seq ?_
  refine vc_region ?_
  refine oq1 ?_
  refine run_q rfl trivial rfl rfl rfl (wrap64 (by (try simp only [Int.toNat_natCast]); omega) (by (try simp only [Int.toNat_natCast]); omega)) ?_
  refine run_q rfl trivial rfl rfl rfl ⟨rfl, by (try simp only [Int.toNat_natCast]); omega, by (try simp only [Int.toNat_natCast]); omega⟩ ?_
  refine oq1 ?_
  refine run_nil ?_
  refine vc_seq ?_
  refine vc_region ?_
  refine oq2 ?_
  refine run_callP (Cellar_c c hl.1 hl.2.1 hl.2.2.1 hl.2.2.2) rfl rfl rfl trivial rfl rfl rfl rfl ?_
  refine run_callP (by have h := Leaked_c c; rw [hlk] at h; exact h) rfl rfl rfl trivial rfl rfl rfl rfl ?_
  refine oq1 ?_
  refine oq1 ?_
  refine oq1 ?_
  refine oq1 ?_
  refine oq1 ?_
  refine run_nil ?_
  refine vc_seq ?_
  refine vc_region ?_
  refine oq2 ?_
  refine run_callP (Cellar_c c hl.1 hl.2.1 hl.2.2.1 hl.2.2.2) rfl rfl rfl trivial rfl rfl rfl rfl ?_
  refine oq1 ?_
  refine run_callP (by have h := Over_c c (a % 20); rw [ho1] at h; exact h) rfl rfl rfl trivial rfl rfl rfl rfl ?_
  refine oq1 ?_
  refine oq1 ?_
  refine oq1 ?_
  refine oq1 ?_
  refine oq1 ?_
  refine oq1 ?_
  refine oq1 ?_
  refine run_nil ?_
  refine vc_seq ?_
  refine vc_region ?_
  refine oq2 ?_
  refine run_callP (Cellar_c c hl.1 hl.2.1 hl.2.2.1 hl.2.2.2) rfl rfl rfl trivial rfl rfl rfl rfl ?_
  refine oq1 ?_
  refine oq1 ?_
  refine run_q rfl trivial rfl rfl rfl (wrap64 (by (try simp only [Int.toNat_natCast]); omega) (by (try simp only [Int.toNat_natCast]); omega)) ?_
  refine run_q rfl trivial rfl rfl rfl ⟨rfl, by (try simp only [Int.toNat_natCast]); omega, by (try simp only [Int.toNat_natCast]); omega⟩ ?_
  refine oq4 ?_
  refine run_callP (by have h := Over_c c (a % 20 + b % 8); rw [ho2] at h; exact h) rfl rfl rfl trivial rfl rfl rfl rfl ?_
  refine oq1 ?_
  refine oq1 ?_
  refine oq1 ?_
  refine oq1 ?_
  refine oq1 ?_
  refine oq1 ?_
  refine oq1 ?_
  refine run_nil ?_
  refine vc_seq ?_
  refine vc_seq ?_
  refine vc_region ?_
  refine oq1 ?_
  refine oq1 ?_
  refine oq6 ?_
  refine oq1 ?_
  refine oq1 ?_
  refine oq1 ?_
  refine oq6 ?_
  refine oq1 ?_
  refine oq1 ?_
  refine oq1 ?_
  refine oq6 ?_
  refine oq1 ?_
  refine run_nil ?_
  refine vc_cond rfl (fun h => Bool.noConfusion h) (fun _ => ?_)
  refine vc_skip ?_
  refine vc_seq ?_
  refine vc_seq ?_
  refine vc_region ?_
  refine oq1 ?_
  refine oq1 ?_
  refine oq5 ?_
  refine oq2 ?_
  refine oq1 ?_
  refine run_qW (aBool false) rfl trivial rfl rfl rfl rfl (.of_eq (aBool_eq (by simp [hll]))) ?_
  refine run_nil ?_
  refine vc_cond rfl (fun h => Bool.noConfusion h) (fun _ => ?_)
  refine vc_skip ?_
  refine vc_seq ?_
  refine vc_seq ?_
  refine vc_region ?_
  refine oq1 ?_
  refine run_nil ?_
  refine vc_block ?_
  refine vc_loopO (κ := Nat) (fun i => i ≤ l.length) (fun i => [(16, aInt .i64 (i : Int))] ++ deadL [6, 83, 84, 85, 86, 87, 88, 89, 90, 91, 92, 93, 94, 95, 96, 97, 98, 99, 100, 101, 102, 103, 104, 105, 106, 107, 108, 109, 110, 111, 112, 113, 114, 115, 116, 117, 118, 119, 120, 121, 122, 123, 124, 125, 126, 127, 128, 129, 130, 131, 132, 133, 134, 135, 136, 137, 138, 139, 140, 141, 142, 143, 144, 145, 146, 147, 148, 149, 150, 151, 152, 153, 154, 155, 156, 157, 158, 159, 160, 161, 162, 163, 164, 165, 166]) (fun i => l.length - i) 0 (Nat.zero_le _) ?_ ?_
  ·
    exact ent_over .base (.app (.cons (.refl _) (.nil)) _)
  rintro i hi
  refine vc_seq ?_
  refine vc_seq ?_
  refine vc_region ?_
  refine oq1 ?_
  refine oq1 ?_
  refine oq1 ?_
  refine oq6 ?_
  refine run_nil ?_
  refine vc_condP rfl (fun h1 => ?_) (fun h1 => ?_)
  ·
    try simp only [Int.toNat_natCast] at h1
    refine vc_skip ?_
    refine vc_seq ?_
    refine vc_block ?_
    refine vc_seq ?_
    refine vc_regionD (by kernel_rfl) ?_
    have hil : i < l.length := by omega
    have hsi := hsd _ (getD_mem (d := default) hil)
    refine oq1 ?_
    refine oq1 ?_
    refine oq3 ?_
    refine oq5 ?_
    refine oq2 ?_
    refine run_qW (aBool false) rfl trivial rfl rfl rfl rfl (.of_eq (aBool_eq (by simp only [Int.toNat_natCast]; simpa using hsi.1))) ?_
    refine oq1 ?_
    refine oq1 ?_
    refine oq1 ?_
    refine oq3 ?_
    refine oq5 ?_
    refine oq2 ?_
    refine oq1 ?_
    refine oq1 ?_
    refine oq3 ?_
    refine oq5 ?_
    refine oq2 ?_
    refine run_qW (aBool false) rfl rfl rfl rfl rfl rfl (.of_eq (aBool_eq (by simp only [Int.toNat_natCast]; simpa using hsi.2))) ?_
    refine oq1 ?_
    refine oq1 ?_
    refine oq1 ?_
    refine oq1 ?_
    refine run_callP (by have h := lhas_c (overTo l (fun r => decide ((a % 20) < r.lo)) l.length) (i : Int); rw [over_has hil] at h; exact h) rfl rfl rfl rfl rfl rfl rfl rfl ?_
    refine oq1 ?_
    refine oq1 ?_
    refine oq3 ?_
    refine oq5 ?_
    refine oq2 ?_
    refine oq1 ?_
    refine oq6 ?_
    refine run_qW (aBool false) rfl rfl rfl rfl rfl trivial (.of_eq (aBool_eq (by simp))) ?_
    refine oq1 ?_
    refine oq1 ?_
    refine oq1 ?_
    refine oq1 ?_
    refine run_callP (by have h := lhas_c (overTo l (fun r => decide ((a % 20) < r.hi)) l.length) (i : Int); rw [over_has hil] at h; exact h) rfl rfl rfl rfl rfl rfl rfl rfl ?_
    refine oq1 ?_
    refine oq1 ?_
    refine oq3 ?_
    refine oq5 ?_
    refine oq2 ?_
    refine oq1 ?_
    refine oq6 ?_
    refine run_qW (aBool false) rfl rfl rfl rfl rfl trivial (.of_eq (aBool_eq (by simp))) ?_
    refine oq1 ?_
    refine oq1 ?_
    refine oq1 ?_
    refine oq1 ?_
    refine run_callP (by have h := lhas_c (overTo l (fun r => decide ((a % 20) < r.lo)) l.length) (i : Int); rw [over_has hil] at h; exact h) rfl rfl rfl rfl rfl rfl rfl rfl ?_
    refine oq1 ?_
    refine run_split 138 rfl (fun h2 => ?_) (fun h2 => ?_)
    ·
      try simp only [Int.toNat_natCast] at h2
      refine oq1 ?_
      refine oq1 ?_
      refine run_callP (by have h := lhas_c (overTo l (fun r => decide ((a % 20) < r.hi)) l.length) (i : Int); rw [over_has hil] at h; exact h) rfl rfl rfl rfl rfl rfl rfl rfl ?_
      refine run_qW (aBool false) rfl rfl rfl rfl rfl trivial (.of_eq (aBool_eq (by simp at *; omega))) ?_
      refine oq1 ?_
      refine oq1 ?_
      refine oq1 ?_
      refine oq1 ?_
      refine oq1 ?_
      refine run_callP (by have h := lhas_c (overTo l (fun r => decide ((a % 20 + b % 8) < r.lo)) l.length) (i : Int); rw [over_has hil] at h; exact h) rfl rfl rfl rfl rfl rfl rfl rfl ?_
      refine oq1 ?_
      refine run_split 149 rfl (fun h3 => ?_) (fun h3 => ?_)
      ·
        try simp only [Int.toNat_natCast] at h3
        refine oq1 ?_
        refine oq1 ?_
        refine run_callP (by have h := lhas_c (overTo l (fun r => decide ((a % 20) < r.lo)) l.length) (i : Int); rw [over_has hil] at h; exact h) rfl rfl rfl rfl rfl rfl rfl rfl ?_
        refine run_qW (aBool false) rfl rfl rfl rfl rfl trivial (.of_eq (aBool_eq (by simp at *; omega))) ?_
        refine oq1 ?_
        refine oq1 ?_
        refine oq1 ?_
        refine oq1 ?_
        refine oq1 ?_
        refine run_callP (by have h := lhas_c (overTo l (fun r => decide ((a % 20 + b % 8) < r.hi)) l.length) (i : Int); rw [over_has hil] at h; exact h) rfl rfl rfl rfl rfl rfl rfl rfl ?_
        refine oq1 ?_
        refine run_split 160 rfl (fun h4 => ?_) (fun h4 => ?_)
        ·
          try simp only [Int.toNat_natCast] at h4
          refine oq1 ?_
          refine oq1 ?_
          refine run_callP (by have h := lhas_c (overTo l (fun r => decide ((a % 20) < r.hi)) l.length) (i : Int); rw [over_has hil] at h; exact h) rfl rfl rfl rfl rfl rfl rfl rfl ?_
          refine run_qW (aBool false) rfl rfl rfl rfl rfl trivial (.of_eq (aBool_eq (by simp at *; omega))) ?_
          refine oq1 ?_
          refine oq1 ?_
          refine run_nil ⟨by kernel_rfl, ?_⟩
          refine vc_cond rfl (fun h => Bool.noConfusion h) (fun _ => ?_)
          refine vc_skip ?_
          refine vc_region ?_
          refine oq1 ?_
          refine oq4 ?_
          refine oq1 ?_
          refine run_nil ?_
          refine ⟨i + 1, by omega, by omega, ent_over (by repeat (first | exact .base | refine .step rfl ?_)) (.app (.cons (.refl _) (.nil)) _)⟩
        ·
          try simp only [Int.toNat_natCast] at h4
          refine osk ?_
          refine osk ?_
          refine osk ?_
          refine osk ?_
          refine oq1 ?_
          refine oq1 ?_
          refine run_nil ⟨by kernel_rfl, ?_⟩
          refine vc_cond rfl (fun h => Bool.noConfusion h) (fun _ => ?_)
          refine vc_skip ?_
          refine vc_region ?_
          refine oq1 ?_
          refine oq4 ?_
          refine oq1 ?_
          refine run_nil ?_
          refine ⟨i + 1, by omega, by omega, ent_over (by repeat (first | exact .base | refine .step rfl ?_)) (.app (.cons (.refl _) (.nil)) _)⟩
      ·
        try simp only [Int.toNat_natCast] at h3
        refine osk ?_
        refine osk ?_
        refine osk ?_
        refine osk ?_
        refine oq1 ?_
        refine oq1 ?_
        refine oq1 ?_
        refine oq1 ?_
        refine oq1 ?_
        refine run_callP (by have h := lhas_c (overTo l (fun r => decide ((a % 20 + b % 8) < r.hi)) l.length) (i : Int); rw [over_has hil] at h; exact h) rfl rfl rfl rfl rfl rfl rfl rfl ?_
        refine oq1 ?_
        refine run_split 160 rfl (fun h5 => ?_) (fun h5 => ?_)
        ·
          try simp only [Int.toNat_natCast] at h5
          refine oq1 ?_
          refine oq1 ?_
          refine run_callP (by have h := lhas_c (overTo l (fun r => decide ((a % 20) < r.hi)) l.length) (i : Int); rw [over_has hil] at h; exact h) rfl rfl rfl rfl rfl rfl rfl rfl ?_
          refine run_qW (aBool false) rfl rfl rfl rfl rfl trivial (.of_eq (aBool_eq (by simp at *; omega))) ?_
          refine oq1 ?_
          refine oq1 ?_
          refine run_nil ⟨by kernel_rfl, ?_⟩
          refine vc_cond rfl (fun h => Bool.noConfusion h) (fun _ => ?_)
          refine vc_skip ?_
          refine vc_region ?_
          refine oq1 ?_
          refine oq4 ?_
          refine oq1 ?_
          refine run_nil ?_
          refine ⟨i + 1, by omega, by omega, ent_over (by repeat (first | exact .base | refine .step rfl ?_)) (.app (.cons (.refl _) (.nil)) _)⟩
        ·
          try simp only [Int.toNat_natCast] at h5
          refine osk ?_
          refine osk ?_
          refine osk ?_
          refine osk ?_
          refine oq1 ?_
          refine oq1 ?_
          refine run_nil ⟨by kernel_rfl, ?_⟩
          refine vc_cond rfl (fun h => Bool.noConfusion h) (fun _ => ?_)
          refine vc_skip ?_
          refine vc_region ?_
          refine oq1 ?_
          refine oq4 ?_
          refine oq1 ?_
          refine run_nil ?_
          refine ⟨i + 1, by omega, by omega, ent_over (by repeat (first | exact .base | refine .step rfl ?_)) (.app (.cons (.refl _) (.nil)) _)⟩
    ·
      try simp only [Int.toNat_natCast] at h2
      refine osk ?_
      refine osk ?_
      refine osk ?_
      refine osk ?_
      refine oq1 ?_
      refine oq1 ?_
      refine oq1 ?_
      refine oq1 ?_
      refine oq1 ?_
      refine run_callP (by have h := lhas_c (overTo l (fun r => decide ((a % 20 + b % 8) < r.lo)) l.length) (i : Int); rw [over_has hil] at h; exact h) rfl rfl rfl rfl rfl rfl rfl rfl ?_
      refine oq1 ?_
      refine run_split 149 rfl (fun h6 => ?_) (fun h6 => ?_)
      ·
        try simp only [Int.toNat_natCast] at h6
        refine oq1 ?_
        refine oq1 ?_
        refine run_callP (by have h := lhas_c (overTo l (fun r => decide ((a % 20) < r.lo)) l.length) (i : Int); rw [over_has hil] at h; exact h) rfl rfl rfl rfl rfl rfl rfl rfl ?_
        refine run_qW (aBool false) rfl rfl rfl rfl rfl trivial (.of_eq (aBool_eq (by simp at *; omega))) ?_
        refine oq1 ?_
        refine oq1 ?_
        refine oq1 ?_
        refine oq1 ?_
        refine oq1 ?_
        refine run_callP (by have h := lhas_c (overTo l (fun r => decide ((a % 20 + b % 8) < r.hi)) l.length) (i : Int); rw [over_has hil] at h; exact h) rfl rfl rfl rfl rfl rfl rfl rfl ?_
        refine oq1 ?_
        refine run_split 160 rfl (fun h7 => ?_) (fun h7 => ?_)
        ·
          try simp only [Int.toNat_natCast] at h7
          refine oq1 ?_
          refine oq1 ?_
          refine run_callP (by have h := lhas_c (overTo l (fun r => decide ((a % 20) < r.hi)) l.length) (i : Int); rw [over_has hil] at h; exact h) rfl rfl rfl rfl rfl rfl rfl rfl ?_
          refine run_qW (aBool false) rfl rfl rfl rfl rfl trivial (.of_eq (aBool_eq (by simp at *; omega))) ?_
          refine oq1 ?_
          refine oq1 ?_
          refine run_nil ⟨by kernel_rfl, ?_⟩
          refine vc_cond rfl (fun h => Bool.noConfusion h) (fun _ => ?_)
          refine vc_skip ?_
          refine vc_region ?_
          refine oq1 ?_
          refine oq4 ?_
          refine oq1 ?_
          refine run_nil ?_
          refine ⟨i + 1, by omega, by omega, ent_over (by repeat (first | exact .base | refine .step rfl ?_)) (.app (.cons (.refl _) (.nil)) _)⟩
        ·
          try simp only [Int.toNat_natCast] at h7
          refine osk ?_
          refine osk ?_
          refine osk ?_
          refine osk ?_
          refine oq1 ?_
          refine oq1 ?_
          refine run_nil ⟨by kernel_rfl, ?_⟩
          refine vc_cond rfl (fun h => Bool.noConfusion h) (fun _ => ?_)
          refine vc_skip ?_
          refine vc_region ?_
          refine oq1 ?_
          refine oq4 ?_
          refine oq1 ?_
          refine run_nil ?_
          refine ⟨i + 1, by omega, by omega, ent_over (by repeat (first | exact .base | refine .step rfl ?_)) (.app (.cons (.refl _) (.nil)) _)⟩
      ·
        try simp only [Int.toNat_natCast] at h6
        refine osk ?_
        refine osk ?_
        refine osk ?_
        refine osk ?_
        refine oq1 ?_
        refine oq1 ?_
        refine oq1 ?_
        refine oq1 ?_
        refine oq1 ?_
        refine run_callP (by have h := lhas_c (overTo l (fun r => decide ((a % 20 + b % 8) < r.hi)) l.length) (i : Int); rw [over_has hil] at h; exact h) rfl rfl rfl rfl rfl rfl rfl rfl ?_
        refine oq1 ?_
        refine run_split 160 rfl (fun h8 => ?_) (fun h8 => ?_)
        ·
          try simp only [Int.toNat_natCast] at h8
          refine oq1 ?_
          refine oq1 ?_
          refine run_callP (by have h := lhas_c (overTo l (fun r => decide ((a % 20) < r.hi)) l.length) (i : Int); rw [over_has hil] at h; exact h) rfl rfl rfl rfl rfl rfl rfl rfl ?_
          refine run_qW (aBool false) rfl rfl rfl rfl rfl trivial (.of_eq (aBool_eq (by simp at *; omega))) ?_
          refine oq1 ?_
          refine oq1 ?_
          refine run_nil ⟨by kernel_rfl, ?_⟩
          refine vc_cond rfl (fun h => Bool.noConfusion h) (fun _ => ?_)
          refine vc_skip ?_
          refine vc_region ?_
          refine oq1 ?_
          refine oq4 ?_
          refine oq1 ?_
          refine run_nil ?_
          refine ⟨i + 1, by omega, by omega, ent_over (by repeat (first | exact .base | refine .step rfl ?_)) (.app (.cons (.refl _) (.nil)) _)⟩
        ·
          try simp only [Int.toNat_natCast] at h8
          refine osk ?_
          refine osk ?_
          refine osk ?_
          refine osk ?_
          refine oq1 ?_
          refine oq1 ?_
          refine run_nil ⟨by kernel_rfl, ?_⟩
          refine vc_cond rfl (fun h => Bool.noConfusion h) (fun _ => ?_)
          refine vc_skip ?_
          refine vc_region ?_
          refine oq1 ?_
          refine oq4 ?_
          refine oq1 ?_
          refine run_nil ?_
          refine ⟨i + 1, by omega, by omega, ent_over (by repeat (first | exact .base | refine .step rfl ?_)) (.app (.cons (.refl _) (.nil)) _)⟩
  ·
    try simp only [Int.toNat_natCast] at h1
    refine vc_exit ?_
    refine vc_seq ?_
    refine vc_region ?_
    refine run_callP awake_c rfl rfl rfl trivial rfl rfl rfl rfl ?_
    refine oq1 ?_
    refine run_nil ?_
    refine vc_ret ?_
    refine ret_pure rfl trivial rfl (AVle.of_eq ?_)
    rfl

theorem CaskOver_c (c : Clr) (a b : Int) (ha : 0 ≤ a ∧ a ≤ 255) (hb : 0 ≤ b ∧ b ≤ 255) : CallC Try.prog 5 0 (lkF [] fun _ => none) [aClr c, aInt .u8 a, aInt .u8 b] 0 (lkF [] fun _ => none) (aBool true) := by
  by_cases hr : c.ready = true
  · have hc := (ready_split hr).2
    have hG := Clr.good hc
    rcases asked_cases hc (fun q => c.leaksL (c.starts q)) with h | ⟨l, h1, h2⟩
    · exact Over2 c a b ha hb hr h
    · exact Over3 c a b ha hb hr l h2 (inM_len (leaksL_len c) l h1) (asked_sound hG (fun q hq => leaks_sound hG hq) (leaksL_len c) h1)
  · exact Over1 c a b ha hb (by simpa using hr)

end Go.Proofs.Ytnkgdapdccpjmaa

/- CaskOver: the statement. -/
namespace Go.Proofs.Ytnkgdapdccpjmaa.caskOver
open Go Go.RowKit Go.Sx Go.ChangeShapes Go.WideShapes Go.ChangeAt
set_option linter.unusedVariables false

theorem contract (H : Type) (enc : TypeId × Value → H) (W : World) (base : Nat) (args : Array Value) (ds gs : List (DataW H)) (before : List MemPlace)
    (hval : ∀ (j : Nat) t v, Try.f5.params[j]? = some t → args[j]? = some v → Value.okWide Try.prog W .any base t v)
    (hW : DataW.Whole enc Try.prog Try.f5.params.toList Rows.caskOverSpec.vars false W args.toList ds gs before) :
    Calls Try.prog 5 args W fun e W' => ∃ v, e = .returned v ∧ Rows.caskOverSpec.post enc Try.prog Try.f5 false true false false W args v W' := by
  have hW' := hW
  obtain ⟨p, q, hA0, hV, rfl, hfz, hnd⟩ := hW
  have hA : DataW.TrodAll enc Try.prog W 0 (fun _ => true) true Try.f5.params.toList args.toList ds p := hA0
  rw [Try.params5] at hA hval
  obtain ⟨v0, vs0, d0, ds0, p0, q0, hargs, rfl, rfl, h0, r0⟩ := trodAll_cons hA
  obtain ⟨v1, vs1, d1, ds1, p1, q1, rfl, rfl, rfl, h1, r1⟩ := trodAll_cons r0
  obtain ⟨v2, vs2, d2, ds2, p2, q2, rfl, rfl, rfl, h2, r2⟩ := trodAll_cons r1
  obtain ⟨rfl, rfl, rfl⟩ := trodAll_nil r2
  obtain rfl : args = #[v0, v1, v2] := by cases args; simp_all
  obtain ⟨x0, k0, f0⟩ := arg_agg (ps := #[26, 5, 5]) (args := #[v0, v1, v2]) (b0 := base) e0 L0 rd_clr st_clr (by assumption) 0 rfl rfl h0
  obtain ⟨x1, k1, f1⟩ := arg_int (k := .u8) (ps := #[26, 5, 5]) (args := #[v0, v1, v2]) (b0 := base) e0 L0 (by kernel_rfl) (by assumption) 1 rfl rfl h1
  have k1 : 0 ≤ x1 ∧ x1 ≤ 255 := by simpa [IntKind.min, IntKind.max, IntKind.signed, IntKind.bits] using k1
  obtain ⟨x2, k2, f2⟩ := arg_int (k := .u8) (ps := #[26, 5, 5]) (args := #[v0, v1, v2]) (b0 := base) e0 L0 (by kernel_rfl) (by assumption) 2 rfl rfl h2
  have k2 : 0 ≤ x2 ∧ x2 ≤ 255 := by simpa [IntKind.min, IntKind.max, IntKind.signed, IntKind.bits] using k2
  exact step_of (tb := 4) laid (by kernel_rfl) (by kernel_rfl) (by rw [Try.params5]; intro t ht; simp only [List.mem_cons, List.not_mem_nil, or_false] at ht; rcases ht with rfl | rfl | rfl <;> exact ⟨by kernel_rfl, of_decide_eq_true (by kernel_rfl)⟩) rfl
    (fun ds h => by rw [show Try.f5.params.size = 3 by kernel_rfl] at h; match ds, h with | [_, _, _], _ => rfl) hW' (.cons f0 (.cons f1 (.cons f2 .nil))) (CaskOver_c x0 x1 x2 k1 k2)

set_option maxRecDepth 100000 in
theorem lifted (os : Os) (started : os.Started) (H : Type) (enc : TypeId × Value → H) :
    ReturnsInHanded {} Try.checked os 5 .any (Rows.caskOverSpec.pre6 enc Try.prog Try.f5 Rows.caskOverRow.domain false) (Rows.caskOverSpec.post enc Try.prog Try.f5 false true false false) := by
  refine returnsInHanded_of_change (C := Try.checked) own started (by kernel_rfl) Try.func5
    (ChangeSpec.witness6 (enc := enc) (C := Try.checked) false ⟨#[], #[.agg #[.slice none 0 0, .slice none 0 0, .slice none 0 0], .int .u8 0, .int .u8 0], []⟩ 8 (by kernel_rfl) (by kernel_rfl) (by kernel_rfl) (by kernel_rfl)) ?_
  intro W base args ds gs before hval hW _ _
  exact contract H enc W base args ds gs before hval hW

theorem proved : Rows.CaskOverSaid :=
  OpenClaim.holds_of_wide 5 Try.f5 rfl rfl rfl rfl rfl rfl rfl ⟨rfl, rfl, rfl, rfl, rfl⟩ rfl rfl rfl rfl rfl (by kernel_rfl) Try.func5 (by kernel_rfl)
    (of_decide_eq_true (by kernel_rfl)) (by unfold Func.isWrapper; first | (rw [if_pos (by decide +kernel)]; kernel_rfl) | (rw [if_neg (by decide +kernel)]; exact ⟨rfl, rfl⟩))
    (fun os started H enc _ => lifted os started H enc)
end Go.Proofs.Ytnkgdapdccpjmaa.caskOver

