import Derived.Test.YtnkgdapdccpjmaaM9
/- CaskPlays. -/
namespace Go.Proofs.Ytnkgdapdccpjmaa
open Go Go.RowKit Go.Sx

theorem all_eq_of {α : Type} {l : List α} {p q : α → Bool} (h : ∀ x ∈ l, p x = q x) : l.all p = l.all q := by
  rw [Bool.eq_iff_iff, List.all_eq_true, List.all_eq_true]
  exact ⟨fun k x hx => by rw [← h x hx]; exact k x hx, fun k x hx => by rw [h x hx]; exact k x hx⟩
theorem thinF_all (c : Clr) : ∀ n i, c.casks.length - i ≤ n → c.casks.length ≤ 5 → thinF c i = true → ∀ j, i ≤ j → j < c.casks.length → (c.casks.getD j default).marks.length ≤ 8 := by
  intro n
  induction n with
  | zero => intro i h _ _ j h1 h2; omega
  | succ n ih =>
    intro i h h5 hf j h1 h2
    rw [thinF, if_pos ⟨by omega, by omega⟩] at hf
    split at hf
    · cases hf
    · rcases Nat.lt_or_ge i j with h3 | h3
      · exact ih (i + 1) (by omega) h5 hf j (by omega) h2
      · obtain rfl : i = j := by omega
        omega
theorem thin_lens {c : Clr} (h : c.thin = true) : c.casks.length ≤ 9 ∧ c.moves.length ≤ 9 ∧ c.gauges.length ≤ 9 ∧ ∀ k ∈ c.casks, k.marks.length ≤ 9 := by
  simp only [Clr.thin, Bool.and_eq_true, decide_eq_true_eq] at h
  obtain ⟨⟨⟨h1, h2⟩, h3⟩, h4⟩ := h
  have h4 : c.gauges.length ≤ 9 := h4
  refine ⟨by omega, by omega, by omega, fun k hk => ?_⟩
  obtain ⟨i, hi, rfl⟩ := List.getElem_of_mem hk
  have := thinF_all c _ 0 (Nat.le_refl _) h2 h1 i (Nat.zero_le _) hi
  rw [show c.casks.getD i default = c.casks[i] by simp [List.getD, List.getElem?_eq_getElem hi]] at this
  omega
theorem thinT_lens {t : Tru} (h : t.thin = true) : t.start.length ≤ 1000000 ∧ t.leak.length ≤ 1000000 ∧ t.quantity.length ≤ 1000000 := by
  simp only [Tru.thin, Bool.and_eq_true, decide_eq_true_eq] at h
  omega
theorem intsEq_self (a : List Int) : ∀ n i, a.length - i ≤ n → intsEq a a i = true := by
  intro n
  induction n with
  | zero => intro i h; rw [intsEq, if_neg (by omega)]
  | succ n ih =>
    intro i h
    rw [intsEq]
    split
    · rw [if_pos rfl]; exact ih _ (by omega)
    · rfl
theorem sameInts_self (a : List Int) : sameInts a a = true := by rw [sameInts, if_pos rfl]; exact intsEq_self a _ 0 (Nat.le_refl _)
theorem cont_zero (c : Clr) (t : Tru) (i : Nat) : c.cont t i 0 = t.start.getD i 0 := by simp [Clr.cont, Clr.gain]
theorem rowOk0_all (c : Clr) (t : Tru) (i : Nat) (h0 : within (c.cont t i 0) 0 (c.casks.getD i default).top.content = true) : ∀ m, c.rowOk0 t i (m + 1) = c.rowOk t i m
  | 0 => by rw [rowOk0_succ, h0]; simp [Clr.rowOk0, Clr.rowOk]
  | m + 1 => by rw [rowOk0_succ, rowOk0_all c t i h0 m, rowOk_succ]; rfl
theorem play_right {c : Clr} {t : Tru} (hG : c.Good) (h : c.ofT t = true) : c.playOk t = c.rightTo t c.casks.length := by
  rw [Clr.playOk, Clr.rightTo]
  refine all_eq_of fun i hi => ?_
  have hi := List.mem_range.1 hi
  refine rowOk0_all c t i ?_ _
  rw [cont_zero]
  have h3 := (ofT_elim h).2.1 i hi
  have h4 := (hG.cask _ (getD_mem (d := default) hi)).start
  simp only [Clr.caskOk, Rng.has, within, Bool.and_eq_true, decide_eq_true_eq] at h3 ⊢
  omega
theorem wrong_none (c : Clr) (Y : List (List Int)) : ∀ n, c.wrongTo Y n = 0 ↔ ∀ i, i < n → c.badG Y i = false
  | 0 => by simp [Clr.wrongTo]
  | n + 1 => by
    have hb := wrongTo_bounds c Y n
    have ih := wrong_none c Y n
    rw [Clr.wrongTo]
    have hp : (0 : Int) < 2 ^ n := Int.pow_pos (by decide)
    constructor
    · intro h i hi
      have h0 : c.wrongTo Y n = 0 := by split at h <;> omega
      have h1 : c.badG Y n = false := by
        cases hg : c.badG Y n with
        | false => rfl
        | true => rw [hg] at h; simp at h; omega
      rcases Nat.lt_succ_iff_lt_or_eq.1 hi with h2 | rfl
      · exact ih.1 h0 i h2
      · exact h1
    · intro h
      rw [ih.2 fun i hi => h i (by omega), h n (by omega)]; rfl
theorem badG_test (c : Clr) (Y : List (List Int)) (i : Nat) : c.badG Y i = !c.testG Y (c.gauges.getD i default) := rfl
theorem tests_wrong (c : Clr) (Y : List (List Int)) : c.gauges.all (c.testG Y) = decide (c.wrongTo Y c.gauges.length = 0) := by
  rw [Bool.eq_iff_iff, decide_eq_true_eq, wrong_none, List.all_eq_true]
  constructor
  · intro h i hi
    rw [badG_test, h _ (getD_mem hi)]; rfl
  · intro h g hg
    obtain ⟨i, hi, rfl⟩ := List.getElem_of_mem hg
    have := h i hi
    rw [badG_test, show c.gauges.getD i default = c.gauges[i] by simp [List.getD, List.getElem?_eq_getElem hi]] at this
    simpa using this
theorem proves_eq {c : Clr} {t : Tru} (hc : c.check = 0) : c.proves t = c.isTruth t := by
  have hG := Clr.good hc
  rw [Clr.proves, Clr.isTruth, Clr.playA, if_pos hc]
  by_cases ho : c.ofT t = true
  · rw [if_pos ho, play_right hG ho, ho, tests_wrong]
    by_cases hr : c.rightTo t c.casks.length = true
    · rw [if_pos hr, hr]; rfl
    · rw [if_neg hr]; simp [hr]
  · rw [if_neg ho]; simp [ho]
theorem proves_bad {c : Clr} {t : Tru} (hc : c.check ≠ 0) : c.proves t = false := by
  rw [Clr.proves, Clr.playA, if_neg hc]; simp [hc]

theorem Plays1 (c : Clr) (t : Tru) (h1 : c.thin = false) : CallC Try.prog 6 0 (lkF [] fun _ => none) [aClr c, aTru t] 0 (lkF [] fun _ => none) (aBool true) := by
  refine callC_intro tabOk mixed Try.func6 rfl rfl rfl rfl ?_
  intro w0 e0 Z0 X hX n
  refine vc_seq ?_
  refine vc_region ?_
  refine run_box rfl trivial rfl rfl rfl rfl rfl rfl (by intro _ _ h; cases h <;> (intro _; rfl)) ?_
  refine run_box rfl trivial rfl rfl rfl rfl rfl rfl (by intro _ _ h; cases h <;> (intro _; rfl)) ?_
  refine oq1 ?_
  refine run_nil ?_
  refine vc_seq ?_
  refine vc_seq ?_
  refine vc_region ?_
  refine oq2 ?_
  refine run_callP (by have h := thin_c c; rw [h1] at h; exact h) rfl rfl rfl trivial rfl rfl rfl rfl ?_
  refine oq1 ?_
  refine oq1 ?_
  refine osk ?_
  refine osk ?_
  refine osk ?_
  refine oq1 ?_
  refine run_nil ?_
  refine vc_cond rfl (fun _ => ?_) (fun h => Bool.noConfusion h)
  refine vc_seq ?_
  refine vc_region ?_
  refine run_callP awake_c rfl rfl rfl trivial rfl rfl rfl rfl ?_
  refine oq1 ?_
  refine run_nil ?_
  refine vc_ret ?_
  refine ret_pure rfl trivial rfl (AVle.of_eq ?_)
  rfl

theorem Plays2 (c : Clr) (t : Tru) (h1 : c.thin = true) (h2 : t.thin = false) : CallC Try.prog 6 0 (lkF [] fun _ => none) [aClr c, aTru t] 0 (lkF [] fun _ => none) (aBool true) := by
  refine callC_intro tabOk mixed Try.func6 rfl rfl rfl rfl ?_
  intro w0 e0 Z0 X hX n
  refine vc_seq ?_
  refine vc_region ?_
  refine run_box rfl trivial rfl rfl rfl rfl rfl rfl (by intro _ _ h; cases h <;> (intro _; rfl)) ?_
  refine run_box rfl trivial rfl rfl rfl rfl rfl rfl (by intro _ _ h; cases h <;> (intro _; rfl)) ?_
  refine oq1 ?_
  refine run_nil ?_
  refine vc_seq ?_
  refine vc_seq ?_
  refine vc_region ?_
  refine oq2 ?_
  refine run_callP (by have h := thin_c c; rw [h1] at h; exact h) rfl rfl rfl trivial rfl rfl rfl rfl ?_
  refine oq1 ?_
  refine oq1 ?_
  refine oq2 ?_
  refine run_callP (by have h := thinTruth_c t; rw [h2] at h; exact h) rfl rfl rfl rfl rfl rfl rfl rfl ?_
  refine oq1 ?_
  refine oq1 ?_
  refine run_nil ?_
  refine vc_cond rfl (fun _ => ?_) (fun h => Bool.noConfusion h)
  refine vc_seq ?_
  refine vc_region ?_
  refine run_callP awake_c rfl rfl rfl trivial rfl rfl rfl rfl ?_
  refine oq1 ?_
  refine run_nil ?_
  refine vc_ret ?_
  refine ret_pure rfl trivial rfl (AVle.of_eq ?_)
  rfl

theorem Plays3 (c : Clr) (t : Tru) (h1 : c.thin = true) (h2 : t.thin = true) (hc : c.check ≠ 0) : CallC Try.prog 6 0 (lkF [] fun _ => none) [aClr c, aTru t] 0 (lkF [] fun _ => none) (aBool true) := by
  refine callC_intro tabOk mixed Try.func6 rfl rfl rfl rfl ?_
  intro w0 e0 Z0 X hX n
  have hl := thin_lens h1
  have htl := thinT_lens h2
  have hp : c.playA t = ([], c.check) := by rw [Clr.playA, if_neg hc]
  refine vc_seq ?_
  refine vc_region ?_
  refine run_box rfl trivial rfl rfl rfl rfl rfl rfl (by intro _ _ h; cases h <;> (intro _; rfl)) ?_
  refine run_box rfl trivial rfl rfl rfl rfl rfl rfl (by intro _ _ h; cases h <;> (intro _; rfl)) ?_
  refine oq1 ?_
  refine run_nil ?_
  refine vc_seq ?_
  refine vc_seq ?_
  refine vc_region ?_
  refine oq2 ?_
  refine run_callP (by have h := thin_c c; rw [h1] at h; exact h) rfl rfl rfl trivial rfl rfl rfl rfl ?_
  refine oq1 ?_
  refine oq1 ?_
  refine oq2 ?_
  refine run_callP (by have h := thinTruth_c t; rw [h2] at h; exact h) rfl rfl rfl rfl rfl rfl rfl rfl ?_
  refine oq1 ?_
  refine oq1 ?_
  refine run_nil ?_
  refine vc_cond rfl (fun h => Bool.noConfusion h) (fun _ => ?_)
  refine vc_skip ?_
  refine vc_seq ?_
  refine vc_regionD rfl ?_
  refine oq2 ?_
  refine run_callP (Cellar_c c hl.1 hl.2.1 hl.2.2.1 hl.2.2.2) rfl rfl rfl trivial rfl rfl rfl rfl ?_
  refine oq2 ?_
  refine run_callP (Truth_c t htl.1 htl.2.1 htl.2.2) rfl rfl rfl trivial rfl rfl rfl rfl ?_
  refine run_callP (by have h := Play_c c t; rw [hp] at h; exact h) rfl rfl rfl trivial rfl rfl rfl rfl ?_
  refine oq1 ?_
  refine oq1 ?_
  refine oq1 ?_
  refine oq1 ?_
  refine oq1 ?_
  refine run_nil ⟨rfl, ?_⟩
  refine vc_seq ?_
  refine vc_regionD rfl ?_
  refine oq2 ?_
  refine run_callP (Cellar_c c hl.1 hl.2.1 hl.2.2.1 hl.2.2.2) rfl rfl rfl trivial rfl rfl rfl rfl ?_
  refine oq2 ?_
  refine run_callP (Truth_c t htl.1 htl.2.1 htl.2.2) rfl rfl rfl trivial rfl rfl rfl rfl ?_
  refine run_callP (by have h := ProveTruth_c c t; rw [proves_bad hc] at h; exact h) rfl rfl rfl trivial rfl rfl rfl rfl ?_
  refine oq1 ?_
  refine run_nil ⟨rfl, ?_⟩
  refine vc_seq ?_
  refine vc_region ?_
  refine oq2 ?_
  refine run_callP (fault_c _) rfl rfl rfl trivial rfl rfl rfl rfl ?_
  refine oq1 ?_
  refine run_nil ?_
  refine vc_seq ?_
  refine vc_seq ?_
  refine vc_region ?_
  refine oq1 ?_
  refine oq1 ?_
  refine run_qW (aBool false) rfl trivial rfl rfl rfl rfl (.of_eq (aBool_eq (decide_eq_false hc))) ?_
  refine oq1 ?_
  refine osk ?_
  refine osk ?_
  refine osk ?_
  refine oq1 ?_
  refine oq1 ?_
  refine run_nil ?_
  refine vc_cond rfl (fun h => Bool.noConfusion h) (fun _ => ?_)
  refine vc_skip ?_
  refine vc_seq ?_
  refine vc_seq ?_
  refine vc_region ?_
  refine oq1 ?_
  refine run_qW (aBool false) rfl trivial rfl rfl rfl rfl (.of_eq (aBool_eq (decide_eq_false hc))) ?_
  refine oq1 ?_
  refine osk ?_
  refine osk ?_
  refine osk ?_
  refine osk ?_
  refine oq1 ?_
  refine run_nil ?_
  refine vc_cond rfl (fun h => Bool.noConfusion h) (fun _ => ?_)
  refine vc_skip ?_
  refine vc_seq ?_
  refine vc_region ?_
  refine oq1 ?_
  refine run_nil ?_
  refine vc_seq ?_
  refine vc_seq ?_
  refine vc_region ?_
  refine oq1 ?_
  refine run_qW (aBool false) rfl trivial rfl rfl rfl rfl (.of_eq (aBool_eq (decide_eq_false hc))) ?_
  refine run_nil ?_
  refine vc_cond rfl (fun h => Bool.noConfusion h) (fun _ => ?_)
  refine vc_skip ?_
  refine vc_seq ?_
  refine vc_seq ?_
  refine vc_region ?_
  refine oq1 ?_
  refine run_qW (aBool true) rfl trivial rfl rfl rfl rfl (.of_eq (aBool_eq (by simpa using hc))) ?_
  refine run_nil ?_
  refine vc_cond rfl (fun _ => ?_) (fun h => Bool.noConfusion h)
  refine vc_seq ?_
  refine vc_region ?_
  refine oq1 ?_
  refine oq1 ?_
  refine run_qW (aBool true) rfl trivial rfl rfl rfl rfl (.of_eq (aBool_eq (decide_eq_true rfl))) ?_
  refine oq1 ?_
  refine oq1 ?_
  refine oq1 ?_
  refine oq6 ?_
  refine oq1 ?_
  refine oq1 ?_
  refine run_callP awake_c rfl rfl rfl rfl rfl rfl rfl rfl ?_
  refine oq1 ?_
  refine oq1 ?_
  refine run_nil ?_
  refine vc_ret ?_
  refine ret_pure rfl trivial rfl (AVle.of_eq ?_)
  rfl

theorem Plays4 (c : Clr) (t : Tru) (h1 : c.thin = true) (h2 : t.thin = true) (hc : c.check = 0) (ho : c.ofT t = false) : CallC Try.prog 6 0 (lkF [] fun _ => none) [aClr c, aTru t] 0 (lkF [] fun _ => none) (aBool true) := by
  refine callC_intro tabOk mixed Try.func6 rfl rfl rfl rfl ?_
  intro w0 e0 Z0 X hX n
  have hl := thin_lens h1
  have htl := thinT_lens h2
  have hG := Clr.good hc
  have hp : c.playA t = ([], 2) := by rw [Clr.playA, if_pos hc, if_neg (by simp [ho])]
  have hit : c.isTruth t = false := by simp [Clr.isTruth, ho]
  have hpr : c.proves t = false := by rw [proves_eq hc, hit]
  refine vc_seq ?_
  refine vc_region ?_
  refine run_box rfl trivial rfl rfl rfl rfl rfl rfl (by intro _ _ h; cases h <;> (intro _; rfl)) ?_
  refine run_box rfl trivial rfl rfl rfl rfl rfl rfl (by intro _ _ h; cases h <;> (intro _; rfl)) ?_
  refine oq1 ?_
  refine run_nil ?_
  refine vc_seq ?_
  refine vc_seq ?_
  refine vc_region ?_
  refine oq2 ?_
  refine run_callP (by have h := thin_c c; rw [h1] at h; exact h) rfl rfl rfl trivial rfl rfl rfl rfl ?_
  refine oq1 ?_
  refine oq1 ?_
  refine oq2 ?_
  refine run_callP (by have h := thinTruth_c t; rw [h2] at h; exact h) rfl rfl rfl rfl rfl rfl rfl rfl ?_
  refine oq1 ?_
  refine oq1 ?_
  refine run_nil ?_
  refine vc_cond rfl (fun h => Bool.noConfusion h) (fun _ => ?_)
  refine vc_skip ?_
  refine vc_seq ?_
  refine vc_regionD rfl ?_
  refine oq2 ?_
  refine run_callP (Cellar_c c hl.1 hl.2.1 hl.2.2.1 hl.2.2.2) rfl rfl rfl trivial rfl rfl rfl rfl ?_
  refine oq2 ?_
  refine run_callP (Truth_c t htl.1 htl.2.1 htl.2.2) rfl rfl rfl trivial rfl rfl rfl rfl ?_
  refine run_callP (by have h := Play_c c t; rw [hp] at h; exact h) rfl rfl rfl trivial rfl rfl rfl rfl ?_
  refine oq1 ?_
  refine oq1 ?_
  refine oq1 ?_
  refine oq1 ?_
  refine oq1 ?_
  refine run_nil ⟨rfl, ?_⟩
  refine vc_seq ?_
  refine vc_regionD rfl ?_
  refine oq2 ?_
  refine run_callP (Cellar_c c hl.1 hl.2.1 hl.2.2.1 hl.2.2.2) rfl rfl rfl trivial rfl rfl rfl rfl ?_
  refine oq2 ?_
  refine run_callP (Truth_c t htl.1 htl.2.1 htl.2.2) rfl rfl rfl trivial rfl rfl rfl rfl ?_
  refine run_callP (by have h := ProveTruth_c c t; rw [hpr] at h; exact h) rfl rfl rfl trivial rfl rfl rfl rfl ?_
  refine oq1 ?_
  refine run_nil ⟨rfl, ?_⟩
  refine vc_seq ?_
  refine vc_region ?_
  refine oq2 ?_
  refine run_callP (by have h := fault_c c; rw [hc] at h; exact h) rfl rfl rfl trivial rfl rfl rfl rfl ?_
  refine oq1 ?_
  refine run_nil ?_
  refine vc_seq ?_
  refine vc_seq ?_
  refine vc_region ?_
  refine oq1 ?_
  refine oq1 ?_
  refine oq6 ?_
  refine oq1 ?_
  refine oq2 ?_
  refine oq2 ?_
  refine run_callP (by have h := IsTruth_c c t hG; rw [hit] at h; exact h) rfl rfl rfl rfl rfl rfl rfl rfl ?_
  refine oq1 ?_
  refine oq1 ?_
  refine run_nil ?_
  refine vc_cond rfl (fun h => Bool.noConfusion h) (fun _ => ?_)
  refine vc_skip ?_
  refine vc_seq ?_
  refine vc_seq ?_
  refine vc_region ?_
  refine oq1 ?_
  refine oq6 ?_
  refine oq1 ?_
  refine oq2 ?_
  refine oq2 ?_
  refine run_callP (by have h := Of30_c c t; rw [ho] at h; exact h) rfl rfl rfl rfl rfl rfl rfl rfl ?_
  refine oq1 ?_
  refine oq1 ?_
  refine run_nil ?_
  refine vc_cond rfl (fun _ => ?_) (fun h => Bool.noConfusion h)
  refine vc_region ?_
  refine oq1 ?_
  refine run_nil ?_
  refine vc_seq ?_
  refine vc_region ?_
  refine oq1 ?_
  refine run_nil ?_
  refine vc_seq ?_
  refine vc_seq ?_
  refine vc_region ?_
  refine oq1 ?_
  refine oq6 ?_
  refine run_nil ?_
  refine vc_cond rfl (fun h => Bool.noConfusion h) (fun _ => ?_)
  refine vc_skip ?_
  refine vc_seq ?_
  refine vc_seq ?_
  refine vc_region ?_
  refine oq1 ?_
  refine oq6 ?_
  refine run_nil ?_
  refine vc_cond rfl (fun _ => ?_) (fun h => Bool.noConfusion h)
  refine vc_seq ?_
  refine vc_region ?_
  refine oq1 ?_
  refine oq1 ?_
  refine oq6 ?_
  refine oq1 ?_
  refine oq1 ?_
  refine oq1 ?_
  refine oq6 ?_
  refine oq1 ?_
  refine oq1 ?_
  refine run_callP awake_c rfl rfl rfl rfl rfl rfl rfl rfl ?_
  refine oq1 ?_
  refine oq1 ?_
  refine run_nil ?_
  refine vc_ret ?_
  refine ret_pure rfl trivial rfl (AVle.of_eq ?_)
  rfl

theorem Plays5 (c : Clr) (t : Tru) (h1 : c.thin = true) (h2 : t.thin = true) (hc : c.check = 0) (ho : c.ofT t = true) (hr : c.rightTo t c.casks.length = false) : CallC Try.prog 6 0 (lkF [] fun _ => none) [aClr c, aTru t] 0 (lkF [] fun _ => none) (aBool true) := by
  refine callC_intro tabOk mixed Try.func6 rfl rfl rfl rfl ?_
  intro w0 e0 Z0 X hX n
  have hl := thin_lens h1
  have htl := thinT_lens h2
  have hG := Clr.good hc
  have hp : c.playA t = ([], 11) := by rw [Clr.playA, if_pos hc, if_pos ho, if_neg (by simp [play_right hG ho, hr])]
  refine vc_seq ?_
  refine vc_region ?_
  refine run_box rfl trivial rfl rfl rfl rfl rfl rfl (by intro _ _ h; cases h <;> (intro _; rfl)) ?_
  refine run_box rfl trivial rfl rfl rfl rfl rfl rfl (by intro _ _ h; cases h <;> (intro _; rfl)) ?_
  refine oq1 ?_
  refine run_nil ?_
  refine vc_seq ?_
  refine vc_seq ?_
  refine vc_region ?_
  refine oq2 ?_
  refine run_callP (by have h := thin_c c; rw [h1] at h; exact h) rfl rfl rfl trivial rfl rfl rfl rfl ?_
  refine oq1 ?_
  refine oq1 ?_
  refine oq2 ?_
  refine run_callP (by have h := thinTruth_c t; rw [h2] at h; exact h) rfl rfl rfl rfl rfl rfl rfl rfl ?_
  refine oq1 ?_
  refine oq1 ?_
  refine run_nil ?_
  refine vc_cond rfl (fun h => Bool.noConfusion h) (fun _ => ?_)
  refine vc_skip ?_
  refine vc_seq ?_
  refine vc_regionD rfl ?_
  refine oq2 ?_
  refine run_callP (Cellar_c c hl.1 hl.2.1 hl.2.2.1 hl.2.2.2) rfl rfl rfl trivial rfl rfl rfl rfl ?_
  refine oq2 ?_
  refine run_callP (Truth_c t htl.1 htl.2.1 htl.2.2) rfl rfl rfl trivial rfl rfl rfl rfl ?_
  refine run_callP (by have h := Play_c c t; rw [hp] at h; exact h) rfl rfl rfl trivial rfl rfl rfl rfl ?_
  refine oq1 ?_
  refine oq1 ?_
  refine oq1 ?_
  refine oq1 ?_
  refine oq1 ?_
  refine run_nil ⟨rfl, ?_⟩
  refine vc_seq ?_
  refine vc_regionD rfl ?_
  refine oq2 ?_
  refine run_callP (Cellar_c c hl.1 hl.2.1 hl.2.2.1 hl.2.2.2) rfl rfl rfl trivial rfl rfl rfl rfl ?_
  refine oq2 ?_
  refine run_callP (Truth_c t htl.1 htl.2.1 htl.2.2) rfl rfl rfl trivial rfl rfl rfl rfl ?_
  refine run_callP (by have h := ProveTruth_c c t; rw [proves_eq hc] at h; exact h) rfl rfl rfl trivial rfl rfl rfl rfl ?_
  refine oq1 ?_
  refine run_nil ⟨rfl, ?_⟩
  refine vc_seq ?_
  refine vc_region ?_
  refine oq2 ?_
  refine run_callP (by have h := fault_c c; rw [hc] at h; exact h) rfl rfl rfl trivial rfl rfl rfl rfl ?_
  refine oq1 ?_
  refine run_nil ?_
  refine vc_seq ?_
  refine vc_seq ?_
  refine vc_region ?_
  refine oq1 ?_
  refine oq1 ?_
  refine oq6 ?_
  refine oq1 ?_
  refine oq2 ?_
  refine oq2 ?_
  refine run_callP (IsTruth_c c t hG) rfl rfl rfl rfl rfl rfl rfl rfl ?_
  refine oq1 ?_
  refine run_qW (aBool false) rfl trivial rfl rfl rfl trivial (.of_eq (aBool_eq (by simp))) ?_
  refine run_nil ?_
  refine vc_cond rfl (fun h => Bool.noConfusion h) (fun _ => ?_)
  refine vc_skip ?_
  refine vc_seq ?_
  refine vc_seq ?_
  refine vc_region ?_
  refine oq1 ?_
  refine oq6 ?_
  refine oq1 ?_
  refine oq2 ?_
  refine oq2 ?_
  refine run_callP (by have h := Of30_c c t; rw [ho] at h; exact h) rfl rfl rfl rfl rfl rfl rfl rfl ?_
  refine oq1 ?_
  refine oq1 ?_
  refine run_nil ?_
  refine vc_cond rfl (fun h => Bool.noConfusion h) (fun _ => ?_)
  refine vc_skip ?_
  refine vc_seq ?_
  refine vc_region ?_
  refine oq1 ?_
  refine run_nil ?_
  refine vc_seq ?_
  refine vc_seq ?_
  refine vc_region ?_
  refine oq1 ?_
  refine oq6 ?_
  refine run_nil ?_
  refine vc_cond rfl (fun _ => ?_) (fun h => Bool.noConfusion h)
  refine vc_seq ?_
  refine vc_region ?_
  refine oq1 ?_
  refine run_nil ?_
  refine vc_seq ?_
  refine vc_region ?_
  refine oq2 ?_
  refine oq2 ?_
  refine run_callP (by have h := Run_c c t hG ho; rw [hr] at h; exact h) rfl rfl rfl trivial rfl rfl rfl rfl ?_
  refine oq1 ?_
  refine oq1 ?_
  refine oq1 ?_
  refine oq1 ?_
  refine oq1 ?_
  refine run_nil ?_
  refine vc_seq ?_
  refine vc_region ?_
  refine oq1 ?_
  refine oq1 ?_
  refine run_nil ?_
  refine vc_cond rfl (fun _ => ?_) (fun h => Bool.noConfusion h)
  refine vc_region ?_
  refine oq1 ?_
  refine run_nil ?_
  refine vc_seq ?_
  refine vc_seq ?_
  refine vc_region ?_
  refine oq1 ?_
  refine oq6 ?_
  refine run_nil ?_
  refine vc_cond rfl (fun _ => ?_) (fun h => Bool.noConfusion h)
  refine vc_seq ?_
  refine vc_region ?_
  refine oq1 ?_
  refine oq1 ?_
  refine oq6 ?_
  refine oq1 ?_
  refine oq1 ?_
  refine oq1 ?_
  refine oq6 ?_
  refine oq1 ?_
  refine oq1 ?_
  refine run_callP awake_c rfl rfl rfl rfl rfl rfl rfl rfl ?_
  refine oq1 ?_
  refine oq1 ?_
  refine run_nil ?_
  refine vc_ret ?_
  refine ret_pure rfl trivial rfl (AVle.of_eq ?_)
  rfl

theorem Plays6 (c : Clr) (t : Tru) (h1 : c.thin = true) (h2 : t.thin = true) (hc : c.check = 0) (ho : c.ofT t = true) (hr : c.rightTo t c.casks.length = true) : CallC Try.prog 6 0 (lkF [] fun _ => none) [aClr c, aTru t] 0 (lkF [] fun _ => none) (aBool true) := by
  refine callC_intro tabOk mixed Try.func6 rfl rfl rfl rfl ?_
  intro w0 e0 Z0 X hX n
  have hl := thin_lens h1
  have htl := thinT_lens h2
  have hG := Clr.good hc
  have hrl : (c.runs t).length ≤ 9 := by simp [Clr.runs]; omega
  have hp : c.playA t = (c.runs t, 0) := by rw [Clr.playA, if_pos hc, if_pos ho, if_pos (by rw [play_right hG ho, hr])]
  refine vc_seq ?_
  refine vc_region ?_
  refine run_box rfl trivial rfl rfl rfl rfl rfl rfl (by intro _ _ h; cases h <;> (intro _; rfl)) ?_
  refine run_box rfl trivial rfl rfl rfl rfl rfl rfl (by intro _ _ h; cases h <;> (intro _; rfl)) ?_
  refine oq1 ?_
  refine run_nil ?_
  refine vc_seq ?_
  refine vc_seq ?_
  refine vc_region ?_
  refine oq2 ?_
  refine run_callP (by have h := thin_c c; rw [h1] at h; exact h) rfl rfl rfl trivial rfl rfl rfl rfl ?_
  refine oq1 ?_
  refine oq1 ?_
  refine oq2 ?_
  refine run_callP (by have h := thinTruth_c t; rw [h2] at h; exact h) rfl rfl rfl rfl rfl rfl rfl rfl ?_
  refine oq1 ?_
  refine oq1 ?_
  refine run_nil ?_
  refine vc_cond rfl (fun h => Bool.noConfusion h) (fun _ => ?_)
  refine vc_skip ?_
  refine vc_seq ?_
  refine vc_regionD rfl ?_
  refine oq2 ?_
  refine run_callP (Cellar_c c hl.1 hl.2.1 hl.2.2.1 hl.2.2.2) rfl rfl rfl trivial rfl rfl rfl rfl ?_
  refine oq2 ?_
  refine run_callP (Truth_c t htl.1 htl.2.1 htl.2.2) rfl rfl rfl trivial rfl rfl rfl rfl ?_
  refine run_callP (by have h := Play_c c t; rw [hp] at h; exact h) rfl rfl rfl trivial rfl rfl rfl rfl ?_
  refine oq1 ?_
  refine oq1 ?_
  refine oq1 ?_
  refine oq1 ?_
  refine oq1 ?_
  refine run_nil ⟨rfl, ?_⟩
  refine vc_seq ?_
  refine vc_regionD rfl ?_
  refine oq2 ?_
  refine run_callP (Cellar_c c hl.1 hl.2.1 hl.2.2.1 hl.2.2.2) rfl rfl rfl trivial rfl rfl rfl rfl ?_
  refine oq2 ?_
  refine run_callP (Truth_c t htl.1 htl.2.1 htl.2.2) rfl rfl rfl trivial rfl rfl rfl rfl ?_
  refine run_callP (by have h := ProveTruth_c c t; rw [proves_eq hc] at h; exact h) rfl rfl rfl trivial rfl rfl rfl rfl ?_
  refine oq1 ?_
  refine run_nil ⟨rfl, ?_⟩
  refine vc_seq ?_
  refine vc_region ?_
  refine oq2 ?_
  refine run_callP (by have h := fault_c c; rw [hc] at h; exact h) rfl rfl rfl trivial rfl rfl rfl rfl ?_
  refine oq1 ?_
  refine run_nil ?_
  refine vc_seq ?_
  refine vc_seq ?_
  refine vc_region ?_
  refine oq1 ?_
  refine oq1 ?_
  refine oq6 ?_
  refine oq1 ?_
  refine oq2 ?_
  refine oq2 ?_
  refine run_callP (IsTruth_c c t hG) rfl rfl rfl rfl rfl rfl rfl rfl ?_
  refine oq1 ?_
  refine run_qW (aBool false) rfl trivial rfl rfl rfl trivial (.of_eq (aBool_eq (by simp))) ?_
  refine run_nil ?_
  refine vc_cond rfl (fun h => Bool.noConfusion h) (fun _ => ?_)
  refine vc_skip ?_
  refine vc_seq ?_
  refine vc_seq ?_
  refine vc_region ?_
  refine oq1 ?_
  refine oq6 ?_
  refine oq1 ?_
  refine oq2 ?_
  refine oq2 ?_
  refine run_callP (by have h := Of30_c c t; rw [ho] at h; exact h) rfl rfl rfl rfl rfl rfl rfl rfl ?_
  refine oq1 ?_
  refine oq1 ?_
  refine run_nil ?_
  refine vc_cond rfl (fun h => Bool.noConfusion h) (fun _ => ?_)
  refine vc_skip ?_
  refine vc_seq ?_
  refine vc_region ?_
  refine oq1 ?_
  refine run_nil ?_
  refine vc_seq ?_
  refine vc_seq ?_
  refine vc_region ?_
  refine oq1 ?_
  refine oq6 ?_
  refine run_nil ?_
  refine vc_cond rfl (fun _ => ?_) (fun h => Bool.noConfusion h)
  refine vc_seq ?_
  refine vc_region ?_
  refine oq1 ?_
  refine run_nil ?_
  refine vc_seq ?_
  refine vc_region ?_
  refine oq2 ?_
  refine oq2 ?_
  refine run_callP (by have h := Run_c c t hG ho; rw [hr] at h; exact h) rfl rfl rfl trivial rfl rfl rfl rfl ?_
  refine oq1 ?_
  refine oq1 ?_
  refine oq1 ?_
  refine oq1 ?_
  refine oq1 ?_
  refine run_nil ?_
  refine vc_seq ?_
  refine vc_region ?_
  refine oq1 ?_
  refine oq1 ?_
  refine run_nil ?_
  refine vc_cond rfl (fun h => Bool.noConfusion h) (fun _ => ?_)
  refine vc_skip ?_
  refine vc_seq ?_
  refine vc_seq ?_
  refine vc_region ?_
  refine oq1 ?_
  refine oq6 ?_
  refine run_nil ?_
  refine vc_cond rfl (fun h => Bool.noConfusion h) (fun _ => ?_)
  refine vc_skip ?_
  refine vc_seq ?_
  refine vc_seq ?_
  refine vc_region ?_
  refine oq1 ?_
  refine oq6 ?_
  refine oq1 ?_
  refine oq1 ?_
  refine oq1 ?_
  refine oq1 ?_
  refine oq1 ?_
  refine run_qW (aBool false) rfl rfl rfl rfl rfl rfl (.of_eq (aBool_eq (by simp))) ?_
  refine oq1 ?_
  refine run_nil ?_
  refine vc_cond rfl (fun h => Bool.noConfusion h) (fun _ => ?_)
  refine vc_skip ?_
  refine vc_seq ?_
  refine vc_seq ?_
  refine vc_region ?_
  refine oq1 ?_
  refine run_nil ?_
  refine vc_block ?_
  refine vc_loopO (κ := Nat) (fun i => i ≤ (c.runs t).length) (fun i => [(11, aInt .i64 (i : Int))] ++ deadL [4, 85, 86, 87, 88, 89, 90, 91, 92, 93, 94, 95, 96, 97, 98, 99, 100]) (fun i => (c.runs t).length - i) 0 (Nat.zero_le _) ?_ ?_
  ·
    exact ent_over .base (.app (.cons (.refl _) (.nil)) _)
  rintro i hi
  refine vc_seq ?_
  refine vc_seq ?_
  refine vc_region ?_
  refine oq1 ?_
  refine oq1 ?_
  refine oq1 ?_
  refine oq6 ?_
  refine run_nil ?_
  refine vc_condP rfl (fun h1 => ?_) (fun h1 => ?_)
  ·
    try simp only [Int.toNat_natCast] at h1
    refine vc_skip ?_
    refine vc_seq ?_
    refine vc_block ?_
    refine vc_seq ?_
    refine vc_regionD rfl ?_
    refine oq1 ?_
    refine oq1 ?_
    refine oq3 ?_
    refine oq2 ?_
    refine oq1 ?_
    refine oq1 ?_
    refine oq3 ?_
    refine oq2 ?_
    refine run_callP (by have h := ints_c ((c.runs t).getD i []) ((c.runs t).getD i []); rw [sameInts_self] at h; exact h) rfl rfl rfl trivial rfl rfl rfl rfl ?_
    refine oq1 ?_
    refine run_nil ⟨rfl, ?_⟩
    refine vc_cond rfl (fun h => Bool.noConfusion h) (fun _ => ?_)
    refine vc_skip ?_
    refine vc_region ?_
    refine oq1 ?_
    refine oq4 ?_
    refine oq1 ?_
    refine run_nil ?_
    refine ⟨i + 1, by omega, by omega, ent_over (by repeat (first | exact .base | refine .step rfl ?_)) (.app (.cons (.refl _) (.nil)) _)⟩
  ·
    try simp only [Int.toNat_natCast] at h1
    refine vc_exit ?_
    refine vc_seq ?_
    refine vc_region ?_
    refine run_callP awake_c rfl rfl rfl trivial rfl rfl rfl rfl ?_
    refine oq1 ?_
    refine run_nil ?_
    refine vc_ret ?_
    refine ret_pure rfl trivial rfl (AVle.of_eq ?_)
    rfl

theorem CaskPlays_c (c : Clr) (t : Tru) : CallC Try.prog 6 0 (lkF [] fun _ => none) [aClr c, aTru t] 0 (lkF [] fun _ => none) (aBool true) := by
  by_cases h1 : c.thin = true
  · by_cases h2 : t.thin = true
    · by_cases hc : c.check = 0
      · by_cases ho : c.ofT t = true
        · by_cases hr : c.rightTo t c.casks.length = true
          · exact Plays6 c t h1 h2 hc ho hr
          · exact Plays5 c t h1 h2 hc ho (by simpa using hr)
        · exact Plays4 c t h1 h2 hc (by simpa using ho)
      · exact Plays3 c t h1 h2 hc
    · exact Plays2 c t h1 (by simpa using h2)
  · exact Plays1 c t (by simpa using h1)

end Go.Proofs.Ytnkgdapdccpjmaa

/- CaskPlays: the statement. -/
namespace Go.Proofs.Ytnkgdapdccpjmaa.caskPlays
open Go Go.RowKit Go.Sx Go.ChangeShapes Go.WideShapes Go.ChangeAt
set_option linter.unusedVariables false

theorem contract (H : Type) (enc : TypeId × Value → H) (W : World) (base : Nat) (args : Array Value) (ds gs : List (DataW H)) (before : List MemPlace)
    (hval : ∀ (j : Nat) t v, Try.f6.params[j]? = some t → args[j]? = some v → Value.okWide Try.prog W .any base t v)
    (hW : DataW.Whole enc Try.prog Try.f6.params.toList Rows.caskPlaysSpec.vars false W args.toList ds gs before) :
    Calls Try.prog 6 args W fun e W' => ∃ v, e = .returned v ∧ Rows.caskPlaysSpec.post enc Try.prog Try.f6 false true false false W args v W' := by
  have hW' := hW
  obtain ⟨p, q, hA0, hV, rfl, hfz, hnd⟩ := hW
  have hA : DataW.TrodAll enc Try.prog W 0 (fun _ => true) true Try.f6.params.toList args.toList ds p := hA0
  rw [Try.params6] at hA hval
  obtain ⟨v0, vs0, d0, ds0, p0, q0, hargs, rfl, rfl, h0, r0⟩ := trodAll_cons hA
  obtain ⟨v1, vs1, d1, ds1, p1, q1, rfl, rfl, rfl, h1, r1⟩ := trodAll_cons r0
  obtain ⟨rfl, rfl, rfl⟩ := trodAll_nil r1
  obtain rfl : args = #[v0, v1] := by cases args; simp_all
  obtain ⟨x0, k0, f0⟩ := arg_agg (ps := #[26, 67]) (args := #[v0, v1]) (b0 := base) e0 L0 rd_clr st_clr (by assumption) 0 rfl rfl h0
  obtain ⟨x1, k1, f1⟩ := arg_agg (ps := #[26, 67]) (args := #[v0, v1]) (b0 := base) e0 L0 rd_tru st_tru (by assumption) 1 rfl rfl h1
  exact step_of (tb := 4) laid (by kernel_rfl) (by kernel_rfl) (by rw [Try.params6]; intro t ht; simp only [List.mem_cons, List.not_mem_nil, or_false] at ht; rcases ht with rfl | rfl <;> exact ⟨by kernel_rfl, of_decide_eq_true (by kernel_rfl)⟩) rfl
    (fun ds h => by rw [show Try.f6.params.size = 2 by kernel_rfl] at h; match ds, h with | [_, _], _ => rfl) hW' (.cons f0 (.cons f1 .nil)) (CaskPlays_c x0 x1)

set_option maxRecDepth 100000 in
theorem lifted (os : Os) (started : os.Started) (H : Type) (enc : TypeId × Value → H) :
    ReturnsInHanded {} Try.checked os 6 .any (Rows.caskPlaysSpec.pre6 enc Try.prog Try.f6 Rows.caskPlaysRow.domain false) (Rows.caskPlaysSpec.post enc Try.prog Try.f6 false true false false) := by
  refine returnsInHanded_of_change (C := Try.checked) own started (by kernel_rfl) Try.func6
    (ChangeSpec.witness6 (enc := enc) (C := Try.checked) false ⟨#[], #[.agg #[.slice none 0 0, .slice none 0 0, .slice none 0 0], .agg #[.slice none 0 0, .slice none 0 0, .slice none 0 0]], []⟩ 8 (by kernel_rfl) (by kernel_rfl) (by kernel_rfl) (by kernel_rfl)) ?_
  intro W base args ds gs before hval hW _ _
  exact contract H enc W base args ds gs before hval hW

theorem proved : Rows.CaskPlaysSaid :=
  OpenClaim.holds_of_wide 6 Try.f6 rfl rfl rfl rfl rfl rfl rfl ⟨rfl, rfl, rfl, rfl, rfl⟩ rfl rfl rfl rfl rfl (by kernel_rfl) Try.func6 (by kernel_rfl)
    (of_decide_eq_true (by kernel_rfl)) (by unfold Func.isWrapper; first | (rw [if_pos (by decide +kernel)]; kernel_rfl) | (rw [if_neg (by decide +kernel)]; exact ⟨rfl, rfl⟩))
    (fun os started H enc _ => lifted os started H enc)
end Go.Proofs.Ytnkgdapdccpjmaa.caskPlays

