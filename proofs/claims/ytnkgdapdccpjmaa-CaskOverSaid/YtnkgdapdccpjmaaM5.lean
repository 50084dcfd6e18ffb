import Derived.Test.YtnkgdapdccpjmaaM4
/- Small functions of the law. -/
namespace Go.Proofs.Ytnkgdapdccpjmaa
open Go Go.RowKit Go.Sx

def Tru.thin (t : Tru) : Bool := decide (t.start.length ≤ 9) && decide (t.leak.length ≤ 9) && decide (t.quantity.length ≤ 9)
theorem le9 (n : Nat) : decide ((n : Int) ≤ 9) = decide (n ≤ 9) := decide_eq_decide.2 (by omega)

theorem thinTruth_c (t : Tru) : CallC Try.prog 24 0 (lkF [] fun _ => none) [aTru t] 0 (lkF [] fun _ => none) (aBool t.thin) := by
  refine callC_intro tabOk mixed Try.func24 rfl rfl rfl rfl ?_
  intro w0 e0 Z0 X hX n
  refine vc_seq ?_
  refine vc_region ?_
  refine run_box rfl trivial rfl rfl rfl rfl rfl rfl (by intro _ _ h; cases h) ?_
  refine oq1 ?_
  refine run_nil ?_
  refine vc_seq ?_
  refine vc_region ?_
  refine oq5 ?_
  refine oq2 ?_
  refine oq1 ?_
  refine oq6 ?_
  refine oq1 ?_
  refine run_splitP 7 rfl (fun h1 => ?_) (fun h1 => ?_)
  ·
    try simp only [Int.toNat_natCast] at h1
    refine oq5 ?_
    refine oq2 ?_
    refine oq1 ?_
    refine oq6 ?_
    refine oq1 ?_
    refine oq1 ?_
    refine run_splitP 13 rfl (fun h2 => ?_) (fun h2 => ?_)
    ·
      try simp only [Int.toNat_natCast] at h2
      refine oq5 ?_
      refine oq2 ?_
      refine oq1 ?_
      refine oq6 ?_
      refine oq1 ?_
      refine oq1 ?_
      refine run_nil ?_
      refine vc_ret ?_
      refine ret_pure rfl trivial rfl (AVle.of_eq ?_)
      refine aBool_eq ?_
      unfold Tru.thin
      simp only [← le9]
      simp_all <;> (intros; omega)
    ·
      try simp only [Int.toNat_natCast] at h2
      refine osk ?_
      refine osk ?_
      refine osk ?_
      refine osk ?_
      refine oq1 ?_
      refine oq1 ?_
      refine run_nil ?_
      refine vc_ret ?_
      refine ret_pure rfl trivial rfl (AVle.of_eq ?_)
      refine aBool_eq ?_
      unfold Tru.thin
      simp only [← le9]
      simp_all <;> (intros; omega)
  ·
    try simp only [Int.toNat_natCast] at h1
    refine osk ?_
    refine osk ?_
    refine osk ?_
    refine osk ?_
    refine oq1 ?_
    refine oq1 ?_
    refine osk ?_
    refine osk ?_
    refine osk ?_
    refine osk ?_
    refine oq1 ?_
    refine oq1 ?_
    refine run_nil ?_
    refine vc_ret ?_
    refine ret_pure rfl trivial rfl (AVle.of_eq ?_)
    refine aBool_eq ?_
    unfold Tru.thin
    simp only [← le9]
    simp_all <;> (intros; omega)

theorem to_c (r : Rng) : CallC Try.prog 56 0 (lkF [] fun _ => none) [aRng r] 0 (lkF [] fun _ => none) (aRng r) := by
  refine callC_intro tabOk mixed Try.func56 rfl rfl rfl rfl ?_
  intro w0 e0 Z0 X hX n
  refine vc_seq ?_
  refine vc_region ?_
  refine run_box rfl trivial rfl rfl rfl rfl rfl rfl (by intro _ _ h; cases h) ?_
  refine run_alloc rfl trivial rfl rfl rfl rfl (by intro _ _ h; cases h) ?_
  refine run_nil ?_
  refine vc_seq ?_
  refine vc_region ?_
  refine oq5 ?_
  refine oq2 ?_
  refine oq5 ?_
  refine oq2 ?_
  refine oq1 ?_
  refine Sx.run_store rfl trivial rfl rfl rfl rfl rfl rfl rfl ?_
  refine run_nil ?_
  refine vc_ret ?_
  refine ret_pure rfl (Nat.le_of_ble_eq_true rfl) rfl (AVle.of_eq ?_)
  rfl

theorem between_c (a b : Int) : CallC Try.prog 46 0 (lkF [] fun _ => none) [aInt .i64 a, aInt .i64 b] 0 (lkF [] fun _ => none) (aRng ⟨a, b⟩) := by
  refine callC_intro tabOk mixed Try.func46 rfl rfl rfl rfl ?_
  intro w0 e0 Z0 X hX n
  refine vc_seq ?_
  refine vc_region ?_
  refine run_alloc rfl trivial rfl rfl rfl rfl (by intro _ _ h; cases h) ?_
  refine run_nil ?_
  refine vc_seq ?_
  refine vc_region ?_
  refine oq1 ?_
  refine oq1 ?_
  refine oq1 ?_
  refine Sx.run_store rfl trivial rfl rfl rfl rfl rfl rfl rfl ?_
  refine run_nil ?_
  refine vc_ret ?_
  refine ret_pure rfl (Nat.le_of_ble_eq_true rfl) rfl (AVle.of_eq ?_)
  rfl

theorem low_c  : CallC Try.prog 47 0 (lkF [] fun _ => none) [] 0 (lkF [] fun _ => none) (aGg ⟨0, 1, ⟨10, 10⟩, false⟩) := by
  refine callC_intro tabOk mixed Try.func47 rfl rfl rfl rfl ?_
  intro w0 e0 Z0 X hX n
  refine vc_seq ?_
  refine vc_region ?_
  refine run_alloc rfl trivial rfl rfl rfl rfl (by intro _ _ h; cases h) ?_
  refine run_nil ?_
  refine vc_seq ?_
  refine vc_region ?_
  refine run_callP (between_c _ _) rfl rfl rfl trivial rfl rfl rfl rfl ?_
  refine oq1 ?_
  refine Sx.run_store rfl trivial rfl rfl rfl rfl rfl rfl rfl ?_
  refine run_nil ?_
  refine vc_ret ?_
  refine ret_pure rfl (Nat.le_of_ble_eq_true rfl) rfl (AVle.of_eq ?_)
  rfl

theorem with_c (c : Clr) (l : List Gg) : CallC Try.prog 60 0 (lkF [] fun _ => none) [aClr c, .s (.c (.f (ggs l)))] 0 (lkF [] fun _ => none) (aClr ⟨c.casks, c.moves, l⟩) := by
  refine callC_intro tabOk mixed Try.func60 rfl rfl rfl rfl ?_
  intro w0 e0 Z0 X hX n
  refine vc_seq ?_
  refine vc_region ?_
  refine run_box rfl trivial rfl rfl rfl rfl rfl rfl (by intro _ _ h; cases h) ?_
  refine run_alloc rfl trivial rfl rfl rfl rfl (by intro _ _ h; cases h) ?_
  refine run_nil ?_
  refine vc_seq ?_
  refine vc_region ?_
  refine oq1 ?_
  refine oq5 ?_
  refine Sx.run_store rfl trivial rfl rfl rfl rfl rfl rfl rfl ?_
  refine run_nil ?_
  refine vc_seq ?_
  refine vc_region ?_
  refine oq2 ?_
  refine Sx.run_store rfl trivial rfl rfl rfl rfl rfl rfl rfl ?_
  refine run_nil ?_
  refine vc_ret ?_
  refine ret_pure rfl (Nat.le_of_ble_eq_true rfl) rfl (AVle.of_eq ?_)
  rfl

theorem list_c (l : List Int) (h : l.length ≤ 1000000) : CallC Try.prog 71 0 (lkF [] fun _ => none) [aInts l] 0 (lkF [] fun _ => none) (aInts l) := by
  refine callC_intro tabOk mixed Try.func71 rfl rfl rfl rfl ?_
  intro w0 e0 Z0 X hX n
  refine vc_seq ?_
  refine vc_region ?_
  refine oq1 ?_
  refine run_nil ?_
  refine vc_seq ?_
  refine vc_region ?_
  refine oq1 ?_
  refine run_appendNil rfl rfl rfl rfl trivial rfl rfl rfl rfl rfl rfl rfl rfl rfl (by show l.length * 9 ≤ _; omega) ?_
  refine oq1 ?_
  refine run_nil ?_
  refine vc_ent (ent_fz 0 rfl) ?_
  refine vc_ret ?_
  refine ret_pure rfl trivial rfl (AVle.of_eq ?_)
  rfl

end Go.Proofs.Ytnkgdapdccpjmaa

/- Thin. -/
namespace Go.Proofs.Ytnkgdapdccpjmaa
open Go Go.RowKit Go.Sx

def thinF (c : Clr) (i : Nat) : Bool := if i < c.casks.length ∧ i < 6 then (if 8 < (c.casks.getD i default).marks.length then false else thinF c (i + 1)) else true
termination_by c.casks.length - i
def Clr.thin (c : Clr) : Bool := thinF c 0 && decide (c.casks.length ≤ 5) && decide (c.moves.length ≤ 7) && decide (c.gauges.length ≤ 9)

theorem thin_c (c : Clr) : CallC Try.prog 23 0 (lkF [] fun _ => none) [aClr c] 0 (lkF [] fun _ => none) (aBool c.thin) := by
  refine callC_intro tabOk mixed Try.func23 rfl rfl rfl rfl ?_
  intro w0 e0 Z0 X hX n
  refine vc_fact 0 clr_len fun hlen => ?_
  refine vc_seq ?_
  refine vc_region ?_
  refine run_box rfl trivial rfl rfl rfl rfl rfl rfl (by intro _ _ h; cases h) ?_
  refine oq1 ?_
  refine run_nil ?_
  refine vc_seq ?_
  refine vc_seq ?_
  refine vc_region ?_
  refine oq1 ?_
  refine run_nil ?_
  refine vc_block ?_
  refine vc_loopO (κ := Nat) (fun i => i ≤ c.casks.length ∧ thinF c i = thinF c 0) (fun i => [(3, aInt .i64 (i : Int))] ++ deadL [2, 4, 5, 6, 7, 8, 9, 10, 11, 12, 13, 14, 15, 16, 17, 18, 19, 20, 21, 22]) (fun i => c.casks.length - i) 0 ⟨Nat.zero_le _, rfl⟩ ?_ ?_
  ·
    exact ent_over .base (.app (.cons (.refl _) (.nil)) _)
  rintro i ⟨hi, hx⟩
  refine vc_seq ?_
  refine vc_seq ?_
  refine vc_region ?_
  refine oq1 ?_
  refine oq5 ?_
  refine oq2 ?_
  refine oq1 ?_
  refine oq6 ?_
  refine oq1 ?_
  refine run_splitP 9 rfl (fun h1 => ?_) (fun h1 => ?_)
  ·
    try simp only [Int.toNat_natCast] at h1
    refine oq1 ?_
    refine oq6 ?_
    refine oq1 ?_
    refine run_nil ?_
    refine vc_condP rfl (fun h2 => ?_) (fun h2 => ?_)
    ·
      try simp only [Int.toNat_natCast] at h2
      refine vc_skip ?_
      refine vc_seq ?_
      refine vc_block ?_
      refine vc_seq ?_
      refine vc_region ?_
      refine oq5 ?_
      refine oq2 ?_
      refine oq1 ?_
      refine oq3 ?_
      refine oq5 ?_
      refine oq2 ?_
      refine oq1 ?_
      refine oq6 ?_
      refine run_nil ?_
      refine vc_condP rfl (fun h3 => ?_) (fun h3 => ?_)
      ·
        try simp only [Int.toNat_natCast] at h3
        refine vc_seq ?_
        refine vc_region ?_
        refine oq1 ?_
        refine run_nil ?_
        refine vc_ret ?_
        refine ret_pure rfl trivial rfl (AVle.of_eq ?_)
        refine aBool_eq ?_
        simp only [Clr.thin, ← hx]
        rw [thinF]
        first
          | (rw [if_pos ⟨by omega, by omega⟩, if_pos (by omega)]; rfl)
          | (rw [if_neg (by omega), Bool.eq_iff_iff]; simp only [Bool.and_eq_true, decide_eq_true_eq, true_and, Bool.false_eq_true, false_iff]; omega)
      ·
        try simp only [Int.toNat_natCast] at h3
        refine vc_skip ?_
        refine vc_region ?_
        refine oq1 ?_
        refine oq4 ?_
        refine oq1 ?_
        refine run_nil ?_
        refine ⟨i + 1, ⟨by omega, ?_⟩, by omega, ent_over (by repeat (first | exact .base | refine .step rfl ?_)) (.app (.cons (.refl _) (.nil)) _)⟩
        rw [← hx, thinF.eq_def c i, if_pos ⟨by omega, by omega⟩, if_neg (by omega)]
    ·
      try simp only [Int.toNat_natCast] at h2
      refine vc_exit ?_
      refine vc_seq ?_
      refine vc_region ?_
      refine oq5 ?_
      refine oq2 ?_
      refine oq1 ?_
      refine oq6 ?_
      refine oq1 ?_
      refine run_splitP 27 rfl (fun h4 => ?_) (fun h4 => ?_)
      ·
        try simp only [Int.toNat_natCast] at h4
        refine oq5 ?_
        refine oq2 ?_
        refine oq1 ?_
        refine oq6 ?_
        refine oq1 ?_
        refine oq1 ?_
        refine run_splitP 33 rfl (fun h5 => ?_) (fun h5 => ?_)
        ·
          try simp only [Int.toNat_natCast] at h5
          refine oq5 ?_
          refine oq2 ?_
          refine oq1 ?_
          refine oq6 ?_
          refine oq1 ?_
          refine oq1 ?_
          refine run_nil ?_
          refine vc_ret ?_
          refine ret_pure rfl trivial rfl (AVle.of_eq ?_)
          refine aBool_eq ?_
          simp only [Clr.thin, ← hx]
          rw [thinF]
          first
            | (rw [if_pos ⟨by omega, by omega⟩, if_pos (by omega)]; rfl)
            | (rw [if_neg (by omega), Bool.eq_iff_iff]; simp only [Bool.and_eq_true, decide_eq_true_eq, true_and, Bool.false_eq_true, false_iff]; omega)
        ·
          try simp only [Int.toNat_natCast] at h5
          refine osk ?_
          refine osk ?_
          refine osk ?_
          refine osk ?_
          refine oq1 ?_
          refine oq1 ?_
          refine run_nil ?_
          refine vc_ret ?_
          refine ret_pure rfl trivial rfl (AVle.of_eq ?_)
          refine aBool_eq ?_
          simp only [Clr.thin, ← hx]
          rw [thinF]
          first
            | (rw [if_pos ⟨by omega, by omega⟩, if_pos (by omega)]; rfl)
            | (rw [if_neg (by omega), Bool.eq_iff_iff]; simp only [Bool.and_eq_true, decide_eq_true_eq, true_and, Bool.false_eq_true, false_iff]; omega)
      ·
        try simp only [Int.toNat_natCast] at h4
        refine osk ?_
        refine osk ?_
        refine osk ?_
        refine osk ?_
        refine oq1 ?_
        refine oq1 ?_
        refine osk ?_
        refine osk ?_
        refine osk ?_
        refine osk ?_
        refine oq1 ?_
        refine oq1 ?_
        refine run_nil ?_
        refine vc_ret ?_
        refine ret_pure rfl trivial rfl (AVle.of_eq ?_)
        refine aBool_eq ?_
        simp only [Clr.thin, ← hx]
        rw [thinF]
        first
          | (rw [if_pos ⟨by omega, by omega⟩, if_pos (by omega)]; rfl)
          | (rw [if_neg (by omega), Bool.eq_iff_iff]; simp only [Bool.and_eq_true, decide_eq_true_eq, true_and, Bool.false_eq_true, false_iff]; omega)
  ·
    try simp only [Int.toNat_natCast] at h1
    refine osk ?_
    refine osk ?_
    refine oq1 ?_
    refine run_nil ?_
    refine vc_cond rfl (fun h => Bool.noConfusion h) (fun _ => ?_)
    refine vc_exit ?_
    refine vc_seq ?_
    refine vc_region ?_
    refine oq5 ?_
    refine oq2 ?_
    refine oq1 ?_
    refine oq6 ?_
    refine oq1 ?_
    refine run_splitP 27 rfl (fun h6 => ?_) (fun h6 => ?_)
    ·
      try simp only [Int.toNat_natCast] at h6
      refine oq5 ?_
      refine oq2 ?_
      refine oq1 ?_
      refine oq6 ?_
      refine oq1 ?_
      refine oq1 ?_
      refine run_splitP 33 rfl (fun h7 => ?_) (fun h7 => ?_)
      ·
        try simp only [Int.toNat_natCast] at h7
        refine oq5 ?_
        refine oq2 ?_
        refine oq1 ?_
        refine oq6 ?_
        refine oq1 ?_
        refine oq1 ?_
        refine run_nil ?_
        refine vc_ret ?_
        refine ret_pure rfl trivial rfl (AVle.of_eq ?_)
        refine aBool_eq ?_
        simp only [Clr.thin, ← hx]
        rw [thinF]
        first
          | (rw [if_pos ⟨by omega, by omega⟩, if_pos (by omega)]; rfl)
          | (rw [if_neg (by omega), Bool.eq_iff_iff]; simp only [Bool.and_eq_true, decide_eq_true_eq, true_and, Bool.false_eq_true, false_iff]; omega)
      ·
        try simp only [Int.toNat_natCast] at h7
        refine osk ?_
        refine osk ?_
        refine osk ?_
        refine osk ?_
        refine oq1 ?_
        refine oq1 ?_
        refine run_nil ?_
        refine vc_ret ?_
        refine ret_pure rfl trivial rfl (AVle.of_eq ?_)
        refine aBool_eq ?_
        simp only [Clr.thin, ← hx]
        rw [thinF]
        first
          | (rw [if_pos ⟨by omega, by omega⟩, if_pos (by omega)]; rfl)
          | (rw [if_neg (by omega), Bool.eq_iff_iff]; simp only [Bool.and_eq_true, decide_eq_true_eq, true_and, Bool.false_eq_true, false_iff]; omega)
    ·
      try simp only [Int.toNat_natCast] at h6
      refine osk ?_
      refine osk ?_
      refine osk ?_
      refine osk ?_
      refine oq1 ?_
      refine oq1 ?_
      refine osk ?_
      refine osk ?_
      refine osk ?_
      refine osk ?_
      refine oq1 ?_
      refine oq1 ?_
      refine run_nil ?_
      refine vc_ret ?_
      refine ret_pure rfl trivial rfl (AVle.of_eq ?_)
      refine aBool_eq ?_
      simp only [Clr.thin, ← hx]
      rw [thinF]
      first
        | (rw [if_pos ⟨by omega, by omega⟩, if_pos (by omega)]; rfl)
        | (rw [if_neg (by omega), Bool.eq_iff_iff]; simp only [Bool.and_eq_true, decide_eq_true_eq, true_and, Bool.false_eq_true, false_iff]; omega)

end Go.Proofs.Ytnkgdapdccpjmaa

/- Marks that rise, said in both ways. -/
namespace Go.Proofs.Ytnkgdapdccpjmaa
open Go Go.RowKit Go.Sx

theorem riseI_all : ∀ (n : Nat) (a : Mk) (l : List Mk) (i : Nat), n = l.length - i → (∀ j, i ≤ j → j < l.length → (if j = i then a else l.getD (j - 1) default).next (l.getD j default) = true) → ¬ 0 ≤ riseI a l i := by
  intro n
  induction n with
  | zero =>
    intro a l i h _
    rw [riseI, if_neg (by omega)]; omega
  | succ n ih =>
    intro a l i h hall
    have h0 := hall i (Nat.le_refl _) (by omega)
    rw [if_pos rfl] at h0
    rw [riseI, if_pos (by omega), if_neg (by rw [h0]; simp)]
    refine ih _ l (i + 1) (by omega) fun j h1 h2 => ?_
    have := hall j (by omega) h2
    rw [if_neg (by omega)] at this
    by_cases hj : j = i + 1
    · subst hj; rw [if_pos rfl]; simpa using this
    · rw [if_neg hj]; exact this

theorem marked_of {k : Csk} (h1 : 2 ≤ k.marks.length) (h2 : k.marks.getD 0 default = ⟨0, 0⟩) (h3 : ∀ t, 1 ≤ t → t < k.marks.length → (k.marks.getD (t - 1) default).next (k.marks.getD t default) = true) : k.marked = true := by
  have hd : ∀ j, (k.marks.drop 1).getD j default = k.marks.getD (j + 1) default := fun j => by simp [List.getD, Nat.add_comm]
  have := riseI_all (k.marks.drop 1).length ⟨0, 0⟩ (k.marks.drop 1) 0 (by omega) fun j _ hj => by
    have hj' : j + 1 < k.marks.length := by simp at hj; omega
    have h4 := h3 (j + 1) (by omega) hj'
    rw [hd]
    by_cases h0 : j = 0
    · subst h0; rw [if_pos rfl]; rw [h2] at h4; simpa using h4
    · rw [if_neg h0, hd, show j - 1 + 1 = j by omega]; simpa using h4
  simp only [Csk.marked, Bool.and_eq_true, Bool.not_eq_true', decide_eq_false_iff_not, decide_eq_true_eq]
  exact ⟨⟨by omega, by rw [h2], by rw [h2]⟩, this⟩

end Go.Proofs.Ytnkgdapdccpjmaa

/- The error of a cellar, by cases. -/
namespace Go.Proofs.Ytnkgdapdccpjmaa
open Go Go.RowKit Go.Sx

theorem check_lim {c : Clr} (h : 3 < c.casks.length ∨ 4 < c.moves.length ∨ 6 < c.gauges.length ∨ c.casks.all few = false) : c.check = 3 := by
  rw [Clr.check, if_pos]
  simp only [Bool.or_eq_true, decide_eq_true_eq, Bool.not_eq_true']
  rcases h with h | h | h | h
  · exact .inl (.inl (.inl h))
  · exact .inl (.inl (.inr h))
  · exact .inl (.inr h)
  · exact .inr h
theorem check_arg {c : Clr} (h1 : c.casks.length ≤ 3) (h2 : c.moves.length ≤ 4) (h3 : c.gauges.length ≤ 6) (h4 : c.casks.all few = true) (h : c.casks.length = 0 ∨ c.casks.all Csk.valid = false ∨ c.moves.all c.move = false ∨ c.gauges.all c.gauge = false) : c.check = 1 := by
  rw [Clr.check, if_neg, if_pos]
  · simp only [Bool.or_eq_true, decide_eq_true_eq, Bool.not_eq_true']
    rcases h with h | h | h | h
    · exact .inl (.inl (.inl h))
    · exact .inl (.inl (.inr h))
    · exact .inl (.inr h)
    · exact .inr h
  · simp only [Bool.or_eq_true, decide_eq_true_eq, Bool.not_eq_true', h4]
    rintro (((h | h) | h) | h)
    · omega
    · omega
    · omega
    · cases h
theorem check_ok {c : Clr} (h1 : c.casks.length ≤ 3) (h2 : c.moves.length ≤ 4) (h3 : c.gauges.length ≤ 6) (h4 : c.casks.all few = true) (h5 : c.casks.length ≠ 0) (h6 : c.casks.all Csk.valid = true) (h7 : c.moves.all c.move = true) (h8 : c.gauges.all c.gauge = true) : c.check = 0 := by
  rw [Clr.check, if_neg, if_neg]
  · simp only [Bool.or_eq_true, decide_eq_true_eq, Bool.not_eq_true', h6, h7, h8]
    rintro (((h | h) | h) | h)
    · exact h5 h
    · cases h
    · cases h
    · cases h
  · simp only [Bool.or_eq_true, decide_eq_true_eq, Bool.not_eq_true', h4]
    rintro (((h | h) | h) | h)
    · omega
    · omega
    · omega
    · cases h
theorem span_of (r : Rng) (a b : Int) : span r a b = r.of a b := by simp [span, Rng.of, within]
theorem marked_next {k : Csk} (h : k.marked = true) {t : Nat} (h1 : 1 ≤ t) (h2 : t < k.marks.length) : (k.marks.getD (t - 1) default).next (k.marks.getD t default) = true := by
  have hg := (marked_good h).rise (t - 1) (by omega)
  rw [show t - 1 + 1 = t by omega] at hg
  simp only [Mk.next, within, Bool.and_eq_true, decide_eq_true_eq]
  omega
theorem ok_upto {l : List Mk} (hz : l.getD 0 default = ⟨0, 0⟩) {t : Nat} (hn : ∀ j, 1 ≤ j → j < t → (l.getD (j - 1) default).next (l.getD j default) = true) : ∀ j, j < t → (l.getD j default).Ok := by
  intro j
  induction j with
  | zero => intro _; rw [hz]; simp [Mk.Ok]
  | succ j ih => intro h; exact Mk.next_ok (ih (by omega)) (by simpa using hn (j + 1) (by omega) h)

end Go.Proofs.Ytnkgdapdccpjmaa

/- The error of a cellar, in the reference. -/
namespace Go.Proofs.Ytnkgdapdccpjmaa
open Go Go.RowKit Go.Sx

theorem all_upto {α : Type} {l : List α} {d : α} {p : α → Bool} {i : Nat} (h : ∀ j, j < i → p (l.getD j d) = true) (hi : l.length ≤ i) : l.all p = true := by
  rw [List.all_eq_true]
  intro x hx
  obtain ⟨j, hj⟩ := List.mem_iff_getElem?.1 hx
  have hlt := (List.getElem?_eq_some_iff.1 hj).1
  have := h j (by omega)
  rwa [show l.getD j d = x by simp [List.getD, hj]] at this
theorem all_fails {α : Type} {l : List α} {d : α} {p : α → Bool} {i : Nat} (hi : i < l.length) (h : p (l.getD i d) = false) : l.all p = false := by
  rw [List.all_eq_false]
  exact ⟨_, getD_mem hi, by rw [h]; simp⟩
theorem upto_step {p : Nat → Prop} {i : Nat} (h : ∀ j, j < i → p j) (hi : p i) : ∀ j, j < i + 1 → p j := fun j hj => by
  rcases Nat.lt_succ_iff_lt_or_eq.1 hj with h1 | rfl
  · exact h j h1
  · exact hi

theorem bad_len {k : Csk} (h : k.marks.length < 2) : k.valid = false := by simp [Csk.valid, Csk.marked, h]
theorem zero_of {m : Mk} (h : (!(decide (m.dip = 0) && (decide (m.content = 0) && true))) = false) : m = ⟨0, 0⟩ := by
  cases m; simp_all
theorem bad_zero {k : Csk} (h : (!(decide ((k.marks.getD 0 default).dip = 0) && (decide ((k.marks.getD 0 default).content = 0) && true))) = true) : k.valid = false := by
  cases hv : k.valid with
  | false => rfl
  | true =>
    simp only [Csk.valid, Bool.and_eq_true] at hv
    rw [(marked_good hv.1.1).zero] at h; simp at h
theorem bad_next {k : Csk} {t : Nat} (h1 : 1 ≤ t) (h2 : t < k.marks.length) (h : (k.marks.getD (t - 1) default).next (k.marks.getD t default) = false) : k.valid = false := by
  cases hv : k.valid with
  | false => rfl
  | true =>
    simp only [Csk.valid, Bool.and_eq_true] at hv
    rw [marked_next hv.1.1 h1 h2] at h; cases h
theorem bad_start {k : Csk} (h : (!span k.start 0 k.top.content) = true) : k.valid = false := by
  rw [span_of] at h; simp_all [Csk.valid]
theorem bad_leak {k : Csk} (h : (!span k.leak 0 4) = true) : k.valid = false := by
  rw [span_of] at h; simp_all [Csk.valid]
theorem valid_pos {k : Csk} (h : k.valid = true) : 0 < k.marks.length := by
  simp only [Csk.valid, Bool.and_eq_true] at h
  exact (marked_good h.1.1).pos

theorem Fault_c (c : Clr) : CallC Try.prog 19 0 (lkF [] fun _ => none) [aClr c] 0 (lkF [] fun _ => none) (aInt .i64 c.check) := by
  refine callC_intro tabOk mixed Try.func19 rfl rfl rfl rfl ?_
  intro w0 e0 Z0 X hX n
  refine vc_fact 0 clr_len fun hlen => ?_
  refine vc_seq ?_
  refine vc_region ?_
  refine run_box rfl trivial rfl rfl rfl rfl rfl rfl (by intro _ _ h; cases h) ?_
  refine oq1 ?_
  refine run_nil ?_
  refine vc_seq ?_
  refine vc_seq ?_
  refine vc_region ?_
  refine oq5 ?_
  refine oq2 ?_
  refine oq1 ?_
  refine oq6 ?_
  refine oq1 ?_
  refine run_splitP 15 rfl (fun h1 => ?_) (fun h1 => ?_)
  ·
    try simp only [Int.toNat_natCast] at h1
    refine osk ?_
    refine osk ?_
    refine osk ?_
    refine osk ?_
    refine oq1 ?_
    refine oq1 ?_
    refine osk ?_
    refine osk ?_
    refine osk ?_
    refine osk ?_
    refine oq1 ?_
    refine run_nil ?_
    refine vc_cond rfl (fun _ => ?_) (fun h => Bool.noConfusion h)
    refine vc_seq ?_
    refine vc_region ?_
    refine oq1 ?_
    refine run_nil ?_
    refine vc_ret ?_
    refine ret_pure rfl trivial rfl (AVle.of_eq ?_)
    refine aInt_eq ?_
    first
    | exact (check_lim (.inl (by omega))).symm
    | exact (check_lim (.inr (.inl (by omega)))).symm
    | exact (check_lim (.inr (.inr (.inl (by omega))))).symm
    | exact (check_lim (.inr (.inr (.inr (all_fails (d := default) (i := a) (by omega) (by simp only [few, decide_eq_false_iff_not]; omega)))))).symm
    | exact (check_arg (by omega) (by omega) (by omega) (all_upto hf (by omega)) (.inl (by omega))).symm
    | exact (check_arg (by omega) (by omega) (by omega) (all_upto hf (by omega)) (.inr (.inl (all_fails (d := default) (i := i) (by omega) (bad_len (by omega)))))).symm
    | exact (check_arg (by omega) (by omega) (by omega) (all_upto hf (by omega)) (.inr (.inl (all_fails (d := default) (i := i) (by omega) (bad_zero h9))))).symm
    | exact (check_arg (by omega) (by omega) (by omega) (all_upto hf (by omega)) (.inr (.inl (all_fails (d := default) (i := i) (by omega) (bad_next ht1 (by omega) (by rw [e1] at h11; simp_all [Mk.next])))))).symm
    | exact (check_arg (by omega) (by omega) (by omega) (all_upto hf (by omega)) (.inr (.inl (all_fails (d := default) (i := i) (by omega) (bad_next ht1 (by omega) (by rw [e1] at h12; simp_all [Mk.next])))))).symm
    | exact (check_arg (by omega) (by omega) (by omega) (all_upto hf (by omega)) (.inr (.inl (all_fails (d := default) (i := i) (by omega) (bad_start h13))))).symm
    | exact (check_arg (by omega) (by omega) (by omega) (all_upto hf (by omega)) (.inr (.inl (all_fails (d := default) (i := i) (by omega) (bad_leak h14))))).symm
    | exact (check_arg (by omega) (by omega) (by omega) (all_upto hf (by omega)) (.inr (.inr (.inl (all_fails (d := default) (i := m) (by omega) (by simp only [span_of] at *; simp_all [Clr.move])))))).symm
    | exact (check_arg (by omega) (by omega) (by omega) (all_upto hf (by omega)) (.inr (.inr (.inr (all_fails (d := default) (i := q) (by omega) (by simp only [span_of] at *; simp_all [Clr.gauge, Clr.cask])))))).symm
    | exact (check_ok (by omega) (by omega) (by omega) (all_upto hf (by omega)) (by omega) (all_upto hv (by omega)) (all_upto hmv (by omega)) (all_upto hgg (by omega))).symm
  ·
    try simp only [Int.toNat_natCast] at h1
    refine oq5 ?_
    refine oq2 ?_
    refine oq1 ?_
    refine oq6 ?_
    refine oq1 ?_
    refine oq1 ?_
    refine run_splitP 21 rfl (fun h2 => ?_) (fun h2 => ?_)
    ·
      try simp only [Int.toNat_natCast] at h2
      refine osk ?_
      refine osk ?_
      refine osk ?_
      refine osk ?_
      refine oq1 ?_
      refine run_nil ?_
      refine vc_cond rfl (fun _ => ?_) (fun h => Bool.noConfusion h)
      refine vc_seq ?_
      refine vc_region ?_
      refine oq1 ?_
      refine run_nil ?_
      refine vc_ret ?_
      refine ret_pure rfl trivial rfl (AVle.of_eq ?_)
      refine aInt_eq ?_
      first
      | exact (check_lim (.inl (by omega))).symm
      | exact (check_lim (.inr (.inl (by omega)))).symm
      | exact (check_lim (.inr (.inr (.inl (by omega))))).symm
      | exact (check_lim (.inr (.inr (.inr (all_fails (d := default) (i := a) (by omega) (by simp only [few, decide_eq_false_iff_not]; omega)))))).symm
      | exact (check_arg (by omega) (by omega) (by omega) (all_upto hf (by omega)) (.inl (by omega))).symm
      | exact (check_arg (by omega) (by omega) (by omega) (all_upto hf (by omega)) (.inr (.inl (all_fails (d := default) (i := i) (by omega) (bad_len (by omega)))))).symm
      | exact (check_arg (by omega) (by omega) (by omega) (all_upto hf (by omega)) (.inr (.inl (all_fails (d := default) (i := i) (by omega) (bad_zero h9))))).symm
      | exact (check_arg (by omega) (by omega) (by omega) (all_upto hf (by omega)) (.inr (.inl (all_fails (d := default) (i := i) (by omega) (bad_next ht1 (by omega) (by rw [e1] at h11; simp_all [Mk.next])))))).symm
      | exact (check_arg (by omega) (by omega) (by omega) (all_upto hf (by omega)) (.inr (.inl (all_fails (d := default) (i := i) (by omega) (bad_next ht1 (by omega) (by rw [e1] at h12; simp_all [Mk.next])))))).symm
      | exact (check_arg (by omega) (by omega) (by omega) (all_upto hf (by omega)) (.inr (.inl (all_fails (d := default) (i := i) (by omega) (bad_start h13))))).symm
      | exact (check_arg (by omega) (by omega) (by omega) (all_upto hf (by omega)) (.inr (.inl (all_fails (d := default) (i := i) (by omega) (bad_leak h14))))).symm
      | exact (check_arg (by omega) (by omega) (by omega) (all_upto hf (by omega)) (.inr (.inr (.inl (all_fails (d := default) (i := m) (by omega) (by simp only [span_of] at *; simp_all [Clr.move])))))).symm
      | exact (check_arg (by omega) (by omega) (by omega) (all_upto hf (by omega)) (.inr (.inr (.inr (all_fails (d := default) (i := q) (by omega) (by simp only [span_of] at *; simp_all [Clr.gauge, Clr.cask])))))).symm
      | exact (check_ok (by omega) (by omega) (by omega) (all_upto hf (by omega)) (by omega) (all_upto hv (by omega)) (all_upto hmv (by omega)) (all_upto hgg (by omega))).symm
    ·
      try simp only [Int.toNat_natCast] at h2
      refine oq5 ?_
      refine oq2 ?_
      refine oq1 ?_
      refine oq6 ?_
      refine oq1 ?_
      refine run_nil ?_
      refine vc_condP rfl (fun h3 => ?_) (fun h3 => ?_)
      ·
        try simp only [Int.toNat_natCast] at h3
        refine vc_seq ?_
        refine vc_region ?_
        refine oq1 ?_
        refine run_nil ?_
        refine vc_ret ?_
        refine ret_pure rfl trivial rfl (AVle.of_eq ?_)
        refine aInt_eq ?_
        first
        | exact (check_lim (.inl (by omega))).symm
        | exact (check_lim (.inr (.inl (by omega)))).symm
        | exact (check_lim (.inr (.inr (.inl (by omega))))).symm
        | exact (check_lim (.inr (.inr (.inr (all_fails (d := default) (i := a) (by omega) (by simp only [few, decide_eq_false_iff_not]; omega)))))).symm
        | exact (check_arg (by omega) (by omega) (by omega) (all_upto hf (by omega)) (.inl (by omega))).symm
        | exact (check_arg (by omega) (by omega) (by omega) (all_upto hf (by omega)) (.inr (.inl (all_fails (d := default) (i := i) (by omega) (bad_len (by omega)))))).symm
        | exact (check_arg (by omega) (by omega) (by omega) (all_upto hf (by omega)) (.inr (.inl (all_fails (d := default) (i := i) (by omega) (bad_zero h9))))).symm
        | exact (check_arg (by omega) (by omega) (by omega) (all_upto hf (by omega)) (.inr (.inl (all_fails (d := default) (i := i) (by omega) (bad_next ht1 (by omega) (by rw [e1] at h11; simp_all [Mk.next])))))).symm
        | exact (check_arg (by omega) (by omega) (by omega) (all_upto hf (by omega)) (.inr (.inl (all_fails (d := default) (i := i) (by omega) (bad_next ht1 (by omega) (by rw [e1] at h12; simp_all [Mk.next])))))).symm
        | exact (check_arg (by omega) (by omega) (by omega) (all_upto hf (by omega)) (.inr (.inl (all_fails (d := default) (i := i) (by omega) (bad_start h13))))).symm
        | exact (check_arg (by omega) (by omega) (by omega) (all_upto hf (by omega)) (.inr (.inl (all_fails (d := default) (i := i) (by omega) (bad_leak h14))))).symm
        | exact (check_arg (by omega) (by omega) (by omega) (all_upto hf (by omega)) (.inr (.inr (.inl (all_fails (d := default) (i := m) (by omega) (by simp only [span_of] at *; simp_all [Clr.move])))))).symm
        | exact (check_arg (by omega) (by omega) (by omega) (all_upto hf (by omega)) (.inr (.inr (.inr (all_fails (d := default) (i := q) (by omega) (by simp only [span_of] at *; simp_all [Clr.gauge, Clr.cask])))))).symm
        | exact (check_ok (by omega) (by omega) (by omega) (all_upto hf (by omega)) (by omega) (all_upto hv (by omega)) (all_upto hmv (by omega)) (all_upto hgg (by omega))).symm
      ·
        try simp only [Int.toNat_natCast] at h3
        refine vc_skip ?_
        refine vc_seq ?_
        refine vc_seq ?_
        refine vc_region ?_
        refine oq1 ?_
        refine run_nil ?_
        refine vc_block ?_
        refine vc_loopO (κ := Nat) (fun a => a ≤ c.casks.length ∧ ∀ j, j < a → few (c.casks.getD j default) = true) (fun a => [(3, aInt .i64 (a : Int))] ++ deadL [2, 27, 28, 29, 30, 31, 32, 33, 34, 35, 36, 37, 38, 39, 40, 41]) (fun a => c.casks.length - a) 0 ⟨Nat.zero_le _, by omega⟩ ?_ ?_
        ·
          exact ent_over .base (.app (.cons (.refl _) (.nil)) _)
        rintro a ⟨ha, hf⟩
        refine vc_seq ?_
        refine vc_seq ?_
        refine vc_region ?_
        refine oq1 ?_
        refine oq5 ?_
        refine oq2 ?_
        refine oq1 ?_
        refine oq6 ?_
        refine run_nil ?_
        refine vc_condP rfl (fun h4 => ?_) (fun h4 => ?_)
        ·
          try simp only [Int.toNat_natCast] at h4
          refine vc_skip ?_
          refine vc_seq ?_
          refine vc_block ?_
          refine vc_seq ?_
          refine vc_region ?_
          refine oq5 ?_
          refine oq2 ?_
          refine oq1 ?_
          refine oq3 ?_
          refine oq5 ?_
          refine oq2 ?_
          refine oq1 ?_
          refine oq6 ?_
          refine run_nil ?_
          refine vc_condP rfl (fun h5 => ?_) (fun h5 => ?_)
          ·
            try simp only [Int.toNat_natCast] at h5
            refine vc_seq ?_
            refine vc_region ?_
            refine oq1 ?_
            refine run_nil ?_
            refine vc_ret ?_
            refine ret_pure rfl trivial rfl (AVle.of_eq ?_)
            refine aInt_eq ?_
            first
            | exact (check_lim (.inl (by omega))).symm
            | exact (check_lim (.inr (.inl (by omega)))).symm
            | exact (check_lim (.inr (.inr (.inl (by omega))))).symm
            | exact (check_lim (.inr (.inr (.inr (all_fails (d := default) (i := a) (by omega) (by simp only [few, decide_eq_false_iff_not]; omega)))))).symm
            | exact (check_arg (by omega) (by omega) (by omega) (all_upto hf (by omega)) (.inl (by omega))).symm
            | exact (check_arg (by omega) (by omega) (by omega) (all_upto hf (by omega)) (.inr (.inl (all_fails (d := default) (i := i) (by omega) (bad_len (by omega)))))).symm
            | exact (check_arg (by omega) (by omega) (by omega) (all_upto hf (by omega)) (.inr (.inl (all_fails (d := default) (i := i) (by omega) (bad_zero h9))))).symm
            | exact (check_arg (by omega) (by omega) (by omega) (all_upto hf (by omega)) (.inr (.inl (all_fails (d := default) (i := i) (by omega) (bad_next ht1 (by omega) (by rw [e1] at h11; simp_all [Mk.next])))))).symm
            | exact (check_arg (by omega) (by omega) (by omega) (all_upto hf (by omega)) (.inr (.inl (all_fails (d := default) (i := i) (by omega) (bad_next ht1 (by omega) (by rw [e1] at h12; simp_all [Mk.next])))))).symm
            | exact (check_arg (by omega) (by omega) (by omega) (all_upto hf (by omega)) (.inr (.inl (all_fails (d := default) (i := i) (by omega) (bad_start h13))))).symm
            | exact (check_arg (by omega) (by omega) (by omega) (all_upto hf (by omega)) (.inr (.inl (all_fails (d := default) (i := i) (by omega) (bad_leak h14))))).symm
            | exact (check_arg (by omega) (by omega) (by omega) (all_upto hf (by omega)) (.inr (.inr (.inl (all_fails (d := default) (i := m) (by omega) (by simp only [span_of] at *; simp_all [Clr.move])))))).symm
            | exact (check_arg (by omega) (by omega) (by omega) (all_upto hf (by omega)) (.inr (.inr (.inr (all_fails (d := default) (i := q) (by omega) (by simp only [span_of] at *; simp_all [Clr.gauge, Clr.cask])))))).symm
            | exact (check_ok (by omega) (by omega) (by omega) (all_upto hf (by omega)) (by omega) (all_upto hv (by omega)) (all_upto hmv (by omega)) (all_upto hgg (by omega))).symm
          ·
            try simp only [Int.toNat_natCast] at h5
            refine vc_skip ?_
            refine vc_region ?_
            refine oq1 ?_
            refine oq4 ?_
            refine oq1 ?_
            refine run_nil ?_
            refine ⟨a + 1, ⟨by omega, upto_step hf (by simp only [few, decide_eq_true_eq]; omega)⟩, by omega, ent_over (by repeat (first | exact .base | refine .step rfl ?_)) (.app (.cons (.refl _) (.nil)) _)⟩
        ·
          try simp only [Int.toNat_natCast] at h4
          refine vc_exit ?_
          refine vc_seq ?_
          refine vc_seq ?_
          refine vc_region ?_
          refine oq5 ?_
          refine oq2 ?_
          refine oq1 ?_
          refine oq6 ?_
          refine run_nil ?_
          refine vc_condP rfl (fun h6 => ?_) (fun h6 => ?_)
          ·
            try simp only [Int.toNat_natCast] at h6
            refine vc_seq ?_
            refine vc_region ?_
            refine oq1 ?_
            refine run_nil ?_
            refine vc_ret ?_
            refine ret_pure rfl trivial rfl (AVle.of_eq ?_)
            refine aInt_eq ?_
            first
            | exact (check_lim (.inl (by omega))).symm
            | exact (check_lim (.inr (.inl (by omega)))).symm
            | exact (check_lim (.inr (.inr (.inl (by omega))))).symm
            | exact (check_lim (.inr (.inr (.inr (all_fails (d := default) (i := a) (by omega) (by simp only [few, decide_eq_false_iff_not]; omega)))))).symm
            | exact (check_arg (by omega) (by omega) (by omega) (all_upto hf (by omega)) (.inl (by omega))).symm
            | exact (check_arg (by omega) (by omega) (by omega) (all_upto hf (by omega)) (.inr (.inl (all_fails (d := default) (i := i) (by omega) (bad_len (by omega)))))).symm
            | exact (check_arg (by omega) (by omega) (by omega) (all_upto hf (by omega)) (.inr (.inl (all_fails (d := default) (i := i) (by omega) (bad_zero h9))))).symm
            | exact (check_arg (by omega) (by omega) (by omega) (all_upto hf (by omega)) (.inr (.inl (all_fails (d := default) (i := i) (by omega) (bad_next ht1 (by omega) (by rw [e1] at h11; simp_all [Mk.next])))))).symm
            | exact (check_arg (by omega) (by omega) (by omega) (all_upto hf (by omega)) (.inr (.inl (all_fails (d := default) (i := i) (by omega) (bad_next ht1 (by omega) (by rw [e1] at h12; simp_all [Mk.next])))))).symm
            | exact (check_arg (by omega) (by omega) (by omega) (all_upto hf (by omega)) (.inr (.inl (all_fails (d := default) (i := i) (by omega) (bad_start h13))))).symm
            | exact (check_arg (by omega) (by omega) (by omega) (all_upto hf (by omega)) (.inr (.inl (all_fails (d := default) (i := i) (by omega) (bad_leak h14))))).symm
            | exact (check_arg (by omega) (by omega) (by omega) (all_upto hf (by omega)) (.inr (.inr (.inl (all_fails (d := default) (i := m) (by omega) (by simp only [span_of] at *; simp_all [Clr.move])))))).symm
            | exact (check_arg (by omega) (by omega) (by omega) (all_upto hf (by omega)) (.inr (.inr (.inr (all_fails (d := default) (i := q) (by omega) (by simp only [span_of] at *; simp_all [Clr.gauge, Clr.cask])))))).symm
            | exact (check_ok (by omega) (by omega) (by omega) (all_upto hf (by omega)) (by omega) (all_upto hv (by omega)) (all_upto hmv (by omega)) (all_upto hgg (by omega))).symm
          ·
            try simp only [Int.toNat_natCast] at h6
            refine vc_skip ?_
            refine vc_seq ?_
            refine vc_seq ?_
            refine vc_region ?_
            refine oq1 ?_
            refine run_nil ?_
            refine vc_block ?_
            refine vc_loop (κ := Nat) (fun i => i ≤ c.casks.length ∧ ∀ j, j < i → Csk.valid (c.casks.getD j default) = true) (fun i => ⟨[(1, .s (.c (.ptr 0 0))), (4, aInt .i64 (i : Int))], [(0, some (.cells 26 [.f (csks c.casks), .f (movs c.moves), .f (ggs c.gauges)]))], fun _ => none, 1⟩) (fun i => c.casks.length - i) 0 ⟨Nat.zero_le _, by omega⟩ ?_ ?_
            ·
              exact ent_ren [] (.cons (.refl _) rfl (.cons (.refl _) rfl (.nil))) (.cons rfl (.refl _) rfl rfl (.nil)) rfl rfl (fun i hi => ⟨rfl, Nat.lt_of_lt_of_le hi (Nat.le_of_ble_eq_true rfl)⟩)
            rintro i ⟨hi, hv⟩
            refine vc_seq ?_
            refine vc_seq ?_
            refine vc_region ?_
            refine oq1 ?_
            refine oq5 ?_
            refine oq2 ?_
            refine oq1 ?_
            refine oq6 ?_
            refine run_nil ?_
            refine vc_condP rfl (fun h7 => ?_) (fun h7 => ?_)
            ·
              try simp only [Int.toNat_natCast] at h7
              refine vc_skip ?_
              refine vc_seq ?_
              refine vc_block ?_
              refine vc_seq ?_
              refine vc_region ?_
              have hfew : (c.casks.getD i default).marks.length ≤ 5 := by have := hf i (by omega); simpa [few] using this
              refine oq5 ?_
              refine oq2 ?_
              refine oq1 ?_
              refine oq3 ?_
              refine oq2 ?_
              refine run_alloc rfl trivial rfl rfl rfl rfl (by intro _ _ h; cases h) ?_
              refine Sx.run_store rfl trivial rfl rfl rfl rfl rfl rfl rfl ?_
              refine run_nil ?_
              refine vc_seq ?_
              refine vc_seq ?_
              refine vc_region ?_
              refine oq5 ?_
              refine oq2 ?_
              refine oq1 ?_
              refine oq6 ?_
              refine oq1 ?_
              refine run_splitP 62 rfl (fun h8 => ?_) (fun h8 => ?_)
              ·
                try simp only [Int.toNat_natCast] at h8
                refine osk ?_
                refine osk ?_
                refine osk ?_
                refine osk ?_
                refine osk ?_
                refine osk ?_
                refine oq1 ?_
                refine run_nil ?_
                refine vc_cond rfl (fun _ => ?_) (fun h => Bool.noConfusion h)
                refine vc_seq ?_
                refine vc_region ?_
                refine oq1 ?_
                refine run_nil ?_
                refine vc_ret ?_
                refine ret_pure rfl trivial rfl (AVle.of_eq ?_)
                refine aInt_eq ?_
                first
                | exact (check_lim (.inl (by omega))).symm
                | exact (check_lim (.inr (.inl (by omega)))).symm
                | exact (check_lim (.inr (.inr (.inl (by omega))))).symm
                | exact (check_lim (.inr (.inr (.inr (all_fails (d := default) (i := a) (by omega) (by simp only [few, decide_eq_false_iff_not]; omega)))))).symm
                | exact (check_arg (by omega) (by omega) (by omega) (all_upto hf (by omega)) (.inl (by omega))).symm
                | exact (check_arg (by omega) (by omega) (by omega) (all_upto hf (by omega)) (.inr (.inl (all_fails (d := default) (i := i) (by omega) (bad_len (by omega)))))).symm
                | exact (check_arg (by omega) (by omega) (by omega) (all_upto hf (by omega)) (.inr (.inl (all_fails (d := default) (i := i) (by omega) (bad_zero h9))))).symm
                | exact (check_arg (by omega) (by omega) (by omega) (all_upto hf (by omega)) (.inr (.inl (all_fails (d := default) (i := i) (by omega) (bad_next ht1 (by omega) (by rw [e1] at h11; simp_all [Mk.next])))))).symm
                | exact (check_arg (by omega) (by omega) (by omega) (all_upto hf (by omega)) (.inr (.inl (all_fails (d := default) (i := i) (by omega) (bad_next ht1 (by omega) (by rw [e1] at h12; simp_all [Mk.next])))))).symm
                | exact (check_arg (by omega) (by omega) (by omega) (all_upto hf (by omega)) (.inr (.inl (all_fails (d := default) (i := i) (by omega) (bad_start h13))))).symm
                | exact (check_arg (by omega) (by omega) (by omega) (all_upto hf (by omega)) (.inr (.inl (all_fails (d := default) (i := i) (by omega) (bad_leak h14))))).symm
                | exact (check_arg (by omega) (by omega) (by omega) (all_upto hf (by omega)) (.inr (.inr (.inl (all_fails (d := default) (i := m) (by omega) (by simp only [span_of] at *; simp_all [Clr.move])))))).symm
                | exact (check_arg (by omega) (by omega) (by omega) (all_upto hf (by omega)) (.inr (.inr (.inr (all_fails (d := default) (i := q) (by omega) (by simp only [span_of] at *; simp_all [Clr.gauge, Clr.cask])))))).symm
                | exact (check_ok (by omega) (by omega) (by omega) (all_upto hf (by omega)) (by omega) (all_upto hv (by omega)) (all_upto hmv (by omega)) (all_upto hgg (by omega))).symm
              ·
                try simp only [Int.toNat_natCast] at h8
                refine oq5 ?_
                refine oq2 ?_
                refine oq3 ?_
                refine oq2 ?_
                refine oq1 ?_
                refine run_eqS true tabEq rfl rfl rfl rfl rfl rfl rfl rfl rfl ?_
                refine oq1 ?_
                refine run_nil ?_
                refine vc_cond rfl (fun h9 => ?_) (fun h9 => ?_)
                ·
                  try simp only [Int.toNat_natCast] at h9
                  refine vc_seq ?_
                  refine vc_region ?_
                  refine oq1 ?_
                  refine run_nil ?_
                  refine vc_ret ?_
                  refine ret_pure rfl trivial rfl (AVle.of_eq ?_)
                  refine aInt_eq ?_
                  first
                  | exact (check_lim (.inl (by omega))).symm
                  | exact (check_lim (.inr (.inl (by omega)))).symm
                  | exact (check_lim (.inr (.inr (.inl (by omega))))).symm
                  | exact (check_lim (.inr (.inr (.inr (all_fails (d := default) (i := a) (by omega) (by simp only [few, decide_eq_false_iff_not]; omega)))))).symm
                  | exact (check_arg (by omega) (by omega) (by omega) (all_upto hf (by omega)) (.inl (by omega))).symm
                  | exact (check_arg (by omega) (by omega) (by omega) (all_upto hf (by omega)) (.inr (.inl (all_fails (d := default) (i := i) (by omega) (bad_len (by omega)))))).symm
                  | exact (check_arg (by omega) (by omega) (by omega) (all_upto hf (by omega)) (.inr (.inl (all_fails (d := default) (i := i) (by omega) (bad_zero h9))))).symm
                  | exact (check_arg (by omega) (by omega) (by omega) (all_upto hf (by omega)) (.inr (.inl (all_fails (d := default) (i := i) (by omega) (bad_next ht1 (by omega) (by rw [e1] at h11; simp_all [Mk.next])))))).symm
                  | exact (check_arg (by omega) (by omega) (by omega) (all_upto hf (by omega)) (.inr (.inl (all_fails (d := default) (i := i) (by omega) (bad_next ht1 (by omega) (by rw [e1] at h12; simp_all [Mk.next])))))).symm
                  | exact (check_arg (by omega) (by omega) (by omega) (all_upto hf (by omega)) (.inr (.inl (all_fails (d := default) (i := i) (by omega) (bad_start h13))))).symm
                  | exact (check_arg (by omega) (by omega) (by omega) (all_upto hf (by omega)) (.inr (.inl (all_fails (d := default) (i := i) (by omega) (bad_leak h14))))).symm
                  | exact (check_arg (by omega) (by omega) (by omega) (all_upto hf (by omega)) (.inr (.inr (.inl (all_fails (d := default) (i := m) (by omega) (by simp only [span_of] at *; simp_all [Clr.move])))))).symm
                  | exact (check_arg (by omega) (by omega) (by omega) (all_upto hf (by omega)) (.inr (.inr (.inr (all_fails (d := default) (i := q) (by omega) (by simp only [span_of] at *; simp_all [Clr.gauge, Clr.cask])))))).symm
                  | exact (check_ok (by omega) (by omega) (by omega) (all_upto hf (by omega)) (by omega) (all_upto hv (by omega)) (all_upto hmv (by omega)) (all_upto hgg (by omega))).symm
                ·
                  try simp only [Int.toNat_natCast] at h9
                  have hz := zero_of h9
                  refine vc_skip ?_
                  refine vc_seq ?_
                  refine vc_seq ?_
                  refine vc_region ?_
                  refine oq1 ?_
                  refine run_nil ?_
                  refine vc_block ?_
                  refine vc_loopO (κ := Nat) (fun t => 1 ≤ t ∧ t ≤ (c.casks.getD i default).marks.length ∧ ∀ j, 1 ≤ j → j < t → ((c.casks.getD i default).marks.getD (j - 1) default).next ((c.casks.getD i default).marks.getD j default) = true) (fun t => [(6, aInt .i64 (t : Int))] ++ deadL [2, 70, 71, 72, 73, 74, 75, 76, 77, 78, 79, 80, 81, 82, 83, 84, 85, 86, 87, 88, 89, 90, 91, 92, 93, 94, 95, 96, 97, 98, 99, 100, 101, 102, 103, 104, 105, 106, 107, 108, 109, 110]) (fun t => (c.casks.getD i default).marks.length - t) 1 ⟨Nat.le_refl _, by omega, by omega⟩ ?_ ?_
                  ·
                    exact ent_over .base (.app (.cons (.refl _) (.nil)) _)
                  rintro t ⟨ht1, ht, hn⟩
                  refine vc_seq ?_
                  refine vc_seq ?_
                  refine vc_region ?_
                  refine oq1 ?_
                  refine oq5 ?_
                  refine oq2 ?_
                  refine oq1 ?_
                  refine oq6 ?_
                  refine run_nil ?_
                  refine vc_condP rfl (fun h10 => ?_) (fun h10 => ?_)
                  ·
                    try simp only [Int.toNat_natCast] at h10
                    refine vc_skip ?_
                    refine vc_seq ?_
                    refine vc_block ?_
                    refine vc_seq ?_
                    refine vc_regionD rfl ?_
                    have e1 : ((t : Int) - 1).toNat = t - 1 := by omega
                    have hok := ok_upto hz hn (t - 1) (by omega)
                    rw [← e1] at hok
                    obtain ⟨ok1, ok2, ok3, ok4⟩ := hok
                    refine oq5 ?_
                    refine oq2 ?_
                    refine oq1 ?_
                    refine oq3 ?_
                    refine oq5 ?_
                    refine oq2 ?_
                    refine oq5 ?_
                    refine oq2 ?_
                    refine oq1 ?_
                    refine oq4 ?_
                    refine oq3 ?_
                    refine oq5 ?_
                    refine oq2 ?_
                    refine oq4 ?_
                    refine run_callP (In_c _ _ _) rfl rfl rfl trivial rfl rfl rfl rfl ?_
                    refine oq1 ?_
                    refine oq1 ?_
                    refine run_split 93 rfl (fun h11 => ?_) (fun h11 => ?_)
                    ·
                      try simp only [Int.toNat_natCast] at h11
                      refine osk ?_
                      refine osk ?_
                      refine osk ?_
                      refine osk ?_
                      refine osk ?_
                      refine osk ?_
                      refine osk ?_
                      refine osk ?_
                      refine osk ?_
                      refine osk ?_
                      refine osk ?_
                      refine osk ?_
                      refine osk ?_
                      refine osk ?_
                      refine osk ?_
                      refine osk ?_
                      refine oq1 ?_
                      refine run_nil ⟨rfl, ?_⟩
                      refine vc_cond rfl (fun _ => ?_) (fun h => Bool.noConfusion h)
                      refine vc_seq ?_
                      refine vc_region ?_
                      refine oq1 ?_
                      refine run_nil ?_
                      refine vc_ret ?_
                      refine ret_pure rfl trivial rfl (AVle.of_eq ?_)
                      refine aInt_eq ?_
                      first
                      | exact (check_lim (.inl (by omega))).symm
                      | exact (check_lim (.inr (.inl (by omega)))).symm
                      | exact (check_lim (.inr (.inr (.inl (by omega))))).symm
                      | exact (check_lim (.inr (.inr (.inr (all_fails (d := default) (i := a) (by omega) (by simp only [few, decide_eq_false_iff_not]; omega)))))).symm
                      | exact (check_arg (by omega) (by omega) (by omega) (all_upto hf (by omega)) (.inl (by omega))).symm
                      | exact (check_arg (by omega) (by omega) (by omega) (all_upto hf (by omega)) (.inr (.inl (all_fails (d := default) (i := i) (by omega) (bad_len (by omega)))))).symm
                      | exact (check_arg (by omega) (by omega) (by omega) (all_upto hf (by omega)) (.inr (.inl (all_fails (d := default) (i := i) (by omega) (bad_zero h9))))).symm
                      | exact (check_arg (by omega) (by omega) (by omega) (all_upto hf (by omega)) (.inr (.inl (all_fails (d := default) (i := i) (by omega) (bad_next ht1 (by omega) (by rw [e1] at h11; simp_all [Mk.next])))))).symm
                      | exact (check_arg (by omega) (by omega) (by omega) (all_upto hf (by omega)) (.inr (.inl (all_fails (d := default) (i := i) (by omega) (bad_next ht1 (by omega) (by rw [e1] at h12; simp_all [Mk.next])))))).symm
                      | exact (check_arg (by omega) (by omega) (by omega) (all_upto hf (by omega)) (.inr (.inl (all_fails (d := default) (i := i) (by omega) (bad_start h13))))).symm
                      | exact (check_arg (by omega) (by omega) (by omega) (all_upto hf (by omega)) (.inr (.inl (all_fails (d := default) (i := i) (by omega) (bad_leak h14))))).symm
                      | exact (check_arg (by omega) (by omega) (by omega) (all_upto hf (by omega)) (.inr (.inr (.inl (all_fails (d := default) (i := m) (by omega) (by simp only [span_of] at *; simp_all [Clr.move])))))).symm
                      | exact (check_arg (by omega) (by omega) (by omega) (all_upto hf (by omega)) (.inr (.inr (.inr (all_fails (d := default) (i := q) (by omega) (by simp only [span_of] at *; simp_all [Clr.gauge, Clr.cask])))))).symm
                      | exact (check_ok (by omega) (by omega) (by omega) (all_upto hf (by omega)) (by omega) (all_upto hv (by omega)) (all_upto hmv (by omega)) (all_upto hgg (by omega))).symm
                    ·
                      try simp only [Int.toNat_natCast] at h11
                      refine oq5 ?_
                      refine oq2 ?_
                      refine oq1 ?_
                      refine oq3 ?_
                      refine oq5 ?_
                      refine oq2 ?_
                      refine oq5 ?_
                      refine oq2 ?_
                      refine oq1 ?_
                      refine oq4 ?_
                      refine oq3 ?_
                      refine oq5 ?_
                      refine oq2 ?_
                      refine oq4 ?_
                      refine run_callP (In_c _ _ _) rfl rfl rfl rfl rfl rfl rfl rfl ?_
                      refine oq1 ?_
                      refine oq1 ?_
                      refine run_nil ⟨rfl, ?_⟩
                      refine vc_cond rfl (fun h12 => ?_) (fun h12 => ?_)
                      ·
                        try simp only [Int.toNat_natCast] at h12
                        refine vc_seq ?_
                        refine vc_region ?_
                        refine oq1 ?_
                        refine run_nil ?_
                        refine vc_ret ?_
                        refine ret_pure rfl trivial rfl (AVle.of_eq ?_)
                        refine aInt_eq ?_
                        first
                        | exact (check_lim (.inl (by omega))).symm
                        | exact (check_lim (.inr (.inl (by omega)))).symm
                        | exact (check_lim (.inr (.inr (.inl (by omega))))).symm
                        | exact (check_lim (.inr (.inr (.inr (all_fails (d := default) (i := a) (by omega) (by simp only [few, decide_eq_false_iff_not]; omega)))))).symm
                        | exact (check_arg (by omega) (by omega) (by omega) (all_upto hf (by omega)) (.inl (by omega))).symm
                        | exact (check_arg (by omega) (by omega) (by omega) (all_upto hf (by omega)) (.inr (.inl (all_fails (d := default) (i := i) (by omega) (bad_len (by omega)))))).symm
                        | exact (check_arg (by omega) (by omega) (by omega) (all_upto hf (by omega)) (.inr (.inl (all_fails (d := default) (i := i) (by omega) (bad_zero h9))))).symm
                        | exact (check_arg (by omega) (by omega) (by omega) (all_upto hf (by omega)) (.inr (.inl (all_fails (d := default) (i := i) (by omega) (bad_next ht1 (by omega) (by rw [e1] at h11; simp_all [Mk.next])))))).symm
                        | exact (check_arg (by omega) (by omega) (by omega) (all_upto hf (by omega)) (.inr (.inl (all_fails (d := default) (i := i) (by omega) (bad_next ht1 (by omega) (by rw [e1] at h12; simp_all [Mk.next])))))).symm
                        | exact (check_arg (by omega) (by omega) (by omega) (all_upto hf (by omega)) (.inr (.inl (all_fails (d := default) (i := i) (by omega) (bad_start h13))))).symm
                        | exact (check_arg (by omega) (by omega) (by omega) (all_upto hf (by omega)) (.inr (.inl (all_fails (d := default) (i := i) (by omega) (bad_leak h14))))).symm
                        | exact (check_arg (by omega) (by omega) (by omega) (all_upto hf (by omega)) (.inr (.inr (.inl (all_fails (d := default) (i := m) (by omega) (by simp only [span_of] at *; simp_all [Clr.move])))))).symm
                        | exact (check_arg (by omega) (by omega) (by omega) (all_upto hf (by omega)) (.inr (.inr (.inr (all_fails (d := default) (i := q) (by omega) (by simp only [span_of] at *; simp_all [Clr.gauge, Clr.cask])))))).symm
                        | exact (check_ok (by omega) (by omega) (by omega) (all_upto hf (by omega)) (by omega) (all_upto hv (by omega)) (all_upto hmv (by omega)) (all_upto hgg (by omega))).symm
                      ·
                        try simp only [Int.toNat_natCast] at h12
                        refine vc_skip ?_
                        refine vc_region ?_
                        refine oq1 ?_
                        refine oq4 ?_
                        refine oq1 ?_
                        refine run_nil ?_
                        refine ⟨t + 1, ⟨by omega, by omega, fun j hj1 hj => ?_⟩, by omega, ent_over (by repeat (first | exact .base | refine .step rfl ?_)) (.app (.cons (.refl _) (.nil)) _)⟩
                        rcases Nat.lt_succ_iff_lt_or_eq.1 hj with hj2 | rfl
                        · exact hn j hj1 hj2
                        · rw [e1] at h11 h12; simp_all [Mk.next]
                  ·
                    try simp only [Int.toNat_natCast] at h10
                    refine vc_exit ?_
                    refine vc_seq ?_
                    refine vc_regionD rfl ?_
                    refine oq5 ?_
                    refine oq2 ?_
                    refine oq2 ?_
                    refine run_callP (Holds_c (c.casks.getD i default) (by omega)) rfl rfl rfl trivial rfl rfl rfl rfl ?_
                    refine run_callP (Span_c _ _ _) rfl rfl rfl trivial rfl rfl rfl rfl ?_
                    refine oq1 ?_
                    refine oq1 ?_
                    refine run_split 117 rfl (fun h13 => ?_) (fun h13 => ?_)
                    ·
                      try simp only [Int.toNat_natCast] at h13
                      refine osk ?_
                      refine osk ?_
                      refine osk ?_
                      refine osk ?_
                      refine oq1 ?_
                      refine run_nil ⟨rfl, ?_⟩
                      refine vc_cond rfl (fun _ => ?_) (fun h => Bool.noConfusion h)
                      refine vc_seq ?_
                      refine vc_region ?_
                      refine oq1 ?_
                      refine run_nil ?_
                      refine vc_ret ?_
                      refine ret_pure rfl trivial rfl (AVle.of_eq ?_)
                      refine aInt_eq ?_
                      first
                      | exact (check_lim (.inl (by omega))).symm
                      | exact (check_lim (.inr (.inl (by omega)))).symm
                      | exact (check_lim (.inr (.inr (.inl (by omega))))).symm
                      | exact (check_lim (.inr (.inr (.inr (all_fails (d := default) (i := a) (by omega) (by simp only [few, decide_eq_false_iff_not]; omega)))))).symm
                      | exact (check_arg (by omega) (by omega) (by omega) (all_upto hf (by omega)) (.inl (by omega))).symm
                      | exact (check_arg (by omega) (by omega) (by omega) (all_upto hf (by omega)) (.inr (.inl (all_fails (d := default) (i := i) (by omega) (bad_len (by omega)))))).symm
                      | exact (check_arg (by omega) (by omega) (by omega) (all_upto hf (by omega)) (.inr (.inl (all_fails (d := default) (i := i) (by omega) (bad_zero h9))))).symm
                      | exact (check_arg (by omega) (by omega) (by omega) (all_upto hf (by omega)) (.inr (.inl (all_fails (d := default) (i := i) (by omega) (bad_next ht1 (by omega) (by rw [e1] at h11; simp_all [Mk.next])))))).symm
                      | exact (check_arg (by omega) (by omega) (by omega) (all_upto hf (by omega)) (.inr (.inl (all_fails (d := default) (i := i) (by omega) (bad_next ht1 (by omega) (by rw [e1] at h12; simp_all [Mk.next])))))).symm
                      | exact (check_arg (by omega) (by omega) (by omega) (all_upto hf (by omega)) (.inr (.inl (all_fails (d := default) (i := i) (by omega) (bad_start h13))))).symm
                      | exact (check_arg (by omega) (by omega) (by omega) (all_upto hf (by omega)) (.inr (.inl (all_fails (d := default) (i := i) (by omega) (bad_leak h14))))).symm
                      | exact (check_arg (by omega) (by omega) (by omega) (all_upto hf (by omega)) (.inr (.inr (.inl (all_fails (d := default) (i := m) (by omega) (by simp only [span_of] at *; simp_all [Clr.move])))))).symm
                      | exact (check_arg (by omega) (by omega) (by omega) (all_upto hf (by omega)) (.inr (.inr (.inr (all_fails (d := default) (i := q) (by omega) (by simp only [span_of] at *; simp_all [Clr.gauge, Clr.cask])))))).symm
                      | exact (check_ok (by omega) (by omega) (by omega) (all_upto hf (by omega)) (by omega) (all_upto hv (by omega)) (all_upto hmv (by omega)) (all_upto hgg (by omega))).symm
                    ·
                      try simp only [Int.toNat_natCast] at h13
                      refine oq5 ?_
                      refine oq2 ?_
                      refine run_callP (Span_c _ _ _) rfl rfl rfl rfl rfl rfl rfl rfl ?_
                      refine oq1 ?_
                      refine oq1 ?_
                      refine run_nil ⟨rfl, ?_⟩
                      refine vc_cond rfl (fun h14 => ?_) (fun h14 => ?_)
                      ·
                        try simp only [Int.toNat_natCast] at h14
                        refine vc_seq ?_
                        refine vc_region ?_
                        refine oq1 ?_
                        refine run_nil ?_
                        refine vc_ret ?_
                        refine ret_pure rfl trivial rfl (AVle.of_eq ?_)
                        refine aInt_eq ?_
                        first
                        | exact (check_lim (.inl (by omega))).symm
                        | exact (check_lim (.inr (.inl (by omega)))).symm
                        | exact (check_lim (.inr (.inr (.inl (by omega))))).symm
                        | exact (check_lim (.inr (.inr (.inr (all_fails (d := default) (i := a) (by omega) (by simp only [few, decide_eq_false_iff_not]; omega)))))).symm
                        | exact (check_arg (by omega) (by omega) (by omega) (all_upto hf (by omega)) (.inl (by omega))).symm
                        | exact (check_arg (by omega) (by omega) (by omega) (all_upto hf (by omega)) (.inr (.inl (all_fails (d := default) (i := i) (by omega) (bad_len (by omega)))))).symm
                        | exact (check_arg (by omega) (by omega) (by omega) (all_upto hf (by omega)) (.inr (.inl (all_fails (d := default) (i := i) (by omega) (bad_zero h9))))).symm
                        | exact (check_arg (by omega) (by omega) (by omega) (all_upto hf (by omega)) (.inr (.inl (all_fails (d := default) (i := i) (by omega) (bad_next ht1 (by omega) (by rw [e1] at h11; simp_all [Mk.next])))))).symm
                        | exact (check_arg (by omega) (by omega) (by omega) (all_upto hf (by omega)) (.inr (.inl (all_fails (d := default) (i := i) (by omega) (bad_next ht1 (by omega) (by rw [e1] at h12; simp_all [Mk.next])))))).symm
                        | exact (check_arg (by omega) (by omega) (by omega) (all_upto hf (by omega)) (.inr (.inl (all_fails (d := default) (i := i) (by omega) (bad_start h13))))).symm
                        | exact (check_arg (by omega) (by omega) (by omega) (all_upto hf (by omega)) (.inr (.inl (all_fails (d := default) (i := i) (by omega) (bad_leak h14))))).symm
                        | exact (check_arg (by omega) (by omega) (by omega) (all_upto hf (by omega)) (.inr (.inr (.inl (all_fails (d := default) (i := m) (by omega) (by simp only [span_of] at *; simp_all [Clr.move])))))).symm
                        | exact (check_arg (by omega) (by omega) (by omega) (all_upto hf (by omega)) (.inr (.inr (.inr (all_fails (d := default) (i := q) (by omega) (by simp only [span_of] at *; simp_all [Clr.gauge, Clr.cask])))))).symm
                        | exact (check_ok (by omega) (by omega) (by omega) (all_upto hf (by omega)) (by omega) (all_upto hv (by omega)) (all_upto hmv (by omega)) (all_upto hgg (by omega))).symm
                      ·
                        try simp only [Int.toNat_natCast] at h14
                        refine vc_skip ?_
                        refine vc_region ?_
                        refine oq1 ?_
                        refine oq4 ?_
                        refine oq1 ?_
                        refine run_nil ?_
                        refine ⟨i + 1, ⟨by omega, upto_step hv ?_⟩, by omega, ent_ren [] (.cons (.refl _) rfl (.cons (.refl _) rfl (.nil))) (.cons rfl (.refl _) rfl rfl (.nil)) rfl rfl (fun i hi => ⟨rfl, Nat.lt_of_lt_of_le hi (Nat.le_of_ble_eq_true rfl)⟩)⟩
                        have hmk := marked_of (k := c.casks.getD i default) (by omega) hz (fun j hj1 hj2 => hn j hj1 (by omega))
                        rw [span_of] at h13 h14
                        simp_all [Csk.valid]
            ·
              try simp only [Int.toNat_natCast] at h7
              refine vc_exit ?_
              refine vc_seq ?_
              refine vc_seq ?_
              refine vc_region ?_
              refine oq1 ?_
              refine run_nil ?_
              refine vc_block ?_
              refine vc_loop (κ := Nat) (fun m => m ≤ c.moves.length ∧ ∀ j, j < m → c.move (c.moves.getD j default) = true) (fun m => ⟨[(1, .s (.c (.ptr 0 0))), (7, aInt .i64 (m : Int))], [(0, some (.cells 26 [.f (csks c.casks), .f (movs c.moves), .f (ggs c.gauges)]))], fun _ => none, 1⟩) (fun m => c.moves.length - m) 0 ⟨Nat.zero_le _, by omega⟩ ?_ ?_
              ·
                exact ent_ren [] (.cons (.refl _) rfl (.cons (.refl _) rfl (.nil))) (.cons rfl (.refl _) rfl rfl (.nil)) rfl rfl (fun i hi => ⟨rfl, Nat.lt_of_lt_of_le hi (Nat.le_of_ble_eq_true rfl)⟩)
              rintro m ⟨hm, hmv⟩
              refine vc_seq ?_
              refine vc_seq ?_
              refine vc_region ?_
              refine oq1 ?_
              refine oq5 ?_
              refine oq2 ?_
              refine oq1 ?_
              refine oq6 ?_
              refine run_nil ?_
              refine vc_condP rfl (fun h15 => ?_) (fun h15 => ?_)
              ·
                try simp only [Int.toNat_natCast] at h15
                refine vc_skip ?_
                refine vc_seq ?_
                refine vc_block ?_
                refine vc_seq ?_
                refine vc_region ?_
                refine oq5 ?_
                refine oq2 ?_
                refine oq1 ?_
                refine oq3 ?_
                refine oq2 ?_
                refine run_alloc rfl trivial rfl rfl rfl rfl (by intro _ _ h; cases h) ?_
                refine Sx.run_store rfl trivial rfl rfl rfl rfl rfl rfl rfl ?_
                refine run_nil ?_
                refine vc_seq ?_
                refine vc_region ?_
                refine oq5 ?_
                refine oq2 ?_
                refine oq5 ?_
                refine oq2 ?_
                refine oq1 ?_
                refine oq4 ?_
                refine run_callP (In_c _ _ _) rfl rfl rfl trivial rfl rfl rfl rfl ?_
                refine oq1 ?_
                refine oq1 ?_
                refine run_split 143 rfl (fun h16 => ?_) (fun h16 => ?_)
                ·
                  try simp only [Int.toNat_natCast] at h16
                  refine osk ?_
                  refine osk ?_
                  refine osk ?_
                  refine osk ?_
                  refine osk ?_
                  refine osk ?_
                  refine osk ?_
                  refine osk ?_
                  refine oq1 ?_
                  refine oq1 ?_
                  refine osk ?_
                  refine osk ?_
                  refine osk ?_
                  refine osk ?_
                  refine osk ?_
                  refine oq1 ?_
                  refine oq1 ?_
                  refine osk ?_
                  refine osk ?_
                  refine osk ?_
                  refine osk ?_
                  refine oq1 ?_
                  refine oq1 ?_
                  refine osk ?_
                  refine osk ?_
                  refine osk ?_
                  refine osk ?_
                  refine osk ?_
                  refine osk ?_
                  refine osk ?_
                  refine osk ?_
                  refine oq1 ?_
                  refine run_nil ?_
                  refine vc_cond rfl (fun _ => ?_) (fun h => Bool.noConfusion h)
                  refine vc_seq ?_
                  refine vc_region ?_
                  refine oq1 ?_
                  refine run_nil ?_
                  refine vc_ret ?_
                  refine ret_pure rfl trivial rfl (AVle.of_eq ?_)
                  refine aInt_eq ?_
                  first
                  | exact (check_lim (.inl (by omega))).symm
                  | exact (check_lim (.inr (.inl (by omega)))).symm
                  | exact (check_lim (.inr (.inr (.inl (by omega))))).symm
                  | exact (check_lim (.inr (.inr (.inr (all_fails (d := default) (i := a) (by omega) (by simp only [few, decide_eq_false_iff_not]; omega)))))).symm
                  | exact (check_arg (by omega) (by omega) (by omega) (all_upto hf (by omega)) (.inl (by omega))).symm
                  | exact (check_arg (by omega) (by omega) (by omega) (all_upto hf (by omega)) (.inr (.inl (all_fails (d := default) (i := i) (by omega) (bad_len (by omega)))))).symm
                  | exact (check_arg (by omega) (by omega) (by omega) (all_upto hf (by omega)) (.inr (.inl (all_fails (d := default) (i := i) (by omega) (bad_zero h9))))).symm
                  | exact (check_arg (by omega) (by omega) (by omega) (all_upto hf (by omega)) (.inr (.inl (all_fails (d := default) (i := i) (by omega) (bad_next ht1 (by omega) (by rw [e1] at h11; simp_all [Mk.next])))))).symm
                  | exact (check_arg (by omega) (by omega) (by omega) (all_upto hf (by omega)) (.inr (.inl (all_fails (d := default) (i := i) (by omega) (bad_next ht1 (by omega) (by rw [e1] at h12; simp_all [Mk.next])))))).symm
                  | exact (check_arg (by omega) (by omega) (by omega) (all_upto hf (by omega)) (.inr (.inl (all_fails (d := default) (i := i) (by omega) (bad_start h13))))).symm
                  | exact (check_arg (by omega) (by omega) (by omega) (all_upto hf (by omega)) (.inr (.inl (all_fails (d := default) (i := i) (by omega) (bad_leak h14))))).symm
                  | exact (check_arg (by omega) (by omega) (by omega) (all_upto hf (by omega)) (.inr (.inr (.inl (all_fails (d := default) (i := m) (by omega) (by simp only [span_of] at *; simp_all [Clr.move])))))).symm
                  | exact (check_arg (by omega) (by omega) (by omega) (all_upto hf (by omega)) (.inr (.inr (.inr (all_fails (d := default) (i := q) (by omega) (by simp only [span_of] at *; simp_all [Clr.gauge, Clr.cask])))))).symm
                  | exact (check_ok (by omega) (by omega) (by omega) (all_upto hf (by omega)) (by omega) (all_upto hv (by omega)) (all_upto hmv (by omega)) (all_upto hgg (by omega))).symm
                ·
                  try simp only [Int.toNat_natCast] at h16
                  refine oq5 ?_
                  refine oq2 ?_
                  refine oq5 ?_
                  refine oq2 ?_
                  refine oq1 ?_
                  refine oq4 ?_
                  refine run_callP (In_c _ _ _) rfl rfl rfl rfl rfl rfl rfl rfl ?_
                  refine oq1 ?_
                  refine oq1 ?_
                  refine oq1 ?_
                  refine run_split 153 rfl (fun h17 => ?_) (fun h17 => ?_)
                  ·
                    try simp only [Int.toNat_natCast] at h17
                    refine osk ?_
                    refine osk ?_
                    refine osk ?_
                    refine osk ?_
                    refine osk ?_
                    refine oq1 ?_
                    refine oq1 ?_
                    refine osk ?_
                    refine osk ?_
                    refine osk ?_
                    refine osk ?_
                    refine oq1 ?_
                    refine oq1 ?_
                    refine osk ?_
                    refine osk ?_
                    refine osk ?_
                    refine osk ?_
                    refine osk ?_
                    refine osk ?_
                    refine osk ?_
                    refine osk ?_
                    refine oq1 ?_
                    refine run_nil ?_
                    refine vc_cond rfl (fun _ => ?_) (fun h => Bool.noConfusion h)
                    refine vc_seq ?_
                    refine vc_region ?_
                    refine oq1 ?_
                    refine run_nil ?_
                    refine vc_ret ?_
                    refine ret_pure rfl trivial rfl (AVle.of_eq ?_)
                    refine aInt_eq ?_
                    first
                    | exact (check_lim (.inl (by omega))).symm
                    | exact (check_lim (.inr (.inl (by omega)))).symm
                    | exact (check_lim (.inr (.inr (.inl (by omega))))).symm
                    | exact (check_lim (.inr (.inr (.inr (all_fails (d := default) (i := a) (by omega) (by simp only [few, decide_eq_false_iff_not]; omega)))))).symm
                    | exact (check_arg (by omega) (by omega) (by omega) (all_upto hf (by omega)) (.inl (by omega))).symm
                    | exact (check_arg (by omega) (by omega) (by omega) (all_upto hf (by omega)) (.inr (.inl (all_fails (d := default) (i := i) (by omega) (bad_len (by omega)))))).symm
                    | exact (check_arg (by omega) (by omega) (by omega) (all_upto hf (by omega)) (.inr (.inl (all_fails (d := default) (i := i) (by omega) (bad_zero h9))))).symm
                    | exact (check_arg (by omega) (by omega) (by omega) (all_upto hf (by omega)) (.inr (.inl (all_fails (d := default) (i := i) (by omega) (bad_next ht1 (by omega) (by rw [e1] at h11; simp_all [Mk.next])))))).symm
                    | exact (check_arg (by omega) (by omega) (by omega) (all_upto hf (by omega)) (.inr (.inl (all_fails (d := default) (i := i) (by omega) (bad_next ht1 (by omega) (by rw [e1] at h12; simp_all [Mk.next])))))).symm
                    | exact (check_arg (by omega) (by omega) (by omega) (all_upto hf (by omega)) (.inr (.inl (all_fails (d := default) (i := i) (by omega) (bad_start h13))))).symm
                    | exact (check_arg (by omega) (by omega) (by omega) (all_upto hf (by omega)) (.inr (.inl (all_fails (d := default) (i := i) (by omega) (bad_leak h14))))).symm
                    | exact (check_arg (by omega) (by omega) (by omega) (all_upto hf (by omega)) (.inr (.inr (.inl (all_fails (d := default) (i := m) (by omega) (by simp only [span_of] at *; simp_all [Clr.move])))))).symm
                    | exact (check_arg (by omega) (by omega) (by omega) (all_upto hf (by omega)) (.inr (.inr (.inr (all_fails (d := default) (i := q) (by omega) (by simp only [span_of] at *; simp_all [Clr.gauge, Clr.cask])))))).symm
                    | exact (check_ok (by omega) (by omega) (by omega) (all_upto hf (by omega)) (by omega) (all_upto hv (by omega)) (all_upto hmv (by omega)) (all_upto hgg (by omega))).symm
                  ·
                    try simp only [Int.toNat_natCast] at h17
                    refine oq5 ?_
                    refine oq2 ?_
                    refine oq5 ?_
                    refine oq2 ?_
                    refine oq6 ?_
                    refine oq1 ?_
                    refine oq1 ?_
                    refine run_splitP 160 rfl (fun h18 => ?_) (fun h18 => ?_)
                    ·
                      try simp only [Int.toNat_natCast] at h18
                      refine osk ?_
                      refine osk ?_
                      refine osk ?_
                      refine osk ?_
                      refine oq1 ?_
                      refine oq1 ?_
                      refine osk ?_
                      refine osk ?_
                      refine osk ?_
                      refine osk ?_
                      refine osk ?_
                      refine osk ?_
                      refine osk ?_
                      refine osk ?_
                      refine oq1 ?_
                      refine run_nil ?_
                      refine vc_cond rfl (fun _ => ?_) (fun h => Bool.noConfusion h)
                      refine vc_seq ?_
                      refine vc_region ?_
                      refine oq1 ?_
                      refine run_nil ?_
                      refine vc_ret ?_
                      refine ret_pure rfl trivial rfl (AVle.of_eq ?_)
                      refine aInt_eq ?_
                      first
                      | exact (check_lim (.inl (by omega))).symm
                      | exact (check_lim (.inr (.inl (by omega)))).symm
                      | exact (check_lim (.inr (.inr (.inl (by omega))))).symm
                      | exact (check_lim (.inr (.inr (.inr (all_fails (d := default) (i := a) (by omega) (by simp only [few, decide_eq_false_iff_not]; omega)))))).symm
                      | exact (check_arg (by omega) (by omega) (by omega) (all_upto hf (by omega)) (.inl (by omega))).symm
                      | exact (check_arg (by omega) (by omega) (by omega) (all_upto hf (by omega)) (.inr (.inl (all_fails (d := default) (i := i) (by omega) (bad_len (by omega)))))).symm
                      | exact (check_arg (by omega) (by omega) (by omega) (all_upto hf (by omega)) (.inr (.inl (all_fails (d := default) (i := i) (by omega) (bad_zero h9))))).symm
                      | exact (check_arg (by omega) (by omega) (by omega) (all_upto hf (by omega)) (.inr (.inl (all_fails (d := default) (i := i) (by omega) (bad_next ht1 (by omega) (by rw [e1] at h11; simp_all [Mk.next])))))).symm
                      | exact (check_arg (by omega) (by omega) (by omega) (all_upto hf (by omega)) (.inr (.inl (all_fails (d := default) (i := i) (by omega) (bad_next ht1 (by omega) (by rw [e1] at h12; simp_all [Mk.next])))))).symm
                      | exact (check_arg (by omega) (by omega) (by omega) (all_upto hf (by omega)) (.inr (.inl (all_fails (d := default) (i := i) (by omega) (bad_start h13))))).symm
                      | exact (check_arg (by omega) (by omega) (by omega) (all_upto hf (by omega)) (.inr (.inl (all_fails (d := default) (i := i) (by omega) (bad_leak h14))))).symm
                      | exact (check_arg (by omega) (by omega) (by omega) (all_upto hf (by omega)) (.inr (.inr (.inl (all_fails (d := default) (i := m) (by omega) (by simp only [span_of] at *; simp_all [Clr.move])))))).symm
                      | exact (check_arg (by omega) (by omega) (by omega) (all_upto hf (by omega)) (.inr (.inr (.inr (all_fails (d := default) (i := q) (by omega) (by simp only [span_of] at *; simp_all [Clr.gauge, Clr.cask])))))).symm
                      | exact (check_ok (by omega) (by omega) (by omega) (all_upto hf (by omega)) (by omega) (all_upto hv (by omega)) (all_upto hmv (by omega)) (all_upto hgg (by omega))).symm
                    ·
                      try simp only [Int.toNat_natCast] at h18
                      refine oq5 ?_
                      refine oq2 ?_
                      refine run_callP (Span_c _ _ _) rfl rfl rfl rfl rfl rfl rfl rfl ?_
                      refine oq1 ?_
                      refine oq1 ?_
                      refine oq1 ?_
                      refine run_split 166 rfl (fun h19 => ?_) (fun h19 => ?_)
                      ·
                        try simp only [Int.toNat_natCast] at h19
                        refine osk ?_
                        refine osk ?_
                        refine osk ?_
                        refine osk ?_
                        refine osk ?_
                        refine osk ?_
                        refine osk ?_
                        refine osk ?_
                        refine oq1 ?_
                        refine run_nil ?_
                        refine vc_cond rfl (fun _ => ?_) (fun h => Bool.noConfusion h)
                        refine vc_seq ?_
                        refine vc_region ?_
                        refine oq1 ?_
                        refine run_nil ?_
                        refine vc_ret ?_
                        refine ret_pure rfl trivial rfl (AVle.of_eq ?_)
                        refine aInt_eq ?_
                        first
                        | exact (check_lim (.inl (by omega))).symm
                        | exact (check_lim (.inr (.inl (by omega)))).symm
                        | exact (check_lim (.inr (.inr (.inl (by omega))))).symm
                        | exact (check_lim (.inr (.inr (.inr (all_fails (d := default) (i := a) (by omega) (by simp only [few, decide_eq_false_iff_not]; omega)))))).symm
                        | exact (check_arg (by omega) (by omega) (by omega) (all_upto hf (by omega)) (.inl (by omega))).symm
                        | exact (check_arg (by omega) (by omega) (by omega) (all_upto hf (by omega)) (.inr (.inl (all_fails (d := default) (i := i) (by omega) (bad_len (by omega)))))).symm
                        | exact (check_arg (by omega) (by omega) (by omega) (all_upto hf (by omega)) (.inr (.inl (all_fails (d := default) (i := i) (by omega) (bad_zero h9))))).symm
                        | exact (check_arg (by omega) (by omega) (by omega) (all_upto hf (by omega)) (.inr (.inl (all_fails (d := default) (i := i) (by omega) (bad_next ht1 (by omega) (by rw [e1] at h11; simp_all [Mk.next])))))).symm
                        | exact (check_arg (by omega) (by omega) (by omega) (all_upto hf (by omega)) (.inr (.inl (all_fails (d := default) (i := i) (by omega) (bad_next ht1 (by omega) (by rw [e1] at h12; simp_all [Mk.next])))))).symm
                        | exact (check_arg (by omega) (by omega) (by omega) (all_upto hf (by omega)) (.inr (.inl (all_fails (d := default) (i := i) (by omega) (bad_start h13))))).symm
                        | exact (check_arg (by omega) (by omega) (by omega) (all_upto hf (by omega)) (.inr (.inl (all_fails (d := default) (i := i) (by omega) (bad_leak h14))))).symm
                        | exact (check_arg (by omega) (by omega) (by omega) (all_upto hf (by omega)) (.inr (.inr (.inl (all_fails (d := default) (i := m) (by omega) (by simp only [span_of] at *; simp_all [Clr.move])))))).symm
                        | exact (check_arg (by omega) (by omega) (by omega) (all_upto hf (by omega)) (.inr (.inr (.inr (all_fails (d := default) (i := q) (by omega) (by simp only [span_of] at *; simp_all [Clr.gauge, Clr.cask])))))).symm
                        | exact (check_ok (by omega) (by omega) (by omega) (all_upto hf (by omega)) (by omega) (all_upto hv (by omega)) (all_upto hmv (by omega)) (all_upto hgg (by omega))).symm
                      ·
                        try simp only [Int.toNat_natCast] at h19
                        refine oq5 ?_
                        refine oq5 ?_
                        refine oq2 ?_
                        refine oq5 ?_
                        refine oq5 ?_
                        refine oq2 ?_
                        refine run_q rfl rfl rfl rfl rfl (arc2 (by simp only [Int.toNat_natCast, span_of, Rng.of, Bool.and_eq_true, Bool.not_eq_true', Bool.not_eq_false', decide_eq_true_eq] at *; omega) (by simp only [Int.toNat_natCast, span_of, Rng.of, Bool.and_eq_true, Bool.not_eq_true', Bool.not_eq_false', decide_eq_true_eq] at *; omega)) ?_
                        refine oq6 ?_
                        refine oq1 ?_
                        refine run_nil ?_
                        refine vc_condP rfl (fun h20 => ?_) (fun h20 => ?_)
                        ·
                          try simp only [Int.toNat_natCast] at h20
                          refine vc_seq ?_
                          refine vc_region ?_
                          refine oq1 ?_
                          refine run_nil ?_
                          refine vc_ret ?_
                          refine ret_pure rfl trivial rfl (AVle.of_eq ?_)
                          refine aInt_eq ?_
                          first
                          | exact (check_lim (.inl (by omega))).symm
                          | exact (check_lim (.inr (.inl (by omega)))).symm
                          | exact (check_lim (.inr (.inr (.inl (by omega))))).symm
                          | exact (check_lim (.inr (.inr (.inr (all_fails (d := default) (i := a) (by omega) (by simp only [few, decide_eq_false_iff_not]; omega)))))).symm
                          | exact (check_arg (by omega) (by omega) (by omega) (all_upto hf (by omega)) (.inl (by omega))).symm
                          | exact (check_arg (by omega) (by omega) (by omega) (all_upto hf (by omega)) (.inr (.inl (all_fails (d := default) (i := i) (by omega) (bad_len (by omega)))))).symm
                          | exact (check_arg (by omega) (by omega) (by omega) (all_upto hf (by omega)) (.inr (.inl (all_fails (d := default) (i := i) (by omega) (bad_zero h9))))).symm
                          | exact (check_arg (by omega) (by omega) (by omega) (all_upto hf (by omega)) (.inr (.inl (all_fails (d := default) (i := i) (by omega) (bad_next ht1 (by omega) (by rw [e1] at h11; simp_all [Mk.next])))))).symm
                          | exact (check_arg (by omega) (by omega) (by omega) (all_upto hf (by omega)) (.inr (.inl (all_fails (d := default) (i := i) (by omega) (bad_next ht1 (by omega) (by rw [e1] at h12; simp_all [Mk.next])))))).symm
                          | exact (check_arg (by omega) (by omega) (by omega) (all_upto hf (by omega)) (.inr (.inl (all_fails (d := default) (i := i) (by omega) (bad_start h13))))).symm
                          | exact (check_arg (by omega) (by omega) (by omega) (all_upto hf (by omega)) (.inr (.inl (all_fails (d := default) (i := i) (by omega) (bad_leak h14))))).symm
                          | exact (check_arg (by omega) (by omega) (by omega) (all_upto hf (by omega)) (.inr (.inr (.inl (all_fails (d := default) (i := m) (by omega) (by simp only [span_of] at *; simp_all [Clr.move])))))).symm
                          | exact (check_arg (by omega) (by omega) (by omega) (all_upto hf (by omega)) (.inr (.inr (.inr (all_fails (d := default) (i := q) (by omega) (by simp only [span_of] at *; simp_all [Clr.gauge, Clr.cask])))))).symm
                          | exact (check_ok (by omega) (by omega) (by omega) (all_upto hf (by omega)) (by omega) (all_upto hv (by omega)) (all_upto hmv (by omega)) (all_upto hgg (by omega))).symm
                        ·
                          try simp only [Int.toNat_natCast] at h20
                          refine vc_skip ?_
                          refine vc_region ?_
                          refine oq1 ?_
                          refine oq4 ?_
                          refine oq1 ?_
                          refine run_nil ?_
                          refine ⟨m + 1, ⟨by omega, upto_step hmv ?_⟩, by omega, ent_ren [] (.cons (.refl _) rfl (.cons (.refl _) rfl (.nil))) (.cons rfl (.refl _) rfl rfl (.nil)) rfl rfl (fun i hi => ⟨rfl, Nat.lt_of_lt_of_le hi (Nat.le_of_ble_eq_true rfl)⟩)⟩
                          rw [span_of] at *
                          simp_all [Clr.move]
              ·
                try simp only [Int.toNat_natCast] at h15
                refine vc_exit ?_
                refine vc_seq ?_
                refine vc_seq ?_
                refine vc_region ?_
                refine oq1 ?_
                refine run_nil ?_
                refine vc_block ?_
                refine vc_loop (κ := Nat) (fun q => q ≤ c.gauges.length ∧ ∀ j, j < q → c.gauge (c.gauges.getD j default) = true) (fun q => ⟨[(1, .s (.c (.ptr 0 0))), (9, aInt .i64 (q : Int))], [(0, some (.cells 26 [.f (csks c.casks), .f (movs c.moves), .f (ggs c.gauges)]))], fun _ => none, 1⟩) (fun q => c.gauges.length - q) 0 ⟨Nat.zero_le _, by omega⟩ ?_ ?_
                ·
                  exact ent_ren [] (.cons (.refl _) rfl (.cons (.refl _) rfl (.nil))) (.cons rfl (.refl _) rfl rfl (.nil)) rfl rfl (fun i hi => ⟨rfl, Nat.lt_of_lt_of_le hi (Nat.le_of_ble_eq_true rfl)⟩)
                rintro q ⟨hq, hgg⟩
                refine vc_seq ?_
                refine vc_seq ?_
                refine vc_region ?_
                refine oq1 ?_
                refine oq5 ?_
                refine oq2 ?_
                refine oq1 ?_
                refine oq6 ?_
                refine run_nil ?_
                refine vc_condP rfl (fun h21 => ?_) (fun h21 => ?_)
                ·
                  try simp only [Int.toNat_natCast] at h21
                  refine vc_skip ?_
                  refine vc_seq ?_
                  refine vc_block ?_
                  refine vc_seq ?_
                  refine vc_region ?_
                  refine oq5 ?_
                  refine oq2 ?_
                  refine oq1 ?_
                  refine oq3 ?_
                  refine oq2 ?_
                  refine run_alloc rfl trivial rfl rfl rfl rfl (by intro _ _ h; cases h) ?_
                  refine Sx.run_store rfl trivial rfl rfl rfl rfl rfl rfl rfl ?_
                  refine run_nil ?_
                  refine vc_seq ?_
                  refine vc_regionD rfl ?_
                  refine oq5 ?_
                  refine oq2 ?_
                  refine oq5 ?_
                  refine oq2 ?_
                  refine oq1 ?_
                  refine oq4 ?_
                  refine run_callP (In_c _ _ _) rfl rfl rfl trivial rfl rfl rfl rfl ?_
                  refine oq1 ?_
                  refine oq1 ?_
                  refine run_split 196 rfl (fun h22 => ?_) (fun h22 => ?_)
                  ·
                    try simp only [Int.toNat_natCast] at h22
                    refine osk ?_
                    refine osk ?_
                    refine osk ?_
                    refine osk ?_
                    refine osk ?_
                    refine osk ?_
                    refine osk ?_
                    refine oq1 ?_
                    refine oq1 ?_
                    refine osk ?_
                    refine osk ?_
                    refine osk ?_
                    refine osk ?_
                    refine osk ?_
                    refine osk ?_
                    refine osk ?_
                    refine osk ?_
                    refine osk ?_
                    refine osk ?_
                    refine osk ?_
                    refine oq1 ?_
                    refine run_nil ⟨rfl, ?_⟩
                    refine vc_cond rfl (fun _ => ?_) (fun h => Bool.noConfusion h)
                    refine vc_seq ?_
                    refine vc_region ?_
                    refine oq1 ?_
                    refine run_nil ?_
                    refine vc_ret ?_
                    refine ret_pure rfl trivial rfl (AVle.of_eq ?_)
                    refine aInt_eq ?_
                    first
                    | exact (check_lim (.inl (by omega))).symm
                    | exact (check_lim (.inr (.inl (by omega)))).symm
                    | exact (check_lim (.inr (.inr (.inl (by omega))))).symm
                    | exact (check_lim (.inr (.inr (.inr (all_fails (d := default) (i := a) (by omega) (by simp only [few, decide_eq_false_iff_not]; omega)))))).symm
                    | exact (check_arg (by omega) (by omega) (by omega) (all_upto hf (by omega)) (.inl (by omega))).symm
                    | exact (check_arg (by omega) (by omega) (by omega) (all_upto hf (by omega)) (.inr (.inl (all_fails (d := default) (i := i) (by omega) (bad_len (by omega)))))).symm
                    | exact (check_arg (by omega) (by omega) (by omega) (all_upto hf (by omega)) (.inr (.inl (all_fails (d := default) (i := i) (by omega) (bad_zero h9))))).symm
                    | exact (check_arg (by omega) (by omega) (by omega) (all_upto hf (by omega)) (.inr (.inl (all_fails (d := default) (i := i) (by omega) (bad_next ht1 (by omega) (by rw [e1] at h11; simp_all [Mk.next])))))).symm
                    | exact (check_arg (by omega) (by omega) (by omega) (all_upto hf (by omega)) (.inr (.inl (all_fails (d := default) (i := i) (by omega) (bad_next ht1 (by omega) (by rw [e1] at h12; simp_all [Mk.next])))))).symm
                    | exact (check_arg (by omega) (by omega) (by omega) (all_upto hf (by omega)) (.inr (.inl (all_fails (d := default) (i := i) (by omega) (bad_start h13))))).symm
                    | exact (check_arg (by omega) (by omega) (by omega) (all_upto hf (by omega)) (.inr (.inl (all_fails (d := default) (i := i) (by omega) (bad_leak h14))))).symm
                    | exact (check_arg (by omega) (by omega) (by omega) (all_upto hf (by omega)) (.inr (.inr (.inl (all_fails (d := default) (i := m) (by omega) (by simp only [span_of] at *; simp_all [Clr.move])))))).symm
                    | exact (check_arg (by omega) (by omega) (by omega) (all_upto hf (by omega)) (.inr (.inr (.inr (all_fails (d := default) (i := q) (by omega) (by simp only [span_of] at *; simp_all [Clr.gauge, Clr.cask])))))).symm
                    | exact (check_ok (by omega) (by omega) (by omega) (all_upto hf (by omega)) (by omega) (all_upto hv (by omega)) (all_upto hmv (by omega)) (all_upto hgg (by omega))).symm
                  ·
                    try simp only [Int.toNat_natCast] at h22
                    refine oq5 ?_
                    refine oq2 ?_
                    refine oq5 ?_
                    refine oq2 ?_
                    refine oq1 ?_
                    refine run_callP (In_c _ _ _) rfl rfl rfl rfl rfl rfl rfl rfl ?_
                    refine oq1 ?_
                    refine oq1 ?_
                    refine oq1 ?_
                    refine run_split 205 rfl (fun h23 => ?_) (fun h23 => ?_)
                    ·
                      try simp only [Int.toNat_natCast] at h23
                      refine osk ?_
                      refine osk ?_
                      refine osk ?_
                      refine osk ?_
                      refine osk ?_
                      refine osk ?_
                      refine osk ?_
                      refine osk ?_
                      refine osk ?_
                      refine osk ?_
                      refine osk ?_
                      refine oq1 ?_
                      refine run_nil ⟨rfl, ?_⟩
                      refine vc_cond rfl (fun _ => ?_) (fun h => Bool.noConfusion h)
                      refine vc_seq ?_
                      refine vc_region ?_
                      refine oq1 ?_
                      refine run_nil ?_
                      refine vc_ret ?_
                      refine ret_pure rfl trivial rfl (AVle.of_eq ?_)
                      refine aInt_eq ?_
                      first
                      | exact (check_lim (.inl (by omega))).symm
                      | exact (check_lim (.inr (.inl (by omega)))).symm
                      | exact (check_lim (.inr (.inr (.inl (by omega))))).symm
                      | exact (check_lim (.inr (.inr (.inr (all_fails (d := default) (i := a) (by omega) (by simp only [few, decide_eq_false_iff_not]; omega)))))).symm
                      | exact (check_arg (by omega) (by omega) (by omega) (all_upto hf (by omega)) (.inl (by omega))).symm
                      | exact (check_arg (by omega) (by omega) (by omega) (all_upto hf (by omega)) (.inr (.inl (all_fails (d := default) (i := i) (by omega) (bad_len (by omega)))))).symm
                      | exact (check_arg (by omega) (by omega) (by omega) (all_upto hf (by omega)) (.inr (.inl (all_fails (d := default) (i := i) (by omega) (bad_zero h9))))).symm
                      | exact (check_arg (by omega) (by omega) (by omega) (all_upto hf (by omega)) (.inr (.inl (all_fails (d := default) (i := i) (by omega) (bad_next ht1 (by omega) (by rw [e1] at h11; simp_all [Mk.next])))))).symm
                      | exact (check_arg (by omega) (by omega) (by omega) (all_upto hf (by omega)) (.inr (.inl (all_fails (d := default) (i := i) (by omega) (bad_next ht1 (by omega) (by rw [e1] at h12; simp_all [Mk.next])))))).symm
                      | exact (check_arg (by omega) (by omega) (by omega) (all_upto hf (by omega)) (.inr (.inl (all_fails (d := default) (i := i) (by omega) (bad_start h13))))).symm
                      | exact (check_arg (by omega) (by omega) (by omega) (all_upto hf (by omega)) (.inr (.inl (all_fails (d := default) (i := i) (by omega) (bad_leak h14))))).symm
                      | exact (check_arg (by omega) (by omega) (by omega) (all_upto hf (by omega)) (.inr (.inr (.inl (all_fails (d := default) (i := m) (by omega) (by simp only [span_of] at *; simp_all [Clr.move])))))).symm
                      | exact (check_arg (by omega) (by omega) (by omega) (all_upto hf (by omega)) (.inr (.inr (.inr (all_fails (d := default) (i := q) (by omega) (by simp only [span_of] at *; simp_all [Clr.gauge, Clr.cask])))))).symm
                      | exact (check_ok (by omega) (by omega) (by omega) (all_upto hf (by omega)) (by omega) (all_upto hv (by omega)) (all_upto hmv (by omega)) (all_upto hgg (by omega))).symm
                    ·
                      try simp only [Int.toNat_natCast] at h23
                      refine oq5 ?_
                      refine oq2 ?_
                      refine oq5 ?_
                      refine oq2 ?_
                      refine oq5 ?_
                      refine oq2 ?_
                      refine run_q rfl rfl rfl rfl rfl ⟨rfl, by simp only [Int.toNat_natCast, within, Bool.and_eq_true, Bool.not_eq_true', Bool.not_eq_false', decide_eq_true_eq] at *; omega, by simp only [Int.toNat_natCast, within, Bool.and_eq_true, Bool.not_eq_true', Bool.not_eq_false', decide_eq_true_eq] at *; omega⟩ ?_
                      refine oq2 ?_
                      have hcm : 0 < (c.casks.getD (c.gauges.getD q default).cask.toNat default).marks.length := valid_pos (hv _ (by simp only [Int.toNat_natCast, within, Bool.and_eq_true, Bool.not_eq_true', Bool.not_eq_false', decide_eq_true_eq] at *; omega))
                      refine run_callP (Depth_c _ hcm) rfl rfl rfl rfl rfl rfl rfl rfl ?_
                      refine run_callP (Span_c _ _ _) rfl rfl rfl rfl rfl rfl rfl rfl ?_
                      refine oq1 ?_
                      refine oq1 ?_
                      refine run_nil ⟨rfl, ?_⟩
                      refine vc_cond rfl (fun h24 => ?_) (fun h24 => ?_)
                      ·
                        try simp only [Int.toNat_natCast] at h24
                        refine vc_seq ?_
                        refine vc_region ?_
                        refine oq1 ?_
                        refine run_nil ?_
                        refine vc_ret ?_
                        refine ret_pure rfl trivial rfl (AVle.of_eq ?_)
                        refine aInt_eq ?_
                        first
                        | exact (check_lim (.inl (by omega))).symm
                        | exact (check_lim (.inr (.inl (by omega)))).symm
                        | exact (check_lim (.inr (.inr (.inl (by omega))))).symm
                        | exact (check_lim (.inr (.inr (.inr (all_fails (d := default) (i := a) (by omega) (by simp only [few, decide_eq_false_iff_not]; omega)))))).symm
                        | exact (check_arg (by omega) (by omega) (by omega) (all_upto hf (by omega)) (.inl (by omega))).symm
                        | exact (check_arg (by omega) (by omega) (by omega) (all_upto hf (by omega)) (.inr (.inl (all_fails (d := default) (i := i) (by omega) (bad_len (by omega)))))).symm
                        | exact (check_arg (by omega) (by omega) (by omega) (all_upto hf (by omega)) (.inr (.inl (all_fails (d := default) (i := i) (by omega) (bad_zero h9))))).symm
                        | exact (check_arg (by omega) (by omega) (by omega) (all_upto hf (by omega)) (.inr (.inl (all_fails (d := default) (i := i) (by omega) (bad_next ht1 (by omega) (by rw [e1] at h11; simp_all [Mk.next])))))).symm
                        | exact (check_arg (by omega) (by omega) (by omega) (all_upto hf (by omega)) (.inr (.inl (all_fails (d := default) (i := i) (by omega) (bad_next ht1 (by omega) (by rw [e1] at h12; simp_all [Mk.next])))))).symm
                        | exact (check_arg (by omega) (by omega) (by omega) (all_upto hf (by omega)) (.inr (.inl (all_fails (d := default) (i := i) (by omega) (bad_start h13))))).symm
                        | exact (check_arg (by omega) (by omega) (by omega) (all_upto hf (by omega)) (.inr (.inl (all_fails (d := default) (i := i) (by omega) (bad_leak h14))))).symm
                        | exact (check_arg (by omega) (by omega) (by omega) (all_upto hf (by omega)) (.inr (.inr (.inl (all_fails (d := default) (i := m) (by omega) (by simp only [span_of] at *; simp_all [Clr.move])))))).symm
                        | exact (check_arg (by omega) (by omega) (by omega) (all_upto hf (by omega)) (.inr (.inr (.inr (all_fails (d := default) (i := q) (by omega) (by simp only [span_of] at *; simp_all [Clr.gauge, Clr.cask])))))).symm
                        | exact (check_ok (by omega) (by omega) (by omega) (all_upto hf (by omega)) (by omega) (all_upto hv (by omega)) (all_upto hmv (by omega)) (all_upto hgg (by omega))).symm
                      ·
                        try simp only [Int.toNat_natCast] at h24
                        refine vc_skip ?_
                        refine vc_region ?_
                        refine oq1 ?_
                        refine oq4 ?_
                        refine oq1 ?_
                        refine run_nil ?_
                        refine ⟨q + 1, ⟨by omega, upto_step hgg ?_⟩, by omega, ent_ren [] (.cons (.refl _) rfl (.cons (.refl _) rfl (.nil))) (.cons rfl (.refl _) rfl rfl (.nil)) rfl rfl (fun i hi => ⟨rfl, Nat.lt_of_lt_of_le hi (Nat.le_of_ble_eq_true rfl)⟩)⟩
                        rw [span_of] at *
                        simp_all [Clr.gauge, Clr.cask]
                ·
                  try simp only [Int.toNat_natCast] at h21
                  refine vc_exit ?_
                  refine vc_seq ?_
                  refine vc_region ?_
                  refine oq1 ?_
                  refine run_nil ?_
                  refine vc_ret ?_
                  refine ret_pure rfl trivial rfl (AVle.of_eq ?_)
                  refine aInt_eq ?_
                  first
                  | exact (check_lim (.inl (by omega))).symm
                  | exact (check_lim (.inr (.inl (by omega)))).symm
                  | exact (check_lim (.inr (.inr (.inl (by omega))))).symm
                  | exact (check_lim (.inr (.inr (.inr (all_fails (d := default) (i := a) (by omega) (by simp only [few, decide_eq_false_iff_not]; omega)))))).symm
                  | exact (check_arg (by omega) (by omega) (by omega) (all_upto hf (by omega)) (.inl (by omega))).symm
                  | exact (check_arg (by omega) (by omega) (by omega) (all_upto hf (by omega)) (.inr (.inl (all_fails (d := default) (i := i) (by omega) (bad_len (by omega)))))).symm
                  | exact (check_arg (by omega) (by omega) (by omega) (all_upto hf (by omega)) (.inr (.inl (all_fails (d := default) (i := i) (by omega) (bad_zero h9))))).symm
                  | exact (check_arg (by omega) (by omega) (by omega) (all_upto hf (by omega)) (.inr (.inl (all_fails (d := default) (i := i) (by omega) (bad_next ht1 (by omega) (by rw [e1] at h11; simp_all [Mk.next])))))).symm
                  | exact (check_arg (by omega) (by omega) (by omega) (all_upto hf (by omega)) (.inr (.inl (all_fails (d := default) (i := i) (by omega) (bad_next ht1 (by omega) (by rw [e1] at h12; simp_all [Mk.next])))))).symm
                  | exact (check_arg (by omega) (by omega) (by omega) (all_upto hf (by omega)) (.inr (.inl (all_fails (d := default) (i := i) (by omega) (bad_start h13))))).symm
                  | exact (check_arg (by omega) (by omega) (by omega) (all_upto hf (by omega)) (.inr (.inl (all_fails (d := default) (i := i) (by omega) (bad_leak h14))))).symm
                  | exact (check_arg (by omega) (by omega) (by omega) (all_upto hf (by omega)) (.inr (.inr (.inl (all_fails (d := default) (i := m) (by omega) (by simp only [span_of] at *; simp_all [Clr.move])))))).symm
                  | exact (check_arg (by omega) (by omega) (by omega) (all_upto hf (by omega)) (.inr (.inr (.inr (all_fails (d := default) (i := q) (by omega) (by simp only [span_of] at *; simp_all [Clr.gauge, Clr.cask])))))).symm
                  | exact (check_ok (by omega) (by omega) (by omega) (all_upto hf (by omega)) (by omega) (all_upto hv (by omega)) (all_upto hmv (by omega)) (all_upto hgg (by omega))).symm

end Go.Proofs.Ytnkgdapdccpjmaa

/- What a statement can use; how many truths there are. -/
namespace Go.Proofs.Ytnkgdapdccpjmaa
open Go Go.RowKit Go.Sx

theorem drop_at {α : Type} {l : List α} {i : Nat} (d : α) (h : i < l.length) : l.drop i = l.getD i d :: l.drop (i + 1) := by
  rw [List.drop_eq_getElem_cons h]; simp [List.getD, List.getElem?_eq_getElem h]
theorem take_at {α : Type} {l : List α} {i : Nat} (d : α) (h : i < l.length) : l.take (i + 1) = l.take i ++ [l.getD i d] := by
  rw [List.take_add_one, List.getElem?_eq_getElem h]; simp [List.getD, List.getElem?_eq_getElem h]
theorem drop_end {α : Type} {l : List α} {i : Nat} (h : l.length ≤ i) : l.drop i = [] := List.drop_eq_nil_of_le h

def Clr.ready (c : Clr) : Bool := c.thin && decide (c.check = 0)
/-- How many truths the ranges have, as the reference counts. -/
def manyC (n : Int) : List Csk → Int
  | [] => n
  | k :: l => if n ≤ 100000 then manyC (n * ((k.start.hi - k.start.lo + 1) * (k.leak.hi - k.leak.lo + 1))) l else n
def manyM (n : Int) : List Mov → Int
  | [] => n
  | m :: l => if n ≤ 100000 then manyM (n * (m.q.hi - m.q.lo + 1)) l else n
def Clr.many (c : Clr) : Int := manyM (manyC 1 c.casks) c.moves
theorem manyC_big {n : Int} (h : 100000 < n) (l : List Csk) : manyC n l = n := by cases l <;> simp [manyC]; omega
theorem manyM_big {n : Int} (h : 100000 < n) (l : List Mov) : manyM n l = n := by cases l <;> simp [manyM]; omega
def Clr.few (c : Clr) : Bool := c.thin && (!decide (c.check = 0) || decide (c.many ≤ 3000))

theorem ready_c (c : Clr) : CallC Try.prog 12 0 (lkF [] fun _ => none) [aClr c] 0 (lkF [] fun _ => none) (aBool c.ready) := by
  refine callC_intro tabOk mixed Try.func12 rfl rfl rfl rfl ?_
  intro w0 e0 Z0 X hX n
  refine vc_seq ?_
  refine vc_region ?_
  refine run_box rfl trivial rfl rfl rfl rfl rfl rfl (by intro _ _ h; cases h) ?_
  refine oq1 ?_
  refine run_nil ?_
  refine vc_seq ?_
  refine vc_region ?_
  refine oq2 ?_
  refine run_callP (thin_c _) rfl rfl rfl trivial rfl rfl rfl rfl ?_
  refine oq1 ?_
  refine run_split 5 rfl (fun h1 => ?_) (fun h1 => ?_)
  ·
    try simp only [Int.toNat_natCast] at h1
    refine oq2 ?_
    refine run_callP (Fault_c _) rfl rfl rfl rfl rfl rfl rfl rfl ?_
    refine oq6 ?_
    refine oq1 ?_
    refine oq1 ?_
    refine run_nil ?_
    refine vc_ret ?_
    refine ret_pure rfl trivial rfl (AVle.of_eq ?_)
    refine aBool_eq ?_
    simp_all [Clr.ready]
  ·
    try simp only [Int.toNat_natCast] at h1
    refine osk ?_
    refine osk ?_
    refine osk ?_
    refine oq1 ?_
    refine oq1 ?_
    refine run_nil ?_
    refine vc_ret ?_
    refine ret_pure rfl trivial rfl (AVle.of_eq ?_)
    refine aBool_eq ?_
    simp_all [Clr.ready]

theorem fault_c (c : Clr) : CallC Try.prog 28 0 (lkF [] fun _ => none) [aClr c] 0 (lkF [] fun _ => none) (aInt .i64 c.check) := by
  refine callC_intro tabOk mixed Try.func28 rfl rfl rfl rfl ?_
  intro w0 e0 Z0 X hX n
  refine vc_seq ?_
  refine vc_region ?_
  refine run_box rfl trivial rfl rfl rfl rfl rfl rfl (by intro _ _ h; cases h) ?_
  refine oq1 ?_
  refine run_nil ?_
  refine vc_seq ?_
  refine vc_region ?_
  refine oq2 ?_
  refine run_callP (Fault_c _) rfl rfl rfl trivial rfl rfl rfl rfl ?_
  refine oq1 ?_
  refine run_nil ?_
  refine vc_ret ?_
  refine ret_pure rfl trivial rfl (AVle.of_eq ?_)
  rfl

theorem Many_c (c : Clr) (hG : c.Good) : CallC Try.prog 80 0 (lkF [] fun _ => none) [aClr c] 0 (lkF [] fun _ => none) (aInt .i64 c.many) := by
  refine callC_intro tabOk mixed Try.func80 rfl rfl rfl rfl ?_
  intro w0 e0 Z0 X hX n
  refine vc_fact 0 clr_len fun hlen => ?_
  refine vc_seq ?_
  refine vc_region ?_
  refine run_box rfl trivial rfl rfl rfl rfl rfl rfl (by intro _ _ h; cases h) ?_
  refine oq1 ?_
  refine run_nil ?_
  refine vc_seq ?_
  refine vc_region ?_
  refine oq1 ?_
  refine run_nil ?_
  refine vc_seq ?_
  refine vc_seq ?_
  refine vc_region ?_
  refine oq1 ?_
  refine run_nil ?_
  refine vc_block ?_
  refine vc_loop (κ := Nat × Int) (fun i => i.1 ≤ c.casks.length ∧ 1 ≤ i.2 ∧ i.2 ≤ 500500000 ∧ manyC i.2 (c.casks.drop i.1) = manyC 1 c.casks) (fun i => ⟨[(1, .s (.c (.ptr 0 0))), (3, aInt .i64 i.2), (4, aInt .i64 (i.1 : Int))], [(0, some (.cells 26 [.f (csks c.casks), .f (movs c.moves), .f (ggs c.gauges)]))], fun _ => none, 1⟩) (fun i => c.casks.length - i.1) (0, 1) ⟨Nat.zero_le _, by decide, by decide, rfl⟩ ?_ ?_
  ·
    exact ent_ren [] (.cons (.refl _) rfl (.cons (.refl _) rfl (.cons (.refl _) rfl (.nil)))) (.cons rfl (.refl _) rfl rfl (.nil)) rfl rfl (fun i hi => ⟨rfl, Nat.lt_of_lt_of_le hi (Nat.le_of_ble_eq_true rfl)⟩)
  rintro ⟨i, n⟩ ⟨hi, hn1, hn2, hx⟩
  dsimp only at hi hn1 hn2 hx ⊢
  refine vc_seq ?_
  refine vc_seq ?_
  refine vc_region ?_
  refine oq1 ?_
  refine oq5 ?_
  refine oq2 ?_
  refine oq1 ?_
  refine oq6 ?_
  refine oq1 ?_
  refine run_splitP 12 rfl (fun h1 => ?_) (fun h1 => ?_)
  ·
    try simp only [Int.toNat_natCast] at h1
    refine oq1 ?_
    refine oq6 ?_
    refine oq1 ?_
    refine run_nil ?_
    refine vc_condP rfl (fun h2 => ?_) (fun h2 => ?_)
    ·
      try simp only [Int.toNat_natCast] at h2
      refine vc_skip ?_
      refine vc_seq ?_
      refine vc_block ?_
      refine vc_seq ?_
      refine vc_region ?_
      refine oq5 ?_
      refine oq2 ?_
      refine oq1 ?_
      refine oq3 ?_
      refine oq2 ?_
      refine run_alloc rfl trivial rfl rfl rfl rfl (by intro _ _ h; cases h) ?_
      refine Sx.run_store rfl trivial rfl rfl rfl rfl rfl rfl rfl ?_
      refine run_nil ?_
      refine vc_region ?_
      have hk := hG.cask _ (getD_mem (d := default) (show i < c.casks.length by omega))
      have hkt := hk.marks.top
      have hks := hk.start
      have hkl := hk.leak
      have hp1 := mul_box (x := (c.casks.getD i default).start.hi - (c.casks.getD i default).start.lo + 1 - 1) (y := (c.casks.getD i default).leak.hi - (c.casks.getD i default).leak.lo + 1 - 1) (a := 1000) (b := 4) (by omega) (by omega) (by omega) (by omega)
      rw [Int.sub_mul, Int.mul_sub] at hp1
      have hp2 := mul_box (x := n - 1) (y := ((c.casks.getD i default).start.hi - (c.casks.getD i default).start.lo + 1) * ((c.casks.getD i default).leak.hi - (c.casks.getD i default).leak.lo + 1)) (a := 99999) (b := 5005) (by omega) (by omega) (by omega) (by omega)
      rw [Int.sub_mul] at hp2
      refine oq1 ?_
      refine oq5 ?_
      refine oq5 ?_
      refine oq2 ?_
      refine oq5 ?_
      refine oq5 ?_
      refine oq2 ?_
      refine oq4 ?_
      refine oq4 ?_
      refine oq5 ?_
      refine oq5 ?_
      refine oq2 ?_
      refine oq5 ?_
      refine oq5 ?_
      refine oq2 ?_
      refine oq4 ?_
      refine oq4 ?_
      refine oq4 ?_
      refine oq4 ?_
      refine oq1 ?_
      refine run_nil ?_
      refine vc_region ?_
      refine oq1 ?_
      refine oq4 ?_
      refine oq1 ?_
      refine run_nil ?_
      refine ⟨(i + 1, n * (((c.casks.getD i default).start.hi - (c.casks.getD i default).start.lo + 1) * ((c.casks.getD i default).leak.hi - (c.casks.getD i default).leak.lo + 1))), ⟨by dsimp only; omega, by dsimp only; omega, by dsimp only; omega, ?_⟩, by dsimp only; omega, ent_ren [] (.cons (.refl _) rfl (.cons (.refl _) rfl (.cons (.refl _) rfl (.nil)))) (.cons rfl (.refl _) rfl rfl (.nil)) rfl rfl (fun i hi => ⟨rfl, Nat.lt_of_lt_of_le hi (Nat.le_of_ble_eq_true rfl)⟩)⟩
      rw [← hx, drop_at default (show i < c.casks.length by omega), manyC, if_pos (by omega)]
    ·
      try simp only [Int.toNat_natCast] at h2
      refine vc_exit ?_
      refine vc_seq ?_
      refine vc_seq ?_
      refine vc_region ?_
      refine oq1 ?_
      refine run_nil ?_
      refine vc_block ?_
      have hc : manyC n (c.casks.drop i) = n := by (first | (rw [drop_end (by omega)]; rfl) | exact manyC_big (by omega) _)
      refine vc_loop (κ := Nat × Int) (fun m => m.1 ≤ c.moves.length ∧ 1 ≤ m.2 ∧ m.2 ≤ 500500000 ∧ manyM m.2 (c.moves.drop m.1) = manyM (manyC 1 c.casks) c.moves) (fun m => ⟨[(1, .s (.c (.ptr 0 0))), (3, aInt .i64 m.2), (6, aInt .i64 (m.1 : Int))], [(0, some (.cells 26 [.f (csks c.casks), .f (movs c.moves), .f (ggs c.gauges)]))], fun _ => none, 1⟩) (fun m => c.moves.length - m.1) (0, n) ⟨Nat.zero_le _, hn1, hn2, by rw [← hx, hc]; rfl⟩ ?_ ?_
      ·
        exact ent_ren [] (.cons (.refl _) rfl (.cons (.refl _) rfl (.cons (.refl _) rfl (.nil)))) (.cons rfl (.refl _) rfl rfl (.nil)) rfl rfl (fun i hi => ⟨rfl, Nat.lt_of_lt_of_le hi (Nat.le_of_ble_eq_true rfl)⟩)
      rintro ⟨m, r⟩ ⟨hm, hr1, hr2, hy⟩
      dsimp only at hm hr1 hr2 hy ⊢
      refine vc_seq ?_
      refine vc_seq ?_
      refine vc_region ?_
      refine oq1 ?_
      refine oq5 ?_
      refine oq2 ?_
      refine oq1 ?_
      refine oq6 ?_
      refine oq1 ?_
      refine run_splitP 47 rfl (fun h3 => ?_) (fun h3 => ?_)
      ·
        try simp only [Int.toNat_natCast] at h3
        refine oq1 ?_
        refine oq6 ?_
        refine oq1 ?_
        refine run_nil ?_
        refine vc_condP rfl (fun h4 => ?_) (fun h4 => ?_)
        ·
          try simp only [Int.toNat_natCast] at h4
          refine vc_skip ?_
          refine vc_seq ?_
          refine vc_block ?_
          refine vc_regionD rfl ?_
          have hk := hG.move _ (getD_mem (d := default) (show m < c.moves.length by omega))
          have hp2 := mul_box (x := r - 1) (y := (c.moves.getD m default).q.hi - (c.moves.getD m default).q.lo + 1) (a := 99999) (b := 9) (by omega) (by omega) (by omega) (by omega)
          rw [Int.sub_mul] at hp2
          refine oq1 ?_
          refine oq5 ?_
          refine oq2 ?_
          refine oq1 ?_
          refine oq3 ?_
          refine oq5 ?_
          refine oq5 ?_
          refine oq2 ?_
          refine oq5 ?_
          refine oq2 ?_
          refine oq1 ?_
          refine oq3 ?_
          refine oq5 ?_
          refine oq5 ?_
          refine oq2 ?_
          refine oq4 ?_
          refine oq4 ?_
          refine oq4 ?_
          refine oq1 ?_
          refine run_nil ⟨rfl, ?_⟩
          refine vc_region ?_
          refine oq1 ?_
          refine oq4 ?_
          refine oq1 ?_
          refine run_nil ?_
          refine ⟨(m + 1, r * ((c.moves.getD m default).q.hi - (c.moves.getD m default).q.lo + 1)), ⟨by dsimp only; omega, by dsimp only; omega, by dsimp only; omega, ?_⟩, by dsimp only; omega, ent_ren [] (.cons (.refl _) rfl (.cons (.refl _) rfl (.cons (.refl _) rfl (.nil)))) (.cons rfl (.refl _) rfl rfl (.nil)) rfl rfl (fun i hi => ⟨rfl, Nat.lt_of_lt_of_le hi (Nat.le_of_ble_eq_true rfl)⟩)⟩
          rw [← hy, drop_at default (show m < c.moves.length by omega), manyM, if_pos (by omega)]
        ·
          try simp only [Int.toNat_natCast] at h4
          refine vc_exit ?_
          refine vc_seq ?_
          refine vc_region ?_
          refine oq1 ?_
          refine oq1 ?_
          refine run_nil ?_
          refine vc_ret ?_
          refine ret_pure rfl trivial rfl (AVle.of_eq ?_)
          refine aInt_eq ?_
          rw [Clr.many, ← hy]
          first
            | (rw [drop_end (by omega)]; rfl)
            | (exact (manyM_big (by omega) _).symm)
      ·
        try simp only [Int.toNat_natCast] at h3
        refine osk ?_
        refine osk ?_
        refine oq1 ?_
        refine run_nil ?_
        refine vc_cond rfl (fun h => Bool.noConfusion h) (fun _ => ?_)
        refine vc_exit ?_
        refine vc_seq ?_
        refine vc_region ?_
        refine oq1 ?_
        refine oq1 ?_
        refine run_nil ?_
        refine vc_ret ?_
        refine ret_pure rfl trivial rfl (AVle.of_eq ?_)
        refine aInt_eq ?_
        rw [Clr.many, ← hy]
        first
          | (rw [drop_end (by omega)]; rfl)
          | (exact (manyM_big (by omega) _).symm)
  ·
    try simp only [Int.toNat_natCast] at h1
    refine osk ?_
    refine osk ?_
    refine oq1 ?_
    refine run_nil ?_
    refine vc_cond rfl (fun h => Bool.noConfusion h) (fun _ => ?_)
    refine vc_exit ?_
    refine vc_seq ?_
    refine vc_seq ?_
    refine vc_region ?_
    refine oq1 ?_
    refine run_nil ?_
    refine vc_block ?_
    have hc : manyC n (c.casks.drop i) = n := by (first | (rw [drop_end (by omega)]; rfl) | exact manyC_big (by omega) _)
    refine vc_loop (κ := Nat × Int) (fun m => m.1 ≤ c.moves.length ∧ 1 ≤ m.2 ∧ m.2 ≤ 500500000 ∧ manyM m.2 (c.moves.drop m.1) = manyM (manyC 1 c.casks) c.moves) (fun m => ⟨[(1, .s (.c (.ptr 0 0))), (3, aInt .i64 m.2), (6, aInt .i64 (m.1 : Int))], [(0, some (.cells 26 [.f (csks c.casks), .f (movs c.moves), .f (ggs c.gauges)]))], fun _ => none, 1⟩) (fun m => c.moves.length - m.1) (0, n) ⟨Nat.zero_le _, hn1, hn2, by rw [← hx, hc]; rfl⟩ ?_ ?_
    ·
      exact ent_ren [] (.cons (.refl _) rfl (.cons (.refl _) rfl (.cons (.refl _) rfl (.nil)))) (.cons rfl (.refl _) rfl rfl (.nil)) rfl rfl (fun i hi => ⟨rfl, Nat.lt_of_lt_of_le hi (Nat.le_of_ble_eq_true rfl)⟩)
    rintro ⟨m, r⟩ ⟨hm, hr1, hr2, hy⟩
    dsimp only at hm hr1 hr2 hy ⊢
    refine vc_seq ?_
    refine vc_seq ?_
    refine vc_region ?_
    refine oq1 ?_
    refine oq5 ?_
    refine oq2 ?_
    refine oq1 ?_
    refine oq6 ?_
    refine oq1 ?_
    refine run_splitP 47 rfl (fun h5 => ?_) (fun h5 => ?_)
    ·
      try simp only [Int.toNat_natCast] at h5
      refine oq1 ?_
      refine oq6 ?_
      refine oq1 ?_
      refine run_nil ?_
      refine vc_condP rfl (fun h6 => ?_) (fun h6 => ?_)
      ·
        try simp only [Int.toNat_natCast] at h6
        refine vc_skip ?_
        refine vc_seq ?_
        refine vc_block ?_
        refine vc_regionD rfl ?_
        have hk := hG.move _ (getD_mem (d := default) (show m < c.moves.length by omega))
        have hp2 := mul_box (x := r - 1) (y := (c.moves.getD m default).q.hi - (c.moves.getD m default).q.lo + 1) (a := 99999) (b := 9) (by omega) (by omega) (by omega) (by omega)
        rw [Int.sub_mul] at hp2
        refine oq1 ?_
        refine oq5 ?_
        refine oq2 ?_
        refine oq1 ?_
        refine oq3 ?_
        refine oq5 ?_
        refine oq5 ?_
        refine oq2 ?_
        refine oq5 ?_
        refine oq2 ?_
        refine oq1 ?_
        refine oq3 ?_
        refine oq5 ?_
        refine oq5 ?_
        refine oq2 ?_
        refine oq4 ?_
        refine oq4 ?_
        refine oq4 ?_
        refine oq1 ?_
        refine run_nil ⟨rfl, ?_⟩
        refine vc_region ?_
        refine oq1 ?_
        refine oq4 ?_
        refine oq1 ?_
        refine run_nil ?_
        refine ⟨(m + 1, r * ((c.moves.getD m default).q.hi - (c.moves.getD m default).q.lo + 1)), ⟨by dsimp only; omega, by dsimp only; omega, by dsimp only; omega, ?_⟩, by dsimp only; omega, ent_ren [] (.cons (.refl _) rfl (.cons (.refl _) rfl (.cons (.refl _) rfl (.nil)))) (.cons rfl (.refl _) rfl rfl (.nil)) rfl rfl (fun i hi => ⟨rfl, Nat.lt_of_lt_of_le hi (Nat.le_of_ble_eq_true rfl)⟩)⟩
        rw [← hy, drop_at default (show m < c.moves.length by omega), manyM, if_pos (by omega)]
      ·
        try simp only [Int.toNat_natCast] at h6
        refine vc_exit ?_
        refine vc_seq ?_
        refine vc_region ?_
        refine oq1 ?_
        refine oq1 ?_
        refine run_nil ?_
        refine vc_ret ?_
        refine ret_pure rfl trivial rfl (AVle.of_eq ?_)
        refine aInt_eq ?_
        rw [Clr.many, ← hy]
        first
          | (rw [drop_end (by omega)]; rfl)
          | (exact (manyM_big (by omega) _).symm)
    ·
      try simp only [Int.toNat_natCast] at h5
      refine osk ?_
      refine osk ?_
      refine oq1 ?_
      refine run_nil ?_
      refine vc_cond rfl (fun h => Bool.noConfusion h) (fun _ => ?_)
      refine vc_exit ?_
      refine vc_seq ?_
      refine vc_region ?_
      refine oq1 ?_
      refine oq1 ?_
      refine run_nil ?_
      refine vc_ret ?_
      refine ret_pure rfl trivial rfl (AVle.of_eq ?_)
      refine aInt_eq ?_
      rw [Clr.many, ← hy]
      first
        | (rw [drop_end (by omega)]; rfl)
        | (exact (manyM_big (by omega) _).symm)

theorem few36_c (c : Clr) : CallC Try.prog 36 0 (lkF [] fun _ => none) [aClr c] 0 (lkF [] fun _ => none) (aBool c.few) := by
  refine callC_intro tabOk mixed Try.func36 rfl rfl rfl rfl ?_
  intro w0 e0 Z0 X hX n
  refine vc_seq ?_
  refine vc_region ?_
  refine run_box rfl trivial rfl rfl rfl rfl rfl rfl (by intro _ _ h; cases h) ?_
  refine oq1 ?_
  refine run_nil ?_
  refine vc_seq ?_
  refine vc_region ?_
  refine oq2 ?_
  refine run_callP (thin_c _) rfl rfl rfl trivial rfl rfl rfl rfl ?_
  refine oq1 ?_
  refine run_split 5 rfl (fun h1 => ?_) (fun h1 => ?_)
  ·
    try simp only [Int.toNat_natCast] at h1
    refine oq2 ?_
    refine run_callP (Fault_c _) rfl rfl rfl rfl rfl rfl rfl rfl ?_
    refine oq6 ?_
    refine oq1 ?_
    refine run_splitN 9 rfl (fun h2 => ?_) (fun h2 => ?_)
    ·
      try simp only [Int.toNat_natCast] at h2
      refine osk ?_
      refine osk ?_
      refine osk ?_
      refine oq1 ?_
      refine oq1 ?_
      refine oq1 ?_
      refine run_nil ?_
      refine vc_ret ?_
      refine ret_pure rfl trivial rfl (AVle.of_eq ?_)
      refine aBool_eq ?_
      simp_all [Clr.few]
    ·
      try simp only [Int.toNat_natCast] at h2
      refine oq2 ?_
      refine run_callP (Many_c c (Clr.good (by assumption))) rfl rfl rfl rfl rfl rfl rfl rfl ?_
      refine oq6 ?_
      refine oq1 ?_
      refine oq1 ?_
      refine oq1 ?_
      refine run_nil ?_
      refine vc_ret ?_
      refine ret_pure rfl trivial rfl (AVle.of_eq ?_)
      refine aBool_eq ?_
      simp_all [Clr.few]
  ·
    try simp only [Int.toNat_natCast] at h1
    refine osk ?_
    refine osk ?_
    refine osk ?_
    refine run_skipU (.inl rfl) rfl rfl ?_
    refine run_skipU (.inr rfl) rfl rfl ?_
    refine run_skipU (.inr rfl) rfl rfl ?_
    refine run_skipU (.inr rfl) rfl rfl ?_
    refine osk ?_
    refine oq1 ?_
    refine oq1 ?_
    refine run_nil ?_
    refine vc_ret ?_
    refine ret_pure rfl trivial rfl (AVle.of_eq ?_)
    refine aBool_eq ?_
    simp_all [Clr.few]

end Go.Proofs.Ytnkgdapdccpjmaa

/- Lists compared; bits. -/
namespace Go.Proofs.Ytnkgdapdccpjmaa
open Go Go.RowKit Go.Sx

structure Way where
  contents : List (List Int)
  leak : List Int
  wrong : Int
deriving DecidableEq, Inhabited
def intss (l : List (List Int)) : FV := encL 1 (fun x _ => ints x) [] l
def wayF (x : Way) : Nat → FV
  | 0 => intss x.contents
  | 1 => ints x.leak
  | _ => i64 x.wrong
def ways (l : List Way) : FV := encL 3 wayF default l
abbrev aWays (l : List Way) : AV := .s (.c (.f (ways l)))
def rngss (l : List (List Rng)) : FV := encL 1 (fun x _ => rngs x) [] l
abbrev aRngss (l : List (List Rng)) : AV := .s (.c (.f (rngss l)))
abbrev aTru' (t : Tru) : AV := .s (.agg [.f (ints t.start), .f (ints t.leak), .f (ints t.quantity)])

theorem any_at {α : Type} {l : List α} {p : α → Bool} (i : Nat) (d : α) (h : i < l.length) : (l.drop i).any p = (p (l.getD i d) || (l.drop (i + 1)).any p) := by
  rw [drop_at d h]; rfl
theorem any_end {α : Type} {l : List α} {p : α → Bool} {i : Nat} (h : l.length ≤ i) : (l.drop i).any p = false := by rw [drop_end h]; rfl
def listEq {α : Type} [DecidableEq α] (d : α) (a b : List α) (i : Nat) : Bool := if i < a.length then (if a.getD i d = b.getD i d then listEq d a b (i + 1) else false) else true
termination_by a.length - i
theorem rng_ne {a b : Rng} {t : Bool} (h : (!(decide (a.lo = b.lo) && (decide (a.hi = b.hi) && true))) = t) : t = !decide (a = b) := by
  subst h; cases a; cases b; simp
def lessI (a b : List Int) (i : Nat) : Bool := if i < a.length ∧ a.length = b.length then (if a.getD i 0 = b.getD i 0 then lessI a b (i + 1) else decide (a.getD i 0 < b.getD i 0)) else decide (a.length < b.length)
termination_by a.length - i
def clears (w out : Int) : Bool := decide (bitF .andNot .i64 w out = 0)
def hasWay (l : List Way) (out : Int) : Bool := l.any fun x => clears x.wrong out
theorem wrapU {n : Int} (h1 : 0 ≤ n) (h2 : n ≤ 9223372036854775807) : IntKind.u64.wrap n = n := by
  simp only [IntKind.wrap, IntKind.bits, IntKind.signed, Bool.false_and, Bool.false_eq_true, if_false, show (2 : Int) ^ 64 = 18446744073709551616 from rfl]
  omega
def bit (n : Int) (i : Nat) : Bool := decide (n.fdiv (2 ^ i) % 2 = 1)
def bitsTo (n : Int) (i : Nat) : List Int := List.map (fun j : Nat => (j : Int)) ((List.range i).filter fun j => bit n j)
theorem bitsTo_yes {n : Int} {i : Nat} (h : bit n i = true) : bitsTo n (i + 1) = bitsTo n i ++ [(i : Int)] := by simp [bitsTo, List.range_succ, List.filter_append, h]
theorem bitsTo_no {n : Int} {i : Nat} (h : bit n i = false) : bitsTo n (i + 1) = bitsTo n i := by simp [bitsTo, List.range_succ, List.filter_append, h]
theorem bitsTo_len (n : Int) (i : Nat) : (bitsTo n i).length ≤ i := by
  simp only [bitsTo, List.length_map]; exact Nat.le_trans (List.length_filter_le _ _) (by simp)

theorem spans_c (a b : List Rng) : CallC Try.prog 51 0 (lkF [] fun _ => none) [aRngs a, aRngs b] 0 (lkF [] fun _ => none) (aBool (if a.length = b.length then listEq default a b 0 else false)) := by
  refine callC_intro tabOk mixed Try.func51 rfl rfl rfl rfl ?_
  intro w0 e0 Z0 X hX n
  refine vc_len 0 rfl fun hlen => ?_
  refine vc_seq ?_
  refine vc_region ?_
  refine oq1 ?_
  refine run_nil ?_
  refine vc_seq ?_
  refine vc_seq ?_
  refine vc_region ?_
  refine oq1 ?_
  refine oq1 ?_
  refine oq1 ?_
  refine oq1 ?_
  refine oq6 ?_
  refine run_nil ?_
  refine vc_condN rfl (fun h1 => ?_) (fun h1 => ?_)
  ·
    try simp only [Int.toNat_natCast] at h1
    refine vc_seq ?_
    refine vc_region ?_
    refine oq1 ?_
    refine run_nil ?_
    refine vc_ret ?_
    refine ret_pure rfl trivial rfl (AVle.of_eq ?_)
    refine aBool_eq ?_
    first
      | (rw [if_neg (by omega)])
      | (rw [if_pos (by omega), ← hx, listEq, if_pos (by omega), if_neg (by simpa using rng_ne h3)])
      | (rw [if_pos (by omega), ← hx, listEq, if_neg (by omega)])
  ·
    try simp only [Int.toNat_natCast] at h1
    refine vc_skip ?_
    refine vc_seq ?_
    refine vc_seq ?_
    refine vc_region ?_
    refine oq1 ?_
    refine run_nil ?_
    refine vc_block ?_
    refine vc_loopO (κ := Nat) (fun i => i ≤ a.length ∧ listEq default a b i = listEq default a b 0) (fun i => [(5, aInt .i64 (i : Int))] ++ deadL [4, 11, 12, 13, 14, 15, 16, 17, 18, 19, 20, 21, 22, 23, 24, 25]) (fun i => a.length - i) 0 ⟨Nat.zero_le _, rfl⟩ ?_ ?_
    ·
      exact ent_over .base (.app (.cons (.refl _) (.nil)) _)
    rintro i ⟨hi, hx⟩
    refine vc_seq ?_
    refine vc_seq ?_
    refine vc_region ?_
    refine oq1 ?_
    refine oq1 ?_
    refine oq1 ?_
    refine oq6 ?_
    refine run_nil ?_
    refine vc_condP rfl (fun h2 => ?_) (fun h2 => ?_)
    ·
      try simp only [Int.toNat_natCast] at h2
      refine vc_skip ?_
      refine vc_seq ?_
      refine vc_block ?_
      refine vc_seq ?_
      refine vc_regionD rfl ?_
      refine oq1 ?_
      refine oq1 ?_
      refine oq3 ?_
      refine oq2 ?_
      refine oq1 ?_
      refine oq1 ?_
      refine oq3 ?_
      refine oq2 ?_
      refine run_eqS true tabEq rfl rfl rfl trivial rfl rfl rfl rfl rfl ?_
      refine run_nil ⟨rfl, ?_⟩
      refine vc_cond rfl (fun h3 => ?_) (fun h3 => ?_)
      ·
        try simp only [Int.toNat_natCast] at h3
        refine vc_seq ?_
        refine vc_region ?_
        refine oq1 ?_
        refine run_nil ?_
        refine vc_ret ?_
        refine ret_pure rfl trivial rfl (AVle.of_eq ?_)
        refine aBool_eq ?_
        first
          | (rw [if_neg (by omega)])
          | (rw [if_pos (by omega), ← hx, listEq, if_pos (by omega), if_neg (by simpa using rng_ne h3)])
          | (rw [if_pos (by omega), ← hx, listEq, if_neg (by omega)])
      ·
        try simp only [Int.toNat_natCast] at h3
        refine vc_skip ?_
        refine vc_region ?_
        refine oq1 ?_
        refine oq4 ?_
        refine oq1 ?_
        refine run_nil ?_
        have h3 : a.getD i default = b.getD i default := by simpa using rng_ne h3
        refine ⟨i + 1, ⟨by omega, ?_⟩, by omega, ent_over (by repeat (first | exact .base | refine .step rfl ?_)) (.app (.cons (.refl _) (.nil)) _)⟩
        rw [← hx, listEq.eq_def default a b i, if_pos (by omega), if_pos h3]
    ·
      try simp only [Int.toNat_natCast] at h2
      refine vc_exit ?_
      refine vc_seq ?_
      refine vc_region ?_
      refine oq1 ?_
      refine run_nil ?_
      refine vc_ret ?_
      refine ret_pure rfl trivial rfl (AVle.of_eq ?_)
      refine aBool_eq ?_
      first
        | (rw [if_neg (by omega)])
        | (rw [if_pos (by omega), ← hx, listEq, if_pos (by omega), if_neg (by simpa using rng_ne h3)])
        | (rw [if_pos (by omega), ← hx, listEq, if_neg (by omega)])

theorem lhas_c (l : List Int) (v : Int) : CallC Try.prog 22 0 (lkF [] fun _ => none) [aInts l, aInt .i64 v] 0 (lkF [] fun _ => none) (aBool (l.any fun x => decide (x = v))) := by
  refine callC_intro tabOk mixed Try.func22 rfl rfl rfl rfl ?_
  intro w0 e0 Z0 X hX n
  refine vc_len 0 rfl fun hlen => ?_
  refine vc_seq ?_
  refine vc_region ?_
  refine oq1 ?_
  refine run_nil ?_
  refine vc_seq ?_
  refine vc_seq ?_
  refine vc_region ?_
  refine oq1 ?_
  refine run_nil ?_
  refine vc_block ?_
  refine vc_loopO (κ := Nat) (fun i => i ≤ l.length ∧ (l.drop i).any (fun x => decide (x = v)) = l.any (fun x => decide (x = v))) (fun i => [(5, aInt .i64 (i : Int))] ++ deadL [4, 6, 7, 8, 9, 10, 11, 12, 13, 14, 15, 16, 17]) (fun i => l.length - i) 0 ⟨Nat.zero_le _, rfl⟩ ?_ ?_
  ·
    exact ent_over .base (.app (.cons (.refl _) (.nil)) _)
  rintro i ⟨hi, hx⟩
  refine vc_seq ?_
  refine vc_seq ?_
  refine vc_region ?_
  refine oq1 ?_
  refine oq1 ?_
  refine oq1 ?_
  refine oq6 ?_
  refine run_nil ?_
  refine vc_condP rfl (fun h1 => ?_) (fun h1 => ?_)
  ·
    try simp only [Int.toNat_natCast] at h1
    refine vc_skip ?_
    refine vc_seq ?_
    refine vc_block ?_
    refine vc_seq ?_
    refine vc_region ?_
    refine oq1 ?_
    refine oq1 ?_
    refine oq3 ?_
    refine oq2 ?_
    refine oq1 ?_
    refine oq6 ?_
    refine run_nil ?_
    refine vc_condP rfl (fun h2 => ?_) (fun h2 => ?_)
    ·
      try simp only [Int.toNat_natCast] at h2
      refine vc_seq ?_
      refine vc_region ?_
      refine oq1 ?_
      refine run_nil ?_
      refine vc_ret ?_
      refine ret_pure rfl trivial rfl (AVle.of_eq ?_)
      refine aBool_eq ?_
      rw [← hx]
      first
        | (rw [any_at i 0 (by omega), decide_eq_true h2, Bool.true_or]; done)
        | (rw [any_end (by omega)])
    ·
      try simp only [Int.toNat_natCast] at h2
      refine vc_skip ?_
      refine vc_region ?_
      refine oq1 ?_
      refine oq4 ?_
      refine oq1 ?_
      refine run_nil ?_
      refine ⟨i + 1, ⟨by omega, ?_⟩, by omega, ent_over (by repeat (first | exact .base | refine .step rfl ?_)) (.app (.cons (.refl _) (.nil)) _)⟩
      rw [← hx, any_at i 0 (by omega), decide_eq_false h2, Bool.false_or]
  ·
    try simp only [Int.toNat_natCast] at h1
    refine vc_exit ?_
    refine vc_seq ?_
    refine vc_region ?_
    refine oq1 ?_
    refine run_nil ?_
    refine vc_ret ?_
    refine ret_pure rfl trivial rfl (AVle.of_eq ?_)
    refine aBool_eq ?_
    rw [← hx]
    first
      | (rw [any_at i 0 (by omega), decide_eq_true h2, Bool.true_or]; done)
      | (rw [any_end (by omega)])

theorem Has_c (l : List Way) (v : Int) : CallC Try.prog 39 0 (lkF [] fun _ => none) [aWays l, aInt .i64 v] 0 (lkF [] fun _ => none) (aBool (hasWay l v)) := by
  refine callC_intro tabOk mixed Try.func39 rfl rfl rfl rfl ?_
  intro w0 e0 Z0 X hX n
  refine vc_len 0 rfl fun hlen => ?_
  refine vc_seq ?_
  refine vc_region ?_
  refine oq1 ?_
  refine run_nil ?_
  refine vc_seq ?_
  refine vc_seq ?_
  refine vc_region ?_
  refine oq1 ?_
  refine run_nil ?_
  refine vc_block ?_
  refine vc_loopO (κ := Nat) (fun i => i ≤ l.length ∧ hasWay (l.drop i) v = hasWay l v) (fun i => [(5, aInt .i64 (i : Int))] ++ deadL [4, 6, 7, 8, 9, 10, 11, 12, 13, 14, 15, 16, 17, 18, 19]) (fun i => l.length - i) 0 ⟨Nat.zero_le _, rfl⟩ ?_ ?_
  ·
    exact ent_over .base (.app (.cons (.refl _) (.nil)) _)
  rintro i ⟨hi, hx⟩
  refine vc_seq ?_
  refine vc_seq ?_
  refine vc_region ?_
  refine oq1 ?_
  refine oq1 ?_
  refine oq1 ?_
  refine oq6 ?_
  refine run_nil ?_
  refine vc_condP rfl (fun h1 => ?_) (fun h1 => ?_)
  ·
    try simp only [Int.toNat_natCast] at h1
    refine vc_skip ?_
    refine vc_seq ?_
    refine vc_block ?_
    refine vc_seq ?_
    refine vc_region ?_
    refine oq1 ?_
    refine oq1 ?_
    refine oq3 ?_
    refine oq5 ?_
    refine oq2 ?_
    refine oq1 ?_
    refine oq6 ?_
    refine oq6 ?_
    refine run_nil ?_
    refine vc_condP rfl (fun h2 => ?_) (fun h2 => ?_)
    ·
      try simp only [Int.toNat_natCast] at h2
      refine vc_seq ?_
      refine vc_region ?_
      refine oq1 ?_
      refine run_nil ?_
      refine vc_ret ?_
      refine ret_pure rfl trivial rfl (AVle.of_eq ?_)
      refine aBool_eq ?_
      rw [← hx]
      first
        | (have h2 : clears (l.getD i default).wrong v = true := decide_eq_true h2; rw [hasWay, any_at i default (by omega), h2, Bool.true_or]; done)
        | (rw [hasWay, any_end (by omega)])
    ·
      try simp only [Int.toNat_natCast] at h2
      refine vc_skip ?_
      refine vc_region ?_
      refine oq1 ?_
      refine oq4 ?_
      refine oq1 ?_
      refine run_nil ?_
      have h2 : clears (l.getD i default).wrong v = false := decide_eq_false h2
      refine ⟨i + 1, ⟨by omega, ?_⟩, by omega, ent_over (by repeat (first | exact .base | refine .step rfl ?_)) (.app (.cons (.refl _) (.nil)) _)⟩
      rw [← hx, hasWay, hasWay, any_at i default (by omega), h2, Bool.false_or]
  ·
    try simp only [Int.toNat_natCast] at h1
    refine vc_exit ?_
    refine vc_seq ?_
    refine vc_region ?_
    refine oq1 ?_
    refine run_nil ?_
    refine vc_ret ?_
    refine ret_pure rfl trivial rfl (AVle.of_eq ?_)
    refine aBool_eq ?_
    rw [← hx]
    first
      | (have h2 : clears (l.getD i default).wrong v = true := decide_eq_true h2; rw [hasWay, any_at i default (by omega), h2, Bool.true_or]; done)
      | (rw [hasWay, any_end (by omega)])

theorem Less_c (a b : List Int) : CallC Try.prog 49 0 (lkF [] fun _ => none) [aInts a, aInts b] 0 (lkF [] fun _ => none) (aBool (lessI a b 0)) := by
  refine callC_intro tabOk mixed Try.func49 rfl rfl rfl rfl ?_
  intro w0 e0 Z0 X hX n
  refine vc_len 0 rfl fun hlen => ?_
  refine vc_len 1 rfl fun hlen1 => ?_
  refine vc_seq ?_
  refine vc_region ?_
  refine oq1 ?_
  refine run_nil ?_
  refine vc_seq ?_
  refine vc_seq ?_
  refine vc_region ?_
  refine oq1 ?_
  refine run_nil ?_
  refine vc_block ?_
  refine vc_loopO (κ := Nat) (fun i => i ≤ a.length ∧ lessI a b i = lessI a b 0) (fun i => [(5, aInt .i64 (i : Int))] ++ deadL [4, 6, 7, 8, 9, 10, 11, 12, 13, 14, 15, 16, 17, 18, 19, 20, 21, 22, 23, 24, 25, 26, 27, 28, 29, 30, 31, 32, 33, 34, 35, 36]) (fun i => a.length - i) 0 ⟨Nat.zero_le _, rfl⟩ ?_ ?_
  ·
    exact ent_over .base (.app (.cons (.refl _) (.nil)) _)
  rintro i ⟨hi, hx⟩
  refine vc_seq ?_
  refine vc_seq ?_
  refine vc_region ?_
  refine oq1 ?_
  refine oq1 ?_
  refine oq1 ?_
  refine oq6 ?_
  refine oq1 ?_
  refine run_splitP 10 rfl (fun h1 => ?_) (fun h1 => ?_)
  ·
    try simp only [Int.toNat_natCast] at h1
    refine oq1 ?_
    refine oq1 ?_
    refine oq1 ?_
    refine oq1 ?_
    refine oq6 ?_
    refine oq1 ?_
    refine run_nil ?_
    refine vc_condP rfl (fun h2 => ?_) (fun h2 => ?_)
    ·
      try simp only [Int.toNat_natCast] at h2
      refine vc_skip ?_
      refine vc_seq ?_
      refine vc_block ?_
      refine vc_seq ?_
      refine vc_regionD rfl ?_
      refine oq1 ?_
      refine oq1 ?_
      refine oq3 ?_
      refine oq2 ?_
      refine oq1 ?_
      refine oq1 ?_
      refine oq3 ?_
      refine oq2 ?_
      refine oq6 ?_
      refine run_nil ⟨rfl, ?_⟩
      refine vc_condN rfl (fun h3 => ?_) (fun h3 => ?_)
      ·
        try simp only [Int.toNat_natCast] at h3
        refine vc_seq ?_
        refine vc_regionD rfl ?_
        refine oq1 ?_
        refine oq1 ?_
        refine oq3 ?_
        refine oq2 ?_
        refine oq1 ?_
        refine oq1 ?_
        refine oq3 ?_
        refine oq2 ?_
        refine oq6 ?_
        refine oq1 ?_
        refine run_nil ⟨rfl, ?_⟩
        refine vc_ret ?_
        refine ret_pure rfl trivial rfl (AVle.of_eq ?_)
        refine aBool_eq ?_
        rw [← hx, lessI]
        first
          | (rw [if_pos ⟨by omega, by omega⟩, if_neg h3]; rfl)
          | (rw [if_neg (by omega)]; exact decide_eq_decide.2 (by omega))
      ·
        try simp only [Int.toNat_natCast] at h3
        refine vc_skip ?_
        refine vc_region ?_
        refine oq1 ?_
        refine oq4 ?_
        refine oq1 ?_
        refine run_nil ?_
        refine ⟨i + 1, ⟨by omega, ?_⟩, by omega, ent_over (by repeat (first | exact .base | refine .step rfl ?_)) (.app (.cons (.refl _) (.nil)) _)⟩
        rw [← hx, lessI.eq_def a b i, if_pos ⟨by omega, by omega⟩, if_pos h3]
    ·
      try simp only [Int.toNat_natCast] at h2
      refine vc_exit ?_
      refine vc_seq ?_
      refine vc_region ?_
      refine oq1 ?_
      refine oq1 ?_
      refine oq1 ?_
      refine oq1 ?_
      refine oq6 ?_
      refine oq1 ?_
      refine run_nil ?_
      refine vc_ret ?_
      refine ret_pure rfl trivial rfl (AVle.of_eq ?_)
      refine aBool_eq ?_
      rw [← hx, lessI]
      first
        | (rw [if_pos ⟨by omega, by omega⟩, if_neg h3]; rfl)
        | (rw [if_neg (by omega)]; exact decide_eq_decide.2 (by omega))
  ·
    try simp only [Int.toNat_natCast] at h1
    refine osk ?_
    refine osk ?_
    refine osk ?_
    refine osk ?_
    refine osk ?_
    refine oq1 ?_
    refine run_nil ?_
    refine vc_cond rfl (fun h => Bool.noConfusion h) (fun _ => ?_)
    refine vc_exit ?_
    refine vc_seq ?_
    refine vc_region ?_
    refine oq1 ?_
    refine oq1 ?_
    refine oq1 ?_
    refine oq1 ?_
    refine oq6 ?_
    refine oq1 ?_
    refine run_nil ?_
    refine vc_ret ?_
    refine ret_pure rfl trivial rfl (AVle.of_eq ?_)
    refine aBool_eq ?_
    rw [← hx, lessI]
    first
      | (rw [if_pos ⟨by omega, by omega⟩, if_neg h3]; rfl)
      | (rw [if_neg (by omega)]; exact decide_eq_decide.2 (by omega))

theorem Bits_c (z : Int) (h0 : 0 ≤ z) : CallC Try.prog 50 0 (lkF [] fun _ => none) [aInt .i64 z] 0 (lkF [] fun _ => none) (aInts (bitsTo z 16)) := by
  refine callC_intro tabOk mixed Try.func50 rfl rfl rfl rfl ?_
  intro w0 e0 Z0 X hX n
  refine vc_seq ?_
  refine vc_region ?_
  refine oq1 ?_
  refine run_nil ?_
  refine vc_seq ?_
  refine vc_region ?_
  refine oq1 ?_
  refine run_nil ?_
  refine vc_seq ?_
  refine vc_seq ?_
  refine vc_ent (ent_adoptS 3 3 1 (fun _ _ => .any) rfl) ?_
  refine vc_region ?_
  refine oq1 ?_
  refine run_nil ?_
  refine vc_block ?_
  refine vc_loop (κ := Nat) (fun i => i ≤ 16) (fun i => ⟨[(0, aInt .i64 z), (3, .s (.c (.own 0))), (4, aInt .i64 (i : Int))], [(0, some (rowL 3 1 (fun n _ => i64 n) 0 (bitsTo z i)))], fun _ => none, 1⟩) (fun i => 16 - i) 0 (Nat.zero_le _) ?_ ?_
  ·
    exact ent_ren [] (.cons (.refl _) rfl (.cons (.refl _) rfl (.cons (.refl _) rfl .nil))) (.cons rfl (rowZ rfl) rfl rfl .nil) rfl rfl (fun i hi => absurd hi (Nat.not_lt_zero i))
  rintro i hi
  refine vc_seq ?_
  refine vc_seq ?_
  refine vc_region ?_
  refine oq1 ?_
  refine oq6 ?_
  refine run_nil ?_
  refine vc_condP rfl (fun h1 => ?_) (fun h1 => ?_)
  ·
    try simp only [Int.toNat_natCast] at h1
    refine vc_skip ?_
    refine vc_seq ?_
    refine vc_block ?_
    refine vc_seq ?_
    refine vc_region ?_
    refine oq1 ?_
    refine oq1 ?_
    refine run_q rfl trivial rfl rfl rfl (wrapU (by (try simp only [Int.toNat_natCast]); omega) (by (try simp only [Int.toNat_natCast]); omega)) ?_
    refine run_q rfl trivial rfl rfl rfl (by (try simp only [Int.toNat_natCast]); omega) ?_
    refine run_q rfl trivial rfl rfl rfl ⟨rfl, Int.fdiv_nonneg (by (try simp only [Int.toNat_natCast]); omega) (Int.le_of_lt (Int.pow_pos (by decide))), by (try simp only [Int.toNat_natCast]); omega⟩ ?_
    refine oq6 ?_
    refine run_nil ?_
    refine vc_condP rfl (fun h2 => ?_) (fun h2 => ?_)
    ·
      try simp only [Int.toNat_natCast] at h2
      have hb : bit z i = true := decide_eq_true (by rw [show min i IntKind.i64.bits = i from Nat.min_eq_left (by show i ≤ 64; omega)] at h2; exact h2)
      refine vc_region ?_
      have hbl := bitsTo_len z i
      refine oq1 ?_
      refine oq1 ?_
      refine run_buildSlice rfl trivial rfl rfl rfl rfl rfl rfl rfl rfl rfl ?_
      refine run_append rfl rfl rfl rfl trivial rfl rfl rfl rfl rfl rfl rfl rfl rfl rfl rfl (by first | omega | exact app_room (by omega) rfl) ?_
      refine oq1 ?_
      refine run_nil ?_
      refine vc_region ?_
      refine oq1 ?_
      refine oq4 ?_
      refine oq1 ?_
      refine run_nil ?_
      first
      | (refine ⟨i + 1, by omega, by omega, ent_ren [(0, 1)] (.cons (.refl _) rfl (.cons (.refl _) rfl (.cons (.refl _) rfl .nil))) (.cons rfl (by rw [bitsTo_yes hb]; exact rowL_snoc (g := fun n _ => i64 n) (d := 0) (bitsTo z i) (i : Int) (fall1 (.refl _))) rfl rfl .nil) rfl rfl (fun i hi => absurd hi (Nat.not_lt_zero i))⟩)
      | (refine ⟨i + 1, by omega, by omega, ent_ren [] (.cons (.refl _) rfl (.cons (.refl _) rfl (.cons (.refl _) rfl .nil))) (.cons rfl (by rw [bitsTo_no hb]; exact .refl _) rfl rfl .nil) rfl rfl (fun i hi => absurd hi (Nat.not_lt_zero i))⟩)
    ·
      try simp only [Int.toNat_natCast] at h2
      have hb : bit z i = false := decide_eq_false (by rw [show min i IntKind.i64.bits = i from Nat.min_eq_left (by show i ≤ 64; omega)] at h2; exact h2)
      refine vc_skip ?_
      refine vc_region ?_
      refine oq1 ?_
      refine oq4 ?_
      refine oq1 ?_
      refine run_nil ?_
      first
      | (refine ⟨i + 1, by omega, by omega, ent_ren [(0, 1)] (.cons (.refl _) rfl (.cons (.refl _) rfl (.cons (.refl _) rfl .nil))) (.cons rfl (by rw [bitsTo_yes hb]; exact rowL_snoc (g := fun n _ => i64 n) (d := 0) (bitsTo z i) (i : Int) (fall1 (.refl _))) rfl rfl .nil) rfl rfl (fun i hi => absurd hi (Nat.not_lt_zero i))⟩)
      | (refine ⟨i + 1, by omega, by omega, ent_ren [] (.cons (.refl _) rfl (.cons (.refl _) rfl (.cons (.refl _) rfl .nil))) (.cons rfl (by rw [bitsTo_no hb]; exact .refl _) rfl rfl .nil) rfl rfl (fun i hi => absurd hi (Nat.not_lt_zero i))⟩)
  ·
    try simp only [Int.toNat_natCast] at h1
    refine vc_exit ?_
    refine vc_seq ?_
    refine vc_ent (ent_fz 0 rfl) ?_
    refine vc_region ?_
    refine oq1 ?_
    refine oq1 ?_
    refine run_nil ?_
    refine vc_ret ?_
    obtain rfl : i = 16 := by omega
    exact ret_pure rfl trivial rfl (AVle.refl _)

end Go.Proofs.Ytnkgdapdccpjmaa

/- Clone, Truth, Back, the first wrong gauge of the reference, words. -/
namespace Go.Proofs.Ytnkgdapdccpjmaa
open Go Go.RowKit Go.Sx

theorem cloneI_c (l : List Int) (hl : l.length ≤ 1000000) : CallC Try.prog 62 0 (lkF [] fun _ => none) [aInts l] 0 (lkF [] fun _ => none) (aInts l) := by
  refine callC_intro tabOk mixed Try.func62 rfl rfl rfl rfl ?_
  intro w0 e0 Z0 X hX n
  refine vc_seq ?_
  refine vc_region ?_
  refine oq1 ?_
  refine run_nil ?_
  refine vc_seq ?_
  refine vc_seq ?_
  refine vc_regionT ?_
  refine t1 (run_q rfl trivial rfl rfl rfl trivial (run_nil ?_))
  refine runT_nilEq rfl trivial rfl rfl rfl rfl rfl (fun h0 => ?_) ?_
  · refine runT_nil ?_
    refine vc_cond rfl (fun _ => ?_) (fun h => Bool.noConfusion h)
    refine vc_seq ?_
    refine vc_region ?_
    refine oq1 ?_
    refine run_nil ?_
    refine vc_ret ?_
    obtain rfl : l = [] := List.length_eq_zero_iff.1 h0
    exact ret_pure rfl trivial rfl (.f .nil)
  · refine runT_nil ?_
    refine vc_cond rfl (fun h => Bool.noConfusion h) (fun _ => ?_)
    refine vc_skip ?_
    refine vc_seq ?_
    refine vc_region ?_
    refine run_buildOwn rfl trivial rfl rfl rfl rfl rfl rfl rfl rfl rfl ?_
    refine oq1 ?_
    refine run_append rfl rfl rfl rfl trivial rfl rfl rfl rfl rfl rfl rfl rfl rfl rfl rfl (app_room (by omega) rfl) ?_
    refine oq1 ?_
    refine run_nil ?_
    refine vc_ent (ent_fz 1 rfl) ?_
    refine vc_ret ?_
    exact ret_pure rfl trivial rfl (.f (.sl (by simp) fun i j hi hj => .of_eq (by simp [appF])))

theorem Truth_c (t : Tru) (h1 : t.start.length ≤ 1000000) (h2 : t.leak.length ≤ 1000000) (h3 : t.quantity.length ≤ 1000000) : CallC Try.prog 26 0 (lkF [] fun _ => none) [aTru t] 0 (lkF [] fun _ => none) (aTru t) := by
  refine callC_intro tabOk mixed Try.func26 rfl rfl rfl rfl ?_
  intro w0 e0 Z0 X hX n
  refine vc_seq ?_
  refine vc_region ?_
  refine run_box rfl trivial rfl rfl rfl rfl rfl rfl (by intro _ _ h; cases h) ?_
  refine run_alloc rfl trivial rfl rfl rfl rfl (by intro _ _ h; cases h) ?_
  refine run_nil ?_
  refine vc_seq ?_
  refine vc_regionD rfl ?_
  refine oq5 ?_
  refine oq2 ?_
  refine run_callP (list_c _ (by omega)) rfl rfl rfl trivial rfl rfl rfl rfl ?_
  refine oq5 ?_
  refine oq2 ?_
  refine run_callP (list_c _ (by omega)) rfl rfl rfl trivial rfl rfl rfl rfl ?_
  refine oq5 ?_
  refine oq2 ?_
  refine run_callP (list_c _ (by omega)) rfl rfl rfl trivial rfl rfl rfl rfl ?_
  refine oq1 ?_
  refine Sx.run_store rfl trivial rfl rfl rfl rfl rfl rfl rfl ?_
  refine run_nil ⟨rfl, ?_⟩
  refine vc_ret ?_
  exact ret_pure rfl (Nat.le_of_ble_eq_true rfl) rfl (AVle.refl _)

theorem Back_c (t : Tru) (h1 : t.start.length ≤ 1000000) (h2 : t.leak.length ≤ 1000000) (h3 : t.quantity.length ≤ 1000000) : CallC Try.prog 40 0 (lkF [] fun _ => none) [aTru t] 0 (lkF [] fun _ => none) (aTru t) := by
  refine callC_intro tabOk mixed Try.func40 rfl rfl rfl rfl ?_
  intro w0 e0 Z0 X hX n
  refine vc_seq ?_
  refine vc_region ?_
  refine run_box rfl trivial rfl rfl rfl rfl rfl rfl (by intro _ _ h; cases h) ?_
  refine run_alloc rfl trivial rfl rfl rfl rfl (by intro _ _ h; cases h) ?_
  refine run_nil ?_
  refine vc_seq ?_
  refine vc_regionD rfl ?_
  refine oq5 ?_
  refine oq2 ?_
  refine run_callP (list_c _ (by omega)) rfl rfl rfl trivial rfl rfl rfl rfl ?_
  refine oq5 ?_
  refine oq2 ?_
  refine run_callP (list_c _ (by omega)) rfl rfl rfl trivial rfl rfl rfl rfl ?_
  refine oq5 ?_
  refine oq2 ?_
  refine run_callP (list_c _ (by omega)) rfl rfl rfl trivial rfl rfl rfl rfl ?_
  refine oq1 ?_
  refine Sx.run_store rfl trivial rfl rfl rfl rfl rfl rfl rfl ?_
  refine run_nil ⟨rfl, ?_⟩
  refine vc_ret ?_
  exact ret_pure rfl (Nat.le_of_ble_eq_true rfl) rfl (AVle.refl _)

theorem shl64 {a b : Int} {i : Nat} (h : b = (i : Int)) (ha : 0 ≤ a) (hi : i ≤ 16) (hb : a ≤ 2) : IntKind.i64.wrap (a * 2 ^ (min b.toNat IntKind.i64.bits)) = a * 2 ^ i ∧ 0 ≤ a * 2 ^ i ∧ a * 2 ^ i ≤ 131072 := by
  subst h
  have e : min (i : Int).toNat IntKind.i64.bits = i := Nat.min_eq_left (by show i ≤ 64; omega)
  rw [e]
  have h1 : (2 : Int) ^ i ≤ 2 ^ 16 := by
    have : (2 : Nat) ^ i ≤ 2 ^ 16 := Nat.pow_le_pow_right (by decide) hi
    exact_mod_cast this
  have h0 : (0 : Int) ≤ 2 ^ i := Int.le_of_lt (Int.pow_pos (by decide))
  have h2 := mul_box ha hb h0 h1
  exact ⟨wrap64 (by omega) (by omega), h2.1, by omega⟩
/-- The later ones of so many gauges, by bits. -/
def later (n i : Nat) : Int := bitF .andNot .i64 (1 * 2 ^ n - 1) (2 * 2 ^ i - 1)
def firstR (n : Nat) (l : List Way) (i : Nat) : Int := if i < n then (if hasWay l (later n i) = false then i else firstR n l (i + 1)) else -1
termination_by n - i

theorem refFirst_c (c : Clr) (l : List Way) (hg : c.gauges.length ≤ 6) : CallC Try.prog 42 0 (lkF [] fun _ => none) [aClr c, aWays l] 0 (lkF [] fun _ => none) (aInt .i64 (firstR c.gauges.length l 0)) := by
  refine callC_intro tabOk mixed Try.func42 rfl rfl rfl rfl ?_
  intro w0 e0 Z0 X hX n
  refine vc_fact 0 clr_len fun hlen => ?_
  refine vc_seq ?_
  refine vc_region ?_
  refine run_box rfl trivial rfl rfl rfl rfl rfl rfl (by intro _ _ h; cases h) ?_
  refine oq1 ?_
  refine run_nil ?_
  refine vc_seq ?_
  refine vc_seq ?_
  refine vc_region ?_
  refine oq1 ?_
  refine run_nil ?_
  refine vc_block ?_
  refine vc_loopO (κ := Nat) (fun i => i ≤ c.gauges.length ∧ firstR c.gauges.length l i = firstR c.gauges.length l 0) (fun i => [(5, aInt .i64 (i : Int))] ++ deadL [4, 6, 7, 8, 9, 10, 11, 12, 13, 14, 15, 16, 17, 18, 19, 20, 21, 22, 23, 24, 25, 26, 27, 28, 29]) (fun i => c.gauges.length - i) 0 ⟨Nat.zero_le _, rfl⟩ ?_ ?_
  ·
    exact ent_over .base (.app (.cons (.refl _) (.nil)) _)
  rintro i ⟨hi, hx⟩
  refine vc_seq ?_
  refine vc_seq ?_
  refine vc_region ?_
  refine oq1 ?_
  refine oq5 ?_
  refine oq2 ?_
  refine oq1 ?_
  refine oq6 ?_
  refine run_nil ?_
  refine vc_condP rfl (fun h1 => ?_) (fun h1 => ?_)
  ·
    try simp only [Int.toNat_natCast] at h1
    refine vc_skip ?_
    refine vc_seq ?_
    refine vc_block ?_
    refine vc_seq ?_
    refine vc_region ?_
    refine oq5 ?_
    refine oq2 ?_
    refine oq1 ?_
    refine run_q rfl trivial rfl rfl rfl (wrapU (by omega) (by omega)) ?_
    have hs1 := shl64 (a := 1) (b := (c.gauges.length : Int)) (i := c.gauges.length) rfl (by decide) (by omega) (by decide)
    refine run_qW (aInt .i64 (1 * 2 ^ c.gauges.length)) rfl trivial rfl rfl rfl (by show 0 ≤ (c.gauges.length : Int); omega) (AVle.of_eq (aInt_eq hs1.1)) ?_
    refine oq4 ?_
    refine oq1 ?_
    refine run_q rfl trivial rfl rfl rfl (wrapU (by omega) (by omega)) ?_
    have hs2 := shl64 (a := 2) (b := (i : Int)) (i := i) rfl (by decide) (by omega) (by decide)
    refine run_qW (aInt .i64 (2 * 2 ^ i)) rfl trivial rfl rfl rfl (by show 0 ≤ (i : Int); omega) (AVle.of_eq (aInt_eq hs2.1)) ?_
    refine oq4 ?_
    refine oq6 ?_
    refine oq1 ?_
    refine run_nil ?_
    refine vc_seq ?_
    refine vc_region ?_
    refine oq1 ?_
    refine oq1 ?_
    refine run_callP (Has_c l (later c.gauges.length i)) rfl rfl rfl trivial rfl rfl rfl rfl ?_
    refine oq1 ?_
    refine run_nil ?_
    refine vc_cond rfl (fun h2 => ?_) (fun h2 => ?_)
    ·
      try simp only [Int.toNat_natCast] at h2
      refine vc_seq ?_
      refine vc_region ?_
      refine oq1 ?_
      refine oq1 ?_
      refine run_nil ?_
      refine vc_ret ?_
      refine ret_pure rfl trivial rfl (AVle.of_eq ?_)
      refine aInt_eq ?_
      rw [← hx, firstR]
      first
        | (rw [if_pos (by omega), if_pos (by simpa using h2)]; done)
        | (rw [if_neg (by omega)])
    ·
      try simp only [Int.toNat_natCast] at h2
      refine vc_skip ?_
      refine vc_region ?_
      refine oq1 ?_
      refine oq4 ?_
      refine oq1 ?_
      refine run_nil ?_
      refine ⟨i + 1, ⟨by omega, ?_⟩, by omega, ent_over (by repeat (first | exact .base | refine .step rfl ?_)) (.app (.cons (.refl _) (.nil)) _)⟩
      rw [← hx, firstR.eq_def c.gauges.length l i, if_pos (by omega), if_neg (by simpa using h2)]
  ·
    try simp only [Int.toNat_natCast] at h1
    refine vc_exit ?_
    refine vc_seq ?_
    refine vc_region ?_
    refine oq1 ?_
    refine run_nil ?_
    refine vc_ret ?_
    refine ret_pure rfl trivial rfl (AVle.of_eq ?_)
    refine aInt_eq ?_
    rw [← hx, firstR]
    first
      | (rw [if_pos (by omega), if_pos (by simpa using h2)]; done)
      | (rw [if_neg (by omega)])

theorem pick_c (r : Rng) (v : Int) (h0 : 0 ≤ r.lo) (h1 : r.lo ≤ r.hi) (h2 : r.hi ≤ 1000000) (hv : 0 ≤ v) : CallC Try.prog 77 0 (lkF [] fun _ => none) [aRng r, aInt .i64 v] 0 (lkF [] fun _ => none) (aInt .i64 (r.lo + v % (r.hi - r.lo + 1))) := by
  refine callC_intro tabOk mixed Try.func77 rfl rfl rfl rfl ?_
  intro w0 e0 Z0 X hX n
  refine vc_seq ?_
  refine vc_region ?_
  refine run_box rfl trivial rfl rfl rfl rfl rfl rfl (by intro _ _ h; cases h) ?_
  refine oq1 ?_
  refine run_nil ?_
  refine vc_seq ?_
  refine vc_regionD rfl ?_
  have hm1 := Int.emod_nonneg v (show r.hi - r.lo + 1 ≠ 0 by omega)
  have hm2 := Int.emod_lt_of_pos v (show 0 < r.hi - r.lo + 1 by omega)
  refine oq5 ?_
  refine oq2 ?_
  refine oq1 ?_
  refine oq5 ?_
  refine oq2 ?_
  refine oq5 ?_
  refine oq2 ?_
  refine oq4 ?_
  refine oq4 ?_
  refine run_q rfl trivial rfl rfl rfl ⟨rfl, by (try simp only [Int.toNat_natCast]); omega, by (try simp only [Int.toNat_natCast]); omega⟩ ?_
  refine oq4 ?_
  refine oq1 ?_
  refine run_nil ⟨rfl, ?_⟩
  refine vc_ret ?_
  refine ret_pure rfl trivial rfl (AVle.of_eq ?_)
  rfl

def words (l : List Int) : FV := encL 1 (fun n _ => .int .u16 n) 0 l
abbrev aWords (l : List Int) : AV := .s (.c (.f (words l)))
def wordA (l : List Int) (i : Int) : Int := if l.length = 0 then 0 else l.getD (i % l.length).toNat 0

theorem word_c (l : List Int) (v : Int) (h0 : 0 ≤ v) (hl : ∀ x ∈ l, 0 ≤ x ∧ x ≤ 65535) : CallC Try.prog 78 0 (lkF [] fun _ => none) [aWords l, aInt .i64 v] 0 (lkF [] fun _ => none) (aInt .i64 (wordA l v)) := by
  refine callC_intro tabOk mixed Try.func78 rfl rfl rfl rfl ?_
  intro w0 e0 Z0 X hX n
  refine vc_len 0 rfl fun hlen => ?_
  refine vc_seq ?_
  refine vc_region ?_
  refine oq1 ?_
  refine run_nil ?_
  refine vc_seq ?_
  refine vc_seq ?_
  refine vc_region ?_
  refine oq1 ?_
  refine oq1 ?_
  refine oq6 ?_
  refine run_nil ?_
  refine vc_condP rfl (fun h1 => ?_) (fun h1 => ?_)
  ·
    try simp only [Int.toNat_natCast] at h1
    refine vc_seq ?_
    refine vc_region ?_
    refine oq1 ?_
    refine run_nil ?_
    refine vc_ret ?_
    refine ret_pure rfl trivial rfl (AVle.of_eq ?_)
    refine aInt_eq ?_
    first
      | (rw [wordA, if_pos (by omega)]; done)
      | (rw [wordA, if_neg (by omega)])
  ·
    try simp only [Int.toNat_natCast] at h1
    refine vc_skip ?_
    refine vc_seq ?_
    refine vc_region ?_
    have hm1 := Int.emod_nonneg v (show (l.length : Int) ≠ 0 by omega)
    have hm2 := Int.emod_lt_of_pos v (show 0 < (l.length : Int) by omega)
    have hw := hl _ (getD_mem (d := 0) (show (v % (l.length : Int)).toNat < l.length by omega))
    refine oq1 ?_
    refine oq1 ?_
    refine oq1 ?_
    refine oq1 ?_
    refine run_q rfl trivial rfl rfl rfl ⟨rfl, by (try simp only [Int.toNat_natCast]); omega, by (try simp only [Int.toNat_natCast]); omega⟩ ?_
    refine oq3 ?_
    refine oq2 ?_
    refine run_q rfl trivial rfl rfl rfl (wrap64 (by (try simp only [Int.toNat_natCast]); omega) (by (try simp only [Int.toNat_natCast]); omega)) ?_
    refine oq1 ?_
    refine run_nil ?_
    refine vc_ret ?_
    refine ret_pure rfl trivial rfl (AVle.of_eq ?_)
    refine aInt_eq ?_
    first
      | (rw [wordA, if_pos (by omega)]; done)
      | (rw [wordA, if_neg (by omega)])

end Go.Proofs.Ytnkgdapdccpjmaa

