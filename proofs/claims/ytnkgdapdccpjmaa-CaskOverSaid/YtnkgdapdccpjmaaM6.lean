import Derived.Test.YtnkgdapdccpjmaaM5
/- Truths of the ranges; what a cask gains. -/
namespace Go.Proofs.Ytnkgdapdccpjmaa
open Go Go.RowKit Go.Sx

theorem range_all {n : Nat} {p : Nat → Bool} (h : ∀ j, j < n → p j = true) : (List.range n).all p = true := by
  rw [List.all_eq_true]; intro x hx; exact h x (List.mem_range.1 hx)
theorem range_not {n i : Nat} {p : Nat → Bool} (hi : i < n) (h : p i = false) : (List.range n).all p = false := by
  rw [List.all_eq_false]; exact ⟨i, List.mem_range.2 hi, by rw [h]; simp⟩
def Clr.caskOk (c : Clr) (t : Tru) (i : Nat) : Bool := (c.casks.getD i default).start.has (t.start.getD i 0) && (c.casks.getD i default).leak.has (t.leak.getD i 0)
def Clr.moveOk (c : Clr) (t : Tru) (i : Nat) : Bool := (c.moves.getD i default).q.has (t.quantity.getD i 0)
def Clr.ofT (c : Clr) (t : Tru) : Bool :=
  if t.start.length = c.casks.length ∧ t.leak.length = c.casks.length ∧ t.quantity.length = c.moves.length then (List.range c.casks.length).all (c.caskOk t) && (List.range c.moves.length).all (c.moveOk t) else false
theorem ofT_cask {c : Clr} {t : Tru} {i : Nat} (hi : i < c.casks.length) (h : c.caskOk t i = false) : c.ofT t = false := by
  rw [Clr.ofT]; split
  · rw [range_not hi h, Bool.false_and]
  · rfl
theorem ofT_move {c : Clr} {t : Tru} {i : Nat} (hi : i < c.moves.length) (h : c.moveOk t i = false) : c.ofT t = false := by
  rw [Clr.ofT]; split
  · rw [range_not hi h, Bool.and_false]
  · rfl
theorem ofT_yes {c : Clr} {t : Tru} (h : t.start.length = c.casks.length ∧ t.leak.length = c.casks.length ∧ t.quantity.length = c.moves.length) (h1 : ∀ j, j < c.casks.length → c.caskOk t j = true) (h2 : ∀ j, j < c.moves.length → c.moveOk t j = true) : c.ofT t = true := by
  rw [Clr.ofT, if_pos h, range_all h1, range_all h2]; rfl
theorem tru_len {t : Tru} (w : World) (e : Env) (Z L : Nat → Prop) (v : Value) (h : RepA w e Z L v (aTru t)) : t.start.length ≤ 9223372036854775807 ∧ t.leak.length ≤ 9223372036854775807 ∧ t.quantity.length ≤ 9223372036854775807 := by
  obtain ⟨u, hu⟩ := h.cell (i := 0) rfl
  obtain ⟨u1, hu1⟩ := h.cell (i := 1) rfl
  obtain ⟨u2, hu2⟩ := h.cell (i := 2) rfl
  exact ⟨hu.len, hu1.len, hu2.len⟩

theorem of67_c (c : Clr) (t : Tru) : CallC Try.prog 67 0 (lkF [] fun _ => none) [aClr c, aTru t] 0 (lkF [] fun _ => none) (aBool (c.ofT t)) := by
  refine callC_intro tabOk mixed Try.func67 rfl rfl rfl rfl ?_
  intro w0 e0 Z0 X hX n
  refine vc_fact 0 clr_len fun hlen => ?_
  refine vc_fact 1 tru_len fun hlen1 => ?_
  refine vc_seq ?_
  refine vc_region ?_
  refine run_box rfl trivial rfl rfl rfl rfl rfl rfl (by intro _ _ h; cases h) ?_
  refine run_box rfl trivial rfl rfl rfl rfl rfl rfl (by intro _ _ h; cases h) ?_
  refine oq1 ?_
  refine run_nil ?_
  refine vc_seq ?_
  refine vc_seq ?_
  refine vc_region ?_
  refine oq5 ?_
  refine oq2 ?_
  refine oq1 ?_
  refine oq5 ?_
  refine oq2 ?_
  refine oq1 ?_
  refine oq6 ?_
  refine oq1 ?_
  refine run_splitN 16 rfl (fun h1 => ?_) (fun h1 => ?_)
  ·
    try simp only [Int.toNat_natCast] at h1
    refine osk ?_
    refine osk ?_
    refine osk ?_
    refine osk ?_
    refine osk ?_
    refine osk ?_
    refine osk ?_
    refine oq1 ?_
    refine oq1 ?_
    refine osk ?_
    refine osk ?_
    refine osk ?_
    refine osk ?_
    refine osk ?_
    refine osk ?_
    refine osk ?_
    refine oq1 ?_
    refine run_nil ?_
    refine vc_cond rfl (fun _ => ?_) (fun h => Bool.noConfusion h)
    refine vc_seq ?_
    refine vc_region ?_
    refine oq1 ?_
    refine run_nil ?_
    refine vc_ret ?_
    refine ret_pure rfl trivial rfl (AVle.of_eq ?_)
    refine aBool_eq ?_
    first
      | (rw [Clr.ofT, if_neg (by omega)])
      | (exact (ofT_yes ⟨by omega, by omega, by omega⟩ (fun j hj => hf j (by omega)) (fun j hj => hmv j (by omega))).symm)
      | (exact (ofT_cask (i := i) (by omega) (by simp_all [Clr.caskOk, Rng.has])).symm)
      | (exact (ofT_move (i := m) (by omega) (by simp_all [Clr.moveOk, Rng.has])).symm)
  ·
    try simp only [Int.toNat_natCast] at h1
    refine oq5 ?_
    refine oq2 ?_
    refine oq1 ?_
    refine oq5 ?_
    refine oq2 ?_
    refine oq1 ?_
    refine oq6 ?_
    refine oq1 ?_
    refine oq1 ?_
    refine run_splitN 25 rfl (fun h2 => ?_) (fun h2 => ?_)
    ·
      try simp only [Int.toNat_natCast] at h2
      refine osk ?_
      refine osk ?_
      refine osk ?_
      refine osk ?_
      refine osk ?_
      refine osk ?_
      refine osk ?_
      refine oq1 ?_
      refine run_nil ?_
      refine vc_cond rfl (fun _ => ?_) (fun h => Bool.noConfusion h)
      refine vc_seq ?_
      refine vc_region ?_
      refine oq1 ?_
      refine run_nil ?_
      refine vc_ret ?_
      refine ret_pure rfl trivial rfl (AVle.of_eq ?_)
      refine aBool_eq ?_
      first
        | (rw [Clr.ofT, if_neg (by omega)])
        | (exact (ofT_yes ⟨by omega, by omega, by omega⟩ (fun j hj => hf j (by omega)) (fun j hj => hmv j (by omega))).symm)
        | (exact (ofT_cask (i := i) (by omega) (by simp_all [Clr.caskOk, Rng.has])).symm)
        | (exact (ofT_move (i := m) (by omega) (by simp_all [Clr.moveOk, Rng.has])).symm)
    ·
      try simp only [Int.toNat_natCast] at h2
      refine oq5 ?_
      refine oq2 ?_
      refine oq1 ?_
      refine oq5 ?_
      refine oq2 ?_
      refine oq1 ?_
      refine oq6 ?_
      refine oq1 ?_
      refine run_nil ?_
      refine vc_condN rfl (fun h3 => ?_) (fun h3 => ?_)
      ·
        try simp only [Int.toNat_natCast] at h3
        refine vc_seq ?_
        refine vc_region ?_
        refine oq1 ?_
        refine run_nil ?_
        refine vc_ret ?_
        refine ret_pure rfl trivial rfl (AVle.of_eq ?_)
        refine aBool_eq ?_
        first
          | (rw [Clr.ofT, if_neg (by omega)])
          | (exact (ofT_yes ⟨by omega, by omega, by omega⟩ (fun j hj => hf j (by omega)) (fun j hj => hmv j (by omega))).symm)
          | (exact (ofT_cask (i := i) (by omega) (by simp_all [Clr.caskOk, Rng.has])).symm)
          | (exact (ofT_move (i := m) (by omega) (by simp_all [Clr.moveOk, Rng.has])).symm)
      ·
        try simp only [Int.toNat_natCast] at h3
        refine vc_skip ?_
        refine vc_seq ?_
        refine vc_seq ?_
        refine vc_region ?_
        refine oq5 ?_
        refine oq2 ?_
        refine oq1 ?_
        refine oq1 ?_
        refine run_nil ?_
        refine vc_block ?_
        refine vc_loop (κ := Nat) (fun i => i ≤ c.casks.length ∧ ∀ j, j < i → c.caskOk t j = true) (fun i => ⟨[(2, .s (.c (.ptr 0 0))), (3, .s (.c (.ptr 1 0))), (35, .s (.c (.f (csks c.casks)))), (36, aInt .i64 (c.casks.length : Int)), (37, aInt .i64 (i : Int))], [(0, some (.cells 41 [.f (csks c.casks), .f (movs c.moves), .f (ggs c.gauges)])), (1, some (.cells 72 [.f (ints t.start), .f (ints t.leak), .f (ints t.quantity)]))], fun _ => none, 2⟩) (fun i => c.casks.length - i) 0 ⟨Nat.zero_le _, by omega⟩ ?_ ?_
        ·
          exact ent_ren [] (.cons (.refl _) rfl (.cons (.refl _) rfl (.cons (.refl _) rfl (.cons (.refl _) rfl (.cons (.refl _) rfl (.nil)))))) (.cons rfl (.refl _) rfl rfl (.cons rfl (.refl _) rfl rfl (.nil))) rfl rfl (fun i hi => ⟨rfl, Nat.lt_of_lt_of_le hi (Nat.le_of_ble_eq_true rfl)⟩)
        rintro i ⟨hi, hf⟩
        refine vc_seq ?_
        refine vc_region ?_
        refine oq6 ?_
        refine run_nil ?_
        refine vc_seq ?_
        refine vc_condP rfl (fun h4 => ?_) (fun h4 => ?_)
        ·
          try simp only [Int.toNat_natCast] at h4
          refine vc_skip ?_
          refine vc_seq ?_
          refine vc_block ?_
          refine vc_seq ?_
          refine vc_region ?_
          refine oq1 ?_
          refine oq3 ?_
          refine oq2 ?_
          refine run_alloc rfl trivial rfl rfl rfl rfl (by intro _ _ h; cases h) ?_
          refine oq1 ?_
          refine Sx.run_store rfl trivial rfl rfl rfl rfl rfl rfl rfl ?_
          refine run_nil ?_
          refine vc_seq ?_
          refine vc_regionD rfl ?_
          refine oq5 ?_
          refine oq2 ?_
          refine oq5 ?_
          refine oq2 ?_
          refine oq1 ?_
          refine oq3 ?_
          refine oq2 ?_
          refine run_callP (has_c _ _) rfl rfl rfl trivial rfl rfl rfl rfl ?_
          refine oq1 ?_
          refine oq1 ?_
          refine run_split 51 rfl (fun h5 => ?_) (fun h5 => ?_)
          ·
            try simp only [Int.toNat_natCast] at h5
            refine osk ?_
            refine osk ?_
            refine osk ?_
            refine osk ?_
            refine osk ?_
            refine osk ?_
            refine osk ?_
            refine osk ?_
            refine osk ?_
            refine oq1 ?_
            refine run_nil ⟨rfl, ?_⟩
            refine vc_cond rfl (fun _ => ?_) (fun h => Bool.noConfusion h)
            refine vc_seq ?_
            refine vc_region ?_
            refine oq1 ?_
            refine run_nil ?_
            refine vc_ret ?_
            refine ret_pure rfl trivial rfl (AVle.of_eq ?_)
            refine aBool_eq ?_
            first
              | (rw [Clr.ofT, if_neg (by omega)])
              | (exact (ofT_yes ⟨by omega, by omega, by omega⟩ (fun j hj => hf j (by omega)) (fun j hj => hmv j (by omega))).symm)
              | (exact (ofT_cask (i := i) (by omega) (by simp_all [Clr.caskOk, Rng.has])).symm)
              | (exact (ofT_move (i := m) (by omega) (by simp_all [Clr.moveOk, Rng.has])).symm)
          ·
            try simp only [Int.toNat_natCast] at h5
            refine oq5 ?_
            refine oq2 ?_
            refine oq5 ?_
            refine oq2 ?_
            refine oq1 ?_
            refine oq3 ?_
            refine oq2 ?_
            refine run_callP (has_c _ _) rfl rfl rfl rfl rfl rfl rfl rfl ?_
            refine oq1 ?_
            refine oq1 ?_
            refine run_nil ⟨rfl, ?_⟩
            refine vc_cond rfl (fun h6 => ?_) (fun h6 => ?_)
            ·
              try simp only [Int.toNat_natCast] at h6
              refine vc_seq ?_
              refine vc_region ?_
              refine oq1 ?_
              refine run_nil ?_
              refine vc_ret ?_
              refine ret_pure rfl trivial rfl (AVle.of_eq ?_)
              refine aBool_eq ?_
              first
                | (rw [Clr.ofT, if_neg (by omega)])
                | (exact (ofT_yes ⟨by omega, by omega, by omega⟩ (fun j hj => hf j (by omega)) (fun j hj => hmv j (by omega))).symm)
                | (exact (ofT_cask (i := i) (by omega) (by simp_all [Clr.caskOk, Rng.has])).symm)
                | (exact (ofT_move (i := m) (by omega) (by simp_all [Clr.moveOk, Rng.has])).symm)
            ·
              try simp only [Int.toNat_natCast] at h6
              refine vc_skip ?_
              refine vc_region ?_
              refine oq4 ?_
              refine oq1 ?_
              refine run_nil ?_
              have hok : c.caskOk t i = true := by simp_all [Clr.caskOk, Rng.has]
              refine ⟨i + 1, ⟨by omega, upto_step hf hok⟩, by omega, ent_ren [] (.cons (.refl _) rfl (.cons (.refl _) rfl (.cons (.refl _) rfl (.cons (.refl _) rfl (.cons (.refl _) rfl (.nil)))))) (.cons rfl (.refl _) rfl rfl (.cons rfl (.refl _) rfl rfl (.nil))) rfl rfl (fun i hi => ⟨rfl, Nat.lt_of_lt_of_le hi (Nat.le_of_ble_eq_true rfl)⟩)⟩
        ·
          try simp only [Int.toNat_natCast] at h4
          refine vc_exit ?_
          refine vc_seq ?_
          refine vc_seq ?_
          refine vc_region ?_
          refine oq5 ?_
          refine oq2 ?_
          refine oq1 ?_
          refine oq1 ?_
          refine run_nil ?_
          refine vc_block ?_
          refine vc_loop (κ := Nat) (fun m => m ≤ c.moves.length ∧ ∀ j, j < m → c.moveOk t j = true) (fun m => ⟨[(3, .s (.c (.ptr 1 0))), (64, .s (.c (.f (movs c.moves)))), (65, aInt .i64 (c.moves.length : Int)), (66, aInt .i64 (m : Int))], [(1, some (.cells 72 [.f (ints t.start), .f (ints t.leak), .f (ints t.quantity)]))], fun _ => none, 2⟩) (fun m => c.moves.length - m) 0 ⟨Nat.zero_le _, by omega⟩ ?_ ?_
          ·
            exact ent_ren [] (.cons (.refl _) rfl (.cons (.refl _) rfl (.cons (.refl _) rfl (.cons (.refl _) rfl (.nil))))) (.cons rfl (.refl _) rfl rfl (.nil)) rfl rfl (fun i hi => ⟨rfl, Nat.lt_of_lt_of_le hi (Nat.le_of_ble_eq_true rfl)⟩)
          rintro m ⟨hm, hmv⟩
          refine vc_seq ?_
          refine vc_region ?_
          refine oq6 ?_
          refine run_nil ?_
          refine vc_seq ?_
          refine vc_condP rfl (fun h7 => ?_) (fun h7 => ?_)
          ·
            try simp only [Int.toNat_natCast] at h7
            refine vc_skip ?_
            refine vc_seq ?_
            refine vc_block ?_
            refine vc_seq ?_
            refine vc_region ?_
            refine oq1 ?_
            refine oq3 ?_
            refine oq2 ?_
            refine run_alloc rfl trivial rfl rfl rfl rfl (by intro _ _ h; cases h) ?_
            refine oq1 ?_
            refine Sx.run_store rfl trivial rfl rfl rfl rfl rfl rfl rfl ?_
            refine run_nil ?_
            refine vc_seq ?_
            refine vc_regionD rfl ?_
            refine oq5 ?_
            refine oq2 ?_
            refine oq5 ?_
            refine oq2 ?_
            refine oq1 ?_
            refine oq3 ?_
            refine oq2 ?_
            refine run_callP (has_c _ _) rfl rfl rfl trivial rfl rfl rfl rfl ?_
            refine oq1 ?_
            refine run_nil ⟨rfl, ?_⟩
            refine vc_cond rfl (fun h8 => ?_) (fun h8 => ?_)
            ·
              try simp only [Int.toNat_natCast] at h8
              refine vc_seq ?_
              refine vc_region ?_
              refine oq1 ?_
              refine run_nil ?_
              refine vc_ret ?_
              refine ret_pure rfl trivial rfl (AVle.of_eq ?_)
              refine aBool_eq ?_
              first
                | (rw [Clr.ofT, if_neg (by omega)])
                | (exact (ofT_yes ⟨by omega, by omega, by omega⟩ (fun j hj => hf j (by omega)) (fun j hj => hmv j (by omega))).symm)
                | (exact (ofT_cask (i := i) (by omega) (by simp_all [Clr.caskOk, Rng.has])).symm)
                | (exact (ofT_move (i := m) (by omega) (by simp_all [Clr.moveOk, Rng.has])).symm)
            ·
              try simp only [Int.toNat_natCast] at h8
              refine vc_skip ?_
              refine vc_region ?_
              refine oq4 ?_
              refine oq1 ?_
              refine run_nil ?_
              have hok : c.moveOk t m = true := by simp_all [Clr.moveOk, Rng.has]
              refine ⟨m + 1, ⟨by omega, upto_step hmv hok⟩, by omega, ent_ren [] (.cons (.refl _) rfl (.cons (.refl _) rfl (.cons (.refl _) rfl (.cons (.refl _) rfl (.nil))))) (.cons rfl (.refl _) rfl rfl (.nil)) rfl rfl (fun i hi => ⟨rfl, Nat.lt_of_lt_of_le hi (Nat.le_of_ble_eq_true rfl)⟩)⟩
          ·
            try simp only [Int.toNat_natCast] at h7
            refine vc_exit ?_
            refine vc_seq ?_
            refine vc_region ?_
            refine oq1 ?_
            refine run_nil ?_
            refine vc_ret ?_
            refine ret_pure rfl trivial rfl (AVle.of_eq ?_)
            refine aBool_eq ?_
            first
              | (rw [Clr.ofT, if_neg (by omega)])
              | (exact (ofT_yes ⟨by omega, by omega, by omega⟩ (fun j hj => hf j (by omega)) (fun j hj => hmv j (by omega))).symm)
              | (exact (ofT_cask (i := i) (by omega) (by simp_all [Clr.caskOk, Rng.has])).symm)
              | (exact (ofT_move (i := m) (by omega) (by simp_all [Clr.moveOk, Rng.has])).symm)

theorem Of30_c (c : Clr) (t : Tru) : CallC Try.prog 30 0 (lkF [] fun _ => none) [aClr c, aTru t] 0 (lkF [] fun _ => none) (aBool (c.ofT t)) := by
  refine callC_intro tabOk mixed Try.func30 rfl rfl rfl rfl ?_
  intro w0 e0 Z0 X hX n
  refine vc_fact 0 clr_len fun hlen => ?_
  refine vc_fact 1 tru_len fun hlen1 => ?_
  refine vc_seq ?_
  refine vc_region ?_
  refine run_box rfl trivial rfl rfl rfl rfl rfl rfl (by intro _ _ h; cases h) ?_
  refine run_box rfl trivial rfl rfl rfl rfl rfl rfl (by intro _ _ h; cases h) ?_
  refine oq1 ?_
  refine run_nil ?_
  refine vc_seq ?_
  refine vc_seq ?_
  refine vc_region ?_
  refine oq5 ?_
  refine oq2 ?_
  refine oq1 ?_
  refine oq5 ?_
  refine oq2 ?_
  refine oq1 ?_
  refine oq6 ?_
  refine oq1 ?_
  refine run_splitN 16 rfl (fun h1 => ?_) (fun h1 => ?_)
  ·
    try simp only [Int.toNat_natCast] at h1
    refine osk ?_
    refine osk ?_
    refine osk ?_
    refine osk ?_
    refine osk ?_
    refine osk ?_
    refine osk ?_
    refine oq1 ?_
    refine oq1 ?_
    refine osk ?_
    refine osk ?_
    refine osk ?_
    refine osk ?_
    refine osk ?_
    refine osk ?_
    refine osk ?_
    refine oq1 ?_
    refine run_nil ?_
    refine vc_cond rfl (fun _ => ?_) (fun h => Bool.noConfusion h)
    refine vc_seq ?_
    refine vc_region ?_
    refine oq1 ?_
    refine run_nil ?_
    refine vc_ret ?_
    refine ret_pure rfl trivial rfl (AVle.of_eq ?_)
    refine aBool_eq ?_
    first
      | (rw [Clr.ofT, if_neg (by omega)])
      | (exact (ofT_yes ⟨by omega, by omega, by omega⟩ (fun j hj => hf j (by omega)) (fun j hj => hmv j (by omega))).symm)
      | (exact (ofT_cask (i := i) (by omega) (by simp_all [Clr.caskOk, Rng.has])).symm)
      | (exact (ofT_move (i := m) (by omega) (by simp_all [Clr.moveOk, Rng.has])).symm)
  ·
    try simp only [Int.toNat_natCast] at h1
    refine oq5 ?_
    refine oq2 ?_
    refine oq1 ?_
    refine oq5 ?_
    refine oq2 ?_
    refine oq1 ?_
    refine oq6 ?_
    refine oq1 ?_
    refine oq1 ?_
    refine run_splitN 25 rfl (fun h2 => ?_) (fun h2 => ?_)
    ·
      try simp only [Int.toNat_natCast] at h2
      refine osk ?_
      refine osk ?_
      refine osk ?_
      refine osk ?_
      refine osk ?_
      refine osk ?_
      refine osk ?_
      refine oq1 ?_
      refine run_nil ?_
      refine vc_cond rfl (fun _ => ?_) (fun h => Bool.noConfusion h)
      refine vc_seq ?_
      refine vc_region ?_
      refine oq1 ?_
      refine run_nil ?_
      refine vc_ret ?_
      refine ret_pure rfl trivial rfl (AVle.of_eq ?_)
      refine aBool_eq ?_
      first
        | (rw [Clr.ofT, if_neg (by omega)])
        | (exact (ofT_yes ⟨by omega, by omega, by omega⟩ (fun j hj => hf j (by omega)) (fun j hj => hmv j (by omega))).symm)
        | (exact (ofT_cask (i := i) (by omega) (by simp_all [Clr.caskOk, Rng.has])).symm)
        | (exact (ofT_move (i := m) (by omega) (by simp_all [Clr.moveOk, Rng.has])).symm)
    ·
      try simp only [Int.toNat_natCast] at h2
      refine oq5 ?_
      refine oq2 ?_
      refine oq1 ?_
      refine oq5 ?_
      refine oq2 ?_
      refine oq1 ?_
      refine oq6 ?_
      refine oq1 ?_
      refine run_nil ?_
      refine vc_condN rfl (fun h3 => ?_) (fun h3 => ?_)
      ·
        try simp only [Int.toNat_natCast] at h3
        refine vc_seq ?_
        refine vc_region ?_
        refine oq1 ?_
        refine run_nil ?_
        refine vc_ret ?_
        refine ret_pure rfl trivial rfl (AVle.of_eq ?_)
        refine aBool_eq ?_
        first
          | (rw [Clr.ofT, if_neg (by omega)])
          | (exact (ofT_yes ⟨by omega, by omega, by omega⟩ (fun j hj => hf j (by omega)) (fun j hj => hmv j (by omega))).symm)
          | (exact (ofT_cask (i := i) (by omega) (by simp_all [Clr.caskOk, Rng.has])).symm)
          | (exact (ofT_move (i := m) (by omega) (by simp_all [Clr.moveOk, Rng.has])).symm)
      ·
        try simp only [Int.toNat_natCast] at h3
        refine vc_skip ?_
        refine vc_seq ?_
        refine vc_seq ?_
        refine vc_region ?_
        refine oq1 ?_
        refine run_nil ?_
        refine vc_block ?_
        refine vc_loop (κ := Nat) (fun i => i ≤ c.casks.length ∧ ∀ j, j < i → c.caskOk t j = true) (fun i => ⟨[(2, .s (.c (.ptr 0 0))), (3, .s (.c (.ptr 1 0))), (5, aInt .i64 (i : Int))], [(0, some (.cells 26 [.f (csks c.casks), .f (movs c.moves), .f (ggs c.gauges)])), (1, some (.cells 67 [.f (ints t.start), .f (ints t.leak), .f (ints t.quantity)]))], fun _ => none, 2⟩) (fun i => c.casks.length - i) 0 ⟨Nat.zero_le _, by omega⟩ ?_ ?_
        ·
          exact ent_ren [] (.cons (.refl _) rfl (.cons (.refl _) rfl (.cons (.refl _) rfl (.nil)))) (.cons rfl (.refl _) rfl rfl (.cons rfl (.refl _) rfl rfl (.nil))) rfl rfl (fun i hi => ⟨rfl, Nat.lt_of_lt_of_le hi (Nat.le_of_ble_eq_true rfl)⟩)
        rintro i ⟨hi, hf⟩
        refine vc_seq ?_
        refine vc_seq ?_
        refine vc_region ?_
        refine oq1 ?_
        refine oq5 ?_
        refine oq2 ?_
        refine oq1 ?_
        refine oq6 ?_
        refine run_nil ?_
        refine vc_condP rfl (fun h4 => ?_) (fun h4 => ?_)
        ·
          try simp only [Int.toNat_natCast] at h4
          refine vc_skip ?_
          refine vc_seq ?_
          refine vc_block ?_
          refine vc_seq ?_
          refine vc_region ?_
          refine oq5 ?_
          refine oq2 ?_
          refine oq1 ?_
          refine oq3 ?_
          refine oq2 ?_
          refine run_alloc rfl trivial rfl rfl rfl rfl (by intro _ _ h; cases h) ?_
          refine Sx.run_store rfl trivial rfl rfl rfl rfl rfl rfl rfl ?_
          refine run_nil ?_
          refine vc_seq ?_
          refine vc_regionD rfl ?_
          refine oq5 ?_
          refine oq2 ?_
          refine oq1 ?_
          refine oq3 ?_
          refine oq2 ?_
          refine oq5 ?_
          refine oq5 ?_
          refine oq2 ?_
          refine oq5 ?_
          refine oq5 ?_
          refine oq2 ?_
          refine run_callP (In_c _ _ _) rfl rfl rfl trivial rfl rfl rfl rfl ?_
          refine oq1 ?_
          refine oq1 ?_
          refine run_split 59 rfl (fun h5 => ?_) (fun h5 => ?_)
          ·
            try simp only [Int.toNat_natCast] at h5
            refine osk ?_
            refine osk ?_
            refine osk ?_
            refine osk ?_
            refine osk ?_
            refine osk ?_
            refine osk ?_
            refine osk ?_
            refine osk ?_
            refine osk ?_
            refine osk ?_
            refine osk ?_
            refine osk ?_
            refine oq1 ?_
            refine run_nil ⟨rfl, ?_⟩
            refine vc_cond rfl (fun _ => ?_) (fun h => Bool.noConfusion h)
            refine vc_seq ?_
            refine vc_region ?_
            refine oq1 ?_
            refine run_nil ?_
            refine vc_ret ?_
            refine ret_pure rfl trivial rfl (AVle.of_eq ?_)
            refine aBool_eq ?_
            first
              | (rw [Clr.ofT, if_neg (by omega)])
              | (exact (ofT_yes ⟨by omega, by omega, by omega⟩ (fun j hj => hf j (by omega)) (fun j hj => hmv j (by omega))).symm)
              | (exact (ofT_cask (i := i) (by omega) (by simp_all [Clr.caskOk, Rng.has])).symm)
              | (exact (ofT_move (i := m) (by omega) (by simp_all [Clr.moveOk, Rng.has])).symm)
          ·
            try simp only [Int.toNat_natCast] at h5
            refine oq5 ?_
            refine oq2 ?_
            refine oq1 ?_
            refine oq3 ?_
            refine oq2 ?_
            refine oq5 ?_
            refine oq5 ?_
            refine oq2 ?_
            refine oq5 ?_
            refine oq5 ?_
            refine oq2 ?_
            refine run_callP (In_c _ _ _) rfl rfl rfl rfl rfl rfl rfl rfl ?_
            refine oq1 ?_
            refine oq1 ?_
            refine run_nil ⟨rfl, ?_⟩
            refine vc_cond rfl (fun h6 => ?_) (fun h6 => ?_)
            ·
              try simp only [Int.toNat_natCast] at h6
              refine vc_seq ?_
              refine vc_region ?_
              refine oq1 ?_
              refine run_nil ?_
              refine vc_ret ?_
              refine ret_pure rfl trivial rfl (AVle.of_eq ?_)
              refine aBool_eq ?_
              first
                | (rw [Clr.ofT, if_neg (by omega)])
                | (exact (ofT_yes ⟨by omega, by omega, by omega⟩ (fun j hj => hf j (by omega)) (fun j hj => hmv j (by omega))).symm)
                | (exact (ofT_cask (i := i) (by omega) (by simp_all [Clr.caskOk, Rng.has])).symm)
                | (exact (ofT_move (i := m) (by omega) (by simp_all [Clr.moveOk, Rng.has])).symm)
            ·
              try simp only [Int.toNat_natCast] at h6
              refine vc_skip ?_
              refine vc_region ?_
              refine oq1 ?_
              refine oq4 ?_
              refine oq1 ?_
              refine run_nil ?_
              have hok : c.caskOk t i = true := by simp_all [Clr.caskOk, Rng.has]
              refine ⟨i + 1, ⟨by omega, upto_step hf hok⟩, by omega, ent_ren [] (.cons (.refl _) rfl (.cons (.refl _) rfl (.cons (.refl _) rfl (.nil)))) (.cons rfl (.refl _) rfl rfl (.cons rfl (.refl _) rfl rfl (.nil))) rfl rfl (fun i hi => ⟨rfl, Nat.lt_of_lt_of_le hi (Nat.le_of_ble_eq_true rfl)⟩)⟩
        ·
          try simp only [Int.toNat_natCast] at h4
          refine vc_exit ?_
          refine vc_seq ?_
          refine vc_seq ?_
          refine vc_region ?_
          refine oq1 ?_
          refine run_nil ?_
          refine vc_block ?_
          refine vc_loop (κ := Nat) (fun m => m ≤ c.moves.length ∧ ∀ j, j < m → c.moveOk t j = true) (fun m => ⟨[(2, .s (.c (.ptr 0 0))), (3, .s (.c (.ptr 1 0))), (7, aInt .i64 (m : Int))], [(0, some (.cells 26 [.f (csks c.casks), .f (movs c.moves), .f (ggs c.gauges)])), (1, some (.cells 67 [.f (ints t.start), .f (ints t.leak), .f (ints t.quantity)]))], fun _ => none, 2⟩) (fun m => c.moves.length - m) 0 ⟨Nat.zero_le _, by omega⟩ ?_ ?_
          ·
            exact ent_ren [] (.cons (.refl _) rfl (.cons (.refl _) rfl (.cons (.refl _) rfl (.nil)))) (.cons rfl (.refl _) rfl rfl (.cons rfl (.refl _) rfl rfl (.nil))) rfl rfl (fun i hi => ⟨rfl, Nat.lt_of_lt_of_le hi (Nat.le_of_ble_eq_true rfl)⟩)
          rintro m ⟨hm, hmv⟩
          refine vc_seq ?_
          refine vc_seq ?_
          refine vc_region ?_
          refine oq1 ?_
          refine oq5 ?_
          refine oq2 ?_
          refine oq1 ?_
          refine oq6 ?_
          refine run_nil ?_
          refine vc_condP rfl (fun h7 => ?_) (fun h7 => ?_)
          ·
            try simp only [Int.toNat_natCast] at h7
            refine vc_skip ?_
            refine vc_seq ?_
            refine vc_block ?_
            refine vc_seq ?_
            refine vc_region ?_
            refine oq5 ?_
            refine oq2 ?_
            refine oq1 ?_
            refine oq3 ?_
            refine oq5 ?_
            refine oq2 ?_
            refine run_alloc rfl trivial rfl rfl rfl rfl (by intro _ _ h; cases h) ?_
            refine Sx.run_store rfl trivial rfl rfl rfl rfl rfl rfl rfl ?_
            refine run_nil ?_
            refine vc_seq ?_
            refine vc_regionD rfl ?_
            refine oq5 ?_
            refine oq2 ?_
            refine oq1 ?_
            refine oq3 ?_
            refine oq2 ?_
            refine oq5 ?_
            refine oq2 ?_
            refine oq5 ?_
            refine oq2 ?_
            refine run_callP (In_c _ _ _) rfl rfl rfl trivial rfl rfl rfl rfl ?_
            refine oq1 ?_
            refine run_nil ⟨rfl, ?_⟩
            refine vc_cond rfl (fun h8 => ?_) (fun h8 => ?_)
            ·
              try simp only [Int.toNat_natCast] at h8
              refine vc_seq ?_
              refine vc_region ?_
              refine oq1 ?_
              refine run_nil ?_
              refine vc_ret ?_
              refine ret_pure rfl trivial rfl (AVle.of_eq ?_)
              refine aBool_eq ?_
              first
                | (rw [Clr.ofT, if_neg (by omega)])
                | (exact (ofT_yes ⟨by omega, by omega, by omega⟩ (fun j hj => hf j (by omega)) (fun j hj => hmv j (by omega))).symm)
                | (exact (ofT_cask (i := i) (by omega) (by simp_all [Clr.caskOk, Rng.has])).symm)
                | (exact (ofT_move (i := m) (by omega) (by simp_all [Clr.moveOk, Rng.has])).symm)
            ·
              try simp only [Int.toNat_natCast] at h8
              refine vc_skip ?_
              refine vc_region ?_
              refine oq1 ?_
              refine oq4 ?_
              refine oq1 ?_
              refine run_nil ?_
              have hok : c.moveOk t m = true := by simp_all [Clr.moveOk, Rng.has]
              refine ⟨m + 1, ⟨by omega, upto_step hmv hok⟩, by omega, ent_ren [] (.cons (.refl _) rfl (.cons (.refl _) rfl (.cons (.refl _) rfl (.nil)))) (.cons rfl (.refl _) rfl rfl (.cons rfl (.refl _) rfl rfl (.nil))) rfl rfl (fun i hi => ⟨rfl, Nat.lt_of_lt_of_le hi (Nat.le_of_ble_eq_true rfl)⟩)⟩
          ·
            try simp only [Int.toNat_natCast] at h7
            refine vc_exit ?_
            refine vc_seq ?_
            refine vc_region ?_
            refine oq1 ?_
            refine run_nil ?_
            refine vc_ret ?_
            refine ret_pure rfl trivial rfl (AVle.of_eq ?_)
            refine aBool_eq ?_
            first
              | (rw [Clr.ofT, if_neg (by omega)])
              | (exact (ofT_yes ⟨by omega, by omega, by omega⟩ (fun j hj => hf j (by omega)) (fun j hj => hmv j (by omega))).symm)
              | (exact (ofT_cask (i := i) (by omega) (by simp_all [Clr.caskOk, Rng.has])).symm)
              | (exact (ofT_move (i := m) (by omega) (by simp_all [Clr.moveOk, Rng.has])).symm)

end Go.Proofs.Ytnkgdapdccpjmaa

/- What a cask gains. -/
namespace Go.Proofs.Ytnkgdapdccpjmaa
open Go Go.RowKit Go.Sx

def Mov.d (m : Mov) (cask q : Int) : Int := if cask = m.dst then q else if cask = m.src then -q else 0
/-- What a cask has gained behind so many moves. -/
def Clr.gain (c : Clr) (cask leak : Int) (q : List Int) : Nat → Int
  | 0 => 0
  | i + 1 => c.gain cask leak q i - leak + (c.moves.getD i default).d cask (q.getD i 0)
theorem gain_bounds {c : Clr} {cask leak : Int} {q : List Int} (h0 : 0 ≤ leak) (h1 : leak ≤ 4) (hq : ∀ j, 0 ≤ q.getD j 0 ∧ q.getD j 0 ≤ 1000) : ∀ i : Nat, -(1004 * (i : Int)) ≤ c.gain cask leak q i ∧ c.gain cask leak q i ≤ 1000 * (i : Int)
  | 0 => by simp [Clr.gain]
  | i + 1 => by
    have h := gain_bounds (c := c) (cask := cask) h0 h1 hq i
    have h2 := hq i
    rw [Clr.gain, Mov.d]
    split
    · omega
    · split <;> omega
abbrev aQ (q : List Int) : AV := .s (.agg [.f (i64 (q.getD 0 0)), .f (i64 (q.getD 1 0)), .f (i64 (q.getD 2 0)), .f (i64 (q.getD 3 0))])
abbrev arrQ (q : List Int) : Blk := .arr 133 1 4 fun i _ => i64 (q.getD i 0)
theorem arrQ_le {q : List Int} {f : Nat → Nat → FV} (h0 : f 0 0 = i64 (q.getD 0 0)) (h1 : f 1 0 = i64 (q.getD 1 0)) (h2 : f 2 0 = i64 (q.getD 2 0)) (h3 : f 3 0 = i64 (q.getD 3 0)) : BlkLe (.arr 133 1 4 f) (arrQ q) :=
  .arr fun i j hi hj => by
    obtain rfl : j = 0 := by omega
    match i, hi with
    | 0, _ => exact .of_eq h0
    | 1, _ => exact .of_eq h1
    | 2, _ => exact .of_eq h2
    | 3, _ => exact .of_eq h3
theorem rowF_snoc {ty n : Nat} {f : Nat → Int} {h : Nat → Nat → FV} (hx : FVle (h 0 0) (i64 (f n))) : BlkLe (.row ty 1 (n + 1) (appF n (fun t _ => i64 (f t)) h)) (.row ty 1 (n + 1) fun t _ => i64 (f t)) :=
  .row rfl fun t j ht hj => by
    obtain rfl : j = 0 := by omega
    by_cases h1 : t < n
    · simp only [appF, h1, if_true]; exact .refl _
    · obtain rfl : t = n := by omega
      simp only [appF, h1, if_false, Nat.sub_self]; exact hx
abbrev rowGain (c : Clr) (cask leak : Int) (q : List Int) (n : Nat) : Blk := .row 3 1 n fun t _ => i64 (c.gain cask leak q t)

theorem gains_c (c : Clr) (cask leak : Int) (q : List Int) (hm : c.moves.length ≤ 4) (h0 : 0 ≤ leak) (h1 : leak ≤ 4) (hq : ∀ j, 0 ≤ q.getD j 0 ∧ q.getD j 0 ≤ 1000) : CallC Try.prog 68 0 (lkF [] fun _ => none) [aClr c, aInt .i64 cask, aInt .i64 leak, aQ q] 1 (lkF [(0, some (rowGain c cask leak q (c.moves.length + 1)))] fun _ => none) (.s (.c (.own 0))) := by
  refine callC_intro tabOk mixed Try.func68 rfl rfl rfl rfl ?_
  intro w0 e0 Z0 X hX n
  refine vc_seq ?_
  refine vc_region ?_
  refine run_box rfl trivial rfl rfl rfl rfl rfl rfl (by intro _ _ h; cases h <;> (intro _; rfl)) ?_
  refine run_box rfl trivial rfl rfl rfl rfl rfl rfl (by intro _ _ h; cases h <;> (intro _; rfl)) ?_
  refine oq1 ?_
  refine run_nil ?_
  refine vc_seq ?_
  refine vc_region ?_
  refine run_buildOwn rfl trivial rfl rfl rfl rfl rfl rfl rfl rfl rfl ?_
  refine oq1 ?_
  refine run_nil ?_
  refine vc_seq ?_
  refine vc_seq ?_
  refine vc_region ?_
  refine oq5 ?_
  refine oq2 ?_
  refine oq1 ?_
  refine oq1 ?_
  refine run_nil ?_
  refine vc_block ?_
  refine vc_loop (κ := Nat) (fun i => i ≤ c.moves.length) (fun i => ⟨[(1, aInt .i64 cask), (2, aInt .i64 leak), (7, .s (.c (.ptr 1 0))), (9, .s (.c (.own 2))), (15, .s (.c (.f (movs c.moves)))), (16, aInt .i64 (c.moves.length : Int)), (17, aInt .i64 (i : Int))], [(1, some (arrQ q)), (2, some (rowGain c cask leak q (i + 1)))], fun _ => none, 3⟩) (fun i => c.moves.length - i) 0 (Nat.zero_le _) ?_ ?_
  ·
    exact ent_ren [] (.cons (.refl _) rfl (.cons (.refl _) rfl (.cons (.refl _) rfl (.cons (.refl _) rfl (.cons (.refl _) rfl (.cons (.refl _) rfl (.cons (.refl _) rfl (.nil)))))))) (.cons rfl (arrQ_le rfl rfl rfl rfl) rfl rfl (.cons rfl (.row rfl fun t j ht hj => (by obtain rfl : t = 0 := (by omega); obtain rfl : j = 0 := Nat.lt_one_iff.1 hj; exact .refl _)) rfl rfl (.nil))) rfl rfl (fun i hi => absurd hi (Nat.not_lt_zero i))
  rintro i hi
  have hb := gain_bounds (c := c) (cask := cask) h0 h1 hq i
  have hqi := hq i
  refine vc_seq ?_
  refine vc_region ?_
  refine oq6 ?_
  refine run_nil ?_
  refine vc_seq ?_
  refine vc_condP rfl (fun h1 => ?_) (fun h1 => ?_)
  ·
    try simp only [Int.toNat_natCast] at h1
    refine vc_skip ?_
    refine vc_seq ?_
    refine vc_block ?_
    refine vc_seq ?_
    refine vc_region ?_
    refine oq1 ?_
    refine oq3 ?_
    refine oq2 ?_
    refine run_alloc rfl trivial rfl rfl rfl rfl (by intro _ _ h; cases h <;> (intro _; rfl)) ?_
    refine oq1 ?_
    refine Sx.run_store rfl trivial rfl rfl rfl rfl rfl rfl rfl ?_
    refine run_nil ?_
    refine vc_seq ?_
    refine vc_region ?_
    refine oq1 ?_
    refine oq1 ?_
    refine oq3 ?_
    refine oq2 ?_
    refine oq1 ?_
    refine oq4 ?_
    refine oq1 ?_
    refine run_nil ?_
    refine vc_seq ?_
    refine vc_seq ?_
    refine vc_region ?_
    refine oq1 ?_
    refine run_nil ?_
    refine vc_block ?_
    refine vc_seq ?_
    refine vc_region ?_
    refine oq5 ?_
    refine oq2 ?_
    refine oq6 ?_
    refine oq1 ?_
    refine run_nil ?_
    refine vc_condP rfl (fun h2 => ?_) (fun h2 => ?_)
    ·
      try simp only [Int.toNat_natCast] at h2
      refine vc_region ?_
      refine oq1 ?_
      refine oq1 ?_
      refine oq3 ?_
      refine oq2 ?_
      refine oq4 ?_
      refine oq1 ?_
      refine run_nil ?_
      refine vc_region ?_
      refine oq1 ?_
      refine oq1 ?_
      refine run_buildSlice rfl trivial rfl rfl rfl rfl rfl rfl rfl rfl rfl ?_
      refine run_append rfl rfl rfl rfl trivial rfl rfl rfl rfl rfl rfl rfl rfl rfl rfl rfl (by first | omega | exact app_room (by omega) rfl) ?_
      refine oq1 ?_
      refine run_nil ?_
      refine vc_region ?_
      refine oq4 ?_
      refine oq1 ?_
      refine run_nil ?_
      refine ⟨i + 1, by omega, by omega, ent_ren [(2, 4)] (.cons (.refl _) rfl (.cons (.refl _) rfl (.cons (.refl _) rfl (.cons (.refl _) rfl (.cons (.refl _) rfl (.cons (.refl _) rfl (.cons (.refl _) rfl (.nil)))))))) (.cons rfl (.refl _) rfl rfl (.cons rfl (rowF_snoc (f := c.gain cask leak q) (.of_eq (congrArg (FV.int .i64) (by simp only [Int.toNat_natCast]; rw [Clr.gain, Mov.d]; first | (rw [if_pos (by assumption)]; done) | (rw [if_neg (by assumption), if_pos (by assumption)]; omega) | (rw [if_neg (by assumption), if_neg (by assumption)]; omega))))) rfl rfl (.nil))) rfl rfl (fun i hi => absurd hi (Nat.not_lt_zero i))⟩
    ·
      try simp only [Int.toNat_natCast] at h2
      refine vc_seq ?_
      refine vc_region ?_
      refine oq5 ?_
      refine oq2 ?_
      refine oq6 ?_
      refine oq1 ?_
      refine run_nil ?_
      refine vc_condP rfl (fun h3 => ?_) (fun h3 => ?_)
      ·
        try simp only [Int.toNat_natCast] at h3
        refine vc_region ?_
        refine oq1 ?_
        refine oq1 ?_
        refine oq3 ?_
        refine oq2 ?_
        refine oq4 ?_
        refine oq1 ?_
        refine run_nil ?_
        refine vc_region ?_
        refine oq1 ?_
        refine oq1 ?_
        refine run_buildSlice rfl trivial rfl rfl rfl rfl rfl rfl rfl rfl rfl ?_
        refine run_append rfl rfl rfl rfl trivial rfl rfl rfl rfl rfl rfl rfl rfl rfl rfl rfl (by first | omega | exact app_room (by omega) rfl) ?_
        refine oq1 ?_
        refine run_nil ?_
        refine vc_region ?_
        refine oq4 ?_
        refine oq1 ?_
        refine run_nil ?_
        refine ⟨i + 1, by omega, by omega, ent_ren [(2, 4)] (.cons (.refl _) rfl (.cons (.refl _) rfl (.cons (.refl _) rfl (.cons (.refl _) rfl (.cons (.refl _) rfl (.cons (.refl _) rfl (.cons (.refl _) rfl (.nil)))))))) (.cons rfl (.refl _) rfl rfl (.cons rfl (rowF_snoc (f := c.gain cask leak q) (.of_eq (congrArg (FV.int .i64) (by simp only [Int.toNat_natCast]; rw [Clr.gain, Mov.d]; first | (rw [if_pos (by assumption)]; done) | (rw [if_neg (by assumption), if_pos (by assumption)]; omega) | (rw [if_neg (by assumption), if_neg (by assumption)]; omega))))) rfl rfl (.nil))) rfl rfl (fun i hi => absurd hi (Nat.not_lt_zero i))⟩
      ·
        try simp only [Int.toNat_natCast] at h3
        refine vc_skip ?_
        refine vc_region ?_
        refine oq1 ?_
        refine oq1 ?_
        refine run_buildSlice rfl trivial rfl rfl rfl rfl rfl rfl rfl rfl rfl ?_
        refine run_append rfl rfl rfl rfl trivial rfl rfl rfl rfl rfl rfl rfl rfl rfl rfl rfl (by first | omega | exact app_room (by omega) rfl) ?_
        refine oq1 ?_
        refine run_nil ?_
        refine vc_region ?_
        refine oq4 ?_
        refine oq1 ?_
        refine run_nil ?_
        refine ⟨i + 1, by omega, by omega, ent_ren [(2, 4)] (.cons (.refl _) rfl (.cons (.refl _) rfl (.cons (.refl _) rfl (.cons (.refl _) rfl (.cons (.refl _) rfl (.cons (.refl _) rfl (.cons (.refl _) rfl (.nil)))))))) (.cons rfl (.refl _) rfl rfl (.cons rfl (rowF_snoc (f := c.gain cask leak q) (.of_eq (congrArg (FV.int .i64) (by simp only [Int.toNat_natCast]; rw [Clr.gain, Mov.d]; first | (rw [if_pos (by assumption)]; done) | (rw [if_neg (by assumption), if_pos (by assumption)]; omega) | (rw [if_neg (by assumption), if_neg (by assumption)]; omega))))) rfl rfl (.nil))) rfl rfl (fun i hi => absurd hi (Nat.not_lt_zero i))⟩
  ·
    try simp only [Int.toNat_natCast] at h1
    refine vc_exit ?_
    refine vc_seq ?_
    refine vc_region ?_
    refine oq1 ?_
    refine oq1 ?_
    refine run_nil ?_
    refine vc_ret ?_
    obtain rfl : i = c.moves.length := by omega
    exact ⟨[(0, 2)], _, _, rfl, trivial, AVle.refl _, rfl, .cons rfl (.refl _) rfl rfl .nil, rfl, fun i hi => absurd hi (Nat.not_lt_zero i)⟩

end Go.Proofs.Ytnkgdapdccpjmaa

/- Run of the reference. -/
namespace Go.Proofs.Ytnkgdapdccpjmaa
open Go Go.RowKit Go.Sx

theorem ofT_elim {c : Clr} {t : Tru} (h : c.ofT t = true) : (t.start.length = c.casks.length ∧ t.leak.length = c.casks.length ∧ t.quantity.length = c.moves.length) ∧ (∀ j, j < c.casks.length → c.caskOk t j = true) ∧ ∀ j, j < c.moves.length → c.moveOk t j = true := by
  rw [Clr.ofT] at h
  split at h
  · rename_i hl
    simp only [Bool.and_eq_true, List.all_eq_true, List.mem_range] at h
    exact ⟨hl, h⟩
  · cases h
theorem getD_out {l : List Int} {i : Nat} (h : l.length ≤ i) : l.getD i 0 = 0 := by simp [List.getD, List.getElem?_eq_none h]
theorem tru_q {c : Clr} {t : Tru} (hG : c.Good) (h : c.ofT t = true) : ∀ j, 0 ≤ t.quantity.getD j 0 ∧ t.quantity.getD j 0 ≤ 1000 := fun j => by
  obtain ⟨hl, _, h2⟩ := ofT_elim h
  rcases Nat.lt_or_ge j c.moves.length with hj | hj
  · have h3 := h2 j hj
    have h4 := (hG.move _ (getD_mem (d := default) hj)).2.2.2.1
    simp only [Clr.moveOk, Rng.has, within, Bool.and_eq_true, decide_eq_true_eq] at h3
    omega
  · rw [getD_out (by omega)]; omega
theorem tru_l {c : Clr} {t : Tru} (hG : c.Good) (h : c.ofT t = true) : ∀ j, 0 ≤ t.leak.getD j 0 ∧ t.leak.getD j 0 ≤ 4 := fun j => by
  obtain ⟨hl, h1, _⟩ := ofT_elim h
  rcases Nat.lt_or_ge j c.casks.length with hj | hj
  · have h3 := h1 j hj
    have h4 := (hG.cask _ (getD_mem (d := default) hj)).leak
    simp only [Clr.caskOk, Rng.has, within, Bool.and_eq_true, decide_eq_true_eq] at h3
    omega
  · rw [getD_out (by omega)]; omega
theorem tru_s {c : Clr} {t : Tru} (hG : c.Good) (h : c.ofT t = true) : ∀ j, 0 ≤ t.start.getD j 0 ∧ t.start.getD j 0 ≤ 1000 := fun j => by
  obtain ⟨hl, h1, _⟩ := ofT_elim h
  rcases Nat.lt_or_ge j c.casks.length with hj | hj
  · have h3 := h1 j hj
    have h4 := hG.cask _ (getD_mem (d := default) hj)
    have h5 := h4.start
    have h6 := h4.marks.top
    simp only [Clr.caskOk, Rng.has, within, Bool.and_eq_true, decide_eq_true_eq] at h3
    omega
  · rw [getD_out (by omega)]; omega
/-- What is in a cask behind so many moves. -/
def Clr.cont (c : Clr) (t : Tru) (i m : Nat) : Int := t.start.getD i 0 + c.gain (i : Int) (t.leak.getD i 0) t.quantity m
theorem cont_bounds {c : Clr} {t : Tru} (hG : c.Good) (h : c.ofT t = true) (i m : Nat) (hm : m ≤ 4) : -4016 ≤ c.cont t i m ∧ c.cont t i m ≤ 5000 := by
  have h1 := tru_s hG h i
  have h2 := tru_l hG h i
  have h3 := gain_bounds (c := c) (cask := (i : Int)) h2.1 h2.2 (tru_q hG h) m
  rw [Clr.cont]; omega
def Clr.inCask (c : Clr) (t : Tru) (i m : Nat) : Bool := within (c.cont t i (m + 1)) 0 (c.casks.getD i default).top.content
def Clr.rowOk (c : Clr) (t : Tru) (i m : Nat) : Bool := (List.range m).all fun k => c.inCask t i k
def Clr.rightTo (c : Clr) (t : Tru) (i : Nat) : Bool := (List.range i).all fun k => c.rowOk t k c.moves.length
theorem rowOk_succ (c : Clr) (t : Tru) (i m : Nat) : c.rowOk t i (m + 1) = (c.rowOk t i m && c.inCask t i m) := by simp [Clr.rowOk, List.range_succ]
theorem rightTo_succ (c : Clr) (t : Tru) (i : Nat) : c.rightTo t (i + 1) = (c.rightTo t i && c.rowOk t i c.moves.length) := by simp [Clr.rightTo, List.range_succ]
/-- The contents of a cask behind 0, 1, .. moves. -/
def Clr.rowT (c : Clr) (t : Tru) (i : Nat) : List Int := (List.range (c.moves.length + 1)).map (c.cont t i)
def Clr.runs (c : Clr) (t : Tru) : List (List Int) := (List.range c.casks.length).map (c.rowT t)
theorem getD_map_range {α : Type} {f : Nat → α} {n i : Nat} {d : α} (h : i < n) : ((List.range n).map f).getD i d = f i := by
  simp [List.getD, List.getElem?_map, List.getElem?_range h]
abbrev rowCont (c : Clr) (t : Tru) (i n : Nat) : Blk := .row 3 1 n fun m _ => i64 (c.cont t i m)
abbrev rowRuns (c : Clr) (t : Tru) (n : Nat) : Blk := .row 43 1 n fun i _ => ints (c.rowT t i)
theorem rowX_snoc {ty n : Nat} {F : Nat → FV} {h : Nat → Nat → FV} (hx : FVle (h 0 0) (F n)) : BlkLe (.row ty 1 (n + 1) (appF n (fun t _ => F t) h)) (.row ty 1 (n + 1) fun t _ => F t) :=
  .row rfl fun t j ht hj => by
    obtain rfl : j = 0 := by omega
    by_cases h1 : t < n
    · simp only [appF, h1, if_true]; exact .refl _
    · obtain rfl : t = n := by omega
      simp only [appF, h1, if_false, Nat.sub_self]; exact hx
theorem intsMap_le {n : Nat} {f : Nat → Int} : FVle (.sl 1 n fun m _ => i64 (f m)) (ints ((List.range n).map f)) :=
  .sl (by simp) fun i j hi _ => .of_eq (by
    show i64 (f i) = i64 (((List.range n).map f).getD i 0)
    rw [getD_map_range hi])
theorem intssMap_le {n : Nat} {f : Nat → List Int} : FVle (.sl 1 n fun m _ => ints (f m)) (intss ((List.range n).map f)) :=
  .sl (by simp) fun i j hi _ => .of_eq (by
    show ints (f i) = ints (((List.range n).map f).getD i [])
    rw [getD_map_range hi])

theorem Run_c (c : Clr) (t : Tru) (hG : c.Good) (ht : c.ofT t = true) : CallC Try.prog 31 0 (lkF [] fun _ => none) [aClr c, aTru t] 0 (lkF [] fun _ => none) (.tup [.c (.f (intss (c.runs t))), .c (.f (.bool (c.rightTo t c.casks.length)))]) := by
  refine callC_intro tabOk mixed Try.func31 rfl rfl rfl rfl ?_
  intro w0 e0 Z0 X hX n
  obtain ⟨hl, hok, hmk⟩ := ofT_elim ht
  have hgc := hG.casks
  have hgm := hG.moves
  refine vc_seq ?_
  refine vc_region ?_
  refine run_box rfl trivial rfl rfl rfl rfl rfl rfl (by intro _ _ h; cases h <;> (intro _; rfl)) ?_
  refine run_box rfl trivial rfl rfl rfl rfl rfl rfl (by intro _ _ h; cases h <;> (intro _; rfl)) ?_
  refine oq1 ?_
  refine oq1 ?_
  refine run_nil ?_
  refine vc_seq ?_
  refine vc_region ?_
  refine oq1 ?_
  refine run_nil ?_
  refine vc_seq ?_
  refine vc_ent (ent_adoptS 6 43 1 (fun _ _ => .any) rfl) ?_
  refine vc_region ?_
  refine oq1 ?_
  refine run_nil ?_
  refine vc_seq ?_
  refine vc_seq ?_
  refine vc_region ?_
  refine oq1 ?_
  refine run_nil ?_
  refine vc_block ?_
  refine vc_loop (κ := Nat) (fun i => i ≤ c.casks.length) (fun i => ⟨[(2, .s (.c (.ptr 0 0))), (3, .s (.c (.ptr 1 0))), (6, .s (.c (.own 2))), (7, aBool (c.rightTo t i)), (8, aInt .i64 (i : Int))], [(0, some (.cells 26 [.f (csks c.casks), .f (movs c.moves), .f (ggs c.gauges)])), (1, some (.cells 67 [.f (ints t.start), .f (ints t.leak), .f (ints t.quantity)])), (2, some (rowRuns c t i))], fun _ => none, 3⟩) (fun i => c.casks.length - i) 0 (Nat.zero_le _) ?_ ?_
  ·
    exact ent_ren [] (.cons (.refl _) rfl (.cons (.refl _) rfl (.cons (.refl _) rfl (.cons (.refl _) rfl (.cons (.refl _) rfl (.nil)))))) (.cons rfl (.refl _) rfl rfl (.cons rfl (.refl _) rfl rfl (.cons rfl (rowZ rfl) rfl rfl (.nil)))) rfl rfl (fun i hi => absurd hi (Nat.not_lt_zero i))
  rintro i hi
  refine vc_seq ?_
  refine vc_seq ?_
  refine vc_region ?_
  refine oq1 ?_
  refine oq5 ?_
  refine oq2 ?_
  refine oq1 ?_
  refine oq6 ?_
  refine run_nil ?_
  refine vc_condP rfl (fun h1 => ?_) (fun h1 => ?_)
  ·
    try simp only [Int.toNat_natCast] at h1
    refine vc_skip ?_
    refine vc_seq ?_
    refine vc_block ?_
    refine vc_seq ?_
    refine vc_region ?_
    refine oq5 ?_
    refine oq2 ?_
    refine oq1 ?_
    refine run_q rfl trivial rfl rfl rfl ⟨rfl, by omega, by omega⟩ ?_
    refine oq2 ?_
    refine run_buildOwn rfl trivial rfl rfl rfl rfl rfl rfl rfl rfl rfl ?_
    refine oq1 ?_
    refine run_nil ?_
    refine vc_seq ?_
    refine vc_seq ?_
    refine vc_region ?_
    refine oq1 ?_
    refine run_nil ?_
    refine vc_block ?_
    refine vc_loop (κ := Nat) (fun m => m ≤ c.moves.length) (fun m => ⟨[(2, .s (.c (.ptr 0 0))), (3, .s (.c (.ptr 1 0))), (6, .s (.c (.own 2))), (7, aBool (c.rightTo t i && c.rowOk t i m)), (8, aInt .i64 (i : Int)), (9, .s (.c (.own 3))), (10, aInt .i64 (m : Int))], [(0, some (.cells 26 [.f (csks c.casks), .f (movs c.moves), .f (ggs c.gauges)])), (1, some (.cells 67 [.f (ints t.start), .f (ints t.leak), .f (ints t.quantity)])), (2, some (rowRuns c t i)), (3, some (rowCont c t i (m + 1)))], fun _ => none, 4⟩) (fun m => c.moves.length - m) 0 (Nat.zero_le _) ?_ ?_
    ·
      exact ent_ren [] (.cons (.refl _) rfl (.cons (.refl _) rfl (.cons (.refl _) rfl (.cons (.of_eq (aBool_eq (by simp [Clr.rowOk]))) rfl (.cons (.refl _) rfl (.cons (.refl _) rfl (.cons (.refl _) rfl (.nil)))))))) (.cons rfl (.refl _) rfl rfl (.cons rfl (.refl _) rfl rfl (.cons rfl (.refl _) rfl rfl (.cons rfl (.row rfl fun a j ha hj => (by obtain rfl : a = 0 := (by omega); obtain rfl : j = 0 := Nat.lt_one_iff.1 hj; exact .of_eq (congrArg (FV.int .i64) (by simp [Clr.cont, Clr.gain])))) rfl rfl (.nil))))) rfl rfl (fun i hi => absurd hi (Nat.not_lt_zero i))
    rintro m hm
    have hcb := cont_bounds hG ht i m (by have := hG.moves; omega)
    refine vc_seq ?_
    refine vc_seq ?_
    refine vc_region ?_
    refine oq1 ?_
    refine oq5 ?_
    refine oq2 ?_
    refine oq1 ?_
    refine oq6 ?_
    refine run_nil ?_
    refine vc_condP rfl (fun h2 => ?_) (fun h2 => ?_)
    ·
      try simp only [Int.toNat_natCast] at h2
      refine vc_skip ?_
      refine vc_seq ?_
      refine vc_block ?_
      refine vc_seq ?_
      refine vc_regionD rfl ?_
      have hbi := tru_s hG ht i
      have hbl := tru_l hG ht i
      have hbq := tru_q hG ht m
      have hpos := (hG.cask _ (getD_mem (d := default) (show i < c.casks.length by omega))).marks.pos
      refine oq1 ?_
      refine oq1 ?_
      refine oq3 ?_
      refine oq2 ?_
      refine oq5 ?_
      refine oq2 ?_
      refine oq1 ?_
      refine oq3 ?_
      refine oq2 ?_
      refine oq4 ?_
      refine oq1 ?_
      refine run_nil ⟨rfl, ?_⟩
      refine vc_seq ?_
      refine vc_seq ?_
      refine vc_region ?_
      refine oq5 ?_
      refine oq2 ?_
      refine oq1 ?_
      refine oq3 ?_
      refine oq5 ?_
      refine oq2 ?_
      refine oq1 ?_
      refine oq6 ?_
      refine run_nil ?_
      refine vc_condP rfl (fun h3 => ?_) (fun h3 => ?_)
      ·
        try simp only [Int.toNat_natCast] at h3
        refine vc_region ?_
        refine oq1 ?_
        refine oq5 ?_
        refine oq2 ?_
        refine oq1 ?_
        refine oq3 ?_
        refine oq2 ?_
        refine oq4 ?_
        refine oq1 ?_
        refine run_nil ?_
        refine vc_seq ?_
        refine vc_seq ?_
        refine vc_region ?_
        refine oq5 ?_
        refine oq2 ?_
        refine oq1 ?_
        refine oq3 ?_
        refine oq5 ?_
        refine oq2 ?_
        refine oq1 ?_
        refine oq6 ?_
        refine run_nil ?_
        refine vc_condP rfl (fun h4 => ?_) (fun h4 => ?_)
        ·
          try simp only [Int.toNat_natCast] at h4
          refine vc_region ?_
          refine oq1 ?_
          refine oq5 ?_
          refine oq2 ?_
          refine oq1 ?_
          refine oq3 ?_
          refine oq2 ?_
          refine oq4 ?_
          refine oq1 ?_
          refine run_nil ?_
          refine vc_seq ?_
          refine vc_ent (ent_le 11 (y := aInt .i64 (c.cont t i (m + 1))) (.of_eq (aInt_eq (by simp only [Int.toNat_natCast]; simp only [Clr.cont, Clr.gain, Mov.d] at *; have hsd := (hG.move _ (getD_mem (d := default) (show m < c.moves.length by omega))).2.2.1; (first | (rw [if_pos (by omega)]; omega) | (rw [if_neg (by omega), if_pos (by omega)]; omega) | (rw [if_neg (by omega), if_neg (by omega)]; omega) | (exfalso; omega)))))) ?_
          refine vc_region ?_
          refine oq1 ?_
          refine oq1 ?_
          refine run_buildSlice rfl trivial rfl rfl rfl rfl rfl rfl rfl rfl rfl ?_
          refine run_append rfl rfl rfl rfl trivial rfl rfl rfl rfl rfl rfl rfl rfl rfl rfl rfl (by first | omega | exact app_room (by omega) rfl) ?_
          refine oq1 ?_
          refine run_nil ?_
          refine vc_region ?_
          refine oq1 ?_
          refine oq1 ?_
          refine run_split 77 rfl (fun h5 => ?_) (fun h5 => ?_)
          ·
            try simp only [Int.toNat_natCast] at h5
            refine oq1 ?_
            refine oq5 ?_
            refine oq2 ?_
            refine oq1 ?_
            refine oq3 ?_
            refine oq2 ?_
            refine run_callP (Holds_c (c.casks.getD i default) hpos) rfl rfl rfl rfl rfl rfl rfl rfl ?_
            refine run_callP (In_c _ _ _) rfl rfl rfl rfl rfl rfl rfl rfl ?_
            refine oq1 ?_
            refine oq1 ?_
            refine run_nil ?_
            refine vc_region ?_
            refine oq1 ?_
            refine oq4 ?_
            refine oq1 ?_
            refine run_nil ?_
            refine ⟨m + 1, by omega, by omega, ent_ren [(3, 4)] (.cons (.refl _) rfl (.cons (.refl _) rfl (.cons (.refl _) rfl (.cons (.of_eq (aBool_eq (by rw [rowOk_succ, ← Bool.and_assoc]; first | (rw [show (c.rightTo t i && c.rowOk t i m) = true by assumption]; rfl) | (rw [show (c.rightTo t i && c.rowOk t i m) = false by assumption]; rfl)))) rfl (.cons (.refl _) rfl (.cons (.refl _) rfl (.cons (.refl _) rfl (.nil)))))))) (.cons rfl (.refl _) rfl rfl (.cons rfl (.refl _) rfl rfl (.cons rfl (.refl _) rfl rfl (.cons rfl (rowF_snoc (f := c.cont t i) (.refl _)) rfl rfl (.nil))))) rfl rfl (fun i hi => absurd hi (Nat.not_lt_zero i))⟩
          ·
            try simp only [Int.toNat_natCast] at h5
            refine osk ?_
            refine osk ?_
            refine osk ?_
            refine osk ?_
            refine osk ?_
            refine osk ?_
            refine osk ?_
            refine osk ?_
            refine oq1 ?_
            refine oq1 ?_
            refine run_nil ?_
            refine vc_region ?_
            refine oq1 ?_
            refine oq4 ?_
            refine oq1 ?_
            refine run_nil ?_
            refine ⟨m + 1, by omega, by omega, ent_ren [(3, 4)] (.cons (.refl _) rfl (.cons (.refl _) rfl (.cons (.refl _) rfl (.cons (.of_eq (aBool_eq (by rw [rowOk_succ, ← Bool.and_assoc]; first | (rw [show (c.rightTo t i && c.rowOk t i m) = true by assumption]; rfl) | (rw [show (c.rightTo t i && c.rowOk t i m) = false by assumption]; rfl)))) rfl (.cons (.refl _) rfl (.cons (.refl _) rfl (.cons (.refl _) rfl (.nil)))))))) (.cons rfl (.refl _) rfl rfl (.cons rfl (.refl _) rfl rfl (.cons rfl (.refl _) rfl rfl (.cons rfl (rowF_snoc (f := c.cont t i) (.refl _)) rfl rfl (.nil))))) rfl rfl (fun i hi => absurd hi (Nat.not_lt_zero i))⟩
        ·
          try simp only [Int.toNat_natCast] at h4
          refine vc_skip ?_
          refine vc_seq ?_
          refine vc_ent (ent_le 11 (y := aInt .i64 (c.cont t i (m + 1))) (.of_eq (aInt_eq (by simp only [Int.toNat_natCast]; simp only [Clr.cont, Clr.gain, Mov.d] at *; have hsd := (hG.move _ (getD_mem (d := default) (show m < c.moves.length by omega))).2.2.1; (first | (rw [if_pos (by omega)]; omega) | (rw [if_neg (by omega), if_pos (by omega)]; omega) | (rw [if_neg (by omega), if_neg (by omega)]; omega) | (exfalso; omega)))))) ?_
          refine vc_region ?_
          refine oq1 ?_
          refine oq1 ?_
          refine run_buildSlice rfl trivial rfl rfl rfl rfl rfl rfl rfl rfl rfl ?_
          refine run_append rfl rfl rfl rfl trivial rfl rfl rfl rfl rfl rfl rfl rfl rfl rfl rfl (by first | omega | exact app_room (by omega) rfl) ?_
          refine oq1 ?_
          refine run_nil ?_
          refine vc_region ?_
          refine oq1 ?_
          refine oq1 ?_
          refine run_split 77 rfl (fun h6 => ?_) (fun h6 => ?_)
          ·
            try simp only [Int.toNat_natCast] at h6
            refine oq1 ?_
            refine oq5 ?_
            refine oq2 ?_
            refine oq1 ?_
            refine oq3 ?_
            refine oq2 ?_
            refine run_callP (Holds_c (c.casks.getD i default) hpos) rfl rfl rfl rfl rfl rfl rfl rfl ?_
            refine run_callP (In_c _ _ _) rfl rfl rfl rfl rfl rfl rfl rfl ?_
            refine oq1 ?_
            refine oq1 ?_
            refine run_nil ?_
            refine vc_region ?_
            refine oq1 ?_
            refine oq4 ?_
            refine oq1 ?_
            refine run_nil ?_
            refine ⟨m + 1, by omega, by omega, ent_ren [(3, 4)] (.cons (.refl _) rfl (.cons (.refl _) rfl (.cons (.refl _) rfl (.cons (.of_eq (aBool_eq (by rw [rowOk_succ, ← Bool.and_assoc]; first | (rw [show (c.rightTo t i && c.rowOk t i m) = true by assumption]; rfl) | (rw [show (c.rightTo t i && c.rowOk t i m) = false by assumption]; rfl)))) rfl (.cons (.refl _) rfl (.cons (.refl _) rfl (.cons (.refl _) rfl (.nil)))))))) (.cons rfl (.refl _) rfl rfl (.cons rfl (.refl _) rfl rfl (.cons rfl (.refl _) rfl rfl (.cons rfl (rowF_snoc (f := c.cont t i) (.refl _)) rfl rfl (.nil))))) rfl rfl (fun i hi => absurd hi (Nat.not_lt_zero i))⟩
          ·
            try simp only [Int.toNat_natCast] at h6
            refine osk ?_
            refine osk ?_
            refine osk ?_
            refine osk ?_
            refine osk ?_
            refine osk ?_
            refine osk ?_
            refine osk ?_
            refine oq1 ?_
            refine oq1 ?_
            refine run_nil ?_
            refine vc_region ?_
            refine oq1 ?_
            refine oq4 ?_
            refine oq1 ?_
            refine run_nil ?_
            refine ⟨m + 1, by omega, by omega, ent_ren [(3, 4)] (.cons (.refl _) rfl (.cons (.refl _) rfl (.cons (.refl _) rfl (.cons (.of_eq (aBool_eq (by rw [rowOk_succ, ← Bool.and_assoc]; first | (rw [show (c.rightTo t i && c.rowOk t i m) = true by assumption]; rfl) | (rw [show (c.rightTo t i && c.rowOk t i m) = false by assumption]; rfl)))) rfl (.cons (.refl _) rfl (.cons (.refl _) rfl (.cons (.refl _) rfl (.nil)))))))) (.cons rfl (.refl _) rfl rfl (.cons rfl (.refl _) rfl rfl (.cons rfl (.refl _) rfl rfl (.cons rfl (rowF_snoc (f := c.cont t i) (.refl _)) rfl rfl (.nil))))) rfl rfl (fun i hi => absurd hi (Nat.not_lt_zero i))⟩
      ·
        try simp only [Int.toNat_natCast] at h3
        refine vc_skip ?_
        refine vc_seq ?_
        refine vc_seq ?_
        refine vc_region ?_
        refine oq5 ?_
        refine oq2 ?_
        refine oq1 ?_
        refine oq3 ?_
        refine oq5 ?_
        refine oq2 ?_
        refine oq1 ?_
        refine oq6 ?_
        refine run_nil ?_
        refine vc_condP rfl (fun h7 => ?_) (fun h7 => ?_)
        ·
          try simp only [Int.toNat_natCast] at h7
          refine vc_region ?_
          refine oq1 ?_
          refine oq5 ?_
          refine oq2 ?_
          refine oq1 ?_
          refine oq3 ?_
          refine oq2 ?_
          refine oq4 ?_
          refine oq1 ?_
          refine run_nil ?_
          refine vc_seq ?_
          refine vc_ent (ent_le 11 (y := aInt .i64 (c.cont t i (m + 1))) (.of_eq (aInt_eq (by simp only [Int.toNat_natCast]; simp only [Clr.cont, Clr.gain, Mov.d] at *; have hsd := (hG.move _ (getD_mem (d := default) (show m < c.moves.length by omega))).2.2.1; (first | (rw [if_pos (by omega)]; omega) | (rw [if_neg (by omega), if_pos (by omega)]; omega) | (rw [if_neg (by omega), if_neg (by omega)]; omega) | (exfalso; omega)))))) ?_
          refine vc_region ?_
          refine oq1 ?_
          refine oq1 ?_
          refine run_buildSlice rfl trivial rfl rfl rfl rfl rfl rfl rfl rfl rfl ?_
          refine run_append rfl rfl rfl rfl trivial rfl rfl rfl rfl rfl rfl rfl rfl rfl rfl rfl (by first | omega | exact app_room (by omega) rfl) ?_
          refine oq1 ?_
          refine run_nil ?_
          refine vc_region ?_
          refine oq1 ?_
          refine oq1 ?_
          refine run_split 77 rfl (fun h8 => ?_) (fun h8 => ?_)
          ·
            try simp only [Int.toNat_natCast] at h8
            refine oq1 ?_
            refine oq5 ?_
            refine oq2 ?_
            refine oq1 ?_
            refine oq3 ?_
            refine oq2 ?_
            refine run_callP (Holds_c (c.casks.getD i default) hpos) rfl rfl rfl rfl rfl rfl rfl rfl ?_
            refine run_callP (In_c _ _ _) rfl rfl rfl rfl rfl rfl rfl rfl ?_
            refine oq1 ?_
            refine oq1 ?_
            refine run_nil ?_
            refine vc_region ?_
            refine oq1 ?_
            refine oq4 ?_
            refine oq1 ?_
            refine run_nil ?_
            refine ⟨m + 1, by omega, by omega, ent_ren [(3, 4)] (.cons (.refl _) rfl (.cons (.refl _) rfl (.cons (.refl _) rfl (.cons (.of_eq (aBool_eq (by rw [rowOk_succ, ← Bool.and_assoc]; first | (rw [show (c.rightTo t i && c.rowOk t i m) = true by assumption]; rfl) | (rw [show (c.rightTo t i && c.rowOk t i m) = false by assumption]; rfl)))) rfl (.cons (.refl _) rfl (.cons (.refl _) rfl (.cons (.refl _) rfl (.nil)))))))) (.cons rfl (.refl _) rfl rfl (.cons rfl (.refl _) rfl rfl (.cons rfl (.refl _) rfl rfl (.cons rfl (rowF_snoc (f := c.cont t i) (.refl _)) rfl rfl (.nil))))) rfl rfl (fun i hi => absurd hi (Nat.not_lt_zero i))⟩
          ·
            try simp only [Int.toNat_natCast] at h8
            refine osk ?_
            refine osk ?_
            refine osk ?_
            refine osk ?_
            refine osk ?_
            refine osk ?_
            refine osk ?_
            refine osk ?_
            refine oq1 ?_
            refine oq1 ?_
            refine run_nil ?_
            refine vc_region ?_
            refine oq1 ?_
            refine oq4 ?_
            refine oq1 ?_
            refine run_nil ?_
            refine ⟨m + 1, by omega, by omega, ent_ren [(3, 4)] (.cons (.refl _) rfl (.cons (.refl _) rfl (.cons (.refl _) rfl (.cons (.of_eq (aBool_eq (by rw [rowOk_succ, ← Bool.and_assoc]; first | (rw [show (c.rightTo t i && c.rowOk t i m) = true by assumption]; rfl) | (rw [show (c.rightTo t i && c.rowOk t i m) = false by assumption]; rfl)))) rfl (.cons (.refl _) rfl (.cons (.refl _) rfl (.cons (.refl _) rfl (.nil)))))))) (.cons rfl (.refl _) rfl rfl (.cons rfl (.refl _) rfl rfl (.cons rfl (.refl _) rfl rfl (.cons rfl (rowF_snoc (f := c.cont t i) (.refl _)) rfl rfl (.nil))))) rfl rfl (fun i hi => absurd hi (Nat.not_lt_zero i))⟩
        ·
          try simp only [Int.toNat_natCast] at h7
          refine vc_skip ?_
          refine vc_seq ?_
          refine vc_ent (ent_le 11 (y := aInt .i64 (c.cont t i (m + 1))) (.of_eq (aInt_eq (by simp only [Int.toNat_natCast]; simp only [Clr.cont, Clr.gain, Mov.d] at *; have hsd := (hG.move _ (getD_mem (d := default) (show m < c.moves.length by omega))).2.2.1; (first | (rw [if_pos (by omega)]; omega) | (rw [if_neg (by omega), if_pos (by omega)]; omega) | (rw [if_neg (by omega), if_neg (by omega)]; omega) | (exfalso; omega)))))) ?_
          refine vc_region ?_
          refine oq1 ?_
          refine oq1 ?_
          refine run_buildSlice rfl trivial rfl rfl rfl rfl rfl rfl rfl rfl rfl ?_
          refine run_append rfl rfl rfl rfl trivial rfl rfl rfl rfl rfl rfl rfl rfl rfl rfl rfl (by first | omega | exact app_room (by omega) rfl) ?_
          refine oq1 ?_
          refine run_nil ?_
          refine vc_region ?_
          refine oq1 ?_
          refine oq1 ?_
          refine run_split 77 rfl (fun h9 => ?_) (fun h9 => ?_)
          ·
            try simp only [Int.toNat_natCast] at h9
            refine oq1 ?_
            refine oq5 ?_
            refine oq2 ?_
            refine oq1 ?_
            refine oq3 ?_
            refine oq2 ?_
            refine run_callP (Holds_c (c.casks.getD i default) hpos) rfl rfl rfl rfl rfl rfl rfl rfl ?_
            refine run_callP (In_c _ _ _) rfl rfl rfl rfl rfl rfl rfl rfl ?_
            refine oq1 ?_
            refine oq1 ?_
            refine run_nil ?_
            refine vc_region ?_
            refine oq1 ?_
            refine oq4 ?_
            refine oq1 ?_
            refine run_nil ?_
            refine ⟨m + 1, by omega, by omega, ent_ren [(3, 4)] (.cons (.refl _) rfl (.cons (.refl _) rfl (.cons (.refl _) rfl (.cons (.of_eq (aBool_eq (by rw [rowOk_succ, ← Bool.and_assoc]; first | (rw [show (c.rightTo t i && c.rowOk t i m) = true by assumption]; rfl) | (rw [show (c.rightTo t i && c.rowOk t i m) = false by assumption]; rfl)))) rfl (.cons (.refl _) rfl (.cons (.refl _) rfl (.cons (.refl _) rfl (.nil)))))))) (.cons rfl (.refl _) rfl rfl (.cons rfl (.refl _) rfl rfl (.cons rfl (.refl _) rfl rfl (.cons rfl (rowF_snoc (f := c.cont t i) (.refl _)) rfl rfl (.nil))))) rfl rfl (fun i hi => absurd hi (Nat.not_lt_zero i))⟩
          ·
            try simp only [Int.toNat_natCast] at h9
            refine osk ?_
            refine osk ?_
            refine osk ?_
            refine osk ?_
            refine osk ?_
            refine osk ?_
            refine osk ?_
            refine osk ?_
            refine oq1 ?_
            refine oq1 ?_
            refine run_nil ?_
            refine vc_region ?_
            refine oq1 ?_
            refine oq4 ?_
            refine oq1 ?_
            refine run_nil ?_
            refine ⟨m + 1, by omega, by omega, ent_ren [(3, 4)] (.cons (.refl _) rfl (.cons (.refl _) rfl (.cons (.refl _) rfl (.cons (.of_eq (aBool_eq (by rw [rowOk_succ, ← Bool.and_assoc]; first | (rw [show (c.rightTo t i && c.rowOk t i m) = true by assumption]; rfl) | (rw [show (c.rightTo t i && c.rowOk t i m) = false by assumption]; rfl)))) rfl (.cons (.refl _) rfl (.cons (.refl _) rfl (.cons (.refl _) rfl (.nil)))))))) (.cons rfl (.refl _) rfl rfl (.cons rfl (.refl _) rfl rfl (.cons rfl (.refl _) rfl rfl (.cons rfl (rowF_snoc (f := c.cont t i) (.refl _)) rfl rfl (.nil))))) rfl rfl (fun i hi => absurd hi (Nat.not_lt_zero i))⟩
    ·
      try simp only [Int.toNat_natCast] at h2
      refine vc_exit ?_
      refine vc_ent (ent_fz 3 rfl) ?_
      refine vc_region ?_
      refine oq1 ?_
      refine oq1 ?_
      refine run_buildSlice rfl trivial rfl rfl rfl rfl rfl rfl rfl rfl rfl ?_
      refine run_append rfl rfl rfl rfl trivial rfl rfl rfl rfl rfl rfl rfl rfl rfl rfl rfl (by first | omega | exact app_room (by omega) rfl) ?_
      refine oq1 ?_
      refine run_nil ?_
      refine vc_region ?_
      refine oq1 ?_
      refine oq4 ?_
      refine oq1 ?_
      refine run_nil ?_
      obtain rfl : m = c.moves.length := by omega
      refine ⟨i + 1, by omega, by omega, ent_ren [(2, 4)] (.cons (.refl _) rfl (.cons (.refl _) rfl (.cons (.refl _) rfl (.cons (.of_eq (aBool_eq (by rw [rightTo_succ]))) rfl (.cons (.refl _) rfl (.nil)))))) (.cons rfl (.refl _) rfl rfl (.cons rfl (.refl _) rfl rfl (.cons rfl (rowX_snoc (F := fun a => ints (c.rowT t a)) (by exact intsMap_le)) rfl rfl (.nil)))) rfl rfl (fun i hi => absurd hi (Nat.not_lt_zero i))⟩
  ·
    try simp only [Int.toNat_natCast] at h1
    refine vc_exit ?_
    refine vc_seq ?_
    refine vc_ent (ent_fz 2 rfl) ?_
    refine vc_region ?_
    refine oq1 ?_
    refine oq1 ?_
    refine oq1 ?_
    refine oq1 ?_
    refine run_nil ?_
    refine vc_ret ?_
    obtain rfl : i = c.casks.length := by omega
    exact ret_pure rfl ⟨trivial, trivial, trivial⟩ rfl (.tup (.cons (.c (.f intssMap_le)) (.cons (.refl _) .nil)))

end Go.Proofs.Ytnkgdapdccpjmaa

/- Wrong gauges, truths, the truth with a number, in the reference. -/
namespace Go.Proofs.Ytnkgdapdccpjmaa
open Go Go.RowKit Go.Sx

abbrev aIntss (l : List (List Int)) : AV := .s (.c (.f (intss l)))
def Clr.badG (c : Clr) (X : List (List Int)) (i : Nat) : Bool :=
  !within ((X.getD (c.gauges.getD i default).cask.toNat []).getD (c.gauges.getD i default).after.toNat 0) (c.mean (c.gauges.getD i default)).lo (c.mean (c.gauges.getD i default)).hi
/-- The gauges that are wrong, by bits. -/
def Clr.wrongTo (c : Clr) (X : List (List Int)) : Nat → Int
  | 0 => 0
  | i + 1 => c.wrongTo X i + (if c.badG X i = true then 2 ^ i else 0)
theorem wrongTo_bounds (c : Clr) (X : List (List Int)) : ∀ i, 0 ≤ c.wrongTo X i ∧ c.wrongTo X i < 2 ^ i
  | 0 => by simp [Clr.wrongTo]
  | i + 1 => by
    have h := wrongTo_bounds c X i
    rw [Clr.wrongTo, Int.pow_succ]
    split <;> omega
theorem or_pow {a : Int} {i : Nat} (hi : i < 6) (h0 : 0 ≤ a) (h1 : a < 2 ^ i) : bitF .or .i64 a (1 * 2 ^ i) = a + 2 ^ i := by
  have key : ∀ i : Fin 6, ∀ b : Fin 64, b.val < 2 ^ i.val → bitF .or .i64 (b.val : Int) (1 * 2 ^ i.val) = (b.val : Int) + 2 ^ i.val := by decide +kernel
  have h64 : (2 : Int) ^ i ≤ 2 ^ 6 := by
    have : (2 : Nat) ^ i ≤ 2 ^ 6 := Nat.pow_le_pow_right (by decide) (by omega)
    exact_mod_cast this
  have := key ⟨i, hi⟩ ⟨a.toNat, by omega⟩ (by
    show a.toNat < 2 ^ i
    have h2 : ((2 ^ i : Nat) : Int) = 2 ^ i := by simp
    omega)
  simpa [Int.toNat_of_nonneg h0] using this
structure Shape (c : Clr) (X : List (List Int)) : Prop where
  len : X.length = c.casks.length
  row : ∀ i, i < X.length → (X.getD i []).length = c.moves.length + 1
theorem runs_shape (c : Clr) (t : Tru) : Shape c (c.runs t) := by
  have hl : (c.runs t).length = c.casks.length := by simp [Clr.runs]
  exact ⟨hl, fun i hi => by rw [hl] at hi; rw [Clr.runs, getD_map_range hi]; simp [Clr.rowT]⟩
def Clr.isTruth (c : Clr) (t : Tru) : Bool := c.ofT t && c.rightTo t c.casks.length && decide (c.wrongTo (c.runs t) c.gauges.length = 0)

theorem Wrong_c (c : Clr) (Y : List (List Int)) (hG : c.Good) (hY : Shape c Y) : CallC Try.prog 76 0 (lkF [] fun _ => none) [aClr c, aIntss Y] 0 (lkF [] fun _ => none) (aInt .i64 (c.wrongTo Y c.gauges.length)) := by
  refine callC_intro tabOk mixed Try.func76 rfl rfl rfl rfl ?_
  intro w0 e0 Z0 X hX n
  refine vc_fact 0 clr_len fun hlen => ?_
  refine vc_seq ?_
  refine vc_region ?_
  refine run_box rfl trivial rfl rfl rfl rfl rfl rfl (by intro _ _ h; cases h <;> (intro _; rfl)) ?_
  refine oq1 ?_
  refine run_nil ?_
  refine vc_seq ?_
  refine vc_region ?_
  refine oq1 ?_
  refine run_nil ?_
  refine vc_seq ?_
  refine vc_seq ?_
  refine vc_region ?_
  refine oq1 ?_
  refine run_nil ?_
  refine vc_block ?_
  refine vc_loop (κ := Nat) (fun i => i ≤ c.gauges.length) (fun i => ⟨[(1, aIntss Y), (2, .s (.c (.ptr 0 0))), (5, aInt .i64 (c.wrongTo Y i)), (6, aInt .i64 (i : Int))], [(0, some (.cells 26 [.f (csks c.casks), .f (movs c.moves), .f (ggs c.gauges)]))], fun _ => none, 1⟩) (fun i => c.gauges.length - i) 0 (Nat.zero_le _) ?_ ?_
  ·
    exact ent_ren [] (.cons (.refl _) rfl (.cons (.refl _) rfl (.cons (.refl _) rfl (.cons (.refl _) rfl (.nil))))) (.cons rfl (.refl _) rfl rfl (.nil)) rfl rfl (fun i hi => absurd hi (Nat.not_lt_zero i))
  rintro i hi
  have hwb := wrongTo_bounds c Y i
  refine vc_seq ?_
  refine vc_seq ?_
  refine vc_region ?_
  refine oq1 ?_
  refine oq5 ?_
  refine oq2 ?_
  refine oq1 ?_
  refine oq6 ?_
  refine run_nil ?_
  refine vc_condP rfl (fun h1 => ?_) (fun h1 => ?_)
  ·
    try simp only [Int.toNat_natCast] at h1
    refine vc_skip ?_
    refine vc_seq ?_
    refine vc_block ?_
    refine vc_seq ?_
    refine vc_region ?_
    have hgg := hG.gauge _ (getD_mem (d := default) (show i < c.gauges.length by omega))
    have hyl := hY.len
    have hyr := hY.row (c.gauges.getD i default).cask.toNat (by omega)
    have hg6 := hG.gauges
    refine oq5 ?_
    refine oq2 ?_
    refine oq1 ?_
    refine oq3 ?_
    refine oq2 ?_
    refine run_alloc rfl trivial rfl rfl rfl rfl (by intro _ _ h; cases h <;> (intro _; rfl)) ?_
    refine Sx.run_store rfl trivial rfl rfl rfl rfl rfl rfl rfl ?_
    refine run_nil ?_
    refine vc_seq ?_
    refine vc_region ?_
    refine oq2 ?_
    refine oq2 ?_
    refine run_callP (Mean_c c (c.gauges.getD i default) hgg.1.1 hgg.1.2 (hG.cask _ (Clr.cask_mem hgg.1.1 hgg.1.2)).marks hgg.2.2.1 hgg.2.2.2.1 hgg.2.2.2.2) rfl rfl rfl trivial rfl rfl rfl rfl ?_
    refine run_alloc rfl trivial rfl rfl rfl rfl (by intro _ _ h; cases h <;> (intro _; rfl)) ?_
    refine Sx.run_store rfl trivial rfl rfl rfl rfl rfl rfl rfl ?_
    refine run_nil ?_
    refine vc_seq ?_
    refine vc_regionD rfl ?_
    refine oq1 ?_
    refine oq5 ?_
    refine oq2 ?_
    refine run_q rfl trivial rfl rfl rfl ⟨rfl, by (try simp only [Int.toNat_natCast]); omega, by (try simp only [Int.toNat_natCast]); omega⟩ ?_
    refine oq2 ?_
    refine oq5 ?_
    refine oq2 ?_
    refine run_q rfl trivial rfl rfl rfl ⟨rfl, by (try simp only [Int.toNat_natCast]); omega, by (try simp only [Int.toNat_natCast]); omega⟩ ?_
    refine oq2 ?_
    refine oq5 ?_
    refine oq2 ?_
    refine oq5 ?_
    refine oq2 ?_
    refine run_callP (In_c _ _ _) rfl rfl rfl trivial rfl rfl rfl rfl ?_
    refine oq1 ?_
    refine run_nil ⟨rfl, ?_⟩
    refine vc_cond rfl (fun h2 => ?_) (fun h2 => ?_)
    ·
      try simp only [Int.toNat_natCast] at h2
      refine vc_region ?_
      refine oq1 ?_
      refine oq1 ?_
      refine run_q rfl trivial rfl rfl rfl (wrapU (by omega) (by omega)) ?_
      have hs1 := shl64 (a := 1) (b := (i : Int)) (i := i) rfl (by decide) (by omega) (by decide)
      refine run_qW (aInt .i64 (1 * 2 ^ i)) rfl trivial rfl rfl rfl (by show 0 ≤ (i : Int); omega) (AVle.of_eq (aInt_eq hs1.1)) ?_
      refine run_qW (aInt .i64 (c.wrongTo Y i + 2 ^ i)) rfl trivial rfl rfl rfl rfl (AVle.of_eq (aInt_eq (or_pow (by omega) hwb.1 hwb.2))) ?_
      refine oq1 ?_
      refine run_nil ?_
      refine vc_region ?_
      refine oq1 ?_
      refine oq4 ?_
      refine oq1 ?_
      refine run_nil ?_
      refine ⟨i + 1, by omega, by omega, ent_ren [] (.cons (.refl _) rfl (.cons (.refl _) rfl (.cons (.of_eq (aInt_eq (by rw [Clr.wrongTo]; simp_all [Clr.badG]))) rfl (.cons (.refl _) rfl (.nil))))) (.cons rfl (.refl _) rfl rfl (.nil)) rfl rfl (fun i hi => absurd hi (Nat.not_lt_zero i))⟩
    ·
      try simp only [Int.toNat_natCast] at h2
      refine vc_skip ?_
      refine vc_region ?_
      refine oq1 ?_
      refine oq4 ?_
      refine oq1 ?_
      refine run_nil ?_
      refine ⟨i + 1, by omega, by omega, ent_ren [] (.cons (.refl _) rfl (.cons (.refl _) rfl (.cons (.of_eq (aInt_eq (by rw [Clr.wrongTo]; simp_all [Clr.badG]))) rfl (.cons (.refl _) rfl (.nil))))) (.cons rfl (.refl _) rfl rfl (.nil)) rfl rfl (fun i hi => absurd hi (Nat.not_lt_zero i))⟩
  ·
    try simp only [Int.toNat_natCast] at h1
    refine vc_exit ?_
    refine vc_seq ?_
    refine vc_region ?_
    refine oq1 ?_
    refine oq1 ?_
    refine run_nil ?_
    refine vc_ret ?_
    obtain rfl : i = c.gauges.length := by omega
    refine ret_pure rfl trivial rfl (AVle.of_eq ?_)
    rfl

theorem IsTruth_c (c : Clr) (t : Tru) (hG : c.Good) : CallC Try.prog 29 0 (lkF [] fun _ => none) [aClr c, aTru t] 0 (lkF [] fun _ => none) (aBool (c.isTruth t)) := by
  refine callC_intro tabOk mixed Try.func29 rfl rfl rfl rfl ?_
  intro w0 e0 Z0 X hX n
  refine vc_seq ?_
  refine vc_region ?_
  refine run_box rfl trivial rfl rfl rfl rfl rfl rfl (by intro _ _ h; cases h <;> (intro _; rfl)) ?_
  refine run_box rfl trivial rfl rfl rfl rfl rfl rfl (by intro _ _ h; cases h <;> (intro _; rfl)) ?_
  refine oq1 ?_
  refine run_nil ?_
  refine vc_seq ?_
  refine vc_seq ?_
  refine vc_region ?_
  refine oq2 ?_
  refine oq2 ?_
  refine run_callP (Of30_c _ _) rfl rfl rfl trivial rfl rfl rfl rfl ?_
  refine oq1 ?_
  refine run_nil ?_
  refine vc_cond rfl (fun h1 => ?_) (fun h1 => ?_)
  ·
    try simp only [Int.toNat_natCast] at h1
    refine vc_seq ?_
    refine vc_region ?_
    refine oq1 ?_
    refine run_nil ?_
    refine vc_ret ?_
    refine ret_pure rfl trivial rfl (AVle.of_eq ?_)
    refine aBool_eq ?_
    simp_all [Clr.isTruth]
  ·
    try simp only [Int.toNat_natCast] at h1
    have hof : c.ofT t = true := by simpa using h1
    refine vc_skip ?_
    refine vc_seq ?_
    refine vc_region ?_
    refine oq2 ?_
    refine oq2 ?_
    refine run_callP (Run_c c t hG hof) rfl rfl rfl trivial rfl rfl rfl rfl ?_
    refine oq1 ?_
    refine oq1 ?_
    refine oq1 ?_
    refine oq1 ?_
    refine oq1 ?_
    refine run_nil ?_
    refine vc_seq ?_
    refine vc_region ?_
    refine oq1 ?_
    refine oq1 ?_
    refine run_split 18 rfl (fun h2 => ?_) (fun h2 => ?_)
    ·
      try simp only [Int.toNat_natCast] at h2
      refine oq2 ?_
      refine oq1 ?_
      refine run_callP (Wrong_c c (c.runs t) hG (runs_shape c t)) rfl rfl rfl rfl rfl rfl rfl rfl ?_
      refine oq6 ?_
      refine oq1 ?_
      refine oq1 ?_
      refine run_nil ?_
      refine vc_ret ?_
      refine ret_pure rfl trivial rfl (AVle.of_eq ?_)
      refine aBool_eq ?_
      simp_all [Clr.isTruth]
    ·
      try simp only [Int.toNat_natCast] at h2
      refine osk ?_
      refine osk ?_
      refine osk ?_
      refine osk ?_
      refine oq1 ?_
      refine oq1 ?_
      refine run_nil ?_
      refine vc_ret ?_
      refine ret_pure rfl trivial rfl (AVle.of_eq ?_)
      refine aBool_eq ?_
      simp_all [Clr.isTruth]

/-- The truth with a number. -/
def nthC : List Csk → Int → List (Int × Int) × Int
  | [], n => ([], n)
  | k :: ks, n => ((k.start.lo + n % (k.start.hi - k.start.lo + 1), k.leak.lo + n / (k.start.hi - k.start.lo + 1) % (k.leak.hi - k.leak.lo + 1)) :: (nthC ks (n / (k.start.hi - k.start.lo + 1) / (k.leak.hi - k.leak.lo + 1))).1, (nthC ks (n / (k.start.hi - k.start.lo + 1) / (k.leak.hi - k.leak.lo + 1))).2)
def nthM : List Mov → Int → List Int
  | [], _ => []
  | m :: ms, n => (m.q.lo + n % (m.q.hi - m.q.lo + 1)) :: nthM ms (n / (m.q.hi - m.q.lo + 1))
def Clr.nth (c : Clr) (n : Int) : Tru := ⟨(nthC c.casks n).1.map (·.1), (nthC c.casks n).1.map (·.2), nthM c.moves (nthC c.casks n).2⟩
abbrev rowI (l : List Int) : Blk := rowL 3 1 (fun n _ => i64 n) 0 l
theorem rowI_snoc (l : List Int) (x : Int) {l' : List Int} (he : l' = l ++ [x]) {h : Nat → Nat → FV} (hh : FVle (h 0 0) (i64 x)) : BlkLe (.row 3 1 (l.length + 1) (appF l.length (fun i j => (fun n _ => i64 n) (l.getD i 0) j) h)) (rowI l') := by
  subst he; exact rowL_snoc (g := fun n _ => i64 n) (d := 0) l x (fall1 hh)
theorem div_le_self' {a b : Int} (h0 : 0 ≤ a) (h1 : 1 ≤ b) : 0 ≤ a / b ∧ a / b ≤ a := ⟨Int.ediv_nonneg h0 (by omega), Int.ediv_le_self b h0⟩
theorem mod_bd {a b : Int} (h1 : 1 ≤ b) : 0 ≤ a % b ∧ a % b ≤ b - 1 := ⟨Int.emod_nonneg a (by omega), by have := Int.emod_lt_of_pos a (show 0 < b by omega); omega⟩

end Go.Proofs.Ytnkgdapdccpjmaa

/- The truth with a number; all ways, in the reference. -/
namespace Go.Proofs.Ytnkgdapdccpjmaa
open Go Go.RowKit Go.Sx

theorem Nth_c (c : Clr) (z : Int) (hG : c.Good) (h0 : 0 ≤ z) (h1 : z ≤ 1000000) : CallC Try.prog 84 0 (lkF [] fun _ => none) [aClr c, aInt .i64 z] 0 (lkF [] fun _ => none) (aTru (c.nth z)) := by
  refine callC_intro tabOk mixed Try.func84 rfl rfl rfl rfl ?_
  intro w0 e0 Z0 X hX n
  refine vc_fact 0 clr_len fun hlen => ?_
  have hgc := hG.casks
  have hgm := hG.moves
  refine vc_seq ?_
  refine vc_region ?_
  refine run_box rfl trivial rfl rfl rfl rfl rfl rfl (by intro _ _ h; cases h <;> (intro _; rfl)) ?_
  refine run_alloc rfl trivial rfl rfl rfl rfl (by intro _ _ h; cases h <;> (intro _; rfl)) ?_
  refine run_nil ?_
  refine vc_seq ?_
  refine vc_region ?_
  refine run_alloc rfl trivial rfl rfl rfl rfl (by intro _ _ h; cases h <;> (intro _; rfl)) ?_
  refine run_nil ?_
  refine vc_seq ?_
  refine vc_seq ?_
  refine vc_ent (ent_adoptC 2 0 3 1 (fun _ _ => .any) rfl rfl rfl) ?_
  refine vc_ent (ent_adoptC 2 1 3 1 (fun _ _ => .any) rfl rfl rfl) ?_
  refine vc_region ?_
  refine oq1 ?_
  refine run_nil ?_
  refine vc_block ?_
  refine vc_loop (κ := Nat × List (Int × Int) × Int) (fun s => s.1 ≤ c.casks.length ∧ s.2.1.length ≤ s.1 ∧ 0 ≤ s.2.2 ∧ s.2.2 ≤ 1000000 ∧ s.2.1 ++ (nthC (c.casks.drop s.1) s.2.2).1 = (nthC c.casks z).1 ∧ (nthC (c.casks.drop s.1) s.2.2).2 = (nthC c.casks z).2) (fun s => ⟨[(1, aInt .i64 s.2.2), (2, .s (.c (.ptr 0 0))), (4, .s (.c (.ptr 1 0))), (5, .s (.c (.ptr 2 0))), (6, aInt .i64 (s.1 : Int))], [(0, some (.cells 26 [.f (csks c.casks), .f (movs c.moves), .f (ggs c.gauges)])), (1, some (.cells 67 [.f (.lit (.slice none 0 0)), .f (.lit (.slice none 0 0)), .f (.lit (.slice none 0 0))])), (2, some (.cells 67 [.own 3, .own 4, .f (.lit (.slice none 0 0))])), (3, some (rowI (s.2.1.map (·.1)))), (4, some (rowI (s.2.1.map (·.2))))], fun _ => none, 5⟩) (fun s => c.casks.length - s.1) (0, [], z) ⟨Nat.zero_le _, Nat.le_refl _, h0, h1, rfl, rfl⟩ ?_ ?_
  ·
    exact ent_ren [] (.cons (.refl _) rfl (.cons (.refl _) rfl (.cons (.refl _) rfl (.cons (.refl _) rfl (.cons (.refl _) rfl (.nil)))))) (.cons rfl (.refl _) rfl rfl (.cons rfl (.refl _) rfl rfl (.cons rfl (.refl _) rfl rfl (.cons rfl (rowZ rfl) rfl rfl (.cons rfl (rowZ rfl) rfl rfl (.nil)))))) rfl rfl (fun i hi => absurd hi (Nat.not_lt_zero i))
  rintro ⟨i, P, n⟩ ⟨hi, hP, hn0, hn1, hx, hy⟩
  dsimp only at hi hP hn0 hn1 hx hy ⊢
  have hq1 : (P.map (·.1)).length = P.length := List.length_map _
  have hq2 : (P.map (·.2)).length = P.length := List.length_map _
  refine vc_seq ?_
  refine vc_seq ?_
  refine vc_region ?_
  refine oq1 ?_
  refine oq5 ?_
  refine oq2 ?_
  refine oq1 ?_
  refine oq6 ?_
  refine run_nil ?_
  refine vc_condP rfl (fun h1 => ?_) (fun h1 => ?_)
  ·
    try simp only [Int.toNat_natCast] at h1
    refine vc_skip ?_
    refine vc_seq ?_
    refine vc_block ?_
    refine vc_seq ?_
    refine vc_region ?_
    have hk := hG.cask _ (getD_mem (d := default) (show i < c.casks.length by omega))
    have hkt := hk.marks.top
    have hks := hk.start
    have hkl := hk.leak
    have hm1 := mod_bd (a := n) (b := ((c.casks.getD i default).start.hi - (c.casks.getD i default).start.lo + 1)) (by omega)
    have hd1 := div_le_self' (a := n) (b := ((c.casks.getD i default).start.hi - (c.casks.getD i default).start.lo + 1)) hn0 (by omega)
    have hm2 := mod_bd (a := n / ((c.casks.getD i default).start.hi - (c.casks.getD i default).start.lo + 1)) (b := ((c.casks.getD i default).leak.hi - (c.casks.getD i default).leak.lo + 1)) (by omega)
    have hd2 := div_le_self' (a := n / ((c.casks.getD i default).start.hi - (c.casks.getD i default).start.lo + 1)) (b := ((c.casks.getD i default).leak.hi - (c.casks.getD i default).leak.lo + 1)) hd1.1 (by omega)
    refine oq5 ?_
    refine oq2 ?_
    refine oq1 ?_
    refine oq3 ?_
    refine oq2 ?_
    refine run_alloc rfl trivial rfl rfl rfl rfl (by intro _ _ h; cases h <;> (intro _; rfl)) ?_
    refine Sx.run_store rfl trivial rfl rfl rfl rfl rfl rfl rfl ?_
    refine run_nil ?_
    refine vc_seq ?_
    refine vc_regionD rfl ?_
    refine oq5 ?_
    refine oq2 ?_
    refine oq5 ?_
    refine oq5 ?_
    refine oq2 ?_
    refine oq1 ?_
    refine oq5 ?_
    refine oq5 ?_
    refine oq2 ?_
    refine oq5 ?_
    refine oq5 ?_
    refine oq2 ?_
    refine oq4 ?_
    refine oq4 ?_
    refine run_q rfl trivial rfl rfl rfl ⟨rfl, by (try simp only [Int.toNat_natCast]); omega, by (try simp only [Int.toNat_natCast]); omega⟩ ?_
    refine oq4 ?_
    refine run_buildSlice rfl trivial rfl rfl rfl rfl rfl rfl rfl rfl rfl ?_
    refine run_append rfl rfl rfl rfl trivial rfl rfl rfl rfl rfl rfl rfl rfl rfl rfl rfl (by first | omega | exact app_room (by omega) rfl) ?_
    refine oq5 ?_
    refine Sx.run_store rfl trivial rfl rfl rfl rfl rfl rfl rfl ?_
    refine run_nil ⟨rfl, ?_⟩
    refine vc_seq ?_
    refine vc_region ?_
    refine oq1 ?_
    refine oq5 ?_
    refine oq5 ?_
    refine oq2 ?_
    refine oq5 ?_
    refine oq5 ?_
    refine oq2 ?_
    refine oq4 ?_
    refine oq4 ?_
    refine run_q rfl trivial rfl rfl rfl (quo64 (by (try simp only [Int.toNat_natCast]); omega) (by (try simp only [Int.toNat_natCast]); omega) (by (try simp only [Int.toNat_natCast]); omega)) ?_
    refine oq1 ?_
    refine run_nil ?_
    refine vc_seq ?_
    refine vc_regionD rfl ?_
    refine oq5 ?_
    refine oq2 ?_
    refine oq5 ?_
    refine oq5 ?_
    refine oq2 ?_
    refine oq1 ?_
    refine oq5 ?_
    refine oq5 ?_
    refine oq2 ?_
    refine oq5 ?_
    refine oq5 ?_
    refine oq2 ?_
    refine oq4 ?_
    refine oq4 ?_
    refine run_q rfl trivial rfl rfl rfl ⟨rfl, by (try simp only [Int.toNat_natCast]); omega, by (try simp only [Int.toNat_natCast]); omega⟩ ?_
    refine oq4 ?_
    refine run_buildSlice rfl trivial rfl rfl rfl rfl rfl rfl rfl rfl rfl ?_
    refine run_append rfl rfl rfl rfl trivial rfl rfl rfl rfl rfl rfl rfl rfl rfl rfl rfl (by first | omega | exact app_room (by omega) rfl) ?_
    refine oq5 ?_
    refine Sx.run_store rfl trivial rfl rfl rfl rfl rfl rfl rfl ?_
    refine run_nil ⟨rfl, ?_⟩
    refine vc_region ?_
    refine oq1 ?_
    refine oq5 ?_
    refine oq5 ?_
    refine oq2 ?_
    refine oq5 ?_
    refine oq5 ?_
    refine oq2 ?_
    refine oq4 ?_
    refine oq4 ?_
    refine run_q rfl trivial rfl rfl rfl (quo64 (by (try simp only [Int.toNat_natCast]); omega) (by (try simp only [Int.toNat_natCast]); omega) (by (try simp only [Int.toNat_natCast]); omega)) ?_
    refine oq1 ?_
    refine run_nil ?_
    refine vc_region ?_
    refine oq1 ?_
    refine oq4 ?_
    refine oq1 ?_
    refine run_nil ?_
    refine ⟨(i + 1, P ++ [((c.casks.getD i default).start.lo + n % ((c.casks.getD i default).start.hi - (c.casks.getD i default).start.lo + 1), (c.casks.getD i default).leak.lo + n / ((c.casks.getD i default).start.hi - (c.casks.getD i default).start.lo + 1) % ((c.casks.getD i default).leak.hi - (c.casks.getD i default).leak.lo + 1))], n / ((c.casks.getD i default).start.hi - (c.casks.getD i default).start.lo + 1) / ((c.casks.getD i default).leak.hi - (c.casks.getD i default).leak.lo + 1)), ⟨by dsimp only; omega, by simp; omega, by dsimp only; omega, by dsimp only; omega, ?_, ?_⟩, by dsimp only; omega, ent_ren [(3, 6), (4, 7)] (.cons (.refl _) rfl (.cons (.refl _) rfl (.cons (.refl _) rfl (.cons (.refl _) rfl (.cons (.refl _) rfl (.nil)))))) (.cons rfl (.refl _) rfl rfl (.cons rfl (.refl _) rfl rfl (.cons rfl (.refl _) rfl rfl (.cons rfl (rowI_snoc (List.map (fun x : Int × Int => x.1) P) _ (by simp) (.refl _)) rfl rfl (.cons rfl (rowI_snoc (List.map (fun x : Int × Int => x.2) P) _ (by simp) (.refl _)) rfl rfl (.nil)))))) rfl rfl (fun i hi => absurd hi (Nat.not_lt_zero i))⟩
    · rw [← hx, drop_at default (show i < c.casks.length by omega), nthC]; simp
    · rw [← hy, drop_at default (show i < c.casks.length by omega), nthC]
  ·
    try simp only [Int.toNat_natCast] at h1
    refine vc_exit ?_
    refine vc_seq ?_
    refine vc_seq ?_
    obtain rfl : i = c.casks.length := by omega
    rw [drop_end (Nat.le_refl _)] at hx hy
    simp only [nthC, List.append_nil] at hx hy
    subst hx
    subst hy
    refine vc_ent (ent_adoptC 2 2 3 1 (fun _ _ => .any) rfl rfl rfl) ?_
    refine vc_region ?_
    refine oq1 ?_
    refine run_nil ?_
    refine vc_block ?_
    refine vc_loop (κ := Nat × List Int × Int) (fun s => s.1 ≤ c.moves.length ∧ s.2.1.length ≤ s.1 ∧ 0 ≤ s.2.2 ∧ s.2.2 ≤ 1000000 ∧ s.2.1 ++ nthM (c.moves.drop s.1) s.2.2 = nthM c.moves (nthC c.casks z).2) (fun s => ⟨[(1, aInt .i64 s.2.2), (2, .s (.c (.ptr 0 0))), (4, .s (.c (.ptr 1 0))), (5, .s (.c (.ptr 2 0))), (8, aInt .i64 (s.1 : Int))], [(0, some (.cells 26 [.f (csks c.casks), .f (movs c.moves), .f (ggs c.gauges)])), (1, some (.cells 67 [.f (.lit (.slice none 0 0)), .f (.lit (.slice none 0 0)), .f (.lit (.slice none 0 0))])), (2, some (.cells 67 [.own 3, .own 4, .own 5])), (3, some (rowI ((nthC c.casks z).1.map (·.1)))), (4, some (rowI ((nthC c.casks z).1.map (·.2)))), (5, some (rowI s.2.1))], fun _ => none, 6⟩) (fun s => c.moves.length - s.1) (0, [], (nthC c.casks z).2) ⟨Nat.zero_le _, Nat.le_refl _, hn0, hn1, rfl⟩ ?_ ?_
    ·
      exact ent_ren [] (.cons (.refl _) rfl (.cons (.refl _) rfl (.cons (.refl _) rfl (.cons (.refl _) rfl (.cons (.refl _) rfl (.nil)))))) (.cons rfl (.refl _) rfl rfl (.cons rfl (.refl _) rfl rfl (.cons rfl (.refl _) rfl rfl (.cons rfl (.refl _) rfl rfl (.cons rfl (.refl _) rfl rfl (.cons rfl (rowZ rfl) rfl rfl (.nil))))))) rfl rfl (fun i hi => absurd hi (Nat.not_lt_zero i))
    rintro ⟨m, M, n⟩ ⟨hm, hM, hn0, hn1, hx⟩
    dsimp only at hm hM hn0 hn1 hx ⊢
    refine vc_seq ?_
    refine vc_seq ?_
    refine vc_region ?_
    refine oq1 ?_
    refine oq5 ?_
    refine oq2 ?_
    refine oq1 ?_
    refine oq6 ?_
    refine run_nil ?_
    refine vc_condP rfl (fun h2 => ?_) (fun h2 => ?_)
    ·
      try simp only [Int.toNat_natCast] at h2
      refine vc_skip ?_
      refine vc_seq ?_
      refine vc_block ?_
      refine vc_seq ?_
      refine vc_region ?_
      have hk := hG.move _ (getD_mem (d := default) (show m < c.moves.length by omega))
      have hm1 := mod_bd (a := n) (b := (c.moves.getD m default).q.hi - (c.moves.getD m default).q.lo + 1) (by omega)
      have hd1 := div_le_self' (a := n) (b := (c.moves.getD m default).q.hi - (c.moves.getD m default).q.lo + 1) hn0 (by omega)
      refine oq5 ?_
      refine oq2 ?_
      refine oq1 ?_
      refine oq3 ?_
      refine oq5 ?_
      refine oq2 ?_
      refine run_alloc rfl trivial rfl rfl rfl rfl (by intro _ _ h; cases h <;> (intro _; rfl)) ?_
      refine Sx.run_store rfl trivial rfl rfl rfl rfl rfl rfl rfl ?_
      refine run_nil ?_
      refine vc_seq ?_
      refine vc_regionD rfl ?_
      refine oq5 ?_
      refine oq2 ?_
      refine oq5 ?_
      refine oq2 ?_
      refine oq1 ?_
      refine oq5 ?_
      refine oq2 ?_
      refine oq5 ?_
      refine oq2 ?_
      refine oq4 ?_
      refine oq4 ?_
      refine run_q rfl trivial rfl rfl rfl ⟨rfl, by (try simp only [Int.toNat_natCast]); omega, by (try simp only [Int.toNat_natCast]); omega⟩ ?_
      refine oq4 ?_
      refine run_buildSlice rfl trivial rfl rfl rfl rfl rfl rfl rfl rfl rfl ?_
      refine run_append rfl rfl rfl rfl trivial rfl rfl rfl rfl rfl rfl rfl rfl rfl rfl rfl (by first | omega | exact app_room (by omega) rfl) ?_
      refine oq5 ?_
      refine Sx.run_store rfl trivial rfl rfl rfl rfl rfl rfl rfl ?_
      refine run_nil ⟨rfl, ?_⟩
      refine vc_region ?_
      refine oq1 ?_
      refine oq5 ?_
      refine oq2 ?_
      refine oq5 ?_
      refine oq2 ?_
      refine oq4 ?_
      refine oq4 ?_
      refine run_q rfl trivial rfl rfl rfl (quo64 (by (try simp only [Int.toNat_natCast]); omega) (by (try simp only [Int.toNat_natCast]); omega) (by (try simp only [Int.toNat_natCast]); omega)) ?_
      refine oq1 ?_
      refine run_nil ?_
      refine vc_region ?_
      refine oq1 ?_
      refine oq4 ?_
      refine oq1 ?_
      refine run_nil ?_
      refine ⟨(m + 1, M ++ [(c.moves.getD m default).q.lo + n % ((c.moves.getD m default).q.hi - (c.moves.getD m default).q.lo + 1)], n / ((c.moves.getD m default).q.hi - (c.moves.getD m default).q.lo + 1)), ⟨by dsimp only; omega, by simp; omega, by dsimp only; omega, by dsimp only; omega, ?_⟩, by dsimp only; omega, ent_ren [(5, 7)] (.cons (.refl _) rfl (.cons (.refl _) rfl (.cons (.refl _) rfl (.cons (.refl _) rfl (.cons (.refl _) rfl (.nil)))))) (.cons rfl (.refl _) rfl rfl (.cons rfl (.refl _) rfl rfl (.cons rfl (.refl _) rfl rfl (.cons rfl (.refl _) rfl rfl (.cons rfl (.refl _) rfl rfl (.cons rfl (rowI_snoc M _ rfl (.refl _)) rfl rfl (.nil))))))) rfl rfl (fun i hi => absurd hi (Nat.not_lt_zero i))⟩
      rw [← hx, drop_at default (show m < c.moves.length by omega), nthM]; simp
    ·
      try simp only [Int.toNat_natCast] at h2
      refine vc_exit ?_
      refine vc_seq ?_
      obtain rfl : m = c.moves.length := by omega
      rw [drop_end (Nat.le_refl _)] at hx
      simp only [nthM, List.append_nil] at hx
      subst hx
      refine vc_ent (ent_fz 3 rfl) ?_
      refine vc_ent (ent_fz 4 rfl) ?_
      refine vc_ent (ent_fz 5 rfl) ?_
      refine vc_region ?_
      refine oq2 ?_
      refine Sx.run_store rfl trivial rfl rfl rfl rfl rfl rfl rfl ?_
      refine run_nil ?_
      refine vc_ret ?_
      exact ret_pure rfl (Nat.le_of_ble_eq_true rfl) rfl (AVle.refl _)

theorem nthC_spec : ∀ (ks : List Csk) (n : Int), (nthC ks n).1.length = ks.length ∧ ∀ i, i < ks.length → ∃ a b, (nthC ks n).1.getD i (0, 0) = ((ks.getD i default).start.lo + a % ((ks.getD i default).start.hi - (ks.getD i default).start.lo + 1), (ks.getD i default).leak.lo + b % ((ks.getD i default).leak.hi - (ks.getD i default).leak.lo + 1))
  | [], n => ⟨rfl, fun i hi => by cases hi⟩
  | k :: ks, n => by
    have ih := nthC_spec ks (n / (k.start.hi - k.start.lo + 1) / (k.leak.hi - k.leak.lo + 1))
    refine ⟨by simp [nthC, ih.1], fun i hi => ?_⟩
    cases i with
    | zero => exact ⟨n, n / (k.start.hi - k.start.lo + 1), rfl⟩
    | succ i =>
      obtain ⟨a, b, h⟩ := ih.2 i (by simpa using hi)
      exact ⟨a, b, by simpa [nthC] using h⟩
theorem nthM_spec : ∀ (ms : List Mov) (n : Int), (nthM ms n).length = ms.length ∧ ∀ i, i < ms.length → ∃ a, (nthM ms n).getD i 0 = (ms.getD i default).q.lo + a % ((ms.getD i default).q.hi - (ms.getD i default).q.lo + 1)
  | [], n => ⟨rfl, fun i hi => by cases hi⟩
  | m :: ms, n => by
    have ih := nthM_spec ms (n / (m.q.hi - m.q.lo + 1))
    refine ⟨by simp [nthM, ih.1], fun i hi => ?_⟩
    cases i with
    | zero => exact ⟨n, rfl⟩
    | succ i =>
      obtain ⟨a, h⟩ := ih.2 i (by simpa using hi)
      exact ⟨a, by simpa [nthM] using h⟩
theorem nth_of {c : Clr} (hG : c.Good) (n : Int) : c.ofT (c.nth n) = true := by
  obtain ⟨l1, h1⟩ := nthC_spec c.casks n
  obtain ⟨l2, h2⟩ := nthM_spec c.moves (nthC c.casks n).2
  refine ofT_yes ⟨by simp [Clr.nth, l1], by simp [Clr.nth, l1], by simp [Clr.nth, l2]⟩ (fun j hj => ?_) fun j hj => ?_
  · obtain ⟨a, b, h⟩ := h1 j hj
    have hk := hG.cask _ (getD_mem (d := default) hj)
    have hks := hk.start
    have hkl := hk.leak
    have e1 : (c.nth n).start.getD j 0 = ((nthC c.casks n).1.getD j (0, 0)).1 := by simp [Clr.nth, List.getD, List.getElem?_map]; cases (nthC c.casks n).1[j]? <;> rfl
    have e2 : (c.nth n).leak.getD j 0 = ((nthC c.casks n).1.getD j (0, 0)).2 := by simp [Clr.nth, List.getD, List.getElem?_map]; cases (nthC c.casks n).1[j]? <;> rfl
    have m1 := mod_bd (a := a) (b := (c.casks.getD j default).start.hi - (c.casks.getD j default).start.lo + 1) (by omega)
    have m2 := mod_bd (a := b) (b := (c.casks.getD j default).leak.hi - (c.casks.getD j default).leak.lo + 1) (by omega)
    rw [Clr.caskOk, e1, e2, h]
    simp only [Rng.has, within, Bool.and_eq_true, decide_eq_true_eq]
    omega
  · obtain ⟨a, h⟩ := h2 j hj
    have hk := (hG.move _ (getD_mem (d := default) hj)).2.2.2.1
    have m1 := mod_bd (a := a) (b := (c.moves.getD j default).q.hi - (c.moves.getD j default).q.lo + 1) (by omega)
    rw [Clr.moveOk, show (c.nth n).quantity.getD j 0 = _ from h]
    simp only [Rng.has, within, Bool.and_eq_true, decide_eq_true_eq]
    omega
def Clr.wayOf (c : Clr) (t : Tru) : Way := ⟨c.runs t, t.leak, c.wrongTo (c.runs t) c.gauges.length⟩
def Clr.waysTo (c : Clr) (m : Nat) : List Way := ((List.range m).filter fun n : Nat => c.rightTo (c.nth (n : Int)) c.casks.length).map fun n : Nat => c.wayOf (c.nth (n : Int))
theorem waysTo_yes {c : Clr} {i : Nat} (h : c.rightTo (c.nth (i : Int)) c.casks.length = true) : c.waysTo (i + 1) = c.waysTo i ++ [c.wayOf (c.nth (i : Int))] := by simp [Clr.waysTo, List.range_succ, List.filter_append, h]
theorem waysTo_no {c : Clr} {i : Nat} (h : c.rightTo (c.nth (i : Int)) c.casks.length = false) : c.waysTo (i + 1) = c.waysTo i := by simp [Clr.waysTo, List.range_succ, List.filter_append, h]
theorem waysTo_len (c : Clr) (i : Nat) : (c.waysTo i).length ≤ i := by
  simp only [Clr.waysTo, List.length_map]; exact Nat.le_trans (List.length_filter_le _ _) (by simp)
abbrev rowW (l : List Way) : Blk := rowL 154 3 wayF default l
/-- The smallest set so far, of the sets by bits below a number. -/
def leaveTo (n : Nat) (l : List Way) : Nat → List Int
  | 0 => bitsTo (1 * 2 ^ n - 1) 16
  | b + 1 => if (lessI (bitsTo (b : Int) 16) (leaveTo n l b) 0 && hasWay l (b : Int)) = true then bitsTo (b : Int) 16 else leaveTo n l b

theorem Ways_c (c : Clr) (hG : c.Good) (hm0 : 0 ≤ c.many) (hm : c.many ≤ 3000) : CallC Try.prog 38 0 (lkF [] fun _ => none) [aClr c] 0 (lkF [] fun _ => none) (aWays (c.waysTo c.many.toNat)) := by
  refine callC_intro tabOk mixed Try.func38 rfl rfl rfl rfl ?_
  intro w0 e0 Z0 X hX n
  refine vc_fact 0 clr_len fun hlen => ?_
  refine vc_seq ?_
  refine vc_region ?_
  refine run_box rfl trivial rfl rfl rfl rfl rfl rfl (by intro _ _ h; cases h <;> (intro _; rfl)) ?_
  refine oq1 ?_
  refine run_nil ?_
  refine vc_seq ?_
  refine vc_region ?_
  refine oq1 ?_
  refine run_nil ?_
  refine vc_seq ?_
  refine vc_seq ?_
  refine vc_ent (ent_adoptS 3 154 3 (fun _ _ => .any) rfl) ?_
  refine vc_region ?_
  refine oq1 ?_
  refine run_nil ?_
  refine vc_block ?_
  refine vc_loop (κ := Nat) (fun i => (i : Int) ≤ c.many) (fun i => ⟨[(1, .s (.c (.ptr 0 0))), (3, .s (.c (.own 1))), (4, aInt .i64 (i : Int))], [(0, some (.cells 26 [.f (csks c.casks), .f (movs c.moves), .f (ggs c.gauges)])), (1, some (rowW (c.waysTo i)))], fun _ => none, 2⟩) (fun i => c.many.toNat - i) 0 (by omega) ?_ ?_
  ·
    exact ent_ren [] (.cons (.refl _) rfl (.cons (.refl _) rfl (.cons (.refl _) rfl (.nil)))) (.cons rfl (.refl _) rfl rfl (.cons rfl (rowZ rfl) rfl rfl (.nil))) rfl rfl (fun i hi => absurd hi (Nat.not_lt_zero i))
  rintro i hi
  have hwl := waysTo_len c i
  refine vc_seq ?_
  refine vc_seq ?_
  refine vc_region ?_
  refine oq1 ?_
  refine oq2 ?_
  refine run_callP (Many_c _ (by assumption)) rfl rfl rfl trivial rfl rfl rfl rfl ?_
  refine oq6 ?_
  refine run_nil ?_
  refine vc_condP rfl (fun h1 => ?_) (fun h1 => ?_)
  ·
    try simp only [Int.toNat_natCast] at h1
    refine vc_skip ?_
    refine vc_seq ?_
    refine vc_block ?_
    refine vc_seq ?_
    refine vc_region ?_
    refine oq2 ?_
    refine oq1 ?_
    refine run_callP (Nth_c c (i : Int) hG (by omega) (by omega)) rfl rfl rfl trivial rfl rfl rfl rfl ?_
    refine run_alloc rfl trivial rfl rfl rfl rfl (by intro _ _ h; cases h <;> (intro _; rfl)) ?_
    refine Sx.run_store rfl trivial rfl rfl rfl rfl rfl rfl rfl ?_
    refine run_nil ?_
    refine vc_seq ?_
    refine vc_region ?_
    refine oq2 ?_
    refine oq2 ?_
    refine run_callP (Run_c c (c.nth (i : Int)) hG (nth_of hG _)) rfl rfl rfl trivial rfl rfl rfl rfl ?_
    refine oq1 ?_
    refine oq1 ?_
    refine oq1 ?_
    refine oq1 ?_
    refine oq1 ?_
    refine run_nil ?_
    refine vc_seq ?_
    refine vc_region ?_
    refine oq1 ?_
    refine run_nil ?_
    refine vc_cond rfl (fun h2 => ?_) (fun h2 => ?_)
    ·
      try simp only [Int.toNat_natCast] at h2
      refine vc_regionD rfl ?_
      refine oq1 ?_
      refine oq1 ?_
      refine oq5 ?_
      refine oq2 ?_
      refine oq2 ?_
      refine oq1 ?_
      refine run_callP (Wrong_c c (c.runs (c.nth (i : Int))) hG (runs_shape c _)) rfl rfl rfl trivial rfl rfl rfl rfl ?_
      refine oq1 ?_
      refine run_buildSlice rfl trivial rfl rfl rfl rfl rfl rfl rfl rfl rfl ?_
      refine run_append rfl rfl rfl rfl trivial rfl rfl rfl rfl rfl rfl rfl rfl rfl rfl rfl (by first | omega | exact app_room (by omega) rfl) ?_
      refine oq1 ?_
      refine run_nil ⟨rfl, ?_⟩
      refine vc_region ?_
      refine oq1 ?_
      refine oq4 ?_
      refine oq1 ?_
      refine run_nil ?_
      first
      | (refine ⟨i + 1, by omega, by omega, ent_ren [(1, 3)] (.cons (.refl _) rfl (.cons (.refl _) rfl (.cons (.refl _) rfl (.nil)))) (.cons rfl (.refl _) rfl rfl (.cons rfl ((by rw [waysTo_yes (by assumption)]; exact rowL_snoc (g := wayF) (d := default) _ _ (fall3 (.refl _) (.refl _) (.refl _)))) rfl rfl (.nil))) rfl rfl (fun i hi => absurd hi (Nat.not_lt_zero i))⟩)
      | (refine ⟨i + 1, by omega, by omega, ent_ren [] (.cons (.refl _) rfl (.cons (.refl _) rfl (.cons (.refl _) rfl (.nil)))) (.cons rfl (.refl _) rfl rfl (.cons rfl ((by rw [waysTo_no (by assumption)]; exact .refl _)) rfl rfl (.nil))) rfl rfl (fun i hi => absurd hi (Nat.not_lt_zero i))⟩)
    ·
      try simp only [Int.toNat_natCast] at h2
      refine vc_skip ?_
      refine vc_region ?_
      refine oq1 ?_
      refine oq4 ?_
      refine oq1 ?_
      refine run_nil ?_
      first
      | (refine ⟨i + 1, by omega, by omega, ent_ren [(1, 3)] (.cons (.refl _) rfl (.cons (.refl _) rfl (.cons (.refl _) rfl (.nil)))) (.cons rfl (.refl _) rfl rfl (.cons rfl ((by rw [waysTo_yes (by assumption)]; exact rowL_snoc (g := wayF) (d := default) _ _ (fall3 (.refl _) (.refl _) (.refl _)))) rfl rfl (.nil))) rfl rfl (fun i hi => absurd hi (Nat.not_lt_zero i))⟩)
      | (refine ⟨i + 1, by omega, by omega, ent_ren [] (.cons (.refl _) rfl (.cons (.refl _) rfl (.cons (.refl _) rfl (.nil)))) (.cons rfl (.refl _) rfl rfl (.cons rfl ((by rw [waysTo_no (by assumption)]; exact .refl _)) rfl rfl (.nil))) rfl rfl (fun i hi => absurd hi (Nat.not_lt_zero i))⟩)
  ·
    try simp only [Int.toNat_natCast] at h1
    refine vc_exit ?_
    refine vc_seq ?_
    refine vc_ent (ent_fz 1 rfl) ?_
    refine vc_region ?_
    refine oq1 ?_
    refine oq1 ?_
    refine run_nil ?_
    refine vc_ret ?_
    obtain rfl : i = c.many.toNat := by omega
    exact ret_pure rfl trivial rfl (AVle.refl _)

end Go.Proofs.Ytnkgdapdccpjmaa

/- The smallest set, in the reference; cellars converted. -/
namespace Go.Proofs.Ytnkgdapdccpjmaa
open Go Go.RowKit Go.Sx

theorem pow2_le {i k : Nat} (h : i ≤ k) : (1 : Int) ≤ 2 ^ i ∧ (2 : Int) ^ i ≤ 2 ^ k := by
  constructor
  · have : 0 < (2 : Int) ^ i := Int.pow_pos (by decide)
    omega
  · have : (2 : Nat) ^ i ≤ 2 ^ k := Nat.pow_le_pow_right (by decide) h
    exact_mod_cast this

theorem refLeave_c (c : Clr) (l : List Way) (hg : c.gauges.length ≤ 6) : CallC Try.prog 41 0 (lkF [] fun _ => none) [aClr c, aWays l] 0 (lkF [] fun _ => none) (aInts (leaveTo c.gauges.length l (1 * 2 ^ c.gauges.length : Int).toNat)) := by
  refine callC_intro tabOk mixed Try.func41 rfl rfl rfl rfl ?_
  intro w0 e0 Z0 X hX n
  refine vc_fact 0 clr_len fun hlen => ?_
  have hp2 := pow2_le hg
  refine vc_seq ?_
  refine vc_region ?_
  refine run_box rfl trivial rfl rfl rfl rfl rfl rfl (by intro _ _ h; cases h <;> (intro _; rfl)) ?_
  refine oq1 ?_
  refine run_nil ?_
  refine vc_seq ?_
  refine vc_region ?_
  refine oq5 ?_
  refine oq2 ?_
  refine oq1 ?_
  refine run_q rfl trivial rfl rfl rfl (wrapU (by omega) (by omega)) ?_
  have hs1 := shl64 (a := 1) (b := (c.gauges.length : Int)) (i := c.gauges.length) rfl (by decide) (by omega) (by decide)
  refine run_qW (aInt .i64 (1 * 2 ^ c.gauges.length)) rfl trivial rfl rfl rfl (by show 0 ≤ (c.gauges.length : Int); omega) (AVle.of_eq (aInt_eq hs1.1)) ?_
  refine oq4 ?_
  refine run_callP (Bits_c (1 * 2 ^ c.gauges.length - 1) (by omega)) rfl rfl rfl trivial rfl rfl rfl rfl ?_
  refine oq1 ?_
  refine run_nil ?_
  refine vc_seq ?_
  refine vc_seq ?_
  refine vc_region ?_
  refine oq1 ?_
  refine run_nil ?_
  refine vc_block ?_
  refine vc_loop (κ := Nat) (fun b => (b : Int) ≤ 1 * 2 ^ c.gauges.length) (fun b => ⟨[(1, aWays l), (2, .s (.c (.ptr 0 0))), (5, aInts (leaveTo c.gauges.length l b)), (6, aInt .i64 (b : Int))], [(0, some (.cells 26 [.f (csks c.casks), .f (movs c.moves), .f (ggs c.gauges)]))], fun _ => none, 1⟩) (fun b => (1 * 2 ^ c.gauges.length : Int).toNat - b) 0 (by omega) ?_ ?_
  ·
    exact ent_ren [] (.cons (.refl _) rfl (.cons (.refl _) rfl (.cons (.refl _) rfl (.cons (.refl _) rfl (.nil))))) (.cons rfl (.refl _) rfl rfl (.nil)) rfl rfl (fun i hi => absurd hi (Nat.not_lt_zero i))
  rintro b hb
  refine vc_seq ?_
  refine vc_seq ?_
  refine vc_region ?_
  refine oq1 ?_
  refine oq5 ?_
  refine oq2 ?_
  refine oq1 ?_
  refine run_q rfl trivial rfl rfl rfl (wrapU (by omega) (by omega)) ?_
  refine run_qW (aInt .i64 (1 * 2 ^ c.gauges.length)) rfl trivial rfl rfl rfl (by show 0 ≤ (c.gauges.length : Int); omega) (AVle.of_eq (aInt_eq hs1.1)) ?_
  refine oq6 ?_
  refine run_nil ?_
  refine vc_condP rfl (fun h1 => ?_) (fun h1 => ?_)
  ·
    try simp only [Int.toNat_natCast] at h1
    refine vc_skip ?_
    refine vc_seq ?_
    refine vc_block ?_
    refine vc_seq ?_
    refine vc_region ?_
    refine oq1 ?_
    refine run_callP (Bits_c (b : Int) (by omega)) rfl rfl rfl trivial rfl rfl rfl rfl ?_
    refine oq1 ?_
    refine run_nil ?_
    refine vc_seq ?_
    refine vc_region ?_
    refine oq1 ?_
    refine oq1 ?_
    refine run_callP (Less_c _ _) rfl rfl rfl trivial rfl rfl rfl rfl ?_
    refine oq1 ?_
    refine run_split 29 rfl (fun h2 => ?_) (fun h2 => ?_)
    ·
      try simp only [Int.toNat_natCast] at h2
      refine oq1 ?_
      refine oq1 ?_
      refine run_callP (Has_c _ _) rfl rfl rfl rfl rfl rfl rfl rfl ?_
      refine oq1 ?_
      refine run_nil ?_
      refine vc_cond rfl (fun h3 => ?_) (fun h3 => ?_)
      ·
        try simp only [Int.toNat_natCast] at h3
        refine vc_region ?_
        refine oq1 ?_
        refine oq1 ?_
        refine run_nil ?_
        refine vc_region ?_
        refine oq1 ?_
        refine oq4 ?_
        refine oq1 ?_
        refine run_nil ?_
        refine ⟨b + 1, by omega, by omega, ent_ren [] (.cons (.refl _) rfl (.cons (.refl _) rfl (.cons (.of_eq (by rw [leaveTo]; first | (rw [if_pos (by simp_all)]; rfl) | (rw [if_neg (by simp_all)]; rfl))) rfl (.cons (.refl _) rfl (.nil))))) (.cons rfl (.refl _) rfl rfl (.nil)) rfl rfl (fun i hi => absurd hi (Nat.not_lt_zero i))⟩
      ·
        try simp only [Int.toNat_natCast] at h3
        refine vc_skip ?_
        refine vc_region ?_
        refine oq1 ?_
        refine oq4 ?_
        refine oq1 ?_
        refine run_nil ?_
        refine ⟨b + 1, by omega, by omega, ent_ren [] (.cons (.refl _) rfl (.cons (.refl _) rfl (.cons (.of_eq (by rw [leaveTo]; first | (rw [if_pos (by simp_all)]; rfl) | (rw [if_neg (by simp_all)]; rfl))) rfl (.cons (.refl _) rfl (.nil))))) (.cons rfl (.refl _) rfl rfl (.nil)) rfl rfl (fun i hi => absurd hi (Nat.not_lt_zero i))⟩
    ·
      try simp only [Int.toNat_natCast] at h2
      refine osk ?_
      refine osk ?_
      refine osk ?_
      refine oq1 ?_
      refine run_nil ?_
      refine vc_cond rfl (fun h => Bool.noConfusion h) (fun _ => ?_)
      refine vc_skip ?_
      refine vc_region ?_
      refine oq1 ?_
      refine oq4 ?_
      refine oq1 ?_
      refine run_nil ?_
      refine ⟨b + 1, by omega, by omega, ent_ren [] (.cons (.refl _) rfl (.cons (.refl _) rfl (.cons (.of_eq (by rw [leaveTo]; first | (rw [if_pos (by simp_all)]; rfl) | (rw [if_neg (by simp_all)]; rfl))) rfl (.cons (.refl _) rfl (.nil))))) (.cons rfl (.refl _) rfl rfl (.nil)) rfl rfl (fun i hi => absurd hi (Nat.not_lt_zero i))⟩
  ·
    try simp only [Int.toNat_natCast] at h1
    refine vc_exit ?_
    refine vc_seq ?_
    refine vc_region ?_
    refine oq1 ?_
    refine oq1 ?_
    refine run_nil ?_
    refine vc_ret ?_
    obtain rfl : b = (1 * 2 ^ c.gauges.length : Int).toNat := by omega
    refine ret_pure rfl trivial rfl (AVle.of_eq ?_)
    rfl

theorem Cellar_c (c : Clr) (h1 : c.casks.length ≤ 9) (h2 : c.moves.length ≤ 9) (h3 : c.gauges.length ≤ 9) (h4 : ∀ k ∈ c.casks, k.marks.length ≤ 9) : CallC Try.prog 15 0 (lkF [] fun _ => none) [aClr c] 0 (lkF [] fun _ => none) (aClr c) := by
  refine callC_intro tabOk mixed Try.func15 rfl rfl rfl rfl ?_
  intro w0 e0 Z0 X hX n
  refine vc_fact 0 clr_len fun hlen => ?_
  refine vc_seq ?_
  refine vc_region ?_
  refine run_box rfl trivial rfl rfl rfl rfl rfl rfl (by intro _ _ h; cases h <;> (intro _; rfl)) ?_
  refine run_alloc rfl trivial rfl rfl rfl rfl (by intro _ _ h; cases h <;> (intro _; rfl)) ?_
  refine run_nil ?_
  refine vc_seq ?_
  refine vc_region ?_
  refine run_alloc rfl trivial rfl rfl rfl rfl (by intro _ _ h; cases h <;> (intro _; rfl)) ?_
  refine run_nil ?_
  refine vc_seq ?_
  refine vc_seq ?_
  refine vc_ent (ent_adoptC 2 0 104 5 (fun _ _ => .any) rfl rfl rfl) ?_
  refine vc_region ?_
  refine oq1 ?_
  refine run_nil ?_
  refine vc_block ?_
  refine vc_loop (κ := Nat) (fun i => i ≤ c.casks.length) (fun i => ⟨[(1, .s (.c (.ptr 0 0))), (2, .s (.c (.ptr 1 0))), (3, .s (.c (.ptr 2 0))), (4, aInt .i64 (i : Int))], [(0, some (.cells 26 [.f (csks c.casks), .f (movs c.moves), .f (ggs c.gauges)])), (1, some (.cells 41 [.f (.lit (.slice none 0 0)), .f (.lit (.slice none 0 0)), .f (.lit (.slice none 0 0))])), (2, some (.cells 41 [.own 3, .f (.lit (.slice none 0 0)), .f (.lit (.slice none 0 0))])), (3, some (rowL 104 5 cskF default (c.casks.take i)))], fun _ => none, 4⟩) (fun i => c.casks.length - i) 0 (Nat.zero_le _) ?_ ?_
  ·
    exact ent_ren [] (.cons (.refl _) rfl (.cons (.refl _) rfl (.cons (.refl _) rfl (.cons (.refl _) rfl (.nil))))) (.cons rfl (.refl _) rfl rfl (.cons rfl (.refl _) rfl rfl (.cons rfl (.refl _) rfl rfl (.cons rfl (rowZ rfl) rfl rfl (.nil))))) rfl rfl (fun i hi => absurd hi (Nat.not_lt_zero i))
  rintro i hi
  have htl : (c.casks.take i).length = i := by rw [List.length_take]; omega
  refine vc_seq ?_
  refine vc_seq ?_
  refine vc_region ?_
  refine oq1 ?_
  refine oq5 ?_
  refine oq2 ?_
  refine oq1 ?_
  refine oq6 ?_
  refine run_nil ?_
  refine vc_condP rfl (fun h1 => ?_) (fun h1 => ?_)
  ·
    try simp only [Int.toNat_natCast] at h1
    refine vc_skip ?_
    refine vc_seq ?_
    refine vc_block ?_
    refine vc_seq ?_
    refine vc_regionD rfl ?_
    have hk4 := h4 _ (getD_mem (d := default) (show i < c.casks.length by omega))
    refine oq5 ?_
    refine oq2 ?_
    refine oq1 ?_
    refine oq3 ?_
    refine oq5 ?_
    refine oq2 ?_
    refine run_callP (to_c _) rfl rfl rfl trivial rfl rfl rfl rfl ?_
    refine oq5 ?_
    refine oq2 ?_
    refine oq1 ?_
    refine oq3 ?_
    refine oq5 ?_
    refine oq2 ?_
    refine run_callP (to_c _) rfl rfl rfl trivial rfl rfl rfl rfl ?_
    refine oq1 ?_
    refine run_alloc rfl trivial rfl rfl rfl rfl (by intro _ _ h; cases h <;> (intro _; rfl)) ?_
    refine Sx.run_store rfl trivial rfl rfl rfl rfl rfl rfl rfl ?_
    refine run_nil ⟨rfl, ?_⟩
    refine vc_seq ?_
    refine vc_seq ?_
    refine vc_ent (ent_adoptC 4 0 106 2 (fun _ _ => .any) rfl rfl rfl) ?_
    refine vc_region ?_
    refine oq1 ?_
    refine run_nil ?_
    refine vc_block ?_
    refine vc_loop (κ := Nat) (fun m => m ≤ (c.casks.getD i default).marks.length) (fun m => ⟨[(1, .s (.c (.ptr 0 0))), (2, .s (.c (.ptr 1 0))), (3, .s (.c (.ptr 2 0))), (4, aInt .i64 (i : Int)), (5, .s (.c (.ptr 4 0))), (6, aInt .i64 (m : Int))], [(0, some (.cells 26 [.f (csks c.casks), .f (movs c.moves), .f (ggs c.gauges)])), (1, some (.cells 41 [.f (.lit (.slice none 0 0)), .f (.lit (.slice none 0 0)), .f (.lit (.slice none 0 0))])), (2, some (.cells 41 [.own 3, .f (.lit (.slice none 0 0)), .f (.lit (.slice none 0 0))])), (3, some (rowL 104 5 cskF default (c.casks.take i))), (4, some (.cells 104 [.own 5, .f (i64 (c.casks.getD i default).start.lo), .f (i64 (c.casks.getD i default).start.hi), .f (i64 (c.casks.getD i default).leak.lo), .f (i64 (c.casks.getD i default).leak.hi)])), (5, some (rowL 106 2 mkF default ((c.casks.getD i default).marks.take m)))], fun _ => none, 6⟩) (fun m => (c.casks.getD i default).marks.length - m) 0 (Nat.zero_le _) ?_ ?_
    ·
      exact ent_ren [] (.cons (.refl _) rfl (.cons (.refl _) rfl (.cons (.refl _) rfl (.cons (.refl _) rfl (.cons (.refl _) rfl (.cons (.refl _) rfl (.nil))))))) (.cons rfl (.refl _) rfl rfl (.cons rfl (.refl _) rfl rfl (.cons rfl (.refl _) rfl rfl (.cons rfl (.refl _) rfl rfl (.cons rfl (.refl _) rfl rfl (.cons rfl (rowZ rfl) rfl rfl (.nil))))))) rfl rfl (fun i hi => absurd hi (Nat.not_lt_zero i))
    rintro m hm
    have hml : ((c.casks.getD i default).marks.take m).length = m := by rw [List.length_take]; omega
    refine vc_seq ?_
    refine vc_seq ?_
    refine vc_region ?_
    refine oq1 ?_
    refine oq5 ?_
    refine oq2 ?_
    refine oq1 ?_
    refine oq3 ?_
    refine oq5 ?_
    refine oq2 ?_
    refine oq1 ?_
    refine oq6 ?_
    refine run_nil ?_
    refine vc_condP rfl (fun h2 => ?_) (fun h2 => ?_)
    ·
      try simp only [Int.toNat_natCast] at h2
      refine vc_skip ?_
      refine vc_seq ?_
      refine vc_block ?_
      refine vc_regionD rfl ?_
      refine oq5 ?_
      refine oq2 ?_
      refine oq5 ?_
      refine oq2 ?_
      refine oq1 ?_
      refine oq3 ?_
      refine oq5 ?_
      refine oq2 ?_
      refine oq1 ?_
      refine oq3 ?_
      refine oq5 ?_
      refine oq2 ?_
      refine oq5 ?_
      refine oq2 ?_
      refine oq1 ?_
      refine oq3 ?_
      refine oq5 ?_
      refine oq2 ?_
      refine oq1 ?_
      refine oq3 ?_
      refine oq5 ?_
      refine oq2 ?_
      refine oq1 ?_
      refine run_buildSlice rfl trivial rfl rfl rfl rfl rfl rfl rfl rfl rfl ?_
      refine run_append rfl rfl rfl rfl trivial rfl rfl rfl rfl rfl rfl rfl rfl rfl rfl rfl (by first | omega | exact app_room (by omega) rfl) ?_
      refine oq5 ?_
      refine Sx.run_store rfl trivial rfl rfl rfl rfl rfl rfl rfl ?_
      refine run_nil ⟨by kernel_rfl, ?_⟩
      refine vc_region ?_
      refine oq1 ?_
      refine oq4 ?_
      refine oq1 ?_
      refine run_nil ?_
      refine ⟨m + 1, by omega, by omega, ent_ren [(5, 6)] (.cons (.refl _) rfl (.cons (.refl _) rfl (.cons (.refl _) rfl (.cons (.refl _) rfl (.cons (.refl _) rfl (.cons (.refl _) rfl (.nil))))))) (.cons rfl (.refl _) rfl rfl (.cons rfl (.refl _) rfl rfl (.cons rfl (.refl _) rfl rfl (.cons rfl (.refl _) rfl rfl (.cons rfl (.refl _) rfl rfl (.cons rfl ((by rw [take_at default (show m < (c.casks.getD i default).marks.length by omega)]; exact rowL_snoc (g := mkF) (d := default) _ _ (fall2 (.refl _) (.refl _)))) rfl rfl (.nil))))))) rfl rfl (fun i hi => absurd hi (Nat.not_lt_zero i))⟩
    ·
      try simp only [Int.toNat_natCast] at h2
      refine vc_exit ?_
      refine vc_ent (ent_fz 5 rfl) ?_
      refine vc_region ?_
      refine oq5 ?_
      refine oq2 ?_
      refine oq2 ?_
      refine run_buildSlice rfl trivial rfl rfl rfl rfl rfl rfl rfl rfl rfl ?_
      refine run_append rfl rfl rfl rfl trivial rfl rfl rfl rfl rfl rfl rfl rfl rfl rfl rfl (by first | omega | exact app_room (by omega) rfl) ?_
      refine oq5 ?_
      refine Sx.run_store rfl trivial rfl rfl rfl rfl rfl rfl rfl ?_
      refine run_nil ?_
      refine vc_region ?_
      refine oq1 ?_
      refine oq4 ?_
      refine oq1 ?_
      refine run_nil ?_
      obtain rfl : m = (c.casks.getD i default).marks.length := by omega
      refine ⟨i + 1, by omega, by omega, ent_ren [(3, 6)] (.cons (.refl _) rfl (.cons (.refl _) rfl (.cons (.refl _) rfl (.cons (.refl _) rfl (.nil))))) (.cons rfl (.refl _) rfl rfl (.cons rfl (.refl _) rfl rfl (.cons rfl (.refl _) rfl rfl (.cons rfl ((by rw [take_at default (show i < c.casks.length by omega)]; exact rowL_snoc (g := cskF) (d := default) _ _ (fall5 (by rw [List.take_length]; exact .refl _) (.refl _) (.refl _) (.refl _) (.refl _)))) rfl rfl (.nil))))) rfl rfl (fun i hi => absurd hi (Nat.not_lt_zero i))⟩
  ·
    try simp only [Int.toNat_natCast] at h1
    refine vc_exit ?_
    refine vc_seq ?_
    refine vc_seq ?_
    obtain rfl : i = c.casks.length := by omega
    refine vc_ent (ent_adoptC 2 1 108 4 (fun _ _ => .any) rfl rfl rfl) ?_
    refine vc_region ?_
    refine oq1 ?_
    refine run_nil ?_
    refine vc_block ?_
    refine vc_loop (κ := Nat) (fun u => u ≤ c.moves.length) (fun u => ⟨[(1, .s (.c (.ptr 0 0))), (2, .s (.c (.ptr 1 0))), (3, .s (.c (.ptr 2 0))), (7, aInt .i64 (u : Int))], [(0, some (.cells 26 [.f (csks c.casks), .f (movs c.moves), .f (ggs c.gauges)])), (1, some (.cells 41 [.f (.lit (.slice none 0 0)), .f (.lit (.slice none 0 0)), .f (.lit (.slice none 0 0))])), (2, some (.cells 41 [.own 3, .own 4, .f (.lit (.slice none 0 0))])), (3, some (rowL 104 5 cskF default (c.casks))), (4, some (rowL 108 4 movF default (c.moves.take u)))], fun _ => none, 5⟩) (fun u => c.moves.length - u) 0 (Nat.zero_le _) ?_ ?_
    ·
      exact ent_ren [] (.cons (.refl _) rfl (.cons (.refl _) rfl (.cons (.refl _) rfl (.cons (.refl _) rfl (.nil))))) (.cons rfl (.refl _) rfl rfl (.cons rfl (.refl _) rfl rfl (.cons rfl (.refl _) rfl rfl (.cons rfl ((by rw [List.take_length]; exact .refl _)) rfl rfl (.cons rfl (rowZ rfl) rfl rfl (.nil)))))) rfl rfl (fun i hi => absurd hi (Nat.not_lt_zero i))
    rintro u hu
    have hul : (c.moves.take u).length = u := by rw [List.length_take]; omega
    refine vc_seq ?_
    refine vc_seq ?_
    refine vc_region ?_
    refine oq1 ?_
    refine oq5 ?_
    refine oq2 ?_
    refine oq1 ?_
    refine oq6 ?_
    refine run_nil ?_
    refine vc_condP rfl (fun h3 => ?_) (fun h3 => ?_)
    ·
      try simp only [Int.toNat_natCast] at h3
      refine vc_skip ?_
      refine vc_seq ?_
      refine vc_block ?_
      refine vc_regionD rfl ?_
      refine oq5 ?_
      refine oq2 ?_
      refine oq5 ?_
      refine oq2 ?_
      refine oq1 ?_
      refine oq3 ?_
      refine oq5 ?_
      refine oq2 ?_
      refine oq5 ?_
      refine oq2 ?_
      refine oq1 ?_
      refine oq3 ?_
      refine oq5 ?_
      refine oq2 ?_
      refine oq5 ?_
      refine oq2 ?_
      refine oq1 ?_
      refine oq3 ?_
      refine oq5 ?_
      refine oq2 ?_
      refine run_callP (to_c _) rfl rfl rfl trivial rfl rfl rfl rfl ?_
      refine oq1 ?_
      refine run_buildSlice rfl trivial rfl rfl rfl rfl rfl rfl rfl rfl rfl ?_
      refine run_append rfl rfl rfl rfl trivial rfl rfl rfl rfl rfl rfl rfl rfl rfl rfl rfl (by first | omega | exact app_room (by omega) rfl) ?_
      refine oq5 ?_
      refine Sx.run_store rfl trivial rfl rfl rfl rfl rfl rfl rfl ?_
      refine run_nil ⟨by kernel_rfl, ?_⟩
      refine vc_region ?_
      refine oq1 ?_
      refine oq4 ?_
      refine oq1 ?_
      refine run_nil ?_
      refine ⟨u + 1, by omega, by omega, ent_ren [(4, 5)] (.cons (.refl _) rfl (.cons (.refl _) rfl (.cons (.refl _) rfl (.cons (.refl _) rfl (.nil))))) (.cons rfl (.refl _) rfl rfl (.cons rfl (.refl _) rfl rfl (.cons rfl (.refl _) rfl rfl (.cons rfl (.refl _) rfl rfl (.cons rfl ((by rw [take_at default (show u < c.moves.length by omega)]; exact rowL_snoc (g := movF) (d := default) _ _ (fall4 (.refl _) (.refl _) (.refl _) (.refl _)))) rfl rfl (.nil)))))) rfl rfl (fun i hi => absurd hi (Nat.not_lt_zero i))⟩
    ·
      try simp only [Int.toNat_natCast] at h3
      refine vc_exit ?_
      refine vc_seq ?_
      refine vc_seq ?_
      obtain rfl : u = c.moves.length := by omega
      refine vc_ent (ent_adoptC 2 2 100 5 (fun _ _ => .any) rfl rfl rfl) ?_
      refine vc_region ?_
      refine oq1 ?_
      refine run_nil ?_
      refine vc_block ?_
      refine vc_loop (κ := Nat) (fun q => q ≤ c.gauges.length) (fun q => ⟨[(1, .s (.c (.ptr 0 0))), (2, .s (.c (.ptr 1 0))), (3, .s (.c (.ptr 2 0))), (8, aInt .i64 (q : Int))], [(0, some (.cells 26 [.f (csks c.casks), .f (movs c.moves), .f (ggs c.gauges)])), (1, some (.cells 41 [.f (.lit (.slice none 0 0)), .f (.lit (.slice none 0 0)), .f (.lit (.slice none 0 0))])), (2, some (.cells 41 [.own 3, .own 4, .own 5])), (3, some (rowL 104 5 cskF default (c.casks))), (4, some (rowL 108 4 movF default (c.moves))), (5, some (rowL 100 5 ggF default (c.gauges.take q)))], fun _ => none, 6⟩) (fun q => c.gauges.length - q) 0 (Nat.zero_le _) ?_ ?_
      ·
        exact ent_ren [] (.cons (.refl _) rfl (.cons (.refl _) rfl (.cons (.refl _) rfl (.cons (.refl _) rfl (.nil))))) (.cons rfl (.refl _) rfl rfl (.cons rfl (.refl _) rfl rfl (.cons rfl (.refl _) rfl rfl (.cons rfl (.refl _) rfl rfl (.cons rfl ((by rw [List.take_length]; exact .refl _)) rfl rfl (.cons rfl (rowZ rfl) rfl rfl (.nil))))))) rfl rfl (fun i hi => absurd hi (Nat.not_lt_zero i))
      rintro q hq
      have hql : (c.gauges.take q).length = q := by rw [List.length_take]; omega
      refine vc_seq ?_
      refine vc_seq ?_
      refine vc_region ?_
      refine oq1 ?_
      refine oq5 ?_
      refine oq2 ?_
      refine oq1 ?_
      refine oq6 ?_
      refine run_nil ?_
      refine vc_condP rfl (fun h4 => ?_) (fun h4 => ?_)
      ·
        try simp only [Int.toNat_natCast] at h4
        refine vc_skip ?_
        refine vc_seq ?_
        refine vc_block ?_
        refine vc_seq ?_
        refine vc_region ?_
        refine oq5 ?_
        refine oq2 ?_
        refine oq1 ?_
        refine oq3 ?_
        refine oq2 ?_
        refine run_alloc rfl trivial rfl rfl rfl rfl (by intro _ _ h; cases h <;> (intro _; rfl)) ?_
        refine Sx.run_store rfl trivial rfl rfl rfl rfl rfl rfl rfl ?_
        refine run_nil ?_
        refine vc_regionD rfl ?_
        refine oq5 ?_
        refine oq2 ?_
        refine oq5 ?_
        refine oq2 ?_
        refine oq5 ?_
        refine oq2 ?_
        refine oq5 ?_
        refine oq2 ?_
        refine run_callP (to_c _) rfl rfl rfl trivial rfl rfl rfl rfl ?_
        refine oq5 ?_
        refine oq2 ?_
        refine oq1 ?_
        refine run_buildSlice rfl trivial rfl rfl rfl rfl rfl rfl rfl rfl rfl ?_
        refine run_append rfl rfl rfl rfl trivial rfl rfl rfl rfl rfl rfl rfl rfl rfl rfl rfl (by first | omega | exact app_room (by omega) rfl) ?_
        refine oq5 ?_
        refine Sx.run_store rfl trivial rfl rfl rfl rfl rfl rfl rfl ?_
        refine run_nil ⟨rfl, ?_⟩
        refine vc_region ?_
        refine oq1 ?_
        refine oq4 ?_
        refine oq1 ?_
        refine run_nil ?_
        refine ⟨q + 1, by omega, by omega, ent_ren [(5, 7)] (.cons (.refl _) rfl (.cons (.refl _) rfl (.cons (.refl _) rfl (.cons (.refl _) rfl (.nil))))) (.cons rfl (.refl _) rfl rfl (.cons rfl (.refl _) rfl rfl (.cons rfl (.refl _) rfl rfl (.cons rfl (.refl _) rfl rfl (.cons rfl (.refl _) rfl rfl (.cons rfl ((by rw [take_at default (show q < c.gauges.length by omega)]; exact rowL_snoc (g := ggF) (d := default) _ _ (fall5 (.refl _) (.refl _) (.refl _) (.refl _) (.refl _)))) rfl rfl (.nil))))))) rfl rfl (fun i hi => absurd hi (Nat.not_lt_zero i))⟩
      ·
        try simp only [Int.toNat_natCast] at h4
        refine vc_exit ?_
        refine vc_seq ?_
        obtain rfl : q = c.gauges.length := by omega
        refine vc_ent (ent_fz 3 rfl) ?_
        refine vc_ent (ent_fz 4 rfl) ?_
        refine vc_ent (ent_fz 5 rfl) ?_
        refine vc_region ?_
        refine oq2 ?_
        refine Sx.run_store rfl trivial rfl rfl rfl rfl rfl rfl rfl ?_
        refine run_nil ?_
        refine vc_ret ?_
        exact ret_pure rfl (Nat.le_of_ble_eq_true rfl) rfl (AVle.agg (.cons (.refl _) (.cons (.refl _) (.cons (.f (by rw [List.take_length]; exact .refl _)) .nil))))

end Go.Proofs.Ytnkgdapdccpjmaa

/- Play. -/
namespace Go.Proofs.Ytnkgdapdccpjmaa
open Go Go.RowKit Go.Sx

/-- The row of a cask while the start is added to what it has gained. -/
def Clr.mix (c : Clr) (t : Tru) (i n m : Nat) : Int := if m < n then c.cont t i m else c.gain (i : Int) (t.leak.getD i 0) t.quantity m
theorem mix_at (c : Clr) (t : Tru) (i n : Nat) : c.mix t i n n = c.gain (i : Int) (t.leak.getD i 0) t.quantity n := if_neg (Nat.lt_irrefl n)
theorem mix_done {c : Clr} {t : Tru} {i n m : Nat} (h : m < n) : c.mix t i n m = c.cont t i m := if_pos h
abbrev rowMix (c : Clr) (t : Tru) (i n : Nat) : Blk := .row 3 1 (c.moves.length + 1) fun m _ => i64 (c.mix t i n m)
theorem mix_set {c : Clr} {t : Tru} {i n : Nat} {x : Int} (hx : x = c.cont t i n) : BlkLe (.row 3 1 (c.moves.length + 1) (setAt (fun m _ => i64 (c.mix t i n m)) n 0 [FV.int .i64 x])) (rowMix c t i (n + 1)) :=
  .row rfl fun m j hm hj => .of_eq (by
    obtain rfl : j = 0 := by omega
    subst hx
    simp only [setAt]
    by_cases h : m = n
    · subst h
      rw [if_pos (by simp), mix_done (Nat.lt_succ_self m)]; rfl
    · rw [if_neg (by simp [h])]
      show i64 _ = i64 _
      congr 1
      simp only [Clr.mix]
      by_cases h2 : m < n
      · rw [if_pos h2, if_pos (by omega)]
      · rw [if_neg h2, if_neg (by omega)])
def Clr.rowOk0 (c : Clr) (t : Tru) (i n : Nat) : Bool := (List.range n).all fun m => within (c.cont t i m) 0 (c.casks.getD i default).top.content
theorem rowOk0_succ (c : Clr) (t : Tru) (i n : Nat) : c.rowOk0 t i (n + 1) = (c.rowOk0 t i n && within (c.cont t i n) 0 (c.casks.getD i default).top.content) := by simp [Clr.rowOk0, List.range_succ]
def Clr.playOk (c : Clr) (t : Tru) : Bool := (List.range c.casks.length).all fun i => c.rowOk0 t i (c.moves.length + 1)
def Clr.playA (c : Clr) (t : Tru) : List (List Int) × Int :=
  if c.check = 0 then (if c.ofT t = true then (if c.playOk t = true then (c.runs t, 0) else ([], 11)) else ([], 2)) else ([], c.check)
abbrev aLE (x : List (List Int)) (e : Int) : AV := .tup [.c (.f (intss x)), .c (.f (i64 e))]
theorem aLE_eq {p : List (List Int) × Int} {x : List (List Int)} {a : Int} (h : p = (x, a)) : aLE x a = AV.ren (piOf []) (aLE p.1 p.2) := by subst h; rfl
theorem aLE_nil {p : List (List Int) × Int} {a : Int} (h : p = ([], a)) : AVle (.tup [.c (.f (.lit (.slice none 0 0))), .c (.f (i64 a))]) (AV.ren (piOf []) (aLE p.1 p.2)) := by
  subst h; exact .tup (.cons (.c (.f .nil)) (.cons (.refl _) .nil))
theorem pad_get (l : List Int) (i : Nat) : (l ++ List.drop l.length [0, 0, 0, 0]).getD i 0 = l.getD i 0 := by
  by_cases h : i < l.length
  · simp [List.getD, List.getElem?_append, h]
  · simp only [List.getD, List.getElem?_append, h, if_false, List.getElem?_drop, List.getElem?_eq_none (Nat.le_of_not_lt h), Option.getD_none]
    rw [show l.length + (i - l.length) = i by omega]
    match i with
    | 0 => rfl
    | 1 => rfl
    | 2 => rfl
    | 3 => rfl
    | i + 4 => rfl

theorem Play_c (c : Clr) (t : Tru) : CallC Try.prog 25 0 (lkF [] fun _ => none) [aClr c, aTru t] 0 (lkF [] fun _ => none) (aLE (c.playA t).1 (c.playA t).2) := by
  refine callC_intro tabOk mixed Try.func25 rfl rfl rfl rfl ?_
  intro w0 e0 Z0 X hX n
  refine vc_fact 0 clr_len fun hlen => ?_
  refine vc_fact 1 tru_len fun hlen1 => ?_
  refine vc_seq ?_
  refine vc_region ?_
  refine run_box rfl trivial rfl rfl rfl rfl rfl rfl (by intro _ _ h; cases h <;> (intro _; rfl)) ?_
  refine run_box rfl trivial rfl rfl rfl rfl rfl rfl (by intro _ _ h; cases h <;> (intro _; rfl)) ?_
  refine oq1 ?_
  refine oq1 ?_
  refine run_nil ?_
  refine vc_seq ?_
  refine vc_seq ?_
  refine vc_region ?_
  refine oq2 ?_
  refine run_callP (check_c _) rfl rfl rfl trivial rfl rfl rfl rfl ?_
  refine oq1 ?_
  refine run_nil ?_
  refine vc_seq ?_
  refine vc_region ?_
  refine oq1 ?_
  refine oq6 ?_
  refine run_nil ?_
  refine vc_condN rfl (fun h1 => ?_) (fun h1 => ?_)
  ·
    try simp only [Int.toNat_natCast] at h1
    refine vc_seq ?_
    refine vc_region ?_
    refine oq1 ?_
    refine oq1 ?_
    refine oq1 ?_
    refine run_nil ?_
    refine vc_ret ?_
    refine ret_pure rfl ⟨trivial, trivial, trivial⟩ rfl ?_
    first
    | (refine aLE_nil ?_; rw [Clr.playA, if_neg (by simp_all)]; done)
    | (refine aLE_nil ?_; rw [Clr.playA, if_pos hchk, if_neg (by simp_all)]; done)
    | (refine aLE_nil ?_; rw [Clr.playA, if_pos hchk, if_pos hof, if_neg]; rw [Clr.playOk, range_not (i := i) (by omega) (range_not (i := m) (by omega) (by rw [← mix_done (c := c) (t := t) (i := i) (Nat.lt_succ_self m)]; simp_all))]; simp; done)
    | (obtain rfl : i = c.casks.length := (by omega); have hp : c.playA t = (c.runs t, 0) := (by rw [Clr.playA, if_pos hchk, if_pos hof, if_pos]; rw [Clr.playOk]; exact range_all hok); rw [hp]; exact .tup (.cons (.c (.f intssMap_le)) (.cons (.refl _) .nil)))
  ·
    try simp only [Int.toNat_natCast] at h1
    have hchk : c.check = 0 := by simpa using h1
    have hG := Clr.good hchk
    have hgc := hG.casks
    have hgm := hG.moves
    refine vc_skip ?_
    refine vc_seq ?_
    refine vc_seq ?_
    refine vc_region ?_
    refine oq2 ?_
    refine oq2 ?_
    refine run_callP (of67_c _ _) rfl rfl rfl trivial rfl rfl rfl rfl ?_
    refine oq1 ?_
    refine run_nil ?_
    refine vc_cond rfl (fun h2 => ?_) (fun h2 => ?_)
    ·
      try simp only [Int.toNat_natCast] at h2
      refine vc_seq ?_
      refine vc_region ?_
      refine oq1 ?_
      refine oq1 ?_
      refine run_nil ?_
      refine vc_ret ?_
      refine ret_pure rfl ⟨trivial, trivial, trivial⟩ rfl ?_
      first
      | (refine aLE_nil ?_; rw [Clr.playA, if_neg (by simp_all)]; done)
      | (refine aLE_nil ?_; rw [Clr.playA, if_pos hchk, if_neg (by simp_all)]; done)
      | (refine aLE_nil ?_; rw [Clr.playA, if_pos hchk, if_pos hof, if_neg]; rw [Clr.playOk, range_not (i := i) (by omega) (range_not (i := m) (by omega) (by rw [← mix_done (c := c) (t := t) (i := i) (Nat.lt_succ_self m)]; simp_all))]; simp; done)
      | (obtain rfl : i = c.casks.length := (by omega); have hp : c.playA t = (c.runs t, 0) := (by rw [Clr.playA, if_pos hchk, if_pos hof, if_pos]; rw [Clr.playOk]; exact range_all hok); rw [hp]; exact .tup (.cons (.c (.f intssMap_le)) (.cons (.refl _) .nil)))
    ·
      try simp only [Int.toNat_natCast] at h2
      have hof : c.ofT t = true := by simpa using h2
      obtain ⟨hl, hokc, hokm⟩ := ofT_elim hof
      have htq := tru_q hG hof
      refine vc_skip ?_
      refine vc_seq ?_
      refine vc_region ?_
      refine run_alloc rfl trivial rfl rfl rfl rfl (by intro _ _ h; cases h <;> (intro _; rfl)) ?_
      refine run_nil ?_
      refine vc_seq ?_
      refine vc_pinI 2 [0, 0, 0, 0] rfl rfl (fun i hi => by match i, hi with | 0, _ => rfl | 1, _ => rfl | 2, _ => rfl | 3, _ => rfl) fun gq => ?_
      refine vc_regionD rfl ?_
      refine run_sliceA rfl trivial rfl rfl rfl rfl rfl rfl rfl rfl ?_
      refine oq5 ?_
      refine oq2 ?_
      refine run_copyA (id := 2) [0, 0, 0, 0] t.quantity rfl rfl rfl rfl trivial rfl rfl rfl rfl rfl rfl rfl rfl rfl rfl (by omega) (fun i hi => rfl) rfl ?_
      refine run_nil ⟨rfl, ?_⟩
      refine vc_ent (ent_unpinI 2 (t.quantity ++ List.drop t.quantity.length [0, 0, 0, 0]) 4 (by simp; omega) rfl) ?_
      refine vc_seq ?_
      refine vc_region ?_
      refine oq1 ?_
      refine run_nil ?_
      refine vc_seq ?_
      refine vc_seq ?_
      refine vc_ent (ent_adoptS 8 43 1 (fun _ _ => .any) rfl) ?_
      refine vc_region ?_
      refine oq5 ?_
      refine oq2 ?_
      refine oq1 ?_
      refine oq1 ?_
      refine run_nil ?_
      refine vc_block ?_
      refine vc_loop (κ := Nat) (fun i => i ≤ c.casks.length ∧ ∀ k, k < i → c.rowOk0 t k (c.moves.length + 1) = true) (fun i => ⟨[(2, .s (.c (.ptr 0 0))), (3, .s (.c (.ptr 1 0))), (7, .s (.c (.ptr 2 0))), (8, .s (.c (.own 3))), (27, .s (.c (.f (csks c.casks)))), (28, aInt .i64 (c.casks.length : Int)), (29, aInt .i64 (i : Int))], [(0, some (.cells 41 [.f (csks c.casks), .f (movs c.moves), .f (ggs c.gauges)])), (1, some (.cells 72 [.f (ints t.start), .f (ints t.leak), .f (ints t.quantity)])), (2, some (arrQ t.quantity)), (3, some (rowRuns c t i))], fun _ => none, 4⟩) (fun i => c.casks.length - i) 0 ⟨Nat.zero_le _, by omega⟩ ?_ ?_
      ·
        exact ent_ren [] (.cons (.refl _) rfl (.cons (.refl _) rfl (.cons (.refl _) rfl (.cons (.refl _) rfl (.cons (.refl _) rfl (.cons (.refl _) rfl (.cons (.refl _) rfl (.nil)))))))) (.cons rfl (.refl _) rfl rfl (.cons rfl (.refl _) rfl rfl (.cons rfl (.arr fun i j hi hj => .of_eq (congrArg (FV.int .i64) (pad_get t.quantity i))) rfl rfl (.cons rfl (rowZ rfl) rfl rfl (.nil))))) rfl rfl (fun i hi => absurd hi (Nat.not_lt_zero i))
      rintro i ⟨hi, hok⟩
      refine vc_seq ?_
      refine vc_region ?_
      refine oq6 ?_
      refine run_nil ?_
      refine vc_seq ?_
      refine vc_condP rfl (fun h3 => ?_) (fun h3 => ?_)
      ·
        try simp only [Int.toNat_natCast] at h3
        refine vc_skip ?_
        refine vc_seq ?_
        refine vc_block ?_
        refine vc_seq ?_
        refine vc_region ?_
        refine oq1 ?_
        refine oq3 ?_
        refine oq2 ?_
        refine run_alloc rfl trivial rfl rfl rfl rfl (by intro _ _ h; cases h <;> (intro _; rfl)) ?_
        refine oq1 ?_
        refine Sx.run_store rfl trivial rfl rfl rfl rfl rfl rfl rfl ?_
        refine run_nil ?_
        refine vc_seq ?_
        refine vc_regionD rfl ?_
        have htl := tru_l hG hof i
        refine oq2 ?_
        refine oq1 ?_
        refine oq5 ?_
        refine oq2 ?_
        refine oq1 ?_
        refine oq3 ?_
        refine oq2 ?_
        refine oq2 ?_
        refine run_call (gains_c c (i : Int) (t.leak.getD i 0) t.quantity (by omega) (by omega) (by omega) (by assumption)) [] rfl rfl rfl trivial rfl rfl rfl rfl .nil rfl rfl rfl rfl rfl ?_
        refine oq1 ?_
        refine run_nil ⟨rfl, ?_⟩
        refine vc_seq ?_
        refine vc_seq ?_
        refine vc_region ?_
        refine oq1 ?_
        refine oq1 ?_
        refine oq1 ?_
        refine run_nil ?_
        refine vc_block ?_
        refine vc_loop (κ := Nat) (fun m => m ≤ c.moves.length + 1 ∧ c.rowOk0 t i m = true) (fun m => ⟨[(2, .s (.c (.ptr 0 0))), (3, .s (.c (.ptr 1 0))), (7, .s (.c (.ptr 2 0))), (8, .s (.c (.own 3))), (9, aInt .i64 (i : Int)), (10, .s (.c (.ptr 4 0))), (11, .s (.c (.own 5))), (27, .s (.c (.f (csks c.casks)))), (28, aInt .i64 (c.casks.length : Int)), (29, aInt .i64 (i : Int)), (44, aInt .i64 ((c.moves.length + 1 : Nat) : Int)), (45, aInt .i64 (m : Int))], [(0, some (.cells 41 [.f (csks c.casks), .f (movs c.moves), .f (ggs c.gauges)])), (1, some (.cells 72 [.f (ints t.start), .f (ints t.leak), .f (ints t.quantity)])), (2, some (arrQ t.quantity)), (3, some (rowRuns c t i)), (4, some (.cells 104 [.f (mks (c.casks.getD i default).marks), .f (i64 (c.casks.getD i default).start.lo), .f (i64 (c.casks.getD i default).start.hi), .f (i64 (c.casks.getD i default).leak.lo), .f (i64 (c.casks.getD i default).leak.hi)])), (5, some (rowMix c t i m))], fun _ => none, 6⟩) (fun m => c.moves.length + 1 - m) 0 ⟨Nat.zero_le _, rfl⟩ ?_ ?_
        ·
          exact ent_ren [] (.cons (.refl _) rfl (.cons (.refl _) rfl (.cons (.refl _) rfl (.cons (.refl _) rfl (.cons (.refl _) rfl (.cons (.refl _) rfl (.cons (.refl _) rfl (.cons (.refl _) rfl (.cons (.refl _) rfl (.cons (.refl _) rfl (.cons (.refl _) rfl (.cons (.refl _) rfl (.nil))))))))))))) (.cons rfl (.refl _) rfl rfl (.cons rfl (.refl _) rfl rfl (.cons rfl (.refl _) rfl rfl (.cons rfl (.refl _) rfl rfl (.cons rfl (.refl _) rfl rfl (.cons rfl (.row rfl fun m j hm hj => .of_eq (congrArg (FV.int .i64) (if_neg (Nat.not_lt_zero m)).symm)) rfl rfl (.nil))))))) rfl rfl (fun i hi => absurd hi (Nat.not_lt_zero i))
        rintro m ⟨hm, hrow⟩
        have hgb := gain_bounds (c := c) (cask := (i : Int)) htl.1 htl.2 htq m
        have hcb := fun hm4 => cont_bounds hG hof i m hm4
        have hmx := mix_at c t i m
        refine vc_seq ?_
        refine vc_region ?_
        refine oq6 ?_
        refine run_nil ?_
        refine vc_seq ?_
        refine vc_condP rfl (fun h4 => ?_) (fun h4 => ?_)
        ·
          try simp only [Int.toNat_natCast] at h4
          refine vc_skip ?_
          refine vc_seq ?_
          refine vc_block ?_
          refine vc_seq ?_
          refine vc_region ?_
          refine oq1 ?_
          refine oq1 ?_
          refine run_nil ?_
          refine vc_seq ?_
          refine vc_regionD rfl ?_
          have hts := tru_s hG hof i
          refine oq1 ?_
          refine oq1 ?_
          refine oq3 ?_
          refine oq2 ?_
          refine oq5 ?_
          refine oq2 ?_
          refine oq1 ?_
          refine oq3 ?_
          refine oq2 ?_
          refine oq4 ?_
          refine oq3 ?_
          refine run_storeR true rfl trivial rfl rfl rfl rfl rfl rfl rfl rfl rfl (by (try simp only [Int.toNat_natCast]); omega) ?_
          refine run_nil ⟨rfl, ?_⟩
          refine vc_ent (ent_blk 5 rfl (mix_set (by simp only [Int.toNat_natCast, mix_at, Clr.cont]; omega))) ?_
          refine vc_seq ?_
          refine vc_regionD rfl ?_
          refine oq1 ?_
          refine oq1 ?_
          refine oq3 ?_
          refine oq2 ?_
          refine oq2 ?_
          refine run_callP (top_c (c.casks.getD i default) (hG.cask _ (getD_mem (d := default) (show i < c.casks.length by omega))).marks.pos) rfl rfl rfl trivial rfl rfl rfl rfl ?_
          refine run_q rfl trivial rfl rfl rfl (Nat.le_of_ble_eq_true rfl) ?_
          refine run_callP (within_c _ _ _) rfl rfl rfl trivial rfl rfl rfl rfl ?_
          refine oq1 ?_
          refine run_nil ⟨rfl, ?_⟩
          refine vc_cond rfl (fun h5 => ?_) (fun h5 => ?_)
          ·
            try simp only [Int.toNat_natCast] at h5
            refine vc_seq ?_
            refine vc_region ?_
            refine oq1 ?_
            refine oq1 ?_
            refine run_nil ?_
            refine vc_ret ?_
            refine ret_pure rfl ⟨trivial, trivial, trivial⟩ rfl ?_
            first
            | (refine aLE_nil ?_; rw [Clr.playA, if_neg (by simp_all)]; done)
            | (refine aLE_nil ?_; rw [Clr.playA, if_pos hchk, if_neg (by simp_all)]; done)
            | (refine aLE_nil ?_; rw [Clr.playA, if_pos hchk, if_pos hof, if_neg]; rw [Clr.playOk, range_not (i := i) (by omega) (range_not (i := m) (by omega) (by rw [← mix_done (c := c) (t := t) (i := i) (Nat.lt_succ_self m)]; simp_all))]; simp; done)
            | (obtain rfl : i = c.casks.length := (by omega); have hp : c.playA t = (c.runs t, 0) := (by rw [Clr.playA, if_pos hchk, if_pos hof, if_pos]; rw [Clr.playOk]; exact range_all hok); rw [hp]; exact .tup (.cons (.c (.f intssMap_le)) (.cons (.refl _) .nil)))
          ·
            try simp only [Int.toNat_natCast] at h5
            refine vc_skip ?_
            refine vc_region ?_
            refine oq4 ?_
            refine oq1 ?_
            refine run_nil ?_
            refine ⟨m + 1, ⟨by omega, ?_⟩, by omega, ent_ren [] (.cons (.refl _) rfl (.cons (.refl _) rfl (.cons (.refl _) rfl (.cons (.refl _) rfl (.cons (.refl _) rfl (.cons (.refl _) rfl (.cons (.refl _) rfl (.cons (.refl _) rfl (.cons (.refl _) rfl (.cons (.refl _) rfl (.cons (.refl _) rfl (.cons (.refl _) rfl (.nil))))))))))))) (.cons rfl (.refl _) rfl rfl (.cons rfl (.refl _) rfl rfl (.cons rfl (.refl _) rfl rfl (.cons rfl (.refl _) rfl rfl (.cons rfl (.refl _) rfl rfl (.cons rfl (.refl _) rfl rfl (.nil))))))) rfl rfl (fun i hi => absurd hi (Nat.not_lt_zero i))⟩
            rw [rowOk0_succ, hrow, Bool.true_and, ← mix_done (c := c) (t := t) (i := i) (Nat.lt_succ_self m)]; simp_all
        ·
          try simp only [Int.toNat_natCast] at h4
          refine vc_exit ?_
          refine vc_ent (ent_fz 5 rfl) ?_
          refine vc_region ?_
          refine oq1 ?_
          refine oq1 ?_
          refine run_buildSlice rfl trivial rfl rfl rfl rfl rfl rfl rfl rfl rfl ?_
          refine run_append rfl rfl rfl rfl trivial rfl rfl rfl rfl rfl rfl rfl rfl rfl rfl rfl (by first | omega | exact app_room (by omega) rfl) ?_
          refine oq1 ?_
          refine run_nil ?_
          refine vc_region ?_
          refine oq4 ?_
          refine oq1 ?_
          refine run_nil ?_
          obtain rfl : m = c.moves.length + 1 := by omega
          refine ⟨i + 1, ⟨by omega, upto_step hok hrow⟩, by omega, ent_ren [(3, 6)] (.cons (.refl _) rfl (.cons (.refl _) rfl (.cons (.refl _) rfl (.cons (.refl _) rfl (.cons (.refl _) rfl (.cons (.refl _) rfl (.cons (.refl _) rfl (.nil)))))))) (.cons rfl (.refl _) rfl rfl (.cons rfl (.refl _) rfl rfl (.cons rfl (.refl _) rfl rfl (.cons rfl (rowX_snoc (F := fun a => ints (c.rowT t a)) (FVle.trans (.sl rfl fun m j hm hj => .of_eq (congrArg (FV.int .i64) (mix_done (c := c) (t := t) (i := i) hm))) intsMap_le)) rfl rfl (.nil))))) rfl rfl (fun i hi => absurd hi (Nat.not_lt_zero i))⟩
      ·
        try simp only [Int.toNat_natCast] at h3
        refine vc_exit ?_
        refine vc_seq ?_
        refine vc_ent (ent_fz 3 rfl) ?_
        refine vc_region ?_
        refine oq1 ?_
        refine oq1 ?_
        refine oq1 ?_
        refine run_nil ?_
        refine vc_ret ?_
        refine ret_pure rfl ⟨trivial, trivial, trivial⟩ rfl ?_
        first
        | (refine aLE_nil ?_; rw [Clr.playA, if_neg (by simp_all)]; done)
        | (refine aLE_nil ?_; rw [Clr.playA, if_pos hchk, if_neg (by simp_all)]; done)
        | (refine aLE_nil ?_; rw [Clr.playA, if_pos hchk, if_pos hof, if_neg]; rw [Clr.playOk, range_not (i := i) (by omega) (range_not (i := m) (by omega) (by rw [← mix_done (c := c) (t := t) (i := i) (Nat.lt_succ_self m)]; simp_all))]; simp; done)
        | (obtain rfl : i = c.casks.length := (by omega); have hp : c.playA t = (c.runs t, 0) := (by rw [Clr.playA, if_pos hchk, if_pos hof, if_pos]; rw [Clr.playOk]; exact range_all hok); rw [hp]; exact .tup (.cons (.c (.f intssMap_le)) (.cons (.refl _) .nil)))

end Go.Proofs.Ytnkgdapdccpjmaa

/- ProveTruth. -/
namespace Go.Proofs.Ytnkgdapdccpjmaa
open Go Go.RowKit Go.Sx

def Clr.testG (c : Clr) (Y : List (List Int)) (g : Gg) : Bool := (c.mean g).has ((Y.getD g.cask.toNat []).getD g.after.toNat 0)
def Clr.proves (c : Clr) (t : Tru) : Bool := decide ((c.playA t).2 = 0) && c.gauges.all (c.testG (c.playA t).1)

theorem play_ok {c : Clr} {t : Tru} (h : (c.playA t).2 = 0) : c.check = 0 := by
  rw [Clr.playA] at h
  split at h
  · assumption
  · exact h
theorem play_runs {c : Clr} {t : Tru} (h : (c.playA t).2 = 0) : (c.playA t).1 = c.runs t := by
  rw [Clr.playA] at h ⊢
  split at h
  · split at h
    · split at h
      · simp [*]
      · simp at h
    · simp at h
  · rename_i h1; exact absurd h h1
theorem play_shape {c : Clr} {t : Tru} (h : (c.playA t).2 = 0) : Shape c (c.playA t).1 := by rw [play_runs h]; exact runs_shape c t

theorem prove1_c (c : Clr) (Y : List (List Int)) (g : Gg) (hG : c.Good) (hY : Shape c Y) (hg : (0 ≤ g.cask ∧ g.cask < c.casks.length) ∧ (0 ≤ g.after ∧ g.after ≤ c.moves.length) ∧ (0 ≤ g.dip.lo ∧ g.dip.lo ≤ g.dip.hi ∧ g.dip.hi ≤ (c.cask g.cask).top.dip)) : CallC Try.prog 73 2 (lkF [(0, some (.cells 41 [.f (csks c.casks), .f (movs c.moves), .f (ggs c.gauges)])), (1, some (.cells 69 [.f (intss Y)]))] fun _ => none) [aGg g, .s (.c (.ptr 0 0)), .s (.c (.ptr 1 0))] 2 (lkF [(0, some (.cells 41 [.f (csks c.casks), .f (movs c.moves), .f (ggs c.gauges)])), (1, some (.cells 69 [.f (intss Y)]))] fun _ => none) (aBool (c.testG Y g)) := by
  refine callC_intro tabOk mixed Try.func73 rfl rfl rfl rfl ?_
  intro w0 e0 Z0 X hX n
  have hyl := hY.len
  have hyr := hY.row g.cask.toNat (by omega)
  refine vc_seq ?_
  refine vc_region ?_
  refine run_box rfl trivial rfl rfl rfl rfl rfl rfl (by intro _ _ h; cases h <;> (intro _; rfl)) ?_
  refine oq1 ?_
  refine run_nil ?_
  refine vc_seq ?_
  refine vc_regionD rfl ?_
  refine oq2 ?_
  refine oq2 ?_
  refine run_callP (mean_c c g hg.1.1 hg.1.2 (hG.cask _ (Clr.cask_mem hg.1.1 hg.1.2)).marks hg.2.2.1 hg.2.2.2.1 hg.2.2.2.2) rfl rfl rfl trivial rfl rfl rfl rfl ?_
  refine oq2 ?_
  refine oq5 ?_
  refine oq2 ?_
  refine run_q rfl trivial rfl rfl rfl ⟨rfl, by omega, by omega⟩ ?_
  refine oq2 ?_
  refine oq5 ?_
  refine oq2 ?_
  refine run_q rfl trivial rfl rfl rfl ⟨rfl, by omega, by omega⟩ ?_
  refine oq2 ?_
  refine run_callP (has_c _ _) rfl rfl rfl trivial rfl rfl rfl rfl ?_
  refine oq1 ?_
  refine run_nil ⟨rfl, ?_⟩
  refine vc_ret ?_
  refine ⟨[], _, _, rfl, trivial, AVle.of_eq ?_, rfl, .cons rfl (.refl _) rfl rfl (.cons rfl (.refl _) rfl rfl (.nil)), rfl, fun i hi => rfl⟩
  rfl

theorem proveA_c (c : Clr) (Y : List (List Int)) (g : Gg) (hG : c.Good) (hY : Shape c Y) (hg : (0 ≤ g.cask ∧ g.cask < c.casks.length) ∧ (0 ≤ g.after ∧ g.after ≤ c.moves.length) ∧ (0 ≤ g.dip.lo ∧ g.dip.lo ≤ g.dip.hi ∧ g.dip.hi ≤ (c.cask g.cask).top.dip)) : CallC Try.prog 98 3 (lkF [(0, some (.cells 139 [.fn 73 [] [1, 2]])), (1, some (.cells 41 [.f (csks c.casks), .f (movs c.moves), .f (ggs c.gauges)])), (2, some (.cells 69 [.f (intss Y)]))] fun _ => none) [aGg g, .s (.c (.ptr 0 0))] 3 (lkF [(0, some (.cells 139 [.fn 73 [] [1, 2]])), (1, some (.cells 41 [.f (csks c.casks), .f (movs c.moves), .f (ggs c.gauges)])), (2, some (.cells 69 [.f (intss Y)]))] fun _ => none) (aBool (!c.testG Y g)) := by
  refine callC_intro tabOk mixed Try.func98 rfl rfl rfl rfl ?_
  intro w0 e0 Z0 X hX n
  refine vc_seq ?_
  refine vc_region ?_
  refine run_box rfl trivial rfl rfl rfl rfl rfl rfl (by intro _ _ h; cases h <;> (intro _; rfl)) ?_
  refine oq1 ?_
  refine run_nil ?_
  refine vc_seq ?_
  refine vc_region ?_
  refine oq2 ?_
  refine oq2 ?_
  refine run_call (prove1_c c Y g hG hY hg) [(0, 1), (1, 2)] rfl rfl rfl trivial rfl rfl rfl rfl (.cons rfl (.refl _) rfl rfl (.cons rfl (.refl _) rfl rfl (.nil))) rfl rfl rfl rfl rfl ?_
  refine oq1 ?_
  refine oq1 ?_
  refine run_nil ?_
  refine vc_ret ?_
  refine ⟨[], _, _, rfl, trivial, AVle.of_eq ?_, rfl, .cons rfl (.refl _) rfl rfl (.cons rfl (.refl _) rfl rfl (.cons rfl (.refl _) rfl rfl (.nil))), rfl, fun i hi => rfl⟩
  rfl

theorem proveI_c (c : Clr) (Y : List (List Int)) (l : List Gg) (hG : c.Good) (hY : Shape c Y) (hl : ∀ g ∈ l, (0 ≤ g.cask ∧ g.cask < c.casks.length) ∧ (0 ≤ g.after ∧ g.after ≤ c.moves.length) ∧ (0 ≤ g.dip.lo ∧ g.dip.lo ≤ g.dip.hi ∧ g.dip.hi ≤ (c.cask g.cask).top.dip)) : CallC Try.prog 113 3 (lkF [(0, some (.cells 139 [.fn 73 [] [1, 2]])), (1, some (.cells 41 [.f (csks c.casks), .f (movs c.moves), .f (ggs c.gauges)])), (2, some (.cells 69 [.f (intss Y)]))] fun _ => none) [.s (.c (.f (ggs l))), .s (.c (.fn 98 [] [0]))] 3 (lkF [(0, some (.cells 139 [.fn 73 [] [1, 2]])), (1, some (.cells 41 [.f (csks c.casks), .f (movs c.moves), .f (ggs c.gauges)])), (2, some (.cells 69 [.f (intss Y)]))] fun _ => none) (aInt .i64 (idxN default (c.testG Y) l 0)) := by
  refine callC_intro tabOk mixed Try.func113 rfl rfl rfl rfl ?_
  intro w0 e0 Z0 X hX n
  refine vc_len 0 rfl fun hlen => ?_
  refine vc_seq ?_
  refine vc_region ?_
  refine oq1 ?_
  refine run_nil ?_
  refine vc_seq ?_
  refine vc_seq ?_
  refine vc_region ?_
  refine oq1 ?_
  refine oq1 ?_
  refine oq1 ?_
  refine run_nil ?_
  refine vc_block ?_
  refine vc_loop (κ := Nat) (fun i => i ≤ l.length ∧ idxN default (c.testG Y) l i = idxN default (c.testG Y) l 0) (fun i => ⟨[(0, .s (.c (.f (ggs l)))), (1, .s (.c (.fn 98 [] [0]))), (7, aInt .i64 l.length), (8, aInt .i64 (i : Int))], [(0, some (.cells 139 [.fn 73 [] [1, 2]])), (1, some (.cells 41 [.f (csks c.casks), .f (movs c.moves), .f (ggs c.gauges)])), (2, some (.cells 69 [.f (intss Y)]))], fun _ => none, 3⟩) (fun i => l.length - i) 0 ⟨Nat.zero_le _, rfl⟩ ?_ ?_
  ·
    exact ent_ren [] (.cons (.refl _) rfl (.cons (.refl _) rfl (.cons (.refl _) rfl (.cons (.refl _) rfl (.nil))))) (.cons rfl (.refl _) rfl rfl (.cons rfl (.refl _) rfl rfl (.cons rfl (.refl _) rfl rfl (.nil)))) rfl rfl (fun i hi => ⟨rfl, Nat.lt_of_lt_of_le hi (Nat.le_of_ble_eq_true rfl)⟩)
  rintro i ⟨hi, hx⟩
  refine vc_seq ?_
  refine vc_region ?_
  refine oq6 ?_
  refine run_nil ?_
  refine vc_seq ?_
  refine vc_condP rfl (fun h1 => ?_) (fun h1 => ?_)
  ·
    try simp only [Int.toNat_natCast] at h1
    refine vc_skip ?_
    refine vc_seq ?_
    refine vc_block ?_
    refine vc_seq ?_
    refine vc_region ?_
    refine oq1 ?_
    refine oq1 ?_
    refine run_nil ?_
    refine vc_seq ?_
    refine vc_region ?_
    have hmem := hl _ (getD_mem (d := default) (show i < l.length by omega))
    refine oq1 ?_
    refine oq1 ?_
    refine oq1 ?_
    refine oq3 ?_
    refine oq2 ?_
    refine run_call (proveA_c c Y (l.getD i default) hG hY hmem) [] rfl rfl rfl trivial rfl rfl rfl rfl (.cons rfl (.refl _) rfl rfl (.cons rfl (.refl _) rfl rfl (.cons rfl (.refl _) rfl rfl (.nil)))) rfl rfl rfl rfl rfl ?_
    refine run_nil ?_
    refine vc_cond rfl (fun h2 => ?_) (fun h2 => ?_)
    ·
      try simp only [Int.toNat_natCast] at h2
      refine vc_seq ?_
      refine vc_region ?_
      refine oq1 ?_
      refine oq1 ?_
      refine run_nil ?_
      refine vc_ret ?_
      refine ⟨[], _, _, rfl, trivial, AVle.of_eq ?_, rfl, .cons rfl (.refl _) rfl rfl (.cons rfl (.refl _) rfl rfl (.cons rfl (.refl _) rfl rfl (.nil))), rfl, fun i hi => rfl⟩
      refine aInt_eq ?_
      rw [← hx, idxN]
      first
        | (rw [if_pos (by omega), if_pos (by simpa using h2)])
        | (rw [if_neg (by omega)])
    ·
      try simp only [Int.toNat_natCast] at h2
      refine vc_skip ?_
      refine vc_region ?_
      refine oq4 ?_
      refine oq1 ?_
      refine run_nil ?_
      refine ⟨i + 1, ⟨by omega, ?_⟩, by omega, ent_ren [] (.cons (.refl _) rfl (.cons (.refl _) rfl (.cons (.refl _) rfl (.cons (.refl _) rfl (.nil))))) (.cons rfl (.refl _) rfl rfl (.cons rfl (.refl _) rfl rfl (.cons rfl (.refl _) rfl rfl (.nil)))) rfl rfl (fun i hi => ⟨rfl, Nat.lt_of_lt_of_le hi (Nat.le_of_ble_eq_true rfl)⟩)⟩
      rw [← hx, idxN.eq_def default (c.testG Y) l i, if_pos (by omega), if_neg (by simpa using h2)]
  ·
    try simp only [Int.toNat_natCast] at h1
    refine vc_exit ?_
    refine vc_seq ?_
    refine vc_region ?_
    refine oq1 ?_
    refine run_nil ?_
    refine vc_ret ?_
    refine ⟨[], _, _, rfl, trivial, AVle.of_eq ?_, rfl, .cons rfl (.refl _) rfl rfl (.cons rfl (.refl _) rfl rfl (.cons rfl (.refl _) rfl rfl (.nil))), rfl, fun i hi => rfl⟩
    refine aInt_eq ?_
    rw [← hx, idxN]
    first
      | (rw [if_pos (by omega), if_pos (by simpa using h2)])
      | (rw [if_neg (by omega)])

theorem proveC_c (c : Clr) (Y : List (List Int)) (l : List Gg) (hG : c.Good) (hY : Shape c Y) (hl : ∀ g ∈ l, (0 ≤ g.cask ∧ g.cask < c.casks.length) ∧ (0 ≤ g.after ∧ g.after ≤ c.moves.length) ∧ (0 ≤ g.dip.lo ∧ g.dip.lo ≤ g.dip.hi ∧ g.dip.hi ≤ (c.cask g.cask).top.dip)) : CallC Try.prog 97 3 (lkF [(0, some (.cells 139 [.fn 73 [] [1, 2]])), (1, some (.cells 41 [.f (csks c.casks), .f (movs c.moves), .f (ggs c.gauges)])), (2, some (.cells 69 [.f (intss Y)]))] fun _ => none) [.s (.c (.f (ggs l))), .s (.c (.fn 98 [] [0]))] 3 (lkF [(0, some (.cells 139 [.fn 73 [] [1, 2]])), (1, some (.cells 41 [.f (csks c.casks), .f (movs c.moves), .f (ggs c.gauges)])), (2, some (.cells 69 [.f (intss Y)]))] fun _ => none) (aBool (decide (0 ≤ idxN default (c.testG Y) l 0))) := by
  refine callC_intro tabOk mixed Try.func97 rfl rfl rfl rfl ?_
  intro w0 e0 Z0 X hX n
  refine vc_seq ?_
  refine vc_region ?_
  refine oq1 ?_
  refine run_nil ?_
  refine vc_seq ?_
  refine vc_region ?_
  refine oq1 ?_
  refine oq1 ?_
  refine run_call (proveI_c c Y l hG hY hl) [] rfl rfl rfl trivial rfl rfl rfl rfl (.cons rfl (.refl _) rfl rfl (.cons rfl (.refl _) rfl rfl (.cons rfl (.refl _) rfl rfl (.nil)))) rfl rfl rfl rfl rfl ?_
  refine oq6 ?_
  refine oq1 ?_
  refine run_nil ?_
  refine vc_ret ?_
  refine ⟨[], _, _, rfl, trivial, AVle.of_eq ?_, rfl, .cons rfl (.refl _) rfl rfl (.cons rfl (.refl _) rfl rfl (.cons rfl (.refl _) rfl rfl (.nil))), rfl, fun i hi => rfl⟩
  rfl

theorem proveL_c (c : Clr) (Y : List (List Int)) (l : List Gg) (hG : c.Good) (hY : Shape c Y) (hl : ∀ g ∈ l, (0 ≤ g.cask ∧ g.cask < c.casks.length) ∧ (0 ≤ g.after ∧ g.after ≤ c.moves.length) ∧ (0 ≤ g.dip.lo ∧ g.dip.lo ≤ g.dip.hi ∧ g.dip.hi ≤ (c.cask g.cask).top.dip)) : CallC Try.prog 72 2 (lkF [(0, some (.cells 41 [.f (csks c.casks), .f (movs c.moves), .f (ggs c.gauges)])), (1, some (.cells 69 [.f (intss Y)]))] fun _ => none) [.s (.c (.f (ggs l))), .s (.c (.fn 73 [] [0, 1]))] 2 (lkF [(0, some (.cells 41 [.f (csks c.casks), .f (movs c.moves), .f (ggs c.gauges)])), (1, some (.cells 69 [.f (intss Y)]))] fun _ => none) (aBool (l.all (c.testG Y))) := by
  refine callC_intro tabOk mixed Try.func72 rfl rfl rfl rfl ?_
  intro w0 e0 Z0 X hX n
  refine vc_seq ?_
  refine vc_region ?_
  refine run_box rfl trivial rfl rfl rfl rfl rfl rfl (by intro _ _ h; cases h <;> (intro _; rfl)) ?_
  refine oq1 ?_
  refine run_nil ?_
  refine vc_seq ?_
  refine vc_region ?_
  refine oq1 ?_
  refine oq1 ?_
  refine run_call (proveC_c c Y l hG hY hl) [(0, 2), (1, 0), (2, 1)] rfl rfl rfl trivial rfl rfl rfl rfl (.cons rfl (.refl _) rfl rfl (.cons rfl (.refl _) rfl rfl (.cons rfl (.refl _) rfl rfl (.nil)))) rfl rfl rfl rfl rfl ?_
  refine oq1 ?_
  refine oq1 ?_
  refine run_nil ?_
  refine vc_ret ?_
  refine ⟨[], _, _, rfl, trivial, AVle.of_eq ?_, rfl, .cons rfl (.refl _) rfl rfl (.cons rfl (.refl _) rfl rfl (.nil)), rfl, fun i hi => rfl⟩
  refine aBool_eq ?_
  rw [idxN_all default (c.testG Y) l l.length 0 (by omega)]; simp

theorem ProveTruth_c (c : Clr) (t : Tru) : CallC Try.prog 27 0 (lkF [] fun _ => none) [aClr c, aTru t] 0 (lkF [] fun _ => none) (aBool (c.proves t)) := by
  refine callC_intro tabOk mixed Try.func27 rfl rfl rfl rfl ?_
  intro w0 e0 Z0 X hX n
  refine vc_seq ?_
  refine vc_region ?_
  refine run_box rfl trivial rfl rfl rfl rfl rfl rfl (by intro _ _ h; cases h <;> (intro _; rfl)) ?_
  refine run_box rfl trivial rfl rfl rfl rfl rfl rfl (by intro _ _ h; cases h <;> (intro _; rfl)) ?_
  refine oq1 ?_
  refine run_nil ?_
  refine vc_seq ?_
  refine vc_region ?_
  refine oq2 ?_
  refine oq2 ?_
  refine run_callP (Play_c _ _) rfl rfl rfl trivial rfl rfl rfl rfl ?_
  refine oq1 ?_
  refine oq1 ?_
  refine oq1 ?_
  refine run_alloc rfl trivial rfl rfl rfl rfl (by intro _ _ h; cases h <;> (intro _; rfl)) ?_
  refine Sx.run_store rfl trivial rfl rfl rfl rfl rfl rfl rfl ?_
  refine oq1 ?_
  refine run_nil ?_
  refine vc_seq ?_
  refine vc_region ?_
  refine oq1 ?_
  refine oq6 ?_
  refine oq1 ?_
  refine run_splitP 15 rfl (fun h1 => ?_) (fun h1 => ?_)
  ·
    try simp only [Int.toNat_natCast] at h1
    refine oq5 ?_
    refine oq2 ?_
    refine oq1 ?_
    have hp0 : (c.playA t).2 = 0 := by assumption
    have hchk : c.check = 0 := play_ok hp0
    have hG := Clr.good hchk
    refine run_call (proveL_c c (c.playA t).1 c.gauges hG (play_shape hp0) hG.gauge) [(0, 0), (1, 2)] rfl rfl rfl rfl rfl rfl rfl rfl (.cons rfl (.refl _) rfl rfl (.cons rfl (.refl _) rfl rfl (.nil))) rfl rfl rfl rfl rfl ?_
    refine oq1 ?_
    refine oq1 ?_
    refine run_nil ?_
    refine vc_ret ?_
    refine ret_pure rfl trivial rfl (AVle.of_eq ?_)
    refine aBool_eq ?_
    simp_all [Clr.proves]
  ·
    try simp only [Int.toNat_natCast] at h1
    refine osk ?_
    refine osk ?_
    refine osk ?_
    refine osk ?_
    refine oq1 ?_
    refine oq1 ?_
    refine run_nil ?_
    refine vc_ret ?_
    refine ret_pure rfl trivial rfl (AVle.of_eq ?_)
    refine aBool_eq ?_
    simp_all [Clr.proves]

end Go.Proofs.Ytnkgdapdccpjmaa

/- The starts with which all is right, for each cask and each leak: as the program finds them. -/
namespace Go.Proofs.Ytnkgdapdccpjmaa
open Go Go.RowKit Go.Sx

theorem keyT : KeyT Try.prog tab 162 := ⟨_, _, _, _, _, _, _, rfl, rfl, rfl, rfl, rfl, rfl, rfl, rfl, rfl, rfl, rfl, rfl⟩

theorem content_bounds {k : Csk} (h : GoodMarks k.marks) {d : Int} (h0 : 0 ≤ d) (h1 : d ≤ k.top.dip) : 0 ≤ k.content d ∧ k.content d ≤ 1000 := by
  have hs := seg_spec h (dip := d) h1 (k.marks.length - 1) 1 rfl (Nat.le_refl _) (by have := h.len; omega) (.inl rfl)
  obtain ⟨a1, a2, a3, a4⟩ := hs
  have hb1 := h.bounds (seg k.marks d 1 - 1) (by omega)
  have hb2 := h.bounds (seg k.marks d 1) a2
  have hr := h.rise (seg k.marks d 1 - 1) (by omega)
  rw [show seg k.marks d 1 - 1 + 1 = seg k.marks d 1 by omega] at hr
  have hl : (k.marks.getD (seg k.marks d 1 - 1) default).dip ≤ d := by
    rcases a3 with a3 | a3
    · rw [a3]; show (k.marks.getD 0 default).dip ≤ d; rw [h.zero]; exact h0
    · omega
  have hf := lin_facts (a := k.marks.getD (seg k.marks d 1 - 1) default) (b := k.marks.getD (seg k.marks d 1) default) (dip := d) (by omega) (by omega) (by omega) (by omega) (by omega) (by omega) hl a4
  rw [Csk.content, lin]
  omega
theorem mean_bounds {c : Clr} (hG : c.Good) {g : Gg} (hg : g ∈ c.gauges) : 0 ≤ (c.mean g).lo ∧ (c.mean g).lo ≤ 1000 ∧ 0 ≤ (c.mean g).hi ∧ (c.mean g).hi ≤ 1000 := by
  have h1 := hG.gauge g hg
  have hk := (hG.cask _ (Clr.cask_mem h1.1.1 h1.1.2)).marks
  rw [Clr.mean]
  split
  · have a := content_bounds hk (d := (c.cask g.cask).top.dip - g.dip.hi) (by omega) (by omega)
    have b := content_bounds hk (d := (c.cask g.cask).top.dip - g.dip.lo) (by omega) (by omega)
    exact ⟨a.1, a.2, b.1, b.2⟩
  · have a := content_bounds hk (d := g.dip.lo) (by omega) (by omega)
    have b := content_bounds hk (d := g.dip.hi) (by omega) (by omega)
    exact ⟨a.1, a.2, b.1, b.2⟩

/-- The starts with which no content is too small or too great, behind so many moves. -/
def meetG (c : Clr) (cask leak : Int) (q : List Int) (r : Rng) : Nat → Rng
  | 0 => r
  | j + 1 => (meetG c cask leak q r j).meet ⟨-c.gain cask leak q j, (c.cask cask).top.content - c.gain cask leak q j⟩
/-- The starts with which so many gauges are right, too. -/
def meetM (c : Clr) (cask leak : Int) (q : List Int) (r : Rng) : Nat → Rng
  | 0 => r
  | j + 1 => if (c.gauges.getD j default).cask = cask then
      (meetM c cask leak q r j).meet ⟨(c.mean (c.gauges.getD j default)).lo - c.gain cask leak q (c.gauges.getD j default).after.toNat, (c.mean (c.gauges.getD j default)).hi - c.gain cask leak q (c.gauges.getD j default).after.toNat⟩
    else meetM c cask leak q r j
def Clr.room (c : Clr) (cask leak : Int) (q : List Int) : Rng := meetM c cask leak q (meetG c cask leak q (c.cask cask).start (c.moves.length + 1)) c.gauges.length
theorem meetM_yes {c : Clr} {cask leak : Int} {q : List Int} {r : Rng} {j : Nat} (h : (c.gauges.getD j default).cask = cask) : meetM c cask leak q r (j + 1) = (meetM c cask leak q r j).meet ⟨(c.mean (c.gauges.getD j default)).lo - c.gain cask leak q (c.gauges.getD j default).after.toNat, (c.mean (c.gauges.getD j default)).hi - c.gain cask leak q (c.gauges.getD j default).after.toNat⟩ := by rw [meetM, if_pos h]
theorem meetM_no {c : Clr} {cask leak : Int} {q : List Int} {r : Rng} {j : Nat} (h : ¬ (c.gauges.getD j default).cask = cask) : meetM c cask leak q r (j + 1) = meetM c cask leak q r j := by rw [meetM, if_neg h]

/-- A cask, a leak, the starts. -/
structure Ent3 where
  cask : Int
  leak : Int
  room : Rng
deriving DecidableEq, Inhabited
def Ent3.d (x : Ent3) : List Int × List FV := ([x.cask, x.leak], [i64 x.room.lo, i64 x.room.hi])
def entD (l : List Ent3) : List (List Int × List FV) := l.map Ent3.d
/-- What touched yields for the first m leaks of a cask. -/
def Clr.leaksTo (c : Clr) (cask : Int) (q : List Int) (m : Nat) : List Ent3 :=
  (((List.range m).map fun j : Nat => (c.cask cask).leak.lo + (j : Int)).filter fun lk => !(c.room cask lk q).empty).map fun lk => ⟨cask, lk, c.room cask lk q⟩
theorem leaksTo_yes {c : Clr} {cask : Int} {q : List Int} {m : Nat} (h : (c.room cask ((c.cask cask).leak.lo + (m : Int)) q).empty = false) :
    c.leaksTo cask q (m + 1) = c.leaksTo cask q m ++ [⟨cask, (c.cask cask).leak.lo + (m : Int), c.room cask ((c.cask cask).leak.lo + (m : Int)) q⟩] := by
  simp [Clr.leaksTo, List.range_succ, List.filter_append, h]
theorem leaksTo_no {c : Clr} {cask : Int} {q : List Int} {m : Nat} (h : (c.room cask ((c.cask cask).leak.lo + (m : Int)) q).empty = true) : c.leaksTo cask q (m + 1) = c.leaksTo cask q m := by
  simp [Clr.leaksTo, List.range_succ, List.filter_append, h]
theorem leaksTo_yes' {c : Clr} {cask : Int} {q : List Int} {m : Nat} (h : (!(c.room cask ((c.cask cask).leak.lo + (m : Int)) q).empty) = true) :
    c.leaksTo cask q (m + 1) = c.leaksTo cask q m ++ [⟨cask, (c.cask cask).leak.lo + (m : Int), c.room cask ((c.cask cask).leak.lo + (m : Int)) q⟩] := leaksTo_yes (by simpa using h)
theorem leaksTo_no' {c : Clr} {cask : Int} {q : List Int} {m : Nat} (h : (!(c.room cask ((c.cask cask).leak.lo + (m : Int)) q).empty) = false) : c.leaksTo cask q (m + 1) = c.leaksTo cask q m := leaksTo_no (by simpa using h)
def Clr.leakN (c : Clr) (cask : Int) : Nat := ((c.cask cask).leak.hi - (c.cask cask).leak.lo + 1).toNat
def Clr.entries (c : Clr) (cask : Int) (q : List Int) : List Ent3 := c.leaksTo cask q (c.leakN cask)
def Clr.startsTo (c : Clr) (q : List Int) : Nat → List Ent3
  | 0 => []
  | i + 1 => c.startsTo q i ++ c.entries (i : Int) q
def Clr.starts (c : Clr) (q : List Int) : List Ent3 := c.startsTo q c.casks.length
def Clr.atOk (c : Clr) (q : List Int) : Prop := ∀ i, i < c.casks.length → c.entries (i : Int) q ≠ []

theorem leaksTo_mem {c : Clr} {cask : Int} {q : List Int} {m : Nat} {x : Ent3} (h : x ∈ c.leaksTo cask q m) : x.cask = cask ∧ (∃ j, j < m ∧ x.leak = (c.cask cask).leak.lo + (j : Int)) ∧ x.room = c.room cask x.leak q ∧ x.room.empty = false := by
  simp only [Clr.leaksTo, List.mem_map, List.mem_filter, List.mem_range] at h
  obtain ⟨lk, ⟨⟨j, hj, rfl⟩, he⟩, rfl⟩ := h
  exact ⟨rfl, ⟨j, hj, rfl⟩, rfl, by simpa using he⟩
theorem startsTo_mem {c : Clr} {q : List Int} : ∀ {n : Nat} {x : Ent3}, x ∈ c.startsTo q n → ∃ i, i < n ∧ x ∈ c.entries (i : Int) q
  | 0, x, h => by simp [Clr.startsTo] at h
  | n + 1, x, h => by
    rcases List.mem_append.1 h with h | h
    · obtain ⟨i, hi, hx⟩ := startsTo_mem h
      exact ⟨i, by omega, hx⟩
    · exact ⟨n, by omega, h⟩
theorem starts_len {l : List Ent3} : ∀ d ∈ entD l, d.1.length = 2 := fun d hd => by
  obtain ⟨x, _, rfl⟩ := List.mem_map.1 hd
  rfl
/-- The next leak of a cask is a new key. -/
theorem starts_new {c : Clr} {q : List Int} {i m : Nat} {r : Rng} : upsD (entD (c.startsTo q i ++ c.leaksTo (i : Int) q m)) [(i : Int), (c.cask (i : Int)).leak.lo + (m : Int)] [i64 r.lo, i64 r.hi] = entD (c.startsTo q i ++ c.leaksTo (i : Int) q m ++ [⟨(i : Int), (c.cask (i : Int)).leak.lo + (m : Int), r⟩]) := by
  rw [upsD_new]
  · simp [entD, Ent3.d]
  · intro d hd he
    obtain ⟨x, hx, rfl⟩ := List.mem_map.1 hd
    simp only [Ent3.d, List.cons.injEq, and_true] at he
    rcases List.mem_append.1 hx with hx | hx
    · obtain ⟨k, hk, hx⟩ := startsTo_mem hx
      have := (leaksTo_mem hx).1
      omega
    · obtain ⟨_, ⟨j, hj, h2⟩, _⟩ := leaksTo_mem hx
      omega

end Go.Proofs.Ytnkgdapdccpjmaa

