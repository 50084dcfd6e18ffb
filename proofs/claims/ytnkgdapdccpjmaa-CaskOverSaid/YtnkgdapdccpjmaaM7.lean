import Derived.Test.YtnkgdapdccpjmaaM6
/- touched, at. -/
namespace Go.Proofs.Ytnkgdapdccpjmaa
open Go Go.RowKit Go.Sx

theorem at_none {l m : List Ent3} (h : ((entD (l ++ m)).length : Int) = (entD l).length) : m = [] := by
  simp only [entD, List.length_map, List.length_append] at h
  exact List.length_eq_zero_iff.1 (by omega)

theorem touched_c (c : Clr) (cask : Int) (q : List Int) : CallC Try.prog 83 0 (lkF [] fun _ => none) [aClr c, aInt .i64 cask, aQ q] 3 (lkF [(0, some (.cells 41 [.f (csks c.casks), .f (movs c.moves), .f (ggs c.gauges)])), (1, some (.cells 3 [.f (i64 cask)])), (2, some (arrQ q))] fun _ => none) (.s (.c (.fn 102 [] [0, 1, 2]))) := by
  refine callC_intro tabOk mixed Try.func83 rfl rfl rfl rfl ?_
  intro w0 e0 Z0 X hX n
  refine vc_seq ?_
  refine vc_region ?_
  refine run_box rfl trivial rfl rfl rfl rfl rfl rfl (by intro _ _ h; cases h <;> (intro _; rfl)) ?_
  refine run_box rfl trivial rfl rfl rfl rfl rfl rfl (by intro _ _ h; cases h <;> (intro _; rfl)) ?_
  refine run_box rfl trivial rfl rfl rfl rfl rfl rfl (by intro _ _ h; cases h <;> (intro _; rfl)) ?_
  refine oq1 ?_
  refine run_nil ?_
  refine vc_seq ?_
  refine vc_region ?_
  refine oq1 ?_
  refine oq1 ?_
  refine run_nil ?_
  refine vc_ret ?_
  exact ⟨[], _, _, rfl, trivial, AVle.refl _, rfl, .cons rfl (.refl _) rfl rfl (.cons rfl (.refl _) rfl rfl (.cons rfl (arrQ_le rfl rfl rfl rfl) rfl rfl .nil)), rfl, fun i hi => absurd hi (Nat.not_lt_zero i)⟩

theorem atYes_c (c : Clr) (q : List Int) (hG : c.Good) (hq : ∀ j, 0 ≤ q.getD j 0 ∧ q.getD j 0 ≤ 1000) (ha : c.atOk q) : CallC Try.prog 101 0 (lkF [] fun _ => none) [aClr c, aQ q] 2 (lkF [(0, some (.mapb true (entD (c.starts q)))), (1, some (.cells 150 [.f (csks c.casks), .f (movs c.moves), .f (ggs c.gauges), .f (i64 (q.getD 0 0)), .f (i64 (q.getD 1 0)), .f (i64 (q.getD 2 0)), .f (i64 (q.getD 3 0)), .mp 0]))] fun _ => none) (.tup [.c (.ptr 1 0), .c (.f (.bool true))]) := by
  refine callC_intro tabOk mixed Try.func101 rfl rfl rfl rfl ?_
  intro w0 e0 Z0 X hX n
  have hgc := hG.casks
  have hgm := hG.moves
  have hg6 := hG.gauges
  refine vc_seq ?_
  refine vc_region ?_
  refine run_box rfl trivial rfl rfl rfl rfl rfl rfl (by intro _ _ h; cases h <;> (intro _; rfl)) ?_
  refine run_box rfl trivial rfl rfl rfl rfl rfl rfl (by intro _ _ h; cases h <;> (intro _; rfl)) ?_
  refine oq1 ?_
  refine oq1 ?_
  refine run_nil ?_
  refine vc_seq ?_
  refine vc_region ?_
  refine oq2 ?_
  refine oq2 ?_
  refine run_makeMap true rfl trivial rfl rfl ?_
  refine oq1 ?_
  refine run_box rfl trivial rfl rfl rfl rfl rfl rfl (by intro _ _ h; cases h <;> (intro _; rfl)) ?_
  refine run_alloc rfl trivial rfl rfl rfl rfl (by intro _ _ h; cases h <;> (intro _; rfl)) ?_
  refine Sx.run_store rfl trivial rfl rfl rfl rfl rfl rfl rfl ?_
  refine run_nil ?_
  refine vc_seq ?_
  refine vc_seq ?_
  refine vc_region ?_
  refine oq5 ?_
  refine oq2 ?_
  refine oq1 ?_
  refine oq1 ?_
  refine run_nil ?_
  refine vc_block ?_
  refine vc_loop (κ := Nat) (fun i => i ≤ c.casks.length ∧ ∀ k, k < i → c.entries (k : Int) q ≠ []) (fun i => ⟨[(2, .s (.c (.ptr 0 0))), (3, .s (.c (.ptr 1 0))), (6, .s (.c (.ptr 4 0))), (18, aInt .i64 (c.casks.length : Int)), (19, aInt .i64 (i : Int))], [(0, some (.cells 41 [.f (csks c.casks), .f (movs c.moves), .f (ggs c.gauges)])), (1, some (arrQ q)), (2, some (.mapb true (entD (c.startsTo q i)))), (3, some (.cells 150 [.f (csks c.casks), .f (movs c.moves), .f (ggs c.gauges), .f (i64 (q.getD 0 0)), .f (i64 (q.getD 1 0)), .f (i64 (q.getD 2 0)), .f (i64 (q.getD 3 0)), .mp 2])), (4, some (.cells 116 [.ptr 3 0]))], fun _ => none, 5⟩) (fun i => c.casks.length - i) 0 ⟨Nat.zero_le _, by omega⟩ ?_ ?_
  ·
    exact ent_ren [] (.cons (.refl _) rfl (.cons (.refl _) rfl (.cons (.refl _) rfl (.cons (.refl _) rfl (.cons (.refl _) rfl (.nil)))))) (.cons rfl (.refl _) rfl rfl (.cons rfl (arrQ_le rfl rfl rfl rfl) rfl rfl (.cons rfl (.refl _) rfl rfl (.cons rfl (.refl _) rfl rfl (.cons rfl (.refl _) rfl rfl (.nil)))))) rfl rfl (fun i hi => absurd hi (Nat.not_lt_zero i))
  rintro i ⟨hi, hne⟩
  refine vc_seq ?_
  refine vc_region ?_
  refine oq6 ?_
  refine run_nil ?_
  refine vc_seq ?_
  refine vc_condP rfl (fun h1 => ?_) (fun h1 => ?_)
  ·
    try simp only [Int.toNat_natCast] at h1
    refine vc_skip ?_
    refine vc_seq ?_
    refine vc_block ?_
    refine vc_seq ?_
    have hkg := hG.cask _ (Clr.cask_mem (c := c) (i := (i : Int)) (by omega) (by omega))
    have hkm := hkg.marks
    have hkt := hkm.top
    have hkl := hkg.leak
    have hks := hkg.start
    have hln : (c.leakN (i : Int) : Int) = (c.cask (i : Int)).leak.hi - (c.cask (i : Int)).leak.lo + 1 := by unfold Clr.leakN; omega
    refine vc_region ?_
    refine oq1 ?_
    refine run_alloc rfl trivial rfl rfl rfl rfl (by intro _ _ h; cases h <;> (intro _; rfl)) ?_
    refine Sx.run_store rfl trivial rfl rfl rfl rfl rfl rfl rfl ?_
    refine run_nil ?_
    refine vc_seq ?_
    refine vc_region ?_
    refine oq2 ?_
    refine oq1 ?_
    refine oq5 ?_
    refine oq2 ?_
    refine oq1 ?_
    refine oq1 ?_
    refine run_nil ?_
    refine vc_seq ?_
    refine vc_seq ?_
    refine vc_region ?_
    refine oq2 ?_
    refine oq2 ?_
    refine oq2 ?_
    refine run_call (touched_c c (i : Int) q) [] rfl rfl rfl trivial rfl rfl rfl rfl .nil rfl rfl rfl rfl rfl ?_
    refine run_nil ?_
    refine vc_block ?_
    refine vc_rangeFunc rfl Try.func102 rfl rfl rfl rfl (.inl rfl) ?_
    intro r wR eR ZR hXR nR hrs hrp hrps hra hrb hrt hrep hzr hagR
    obtain ⟨st, pd, fnx, tm, pr, asg, bd, df⟩ := r
    dsimp only at hrs hrp hrps hra hrb hrt hrep
    subst hrs hrp
    refine vc_seq ?_
    refine vc_region ?_
    refine oq5 ?_
    refine oq2 ?_
    refine oq2 ?_
    refine oq3 ?_
    refine oq2 ?_
    refine run_alloc rfl trivial rfl rfl rfl rfl (by intro _ _ h; cases h <;> (intro _; rfl)) ?_
    refine Sx.run_store rfl trivial rfl rfl rfl rfl rfl rfl rfl ?_
    refine run_nil ?_
    refine vc_seq ?_
    refine vc_region ?_
    refine oq5 ?_
    refine oq5 ?_
    refine oq2 ?_
    refine oq1 ?_
    refine run_nil ?_
    refine vc_block ?_
    refine vc_loop (κ := Nat) (fun m => m ≤ c.leakN (i : Int)) (fun m => ⟨[(0, yieldV (eR.b 9)), (1, .s (.c (.ptr 6 0))), (2, .s (.c (.ptr 7 0))), (3, .s (.c (.ptr 8 0))), (5, .s (.c (.ptr 10 0))), (6, aInt .i64 ((c.cask (i : Int)).leak.lo + (m : Int)))], [(0, some (.cells 41 [.f (csks c.casks), .f (movs c.moves), .f (ggs c.gauges)])), (1, some (arrQ q)), (2, some (.mapb true (entD (c.startsTo q i ++ c.leaksTo (i : Int) q m)))), (3, some (.cells 150 [.f (csks c.casks), .f (movs c.moves), .f (ggs c.gauges), .f (i64 (q.getD 0 0)), .f (i64 (q.getD 1 0)), .f (i64 (q.getD 2 0)), .f (i64 (q.getD 3 0)), .mp 2])), (4, some (.cells 116 [.ptr 3 0])), (5, some (.cells 3 [.f (i64 (i : Int))])), (6, some (.cells 41 [.f (csks c.casks), .f (movs c.moves), .f (ggs c.gauges)])), (7, some (.cells 3 [.f (i64 (i : Int))])), (8, some (arrQ q)), (9, some (.obj (.loop ⟨.ready, none, fnx, tm, pr, asg, bd, df⟩))), (10, some (.cells 104 [.f (mks (c.cask (i : Int)).marks), .f (i64 (c.cask (i : Int)).start.lo), .f (i64 (c.cask (i : Int)).start.hi), .f (i64 (c.cask (i : Int)).leak.lo), .f (i64 (c.cask (i : Int)).leak.hi)]))], fun _ => none, 11⟩) (fun m => c.leakN (i : Int) - m) 0 (Nat.zero_le _) ?_ ?_
    ·
      exact ent_ren [] (.cons (.refl _) rfl (.cons (.refl _) rfl (.cons (.refl _) rfl (.cons (.refl _) rfl (.cons (.refl _) rfl (.cons (.of_eq (aInt_eq (by show (c.cask (i : Int)).leak.lo = (c.cask (i : Int)).leak.lo + ((0 : Nat) : Int); omega))) rfl (.nil))))))) (.cons rfl (.refl _) rfl rfl (.cons rfl (.refl _) rfl rfl (.cons rfl (mapb_eq (by simp [Clr.leaksTo])) rfl rfl (.cons rfl (.refl _) rfl rfl (.cons rfl (.refl _) rfl rfl (.cons rfl (.refl _) rfl rfl (.cons rfl (.refl _) rfl rfl (.cons rfl (.refl _) rfl rfl (.cons rfl (.refl _) rfl rfl (.cons rfl (.refl _) rfl rfl (.cons rfl (.refl _) rfl rfl (.nil)))))))))))) rfl rfl (fun i hi => ⟨piS rfl hi, Nat.lt_of_lt_of_le hi (Nat.le_of_ble_eq_true rfl)⟩)
    rintro m hm
    refine vc_seq ?_
    refine vc_seq ?_
    refine vc_region ?_
    refine oq1 ?_
    refine oq5 ?_
    refine oq5 ?_
    refine oq2 ?_
    refine oq6 ?_
    refine run_nil ?_
    refine vc_condP rfl (fun h2 => ?_) (fun h2 => ?_)
    ·
      try simp only [Int.toNat_natCast] at h2
      refine vc_skip ?_
      refine vc_seq ?_
      refine vc_block ?_
      refine vc_seq ?_
      refine vc_region ?_
      refine oq5 ?_
      refine oq2 ?_
      refine run_alloc rfl trivial rfl rfl rfl rfl (by intro _ _ h; cases h <;> (intro _; rfl)) ?_
      refine Sx.run_store rfl trivial rfl rfl rfl rfl rfl rfl rfl ?_
      refine run_nil ?_
      refine vc_seq ?_
      refine vc_region ?_
      have hlk0 : 0 ≤ ((c.cask (i : Int)).leak.lo + (m : Int)) := by omega
      have hlk4 : ((c.cask (i : Int)).leak.lo + (m : Int)) ≤ 4 := by omega
      refine oq2 ?_
      refine oq2 ?_
      refine oq1 ?_
      refine oq2 ?_
      refine run_call (gains_c c (i : Int) ((c.cask (i : Int)).leak.lo + (m : Int)) q (by omega) (by omega) (by omega) (by assumption)) [] rfl rfl rfl trivial rfl rfl rfl rfl .nil rfl rfl rfl rfl rfl ?_
      refine oq1 ?_
      refine run_nil ?_
      refine vc_ent (ent_fz 12 rfl) ?_
      refine vc_seq ?_
      refine vc_seq ?_
      refine vc_region ?_
      refine oq1 ?_
      refine oq1 ?_
      refine oq1 ?_
      refine run_nil ?_
      refine vc_block ?_
      refine vc_loop (κ := Nat) (fun j => j ≤ c.moves.length + 1) (fun j => ⟨[(0, yieldV (eR.b 9)), (1, .s (.c (.ptr 6 0))), (2, .s (.c (.ptr 7 0))), (3, .s (.c (.ptr 8 0))), (5, .s (.c (.ptr 10 0))), (6, aInt .i64 ((c.cask (i : Int)).leak.lo + (m : Int))), (7, .s (.c (.ptr 11 0))), (8, .s (.c (.f (.sl 1 (c.moves.length + 1) fun t _ => i64 (c.gain (i : Int) ((c.cask (i : Int)).leak.lo + (m : Int)) q t))))), (37, .s (.c (.f (.sl 1 (c.moves.length + 1) fun t _ => i64 (c.gain (i : Int) ((c.cask (i : Int)).leak.lo + (m : Int)) q t))))), (38, aInt .i64 ((c.moves.length + 1 : Nat) : Int)), (39, aInt .i64 (j : Int))], [(0, some (.cells 41 [.f (csks c.casks), .f (movs c.moves), .f (ggs c.gauges)])), (1, some (arrQ q)), (2, some (.mapb true (entD (c.startsTo q i ++ c.leaksTo (i : Int) q m)))), (3, some (.cells 150 [.f (csks c.casks), .f (movs c.moves), .f (ggs c.gauges), .f (i64 (q.getD 0 0)), .f (i64 (q.getD 1 0)), .f (i64 (q.getD 2 0)), .f (i64 (q.getD 3 0)), .mp 2])), (4, some (.cells 116 [.ptr 3 0])), (5, some (.cells 3 [.f (i64 (i : Int))])), (6, some (.cells 41 [.f (csks c.casks), .f (movs c.moves), .f (ggs c.gauges)])), (7, some (.cells 3 [.f (i64 (i : Int))])), (8, some (arrQ q)), (9, some (.obj (.loop ⟨.ready, none, fnx, tm, pr, asg, bd, df⟩))), (10, some (.cells 104 [.f (mks (c.cask (i : Int)).marks), .f (i64 (c.cask (i : Int)).start.lo), .f (i64 (c.cask (i : Int)).start.hi), .f (i64 (c.cask (i : Int)).leak.lo), .f (i64 (c.cask (i : Int)).leak.hi)])), (11, some (.cells 64 [.f (i64 (meetG c (i : Int) ((c.cask (i : Int)).leak.lo + (m : Int)) q (c.cask (i : Int)).start j).lo), .f (i64 (meetG c (i : Int) ((c.cask (i : Int)).leak.lo + (m : Int)) q (c.cask (i : Int)).start j).hi)]))], fun _ => none, 12⟩) (fun j => c.moves.length + 1 - j) 0 (Nat.zero_le _) ?_ ?_
      ·
        exact ent_ren [] (.cons (.refl _) rfl (.cons (.refl _) rfl (.cons (.refl _) rfl (.cons (.refl _) rfl (.cons (.refl _) rfl (.cons (.refl _) rfl (.cons (.refl _) rfl (.cons (.refl _) rfl (.cons (.refl _) rfl (.cons (.refl _) rfl (.cons (.refl _) rfl (.nil)))))))))))) (.cons rfl (.refl _) rfl rfl (.cons rfl (.refl _) rfl rfl (.cons rfl (.refl _) rfl rfl (.cons rfl (.refl _) rfl rfl (.cons rfl (.refl _) rfl rfl (.cons rfl (.refl _) rfl rfl (.cons rfl (.refl _) rfl rfl (.cons rfl (.refl _) rfl rfl (.cons rfl (.refl _) rfl rfl (.cons rfl (.refl _) rfl rfl (.cons rfl (.refl _) rfl rfl (.cons rfl (.refl _) rfl rfl (.nil))))))))))))) rfl rfl (fun i hi => ⟨piS rfl hi, Nat.lt_of_lt_of_le hi (Nat.le_of_ble_eq_true rfl)⟩)
      rintro j hj
      refine vc_seq ?_
      refine vc_region ?_
      refine oq6 ?_
      refine run_nil ?_
      refine vc_seq ?_
      refine vc_condP rfl (fun h3 => ?_) (fun h3 => ?_)
      ·
        try simp only [Int.toNat_natCast] at h3
        refine vc_skip ?_
        refine vc_seq ?_
        refine vc_block ?_
        refine vc_seq ?_
        refine vc_region ?_
        refine oq3 ?_
        refine oq2 ?_
        refine oq1 ?_
        refine run_nil ?_
        refine vc_regionD rfl ?_
        have hgb := gain_bounds (c := c) (cask := (i : Int)) hlk0 hlk4 hq j
        refine oq2 ?_
        refine oq1 ?_
        refine run_q rfl trivial rfl rfl rfl (arc (by (try simp only [Int.toNat_natCast]); omega) (by (try simp only [Int.toNat_natCast]); omega)) ?_
        refine oq2 ?_
        refine run_callP (top_c (c.cask (i : Int)) hkm.pos) rfl rfl rfl trivial rfl rfl rfl rfl ?_
        refine run_q rfl trivial rfl rfl rfl (Nat.le_of_ble_eq_true rfl) ?_
        refine oq1 ?_
        refine oq4 ?_
        refine oq1 ?_
        refine run_callP (meet_c (meetG c (i : Int) ((c.cask (i : Int)).leak.lo + (m : Int)) q (c.cask (i : Int)).start j) ⟨-c.gain (i : Int) ((c.cask (i : Int)).leak.lo + (m : Int)) q j, (c.cask (i : Int)).top.content - c.gain (i : Int) ((c.cask (i : Int)).leak.lo + (m : Int)) q j⟩) rfl rfl rfl trivial rfl rfl rfl rfl ?_
        refine Sx.run_store rfl trivial rfl rfl rfl rfl rfl rfl rfl ?_
        refine run_nil ⟨rfl, ?_⟩
        refine vc_region ?_
        refine oq4 ?_
        refine oq1 ?_
        refine run_nil ?_
        refine ⟨j + 1, by omega, by omega, ent_ren [] (.cons (.refl _) rfl (.cons (.refl _) rfl (.cons (.refl _) rfl (.cons (.refl _) rfl (.cons (.refl _) rfl (.cons (.refl _) rfl (.cons (.refl _) rfl (.cons (.refl _) rfl (.cons (.refl _) rfl (.cons (.refl _) rfl (.cons (.refl _) rfl (.nil)))))))))))) (.cons rfl (.refl _) rfl rfl (.cons rfl (.refl _) rfl rfl (.cons rfl (.refl _) rfl rfl (.cons rfl (.refl _) rfl rfl (.cons rfl (.refl _) rfl rfl (.cons rfl (.refl _) rfl rfl (.cons rfl (.refl _) rfl rfl (.cons rfl (.refl _) rfl rfl (.cons rfl (.refl _) rfl rfl (.cons rfl (.refl _) rfl rfl (.cons rfl (.refl _) rfl rfl (.cons rfl (.refl _) rfl rfl (.nil))))))))))))) rfl rfl (fun i hi => ⟨piS rfl hi, Nat.lt_of_lt_of_le hi (Nat.le_of_ble_eq_true rfl)⟩)⟩
      ·
        try simp only [Int.toNat_natCast] at h3
        refine vc_exit ?_
        refine vc_seq ?_
        refine vc_seq ?_
        obtain rfl : j = c.moves.length + 1 := by omega
        refine vc_region ?_
        refine oq5 ?_
        refine oq2 ?_
        refine oq1 ?_
        refine oq1 ?_
        refine run_nil ?_
        refine vc_block ?_
        refine vc_loop (κ := Nat) (fun j => j ≤ c.gauges.length) (fun j => ⟨[(0, yieldV (eR.b 9)), (1, .s (.c (.ptr 6 0))), (2, .s (.c (.ptr 7 0))), (3, .s (.c (.ptr 8 0))), (5, .s (.c (.ptr 10 0))), (6, aInt .i64 ((c.cask (i : Int)).leak.lo + (m : Int))), (7, .s (.c (.ptr 11 0))), (8, .s (.c (.f (.sl 1 (c.moves.length + 1) fun t _ => i64 (c.gain (i : Int) ((c.cask (i : Int)).leak.lo + (m : Int)) q t))))), (55, .s (.c (.f (ggs c.gauges)))), (56, aInt .i64 (c.gauges.length : Int)), (57, aInt .i64 (j : Int))], [(0, some (.cells 41 [.f (csks c.casks), .f (movs c.moves), .f (ggs c.gauges)])), (1, some (arrQ q)), (2, some (.mapb true (entD (c.startsTo q i ++ c.leaksTo (i : Int) q m)))), (3, some (.cells 150 [.f (csks c.casks), .f (movs c.moves), .f (ggs c.gauges), .f (i64 (q.getD 0 0)), .f (i64 (q.getD 1 0)), .f (i64 (q.getD 2 0)), .f (i64 (q.getD 3 0)), .mp 2])), (4, some (.cells 116 [.ptr 3 0])), (5, some (.cells 3 [.f (i64 (i : Int))])), (6, some (.cells 41 [.f (csks c.casks), .f (movs c.moves), .f (ggs c.gauges)])), (7, some (.cells 3 [.f (i64 (i : Int))])), (8, some (arrQ q)), (9, some (.obj (.loop ⟨.ready, none, fnx, tm, pr, asg, bd, df⟩))), (10, some (.cells 104 [.f (mks (c.cask (i : Int)).marks), .f (i64 (c.cask (i : Int)).start.lo), .f (i64 (c.cask (i : Int)).start.hi), .f (i64 (c.cask (i : Int)).leak.lo), .f (i64 (c.cask (i : Int)).leak.hi)])), (11, some (.cells 64 [.f (i64 (meetM c (i : Int) ((c.cask (i : Int)).leak.lo + (m : Int)) q (meetG c (i : Int) ((c.cask (i : Int)).leak.lo + (m : Int)) q (c.cask (i : Int)).start (c.moves.length + 1)) j).lo), .f (i64 (meetM c (i : Int) ((c.cask (i : Int)).leak.lo + (m : Int)) q (meetG c (i : Int) ((c.cask (i : Int)).leak.lo + (m : Int)) q (c.cask (i : Int)).start (c.moves.length + 1)) j).hi)]))], fun _ => none, 12⟩) (fun j => c.gauges.length - j) 0 (Nat.zero_le _) ?_ ?_
        ·
          exact ent_ren [] (.cons (.refl _) rfl (.cons (.refl _) rfl (.cons (.refl _) rfl (.cons (.refl _) rfl (.cons (.refl _) rfl (.cons (.refl _) rfl (.cons (.refl _) rfl (.cons (.refl _) rfl (.cons (.refl _) rfl (.cons (.refl _) rfl (.cons (.refl _) rfl (.nil)))))))))))) (.cons rfl (.refl _) rfl rfl (.cons rfl (.refl _) rfl rfl (.cons rfl (.refl _) rfl rfl (.cons rfl (.refl _) rfl rfl (.cons rfl (.refl _) rfl rfl (.cons rfl (.refl _) rfl rfl (.cons rfl (.refl _) rfl rfl (.cons rfl (.refl _) rfl rfl (.cons rfl (.refl _) rfl rfl (.cons rfl (.refl _) rfl rfl (.cons rfl (.refl _) rfl rfl (.cons rfl (.refl _) rfl rfl (.nil))))))))))))) rfl rfl (fun i hi => ⟨piS rfl hi, Nat.lt_of_lt_of_le hi (Nat.le_of_ble_eq_true rfl)⟩)
        rintro j hj
        refine vc_seq ?_
        refine vc_region ?_
        refine oq6 ?_
        refine run_nil ?_
        refine vc_seq ?_
        refine vc_condP rfl (fun h4 => ?_) (fun h4 => ?_)
        ·
          try simp only [Int.toNat_natCast] at h4
          refine vc_skip ?_
          refine vc_seq ?_
          refine vc_block ?_
          refine vc_seq ?_
          refine vc_region ?_
          refine oq3 ?_
          refine oq2 ?_
          refine run_alloc rfl trivial rfl rfl rfl rfl (by intro _ _ h; cases h <;> (intro _; rfl)) ?_
          refine Sx.run_store rfl trivial rfl rfl rfl rfl rfl rfl rfl ?_
          refine run_nil ?_
          refine vc_seq ?_
          refine vc_region ?_
          refine oq5 ?_
          refine oq2 ?_
          refine oq2 ?_
          refine oq6 ?_
          refine run_nil ?_
          refine vc_condP rfl (fun h5 => ?_) (fun h5 => ?_)
          ·
            try simp only [Int.toNat_natCast] at h5
            refine vc_seq ?_
            refine vc_regionD rfl ?_
            have hgg := hG.gauge _ (getD_mem (d := default) (show j < c.gauges.length by omega))
            have hmb := mean_bounds hG (getD_mem (d := default) (show j < c.gauges.length by omega))
            have hgb := gain_bounds (c := c) (cask := (i : Int)) hlk0 hlk4 hq (c.gauges.getD j default).after.toNat
            refine oq2 ?_
            refine oq2 ?_
            refine run_callP (mean_c c (c.gauges.getD j default) hgg.1.1 hgg.1.2 (hG.cask _ (Clr.cask_mem hgg.1.1 hgg.1.2)).marks hgg.2.2.1 hgg.2.2.2.1 hgg.2.2.2.2) rfl rfl rfl trivial rfl rfl rfl rfl ?_
            refine oq1 ?_
            refine oq5 ?_
            refine oq2 ?_
            refine oq3 ?_
            refine oq2 ?_
            refine run_alloc rfl trivial rfl rfl rfl rfl (by intro _ _ h; cases h <;> (intro _; rfl)) ?_
            refine Sx.run_store rfl trivial rfl rfl rfl rfl rfl rfl rfl ?_
            refine oq1 ?_
            refine run_nil ⟨rfl, ?_⟩
            refine vc_region ?_
            refine oq2 ?_
            refine oq5 ?_
            refine oq2 ?_
            refine oq1 ?_
            refine oq4 ?_
            refine oq5 ?_
            refine oq2 ?_
            refine oq1 ?_
            refine oq4 ?_
            refine oq1 ?_
            refine run_callP (meet_c (meetM c (i : Int) ((c.cask (i : Int)).leak.lo + (m : Int)) q (meetG c (i : Int) ((c.cask (i : Int)).leak.lo + (m : Int)) q (c.cask (i : Int)).start (c.moves.length + 1)) j) ⟨(c.mean (c.gauges.getD j default)).lo - c.gain (i : Int) ((c.cask (i : Int)).leak.lo + (m : Int)) q (c.gauges.getD j default).after.toNat, (c.mean (c.gauges.getD j default)).hi - c.gain (i : Int) ((c.cask (i : Int)).leak.lo + (m : Int)) q (c.gauges.getD j default).after.toNat⟩) rfl rfl rfl trivial rfl rfl rfl rfl ?_
            refine Sx.run_store rfl trivial rfl rfl rfl rfl rfl rfl rfl ?_
            refine run_nil ?_
            refine vc_region ?_
            refine oq4 ?_
            refine oq1 ?_
            refine run_nil ?_
            refine ⟨j + 1, by omega, by omega, ent_ren [] (.cons (.refl _) rfl (.cons (.refl _) rfl (.cons (.refl _) rfl (.cons (.refl _) rfl (.cons (.refl _) rfl (.cons (.refl _) rfl (.cons (.refl _) rfl (.cons (.refl _) rfl (.cons (.refl _) rfl (.cons (.refl _) rfl (.cons (.refl _) rfl (.nil)))))))))))) (.cons rfl (.refl _) rfl rfl (.cons rfl (.refl _) rfl rfl (.cons rfl (.refl _) rfl rfl (.cons rfl (.refl _) rfl rfl (.cons rfl (.refl _) rfl rfl (.cons rfl (.refl _) rfl rfl (.cons rfl (.refl _) rfl rfl (.cons rfl (.refl _) rfl rfl (.cons rfl (.refl _) rfl rfl (.cons rfl (.refl _) rfl rfl (.cons rfl (.refl _) rfl rfl (.cons rfl ((by first | (rw [meetM_yes (by assumption)]; exact .refl _) | (rw [meetM_no (by assumption)]; exact .refl _))) rfl rfl (.nil))))))))))))) rfl rfl (fun i hi => ⟨piS rfl hi, Nat.lt_of_lt_of_le hi (Nat.le_of_ble_eq_true rfl)⟩)⟩
          ·
            try simp only [Int.toNat_natCast] at h5
            refine vc_skip ?_
            refine vc_region ?_
            refine oq4 ?_
            refine oq1 ?_
            refine run_nil ?_
            refine ⟨j + 1, by omega, by omega, ent_ren [] (.cons (.refl _) rfl (.cons (.refl _) rfl (.cons (.refl _) rfl (.cons (.refl _) rfl (.cons (.refl _) rfl (.cons (.refl _) rfl (.cons (.refl _) rfl (.cons (.refl _) rfl (.cons (.refl _) rfl (.cons (.refl _) rfl (.cons (.refl _) rfl (.nil)))))))))))) (.cons rfl (.refl _) rfl rfl (.cons rfl (.refl _) rfl rfl (.cons rfl (.refl _) rfl rfl (.cons rfl (.refl _) rfl rfl (.cons rfl (.refl _) rfl rfl (.cons rfl (.refl _) rfl rfl (.cons rfl (.refl _) rfl rfl (.cons rfl (.refl _) rfl rfl (.cons rfl (.refl _) rfl rfl (.cons rfl (.refl _) rfl rfl (.cons rfl (.refl _) rfl rfl (.cons rfl ((by first | (rw [meetM_yes (by assumption)]; exact .refl _) | (rw [meetM_no (by assumption)]; exact .refl _))) rfl rfl (.nil))))))))))))) rfl rfl (fun i hi => ⟨piS rfl hi, Nat.lt_of_lt_of_le hi (Nat.le_of_ble_eq_true rfl)⟩)⟩
        ·
          try simp only [Int.toNat_natCast] at h4
          refine vc_exit ?_
          refine vc_seq ?_
          obtain rfl : j = c.gauges.length := by omega
          refine vc_regionT ?_
          refine t1 ?_
          refine oq2 ?_
          refine run_nil ?_
          refine t1 ?_
          refine run_callP (empty_c (c.room (i : Int) ((c.cask (i : Int)).leak.lo + (m : Int)) q)) rfl rfl rfl trivial rfl rfl rfl rfl ?_
          refine run_nil ?_
          refine t1 ?_
          refine oq1 ?_
          refine run_nil ?_
          refine t1 ?_
          refine oq1 ?_
          refine run_nil ?_
          refine runT_split 88 rfl (fun h6 => ?_) (fun h6 => ?_)
          ·
            try simp only [Int.toNat_natCast] at h6
            refine t1 ?_
            refine oq1 ?_
            refine run_nil ?_
            refine t1 ?_
            refine oq1 ?_
            refine run_nil ?_
            refine t1 ?_
            refine oq2 ?_
            refine run_nil ?_
            subst hrps hra hrb
            refine runT_yieldN (lid := 9) hrt rfl rfl rfl rfl rfl rfl (blt_of rfl) rfl rfl rfl rfl rfl (by simp only [hrt]; rfl) hrep hzr ?_
            intro wY eY ZY hXY nY hagY
            refine vc_seq ?_
            refine vc_region ?_
            refine oq1 ?_
            refine run_nil ?_
            refine vc_region ?_
            refine run_alloc rfl trivial rfl rfl rfl rfl (by intro _ _ h; cases h <;> (intro _; rfl)) ?_
            refine Sx.run_store rfl trivial rfl rfl rfl rfl rfl rfl rfl ?_
            refine run_nil ?_
            refine ⟨rfl, ?_⟩
            refine vc_block ?_
            refine vc_regionD rfl ?_
            refine oq2 ?_
            refine oq1 ?_
            refine oq5 ?_
            refine oq2 ?_
            refine oq2 ?_
            refine oq1 ?_
            refine oq1 ?_
            refine oq2 ?_
            refine run_mapUpdate (q := [i64 (c.room (i : Int) ((c.cask (i : Int)).leak.lo + (m : Int)) q).lo, i64 (c.room (i : Int) ((c.cask (i : Int)).leak.lo + (m : Int)) q).hi]) tabEq keyT rfl trivial rfl rfl rfl rfl rfl rfl starts_len rfl (fun h => Bool.noConfusion h) rfl ?_
            refine run_nil ⟨rfl, ?_⟩
            refine ⟨rfl, ?_⟩
            refine t1 ?_
            refine oq1 ?_
            refine run_nil ?_
            refine t1 ?_
            refine oq1 ?_
            refine run_nil ?_
            refine runT_nil ?_
            refine vc_cond rfl (fun h => Bool.noConfusion h) (fun _ => ?_)
            refine vc_skip ?_
            refine vc_region ?_
            refine oq1 ?_
            refine oq4 ?_
            refine oq1 ?_
            refine run_nil ?_
            refine ⟨m + 1, by omega, by omega, ent_ren [] (.cons (.refl _) rfl (.cons (.refl _) rfl (.cons (.refl _) rfl (.cons (.refl _) rfl (.cons (.refl _) rfl (.cons (.of_eq (aInt_eq (by omega))) rfl (.nil))))))) (.cons rfl (.refl _) rfl rfl (.cons rfl (.refl _) rfl rfl (.cons rfl ((by first | (refine mapb_eq ?_; rw [leaksTo_no' (by assumption)]; done) | (refine mapb_eq ?_; rw [leaksTo_yes' (by assumption), ← List.append_assoc, ← starts_new]))) rfl rfl (.cons rfl (.refl _) rfl rfl (.cons rfl (.refl _) rfl rfl (.cons rfl (.refl _) rfl rfl (.cons rfl (.refl _) rfl rfl (.cons rfl (.refl _) rfl rfl (.cons rfl (.refl _) rfl rfl (.cons rfl (.refl _) rfl rfl (.cons rfl (.refl _) rfl rfl (.nil)))))))))))) rfl rfl (fun i hi => ⟨piS rfl hi, Nat.lt_of_lt_of_le hi (Nat.le_of_ble_eq_true rfl)⟩)⟩
          ·
            try simp only [Int.toNat_natCast] at h6
            refine t1 ?_
            refine osk ?_
            refine run_nil ?_
            refine t1 ?_
            refine osk ?_
            refine run_nil ?_
            refine t1 ?_
            refine osk ?_
            refine run_nil ?_
            refine t1 ?_
            refine osk ?_
            refine run_nil ?_
            refine t1 ?_
            refine osk ?_
            refine run_nil ?_
            refine t1 ?_
            refine oq1 ?_
            refine run_nil ?_
            refine runT_nil ?_
            refine vc_cond rfl (fun h => Bool.noConfusion h) (fun _ => ?_)
            refine vc_skip ?_
            refine vc_region ?_
            refine oq1 ?_
            refine oq4 ?_
            refine oq1 ?_
            refine run_nil ?_
            refine ⟨m + 1, by omega, by omega, ent_ren [] (.cons (.refl _) rfl (.cons (.refl _) rfl (.cons (.refl _) rfl (.cons (.refl _) rfl (.cons (.refl _) rfl (.cons (.of_eq (aInt_eq (by omega))) rfl (.nil))))))) (.cons rfl (.refl _) rfl rfl (.cons rfl (.refl _) rfl rfl (.cons rfl ((by first | (refine mapb_eq ?_; rw [leaksTo_no' (by assumption)]; done) | (refine mapb_eq ?_; rw [leaksTo_yes' (by assumption), ← List.append_assoc, ← starts_new]))) rfl rfl (.cons rfl (.refl _) rfl rfl (.cons rfl (.refl _) rfl rfl (.cons rfl (.refl _) rfl rfl (.cons rfl (.refl _) rfl rfl (.cons rfl (.refl _) rfl rfl (.cons rfl (.refl _) rfl rfl (.cons rfl (.refl _) rfl rfl (.cons rfl (.refl _) rfl rfl (.nil)))))))))))) rfl rfl (fun i hi => ⟨piS rfl hi, Nat.lt_of_lt_of_le hi (Nat.le_of_ble_eq_true rfl)⟩)⟩
    ·
      try simp only [Int.toNat_natCast] at h2
      refine vc_exit ?_
      refine ⟨_, rfl, (by intro h; cases h), ?_⟩
      refine vc_seq ?_
      obtain rfl : m = c.leakN (i : Int) := by omega
      refine vc_region ?_
      refine oq2 ?_
      refine oq1 ?_
      refine oq5 ?_
      refine oq2 ?_
      refine oq1 ?_
      refine oq1 ?_
      refine oq6 ?_
      refine run_nil ?_
      refine vc_condP rfl (fun h7 => ?_) (fun h7 => ?_)
      ·
        try simp only [Int.toNat_natCast] at h7
        exact absurd (at_none h7) (ha i (by omega))
      ·
        try simp only [Int.toNat_natCast] at h7
        have hgrow := h7
        refine vc_skip ?_
        refine vc_region ?_
        refine oq4 ?_
        refine oq1 ?_
        refine run_nil ?_
        refine ⟨i + 1, ⟨by omega, upto_step hne (fun he => hgrow (by rw [show c.leaksTo (i : Int) q (c.leakN (i : Int)) = [] from he]; simp [entD]))⟩, by omega, ent_ren [] (.cons (.refl _) rfl (.cons (.refl _) rfl (.cons (.refl _) rfl (.cons (.refl _) rfl (.cons (.refl _) rfl (.nil)))))) (.cons rfl (.refl _) rfl rfl (.cons rfl (.refl _) rfl rfl (.cons rfl (.refl _) rfl rfl (.cons rfl (.refl _) rfl rfl (.cons rfl (.refl _) rfl rfl (.nil)))))) rfl rfl (fun i hi => absurd hi (Nat.not_lt_zero i))⟩
  ·
    try simp only [Int.toNat_natCast] at h1
    refine vc_exit ?_
    refine vc_seq ?_
    refine vc_region ?_
    refine oq2 ?_
    refine oq1 ?_
    refine oq1 ?_
    refine run_nil ?_
    refine vc_ret ?_
    obtain rfl : i = c.casks.length := by omega
    exact ⟨[(0, 2), (1, 3)], _, _, rfl, ⟨trivial, trivial, trivial⟩, AVle.refl _, rfl, .cons rfl (.refl _) rfl rfl (.cons rfl (.refl _) rfl rfl .nil), rfl, fun i hi => absurd hi (Nat.not_lt_zero i)⟩

theorem atNo_c (c : Clr) (q : List Int) (hG : c.Good) (hq : ∀ j, 0 ≤ q.getD j 0 ∧ q.getD j 0 ≤ 1000) (ha : ¬ c.atOk q) : CallC Try.prog 101 0 (lkF [] fun _ => none) [aClr c, aQ q] 0 (lkF [] fun _ => none) (.tup [.c (.f (.lit (.pointer none))), .c (.f (.bool false))]) := by
  refine callC_intro tabOk mixed Try.func101 rfl rfl rfl rfl ?_
  intro w0 e0 Z0 X hX n
  have hgc := hG.casks
  have hgm := hG.moves
  have hg6 := hG.gauges
  refine vc_seq ?_
  refine vc_region ?_
  refine run_box rfl trivial rfl rfl rfl rfl rfl rfl (by intro _ _ h; cases h <;> (intro _; rfl)) ?_
  refine run_box rfl trivial rfl rfl rfl rfl rfl rfl (by intro _ _ h; cases h <;> (intro _; rfl)) ?_
  refine oq1 ?_
  refine oq1 ?_
  refine run_nil ?_
  refine vc_seq ?_
  refine vc_region ?_
  refine oq2 ?_
  refine oq2 ?_
  refine run_makeMap true rfl trivial rfl rfl ?_
  refine oq1 ?_
  refine run_box rfl trivial rfl rfl rfl rfl rfl rfl (by intro _ _ h; cases h <;> (intro _; rfl)) ?_
  refine run_alloc rfl trivial rfl rfl rfl rfl (by intro _ _ h; cases h <;> (intro _; rfl)) ?_
  refine Sx.run_store rfl trivial rfl rfl rfl rfl rfl rfl rfl ?_
  refine run_nil ?_
  refine vc_seq ?_
  refine vc_seq ?_
  refine vc_region ?_
  refine oq5 ?_
  refine oq2 ?_
  refine oq1 ?_
  refine oq1 ?_
  refine run_nil ?_
  refine vc_block ?_
  refine vc_loop (κ := Nat) (fun i => i ≤ c.casks.length ∧ ∀ k, k < i → c.entries (k : Int) q ≠ []) (fun i => ⟨[(2, .s (.c (.ptr 0 0))), (3, .s (.c (.ptr 1 0))), (6, .s (.c (.ptr 4 0))), (18, aInt .i64 (c.casks.length : Int)), (19, aInt .i64 (i : Int))], [(0, some (.cells 41 [.f (csks c.casks), .f (movs c.moves), .f (ggs c.gauges)])), (1, some (arrQ q)), (2, some (.mapb true (entD (c.startsTo q i)))), (3, some (.cells 150 [.f (csks c.casks), .f (movs c.moves), .f (ggs c.gauges), .f (i64 (q.getD 0 0)), .f (i64 (q.getD 1 0)), .f (i64 (q.getD 2 0)), .f (i64 (q.getD 3 0)), .mp 2])), (4, some (.cells 116 [.ptr 3 0]))], fun _ => none, 5⟩) (fun i => c.casks.length - i) 0 ⟨Nat.zero_le _, by omega⟩ ?_ ?_
  ·
    exact ent_ren [] (.cons (.refl _) rfl (.cons (.refl _) rfl (.cons (.refl _) rfl (.cons (.refl _) rfl (.cons (.refl _) rfl (.nil)))))) (.cons rfl (.refl _) rfl rfl (.cons rfl (arrQ_le rfl rfl rfl rfl) rfl rfl (.cons rfl (.refl _) rfl rfl (.cons rfl (.refl _) rfl rfl (.cons rfl (.refl _) rfl rfl (.nil)))))) rfl rfl (fun i hi => absurd hi (Nat.not_lt_zero i))
  rintro i ⟨hi, hne⟩
  refine vc_seq ?_
  refine vc_region ?_
  refine oq6 ?_
  refine run_nil ?_
  refine vc_seq ?_
  refine vc_condP rfl (fun h1 => ?_) (fun h1 => ?_)
  ·
    try simp only [Int.toNat_natCast] at h1
    refine vc_skip ?_
    refine vc_seq ?_
    refine vc_block ?_
    refine vc_seq ?_
    have hkg := hG.cask _ (Clr.cask_mem (c := c) (i := (i : Int)) (by omega) (by omega))
    have hkm := hkg.marks
    have hkt := hkm.top
    have hkl := hkg.leak
    have hks := hkg.start
    have hln : (c.leakN (i : Int) : Int) = (c.cask (i : Int)).leak.hi - (c.cask (i : Int)).leak.lo + 1 := by unfold Clr.leakN; omega
    refine vc_region ?_
    refine oq1 ?_
    refine run_alloc rfl trivial rfl rfl rfl rfl (by intro _ _ h; cases h <;> (intro _; rfl)) ?_
    refine Sx.run_store rfl trivial rfl rfl rfl rfl rfl rfl rfl ?_
    refine run_nil ?_
    refine vc_seq ?_
    refine vc_region ?_
    refine oq2 ?_
    refine oq1 ?_
    refine oq5 ?_
    refine oq2 ?_
    refine oq1 ?_
    refine oq1 ?_
    refine run_nil ?_
    refine vc_seq ?_
    refine vc_seq ?_
    refine vc_region ?_
    refine oq2 ?_
    refine oq2 ?_
    refine oq2 ?_
    refine run_call (touched_c c (i : Int) q) [] rfl rfl rfl trivial rfl rfl rfl rfl .nil rfl rfl rfl rfl rfl ?_
    refine run_nil ?_
    refine vc_block ?_
    refine vc_rangeFunc rfl Try.func102 rfl rfl rfl rfl (.inl rfl) ?_
    intro r wR eR ZR hXR nR hrs hrp hrps hra hrb hrt hrep hzr hagR
    obtain ⟨st, pd, fnx, tm, pr, asg, bd, df⟩ := r
    dsimp only at hrs hrp hrps hra hrb hrt hrep
    subst hrs hrp
    refine vc_seq ?_
    refine vc_region ?_
    refine oq5 ?_
    refine oq2 ?_
    refine oq2 ?_
    refine oq3 ?_
    refine oq2 ?_
    refine run_alloc rfl trivial rfl rfl rfl rfl (by intro _ _ h; cases h <;> (intro _; rfl)) ?_
    refine Sx.run_store rfl trivial rfl rfl rfl rfl rfl rfl rfl ?_
    refine run_nil ?_
    refine vc_seq ?_
    refine vc_region ?_
    refine oq5 ?_
    refine oq5 ?_
    refine oq2 ?_
    refine oq1 ?_
    refine run_nil ?_
    refine vc_block ?_
    refine vc_loop (κ := Nat) (fun m => m ≤ c.leakN (i : Int)) (fun m => ⟨[(0, yieldV (eR.b 9)), (1, .s (.c (.ptr 6 0))), (2, .s (.c (.ptr 7 0))), (3, .s (.c (.ptr 8 0))), (5, .s (.c (.ptr 10 0))), (6, aInt .i64 ((c.cask (i : Int)).leak.lo + (m : Int)))], [(0, some (.cells 41 [.f (csks c.casks), .f (movs c.moves), .f (ggs c.gauges)])), (1, some (arrQ q)), (2, some (.mapb true (entD (c.startsTo q i ++ c.leaksTo (i : Int) q m)))), (3, some (.cells 150 [.f (csks c.casks), .f (movs c.moves), .f (ggs c.gauges), .f (i64 (q.getD 0 0)), .f (i64 (q.getD 1 0)), .f (i64 (q.getD 2 0)), .f (i64 (q.getD 3 0)), .mp 2])), (4, some (.cells 116 [.ptr 3 0])), (5, some (.cells 3 [.f (i64 (i : Int))])), (6, some (.cells 41 [.f (csks c.casks), .f (movs c.moves), .f (ggs c.gauges)])), (7, some (.cells 3 [.f (i64 (i : Int))])), (8, some (arrQ q)), (9, some (.obj (.loop ⟨.ready, none, fnx, tm, pr, asg, bd, df⟩))), (10, some (.cells 104 [.f (mks (c.cask (i : Int)).marks), .f (i64 (c.cask (i : Int)).start.lo), .f (i64 (c.cask (i : Int)).start.hi), .f (i64 (c.cask (i : Int)).leak.lo), .f (i64 (c.cask (i : Int)).leak.hi)]))], fun _ => none, 11⟩) (fun m => c.leakN (i : Int) - m) 0 (Nat.zero_le _) ?_ ?_
    ·
      exact ent_ren [] (.cons (.refl _) rfl (.cons (.refl _) rfl (.cons (.refl _) rfl (.cons (.refl _) rfl (.cons (.refl _) rfl (.cons (.of_eq (aInt_eq (by show (c.cask (i : Int)).leak.lo = (c.cask (i : Int)).leak.lo + ((0 : Nat) : Int); omega))) rfl (.nil))))))) (.cons rfl (.refl _) rfl rfl (.cons rfl (.refl _) rfl rfl (.cons rfl (mapb_eq (by simp [Clr.leaksTo])) rfl rfl (.cons rfl (.refl _) rfl rfl (.cons rfl (.refl _) rfl rfl (.cons rfl (.refl _) rfl rfl (.cons rfl (.refl _) rfl rfl (.cons rfl (.refl _) rfl rfl (.cons rfl (.refl _) rfl rfl (.cons rfl (.refl _) rfl rfl (.cons rfl (.refl _) rfl rfl (.nil)))))))))))) rfl rfl (fun i hi => ⟨piS rfl hi, Nat.lt_of_lt_of_le hi (Nat.le_of_ble_eq_true rfl)⟩)
    rintro m hm
    refine vc_seq ?_
    refine vc_seq ?_
    refine vc_region ?_
    refine oq1 ?_
    refine oq5 ?_
    refine oq5 ?_
    refine oq2 ?_
    refine oq6 ?_
    refine run_nil ?_
    refine vc_condP rfl (fun h2 => ?_) (fun h2 => ?_)
    ·
      try simp only [Int.toNat_natCast] at h2
      refine vc_skip ?_
      refine vc_seq ?_
      refine vc_block ?_
      refine vc_seq ?_
      refine vc_region ?_
      refine oq5 ?_
      refine oq2 ?_
      refine run_alloc rfl trivial rfl rfl rfl rfl (by intro _ _ h; cases h <;> (intro _; rfl)) ?_
      refine Sx.run_store rfl trivial rfl rfl rfl rfl rfl rfl rfl ?_
      refine run_nil ?_
      refine vc_seq ?_
      refine vc_region ?_
      have hlk0 : 0 ≤ ((c.cask (i : Int)).leak.lo + (m : Int)) := by omega
      have hlk4 : ((c.cask (i : Int)).leak.lo + (m : Int)) ≤ 4 := by omega
      refine oq2 ?_
      refine oq2 ?_
      refine oq1 ?_
      refine oq2 ?_
      refine run_call (gains_c c (i : Int) ((c.cask (i : Int)).leak.lo + (m : Int)) q (by omega) (by omega) (by omega) (by assumption)) [] rfl rfl rfl trivial rfl rfl rfl rfl .nil rfl rfl rfl rfl rfl ?_
      refine oq1 ?_
      refine run_nil ?_
      refine vc_ent (ent_fz 12 rfl) ?_
      refine vc_seq ?_
      refine vc_seq ?_
      refine vc_region ?_
      refine oq1 ?_
      refine oq1 ?_
      refine oq1 ?_
      refine run_nil ?_
      refine vc_block ?_
      refine vc_loop (κ := Nat) (fun j => j ≤ c.moves.length + 1) (fun j => ⟨[(0, yieldV (eR.b 9)), (1, .s (.c (.ptr 6 0))), (2, .s (.c (.ptr 7 0))), (3, .s (.c (.ptr 8 0))), (5, .s (.c (.ptr 10 0))), (6, aInt .i64 ((c.cask (i : Int)).leak.lo + (m : Int))), (7, .s (.c (.ptr 11 0))), (8, .s (.c (.f (.sl 1 (c.moves.length + 1) fun t _ => i64 (c.gain (i : Int) ((c.cask (i : Int)).leak.lo + (m : Int)) q t))))), (37, .s (.c (.f (.sl 1 (c.moves.length + 1) fun t _ => i64 (c.gain (i : Int) ((c.cask (i : Int)).leak.lo + (m : Int)) q t))))), (38, aInt .i64 ((c.moves.length + 1 : Nat) : Int)), (39, aInt .i64 (j : Int))], [(0, some (.cells 41 [.f (csks c.casks), .f (movs c.moves), .f (ggs c.gauges)])), (1, some (arrQ q)), (2, some (.mapb true (entD (c.startsTo q i ++ c.leaksTo (i : Int) q m)))), (3, some (.cells 150 [.f (csks c.casks), .f (movs c.moves), .f (ggs c.gauges), .f (i64 (q.getD 0 0)), .f (i64 (q.getD 1 0)), .f (i64 (q.getD 2 0)), .f (i64 (q.getD 3 0)), .mp 2])), (4, some (.cells 116 [.ptr 3 0])), (5, some (.cells 3 [.f (i64 (i : Int))])), (6, some (.cells 41 [.f (csks c.casks), .f (movs c.moves), .f (ggs c.gauges)])), (7, some (.cells 3 [.f (i64 (i : Int))])), (8, some (arrQ q)), (9, some (.obj (.loop ⟨.ready, none, fnx, tm, pr, asg, bd, df⟩))), (10, some (.cells 104 [.f (mks (c.cask (i : Int)).marks), .f (i64 (c.cask (i : Int)).start.lo), .f (i64 (c.cask (i : Int)).start.hi), .f (i64 (c.cask (i : Int)).leak.lo), .f (i64 (c.cask (i : Int)).leak.hi)])), (11, some (.cells 64 [.f (i64 (meetG c (i : Int) ((c.cask (i : Int)).leak.lo + (m : Int)) q (c.cask (i : Int)).start j).lo), .f (i64 (meetG c (i : Int) ((c.cask (i : Int)).leak.lo + (m : Int)) q (c.cask (i : Int)).start j).hi)]))], fun _ => none, 12⟩) (fun j => c.moves.length + 1 - j) 0 (Nat.zero_le _) ?_ ?_
      ·
        exact ent_ren [] (.cons (.refl _) rfl (.cons (.refl _) rfl (.cons (.refl _) rfl (.cons (.refl _) rfl (.cons (.refl _) rfl (.cons (.refl _) rfl (.cons (.refl _) rfl (.cons (.refl _) rfl (.cons (.refl _) rfl (.cons (.refl _) rfl (.cons (.refl _) rfl (.nil)))))))))))) (.cons rfl (.refl _) rfl rfl (.cons rfl (.refl _) rfl rfl (.cons rfl (.refl _) rfl rfl (.cons rfl (.refl _) rfl rfl (.cons rfl (.refl _) rfl rfl (.cons rfl (.refl _) rfl rfl (.cons rfl (.refl _) rfl rfl (.cons rfl (.refl _) rfl rfl (.cons rfl (.refl _) rfl rfl (.cons rfl (.refl _) rfl rfl (.cons rfl (.refl _) rfl rfl (.cons rfl (.refl _) rfl rfl (.nil))))))))))))) rfl rfl (fun i hi => ⟨piS rfl hi, Nat.lt_of_lt_of_le hi (Nat.le_of_ble_eq_true rfl)⟩)
      rintro j hj
      refine vc_seq ?_
      refine vc_region ?_
      refine oq6 ?_
      refine run_nil ?_
      refine vc_seq ?_
      refine vc_condP rfl (fun h3 => ?_) (fun h3 => ?_)
      ·
        try simp only [Int.toNat_natCast] at h3
        refine vc_skip ?_
        refine vc_seq ?_
        refine vc_block ?_
        refine vc_seq ?_
        refine vc_region ?_
        refine oq3 ?_
        refine oq2 ?_
        refine oq1 ?_
        refine run_nil ?_
        refine vc_regionD rfl ?_
        have hgb := gain_bounds (c := c) (cask := (i : Int)) hlk0 hlk4 hq j
        refine oq2 ?_
        refine oq1 ?_
        refine run_q rfl trivial rfl rfl rfl (arc (by (try simp only [Int.toNat_natCast]); omega) (by (try simp only [Int.toNat_natCast]); omega)) ?_
        refine oq2 ?_
        refine run_callP (top_c (c.cask (i : Int)) hkm.pos) rfl rfl rfl trivial rfl rfl rfl rfl ?_
        refine run_q rfl trivial rfl rfl rfl (Nat.le_of_ble_eq_true rfl) ?_
        refine oq1 ?_
        refine oq4 ?_
        refine oq1 ?_
        refine run_callP (meet_c (meetG c (i : Int) ((c.cask (i : Int)).leak.lo + (m : Int)) q (c.cask (i : Int)).start j) ⟨-c.gain (i : Int) ((c.cask (i : Int)).leak.lo + (m : Int)) q j, (c.cask (i : Int)).top.content - c.gain (i : Int) ((c.cask (i : Int)).leak.lo + (m : Int)) q j⟩) rfl rfl rfl trivial rfl rfl rfl rfl ?_
        refine Sx.run_store rfl trivial rfl rfl rfl rfl rfl rfl rfl ?_
        refine run_nil ⟨rfl, ?_⟩
        refine vc_region ?_
        refine oq4 ?_
        refine oq1 ?_
        refine run_nil ?_
        refine ⟨j + 1, by omega, by omega, ent_ren [] (.cons (.refl _) rfl (.cons (.refl _) rfl (.cons (.refl _) rfl (.cons (.refl _) rfl (.cons (.refl _) rfl (.cons (.refl _) rfl (.cons (.refl _) rfl (.cons (.refl _) rfl (.cons (.refl _) rfl (.cons (.refl _) rfl (.cons (.refl _) rfl (.nil)))))))))))) (.cons rfl (.refl _) rfl rfl (.cons rfl (.refl _) rfl rfl (.cons rfl (.refl _) rfl rfl (.cons rfl (.refl _) rfl rfl (.cons rfl (.refl _) rfl rfl (.cons rfl (.refl _) rfl rfl (.cons rfl (.refl _) rfl rfl (.cons rfl (.refl _) rfl rfl (.cons rfl (.refl _) rfl rfl (.cons rfl (.refl _) rfl rfl (.cons rfl (.refl _) rfl rfl (.cons rfl (.refl _) rfl rfl (.nil))))))))))))) rfl rfl (fun i hi => ⟨piS rfl hi, Nat.lt_of_lt_of_le hi (Nat.le_of_ble_eq_true rfl)⟩)⟩
      ·
        try simp only [Int.toNat_natCast] at h3
        refine vc_exit ?_
        refine vc_seq ?_
        refine vc_seq ?_
        obtain rfl : j = c.moves.length + 1 := by omega
        refine vc_region ?_
        refine oq5 ?_
        refine oq2 ?_
        refine oq1 ?_
        refine oq1 ?_
        refine run_nil ?_
        refine vc_block ?_
        refine vc_loop (κ := Nat) (fun j => j ≤ c.gauges.length) (fun j => ⟨[(0, yieldV (eR.b 9)), (1, .s (.c (.ptr 6 0))), (2, .s (.c (.ptr 7 0))), (3, .s (.c (.ptr 8 0))), (5, .s (.c (.ptr 10 0))), (6, aInt .i64 ((c.cask (i : Int)).leak.lo + (m : Int))), (7, .s (.c (.ptr 11 0))), (8, .s (.c (.f (.sl 1 (c.moves.length + 1) fun t _ => i64 (c.gain (i : Int) ((c.cask (i : Int)).leak.lo + (m : Int)) q t))))), (55, .s (.c (.f (ggs c.gauges)))), (56, aInt .i64 (c.gauges.length : Int)), (57, aInt .i64 (j : Int))], [(0, some (.cells 41 [.f (csks c.casks), .f (movs c.moves), .f (ggs c.gauges)])), (1, some (arrQ q)), (2, some (.mapb true (entD (c.startsTo q i ++ c.leaksTo (i : Int) q m)))), (3, some (.cells 150 [.f (csks c.casks), .f (movs c.moves), .f (ggs c.gauges), .f (i64 (q.getD 0 0)), .f (i64 (q.getD 1 0)), .f (i64 (q.getD 2 0)), .f (i64 (q.getD 3 0)), .mp 2])), (4, some (.cells 116 [.ptr 3 0])), (5, some (.cells 3 [.f (i64 (i : Int))])), (6, some (.cells 41 [.f (csks c.casks), .f (movs c.moves), .f (ggs c.gauges)])), (7, some (.cells 3 [.f (i64 (i : Int))])), (8, some (arrQ q)), (9, some (.obj (.loop ⟨.ready, none, fnx, tm, pr, asg, bd, df⟩))), (10, some (.cells 104 [.f (mks (c.cask (i : Int)).marks), .f (i64 (c.cask (i : Int)).start.lo), .f (i64 (c.cask (i : Int)).start.hi), .f (i64 (c.cask (i : Int)).leak.lo), .f (i64 (c.cask (i : Int)).leak.hi)])), (11, some (.cells 64 [.f (i64 (meetM c (i : Int) ((c.cask (i : Int)).leak.lo + (m : Int)) q (meetG c (i : Int) ((c.cask (i : Int)).leak.lo + (m : Int)) q (c.cask (i : Int)).start (c.moves.length + 1)) j).lo), .f (i64 (meetM c (i : Int) ((c.cask (i : Int)).leak.lo + (m : Int)) q (meetG c (i : Int) ((c.cask (i : Int)).leak.lo + (m : Int)) q (c.cask (i : Int)).start (c.moves.length + 1)) j).hi)]))], fun _ => none, 12⟩) (fun j => c.gauges.length - j) 0 (Nat.zero_le _) ?_ ?_
        ·
          exact ent_ren [] (.cons (.refl _) rfl (.cons (.refl _) rfl (.cons (.refl _) rfl (.cons (.refl _) rfl (.cons (.refl _) rfl (.cons (.refl _) rfl (.cons (.refl _) rfl (.cons (.refl _) rfl (.cons (.refl _) rfl (.cons (.refl _) rfl (.cons (.refl _) rfl (.nil)))))))))))) (.cons rfl (.refl _) rfl rfl (.cons rfl (.refl _) rfl rfl (.cons rfl (.refl _) rfl rfl (.cons rfl (.refl _) rfl rfl (.cons rfl (.refl _) rfl rfl (.cons rfl (.refl _) rfl rfl (.cons rfl (.refl _) rfl rfl (.cons rfl (.refl _) rfl rfl (.cons rfl (.refl _) rfl rfl (.cons rfl (.refl _) rfl rfl (.cons rfl (.refl _) rfl rfl (.cons rfl (.refl _) rfl rfl (.nil))))))))))))) rfl rfl (fun i hi => ⟨piS rfl hi, Nat.lt_of_lt_of_le hi (Nat.le_of_ble_eq_true rfl)⟩)
        rintro j hj
        refine vc_seq ?_
        refine vc_region ?_
        refine oq6 ?_
        refine run_nil ?_
        refine vc_seq ?_
        refine vc_condP rfl (fun h4 => ?_) (fun h4 => ?_)
        ·
          try simp only [Int.toNat_natCast] at h4
          refine vc_skip ?_
          refine vc_seq ?_
          refine vc_block ?_
          refine vc_seq ?_
          refine vc_region ?_
          refine oq3 ?_
          refine oq2 ?_
          refine run_alloc rfl trivial rfl rfl rfl rfl (by intro _ _ h; cases h <;> (intro _; rfl)) ?_
          refine Sx.run_store rfl trivial rfl rfl rfl rfl rfl rfl rfl ?_
          refine run_nil ?_
          refine vc_seq ?_
          refine vc_region ?_
          refine oq5 ?_
          refine oq2 ?_
          refine oq2 ?_
          refine oq6 ?_
          refine run_nil ?_
          refine vc_condP rfl (fun h5 => ?_) (fun h5 => ?_)
          ·
            try simp only [Int.toNat_natCast] at h5
            refine vc_seq ?_
            refine vc_regionD rfl ?_
            have hgg := hG.gauge _ (getD_mem (d := default) (show j < c.gauges.length by omega))
            have hmb := mean_bounds hG (getD_mem (d := default) (show j < c.gauges.length by omega))
            have hgb := gain_bounds (c := c) (cask := (i : Int)) hlk0 hlk4 hq (c.gauges.getD j default).after.toNat
            refine oq2 ?_
            refine oq2 ?_
            refine run_callP (mean_c c (c.gauges.getD j default) hgg.1.1 hgg.1.2 (hG.cask _ (Clr.cask_mem hgg.1.1 hgg.1.2)).marks hgg.2.2.1 hgg.2.2.2.1 hgg.2.2.2.2) rfl rfl rfl trivial rfl rfl rfl rfl ?_
            refine oq1 ?_
            refine oq5 ?_
            refine oq2 ?_
            refine oq3 ?_
            refine oq2 ?_
            refine run_alloc rfl trivial rfl rfl rfl rfl (by intro _ _ h; cases h <;> (intro _; rfl)) ?_
            refine Sx.run_store rfl trivial rfl rfl rfl rfl rfl rfl rfl ?_
            refine oq1 ?_
            refine run_nil ⟨rfl, ?_⟩
            refine vc_region ?_
            refine oq2 ?_
            refine oq5 ?_
            refine oq2 ?_
            refine oq1 ?_
            refine oq4 ?_
            refine oq5 ?_
            refine oq2 ?_
            refine oq1 ?_
            refine oq4 ?_
            refine oq1 ?_
            refine run_callP (meet_c (meetM c (i : Int) ((c.cask (i : Int)).leak.lo + (m : Int)) q (meetG c (i : Int) ((c.cask (i : Int)).leak.lo + (m : Int)) q (c.cask (i : Int)).start (c.moves.length + 1)) j) ⟨(c.mean (c.gauges.getD j default)).lo - c.gain (i : Int) ((c.cask (i : Int)).leak.lo + (m : Int)) q (c.gauges.getD j default).after.toNat, (c.mean (c.gauges.getD j default)).hi - c.gain (i : Int) ((c.cask (i : Int)).leak.lo + (m : Int)) q (c.gauges.getD j default).after.toNat⟩) rfl rfl rfl trivial rfl rfl rfl rfl ?_
            refine Sx.run_store rfl trivial rfl rfl rfl rfl rfl rfl rfl ?_
            refine run_nil ?_
            refine vc_region ?_
            refine oq4 ?_
            refine oq1 ?_
            refine run_nil ?_
            refine ⟨j + 1, by omega, by omega, ent_ren [] (.cons (.refl _) rfl (.cons (.refl _) rfl (.cons (.refl _) rfl (.cons (.refl _) rfl (.cons (.refl _) rfl (.cons (.refl _) rfl (.cons (.refl _) rfl (.cons (.refl _) rfl (.cons (.refl _) rfl (.cons (.refl _) rfl (.cons (.refl _) rfl (.nil)))))))))))) (.cons rfl (.refl _) rfl rfl (.cons rfl (.refl _) rfl rfl (.cons rfl (.refl _) rfl rfl (.cons rfl (.refl _) rfl rfl (.cons rfl (.refl _) rfl rfl (.cons rfl (.refl _) rfl rfl (.cons rfl (.refl _) rfl rfl (.cons rfl (.refl _) rfl rfl (.cons rfl (.refl _) rfl rfl (.cons rfl (.refl _) rfl rfl (.cons rfl (.refl _) rfl rfl (.cons rfl ((by first | (rw [meetM_yes (by assumption)]; exact .refl _) | (rw [meetM_no (by assumption)]; exact .refl _))) rfl rfl (.nil))))))))))))) rfl rfl (fun i hi => ⟨piS rfl hi, Nat.lt_of_lt_of_le hi (Nat.le_of_ble_eq_true rfl)⟩)⟩
          ·
            try simp only [Int.toNat_natCast] at h5
            refine vc_skip ?_
            refine vc_region ?_
            refine oq4 ?_
            refine oq1 ?_
            refine run_nil ?_
            refine ⟨j + 1, by omega, by omega, ent_ren [] (.cons (.refl _) rfl (.cons (.refl _) rfl (.cons (.refl _) rfl (.cons (.refl _) rfl (.cons (.refl _) rfl (.cons (.refl _) rfl (.cons (.refl _) rfl (.cons (.refl _) rfl (.cons (.refl _) rfl (.cons (.refl _) rfl (.cons (.refl _) rfl (.nil)))))))))))) (.cons rfl (.refl _) rfl rfl (.cons rfl (.refl _) rfl rfl (.cons rfl (.refl _) rfl rfl (.cons rfl (.refl _) rfl rfl (.cons rfl (.refl _) rfl rfl (.cons rfl (.refl _) rfl rfl (.cons rfl (.refl _) rfl rfl (.cons rfl (.refl _) rfl rfl (.cons rfl (.refl _) rfl rfl (.cons rfl (.refl _) rfl rfl (.cons rfl (.refl _) rfl rfl (.cons rfl ((by first | (rw [meetM_yes (by assumption)]; exact .refl _) | (rw [meetM_no (by assumption)]; exact .refl _))) rfl rfl (.nil))))))))))))) rfl rfl (fun i hi => ⟨piS rfl hi, Nat.lt_of_lt_of_le hi (Nat.le_of_ble_eq_true rfl)⟩)⟩
        ·
          try simp only [Int.toNat_natCast] at h4
          refine vc_exit ?_
          refine vc_seq ?_
          obtain rfl : j = c.gauges.length := by omega
          refine vc_regionT ?_
          refine t1 ?_
          refine oq2 ?_
          refine run_nil ?_
          refine t1 ?_
          refine run_callP (empty_c (c.room (i : Int) ((c.cask (i : Int)).leak.lo + (m : Int)) q)) rfl rfl rfl trivial rfl rfl rfl rfl ?_
          refine run_nil ?_
          refine t1 ?_
          refine oq1 ?_
          refine run_nil ?_
          refine t1 ?_
          refine oq1 ?_
          refine run_nil ?_
          refine runT_split 88 rfl (fun h6 => ?_) (fun h6 => ?_)
          ·
            try simp only [Int.toNat_natCast] at h6
            refine t1 ?_
            refine oq1 ?_
            refine run_nil ?_
            refine t1 ?_
            refine oq1 ?_
            refine run_nil ?_
            refine t1 ?_
            refine oq2 ?_
            refine run_nil ?_
            subst hrps hra hrb
            refine runT_yieldN (lid := 9) hrt rfl rfl rfl rfl rfl rfl (blt_of rfl) rfl rfl rfl rfl rfl (by simp only [hrt]; rfl) hrep hzr ?_
            intro wY eY ZY hXY nY hagY
            refine vc_seq ?_
            refine vc_region ?_
            refine oq1 ?_
            refine run_nil ?_
            refine vc_region ?_
            refine run_alloc rfl trivial rfl rfl rfl rfl (by intro _ _ h; cases h <;> (intro _; rfl)) ?_
            refine Sx.run_store rfl trivial rfl rfl rfl rfl rfl rfl rfl ?_
            refine run_nil ?_
            refine ⟨rfl, ?_⟩
            refine vc_block ?_
            refine vc_regionD rfl ?_
            refine oq2 ?_
            refine oq1 ?_
            refine oq5 ?_
            refine oq2 ?_
            refine oq2 ?_
            refine oq1 ?_
            refine oq1 ?_
            refine oq2 ?_
            refine run_mapUpdate (q := [i64 (c.room (i : Int) ((c.cask (i : Int)).leak.lo + (m : Int)) q).lo, i64 (c.room (i : Int) ((c.cask (i : Int)).leak.lo + (m : Int)) q).hi]) tabEq keyT rfl trivial rfl rfl rfl rfl rfl rfl starts_len rfl (fun h => Bool.noConfusion h) rfl ?_
            refine run_nil ⟨rfl, ?_⟩
            refine ⟨rfl, ?_⟩
            refine t1 ?_
            refine oq1 ?_
            refine run_nil ?_
            refine t1 ?_
            refine oq1 ?_
            refine run_nil ?_
            refine runT_nil ?_
            refine vc_cond rfl (fun h => Bool.noConfusion h) (fun _ => ?_)
            refine vc_skip ?_
            refine vc_region ?_
            refine oq1 ?_
            refine oq4 ?_
            refine oq1 ?_
            refine run_nil ?_
            refine ⟨m + 1, by omega, by omega, ent_ren [] (.cons (.refl _) rfl (.cons (.refl _) rfl (.cons (.refl _) rfl (.cons (.refl _) rfl (.cons (.refl _) rfl (.cons (.of_eq (aInt_eq (by omega))) rfl (.nil))))))) (.cons rfl (.refl _) rfl rfl (.cons rfl (.refl _) rfl rfl (.cons rfl ((by first | (refine mapb_eq ?_; rw [leaksTo_no' (by assumption)]; done) | (refine mapb_eq ?_; rw [leaksTo_yes' (by assumption), ← List.append_assoc, ← starts_new]))) rfl rfl (.cons rfl (.refl _) rfl rfl (.cons rfl (.refl _) rfl rfl (.cons rfl (.refl _) rfl rfl (.cons rfl (.refl _) rfl rfl (.cons rfl (.refl _) rfl rfl (.cons rfl (.refl _) rfl rfl (.cons rfl (.refl _) rfl rfl (.cons rfl (.refl _) rfl rfl (.nil)))))))))))) rfl rfl (fun i hi => ⟨piS rfl hi, Nat.lt_of_lt_of_le hi (Nat.le_of_ble_eq_true rfl)⟩)⟩
          ·
            try simp only [Int.toNat_natCast] at h6
            refine t1 ?_
            refine osk ?_
            refine run_nil ?_
            refine t1 ?_
            refine osk ?_
            refine run_nil ?_
            refine t1 ?_
            refine osk ?_
            refine run_nil ?_
            refine t1 ?_
            refine osk ?_
            refine run_nil ?_
            refine t1 ?_
            refine osk ?_
            refine run_nil ?_
            refine t1 ?_
            refine oq1 ?_
            refine run_nil ?_
            refine runT_nil ?_
            refine vc_cond rfl (fun h => Bool.noConfusion h) (fun _ => ?_)
            refine vc_skip ?_
            refine vc_region ?_
            refine oq1 ?_
            refine oq4 ?_
            refine oq1 ?_
            refine run_nil ?_
            refine ⟨m + 1, by omega, by omega, ent_ren [] (.cons (.refl _) rfl (.cons (.refl _) rfl (.cons (.refl _) rfl (.cons (.refl _) rfl (.cons (.refl _) rfl (.cons (.of_eq (aInt_eq (by omega))) rfl (.nil))))))) (.cons rfl (.refl _) rfl rfl (.cons rfl (.refl _) rfl rfl (.cons rfl ((by first | (refine mapb_eq ?_; rw [leaksTo_no' (by assumption)]; done) | (refine mapb_eq ?_; rw [leaksTo_yes' (by assumption), ← List.append_assoc, ← starts_new]))) rfl rfl (.cons rfl (.refl _) rfl rfl (.cons rfl (.refl _) rfl rfl (.cons rfl (.refl _) rfl rfl (.cons rfl (.refl _) rfl rfl (.cons rfl (.refl _) rfl rfl (.cons rfl (.refl _) rfl rfl (.cons rfl (.refl _) rfl rfl (.cons rfl (.refl _) rfl rfl (.nil)))))))))))) rfl rfl (fun i hi => ⟨piS rfl hi, Nat.lt_of_lt_of_le hi (Nat.le_of_ble_eq_true rfl)⟩)⟩
    ·
      try simp only [Int.toNat_natCast] at h2
      refine vc_exit ?_
      refine ⟨_, rfl, (by intro h; cases h), ?_⟩
      refine vc_seq ?_
      obtain rfl : m = c.leakN (i : Int) := by omega
      refine vc_region ?_
      refine oq2 ?_
      refine oq1 ?_
      refine oq5 ?_
      refine oq2 ?_
      refine oq1 ?_
      refine oq1 ?_
      refine oq6 ?_
      refine run_nil ?_
      refine vc_condP rfl (fun h7 => ?_) (fun h7 => ?_)
      ·
        try simp only [Int.toNat_natCast] at h7
        refine vc_seq ?_
        refine vc_region ?_
        refine oq1 ?_
        refine oq1 ?_
        refine run_nil ?_
        refine vc_ret ?_
        first
        | exact ⟨[], _, _, rfl, ⟨trivial, trivial, trivial⟩, AVle.refl _, rfl, .nil, rfl, fun i hi => absurd hi (Nat.not_lt_zero i)⟩
        | exact absurd (fun k hk => hne k (by omega)) ha
      ·
        try simp only [Int.toNat_natCast] at h7
        have hgrow := h7
        refine vc_skip ?_
        refine vc_region ?_
        refine oq4 ?_
        refine oq1 ?_
        refine run_nil ?_
        refine ⟨i + 1, ⟨by omega, upto_step hne (fun he => hgrow (by rw [show c.leaksTo (i : Int) q (c.leakN (i : Int)) = [] from he]; simp [entD]))⟩, by omega, ent_ren [] (.cons (.refl _) rfl (.cons (.refl _) rfl (.cons (.refl _) rfl (.cons (.refl _) rfl (.cons (.refl _) rfl (.nil)))))) (.cons rfl (.refl _) rfl rfl (.cons rfl (.refl _) rfl rfl (.cons rfl (.refl _) rfl rfl (.cons rfl (.refl _) rfl rfl (.cons rfl (.refl _) rfl rfl (.nil)))))) rfl rfl (fun i hi => absurd hi (Nat.not_lt_zero i))⟩
  ·
    try simp only [Int.toNat_natCast] at h1
    refine vc_exit ?_
    refine vc_seq ?_
    refine vc_region ?_
    refine oq2 ?_
    refine oq1 ?_
    refine oq1 ?_
    refine run_nil ?_
    refine vc_ret ?_
    first
    | exact ⟨[], _, _, rfl, ⟨trivial, trivial, trivial⟩, AVle.refl _, rfl, .nil, rfl, fun i hi => absurd hi (Nat.not_lt_zero i)⟩
    | exact absurd (fun k hk => hne k (by omega)) ha

end Go.Proofs.Ytnkgdapdccpjmaa

/- How quantities are tried, one after the other. -/
namespace Go.Proofs.Ytnkgdapdccpjmaa
open Go Go.RowKit Go.Sx

instance (c : Clr) (q : List Int) : Decidable (c.atOk q) := by unfold Clr.atOk; infer_instance

/-- Numbers are tried from one on, till one is enough. -/
def loopF {S : Type} (g : Int → S → Bool × S) : Nat → Int → S → Bool × S
  | 0, _, s => (false, s)
  | k + 1, v, s => if (g v s).1 = true then (true, (g v s).2) else loopF g k (v + 1) (g v s).2
/-- All quantities are tried. -/
def chooseM {S : Type} (leaf : List Int → S → Bool × S) : List Mov → Nat → List Int → S → Bool × S
  | [], _, q, s => leaf q s
  | m :: ms, i, q, s => loopF (fun v s => chooseM leaf ms (i + 1) (q.set i v) s) (m.q.hi - m.q.lo + 1).toNat m.q.lo s
/-- What has been tried last, and what is kept. -/
structure Tried (α : Type) where
  tried : Bool
  last : List Int
  kept : α
def eq4 (a b : List Int) : Bool := decide (a.getD 0 0 = b.getD 0 0) && (decide (a.getD 1 0 = b.getD 1 0) && (decide (a.getD 2 0 = b.getD 2 0) && (decide (a.getD 3 0 = b.getD 3 0) && true)))
def leafM {α : Type} (c : Clr) (enough : List Int → α → Bool × α) (q : List Int) (s : Tried α) : Bool × Tried α :=
  if (s.tried && eq4 q s.last) = true then (false, s)
  else if c.atOk q then ((enough q s.kept).1, ⟨true, q, (enough q s.kept).2⟩) else (false, ⟨true, q, s.kept⟩)
theorem leafM_same {α : Type} {c : Clr} {enough : List Int → α → Bool × α} {q : List Int} {s : Tried α} (h1 : s.tried = true) (h2 : eq4 q s.last = true) : leafM c enough q s = (false, s) := by
  rw [leafM, if_pos (by rw [h1, h2]; rfl)]
theorem leafM_yes {α : Type} {c : Clr} {enough : List Int → α → Bool × α} {q : List Int} {s : Tried α} (h : s.tried = false ∨ eq4 q s.last = false) (ha : c.atOk q) : leafM c enough q s = ((enough q s.kept).1, ⟨true, q, (enough q s.kept).2⟩) := by
  rw [leafM, if_neg (by rcases h with h | h <;> simp [h]), if_pos ha]
theorem leafM_no {α : Type} {c : Clr} {enough : List Int → α → Bool × α} {q : List Int} {s : Tried α} (h : s.tried = false ∨ eq4 q s.last = false) (ha : ¬ c.atOk q) : leafM c enough q s = (false, ⟨true, q, s.kept⟩) := by
  rw [leafM, if_neg (by rcases h with h | h <;> simp [h]), if_neg ha]
theorem loopF_stop {S : Type} {g : Int → S → Bool × S} {k : Nat} {v : Int} {s : S} (h : (g v s).1 = true) : loopF g (k + 1) v s = (true, (g v s).2) := by rw [loopF, if_pos h]
theorem loopF_on {S : Type} {g : Int → S → Bool × S} {k : Nat} {v : Int} {s : S} (h : (g v s).1 = false) : loopF g (k + 1) v s = loopF g k (v + 1) (g v s).2 := by rw [loopF, if_neg (by rw [h]; simp)]

theorem set_get {q : List Int} {i : Nat} (v : Int) (t : Nat) (hi : i < q.length) : (q.set i v).getD t 0 = if t = i then v else q.getD t 0 := by
  by_cases h : t = i
  · subst h; simp [List.getD, List.getElem?_set, hi]
  · rw [if_neg h]
    simp [List.getD, List.getElem?_set, show i ≠ t from fun e => h e.symm]
theorem arrQ_set {q : List Int} {i : Nat} {v : Int} (hi : i < q.length) : BlkLe (.arr 133 1 4 (setAt (fun t _ => i64 (q.getD t 0)) i 0 [FV.int .i64 v])) (arrQ (q.set i v)) :=
  .arr fun t j ht hj => .of_eq (by
    obtain rfl : j = 0 := by omega
    rw [set_get v t hi]
    simp only [setAt]
    by_cases h : t = i
    · rw [if_pos (by simp [h]), if_pos h]; rfl
    · rw [if_neg (by simp [h]), if_neg h])
theorem set_bounds {q : List Int} {i : Nat} {v : Int} (hi : i < q.length) (hq : ∀ j, 0 ≤ q.getD j 0 ∧ q.getD j 0 ≤ 1000) (h0 : 0 ≤ v) (h1 : v ≤ 1000) : ∀ j, 0 ≤ (q.set i v).getD j 0 ∧ (q.set i v).getD j 0 ≤ 1000 := fun j => by
  rw [set_get v j hi]
  split
  · exact ⟨h0, h1⟩
  · exact hq j

end Go.Proofs.Ytnkgdapdccpjmaa

/- works, for possible. -/
namespace Go.Proofs.Ytnkgdapdccpjmaa
open Go Go.RowKit Go.Sx

theorem possible1_c : CallC Try.prog 96 1 (lkF [] fun _ => none) [.s (.c (.ptr 0 0))] 1 (lkF [] fun _ => none) (aBool true) := by
  refine callC_intro tabOk mixed Try.func96 rfl rfl rfl rfl ?_
  intro w0 e0 Z0 X hX n
  refine vc_seq ?_
  refine vc_region ?_
  refine oq1 ?_
  refine run_nil ?_
  refine vc_seq ?_
  refine vc_region ?_
  refine oq1 ?_
  refine run_nil ?_
  refine vc_ret ?_
  exact ⟨[], _, _, rfl, trivial, AVle.refl _, rfl, .nil, rfl, fun i hi => rfl⟩

theorem zero4 : ∀ j, 0 ≤ ([0, 0, 0, 0] : List Int).getD j 0 ∧ ([0, 0, 0, 0] : List Int).getD j 0 ≤ 1000
  | 0 => by decide
  | 1 => by decide
  | 2 => by decide
  | 3 => by decide
  | j + 4 => by simp [List.getD]
def worksM {α : Type} (c : Clr) (enough : List Int → α → Bool × α) (k : α) : Bool × α :=
  ((chooseM (leafM c enough) c.moves 0 [0, 0, 0, 0] ⟨false, [0, 0, 0, 0], k⟩).1, (chooseM (leafM c enough) c.moves 0 [0, 0, 0, 0] ⟨false, [0, 0, 0, 0], k⟩).2.kept)
/-- Whether a cellar has a truth. -/
def Clr.possible (c : Clr) : Bool := (worksM c (fun _ u => (true, u)) ()).1

theorem chooseP_s (c : Clr) (hG : c.Good)  (i : Nat) (hi : i ≤ c.moves.length) (q : List Int) (s : Tried (Unit)) (hql : q.length = 4) (hq : ∀ j, 0 ≤ q.getD j 0 ∧ q.getD j 0 ≤ 1000) (R : Bool × Tried (Unit)) (hR : chooseM (leafM c (fun _ u => (true, u))) (c.moves.drop i) i q s = R) (ih : ∀ (q : List Int) (s : Tried (Unit)), i < c.moves.length → q.length = 4 → (∀ j, 0 ≤ q.getD j 0 ∧ q.getD j 0 ≤ 1000) → CallC Try.prog 100 5 (lkF [(0, some (.cells 41 [.f (csks c.casks), .f (movs c.moves), .f (ggs c.gauges)])), (1, some (.cells 171 [.fn 100 [] [0, 1, 2, 3, 4]])), (2, some (.cells 4 [.f (.bool s.tried)])), (3, some (arrQ s.last)), (4, some (.cells 151 [.fn 96 [] []]))] fun _ => none) [aInt .i64 ((i : Int) + 1), aQ q, .s (.c (.ptr 0 0)), .s (.c (.ptr 1 0)), .s (.c (.ptr 2 0)), .s (.c (.ptr 3 0)), .s (.c (.ptr 4 0))] 5 (lkF [(0, some (.cells 41 [.f (csks c.casks), .f (movs c.moves), .f (ggs c.gauges)])), (1, some (.cells 171 [.fn 100 [] [0, 1, 2, 3, 4]])), (2, some (.cells 4 [.f (.bool (chooseM (leafM c (fun _ u => (true, u))) (c.moves.drop (i + 1)) (i + 1) q s).2.tried)])), (3, some (arrQ (chooseM (leafM c (fun _ u => (true, u))) (c.moves.drop (i + 1)) (i + 1) q s).2.last)), (4, some (.cells 151 [.fn 96 [] []]))] fun _ => none) (aBool (chooseM (leafM c (fun _ u => (true, u))) (c.moves.drop (i + 1)) (i + 1) q s).1)) : CallC Try.prog 100 5 (lkF [(0, some (.cells 41 [.f (csks c.casks), .f (movs c.moves), .f (ggs c.gauges)])), (1, some (.cells 171 [.fn 100 [] [0, 1, 2, 3, 4]])), (2, some (.cells 4 [.f (.bool s.tried)])), (3, some (arrQ s.last)), (4, some (.cells 151 [.fn 96 [] []]))] fun _ => none) [aInt .i64 (i : Int), aQ q, .s (.c (.ptr 0 0)), .s (.c (.ptr 1 0)), .s (.c (.ptr 2 0)), .s (.c (.ptr 3 0)), .s (.c (.ptr 4 0))] 5 (lkF [(0, some (.cells 41 [.f (csks c.casks), .f (movs c.moves), .f (ggs c.gauges)])), (1, some (.cells 171 [.fn 100 [] [0, 1, 2, 3, 4]])), (2, some (.cells 4 [.f (.bool R.2.tried)])), (3, some (arrQ R.2.last)), (4, some (.cells 151 [.fn 96 [] []]))] fun _ => none) (aBool R.1) := by
  refine callC_intro tabOk mixed Try.func100 rfl rfl rfl rfl ?_
  intro w0 e0 Z0 X hX n
  have hgm := hG.moves
  refine vc_seq ?_
  refine vc_region ?_
  refine run_box rfl trivial rfl rfl rfl rfl rfl rfl (by intro _ _ h; cases h <;> (intro _; rfl)) ?_
  refine oq1 ?_
  refine run_nil ?_
  refine vc_ent (ent_blk 5 rfl (arrQ_le rfl rfl rfl rfl)) ?_
  refine vc_seq ?_
  refine vc_seq ?_
  refine vc_region ?_
  refine oq1 ?_
  refine oq5 ?_
  refine oq2 ?_
  refine oq1 ?_
  refine oq6 ?_
  refine run_nil ?_
  refine vc_condP rfl (fun h1 => ?_) (fun h1 => ?_)
  ·
    try simp only [Int.toNat_natCast] at h1
    have hlt : i < c.moves.length := by have := h1; omega
    have hmi := hG.move _ (getD_mem (d := default) hlt)
    refine vc_seq ?_
    refine vc_region ?_
    refine oq5 ?_
    refine oq2 ?_
    refine oq1 ?_
    refine oq3 ?_
    refine oq5 ?_
    refine oq2 ?_
    refine run_alloc rfl trivial rfl rfl rfl rfl (by intro _ _ h; cases h <;> (intro _; rfl)) ?_
    refine Sx.run_store rfl trivial rfl rfl rfl rfl rfl rfl rfl ?_
    refine run_nil ?_
    refine vc_seq ?_
    refine vc_seq ?_
    refine vc_region ?_
    refine oq5 ?_
    refine oq2 ?_
    refine oq5 ?_
    refine oq2 ?_
    refine oq4 ?_
    refine oq4 ?_
    refine oq1 ?_
    refine run_nil ?_
    refine vc_block ?_
    refine vc_loop (κ := Nat × List Int × Tried (Unit)) (fun p => p.1 ≤ ((c.moves.getD i default).q.hi - (c.moves.getD i default).q.lo + 1).toNat ∧ p.2.1.length = 4 ∧ (∀ v, p.2.1.set i v = q.set i v) ∧ (∀ j, 0 ≤ p.2.1.getD j 0 ∧ p.2.1.getD j 0 ≤ 1000) ∧ loopF (fun v s => chooseM (leafM c (fun _ u => (true, u))) (c.moves.drop (i + 1)) (i + 1) (q.set i v) s) (((c.moves.getD i default).q.hi - (c.moves.getD i default).q.lo + 1).toNat - p.1) ((c.moves.getD i default).q.lo + (p.1 : Int)) p.2.2 = R) (fun p => ⟨[(0, aInt .i64 (i : Int)), (3, .s (.c (.ptr 1 0))), (8, .s (.c (.ptr 5 0))), (10, .s (.c (.ptr 6 0))), (30, aInt .i64 ((c.moves.getD i default).q.hi - (c.moves.getD i default).q.lo + 1)), (31, aInt .i64 (p.1 : Int))], [(0, some (.cells 41 [.f (csks c.casks), .f (movs c.moves), .f (ggs c.gauges)])), (1, some (.cells 171 [.fn 100 [] [0, 1, 2, 3, 4]])), (2, some (.cells 4 [.f (.bool p.2.2.tried)])), (3, some (arrQ p.2.2.last)), (4, some (.cells 151 [.fn 96 [] []])), (5, some (arrQ p.2.1)), (6, some (.cells 64 [.f (i64 (c.moves.getD i default).q.lo), .f (i64 (c.moves.getD i default).q.hi)]))], fun _ => none, 7⟩) (fun p => ((c.moves.getD i default).q.hi - (c.moves.getD i default).q.lo + 1).toNat - p.1) (0, q, s) ⟨Nat.zero_le _, hql, fun _ => rfl, hq, by rw [← hR, drop_at default (show i < c.moves.length by omega), chooseM]; simp⟩ ?_ ?_
    ·
      exact ent_ren [] (.cons (.refl _) rfl (.cons (.refl _) rfl (.cons (.refl _) rfl (.cons (.refl _) rfl (.cons (.refl _) rfl (.cons (.refl _) rfl (.nil))))))) (.cons rfl (.refl _) rfl rfl (.cons rfl (.refl _) rfl rfl (.cons rfl (.refl _) rfl rfl (.cons rfl (.refl _) rfl rfl (.cons rfl (.refl _) rfl rfl (.cons rfl (.refl _) rfl rfl (.cons rfl (.refl _) rfl rfl (.nil)))))))) rfl rfl (fun i hi => ⟨piS rfl hi, Nat.lt_of_lt_of_le hi (Nat.le_of_ble_eq_true rfl)⟩)
    rintro ⟨n, qn, sn⟩ ⟨hn, hqn, hset, hqb, hx⟩
    dsimp only at hn hqn hset hqb hx ⊢
    refine vc_seq ?_
    refine vc_region ?_
    refine oq6 ?_
    refine run_nil ?_
    refine vc_seq ?_
    refine vc_condP rfl (fun h2 => ?_) (fun h2 => ?_)
    ·
      try simp only [Int.toNat_natCast] at h2
      refine vc_skip ?_
      refine vc_seq ?_
      refine vc_block ?_
      refine vc_seq ?_
      refine vc_region ?_
      refine oq1 ?_
      refine oq1 ?_
      refine run_nil ?_
      refine vc_seq ?_
      refine vc_region ?_
      refine oq1 ?_
      refine oq5 ?_
      refine oq2 ?_
      refine oq1 ?_
      refine oq4 ?_
      refine oq3 ?_
      refine run_storeR false rfl trivial rfl rfl rfl rfl rfl rfl rfl rfl rfl (by (try simp only [Int.toNat_natCast]); omega) ?_
      refine run_nil ?_
      refine vc_ent (ent_blk 5 rfl (arrQ_set (by omega))) ?_
      refine vc_seq ?_
      refine vc_region ?_
      refine oq2 ?_
      refine oq1 ?_
      refine oq4 ?_
      refine oq2 ?_
      refine run_call (ih (qn.set i ((c.moves.getD i default).q.lo + (n : Int))) sn hlt (by simp [hqn]) (set_bounds (by omega) hqb (by omega) (by omega))) [] rfl rfl rfl trivial rfl rfl rfl rfl (.cons rfl (.refl _) rfl rfl (.cons rfl (.refl _) rfl rfl (.cons rfl (.refl _) rfl rfl (.cons rfl (.refl _) rfl rfl (.cons rfl (.refl _) rfl rfl (.nil)))))) rfl rfl rfl rfl rfl ?_
      refine run_nil ?_
      refine vc_cond rfl (fun h3 => ?_) (fun h3 => ?_)
      ·
        try simp only [Int.toNat_natCast] at h3
        refine vc_seq ?_
        refine vc_region ?_
        refine oq1 ?_
        refine run_nil ?_
        refine vc_ret ?_
        first
        | (have e1 : R = (true, (chooseM (leafM c (fun _ u => (true, u))) (c.moves.drop (i + 1)) (i + 1) (qn.set i ((c.moves.getD i default).q.lo + (n : Int))) sn).2) := (by rw [← hx, show ((c.moves.getD i default).q.hi - (c.moves.getD i default).q.lo + 1).toNat - n = ((c.moves.getD i default).q.hi - (c.moves.getD i default).q.lo + 1).toNat - (n + 1) + 1 by omega, loopF_stop (by rw [← hset]; assumption), ← hset]); subst e1; exact ⟨[], _, _, rfl, trivial, AVle.refl _, rfl, .cons rfl (.refl _) rfl rfl (.cons rfl (.refl _) rfl rfl (.cons rfl (.refl _) rfl rfl (.cons rfl (.refl _) rfl rfl (.cons rfl (.refl _) rfl rfl (.nil))))), rfl, fun i hi => rfl⟩; done)
        | (have e1 : R = (false, sn) := (by rw [← hx, show ((c.moves.getD i default).q.hi - (c.moves.getD i default).q.lo + 1).toNat - n = 0 by omega, loopF]); subst e1; exact ⟨[], _, _, rfl, trivial, AVle.refl _, rfl, .cons rfl (.refl _) rfl rfl (.cons rfl (.refl _) rfl rfl (.cons rfl (.refl _) rfl rfl (.cons rfl (.refl _) rfl rfl (.cons rfl (.refl _) rfl rfl (.nil))))), rfl, fun i hi => rfl⟩; done)
        | (rw [leafM_same (by assumption) (by assumption)] at hR; subst hR; exact ⟨[], _, _, rfl, trivial, AVle.refl _, rfl, .cons rfl (.refl _) rfl rfl (.cons rfl (.refl _) rfl rfl (.cons rfl (.refl _) rfl rfl (.cons rfl (.refl _) rfl rfl (.cons rfl (.refl _) rfl rfl (.nil))))), rfl, fun i hi => rfl⟩; done)
        | (rw [leafM_yes hnew hat] at hR; subst hR; exact ⟨[], _, _, rfl, trivial, AVle.refl _, rfl, .cons rfl (.refl _) rfl rfl (.cons rfl (.refl _) rfl rfl (.cons rfl (.refl _) rfl rfl (.cons rfl (.refl _) rfl rfl (.cons rfl (.refl _) rfl rfl (.nil))))), rfl, fun i hi => rfl⟩; done)
        | (rw [leafM_no hnew hat] at hR; subst hR; exact ⟨[], _, _, rfl, trivial, AVle.refl _, rfl, .cons rfl (.refl _) rfl rfl (.cons rfl (.refl _) rfl rfl (.cons rfl (.refl _) rfl rfl (.cons rfl (.refl _) rfl rfl (.cons rfl (.refl _) rfl rfl (.nil))))), rfl, fun i hi => rfl⟩; done)
      ·
        try simp only [Int.toNat_natCast] at h3
        refine vc_skip ?_
        refine vc_region ?_
        refine oq4 ?_
        refine oq1 ?_
        refine run_nil ?_
        refine ⟨(n + 1, qn.set i ((c.moves.getD i default).q.lo + (n : Int)), (chooseM (leafM c (fun _ u => (true, u))) (c.moves.drop (i + 1)) (i + 1) (qn.set i ((c.moves.getD i default).q.lo + (n : Int))) sn).2), ⟨by dsimp only; omega, by simp [hqn], fun v => by simp [hset], set_bounds (by omega) hqb (by omega) (by omega), ?_⟩, by dsimp only; omega, ent_ren [] (.cons (.refl _) rfl (.cons (.refl _) rfl (.cons (.refl _) rfl (.cons (.refl _) rfl (.cons (.refl _) rfl (.cons (.refl _) rfl (.nil))))))) (.cons rfl (.refl _) rfl rfl (.cons rfl (.refl _) rfl rfl (.cons rfl (.refl _) rfl rfl (.cons rfl (.refl _) rfl rfl (.cons rfl (.refl _) rfl rfl (.cons rfl (.refl _) rfl rfl (.cons rfl (.refl _) rfl rfl (.nil)))))))) rfl rfl (fun i hi => ⟨piS rfl hi, Nat.lt_of_lt_of_le hi (Nat.le_of_ble_eq_true rfl)⟩)⟩
        rw [← hx, show ((c.moves.getD i default).q.hi - (c.moves.getD i default).q.lo + 1).toNat - n = ((c.moves.getD i default).q.hi - (c.moves.getD i default).q.lo + 1).toNat - (n + 1) + 1 by omega, loopF_on (by rw [← hset]; assumption), ← hset, Int.add_assoc]; rfl
    ·
      try simp only [Int.toNat_natCast] at h2
      refine vc_exit ?_
      refine vc_seq ?_
      refine vc_region ?_
      refine oq1 ?_
      refine run_nil ?_
      refine vc_ret ?_
      first
      | (have e1 : R = (true, (chooseM (leafM c (fun _ u => (true, u))) (c.moves.drop (i + 1)) (i + 1) (qn.set i ((c.moves.getD i default).q.lo + (n : Int))) sn).2) := (by rw [← hx, show ((c.moves.getD i default).q.hi - (c.moves.getD i default).q.lo + 1).toNat - n = ((c.moves.getD i default).q.hi - (c.moves.getD i default).q.lo + 1).toNat - (n + 1) + 1 by omega, loopF_stop (by rw [← hset]; assumption), ← hset]); subst e1; exact ⟨[], _, _, rfl, trivial, AVle.refl _, rfl, .cons rfl (.refl _) rfl rfl (.cons rfl (.refl _) rfl rfl (.cons rfl (.refl _) rfl rfl (.cons rfl (.refl _) rfl rfl (.cons rfl (.refl _) rfl rfl (.nil))))), rfl, fun i hi => rfl⟩; done)
      | (have e1 : R = (false, sn) := (by rw [← hx, show ((c.moves.getD i default).q.hi - (c.moves.getD i default).q.lo + 1).toNat - n = 0 by omega, loopF]); subst e1; exact ⟨[], _, _, rfl, trivial, AVle.refl _, rfl, .cons rfl (.refl _) rfl rfl (.cons rfl (.refl _) rfl rfl (.cons rfl (.refl _) rfl rfl (.cons rfl (.refl _) rfl rfl (.cons rfl (.refl _) rfl rfl (.nil))))), rfl, fun i hi => rfl⟩; done)
      | (rw [leafM_same (by assumption) (by assumption)] at hR; subst hR; exact ⟨[], _, _, rfl, trivial, AVle.refl _, rfl, .cons rfl (.refl _) rfl rfl (.cons rfl (.refl _) rfl rfl (.cons rfl (.refl _) rfl rfl (.cons rfl (.refl _) rfl rfl (.cons rfl (.refl _) rfl rfl (.nil))))), rfl, fun i hi => rfl⟩; done)
      | (rw [leafM_yes hnew hat] at hR; subst hR; exact ⟨[], _, _, rfl, trivial, AVle.refl _, rfl, .cons rfl (.refl _) rfl rfl (.cons rfl (.refl _) rfl rfl (.cons rfl (.refl _) rfl rfl (.cons rfl (.refl _) rfl rfl (.cons rfl (.refl _) rfl rfl (.nil))))), rfl, fun i hi => rfl⟩; done)
      | (rw [leafM_no hnew hat] at hR; subst hR; exact ⟨[], _, _, rfl, trivial, AVle.refl _, rfl, .cons rfl (.refl _) rfl rfl (.cons rfl (.refl _) rfl rfl (.cons rfl (.refl _) rfl rfl (.cons rfl (.refl _) rfl rfl (.cons rfl (.refl _) rfl rfl (.nil))))), rfl, fun i hi => rfl⟩; done)
  ·
    try simp only [Int.toNat_natCast] at h1
    obtain rfl : i = c.moves.length := by have := h1; omega
    rw [drop_end (Nat.le_refl _), chooseM] at hR
    refine vc_skip ?_
    refine vc_seq ?_
    refine vc_seq ?_
    refine vc_region ?_
    refine oq2 ?_
    refine oq1 ?_
    refine run_split 47 rfl (fun h4 => ?_) (fun h4 => ?_)
    ·
      try simp only [Int.toNat_natCast] at h4
      refine oq2 ?_
      refine oq2 ?_
      refine run_eqS false tabEq rfl rfl rfl rfl rfl rfl rfl rfl rfl ?_
      refine oq1 ?_
      refine run_nil ?_
      refine vc_cond rfl (fun h5 => ?_) (fun h5 => ?_)
      ·
        try simp only [Int.toNat_natCast] at h5
        refine vc_seq ?_
        refine vc_region ?_
        refine oq1 ?_
        refine run_nil ?_
        refine vc_ret ?_
        first
        | (have e1 : R = (true, (chooseM (leafM c (fun _ u => (true, u))) (c.moves.drop (i + 1)) (i + 1) (qn.set i ((c.moves.getD i default).q.lo + (n : Int))) sn).2) := (by rw [← hx, show ((c.moves.getD i default).q.hi - (c.moves.getD i default).q.lo + 1).toNat - n = ((c.moves.getD i default).q.hi - (c.moves.getD i default).q.lo + 1).toNat - (n + 1) + 1 by omega, loopF_stop (by rw [← hset]; assumption), ← hset]); subst e1; exact ⟨[], _, _, rfl, trivial, AVle.refl _, rfl, .cons rfl (.refl _) rfl rfl (.cons rfl (.refl _) rfl rfl (.cons rfl (.refl _) rfl rfl (.cons rfl (.refl _) rfl rfl (.cons rfl (.refl _) rfl rfl (.nil))))), rfl, fun i hi => rfl⟩; done)
        | (have e1 : R = (false, sn) := (by rw [← hx, show ((c.moves.getD i default).q.hi - (c.moves.getD i default).q.lo + 1).toNat - n = 0 by omega, loopF]); subst e1; exact ⟨[], _, _, rfl, trivial, AVle.refl _, rfl, .cons rfl (.refl _) rfl rfl (.cons rfl (.refl _) rfl rfl (.cons rfl (.refl _) rfl rfl (.cons rfl (.refl _) rfl rfl (.cons rfl (.refl _) rfl rfl (.nil))))), rfl, fun i hi => rfl⟩; done)
        | (rw [leafM_same (by assumption) (by assumption)] at hR; subst hR; exact ⟨[], _, _, rfl, trivial, AVle.refl _, rfl, .cons rfl (.refl _) rfl rfl (.cons rfl (.refl _) rfl rfl (.cons rfl (.refl _) rfl rfl (.cons rfl (.refl _) rfl rfl (.cons rfl (.refl _) rfl rfl (.nil))))), rfl, fun i hi => rfl⟩; done)
        | (rw [leafM_yes hnew hat] at hR; subst hR; exact ⟨[], _, _, rfl, trivial, AVle.refl _, rfl, .cons rfl (.refl _) rfl rfl (.cons rfl (.refl _) rfl rfl (.cons rfl (.refl _) rfl rfl (.cons rfl (.refl _) rfl rfl (.cons rfl (.refl _) rfl rfl (.nil))))), rfl, fun i hi => rfl⟩; done)
        | (rw [leafM_no hnew hat] at hR; subst hR; exact ⟨[], _, _, rfl, trivial, AVle.refl _, rfl, .cons rfl (.refl _) rfl rfl (.cons rfl (.refl _) rfl rfl (.cons rfl (.refl _) rfl rfl (.cons rfl (.refl _) rfl rfl (.cons rfl (.refl _) rfl rfl (.nil))))), rfl, fun i hi => rfl⟩; done)
      ·
        try simp only [Int.toNat_natCast] at h5
        refine vc_skip ?_
        refine vc_seq ?_
        refine vc_regionD rfl ?_
        refine oq2 ?_
        refine Sx.run_store rfl trivial rfl rfl rfl rfl rfl rfl rfl ?_
        refine Sx.run_store rfl trivial rfl rfl rfl rfl rfl rfl rfl ?_
        refine run_nil ⟨rfl, ?_⟩
        refine vc_ent (ent_blk 3 rfl (arrQ_le rfl rfl rfl rfl)) ?_
        have hnew : s.tried = false ∨ eq4 q s.last = false := by first | exact .inl (by assumption) | exact .inr (by assumption)
        refine vc_seq ?_
        by_cases hat : c.atOk q
        ·
          refine vc_region ?_
          refine oq2 ?_
          refine oq2 ?_
          refine run_call (atYes_c c q hG hq hat) [] rfl rfl rfl trivial rfl rfl rfl rfl .nil rfl rfl rfl rfl rfl ?_
          refine oq1 ?_
          refine oq1 ?_
          refine oq1 ?_
          refine oq1 ?_
          refine oq1 ?_
          refine run_nil ?_
          refine vc_seq ?_
          refine vc_region ?_
          refine oq1 ?_
          refine oq1 ?_
          refine oq2 ?_
          refine oq1 ?_
          refine run_call possible1_c [(0, 7)] rfl rfl rfl rfl rfl rfl rfl rfl .nil rfl rfl rfl rfl rfl ?_
          refine oq1 ?_
          refine oq1 ?_
          refine run_nil ?_
          refine vc_ret ?_
          first
          | (have e1 : R = (true, (chooseM (leafM c (fun _ u => (true, u))) (c.moves.drop (i + 1)) (i + 1) (qn.set i ((c.moves.getD i default).q.lo + (n : Int))) sn).2) := (by rw [← hx, show ((c.moves.getD i default).q.hi - (c.moves.getD i default).q.lo + 1).toNat - n = ((c.moves.getD i default).q.hi - (c.moves.getD i default).q.lo + 1).toNat - (n + 1) + 1 by omega, loopF_stop (by rw [← hset]; assumption), ← hset]); subst e1; exact ⟨[], _, _, rfl, trivial, AVle.refl _, rfl, .cons rfl (.refl _) rfl rfl (.cons rfl (.refl _) rfl rfl (.cons rfl (.refl _) rfl rfl (.cons rfl (.refl _) rfl rfl (.cons rfl (.refl _) rfl rfl (.nil))))), rfl, fun i hi => rfl⟩; done)
          | (have e1 : R = (false, sn) := (by rw [← hx, show ((c.moves.getD i default).q.hi - (c.moves.getD i default).q.lo + 1).toNat - n = 0 by omega, loopF]); subst e1; exact ⟨[], _, _, rfl, trivial, AVle.refl _, rfl, .cons rfl (.refl _) rfl rfl (.cons rfl (.refl _) rfl rfl (.cons rfl (.refl _) rfl rfl (.cons rfl (.refl _) rfl rfl (.cons rfl (.refl _) rfl rfl (.nil))))), rfl, fun i hi => rfl⟩; done)
          | (rw [leafM_same (by assumption) (by assumption)] at hR; subst hR; exact ⟨[], _, _, rfl, trivial, AVle.refl _, rfl, .cons rfl (.refl _) rfl rfl (.cons rfl (.refl _) rfl rfl (.cons rfl (.refl _) rfl rfl (.cons rfl (.refl _) rfl rfl (.cons rfl (.refl _) rfl rfl (.nil))))), rfl, fun i hi => rfl⟩; done)
          | (rw [leafM_yes hnew hat] at hR; subst hR; exact ⟨[], _, _, rfl, trivial, AVle.refl _, rfl, .cons rfl (.refl _) rfl rfl (.cons rfl (.refl _) rfl rfl (.cons rfl (.refl _) rfl rfl (.cons rfl (.refl _) rfl rfl (.cons rfl (.refl _) rfl rfl (.nil))))), rfl, fun i hi => rfl⟩; done)
          | (rw [leafM_no hnew hat] at hR; subst hR; exact ⟨[], _, _, rfl, trivial, AVle.refl _, rfl, .cons rfl (.refl _) rfl rfl (.cons rfl (.refl _) rfl rfl (.cons rfl (.refl _) rfl rfl (.cons rfl (.refl _) rfl rfl (.cons rfl (.refl _) rfl rfl (.nil))))), rfl, fun i hi => rfl⟩; done)
        ·
          refine vc_region ?_
          refine oq2 ?_
          refine oq2 ?_
          refine run_call (atNo_c c q hG hq hat) [] rfl rfl rfl trivial rfl rfl rfl rfl .nil rfl rfl rfl rfl rfl ?_
          refine oq1 ?_
          refine oq1 ?_
          refine oq1 ?_
          refine oq1 ?_
          refine oq1 ?_
          refine run_nil ?_
          refine vc_seq ?_
          refine vc_region ?_
          refine oq1 ?_
          refine oq1 ?_
          refine osk ?_
          refine osk ?_
          refine osk ?_
          refine oq1 ?_
          refine oq1 ?_
          refine run_nil ?_
          refine vc_ret ?_
          first
          | (have e1 : R = (true, (chooseM (leafM c (fun _ u => (true, u))) (c.moves.drop (i + 1)) (i + 1) (qn.set i ((c.moves.getD i default).q.lo + (n : Int))) sn).2) := (by rw [← hx, show ((c.moves.getD i default).q.hi - (c.moves.getD i default).q.lo + 1).toNat - n = ((c.moves.getD i default).q.hi - (c.moves.getD i default).q.lo + 1).toNat - (n + 1) + 1 by omega, loopF_stop (by rw [← hset]; assumption), ← hset]); subst e1; exact ⟨[], _, _, rfl, trivial, AVle.refl _, rfl, .cons rfl (.refl _) rfl rfl (.cons rfl (.refl _) rfl rfl (.cons rfl (.refl _) rfl rfl (.cons rfl (.refl _) rfl rfl (.cons rfl (.refl _) rfl rfl (.nil))))), rfl, fun i hi => rfl⟩; done)
          | (have e1 : R = (false, sn) := (by rw [← hx, show ((c.moves.getD i default).q.hi - (c.moves.getD i default).q.lo + 1).toNat - n = 0 by omega, loopF]); subst e1; exact ⟨[], _, _, rfl, trivial, AVle.refl _, rfl, .cons rfl (.refl _) rfl rfl (.cons rfl (.refl _) rfl rfl (.cons rfl (.refl _) rfl rfl (.cons rfl (.refl _) rfl rfl (.cons rfl (.refl _) rfl rfl (.nil))))), rfl, fun i hi => rfl⟩; done)
          | (rw [leafM_same (by assumption) (by assumption)] at hR; subst hR; exact ⟨[], _, _, rfl, trivial, AVle.refl _, rfl, .cons rfl (.refl _) rfl rfl (.cons rfl (.refl _) rfl rfl (.cons rfl (.refl _) rfl rfl (.cons rfl (.refl _) rfl rfl (.cons rfl (.refl _) rfl rfl (.nil))))), rfl, fun i hi => rfl⟩; done)
          | (rw [leafM_yes hnew hat] at hR; subst hR; exact ⟨[], _, _, rfl, trivial, AVle.refl _, rfl, .cons rfl (.refl _) rfl rfl (.cons rfl (.refl _) rfl rfl (.cons rfl (.refl _) rfl rfl (.cons rfl (.refl _) rfl rfl (.cons rfl (.refl _) rfl rfl (.nil))))), rfl, fun i hi => rfl⟩; done)
          | (rw [leafM_no hnew hat] at hR; subst hR; exact ⟨[], _, _, rfl, trivial, AVle.refl _, rfl, .cons rfl (.refl _) rfl rfl (.cons rfl (.refl _) rfl rfl (.cons rfl (.refl _) rfl rfl (.cons rfl (.refl _) rfl rfl (.cons rfl (.refl _) rfl rfl (.nil))))), rfl, fun i hi => rfl⟩; done)
    ·
      try simp only [Int.toNat_natCast] at h4
      refine osk ?_
      refine osk ?_
      refine osk ?_
      refine oq1 ?_
      refine run_nil ?_
      refine vc_cond rfl (fun h => Bool.noConfusion h) (fun _ => ?_)
      refine vc_skip ?_
      refine vc_seq ?_
      refine vc_regionD rfl ?_
      refine oq2 ?_
      refine Sx.run_store rfl trivial rfl rfl rfl rfl rfl rfl rfl ?_
      refine Sx.run_store rfl trivial rfl rfl rfl rfl rfl rfl rfl ?_
      refine run_nil ⟨rfl, ?_⟩
      refine vc_ent (ent_blk 3 rfl (arrQ_le rfl rfl rfl rfl)) ?_
      have hnew : s.tried = false ∨ eq4 q s.last = false := by first | exact .inl (by assumption) | exact .inr (by assumption)
      refine vc_seq ?_
      by_cases hat : c.atOk q
      ·
        refine vc_region ?_
        refine oq2 ?_
        refine oq2 ?_
        refine run_call (atYes_c c q hG hq hat) [] rfl rfl rfl trivial rfl rfl rfl rfl .nil rfl rfl rfl rfl rfl ?_
        refine oq1 ?_
        refine oq1 ?_
        refine oq1 ?_
        refine oq1 ?_
        refine oq1 ?_
        refine run_nil ?_
        refine vc_seq ?_
        refine vc_region ?_
        refine oq1 ?_
        refine oq1 ?_
        refine oq2 ?_
        refine oq1 ?_
        refine run_call possible1_c [(0, 7)] rfl rfl rfl rfl rfl rfl rfl rfl .nil rfl rfl rfl rfl rfl ?_
        refine oq1 ?_
        refine oq1 ?_
        refine run_nil ?_
        refine vc_ret ?_
        first
        | (have e1 : R = (true, (chooseM (leafM c (fun _ u => (true, u))) (c.moves.drop (i + 1)) (i + 1) (qn.set i ((c.moves.getD i default).q.lo + (n : Int))) sn).2) := (by rw [← hx, show ((c.moves.getD i default).q.hi - (c.moves.getD i default).q.lo + 1).toNat - n = ((c.moves.getD i default).q.hi - (c.moves.getD i default).q.lo + 1).toNat - (n + 1) + 1 by omega, loopF_stop (by rw [← hset]; assumption), ← hset]); subst e1; exact ⟨[], _, _, rfl, trivial, AVle.refl _, rfl, .cons rfl (.refl _) rfl rfl (.cons rfl (.refl _) rfl rfl (.cons rfl (.refl _) rfl rfl (.cons rfl (.refl _) rfl rfl (.cons rfl (.refl _) rfl rfl (.nil))))), rfl, fun i hi => rfl⟩; done)
        | (have e1 : R = (false, sn) := (by rw [← hx, show ((c.moves.getD i default).q.hi - (c.moves.getD i default).q.lo + 1).toNat - n = 0 by omega, loopF]); subst e1; exact ⟨[], _, _, rfl, trivial, AVle.refl _, rfl, .cons rfl (.refl _) rfl rfl (.cons rfl (.refl _) rfl rfl (.cons rfl (.refl _) rfl rfl (.cons rfl (.refl _) rfl rfl (.cons rfl (.refl _) rfl rfl (.nil))))), rfl, fun i hi => rfl⟩; done)
        | (rw [leafM_same (by assumption) (by assumption)] at hR; subst hR; exact ⟨[], _, _, rfl, trivial, AVle.refl _, rfl, .cons rfl (.refl _) rfl rfl (.cons rfl (.refl _) rfl rfl (.cons rfl (.refl _) rfl rfl (.cons rfl (.refl _) rfl rfl (.cons rfl (.refl _) rfl rfl (.nil))))), rfl, fun i hi => rfl⟩; done)
        | (rw [leafM_yes hnew hat] at hR; subst hR; exact ⟨[], _, _, rfl, trivial, AVle.refl _, rfl, .cons rfl (.refl _) rfl rfl (.cons rfl (.refl _) rfl rfl (.cons rfl (.refl _) rfl rfl (.cons rfl (.refl _) rfl rfl (.cons rfl (.refl _) rfl rfl (.nil))))), rfl, fun i hi => rfl⟩; done)
        | (rw [leafM_no hnew hat] at hR; subst hR; exact ⟨[], _, _, rfl, trivial, AVle.refl _, rfl, .cons rfl (.refl _) rfl rfl (.cons rfl (.refl _) rfl rfl (.cons rfl (.refl _) rfl rfl (.cons rfl (.refl _) rfl rfl (.cons rfl (.refl _) rfl rfl (.nil))))), rfl, fun i hi => rfl⟩; done)
      ·
        refine vc_region ?_
        refine oq2 ?_
        refine oq2 ?_
        refine run_call (atNo_c c q hG hq hat) [] rfl rfl rfl trivial rfl rfl rfl rfl .nil rfl rfl rfl rfl rfl ?_
        refine oq1 ?_
        refine oq1 ?_
        refine oq1 ?_
        refine oq1 ?_
        refine oq1 ?_
        refine run_nil ?_
        refine vc_seq ?_
        refine vc_region ?_
        refine oq1 ?_
        refine oq1 ?_
        refine osk ?_
        refine osk ?_
        refine osk ?_
        refine oq1 ?_
        refine oq1 ?_
        refine run_nil ?_
        refine vc_ret ?_
        first
        | (have e1 : R = (true, (chooseM (leafM c (fun _ u => (true, u))) (c.moves.drop (i + 1)) (i + 1) (qn.set i ((c.moves.getD i default).q.lo + (n : Int))) sn).2) := (by rw [← hx, show ((c.moves.getD i default).q.hi - (c.moves.getD i default).q.lo + 1).toNat - n = ((c.moves.getD i default).q.hi - (c.moves.getD i default).q.lo + 1).toNat - (n + 1) + 1 by omega, loopF_stop (by rw [← hset]; assumption), ← hset]); subst e1; exact ⟨[], _, _, rfl, trivial, AVle.refl _, rfl, .cons rfl (.refl _) rfl rfl (.cons rfl (.refl _) rfl rfl (.cons rfl (.refl _) rfl rfl (.cons rfl (.refl _) rfl rfl (.cons rfl (.refl _) rfl rfl (.nil))))), rfl, fun i hi => rfl⟩; done)
        | (have e1 : R = (false, sn) := (by rw [← hx, show ((c.moves.getD i default).q.hi - (c.moves.getD i default).q.lo + 1).toNat - n = 0 by omega, loopF]); subst e1; exact ⟨[], _, _, rfl, trivial, AVle.refl _, rfl, .cons rfl (.refl _) rfl rfl (.cons rfl (.refl _) rfl rfl (.cons rfl (.refl _) rfl rfl (.cons rfl (.refl _) rfl rfl (.cons rfl (.refl _) rfl rfl (.nil))))), rfl, fun i hi => rfl⟩; done)
        | (rw [leafM_same (by assumption) (by assumption)] at hR; subst hR; exact ⟨[], _, _, rfl, trivial, AVle.refl _, rfl, .cons rfl (.refl _) rfl rfl (.cons rfl (.refl _) rfl rfl (.cons rfl (.refl _) rfl rfl (.cons rfl (.refl _) rfl rfl (.cons rfl (.refl _) rfl rfl (.nil))))), rfl, fun i hi => rfl⟩; done)
        | (rw [leafM_yes hnew hat] at hR; subst hR; exact ⟨[], _, _, rfl, trivial, AVle.refl _, rfl, .cons rfl (.refl _) rfl rfl (.cons rfl (.refl _) rfl rfl (.cons rfl (.refl _) rfl rfl (.cons rfl (.refl _) rfl rfl (.cons rfl (.refl _) rfl rfl (.nil))))), rfl, fun i hi => rfl⟩; done)
        | (rw [leafM_no hnew hat] at hR; subst hR; exact ⟨[], _, _, rfl, trivial, AVle.refl _, rfl, .cons rfl (.refl _) rfl rfl (.cons rfl (.refl _) rfl rfl (.cons rfl (.refl _) rfl rfl (.cons rfl (.refl _) rfl rfl (.cons rfl (.refl _) rfl rfl (.nil))))), rfl, fun i hi => rfl⟩; done)

theorem chooseP_c (c : Clr) (hG : c.Good)  : ∀ (d i : Nat), i + d = c.moves.length → ∀ (q : List Int) (s : Tried (Unit)), q.length = 4 → (∀ j, 0 ≤ q.getD j 0 ∧ q.getD j 0 ≤ 1000) → CallC Try.prog 100 5 (lkF [(0, some (.cells 41 [.f (csks c.casks), .f (movs c.moves), .f (ggs c.gauges)])), (1, some (.cells 171 [.fn 100 [] [0, 1, 2, 3, 4]])), (2, some (.cells 4 [.f (.bool s.tried)])), (3, some (arrQ s.last)), (4, some (.cells 151 [.fn 96 [] []]))] fun _ => none) [aInt .i64 (i : Int), aQ q, .s (.c (.ptr 0 0)), .s (.c (.ptr 1 0)), .s (.c (.ptr 2 0)), .s (.c (.ptr 3 0)), .s (.c (.ptr 4 0))] 5 (lkF [(0, some (.cells 41 [.f (csks c.casks), .f (movs c.moves), .f (ggs c.gauges)])), (1, some (.cells 171 [.fn 100 [] [0, 1, 2, 3, 4]])), (2, some (.cells 4 [.f (.bool (chooseM (leafM c (fun _ u => (true, u))) (c.moves.drop i) i q s).2.tried)])), (3, some (arrQ (chooseM (leafM c (fun _ u => (true, u))) (c.moves.drop i) i q s).2.last)), (4, some (.cells 151 [.fn 96 [] []]))] fun _ => none) (aBool (chooseM (leafM c (fun _ u => (true, u))) (c.moves.drop i) i q s).1) := by
  intro d
  induction d with
  | zero => intro i hi q s hql hq; exact chooseP_s c hG  i (by omega) q s hql hq _ rfl (fun q s h => absurd h (by omega))
  | succ d ihd => intro i hi q s hql hq; exact chooseP_s c hG  i (by omega) q s hql hq _ rfl (fun q s hlt h1 h2 => ihd (i + 1) (by omega) q s h1 h2)

theorem worksP_c (c : Clr) (hG : c.Good)  (k : Unit) : CallC Try.prog 81 0 (lkF [] fun _ => none) [aClr c, .s (.c (.fn 96 [] []))] 0 (lkF [] fun _ => none) (aBool (worksM c (fun _ u => (true, u)) k).1) := by
  refine callC_intro tabOk mixed Try.func81 rfl rfl rfl rfl ?_
  intro w0 e0 Z0 X hX n
  refine vc_seq ?_
  refine vc_region ?_
  refine run_box rfl trivial rfl rfl rfl rfl rfl rfl (by intro _ _ h; cases h <;> (intro _; rfl)) ?_
  refine run_box rfl trivial rfl rfl rfl rfl rfl rfl (by intro _ _ h; cases h <;> (intro _; rfl)) ?_
  refine oq1 ?_
  refine run_nil ?_
  refine vc_seq ?_
  refine vc_region ?_
  refine run_alloc rfl trivial rfl rfl rfl rfl (by intro _ _ h; cases h <;> (intro _; rfl)) ?_
  refine run_nil ?_
  refine vc_seq ?_
  refine vc_region ?_
  refine run_alloc rfl trivial rfl rfl rfl rfl (by intro _ _ h; cases h <;> (intro _; rfl)) ?_
  refine Sx.run_store rfl trivial rfl rfl rfl rfl rfl rfl rfl ?_
  refine run_nil ?_
  refine vc_seq ?_
  refine vc_region ?_
  refine run_alloc rfl trivial rfl rfl rfl rfl (by intro _ _ h; cases h <;> (intro _; rfl)) ?_
  refine run_nil ?_
  refine vc_seq ?_
  refine vc_region ?_
  refine oq1 ?_
  refine Sx.run_store rfl trivial rfl rfl rfl rfl rfl rfl rfl ?_
  refine run_nil ?_
  refine vc_seq ?_
  refine vc_region ?_
  refine oq2 ?_
  refine oq1 ?_
  refine run_call (chooseP_c c hG  c.moves.length 0 (by omega) [0, 0, 0, 0] (⟨false, [0, 0, 0, 0], k⟩ : Tried (Unit)) rfl zero4) [(0, 0), (1, 4), (2, 3), (3, 2), (4, 1)] rfl rfl rfl trivial rfl rfl rfl rfl (.cons rfl (.refl _) rfl rfl (.cons rfl (.refl _) rfl rfl (.cons rfl (.refl _) rfl rfl (.cons rfl (arrQ_le rfl rfl rfl rfl) rfl rfl (.cons rfl (.refl _) rfl rfl (.nil)))))) rfl rfl rfl rfl rfl ?_
  refine oq1 ?_
  refine run_nil ?_
  refine vc_ret ?_
  exact ⟨[], _, _, rfl, trivial, AVle.refl _, rfl, .nil, rfl, fun i hi => absurd hi (Nat.not_lt_zero i)⟩

theorem possible_c (c : Clr) (hG : c.Good) : CallC Try.prog 61 0 (lkF [] fun _ => none) [aClr c] 0 (lkF [] fun _ => none) (aBool c.possible) := by
  refine callC_intro tabOk mixed Try.func61 rfl rfl rfl rfl ?_
  intro w0 e0 Z0 X hX n
  refine vc_seq ?_
  refine vc_region ?_
  refine run_box rfl trivial rfl rfl rfl rfl rfl rfl (by intro _ _ h; cases h <;> (intro _; rfl)) ?_
  refine oq1 ?_
  refine run_nil ?_
  refine vc_seq ?_
  refine vc_region ?_
  refine oq2 ?_
  refine run_callP (worksP_c c hG ()) rfl rfl rfl trivial rfl rfl rfl rfl ?_
  refine oq1 ?_
  refine run_nil ?_
  refine vc_ret ?_
  refine ret_pure rfl trivial rfl (AVle.of_eq ?_)
  rfl

end Go.Proofs.Ytnkgdapdccpjmaa

/- wrong, First, Leave. -/
namespace Go.Proofs.Ytnkgdapdccpjmaa
open Go Go.RowKit Go.Sx

theorem good_with {c : Clr} (hG : c.Good) {l : List Gg} (hl : ∀ g ∈ l, g ∈ c.gauges) (hn : l.length ≤ 6) : (Clr.mk c.casks c.moves l).Good :=
  ⟨hG.some, hG.casks, hG.moves, hn, hG.cask, hG.move, fun g hg => hG.gauge g (hl g hg)⟩
def Clr.with (c : Clr) (l : List Gg) : Clr := ⟨c.casks, c.moves, l⟩
def Clr.wrongE (c : Clr) : Int := if c.check = 0 then (if (c.with []).possible = true then 0 else 9) else c.check
def firstI (c : Clr) (i : Nat) : Int := if i < c.gauges.length then (if (c.with (c.gauges.take (i + 1))).possible = false then (i : Int) else firstI c (i + 1)) else -1
termination_by c.gauges.length - i
def Clr.firstA (c : Clr) : Int × Int := if c.wrongE = 0 then (if 0 ≤ firstI c 0 then (firstI c 0, 0) else (0, 7)) else (0, c.wrongE)
theorem wrongE_ok {c : Clr} (h : c.wrongE = 0) : c.check = 0 := by
  rw [Clr.wrongE] at h
  split at h
  · assumption
  · exact h

theorem withG_c (c : Clr) (l : List Gg) (ao : AV) (hao : AVle ao (.s (.c (.f (ggs l))))) : CallC Try.prog 60 0 (lkF [] fun _ => none) [aClr c, ao] 0 (lkF [] fun _ => none) (aClr (c.with l)) := by
  refine callC_intro tabOk mixed Try.func60 rfl rfl rfl rfl ?_
  intro w0 e0 Z0 X hX n
  refine vc_ent (ent_le 1 hao) ?_
  refine vc_seq ?_
  refine vc_region ?_
  refine run_box rfl trivial rfl rfl rfl rfl rfl rfl (by intro _ _ h; cases h <;> (intro _; rfl)) ?_
  refine run_alloc rfl trivial rfl rfl rfl rfl (by intro _ _ h; cases h <;> (intro _; rfl)) ?_
  refine run_nil ?_
  refine vc_seq ?_
  refine vc_region ?_
  refine oq1 ?_
  refine oq5 ?_
  refine Sx.run_store rfl trivial rfl rfl rfl rfl rfl rfl rfl ?_
  refine run_nil ?_
  refine vc_seq ?_
  refine vc_region ?_
  refine oq2 ?_
  refine Sx.run_store rfl trivial rfl rfl rfl rfl rfl rfl rfl ?_
  refine run_nil ?_
  refine vc_ret ?_
  refine ret_pure rfl (Nat.le_of_ble_eq_true rfl) rfl (AVle.of_eq ?_)
  rfl

theorem wrong_c (c : Clr) : CallC Try.prog 57 0 (lkF [] fun _ => none) [aClr c] 0 (lkF [] fun _ => none) (aInt .i64 c.wrongE) := by
  refine callC_intro tabOk mixed Try.func57 rfl rfl rfl rfl ?_
  intro w0 e0 Z0 X hX n
  refine vc_seq ?_
  refine vc_region ?_
  refine run_box rfl trivial rfl rfl rfl rfl rfl rfl (by intro _ _ h; cases h <;> (intro _; rfl)) ?_
  refine oq1 ?_
  refine run_nil ?_
  refine vc_seq ?_
  refine vc_seq ?_
  refine vc_region ?_
  refine oq2 ?_
  refine run_callP (check_c _) rfl rfl rfl trivial rfl rfl rfl rfl ?_
  refine oq1 ?_
  refine run_nil ?_
  refine vc_seq ?_
  refine vc_region ?_
  refine oq1 ?_
  refine oq6 ?_
  refine run_nil ?_
  refine vc_condN rfl (fun h1 => ?_) (fun h1 => ?_)
  ·
    try simp only [Int.toNat_natCast] at h1
    refine vc_seq ?_
    refine vc_region ?_
    refine oq1 ?_
    refine oq1 ?_
    refine run_nil ?_
    refine vc_ret ?_
    refine ret_pure rfl trivial rfl (AVle.of_eq ?_)
    refine aInt_eq ?_
    rw [Clr.wrongE]
    first
    | (rw [if_neg (by simp_all)]; done)
    | (rw [if_pos hchk, if_neg (by simp_all)]; done)
    | (rw [if_pos hchk, if_pos (by simp_all)])
  ·
    try simp only [Int.toNat_natCast] at h1
    have hchk : c.check = 0 := by simpa using h1
    have hG := Clr.good hchk
    refine vc_skip ?_
    refine vc_seq ?_
    refine vc_seq ?_
    refine vc_region ?_
    refine oq2 ?_
    refine run_callP (withG_c c [] _ (.f .nil)) rfl rfl rfl trivial rfl rfl rfl rfl ?_
    refine run_callP (possible_c (c.with []) (good_with hG (fun g hg => by cases hg) (Nat.zero_le _))) rfl rfl rfl trivial rfl rfl rfl rfl ?_
    refine oq1 ?_
    refine run_nil ?_
    refine vc_cond rfl (fun h2 => ?_) (fun h2 => ?_)
    ·
      try simp only [Int.toNat_natCast] at h2
      refine vc_seq ?_
      refine vc_region ?_
      refine oq1 ?_
      refine run_nil ?_
      refine vc_ret ?_
      refine ret_pure rfl trivial rfl (AVle.of_eq ?_)
      refine aInt_eq ?_
      rw [Clr.wrongE]
      first
      | (rw [if_neg (by simp_all)]; done)
      | (rw [if_pos hchk, if_neg (by simp_all)]; done)
      | (rw [if_pos hchk, if_pos (by simp_all)])
    ·
      try simp only [Int.toNat_natCast] at h2
      refine vc_skip ?_
      refine vc_seq ?_
      refine vc_region ?_
      refine oq1 ?_
      refine run_nil ?_
      refine vc_ret ?_
      refine ret_pure rfl trivial rfl (AVle.of_eq ?_)
      refine aInt_eq ?_
      rw [Clr.wrongE]
      first
      | (rw [if_neg (by simp_all)]; done)
      | (rw [if_pos hchk, if_neg (by simp_all)]; done)
      | (rw [if_pos hchk, if_pos (by simp_all)])

theorem First_c (c : Clr) : CallC Try.prog 34 0 (lkF [] fun _ => none) [aClr c] 0 (lkF [] fun _ => none) (aII c.firstA.1 c.firstA.2) := by
  refine callC_intro tabOk mixed Try.func34 rfl rfl rfl rfl ?_
  intro w0 e0 Z0 X hX n
  refine vc_fact 0 clr_len fun hlen => ?_
  refine vc_seq ?_
  refine vc_region ?_
  refine run_box rfl trivial rfl rfl rfl rfl rfl rfl (by intro _ _ h; cases h <;> (intro _; rfl)) ?_
  refine oq1 ?_
  refine oq1 ?_
  refine run_nil ?_
  refine vc_seq ?_
  refine vc_seq ?_
  refine vc_region ?_
  refine oq2 ?_
  refine run_callP (wrong_c _) rfl rfl rfl trivial rfl rfl rfl rfl ?_
  refine oq1 ?_
  refine run_nil ?_
  refine vc_seq ?_
  refine vc_region ?_
  refine oq1 ?_
  refine oq6 ?_
  refine run_nil ?_
  refine vc_condN rfl (fun h1 => ?_) (fun h1 => ?_)
  ·
    try simp only [Int.toNat_natCast] at h1
    refine vc_seq ?_
    refine vc_region ?_
    refine oq1 ?_
    refine oq1 ?_
    refine oq1 ?_
    refine run_nil ?_
    refine vc_ret ?_
    refine ret_pure rfl ⟨trivial, trivial, trivial⟩ rfl (AVle.of_eq ?_)
    refine aII_eq ?_
    first
    | (rw [Clr.firstA, if_neg (by simp_all)]; done)
    | (have e1 : firstI c 0 = (i : Int) := (by rw [← hx, firstI, if_pos (by omega), if_pos (by simp_all)]); rw [Clr.firstA, if_pos hw0, e1, if_pos (by omega)]; done)
    | (have e1 : firstI c 0 = -1 := (by rw [← hx, firstI, if_neg (by omega)]); rw [Clr.firstA, if_pos hw0, e1, if_neg (by decide)])
  ·
    try simp only [Int.toNat_natCast] at h1
    have hw0 : c.wrongE = 0 := by simpa using h1
    have hG := Clr.good (wrongE_ok hw0)
    have hg6 := hG.gauges
    refine vc_skip ?_
    refine vc_seq ?_
    refine vc_seq ?_
    refine vc_region ?_
    refine oq5 ?_
    refine oq2 ?_
    refine oq1 ?_
    refine oq1 ?_
    refine run_nil ?_
    refine vc_block ?_
    refine vc_loopO (κ := Nat) (fun i => i ≤ c.gauges.length ∧ firstI c i = firstI c 0) (fun i => [(14, aInt .i64 (i : Int))] ++ deadL [2, 3, 5, 15, 16, 17, 18, 19, 20, 21, 22, 23, 24, 25, 26, 27]) (fun i => c.gauges.length - i) 0 ⟨Nat.zero_le _, rfl⟩ ?_ ?_
    ·
      exact ent_over .base (.app (.cons (.refl _) (.nil)) _)
    rintro i ⟨hi, hx⟩
    refine vc_seq ?_
    refine vc_region ?_
    refine oq6 ?_
    refine run_nil ?_
    refine vc_seq ?_
    refine vc_condP rfl (fun h2 => ?_) (fun h2 => ?_)
    ·
      try simp only [Int.toNat_natCast] at h2
      refine vc_skip ?_
      refine vc_seq ?_
      refine vc_block ?_
      refine vc_seq ?_
      refine vc_region ?_
      refine oq1 ?_
      refine oq1 ?_
      refine run_nil ?_
      refine vc_seq ?_
      refine vc_regionD rfl ?_
      refine oq2 ?_
      refine oq5 ?_
      refine oq2 ?_
      refine oq1 ?_
      refine oq4 ?_
      refine run_qW (.s (.c (.f (ggs (c.gauges.take (i + 1)))))) rfl trivial rfl rfl rfl ⟨⟨rfl, fun h => Bool.noConfusion h⟩, by (try simp only [Option.getD_some, Option.getD_none]); omega, by (try simp only [Option.getD_some, Option.getD_none]); omega, by (try simp only [Option.getD_some, Option.getD_none]); omega, by (try simp only [Option.getD_some, Option.getD_none]); omega⟩ (.f (encL_take c.gauges (i + 1) (by rw [List.length_take]; simp only [Option.getD_some, Option.getD_none]; omega))) ?_
      refine run_callP (withG_c c (c.gauges.take (i + 1)) _ (.refl _)) rfl rfl rfl trivial rfl rfl rfl rfl ?_
      refine run_callP (possible_c (c.with (c.gauges.take (i + 1))) (good_with hG (fun g hg => List.mem_of_mem_take hg) (by rw [List.length_take]; omega))) rfl rfl rfl trivial rfl rfl rfl rfl ?_
      refine oq1 ?_
      refine run_nil ⟨rfl, ?_⟩
      refine vc_cond rfl (fun h3 => ?_) (fun h3 => ?_)
      ·
        try simp only [Int.toNat_natCast] at h3
        refine vc_seq ?_
        refine vc_region ?_
        refine oq1 ?_
        refine oq1 ?_
        refine oq1 ?_
        refine run_nil ?_
        refine vc_ret ?_
        refine ret_pure rfl ⟨trivial, trivial, trivial⟩ rfl (AVle.of_eq ?_)
        refine aII_eq ?_
        first
        | (rw [Clr.firstA, if_neg (by simp_all)]; done)
        | (have e1 : firstI c 0 = (i : Int) := (by rw [← hx, firstI, if_pos (by omega), if_pos (by simp_all)]); rw [Clr.firstA, if_pos hw0, e1, if_pos (by omega)]; done)
        | (have e1 : firstI c 0 = -1 := (by rw [← hx, firstI, if_neg (by omega)]); rw [Clr.firstA, if_pos hw0, e1, if_neg (by decide)])
      ·
        try simp only [Int.toNat_natCast] at h3
        refine vc_skip ?_
        refine vc_region ?_
        refine oq4 ?_
        refine oq1 ?_
        refine run_nil ?_
        refine ⟨i + 1, ⟨by omega, ?_⟩, by omega, ent_over (by repeat (first | exact .base | refine .step rfl ?_)) (.app (.cons (.refl _) (.nil)) _)⟩
        rw [← hx, firstI.eq_def c i, if_pos (by omega), if_neg (by simp_all)]
    ·
      try simp only [Int.toNat_natCast] at h2
      refine vc_exit ?_
      refine vc_seq ?_
      refine vc_region ?_
      refine oq1 ?_
      refine oq1 ?_
      refine run_nil ?_
      refine vc_ret ?_
      refine ret_pure rfl ⟨trivial, trivial, trivial⟩ rfl (AVle.of_eq ?_)
      refine aII_eq ?_
      first
      | (rw [Clr.firstA, if_neg (by simp_all)]; done)
      | (have e1 : firstI c 0 = (i : Int) := (by rw [← hx, firstI, if_pos (by omega), if_pos (by simp_all)]); rw [Clr.firstA, if_pos hw0, e1, if_pos (by omega)]; done)
      | (have e1 : firstI c 0 = -1 := (by rw [← hx, firstI, if_neg (by omega)]); rw [Clr.firstA, if_pos hw0, e1, if_neg (by decide)])

theorem cloneO_c (l : List Int) (hl : l.length ≤ 1000000) : CallC Try.prog 62 0 (lkF [] fun _ => none) [aInts l] 1 (lkF [(0, some (rowI l))] fun _ => none) (.s (.c (.own 0))) := by
  refine callC_intro tabOk mixed Try.func62 rfl rfl rfl rfl ?_
  intro w0 e0 Z0 X hX n
  refine vc_seq ?_
  refine vc_region ?_
  refine oq1 ?_
  refine run_nil ?_
  refine vc_seq ?_
  refine vc_seq ?_
  refine vc_regionT ?_
  refine t1 (run_q rfl trivial rfl rfl rfl trivial (run_nil ?_))
  refine runT_nilEq rfl trivial rfl rfl rfl rfl rfl (fun h0 => ?_) ?_
  · refine runT_nil ?_
    refine vc_cond rfl (fun _ => ?_) (fun h => Bool.noConfusion h)
    refine vc_seq ?_
    refine vc_region ?_
    refine oq1 ?_
    refine run_nil ?_
    refine vc_ent (ent_adoptS 2 3 1 (fun _ _ => .any) rfl) ?_
    refine vc_ret ?_
    obtain rfl : l = [] := List.length_eq_zero_iff.1 h0
    exact ⟨[], _, _, rfl, trivial, AVle.refl _, rfl, .cons rfl (rowZ rfl) rfl rfl .nil, rfl, fun i hi => absurd hi (Nat.not_lt_zero i)⟩
  · refine runT_nil ?_
    refine vc_cond rfl (fun h => Bool.noConfusion h) (fun _ => ?_)
    refine vc_skip ?_
    refine vc_seq ?_
    refine vc_region ?_
    refine run_buildOwn rfl trivial rfl rfl rfl rfl rfl rfl rfl rfl rfl ?_
    refine oq1 ?_
    refine run_append rfl rfl rfl rfl trivial rfl rfl rfl rfl rfl rfl rfl rfl rfl rfl rfl (app_room (by omega) rfl) ?_
    refine oq1 ?_
    refine run_nil ?_
    refine vc_ret ?_
    exact ⟨[(0, 1)], _, _, rfl, trivial, AVle.refl _, rfl, .cons rfl (.row (by simp) fun i j hi hj => .of_eq (by simp [appF])) rfl rfl .nil, rfl, fun i hi => absurd hi (Nat.not_lt_zero i)⟩

/-- The gauges that are kept. -/
def Clr.keptTo (c : Clr) (o : List Int) (i : Nat) : List Gg := List.map (fun j : Nat => c.gauges.getD j default) ((List.range i).filter fun j : Nat => !decide (0 ≤ index o (j : Int) 0))
theorem keptTo_yes {c : Clr} {o : List Int} {i : Nat} (h : (!decide (0 ≤ index o (i : Int) 0)) = true) : c.keptTo o (i + 1) = c.keptTo o i ++ [c.gauges.getD i default] := by
  rw [Clr.keptTo, List.range_succ, List.filter_append, List.map_append]; simp only [List.filter_cons, h, if_true, List.filter_nil, List.map_cons, List.map_nil]; rfl
theorem keptTo_no {c : Clr} {o : List Int} {i : Nat} (h : (!decide (0 ≤ index o (i : Int) 0)) = false) : c.keptTo o (i + 1) = c.keptTo o i := by
  rw [Clr.keptTo, List.range_succ, List.filter_append, List.map_append]; simp only [List.filter_cons, h, Bool.false_eq_true, if_false, List.filter_nil, List.map_nil, List.append_nil]; rfl
theorem keptTo_len (c : Clr) (o : List Int) (i : Nat) : (c.keptTo o i).length ≤ i := by
  simp only [Clr.keptTo, List.length_map]; exact Nat.le_trans (List.length_filter_le _ _) (by simp)
theorem keptTo_mem {c : Clr} {o : List Int} {i : Nat} (hi : i ≤ c.gauges.length) : ∀ g ∈ c.keptTo o i, g ∈ c.gauges := fun g hg => by
  simp only [Clr.keptTo, List.mem_map, List.mem_filter, List.mem_range] at hg
  obtain ⟨j, ⟨hj, _⟩, rfl⟩ := hg
  exact getD_mem (by omega)
def Clr.kept (c : Clr) (o : List Int) : List Gg := c.keptTo o c.gauges.length
/-- So many gauges are left out, from one on, behind some. -/
def leaveM (c : Clr) : Nat → List Int → Nat → List Int → Bool × List Int
  | 0, o, _, _ => ((c.with (c.kept o)).possible, o)
  | m + 1, o, f, s => loopF (fun v s => leaveM c m (o ++ [v]) (v.toNat + 1) s) (c.gauges.length - m - f) (f : Int) s

theorem leave_s (c : Clr) (hG : c.Good) (mn : Nat) (o : List Int) (ao : AV) (hao : AVle ao (aInts o)) (f : Nat) (fd : List Int) (mz : Int) (hmz : mz = (mn : Int)) (hol : o.length + mn ≤ 6) (hf : f ≤ 6) (R : Bool × List Int) (hR : leaveM c mn o f fd = R) (ih : ∀ m, mn = m + 1 → ∀ (o : List Int) (v : Nat) (fd : List Int) (mz : Int), mz = (m : Int) → o.length + m ≤ 6 → v ≤ 6 → CallC Try.prog 58 3 (lkF [(0, some (.cells 41 [.f (csks c.casks), .f (movs c.moves), .f (ggs c.gauges)])), (1, some (.cells 43 [.f (ints fd)])), (2, some (.cells 126 [.fn 58 [] [0, 1, 2]]))] fun _ => none) [aInts o, aInt .i64 (v : Int), aInt .i64 mz, .s (.c (.ptr 0 0)), .s (.c (.ptr 1 0)), .s (.c (.ptr 2 0))] 3 (lkF [(0, some (.cells 41 [.f (csks c.casks), .f (movs c.moves), .f (ggs c.gauges)])), (1, some (.cells 43 [.f (ints (leaveM c m o v fd).2)])), (2, some (.cells 126 [.fn 58 [] [0, 1, 2]]))] fun _ => none) (aBool (leaveM c m o v fd).1)) : CallC Try.prog 58 3 (lkF [(0, some (.cells 41 [.f (csks c.casks), .f (movs c.moves), .f (ggs c.gauges)])), (1, some (.cells 43 [.f (ints fd)])), (2, some (.cells 126 [.fn 58 [] [0, 1, 2]]))] fun _ => none) [ao, aInt .i64 (f : Int), aInt .i64 mz, .s (.c (.ptr 0 0)), .s (.c (.ptr 1 0)), .s (.c (.ptr 2 0))] 3 (lkF [(0, some (.cells 41 [.f (csks c.casks), .f (movs c.moves), .f (ggs c.gauges)])), (1, some (.cells 43 [.f (ints R.2)])), (2, some (.cells 126 [.fn 58 [] [0, 1, 2]]))] fun _ => none) (aBool R.1) := by
  refine callC_intro tabOk mixed Try.func58 rfl rfl rfl rfl ?_
  intro w0 e0 Z0 X hX n
  refine vc_ent (ent_le 0 hao) ?_
  have hg6 := hG.gauges
  refine vc_seq ?_
  refine vc_region ?_
  refine oq1 ?_
  refine run_nil ?_
  refine vc_seq ?_
  refine vc_seq ?_
  refine vc_region ?_
  refine oq1 ?_
  refine oq6 ?_
  refine run_nil ?_
  refine vc_condP rfl (fun h1 => ?_) (fun h1 => ?_)
  ·
    try simp only [Int.toNat_natCast] at h1
    obtain rfl : mn = 0 := by have := h1; omega
    rw [leaveM] at hR
    refine vc_seq ?_
    refine vc_region ?_
    refine oq1 ?_
    refine run_nil ?_
    refine vc_seq ?_
    refine vc_seq ?_
    refine vc_ent (ent_adoptS 10 100 5 (fun _ _ => .any) rfl) ?_
    refine vc_region ?_
    refine oq5 ?_
    refine oq2 ?_
    refine oq1 ?_
    refine oq1 ?_
    refine run_nil ?_
    refine vc_block ?_
    refine vc_loop (κ := Nat) (fun i => i ≤ c.gauges.length) (fun i => ⟨[(0, aInts o), (3, .s (.c (.ptr 0 0))), (4, .s (.c (.ptr 1 0))), (10, .s (.c (.own 3))), (17, .s (.c (.f (ggs c.gauges)))), (18, aInt .i64 (c.gauges.length : Int)), (19, aInt .i64 (i : Int))], [(0, some (.cells 41 [.f (csks c.casks), .f (movs c.moves), .f (ggs c.gauges)])), (1, some (.cells 43 [.f (ints fd)])), (2, some (.cells 126 [.fn 58 [] [0, 1, 2]])), (3, some (rowL 100 5 ggF default (c.keptTo o i)))], fun _ => none, 4⟩) (fun i => c.gauges.length - i) 0 (Nat.zero_le _) ?_ ?_
    ·
      exact ent_ren [] (.cons (.refl _) rfl (.cons (.refl _) rfl (.cons (.refl _) rfl (.cons (.refl _) rfl (.cons (.refl _) rfl (.cons (.refl _) rfl (.cons (.refl _) rfl (.nil)))))))) (.cons rfl (.refl _) rfl rfl (.cons rfl (.refl _) rfl rfl (.cons rfl (.refl _) rfl rfl (.cons rfl (rowZ rfl) rfl rfl (.nil))))) rfl rfl (fun i hi => ⟨piS rfl hi, Nat.lt_of_lt_of_le hi (Nat.le_of_ble_eq_true rfl)⟩)
    rintro i hi
    have hkl := keptTo_len c o i
    refine vc_seq ?_
    refine vc_region ?_
    refine oq6 ?_
    refine run_nil ?_
    refine vc_seq ?_
    refine vc_condP rfl (fun h2 => ?_) (fun h2 => ?_)
    ·
      try simp only [Int.toNat_natCast] at h2
      refine vc_skip ?_
      refine vc_seq ?_
      refine vc_block ?_
      refine vc_seq ?_
      refine vc_region ?_
      refine oq1 ?_
      refine oq3 ?_
      refine oq2 ?_
      refine run_alloc rfl trivial rfl rfl rfl rfl (by intro _ _ h; cases h <;> (intro _; rfl)) ?_
      refine oq1 ?_
      refine Sx.run_store rfl trivial rfl rfl rfl rfl rfl rfl rfl ?_
      refine run_nil ?_
      refine vc_seq ?_
      refine vc_region ?_
      refine oq1 ?_
      refine oq1 ?_
      refine run_callP (contains_c _ _) rfl rfl rfl trivial rfl rfl rfl rfl ?_
      refine oq1 ?_
      refine run_nil ?_
      refine vc_cond rfl (fun h3 => ?_) (fun h3 => ?_)
      ·
        try simp only [Int.toNat_natCast] at h3
        refine vc_region ?_
        refine oq1 ?_
        refine oq2 ?_
        refine run_buildSlice rfl trivial rfl rfl rfl rfl rfl rfl rfl rfl rfl ?_
        refine run_append rfl rfl rfl rfl trivial rfl rfl rfl rfl rfl rfl rfl rfl rfl rfl rfl (by first | omega | exact app_room (by omega) rfl) ?_
        refine oq1 ?_
        refine run_nil ?_
        refine vc_region ?_
        refine oq4 ?_
        refine oq1 ?_
        refine run_nil ?_
        first
        | (refine ⟨i + 1, by omega, by omega, ent_ren [(3, 5)] (.cons (.refl _) rfl (.cons (.refl _) rfl (.cons (.refl _) rfl (.cons (.refl _) rfl (.cons (.refl _) rfl (.cons (.refl _) rfl (.cons (.refl _) rfl (.nil)))))))) (.cons rfl (.refl _) rfl rfl (.cons rfl (.refl _) rfl rfl (.cons rfl (.refl _) rfl rfl (.cons rfl ((by rw [keptTo_yes (by assumption)]; exact rowL_snoc (g := ggF) (d := default) _ _ (fall5 (.refl _) (.refl _) (.refl _) (.refl _) (.refl _)))) rfl rfl (.nil))))) rfl rfl (fun i hi => ⟨piS rfl hi, Nat.lt_of_lt_of_le hi (Nat.le_of_ble_eq_true rfl)⟩)⟩)
        | (refine ⟨i + 1, by omega, by omega, ent_ren [] (.cons (.refl _) rfl (.cons (.refl _) rfl (.cons (.refl _) rfl (.cons (.refl _) rfl (.cons (.refl _) rfl (.cons (.refl _) rfl (.cons (.refl _) rfl (.nil)))))))) (.cons rfl (.refl _) rfl rfl (.cons rfl (.refl _) rfl rfl (.cons rfl (.refl _) rfl rfl (.cons rfl ((by rw [keptTo_no (by assumption)]; exact .refl _)) rfl rfl (.nil))))) rfl rfl (fun i hi => ⟨piS rfl hi, Nat.lt_of_lt_of_le hi (Nat.le_of_ble_eq_true rfl)⟩)⟩)
      ·
        try simp only [Int.toNat_natCast] at h3
        refine vc_skip ?_
        refine vc_region ?_
        refine oq4 ?_
        refine oq1 ?_
        refine run_nil ?_
        first
        | (refine ⟨i + 1, by omega, by omega, ent_ren [(3, 5)] (.cons (.refl _) rfl (.cons (.refl _) rfl (.cons (.refl _) rfl (.cons (.refl _) rfl (.cons (.refl _) rfl (.cons (.refl _) rfl (.cons (.refl _) rfl (.nil)))))))) (.cons rfl (.refl _) rfl rfl (.cons rfl (.refl _) rfl rfl (.cons rfl (.refl _) rfl rfl (.cons rfl ((by rw [keptTo_yes (by assumption)]; exact rowL_snoc (g := ggF) (d := default) _ _ (fall5 (.refl _) (.refl _) (.refl _) (.refl _) (.refl _)))) rfl rfl (.nil))))) rfl rfl (fun i hi => ⟨piS rfl hi, Nat.lt_of_lt_of_le hi (Nat.le_of_ble_eq_true rfl)⟩)⟩)
        | (refine ⟨i + 1, by omega, by omega, ent_ren [] (.cons (.refl _) rfl (.cons (.refl _) rfl (.cons (.refl _) rfl (.cons (.refl _) rfl (.cons (.refl _) rfl (.cons (.refl _) rfl (.cons (.refl _) rfl (.nil)))))))) (.cons rfl (.refl _) rfl rfl (.cons rfl (.refl _) rfl rfl (.cons rfl (.refl _) rfl rfl (.cons rfl ((by rw [keptTo_no (by assumption)]; exact .refl _)) rfl rfl (.nil))))) rfl rfl (fun i hi => ⟨piS rfl hi, Nat.lt_of_lt_of_le hi (Nat.le_of_ble_eq_true rfl)⟩)⟩)
    ·
      try simp only [Int.toNat_natCast] at h2
      refine vc_exit ?_
      refine vc_seq ?_
      obtain rfl : i = c.gauges.length := by omega
      refine vc_region ?_
      refine oq1 ?_
      refine Sx.run_store rfl trivial rfl rfl rfl rfl rfl rfl rfl ?_
      refine run_nil ?_
      refine vc_seq ?_
      refine vc_ent (ent_fz 3 rfl) ?_
      refine vc_region ?_
      refine oq2 ?_
      refine oq1 ?_
      refine run_callP (withG_c c (c.kept o) _ (.refl _)) rfl rfl rfl trivial rfl rfl rfl rfl ?_
      refine run_callP (possible_c (c.with (c.kept o)) (good_with hG (keptTo_mem (Nat.le_refl _)) (by rw [Clr.kept]; have := keptTo_len c o c.gauges.length; omega))) rfl rfl rfl trivial rfl rfl rfl rfl ?_
      refine oq1 ?_
      refine run_nil ?_
      refine vc_ret ?_
      first
      | (subst hR; exact ⟨[], _, _, rfl, trivial, AVle.refl _, rfl, .cons rfl (.refl _) rfl rfl (.cons rfl (.refl _) rfl rfl (.cons rfl (.refl _) rfl rfl (.nil))), rfl, fun i hi => rfl⟩; done)
      | (have e1 : R = (true, (leaveM c m (o ++ [(v : Int)]) (v + 1) s).2) := (by rw [← hx, show c.gauges.length - m - v = c.gauges.length - m - (v + 1) + 1 by omega, loopF_stop (by simpa using (by assumption : (leaveM c m (o ++ [(v : Int)]) (v + 1) s).1 = true))]; rfl); subst e1; exact ⟨[], _, _, rfl, trivial, AVle.refl _, rfl, .cons rfl (.refl _) rfl rfl (.cons rfl (.refl _) rfl rfl (.cons rfl (.refl _) rfl rfl (.nil))), rfl, fun i hi => rfl⟩; done)
      | (have e1 : R = (false, s) := (by rw [← hx, show c.gauges.length - m - v = 0 by omega, loopF]); subst e1; exact ⟨[], _, _, rfl, trivial, AVle.refl _, rfl, .cons rfl (.refl _) rfl rfl (.cons rfl (.refl _) rfl rfl (.cons rfl (.refl _) rfl rfl (.nil))), rfl, fun i hi => rfl⟩; done)
  ·
    try simp only [Int.toNat_natCast] at h1
    obtain ⟨m, rfl⟩ : ∃ m, mn = m + 1 := ⟨mn - 1, by have := h1; omega⟩
    rw [leaveM] at hR
    refine vc_skip ?_
    refine vc_seq ?_
    refine vc_seq ?_
    refine vc_region ?_
    refine oq1 ?_
    refine oq1 ?_
    refine run_nil ?_
    refine vc_block ?_
    refine vc_loop (κ := Nat × List Int) (fun p => f ≤ p.1 ∧ p.1 ≤ 7 ∧ loopF (fun v s => leaveM c m (o ++ [v]) (v.toNat + 1) s) (c.gauges.length - m - p.1) (p.1 : Int) p.2 = R) (fun p => ⟨[(0, aInts o), (2, aInt .i64 mz), (3, .s (.c (.ptr 0 0))), (5, .s (.c (.ptr 2 0))), (13, aInt .i64 (p.1 : Int))], [(0, some (.cells 41 [.f (csks c.casks), .f (movs c.moves), .f (ggs c.gauges)])), (1, some (.cells 43 [.f (ints p.2)])), (2, some (.cells 126 [.fn 58 [] [0, 1, 2]]))], fun _ => none, 3⟩) (fun p => 8 - p.1) (f, fd) ⟨Nat.le_refl _, by omega, hR⟩ ?_ ?_
    ·
      exact ent_ren [] (.cons (.refl _) rfl (.cons (.refl _) rfl (.cons (.refl _) rfl (.cons (.refl _) rfl (.cons (.refl _) rfl (.nil)))))) (.cons rfl (.refl _) rfl rfl (.cons rfl (.refl _) rfl rfl (.cons rfl (.refl _) rfl rfl (.nil)))) rfl rfl (fun i hi => ⟨piS rfl hi, Nat.lt_of_lt_of_le hi (Nat.le_of_ble_eq_true rfl)⟩)
    rintro ⟨v, s⟩ ⟨hv1, hv2, hx⟩
    dsimp only at hv1 hv2 hx ⊢
    refine vc_seq ?_
    refine vc_seq ?_
    refine vc_region ?_
    refine oq1 ?_
    refine oq5 ?_
    refine oq2 ?_
    refine oq1 ?_
    refine oq1 ?_
    refine oq4 ?_
    refine oq6 ?_
    refine run_nil ?_
    refine vc_condP rfl (fun h4 => ?_) (fun h4 => ?_)
    ·
      try simp only [Int.toNat_natCast] at h4
      refine vc_skip ?_
      refine vc_seq ?_
      refine vc_block ?_
      refine vc_seq ?_
      refine vc_regionD rfl ?_
      refine oq2 ?_
      refine oq1 ?_
      refine run_call (cloneO_c o (by omega)) [] rfl rfl rfl trivial rfl rfl rfl rfl .nil rfl rfl rfl rfl rfl ?_
      refine oq1 ?_
      refine run_buildSlice rfl trivial rfl rfl rfl rfl rfl rfl rfl rfl rfl ?_
      refine run_appendFz (ints (o ++ [(v : Int)])) rfl rfl rfl rfl trivial rfl rfl rfl rfl rfl rfl rfl rfl rfl rfl rfl (app_room (by omega) rfl) (.sl (by simp) fun i j hi hj => .of_eq (by obtain rfl : j = 0 := Nat.lt_one_iff.1 hj; simp only [appF]; by_cases h : i < o.length; (· simp [h, List.getD, List.getElem?_append]); (· obtain rfl : i = o.length := (by omega); simp [List.getD]; rfl))) ?_
      refine oq1 ?_
      refine oq4 ?_
      refine oq1 ?_
      refine oq4 ?_
      refine run_call (ih m rfl (o ++ [(v : Int)]) (v + 1) s (mz - 1) (by omega) (by simp; omega) (by omega)) [] rfl rfl rfl trivial rfl rfl rfl rfl (.cons rfl (.refl _) rfl rfl (.cons rfl (.refl _) rfl rfl (.cons rfl (.refl _) rfl rfl (.nil)))) rfl rfl rfl rfl rfl ?_
      refine run_nil ⟨rfl, ?_⟩
      refine vc_cond rfl (fun h5 => ?_) (fun h5 => ?_)
      ·
        try simp only [Int.toNat_natCast] at h5
        refine vc_seq ?_
        refine vc_region ?_
        refine oq1 ?_
        refine run_nil ?_
        refine vc_ret ?_
        first
        | (subst hR; exact ⟨[], _, _, rfl, trivial, AVle.refl _, rfl, .cons rfl (.refl _) rfl rfl (.cons rfl (.refl _) rfl rfl (.cons rfl (.refl _) rfl rfl (.nil))), rfl, fun i hi => rfl⟩; done)
        | (have e1 : R = (true, (leaveM c m (o ++ [(v : Int)]) (v + 1) s).2) := (by rw [← hx, show c.gauges.length - m - v = c.gauges.length - m - (v + 1) + 1 by omega, loopF_stop (by simpa using (by assumption : (leaveM c m (o ++ [(v : Int)]) (v + 1) s).1 = true))]; rfl); subst e1; exact ⟨[], _, _, rfl, trivial, AVle.refl _, rfl, .cons rfl (.refl _) rfl rfl (.cons rfl (.refl _) rfl rfl (.cons rfl (.refl _) rfl rfl (.nil))), rfl, fun i hi => rfl⟩; done)
        | (have e1 : R = (false, s) := (by rw [← hx, show c.gauges.length - m - v = 0 by omega, loopF]); subst e1; exact ⟨[], _, _, rfl, trivial, AVle.refl _, rfl, .cons rfl (.refl _) rfl rfl (.cons rfl (.refl _) rfl rfl (.cons rfl (.refl _) rfl rfl (.nil))), rfl, fun i hi => rfl⟩; done)
      ·
        try simp only [Int.toNat_natCast] at h5
        refine vc_skip ?_
        refine vc_region ?_
        refine oq1 ?_
        refine oq4 ?_
        refine oq1 ?_
        refine run_nil ?_
        refine ⟨(v + 1, (leaveM c m (o ++ [(v : Int)]) (v + 1) s).2), ⟨by dsimp only; omega, by dsimp only; omega, ?_⟩, by dsimp only; omega, ent_ren [] (.cons (.refl _) rfl (.cons (.refl _) rfl (.cons (.refl _) rfl (.cons (.refl _) rfl (.cons (.refl _) rfl (.nil)))))) (.cons rfl (.refl _) rfl rfl (.cons rfl (.refl _) rfl rfl (.cons rfl (.refl _) rfl rfl (.nil)))) rfl rfl (fun i hi => ⟨piS rfl hi, Nat.lt_of_lt_of_le hi (Nat.le_of_ble_eq_true rfl)⟩)⟩
        rw [← hx, show c.gauges.length - m - v = c.gauges.length - m - (v + 1) + 1 by omega, loopF_on (by simpa using (by assumption : (leaveM c m (o ++ [(v : Int)]) (v + 1) s).1 = false))]; rfl
    ·
      try simp only [Int.toNat_natCast] at h4
      refine vc_exit ?_
      refine vc_seq ?_
      refine vc_region ?_
      refine oq1 ?_
      refine run_nil ?_
      refine vc_ret ?_
      first
      | (subst hR; exact ⟨[], _, _, rfl, trivial, AVle.refl _, rfl, .cons rfl (.refl _) rfl rfl (.cons rfl (.refl _) rfl rfl (.cons rfl (.refl _) rfl rfl (.nil))), rfl, fun i hi => rfl⟩; done)
      | (have e1 : R = (true, (leaveM c m (o ++ [(v : Int)]) (v + 1) s).2) := (by rw [← hx, show c.gauges.length - m - v = c.gauges.length - m - (v + 1) + 1 by omega, loopF_stop (by simpa using (by assumption : (leaveM c m (o ++ [(v : Int)]) (v + 1) s).1 = true))]; rfl); subst e1; exact ⟨[], _, _, rfl, trivial, AVle.refl _, rfl, .cons rfl (.refl _) rfl rfl (.cons rfl (.refl _) rfl rfl (.cons rfl (.refl _) rfl rfl (.nil))), rfl, fun i hi => rfl⟩; done)
      | (have e1 : R = (false, s) := (by rw [← hx, show c.gauges.length - m - v = 0 by omega, loopF]); subst e1; exact ⟨[], _, _, rfl, trivial, AVle.refl _, rfl, .cons rfl (.refl _) rfl rfl (.cons rfl (.refl _) rfl rfl (.cons rfl (.refl _) rfl rfl (.nil))), rfl, fun i hi => rfl⟩; done)

end Go.Proofs.Ytnkgdapdccpjmaa

/- Leave. -/
namespace Go.Proofs.Ytnkgdapdccpjmaa
open Go Go.RowKit Go.Sx

theorem leave_c (c : Clr) (hG : c.Good) : ∀ (mn : Nat) (o : List Int) (ao : AV), AVle ao (aInts o) → ∀ (f : Nat) (fd : List Int) (mz : Int), mz = (mn : Int) → o.length + mn ≤ 6 → f ≤ 6 → CallC Try.prog 58 3 (lkF [(0, some (.cells 41 [.f (csks c.casks), .f (movs c.moves), .f (ggs c.gauges)])), (1, some (.cells 43 [.f (ints fd)])), (2, some (.cells 126 [.fn 58 [] [0, 1, 2]]))] fun _ => none) [ao, aInt .i64 (f : Int), aInt .i64 mz, .s (.c (.ptr 0 0)), .s (.c (.ptr 1 0)), .s (.c (.ptr 2 0))] 3 (lkF [(0, some (.cells 41 [.f (csks c.casks), .f (movs c.moves), .f (ggs c.gauges)])), (1, some (.cells 43 [.f (ints (leaveM c mn o f fd).2)])), (2, some (.cells 126 [.fn 58 [] [0, 1, 2]]))] fun _ => none) (aBool (leaveM c mn o f fd).1) := by
  intro mn
  induction mn with
  | zero => intro o ao hao f fd mz hmz hol hf; exact leave_s c hG 0 o ao hao f fd mz hmz hol hf _ rfl (fun m h => by omega)
  | succ mn ihm => intro o ao hao f fd mz hmz hol hf; exact leave_s c hG (mn + 1) o ao hao f fd mz hmz hol hf _ rfl (fun m h o v fd mz hmz hol hv => by obtain rfl : mn = m := (by omega); exact ihm o _ (.refl _) v fd mz hmz hol hv)
abbrev aIE (x : List Int) (e : Int) : AV := .tup [.c (.f (ints x)), .c (.f (i64 e))]
theorem aIE_eq {p : List Int × Int} {x : List Int} {a : Int} (h : p = (x, a)) : aIE x a = AV.ren (piOf []) (aIE p.1 p.2) := by subst h; rfl
theorem aIE_nil {p : List Int × Int} {a : Int} (h : p = ([], a)) : AVle (.tup [.c (.f (.lit (.slice none 0 0))), .c (.f (i64 a))]) (AV.ren (piOf []) (aIE p.1 p.2)) := by
  subst h; exact .tup (.cons (.c (.f .nil)) (.cons (.refl _) .nil))
def Clr.sizes (c : Clr) : Bool × List Int := loopF (fun v s => leaveM c v.toNat [] 0 s) (c.gauges.length + 1) 0 []
def Clr.leaveA (c : Clr) : List Int × Int := if c.wrongE = 0 then (c.sizes.2, 0) else ([], c.wrongE)

theorem Leave_c (c : Clr) : CallC Try.prog 16 0 (lkF [] fun _ => none) [aClr c] 0 (lkF [] fun _ => none) (aIE c.leaveA.1 c.leaveA.2) := by
  refine callC_intro tabOk mixed Try.func16 rfl rfl rfl rfl ?_
  intro w0 e0 Z0 X hX n
  refine vc_fact 0 clr_len fun hlen => ?_
  refine vc_seq ?_
  refine vc_region ?_
  refine run_box rfl trivial rfl rfl rfl rfl rfl rfl (by intro _ _ h; cases h <;> (intro _; rfl)) ?_
  refine oq1 ?_
  refine oq1 ?_
  refine run_nil ?_
  refine vc_scope ?_
  refine vc_seq ?_
  refine vc_seq ?_
  refine vc_region ?_
  refine oq2 ?_
  refine run_callP (wrong_c _) rfl rfl rfl trivial rfl rfl rfl rfl ?_
  refine oq1 ?_
  refine run_nil ?_
  refine vc_seq ?_
  refine vc_region ?_
  refine oq1 ?_
  refine oq6 ?_
  refine run_nil ?_
  refine vc_condN rfl (fun h1 => ?_) (fun h1 => ?_)
  ·
    try simp only [Int.toNat_natCast] at h1
    refine vc_seq ?_
    refine vc_region ?_
    refine oq1 ?_
    refine oq1 ?_
    refine oq1 ?_
    refine run_nil ?_
    refine vc_ret ?_
    refine ret_pure rfl ⟨trivial, trivial, trivial⟩ rfl ?_
    first
    | (refine aIE_nil ?_; rw [Clr.leaveA, if_neg (by simp_all)]; done)
    | (refine .of_eq (aIE_eq ?_); rw [Clr.leaveA, if_pos hw0, ← hx, show c.gauges.length + 1 - i = c.gauges.length + 1 - (i + 1) + 1 by omega, loopF_stop (by simpa using (by assumption : (leaveM c i [] 0 s).1 = true))]; rfl)
    | (refine .of_eq (aIE_eq ?_); rw [Clr.leaveA, if_pos hw0, ← hx, show c.gauges.length + 1 - i = 0 by omega, loopF])
  ·
    try simp only [Int.toNat_natCast] at h1
    have hw0 : c.wrongE = 0 := by simpa using h1
    have hG := Clr.good (wrongE_ok hw0)
    have hg6 := hG.gauges
    refine vc_skip ?_
    refine vc_seq ?_
    refine vc_region ?_
    refine run_alloc rfl trivial rfl rfl rfl rfl (by intro _ _ h; cases h <;> (intro _; rfl)) ?_
    refine run_nil ?_
    refine vc_seq ?_
    refine vc_region ?_
    refine run_alloc rfl trivial rfl rfl rfl rfl (by intro _ _ h; cases h <;> (intro _; rfl)) ?_
    refine run_nil ?_
    refine vc_seq ?_
    refine vc_region ?_
    refine oq1 ?_
    refine Sx.run_store rfl trivial rfl rfl rfl rfl rfl rfl rfl ?_
    refine run_nil ?_
    refine vc_seq ?_
    refine vc_label ?_
    refine vc_seq ?_
    refine vc_seq ?_
    refine vc_region ?_
    refine oq5 ?_
    refine oq2 ?_
    refine oq1 ?_
    refine oq4 ?_
    refine oq1 ?_
    refine run_nil ?_
    refine vc_block ?_
    refine vc_loop (κ := Nat × List Int) (fun p => p.1 ≤ c.gauges.length + 1 ∧ loopF (fun v s => leaveM c v.toNat [] 0 s) (c.gauges.length + 1 - p.1) (p.1 : Int) p.2 = c.sizes) (fun p => ⟨[(5, .s (.c (.ptr 1 0))), (6, .s (.c (.ptr 2 0))), (17, aInt .i64 ((c.gauges.length + 1 : Nat) : Int)), (18, aInt .i64 (p.1 : Int))], [(0, some (.cells 41 [.f (csks c.casks), .f (movs c.moves), .f (ggs c.gauges)])), (1, some (.cells 43 [.f (ints p.2)])), (2, some (.cells 126 [.fn 58 [] [0, 1, 2]]))], fun _ => none, 3⟩) (fun p => c.gauges.length + 1 - p.1) (0, []) ⟨Nat.zero_le _, rfl⟩ ?_ ?_
    ·
      exact ent_ren [] (.cons (.refl _) rfl (.cons (.refl _) rfl (.cons (.refl _) rfl (.cons (.refl _) rfl (.nil))))) (.cons rfl (.refl _) rfl rfl (.cons rfl (.cells (.cons (.f .nil) .nil)) rfl rfl (.cons rfl (.refl _) rfl rfl (.nil)))) rfl rfl (fun i hi => absurd hi (Nat.not_lt_zero i))
    rintro ⟨i, s⟩ ⟨hi, hx⟩
    dsimp only at hi hx ⊢
    refine vc_seq ?_
    refine vc_region ?_
    refine oq6 ?_
    refine run_nil ?_
    refine vc_seq ?_
    refine vc_condP rfl (fun h2 => ?_) (fun h2 => ?_)
    ·
      try simp only [Int.toNat_natCast] at h2
      refine vc_skip ?_
      refine vc_seq ?_
      refine vc_block ?_
      refine vc_seq ?_
      refine vc_region ?_
      refine oq1 ?_
      refine oq1 ?_
      refine run_nil ?_
      refine vc_seq ?_
      refine vc_region ?_
      refine oq2 ?_
      refine oq1 ?_
      refine run_call (leave_c c hG i [] _ (.f .nil) 0 s (i : Int) rfl (by simp; omega) (by omega)) [] rfl rfl rfl trivial rfl rfl rfl rfl (.cons rfl (.refl _) rfl rfl (.cons rfl (.refl _) rfl rfl (.cons rfl (.refl _) rfl rfl (.nil)))) rfl rfl rfl rfl rfl ?_
      refine run_nil ?_
      refine vc_cond rfl (fun h3 => ?_) (fun h3 => ?_)
      ·
        try simp only [Int.toNat_natCast] at h3
        refine vc_exit ?_
        refine vc_seq ?_
        refine vc_region ?_
        refine oq2 ?_
        refine oq1 ?_
        refine oq1 ?_
        refine run_nil ?_
        refine vc_ret ?_
        refine ret_pure rfl ⟨trivial, trivial, trivial⟩ rfl ?_
        first
        | (refine aIE_nil ?_; rw [Clr.leaveA, if_neg (by simp_all)]; done)
        | (refine .of_eq (aIE_eq ?_); rw [Clr.leaveA, if_pos hw0, ← hx, show c.gauges.length + 1 - i = c.gauges.length + 1 - (i + 1) + 1 by omega, loopF_stop (by simpa using (by assumption : (leaveM c i [] 0 s).1 = true))]; rfl)
        | (refine .of_eq (aIE_eq ?_); rw [Clr.leaveA, if_pos hw0, ← hx, show c.gauges.length + 1 - i = 0 by omega, loopF])
      ·
        try simp only [Int.toNat_natCast] at h3
        refine vc_skip ?_
        refine vc_region ?_
        refine oq4 ?_
        refine oq1 ?_
        refine run_nil ?_
        refine ⟨(i + 1, (leaveM c i [] 0 s).2), ⟨by dsimp only; omega, ?_⟩, by dsimp only; omega, ent_ren [] (.cons (.refl _) rfl (.cons (.refl _) rfl (.cons (.refl _) rfl (.cons (.refl _) rfl (.nil))))) (.cons rfl (.refl _) rfl rfl (.cons rfl (.refl _) rfl rfl (.cons rfl (.refl _) rfl rfl (.nil)))) rfl rfl (fun i hi => absurd hi (Nat.not_lt_zero i))⟩
        rw [← hx, show c.gauges.length + 1 - i = c.gauges.length + 1 - (i + 1) + 1 by omega, loopF_on (by simpa using (by assumption : (leaveM c i [] 0 s).1 = false))]; rfl
    ·
      try simp only [Int.toNat_natCast] at h2
      refine vc_exit ?_
      refine vc_seq ?_
      refine vc_region ?_
      refine oq2 ?_
      refine oq1 ?_
      refine oq1 ?_
      refine run_nil ?_
      refine vc_ret ?_
      refine ret_pure rfl ⟨trivial, trivial, trivial⟩ rfl ?_
      first
      | (refine aIE_nil ?_; rw [Clr.leaveA, if_neg (by simp_all)]; done)
      | (refine .of_eq (aIE_eq ?_); rw [Clr.leaveA, if_pos hw0, ← hx, show c.gauges.length + 1 - i = c.gauges.length + 1 - (i + 1) + 1 by omega, loopF_stop (by simpa using (by assumption : (leaveM c i [] 0 s).1 = true))]; rfl)
      | (refine .of_eq (aIE_eq ?_); rw [Clr.leaveA, if_pos hw0, ← hx, show c.gauges.length + 1 - i = 0 by omega, loopF])

end Go.Proofs.Ytnkgdapdccpjmaa

/- The bounds over all starts: in whatever order the map is gone through. -/
namespace Go.Proofs.Ytnkgdapdccpjmaa
open Go Go.RowKit Go.Sx

def bornAt (es : List MapEntry) (j : Nat) : Nat := ((es[j]?).map (·.born)).getD 0
theorem bornAt_get {es : List MapEntry} {j : Nat} {m : MapEntry} (h : es[j]? = some m) : bornAt es j = m.born := by simp [bornAt, h]
theorem born_inj {es : List MapEntry} (hb : (es.map (·.born)).Nodup) {i j : Nat} (hi : i < es.length) (hj : j < es.length) (h : bornAt es i = bornAt es j) : i = j := by
  have e : ∀ k, k < es.length → (es.map (·.born))[k]? = some (bornAt es k) := fun k hk => by simp [bornAt, List.getElem?_eq_getElem hk]
  have h1 := e i hi
  have h2 := e j hj
  rw [← h] at h2
  have hl : (es.map (·.born)).length = es.length := List.length_map _
  exact (List.getElem_inj hb).1 (by
    have q1 := (List.getElem?_eq_some_iff.1 h1).2
    have q2 := (List.getElem?_eq_some_iff.1 h2).2
    rw [q1, q2] : (es.map (·.born))[i]'(by omega) = (es.map (·.born))[j]'(by omega))
theorem perm_done {es : List MapEntry} {P : List Nat} (hb : (es.map (·.born)).Nodup) (hP : P.Nodup) (hlt : ∀ j ∈ P, j < es.length) (h : ∀ m ∈ es, m.born ∈ P.map (bornAt es)) : P.Perm (List.range es.length) := by
  refine (List.perm_ext_iff_of_nodup hP List.nodup_range).2 fun j => ⟨fun hj => List.mem_range.2 (hlt j hj), fun hj => ?_⟩
  have hj' := List.mem_range.1 hj
  obtain ⟨i, hi, he⟩ := List.mem_map.1 (h es[j] (List.getElem_mem _))
  have : bornAt es i = bornAt es j := by rw [he, bornAt_get (List.getElem?_eq_getElem hj')]
  rw [← born_inj hb (hlt i hi) hj' this]; exact hi
theorem fresh_idx {es : List MapEntry} {P : List Nat} {j : Nat} {m : MapEntry} (hj : es[j]? = some m) (h : m.born ∉ P.map (bornAt es)) : j ∉ P := fun hm => h (List.mem_map.2 ⟨j, hm, bornAt_get hj⟩)
theorem nodup_snoc {P : List Nat} {j : Nat} (hP : P.Nodup) (h : j ∉ P) : (P ++ [j]).Nodup := List.nodup_append.2 ⟨hP, by simp, fun a ha b hb => by simp at hb; subst hb; exact fun e => h (e ▸ ha)⟩

/-- The entries that have been gone through. -/
def gone (E : List Ent3) (P : List Nat) : List Ent3 := P.map fun j => E.getD j default
theorem gone_perm {E : List Ent3} {P : List Nat} (h : P.Perm (List.range E.length)) : (gone E P).Perm E := by
  have h1 := h.map fun j => E.getD j default
  have h2 : (List.range E.length).map (fun j => E.getD j default) = E := by
    refine List.ext_getElem? fun i => ?_
    rcases Nat.lt_or_ge i E.length with hi | hi
    · simp [List.getElem?_map, List.getElem?_range hi, List.getD, List.getElem?_eq_getElem hi]
    · rw [List.getElem?_eq_none (by simpa using hi), List.getElem?_eq_none hi]
  rwa [h2] at h1
theorem gone_snoc {E : List Ent3} {P : List Nat} {j : Nat} {x : Ent3} (h : E[j]? = some x) : gone E (P ++ [j]) = gone E P ++ [x] := by simp [gone, List.getD, h]
theorem gone_mem {E : List Ent3} {P : List Nat} (hlt : ∀ j ∈ P, j < E.length) : ∀ x ∈ gone E P, x ∈ E := fun x hx => by
  obtain ⟨j, hj, rfl⟩ := List.mem_map.1 hx
  exact getD_mem (hlt j hj)
theorem entD_get {E : List Ent3} {j : Nat} {p : List Int × List FV} (h : (entD E)[j]? = some p) : ∃ x, E[j]? = some x ∧ p = x.d := by
  simp only [entD, List.getElem?_map, Option.map_eq_some_iff] at h
  obtain ⟨x, hx, rfl⟩ := h
  exact ⟨x, hx, rfl⟩
theorem entD_flat {E : List Ent3} : ∀ d ∈ entD E, d.2.all flatB = true ∧ (true = false → d.2.length = 1) := fun d hd => by
  obtain ⟨x, _, rfl⟩ := List.mem_map.1 hd
  exact ⟨rfl, fun h => Bool.noConfusion h⟩
theorem entD_len (E : List Ent3) : (entD E).length = E.length := List.length_map _

def joinR : Option Rng → Rng → Option Rng
  | none, r => some r
  | some o, r => some ⟨min o.lo r.lo, max o.hi r.hi⟩
theorem joinR_comm (a : Option Rng) (r s : Rng) : joinR (joinR a r) s = joinR (joinR a s) r := by
  cases a with
  | none => simp only [joinR, Int.min_comm, Int.max_comm]
  | some o => simp only [joinR, Option.some.injEq, Rng.mk.injEq]; omega
def Clr.shift (c : Clr) (q : List Int) (x : Ent3) (i : Nat) : Rng := ⟨x.room.lo + c.gain x.cask x.leak q i, x.room.hi + c.gain x.cask x.leak q i⟩
def Clr.rngAt (c : Clr) (q : List Int) (l : List Ent3) (k : Int) (i : Nat) : Option Rng := l.foldl (fun a x => if x.cask = k then joinR a (c.shift q x i) else a) none
theorem rngAt_perm {c : Clr} {q : List Int} {l m : List Ent3} (h : l.Perm m) (k : Int) (i : Nat) : c.rngAt q l k i = c.rngAt q m k i := by
  refine h.foldl_eq' (fun x _ y _ a => ?_) none
  split <;> split <;> first | rfl | exact joinR_comm _ _ _
theorem rngAt_snoc {c : Clr} {q : List Int} {l : List Ent3} {x : Ent3} {k : Int} {i : Nat} : c.rngAt q (l ++ [x]) k i = if x.cask = k then joinR (c.rngAt q l k i) (c.shift q x i) else c.rngAt q l k i := by
  simp [Clr.rngAt, List.foldl_append]
def Clr.outAt (c : Clr) (q : List Int) (l : List Ent3) (n a : Nat) : Option Rng := c.rngAt q l ((a / n : Nat) : Int) (a % n)
/-- While an entry is gone through. -/
def Clr.mixO (c : Clr) (q : List Int) (l : List Ent3) (x : Ent3) (n i a : Nat) : Option Rng := if a / n = x.cask.toNat ∧ a % n < i then c.outAt q (l ++ [x]) n a else c.outAt q l n a
theorem mixO_zero {c : Clr} {q : List Int} {l : List Ent3} {x : Ent3} {n a : Nat} : c.mixO q l x n 0 a = c.outAt q l n a := if_neg (by omega)
theorem mixO_end {c : Clr} {q : List Int} {l : List Ent3} {x : Ent3} {n a : Nat} (hx : 0 ≤ x.cask) (hn : 0 < n) : c.mixO q l x n n a = c.outAt q (l ++ [x]) n a := by
  rw [Clr.mixO]
  split
  · rfl
  · rename_i h
    have h1 := Nat.mod_lt a hn
    rw [Clr.outAt, Clr.outAt, rngAt_snoc, if_neg (by omega)]
theorem at_div {n k i : Nat} (hi : i < n) : (k * n + i) / n = k ∧ (k * n + i) % n = i := by
  have hn : 0 < n := by omega
  constructor
  · rw [Nat.mul_comm, Nat.mul_add_div hn, Nat.div_eq_of_lt hi, Nat.add_zero]
  · rw [Nat.mul_comm, Nat.mul_add_mod, Nat.mod_eq_of_lt hi]
theorem mixO_at {c : Clr} {q : List Int} {l : List Ent3} {x : Ent3} {n i : Nat} (hi : i < n) : c.mixO q l x n i (x.cask.toNat * n + i) = c.outAt q l n (x.cask.toNat * n + i) := by
  obtain ⟨h1, h2⟩ := at_div (k := x.cask.toNat) hi
  exact if_neg (by omega)
theorem mixO_new {c : Clr} {q : List Int} {l : List Ent3} {x : Ent3} {n i : Nat} (hx : 0 ≤ x.cask) (hi : i < n) : c.mixO q l x n (i + 1) (x.cask.toNat * n + i) = joinR (c.outAt q l n (x.cask.toNat * n + i)) (c.shift q x i) := by
  obtain ⟨h1, h2⟩ := at_div (k := x.cask.toNat) hi
  rw [Clr.mixO, if_pos (by omega), Clr.outAt, rngAt_snoc, if_pos (by rw [h1]; omega), h2, Clr.outAt, h2]
theorem mixO_old {c : Clr} {q : List Int} {l : List Ent3} {x : Ent3} {n i a : Nat} (hi : i < n) (ha : a ≠ x.cask.toNat * n + i) : c.mixO q l x n (i + 1) a = c.mixO q l x n i a := by
  have hd := Nat.div_add_mod a n
  rw [Clr.mixO, Clr.mixO]
  by_cases h : a / n = x.cask.toNat ∧ a % n < i
  · rw [if_pos h, if_pos (by omega)]
  · rw [if_neg h, if_neg]
    rintro ⟨h1, h2⟩
    have h3 : a % n = i := by omega
    rw [h1, h3, Nat.mul_comm] at hd
    exact ha hd.symm
/-- The bounds of the contents of all casks. -/
def Clr.contentsL (c : Clr) (q : List Int) (l : List Ent3) : List Rng := (List.range ((c.moves.length + 1) * c.casks.length)).map fun a => (c.outAt q l (c.moves.length + 1) a).getD ⟨0, 0⟩
abbrev rowOut (F : Nat → Option Rng) (N : Nat) : Blk := .row 64 2 N fun a j => rngF ((F a).getD ⟨0, 0⟩) j
abbrev rowSeen (F : Nat → Option Rng) (N : Nat) : Blk := .row 4 1 N fun a _ => .bool (F a).isSome

/-- The bounds of what a cask leaks. -/
def Clr.leakAt (c : Clr) (l : List Ent3) (k : Int) : Rng := l.foldl (fun r x => if x.cask = k then ⟨min r.lo (c.moves.length * x.leak), max r.hi (c.moves.length * x.leak)⟩ else r) ⟨c.moves.length * 5, -1⟩
theorem leakAt_perm {c : Clr} {l m : List Ent3} (h : l.Perm m) (k : Int) : c.leakAt l k = c.leakAt m k := by
  refine h.foldl_eq' (fun x _ y _ a => ?_) _
  split <;> split <;> first | rfl | (simp only [Rng.mk.injEq]; omega)
theorem leakAt_snoc {c : Clr} {l : List Ent3} {x : Ent3} {k : Int} : c.leakAt (l ++ [x]) k = if x.cask = k then ⟨min (c.leakAt l k).lo (c.moves.length * x.leak), max (c.leakAt l k).hi (c.moves.length * x.leak)⟩ else c.leakAt l k := by
  simp [Clr.leakAt, List.foldl_append]
def Clr.leaksL (c : Clr) (l : List Ent3) : List Rng := (List.range c.casks.length).map fun i : Nat => c.leakAt l (i : Int)

/-- What is known of the starts. -/
structure GoodE (c : Clr) (x : Ent3) : Prop where
  cask : 0 ≤ x.cask ∧ x.cask < c.casks.length
  leak : 0 ≤ x.leak ∧ x.leak ≤ 4
  room : 0 ≤ x.room.lo ∧ x.room.lo ≤ x.room.hi ∧ x.room.hi ≤ 1000

end Go.Proofs.Ytnkgdapdccpjmaa

