import Derived.Test.YtnkgdapdccpjmaaM8
import Derived.Test.YtnkgdapdccpjmaaRows
/- works, for in. -/
namespace Go.Proofs.Ytnkgdapdccpjmaa
open Go Go.RowKit Go.Sx

theorem loop_inv {S : Type} {g : Int → S → Bool × S} {P : S → Prop} (hg : ∀ v s, P s → P (g v s).2) : ∀ (k : Nat) (v : Int) (s : S), P s → P (loopF g k v s).2
  | 0, _, _, h => h
  | k + 1, v, s, h => by
    cases hb : (g v s).1 with
    | true => rw [loopF_stop hb]; exact hg v s h
    | false => rw [loopF_on hb]; exact loop_inv hg k (v + 1) _ (hg v s h)
theorem choose_inv {S : Type} {leaf : List Int → S → Bool × S} {P : S → Prop} (hl : ∀ q s, P s → P (leaf q s).2) : ∀ (ms : List Mov) (i : Nat) (q : List Int) (s : S), P s → P (chooseM leaf ms i q s).2
  | [], i, q, s, h => hl q s h
  | m :: ms, i, q, s, h => loop_inv (fun v s => choose_inv hl ms (i + 1) (q.set i v) s) _ _ s h
abbrev keptLen (ln : Nat) (s : Tried (Option (List Rng))) : Prop := ∀ l, s.kept = some l → l.length = ln
theorem leafI_len {c : Clr} {B : List Int → List Rng} {ln : Nat} (hB : ∀ q, (B q).length = ln) (q : List Int) (s : Tried (Option (List Rng))) (h : keptLen ln s) : keptLen ln (leafM c (fun q k => (false, some (joinK k (B q)))) q s).2 := by
  rw [leafM]
  split
  · exact h
  · split
    · intro l hl
      cases hl
      exact joinK_len (hB q) h
    · exact h
theorem meetG_in {c : Clr} {cask leak : Int} {q : List Int} {r : Rng} : ∀ j, r.lo ≤ (meetG c cask leak q r j).lo ∧ (meetG c cask leak q r j).hi ≤ r.hi
  | 0 => ⟨Int.le_refl _, Int.le_refl _⟩
  | j + 1 => by
    have h := meetG_in (c := c) (cask := cask) (leak := leak) (q := q) (r := r) j
    simp only [meetG, Rng.meet]
    omega
theorem meetM_in {c : Clr} {cask leak : Int} {q : List Int} {r : Rng} : ∀ j, r.lo ≤ (meetM c cask leak q r j).lo ∧ (meetM c cask leak q r j).hi ≤ r.hi
  | 0 => ⟨Int.le_refl _, Int.le_refl _⟩
  | j + 1 => by
    have h := meetM_in (c := c) (cask := cask) (leak := leak) (q := q) (r := r) j
    rw [meetM]
    split
    · simp only [Rng.meet]; omega
    · exact h
theorem room_in {c : Clr} {cask leak : Int} {q : List Int} : (c.cask cask).start.lo ≤ (c.room cask leak q).lo ∧ (c.room cask leak q).hi ≤ (c.cask cask).start.hi := by
  have h1 := meetG_in (c := c) (cask := cask) (leak := leak) (q := q) (r := (c.cask cask).start) (c.moves.length + 1)
  have h2 := meetM_in (c := c) (cask := cask) (leak := leak) (q := q) (r := meetG c cask leak q (c.cask cask).start (c.moves.length + 1)) c.gauges.length
  rw [Clr.room]; omega
theorem goodE_starts {c : Clr} (hG : c.Good) {q : List Int} : ∀ x ∈ c.starts q, GoodE c x := fun x hx => by
  obtain ⟨i, hi, hx⟩ := startsTo_mem hx
  obtain ⟨h1, ⟨j, hj, h2⟩, h3, h4⟩ := leaksTo_mem hx
  have hk := hG.cask _ (Clr.cask_mem (c := c) (i := (i : Int)) (by omega) (by omega))
  have hks := hk.start
  have hkl := hk.leak
  have hkt := hk.marks.top
  have hr := room_in (c := c) (cask := (i : Int)) (leak := x.leak) (q := q)
  rw [← h3] at hr
  simp only [Rng.empty, decide_eq_false_iff_not] at h4
  have hln : (c.leakN (i : Int) : Int) = (c.cask (i : Int)).leak.hi - (c.cask (i : Int)).leak.lo + 1 := by unfold Clr.leakN; omega
  exact ⟨by omega, by omega, by omega⟩

theorem chooseI_s (c : Clr) (hG : c.Good) (OF : FuncId) (B : List Int → List Rng) (ln : Nat) (hB : ∀ q, (B q).length = ln) (hln : ln ≤ 1000) (hOF : ∀ q, q.length = 4 → (∀ j, 0 ≤ q.getD j 0 ∧ q.getD j 0 ≤ 1000) → c.atOk q → CallC Try.prog OF 2 (lkF [(0, some (.mapb true (entD (c.starts q)))), (1, some (.cells 150 [.f (csks c.casks), .f (movs c.moves), .f (ggs c.gauges), .f (i64 (q.getD 0 0)), .f (i64 (q.getD 1 0)), .f (i64 (q.getD 2 0)), .f (i64 (q.getD 3 0)), .mp 0]))] fun _ => none) [.s (.c (.ptr 1 0))] 2 (lkF [(0, some (.mapb true (entD (c.starts q)))), (1, some (.cells 150 [.f (csks c.casks), .f (movs c.moves), .f (ggs c.gauges), .f (i64 (q.getD 0 0)), .f (i64 (q.getD 1 0)), .f (i64 (q.getD 2 0)), .f (i64 (q.getD 3 0)), .mp 0]))] fun _ => none) (aRngs (B q))) (i : Nat) (hi : i ≤ c.moves.length) (q : List Int) (s : Tried (Option (List Rng))) (hql : q.length = 4) (hq : ∀ j, 0 ≤ q.getD j 0 ∧ q.getD j 0 ≤ 1000) (hk : keptLen ln s) (R : Bool × Tried (Option (List Rng))) (hR : chooseM (leafM c (fun q k => (false, some (joinK k (B q))))) (c.moves.drop i) i q s = R) (ih : ∀ (q : List Int) (s : Tried (Option (List Rng))), i < c.moves.length → q.length = 4 → (∀ j, 0 ≤ q.getD j 0 ∧ q.getD j 0 ≤ 1000) → keptLen ln s → CallC Try.prog 100 9 (lkF [(0, some (.cells 41 [.f (csks c.casks), .f (movs c.moves), .f (ggs c.gauges)])), (1, some (.cells 171 [.fn 100 [] [0, 1, 2, 3, 4]])), (2, some (.cells 4 [.f (.bool s.tried)])), (3, some (arrQ s.last)), (4, some (.cells 151 [.fn 112 [] [5, 6, 7]])), (5, some (.cells 118 [.fn OF [] []])), (6, some (.cells 4 [.f (.bool s.kept.isSome)])), (7, some (.cells 59 [.own 8])), (8, some (rowR (s.kept.getD [])))] fun _ => none) [aInt .i64 ((i : Int) + 1), aQ q, .s (.c (.ptr 0 0)), .s (.c (.ptr 1 0)), .s (.c (.ptr 2 0)), .s (.c (.ptr 3 0)), .s (.c (.ptr 4 0))] 10 (lkF [(0, some (.cells 41 [.f (csks c.casks), .f (movs c.moves), .f (ggs c.gauges)])), (1, some (.cells 171 [.fn 100 [] [0, 1, 2, 3, 4]])), (2, some (.cells 4 [.f (.bool (chooseM (leafM c (fun q k => (false, some (joinK k (B q))))) (c.moves.drop (i + 1)) (i + 1) q s).2.tried)])), (3, some (arrQ (chooseM (leafM c (fun q k => (false, some (joinK k (B q))))) (c.moves.drop (i + 1)) (i + 1) q s).2.last)), (4, some (.cells 151 [.fn 112 [] [5, 6, 7]])), (5, some (.cells 118 [.fn OF [] []])), (6, some (.cells 4 [.f (.bool (chooseM (leafM c (fun q k => (false, some (joinK k (B q))))) (c.moves.drop (i + 1)) (i + 1) q s).2.kept.isSome)])), (7, some (.cells 59 [.own 9])), (8, none), (9, some (rowR ((chooseM (leafM c (fun q k => (false, some (joinK k (B q))))) (c.moves.drop (i + 1)) (i + 1) q s).2.kept.getD [])))] fun _ => none) (aBool (chooseM (leafM c (fun q k => (false, some (joinK k (B q))))) (c.moves.drop (i + 1)) (i + 1) q s).1)) : CallC Try.prog 100 9 (lkF [(0, some (.cells 41 [.f (csks c.casks), .f (movs c.moves), .f (ggs c.gauges)])), (1, some (.cells 171 [.fn 100 [] [0, 1, 2, 3, 4]])), (2, some (.cells 4 [.f (.bool s.tried)])), (3, some (arrQ s.last)), (4, some (.cells 151 [.fn 112 [] [5, 6, 7]])), (5, some (.cells 118 [.fn OF [] []])), (6, some (.cells 4 [.f (.bool s.kept.isSome)])), (7, some (.cells 59 [.own 8])), (8, some (rowR (s.kept.getD [])))] fun _ => none) [aInt .i64 (i : Int), aQ q, .s (.c (.ptr 0 0)), .s (.c (.ptr 1 0)), .s (.c (.ptr 2 0)), .s (.c (.ptr 3 0)), .s (.c (.ptr 4 0))] 10 (lkF [(0, some (.cells 41 [.f (csks c.casks), .f (movs c.moves), .f (ggs c.gauges)])), (1, some (.cells 171 [.fn 100 [] [0, 1, 2, 3, 4]])), (2, some (.cells 4 [.f (.bool R.2.tried)])), (3, some (arrQ R.2.last)), (4, some (.cells 151 [.fn 112 [] [5, 6, 7]])), (5, some (.cells 118 [.fn OF [] []])), (6, some (.cells 4 [.f (.bool R.2.kept.isSome)])), (7, some (.cells 59 [.own 9])), (8, none), (9, some (rowR (R.2.kept.getD [])))] fun _ => none) (aBool R.1) := by
  refine callC_intro tabOk mixed Try.func100 rfl rfl rfl rfl ?_
  intro w0 e0 Z0 X hX n
  have hgm := hG.moves
  refine vc_seq ?_
  refine vc_region ?_
  refine run_box rfl trivial rfl rfl rfl rfl rfl rfl (by intro _ _ h; cases h <;> (intro _; rfl)) ?_
  refine oq1 ?_
  refine run_nil ?_
  refine vc_ent (ent_blk 9 rfl (arrQ_le rfl rfl rfl rfl)) ?_
  refine vc_seq ?_
  refine vc_seq ?_
  refine vc_region ?_
  refine oq1 ?_
  refine oq5 ?_
  refine oq2 ?_
  refine oq1 ?_
  refine oq6 ?_
  refine run_nil ?_
  refine vc_condP rfl (fun h1 => ?_) (fun h1 => ?_)
  ·
    try simp only [Int.toNat_natCast] at h1
    have hlt : i < c.moves.length := by have := h1; omega
    have hmi := hG.move _ (getD_mem (d := default) hlt)
    refine vc_seq ?_
    refine vc_region ?_
    refine oq5 ?_
    refine oq2 ?_
    refine oq1 ?_
    refine oq3 ?_
    refine oq5 ?_
    refine oq2 ?_
    refine run_alloc rfl trivial rfl rfl rfl rfl (by intro _ _ h; cases h <;> (intro _; rfl)) ?_
    refine Sx.run_store rfl trivial rfl rfl rfl rfl rfl rfl rfl ?_
    refine run_nil ?_
    refine vc_seq ?_
    refine vc_seq ?_
    refine vc_region ?_
    refine oq5 ?_
    refine oq2 ?_
    refine oq5 ?_
    refine oq2 ?_
    refine oq4 ?_
    refine oq4 ?_
    refine oq1 ?_
    refine run_nil ?_
    refine vc_block ?_
    refine vc_loop (κ := Nat × List Int × Tried (Option (List Rng))) (fun p => p.1 ≤ ((c.moves.getD i default).q.hi - (c.moves.getD i default).q.lo + 1).toNat ∧ p.2.1.length = 4 ∧ (∀ v, p.2.1.set i v = q.set i v) ∧ (∀ j, 0 ≤ p.2.1.getD j 0 ∧ p.2.1.getD j 0 ≤ 1000) ∧ (keptLen ln p.2.2) ∧ loopF (fun v s => chooseM (leafM c (fun q k => (false, some (joinK k (B q))))) (c.moves.drop (i + 1)) (i + 1) (q.set i v) s) (((c.moves.getD i default).q.hi - (c.moves.getD i default).q.lo + 1).toNat - p.1) ((c.moves.getD i default).q.lo + (p.1 : Int)) p.2.2 = R) (fun p => ⟨[(0, aInt .i64 (i : Int)), (3, .s (.c (.ptr 1 0))), (8, .s (.c (.ptr 9 0))), (10, .s (.c (.ptr 10 0))), (30, aInt .i64 ((c.moves.getD i default).q.hi - (c.moves.getD i default).q.lo + 1)), (31, aInt .i64 (p.1 : Int))], [(0, some (.cells 41 [.f (csks c.casks), .f (movs c.moves), .f (ggs c.gauges)])), (1, some (.cells 171 [.fn 100 [] [0, 1, 2, 3, 4]])), (2, some (.cells 4 [.f (.bool p.2.2.tried)])), (3, some (arrQ p.2.2.last)), (4, some (.cells 151 [.fn 112 [] [5, 6, 7]])), (5, some (.cells 118 [.fn OF [] []])), (6, some (.cells 4 [.f (.bool p.2.2.kept.isSome)])), (7, some (.cells 59 [.own 11])), (9, some (arrQ p.2.1)), (10, some (.cells 64 [.f (i64 (c.moves.getD i default).q.lo), .f (i64 (c.moves.getD i default).q.hi)])), (11, some (rowR (p.2.2.kept.getD [])))], fun _ => none, 12⟩) (fun p => ((c.moves.getD i default).q.hi - (c.moves.getD i default).q.lo + 1).toNat - p.1) (0, q, s) ⟨Nat.zero_le _, hql, fun _ => rfl, hq, hk, by rw [← hR, drop_at default (show i < c.moves.length by omega), chooseM]; simp⟩ ?_ ?_
    ·
      exact ent_ren [(11, 8)] (.cons (.refl _) rfl (.cons (.refl _) rfl (.cons (.refl _) rfl (.cons (.refl _) rfl (.cons (.refl _) rfl (.cons (.refl _) rfl (.nil))))))) (.cons rfl (.refl _) rfl rfl (.cons rfl (.refl _) rfl rfl (.cons rfl (.refl _) rfl rfl (.cons rfl (.refl _) rfl rfl (.cons rfl (.refl _) rfl rfl (.cons rfl (.refl _) rfl rfl (.cons rfl (.refl _) rfl rfl (.cons rfl (.refl _) rfl rfl (.cons rfl (.refl _) rfl rfl (.cons rfl (.refl _) rfl rfl (.cons rfl (.refl _) rfl rfl (.nil)))))))))))) rfl rfl (fun i hi => ⟨piS rfl hi, Nat.lt_of_lt_of_le hi (Nat.le_of_ble_eq_true rfl)⟩)
    rintro ⟨n, qn, sn⟩ ⟨hn, hqn, hset, hqb, hkn, hx⟩
    dsimp only at hn hqn hset hqb hkn hx ⊢
    refine vc_seq ?_
    refine vc_region ?_
    refine oq6 ?_
    refine run_nil ?_
    refine vc_seq ?_
    refine vc_condP rfl (fun h2 => ?_) (fun h2 => ?_)
    ·
      try simp only [Int.toNat_natCast] at h2
      refine vc_skip ?_
      refine vc_seq ?_
      refine vc_block ?_
      refine vc_seq ?_
      refine vc_region ?_
      refine oq1 ?_
      refine oq1 ?_
      refine run_nil ?_
      refine vc_seq ?_
      refine vc_region ?_
      refine oq1 ?_
      refine oq5 ?_
      refine oq2 ?_
      refine oq1 ?_
      refine oq4 ?_
      refine oq3 ?_
      refine run_storeR false rfl trivial rfl rfl rfl rfl rfl rfl rfl rfl rfl (by (try simp only [Int.toNat_natCast]); omega) ?_
      refine run_nil ?_
      refine vc_ent (ent_blk 9 rfl (arrQ_set (by omega))) ?_
      refine vc_seq ?_
      refine vc_region ?_
      refine oq2 ?_
      refine oq1 ?_
      refine oq4 ?_
      refine oq2 ?_
      refine run_call (ih (qn.set i ((c.moves.getD i default).q.lo + (n : Int))) sn hlt (by simp [hqn]) (set_bounds (by omega) hqb (by omega) (by omega)) hkn) [(8, 11)] rfl rfl rfl trivial rfl rfl rfl rfl (.cons rfl (.refl _) rfl rfl (.cons rfl (.refl _) rfl rfl (.cons rfl (.refl _) rfl rfl (.cons rfl (.refl _) rfl rfl (.cons rfl (.refl _) rfl rfl (.cons rfl (.refl _) rfl rfl (.cons rfl (.refl _) rfl rfl (.cons rfl (.refl _) rfl rfl (.cons rfl (.refl _) rfl rfl (.nil)))))))))) rfl rfl rfl rfl rfl ?_
      refine run_nil ?_
      refine vc_cond rfl (fun h3 => ?_) (fun h3 => ?_)
      ·
        try simp only [Int.toNat_natCast] at h3
        refine vc_seq ?_
        refine vc_region ?_
        refine oq1 ?_
        refine run_nil ?_
        refine vc_ret ?_
        first
        | (have e1 : R = (true, (chooseM (leafM c (fun q k => (false, some (joinK k (B q))))) (c.moves.drop (i + 1)) (i + 1) (qn.set i ((c.moves.getD i default).q.lo + (n : Int))) sn).2) := (by rw [← hx, show ((c.moves.getD i default).q.hi - (c.moves.getD i default).q.lo + 1).toNat - n = ((c.moves.getD i default).q.hi - (c.moves.getD i default).q.lo + 1).toNat - (n + 1) + 1 by omega, loopF_stop (by rw [← hset]; assumption), ← hset]); subst e1; exact ⟨[(9, 12)], _, _, rfl, trivial, AVle.refl _, rfl, .cons rfl (.refl _) rfl rfl (.cons rfl (.refl _) rfl rfl (.cons rfl (.refl _) rfl rfl (.cons rfl (.refl _) rfl rfl (.cons rfl (.refl _) rfl rfl (.cons rfl (.refl _) rfl rfl (.cons rfl (.refl _) rfl rfl (.cons rfl (.refl _) rfl rfl (.no (.cons rfl (.refl _) rfl rfl (.nil)))))))))), rfl, fun i hi => piS rfl hi⟩; done)
        | (have e1 : R = (false, sn) := (by rw [← hx, show ((c.moves.getD i default).q.hi - (c.moves.getD i default).q.lo + 1).toNat - n = 0 by omega, loopF]); subst e1; exact ⟨[(9, 11)], _, _, rfl, trivial, AVle.refl _, rfl, .cons rfl (.refl _) rfl rfl (.cons rfl (.refl _) rfl rfl (.cons rfl (.refl _) rfl rfl (.cons rfl (.refl _) rfl rfl (.cons rfl (.refl _) rfl rfl (.cons rfl (.refl _) rfl rfl (.cons rfl (.refl _) rfl rfl (.cons rfl (.refl _) rfl rfl (.no (.cons rfl (.refl _) rfl rfl (.nil)))))))))), rfl, fun i hi => piS rfl hi⟩; done)
        | (rw [leafM_same (by assumption) (by assumption)] at hR; subst hR; exact ⟨[(9, 8)], _, _, rfl, trivial, AVle.refl _, rfl, .cons rfl (.refl _) rfl rfl (.cons rfl (.refl _) rfl rfl (.cons rfl (.refl _) rfl rfl (.cons rfl (.refl _) rfl rfl (.cons rfl (.refl _) rfl rfl (.cons rfl (.refl _) rfl rfl (.cons rfl (.refl _) rfl rfl (.cons rfl (.refl _) rfl rfl (.no (.cons rfl (.refl _) rfl rfl (.nil)))))))))), rfl, fun i hi => piS rfl hi⟩; done)
        | (rw [leafM_no hnew hat] at hR; subst hR; exact ⟨[(9, 8)], _, _, rfl, trivial, AVle.refl _, rfl, .cons rfl (.refl _) rfl rfl (.cons rfl (.refl _) rfl rfl (.cons rfl (.refl _) rfl rfl (.cons rfl (.refl _) rfl rfl (.cons rfl (.refl _) rfl rfl (.cons rfl (.refl _) rfl rfl (.cons rfl (.refl _) rfl rfl (.cons rfl (.refl _) rfl rfl (.no (.cons rfl (.refl _) rfl rfl (.nil)))))))))), rfl, fun i hi => piS rfl hi⟩; done)
        | (rw [leafM_yes hnew hat] at hR; subst hR; exact ⟨[(9, 12)], _, _, rfl, trivial, AVle.refl _, rfl, .cons rfl (.refl _) rfl rfl (.cons rfl (.refl _) rfl rfl (.cons rfl (.refl _) rfl rfl (.cons rfl (.refl _) rfl rfl (.cons rfl (.refl _) rfl rfl (.cons rfl (.refl _) rfl rfl (.cons rfl (.refl _) rfl rfl (.cons rfl (.refl _) rfl rfl (.no (.cons rfl (.refl _) rfl rfl (.nil)))))))))), rfl, fun i hi => piS rfl hi⟩; done)
      ·
        try simp only [Int.toNat_natCast] at h3
        refine vc_skip ?_
        refine vc_region ?_
        refine oq4 ?_
        refine oq1 ?_
        refine run_nil ?_
        have hkn2 := choose_inv (P := keptLen ln) (leafI_len (c := c) hB) (c.moves.drop (i + 1)) (i + 1) (qn.set i ((c.moves.getD i default).q.lo + (n : Int))) sn hkn
        refine ⟨(n + 1, (qn.set i ((c.moves.getD i default).q.lo + (n : Int))), (chooseM (leafM c (fun q k => (false, some (joinK k (B q))))) (c.moves.drop (i + 1)) (i + 1) (qn.set i ((c.moves.getD i default).q.lo + (n : Int))) sn).2), ⟨by dsimp only; omega, by simp [hqn], fun v => by simp [hset], set_bounds (by omega) hqb (by omega) (by omega), hkn2, ?_⟩, by dsimp only; omega, ent_ren [(11, 12)] (.cons (.refl _) rfl (.cons (.refl _) rfl (.cons (.refl _) rfl (.cons (.refl _) rfl (.cons (.refl _) rfl (.cons (.refl _) rfl (.nil))))))) (.cons rfl (.refl _) rfl rfl (.cons rfl (.refl _) rfl rfl (.cons rfl (.refl _) rfl rfl (.cons rfl (.refl _) rfl rfl (.cons rfl (.refl _) rfl rfl (.cons rfl (.refl _) rfl rfl (.cons rfl (.refl _) rfl rfl (.cons rfl (.refl _) rfl rfl (.cons rfl (.refl _) rfl rfl (.cons rfl (.refl _) rfl rfl (.cons rfl (.refl _) rfl rfl (.nil)))))))))))) rfl rfl (fun i hi => ⟨piS rfl hi, Nat.lt_of_lt_of_le hi (Nat.le_of_ble_eq_true rfl)⟩)⟩
        rw [← hx, show ((c.moves.getD i default).q.hi - (c.moves.getD i default).q.lo + 1).toNat - n = ((c.moves.getD i default).q.hi - (c.moves.getD i default).q.lo + 1).toNat - (n + 1) + 1 by omega, loopF_on (by rw [← hset]; assumption), ← hset, Int.add_assoc]; rfl
    ·
      try simp only [Int.toNat_natCast] at h2
      refine vc_exit ?_
      refine vc_seq ?_
      refine vc_region ?_
      refine oq1 ?_
      refine run_nil ?_
      refine vc_ret ?_
      first
      | (have e1 : R = (true, (chooseM (leafM c (fun q k => (false, some (joinK k (B q))))) (c.moves.drop (i + 1)) (i + 1) (qn.set i ((c.moves.getD i default).q.lo + (n : Int))) sn).2) := (by rw [← hx, show ((c.moves.getD i default).q.hi - (c.moves.getD i default).q.lo + 1).toNat - n = ((c.moves.getD i default).q.hi - (c.moves.getD i default).q.lo + 1).toNat - (n + 1) + 1 by omega, loopF_stop (by rw [← hset]; assumption), ← hset]); subst e1; exact ⟨[(9, 12)], _, _, rfl, trivial, AVle.refl _, rfl, .cons rfl (.refl _) rfl rfl (.cons rfl (.refl _) rfl rfl (.cons rfl (.refl _) rfl rfl (.cons rfl (.refl _) rfl rfl (.cons rfl (.refl _) rfl rfl (.cons rfl (.refl _) rfl rfl (.cons rfl (.refl _) rfl rfl (.cons rfl (.refl _) rfl rfl (.no (.cons rfl (.refl _) rfl rfl (.nil)))))))))), rfl, fun i hi => piS rfl hi⟩; done)
      | (have e1 : R = (false, sn) := (by rw [← hx, show ((c.moves.getD i default).q.hi - (c.moves.getD i default).q.lo + 1).toNat - n = 0 by omega, loopF]); subst e1; exact ⟨[(9, 11)], _, _, rfl, trivial, AVle.refl _, rfl, .cons rfl (.refl _) rfl rfl (.cons rfl (.refl _) rfl rfl (.cons rfl (.refl _) rfl rfl (.cons rfl (.refl _) rfl rfl (.cons rfl (.refl _) rfl rfl (.cons rfl (.refl _) rfl rfl (.cons rfl (.refl _) rfl rfl (.cons rfl (.refl _) rfl rfl (.no (.cons rfl (.refl _) rfl rfl (.nil)))))))))), rfl, fun i hi => piS rfl hi⟩; done)
      | (rw [leafM_same (by assumption) (by assumption)] at hR; subst hR; exact ⟨[(9, 8)], _, _, rfl, trivial, AVle.refl _, rfl, .cons rfl (.refl _) rfl rfl (.cons rfl (.refl _) rfl rfl (.cons rfl (.refl _) rfl rfl (.cons rfl (.refl _) rfl rfl (.cons rfl (.refl _) rfl rfl (.cons rfl (.refl _) rfl rfl (.cons rfl (.refl _) rfl rfl (.cons rfl (.refl _) rfl rfl (.no (.cons rfl (.refl _) rfl rfl (.nil)))))))))), rfl, fun i hi => piS rfl hi⟩; done)
      | (rw [leafM_no hnew hat] at hR; subst hR; exact ⟨[(9, 8)], _, _, rfl, trivial, AVle.refl _, rfl, .cons rfl (.refl _) rfl rfl (.cons rfl (.refl _) rfl rfl (.cons rfl (.refl _) rfl rfl (.cons rfl (.refl _) rfl rfl (.cons rfl (.refl _) rfl rfl (.cons rfl (.refl _) rfl rfl (.cons rfl (.refl _) rfl rfl (.cons rfl (.refl _) rfl rfl (.no (.cons rfl (.refl _) rfl rfl (.nil)))))))))), rfl, fun i hi => piS rfl hi⟩; done)
      | (rw [leafM_yes hnew hat] at hR; subst hR; exact ⟨[(9, 12)], _, _, rfl, trivial, AVle.refl _, rfl, .cons rfl (.refl _) rfl rfl (.cons rfl (.refl _) rfl rfl (.cons rfl (.refl _) rfl rfl (.cons rfl (.refl _) rfl rfl (.cons rfl (.refl _) rfl rfl (.cons rfl (.refl _) rfl rfl (.cons rfl (.refl _) rfl rfl (.cons rfl (.refl _) rfl rfl (.no (.cons rfl (.refl _) rfl rfl (.nil)))))))))), rfl, fun i hi => piS rfl hi⟩; done)
  ·
    try simp only [Int.toNat_natCast] at h1
    obtain rfl : i = c.moves.length := by have := h1; omega
    rw [drop_end (Nat.le_refl _), chooseM] at hR
    refine vc_skip ?_
    refine vc_seq ?_
    refine vc_seq ?_
    refine vc_region ?_
    refine oq2 ?_
    refine oq1 ?_
    refine run_split 47 rfl (fun h4 => ?_) (fun h4 => ?_)
    ·
      try simp only [Int.toNat_natCast] at h4
      refine oq2 ?_
      refine oq2 ?_
      refine run_eqS false tabEq rfl rfl rfl rfl rfl rfl rfl rfl rfl ?_
      refine oq1 ?_
      refine run_nil ?_
      refine vc_cond rfl (fun h5 => ?_) (fun h5 => ?_)
      ·
        try simp only [Int.toNat_natCast] at h5
        refine vc_seq ?_
        refine vc_region ?_
        refine oq1 ?_
        refine run_nil ?_
        refine vc_ret ?_
        first
        | (have e1 : R = (true, (chooseM (leafM c (fun q k => (false, some (joinK k (B q))))) (c.moves.drop (i + 1)) (i + 1) (qn.set i ((c.moves.getD i default).q.lo + (n : Int))) sn).2) := (by rw [← hx, show ((c.moves.getD i default).q.hi - (c.moves.getD i default).q.lo + 1).toNat - n = ((c.moves.getD i default).q.hi - (c.moves.getD i default).q.lo + 1).toNat - (n + 1) + 1 by omega, loopF_stop (by rw [← hset]; assumption), ← hset]); subst e1; exact ⟨[(9, 12)], _, _, rfl, trivial, AVle.refl _, rfl, .cons rfl (.refl _) rfl rfl (.cons rfl (.refl _) rfl rfl (.cons rfl (.refl _) rfl rfl (.cons rfl (.refl _) rfl rfl (.cons rfl (.refl _) rfl rfl (.cons rfl (.refl _) rfl rfl (.cons rfl (.refl _) rfl rfl (.cons rfl (.refl _) rfl rfl (.no (.cons rfl (.refl _) rfl rfl (.nil)))))))))), rfl, fun i hi => piS rfl hi⟩; done)
        | (have e1 : R = (false, sn) := (by rw [← hx, show ((c.moves.getD i default).q.hi - (c.moves.getD i default).q.lo + 1).toNat - n = 0 by omega, loopF]); subst e1; exact ⟨[(9, 11)], _, _, rfl, trivial, AVle.refl _, rfl, .cons rfl (.refl _) rfl rfl (.cons rfl (.refl _) rfl rfl (.cons rfl (.refl _) rfl rfl (.cons rfl (.refl _) rfl rfl (.cons rfl (.refl _) rfl rfl (.cons rfl (.refl _) rfl rfl (.cons rfl (.refl _) rfl rfl (.cons rfl (.refl _) rfl rfl (.no (.cons rfl (.refl _) rfl rfl (.nil)))))))))), rfl, fun i hi => piS rfl hi⟩; done)
        | (rw [leafM_same (by assumption) (by assumption)] at hR; subst hR; exact ⟨[(9, 8)], _, _, rfl, trivial, AVle.refl _, rfl, .cons rfl (.refl _) rfl rfl (.cons rfl (.refl _) rfl rfl (.cons rfl (.refl _) rfl rfl (.cons rfl (.refl _) rfl rfl (.cons rfl (.refl _) rfl rfl (.cons rfl (.refl _) rfl rfl (.cons rfl (.refl _) rfl rfl (.cons rfl (.refl _) rfl rfl (.no (.cons rfl (.refl _) rfl rfl (.nil)))))))))), rfl, fun i hi => piS rfl hi⟩; done)
        | (rw [leafM_no hnew hat] at hR; subst hR; exact ⟨[(9, 8)], _, _, rfl, trivial, AVle.refl _, rfl, .cons rfl (.refl _) rfl rfl (.cons rfl (.refl _) rfl rfl (.cons rfl (.refl _) rfl rfl (.cons rfl (.refl _) rfl rfl (.cons rfl (.refl _) rfl rfl (.cons rfl (.refl _) rfl rfl (.cons rfl (.refl _) rfl rfl (.cons rfl (.refl _) rfl rfl (.no (.cons rfl (.refl _) rfl rfl (.nil)))))))))), rfl, fun i hi => piS rfl hi⟩; done)
        | (rw [leafM_yes hnew hat] at hR; subst hR; exact ⟨[(9, 12)], _, _, rfl, trivial, AVle.refl _, rfl, .cons rfl (.refl _) rfl rfl (.cons rfl (.refl _) rfl rfl (.cons rfl (.refl _) rfl rfl (.cons rfl (.refl _) rfl rfl (.cons rfl (.refl _) rfl rfl (.cons rfl (.refl _) rfl rfl (.cons rfl (.refl _) rfl rfl (.cons rfl (.refl _) rfl rfl (.no (.cons rfl (.refl _) rfl rfl (.nil)))))))))), rfl, fun i hi => piS rfl hi⟩; done)
      ·
        try simp only [Int.toNat_natCast] at h5
        refine vc_skip ?_
        refine vc_seq ?_
        refine vc_regionD rfl ?_
        refine oq2 ?_
        refine Sx.run_store rfl trivial rfl rfl rfl rfl rfl rfl rfl ?_
        refine Sx.run_store rfl trivial rfl rfl rfl rfl rfl rfl rfl ?_
        refine run_nil ⟨rfl, ?_⟩
        refine vc_ent (ent_blk 3 rfl (arrQ_le rfl rfl rfl rfl)) ?_
        have hnew : s.tried = false ∨ eq4 q s.last = false := by first | exact .inl (by assumption) | exact .inr (by assumption)
        refine vc_seq ?_
        by_cases hat : c.atOk q
        ·
          refine vc_region ?_
          refine oq2 ?_
          refine oq2 ?_
          refine run_call (atYes_c c q hG hq hat) [] rfl rfl rfl trivial rfl rfl rfl rfl .nil rfl rfl rfl rfl rfl ?_
          refine oq1 ?_
          refine oq1 ?_
          refine oq1 ?_
          refine oq1 ?_
          refine oq1 ?_
          refine run_nil ?_
          refine vc_seq ?_
          refine vc_region ?_
          refine oq1 ?_
          refine oq1 ?_
          refine oq2 ?_
          refine oq1 ?_
          refine run_call (in1_c c q OF (B q) s.kept (by rw [hB]; omega) (fun l h => by rw [hB]; exact hk l h) (hOF q hql hq hat)) [(0, 10), (1, 11), (2, 5), (3, 6), (4, 7), (5, 8)] rfl rfl rfl rfl rfl rfl rfl rfl (.cons rfl (.refl _) rfl rfl (.cons rfl (.refl _) rfl rfl (.cons rfl (.refl _) rfl rfl (.cons rfl (.refl _) rfl rfl (.cons rfl (.refl _) rfl rfl (.cons rfl (.refl _) rfl rfl (.nil))))))) rfl rfl rfl rfl rfl ?_
          refine oq1 ?_
          refine oq1 ?_
          refine run_nil ?_
          refine vc_ret ?_
          first
          | (have e1 : R = (true, (chooseM (leafM c (fun q k => (false, some (joinK k (B q))))) (c.moves.drop (i + 1)) (i + 1) (qn.set i ((c.moves.getD i default).q.lo + (n : Int))) sn).2) := (by rw [← hx, show ((c.moves.getD i default).q.hi - (c.moves.getD i default).q.lo + 1).toNat - n = ((c.moves.getD i default).q.hi - (c.moves.getD i default).q.lo + 1).toNat - (n + 1) + 1 by omega, loopF_stop (by rw [← hset]; assumption), ← hset]); subst e1; exact ⟨[(9, 12)], _, _, rfl, trivial, AVle.refl _, rfl, .cons rfl (.refl _) rfl rfl (.cons rfl (.refl _) rfl rfl (.cons rfl (.refl _) rfl rfl (.cons rfl (.refl _) rfl rfl (.cons rfl (.refl _) rfl rfl (.cons rfl (.refl _) rfl rfl (.cons rfl (.refl _) rfl rfl (.cons rfl (.refl _) rfl rfl (.no (.cons rfl (.refl _) rfl rfl (.nil)))))))))), rfl, fun i hi => piS rfl hi⟩; done)
          | (have e1 : R = (false, sn) := (by rw [← hx, show ((c.moves.getD i default).q.hi - (c.moves.getD i default).q.lo + 1).toNat - n = 0 by omega, loopF]); subst e1; exact ⟨[(9, 11)], _, _, rfl, trivial, AVle.refl _, rfl, .cons rfl (.refl _) rfl rfl (.cons rfl (.refl _) rfl rfl (.cons rfl (.refl _) rfl rfl (.cons rfl (.refl _) rfl rfl (.cons rfl (.refl _) rfl rfl (.cons rfl (.refl _) rfl rfl (.cons rfl (.refl _) rfl rfl (.cons rfl (.refl _) rfl rfl (.no (.cons rfl (.refl _) rfl rfl (.nil)))))))))), rfl, fun i hi => piS rfl hi⟩; done)
          | (rw [leafM_same (by assumption) (by assumption)] at hR; subst hR; exact ⟨[(9, 8)], _, _, rfl, trivial, AVle.refl _, rfl, .cons rfl (.refl _) rfl rfl (.cons rfl (.refl _) rfl rfl (.cons rfl (.refl _) rfl rfl (.cons rfl (.refl _) rfl rfl (.cons rfl (.refl _) rfl rfl (.cons rfl (.refl _) rfl rfl (.cons rfl (.refl _) rfl rfl (.cons rfl (.refl _) rfl rfl (.no (.cons rfl (.refl _) rfl rfl (.nil)))))))))), rfl, fun i hi => piS rfl hi⟩; done)
          | (rw [leafM_no hnew hat] at hR; subst hR; exact ⟨[(9, 8)], _, _, rfl, trivial, AVle.refl _, rfl, .cons rfl (.refl _) rfl rfl (.cons rfl (.refl _) rfl rfl (.cons rfl (.refl _) rfl rfl (.cons rfl (.refl _) rfl rfl (.cons rfl (.refl _) rfl rfl (.cons rfl (.refl _) rfl rfl (.cons rfl (.refl _) rfl rfl (.cons rfl (.refl _) rfl rfl (.no (.cons rfl (.refl _) rfl rfl (.nil)))))))))), rfl, fun i hi => piS rfl hi⟩; done)
          | (rw [leafM_yes hnew hat] at hR; subst hR; exact ⟨[(9, 12)], _, _, rfl, trivial, AVle.refl _, rfl, .cons rfl (.refl _) rfl rfl (.cons rfl (.refl _) rfl rfl (.cons rfl (.refl _) rfl rfl (.cons rfl (.refl _) rfl rfl (.cons rfl (.refl _) rfl rfl (.cons rfl (.refl _) rfl rfl (.cons rfl (.refl _) rfl rfl (.cons rfl (.refl _) rfl rfl (.no (.cons rfl (.refl _) rfl rfl (.nil)))))))))), rfl, fun i hi => piS rfl hi⟩; done)
        ·
          refine vc_region ?_
          refine oq2 ?_
          refine oq2 ?_
          refine run_call (atNo_c c q hG hq hat) [] rfl rfl rfl trivial rfl rfl rfl rfl .nil rfl rfl rfl rfl rfl ?_
          refine oq1 ?_
          refine oq1 ?_
          refine oq1 ?_
          refine oq1 ?_
          refine oq1 ?_
          refine run_nil ?_
          refine vc_seq ?_
          refine vc_region ?_
          refine oq1 ?_
          refine oq1 ?_
          refine osk ?_
          refine osk ?_
          refine osk ?_
          refine oq1 ?_
          refine oq1 ?_
          refine run_nil ?_
          refine vc_ret ?_
          first
          | (have e1 : R = (true, (chooseM (leafM c (fun q k => (false, some (joinK k (B q))))) (c.moves.drop (i + 1)) (i + 1) (qn.set i ((c.moves.getD i default).q.lo + (n : Int))) sn).2) := (by rw [← hx, show ((c.moves.getD i default).q.hi - (c.moves.getD i default).q.lo + 1).toNat - n = ((c.moves.getD i default).q.hi - (c.moves.getD i default).q.lo + 1).toNat - (n + 1) + 1 by omega, loopF_stop (by rw [← hset]; assumption), ← hset]); subst e1; exact ⟨[(9, 12)], _, _, rfl, trivial, AVle.refl _, rfl, .cons rfl (.refl _) rfl rfl (.cons rfl (.refl _) rfl rfl (.cons rfl (.refl _) rfl rfl (.cons rfl (.refl _) rfl rfl (.cons rfl (.refl _) rfl rfl (.cons rfl (.refl _) rfl rfl (.cons rfl (.refl _) rfl rfl (.cons rfl (.refl _) rfl rfl (.no (.cons rfl (.refl _) rfl rfl (.nil)))))))))), rfl, fun i hi => piS rfl hi⟩; done)
          | (have e1 : R = (false, sn) := (by rw [← hx, show ((c.moves.getD i default).q.hi - (c.moves.getD i default).q.lo + 1).toNat - n = 0 by omega, loopF]); subst e1; exact ⟨[(9, 11)], _, _, rfl, trivial, AVle.refl _, rfl, .cons rfl (.refl _) rfl rfl (.cons rfl (.refl _) rfl rfl (.cons rfl (.refl _) rfl rfl (.cons rfl (.refl _) rfl rfl (.cons rfl (.refl _) rfl rfl (.cons rfl (.refl _) rfl rfl (.cons rfl (.refl _) rfl rfl (.cons rfl (.refl _) rfl rfl (.no (.cons rfl (.refl _) rfl rfl (.nil)))))))))), rfl, fun i hi => piS rfl hi⟩; done)
          | (rw [leafM_same (by assumption) (by assumption)] at hR; subst hR; exact ⟨[(9, 8)], _, _, rfl, trivial, AVle.refl _, rfl, .cons rfl (.refl _) rfl rfl (.cons rfl (.refl _) rfl rfl (.cons rfl (.refl _) rfl rfl (.cons rfl (.refl _) rfl rfl (.cons rfl (.refl _) rfl rfl (.cons rfl (.refl _) rfl rfl (.cons rfl (.refl _) rfl rfl (.cons rfl (.refl _) rfl rfl (.no (.cons rfl (.refl _) rfl rfl (.nil)))))))))), rfl, fun i hi => piS rfl hi⟩; done)
          | (rw [leafM_no hnew hat] at hR; subst hR; exact ⟨[(9, 8)], _, _, rfl, trivial, AVle.refl _, rfl, .cons rfl (.refl _) rfl rfl (.cons rfl (.refl _) rfl rfl (.cons rfl (.refl _) rfl rfl (.cons rfl (.refl _) rfl rfl (.cons rfl (.refl _) rfl rfl (.cons rfl (.refl _) rfl rfl (.cons rfl (.refl _) rfl rfl (.cons rfl (.refl _) rfl rfl (.no (.cons rfl (.refl _) rfl rfl (.nil)))))))))), rfl, fun i hi => piS rfl hi⟩; done)
          | (rw [leafM_yes hnew hat] at hR; subst hR; exact ⟨[(9, 12)], _, _, rfl, trivial, AVle.refl _, rfl, .cons rfl (.refl _) rfl rfl (.cons rfl (.refl _) rfl rfl (.cons rfl (.refl _) rfl rfl (.cons rfl (.refl _) rfl rfl (.cons rfl (.refl _) rfl rfl (.cons rfl (.refl _) rfl rfl (.cons rfl (.refl _) rfl rfl (.cons rfl (.refl _) rfl rfl (.no (.cons rfl (.refl _) rfl rfl (.nil)))))))))), rfl, fun i hi => piS rfl hi⟩; done)
    ·
      try simp only [Int.toNat_natCast] at h4
      refine osk ?_
      refine osk ?_
      refine osk ?_
      refine oq1 ?_
      refine run_nil ?_
      refine vc_cond rfl (fun h => Bool.noConfusion h) (fun _ => ?_)
      refine vc_skip ?_
      refine vc_seq ?_
      refine vc_regionD rfl ?_
      refine oq2 ?_
      refine Sx.run_store rfl trivial rfl rfl rfl rfl rfl rfl rfl ?_
      refine Sx.run_store rfl trivial rfl rfl rfl rfl rfl rfl rfl ?_
      refine run_nil ⟨rfl, ?_⟩
      refine vc_ent (ent_blk 3 rfl (arrQ_le rfl rfl rfl rfl)) ?_
      have hnew : s.tried = false ∨ eq4 q s.last = false := by first | exact .inl (by assumption) | exact .inr (by assumption)
      refine vc_seq ?_
      by_cases hat : c.atOk q
      ·
        refine vc_region ?_
        refine oq2 ?_
        refine oq2 ?_
        refine run_call (atYes_c c q hG hq hat) [] rfl rfl rfl trivial rfl rfl rfl rfl .nil rfl rfl rfl rfl rfl ?_
        refine oq1 ?_
        refine oq1 ?_
        refine oq1 ?_
        refine oq1 ?_
        refine oq1 ?_
        refine run_nil ?_
        refine vc_seq ?_
        refine vc_region ?_
        refine oq1 ?_
        refine oq1 ?_
        refine oq2 ?_
        refine oq1 ?_
        refine run_call (in1_c c q OF (B q) s.kept (by rw [hB]; omega) (fun l h => by rw [hB]; exact hk l h) (hOF q hql hq hat)) [(0, 10), (1, 11), (2, 5), (3, 6), (4, 7), (5, 8)] rfl rfl rfl rfl rfl rfl rfl rfl (.cons rfl (.refl _) rfl rfl (.cons rfl (.refl _) rfl rfl (.cons rfl (.refl _) rfl rfl (.cons rfl (.refl _) rfl rfl (.cons rfl (.refl _) rfl rfl (.cons rfl (.refl _) rfl rfl (.nil))))))) rfl rfl rfl rfl rfl ?_
        refine oq1 ?_
        refine oq1 ?_
        refine run_nil ?_
        refine vc_ret ?_
        first
        | (have e1 : R = (true, (chooseM (leafM c (fun q k => (false, some (joinK k (B q))))) (c.moves.drop (i + 1)) (i + 1) (qn.set i ((c.moves.getD i default).q.lo + (n : Int))) sn).2) := (by rw [← hx, show ((c.moves.getD i default).q.hi - (c.moves.getD i default).q.lo + 1).toNat - n = ((c.moves.getD i default).q.hi - (c.moves.getD i default).q.lo + 1).toNat - (n + 1) + 1 by omega, loopF_stop (by rw [← hset]; assumption), ← hset]); subst e1; exact ⟨[(9, 12)], _, _, rfl, trivial, AVle.refl _, rfl, .cons rfl (.refl _) rfl rfl (.cons rfl (.refl _) rfl rfl (.cons rfl (.refl _) rfl rfl (.cons rfl (.refl _) rfl rfl (.cons rfl (.refl _) rfl rfl (.cons rfl (.refl _) rfl rfl (.cons rfl (.refl _) rfl rfl (.cons rfl (.refl _) rfl rfl (.no (.cons rfl (.refl _) rfl rfl (.nil)))))))))), rfl, fun i hi => piS rfl hi⟩; done)
        | (have e1 : R = (false, sn) := (by rw [← hx, show ((c.moves.getD i default).q.hi - (c.moves.getD i default).q.lo + 1).toNat - n = 0 by omega, loopF]); subst e1; exact ⟨[(9, 11)], _, _, rfl, trivial, AVle.refl _, rfl, .cons rfl (.refl _) rfl rfl (.cons rfl (.refl _) rfl rfl (.cons rfl (.refl _) rfl rfl (.cons rfl (.refl _) rfl rfl (.cons rfl (.refl _) rfl rfl (.cons rfl (.refl _) rfl rfl (.cons rfl (.refl _) rfl rfl (.cons rfl (.refl _) rfl rfl (.no (.cons rfl (.refl _) rfl rfl (.nil)))))))))), rfl, fun i hi => piS rfl hi⟩; done)
        | (rw [leafM_same (by assumption) (by assumption)] at hR; subst hR; exact ⟨[(9, 8)], _, _, rfl, trivial, AVle.refl _, rfl, .cons rfl (.refl _) rfl rfl (.cons rfl (.refl _) rfl rfl (.cons rfl (.refl _) rfl rfl (.cons rfl (.refl _) rfl rfl (.cons rfl (.refl _) rfl rfl (.cons rfl (.refl _) rfl rfl (.cons rfl (.refl _) rfl rfl (.cons rfl (.refl _) rfl rfl (.no (.cons rfl (.refl _) rfl rfl (.nil)))))))))), rfl, fun i hi => piS rfl hi⟩; done)
        | (rw [leafM_no hnew hat] at hR; subst hR; exact ⟨[(9, 8)], _, _, rfl, trivial, AVle.refl _, rfl, .cons rfl (.refl _) rfl rfl (.cons rfl (.refl _) rfl rfl (.cons rfl (.refl _) rfl rfl (.cons rfl (.refl _) rfl rfl (.cons rfl (.refl _) rfl rfl (.cons rfl (.refl _) rfl rfl (.cons rfl (.refl _) rfl rfl (.cons rfl (.refl _) rfl rfl (.no (.cons rfl (.refl _) rfl rfl (.nil)))))))))), rfl, fun i hi => piS rfl hi⟩; done)
        | (rw [leafM_yes hnew hat] at hR; subst hR; exact ⟨[(9, 12)], _, _, rfl, trivial, AVle.refl _, rfl, .cons rfl (.refl _) rfl rfl (.cons rfl (.refl _) rfl rfl (.cons rfl (.refl _) rfl rfl (.cons rfl (.refl _) rfl rfl (.cons rfl (.refl _) rfl rfl (.cons rfl (.refl _) rfl rfl (.cons rfl (.refl _) rfl rfl (.cons rfl (.refl _) rfl rfl (.no (.cons rfl (.refl _) rfl rfl (.nil)))))))))), rfl, fun i hi => piS rfl hi⟩; done)
      ·
        refine vc_region ?_
        refine oq2 ?_
        refine oq2 ?_
        refine run_call (atNo_c c q hG hq hat) [] rfl rfl rfl trivial rfl rfl rfl rfl .nil rfl rfl rfl rfl rfl ?_
        refine oq1 ?_
        refine oq1 ?_
        refine oq1 ?_
        refine oq1 ?_
        refine oq1 ?_
        refine run_nil ?_
        refine vc_seq ?_
        refine vc_region ?_
        refine oq1 ?_
        refine oq1 ?_
        refine osk ?_
        refine osk ?_
        refine osk ?_
        refine oq1 ?_
        refine oq1 ?_
        refine run_nil ?_
        refine vc_ret ?_
        first
        | (have e1 : R = (true, (chooseM (leafM c (fun q k => (false, some (joinK k (B q))))) (c.moves.drop (i + 1)) (i + 1) (qn.set i ((c.moves.getD i default).q.lo + (n : Int))) sn).2) := (by rw [← hx, show ((c.moves.getD i default).q.hi - (c.moves.getD i default).q.lo + 1).toNat - n = ((c.moves.getD i default).q.hi - (c.moves.getD i default).q.lo + 1).toNat - (n + 1) + 1 by omega, loopF_stop (by rw [← hset]; assumption), ← hset]); subst e1; exact ⟨[(9, 12)], _, _, rfl, trivial, AVle.refl _, rfl, .cons rfl (.refl _) rfl rfl (.cons rfl (.refl _) rfl rfl (.cons rfl (.refl _) rfl rfl (.cons rfl (.refl _) rfl rfl (.cons rfl (.refl _) rfl rfl (.cons rfl (.refl _) rfl rfl (.cons rfl (.refl _) rfl rfl (.cons rfl (.refl _) rfl rfl (.no (.cons rfl (.refl _) rfl rfl (.nil)))))))))), rfl, fun i hi => piS rfl hi⟩; done)
        | (have e1 : R = (false, sn) := (by rw [← hx, show ((c.moves.getD i default).q.hi - (c.moves.getD i default).q.lo + 1).toNat - n = 0 by omega, loopF]); subst e1; exact ⟨[(9, 11)], _, _, rfl, trivial, AVle.refl _, rfl, .cons rfl (.refl _) rfl rfl (.cons rfl (.refl _) rfl rfl (.cons rfl (.refl _) rfl rfl (.cons rfl (.refl _) rfl rfl (.cons rfl (.refl _) rfl rfl (.cons rfl (.refl _) rfl rfl (.cons rfl (.refl _) rfl rfl (.cons rfl (.refl _) rfl rfl (.no (.cons rfl (.refl _) rfl rfl (.nil)))))))))), rfl, fun i hi => piS rfl hi⟩; done)
        | (rw [leafM_same (by assumption) (by assumption)] at hR; subst hR; exact ⟨[(9, 8)], _, _, rfl, trivial, AVle.refl _, rfl, .cons rfl (.refl _) rfl rfl (.cons rfl (.refl _) rfl rfl (.cons rfl (.refl _) rfl rfl (.cons rfl (.refl _) rfl rfl (.cons rfl (.refl _) rfl rfl (.cons rfl (.refl _) rfl rfl (.cons rfl (.refl _) rfl rfl (.cons rfl (.refl _) rfl rfl (.no (.cons rfl (.refl _) rfl rfl (.nil)))))))))), rfl, fun i hi => piS rfl hi⟩; done)
        | (rw [leafM_no hnew hat] at hR; subst hR; exact ⟨[(9, 8)], _, _, rfl, trivial, AVle.refl _, rfl, .cons rfl (.refl _) rfl rfl (.cons rfl (.refl _) rfl rfl (.cons rfl (.refl _) rfl rfl (.cons rfl (.refl _) rfl rfl (.cons rfl (.refl _) rfl rfl (.cons rfl (.refl _) rfl rfl (.cons rfl (.refl _) rfl rfl (.cons rfl (.refl _) rfl rfl (.no (.cons rfl (.refl _) rfl rfl (.nil)))))))))), rfl, fun i hi => piS rfl hi⟩; done)
        | (rw [leafM_yes hnew hat] at hR; subst hR; exact ⟨[(9, 12)], _, _, rfl, trivial, AVle.refl _, rfl, .cons rfl (.refl _) rfl rfl (.cons rfl (.refl _) rfl rfl (.cons rfl (.refl _) rfl rfl (.cons rfl (.refl _) rfl rfl (.cons rfl (.refl _) rfl rfl (.cons rfl (.refl _) rfl rfl (.cons rfl (.refl _) rfl rfl (.cons rfl (.refl _) rfl rfl (.no (.cons rfl (.refl _) rfl rfl (.nil)))))))))), rfl, fun i hi => piS rfl hi⟩; done)

theorem chooseI_c (c : Clr) (hG : c.Good) (OF : FuncId) (B : List Int → List Rng) (ln : Nat) (hB : ∀ q, (B q).length = ln) (hln : ln ≤ 1000) (hOF : ∀ q, q.length = 4 → (∀ j, 0 ≤ q.getD j 0 ∧ q.getD j 0 ≤ 1000) → c.atOk q → CallC Try.prog OF 2 (lkF [(0, some (.mapb true (entD (c.starts q)))), (1, some (.cells 150 [.f (csks c.casks), .f (movs c.moves), .f (ggs c.gauges), .f (i64 (q.getD 0 0)), .f (i64 (q.getD 1 0)), .f (i64 (q.getD 2 0)), .f (i64 (q.getD 3 0)), .mp 0]))] fun _ => none) [.s (.c (.ptr 1 0))] 2 (lkF [(0, some (.mapb true (entD (c.starts q)))), (1, some (.cells 150 [.f (csks c.casks), .f (movs c.moves), .f (ggs c.gauges), .f (i64 (q.getD 0 0)), .f (i64 (q.getD 1 0)), .f (i64 (q.getD 2 0)), .f (i64 (q.getD 3 0)), .mp 0]))] fun _ => none) (aRngs (B q))) : ∀ (d i : Nat), i + d = c.moves.length → ∀ (q : List Int) (s : Tried (Option (List Rng))), q.length = 4 → (∀ j, 0 ≤ q.getD j 0 ∧ q.getD j 0 ≤ 1000) → keptLen ln s → CallC Try.prog 100 9 (lkF [(0, some (.cells 41 [.f (csks c.casks), .f (movs c.moves), .f (ggs c.gauges)])), (1, some (.cells 171 [.fn 100 [] [0, 1, 2, 3, 4]])), (2, some (.cells 4 [.f (.bool s.tried)])), (3, some (arrQ s.last)), (4, some (.cells 151 [.fn 112 [] [5, 6, 7]])), (5, some (.cells 118 [.fn OF [] []])), (6, some (.cells 4 [.f (.bool s.kept.isSome)])), (7, some (.cells 59 [.own 8])), (8, some (rowR (s.kept.getD [])))] fun _ => none) [aInt .i64 (i : Int), aQ q, .s (.c (.ptr 0 0)), .s (.c (.ptr 1 0)), .s (.c (.ptr 2 0)), .s (.c (.ptr 3 0)), .s (.c (.ptr 4 0))] 10 (lkF [(0, some (.cells 41 [.f (csks c.casks), .f (movs c.moves), .f (ggs c.gauges)])), (1, some (.cells 171 [.fn 100 [] [0, 1, 2, 3, 4]])), (2, some (.cells 4 [.f (.bool (chooseM (leafM c (fun q k => (false, some (joinK k (B q))))) (c.moves.drop i) i q s).2.tried)])), (3, some (arrQ (chooseM (leafM c (fun q k => (false, some (joinK k (B q))))) (c.moves.drop i) i q s).2.last)), (4, some (.cells 151 [.fn 112 [] [5, 6, 7]])), (5, some (.cells 118 [.fn OF [] []])), (6, some (.cells 4 [.f (.bool (chooseM (leafM c (fun q k => (false, some (joinK k (B q))))) (c.moves.drop i) i q s).2.kept.isSome)])), (7, some (.cells 59 [.own 9])), (8, none), (9, some (rowR ((chooseM (leafM c (fun q k => (false, some (joinK k (B q))))) (c.moves.drop i) i q s).2.kept.getD [])))] fun _ => none) (aBool (chooseM (leafM c (fun q k => (false, some (joinK k (B q))))) (c.moves.drop i) i q s).1) := by
  intro d
  induction d with
  | zero => intro i hi q s hql hq hk; exact chooseI_s c hG OF B ln hB hln hOF i (by omega) q s hql hq hk _ rfl (fun q s h => absurd h (by omega))
  | succ d ihd => intro i hi q s hql hq hk; exact chooseI_s c hG OF B ln hB hln hOF i (by omega) q s hql hq hk _ rfl (fun q s hlt h1 h2 h3 => ihd (i + 1) (by omega) q s h1 h2 h3)

theorem worksI_c (c : Clr) (hG : c.Good) (OF : FuncId) (B : List Int → List Rng) (ln : Nat) (hB : ∀ q, (B q).length = ln) (hln : ln ≤ 1000) (hOF : ∀ q, q.length = 4 → (∀ j, 0 ≤ q.getD j 0 ∧ q.getD j 0 ≤ 1000) → c.atOk q → CallC Try.prog OF 2 (lkF [(0, some (.mapb true (entD (c.starts q)))), (1, some (.cells 150 [.f (csks c.casks), .f (movs c.moves), .f (ggs c.gauges), .f (i64 (q.getD 0 0)), .f (i64 (q.getD 1 0)), .f (i64 (q.getD 2 0)), .f (i64 (q.getD 3 0)), .mp 0]))] fun _ => none) [.s (.c (.ptr 1 0))] 2 (lkF [(0, some (.mapb true (entD (c.starts q)))), (1, some (.cells 150 [.f (csks c.casks), .f (movs c.moves), .f (ggs c.gauges), .f (i64 (q.getD 0 0)), .f (i64 (q.getD 1 0)), .f (i64 (q.getD 2 0)), .f (i64 (q.getD 3 0)), .mp 0]))] fun _ => none) (aRngs (B q))) : CallC Try.prog 81 4 (lkF [(0, some (.cells 118 [.fn OF [] []])), (1, some (.cells 4 [.f (.bool false)])), (2, some (.cells 59 [.own 3])), (3, some (rowR []))] fun _ => none) [aClr c, .s (.c (.fn 112 [] [0, 1, 2]))] 5 (lkF [(0, some (.cells 118 [.fn OF [] []])), (1, some (.cells 4 [.f (.bool (worksM c (fun q k => (false, some (joinK k (B q)))) none).2.isSome)])), (2, some (.cells 59 [.own 4])), (3, none), (4, some (rowR ((worksM c (fun q k => (false, some (joinK k (B q)))) none).2.getD [])))] fun _ => none) (aBool (worksM c (fun q k => (false, some (joinK k (B q)))) none).1) := by
  refine callC_intro tabOk mixed Try.func81 rfl rfl rfl rfl ?_
  intro w0 e0 Z0 X hX n
  refine vc_seq ?_
  refine vc_region ?_
  refine run_box rfl trivial rfl rfl rfl rfl rfl rfl (by intro _ _ h; cases h <;> (intro _; rfl)) ?_
  refine run_box rfl trivial rfl rfl rfl rfl rfl rfl (by intro _ _ h; cases h <;> (intro _; rfl)) ?_
  refine oq1 ?_
  refine run_nil ?_
  refine vc_seq ?_
  refine vc_region ?_
  refine run_alloc rfl trivial rfl rfl rfl rfl (by intro _ _ h; cases h <;> (intro _; rfl)) ?_
  refine run_nil ?_
  refine vc_seq ?_
  refine vc_region ?_
  refine run_alloc rfl trivial rfl rfl rfl rfl (by intro _ _ h; cases h <;> (intro _; rfl)) ?_
  refine Sx.run_store rfl trivial rfl rfl rfl rfl rfl rfl rfl ?_
  refine run_nil ?_
  refine vc_seq ?_
  refine vc_region ?_
  refine run_alloc rfl trivial rfl rfl rfl rfl (by intro _ _ h; cases h <;> (intro _; rfl)) ?_
  refine run_nil ?_
  refine vc_seq ?_
  refine vc_region ?_
  refine oq1 ?_
  refine Sx.run_store rfl trivial rfl rfl rfl rfl rfl rfl rfl ?_
  refine run_nil ?_
  refine vc_seq ?_
  refine vc_region ?_
  refine oq2 ?_
  refine oq1 ?_
  refine run_call (chooseI_c c hG OF B ln hB hln hOF c.moves.length 0 (by omega) [0, 0, 0, 0] (⟨false, [0, 0, 0, 0], none⟩ : Tried (Option (List Rng))) rfl zero4 (fun l h => by cases h)) [(0, 4), (1, 8), (2, 7), (3, 6), (4, 5), (5, 0), (6, 1), (7, 2), (8, 3)] rfl rfl rfl trivial rfl rfl rfl rfl (.cons rfl (.refl _) rfl rfl (.cons rfl (.refl _) rfl rfl (.cons rfl (.refl _) rfl rfl (.cons rfl (arrQ_le rfl rfl rfl rfl) rfl rfl (.cons rfl (.refl _) rfl rfl (.cons rfl (.refl _) rfl rfl (.cons rfl (.refl _) rfl rfl (.cons rfl (.refl _) rfl rfl (.cons rfl (.refl _) rfl rfl (.nil)))))))))) rfl rfl rfl rfl rfl ?_
  refine oq1 ?_
  refine run_nil ?_
  refine vc_ret ?_
  exact ⟨[(4, 9)], _, _, rfl, trivial, AVle.refl _, rfl, .cons rfl (.refl _) rfl rfl (.cons rfl (.refl _) rfl rfl (.cons rfl (.refl _) rfl rfl (.no (.cons rfl (.refl _) rfl rfl (.nil))))), rfl, fun i hi => piS rfl hi⟩

end Go.Proofs.Ytnkgdapdccpjmaa

/- in, asked, Leaked, Over. -/
namespace Go.Proofs.Ytnkgdapdccpjmaa
open Go Go.RowKit Go.Sx

/-- What is looked for in all truths. -/
def Clr.inM (c : Clr) (B : List Int → List Rng) : Option (List Rng) := (worksM c (fun q k => (false, some (joinK k (B q)))) none).2
def Clr.askedA (c : Clr) (B : List Int → List Rng) : List Rng × Int := if c.check = 0 then (match c.inM B with | none => ([], 11) | some l => (l, 0)) else ([], c.check)
abbrev aRE2 (x : List Rng) (e : Int) : AV := .tup [.c (.f (rngs x)), .c (.f (i64 e))]
theorem aRE2_eq {p : List Rng × Int} {x : List Rng} {a : Int} (h : p = (x, a)) : aRE2 x a = AV.ren (piOf []) (aRE2 p.1 p.2) := by subst h; rfl
theorem aRE2_nil {p : List Rng × Int} {a : Int} (h : p = ([], a)) : AVle (.tup [.c (.f (.lit (.slice none 0 0))), .c (.f (i64 a))]) (AV.ren (piOf []) (aRE2 p.1 p.2)) := by
  subst h; exact .tup (.cons (.c (.f .nil)) (.cons (.refl _) .nil))

theorem in_c (c : Clr) (hG : c.Good) (OF : FuncId) (B : List Int → List Rng) (ln : Nat) (hB : ∀ q, (B q).length = ln) (hln : ln ≤ 1000) (hOF : ∀ q, q.length = 4 → (∀ j, 0 ≤ q.getD j 0 ∧ q.getD j 0 ≤ 1000) → c.atOk q → CallC Try.prog OF 2 (lkF [(0, some (.mapb true (entD (c.starts q)))), (1, some (.cells 150 [.f (csks c.casks), .f (movs c.moves), .f (ggs c.gauges), .f (i64 (q.getD 0 0)), .f (i64 (q.getD 1 0)), .f (i64 (q.getD 2 0)), .f (i64 (q.getD 3 0)), .mp 0]))] fun _ => none) [.s (.c (.ptr 1 0))] 2 (lkF [(0, some (.mapb true (entD (c.starts q)))), (1, some (.cells 150 [.f (csks c.casks), .f (movs c.moves), .f (ggs c.gauges), .f (i64 (q.getD 0 0)), .f (i64 (q.getD 1 0)), .f (i64 (q.getD 2 0)), .f (i64 (q.getD 3 0)), .mp 0]))] fun _ => none) (aRngs (B q))) : CallC Try.prog 93 0 (lkF [] fun _ => none) [.s (.agg [.fn OF [] []]), aClr c] 0 (lkF [] fun _ => none) (.tup [.c (.f (rngs ((c.inM B).getD []))), .c (.f (.bool (c.inM B).isSome))]) := by
  refine callC_intro tabOk mixed Try.func93 rfl rfl rfl rfl ?_
  intro w0 e0 Z0 X hX n
  refine vc_seq ?_
  refine vc_region ?_
  refine run_box rfl trivial rfl rfl rfl rfl rfl rfl (by intro _ _ h; cases h <;> (intro _; rfl)) ?_
  refine run_box rfl trivial rfl rfl rfl rfl rfl rfl (by intro _ _ h; cases h <;> (intro _; rfl)) ?_
  refine run_alloc rfl trivial rfl rfl rfl rfl (by intro _ _ h; cases h <;> (intro _; rfl)) ?_
  refine run_alloc rfl trivial rfl rfl rfl rfl (by intro _ _ h; cases h <;> (intro _; rfl)) ?_
  refine run_nil ?_
  refine vc_seq ?_
  refine vc_ent (ent_adoptC 2 0 64 2 (fun _ _ => .any) rfl rfl rfl) ?_
  refine vc_region ?_
  refine oq2 ?_
  refine oq1 ?_
  refine run_call (worksI_c c hG OF B ln hB hln hOF) [(0, 0), (1, 3), (2, 2), (3, 4)] rfl rfl rfl trivial rfl rfl rfl rfl (.cons rfl (.refl _) rfl rfl (.cons rfl (.refl _) rfl rfl (.cons rfl (.refl _) rfl rfl (.cons rfl (rowZ rfl) rfl rfl .nil)))) rfl rfl rfl rfl rfl ?_
  refine run_nil ?_
  refine vc_seq ?_
  refine vc_regionD rfl ?_
  refine oq2 ?_
  refine oq2 ?_
  refine Sx.run_store rfl trivial rfl rfl rfl rfl rfl rfl rfl ?_
  refine Sx.run_store rfl trivial rfl rfl rfl rfl rfl rfl rfl ?_
  refine run_nil ⟨rfl, ?_⟩
  refine vc_ent (ent_fz 5 rfl) ?_
  refine vc_ret ?_
  exact ret_pure rfl ⟨Nat.le_of_ble_eq_true rfl, Nat.le_of_ble_eq_true rfl, trivial⟩ rfl (AVle.refl _)

theorem asked_c (c : Clr) (OF : FuncId) (B : List Int → List Rng) (ln : Nat) (hB : ∀ q, (B q).length = ln) (hln : c.Good → ln ≤ 1000) (hOF : c.Good → ∀ q, q.length = 4 → (∀ j, 0 ≤ q.getD j 0 ∧ q.getD j 0 ≤ 1000) → c.atOk q → CallC Try.prog OF 2 (lkF [(0, some (.mapb true (entD (c.starts q)))), (1, some (.cells 150 [.f (csks c.casks), .f (movs c.moves), .f (ggs c.gauges), .f (i64 (q.getD 0 0)), .f (i64 (q.getD 1 0)), .f (i64 (q.getD 2 0)), .f (i64 (q.getD 3 0)), .mp 0]))] fun _ => none) [.s (.c (.ptr 1 0))] 2 (lkF [(0, some (.mapb true (entD (c.starts q)))), (1, some (.cells 150 [.f (csks c.casks), .f (movs c.moves), .f (ggs c.gauges), .f (i64 (q.getD 0 0)), .f (i64 (q.getD 1 0)), .f (i64 (q.getD 2 0)), .f (i64 (q.getD 3 0)), .mp 0]))] fun _ => none) (aRngs (B q))) : CallC Try.prog 53 0 (lkF [] fun _ => none) [.s (.agg [.fn OF [] []]), aClr c] 0 (lkF [] fun _ => none) (aRE2 (c.askedA B).1 (c.askedA B).2) := by
  refine callC_intro tabOk mixed Try.func53 rfl rfl rfl rfl ?_
  intro w0 e0 Z0 X hX n
  refine vc_seq ?_
  refine vc_region ?_
  refine run_box rfl trivial rfl rfl rfl rfl rfl rfl (by intro _ _ h; cases h <;> (intro _; rfl)) ?_
  refine run_box rfl trivial rfl rfl rfl rfl rfl rfl (by intro _ _ h; cases h <;> (intro _; rfl)) ?_
  refine oq1 ?_
  refine oq1 ?_
  refine run_nil ?_
  refine vc_seq ?_
  refine vc_seq ?_
  refine vc_region ?_
  refine oq2 ?_
  refine run_callP (check_c _) rfl rfl rfl trivial rfl rfl rfl rfl ?_
  refine oq1 ?_
  refine run_nil ?_
  refine vc_seq ?_
  refine vc_region ?_
  refine oq1 ?_
  refine oq6 ?_
  refine run_nil ?_
  refine vc_condN rfl (fun h1 => ?_) (fun h1 => ?_)
  ·
    try simp only [Int.toNat_natCast] at h1
    refine vc_seq ?_
    refine vc_region ?_
    refine oq1 ?_
    refine oq1 ?_
    refine oq1 ?_
    refine run_nil ?_
    refine vc_ret ?_
    refine ret_pure rfl ⟨trivial, trivial, trivial⟩ rfl ?_
    first
    | (refine aRE2_nil ?_; rw [Clr.askedA, if_neg (by simp_all)]; done)
    | (have hs : (c.inM B).isSome = false := (by simpa using (by assumption : (!(c.inM B).isSome) = true)); refine aRE2_nil ?_; rw [Clr.askedA, if_pos hchk]; cases hk : c.inM B with | none => rfl | some l => (rw [hk] at hs; cases hs))
    | (have hs : (c.inM B).isSome = true := (by simpa using (by assumption : (!(c.inM B).isSome) = false)); refine .of_eq (aRE2_eq ?_); rw [Clr.askedA, if_pos hchk]; cases hk : c.inM B with | none => (rw [hk] at hs; cases hs) | some l => rfl)
  ·
    try simp only [Int.toNat_natCast] at h1
    have hchk : c.check = 0 := by simpa using h1
    have hG := Clr.good hchk
    refine vc_skip ?_
    refine vc_seq ?_
    refine vc_region ?_
    refine oq2 ?_
    refine oq2 ?_
    refine run_callP (in_c c hG OF B ln hB (hln hG) (hOF hG)) rfl rfl rfl trivial rfl rfl rfl rfl ?_
    refine oq1 ?_
    refine oq1 ?_
    refine oq1 ?_
    refine oq1 ?_
    refine oq1 ?_
    refine run_nil ?_
    refine vc_seq ?_
    refine vc_seq ?_
    refine vc_region ?_
    refine oq1 ?_
    refine oq1 ?_
    refine run_nil ?_
    refine vc_cond rfl (fun h2 => ?_) (fun h2 => ?_)
    ·
      try simp only [Int.toNat_natCast] at h2
      refine vc_seq ?_
      refine vc_region ?_
      refine oq1 ?_
      refine oq1 ?_
      refine run_nil ?_
      refine vc_ret ?_
      refine ret_pure rfl ⟨trivial, trivial, trivial⟩ rfl ?_
      first
      | (refine aRE2_nil ?_; rw [Clr.askedA, if_neg (by simp_all)]; done)
      | (have hs : (c.inM B).isSome = false := (by simpa using (by assumption : (!(c.inM B).isSome) = true)); refine aRE2_nil ?_; rw [Clr.askedA, if_pos hchk]; cases hk : c.inM B with | none => rfl | some l => (rw [hk] at hs; cases hs))
      | (have hs : (c.inM B).isSome = true := (by simpa using (by assumption : (!(c.inM B).isSome) = false)); refine .of_eq (aRE2_eq ?_); rw [Clr.askedA, if_pos hchk]; cases hk : c.inM B with | none => (rw [hk] at hs; cases hs) | some l => rfl)
    ·
      try simp only [Int.toNat_natCast] at h2
      refine vc_skip ?_
      refine vc_seq ?_
      refine vc_region ?_
      refine oq1 ?_
      refine oq1 ?_
      refine oq1 ?_
      refine run_nil ?_
      refine vc_ret ?_
      refine ret_pure rfl ⟨trivial, trivial, trivial⟩ rfl ?_
      first
      | (refine aRE2_nil ?_; rw [Clr.askedA, if_neg (by simp_all)]; done)
      | (have hs : (c.inM B).isSome = false := (by simpa using (by assumption : (!(c.inM B).isSome) = true)); refine aRE2_nil ?_; rw [Clr.askedA, if_pos hchk]; cases hk : c.inM B with | none => rfl | some l => (rw [hk] at hs; cases hs))
      | (have hs : (c.inM B).isSome = true := (by simpa using (by assumption : (!(c.inM B).isSome) = false)); refine .of_eq (aRE2_eq ?_); rw [Clr.askedA, if_pos hchk]; cases hk : c.inM B with | none => (rw [hk] at hs; cases hs) | some l => rfl)

theorem contentsL_len (c : Clr) (q : List Int) : (c.contentsL q (c.starts q)).length = (c.moves.length + 1) * c.casks.length := by simp [Clr.contentsL]
theorem leaksL_len (c : Clr) (q : List Int) : (c.leaksL (c.starts q)).length = c.casks.length := by simp [Clr.leaksL]
def Clr.leakedA (c : Clr) : List Rng × Int := c.askedA fun q => c.leaksL (c.starts q)
def Clr.boundsA (c : Clr) : List Rng × Int := c.askedA fun q => c.contentsL q (c.starts q)

theorem Leaked_c (c : Clr) : CallC Try.prog 20 0 (lkF [] fun _ => none) [aClr c] 0 (lkF [] fun _ => none) (aRE2 c.leakedA.1 c.leakedA.2) := by
  refine callC_intro tabOk mixed Try.func20 rfl rfl rfl rfl ?_
  intro w0 e0 Z0 X hX n
  refine vc_seq ?_
  refine vc_region ?_
  refine run_box rfl trivial rfl rfl rfl rfl rfl rfl (by intro _ _ h; cases h <;> (intro _; rfl)) ?_
  refine oq1 ?_
  refine oq1 ?_
  refine run_nil ?_
  refine vc_seq ?_
  refine vc_region ?_
  refine oq1 ?_
  refine oq2 ?_
  refine run_callP (asked_c c 66 (fun q => c.leaksL (c.starts q)) c.casks.length (leaksL_len c) (fun hG => by have := hG.casks; omega) (fun hG q hql hq ha => leaks_c c q (c.starts q) hG (goodE_starts hG))) rfl rfl rfl trivial rfl rfl rfl rfl ?_
  refine oq1 ?_
  refine oq1 ?_
  refine oq1 ?_
  refine oq1 ?_
  refine run_nil ?_
  refine vc_ret ?_
  exact ret_pure rfl ⟨trivial, trivial, trivial⟩ rfl (AVle.refl _)

def overTo (l : List Rng) (p : Rng → Bool) (i : Nat) : List Int := List.map (fun j : Nat => (j : Int)) ((List.range i).filter fun j => p (l.getD j default))
theorem overTo_yes {l : List Rng} {p : Rng → Bool} {i : Nat} (h : p (l.getD i default) = true) : overTo l p (i + 1) = overTo l p i ++ [(i : Int)] := by
  rw [overTo, List.range_succ, List.filter_append, List.map_append]; simp only [List.filter_cons, h, if_true, List.filter_nil, List.map_cons, List.map_nil]; rfl
theorem overTo_no {l : List Rng} {p : Rng → Bool} {i : Nat} (h : p (l.getD i default) = false) : overTo l p (i + 1) = overTo l p i := by
  rw [overTo, List.range_succ, List.filter_append, List.map_append]; simp only [List.filter_cons, h, Bool.false_eq_true, if_false, List.filter_nil, List.map_nil, List.append_nil]; rfl
theorem overTo_len (l : List Rng) (p : Rng → Bool) (i : Nat) : (overTo l p i).length ≤ i := by
  simp only [overTo, List.length_map]; exact Nat.le_trans (List.length_filter_le _ _) (by simp)
def Clr.overA (c : Clr) (al : Int) : List Int × List Int × Int := (overTo c.leakedA.1 (fun r => decide (al < r.lo)) c.leakedA.1.length, overTo c.leakedA.1 (fun r => decide (al < r.hi)) c.leakedA.1.length, c.leakedA.2)
theorem inM_len {c : Clr} {B : List Int → List Rng} {ln : Nat} (hB : ∀ q, (B q).length = ln) : ∀ l, c.inM B = some l → l.length = ln :=
  choose_inv (P := keptLen ln) (leafI_len (c := c) hB) _ _ _ ⟨false, [0, 0, 0, 0], none⟩ (fun l h => by cases h)
theorem askedA_len {c : Clr} {B : List Int → List Rng} {ln : Nat} (hB : ∀ q, (B q).length = ln) : (c.askedA B).1.length = 0 ∨ (c.check = 0 ∧ (c.askedA B).1.length = ln) := by
  rw [Clr.askedA]
  split
  · rename_i h
    cases hk : c.inM B with
    | none => exact .inl rfl
    | some l => exact .inr ⟨h, inM_len hB l hk⟩
  · exact .inl rfl
theorem leaked_small (c : Clr) : c.leakedA.1.length ≤ 3 := by
  rcases askedA_len (c := c) (leaksL_len c) with h | ⟨h1, h2⟩
  · show (c.askedA _).1.length ≤ 3; omega
  · have := (Clr.good h1).casks
    show (c.askedA _).1.length ≤ 3; omega

theorem Over_c (c : Clr) (al : Int) : CallC Try.prog 21 0 (lkF [] fun _ => none) [aClr c, aInt .i64 al] 0 (lkF [] fun _ => none) (.tup [.c (.f (ints (c.overA al).1)), .c (.f (ints (c.overA al).2.1)), .c (.f (i64 (c.overA al).2.2))]) := by
  refine callC_intro tabOk mixed Try.func21 rfl rfl rfl rfl ?_
  intro w0 e0 Z0 X hX n
  have hls := leaked_small c
  refine vc_seq ?_
  refine vc_region ?_
  refine run_box rfl trivial rfl rfl rfl rfl rfl rfl (by intro _ _ h; cases h <;> (intro _; rfl)) ?_
  refine oq1 ?_
  refine oq1 ?_
  refine oq1 ?_
  refine run_nil ?_
  refine vc_seq ?_
  refine vc_ent (ent_adoptS 4 3 1 (fun _ _ => .any) rfl) ?_
  refine vc_ent (ent_adoptS 5 3 1 (fun _ _ => .any) rfl) ?_
  refine vc_region ?_
  refine oq2 ?_
  refine run_callP (Leaked_c _) rfl rfl rfl trivial rfl rfl rfl rfl ?_
  refine oq1 ?_
  refine oq1 ?_
  refine oq1 ?_
  refine oq1 ?_
  refine oq1 ?_
  refine run_nil ?_
  refine vc_seq ?_
  refine vc_seq ?_
  refine vc_region ?_
  refine oq1 ?_
  refine oq1 ?_
  refine oq1 ?_
  refine run_nil ?_
  refine vc_block ?_
  refine vc_loop (κ := Nat) (fun i => i ≤ c.leakedA.1.length) (fun i => ⟨[(1, aInt .i64 al), (4, .s (.c (.own 1))), (5, .s (.c (.own 2))), (6, aInt .i64 c.leakedA.2), (15, aRngs c.leakedA.1), (16, aInt .i64 (c.leakedA.1.length : Int)), (17, aInt .i64 (i : Int))], [(1, some (rowI (overTo c.leakedA.1 (fun r => decide (al < r.lo)) i))), (2, some (rowI (overTo c.leakedA.1 (fun r => decide (al < r.hi)) i)))], fun _ => none, 3⟩) (fun i => c.leakedA.1.length - i) 0 (Nat.zero_le _) ?_ ?_
  ·
    exact ent_ren [] (.cons (.refl _) rfl (.cons (.refl _) rfl (.cons (.refl _) rfl (.cons (.refl _) rfl (.cons (.refl _) rfl (.cons (.refl _) rfl (.cons (.refl _) rfl (.nil)))))))) (.cons rfl (rowZ rfl) rfl rfl (.cons rfl (rowZ rfl) rfl rfl (.nil))) rfl rfl (fun i hi => absurd hi (Nat.not_lt_zero i))
  rintro i hi
  have ho1 := overTo_len c.leakedA.1 (fun r => decide (al < r.lo)) i
  have ho2 := overTo_len c.leakedA.1 (fun r => decide (al < r.hi)) i
  refine vc_seq ?_
  refine vc_region ?_
  refine oq6 ?_
  refine run_nil ?_
  refine vc_seq ?_
  refine vc_condP rfl (fun h1 => ?_) (fun h1 => ?_)
  ·
    try simp only [Int.toNat_natCast] at h1
    refine vc_skip ?_
    refine vc_seq ?_
    refine vc_block ?_
    refine vc_seq ?_
    refine vc_region ?_
    refine oq1 ?_
    refine oq3 ?_
    refine oq2 ?_
    refine run_alloc rfl trivial rfl rfl rfl rfl (by intro _ _ h; cases h <;> (intro _; rfl)) ?_
    refine oq1 ?_
    refine Sx.run_store rfl trivial rfl rfl rfl rfl rfl rfl rfl ?_
    refine run_nil ?_
    refine vc_seq ?_
    refine vc_seq ?_
    refine vc_region ?_
    refine oq5 ?_
    refine oq2 ?_
    refine oq1 ?_
    refine oq6 ?_
    refine run_nil ?_
    refine vc_condP rfl (fun h2 => ?_) (fun h2 => ?_)
    ·
      try simp only [Int.toNat_natCast] at h2
      refine vc_region ?_
      refine oq1 ?_
      refine oq1 ?_
      refine run_buildSlice rfl trivial rfl rfl rfl rfl rfl rfl rfl rfl rfl ?_
      refine run_append rfl rfl rfl rfl trivial rfl rfl rfl rfl rfl rfl rfl rfl rfl rfl rfl (by first | omega | exact app_room (by omega) rfl) ?_
      refine oq1 ?_
      refine run_nil ?_
      refine vc_seq ?_
      refine vc_region ?_
      refine oq5 ?_
      refine oq2 ?_
      refine oq1 ?_
      refine oq6 ?_
      refine run_nil ?_
      refine vc_condP rfl (fun h3 => ?_) (fun h3 => ?_)
      ·
        try simp only [Int.toNat_natCast] at h3
        refine vc_region ?_
        refine oq1 ?_
        refine oq1 ?_
        refine run_buildSlice rfl trivial rfl rfl rfl rfl rfl rfl rfl rfl rfl ?_
        refine run_append rfl rfl rfl rfl trivial rfl rfl rfl rfl rfl rfl rfl rfl rfl rfl rfl (by first | omega | exact app_room (by omega) rfl) ?_
        refine oq1 ?_
        refine run_nil ?_
        refine vc_region ?_
        refine oq4 ?_
        refine oq1 ?_
        refine run_nil ?_
        first
        | (refine ⟨i + 1, by omega, by omega, ent_ren [(1, 4), (2, 5)] (.cons (.refl _) rfl (.cons (.refl _) rfl (.cons (.refl _) rfl (.cons (.refl _) rfl (.cons (.refl _) rfl (.cons (.refl _) rfl (.cons (.refl _) rfl (.nil)))))))) (.cons rfl (rowI_snoc _ _ (overTo_yes (decide_eq_true (by assumption))) (.refl _)) rfl rfl (.cons rfl (rowI_snoc _ _ (overTo_yes (decide_eq_true (by assumption))) (.refl _)) rfl rfl (.nil))) rfl rfl (fun i hi => absurd hi (Nat.not_lt_zero i))⟩)
        | (refine ⟨i + 1, by omega, by omega, ent_ren [(1, 4)] (.cons (.refl _) rfl (.cons (.refl _) rfl (.cons (.refl _) rfl (.cons (.refl _) rfl (.cons (.refl _) rfl (.cons (.refl _) rfl (.cons (.refl _) rfl (.nil)))))))) (.cons rfl (rowI_snoc _ _ (overTo_yes (decide_eq_true (by assumption))) (.refl _)) rfl rfl (.cons rfl ((by rw [overTo_no (decide_eq_false (by assumption))]; exact .refl _)) rfl rfl (.nil))) rfl rfl (fun i hi => absurd hi (Nat.not_lt_zero i))⟩)
        | (refine ⟨i + 1, by omega, by omega, ent_ren [(2, 4)] (.cons (.refl _) rfl (.cons (.refl _) rfl (.cons (.refl _) rfl (.cons (.refl _) rfl (.cons (.refl _) rfl (.cons (.refl _) rfl (.cons (.refl _) rfl (.nil)))))))) (.cons rfl ((by rw [overTo_no (decide_eq_false (by assumption))]; exact .refl _)) rfl rfl (.cons rfl (rowI_snoc _ _ (overTo_yes (decide_eq_true (by assumption))) (.refl _)) rfl rfl (.nil))) rfl rfl (fun i hi => absurd hi (Nat.not_lt_zero i))⟩)
        | (refine ⟨i + 1, by omega, by omega, ent_ren [] (.cons (.refl _) rfl (.cons (.refl _) rfl (.cons (.refl _) rfl (.cons (.refl _) rfl (.cons (.refl _) rfl (.cons (.refl _) rfl (.cons (.refl _) rfl (.nil)))))))) (.cons rfl ((by rw [overTo_no (decide_eq_false (by assumption))]; exact .refl _)) rfl rfl (.cons rfl ((by rw [overTo_no (decide_eq_false (by assumption))]; exact .refl _)) rfl rfl (.nil))) rfl rfl (fun i hi => absurd hi (Nat.not_lt_zero i))⟩)
      ·
        try simp only [Int.toNat_natCast] at h3
        refine vc_skip ?_
        refine vc_region ?_
        refine oq4 ?_
        refine oq1 ?_
        refine run_nil ?_
        first
        | (refine ⟨i + 1, by omega, by omega, ent_ren [(1, 4), (2, 5)] (.cons (.refl _) rfl (.cons (.refl _) rfl (.cons (.refl _) rfl (.cons (.refl _) rfl (.cons (.refl _) rfl (.cons (.refl _) rfl (.cons (.refl _) rfl (.nil)))))))) (.cons rfl (rowI_snoc _ _ (overTo_yes (decide_eq_true (by assumption))) (.refl _)) rfl rfl (.cons rfl (rowI_snoc _ _ (overTo_yes (decide_eq_true (by assumption))) (.refl _)) rfl rfl (.nil))) rfl rfl (fun i hi => absurd hi (Nat.not_lt_zero i))⟩)
        | (refine ⟨i + 1, by omega, by omega, ent_ren [(1, 4)] (.cons (.refl _) rfl (.cons (.refl _) rfl (.cons (.refl _) rfl (.cons (.refl _) rfl (.cons (.refl _) rfl (.cons (.refl _) rfl (.cons (.refl _) rfl (.nil)))))))) (.cons rfl (rowI_snoc _ _ (overTo_yes (decide_eq_true (by assumption))) (.refl _)) rfl rfl (.cons rfl ((by rw [overTo_no (decide_eq_false (by assumption))]; exact .refl _)) rfl rfl (.nil))) rfl rfl (fun i hi => absurd hi (Nat.not_lt_zero i))⟩)
        | (refine ⟨i + 1, by omega, by omega, ent_ren [(2, 4)] (.cons (.refl _) rfl (.cons (.refl _) rfl (.cons (.refl _) rfl (.cons (.refl _) rfl (.cons (.refl _) rfl (.cons (.refl _) rfl (.cons (.refl _) rfl (.nil)))))))) (.cons rfl ((by rw [overTo_no (decide_eq_false (by assumption))]; exact .refl _)) rfl rfl (.cons rfl (rowI_snoc _ _ (overTo_yes (decide_eq_true (by assumption))) (.refl _)) rfl rfl (.nil))) rfl rfl (fun i hi => absurd hi (Nat.not_lt_zero i))⟩)
        | (refine ⟨i + 1, by omega, by omega, ent_ren [] (.cons (.refl _) rfl (.cons (.refl _) rfl (.cons (.refl _) rfl (.cons (.refl _) rfl (.cons (.refl _) rfl (.cons (.refl _) rfl (.cons (.refl _) rfl (.nil)))))))) (.cons rfl ((by rw [overTo_no (decide_eq_false (by assumption))]; exact .refl _)) rfl rfl (.cons rfl ((by rw [overTo_no (decide_eq_false (by assumption))]; exact .refl _)) rfl rfl (.nil))) rfl rfl (fun i hi => absurd hi (Nat.not_lt_zero i))⟩)
    ·
      try simp only [Int.toNat_natCast] at h2
      refine vc_skip ?_
      refine vc_seq ?_
      refine vc_region ?_
      refine oq5 ?_
      refine oq2 ?_
      refine oq1 ?_
      refine oq6 ?_
      refine run_nil ?_
      refine vc_condP rfl (fun h4 => ?_) (fun h4 => ?_)
      ·
        try simp only [Int.toNat_natCast] at h4
        refine vc_region ?_
        refine oq1 ?_
        refine oq1 ?_
        refine run_buildSlice rfl trivial rfl rfl rfl rfl rfl rfl rfl rfl rfl ?_
        refine run_append rfl rfl rfl rfl trivial rfl rfl rfl rfl rfl rfl rfl rfl rfl rfl rfl (by first | omega | exact app_room (by omega) rfl) ?_
        refine oq1 ?_
        refine run_nil ?_
        refine vc_region ?_
        refine oq4 ?_
        refine oq1 ?_
        refine run_nil ?_
        first
        | (refine ⟨i + 1, by omega, by omega, ent_ren [(1, 4), (2, 5)] (.cons (.refl _) rfl (.cons (.refl _) rfl (.cons (.refl _) rfl (.cons (.refl _) rfl (.cons (.refl _) rfl (.cons (.refl _) rfl (.cons (.refl _) rfl (.nil)))))))) (.cons rfl (rowI_snoc _ _ (overTo_yes (decide_eq_true (by assumption))) (.refl _)) rfl rfl (.cons rfl (rowI_snoc _ _ (overTo_yes (decide_eq_true (by assumption))) (.refl _)) rfl rfl (.nil))) rfl rfl (fun i hi => absurd hi (Nat.not_lt_zero i))⟩)
        | (refine ⟨i + 1, by omega, by omega, ent_ren [(1, 4)] (.cons (.refl _) rfl (.cons (.refl _) rfl (.cons (.refl _) rfl (.cons (.refl _) rfl (.cons (.refl _) rfl (.cons (.refl _) rfl (.cons (.refl _) rfl (.nil)))))))) (.cons rfl (rowI_snoc _ _ (overTo_yes (decide_eq_true (by assumption))) (.refl _)) rfl rfl (.cons rfl ((by rw [overTo_no (decide_eq_false (by assumption))]; exact .refl _)) rfl rfl (.nil))) rfl rfl (fun i hi => absurd hi (Nat.not_lt_zero i))⟩)
        | (refine ⟨i + 1, by omega, by omega, ent_ren [(2, 4)] (.cons (.refl _) rfl (.cons (.refl _) rfl (.cons (.refl _) rfl (.cons (.refl _) rfl (.cons (.refl _) rfl (.cons (.refl _) rfl (.cons (.refl _) rfl (.nil)))))))) (.cons rfl ((by rw [overTo_no (decide_eq_false (by assumption))]; exact .refl _)) rfl rfl (.cons rfl (rowI_snoc _ _ (overTo_yes (decide_eq_true (by assumption))) (.refl _)) rfl rfl (.nil))) rfl rfl (fun i hi => absurd hi (Nat.not_lt_zero i))⟩)
        | (refine ⟨i + 1, by omega, by omega, ent_ren [] (.cons (.refl _) rfl (.cons (.refl _) rfl (.cons (.refl _) rfl (.cons (.refl _) rfl (.cons (.refl _) rfl (.cons (.refl _) rfl (.cons (.refl _) rfl (.nil)))))))) (.cons rfl ((by rw [overTo_no (decide_eq_false (by assumption))]; exact .refl _)) rfl rfl (.cons rfl ((by rw [overTo_no (decide_eq_false (by assumption))]; exact .refl _)) rfl rfl (.nil))) rfl rfl (fun i hi => absurd hi (Nat.not_lt_zero i))⟩)
      ·
        try simp only [Int.toNat_natCast] at h4
        refine vc_skip ?_
        refine vc_region ?_
        refine oq4 ?_
        refine oq1 ?_
        refine run_nil ?_
        first
        | (refine ⟨i + 1, by omega, by omega, ent_ren [(1, 4), (2, 5)] (.cons (.refl _) rfl (.cons (.refl _) rfl (.cons (.refl _) rfl (.cons (.refl _) rfl (.cons (.refl _) rfl (.cons (.refl _) rfl (.cons (.refl _) rfl (.nil)))))))) (.cons rfl (rowI_snoc _ _ (overTo_yes (decide_eq_true (by assumption))) (.refl _)) rfl rfl (.cons rfl (rowI_snoc _ _ (overTo_yes (decide_eq_true (by assumption))) (.refl _)) rfl rfl (.nil))) rfl rfl (fun i hi => absurd hi (Nat.not_lt_zero i))⟩)
        | (refine ⟨i + 1, by omega, by omega, ent_ren [(1, 4)] (.cons (.refl _) rfl (.cons (.refl _) rfl (.cons (.refl _) rfl (.cons (.refl _) rfl (.cons (.refl _) rfl (.cons (.refl _) rfl (.cons (.refl _) rfl (.nil)))))))) (.cons rfl (rowI_snoc _ _ (overTo_yes (decide_eq_true (by assumption))) (.refl _)) rfl rfl (.cons rfl ((by rw [overTo_no (decide_eq_false (by assumption))]; exact .refl _)) rfl rfl (.nil))) rfl rfl (fun i hi => absurd hi (Nat.not_lt_zero i))⟩)
        | (refine ⟨i + 1, by omega, by omega, ent_ren [(2, 4)] (.cons (.refl _) rfl (.cons (.refl _) rfl (.cons (.refl _) rfl (.cons (.refl _) rfl (.cons (.refl _) rfl (.cons (.refl _) rfl (.cons (.refl _) rfl (.nil)))))))) (.cons rfl ((by rw [overTo_no (decide_eq_false (by assumption))]; exact .refl _)) rfl rfl (.cons rfl (rowI_snoc _ _ (overTo_yes (decide_eq_true (by assumption))) (.refl _)) rfl rfl (.nil))) rfl rfl (fun i hi => absurd hi (Nat.not_lt_zero i))⟩)
        | (refine ⟨i + 1, by omega, by omega, ent_ren [] (.cons (.refl _) rfl (.cons (.refl _) rfl (.cons (.refl _) rfl (.cons (.refl _) rfl (.cons (.refl _) rfl (.cons (.refl _) rfl (.cons (.refl _) rfl (.nil)))))))) (.cons rfl ((by rw [overTo_no (decide_eq_false (by assumption))]; exact .refl _)) rfl rfl (.cons rfl ((by rw [overTo_no (decide_eq_false (by assumption))]; exact .refl _)) rfl rfl (.nil))) rfl rfl (fun i hi => absurd hi (Nat.not_lt_zero i))⟩)
  ·
    try simp only [Int.toNat_natCast] at h1
    refine vc_exit ?_
    refine vc_seq ?_
    obtain rfl : i = c.leakedA.1.length := by omega
    refine vc_ent (ent_fz 1 rfl) ?_
    refine vc_ent (ent_fz 2 rfl) ?_
    refine vc_region ?_
    refine oq1 ?_
    refine oq1 ?_
    refine oq1 ?_
    refine oq1 ?_
    refine oq1 ?_
    refine oq1 ?_
    refine run_nil ?_
    refine vc_ret ?_
    exact ret_pure rfl ⟨trivial, trivial, trivial, trivial⟩ rfl (AVle.refl _)

end Go.Proofs.Ytnkgdapdccpjmaa

/- Bounds. -/
namespace Go.Proofs.Ytnkgdapdccpjmaa
open Go Go.RowKit Go.Sx

theorem cloneR_c (l : List Rng) (hl : l.length ≤ 1000000) : CallC Try.prog 55 0 (lkF [] fun _ => none) [aRngs l] 0 (lkF [] fun _ => none) (aRngs l) := by
  refine callC_intro tabOk mixed Try.func55 rfl rfl rfl rfl ?_
  intro w0 e0 Z0 X hX n
  refine vc_seq ?_
  refine vc_region ?_
  refine oq1 ?_
  refine run_nil ?_
  refine vc_seq ?_
  refine vc_seq ?_
  refine vc_regionT ?_
  refine t1 (run_q rfl trivial rfl rfl rfl trivial (run_nil ?_))
  refine runT_nilEq rfl trivial rfl rfl rfl rfl rfl (fun h0 => ?_) ?_
  · refine runT_nil ?_
    refine vc_cond rfl (fun _ => ?_) (fun h => Bool.noConfusion h)
    refine vc_seq ?_
    refine vc_region ?_
    refine oq1 ?_
    refine run_nil ?_
    refine vc_ret ?_
    obtain rfl : l = [] := List.length_eq_zero_iff.1 h0
    exact ret_pure rfl trivial rfl (.f .nil)
  · refine runT_nil ?_
    refine vc_cond rfl (fun h => Bool.noConfusion h) (fun _ => ?_)
    refine vc_skip ?_
    refine vc_seq ?_
    refine vc_region ?_
    refine run_buildOwn rfl trivial rfl rfl rfl rfl rfl rfl rfl rfl rfl ?_
    refine oq1 ?_
    refine run_append rfl rfl rfl rfl trivial rfl rfl rfl rfl rfl rfl rfl rfl rfl rfl rfl (app_room (by omega) rfl) ?_
    refine oq1 ?_
    refine run_nil ?_
    refine vc_ent (ent_fz 1 rfl) ?_
    refine vc_ret ?_
    exact ret_pure rfl trivial rfl (.f (.sl (by simp) fun i j hi hj => .of_eq (by simp [appF])))

theorem chunk_c (l : List Rng) (n : Int) (hn : 1 ≤ n) : CallC Try.prog 54 0 (lkF [] fun _ => none) [aRngs l, aInt .i64 n] 2 (lkF [(0, some (.cells 59 [.f (rngs l)])), (1, some (.cells 3 [.f (i64 n)]))] fun _ => none) (.s (.c (.fn 94 [] [0, 1]))) := by
  refine callC_intro tabOk mixed Try.func54 rfl rfl rfl rfl ?_
  intro w0 e0 Z0 X hX n
  refine vc_seq ?_
  refine vc_region ?_
  refine run_box rfl trivial rfl rfl rfl rfl rfl rfl (by intro _ _ h; cases h <;> (intro _; rfl)) ?_
  refine run_box rfl trivial rfl rfl rfl rfl rfl rfl (by intro _ _ h; cases h <;> (intro _; rfl)) ?_
  refine oq1 ?_
  refine run_nil ?_
  refine vc_seq ?_
  refine vc_seq ?_
  refine vc_region ?_
  refine oq2 ?_
  refine oq6 ?_
  refine run_nil ?_
  refine vc_condP rfl (fun h1 => ?_) (fun h1 => ?_)
  ·
    try simp only [Int.toNat_natCast] at h1
    omega
  ·
    try simp only [Int.toNat_natCast] at h1
    refine vc_skip ?_
    refine vc_seq ?_
    refine vc_region ?_
    refine oq1 ?_
    refine oq1 ?_
    refine run_nil ?_
    refine vc_ret ?_
    exact ⟨[], _, _, rfl, trivial, AVle.refl _, rfl, .cons rfl (.refl _) rfl rfl (.cons rfl (.refl _) rfl rfl (.nil)), rfl, fun i hi => absurd hi (Nat.not_lt_zero i)⟩

def chunk (l : List Rng) (n k : Nat) : List Rng := (l.drop (k * n)).take n
def Clr.boundsB (c : Clr) : List (List Rng) × Int := if c.boundsA.2 = 0 then ((List.range c.casks.length).map (chunk c.boundsA.1 (c.moves.length + 1)), 0) else ([], c.boundsA.2)
theorem boundsA_len {c : Clr} (h : c.boundsA.2 = 0) : c.check = 0 ∧ c.boundsA.1.length = (c.moves.length + 1) * c.casks.length := by
  have h0 : c.boundsA = c.askedA fun q => c.contentsL q (c.starts q) := rfl
  rw [h0] at h ⊢
  rw [Clr.askedA] at h ⊢
  split
  · rename_i hc
    rw [if_pos hc] at h
    refine ⟨hc, ?_⟩
    cases hk : c.inM fun q => c.contentsL q (c.starts q) with
    | none => rw [hk] at h; cases h
    | some l => exact inM_len (contentsL_len c) l hk
  · rename_i hc
    rw [if_neg hc] at h
    exact absurd h hc
theorem chunk_lt {k n C : Nat} (hk : k ≤ C) (h : k * n < n * C) : k < C ∧ k * n + n ≤ n * C := by
  have h1 : k < C := by
    rcases Nat.lt_or_ge k C with h2 | h2
    · exact h2
    · obtain rfl : k = C := by omega
      rw [Nat.mul_comm] at h; omega
  have := Nat.mul_le_mul_left n (show k + 1 ≤ C from h1)
  rw [Nat.mul_succ, Nat.mul_comm n k] at this
  exact ⟨h1, this⟩
theorem chunk_end {k n C : Nat} (hk : k ≤ C) (hn : 0 < n) (h : ¬ k * n < n * C) : k = C := by
  rcases Nat.lt_or_ge k C with h2 | h2
  · have := Nat.mul_le_mul_left n (show k + 1 ≤ C from h2)
    rw [Nat.mul_succ, Nat.mul_comm n k] at this
    omega
  · omega
theorem chunk_le {l : List Rng} {n k m s : Nat} (hm : m = n) (hs : s = k * n) (h : k * n + n ≤ l.length) : FVle (.sl 2 m fun a j => rngF (l.getD (s + a) default) j) (rngs (chunk l n k)) := by
  subst hm; subst hs
  refine .sl (by simp [chunk]; omega) fun a j ha hj => .of_eq ?_
  show _ = rngF ((chunk l m k).getD a default) j
  congr 1
  simp [chunk, List.getD, List.getElem?_take, ha]
abbrev aBnd (x : List (List Rng)) (e : Int) : AV := .tup [.c (.f (rngss x)), .c (.f (i64 e))]
theorem aBnd_nil {p : List (List Rng) × Int} {a : Int} (h : p = ([], a)) : AVle (.tup [.c (.f (.lit (.slice none 0 0))), .c (.f (i64 a))]) (AV.ren (piOf []) (aBnd p.1 p.2)) := by
  subst h; exact .tup (.cons (.c (.f .nil)) (.cons (.refl _) .nil))
theorem rngssMap_le {n : Nat} {f : Nat → List Rng} : FVle (.sl 1 n fun m _ => rngs (f m)) (rngss ((List.range n).map f)) :=
  .sl (by simp) fun i j hi _ => .of_eq (by
    show rngs (f i) = rngs (((List.range n).map f).getD i [])
    rw [getD_map_range hi])

theorem chunk_min {k n L : Nat} (h : k * n + n ≤ L) : min ((n : Nat) : Int) ((((Option.getD none (L : Int)).toNat - (Option.getD (some ((k * n : Nat) : Int)) 0).toNat : Nat)) : Int) = ((n : Nat) : Int) := by
  simp only [Option.getD_some, Option.getD_none, Int.toNat_natCast]
  omega

theorem Bounds_c (c : Clr) : CallC Try.prog 14 0 (lkF [] fun _ => none) [aClr c] 0 (lkF [] fun _ => none) (aBnd c.boundsB.1 c.boundsB.2) := by
  refine callC_intro tabOk mixed Try.func14 rfl rfl rfl rfl ?_
  intro w0 e0 Z0 X hX n
  refine vc_fact 0 clr_len fun hlen => ?_
  refine vc_seq ?_
  refine vc_region ?_
  refine run_box rfl trivial rfl rfl rfl rfl rfl rfl (by intro _ _ h; cases h <;> (intro _; rfl)) ?_
  refine oq1 ?_
  refine oq1 ?_
  refine run_nil ?_
  refine vc_seq ?_
  refine vc_region ?_
  refine oq1 ?_
  refine oq2 ?_
  refine run_callP (asked_c c 52 (fun q => c.contentsL q (c.starts q)) ((c.moves.length + 1) * c.casks.length) (contentsL_len c) (fun hG => by have := Nat.mul_le_mul (show c.moves.length + 1 ≤ 5 by have := hG.moves; omega) hG.casks; omega) (fun hG q hql hq ha => contents_c c q (c.starts q) hG hq (goodE_starts hG))) rfl rfl rfl trivial rfl rfl rfl rfl ?_
  refine oq1 ?_
  refine oq1 ?_
  refine oq1 ?_
  refine oq1 ?_
  refine oq1 ?_
  refine run_nil ?_
  refine vc_seq ?_
  refine vc_seq ?_
  refine vc_region ?_
  refine oq1 ?_
  refine oq6 ?_
  refine run_nil ?_
  refine vc_condN rfl (fun h1 => ?_) (fun h1 => ?_)
  ·
    try simp only [Int.toNat_natCast] at h1
    refine vc_seq ?_
    refine vc_region ?_
    refine oq1 ?_
    refine oq1 ?_
    refine oq1 ?_
    refine run_nil ?_
    refine vc_ret ?_
    refine ret_pure rfl ⟨trivial, trivial, trivial⟩ rfl ?_
    first
    | (refine aBnd_nil ?_; rw [Clr.boundsB, if_neg (by simpa [Clr.boundsA] using ‹_›)]; rfl)
    | (have hp : c.boundsB = ((List.range c.casks.length).map (chunk c.boundsA.1 (c.moves.length + 1)), 0) := (by rw [Clr.boundsB, if_pos hb0]); rw [hp]; exact .tup (.cons (.c (.f rngssMap_le)) (.cons (.refl _) .nil)))
  ·
    try simp only [Int.toNat_natCast] at h1
    have hb0 : c.boundsA.2 = 0 := by simpa [Clr.boundsA] using h1
    obtain ⟨hchk, hbl⟩ := boundsA_len hb0
    have hG := Clr.good hchk
    have hgc := hG.casks
    have hgm := hG.moves
    have hsz : ((c.moves.length + 1) * c.casks.length) ≤ 15 := Nat.mul_le_mul (show c.moves.length + 1 ≤ 5 by omega) (show c.casks.length ≤ 3 by omega)
    refine vc_skip ?_
    refine vc_seq ?_
    refine vc_region ?_
    refine run_alloc rfl trivial rfl rfl rfl rfl (by intro _ _ h; cases h <;> (intro _; rfl)) ?_
    refine run_nil ?_
    refine vc_seq ?_
    refine vc_seq ?_
    refine vc_ent (ent_adoptC 1 0 59 1 (fun _ _ => .any) rfl rfl rfl) ?_
    refine vc_region ?_
    refine oq1 ?_
    refine oq5 ?_
    refine oq2 ?_
    refine oq1 ?_
    refine oq4 ?_
    refine run_call (chunk_c c.boundsA.1 ((c.moves.length + 1 : Nat) : Int) (by omega)) [] rfl rfl rfl trivial rfl rfl rfl rfl .nil rfl rfl rfl rfl rfl ?_
    refine run_nil ?_
    refine vc_block ?_
    refine vc_rangeFunc rfl Try.func94 rfl rfl rfl rfl (.inl rfl) ?_
    intro r wR eR ZR hXR nR hrs hrp hrps hra hrb hrt hrep hzr hagR
    obtain ⟨st, pd, fnx, tm, pr, asg, bd, df⟩ := r
    dsimp only at hrs hrp hrps hra hrb hrt hrep
    subst hrs hrp
    refine vc_seq ?_
    refine vc_region ?_
    refine oq1 ?_
    refine run_nil ?_
    refine vc_block ?_
    refine vc_loop (κ := Nat) (fun k => k ≤ c.casks.length) (fun k => ⟨[(0, yieldV (eR.b 5)), (1, .s (.c (.ptr 3 0))), (2, .s (.c (.ptr 4 0))), (4, aInt .i64 ((k * (c.moves.length + 1) : Nat) : Int))], [(0, some (.cells 41 [.f (csks c.casks), .f (movs c.moves), .f (ggs c.gauges)])), (1, some (.cells 33 [.own 6])), (3, some (.cells 59 [.f (rngs c.boundsA.1)])), (4, some (.cells 3 [.f (i64 ((c.moves.length + 1) : Nat))])), (5, some (.obj (.loop ⟨.ready, none, fnx, tm, pr, asg, bd, df⟩))), (6, some (.row 59 1 k fun a _ => rngs (chunk c.boundsA.1 (c.moves.length + 1) a)))], fun _ => none, 7⟩) (fun k => c.casks.length - k) 0 (Nat.zero_le _) ?_ ?_
    ·
      exact ent_ren [(6, 2)] (.cons (.refl _) rfl (.cons (.refl _) rfl (.cons (.refl _) rfl (.cons (.of_eq (aInt_eq (by simp))) rfl (.nil))))) (.cons rfl (.refl _) rfl rfl (.cons rfl (.refl _) rfl rfl (.cons rfl (.refl _) rfl rfl (.cons rfl (.refl _) rfl rfl (.cons rfl (.refl _) rfl rfl (.cons rfl (rowZ rfl) rfl rfl (.nil))))))) rfl rfl (fun i hi => ⟨piS rfl hi, Nat.lt_of_lt_of_le hi (Nat.le_of_ble_eq_true rfl)⟩)
    rintro k hk
    refine vc_seq ?_
    refine vc_seq ?_
    refine vc_region ?_
    refine oq1 ?_
    refine oq2 ?_
    refine oq1 ?_
    refine oq6 ?_
    refine run_nil ?_
    refine vc_condP rfl (fun h2 => ?_) (fun h2 => ?_)
    ·
      try simp only [Int.toNat_natCast] at h2
      obtain ⟨hkl, hkn⟩ := chunk_lt (k := k) (n := (c.moves.length + 1)) (C := c.casks.length) hk (by omega)
      have hkl2 : k * (c.moves.length + 1) + (c.moves.length + 1) ≤ c.boundsA.1.length := by omega
      refine vc_skip ?_
      refine vc_seq ?_
      refine vc_block ?_
      refine vc_seq ?_
      refine vc_regionD rfl ?_
      refine oq2 ?_
      refine oq2 ?_
      refine oq1 ?_
      refine run_q rfl trivial rfl rfl rfl ⟨⟨rfl, fun h => Bool.noConfusion h⟩, by (try simp only [Option.getD_some, Option.getD_none, Int.toNat_natCast]); omega, by (try simp only [Option.getD_some, Option.getD_none, Int.toNat_natCast]); omega, by (try simp only [Option.getD_some, Option.getD_none, Int.toNat_natCast]); omega, by (try simp only [Option.getD_some, Option.getD_none, Int.toNat_natCast]); omega⟩ ?_
      refine oq1 ?_
      refine run_q rfl trivial rfl rfl rfl (by first | exact rfl | exact ⟨rfl, rfl⟩) ?_
      refine oq1 ?_
      refine run_nil ⟨rfl, ?_⟩
      refine vc_ent (ent_le 5 (y := aInt .i64 ((c.moves.length + 1) : Nat)) (.of_eq (aInt_eq (chunk_min hkl2)))) ?_
      refine vc_seq ?_
      refine vc_regionT ?_
      refine t1 ?_
      refine oq1 ?_
      refine run_nil ?_
      refine t1 ?_
      refine oq2 ?_
      refine run_nil ?_
      refine t1 ?_
      refine oq1 ?_
      refine run_nil ?_
      refine t1 ?_
      refine oq1 ?_
      refine run_nil ?_
      refine t1 ?_
      refine oq1 ?_
      refine run_nil ?_
      refine t1 ?_
      refine oq4 ?_
      refine run_nil ?_
      refine t1 ?_
      refine oq1 ?_
      refine run_nil ?_
      refine t1 ?_
      refine oq1 ?_
      refine run_nil ?_
      refine t1 ?_
      refine oq4 ?_
      refine run_nil ?_
      refine t1 ?_
      refine run_qW (.s (.c (.f (rngs (chunk c.boundsA.1 (c.moves.length + 1) k))))) rfl trivial rfl rfl rfl ⟨⟨rfl, fun _ => rfl⟩, by first | omega | (simp only [Option.getD_some, Option.getD_none, Int.toNat_natCast]; omega) | simp only [Option.getD_some, Option.getD_none, Int.toNat_natCast], by first | omega | (simp only [Option.getD_some, Option.getD_none, Int.toNat_natCast]; omega) | simp only [Option.getD_some, Option.getD_none, Int.toNat_natCast], by first | omega | (simp only [Option.getD_some, Option.getD_none, Int.toNat_natCast]; omega) | simp only [Option.getD_some, Option.getD_none, Int.toNat_natCast], by first | omega | (simp only [Option.getD_some, Option.getD_none, Int.toNat_natCast]; omega) | simp only [Option.getD_some, Option.getD_none, Int.toNat_natCast]⟩ (.f (chunk_le (by first | omega | (simp only [Option.getD_some, Option.getD_none, Int.toNat_natCast]; omega) | simp only [Option.getD_some, Option.getD_none, Int.toNat_natCast]) (by first | omega | (simp only [Option.getD_some, Option.getD_none, Int.toNat_natCast]; omega) | simp only [Option.getD_some, Option.getD_none, Int.toNat_natCast]) hkl2)) ?_
      refine run_nil ?_
      subst hrps hra hrb
      refine runT_yieldN (lid := 5) hrt rfl rfl rfl trivial rfl rfl (blt_of rfl) rfl rfl rfl rfl rfl (by simp only [hrt]; rfl) hrep hzr ?_
      intro wY eY ZY hXY nY hagY
      refine vc_region ?_
      refine oq1 ?_
      refine run_nil ?_
      refine ⟨rfl, ?_⟩
      refine vc_block ?_
      refine vc_regionD rfl ?_
      refine oq2 ?_
      refine oq1 ?_
      refine run_callP (cloneR_c (chunk c.boundsA.1 (c.moves.length + 1) k) (by simp [chunk]; omega)) rfl rfl rfl trivial rfl rfl rfl rfl ?_
      refine run_buildSlice rfl trivial rfl rfl rfl rfl rfl rfl rfl rfl rfl ?_
      refine run_append rfl rfl rfl rfl trivial rfl rfl rfl rfl rfl rfl rfl rfl rfl rfl rfl (by first | omega | exact app_room (by omega) rfl) ?_
      refine Sx.run_store rfl trivial rfl rfl rfl rfl rfl rfl rfl ?_
      refine run_nil ⟨rfl, ?_⟩
      refine ⟨rfl, ?_⟩
      refine t1 ?_
      refine oq1 ?_
      refine run_nil ?_
      refine runT_nil ?_
      refine vc_cond rfl (fun h => Bool.noConfusion h) (fun _ => ?_)
      refine vc_skip ?_
      refine vc_region ?_
      refine oq1 ?_
      refine oq2 ?_
      refine oq4 ?_
      refine oq1 ?_
      refine run_nil ?_
      refine ⟨k + 1, by omega, by omega, ent_ren [(6, 7)] (.cons (.refl _) rfl (.cons (.refl _) rfl (.cons (.refl _) rfl (.cons (.of_eq (aInt_eq (by rw [Nat.succ_mul]; push_cast; omega))) rfl (.nil))))) (.cons rfl (.refl _) rfl rfl (.cons rfl (.refl _) rfl rfl (.cons rfl (.refl _) rfl rfl (.cons rfl (.refl _) rfl rfl (.cons rfl (.refl _) rfl rfl (.cons rfl (rowX_snoc (F := fun a => rngs (chunk c.boundsA.1 (c.moves.length + 1) a)) (.refl _)) rfl rfl (.nil))))))) rfl rfl (fun i hi => ⟨piS rfl hi, Nat.lt_of_lt_of_le hi (Nat.le_of_ble_eq_true rfl)⟩)⟩
    ·
      try simp only [Int.toNat_natCast] at h2
      refine vc_exit ?_
      refine ⟨_, rfl, (by intro h; cases h), ?_⟩
      refine vc_seq ?_
      obtain rfl : k = c.casks.length := chunk_end (n := c.moves.length + 1) hk (by omega) (by omega)
      refine vc_ent (ent_fz 6 rfl) ?_
      refine vc_region ?_
      refine oq2 ?_
      refine oq1 ?_
      refine oq1 ?_
      refine run_nil ?_
      refine vc_ret ?_
      refine ret_pure rfl ⟨trivial, trivial, trivial⟩ rfl ?_
      first
      | (refine aBnd_nil ?_; rw [Clr.boundsB, if_neg (by simpa [Clr.boundsA] using ‹_›)]; rfl)
      | (have hp : c.boundsB = ((List.range c.casks.length).map (chunk c.boundsA.1 (c.moves.length + 1)), 0) := (by rw [Clr.boundsB, if_pos hb0]); rw [hp]; exact .tup (.cons (.c (.f rngssMap_le)) (.cons (.refl _) .nil)))

end Go.Proofs.Ytnkgdapdccpjmaa

/- The chapter's examples. -/
namespace Go.Proofs.Ytnkgdapdccpjmaa
open Go Go.RowKit Go.Sx

/-- The chapter's cellar. -/
def two (more : List Gg) : Clr := ⟨[⟨[⟨0, 0⟩, ⟨10, 100⟩, ⟨20, 180⟩], ⟨150, 160⟩, ⟨0, 1⟩⟩, ⟨[⟨0, 0⟩, ⟨20, 200⟩], ⟨0, 0⟩, ⟨0, 0⟩⟩], [⟨0, 1, ⟨40, 42⟩⟩], [⟨0, 0, ⟨16, 17⟩, false⟩, ⟨1, 1, ⟨16, 16⟩, true⟩] ++ more⟩
def lowG : Gg := ⟨0, 1, ⟨10, 10⟩, false⟩
def awTru : Tru := ⟨[150, 0], [1, 0], [40]⟩
theorem aw1 : (two []).contentA 0 17 = (156, 0) := by decide +kernel
theorem aw2 : (two []).dipA 0 155 = (16, 0) := by decide +kernel
theorem aw3 : (two []).meanA 1 = (⟨40, 40⟩, 0) := by decide +kernel
theorem aw4 : (two []).playA awTru = ([[150, 109], [0, 40]], 0) := by decide +kernel
theorem aw5 : (two []).boundsB = ([[⟨150, 156⟩, ⟨109, 116⟩], [⟨0, 0⟩, ⟨40, 40⟩]], 0) := by decide +kernel
theorem aw6 : (two []).leakedA = ([⟨0, 1⟩, ⟨0, 0⟩], 0) := by decide +kernel
theorem aw7 : (two []).overA 0 = ([], [0], 0) := by decide +kernel
theorem aw8 : (two [lowG]).firstA = (2, 0) := by decide +kernel
theorem aw9 : (two [lowG]).leaveA = ([2], 0) := by decide +kernel

theorem two_app (more : List Gg) : FVle (.sl 5 (2 + more.length) (appF 2 (fun i j => [FV.int .i64 0, FV.int .i64 0, FV.int .i64 16, FV.int .i64 17, FV.bool false, FV.int .i64 1, FV.int .i64 1, FV.int .i64 16, FV.int .i64 16, FV.bool true].getD (i * 5 + j) .any) fun i j => ggF (more.getD i default) j)) (ggs (([⟨0, 0, ⟨16, 17⟩, false⟩, ⟨1, 1, ⟨16, 16⟩, true⟩] : List Gg) ++ more)) := by
  refine .sl (by simp; omega) fun i j hi hj => .of_eq ?_
  show _ = ggF ((([⟨0, 0, ⟨16, 17⟩, false⟩, ⟨1, 1, ⟨16, 16⟩, true⟩] : List Gg) ++ more).getD i default) j
  match i, j, hj with
  | 0, 0, _ => rfl
  | 0, 1, _ => rfl
  | 0, 2, _ => rfl
  | 0, 3, _ => rfl
  | 0, 4, _ => rfl
  | 1, 0, _ => rfl
  | 1, 1, _ => rfl
  | 1, 2, _ => rfl
  | 1, 3, _ => rfl
  | 1, 4, _ => rfl
  | i + 2, j, hj =>
    simp only [appF, show ¬ i + 2 < 2 by omega, if_false]
    rfl

theorem two_c (more : List Gg) (ao : AV) (hao : AVle ao (.s (.c (.f (ggs more))))) (hm : more.length ≤ 1000) : CallC Try.prog 44 0 (lkF [] fun _ => none) [ao] 0 (lkF [] fun _ => none) (aClr (two more)) := by
  refine callC_intro tabOk mixed Try.func44 rfl rfl rfl rfl ?_
  intro w0 e0 Z0 X hX n
  refine vc_ent (ent_le 0 hao) ?_
  refine vc_seq ?_
  refine vc_region ?_
  refine run_alloc rfl trivial rfl rfl rfl rfl (by intro _ _ h; cases h <;> (intro _; rfl)) ?_
  refine run_nil ?_
  refine vc_seq ?_
  refine vc_region ?_
  refine oq1 ?_
  refine oq1 ?_
  refine oq1 ?_
  refine run_buildSliceW (mks ([⟨0, 0⟩, ⟨10, 100⟩, ⟨20, 180⟩] : List Mk)) rfl trivial rfl rfl rfl rfl rfl rfl rfl rfl rfl (encL_lit (k := 2) (g := mkF) (d := default) ([⟨0, 0⟩, ⟨10, 100⟩, ⟨20, 180⟩] : List Mk)) ?_
  refine run_callP (between_c _ _) rfl rfl rfl trivial rfl rfl rfl rfl ?_
  refine run_callP (between_c _ _) rfl rfl rfl trivial rfl rfl rfl rfl ?_
  refine oq1 ?_
  refine oq1 ?_
  refine oq1 ?_
  refine run_buildSliceW (mks ([⟨0, 0⟩, ⟨20, 200⟩] : List Mk)) rfl trivial rfl rfl rfl rfl rfl rfl rfl rfl rfl (encL_lit (k := 2) (g := mkF) (d := default) ([⟨0, 0⟩, ⟨20, 200⟩] : List Mk)) ?_
  refine oq1 ?_
  refine run_buildSliceW (csks ([⟨[⟨0, 0⟩, ⟨10, 100⟩, ⟨20, 180⟩], ⟨150, 160⟩, ⟨0, 1⟩⟩, ⟨[⟨0, 0⟩, ⟨20, 200⟩], ⟨0, 0⟩, ⟨0, 0⟩⟩] : List Csk)) rfl trivial rfl rfl rfl rfl rfl rfl rfl rfl rfl (encL_lit (k := 5) (g := cskF) (d := default) ([⟨[⟨0, 0⟩, ⟨10, 100⟩, ⟨20, 180⟩], ⟨150, 160⟩, ⟨0, 1⟩⟩, ⟨[⟨0, 0⟩, ⟨20, 200⟩], ⟨0, 0⟩, ⟨0, 0⟩⟩] : List Csk)) ?_
  refine run_callP (between_c _ _) rfl rfl rfl trivial rfl rfl rfl rfl ?_
  refine oq1 ?_
  refine run_buildSliceW (movs ([⟨0, 1, ⟨40, 42⟩⟩] : List Mov)) rfl trivial rfl rfl rfl rfl rfl rfl rfl rfl rfl (encL_lit (k := 4) (g := movF) (d := default) ([⟨0, 1, ⟨40, 42⟩⟩] : List Mov)) ?_
  refine run_callP (between_c _ _) rfl rfl rfl trivial rfl rfl rfl rfl ?_
  refine oq1 ?_
  refine run_callP (between_c _ _) rfl rfl rfl trivial rfl rfl rfl rfl ?_
  refine oq1 ?_
  refine run_buildOwn rfl trivial rfl rfl rfl rfl rfl rfl rfl rfl rfl ?_
  refine oq1 ?_
  refine run_appendFz (ggs (([⟨0, 0, ⟨16, 17⟩, false⟩, ⟨1, 1, ⟨16, 16⟩, true⟩] : List Gg) ++ more)) rfl rfl rfl rfl trivial rfl rfl rfl rfl rfl rfl rfl rfl rfl rfl rfl (app_room (by omega) rfl) (two_app more) ?_
  refine oq1 ?_
  refine Sx.run_store rfl trivial rfl rfl rfl rfl rfl rfl rfl ?_
  refine run_nil ?_
  refine vc_ret ?_
  exact ret_pure rfl (Nat.le_of_ble_eq_true rfl) rfl (AVle.refl _)

set_option maxRecDepth 100000 in
theorem awake_c  : CallC Try.prog 13 0 (lkF [] fun _ => none) [] 0 (lkF [] fun _ => none) (aBool true) := by
  refine callC_intro tabOk mixed Try.func13 rfl rfl rfl rfl ?_
  intro w0 e0 Z0 X hX n
  refine vc_seq ?_
  refine vc_region ?_
  refine oq1 ?_
  refine run_nil ?_
  refine vc_seq ?_
  refine vc_region ?_
  refine run_callP (two_c [] _ (.f .nil) (by decide)) rfl rfl rfl trivial rfl rfl rfl rfl ?_
  refine run_callP (by have h := Content_A (two []) 0 17; rw [aw1] at h; exact h) rfl rfl rfl trivial rfl rfl rfl rfl ?_
  refine oq1 ?_
  refine oq1 ?_
  refine oq1 ?_
  refine oq1 ?_
  refine oq1 ?_
  refine run_nil ?_
  refine vc_seq ?_
  refine vc_region ?_
  refine run_callP (two_c [] _ (.f .nil) (by decide)) rfl rfl rfl trivial rfl rfl rfl rfl ?_
  refine run_callP (by have h := Dip_A (two []) 0 155; rw [aw2] at h; exact h) rfl rfl rfl trivial rfl rfl rfl rfl ?_
  refine oq1 ?_
  refine oq1 ?_
  refine oq1 ?_
  refine oq1 ?_
  refine oq1 ?_
  refine run_nil ?_
  refine vc_seq ?_
  refine vc_region ?_
  refine run_callP (two_c [] _ (.f .nil) (by decide)) rfl rfl rfl trivial rfl rfl rfl rfl ?_
  refine run_callP (by have h := Mean_A (two []) 1; rw [aw3] at h; exact h) rfl rfl rfl trivial rfl rfl rfl rfl ?_
  refine oq1 ?_
  refine oq1 ?_
  refine oq1 ?_
  refine run_alloc rfl trivial rfl rfl rfl rfl (by intro _ _ h; cases h <;> (intro _; rfl)) ?_
  refine Sx.run_store rfl trivial rfl rfl rfl rfl rfl rfl rfl ?_
  refine oq1 ?_
  refine run_nil ?_
  refine vc_seq ?_
  refine vc_region ?_
  refine run_callP (two_c [] _ (.f .nil) (by decide)) rfl rfl rfl trivial rfl rfl rfl rfl ?_
  refine run_buildSliceW (ints ([150, 0] : List Int)) rfl trivial rfl rfl rfl rfl rfl rfl rfl rfl rfl (encL_lit (k := 1) (g := fun n _ => i64 n) (d := 0) ([150, 0] : List Int)) ?_
  refine run_buildSliceW (ints ([1, 0] : List Int)) rfl trivial rfl rfl rfl rfl rfl rfl rfl rfl rfl (encL_lit (k := 1) (g := fun n _ => i64 n) (d := 0) ([1, 0] : List Int)) ?_
  refine run_buildSliceW (ints ([40] : List Int)) rfl trivial rfl rfl rfl rfl rfl rfl rfl rfl rfl (encL_lit (k := 1) (g := fun n _ => i64 n) (d := 0) ([40] : List Int)) ?_
  refine oq1 ?_
  refine run_callP (by have h := Play_c (two []) awTru; rw [aw4] at h; exact h) rfl rfl rfl trivial rfl rfl rfl rfl ?_
  refine oq1 ?_
  refine oq1 ?_
  refine oq1 ?_
  refine oq1 ?_
  refine oq1 ?_
  refine run_nil ?_
  refine vc_seq ?_
  refine vc_region ?_
  refine run_callP (two_c [] _ (.f .nil) (by decide)) rfl rfl rfl trivial rfl rfl rfl rfl ?_
  refine run_callP (by have h := Bounds_c (two []); rw [aw5] at h; exact h) rfl rfl rfl trivial rfl rfl rfl rfl ?_
  refine oq1 ?_
  refine oq1 ?_
  refine oq1 ?_
  refine oq1 ?_
  refine oq1 ?_
  refine run_nil ?_
  refine vc_seq ?_
  refine vc_region ?_
  refine run_callP (two_c [] _ (.f .nil) (by decide)) rfl rfl rfl trivial rfl rfl rfl rfl ?_
  refine run_callP (by have h := Leaked_c (two []); rw [aw6] at h; exact h) rfl rfl rfl trivial rfl rfl rfl rfl ?_
  refine oq1 ?_
  refine oq1 ?_
  refine oq1 ?_
  refine oq1 ?_
  refine oq1 ?_
  refine run_nil ?_
  refine vc_seq ?_
  refine vc_region ?_
  refine run_callP (two_c [] _ (.f .nil) (by decide)) rfl rfl rfl trivial rfl rfl rfl rfl ?_
  refine run_callP (by have h := Over_c (two []) 0; rw [aw7] at h; exact h) rfl rfl rfl trivial rfl rfl rfl rfl ?_
  refine oq1 ?_
  refine oq1 ?_
  refine oq1 ?_
  refine oq1 ?_
  refine oq1 ?_
  refine oq1 ?_
  refine oq1 ?_
  refine run_nil ?_
  refine vc_seq ?_
  refine vc_region ?_
  refine run_callP low_c rfl rfl rfl trivial rfl rfl rfl rfl ?_
  refine run_buildSliceW (ggs ([lowG] : List Gg)) rfl trivial rfl rfl rfl rfl rfl rfl rfl rfl rfl (encL_lit (k := 5) (g := ggF) (d := default) ([lowG] : List Gg)) ?_
  refine run_callP (two_c [lowG] _ (.refl _) (by decide)) rfl rfl rfl trivial rfl rfl rfl rfl ?_
  refine run_callP (by have h := First_c (two [lowG]); rw [aw8] at h; exact h) rfl rfl rfl trivial rfl rfl rfl rfl ?_
  refine oq1 ?_
  refine oq1 ?_
  refine oq1 ?_
  refine oq1 ?_
  refine oq1 ?_
  refine run_nil ?_
  refine vc_seq ?_
  refine vc_region ?_
  refine run_callP low_c rfl rfl rfl trivial rfl rfl rfl rfl ?_
  refine run_buildSliceW (ggs ([lowG] : List Gg)) rfl trivial rfl rfl rfl rfl rfl rfl rfl rfl rfl (encL_lit (k := 5) (g := ggF) (d := default) ([lowG] : List Gg)) ?_
  refine run_callP (two_c [lowG] _ (.refl _) (by decide)) rfl rfl rfl trivial rfl rfl rfl rfl ?_
  refine run_callP (by have h := Leave_c (two [lowG]); rw [aw9] at h; exact h) rfl rfl rfl trivial rfl rfl rfl rfl ?_
  refine oq1 ?_
  refine oq1 ?_
  refine oq1 ?_
  refine oq1 ?_
  refine oq1 ?_
  refine run_nil ?_
  refine vc_seq ?_
  refine vc_regionD (by kernel_rfl) ?_
  refine oq1 ?_
  refine oq6 ?_
  refine oq1 ?_
  refine run_splitP 76 rfl (fun h1 => ?_) (fun h1 => ?_)
  ·
    try simp only [Int.toNat_natCast] at h1
    refine oq1 ?_
    refine oq6 ?_
    refine oq1 ?_
    refine oq1 ?_
    refine run_splitP 80 rfl (fun h2 => ?_) (fun h2 => ?_)
    ·
      try simp only [Int.toNat_natCast] at h2
      refine oq1 ?_
      refine oq6 ?_
      refine oq1 ?_
      refine oq1 ?_
      refine run_splitP 84 rfl (fun h3 => ?_) (fun h3 => ?_)
      ·
        try simp only [Int.toNat_natCast] at h3
        refine oq1 ?_
        refine oq6 ?_
        refine oq1 ?_
        refine oq1 ?_
        refine run_splitP 88 rfl (fun h4 => ?_) (fun h4 => ?_)
        ·
          try simp only [Int.toNat_natCast] at h4
          refine oq1 ?_
          refine oq6 ?_
          refine oq1 ?_
          refine oq1 ?_
          refine run_splitP 92 rfl (fun h5 => ?_) (fun h5 => ?_)
          ·
            try simp only [Int.toNat_natCast] at h5
            refine oq2 ?_
            refine run_callP (between_c _ _) rfl rfl rfl rfl rfl rfl rfl rfl ?_
            refine run_eqS false tabEq rfl rfl rfl rfl rfl rfl rfl rfl rfl ?_
            refine oq1 ?_
            refine oq1 ?_
            refine run_split 97 rfl (fun h6 => ?_) (fun h6 => ?_)
            ·
              try simp only [Int.toNat_natCast] at h6
              refine oq1 ?_
              refine oq6 ?_
              refine oq1 ?_
              refine oq1 ?_
              refine run_splitP 101 rfl (fun h7 => ?_) (fun h7 => ?_)
              ·
                try simp only [Int.toNat_natCast] at h7
                refine oq1 ?_
                refine oq1 ?_
                refine oq6 ?_
                refine oq1 ?_
                refine oq1 ?_
                refine run_splitP 106 rfl (fun h8 => ?_) (fun h8 => ?_)
                ·
                  try simp only [Int.toNat_natCast] at h8
                  refine oq1 ?_
                  refine oq3 ?_
                  refine oq2 ?_
                  refine run_buildSliceW (ints ([150, 109] : List Int)) rfl rfl rfl rfl rfl rfl rfl rfl rfl rfl rfl (encL_lit (k := 1) (g := fun n _ => i64 n) (d := 0) ([150, 109] : List Int)) ?_
                  refine run_callP (ints_c _ _) rfl rfl rfl rfl rfl rfl rfl rfl ?_
                  refine oq1 ?_
                  refine oq1 ?_
                  refine run_split 113 rfl (fun h9 => ?_) (fun h9 => ?_)
                  ·
                    try simp only [Int.toNat_natCast] at h9
                    refine oq1 ?_
                    refine oq3 ?_
                    refine oq2 ?_
                    refine run_buildSliceW (ints ([0, 40] : List Int)) rfl rfl rfl rfl rfl rfl rfl rfl rfl rfl rfl (encL_lit (k := 1) (g := fun n _ => i64 n) (d := 0) ([0, 40] : List Int)) ?_
                    refine run_callP (ints_c _ _) rfl rfl rfl rfl rfl rfl rfl rfl ?_
                    refine oq1 ?_
                    refine oq1 ?_
                    refine run_split 120 rfl (fun h10 => ?_) (fun h10 => ?_)
                    ·
                      try simp only [Int.toNat_natCast] at h10
                      refine oq1 ?_
                      refine oq6 ?_
                      refine oq1 ?_
                      refine oq1 ?_
                      refine run_splitP 124 rfl (fun h11 => ?_) (fun h11 => ?_)
                      ·
                        try simp only [Int.toNat_natCast] at h11
                        refine oq1 ?_
                        refine oq1 ?_
                        refine oq6 ?_
                        refine oq1 ?_
                        refine oq1 ?_
                        refine run_splitP 129 rfl (fun h12 => ?_) (fun h12 => ?_)
                        ·
                          try simp only [Int.toNat_natCast] at h12
                          refine oq1 ?_
                          refine oq3 ?_
                          refine oq2 ?_
                          refine run_callP (between_c _ _) rfl rfl rfl rfl rfl rfl rfl rfl ?_
                          refine run_callP (between_c _ _) rfl rfl rfl rfl rfl rfl rfl rfl ?_
                          refine run_buildSliceW (rngs ([⟨150, 156⟩, ⟨109, 116⟩] : List Rng)) rfl rfl rfl rfl rfl rfl rfl rfl rfl rfl rfl (encL_lit (k := 2) (g := rngF) (d := default) ([⟨150, 156⟩, ⟨109, 116⟩] : List Rng)) ?_
                          refine run_callP (spans_c _ _) rfl rfl rfl rfl rfl rfl rfl rfl ?_
                          refine oq1 ?_
                          refine oq1 ?_
                          refine run_split 138 rfl (fun h13 => ?_) (fun h13 => ?_)
                          ·
                            try simp only [Int.toNat_natCast] at h13
                            refine oq1 ?_
                            refine oq3 ?_
                            refine oq2 ?_
                            refine run_callP (between_c _ _) rfl rfl rfl rfl rfl rfl rfl rfl ?_
                            refine run_callP (between_c _ _) rfl rfl rfl rfl rfl rfl rfl rfl ?_
                            refine run_buildSliceW (rngs ([⟨0, 0⟩, ⟨40, 40⟩] : List Rng)) rfl rfl rfl rfl rfl rfl rfl rfl rfl rfl rfl (encL_lit (k := 2) (g := rngF) (d := default) ([⟨0, 0⟩, ⟨40, 40⟩] : List Rng)) ?_
                            refine run_callP (spans_c _ _) rfl rfl rfl rfl rfl rfl rfl rfl ?_
                            refine oq1 ?_
                            refine oq1 ?_
                            refine run_split 147 rfl (fun h14 => ?_) (fun h14 => ?_)
                            ·
                              try simp only [Int.toNat_natCast] at h14
                              refine oq1 ?_
                              refine oq6 ?_
                              refine oq1 ?_
                              refine oq1 ?_
                              refine run_splitP 151 rfl (fun h15 => ?_) (fun h15 => ?_)
                              ·
                                try simp only [Int.toNat_natCast] at h15
                                refine oq1 ?_
                                refine run_callP (between_c _ _) rfl rfl rfl rfl rfl rfl rfl rfl ?_
                                refine run_callP (between_c _ _) rfl rfl rfl rfl rfl rfl rfl rfl ?_
                                refine run_buildSliceW (rngs ([⟨0, 1⟩, ⟨0, 0⟩] : List Rng)) rfl rfl rfl rfl rfl rfl rfl rfl rfl rfl rfl (encL_lit (k := 2) (g := rngF) (d := default) ([⟨0, 1⟩, ⟨0, 0⟩] : List Rng)) ?_
                                refine run_callP (spans_c _ _) rfl rfl rfl rfl rfl rfl rfl rfl ?_
                                refine oq1 ?_
                                refine oq1 ?_
                                refine run_split 158 rfl (fun h16 => ?_) (fun h16 => ?_)
                                ·
                                  try simp only [Int.toNat_natCast] at h16
                                  refine oq1 ?_
                                  refine oq6 ?_
                                  refine oq1 ?_
                                  refine oq1 ?_
                                  refine run_splitP 162 rfl (fun h17 => ?_) (fun h17 => ?_)
                                  ·
                                    try simp only [Int.toNat_natCast] at h17
                                    refine oq1 ?_
                                    refine oq1 ?_
                                    refine oq6 ?_
                                    refine oq1 ?_
                                    refine oq1 ?_
                                    refine run_splitP 167 rfl (fun h18 => ?_) (fun h18 => ?_)
                                    ·
                                      try simp only [Int.toNat_natCast] at h18
                                      refine oq1 ?_
                                      refine run_buildSliceW (ints ([0] : List Int)) rfl rfl rfl rfl rfl rfl rfl rfl rfl rfl rfl (encL_lit (k := 1) (g := fun n _ => i64 n) (d := 0) ([0] : List Int)) ?_
                                      refine run_callP (ints_c _ _) rfl rfl rfl rfl rfl rfl rfl rfl ?_
                                      refine oq1 ?_
                                      refine oq1 ?_
                                      refine run_split 172 rfl (fun h19 => ?_) (fun h19 => ?_)
                                      ·
                                        try simp only [Int.toNat_natCast] at h19
                                        refine oq1 ?_
                                        refine oq6 ?_
                                        refine oq1 ?_
                                        refine oq1 ?_
                                        refine run_splitP 176 rfl (fun h20 => ?_) (fun h20 => ?_)
                                        ·
                                          try simp only [Int.toNat_natCast] at h20
                                          refine oq1 ?_
                                          refine oq6 ?_
                                          refine oq1 ?_
                                          refine oq1 ?_
                                          refine run_splitP 180 rfl (fun h21 => ?_) (fun h21 => ?_)
                                          ·
                                            try simp only [Int.toNat_natCast] at h21
                                            refine oq1 ?_
                                            refine oq6 ?_
                                            refine oq1 ?_
                                            refine oq1 ?_
                                            refine run_splitP 184 rfl (fun h22 => ?_) (fun h22 => ?_)
                                            ·
                                              try simp only [Int.toNat_natCast] at h22
                                              refine oq1 ?_
                                              refine run_buildSliceW (ints ([2] : List Int)) rfl rfl rfl rfl rfl rfl rfl rfl rfl rfl rfl (encL_lit (k := 1) (g := fun n _ => i64 n) (d := 0) ([2] : List Int)) ?_
                                              refine run_callP (ints_c _ _) rfl rfl rfl rfl rfl rfl rfl rfl ?_
                                              refine oq1 ?_
                                              refine oq1 ?_
                                              refine run_nil ⟨by kernel_rfl, ?_⟩
                                              refine vc_ret ?_
                                              refine ret_pure rfl trivial rfl (AVle.of_eq ?_)
                                              refine aBool_eq ?_
                                              decide +kernel
                                            ·
                                              try simp only [Int.toNat_natCast] at h22
                                              exact absurd (by decide) h22
                                          ·
                                            try simp only [Int.toNat_natCast] at h21
                                            exact absurd (by decide) h21
                                        ·
                                          try simp only [Int.toNat_natCast] at h20
                                          exact absurd (by decide) h20
                                      ·
                                        try simp only [Int.toNat_natCast] at h19
                                        exact absurd h19 (by decide +kernel)
                                    ·
                                      try simp only [Int.toNat_natCast] at h18
                                      exact absurd (by decide) h18
                                  ·
                                    try simp only [Int.toNat_natCast] at h17
                                    exact absurd (by decide) h17
                                ·
                                  try simp only [Int.toNat_natCast] at h16
                                  exact absurd h16 (by decide +kernel)
                              ·
                                try simp only [Int.toNat_natCast] at h15
                                exact absurd (by decide) h15
                            ·
                              try simp only [Int.toNat_natCast] at h14
                              exact absurd h14 (by decide +kernel)
                          ·
                            try simp only [Int.toNat_natCast] at h13
                            exact absurd h13 (by decide +kernel)
                        ·
                          try simp only [Int.toNat_natCast] at h12
                          exact absurd (by decide) h12
                      ·
                        try simp only [Int.toNat_natCast] at h11
                        exact absurd (by decide) h11
                    ·
                      try simp only [Int.toNat_natCast] at h10
                      exact absurd h10 (by decide +kernel)
                  ·
                    try simp only [Int.toNat_natCast] at h9
                    exact absurd h9 (by decide +kernel)
                ·
                  try simp only [Int.toNat_natCast] at h8
                  exact absurd (by decide) h8
              ·
                try simp only [Int.toNat_natCast] at h7
                exact absurd (by decide) h7
            ·
              try simp only [Int.toNat_natCast] at h6
              exact absurd h6 (by decide +kernel)
          ·
            try simp only [Int.toNat_natCast] at h5
            exact absurd (by decide) h5
        ·
          try simp only [Int.toNat_natCast] at h4
          exact absurd (by decide) h4
      ·
        try simp only [Int.toNat_natCast] at h3
        exact absurd (by decide) h3
    ·
      try simp only [Int.toNat_natCast] at h2
      exact absurd (by decide) h2
  ·
    try simp only [Int.toNat_natCast] at h1
    exact absurd (by decide) h1

end Go.Proofs.Ytnkgdapdccpjmaa

/- How the statement's arguments read. -/
namespace Go.Proofs.Ytnkgdapdccpjmaa
open Go Go.RowKit Go.Sx Go.ChangeShapes Go.WideShapes Go.ChangeAt

theorem own : ownKnob Try.prog.godebug = none := by kernel_rfl
theorem laid : laidOutB Try.prog = true := by kernel_rfl

section
variable {H : Type} {enc : TypeId × Value → H} {w : World}

def inI (k : IntKind) (n : Int) : Prop := k.min ≤ n ∧ n ≤ k.max
def anyD {β : Type} (_ : β) (_ : DataW H) : Prop := True

theorem rd_i64 : Rd enc Try.prog w 3 1 (fun (y : Int) _ => i64 y) (fun y _ => inI .i64 y) := rd_int (by kernel_rfl)
theorem rd_rng (t : TypeId) (ht : Try.prog.underlying t = some (.struct #[{ name := "Lo", type := 3, offset := 0, embedded := false, tag := "", pkgPath := "", byteOffset := 0 }, { name := "Hi", type := 3, offset := 1, embedded := false, tag := "", pkgPath := "", byteOffset := 8 }])) (hc : Try.prog.cellsOf t = 2) :
    Rd enc Try.prog w t 2 rngF anyD :=
  Rd.map (rd_struct2 (k0 := 1) (k1 := 1) ht hc rfl rfl (by kernel_rfl) (by kernel_rfl) rd_i64 rd_i64) (fun y => ⟨y.1, y.2⟩) (fun y j hj => match j, hj with | 0, _ => rfl | 1, _ => rfl) (fun _ _ _ => trivial)
theorem rd_28 : Rd enc Try.prog w 28 2 rngF anyD := rd_rng 28 (by kernel_rfl) (by kernel_rfl)
theorem rd_mk : Rd enc Try.prog w 124 2 mkF anyD :=
  Rd.map (rd_struct2 (t := 124) (f0 := { name := "Dip", type := 3, offset := 0, embedded := false, tag := "", pkgPath := "", byteOffset := 0 }) (f1 := { name := "Content", type := 3, offset := 1, embedded := false, tag := "", pkgPath := "", byteOffset := 8 }) (k0 := 1) (k1 := 1) (by kernel_rfl) (by kernel_rfl) rfl rfl (by kernel_rfl) (by kernel_rfl) rd_i64 rd_i64)
    (fun y => ⟨y.1, y.2⟩) (fun y j hj => match j, hj with | 0, _ => rfl | 1, _ => rfl) (fun _ _ _ => trivial)
theorem rd_mks : Rd enc Try.prog w 49 1 (fun (l : List Mk) _ => mks l) anyD :=
  Rd.map (rd_slice (e := 124) default (by kernel_rfl) (by kernel_rfl) (by decide) rd_mk) (fun y => y) (fun _ _ _ => rfl) (fun _ _ _ => trivial)
theorem rd_csk : Rd enc Try.prog w 51 5 cskF anyD :=
  Rd.map (rd_struct3 (t := 51) (f0 := { name := "Marks", type := 49, offset := 0, embedded := false, tag := "", pkgPath := "", byteOffset := 0 }) (f1 := { name := "Start", type := 28, offset := 1, embedded := false, tag := "", pkgPath := "", byteOffset := 24 }) (f2 := { name := "Leak", type := 28, offset := 3, embedded := false, tag := "", pkgPath := "", byteOffset := 40 }) (k0 := 1) (k1 := 2) (k2 := 2) (by kernel_rfl) (by kernel_rfl) rfl rfl rfl (by kernel_rfl) (by kernel_rfl) (by kernel_rfl) rd_mks rd_28 rd_28)
    (fun y => ⟨y.1, y.2.1, y.2.2⟩) (fun y j hj => match j, hj with | 0, _ => rfl | 1, _ => rfl | 2, _ => rfl | 3, _ => rfl | 4, _ => rfl) (fun _ _ _ => trivial)
theorem rd_mov : Rd enc Try.prog w 55 4 movF anyD :=
  Rd.map (rd_struct3 (t := 55) (f0 := { name := "From", type := 3, offset := 0, embedded := false, tag := "", pkgPath := "", byteOffset := 0 }) (f1 := { name := "To", type := 3, offset := 1, embedded := false, tag := "", pkgPath := "", byteOffset := 8 }) (f2 := { name := "Quantity", type := 28, offset := 2, embedded := false, tag := "", pkgPath := "", byteOffset := 16 }) (k0 := 1) (k1 := 1) (k2 := 2) (by kernel_rfl) (by kernel_rfl) rfl rfl rfl (by kernel_rfl) (by kernel_rfl) (by kernel_rfl) rd_i64 rd_i64 rd_28)
    (fun y => ⟨y.1, y.2.1, y.2.2⟩) (fun y j hj => match j, hj with | 0, _ => rfl | 1, _ => rfl | 2, _ => rfl | 3, _ => rfl) (fun _ _ _ => trivial)
/-- A gauge: its numbers are ints. -/
def ggIn (g : Gg) : Prop := inI .i64 g.cask ∧ inI .i64 g.after
theorem rd_gg : Rd enc Try.prog w 30 5 ggF (fun g _ => ggIn g) :=
  Rd.map (rd_struct4 (t := 30) (f0 := { name := "Cask", type := 3, offset := 0, embedded := false, tag := "", pkgPath := "", byteOffset := 0 }) (f1 := { name := "After", type := 3, offset := 1, embedded := false, tag := "", pkgPath := "", byteOffset := 8 }) (f2 := { name := "Dip", type := 28, offset := 2, embedded := false, tag := "", pkgPath := "", byteOffset := 16 }) (f3 := { name := "Dry", type := 4, offset := 4, embedded := false, tag := "", pkgPath := "", byteOffset := 32 }) (k0 := 1) (k1 := 1) (k2 := 2) (k3 := 1) (by kernel_rfl) (by kernel_rfl) rfl rfl rfl rfl (by kernel_rfl) (by kernel_rfl) (by kernel_rfl) (by kernel_rfl) rd_i64 rd_i64 rd_28 (rd_bool (by kernel_rfl)))
    (fun y => ⟨y.1, y.2.1, y.2.2.1, y.2.2.2⟩) (fun y j hj => match j, hj with | 0, _ => rfl | 1, _ => rfl | 2, _ => rfl | 3, _ => rfl | 4, _ => rfl) (fun _ _ h => by obtain ⟨_, _, _, _, _, h0, h1, _⟩ := h; exact ⟨h0, h1⟩)
/-- What the reading tells of a cellar's gauges. -/
def ggsD (l : List Gg) (d : DataW H) : Prop := (l = [] ∧ d = .nil) ∨ ∃ es sp, d = .slice es sp ∧ es.length = l.length
def clrD (c : Clr) (d : DataW H) : Prop := ∃ d0 d1 d2, d = .agg [d0, d1, d2] ∧ ggsD c.gauges d2
theorem rd_clr : Rd enc Try.prog w 26 3 (fun (c : Clr) j => match j with | 0 => csks c.casks | 1 => movs c.moves | _ => ggs c.gauges) clrD :=
  Rd.map (rd_struct3 (t := 26) (f0 := { name := "Casks", type := 22, offset := 0, embedded := false, tag := "", pkgPath := "", byteOffset := 0 }) (f1 := { name := "Moves", type := 23, offset := 1, embedded := false, tag := "", pkgPath := "", byteOffset := 24 }) (f2 := { name := "Gauges", type := 24, offset := 2, embedded := false, tag := "", pkgPath := "", byteOffset := 48 }) (k0 := 1) (k1 := 1) (k2 := 1) (by kernel_rfl) (by kernel_rfl) rfl rfl rfl (by kernel_rfl) (by kernel_rfl) (by kernel_rfl)
      (rd_slice (t := 22) (e := 51) default (by kernel_rfl) (by kernel_rfl) (by decide) rd_csk) (rd_slice (t := 23) (e := 55) default (by kernel_rfl) (by kernel_rfl) (by decide) rd_mov) (rd_slice (t := 24) (e := 30) default (by kernel_rfl) (by kernel_rfl) (by decide) rd_gg))
    (fun y => (⟨y.1, y.2.1, y.2.2⟩ : Clr)) (fun y j hj => match j, hj with | 0, _ => rfl | 1, _ => rfl | 2, _ => rfl) (fun _ _ h => by obtain ⟨d0, d1, d2, h, _, _, h2⟩ := h; exact ⟨d0, d1, d2, h, h2.2.2⟩)
theorem rd_ints : Rd enc Try.prog w 43 1 (fun (l : List Int) _ => ints l) anyD :=
  Rd.map (rd_slice (t := 43) (e := 3) 0 (by kernel_rfl) (by kernel_rfl) (by decide) rd_i64) (fun y => y) (fun _ _ _ => rfl) (fun _ _ _ => trivial)
theorem rd_tru : Rd enc Try.prog w 67 3 (fun (t : Tru) j => match j with | 0 => ints t.start | 1 => ints t.leak | _ => ints t.quantity) anyD :=
  Rd.map (rd_struct3 (t := 67) (f0 := { name := "Start", type := 43, offset := 0, embedded := false, tag := "", pkgPath := "", byteOffset := 0 }) (f1 := { name := "Leak", type := 43, offset := 1, embedded := false, tag := "", pkgPath := "", byteOffset := 24 }) (f2 := { name := "Quantity", type := 43, offset := 2, embedded := false, tag := "", pkgPath := "", byteOffset := 48 }) (k0 := 1) (k1 := 1) (k2 := 1) (by kernel_rfl) (by kernel_rfl) rfl rfl rfl (by kernel_rfl) (by kernel_rfl) (by kernel_rfl) rd_ints rd_ints rd_ints)
    (fun y => (⟨y.1, y.2.1, y.2.2⟩ : Tru)) (fun y j hj => match j, hj with | 0, _ => rfl | 1, _ => rfl | 2, _ => rfl) (fun _ _ _ => trivial)

abbrev e0 : Env := ⟨fun _ => 0, fun _ => .bool false⟩
abbrev ZW (w : World) : Nat → Prop := fun b => b < w.heap.size
abbrev L0 : Nat → Prop := fun i => i < 0

theorem st_clr : Try.prog.underlying 26 = some (.struct #[{ name := "Casks", type := 22, offset := 0, embedded := false, tag := "", pkgPath := "", byteOffset := 0 }, { name := "Moves", type := 23, offset := 1, embedded := false, tag := "", pkgPath := "", byteOffset := 24 }, { name := "Gauges", type := 24, offset := 2, embedded := false, tag := "", pkgPath := "", byteOffset := 48 }]) := by kernel_rfl
theorem st_tru : Try.prog.underlying 67 = some (.struct #[{ name := "Start", type := 43, offset := 0, embedded := false, tag := "", pkgPath := "", byteOffset := 0 }, { name := "Leak", type := 43, offset := 1, embedded := false, tag := "", pkgPath := "", byteOffset := 24 }, { name := "Quantity", type := 43, offset := 2, embedded := false, tag := "", pkgPath := "", byteOffset := 48 }]) := by kernel_rfl
theorem st_gg : Try.prog.underlying 30 = some (.struct #[{ name := "Cask", type := 3, offset := 0, embedded := false, tag := "", pkgPath := "", byteOffset := 0 }, { name := "After", type := 3, offset := 1, embedded := false, tag := "", pkgPath := "", byteOffset := 8 }, { name := "Dip", type := 28, offset := 2, embedded := false, tag := "", pkgPath := "", byteOffset := 16 }, { name := "Dry", type := 4, offset := 4, embedded := false, tag := "", pkgPath := "", byteOffset := 32 }]) := by kernel_rfl
end
end Go.Proofs.Ytnkgdapdccpjmaa

