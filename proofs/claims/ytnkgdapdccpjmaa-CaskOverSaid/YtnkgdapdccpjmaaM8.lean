import Derived.Test.YtnkgdapdccpjmaaM7
/- contents, leaks. -/
namespace Go.Proofs.Ytnkgdapdccpjmaa
open Go Go.RowKit Go.Sx

theorem plen {n : Nat} {P : List Nat} (h : P.Nodup) (hl : ∀ j ∈ P, j < n) : P.length ≤ n := by
  have hp : P.Perm ((List.range n).filter fun j => decide (j ∈ P)) := (List.perm_ext_iff_of_nodup h (List.nodup_range.filter _)).2 fun j => by
    simp only [List.mem_filter, List.mem_range, decide_eq_true_eq]
    exact ⟨fun hj => ⟨hl j hj, hj⟩, fun hj => hj.2⟩
  rw [hp.length_eq]
  exact Nat.le_trans (List.length_filter_le _ _) (by simp)
theorem at_lt {n k i C : Nat} (hi : i < n) (hk : k < C) : k * n + i < n * C := by
  have h1 := Nat.mul_le_mul_left n (show k + 1 ≤ C from hk)
  rw [Nat.mul_succ] at h1
  rw [Nat.mul_comm k n]; omega
theorem mul_small {a : Int} {n C : Nat} (ha : 0 ≤ a ∧ a < (C : Int)) (hC : C ≤ 3) (hn : n ≤ 5) : a * (n : Int) ≤ 15 := by
  have := mul_box (x := a) (y := (n : Int)) (a := 3) (b := 5) ha.1 (by omega) (by omega) (by omega)
  omega
theorem at_int {a : Int} {n i : Nat} (h : 0 ≤ a) : a * (n : Int) + (i : Int) = ((a.toNat * n + i : Nat) : Int) := by
  push_cast; rw [Int.toNat_of_nonneg h]
theorem join_some {o : Option Rng} {r : Rng} (h : o.isSome = true) : joinR o r = some ⟨min (o.getD ⟨0, 0⟩).lo r.lo, max (o.getD ⟨0, 0⟩).hi r.hi⟩ := by
  cases o with
  | none => cases h
  | some o => rfl
theorem join_none {o : Option Rng} {r : Rng} (h : o.isSome = false) : joinR o r = some r := by
  cases o with
  | none => rfl
  | some o => cases h
theorem contents_le {c : Clr} {q : List Int} {E l : List Ent3} (h : l.Perm E) : FVle (.sl 2 ((c.moves.length + 1) * c.casks.length) fun a j => rngF ((c.outAt q l (c.moves.length + 1) a).getD ⟨0, 0⟩) j) (rngs (c.contentsL q E)) :=
  .sl (by simp [Clr.contentsL]) fun a j ha hj => .of_eq (by
    show _ = rngF ((c.contentsL q E).getD a default) j
    rw [Clr.contentsL, getD_map_range ha, Clr.outAt, Clr.outAt, rngAt_perm h])
theorem mix_out {c : Clr} {q : List Int} {l : List Ent3} {x : Ent3} {n i N : Nat} {r : Rng} (hx : 0 ≤ x.cask) (hi : i < n) (hr : joinR (c.outAt q l n (x.cask.toNat * n + i)) (c.shift q x i) = some r) :
    BlkLe (.row 64 2 N (setAt (fun a j => rngF ((c.mixO q l x n i a).getD ⟨0, 0⟩) j) (x.cask.toNat * n + i) 0 [i64 r.lo, i64 r.hi])) (rowOut (c.mixO q l x n (i + 1)) N) :=
  .row rfl fun a j ha hj => .of_eq (by
    simp only [setAt]
    by_cases h : a = x.cask.toNat * n + i
    · subst h
      rw [if_pos ⟨rfl, Nat.zero_le _, by simpa using hj⟩, mixO_new hx hi, hr]
      match j, hj with
      | 0, _ => rfl
      | 1, _ => rfl
    · rw [if_neg (by simp [h]), mixO_old hi h])
theorem mix_seen {c : Clr} {q : List Int} {l : List Ent3} {x : Ent3} {n i N : Nat} (hx : 0 ≤ x.cask) (hi : i < n) :
    BlkLe (.row 4 1 N (setAt (fun a _ => FV.bool (c.mixO q l x n i a).isSome) (x.cask.toNat * n + i) 0 [FV.bool true])) (rowSeen (c.mixO q l x n (i + 1)) N) :=
  .row rfl fun a j ha hj => .of_eq (by
    obtain rfl : j = 0 := by omega
    simp only [setAt]
    by_cases h : a = x.cask.toNat * n + i
    · subst h
      rw [if_pos ⟨rfl, Nat.zero_le _, by simp⟩, mixO_new hx hi]
      cases c.outAt q l n (x.cask.toNat * n + i) <;> rfl
    · rw [if_neg (by simp [h]), mixO_old hi h])

theorem contents_c (c : Clr) (q : List Int) (E : List Ent3) (hG : c.Good) (hq : ∀ j, 0 ≤ q.getD j 0 ∧ q.getD j 0 ≤ 1000) (hE : ∀ x ∈ E, GoodE c x) : CallC Try.prog 52 2 (lkF [(0, some (.mapb true (entD E))), (1, some (.cells 150 [.f (csks c.casks), .f (movs c.moves), .f (ggs c.gauges), .f (i64 (q.getD 0 0)), .f (i64 (q.getD 1 0)), .f (i64 (q.getD 2 0)), .f (i64 (q.getD 3 0)), .mp 0]))] fun _ => none) [.s (.c (.ptr 1 0))] 2 (lkF [(0, some (.mapb true (entD E))), (1, some (.cells 150 [.f (csks c.casks), .f (movs c.moves), .f (ggs c.gauges), .f (i64 (q.getD 0 0)), .f (i64 (q.getD 1 0)), .f (i64 (q.getD 2 0)), .f (i64 (q.getD 3 0)), .mp 0]))] fun _ => none) (aRngs (c.contentsL q E)) := by
  refine callC_intro tabOk mixed Try.func52 rfl rfl rfl rfl ?_
  intro w0 e0 Z0 X hX n
  have hgc := hG.casks
  have hgm := hG.moves
  have hsz : ((c.moves.length + 1) * c.casks.length) ≤ 15 := Nat.mul_le_mul (show c.moves.length + 1 ≤ 5 by omega) (show c.casks.length ≤ 3 by omega)
  have hsz1 : ((c.moves.length : Int) + 1) * (c.casks.length : Int) ≤ 15 := by exact_mod_cast hsz
  have hsz0 : 0 ≤ ((c.moves.length : Int) + 1) * (c.casks.length : Int) := Int.mul_nonneg (by omega) (by omega)
  refine vc_seq ?_
  refine vc_region ?_
  refine oq1 ?_
  refine run_nil ?_
  refine vc_seq ?_
  refine vc_region ?_
  refine oq1 ?_
  refine oq1 ?_
  refine oq5 ?_
  refine oq5 ?_
  refine oq2 ?_
  refine oq1 ?_
  refine oq4 ?_
  refine oq1 ?_
  refine run_nil ?_
  refine vc_seq ?_
  refine vc_region ?_
  refine oq1 ?_
  refine oq1 ?_
  refine oq1 ?_
  refine oq5 ?_
  refine oq5 ?_
  refine oq2 ?_
  refine oq1 ?_
  refine oq4 ?_
  refine Sx.run_make (n := ((c.moves.length + 1) * c.casks.length)) rfl trivial rfl rfl rfl rfl rfl rfl rfl rfl (by push_cast; rfl) (by rw [Nat.mul_comm]; exact app_room (by omega) rfl) ?_
  refine oq1 ?_
  refine run_nil ?_
  refine vc_seq ?_
  refine vc_region ?_
  refine oq1 ?_
  refine oq1 ?_
  refine Sx.run_make (n := ((c.moves.length + 1) * c.casks.length)) rfl trivial rfl rfl rfl rfl rfl rfl rfl rfl rfl (by rw [Nat.mul_comm]; exact app_room (by omega) rfl) ?_
  refine oq1 ?_
  refine run_nil ?_
  refine vc_seq ?_
  refine vc_seq ?_
  refine vc_pin 0 rfl entD_flat fun gp es ck hmi => ?_
  have hml : es.toList.length = E.length := by rw [hmi.ent.length, entD_len]
  refine vc_region ?_
  refine oq1 ?_
  refine oq1 ?_
  refine oq5 ?_
  refine oq2 ?_
  refine run_range rfl trivial rfl rfl rfl rfl rfl rfl ?_
  refine run_nil ?_
  refine vc_block ?_
  refine vc_loop (κ := List Nat) (fun P => P.Nodup ∧ (∀ j ∈ P, j < E.length)) (fun P => ⟨[(0, .s (.c (.ptr 1 0))), (3, aInt .i64 ((c.moves.length + 1) : Nat)), (4, .s (.c (.own 2))), (5, .s (.c (.own 3))), (35, .s (.c (.ptr 4 0)))], [(0, some (.pin gp (.map es ck))), (1, some (.cells 150 [.f (csks c.casks), .f (movs c.moves), .f (ggs c.gauges), .f (i64 (q.getD 0 0)), .f (i64 (q.getD 1 0)), .f (i64 (q.getD 2 0)), .f (i64 (q.getD 3 0)), .mp 0])), (2, some (rowOut (c.outAt q (gone E P) (c.moves.length + 1)) ((c.moves.length + 1) * c.casks.length))), (3, some (rowSeen (c.outAt q (gone E P) (c.moves.length + 1)) ((c.moves.length + 1) * c.casks.length))), (4, some (.obj (.mapIter (some gp) ck (P.map (bornAt es.toList)).toArray ck)))], fun _ => none, 5⟩) (fun P => E.length - P.length) [] ⟨List.nodup_nil, fun j hj => by cases hj⟩ ?_ ?_
  ·
    exact ent_ren [] (.cons (.refl _) rfl (.cons (.refl _) rfl (.cons (.refl _) rfl (.cons (.refl _) rfl (.cons (.refl _) rfl (.nil)))))) (.cons rfl (.refl _) rfl rfl (.cons rfl (.refl _) rfl rfl (.cons rfl (.row rfl fun a j ha hj => fall2 (P := fun j => FVle (ti64.zero.getD j FV.any) (rngF ⟨0, 0⟩ j)) (.refl _) (.refl _) j hj) rfl rfl (.cons rfl (.row rfl fun a j ha hj => .of_eq (by obtain rfl : j = 0 := Nat.lt_one_iff.1 hj; rfl)) rfl rfl (.cons rfl (.refl _) rfl rfl (.nil)))))) rfl rfl (fun i hi => ⟨piS rfl hi, Nat.lt_of_lt_of_le hi (Nat.le_of_ble_eq_true rfl)⟩)
  rintro P ⟨hP, hPl⟩
  refine vc_seq ?_
  refine vc_regionT ?_
  refine runT_next (id := 0) hmi rfl trivial rfl rfl rfl rfl rfl (fun hall => ?_) (fun jx mx kx qx hjx hjD hnew => ?_)
  ·
    have hpm : (gone E P).Perm E := gone_perm (hml ▸ perm_done hmi.born hP (fun j hj => by rw [hml]; exact hPl j hj) (fun m hm => by simpa using hall m hm))
    refine t1 ?_
    refine oq1 ?_
    refine run_nil ?_
    refine runT_nil ?_
    refine vc_seq ?_
    refine vc_cond rfl (fun h => Bool.noConfusion h) (fun _ => ?_)
    refine vc_exit ?_
    refine vc_seq ?_
    refine vc_ent (ent_fz 2 rfl) ?_
    refine vc_ent (ent_unpin 0 rfl hmi) ?_
    refine vc_region ?_
    refine oq1 ?_
    refine oq1 ?_
    refine run_nil ?_
    refine vc_ret ?_
    exact ⟨[], _, _, rfl, trivial, .f (contents_le hpm), rfl, .cons rfl (.refl _) rfl rfl (.cons rfl (.refl _) rfl rfl (.nil)), rfl, fun i hi => rfl⟩
  ·
    obtain ⟨x, hxj, hxd⟩ := entD_get hjD
    cases hxd
    have hxe := hE x (List.mem_of_getElem? hxj)
    have hxc := hxe.cask
    have hxl := hxe.leak
    have hxr := hxe.room
    refine t1 ?_
    refine oq1 ?_
    refine run_nil ?_
    refine runT_nil ?_
    refine vc_seq ?_
    refine vc_cond rfl (fun _ => ?_) (fun h => Bool.noConfusion h)
    refine vc_skip ?_
    refine vc_block ?_
    refine vc_seq ?_
    refine vc_region ?_
    refine run_entry (id := 0) (j := jx) (m := mx) hmi rfl trivial rfl rfl rfl rfl rfl hjx hjD ?_
    refine oq1 ?_
    refine oq1 ?_
    refine run_alloc rfl trivial rfl rfl rfl rfl (by intro _ _ h; cases h <;> (intro _; rfl)) ?_
    refine run_alloc rfl trivial rfl rfl rfl rfl (by intro _ _ h; cases h <;> (intro _; rfl)) ?_
    refine Sx.run_store rfl trivial rfl rfl rfl rfl rfl rfl rfl ?_
    refine Sx.run_store rfl trivial rfl rfl rfl rfl rfl rfl rfl ?_
    refine run_nil ?_
    refine vc_seq ?_
    refine vc_regionD rfl ?_
    refine oq1 ?_
    refine oq1 ?_
    refine oq5 ?_
    refine oq2 ?_
    refine oq5 ?_
    refine oq2 ?_
    refine oq5 ?_
    refine oq2 ?_
    refine oq1 ?_
    refine oq1 ?_
    refine oq5 ?_
    refine oq2 ?_
    refine run_call (gains_c c x.cask x.leak q (by omega) (by omega) (by omega) (by assumption)) [] rfl rfl rfl trivial rfl rfl rfl rfl .nil rfl rfl rfl rfl rfl ?_
    refine oq1 ?_
    refine oq1 ?_
    refine run_nil ⟨rfl, ?_⟩
    refine vc_ent (ent_fz 7 rfl) ?_
    refine vc_block ?_
    refine vc_loop (κ := Nat) (fun i => i ≤ (c.moves.length + 1)) (fun i => ⟨[(0, .s (.c (.ptr 1 0))), (3, aInt .i64 ((c.moves.length + 1) : Nat)), (4, .s (.c (.own 2))), (5, .s (.c (.own 3))), (6, .s (.c (.ptr 5 0))), (7, .s (.c (.ptr 6 0))), (35, .s (.c (.ptr 4 0))), (53, .s (.c (.f (.sl 1 (c.moves.length + 1) fun t _ => i64 (c.gain x.cask x.leak q t))))), (54, aInt .i64 ((c.moves.length + 1) : Nat)), (55, aInt .i64 (i : Int))], [(0, some (.pin gp (.map es ck))), (1, some (.cells 150 [.f (csks c.casks), .f (movs c.moves), .f (ggs c.gauges), .f (i64 (q.getD 0 0)), .f (i64 (q.getD 1 0)), .f (i64 (q.getD 2 0)), .f (i64 (q.getD 3 0)), .mp 0])), (2, some (rowOut (c.mixO q (gone E P) x (c.moves.length + 1) i) ((c.moves.length + 1) * c.casks.length))), (3, some (rowSeen (c.mixO q (gone E P) x (c.moves.length + 1) i) ((c.moves.length + 1) * c.casks.length))), (4, some (.obj (.mapIter (some gp) ck ((P.map (bornAt es.toList)).toArray.push mx.born) ck))), (5, some (.cells 162 [.f (i64 x.cask), .f (i64 x.leak)])), (6, some (.cells 64 [.f (i64 x.room.lo), .f (i64 x.room.hi)]))], fun _ => none, 7⟩) (fun i => (c.moves.length + 1) - i) 0 (Nat.zero_le _) ?_ ?_
    ·
      exact ent_ren [] (.cons (.refl _) rfl (.cons (.refl _) rfl (.cons (.refl _) rfl (.cons (.refl _) rfl (.cons (.refl _) rfl (.cons (.refl _) rfl (.cons (.refl _) rfl (.cons (.refl _) rfl (.cons (.refl _) rfl (.cons (.refl _) rfl (.nil))))))))))) (.cons rfl (.refl _) rfl rfl (.cons rfl (.refl _) rfl rfl (.cons rfl (.row rfl fun a j ha hj => .of_eq (by rw [mixO_zero])) rfl rfl (.cons rfl (.row rfl fun a j ha hj => .of_eq (by rw [mixO_zero])) rfl rfl (.cons rfl (.refl _) rfl rfl (.cons rfl (.refl _) rfl rfl (.cons rfl (.refl _) rfl rfl (.nil)))))))) rfl rfl (fun i hi => ⟨piS rfl hi, Nat.lt_of_lt_of_le hi (Nat.le_of_ble_eq_true rfl)⟩)
    rintro i hi
    refine vc_seq ?_
    refine vc_region ?_
    refine oq6 ?_
    refine run_nil ?_
    refine vc_seq ?_
    refine vc_condP rfl (fun h1 => ?_) (fun h1 => ?_)
    ·
      try simp only [Int.toNat_natCast] at h1
      refine vc_skip ?_
      refine vc_seq ?_
      refine vc_block ?_
      refine vc_seq ?_
      refine vc_region ?_
      refine oq1 ?_
      refine oq3 ?_
      refine oq2 ?_
      refine oq1 ?_
      refine oq1 ?_
      refine run_nil ?_
      refine vc_seq ?_
      refine vc_region ?_
      have ha1 : (x.cask.toNat * (c.moves.length + 1) + i) < ((c.moves.length + 1) * c.casks.length) := at_lt (by omega) (by omega)
      have hcm0 : 0 ≤ x.cask * (((c.moves.length + 1) : Nat) : Int) := Int.mul_nonneg (by omega) (by omega)
      have hcm1 : x.cask * (((c.moves.length + 1) : Nat) : Int) ≤ 15 := mul_small hxc hgc (by omega)
      have hgb := gain_bounds (c := c) (cask := x.cask) hxl.1 hxl.2 hq i
      refine oq5 ?_
      refine oq2 ?_
      refine oq1 ?_
      refine oq4 ?_
      refine oq1 ?_
      refine oq4 ?_
      refine oq1 ?_
      refine run_nil ?_
      refine vc_ent (ent_le 10 (y := aInt .i64 (((x.cask.toNat * (c.moves.length + 1) + i) : Nat) : Int)) (.of_eq (aInt_eq (at_int hxc.1)))) ?_
      refine vc_seq ?_
      refine vc_region ?_
      refine oq5 ?_
      refine oq2 ?_
      refine oq1 ?_
      refine oq4 ?_
      refine oq5 ?_
      refine oq2 ?_
      refine oq1 ?_
      refine oq4 ?_
      refine oq1 ?_
      refine run_alloc rfl trivial rfl rfl rfl rfl (by intro _ _ h; cases h <;> (intro _; rfl)) ?_
      refine Sx.run_store rfl trivial rfl rfl rfl rfl rfl rfl rfl ?_
      refine run_nil ?_
      refine vc_seq ?_
      refine vc_seq ?_
      refine vc_region ?_
      refine oq1 ?_
      refine oq1 ?_
      refine oq3 ?_
      refine oq2 ?_
      refine run_nil ?_
      refine vc_cond rfl (fun h2 => ?_) (fun h2 => ?_)
      ·
        try simp only [Int.toNat_natCast] at h2
        have hjoin : joinR (c.outAt q (gone E P) (c.moves.length + 1) (x.cask.toNat * (c.moves.length + 1) + i)) (c.shift q x i) = some ⟨min (((c.mixO q (gone E P) x (c.moves.length + 1) i) (x.cask.toNat * (c.moves.length + 1) + i)).getD ⟨0, 0⟩).lo (c.shift q x i).lo, max (((c.mixO q (gone E P) x (c.moves.length + 1) i) (x.cask.toNat * (c.moves.length + 1) + i)).getD ⟨0, 0⟩).hi (c.shift q x i).hi⟩ := by rw [← mixO_at (x := x) (show i < c.moves.length + 1 by omega)]; exact join_some h2
        refine vc_regionD rfl ?_
        refine oq1 ?_
        refine oq1 ?_
        refine oq3 ?_
        refine oq5 ?_
        refine oq2 ?_
        refine oq5 ?_
        refine oq2 ?_
        refine run_buildSliceW (ints [(((c.mixO q (gone E P) x (c.moves.length + 1) i) (x.cask.toNat * (c.moves.length + 1) + i)).getD ⟨0, 0⟩).lo, x.room.lo + c.gain x.cask x.leak q i]) rfl trivial rfl rfl rfl rfl rfl rfl rfl rfl rfl (encL_lit (k := 1) (g := fun n _ => i64 n) (d := 0) [(((c.mixO q (gone E P) x (c.moves.length + 1) i) (x.cask.toNat * (c.moves.length + 1) + i)).getD ⟨0, 0⟩).lo, x.room.lo + c.gain x.cask x.leak q i]) ?_
        refine run_callP (minimum2_c (((c.mixO q (gone E P) x (c.moves.length + 1) i) (x.cask.toNat * (c.moves.length + 1) + i)).getD ⟨0, 0⟩).lo (x.room.lo + c.gain x.cask x.leak q i)) rfl rfl rfl trivial rfl rfl rfl rfl ?_
        refine oq1 ?_
        refine oq1 ?_
        refine oq3 ?_
        refine oq5 ?_
        refine oq2 ?_
        refine oq5 ?_
        refine oq2 ?_
        refine run_q rfl trivial rfl rfl rfl (by first | exact rfl | exact ⟨rfl, rfl⟩) ?_
        refine oq1 ?_
        refine Sx.run_store rfl trivial rfl rfl rfl rfl rfl rfl rfl ?_
        refine run_nil ⟨rfl, ?_⟩
        refine vc_region ?_
        refine oq1 ?_
        refine oq1 ?_
        refine oq1 ?_
        refine oq1 ?_
        refine oq2 ?_
        refine oq3 ?_
        refine run_storeR true rfl trivial rfl rfl rfl rfl rfl rfl rfl rfl rfl (by (try simp only [Int.toNat_natCast]); omega) ?_
        refine oq3 ?_
        refine run_storeR true rfl trivial rfl rfl rfl rfl rfl rfl rfl rfl rfl (by (try simp only [Int.toNat_natCast]); omega) ?_
        refine run_nil ?_
        refine vc_region ?_
        refine oq4 ?_
        refine oq1 ?_
        refine run_nil ?_
        refine ⟨i + 1, by omega, by omega, ent_ren [] (.cons (.refl _) rfl (.cons (.refl _) rfl (.cons (.refl _) rfl (.cons (.refl _) rfl (.cons (.refl _) rfl (.cons (.refl _) rfl (.cons (.refl _) rfl (.cons (.refl _) rfl (.cons (.refl _) rfl (.cons (.refl _) rfl (.nil))))))))))) (.cons rfl (.refl _) rfl rfl (.cons rfl (.refl _) rfl rfl (.cons rfl (mix_out hxe.cask.1 (by omega) hjoin) rfl rfl (.cons rfl (mix_seen hxe.cask.1 (by omega)) rfl rfl (.cons rfl (.refl _) rfl rfl (.cons rfl (.refl _) rfl rfl (.cons rfl (.refl _) rfl rfl (.nil)))))))) rfl rfl (fun i hi => ⟨piS rfl hi, Nat.lt_of_lt_of_le hi (Nat.le_of_ble_eq_true rfl)⟩)⟩
      ·
        try simp only [Int.toNat_natCast] at h2
        have hjoin : joinR (c.outAt q (gone E P) (c.moves.length + 1) (x.cask.toNat * (c.moves.length + 1) + i)) (c.shift q x i) = some (c.shift q x i) := by rw [← mixO_at (x := x) (show i < c.moves.length + 1 by omega)]; exact join_none h2
        refine vc_skip ?_
        refine vc_region ?_
        refine oq1 ?_
        refine oq1 ?_
        refine oq1 ?_
        refine oq1 ?_
        refine oq2 ?_
        refine oq3 ?_
        refine run_storeR true rfl trivial rfl rfl rfl rfl rfl rfl rfl rfl rfl (by (try simp only [Int.toNat_natCast]); omega) ?_
        refine oq3 ?_
        refine run_storeR true rfl trivial rfl rfl rfl rfl rfl rfl rfl rfl rfl (by (try simp only [Int.toNat_natCast]); omega) ?_
        refine run_nil ?_
        refine vc_region ?_
        refine oq4 ?_
        refine oq1 ?_
        refine run_nil ?_
        refine ⟨i + 1, by omega, by omega, ent_ren [] (.cons (.refl _) rfl (.cons (.refl _) rfl (.cons (.refl _) rfl (.cons (.refl _) rfl (.cons (.refl _) rfl (.cons (.refl _) rfl (.cons (.refl _) rfl (.cons (.refl _) rfl (.cons (.refl _) rfl (.cons (.refl _) rfl (.nil))))))))))) (.cons rfl (.refl _) rfl rfl (.cons rfl (.refl _) rfl rfl (.cons rfl (mix_out hxe.cask.1 (by omega) hjoin) rfl rfl (.cons rfl (mix_seen hxe.cask.1 (by omega)) rfl rfl (.cons rfl (.refl _) rfl rfl (.cons rfl (.refl _) rfl rfl (.cons rfl (.refl _) rfl rfl (.nil)))))))) rfl rfl (fun i hi => ⟨piS rfl hi, Nat.lt_of_lt_of_le hi (Nat.le_of_ble_eq_true rfl)⟩)⟩
    ·
      try simp only [Int.toNat_natCast] at h1
      refine vc_exit ?_
      obtain rfl : i = c.moves.length + 1 := by omega
      have hlt := (List.getElem?_eq_some_iff.1 hxj).1
      have hfr := fresh_idx hjx (by simpa using hnew)
      have hpl := plen (nodup_snoc hP hfr) (fun j hj => by rcases List.mem_append.1 hj with h | h; (· exact hPl j h); (· simp at h; omega))
      refine ⟨P ++ [jx], ⟨nodup_snoc hP hfr, fun j hj => by rcases List.mem_append.1 hj with h | h; (· exact hPl j h); (· simp at h; omega)⟩, by simp at hpl ⊢; omega, ent_ren [] (.cons (.refl _) rfl (.cons (.refl _) rfl (.cons (.refl _) rfl (.cons (.refl _) rfl (.cons (.refl _) rfl (.nil)))))) (.cons rfl (.refl _) rfl rfl (.cons rfl (.refl _) rfl rfl (.cons rfl (.row rfl fun a j ha hj => .of_eq (by rw [gone_snoc hxj]; show rngF ((c.mixO q (gone E P) x (c.moves.length + 1) (c.moves.length + 1) a).getD ⟨0, 0⟩) j = _; rw [mixO_end (by omega) (by omega)])) rfl rfl (.cons rfl (.row rfl fun a j ha hj => .of_eq (by rw [gone_snoc hxj]; show FV.bool (c.mixO q (gone E P) x (c.moves.length + 1) (c.moves.length + 1) a).isSome = _; rw [mixO_end (by omega) (by omega)])) rfl rfl (.cons rfl ((by rw [List.map_append, List.map_singleton, bornAt_get hjx]; simp; exact .refl _)) rfl rfl (.nil)))))) rfl rfl (fun i hi => ⟨piS rfl hi, Nat.lt_of_lt_of_le hi (Nat.le_of_ble_eq_true rfl)⟩)⟩

theorem leak_first {N k : Nat} {r : Rng} : BlkLe (.row 64 2 N (setAt (fun a j => rngF (if a < k then r else ⟨0, 0⟩) j) k 0 [i64 r.lo, i64 r.hi])) (.row 64 2 N fun a j => rngF (if a < k + 1 then r else ⟨0, 0⟩) j) :=
  .row rfl fun a j ha hj => .of_eq (by
    simp only [setAt]
    by_cases h : a = k
    · subst h
      rw [if_pos ⟨rfl, Nat.zero_le _, by simpa using hj⟩, if_pos (Nat.lt_succ_self a)]
      match j, hj with
      | 0, _ => rfl
      | 1, _ => rfl
    · rw [if_neg (by simp [h])]
      by_cases h2 : a < k
      · rw [if_pos h2, if_pos (by omega)]
      · rw [if_neg h2, if_neg (by omega)])
theorem leak_set {c : Clr} {l : List Ent3} {x : Ent3} {N : Nat} (hx : 0 ≤ x.cask) : BlkLe (.row 64 2 N (setAt (fun a j => rngF (c.leakAt l (a : Int)) j) x.cask.toNat 0 [i64 (min (c.leakAt l x.cask).lo (c.moves.length * x.leak)), i64 (max (c.leakAt l x.cask).hi (c.moves.length * x.leak))])) (.row 64 2 N fun a j => rngF (c.leakAt (l ++ [x]) (a : Int)) j) :=
  .row rfl fun a j ha hj => .of_eq (by
    simp only [setAt]
    rw [leakAt_snoc]
    by_cases h : a = x.cask.toNat
    · subst h
      rw [if_pos ⟨rfl, Nat.zero_le _, by simpa using hj⟩, Int.toNat_of_nonneg hx, if_pos rfl]
      match j, hj with
      | 0, _ => rfl
      | 1, _ => rfl
    · rw [if_neg (by simp [h]), if_neg (by omega)])
theorem leaks_le {c : Clr} {E l : List Ent3} (h : l.Perm E) : FVle (.sl 2 c.casks.length fun a j => rngF (c.leakAt l (a : Int)) j) (rngs (c.leaksL E)) :=
  .sl (by simp [Clr.leaksL]) fun a j ha hj => .of_eq (by
    show _ = rngF ((c.leaksL E).getD a default) j
    rw [Clr.leaksL, getD_map_range ha, leakAt_perm h])

theorem leaks_c (c : Clr) (q : List Int) (E : List Ent3) (hG : c.Good) (hE : ∀ x ∈ E, GoodE c x) : CallC Try.prog 66 2 (lkF [(0, some (.mapb true (entD E))), (1, some (.cells 150 [.f (csks c.casks), .f (movs c.moves), .f (ggs c.gauges), .f (i64 (q.getD 0 0)), .f (i64 (q.getD 1 0)), .f (i64 (q.getD 2 0)), .f (i64 (q.getD 3 0)), .mp 0]))] fun _ => none) [.s (.c (.ptr 1 0))] 2 (lkF [(0, some (.mapb true (entD E))), (1, some (.cells 150 [.f (csks c.casks), .f (movs c.moves), .f (ggs c.gauges), .f (i64 (q.getD 0 0)), .f (i64 (q.getD 1 0)), .f (i64 (q.getD 2 0)), .f (i64 (q.getD 3 0)), .mp 0]))] fun _ => none) (aRngs (c.leaksL E)) := by
  refine callC_intro tabOk mixed Try.func66 rfl rfl rfl rfl ?_
  intro w0 e0 Z0 X hX n
  have hgc := hG.casks
  have hgm := hG.moves
  refine vc_seq ?_
  refine vc_region ?_
  refine oq1 ?_
  refine run_nil ?_
  refine vc_seq ?_
  refine vc_region ?_
  refine oq1 ?_
  refine oq1 ?_
  refine oq5 ?_
  refine oq5 ?_
  refine oq2 ?_
  refine oq1 ?_
  refine oq1 ?_
  refine run_nil ?_
  refine vc_seq ?_
  refine vc_region ?_
  refine oq1 ?_
  refine oq1 ?_
  refine oq5 ?_
  refine oq5 ?_
  refine oq2 ?_
  refine oq1 ?_
  refine Sx.run_make (n := c.casks.length) rfl trivial rfl rfl rfl rfl rfl rfl rfl rfl rfl (by rw [Nat.mul_comm]; exact app_room (by omega) rfl) ?_
  refine oq1 ?_
  refine run_nil ?_
  refine vc_seq ?_
  refine vc_seq ?_
  refine vc_region ?_
  refine oq1 ?_
  refine oq1 ?_
  refine oq1 ?_
  refine run_nil ?_
  refine vc_block ?_
  refine vc_loop (κ := Nat) (fun i => i ≤ c.casks.length) (fun i => ⟨[(0, .s (.c (.ptr 1 0))), (3, aInt .i64 (c.moves.length : Int)), (4, .s (.c (.own 2))), (22, aInt .i64 (c.casks.length : Int)), (23, aInt .i64 (i : Int))], [(0, some (.mapb true (entD E))), (1, some (.cells 150 [.f (csks c.casks), .f (movs c.moves), .f (ggs c.gauges), .f (i64 (q.getD 0 0)), .f (i64 (q.getD 1 0)), .f (i64 (q.getD 2 0)), .f (i64 (q.getD 3 0)), .mp 0])), (2, some (.row 64 2 c.casks.length fun a j => rngF (if a < i then ⟨c.moves.length * 5, -1⟩ else ⟨0, 0⟩) j))], fun _ => none, 3⟩) (fun i => c.casks.length - i) 0 (Nat.zero_le _) ?_ ?_
  ·
    exact ent_ren [] (.cons (.refl _) rfl (.cons (.refl _) rfl (.cons (.refl _) rfl (.cons (.refl _) rfl (.cons (.refl _) rfl (.nil)))))) (.cons rfl (.refl _) rfl rfl (.cons rfl (.refl _) rfl rfl (.cons rfl (.row rfl fun a j ha hj => fall2 (P := fun j => FVle (ti64.zero.getD j FV.any) (rngF (if a < 0 then ⟨c.moves.length * 5, -1⟩ else ⟨0, 0⟩) j)) (by rw [if_neg (Nat.not_lt_zero a)]; exact .refl _) (by rw [if_neg (Nat.not_lt_zero a)]; exact .refl _) j hj) rfl rfl (.nil)))) rfl rfl (fun i hi => ⟨piS rfl hi, Nat.lt_of_lt_of_le hi (Nat.le_of_ble_eq_true rfl)⟩)
  rintro i hi
  refine vc_seq ?_
  refine vc_region ?_
  refine oq6 ?_
  refine run_nil ?_
  refine vc_seq ?_
  refine vc_condP rfl (fun h1 => ?_) (fun h1 => ?_)
  ·
    try simp only [Int.toNat_natCast] at h1
    refine vc_skip ?_
    refine vc_seq ?_
    refine vc_block ?_
    refine vc_seq ?_
    refine vc_region ?_
    refine oq1 ?_
    refine oq1 ?_
    refine run_nil ?_
    refine vc_region ?_
    refine oq1 ?_
    refine oq1 ?_
    refine oq1 ?_
    refine oq4 ?_
    refine oq1 ?_
    refine oq3 ?_
    refine run_storeR true rfl trivial rfl rfl rfl rfl rfl rfl rfl rfl rfl (by (try simp only [Int.toNat_natCast]); omega) ?_
    refine run_nil ?_
    refine vc_region ?_
    refine oq4 ?_
    refine oq1 ?_
    refine run_nil ?_
    refine ⟨i + 1, by omega, by omega, ent_ren [] (.cons (.refl _) rfl (.cons (.refl _) rfl (.cons (.refl _) rfl (.cons (.refl _) rfl (.cons (.refl _) rfl (.nil)))))) (.cons rfl (.refl _) rfl rfl (.cons rfl (.refl _) rfl rfl (.cons rfl (leak_first (r := ⟨c.moves.length * 5, -1⟩)) rfl rfl (.nil)))) rfl rfl (fun i hi => ⟨piS rfl hi, Nat.lt_of_lt_of_le hi (Nat.le_of_ble_eq_true rfl)⟩)⟩
  ·
    try simp only [Int.toNat_natCast] at h1
    refine vc_exit ?_
    refine vc_seq ?_
    refine vc_seq ?_
    obtain rfl : i = c.casks.length := by omega
    refine vc_pin 0 rfl entD_flat fun gp es ck hmi => ?_
    have hml : es.toList.length = E.length := by rw [hmi.ent.length, entD_len]
    refine vc_region ?_
    refine oq1 ?_
    refine oq1 ?_
    refine oq5 ?_
    refine oq2 ?_
    refine run_range rfl trivial rfl rfl rfl rfl rfl rfl ?_
    refine run_nil ?_
    refine vc_block ?_
    refine vc_loop (κ := List Nat) (fun P => P.Nodup ∧ (∀ j ∈ P, j < E.length)) (fun P => ⟨[(3, aInt .i64 (c.moves.length : Int)), (4, .s (.c (.own 2))), (37, .s (.c (.ptr 3 0)))], [(0, some (.pin gp (.map es ck))), (1, some (.cells 150 [.f (csks c.casks), .f (movs c.moves), .f (ggs c.gauges), .f (i64 (q.getD 0 0)), .f (i64 (q.getD 1 0)), .f (i64 (q.getD 2 0)), .f (i64 (q.getD 3 0)), .mp 0])), (2, some (.row 64 2 c.casks.length fun a j => rngF (c.leakAt (gone E P) (a : Int)) j)), (3, some (.obj (.mapIter (some gp) ck (P.map (bornAt es.toList)).toArray ck)))], fun _ => none, 4⟩) (fun P => E.length - P.length) [] ⟨List.nodup_nil, fun j hj => by cases hj⟩ ?_ ?_
    ·
      exact ent_ren [] (.cons (.refl _) rfl (.cons (.refl _) rfl (.cons (.refl _) rfl (.nil)))) (.cons rfl (.refl _) rfl rfl (.cons rfl (.refl _) rfl rfl (.cons rfl (.row rfl fun a j ha hj => .of_eq (by rw [if_pos ha]; rfl)) rfl rfl (.cons rfl (.refl _) rfl rfl (.nil))))) rfl rfl (fun i hi => ⟨piS rfl hi, Nat.lt_of_lt_of_le hi (Nat.le_of_ble_eq_true rfl)⟩)
    rintro P ⟨hP, hPl⟩
    refine vc_seq ?_
    refine vc_regionT ?_
    refine runT_next (id := 0) hmi rfl trivial rfl rfl rfl rfl rfl (fun hall => ?_) (fun jx mx kx qx hjx hjD hnew => ?_)
    ·
      have hpm : (gone E P).Perm E := gone_perm (hml ▸ perm_done hmi.born hP (fun j hj => by rw [hml]; exact hPl j hj) (fun m hm => by simpa using hall m hm))
      refine t1 ?_
      refine oq1 ?_
      refine run_nil ?_
      refine runT_nil ?_
      refine vc_seq ?_
      refine vc_cond rfl (fun h => Bool.noConfusion h) (fun _ => ?_)
      refine vc_exit ?_
      refine vc_seq ?_
      refine vc_ent (ent_fz 2 rfl) ?_
      refine vc_ent (ent_unpin 0 rfl hmi) ?_
      refine vc_region ?_
      refine oq1 ?_
      refine oq1 ?_
      refine run_nil ?_
      refine vc_ret ?_
      exact ⟨[], _, _, rfl, trivial, .f (leaks_le hpm), rfl, .cons rfl (.refl _) rfl rfl (.cons rfl (.refl _) rfl rfl (.nil)), rfl, fun i hi => rfl⟩
    ·
      obtain ⟨x, hxj, hxd⟩ := entD_get hjD
      cases hxd
      have hxe := hE x (List.mem_of_getElem? hxj)
      have hxc := hxe.cask
      have hxl := hxe.leak
      have hlm := mul_box (x := (c.moves.length : Int)) (y := x.leak) (a := 4) (b := 4) (by omega) (by omega) (by omega) (by omega)
      have hta : (c.leakAt (gone E P) ((x.cask.toNat : Nat) : Int)) = (c.leakAt (gone E P) x.cask) := by rw [Int.toNat_of_nonneg hxc.1]
      refine t1 ?_
      refine oq1 ?_
      refine run_nil ?_
      refine runT_nil ?_
      refine vc_seq ?_
      refine vc_cond rfl (fun _ => ?_) (fun h => Bool.noConfusion h)
      refine vc_skip ?_
      refine vc_block ?_
      refine vc_seq ?_
      refine vc_region ?_
      refine run_entry (id := 0) (j := jx) (m := mx) hmi rfl trivial rfl rfl rfl rfl rfl hjx hjD ?_
      refine oq1 ?_
      refine run_alloc rfl trivial rfl rfl rfl rfl (by intro _ _ h; cases h <;> (intro _; rfl)) ?_
      refine Sx.run_store rfl trivial rfl rfl rfl rfl rfl rfl rfl ?_
      refine run_nil ?_
      refine vc_seq ?_
      refine vc_region ?_
      refine oq1 ?_
      refine oq5 ?_
      refine oq2 ?_
      refine oq3 ?_
      refine oq1 ?_
      refine run_nil ?_
      refine vc_regionD rfl ?_
      refine oq1 ?_
      refine oq1 ?_
      refine oq1 ?_
      refine oq5 ?_
      refine run_qW (aInt .i64 (c.leakAt (gone E P) x.cask).lo) rfl trivial rfl rfl rfl ⟨rfl, by omega, Nat.le_of_ble_eq_true rfl⟩ (.of_eq (by rw [← hta]; rfl)) ?_
      refine oq1 ?_
      refine oq5 ?_
      refine oq2 ?_
      refine oq4 ?_
      refine run_buildSliceW (ints [(c.leakAt (gone E P) x.cask).lo, (c.moves.length * x.leak)]) rfl trivial rfl rfl rfl rfl rfl rfl rfl rfl rfl (encL_lit (k := 1) (g := fun n _ => i64 n) (d := 0) [(c.leakAt (gone E P) x.cask).lo, (c.moves.length * x.leak)]) ?_
      refine run_callP (minimum2_c (c.leakAt (gone E P) x.cask).lo (c.moves.length * x.leak)) rfl rfl rfl trivial rfl rfl rfl rfl ?_
      refine oq1 ?_
      refine oq1 ?_
      refine oq5 ?_
      refine run_qW (aInt .i64 (c.leakAt (gone E P) x.cask).hi) rfl trivial rfl rfl rfl ⟨rfl, by omega, Nat.le_of_ble_eq_true rfl⟩ (.of_eq (by rw [← hta]; rfl)) ?_
      refine oq1 ?_
      refine oq5 ?_
      refine oq2 ?_
      refine oq4 ?_
      refine run_q rfl trivial rfl rfl rfl (by first | exact rfl | exact ⟨rfl, rfl⟩) ?_
      refine oq1 ?_
      refine oq1 ?_
      refine run_storeR true rfl trivial rfl rfl rfl rfl rfl rfl rfl rfl rfl (by (try simp only [Int.toNat_natCast]); omega) ?_
      refine run_nil ⟨rfl, ?_⟩
      have hlt := (List.getElem?_eq_some_iff.1 hxj).1
      have hfr := fresh_idx hjx (by simpa using hnew)
      have hpl := plen (nodup_snoc hP hfr) (fun j hj => by rcases List.mem_append.1 hj with h | h; (· exact hPl j h); (· simp at h; omega))
      refine ⟨P ++ [jx], ⟨nodup_snoc hP hfr, fun j hj => by rcases List.mem_append.1 hj with h | h; (· exact hPl j h); (· simp at h; omega)⟩, by simp at hpl ⊢; omega, ent_ren [] (.cons (.refl _) rfl (.cons (.refl _) rfl (.cons (.refl _) rfl (.nil)))) (.cons rfl (.refl _) rfl rfl (.cons rfl (.refl _) rfl rfl (.cons rfl ((by rw [gone_snoc hxj]; exact leak_set hxc.1)) rfl rfl (.cons rfl ((by rw [List.map_append, List.map_singleton, bornAt_get hjx]; simp; exact .refl _)) rfl rfl (.nil))))) rfl rfl (fun i hi => ⟨piS rfl hi, Nat.lt_of_lt_of_le hi (Nat.le_of_ble_eq_true rfl)⟩)⟩

end Go.Proofs.Ytnkgdapdccpjmaa

/- Show's closure. -/
namespace Go.Proofs.Ytnkgdapdccpjmaa
open Go Go.RowKit Go.Sx

def Clr.firstE (c : Clr) (i : Nat) (q : List Int) : Ent3 := (c.entries (i : Int) q).headD default
def Clr.showT (c : Clr) (q : List Int) : Tru := ⟨(List.range c.casks.length).map fun i => (c.firstE i q).room.lo, (List.range c.casks.length).map fun i => (c.firstE i q).leak, q.take c.moves.length⟩
theorem leaksTo_grow {c : Clr} {cask : Int} {q : List Int} {m : Nat} : ∀ k, ∃ r, c.leaksTo cask q (m + k) = c.leaksTo cask q m ++ r
  | 0 => ⟨[], by simp⟩
  | k + 1 => by
    obtain ⟨r, h⟩ := leaksTo_grow (c := c) (cask := cask) (q := q) (m := m) k
    cases he : (c.room cask ((c.cask cask).leak.lo + ((m + k : Nat) : Int)) q).empty with
    | true => exact ⟨r, by rw [← Nat.add_assoc, leaksTo_no he, h]⟩
    | false => exact ⟨_, by rw [← Nat.add_assoc, leaksTo_yes he, h, List.append_assoc]⟩
theorem firstE_at {c : Clr} {i : Nat} {q : List Int} {m : Nat} (h0 : c.leaksTo (i : Int) q m = []) (he : (!(c.room (i : Int) ((c.cask (i : Int)).leak.lo + (m : Int)) q).empty) = true) (hm : m < c.leakN (i : Int)) :
    c.firstE i q = ⟨(i : Int), (c.cask (i : Int)).leak.lo + (m : Int), c.room (i : Int) ((c.cask (i : Int)).leak.lo + (m : Int)) q⟩ := by
  obtain ⟨r, hr⟩ := leaksTo_grow (c := c) (cask := (i : Int)) (q := q) (m := m + 1) (c.leakN (i : Int) - (m + 1))
  rw [show m + 1 + (c.leakN (i : Int) - (m + 1)) = c.leakN (i : Int) by omega, leaksTo_yes' he, h0] at hr
  rw [Clr.firstE, Clr.entries, hr]; rfl
theorem take_q {c : Clr} {q : List Int} {h : Nat} (hh : h ≤ 4) (hq : q.length = 4) : FVle (.sl 1 h fun i _ => frzC ([CV.f (csks c.casks), CV.f (movs c.moves), CV.f (ggs c.gauges), CV.f (i64 (q.getD 0 0)), CV.f (i64 (q.getD 1 0)), CV.f (i64 (q.getD 2 0)), CV.f (i64 (q.getD 3 0)), CV.mp 0].getD (3 + i) (.f .any))) (ints (q.take h)) :=
  .sl (by simp; omega) fun i j hi hj => .of_eq (by
    have e : (q.take h).getD i 0 = q.getD i 0 := by simp [List.getD, List.getElem?_take, hi]
    show _ = i64 ((q.take h).getD i 0)
    rw [e]
    match i, (show i < 4 by omega) with
    | 0, _ => rfl
    | 1, _ => rfl
    | 2, _ => rfl
    | 3, _ => rfl)

theorem show1_c (c : Clr) (q : List Int) (hG : c.Good) (hql : q.length = 4) (hq : ∀ j, 0 ≤ q.getD j 0 ∧ q.getD j 0 ≤ 1000) (ha : c.atOk q) : CallC Try.prog 82 4 (lkF [(0, some (.mapb true (entD (c.starts q)))), (1, some (.cells 150 [.f (csks c.casks), .f (movs c.moves), .f (ggs c.gauges), .f (i64 (q.getD 0 0)), .f (i64 (q.getD 1 0)), .f (i64 (q.getD 2 0)), .f (i64 (q.getD 3 0)), .mp 0])), (2, some (.cells 41 [.f (csks c.casks), .f (movs c.moves), .f (ggs c.gauges)])), (3, some (.cells 72 [.f (.lit (.slice none 0 0)), .f (.lit (.slice none 0 0)), .f (.lit (.slice none 0 0))]))] fun _ => none) [.s (.c (.ptr 1 0)), .s (.c (.ptr 2 0)), .s (.c (.ptr 3 0))] 4 (lkF [(0, none), (1, none), (2, some (.cells 41 [.f (csks c.casks), .f (movs c.moves), .f (ggs c.gauges)])), (3, some (.cells 72 [.f (ints (c.showT q).start), .f (ints (c.showT q).leak), .f (ints (c.showT q).quantity)]))] fun _ => none) (aBool true) := by
  refine callC_intro tabOk mixed Try.func82 rfl rfl rfl rfl ?_
  intro w0 e0 Z0 X hX n
  have hgc := hG.casks
  have hgm := hG.moves
  have hg6 := hG.gauges
  refine vc_seq ?_
  refine vc_region ?_
  refine oq1 ?_
  refine run_nil ?_
  refine vc_seq ?_
  refine vc_seq ?_
  refine vc_ent (ent_adoptC 3 0 3 1 (fun _ _ => .any) rfl rfl rfl) ?_
  refine vc_ent (ent_adoptC 3 1 3 1 (fun _ _ => .any) rfl rfl rfl) ?_
  refine vc_region ?_
  refine oq5 ?_
  refine oq2 ?_
  refine oq1 ?_
  refine oq1 ?_
  refine run_nil ?_
  refine vc_block ?_
  refine vc_loop (κ := Nat) (fun i => i ≤ c.casks.length) (fun i => ⟨[(0, .s (.c (.ptr 1 0))), (1, .s (.c (.ptr 2 0))), (2, .s (.c (.ptr 3 0))), (10, aInt .i64 (c.casks.length : Int)), (11, aInt .i64 (i : Int))], [(0, some (.mapb true (entD (c.starts q)))), (1, some (.cells 150 [.f (csks c.casks), .f (movs c.moves), .f (ggs c.gauges), .f (i64 (q.getD 0 0)), .f (i64 (q.getD 1 0)), .f (i64 (q.getD 2 0)), .f (i64 (q.getD 3 0)), .mp 0])), (2, some (.cells 41 [.f (csks c.casks), .f (movs c.moves), .f (ggs c.gauges)])), (3, some (.cells 72 [.own 4, .own 5, .f (.lit (.slice none 0 0))])), (4, some (rowI ((List.range i).map fun i => (c.firstE i q).room.lo))), (5, some (rowI ((List.range i).map fun i => (c.firstE i q).leak)))], fun _ => none, 6⟩) (fun i => c.casks.length - i) 0 (Nat.zero_le _) ?_ ?_
  ·
    exact ent_ren [] (.cons (.refl _) rfl (.cons (.refl _) rfl (.cons (.refl _) rfl (.cons (.refl _) rfl (.cons (.refl _) rfl (.nil)))))) (.cons rfl (.refl _) rfl rfl (.cons rfl (.refl _) rfl rfl (.cons rfl (.refl _) rfl rfl (.cons rfl (.refl _) rfl rfl (.cons rfl (rowZ rfl) rfl rfl (.cons rfl (rowZ rfl) rfl rfl (.nil))))))) rfl rfl (fun i hi => ⟨piS rfl hi, Nat.lt_of_lt_of_le hi (Nat.le_of_ble_eq_true rfl)⟩)
  rintro i hi
  have hrl1 : ((List.range i).map fun i => (c.firstE i q).room.lo).length = i := by simp
  have hrl2 : ((List.range i).map fun i => (c.firstE i q).leak).length = i := by simp
  refine vc_seq ?_
  refine vc_region ?_
  refine oq6 ?_
  refine run_nil ?_
  refine vc_seq ?_
  refine vc_condP rfl (fun h1 => ?_) (fun h1 => ?_)
  ·
    try simp only [Int.toNat_natCast] at h1
    refine vc_skip ?_
    refine vc_seq ?_
    refine vc_block ?_
    refine vc_seq ?_
    refine vc_region ?_
    refine oq1 ?_
    refine oq1 ?_
    refine run_nil ?_
    refine vc_seq ?_
    have hkg := hG.cask _ (Clr.cask_mem (c := c) (i := (i : Int)) (by omega) (by omega))
    have hkm := hkg.marks
    have hkt := hkm.top
    have hkl := hkg.leak
    have hks := hkg.start
    have hln : (c.leakN (i : Int) : Int) = (c.cask (i : Int)).leak.hi - (c.cask (i : Int)).leak.lo + 1 := by unfold Clr.leakN; omega
    refine vc_regionD rfl ?_
    refine oq2 ?_
    refine oq1 ?_
    refine oq1 ?_
    refine oq1 ?_
    refine oq5 ?_
    refine oq2 ?_
    refine run_call (touched_c c (i : Int) q) [] rfl rfl rfl trivial rfl rfl rfl rfl .nil rfl rfl rfl rfl rfl ?_
    refine run_nil ⟨rfl, ?_⟩
    refine vc_block ?_
    refine vc_rangeFunc rfl Try.func102 rfl rfl rfl rfl (.inl rfl) ?_
    intro r wR eR ZR hXR nR hrs hrp hrps hra hrb hrt hrep hzr hagR
    obtain ⟨st, pd, fnx, tm, pr, asg, bd, df⟩ := r
    dsimp only at hrs hrp hrps hra hrb hrt hrep
    subst hrs hrp
    refine vc_seq ?_
    refine vc_region ?_
    refine oq5 ?_
    refine oq2 ?_
    refine oq2 ?_
    refine oq3 ?_
    refine oq2 ?_
    refine run_alloc rfl trivial rfl rfl rfl rfl (by intro _ _ h; cases h <;> (intro _; rfl)) ?_
    refine Sx.run_store rfl trivial rfl rfl rfl rfl rfl rfl rfl ?_
    refine run_nil ?_
    refine vc_seq ?_
    refine vc_region ?_
    refine oq5 ?_
    refine oq5 ?_
    refine oq2 ?_
    refine oq1 ?_
    refine run_nil ?_
    refine vc_block ?_
    refine vc_loop (κ := Nat) (fun m => m ≤ c.leakN (i : Int) ∧ c.leaksTo (i : Int) q m = []) (fun m => ⟨[(0, yieldV (eR.b 9)), (1, .s (.c (.ptr 6 0))), (2, .s (.c (.ptr 7 0))), (3, .s (.c (.ptr 8 0))), (5, .s (.c (.ptr 10 0))), (6, aInt .i64 ((c.cask (i : Int)).leak.lo + (m : Int)))], [(0, some (.mapb true (entD (c.starts q)))), (1, some (.cells 150 [.f (csks c.casks), .f (movs c.moves), .f (ggs c.gauges), .f (i64 (q.getD 0 0)), .f (i64 (q.getD 1 0)), .f (i64 (q.getD 2 0)), .f (i64 (q.getD 3 0)), .mp 0])), (2, some (.cells 41 [.f (csks c.casks), .f (movs c.moves), .f (ggs c.gauges)])), (3, some (.cells 72 [.own 4, .own 5, .f (.lit (.slice none 0 0))])), (4, some (rowI ((List.range i).map fun i => (c.firstE i q).room.lo))), (5, some (rowI ((List.range i).map fun i => (c.firstE i q).leak))), (6, some (.cells 41 [.f (csks c.casks), .f (movs c.moves), .f (ggs c.gauges)])), (7, some (.cells 3 [.f (i64 (i : Int))])), (8, some (arrQ q)), (9, some (.obj (.loop ⟨.ready, none, fnx, tm, pr, asg, bd, df⟩))), (10, some (.cells 104 [.f (mks (c.cask (i : Int)).marks), .f (i64 (c.cask (i : Int)).start.lo), .f (i64 (c.cask (i : Int)).start.hi), .f (i64 (c.cask (i : Int)).leak.lo), .f (i64 (c.cask (i : Int)).leak.hi)]))], fun _ => none, 11⟩) (fun m => c.leakN (i : Int) - m) 0 ⟨Nat.zero_le _, by simp [Clr.leaksTo]⟩ ?_ ?_
    ·
      exact ent_ren [] (.cons (.refl _) rfl (.cons (.refl _) rfl (.cons (.refl _) rfl (.cons (.refl _) rfl (.cons (.refl _) rfl (.cons (.of_eq (aInt_eq (by show (c.cask (i : Int)).leak.lo = (c.cask (i : Int)).leak.lo + ((0 : Nat) : Int); omega))) rfl (.nil))))))) (.cons rfl (.refl _) rfl rfl (.cons rfl (.refl _) rfl rfl (.cons rfl (.refl _) rfl rfl (.cons rfl (.refl _) rfl rfl (.cons rfl (.refl _) rfl rfl (.cons rfl (.refl _) rfl rfl (.cons rfl (.refl _) rfl rfl (.cons rfl (.refl _) rfl rfl (.cons rfl (.refl _) rfl rfl (.cons rfl (.refl _) rfl rfl (.cons rfl (.refl _) rfl rfl (.nil)))))))))))) rfl rfl (fun i hi => ⟨piS rfl hi, Nat.lt_of_lt_of_le hi (Nat.le_of_ble_eq_true rfl)⟩)
    rintro m ⟨hm, hlk⟩
    refine vc_seq ?_
    refine vc_seq ?_
    refine vc_region ?_
    refine oq1 ?_
    refine oq5 ?_
    refine oq5 ?_
    refine oq2 ?_
    refine oq6 ?_
    refine run_nil ?_
    refine vc_condP rfl (fun h2 => ?_) (fun h2 => ?_)
    ·
      try simp only [Int.toNat_natCast] at h2
      refine vc_skip ?_
      refine vc_seq ?_
      refine vc_block ?_
      refine vc_seq ?_
      refine vc_region ?_
      refine oq5 ?_
      refine oq2 ?_
      refine run_alloc rfl trivial rfl rfl rfl rfl (by intro _ _ h; cases h <;> (intro _; rfl)) ?_
      refine Sx.run_store rfl trivial rfl rfl rfl rfl rfl rfl rfl ?_
      refine run_nil ?_
      refine vc_seq ?_
      refine vc_region ?_
      have hlk0 : 0 ≤ ((c.cask (i : Int)).leak.lo + (m : Int)) := by omega
      have hlk4 : ((c.cask (i : Int)).leak.lo + (m : Int)) ≤ 4 := by omega
      refine oq2 ?_
      refine oq2 ?_
      refine oq1 ?_
      refine oq2 ?_
      refine run_call (gains_c c (i : Int) ((c.cask (i : Int)).leak.lo + (m : Int)) q (by omega) (by omega) (by omega) (by assumption)) [] rfl rfl rfl trivial rfl rfl rfl rfl .nil rfl rfl rfl rfl rfl ?_
      refine oq1 ?_
      refine run_nil ?_
      refine vc_ent (ent_fz 12 rfl) ?_
      refine vc_seq ?_
      refine vc_seq ?_
      refine vc_region ?_
      refine oq1 ?_
      refine oq1 ?_
      refine oq1 ?_
      refine run_nil ?_
      refine vc_block ?_
      refine vc_loop (κ := Nat) (fun j => j ≤ c.moves.length + 1) (fun j => ⟨[(0, yieldV (eR.b 9)), (1, .s (.c (.ptr 6 0))), (2, .s (.c (.ptr 7 0))), (3, .s (.c (.ptr 8 0))), (5, .s (.c (.ptr 10 0))), (6, aInt .i64 ((c.cask (i : Int)).leak.lo + (m : Int))), (7, .s (.c (.ptr 11 0))), (8, .s (.c (.f (.sl 1 (c.moves.length + 1) fun t _ => i64 (c.gain (i : Int) ((c.cask (i : Int)).leak.lo + (m : Int)) q t))))), (37, .s (.c (.f (.sl 1 (c.moves.length + 1) fun t _ => i64 (c.gain (i : Int) ((c.cask (i : Int)).leak.lo + (m : Int)) q t))))), (38, aInt .i64 ((c.moves.length + 1 : Nat) : Int)), (39, aInt .i64 (j : Int))], [(0, some (.mapb true (entD (c.starts q)))), (1, some (.cells 150 [.f (csks c.casks), .f (movs c.moves), .f (ggs c.gauges), .f (i64 (q.getD 0 0)), .f (i64 (q.getD 1 0)), .f (i64 (q.getD 2 0)), .f (i64 (q.getD 3 0)), .mp 0])), (2, some (.cells 41 [.f (csks c.casks), .f (movs c.moves), .f (ggs c.gauges)])), (3, some (.cells 72 [.own 4, .own 5, .f (.lit (.slice none 0 0))])), (4, some (rowI ((List.range i).map fun i => (c.firstE i q).room.lo))), (5, some (rowI ((List.range i).map fun i => (c.firstE i q).leak))), (6, some (.cells 41 [.f (csks c.casks), .f (movs c.moves), .f (ggs c.gauges)])), (7, some (.cells 3 [.f (i64 (i : Int))])), (8, some (arrQ q)), (9, some (.obj (.loop ⟨.ready, none, fnx, tm, pr, asg, bd, df⟩))), (10, some (.cells 104 [.f (mks (c.cask (i : Int)).marks), .f (i64 (c.cask (i : Int)).start.lo), .f (i64 (c.cask (i : Int)).start.hi), .f (i64 (c.cask (i : Int)).leak.lo), .f (i64 (c.cask (i : Int)).leak.hi)])), (11, some (.cells 64 [.f (i64 (meetG c (i : Int) ((c.cask (i : Int)).leak.lo + (m : Int)) q (c.cask (i : Int)).start j).lo), .f (i64 (meetG c (i : Int) ((c.cask (i : Int)).leak.lo + (m : Int)) q (c.cask (i : Int)).start j).hi)]))], fun _ => none, 12⟩) (fun j => c.moves.length + 1 - j) 0 (Nat.zero_le _) ?_ ?_
      ·
        exact ent_ren [] (.cons (.refl _) rfl (.cons (.refl _) rfl (.cons (.refl _) rfl (.cons (.refl _) rfl (.cons (.refl _) rfl (.cons (.refl _) rfl (.cons (.refl _) rfl (.cons (.refl _) rfl (.cons (.refl _) rfl (.cons (.refl _) rfl (.cons (.refl _) rfl (.nil)))))))))))) (.cons rfl (.refl _) rfl rfl (.cons rfl (.refl _) rfl rfl (.cons rfl (.refl _) rfl rfl (.cons rfl (.refl _) rfl rfl (.cons rfl (.refl _) rfl rfl (.cons rfl (.refl _) rfl rfl (.cons rfl (.refl _) rfl rfl (.cons rfl (.refl _) rfl rfl (.cons rfl (.refl _) rfl rfl (.cons rfl (.refl _) rfl rfl (.cons rfl (.refl _) rfl rfl (.cons rfl (.refl _) rfl rfl (.nil))))))))))))) rfl rfl (fun i hi => ⟨piS rfl hi, Nat.lt_of_lt_of_le hi (Nat.le_of_ble_eq_true rfl)⟩)
      rintro j hj
      refine vc_seq ?_
      refine vc_region ?_
      refine oq6 ?_
      refine run_nil ?_
      refine vc_seq ?_
      refine vc_condP rfl (fun h3 => ?_) (fun h3 => ?_)
      ·
        try simp only [Int.toNat_natCast] at h3
        refine vc_skip ?_
        refine vc_seq ?_
        refine vc_block ?_
        refine vc_seq ?_
        refine vc_region ?_
        refine oq3 ?_
        refine oq2 ?_
        refine oq1 ?_
        refine run_nil ?_
        refine vc_regionD rfl ?_
        have hgb := gain_bounds (c := c) (cask := (i : Int)) hlk0 hlk4 hq j
        refine oq2 ?_
        refine oq1 ?_
        refine run_q rfl trivial rfl rfl rfl (arc (by (try simp only [Int.toNat_natCast]); omega) (by (try simp only [Int.toNat_natCast]); omega)) ?_
        refine oq2 ?_
        refine run_callP (top_c (c.cask (i : Int)) hkm.pos) rfl rfl rfl trivial rfl rfl rfl rfl ?_
        refine run_q rfl trivial rfl rfl rfl (Nat.le_of_ble_eq_true rfl) ?_
        refine oq1 ?_
        refine oq4 ?_
        refine oq1 ?_
        refine run_callP (meet_c (meetG c (i : Int) ((c.cask (i : Int)).leak.lo + (m : Int)) q (c.cask (i : Int)).start j) ⟨-c.gain (i : Int) ((c.cask (i : Int)).leak.lo + (m : Int)) q j, (c.cask (i : Int)).top.content - c.gain (i : Int) ((c.cask (i : Int)).leak.lo + (m : Int)) q j⟩) rfl rfl rfl trivial rfl rfl rfl rfl ?_
        refine Sx.run_store rfl trivial rfl rfl rfl rfl rfl rfl rfl ?_
        refine run_nil ⟨rfl, ?_⟩
        refine vc_region ?_
        refine oq4 ?_
        refine oq1 ?_
        refine run_nil ?_
        refine ⟨j + 1, by omega, by omega, ent_ren [] (.cons (.refl _) rfl (.cons (.refl _) rfl (.cons (.refl _) rfl (.cons (.refl _) rfl (.cons (.refl _) rfl (.cons (.refl _) rfl (.cons (.refl _) rfl (.cons (.refl _) rfl (.cons (.refl _) rfl (.cons (.refl _) rfl (.cons (.refl _) rfl (.nil)))))))))))) (.cons rfl (.refl _) rfl rfl (.cons rfl (.refl _) rfl rfl (.cons rfl (.refl _) rfl rfl (.cons rfl (.refl _) rfl rfl (.cons rfl (.refl _) rfl rfl (.cons rfl (.refl _) rfl rfl (.cons rfl (.refl _) rfl rfl (.cons rfl (.refl _) rfl rfl (.cons rfl (.refl _) rfl rfl (.cons rfl (.refl _) rfl rfl (.cons rfl (.refl _) rfl rfl (.cons rfl (.refl _) rfl rfl (.nil))))))))))))) rfl rfl (fun i hi => ⟨piS rfl hi, Nat.lt_of_lt_of_le hi (Nat.le_of_ble_eq_true rfl)⟩)⟩
      ·
        try simp only [Int.toNat_natCast] at h3
        refine vc_exit ?_
        refine vc_seq ?_
        refine vc_seq ?_
        obtain rfl : j = c.moves.length + 1 := by omega
        refine vc_region ?_
        refine oq5 ?_
        refine oq2 ?_
        refine oq1 ?_
        refine oq1 ?_
        refine run_nil ?_
        refine vc_block ?_
        refine vc_loop (κ := Nat) (fun j => j ≤ c.gauges.length) (fun j => ⟨[(0, yieldV (eR.b 9)), (1, .s (.c (.ptr 6 0))), (2, .s (.c (.ptr 7 0))), (3, .s (.c (.ptr 8 0))), (5, .s (.c (.ptr 10 0))), (6, aInt .i64 ((c.cask (i : Int)).leak.lo + (m : Int))), (7, .s (.c (.ptr 11 0))), (8, .s (.c (.f (.sl 1 (c.moves.length + 1) fun t _ => i64 (c.gain (i : Int) ((c.cask (i : Int)).leak.lo + (m : Int)) q t))))), (55, .s (.c (.f (ggs c.gauges)))), (56, aInt .i64 (c.gauges.length : Int)), (57, aInt .i64 (j : Int))], [(0, some (.mapb true (entD (c.starts q)))), (1, some (.cells 150 [.f (csks c.casks), .f (movs c.moves), .f (ggs c.gauges), .f (i64 (q.getD 0 0)), .f (i64 (q.getD 1 0)), .f (i64 (q.getD 2 0)), .f (i64 (q.getD 3 0)), .mp 0])), (2, some (.cells 41 [.f (csks c.casks), .f (movs c.moves), .f (ggs c.gauges)])), (3, some (.cells 72 [.own 4, .own 5, .f (.lit (.slice none 0 0))])), (4, some (rowI ((List.range i).map fun i => (c.firstE i q).room.lo))), (5, some (rowI ((List.range i).map fun i => (c.firstE i q).leak))), (6, some (.cells 41 [.f (csks c.casks), .f (movs c.moves), .f (ggs c.gauges)])), (7, some (.cells 3 [.f (i64 (i : Int))])), (8, some (arrQ q)), (9, some (.obj (.loop ⟨.ready, none, fnx, tm, pr, asg, bd, df⟩))), (10, some (.cells 104 [.f (mks (c.cask (i : Int)).marks), .f (i64 (c.cask (i : Int)).start.lo), .f (i64 (c.cask (i : Int)).start.hi), .f (i64 (c.cask (i : Int)).leak.lo), .f (i64 (c.cask (i : Int)).leak.hi)])), (11, some (.cells 64 [.f (i64 (meetM c (i : Int) ((c.cask (i : Int)).leak.lo + (m : Int)) q (meetG c (i : Int) ((c.cask (i : Int)).leak.lo + (m : Int)) q (c.cask (i : Int)).start (c.moves.length + 1)) j).lo), .f (i64 (meetM c (i : Int) ((c.cask (i : Int)).leak.lo + (m : Int)) q (meetG c (i : Int) ((c.cask (i : Int)).leak.lo + (m : Int)) q (c.cask (i : Int)).start (c.moves.length + 1)) j).hi)]))], fun _ => none, 12⟩) (fun j => c.gauges.length - j) 0 (Nat.zero_le _) ?_ ?_
        ·
          exact ent_ren [] (.cons (.refl _) rfl (.cons (.refl _) rfl (.cons (.refl _) rfl (.cons (.refl _) rfl (.cons (.refl _) rfl (.cons (.refl _) rfl (.cons (.refl _) rfl (.cons (.refl _) rfl (.cons (.refl _) rfl (.cons (.refl _) rfl (.cons (.refl _) rfl (.nil)))))))))))) (.cons rfl (.refl _) rfl rfl (.cons rfl (.refl _) rfl rfl (.cons rfl (.refl _) rfl rfl (.cons rfl (.refl _) rfl rfl (.cons rfl (.refl _) rfl rfl (.cons rfl (.refl _) rfl rfl (.cons rfl (.refl _) rfl rfl (.cons rfl (.refl _) rfl rfl (.cons rfl (.refl _) rfl rfl (.cons rfl (.refl _) rfl rfl (.cons rfl (.refl _) rfl rfl (.cons rfl (.refl _) rfl rfl (.nil))))))))))))) rfl rfl (fun i hi => ⟨piS rfl hi, Nat.lt_of_lt_of_le hi (Nat.le_of_ble_eq_true rfl)⟩)
        rintro j hj
        refine vc_seq ?_
        refine vc_region ?_
        refine oq6 ?_
        refine run_nil ?_
        refine vc_seq ?_
        refine vc_condP rfl (fun h4 => ?_) (fun h4 => ?_)
        ·
          try simp only [Int.toNat_natCast] at h4
          refine vc_skip ?_
          refine vc_seq ?_
          refine vc_block ?_
          refine vc_seq ?_
          refine vc_region ?_
          refine oq3 ?_
          refine oq2 ?_
          refine run_alloc rfl trivial rfl rfl rfl rfl (by intro _ _ h; cases h <;> (intro _; rfl)) ?_
          refine Sx.run_store rfl trivial rfl rfl rfl rfl rfl rfl rfl ?_
          refine run_nil ?_
          refine vc_seq ?_
          refine vc_region ?_
          refine oq5 ?_
          refine oq2 ?_
          refine oq2 ?_
          refine oq6 ?_
          refine run_nil ?_
          refine vc_condP rfl (fun h5 => ?_) (fun h5 => ?_)
          ·
            try simp only [Int.toNat_natCast] at h5
            refine vc_seq ?_
            refine vc_regionD rfl ?_
            have hgg := hG.gauge _ (getD_mem (d := default) (show j < c.gauges.length by omega))
            have hmb := mean_bounds hG (getD_mem (d := default) (show j < c.gauges.length by omega))
            have hgb := gain_bounds (c := c) (cask := (i : Int)) hlk0 hlk4 hq (c.gauges.getD j default).after.toNat
            refine oq2 ?_
            refine oq2 ?_
            refine run_callP (mean_c c (c.gauges.getD j default) hgg.1.1 hgg.1.2 (hG.cask _ (Clr.cask_mem hgg.1.1 hgg.1.2)).marks hgg.2.2.1 hgg.2.2.2.1 hgg.2.2.2.2) rfl rfl rfl trivial rfl rfl rfl rfl ?_
            refine oq1 ?_
            refine oq5 ?_
            refine oq2 ?_
            refine oq3 ?_
            refine oq2 ?_
            refine run_alloc rfl trivial rfl rfl rfl rfl (by intro _ _ h; cases h <;> (intro _; rfl)) ?_
            refine Sx.run_store rfl trivial rfl rfl rfl rfl rfl rfl rfl ?_
            refine oq1 ?_
            refine run_nil ⟨rfl, ?_⟩
            refine vc_region ?_
            refine oq2 ?_
            refine oq5 ?_
            refine oq2 ?_
            refine oq1 ?_
            refine oq4 ?_
            refine oq5 ?_
            refine oq2 ?_
            refine oq1 ?_
            refine oq4 ?_
            refine oq1 ?_
            refine run_callP (meet_c (meetM c (i : Int) ((c.cask (i : Int)).leak.lo + (m : Int)) q (meetG c (i : Int) ((c.cask (i : Int)).leak.lo + (m : Int)) q (c.cask (i : Int)).start (c.moves.length + 1)) j) ⟨(c.mean (c.gauges.getD j default)).lo - c.gain (i : Int) ((c.cask (i : Int)).leak.lo + (m : Int)) q (c.gauges.getD j default).after.toNat, (c.mean (c.gauges.getD j default)).hi - c.gain (i : Int) ((c.cask (i : Int)).leak.lo + (m : Int)) q (c.gauges.getD j default).after.toNat⟩) rfl rfl rfl trivial rfl rfl rfl rfl ?_
            refine Sx.run_store rfl trivial rfl rfl rfl rfl rfl rfl rfl ?_
            refine run_nil ?_
            refine vc_region ?_
            refine oq4 ?_
            refine oq1 ?_
            refine run_nil ?_
            refine ⟨j + 1, by omega, by omega, ent_ren [] (.cons (.refl _) rfl (.cons (.refl _) rfl (.cons (.refl _) rfl (.cons (.refl _) rfl (.cons (.refl _) rfl (.cons (.refl _) rfl (.cons (.refl _) rfl (.cons (.refl _) rfl (.cons (.refl _) rfl (.cons (.refl _) rfl (.cons (.refl _) rfl (.nil)))))))))))) (.cons rfl (.refl _) rfl rfl (.cons rfl (.refl _) rfl rfl (.cons rfl (.refl _) rfl rfl (.cons rfl (.refl _) rfl rfl (.cons rfl (.refl _) rfl rfl (.cons rfl (.refl _) rfl rfl (.cons rfl (.refl _) rfl rfl (.cons rfl (.refl _) rfl rfl (.cons rfl (.refl _) rfl rfl (.cons rfl (.refl _) rfl rfl (.cons rfl (.refl _) rfl rfl (.cons rfl ((by first | (rw [meetM_yes (by assumption)]; exact .refl _) | (rw [meetM_no (by assumption)]; exact .refl _))) rfl rfl (.nil))))))))))))) rfl rfl (fun i hi => ⟨piS rfl hi, Nat.lt_of_lt_of_le hi (Nat.le_of_ble_eq_true rfl)⟩)⟩
          ·
            try simp only [Int.toNat_natCast] at h5
            refine vc_skip ?_
            refine vc_region ?_
            refine oq4 ?_
            refine oq1 ?_
            refine run_nil ?_
            refine ⟨j + 1, by omega, by omega, ent_ren [] (.cons (.refl _) rfl (.cons (.refl _) rfl (.cons (.refl _) rfl (.cons (.refl _) rfl (.cons (.refl _) rfl (.cons (.refl _) rfl (.cons (.refl _) rfl (.cons (.refl _) rfl (.cons (.refl _) rfl (.cons (.refl _) rfl (.cons (.refl _) rfl (.nil)))))))))))) (.cons rfl (.refl _) rfl rfl (.cons rfl (.refl _) rfl rfl (.cons rfl (.refl _) rfl rfl (.cons rfl (.refl _) rfl rfl (.cons rfl (.refl _) rfl rfl (.cons rfl (.refl _) rfl rfl (.cons rfl (.refl _) rfl rfl (.cons rfl (.refl _) rfl rfl (.cons rfl (.refl _) rfl rfl (.cons rfl (.refl _) rfl rfl (.cons rfl (.refl _) rfl rfl (.cons rfl ((by first | (rw [meetM_yes (by assumption)]; exact .refl _) | (rw [meetM_no (by assumption)]; exact .refl _))) rfl rfl (.nil))))))))))))) rfl rfl (fun i hi => ⟨piS rfl hi, Nat.lt_of_lt_of_le hi (Nat.le_of_ble_eq_true rfl)⟩)⟩
        ·
          try simp only [Int.toNat_natCast] at h4
          refine vc_exit ?_
          refine vc_seq ?_
          obtain rfl : j = c.gauges.length := by omega
          refine vc_regionT ?_
          refine t1 ?_
          refine oq2 ?_
          refine run_nil ?_
          refine t1 ?_
          refine run_callP (empty_c (c.room (i : Int) ((c.cask (i : Int)).leak.lo + (m : Int)) q)) rfl rfl rfl trivial rfl rfl rfl rfl ?_
          refine run_nil ?_
          refine t1 ?_
          refine oq1 ?_
          refine run_nil ?_
          refine t1 ?_
          refine oq1 ?_
          refine run_nil ?_
          refine runT_split 88 rfl (fun h6 => ?_) (fun h6 => ?_)
          ·
            try simp only [Int.toNat_natCast] at h6
            refine t1 ?_
            refine oq1 ?_
            refine run_nil ?_
            refine t1 ?_
            refine oq1 ?_
            refine run_nil ?_
            refine t1 ?_
            refine oq2 ?_
            refine run_nil ?_
            have hfe := firstE_at (c := c) (i := i) (q := q) (m := m) hlk (by assumption) (by omega)
            subst hrps hra hrb
            refine runT_yieldN (lid := 9) hrt rfl rfl rfl rfl rfl rfl (blt_of rfl) rfl rfl rfl rfl rfl (by simp only [hrt]; rfl) hrep hzr ?_
            intro wY eY ZY hXY nY hagY
            refine vc_seq ?_
            refine vc_region ?_
            refine oq1 ?_
            refine run_nil ?_
            refine vc_region ?_
            refine run_alloc rfl trivial rfl rfl rfl rfl (by intro _ _ h; cases h <;> (intro _; rfl)) ?_
            refine Sx.run_store rfl trivial rfl rfl rfl rfl rfl rfl rfl ?_
            refine run_nil ?_
            refine ⟨rfl, ?_⟩
            refine vc_block ?_
            refine vc_seq ?_
            refine vc_regionD rfl ?_
            refine oq5 ?_
            refine oq2 ?_
            refine oq5 ?_
            refine oq2 ?_
            refine run_buildSlice rfl trivial rfl rfl rfl rfl rfl rfl rfl rfl rfl ?_
            refine run_append rfl rfl rfl rfl trivial rfl rfl rfl rfl rfl rfl rfl rfl rfl rfl rfl (by first | omega | exact app_room (by omega) rfl) ?_
            refine oq5 ?_
            refine oq2 ?_
            refine oq1 ?_
            refine run_buildSlice rfl trivial rfl rfl rfl rfl rfl rfl rfl rfl rfl ?_
            refine run_append rfl rfl rfl rfl trivial rfl rfl rfl rfl rfl rfl rfl rfl rfl rfl rfl (by first | omega | exact app_room (by omega) rfl) ?_
            refine oq5 ?_
            refine Sx.run_store rfl trivial rfl rfl rfl rfl rfl rfl rfl ?_
            refine oq5 ?_
            refine Sx.run_store rfl trivial rfl rfl rfl rfl rfl rfl rfl ?_
            refine run_nil ⟨rfl, ?_⟩
            refine vc_exit ?_
            refine ⟨rfl, ?_⟩
            refine t1 ?_
            refine oq1 ?_
            refine run_nil ?_
            refine t1 ?_
            refine oq1 ?_
            refine run_nil ?_
            refine runT_nil ?_
            refine vc_cond rfl (fun _ => ?_) (fun h => Bool.noConfusion h)
            refine vc_ret ?_
            refine ⟨_, rfl, (by intro h; cases h), ?_⟩
            refine vc_exit ?_
            refine vc_region ?_
            refine oq4 ?_
            refine oq1 ?_
            refine run_nil ?_
            refine ⟨i + 1, by omega, by omega, ent_ren [(4, 13), (5, 14)] (.cons (.refl _) rfl (.cons (.refl _) rfl (.cons (.refl _) rfl (.cons (.refl _) rfl (.cons (.refl _) rfl (.nil)))))) (.cons rfl (.refl _) rfl rfl (.cons rfl (.refl _) rfl rfl (.cons rfl (.refl _) rfl rfl (.cons rfl (.refl _) rfl rfl (.cons rfl (rowI_snoc _ _ (by rw [List.range_succ, List.map_append, List.map_singleton, hfe]; rfl) (.refl _)) rfl rfl (.cons rfl (rowI_snoc _ _ (by rw [List.range_succ, List.map_append, List.map_singleton, hfe]) (.refl _)) rfl rfl (.nil))))))) rfl rfl (fun i hi => ⟨piS rfl hi, Nat.lt_of_lt_of_le hi (Nat.le_of_ble_eq_true rfl)⟩)⟩
          ·
            try simp only [Int.toNat_natCast] at h6
            refine t1 ?_
            refine osk ?_
            refine run_nil ?_
            refine t1 ?_
            refine osk ?_
            refine run_nil ?_
            refine t1 ?_
            refine osk ?_
            refine run_nil ?_
            refine t1 ?_
            refine osk ?_
            refine run_nil ?_
            refine t1 ?_
            refine osk ?_
            refine run_nil ?_
            refine t1 ?_
            refine oq1 ?_
            refine run_nil ?_
            refine runT_nil ?_
            refine vc_cond rfl (fun h => Bool.noConfusion h) (fun _ => ?_)
            refine vc_skip ?_
            refine vc_region ?_
            refine oq1 ?_
            refine oq4 ?_
            refine oq1 ?_
            refine run_nil ?_
            have hlk1 : c.leaksTo (i : Int) q (m + 1) = [] := by rw [leaksTo_no' (by assumption), hlk]
            refine ⟨m + 1, ⟨by omega, hlk1⟩, by omega, ent_ren [] (.cons (.refl _) rfl (.cons (.refl _) rfl (.cons (.refl _) rfl (.cons (.refl _) rfl (.cons (.refl _) rfl (.cons (.of_eq (aInt_eq (by omega))) rfl (.nil))))))) (.cons rfl (.refl _) rfl rfl (.cons rfl (.refl _) rfl rfl (.cons rfl (.refl _) rfl rfl (.cons rfl (.refl _) rfl rfl (.cons rfl (.refl _) rfl rfl (.cons rfl (.refl _) rfl rfl (.cons rfl (.refl _) rfl rfl (.cons rfl (.refl _) rfl rfl (.cons rfl (.refl _) rfl rfl (.cons rfl (.refl _) rfl rfl (.cons rfl (.refl _) rfl rfl (.nil)))))))))))) rfl rfl (fun i hi => ⟨piS rfl hi, Nat.lt_of_lt_of_le hi (Nat.le_of_ble_eq_true rfl)⟩)⟩
    ·
      try simp only [Int.toNat_natCast] at h2
      refine vc_exit ?_
      refine ⟨_, rfl, (by intro h; cases h), ?_⟩
      exact absurd (show c.entries (i : Int) q = [] by rw [Clr.entries, show c.leakN (i : Int) = m by omega]; exact hlk) (ha i (by omega))
  ·
    try simp only [Int.toNat_natCast] at h1
    refine vc_exit ?_
    refine vc_seq ?_
    obtain rfl : i = c.casks.length := by omega
    refine vc_ent (ent_fz 4 rfl) ?_
    refine vc_ent (ent_fz 5 rfl) ?_
    refine vc_ent (ent_fzC 1 0 rfl rfl) ?_
    refine vc_regionD rfl ?_
    refine oq1 ?_
    refine oq1 ?_
    refine oq5 ?_
    refine oq5 ?_
    refine oq2 ?_
    refine oq1 ?_
    refine run_sliceF (h := c.moves.length) rfl trivial rfl rfl rfl rfl rfl rfl rfl rfl rfl rfl rfl rfl (by omega) (take_q (c := c) (by omega) hql) ?_
    refine run_callP (cloneI_c (q.take c.moves.length) (by rw [List.length_take]; omega)) rfl rfl rfl trivial rfl rfl rfl rfl ?_
    refine oq5 ?_
    refine Sx.run_store rfl trivial rfl rfl rfl rfl rfl rfl rfl ?_
    refine run_nil ⟨rfl, ?_⟩
    refine vc_seq ?_
    refine vc_region ?_
    refine oq1 ?_
    refine run_nil ?_
    refine vc_ret ?_
    exact ⟨[], _, _, rfl, trivial, AVle.refl _, rfl, .no (.no (.cons rfl (.refl _) rfl rfl (.cons rfl (.refl _) rfl rfl (.nil)))), rfl, fun i hi => rfl⟩

end Go.Proofs.Ytnkgdapdccpjmaa

/- works, for Show. -/
namespace Go.Proofs.Ytnkgdapdccpjmaa
open Go Go.RowKit Go.Sx

def truS : Option Tru → FV
  | none => .lit (.slice none 0 0)
  | some t => ints t.start
def truL : Option Tru → FV
  | none => .lit (.slice none 0 0)
  | some t => ints t.leak
def truQ : Option Tru → FV
  | none => .lit (.slice none 0 0)
  | some t => ints t.quantity
/-- What is kept abides while nothing was enough, if all is enough that is asked. -/
theorem loop_kept {S β : Type} {g : Int → S → Bool × S} {f : S → β} (hg : ∀ v s, (g v s).1 = false → f (g v s).2 = f s) : ∀ (k : Nat) (v : Int) (s : S), (loopF g k v s).1 = false → f (loopF g k v s).2 = f s
  | 0, _, _, _ => rfl
  | k + 1, v, s, h => by
    cases hb : (g v s).1 with
    | true => rw [loopF_stop hb] at h; cases h
    | false =>
      rw [loopF_on hb] at h ⊢
      rw [loop_kept hg k (v + 1) _ h, hg v s hb]
theorem choose_kept {S β : Type} {leaf : List Int → S → Bool × S} {f : S → β} (hl : ∀ q s, (leaf q s).1 = false → f (leaf q s).2 = f s) : ∀ (ms : List Mov) (i : Nat) (q : List Int) (s : S), (chooseM leaf ms i q s).1 = false → f (chooseM leaf ms i q s).2 = f s
  | [], i, q, s, h => hl q s h
  | m :: ms, i, q, s, h => loop_kept (fun v s => choose_kept hl ms (i + 1) (q.set i v) s) _ _ s h
theorem leafS_kept {α : Type} {c : Clr} {f : List Int → α} (q : List Int) (s : Tried (Option α)) (h : (leafM c (fun q _ => (true, some (f q))) q s).1 = false) : (leafM c (fun q _ => (true, some (f q))) q s).2.kept = s.kept := by
  rw [leafM] at h ⊢
  split
  · rfl
  · rename_i h1
    rw [if_neg h1] at h
    split
    · rename_i h2; rw [if_pos h2] at h; cases h
    · rfl

theorem chooseS_s (c : Clr) (hG : c.Good)  (i : Nat) (hi : i ≤ c.moves.length) (q : List Int) (s : Tried (Option Tru)) (hql : q.length = 4) (hq : ∀ j, 0 ≤ q.getD j 0 ∧ q.getD j 0 ≤ 1000) (hk : s.kept = none) (R : Bool × Tried (Option Tru)) (hR : chooseM (leafM c (fun q _ => (true, some (c.showT q)))) (c.moves.drop i) i q s = R) (ih : ∀ (q : List Int) (s : Tried (Option Tru)), i < c.moves.length → q.length = 4 → (∀ j, 0 ≤ q.getD j 0 ∧ q.getD j 0 ≤ 1000) → s.kept = none → CallC Try.prog 100 7 (lkF [(0, some (.cells 41 [.f (csks c.casks), .f (movs c.moves), .f (ggs c.gauges)])), (1, some (.cells 171 [.fn 100 [] [0, 1, 2, 3, 4]])), (2, some (.cells 4 [.f (.bool s.tried)])), (3, some (arrQ s.last)), (4, some (.cells 151 [.fn 82 [] [5, 6]])), (5, some (.cells 41 [.f (csks c.casks), .f (movs c.moves), .f (ggs c.gauges)])), (6, some (.cells 72 [.f (.lit (.slice none 0 0)), .f (.lit (.slice none 0 0)), .f (.lit (.slice none 0 0))]))] fun _ => none) [aInt .i64 ((i : Int) + 1), aQ q, .s (.c (.ptr 0 0)), .s (.c (.ptr 1 0)), .s (.c (.ptr 2 0)), .s (.c (.ptr 3 0)), .s (.c (.ptr 4 0))] 7 (lkF [(0, some (.cells 41 [.f (csks c.casks), .f (movs c.moves), .f (ggs c.gauges)])), (1, some (.cells 171 [.fn 100 [] [0, 1, 2, 3, 4]])), (2, some (.cells 4 [.f (.bool (chooseM (leafM c (fun q _ => (true, some (c.showT q)))) (c.moves.drop (i + 1)) (i + 1) q s).2.tried)])), (3, some (arrQ (chooseM (leafM c (fun q _ => (true, some (c.showT q)))) (c.moves.drop (i + 1)) (i + 1) q s).2.last)), (4, some (.cells 151 [.fn 82 [] [5, 6]])), (5, some (.cells 41 [.f (csks c.casks), .f (movs c.moves), .f (ggs c.gauges)])), (6, some (.cells 72 [.f (truS (chooseM (leafM c (fun q _ => (true, some (c.showT q)))) (c.moves.drop (i + 1)) (i + 1) q s).2.kept), .f (truL (chooseM (leafM c (fun q _ => (true, some (c.showT q)))) (c.moves.drop (i + 1)) (i + 1) q s).2.kept), .f (truQ (chooseM (leafM c (fun q _ => (true, some (c.showT q)))) (c.moves.drop (i + 1)) (i + 1) q s).2.kept)]))] fun _ => none) (aBool (chooseM (leafM c (fun q _ => (true, some (c.showT q)))) (c.moves.drop (i + 1)) (i + 1) q s).1)) : CallC Try.prog 100 7 (lkF [(0, some (.cells 41 [.f (csks c.casks), .f (movs c.moves), .f (ggs c.gauges)])), (1, some (.cells 171 [.fn 100 [] [0, 1, 2, 3, 4]])), (2, some (.cells 4 [.f (.bool s.tried)])), (3, some (arrQ s.last)), (4, some (.cells 151 [.fn 82 [] [5, 6]])), (5, some (.cells 41 [.f (csks c.casks), .f (movs c.moves), .f (ggs c.gauges)])), (6, some (.cells 72 [.f (.lit (.slice none 0 0)), .f (.lit (.slice none 0 0)), .f (.lit (.slice none 0 0))]))] fun _ => none) [aInt .i64 (i : Int), aQ q, .s (.c (.ptr 0 0)), .s (.c (.ptr 1 0)), .s (.c (.ptr 2 0)), .s (.c (.ptr 3 0)), .s (.c (.ptr 4 0))] 7 (lkF [(0, some (.cells 41 [.f (csks c.casks), .f (movs c.moves), .f (ggs c.gauges)])), (1, some (.cells 171 [.fn 100 [] [0, 1, 2, 3, 4]])), (2, some (.cells 4 [.f (.bool R.2.tried)])), (3, some (arrQ R.2.last)), (4, some (.cells 151 [.fn 82 [] [5, 6]])), (5, some (.cells 41 [.f (csks c.casks), .f (movs c.moves), .f (ggs c.gauges)])), (6, some (.cells 72 [.f (truS R.2.kept), .f (truL R.2.kept), .f (truQ R.2.kept)]))] fun _ => none) (aBool R.1) := by
  refine callC_intro tabOk mixed Try.func100 rfl rfl rfl rfl ?_
  intro w0 e0 Z0 X hX n
  have hgm := hG.moves
  refine vc_seq ?_
  refine vc_region ?_
  refine run_box rfl trivial rfl rfl rfl rfl rfl rfl (by intro _ _ h; cases h <;> (intro _; rfl)) ?_
  refine oq1 ?_
  refine run_nil ?_
  refine vc_ent (ent_blk 7 rfl (arrQ_le rfl rfl rfl rfl)) ?_
  refine vc_seq ?_
  refine vc_seq ?_
  refine vc_region ?_
  refine oq1 ?_
  refine oq5 ?_
  refine oq2 ?_
  refine oq1 ?_
  refine oq6 ?_
  refine run_nil ?_
  refine vc_condP rfl (fun h1 => ?_) (fun h1 => ?_)
  ·
    try simp only [Int.toNat_natCast] at h1
    have hlt : i < c.moves.length := by have := h1; omega
    have hmi := hG.move _ (getD_mem (d := default) hlt)
    refine vc_seq ?_
    refine vc_region ?_
    refine oq5 ?_
    refine oq2 ?_
    refine oq1 ?_
    refine oq3 ?_
    refine oq5 ?_
    refine oq2 ?_
    refine run_alloc rfl trivial rfl rfl rfl rfl (by intro _ _ h; cases h <;> (intro _; rfl)) ?_
    refine Sx.run_store rfl trivial rfl rfl rfl rfl rfl rfl rfl ?_
    refine run_nil ?_
    refine vc_seq ?_
    refine vc_seq ?_
    refine vc_region ?_
    refine oq5 ?_
    refine oq2 ?_
    refine oq5 ?_
    refine oq2 ?_
    refine oq4 ?_
    refine oq4 ?_
    refine oq1 ?_
    refine run_nil ?_
    refine vc_block ?_
    refine vc_loop (κ := Nat × List Int × Tried (Option Tru)) (fun p => p.1 ≤ ((c.moves.getD i default).q.hi - (c.moves.getD i default).q.lo + 1).toNat ∧ p.2.1.length = 4 ∧ (∀ v, p.2.1.set i v = q.set i v) ∧ (∀ j, 0 ≤ p.2.1.getD j 0 ∧ p.2.1.getD j 0 ≤ 1000) ∧ (p.2.2.kept = none) ∧ loopF (fun v s => chooseM (leafM c (fun q _ => (true, some (c.showT q)))) (c.moves.drop (i + 1)) (i + 1) (q.set i v) s) (((c.moves.getD i default).q.hi - (c.moves.getD i default).q.lo + 1).toNat - p.1) ((c.moves.getD i default).q.lo + (p.1 : Int)) p.2.2 = R) (fun p => ⟨[(0, aInt .i64 (i : Int)), (3, .s (.c (.ptr 1 0))), (8, .s (.c (.ptr 7 0))), (10, .s (.c (.ptr 8 0))), (30, aInt .i64 ((c.moves.getD i default).q.hi - (c.moves.getD i default).q.lo + 1)), (31, aInt .i64 (p.1 : Int))], [(0, some (.cells 41 [.f (csks c.casks), .f (movs c.moves), .f (ggs c.gauges)])), (1, some (.cells 171 [.fn 100 [] [0, 1, 2, 3, 4]])), (2, some (.cells 4 [.f (.bool p.2.2.tried)])), (3, some (arrQ p.2.2.last)), (4, some (.cells 151 [.fn 82 [] [5, 6]])), (5, some (.cells 41 [.f (csks c.casks), .f (movs c.moves), .f (ggs c.gauges)])), (6, some (.cells 72 [.f (.lit (.slice none 0 0)), .f (.lit (.slice none 0 0)), .f (.lit (.slice none 0 0))])), (7, some (arrQ p.2.1)), (8, some (.cells 64 [.f (i64 (c.moves.getD i default).q.lo), .f (i64 (c.moves.getD i default).q.hi)]))], fun _ => none, 9⟩) (fun p => ((c.moves.getD i default).q.hi - (c.moves.getD i default).q.lo + 1).toNat - p.1) (0, q, s) ⟨Nat.zero_le _, hql, fun _ => rfl, hq, hk, by rw [← hR, drop_at default (show i < c.moves.length by omega), chooseM]; simp⟩ ?_ ?_
    ·
      exact ent_ren [] (.cons (.refl _) rfl (.cons (.refl _) rfl (.cons (.refl _) rfl (.cons (.refl _) rfl (.cons (.refl _) rfl (.cons (.refl _) rfl (.nil))))))) (.cons rfl (.refl _) rfl rfl (.cons rfl (.refl _) rfl rfl (.cons rfl (.refl _) rfl rfl (.cons rfl (.refl _) rfl rfl (.cons rfl (.refl _) rfl rfl (.cons rfl (.refl _) rfl rfl (.cons rfl (.refl _) rfl rfl (.cons rfl (.refl _) rfl rfl (.cons rfl (.refl _) rfl rfl (.nil)))))))))) rfl rfl (fun i hi => ⟨piS rfl hi, Nat.lt_of_lt_of_le hi (Nat.le_of_ble_eq_true rfl)⟩)
    rintro ⟨n, qn, sn⟩ ⟨hn, hqn, hset, hqb, hkn, hx⟩
    dsimp only at hn hqn hset hqb hkn hx ⊢
    refine vc_seq ?_
    refine vc_region ?_
    refine oq6 ?_
    refine run_nil ?_
    refine vc_seq ?_
    refine vc_condP rfl (fun h2 => ?_) (fun h2 => ?_)
    ·
      try simp only [Int.toNat_natCast] at h2
      refine vc_skip ?_
      refine vc_seq ?_
      refine vc_block ?_
      refine vc_seq ?_
      refine vc_region ?_
      refine oq1 ?_
      refine oq1 ?_
      refine run_nil ?_
      refine vc_seq ?_
      refine vc_region ?_
      refine oq1 ?_
      refine oq5 ?_
      refine oq2 ?_
      refine oq1 ?_
      refine oq4 ?_
      refine oq3 ?_
      refine run_storeR false rfl trivial rfl rfl rfl rfl rfl rfl rfl rfl rfl (by (try simp only [Int.toNat_natCast]); omega) ?_
      refine run_nil ?_
      refine vc_ent (ent_blk 7 rfl (arrQ_set (by omega))) ?_
      refine vc_seq ?_
      refine vc_region ?_
      refine oq2 ?_
      refine oq1 ?_
      refine oq4 ?_
      refine oq2 ?_
      refine run_call (ih (qn.set i ((c.moves.getD i default).q.lo + (n : Int))) sn hlt (by simp [hqn]) (set_bounds (by omega) hqb (by omega) (by omega)) hkn) [] rfl rfl rfl trivial rfl rfl rfl rfl (.cons rfl (.refl _) rfl rfl (.cons rfl (.refl _) rfl rfl (.cons rfl (.refl _) rfl rfl (.cons rfl (.refl _) rfl rfl (.cons rfl (.refl _) rfl rfl (.cons rfl (.refl _) rfl rfl (.cons rfl (.refl _) rfl rfl (.nil)))))))) rfl rfl rfl rfl rfl ?_
      refine run_nil ?_
      refine vc_cond rfl (fun h3 => ?_) (fun h3 => ?_)
      ·
        try simp only [Int.toNat_natCast] at h3
        refine vc_seq ?_
        refine vc_region ?_
        refine oq1 ?_
        refine run_nil ?_
        refine vc_ret ?_
        first
        | (have e1 : R = (true, (chooseM (leafM c (fun q _ => (true, some (c.showT q)))) (c.moves.drop (i + 1)) (i + 1) (qn.set i ((c.moves.getD i default).q.lo + (n : Int))) sn).2) := (by rw [← hx, show ((c.moves.getD i default).q.hi - (c.moves.getD i default).q.lo + 1).toNat - n = ((c.moves.getD i default).q.hi - (c.moves.getD i default).q.lo + 1).toNat - (n + 1) + 1 by omega, loopF_stop (by rw [← hset]; assumption), ← hset]); subst e1; exact ⟨[], _, _, rfl, trivial, AVle.refl _, rfl, .cons rfl (.refl _) rfl rfl (.cons rfl (.refl _) rfl rfl (.cons rfl (.refl _) rfl rfl (.cons rfl (.refl _) rfl rfl (.cons rfl (.refl _) rfl rfl (.cons rfl (.refl _) rfl rfl (.cons rfl (.refl _) rfl rfl (.nil))))))), rfl, fun i hi => rfl⟩; done)
        | (have e1 : R = (false, sn) := (by rw [← hx, show ((c.moves.getD i default).q.hi - (c.moves.getD i default).q.lo + 1).toNat - n = 0 by omega, loopF]); subst e1; exact ⟨[], _, _, rfl, trivial, AVle.refl _, rfl, .cons rfl (.refl _) rfl rfl (.cons rfl (.refl _) rfl rfl (.cons rfl (.refl _) rfl rfl (.cons rfl (.refl _) rfl rfl (.cons rfl (.refl _) rfl rfl (.cons rfl (.refl _) rfl rfl (.cons rfl (by rw [hkn]; exact .refl _) rfl rfl .nil)))))), rfl, fun i hi => rfl⟩; done)
        | (rw [leafM_same (by assumption) (by assumption)] at hR; subst hR; exact ⟨[], _, _, rfl, trivial, AVle.refl _, rfl, .cons rfl (.refl _) rfl rfl (.cons rfl (.refl _) rfl rfl (.cons rfl (.refl _) rfl rfl (.cons rfl (.refl _) rfl rfl (.cons rfl (.refl _) rfl rfl (.cons rfl (.refl _) rfl rfl (.cons rfl (by rw [hk]; exact .refl _) rfl rfl .nil)))))), rfl, fun i hi => rfl⟩; done)
        | (rw [leafM_yes hnew hat] at hR; subst hR; exact ⟨[], _, _, rfl, trivial, AVle.refl _, rfl, .cons rfl (.refl _) rfl rfl (.cons rfl (.refl _) rfl rfl (.cons rfl (.refl _) rfl rfl (.cons rfl (.refl _) rfl rfl (.cons rfl (.refl _) rfl rfl (.cons rfl (.refl _) rfl rfl (.cons rfl (.refl _) rfl rfl (.nil))))))), rfl, fun i hi => rfl⟩; done)
        | (rw [leafM_no hnew hat] at hR; subst hR; exact ⟨[], _, _, rfl, trivial, AVle.refl _, rfl, .cons rfl (.refl _) rfl rfl (.cons rfl (.refl _) rfl rfl (.cons rfl (.refl _) rfl rfl (.cons rfl (.refl _) rfl rfl (.cons rfl (.refl _) rfl rfl (.cons rfl (.refl _) rfl rfl (.cons rfl (by rw [hk]; exact .refl _) rfl rfl .nil)))))), rfl, fun i hi => rfl⟩; done)
      ·
        try simp only [Int.toNat_natCast] at h3
        refine vc_skip ?_
        refine vc_region ?_
        refine oq4 ?_
        refine oq1 ?_
        refine run_nil ?_
        have hkn2 := (choose_kept (f := Tried.kept) leafS_kept _ _ _ sn (by assumption : (chooseM (leafM c (fun q _ => (true, some (c.showT q)))) (c.moves.drop (i + 1)) (i + 1) (qn.set i ((c.moves.getD i default).q.lo + (n : Int))) sn).1 = false)).trans hkn
        refine ⟨(n + 1, (qn.set i ((c.moves.getD i default).q.lo + (n : Int))), (chooseM (leafM c (fun q _ => (true, some (c.showT q)))) (c.moves.drop (i + 1)) (i + 1) (qn.set i ((c.moves.getD i default).q.lo + (n : Int))) sn).2), ⟨by dsimp only; omega, by simp [hqn], fun v => by simp [hset], set_bounds (by omega) hqb (by omega) (by omega), hkn2, ?_⟩, by dsimp only; omega, ent_ren [] (.cons (.refl _) rfl (.cons (.refl _) rfl (.cons (.refl _) rfl (.cons (.refl _) rfl (.cons (.refl _) rfl (.cons (.refl _) rfl (.nil))))))) (.cons rfl (.refl _) rfl rfl (.cons rfl (.refl _) rfl rfl (.cons rfl (.refl _) rfl rfl (.cons rfl (.refl _) rfl rfl (.cons rfl (.refl _) rfl rfl (.cons rfl (.refl _) rfl rfl (.cons rfl ((by rw [hkn2]; exact .refl _)) rfl rfl (.cons rfl (.refl _) rfl rfl (.cons rfl (.refl _) rfl rfl (.nil)))))))))) rfl rfl (fun i hi => ⟨piS rfl hi, Nat.lt_of_lt_of_le hi (Nat.le_of_ble_eq_true rfl)⟩)⟩
        rw [← hx, show ((c.moves.getD i default).q.hi - (c.moves.getD i default).q.lo + 1).toNat - n = ((c.moves.getD i default).q.hi - (c.moves.getD i default).q.lo + 1).toNat - (n + 1) + 1 by omega, loopF_on (by rw [← hset]; assumption), ← hset, Int.add_assoc]; rfl
    ·
      try simp only [Int.toNat_natCast] at h2
      refine vc_exit ?_
      refine vc_seq ?_
      refine vc_region ?_
      refine oq1 ?_
      refine run_nil ?_
      refine vc_ret ?_
      first
      | (have e1 : R = (true, (chooseM (leafM c (fun q _ => (true, some (c.showT q)))) (c.moves.drop (i + 1)) (i + 1) (qn.set i ((c.moves.getD i default).q.lo + (n : Int))) sn).2) := (by rw [← hx, show ((c.moves.getD i default).q.hi - (c.moves.getD i default).q.lo + 1).toNat - n = ((c.moves.getD i default).q.hi - (c.moves.getD i default).q.lo + 1).toNat - (n + 1) + 1 by omega, loopF_stop (by rw [← hset]; assumption), ← hset]); subst e1; exact ⟨[], _, _, rfl, trivial, AVle.refl _, rfl, .cons rfl (.refl _) rfl rfl (.cons rfl (.refl _) rfl rfl (.cons rfl (.refl _) rfl rfl (.cons rfl (.refl _) rfl rfl (.cons rfl (.refl _) rfl rfl (.cons rfl (.refl _) rfl rfl (.cons rfl (.refl _) rfl rfl (.nil))))))), rfl, fun i hi => rfl⟩; done)
      | (have e1 : R = (false, sn) := (by rw [← hx, show ((c.moves.getD i default).q.hi - (c.moves.getD i default).q.lo + 1).toNat - n = 0 by omega, loopF]); subst e1; exact ⟨[], _, _, rfl, trivial, AVle.refl _, rfl, .cons rfl (.refl _) rfl rfl (.cons rfl (.refl _) rfl rfl (.cons rfl (.refl _) rfl rfl (.cons rfl (.refl _) rfl rfl (.cons rfl (.refl _) rfl rfl (.cons rfl (.refl _) rfl rfl (.cons rfl (by rw [hkn]; exact .refl _) rfl rfl .nil)))))), rfl, fun i hi => rfl⟩; done)
      | (rw [leafM_same (by assumption) (by assumption)] at hR; subst hR; exact ⟨[], _, _, rfl, trivial, AVle.refl _, rfl, .cons rfl (.refl _) rfl rfl (.cons rfl (.refl _) rfl rfl (.cons rfl (.refl _) rfl rfl (.cons rfl (.refl _) rfl rfl (.cons rfl (.refl _) rfl rfl (.cons rfl (.refl _) rfl rfl (.cons rfl (by rw [hk]; exact .refl _) rfl rfl .nil)))))), rfl, fun i hi => rfl⟩; done)
      | (rw [leafM_yes hnew hat] at hR; subst hR; exact ⟨[], _, _, rfl, trivial, AVle.refl _, rfl, .cons rfl (.refl _) rfl rfl (.cons rfl (.refl _) rfl rfl (.cons rfl (.refl _) rfl rfl (.cons rfl (.refl _) rfl rfl (.cons rfl (.refl _) rfl rfl (.cons rfl (.refl _) rfl rfl (.cons rfl (.refl _) rfl rfl (.nil))))))), rfl, fun i hi => rfl⟩; done)
      | (rw [leafM_no hnew hat] at hR; subst hR; exact ⟨[], _, _, rfl, trivial, AVle.refl _, rfl, .cons rfl (.refl _) rfl rfl (.cons rfl (.refl _) rfl rfl (.cons rfl (.refl _) rfl rfl (.cons rfl (.refl _) rfl rfl (.cons rfl (.refl _) rfl rfl (.cons rfl (.refl _) rfl rfl (.cons rfl (by rw [hk]; exact .refl _) rfl rfl .nil)))))), rfl, fun i hi => rfl⟩; done)
  ·
    try simp only [Int.toNat_natCast] at h1
    obtain rfl : i = c.moves.length := by have := h1; omega
    rw [drop_end (Nat.le_refl _), chooseM] at hR
    refine vc_skip ?_
    refine vc_seq ?_
    refine vc_seq ?_
    refine vc_region ?_
    refine oq2 ?_
    refine oq1 ?_
    refine run_split 47 rfl (fun h4 => ?_) (fun h4 => ?_)
    ·
      try simp only [Int.toNat_natCast] at h4
      refine oq2 ?_
      refine oq2 ?_
      refine run_eqS false tabEq rfl rfl rfl rfl rfl rfl rfl rfl rfl ?_
      refine oq1 ?_
      refine run_nil ?_
      refine vc_cond rfl (fun h5 => ?_) (fun h5 => ?_)
      ·
        try simp only [Int.toNat_natCast] at h5
        refine vc_seq ?_
        refine vc_region ?_
        refine oq1 ?_
        refine run_nil ?_
        refine vc_ret ?_
        first
        | (have e1 : R = (true, (chooseM (leafM c (fun q _ => (true, some (c.showT q)))) (c.moves.drop (i + 1)) (i + 1) (qn.set i ((c.moves.getD i default).q.lo + (n : Int))) sn).2) := (by rw [← hx, show ((c.moves.getD i default).q.hi - (c.moves.getD i default).q.lo + 1).toNat - n = ((c.moves.getD i default).q.hi - (c.moves.getD i default).q.lo + 1).toNat - (n + 1) + 1 by omega, loopF_stop (by rw [← hset]; assumption), ← hset]); subst e1; exact ⟨[], _, _, rfl, trivial, AVle.refl _, rfl, .cons rfl (.refl _) rfl rfl (.cons rfl (.refl _) rfl rfl (.cons rfl (.refl _) rfl rfl (.cons rfl (.refl _) rfl rfl (.cons rfl (.refl _) rfl rfl (.cons rfl (.refl _) rfl rfl (.cons rfl (.refl _) rfl rfl (.nil))))))), rfl, fun i hi => rfl⟩; done)
        | (have e1 : R = (false, sn) := (by rw [← hx, show ((c.moves.getD i default).q.hi - (c.moves.getD i default).q.lo + 1).toNat - n = 0 by omega, loopF]); subst e1; exact ⟨[], _, _, rfl, trivial, AVle.refl _, rfl, .cons rfl (.refl _) rfl rfl (.cons rfl (.refl _) rfl rfl (.cons rfl (.refl _) rfl rfl (.cons rfl (.refl _) rfl rfl (.cons rfl (.refl _) rfl rfl (.cons rfl (.refl _) rfl rfl (.cons rfl (by rw [hkn]; exact .refl _) rfl rfl .nil)))))), rfl, fun i hi => rfl⟩; done)
        | (rw [leafM_same (by assumption) (by assumption)] at hR; subst hR; exact ⟨[], _, _, rfl, trivial, AVle.refl _, rfl, .cons rfl (.refl _) rfl rfl (.cons rfl (.refl _) rfl rfl (.cons rfl (.refl _) rfl rfl (.cons rfl (.refl _) rfl rfl (.cons rfl (.refl _) rfl rfl (.cons rfl (.refl _) rfl rfl (.cons rfl (by rw [hk]; exact .refl _) rfl rfl .nil)))))), rfl, fun i hi => rfl⟩; done)
        | (rw [leafM_yes hnew hat] at hR; subst hR; exact ⟨[], _, _, rfl, trivial, AVle.refl _, rfl, .cons rfl (.refl _) rfl rfl (.cons rfl (.refl _) rfl rfl (.cons rfl (.refl _) rfl rfl (.cons rfl (.refl _) rfl rfl (.cons rfl (.refl _) rfl rfl (.cons rfl (.refl _) rfl rfl (.cons rfl (.refl _) rfl rfl (.nil))))))), rfl, fun i hi => rfl⟩; done)
        | (rw [leafM_no hnew hat] at hR; subst hR; exact ⟨[], _, _, rfl, trivial, AVle.refl _, rfl, .cons rfl (.refl _) rfl rfl (.cons rfl (.refl _) rfl rfl (.cons rfl (.refl _) rfl rfl (.cons rfl (.refl _) rfl rfl (.cons rfl (.refl _) rfl rfl (.cons rfl (.refl _) rfl rfl (.cons rfl (by rw [hk]; exact .refl _) rfl rfl .nil)))))), rfl, fun i hi => rfl⟩; done)
      ·
        try simp only [Int.toNat_natCast] at h5
        refine vc_skip ?_
        refine vc_seq ?_
        refine vc_regionD rfl ?_
        refine oq2 ?_
        refine Sx.run_store rfl trivial rfl rfl rfl rfl rfl rfl rfl ?_
        refine Sx.run_store rfl trivial rfl rfl rfl rfl rfl rfl rfl ?_
        refine run_nil ⟨rfl, ?_⟩
        refine vc_ent (ent_blk 3 rfl (arrQ_le rfl rfl rfl rfl)) ?_
        have hnew : s.tried = false ∨ eq4 q s.last = false := by first | exact .inl (by assumption) | exact .inr (by assumption)
        refine vc_seq ?_
        by_cases hat : c.atOk q
        ·
          refine vc_region ?_
          refine oq2 ?_
          refine oq2 ?_
          refine run_call (atYes_c c q hG hq hat) [] rfl rfl rfl trivial rfl rfl rfl rfl .nil rfl rfl rfl rfl rfl ?_
          refine oq1 ?_
          refine oq1 ?_
          refine oq1 ?_
          refine oq1 ?_
          refine oq1 ?_
          refine run_nil ?_
          refine vc_seq ?_
          refine vc_region ?_
          refine oq1 ?_
          refine oq1 ?_
          refine oq2 ?_
          refine oq1 ?_
          refine run_call (show1_c c q hG hql hq hat) [(0, 8), (1, 9), (2, 5), (3, 6)] rfl rfl rfl rfl rfl rfl rfl rfl (.cons rfl (.refl _) rfl rfl (.cons rfl (.refl _) rfl rfl (.cons rfl (.refl _) rfl rfl (.cons rfl (.refl _) rfl rfl (.nil))))) rfl rfl rfl rfl rfl ?_
          refine oq1 ?_
          refine oq1 ?_
          refine run_nil ?_
          refine vc_ret ?_
          first
          | (have e1 : R = (true, (chooseM (leafM c (fun q _ => (true, some (c.showT q)))) (c.moves.drop (i + 1)) (i + 1) (qn.set i ((c.moves.getD i default).q.lo + (n : Int))) sn).2) := (by rw [← hx, show ((c.moves.getD i default).q.hi - (c.moves.getD i default).q.lo + 1).toNat - n = ((c.moves.getD i default).q.hi - (c.moves.getD i default).q.lo + 1).toNat - (n + 1) + 1 by omega, loopF_stop (by rw [← hset]; assumption), ← hset]); subst e1; exact ⟨[], _, _, rfl, trivial, AVle.refl _, rfl, .cons rfl (.refl _) rfl rfl (.cons rfl (.refl _) rfl rfl (.cons rfl (.refl _) rfl rfl (.cons rfl (.refl _) rfl rfl (.cons rfl (.refl _) rfl rfl (.cons rfl (.refl _) rfl rfl (.cons rfl (.refl _) rfl rfl (.nil))))))), rfl, fun i hi => rfl⟩; done)
          | (have e1 : R = (false, sn) := (by rw [← hx, show ((c.moves.getD i default).q.hi - (c.moves.getD i default).q.lo + 1).toNat - n = 0 by omega, loopF]); subst e1; exact ⟨[], _, _, rfl, trivial, AVle.refl _, rfl, .cons rfl (.refl _) rfl rfl (.cons rfl (.refl _) rfl rfl (.cons rfl (.refl _) rfl rfl (.cons rfl (.refl _) rfl rfl (.cons rfl (.refl _) rfl rfl (.cons rfl (.refl _) rfl rfl (.cons rfl (by rw [hkn]; exact .refl _) rfl rfl .nil)))))), rfl, fun i hi => rfl⟩; done)
          | (rw [leafM_same (by assumption) (by assumption)] at hR; subst hR; exact ⟨[], _, _, rfl, trivial, AVle.refl _, rfl, .cons rfl (.refl _) rfl rfl (.cons rfl (.refl _) rfl rfl (.cons rfl (.refl _) rfl rfl (.cons rfl (.refl _) rfl rfl (.cons rfl (.refl _) rfl rfl (.cons rfl (.refl _) rfl rfl (.cons rfl (by rw [hk]; exact .refl _) rfl rfl .nil)))))), rfl, fun i hi => rfl⟩; done)
          | (rw [leafM_yes hnew hat] at hR; subst hR; exact ⟨[], _, _, rfl, trivial, AVle.refl _, rfl, .cons rfl (.refl _) rfl rfl (.cons rfl (.refl _) rfl rfl (.cons rfl (.refl _) rfl rfl (.cons rfl (.refl _) rfl rfl (.cons rfl (.refl _) rfl rfl (.cons rfl (.refl _) rfl rfl (.cons rfl (.refl _) rfl rfl (.nil))))))), rfl, fun i hi => rfl⟩; done)
          | (rw [leafM_no hnew hat] at hR; subst hR; exact ⟨[], _, _, rfl, trivial, AVle.refl _, rfl, .cons rfl (.refl _) rfl rfl (.cons rfl (.refl _) rfl rfl (.cons rfl (.refl _) rfl rfl (.cons rfl (.refl _) rfl rfl (.cons rfl (.refl _) rfl rfl (.cons rfl (.refl _) rfl rfl (.cons rfl (by rw [hk]; exact .refl _) rfl rfl .nil)))))), rfl, fun i hi => rfl⟩; done)
        ·
          refine vc_region ?_
          refine oq2 ?_
          refine oq2 ?_
          refine run_call (atNo_c c q hG hq hat) [] rfl rfl rfl trivial rfl rfl rfl rfl .nil rfl rfl rfl rfl rfl ?_
          refine oq1 ?_
          refine oq1 ?_
          refine oq1 ?_
          refine oq1 ?_
          refine oq1 ?_
          refine run_nil ?_
          refine vc_seq ?_
          refine vc_region ?_
          refine oq1 ?_
          refine oq1 ?_
          refine osk ?_
          refine osk ?_
          refine osk ?_
          refine oq1 ?_
          refine oq1 ?_
          refine run_nil ?_
          refine vc_ret ?_
          first
          | (have e1 : R = (true, (chooseM (leafM c (fun q _ => (true, some (c.showT q)))) (c.moves.drop (i + 1)) (i + 1) (qn.set i ((c.moves.getD i default).q.lo + (n : Int))) sn).2) := (by rw [← hx, show ((c.moves.getD i default).q.hi - (c.moves.getD i default).q.lo + 1).toNat - n = ((c.moves.getD i default).q.hi - (c.moves.getD i default).q.lo + 1).toNat - (n + 1) + 1 by omega, loopF_stop (by rw [← hset]; assumption), ← hset]); subst e1; exact ⟨[], _, _, rfl, trivial, AVle.refl _, rfl, .cons rfl (.refl _) rfl rfl (.cons rfl (.refl _) rfl rfl (.cons rfl (.refl _) rfl rfl (.cons rfl (.refl _) rfl rfl (.cons rfl (.refl _) rfl rfl (.cons rfl (.refl _) rfl rfl (.cons rfl (.refl _) rfl rfl (.nil))))))), rfl, fun i hi => rfl⟩; done)
          | (have e1 : R = (false, sn) := (by rw [← hx, show ((c.moves.getD i default).q.hi - (c.moves.getD i default).q.lo + 1).toNat - n = 0 by omega, loopF]); subst e1; exact ⟨[], _, _, rfl, trivial, AVle.refl _, rfl, .cons rfl (.refl _) rfl rfl (.cons rfl (.refl _) rfl rfl (.cons rfl (.refl _) rfl rfl (.cons rfl (.refl _) rfl rfl (.cons rfl (.refl _) rfl rfl (.cons rfl (.refl _) rfl rfl (.cons rfl (by rw [hkn]; exact .refl _) rfl rfl .nil)))))), rfl, fun i hi => rfl⟩; done)
          | (rw [leafM_same (by assumption) (by assumption)] at hR; subst hR; exact ⟨[], _, _, rfl, trivial, AVle.refl _, rfl, .cons rfl (.refl _) rfl rfl (.cons rfl (.refl _) rfl rfl (.cons rfl (.refl _) rfl rfl (.cons rfl (.refl _) rfl rfl (.cons rfl (.refl _) rfl rfl (.cons rfl (.refl _) rfl rfl (.cons rfl (by rw [hk]; exact .refl _) rfl rfl .nil)))))), rfl, fun i hi => rfl⟩; done)
          | (rw [leafM_yes hnew hat] at hR; subst hR; exact ⟨[], _, _, rfl, trivial, AVle.refl _, rfl, .cons rfl (.refl _) rfl rfl (.cons rfl (.refl _) rfl rfl (.cons rfl (.refl _) rfl rfl (.cons rfl (.refl _) rfl rfl (.cons rfl (.refl _) rfl rfl (.cons rfl (.refl _) rfl rfl (.cons rfl (.refl _) rfl rfl (.nil))))))), rfl, fun i hi => rfl⟩; done)
          | (rw [leafM_no hnew hat] at hR; subst hR; exact ⟨[], _, _, rfl, trivial, AVle.refl _, rfl, .cons rfl (.refl _) rfl rfl (.cons rfl (.refl _) rfl rfl (.cons rfl (.refl _) rfl rfl (.cons rfl (.refl _) rfl rfl (.cons rfl (.refl _) rfl rfl (.cons rfl (.refl _) rfl rfl (.cons rfl (by rw [hk]; exact .refl _) rfl rfl .nil)))))), rfl, fun i hi => rfl⟩; done)
    ·
      try simp only [Int.toNat_natCast] at h4
      refine osk ?_
      refine osk ?_
      refine osk ?_
      refine oq1 ?_
      refine run_nil ?_
      refine vc_cond rfl (fun h => Bool.noConfusion h) (fun _ => ?_)
      refine vc_skip ?_
      refine vc_seq ?_
      refine vc_regionD rfl ?_
      refine oq2 ?_
      refine Sx.run_store rfl trivial rfl rfl rfl rfl rfl rfl rfl ?_
      refine Sx.run_store rfl trivial rfl rfl rfl rfl rfl rfl rfl ?_
      refine run_nil ⟨rfl, ?_⟩
      refine vc_ent (ent_blk 3 rfl (arrQ_le rfl rfl rfl rfl)) ?_
      have hnew : s.tried = false ∨ eq4 q s.last = false := by first | exact .inl (by assumption) | exact .inr (by assumption)
      refine vc_seq ?_
      by_cases hat : c.atOk q
      ·
        refine vc_region ?_
        refine oq2 ?_
        refine oq2 ?_
        refine run_call (atYes_c c q hG hq hat) [] rfl rfl rfl trivial rfl rfl rfl rfl .nil rfl rfl rfl rfl rfl ?_
        refine oq1 ?_
        refine oq1 ?_
        refine oq1 ?_
        refine oq1 ?_
        refine oq1 ?_
        refine run_nil ?_
        refine vc_seq ?_
        refine vc_region ?_
        refine oq1 ?_
        refine oq1 ?_
        refine oq2 ?_
        refine oq1 ?_
        refine run_call (show1_c c q hG hql hq hat) [(0, 8), (1, 9), (2, 5), (3, 6)] rfl rfl rfl rfl rfl rfl rfl rfl (.cons rfl (.refl _) rfl rfl (.cons rfl (.refl _) rfl rfl (.cons rfl (.refl _) rfl rfl (.cons rfl (.refl _) rfl rfl (.nil))))) rfl rfl rfl rfl rfl ?_
        refine oq1 ?_
        refine oq1 ?_
        refine run_nil ?_
        refine vc_ret ?_
        first
        | (have e1 : R = (true, (chooseM (leafM c (fun q _ => (true, some (c.showT q)))) (c.moves.drop (i + 1)) (i + 1) (qn.set i ((c.moves.getD i default).q.lo + (n : Int))) sn).2) := (by rw [← hx, show ((c.moves.getD i default).q.hi - (c.moves.getD i default).q.lo + 1).toNat - n = ((c.moves.getD i default).q.hi - (c.moves.getD i default).q.lo + 1).toNat - (n + 1) + 1 by omega, loopF_stop (by rw [← hset]; assumption), ← hset]); subst e1; exact ⟨[], _, _, rfl, trivial, AVle.refl _, rfl, .cons rfl (.refl _) rfl rfl (.cons rfl (.refl _) rfl rfl (.cons rfl (.refl _) rfl rfl (.cons rfl (.refl _) rfl rfl (.cons rfl (.refl _) rfl rfl (.cons rfl (.refl _) rfl rfl (.cons rfl (.refl _) rfl rfl (.nil))))))), rfl, fun i hi => rfl⟩; done)
        | (have e1 : R = (false, sn) := (by rw [← hx, show ((c.moves.getD i default).q.hi - (c.moves.getD i default).q.lo + 1).toNat - n = 0 by omega, loopF]); subst e1; exact ⟨[], _, _, rfl, trivial, AVle.refl _, rfl, .cons rfl (.refl _) rfl rfl (.cons rfl (.refl _) rfl rfl (.cons rfl (.refl _) rfl rfl (.cons rfl (.refl _) rfl rfl (.cons rfl (.refl _) rfl rfl (.cons rfl (.refl _) rfl rfl (.cons rfl (by rw [hkn]; exact .refl _) rfl rfl .nil)))))), rfl, fun i hi => rfl⟩; done)
        | (rw [leafM_same (by assumption) (by assumption)] at hR; subst hR; exact ⟨[], _, _, rfl, trivial, AVle.refl _, rfl, .cons rfl (.refl _) rfl rfl (.cons rfl (.refl _) rfl rfl (.cons rfl (.refl _) rfl rfl (.cons rfl (.refl _) rfl rfl (.cons rfl (.refl _) rfl rfl (.cons rfl (.refl _) rfl rfl (.cons rfl (by rw [hk]; exact .refl _) rfl rfl .nil)))))), rfl, fun i hi => rfl⟩; done)
        | (rw [leafM_yes hnew hat] at hR; subst hR; exact ⟨[], _, _, rfl, trivial, AVle.refl _, rfl, .cons rfl (.refl _) rfl rfl (.cons rfl (.refl _) rfl rfl (.cons rfl (.refl _) rfl rfl (.cons rfl (.refl _) rfl rfl (.cons rfl (.refl _) rfl rfl (.cons rfl (.refl _) rfl rfl (.cons rfl (.refl _) rfl rfl (.nil))))))), rfl, fun i hi => rfl⟩; done)
        | (rw [leafM_no hnew hat] at hR; subst hR; exact ⟨[], _, _, rfl, trivial, AVle.refl _, rfl, .cons rfl (.refl _) rfl rfl (.cons rfl (.refl _) rfl rfl (.cons rfl (.refl _) rfl rfl (.cons rfl (.refl _) rfl rfl (.cons rfl (.refl _) rfl rfl (.cons rfl (.refl _) rfl rfl (.cons rfl (by rw [hk]; exact .refl _) rfl rfl .nil)))))), rfl, fun i hi => rfl⟩; done)
      ·
        refine vc_region ?_
        refine oq2 ?_
        refine oq2 ?_
        refine run_call (atNo_c c q hG hq hat) [] rfl rfl rfl trivial rfl rfl rfl rfl .nil rfl rfl rfl rfl rfl ?_
        refine oq1 ?_
        refine oq1 ?_
        refine oq1 ?_
        refine oq1 ?_
        refine oq1 ?_
        refine run_nil ?_
        refine vc_seq ?_
        refine vc_region ?_
        refine oq1 ?_
        refine oq1 ?_
        refine osk ?_
        refine osk ?_
        refine osk ?_
        refine oq1 ?_
        refine oq1 ?_
        refine run_nil ?_
        refine vc_ret ?_
        first
        | (have e1 : R = (true, (chooseM (leafM c (fun q _ => (true, some (c.showT q)))) (c.moves.drop (i + 1)) (i + 1) (qn.set i ((c.moves.getD i default).q.lo + (n : Int))) sn).2) := (by rw [← hx, show ((c.moves.getD i default).q.hi - (c.moves.getD i default).q.lo + 1).toNat - n = ((c.moves.getD i default).q.hi - (c.moves.getD i default).q.lo + 1).toNat - (n + 1) + 1 by omega, loopF_stop (by rw [← hset]; assumption), ← hset]); subst e1; exact ⟨[], _, _, rfl, trivial, AVle.refl _, rfl, .cons rfl (.refl _) rfl rfl (.cons rfl (.refl _) rfl rfl (.cons rfl (.refl _) rfl rfl (.cons rfl (.refl _) rfl rfl (.cons rfl (.refl _) rfl rfl (.cons rfl (.refl _) rfl rfl (.cons rfl (.refl _) rfl rfl (.nil))))))), rfl, fun i hi => rfl⟩; done)
        | (have e1 : R = (false, sn) := (by rw [← hx, show ((c.moves.getD i default).q.hi - (c.moves.getD i default).q.lo + 1).toNat - n = 0 by omega, loopF]); subst e1; exact ⟨[], _, _, rfl, trivial, AVle.refl _, rfl, .cons rfl (.refl _) rfl rfl (.cons rfl (.refl _) rfl rfl (.cons rfl (.refl _) rfl rfl (.cons rfl (.refl _) rfl rfl (.cons rfl (.refl _) rfl rfl (.cons rfl (.refl _) rfl rfl (.cons rfl (by rw [hkn]; exact .refl _) rfl rfl .nil)))))), rfl, fun i hi => rfl⟩; done)
        | (rw [leafM_same (by assumption) (by assumption)] at hR; subst hR; exact ⟨[], _, _, rfl, trivial, AVle.refl _, rfl, .cons rfl (.refl _) rfl rfl (.cons rfl (.refl _) rfl rfl (.cons rfl (.refl _) rfl rfl (.cons rfl (.refl _) rfl rfl (.cons rfl (.refl _) rfl rfl (.cons rfl (.refl _) rfl rfl (.cons rfl (by rw [hk]; exact .refl _) rfl rfl .nil)))))), rfl, fun i hi => rfl⟩; done)
        | (rw [leafM_yes hnew hat] at hR; subst hR; exact ⟨[], _, _, rfl, trivial, AVle.refl _, rfl, .cons rfl (.refl _) rfl rfl (.cons rfl (.refl _) rfl rfl (.cons rfl (.refl _) rfl rfl (.cons rfl (.refl _) rfl rfl (.cons rfl (.refl _) rfl rfl (.cons rfl (.refl _) rfl rfl (.cons rfl (.refl _) rfl rfl (.nil))))))), rfl, fun i hi => rfl⟩; done)
        | (rw [leafM_no hnew hat] at hR; subst hR; exact ⟨[], _, _, rfl, trivial, AVle.refl _, rfl, .cons rfl (.refl _) rfl rfl (.cons rfl (.refl _) rfl rfl (.cons rfl (.refl _) rfl rfl (.cons rfl (.refl _) rfl rfl (.cons rfl (.refl _) rfl rfl (.cons rfl (.refl _) rfl rfl (.cons rfl (by rw [hk]; exact .refl _) rfl rfl .nil)))))), rfl, fun i hi => rfl⟩; done)

theorem chooseS_c (c : Clr) (hG : c.Good)  : ∀ (d i : Nat), i + d = c.moves.length → ∀ (q : List Int) (s : Tried (Option Tru)), q.length = 4 → (∀ j, 0 ≤ q.getD j 0 ∧ q.getD j 0 ≤ 1000) → s.kept = none → CallC Try.prog 100 7 (lkF [(0, some (.cells 41 [.f (csks c.casks), .f (movs c.moves), .f (ggs c.gauges)])), (1, some (.cells 171 [.fn 100 [] [0, 1, 2, 3, 4]])), (2, some (.cells 4 [.f (.bool s.tried)])), (3, some (arrQ s.last)), (4, some (.cells 151 [.fn 82 [] [5, 6]])), (5, some (.cells 41 [.f (csks c.casks), .f (movs c.moves), .f (ggs c.gauges)])), (6, some (.cells 72 [.f (.lit (.slice none 0 0)), .f (.lit (.slice none 0 0)), .f (.lit (.slice none 0 0))]))] fun _ => none) [aInt .i64 (i : Int), aQ q, .s (.c (.ptr 0 0)), .s (.c (.ptr 1 0)), .s (.c (.ptr 2 0)), .s (.c (.ptr 3 0)), .s (.c (.ptr 4 0))] 7 (lkF [(0, some (.cells 41 [.f (csks c.casks), .f (movs c.moves), .f (ggs c.gauges)])), (1, some (.cells 171 [.fn 100 [] [0, 1, 2, 3, 4]])), (2, some (.cells 4 [.f (.bool (chooseM (leafM c (fun q _ => (true, some (c.showT q)))) (c.moves.drop i) i q s).2.tried)])), (3, some (arrQ (chooseM (leafM c (fun q _ => (true, some (c.showT q)))) (c.moves.drop i) i q s).2.last)), (4, some (.cells 151 [.fn 82 [] [5, 6]])), (5, some (.cells 41 [.f (csks c.casks), .f (movs c.moves), .f (ggs c.gauges)])), (6, some (.cells 72 [.f (truS (chooseM (leafM c (fun q _ => (true, some (c.showT q)))) (c.moves.drop i) i q s).2.kept), .f (truL (chooseM (leafM c (fun q _ => (true, some (c.showT q)))) (c.moves.drop i) i q s).2.kept), .f (truQ (chooseM (leafM c (fun q _ => (true, some (c.showT q)))) (c.moves.drop i) i q s).2.kept)]))] fun _ => none) (aBool (chooseM (leafM c (fun q _ => (true, some (c.showT q)))) (c.moves.drop i) i q s).1) := by
  intro d
  induction d with
  | zero => intro i hi q s hql hq hk; exact chooseS_s c hG  i (by omega) q s hql hq hk _ rfl (fun q s h => absurd h (by omega))
  | succ d ihd => intro i hi q s hql hq hk; exact chooseS_s c hG  i (by omega) q s hql hq hk _ rfl (fun q s hlt h1 h2 h3 => ihd (i + 1) (by omega) q s h1 h2 h3)

theorem worksS_c (c : Clr) (hG : c.Good)  : CallC Try.prog 81 2 (lkF [(0, some (.cells 41 [.f (csks c.casks), .f (movs c.moves), .f (ggs c.gauges)])), (1, some (.cells 72 [.f (.lit (.slice none 0 0)), .f (.lit (.slice none 0 0)), .f (.lit (.slice none 0 0))]))] fun _ => none) [aClr c, .s (.c (.fn 82 [] [0, 1]))] 2 (lkF [(0, some (.cells 41 [.f (csks c.casks), .f (movs c.moves), .f (ggs c.gauges)])), (1, some (.cells 72 [.f (truS (worksM c (fun q _ => (true, some (c.showT q))) none).2), .f (truL (worksM c (fun q _ => (true, some (c.showT q))) none).2), .f (truQ (worksM c (fun q _ => (true, some (c.showT q))) none).2)]))] fun _ => none) (aBool (worksM c (fun q _ => (true, some (c.showT q))) none).1) := by
  refine callC_intro tabOk mixed Try.func81 rfl rfl rfl rfl ?_
  intro w0 e0 Z0 X hX n
  refine vc_seq ?_
  refine vc_region ?_
  refine run_box rfl trivial rfl rfl rfl rfl rfl rfl (by intro _ _ h; cases h <;> (intro _; rfl)) ?_
  refine run_box rfl trivial rfl rfl rfl rfl rfl rfl (by intro _ _ h; cases h <;> (intro _; rfl)) ?_
  refine oq1 ?_
  refine run_nil ?_
  refine vc_seq ?_
  refine vc_region ?_
  refine run_alloc rfl trivial rfl rfl rfl rfl (by intro _ _ h; cases h <;> (intro _; rfl)) ?_
  refine run_nil ?_
  refine vc_seq ?_
  refine vc_region ?_
  refine run_alloc rfl trivial rfl rfl rfl rfl (by intro _ _ h; cases h <;> (intro _; rfl)) ?_
  refine Sx.run_store rfl trivial rfl rfl rfl rfl rfl rfl rfl ?_
  refine run_nil ?_
  refine vc_seq ?_
  refine vc_region ?_
  refine run_alloc rfl trivial rfl rfl rfl rfl (by intro _ _ h; cases h <;> (intro _; rfl)) ?_
  refine run_nil ?_
  refine vc_seq ?_
  refine vc_region ?_
  refine oq1 ?_
  refine Sx.run_store rfl trivial rfl rfl rfl rfl rfl rfl rfl ?_
  refine run_nil ?_
  refine vc_seq ?_
  refine vc_region ?_
  refine oq2 ?_
  refine oq1 ?_
  refine run_call (chooseS_c c hG  c.moves.length 0 (by omega) [0, 0, 0, 0] (⟨false, [0, 0, 0, 0], none⟩ : Tried (Option Tru)) rfl zero4 rfl) [(0, 2), (1, 6), (2, 5), (3, 4), (4, 3), (5, 0), (6, 1)] rfl rfl rfl trivial rfl rfl rfl rfl (.cons rfl (.refl _) rfl rfl (.cons rfl (.refl _) rfl rfl (.cons rfl (.refl _) rfl rfl (.cons rfl (arrQ_le rfl rfl rfl rfl) rfl rfl (.cons rfl (.refl _) rfl rfl (.cons rfl (.refl _) rfl rfl (.cons rfl (.refl _) rfl rfl (.nil)))))))) rfl rfl rfl rfl rfl ?_
  refine oq1 ?_
  refine run_nil ?_
  refine vc_ret ?_
  exact ⟨[], _, _, rfl, trivial, AVle.refl _, rfl, .cons rfl (.refl _) rfl rfl (.cons rfl (.refl _) rfl rfl (.nil)), rfl, fun i hi => rfl⟩

end Go.Proofs.Ytnkgdapdccpjmaa

/- Show; the closure of in. -/
namespace Go.Proofs.Ytnkgdapdccpjmaa
open Go Go.RowKit Go.Sx

theorem loop_true {S : Type} {g : Int → S → Bool × S} {P : S → Prop} (hg : ∀ v s, (g v s).1 = true → P (g v s).2) : ∀ (k : Nat) (v : Int) (s : S), (loopF g k v s).1 = true → P (loopF g k v s).2
  | 0, _, _, h => by cases h
  | k + 1, v, s, h => by
    cases hb : (g v s).1 with
    | true => rw [loopF_stop hb]; exact hg v s hb
    | false => rw [loopF_on hb] at h ⊢; exact loop_true hg k (v + 1) _ h
theorem choose_true {S : Type} {leaf : List Int → S → Bool × S} {P : S → Prop} (hl : ∀ q s, (leaf q s).1 = true → P (leaf q s).2) : ∀ (ms : List Mov) (i : Nat) (q : List Int) (s : S), (chooseM leaf ms i q s).1 = true → P (chooseM leaf ms i q s).2
  | [], i, q, s, h => hl q s h
  | m :: ms, i, q, s, h => loop_true (fun v s => choose_true hl ms (i + 1) (q.set i v) s) _ _ s h
theorem leafS_true {α : Type} {c : Clr} {f : List Int → α} (q : List Int) (s : Tried (Option α)) (h : (leafM c (fun q _ => (true, some (f q))) q s).1 = true) : (leafM c (fun q _ => (true, some (f q))) q s).2.kept.isSome = true := by
  rw [leafM] at h ⊢
  split
  · rename_i h1; rw [if_pos h1] at h; cases h
  · rename_i h1
    rw [if_neg h1] at h
    split
    · rfl
    · rename_i h2; rw [if_neg h2] at h; cases h
def Clr.showM (c : Clr) : Bool × Option Tru := worksM c (fun q _ => (true, some (c.showT q))) none
def tru0 : Tru := ⟨[], [], []⟩
def Clr.showA (c : Clr) : Tru × Int := if c.check = 0 then (if c.showM.1 = true then (c.showM.2.getD tru0, 0) else (tru0, 11)) else (tru0, c.check)
theorem showM_some {c : Clr} (h : c.showM.1 = true) : c.showM.2 = some (c.showM.2.getD tru0) := by
  have h1 : (c.showM.2).isSome = true := choose_true (P := fun s : Tried (Option Tru) => s.kept.isSome = true) leafS_true _ _ _ _ h
  cases h2 : c.showM.2 with
  | none => rw [h2] at h1; cases h1
  | some t => rfl
abbrev aTE (t : Tru) (e : Int) : AV := .tup [.agg [.f (ints t.start), .f (ints t.leak), .f (ints t.quantity)], .c (.f (i64 e))]
theorem aTE_nil {p : Tru × Int} {a : Int} (h : p = (tru0, a)) : AVle (.tup [.agg [.f (.lit (.slice none 0 0)), .f (.lit (.slice none 0 0)), .f (.lit (.slice none 0 0))], .c (.f (i64 a))]) (AV.ren (piOf []) (aTE p.1 p.2)) := by
  subst h; exact .tup (.cons (AVle.agg (.cons (.f .nil) (.cons (.f .nil) (.cons (.f .nil) .nil)))) (.cons (.refl _) .nil))
theorem aTE_some {p : Tru × Int} {k : Option Tru} {t : Tru} (hk : k = some t) (h : p = (t, 0)) : AVle (.tup [.agg [.f (truS k), .f (truL k), .f (truQ k)], .c (.f (i64 0))]) (AV.ren (piOf []) (aTE p.1 p.2)) := by
  subst h; subst hk; exact .refl _

theorem Show_c (c : Clr) : CallC Try.prog 37 0 (lkF [] fun _ => none) [aClr c] 0 (lkF [] fun _ => none) (aTE c.showA.1 c.showA.2) := by
  refine callC_intro tabOk mixed Try.func37 rfl rfl rfl rfl ?_
  intro w0 e0 Z0 X hX n
  refine vc_seq ?_
  refine vc_region ?_
  refine run_box rfl trivial rfl rfl rfl rfl rfl rfl (by intro _ _ h; cases h <;> (intro _; rfl)) ?_
  refine run_alloc rfl trivial rfl rfl rfl rfl (by intro _ _ h; cases h <;> (intro _; rfl)) ?_
  refine oq1 ?_
  refine run_nil ?_
  refine vc_seq ?_
  refine vc_seq ?_
  refine vc_region ?_
  refine oq2 ?_
  refine run_callP (check_c _) rfl rfl rfl trivial rfl rfl rfl rfl ?_
  refine oq1 ?_
  refine run_nil ?_
  refine vc_seq ?_
  refine vc_region ?_
  refine oq1 ?_
  refine oq6 ?_
  refine run_nil ?_
  refine vc_condN rfl (fun h1 => ?_) (fun h1 => ?_)
  ·
    try simp only [Int.toNat_natCast] at h1
    refine vc_seq ?_
    refine vc_region ?_
    refine oq1 ?_
    refine oq1 ?_
    refine Sx.run_store rfl trivial rfl rfl rfl rfl rfl rfl rfl ?_
    refine oq1 ?_
    refine run_nil ?_
    refine vc_ret ?_
    refine ret_pure rfl ⟨Nat.le_of_ble_eq_true rfl, trivial, trivial⟩ rfl ?_
    first
    | (refine aTE_nil ?_; rw [Clr.showA, if_neg (by simp_all)]; done)
    | (have hs : c.showM.1 = false := (by simpa [Clr.showM] using (by assumption : (!(worksM c (fun q _ => (true, some (c.showT q))) none).1) = true)); refine aTE_nil ?_; rw [Clr.showA, if_pos hchk, if_neg (by rw [hs]; simp)]; done)
    | (have hs : c.showM.1 = true := (by simpa [Clr.showM] using (by assumption : (!(worksM c (fun q _ => (true, some (c.showT q))) none).1) = false)); refine aTE_some (showM_some hs) ?_; rw [Clr.showA, if_pos hchk, if_pos hs])
  ·
    try simp only [Int.toNat_natCast] at h1
    have hchk : c.check = 0 := by simpa using h1
    have hG := Clr.good hchk
    refine vc_skip ?_
    refine vc_seq ?_
    refine vc_region ?_
    refine oq1 ?_
    refine run_alloc rfl trivial rfl rfl rfl rfl (by intro _ _ h; cases h <;> (intro _; rfl)) ?_
    refine Sx.run_store rfl trivial rfl rfl rfl rfl rfl rfl rfl ?_
    refine run_nil ?_
    refine vc_seq ?_
    refine vc_region ?_
    refine oq2 ?_
    refine oq1 ?_
    refine run_call (worksS_c c hG) [(0, 0), (1, 2)] rfl rfl rfl trivial rfl rfl rfl rfl (.cons rfl (.refl _) rfl rfl (.cons rfl (.refl _) rfl rfl (.nil))) rfl rfl rfl rfl rfl ?_
    refine oq1 ?_
    refine run_nil ?_
    refine vc_seq ?_
    refine vc_seq ?_
    refine vc_region ?_
    refine oq1 ?_
    refine oq1 ?_
    refine run_nil ?_
    refine vc_cond rfl (fun h2 => ?_) (fun h2 => ?_)
    ·
      try simp only [Int.toNat_natCast] at h2
      refine vc_seq ?_
      refine vc_region ?_
      refine oq1 ?_
      refine Sx.run_store rfl trivial rfl rfl rfl rfl rfl rfl rfl ?_
      refine oq1 ?_
      refine run_nil ?_
      refine vc_ret ?_
      refine ret_pure rfl ⟨Nat.le_of_ble_eq_true rfl, trivial, trivial⟩ rfl ?_
      first
      | (refine aTE_nil ?_; rw [Clr.showA, if_neg (by simp_all)]; done)
      | (have hs : c.showM.1 = false := (by simpa [Clr.showM] using (by assumption : (!(worksM c (fun q _ => (true, some (c.showT q))) none).1) = true)); refine aTE_nil ?_; rw [Clr.showA, if_pos hchk, if_neg (by rw [hs]; simp)]; done)
      | (have hs : c.showM.1 = true := (by simpa [Clr.showM] using (by assumption : (!(worksM c (fun q _ => (true, some (c.showT q))) none).1) = false)); refine aTE_some (showM_some hs) ?_; rw [Clr.showA, if_pos hchk, if_pos hs])
    ·
      try simp only [Int.toNat_natCast] at h2
      refine vc_skip ?_
      refine vc_seq ?_
      refine vc_region ?_
      refine oq2 ?_
      refine Sx.run_store rfl trivial rfl rfl rfl rfl rfl rfl rfl ?_
      refine oq1 ?_
      refine run_nil ?_
      refine vc_ret ?_
      refine ret_pure rfl ⟨Nat.le_of_ble_eq_true rfl, trivial, trivial⟩ rfl ?_
      first
      | (refine aTE_nil ?_; rw [Clr.showA, if_neg (by simp_all)]; done)
      | (have hs : c.showM.1 = false := (by simpa [Clr.showM] using (by assumption : (!(worksM c (fun q _ => (true, some (c.showT q))) none).1) = true)); refine aTE_nil ?_; rw [Clr.showA, if_pos hchk, if_neg (by rw [hs]; simp)]; done)
      | (have hs : c.showM.1 = true := (by simpa [Clr.showM] using (by assumption : (!(worksM c (fun q _ => (true, some (c.showT q))) none).1) = false)); refine aTE_some (showM_some hs) ?_; rw [Clr.showA, if_pos hchk, if_pos hs])

def joinK (k : Option (List Rng)) (r : List Rng) : List Rng := match k with | none => r | some l => (List.range l.length).map fun i => ⟨min (l.getD i default).lo (r.getD i default).lo, max (l.getD i default).hi (r.getD i default).hi⟩
theorem joinK_len {k : Option (List Rng)} {r : List Rng} {N : Nat} (hr : r.length = N) (hk : ∀ l, k = some l → l.length = N) : (joinK k r).length = N := by
  cases k with
  | none => exact hr
  | some l => simp [joinK, hk l rfl]
def mixS (l r : List Rng) (i a : Nat) : Rng := if a < i then ⟨min (l.getD a default).lo (r.getD a default).lo, max (l.getD a default).hi (r.getD a default).hi⟩ else l.getD a default
theorem rng_self (r : Rng) : (⟨min r.lo r.lo, max r.hi r.hi⟩ : Rng) = r := by cases r; simp
abbrev rowR (l : List Rng) : Blk := rowL 64 2 rngF default l

theorem in_set {l r : List Rng} {i : Nat} (h : l.getD i default = r.getD i default) (hi : i < l.length) :
    BlkLe (.row 64 2 l.length (setAt (fun a j => rngF (l.getD a default) j) i 0 [i64 (min (l.getD i default).lo (r.getD i default).lo), i64 (max (l.getD i default).hi (r.getD i default).hi)])) (rowR l) :=
  .row rfl fun a j ha hj => .of_eq (by
    simp only [setAt]
    by_cases he : a = i
    · subst he
      rw [if_pos ⟨rfl, Nat.zero_le _, by simpa using hj⟩, h, Int.min_self, Int.max_self]
      match j, hj with
      | 0, _ => rfl
      | 1, _ => rfl
    · rw [if_neg (by simp [he])])
theorem mixS_set {l r : List Rng} {N i : Nat} (hi : mixS l r i i = l.getD i default) :
    BlkLe (.row 64 2 N (setAt (fun a j => rngF (mixS l r i a) j) i 0 [i64 (min (mixS l r i i).lo (r.getD i default).lo), i64 (max (mixS l r i i).hi (r.getD i default).hi)])) (.row 64 2 N fun a j => rngF (mixS l r (i + 1) a) j) :=
  .row rfl fun a j ha hj => .of_eq (by
    simp only [setAt]
    by_cases he : a = i
    · subst he
      rw [if_pos ⟨rfl, Nat.zero_le _, by simpa using hj⟩, hi, mixS, if_pos (Nat.lt_succ_self a)]
      match j, hj with
      | 0, _ => rfl
      | 1, _ => rfl
    · rw [if_neg (by simp [he])]
      simp only [mixS]
      by_cases h2 : a < i
      · rw [if_pos h2, if_pos (by omega)]
      · rw [if_neg h2, if_neg (by omega)])
theorem mixS_end {l r : List Rng} {N : Nat} (hl : l.length = N) : BlkLe (.row 64 2 N fun a j => rngF (mixS l r N a) j) (rowR (joinK (some l) r)) :=
  .row (by simp [joinK, hl]) fun a j ha hj => .of_eq (by
    show _ = rngF ((joinK (some l) r).getD a default) j
    rw [joinK, getD_map_range (by omega), mixS, if_pos ha])

theorem in1n_c (c : Clr) (q : List Int) (OF : FuncId) (r : List Rng) (hr : r.length ≤ 1000000) (hOF : CallC Try.prog OF 2 (lkF [(0, some (.mapb true (entD (c.starts q)))), (1, some (.cells 150 [.f (csks c.casks), .f (movs c.moves), .f (ggs c.gauges), .f (i64 (q.getD 0 0)), .f (i64 (q.getD 1 0)), .f (i64 (q.getD 2 0)), .f (i64 (q.getD 3 0)), .mp 0]))] fun _ => none) [.s (.c (.ptr 1 0))] 2 (lkF [(0, some (.mapb true (entD (c.starts q)))), (1, some (.cells 150 [.f (csks c.casks), .f (movs c.moves), .f (ggs c.gauges), .f (i64 (q.getD 0 0)), .f (i64 (q.getD 1 0)), .f (i64 (q.getD 2 0)), .f (i64 (q.getD 3 0)), .mp 0]))] fun _ => none) (aRngs r)) : CallC Try.prog 112 6 (lkF [(0, some (.mapb true (entD (c.starts q)))), (1, some (.cells 150 [.f (csks c.casks), .f (movs c.moves), .f (ggs c.gauges), .f (i64 (q.getD 0 0)), .f (i64 (q.getD 1 0)), .f (i64 (q.getD 2 0)), .f (i64 (q.getD 3 0)), .mp 0])), (2, some (.cells 118 [.fn OF [] []])), (3, some (.cells 4 [.f (.bool false)])), (4, some (.cells 59 [.own 5])), (5, some (rowR []))] fun _ => none) [.s (.c (.ptr 1 0)), .s (.c (.ptr 2 0)), .s (.c (.ptr 3 0)), .s (.c (.ptr 4 0))] 7 (lkF [(0, none), (1, none), (2, some (.cells 118 [.fn OF [] []])), (3, some (.cells 4 [.f (.bool true)])), (4, some (.cells 59 [.own 6])), (5, none), (6, some (rowR (joinK none r)))] fun _ => none) (aBool false) := by
  refine callC_intro tabOk mixed Try.func112 rfl rfl rfl rfl ?_
  intro w0 e0 Z0 X hX n
  refine vc_seq ?_
  refine vc_region ?_
  refine oq1 ?_
  refine run_nil ?_
  refine vc_seq ?_
  refine vc_region ?_
  refine oq5 ?_
  refine oq2 ?_
  refine oq1 ?_
  refine run_call hOF [] rfl rfl rfl trivial rfl rfl rfl rfl (.cons rfl (.refl _) rfl rfl (.cons rfl (.refl _) rfl rfl (.nil))) rfl rfl rfl rfl rfl ?_
  refine oq1 ?_
  refine run_nil ?_
  refine vc_seq ?_
  refine vc_seq ?_
  refine vc_region ?_
  refine oq1 ?_
  refine oq1 ?_
  refine oq1 ?_
  refine run_nil ?_
  refine vc_block ?_
  refine vc_loop (κ := Nat) (fun i => i ≤ r.length) (fun i => ⟨[(2, .s (.c (.ptr 3 0))), (3, .s (.c (.ptr 4 0))), (13, aRngs r), (14, aInt .i64 (r.length : Int)), (15, aInt .i64 (i : Int))], [(2, some (.cells 118 [.fn OF [] []])), (3, some (.cells 4 [.f (.bool false)])), (4, some (.cells 59 [.own 6])), (6, some (rowR (r.take i)))], fun _ => none, 7⟩) (fun i => r.length - i) 0 (Nat.zero_le _) ?_ ?_
  ·
    exact ent_ren [(6, 5)] (.cons (.refl _) rfl (.cons (.refl _) rfl (.cons (.refl _) rfl (.cons (.refl _) rfl (.cons (.refl _) rfl (.nil)))))) (.cons rfl (.refl _) rfl rfl (.cons rfl (.refl _) rfl rfl (.cons rfl (.refl _) rfl rfl (.cons rfl (rowZ rfl) rfl rfl (.nil))))) rfl rfl (fun i hi => ⟨piS rfl hi, Nat.lt_of_lt_of_le hi (Nat.le_of_ble_eq_true rfl)⟩)
  rintro i hi
  have htl : (r.take i).length = i := by rw [List.length_take]; omega
  refine vc_seq ?_
  refine vc_region ?_
  refine oq6 ?_
  refine run_nil ?_
  refine vc_seq ?_
  refine vc_condP rfl (fun h1 => ?_) (fun h1 => ?_)
  ·
    try simp only [Int.toNat_natCast] at h1
    refine vc_skip ?_
    refine vc_seq ?_
    refine vc_block ?_
    refine vc_seq ?_
    refine vc_region ?_
    refine oq1 ?_
    refine oq3 ?_
    refine oq2 ?_
    refine run_alloc rfl trivial rfl rfl rfl rfl (by intro _ _ h; cases h <;> (intro _; rfl)) ?_
    refine oq1 ?_
    refine Sx.run_store rfl trivial rfl rfl rfl rfl rfl rfl rfl ?_
    refine run_nil ?_
    refine vc_seq ?_
    refine vc_seq ?_
    refine vc_region ?_
    refine oq2 ?_
    refine oq1 ?_
    refine run_nil ?_
    refine vc_cond rfl (fun h2 => ?_) (fun h2 => ?_)
    ·
      try simp only [Int.toNat_natCast] at h2
      refine vc_region ?_
      refine oq2 ?_
      refine oq2 ?_
      refine run_buildSlice rfl trivial rfl rfl rfl rfl rfl rfl rfl rfl rfl ?_
      refine run_append rfl rfl rfl rfl trivial rfl rfl rfl rfl rfl rfl rfl rfl rfl rfl rfl (by first | omega | exact app_room (by omega) rfl) ?_
      refine Sx.run_store rfl trivial rfl rfl rfl rfl rfl rfl rfl ?_
      refine run_nil ?_
      have htk : (r.take (i + 1)).getD i default = r.getD i default := by simp [List.getD, List.getElem?_take]
      refine vc_ent (ent_blk 8 rfl (show BlkLe _ (rowR (r.take (i + 1))) by rw [take_at default (show i < r.length by omega)]; exact rowL_snoc (g := rngF) (d := default) _ _ (fall2 (.refl _) (.refl _)))) ?_
      have htl1 : (r.take (i + 1)).length = i + 1 := by rw [List.length_take]; omega
      refine vc_regionD rfl ?_
      refine oq2 ?_
      refine oq1 ?_
      refine oq2 ?_
      refine oq1 ?_
      refine oq3 ?_
      refine oq5 ?_
      refine oq2 ?_
      refine oq5 ?_
      refine oq2 ?_
      refine run_buildSliceW (ints [((r.take (i + 1)).getD i default).lo, (r.getD i default).lo]) rfl trivial rfl rfl rfl rfl rfl rfl rfl rfl rfl (encL_lit (k := 1) (g := fun n _ => i64 n) (d := 0) [((r.take (i + 1)).getD i default).lo, (r.getD i default).lo]) ?_
      refine run_callP (minimum2_c ((r.take (i + 1)).getD i default).lo (r.getD i default).lo) rfl rfl rfl trivial rfl rfl rfl rfl ?_
      refine oq2 ?_
      refine oq1 ?_
      refine oq3 ?_
      refine oq5 ?_
      refine oq2 ?_
      refine oq5 ?_
      refine oq2 ?_
      refine run_q rfl trivial rfl rfl rfl (by first | exact rfl | exact ⟨rfl, rfl⟩) ?_
      refine oq1 ?_
      refine oq3 ?_
      refine run_storeR true rfl trivial rfl rfl rfl rfl rfl rfl rfl rfl rfl (by (try simp only [Int.toNat_natCast]); omega) ?_
      refine run_nil ⟨rfl, ?_⟩
      refine vc_region ?_
      refine oq4 ?_
      refine oq1 ?_
      refine run_nil ?_
      refine ⟨i + 1, by omega, by omega, ent_ren [(6, 8)] (.cons (.refl _) rfl (.cons (.refl _) rfl (.cons (.refl _) rfl (.cons (.refl _) rfl (.cons (.refl _) rfl (.nil)))))) (.cons rfl (.refl _) rfl rfl (.cons rfl (.refl _) rfl rfl (.cons rfl (.refl _) rfl rfl (.cons rfl (in_set htk (by rw [List.length_take]; omega)) rfl rfl (.nil))))) rfl rfl (fun i hi => ⟨piS rfl hi, Nat.lt_of_lt_of_le hi (Nat.le_of_ble_eq_true rfl)⟩)⟩
    ·
      try simp only [Int.toNat_natCast] at h2
      exact absurd h2 (by decide)
  ·
    try simp only [Int.toNat_natCast] at h1
    refine vc_exit ?_
    refine vc_seq ?_
    refine vc_region ?_
    refine Sx.run_store rfl trivial rfl rfl rfl rfl rfl rfl rfl ?_
    refine run_nil ?_
    refine vc_seq ?_
    refine vc_region ?_
    refine oq1 ?_
    refine run_nil ?_
    refine vc_ret ?_
    obtain rfl : i = r.length := by omega
    exact ⟨[(6, 6)], _, _, rfl, trivial, AVle.refl _, rfl, .no (.no (.cons rfl (.refl _) rfl rfl (.cons rfl (.refl _) rfl rfl (.cons rfl (.refl _) rfl rfl (.no (.cons rfl (by rw [List.take_length]; exact .refl _) rfl rfl .nil)))))), rfl, fun i hi => piS rfl hi⟩

theorem in1s_c (c : Clr) (q : List Int) (OF : FuncId) (r l : List Rng) (hr : r.length ≤ 1000000) (hl : l.length = r.length) (hOF : CallC Try.prog OF 2 (lkF [(0, some (.mapb true (entD (c.starts q)))), (1, some (.cells 150 [.f (csks c.casks), .f (movs c.moves), .f (ggs c.gauges), .f (i64 (q.getD 0 0)), .f (i64 (q.getD 1 0)), .f (i64 (q.getD 2 0)), .f (i64 (q.getD 3 0)), .mp 0]))] fun _ => none) [.s (.c (.ptr 1 0))] 2 (lkF [(0, some (.mapb true (entD (c.starts q)))), (1, some (.cells 150 [.f (csks c.casks), .f (movs c.moves), .f (ggs c.gauges), .f (i64 (q.getD 0 0)), .f (i64 (q.getD 1 0)), .f (i64 (q.getD 2 0)), .f (i64 (q.getD 3 0)), .mp 0]))] fun _ => none) (aRngs r)) : CallC Try.prog 112 6 (lkF [(0, some (.mapb true (entD (c.starts q)))), (1, some (.cells 150 [.f (csks c.casks), .f (movs c.moves), .f (ggs c.gauges), .f (i64 (q.getD 0 0)), .f (i64 (q.getD 1 0)), .f (i64 (q.getD 2 0)), .f (i64 (q.getD 3 0)), .mp 0])), (2, some (.cells 118 [.fn OF [] []])), (3, some (.cells 4 [.f (.bool true)])), (4, some (.cells 59 [.own 5])), (5, some (rowR l))] fun _ => none) [.s (.c (.ptr 1 0)), .s (.c (.ptr 2 0)), .s (.c (.ptr 3 0)), .s (.c (.ptr 4 0))] 7 (lkF [(0, none), (1, none), (2, some (.cells 118 [.fn OF [] []])), (3, some (.cells 4 [.f (.bool true)])), (4, some (.cells 59 [.own 6])), (5, none), (6, some (rowR (joinK (some l) r)))] fun _ => none) (aBool false) := by
  refine callC_intro tabOk mixed Try.func112 rfl rfl rfl rfl ?_
  intro w0 e0 Z0 X hX n
  refine vc_seq ?_
  refine vc_region ?_
  refine oq1 ?_
  refine run_nil ?_
  refine vc_seq ?_
  refine vc_region ?_
  refine oq5 ?_
  refine oq2 ?_
  refine oq1 ?_
  refine run_call hOF [] rfl rfl rfl trivial rfl rfl rfl rfl (.cons rfl (.refl _) rfl rfl (.cons rfl (.refl _) rfl rfl (.nil))) rfl rfl rfl rfl rfl ?_
  refine oq1 ?_
  refine run_nil ?_
  refine vc_seq ?_
  refine vc_seq ?_
  refine vc_region ?_
  refine oq1 ?_
  refine oq1 ?_
  refine oq1 ?_
  refine run_nil ?_
  refine vc_block ?_
  refine vc_loop (κ := Nat) (fun i => i ≤ r.length) (fun i => ⟨[(2, .s (.c (.ptr 3 0))), (3, .s (.c (.ptr 4 0))), (13, aRngs r), (14, aInt .i64 (r.length : Int)), (15, aInt .i64 (i : Int))], [(2, some (.cells 118 [.fn OF [] []])), (3, some (.cells 4 [.f (.bool true)])), (4, some (.cells 59 [.own 5])), (5, some (.row 64 2 r.length fun a j => rngF (mixS l r i a) j))], fun _ => none, 6⟩) (fun i => r.length - i) 0 (Nat.zero_le _) ?_ ?_
  ·
    exact ent_ren [] (.cons (.refl _) rfl (.cons (.refl _) rfl (.cons (.refl _) rfl (.cons (.refl _) rfl (.cons (.refl _) rfl (.nil)))))) (.cons rfl (.refl _) rfl rfl (.cons rfl (.refl _) rfl rfl (.cons rfl (.refl _) rfl rfl (.cons rfl (.row hl fun a j ha hj => .of_eq (by rw [mixS, if_neg (Nat.not_lt_zero a)])) rfl rfl (.nil))))) rfl rfl (fun i hi => ⟨piS rfl hi, Nat.lt_of_lt_of_le hi (Nat.le_of_ble_eq_true rfl)⟩)
  rintro i hi
  refine vc_seq ?_
  refine vc_region ?_
  refine oq6 ?_
  refine run_nil ?_
  refine vc_seq ?_
  refine vc_condP rfl (fun h1 => ?_) (fun h1 => ?_)
  ·
    try simp only [Int.toNat_natCast] at h1
    refine vc_skip ?_
    refine vc_seq ?_
    refine vc_block ?_
    refine vc_seq ?_
    refine vc_region ?_
    refine oq1 ?_
    refine oq3 ?_
    refine oq2 ?_
    refine run_alloc rfl trivial rfl rfl rfl rfl (by intro _ _ h; cases h <;> (intro _; rfl)) ?_
    refine oq1 ?_
    refine Sx.run_store rfl trivial rfl rfl rfl rfl rfl rfl rfl ?_
    refine run_nil ?_
    refine vc_seq ?_
    refine vc_seq ?_
    refine vc_region ?_
    refine oq2 ?_
    refine oq1 ?_
    refine run_nil ?_
    refine vc_cond rfl (fun h2 => ?_) (fun h2 => ?_)
    ·
      try simp only [Int.toNat_natCast] at h2
      exact absurd h2 (by decide)
    ·
      try simp only [Int.toNat_natCast] at h2
      refine vc_skip ?_
      refine vc_regionD rfl ?_
      refine oq2 ?_
      refine oq1 ?_
      refine oq2 ?_
      refine oq1 ?_
      refine oq3 ?_
      refine oq5 ?_
      refine oq2 ?_
      refine oq5 ?_
      refine oq2 ?_
      refine run_buildSliceW (ints [(mixS l r i i).lo, (r.getD i default).lo]) rfl trivial rfl rfl rfl rfl rfl rfl rfl rfl rfl (encL_lit (k := 1) (g := fun n _ => i64 n) (d := 0) [(mixS l r i i).lo, (r.getD i default).lo]) ?_
      refine run_callP (minimum2_c (mixS l r i i).lo (r.getD i default).lo) rfl rfl rfl trivial rfl rfl rfl rfl ?_
      refine oq2 ?_
      refine oq1 ?_
      refine oq3 ?_
      refine oq5 ?_
      refine oq2 ?_
      refine oq5 ?_
      refine oq2 ?_
      refine run_q rfl trivial rfl rfl rfl (by first | exact rfl | exact ⟨rfl, rfl⟩) ?_
      refine oq1 ?_
      refine oq3 ?_
      refine run_storeR true rfl trivial rfl rfl rfl rfl rfl rfl rfl rfl rfl (by (try simp only [Int.toNat_natCast]); omega) ?_
      refine run_nil ⟨rfl, ?_⟩
      refine vc_region ?_
      refine oq4 ?_
      refine oq1 ?_
      refine run_nil ?_
      refine ⟨i + 1, by omega, by omega, ent_ren [] (.cons (.refl _) rfl (.cons (.refl _) rfl (.cons (.refl _) rfl (.cons (.refl _) rfl (.cons (.refl _) rfl (.nil)))))) (.cons rfl (.refl _) rfl rfl (.cons rfl (.refl _) rfl rfl (.cons rfl (.refl _) rfl rfl (.cons rfl (mixS_set (if_neg (Nat.lt_irrefl i))) rfl rfl (.nil))))) rfl rfl (fun i hi => ⟨piS rfl hi, Nat.lt_of_lt_of_le hi (Nat.le_of_ble_eq_true rfl)⟩)⟩
  ·
    try simp only [Int.toNat_natCast] at h1
    refine vc_exit ?_
    refine vc_seq ?_
    refine vc_region ?_
    refine Sx.run_store rfl trivial rfl rfl rfl rfl rfl rfl rfl ?_
    refine run_nil ?_
    refine vc_seq ?_
    refine vc_region ?_
    refine oq1 ?_
    refine run_nil ?_
    refine vc_ret ?_
    obtain rfl : i = r.length := by omega
    exact ⟨[(6, 5)], _, _, rfl, trivial, AVle.refl _, rfl, .no (.no (.cons rfl (.refl _) rfl rfl (.cons rfl (.refl _) rfl rfl (.cons rfl (.refl _) rfl rfl (.no (.cons rfl (mixS_end hl) rfl rfl .nil)))))), rfl, fun i hi => piS rfl hi⟩

theorem in1_c (c : Clr) (q : List Int) (OF : FuncId) (r : List Rng) (k : Option (List Rng)) (hr : r.length ≤ 1000000) (hk : ∀ l, k = some l → l.length = r.length) (hOF : CallC Try.prog OF 2 (lkF [(0, some (.mapb true (entD (c.starts q)))), (1, some (.cells 150 [.f (csks c.casks), .f (movs c.moves), .f (ggs c.gauges), .f (i64 (q.getD 0 0)), .f (i64 (q.getD 1 0)), .f (i64 (q.getD 2 0)), .f (i64 (q.getD 3 0)), .mp 0]))] fun _ => none) [.s (.c (.ptr 1 0))] 2 (lkF [(0, some (.mapb true (entD (c.starts q)))), (1, some (.cells 150 [.f (csks c.casks), .f (movs c.moves), .f (ggs c.gauges), .f (i64 (q.getD 0 0)), .f (i64 (q.getD 1 0)), .f (i64 (q.getD 2 0)), .f (i64 (q.getD 3 0)), .mp 0]))] fun _ => none) (aRngs r)) : CallC Try.prog 112 6 (lkF [(0, some (.mapb true (entD (c.starts q)))), (1, some (.cells 150 [.f (csks c.casks), .f (movs c.moves), .f (ggs c.gauges), .f (i64 (q.getD 0 0)), .f (i64 (q.getD 1 0)), .f (i64 (q.getD 2 0)), .f (i64 (q.getD 3 0)), .mp 0])), (2, some (.cells 118 [.fn OF [] []])), (3, some (.cells 4 [.f (.bool k.isSome)])), (4, some (.cells 59 [.own 5])), (5, some (rowR (k.getD [])))] fun _ => none) [.s (.c (.ptr 1 0)), .s (.c (.ptr 2 0)), .s (.c (.ptr 3 0)), .s (.c (.ptr 4 0))] 7 (lkF [(0, none), (1, none), (2, some (.cells 118 [.fn OF [] []])), (3, some (.cells 4 [.f (.bool true)])), (4, some (.cells 59 [.own 6])), (5, none), (6, some (rowR (joinK k r)))] fun _ => none) (aBool false) := by
  cases k with
  | none => exact in1n_c c q OF r hr hOF
  | some l => exact in1s_c c q OF r l hr (hk l rfl) hOF

end Go.Proofs.Ytnkgdapdccpjmaa

