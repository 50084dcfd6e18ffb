import Derived.Test.YtnkgdapdccpjmaaM2
import Derived.Laws.StructEq
import Derived.ChangeKeysEq
import Derived.Maps.RangeRun
import Derived.Laws.Cover3
import Derived.Laws.CopyRow
import Derived.ProofKit
import Derived.OpenShut
import Derived.JoinedCond
import Derived.WideKeyArgs
import Derived.ChangeSame
/- Structs and arrays compared. -/
namespace Go.Sx
open Go Go.RowKit

structure TabEq (P : Program) (T : Tab) : Prop where
  blank : ∀ t ti fields, T t = some ti → ti.desc = .struct fields → ∀ f ∈ fields.toList, f.name ≠ "_"
  held : ∀ t ti, T t = some ti → P.stoodInHeld t = false
  guard : ∀ t ti, T t = some ti → P.eqGuardType P.depth t = false

def eqFs (T : Tab) (rc : TypeId → AV → AV → Option Bool) (xs ys : List CV) : List Field → Option Bool
  | [] => some true
  | f :: fs => match T f.type with
    | some tf => cond (Nat.ble (f.offset + tf.size) xs.length && Nat.ble (f.offset + tf.size) ys.length)
      (match rc f.type (mkAV tf (xs.drop f.offset)) (mkAV tf (ys.drop f.offset)), eqFs T rc xs ys fs with | some a, some b => some (a && b) | _, _ => none) none
    | none => none
def eqIs (te : TI) (rc : AV → AV → Option Bool) (xs ys : List CV) : List Nat → Option Bool
  | [] => some true
  | i :: is => cond (Nat.ble (i * te.size + te.size) xs.length && Nat.ble (i * te.size + te.size) ys.length)
      (match rc (mkAV te (xs.drop (i * te.size))) (mkAV te (ys.drop (i * te.size))), eqIs te rc xs ys is with | some a, some b => some (a && b) | _, _ => none) none

def eqA (T : Tab) : Nat → TypeId → AV → AV → Option Bool
  | 0, _, _, _ => none
  | d + 1, t, x, y => match T t with
    | some ti => match ti.desc, x, y with
      | .int _, .s (.c (.f (.int k a))), .s (.c (.f (.int k' b))) => if k = k' then some (decide (a = b)) else none
      | .bool, .s (.c (.f (.bool a))), .s (.c (.f (.bool b))) => some (a == b)
      | .struct fields, .s (.agg xs), .s (.agg ys) => eqFs T (eqA T d) xs ys fields.toList
      | .array len el, .s (.agg xs), .s (.agg ys) => match T el with | some te => eqIs te (eqA T d el) xs ys (List.range len) | none => none
      | _, _, _ => none
    | none => none

section
variable {P : Program} {T : Tab} {w : World} {e : Env} {Z L : Nat → Prop}

theorem eqFs_ok (hT : TabOk P T) {d : Nat} (ih : ∀ t x y b, eqA T d t x y = some b → ∀ vx vy, RepA w e Z L vx x → RepA w e Z L vy y → (Op.equalIn d t vx vy).run P w = .ok b w) {cx cy : Array Value} {xs ys : List CV} (hx : All2 (RepC w e Z L) cx.toList xs) (h1 : ∀ u ∈ cx.toList, u.oneCell' = true)
    (hy : All2 (RepC w e Z L) cy.toList ys) (h2 : ∀ u ∈ cy.toList, u.oneCell' = true) : ∀ (fs : List Field) (b : Bool), (∀ f ∈ fs, f.name ≠ "_") → eqFs T (eqA T d) xs ys fs = some b → (Op.eqFields d cx cy fs).run P w = .ok b w := by
  intro fs
  induction fs with
  | nil => intro b _ h; simp only [eqFs, Option.some.injEq] at h; subst h; simp [Op.eqFields]
  | cons f fs ihf =>
    intro b hb h
    simp only [eqFs] at h
    split at h
    · rename_i tf htf
      cases hc : (Nat.ble (f.offset + tf.size) xs.length && Nat.ble (f.offset + tf.size) ys.length) with
      | false => rw [hc] at h; cases h
      | true =>
        rw [hc] at h
        simp only [Bool.and_eq_true] at hc
        simp only [cond_true] at h
        split at h
        · rename_i a b' ha hb'
          simp only [Option.some.injEq] at h; subst h
          obtain ⟨u, hu, hru⟩ := run_part (hT _ _ htf) hx h1 (ble_of hc.1)
          obtain ⟨v, hv, hrv⟩ := run_part (hT _ _ htf) hy h2 (ble_of hc.2)
          simp only [Op.eqFields, hb f (by simp), ne_eq, not_false_eq_true, if_true, Sem.run_bind, hu, hv, Result.andThen_ok, ih _ _ _ _ ha u v hru hrv]
          cases a with
          | false => simp
          | true => simpa using ihf b' (fun f hf => hb f (by simp [hf])) hb'
        · cases h
    · cases h

theorem eqIs_ok {el : TypeId} {te : TI} (hte : TIOk P el te) {d : Nat} {rc : AV → AV → Option Bool} (ih : ∀ x y b, rc x y = some b → ∀ vx vy, RepA w e Z L vx x → RepA w e Z L vy y → (Op.equalIn d el vx vy).run P w = .ok b w) {cx cy : Array Value} {xs ys : List CV}
    (hx : All2 (RepC w e Z L) cx.toList xs) (h1 : ∀ u ∈ cx.toList, u.oneCell' = true) (hy : All2 (RepC w e Z L) cy.toList ys) (h2 : ∀ u ∈ cy.toList, u.oneCell' = true) :
    ∀ (is : List Nat) (b : Bool), eqIs te rc xs ys is = some b → (Op.eqItems d el te.size cx cy is).run P w = .ok b w := by
  intro is
  induction is with
  | nil => intro b h; simp only [eqIs, Option.some.injEq] at h; subst h; simp [Op.eqItems]
  | cons i is ihf =>
    intro b h
    simp only [eqIs] at h
    cases hc : (Nat.ble (i * te.size + te.size) xs.length && Nat.ble (i * te.size + te.size) ys.length) with
    | false => rw [hc] at h; cases h
    | true =>
      rw [hc] at h
      simp only [Bool.and_eq_true] at hc
      simp only [cond_true] at h
      split at h
      · rename_i a b' ha hb'
        simp only [Option.some.injEq] at h; subst h
        obtain ⟨u, hu, hru⟩ := run_part hte hx h1 (ble_of hc.1)
        obtain ⟨v, hv, hrv⟩ := run_part hte hy h2 (ble_of hc.2)
        simp only [Op.eqItems, Sem.run_bind, hu, hv, Result.andThen_ok, ih _ _ _ ha u v hru hrv]
        cases a with
        | false => simp
        | true => simpa using ihf b' hb'
      · cases h

theorem eqA_ok (hT : TabOk P T) (hE : TabEq P T) : ∀ (d : Nat) (t : TypeId) (x y : AV) (b : Bool), eqA T d t x y = some b → ∀ vx vy, RepA w e Z L vx x → RepA w e Z L vy y → (Op.equalIn d t vx vy).run P w = .ok b w := by
  intro d
  induction d with
  | zero => intro t x y b h; cases h
  | succ d ih =>
    intro t x y b h vx vy hx hy
    simp only [eqA] at h
    split at h
    · rename_i ti hti
      have ht := hT t ti hti
      split at h
      · rename_i kk k a k' b' hd
        obtain rfl := repInt hx
        obtain rfl := repInt hy
        split at h
        · rename_i hk
          cases h
          subst hk
          simp only [Op.equalIn, Sem.run_bind, run_und ht, hd, Result.andThen_ok, if_true, Sem.run_pure]
          rfl
        · cases h
      · rename_i a b' hd
        obtain rfl := repBool hx
        obtain rfl := repBool hy
        cases h
        simp only [Op.equalIn, Sem.run_bind, run_und ht, hd, Result.andThen_ok, Sem.run_pure]
      · rename_i fields xs ys hd
        obtain ⟨cx, rfl, q1, q2⟩ := hx
        obtain ⟨cy, rfl, q3, q4⟩ := hy
        have hu : P.underlying t = some (.struct fields) := by rw [ht.und, hd]
        have hf : P.fieldsOf t = fields := by simp [Program.fieldsOf, hu]
        rw [run_equalIn_struct w d t cx cy (by rw [hf]; exact hu) (hE.held t ti hti), hf]
        exact eqFs_ok hT ih q1 q2 q3 q4 fields.toList b (hE.blank t ti fields hti hd) h
      · rename_i len el xs ys hd
        obtain ⟨cx, rfl, q1, q2⟩ := hx
        obtain ⟨cy, rfl, q3, q4⟩ := hy
        have hu : P.underlying t = some (.array len el) := by rw [ht.und, hd]
        split at h
        · rename_i te hte
          have hte' := hT el te hte
          obtain ⟨i, hi, his, _⟩ := hte'.info
          have hc : P.cellsOf el = te.size := by simp [Program.cellsOf, hi, his]
          rw [run_equalIn_array w d cx cy hu hi, hc]
          exact eqIs_ok hte' (fun x y b h => ih el x y b h) q1 q2 q3 q4 _ b h
        · cases h
      · cases h
    · cases h
end

section
variable {C : Ctx} {ops : Array Oper} {o : Oper} {l : List Oper} {acc : List FP} {K : List FP → St → Prop} {sl : List (Nat × AV)} {mem : List (Nat × Option Blk)} {tl : Nat → Option Blk} {nx d : Nat}

/-- Two structs, or two arrays, compared. -/
theorem run_eqS {op : BinOp} {t ty : TypeId} {x y : Operand} {ti : TI} {lx ly : List CV} {b : Bool} (neg : Bool) (hE : TabEq C.P C.T) (ho : o.op = .binOp op t x y ty) (hop : op = cond neg .neq .eql) (ht : C.T t = some ti) (hw : Wanted ops o (slF sl)) (hdst : o.dst = some d) (hd : Nat.blt d C.nt = true)
    (hx : evA (slF sl) x = .s (.agg lx)) (hy : evA (slF sl) y = .s (.agg ly)) (hb : eqA C.T Op.maxDepth t (.s (.agg lx)) (.s (.agg ly)) = some b)
    (t' : RunG C ops l ⟨(d, aBool (cond neg (!b) b)) :: sl, mem, tl, nx⟩ (⟨[], []⟩ :: acc) K) : RunG C ops (o :: l) ⟨sl, mem, tl, nx⟩ acc K := by
  refine run_step (S := ⟨sl, mem, tl, nx⟩) (d := ⟨[], [], aBool (cond neg (!b) b), fun _ => none⟩) (LS_val (by simp [notDefer, ho]) hw fun S' a w e Z he hm hsat => ?_) (by rw [hdst]; exact toF_put ⟨sl, mem, tl, nx⟩ (some d) [] _ _) t'
  have hxv := evA_ok hsat x
  rw [he x (by simp [ho, Op.operands]), show evA (St.toF ⟨sl, mem, tl, nx⟩).slot x = _ from hx] at hxv
  have hyv := evA_ok hsat y
  rw [he y (by simp [ho, Op.operands]), show evA (St.toF ⟨sl, mem, tl, nx⟩).slot y = _ from hy] at hyv
  have heq := eqA_ok (w := w) C.hT hE Op.maxDepth t _ _ b hb _ _ hxv hyv
  obtain ⟨cx, ex, _⟩ := hxv
  obtain ⟨cy, ey, _⟩ := hyv
  rw [ex, ey] at heq
  refine ⟨.bool (cond neg (!b) b), w, e, Z, .inl ?_, hsat.put (dst_some hdst hd) (mkBool _)⟩
  have hg : (eqGuard op t x y (.agg cx) (.agg cy)).run C.P w = .ok () w := by
    subst hop
    cases neg <;> simp [eqGuard, hE.guard t ti ht]
  simp only [execOp, ho, ex, ey, Sem.run_bind, hg, Result.andThen_ok]
  subst hop
  cases neg <;> simp [binOp, Op.equal, heq, Sem.run_bind]
end

end Go.Sx

/- Maps whose keys are structs of two integers. -/
namespace Go.Sx
open Go Go.RowKit

/-- A type of keys: a struct of two integers. -/
structure KeyT (P : Program) (T : Tab) (kt : TypeId) : Prop where
  d : ∃ tk f0 f1 t0 t1 k0 k1, T kt = some tk ∧ tk.desc = .struct #[f0, f1] ∧ f0.offset = 0 ∧ f1.offset = 1 ∧ T f0.type = some t0 ∧ T f1.type = some t1 ∧ t0.desc = .int k0 ∧ t1.desc = .int k1 ∧ t0.size = 1 ∧ t1.size = 1 ∧ t0.agg = false ∧ t1.agg = false

section
variable {P : Program} {T : Tab} {w : World} {kt : TypeId}

theorem keyVal_two (a b : Int) : keyVal [a, b] = .agg #[.int .i64 a, .int .i64 b] := rfl

theorem key_part {t : TypeId} {ti : TI} (ht : TIOk P t ti) (ha : ti.agg = false) (cs : Array Value) (i : Nat) (v : Value) (h : cs[i]? = some v) : (Go.part t cs i).run P w = .ok v w := by
  simp only [Go.part, Sem.run_bind, run_isAgg ht, ha, Result.andThen_ok, Bool.false_eq_true, if_false, h, Sem.run_pure]

theorem run_checkKey (hT : TabOk P T) (hE : TabEq P T) (hk : KeyT P T kt) (em : Bool) (n a b) : (Instr.checkKey em (n + 2) kt (keyVal [a, b])).run P w = .ok () w := by
  obtain ⟨tk, f0, f1, t0, t1, k0, k1, h1, h2, h3, h4, h5, h6, h7, h8, h9, h10, h11, h12⟩ := hk.d
  have hb0 := hE.blank kt tk _ h1 h2 f0 (by simp)
  have hb1 := hE.blank kt tk _ h1 h2 f1 (by simp)
  have e0 : (Instr.checkKey em (n + 1) f0.type (.int .i64 a)).run P w = .ok () w := by
    simp only [Instr.checkKey, Sem.run_bind, run_und (hT _ _ h5), h7, Result.andThen_ok, Sem.run_pure]
  have e1 : (Instr.checkKey em (n + 1) f1.type (.int .i64 b)).run P w = .ok () w := by
    simp only [Instr.checkKey, Sem.run_bind, run_und (hT _ _ h6), h8, Result.andThen_ok, Sem.run_pure]
  have p0 : (Go.part f0.type #[Value.int .i64 a, .int .i64 b] f0.offset).run P w = .ok (.int .i64 a) w := key_part (hT _ _ h5) h11 _ _ _ (by rw [h3]; rfl)
  have p1 : (Go.part f1.type #[Value.int .i64 a, .int .i64 b] f1.offset).run P w = .ok (.int .i64 b) w := key_part (hT _ _ h6) h12 _ _ _ (by rw [h4]; rfl)
  rw [keyVal_two, Instr.checkKey]
  simp only [Sem.run_bind, run_und (hT _ _ h1), h2, Result.andThen_ok]
  simp [hb0, hb1, e0, e1, p0, p1, Sem.run_bind]

theorem run_keyEq (hT : TabOk P T) (hE : TabEq P T) (hk : KeyT P T kt) (a b c d : Int) : (Op.equal kt (keyVal [a, b]) (keyVal [c, d])).run P w = .ok (decide ([a, b] = [c, d])) w := by
  obtain ⟨tk, f0, f1, t0, t1, k0, k1, h1, h2, h3, h4, h5, h6, h7, h8, h9, h10, h11, h12⟩ := hk.d
  have hrep : ∀ x y : Int, RepA w (⟨fun _ => 0, fun _ => undef⟩ : Env) (fun _ => False) (fun _ => False) (keyVal [x, y]) (.s (.agg [.f (.int .i64 x), .f (.int .i64 y)])) := fun x y =>
    ⟨_, rfl, .cons (RepF.int _ _) (.cons (RepF.int _ _) .nil), by intro u hu; simp at hu; rcases hu with rfl | rfl <;> rfl⟩
  refine eqA_ok hT hE Op.maxDepth kt _ _ _ ?_ _ _ (hrep a b) (hrep c d)
  have key : ∀ n, eqA T (n + 1 + 1) kt (.s (.agg [.f (.int .i64 a), .f (.int .i64 b)])) (.s (.agg [.f (.int .i64 c), .f (.int .i64 d)])) = some (decide ([a, b] = [c, d])) := fun n => by
    have e0 : ∀ x y : Int, eqA T (n + 1) f0.type (.s (.c (.f (.int .i64 x)))) (.s (.c (.f (.int .i64 y)))) = some (decide (x = y)) := fun x y => by simp [eqA, h5, h7]
    have e1 : ∀ x y : Int, eqA T (n + 1) f1.type (.s (.c (.f (.int .i64 x)))) (.s (.c (.f (.int .i64 y)))) = some (decide (x = y)) := fun x y => by simp [eqA, h6, h8]
    have m0 : ∀ x y : Int, mkAV t0 [CV.f (.int .i64 x), CV.f (.int .i64 y)] = .s (.c (.f (.int .i64 x))) := fun x y => by simp [mkAV, h11]
    have m1 : ∀ x : Int, mkAV t1 [CV.f (.int .i64 x)] = .s (.c (.f (.int .i64 x))) := fun x => by simp [mkAV, h12]
    rw [eqA]
    simp only [h1, h2]
    simp only [eqFs, h5, h6, h3, h4, h9, h10, List.drop_zero, List.drop_succ_cons, m0, m1, e0, e1]
    by_cases q1 : a = c <;> by_cases q2 : b = d <;> simp [q1, q2, Nat.ble]
  exact key 9998

/-- The first entry under a key. -/
theorem run_find (hT : TabOk P T) (hE : TabEq P T) (hk : KeyT P T kt) (a b : Int) : ∀ (es : List MapEntry) (ks : List (List Int)) (i : Nat), All2 (fun (m : MapEntry) k => m.key = keyVal k) es ks → (∀ k ∈ ks, k.length = 2) →
    ∃ r, (Instr.findAsking kt (keyVal [a, b]) es i).run P w = .ok r w ∧ (match ks.idxOf? [a, b] with | none => r = none | some j => ∃ m, es[j]? = some m ∧ r = some (i + j, m.val)) := by
  intro es
  induction es with
  | nil =>
    intro ks i h _
    cases h
    exact ⟨none, by simp [Instr.findAsking], rfl⟩
  | cons m es ih =>
    intro ks i h hl
    cases h with
    | @cons _ k _ ks hm ht =>
      have hk2 := hl k (by simp)
      match k, hk2 with
      | [c, d], _ =>
        obtain ⟨r, hr, hspec⟩ := ih ks (i + 1) ht (fun k hk => hl k (by simp [hk]))
        simp only [Instr.findAsking, Sem.run_bind, hm, run_keyEq hT hE hk, Result.andThen_ok]
        by_cases he : [a, b] = [c, d]
        · refine ⟨some (i, m.val), by simp [he], ?_⟩
          have : ([c, d] :: ks).idxOf? [a, b] = some 0 := by rw [he]; simp [List.idxOf?_cons]
          rw [this]
          exact ⟨m, rfl, rfl⟩
        · refine ⟨r, by simp only [he, decide_false, Bool.false_eq_true, if_false]; exact hr, ?_⟩
          have hne : ([c, d] == [a, b]) = false := by
            cases hq : ([c, d] == [a, b]) with
            | false => rfl
            | true => exact absurd (beq_iff_eq.1 hq).symm he
          rw [List.idxOf?_cons, hne]
          simp only [Bool.false_eq_true, if_false]
          revert hspec
          cases hi : ks.idxOf? [a, b] with
          | none => intro h; simpa using h
          | some j =>
            rintro ⟨m', h1, h2⟩
            refine ⟨m', ?_, ?_⟩
            · simpa using h1
            · rw [h2]; simp; omega

theorem run_findKey (hT : TabOk P T) (hE : TabEq P T) (hk : KeyT P T kt) (a b : Int) (es : List MapEntry) (ks : List (List Int)) (h : All2 (fun (m : MapEntry) k => m.key = keyVal k) es ks) (hl : ∀ k ∈ ks, k.length = 2) :
    ∃ r, (Instr.findKey kt (keyVal [a, b]) es).run P w = .ok r w ∧ (match ks.idxOf? [a, b] with | none => r = none | some j => ∃ m, es[j]? = some m ∧ r = some (j, m.val)) := by
  obtain ⟨tk, f0, f1, t0, t1, k0, k1, h1, h2, _⟩ := hk.d
  obtain ⟨r, hr, hs⟩ := run_find (w := w) hT hE hk a b es ks 0 h hl
  refine ⟨r, ?_, by simpa using hs⟩
  simp only [Instr.findKey, Sem.run_bind, run_und (hT _ _ h1), h2, Result.andThen_ok]
  cases es with
  | nil =>
    cases h
    simp [Instr.findNow]
    simp [Instr.findAsking] at hr
    exact hr
  | cons m es =>
    have : Instr.findNow (.struct #[f0, f1]) (keyVal [a, b]) (m :: es) 0 = none := by simp [Instr.findNow, Instr.sameNow]
    rw [this]
    exact hr
end

def valS (ag : Bool) (l : List FV) : SV := if ag then .agg (l.map CV.f) else .c (.f (l.headD .any))
def keysOf (D : List (List Int × List FV)) : List (List Int) := D.map (·.1)
def lookV (te : TI) (D : List (List Int × List FV)) (k : List Int) : SV × Bool :=
  match (keysOf D).idxOf? k with
  | some j => (valS te.agg ((D[j]?.map (·.2)).getD []), true)
  | none => (valS te.agg te.zero, false)
def lookAV (te : TI) (ok : Bool) (D : List (List Int × List FV)) (k : List Int) : AV :=
  if ok then .tup [(lookV te D k).1, .c (.f (.bool (lookV te D k).2))] else .s (lookV te D k).1
def upsD (D : List (List Int × List FV)) (k : List Int) (q : List FV) : List (List Int × List FV) :=
  match (keysOf D).idxOf? k with
  | some j => D.set j (k, q)
  | none => D ++ [(k, q)]

section
variable {P : Program} {T : Tab} {w : World} {e : Env} {Z L : Nat → Prop}

theorem entry_keys {ag : Bool} {es : List MapEntry} {D : List (List Int × List FV)} (h : All2 (EntryOk w Z ag) es D) : All2 (fun (m : MapEntry) k => m.key = keyVal k) es (keysOf D) := All2.map_right (h.imp fun _ _ h => h.1)

theorem valS_ok {ag : Bool} {m : MapEntry} {d : List Int × List FV} (h : EntryOk w Z ag m d) : RepS w e Z L m.val (valS ag d.2) := by
  have h2 := h.2
  cases ag with
  | true =>
    simp only [if_true] at h2
    obtain ⟨cs, q1, q2, q3⟩ := h2
    exact ⟨cs, q1, All2.map_right (q2.imp fun _ _ h => h), q3⟩
  | false =>
    simp only [Bool.false_eq_true, if_false] at h2
    obtain ⟨x, q1, q2, q3⟩ := h2
    simp only [valS, Bool.false_eq_true, if_false, q1]
    exact ⟨q2, q3⟩

theorem zeroS_ok {t : TypeId} {te : TI} (ht : TIOk P t te) : RepS w e Z L te.zv (valS te.agg te.zero) := by
  have hz := ht.zeros w Z
  cases ha : te.agg with
  | true =>
    obtain ⟨cs, hcs⟩ := ht.zagg ha
    simp only [valS, if_true]
    refine ⟨cs, hcs, All2.map_right ?_, fun u hu => ?_⟩
    · rw [hcs] at hz; exact hz.imp fun _ _ h => h
    · have hc := ht.zv
      rw [hcs] at hc
      simp only [Value.cells] at hc
      rw [hc] at hu
      exact ht.zone u (by simpa using hu)
  | false =>
    have h1 := ht.one ha
    have h2 := ht.znag ha
    simp only [valS, Bool.false_eq_true, if_false]
    refine ⟨?_, h2⟩
    have hcell : te.zv.cells = #[te.zv] := by
      cases hv : te.zv <;> first
        | rfl
        | (rw [hv] at h2; simp [Value.oneCell'] at h2)
    rw [hcell] at hz
    cases hl : te.zero with
    | nil => rw [hl] at hz; cases hz
    | cons x l => rw [hl] at hz; cases hz with | cons h t => exact h
theorem setObj_map {w : World} {g : Nat} {es : Array MapEntry} {c : Nat} (h : w.heap[g]? = some (.map es c)) (o : Obj) : (setObj g o).run P w = .ok () (w.putObj g o) := by simp [setObj, Sem.run, h, World.putObj]
theorem getObj_map {w : World} {g : Nat} {es : Array MapEntry} {c : Nat} (h : w.heap[g]? = some (.map es c)) : (getObj g).run P w = .ok (.map es c) w := by simp [getObj, Sem.run, h]

theorem idx_get {x : List Int} : ∀ {l : List (List Int)} {j : Nat}, l.idxOf? x = some j → l[j]? = some x := by
  intro l
  induction l with
  | nil => intro j h; simp at h
  | cons y l ih =>
    intro j h
    rw [List.idxOf?_cons] at h
    split at h
    · rename_i he
      cases h
      simp [beq_iff_eq.1 he]
    · obtain ⟨i, h1, rfl⟩ := Option.map_eq_some_iff.1 h
      simpa using ih h1

theorem run_lookup_ok (hT : TabOk P T) (hE : TabEq P T) {t kt el : TypeId} {ti te : TI} (ht : T t = some ti) (hd : ti.desc = .map kt el) (hk : KeyT P T kt) (hte : T el = some te) {g : Nat} {es : Array MapEntry} {c : Nat} {D : List (List Int × List FV)} (hh : w.heap[g]? = some (.map es c))
    (h : All2 (EntryOk w Z te.agg) es.toList D) (hl : ∀ d ∈ D, d.1.length = 2) (a b : Int) (ok : Bool) : ∃ v, (Instr.lookup t (.map (some g)) (keyVal [a, b]) ok).run P w = .ok v w ∧ RepA w e Z L v (lookAV te ok D [a, b]) := by
  obtain ⟨r, hr, hs⟩ := run_findKey (w := w) hT hE hk a b es.toList (keysOf D) (entry_keys h) (fun k hk => by obtain ⟨d, hd, rfl⟩ := List.mem_map.1 hk; exact hl d hd)
  have hfin : ∀ v f, RepS w e Z L v (lookV te D [a, b]).1 → f = (lookV te D [a, b]).2 → RepA w e Z L (if ok then .tuple #[v, .bool f] else v) (lookAV te ok D [a, b]) := fun v f h1 h2 => by
    cases ok with
    | true => exact ⟨_, rfl, .cons h1 (.cons ⟨by rw [h2]; exact .bool _, rfl⟩ .nil)⟩
    | false => exact h1
  rcases hi : (keysOf D).idxOf? [a, b] with _ | j
  · rw [hi] at hs
    subst hs
    refine ⟨if ok then .tuple #[te.zv, .bool false] else te.zv, ?_, hfin _ _ ?_ ?_⟩
    · simp only [Instr.lookup, Sem.run_bind, run_und (hT _ _ ht), hd, Result.andThen_ok, getObj_map hh, Sem.run_pure, run_checkKey hT hE hk _ 9998, hr, run_zero (hT _ _ hte)]
    · simp only [lookV, hi]; exact zeroS_ok (hT _ _ hte)
    · simp only [lookV, hi]
  · rw [hi] at hs
    obtain ⟨m, h1, rfl⟩ := hs
    have hj : j < D.length := by
      have := h.length
      have h2 := (List.getElem?_eq_some_iff.1 h1).1
      omega
    obtain ⟨m', q1, q2⟩ := h.get j D[j] (List.getElem?_eq_getElem hj)
    rw [h1] at q1; cases q1
    refine ⟨if ok then .tuple #[m.val, .bool true] else m.val, ?_, hfin _ _ ?_ ?_⟩
    · simp only [Instr.lookup, Sem.run_bind, run_und (hT _ _ ht), hd, Result.andThen_ok, getObj_map hh, Sem.run_pure, run_checkKey hT hE hk _ 9998, hr]
    · have := valS_ok (e := e) (L := L) q2
      simpa [lookV, hi, List.getElem?_eq_getElem hj] using this
    · simp only [lookV, hi]

theorem same_key (a b : Int) : Instr.sameBits 10000 (keyVal [a, b]) (keyVal [a, b]) = true := by
  rw [keyVal_two]
  simp [Instr.sameBits]

theorem run_update_ok (hT : TabOk P T) (hE : TabEq P T) {t kt el : TypeId} {ti : TI} {ag : Bool} (ht : T t = some ti) (hd : ti.desc = .map kt el) (hk : KeyT P T kt) {g : Nat} {es : Array MapEntry} {c : Nat} {D : List (List Int × List FV)} (hh : w.heap[g]? = some (.map es c))
    (h : All2 (EntryOk w Z ag) es.toList D) (hnd : (keysOf D).Nodup) (hbn : (es.toList.map (·.born)).Nodup) (hbc : ∀ m ∈ es.toList, m.born < c) (hl : ∀ d ∈ D, d.1.length = 2) (a b : Int) {v : Value} {q : List FV} (hv : ∀ m : MapEntry, m.key = keyVal [a, b] → m.val = v → EntryOk w Z ag m ([a, b], q)) :
    ∃ es' c', (Instr.mapUpdate t (.map (some g)) (keyVal [a, b]) v).run P w = .ok () (w.putObj g (.map es' c')) ∧ All2 (EntryOk w Z ag) es'.toList (upsD D [a, b] q) ∧ (keysOf (upsD D [a, b] q)).Nodup ∧ (es'.toList.map (·.born)).Nodup ∧ ∀ m ∈ es'.toList, m.born < c' := by
  obtain ⟨r, hr, hs⟩ := run_findKey (w := w) hT hE hk a b es.toList (keysOf D) (entry_keys h) (fun k hk => by obtain ⟨d, hd, rfl⟩ := List.mem_map.1 hk; exact hl d hd)
  unfold upsD
  rcases hi : (keysOf D).idxOf? [a, b] with _ | j
  · rw [hi] at hs
    subst hs
    refine ⟨es.push { key := keyVal [a, b], val := v, born := c }, c + 1, ?_, ?_, ?_, ?_, ?_⟩
    · simp only [Instr.mapUpdate, Sem.run_bind, run_und (hT _ _ ht), hd, Result.andThen_ok, getObj_map hh, run_checkKey hT hE hk _ 9998, hr, setObj_map hh]
    · simp only [Array.toList_push]
      exact h.append (.cons (hv _ rfl rfl) .nil)
    · have hni : ¬ [a, b] ∈ keysOf D := by
        intro hin
        have := List.isSome_idxOf?.2 hin
        rw [hi] at this; cases this
      simp only [keysOf, List.map_append, List.map_cons, List.map_nil]
      exact List.nodup_append.2 ⟨hnd, by simp, fun x hx y hy => by simp at hy; subst hy; intro he; subst he; exact hni hx⟩
    · simp only [Array.toList_push, List.map_append, List.map_cons, List.map_nil]
      refine List.nodup_append.2 ⟨hbn, by simp, fun x hx y hy => ?_⟩
      simp at hy
      obtain ⟨m, hm, rfl⟩ := List.mem_map.1 hx
      have := hbc m hm
      omega
    · intro m hm
      simp only [Array.toList_push, List.mem_append, List.mem_singleton] at hm
      rcases hm with hm | rfl
      · have := hbc m hm; omega
      · simp
  · rw [hi] at hs
    obtain ⟨m, h1, rfl⟩ := hs
    have hlen := h.length
    have hj2 := (List.getElem?_eq_some_iff.1 h1).1
    have hj : j < D.length := by omega
    obtain ⟨m', q1, q2⟩ := h.get j D[j] (List.getElem?_eq_getElem hj)
    rw [h1] at q1; cases q1
    have hkj : (D[j]).1 = [a, b] := by
      have := idx_get hi
      simpa [keysOf, List.getElem?_eq_getElem hj] using this
    have hmk : m.key = keyVal [a, b] := by rw [← hkj]; exact q2.1
    have hm2 : es[j]? = some m := by rw [← Array.getElem?_toList]; exact h1
    refine ⟨es.modify j fun e => { e with key := keyVal [a, b], val := v }, c, ?_, ?_, ?_, ?_, ?_⟩
    · simp only [Instr.mapUpdate, Sem.run_bind, run_und (hT _ _ ht), hd, Result.andThen_ok, getObj_map hh, run_checkKey hT hE hk _ 9998, hr, hm2, Option.map_some, Option.getD_some, Instr.keyThatStays, hmk, same_key, if_true, Sem.run_pure, setObj_map hh]
    · refine All2.of_get (by simp [hlen]) fun i x y hx hy => ?_
      rw [Array.getElem?_toList, Array.getElem?_modify] at hx
      rw [List.getElem?_set] at hy
      by_cases hij : j = i
      · subst hij
        simp only [if_true, hj, hm2, Option.some.injEq] at hx hy
        simp at hx
        subst hx; subst hy
        exact hv _ rfl rfl
      · simp only [hij, if_false] at hx hy
        obtain ⟨x', h3, h4⟩ := h.get i y hy
        rw [Array.getElem?_toList, hx] at h3; cases h3
        exact h4
    · have : keysOf (D.set j ([a, b], q)) = keysOf D := by
        simp only [keysOf, List.map_set]
        refine List.ext_getElem? fun i => ?_
        rw [List.getElem?_set]
        split
        · rename_i hji; subst hji; simp [hj, hkj]
        · rfl
      rw [this]; exact hnd
    · have : (es.modify j fun e => { e with key := keyVal [a, b], val := v }).toList.map (·.born) = es.toList.map (·.born) := by
        refine List.ext_getElem? fun i => ?_
        rw [List.getElem?_map, List.getElem?_map, Array.getElem?_toList, Array.getElem?_toList, Array.getElem?_modify]
        split
        · rename_i hji; subst hji; simp [hm2]
        · rfl
      rw [this]; exact hbn
    · intro m' hm'
      obtain ⟨i, hi'⟩ := List.mem_iff_getElem?.1 hm'
      rw [Array.getElem?_toList, Array.getElem?_modify] at hi'
      split at hi'
      · rename_i hji; subst hji
        rw [hm2] at hi'
        simp at hi'
        subst hi'
        exact hbc m (List.mem_of_getElem? h1)
      · exact hbc m' (List.mem_of_getElem? (by rw [Array.getElem?_toList]; exact hi'))
end

end Go.Sx

/- Operations on maps, as steps. -/
namespace Go.Sx
open Go Go.RowKit

section
variable {C : Ctx} {ops : Array Oper} {o : Oper} {l : List Oper} {acc : List FP} {K : List FP → St → Prop} {sl : List (Nat × AV)} {mem : List (Nat × Option Blk)} {tl : Nat → Option Blk} {nx d : Nat}

theorem run_makeMap {t : TypeId} (ag : Bool) (ho : o.op = .makeMap t none) (hw : Wanted ops o (slF sl)) (hdst : o.dst = some d) (hd : Nat.blt d C.nt = true)
    (t' : RunG C ops l ⟨(d, .s (.c (.mp nx))) :: sl, (nx, some (.mapb ag [])) :: mem, tl, nx + 1⟩ (⟨[], [nx]⟩ :: acc) K) : RunG C ops (o :: l) ⟨sl, mem, tl, nx⟩ acc K := by
  refine run_step (S := ⟨sl, mem, tl, nx⟩) (d := ⟨[], [nx], .s (.c (.mp nx)), fun _ => some (.mapb ag [])⟩) (LS_val (by simp [notDefer, ho]) hw fun S' a w e Z he hm hsat => ?_) (by rw [hdst]; exact toF_new ⟨sl, mem, tl, nx⟩ (some d) [] _ _) t'
  have hnx : ¬ S'.lim nx := fun h => Nat.lt_irrefl nx ((hm nx (.inr (by simp))).2.1 h)
  have hag := agree_withB e (g := w.heap.size) hnx
  have e1 : (e.withB nx w.heap.size).b nx = w.heap.size := by simp [Env.withB]
  refine ⟨.map (some w.heap.size), w.alloc (.map #[] 0), e.withB nx w.heap.size, Z, .inl ?_, ?_⟩
  · simp only [execOp, ho, Instr.makeMap, Option.map_none, Sem.run_bind, Sem.run_pure, Result.andThen_ok, run_newObj_alloc]
  · refine hsat.step_world (dst_some hdst hd) (Y := fun _ => False) (fr_alloc w _ _) hag (fun _ hb => hb) (fun _ hb => .inl hb) (fun b hb => by have := hsat.m.zlt b hb; simp; omega) (fun _ hf => hf.elim) ?_ ?_ ⟨⟨.inr (by simp), by rw [e1]⟩, rfl⟩
    · intro i b hi hb
      simp only [List.mem_singleton] at hi
      subst hi
      simp only [Option.some.injEq] at hb
      subst hb
      refine ⟨⟨#[], 0, by rw [e1]; exact World.alloc_heap_new w _, .nil, by simp, by simp, by simp⟩, fun g hg => ?_⟩
      simp only [Foot, e1, Option.some.injEq] at hg
      subst hg
      exact ⟨.inl (Nat.le_refl _), fun hz => by have := hsat.m.zlt _ hz; omega⟩
    · intro i j b b' g hi hj hne
      simp only [List.mem_singleton] at hi hj
      exact absurd (hi.trans hj.symm) hne

theorem map_val {C : Ctx} {S : StF} {a : Act} {w : World} {e : Env} {Z : Nat → Prop} (h : Sat C S a w e Z) {x : Operand} {id : Nat} (hx : evA S.slot x = .s (.c (.mp id))) : a.eval x = .map (some (e.b id)) := by
  have := evA_ok h x
  rw [hx] at this
  exact this.1.2

theorem key_val {C : Ctx} {S : StF} {a : Act} {w : World} {e : Env} {Z : Nat → Prop} (h : Sat C S a w e Z) {x : Operand} {i j : Int} (hx : evA S.slot x = .s (.agg [.f (.int .i64 i), .f (.int .i64 j)])) : a.eval x = keyVal [i, j] := by
  have := evA_ok h x
  rw [hx] at this
  obtain ⟨cs, h1, h2, _⟩ := this
  rw [h1, keyVal_two]
  obtain ⟨l⟩ := cs
  simp only at h2
  cases h2 with
  | cons q1 q2 =>
    cases q2 with
    | cons q3 q4 =>
      cases q4
      cases q1
      cases q3
      rfl

theorem run_lookup {t kt el : TypeId} {ti te : TI} {x ix : Operand} {ok : Bool} {id : Nat} {D : List (List Int × List FV)} {ag : Bool} {a b : Int} {y : AV} (hE : TabEq C.P C.T) (hk : KeyT C.P C.T kt) (ho : o.op = .lookup t x ix ok) (hw : Wanted ops o (slF sl)) (hdst : o.dst = some d) (hd : Nat.blt d C.nt = true)
    (ht : C.T t = some ti) (hdesc : ti.desc = .map kt el) (hte : C.T el = some te) (hx : evA (slF sl) x = .s (.c (.mp id))) (hm : meF mem tl id = some (.mapb ag D)) (hag : ag = te.agg) (hix : evA (slF sl) ix = .s (.agg [.f (.int .i64 a), .f (.int .i64 b)])) (hD : ∀ d ∈ D, d.1.length = 2)
    (hy : AVle (lookAV te ok D [a, b]) y) (t' : RunG C ops l ⟨(d, y) :: sl, mem, tl, nx⟩ (⟨[id], []⟩ :: acc) K) : RunG C ops (o :: l) ⟨sl, mem, tl, nx⟩ acc K := by
  refine run_step (S := ⟨sl, mem, tl, nx⟩) (d := ⟨[id], [], y, fun _ => none⟩) (LS_val (by simp [notDefer, ho]) hw fun S' ac w e Z he hmm hsat => ?_) (by rw [hdst]; exact toF_put ⟨sl, mem, tl, nx⟩ (some d) [id] _ _) t'
  have hxv := map_val hsat (x := x) (id := id) (by rw [he x (by simp [ho, Op.operands])]; exact hx)
  have hkv := key_val hsat (x := ix) (i := a) (j := b) (by rw [he ix (by simp [ho, Op.operands])]; exact hix)
  have hm' : S'.mem id = some (.mapb ag D) := ((hmm id (.inl (by simp))).1).trans hm
  obtain ⟨es, c, h1, h2, _⟩ := hsat.m.ok id _ hm'
  subst hag
  obtain ⟨v, hv, hr⟩ := run_lookup_ok (e := e) (L := S'.lim) C.hT hE ht hdesc hk hte h1 h2 hD a b ok
  refine ⟨v, w, e, Z, .inl ?_, hsat.put (dst_some hdst hd) (hy _ _ _ _ _ hr)⟩
  simp only [execOp, ho, hxv, hkv, Sem.run_bind, hv, Result.andThen_ok, Sem.run_pure]

theorem Sat.setMap {S : StF} {a : Act} {w : World} {e : Env} {Z : Nat → Prop} (h : Sat C S a w e Z) {dst : Option Tmp} (hd : ∀ d, dst = some d → d < C.nt) (R : List Nat) {id : Nat} {b b' : Blk} (hm : S.mem id = some b) (hf : Foot e id b = some (e.b id)) (hf' : Foot e id b' = some (e.b id)) {o : Obj} {av : AV} {v : Value}
    (hb : BlkOk (w.putObj (e.b id) o) e Z S.lim id b') (hv : RepA (w.putObj (e.b id) o) e Z S.lim v av) : Sat C (S.step dst ⟨R, [id], av, fun _ => some b'⟩) (a.put dst v) (w.putObj (e.b id) o) e Z := by
  have hlim := h.m.lim id _ hm
  refine h.step_world hd (Y := fun g => g = e.b id) ⟨rfl, rfl, rfl, by simp, fun k _ hk => World.putObj_heap_other hk⟩ (fun _ _ => ⟨rfl, rfl⟩) (fun _ h => h) (fun _ h => .inl h) (fun b hb => by rw [World.putObj_size]; exact h.m.zlt b hb) (fun g hg => ⟨id, _, by simp, hm, by rw [hf, hg]⟩) ?_ ?_ ?_
  · intro i b2 hi hb2
    simp only [List.mem_singleton] at hi
    subst hi
    simp only [Option.some.injEq] at hb2
    subst hb2
    refine ⟨hb.mono (fun _ _ => rfl) (fun _ h => h) (fun _ h => .inl h) (fun _ _ => ⟨rfl, rfl⟩) ⟨rfl, rfl⟩ (fun _ _ => rfl), fun g hg => ?_⟩
    rw [hf'] at hg; cases hg
    exact ⟨.inr rfl, h.m.clear i _ _ hm hf⟩
  · intro i j b b' g hi hj hne
    simp only [List.mem_singleton] at hi hj
    exact absurd (hi.trans hj.symm) hne
  · exact RepA.mono (fun _ _ => rfl) (fun _ h => h) (fun _ h => .inl h) (fun _ _ => ⟨rfl, rfl⟩) hv

theorem keep_put {w : World} {g : Nat} {o : Obj} {Z : Nat → Prop} (h : ¬ Z g) : KeepZ Z w (w.putObj g o) := fun b hb => World.putObj_heap_other fun e => h (e ▸ hb)

theorem entry_mono {w w' : World} {Z : Nat → Prop} (hk : KeepZ Z w w') {ag : Bool} {m : MapEntry} {d : List Int × List FV} (h : EntryOk w Z ag m d) : EntryOk w' Z ag m d := by
  refine ⟨h.1, ?_⟩
  have h := h.2
  cases ag with
  | true => simp only [if_true] at h ⊢; obtain ⟨cs, h1, h2, h4⟩ := h; exact ⟨cs, h1, h2.imp fun _ _ h3 => h3.mono hk (fun _ h => h), h4⟩
  | false => simp only [Bool.false_eq_true, if_false] at h ⊢; obtain ⟨x, h1, h2, h3⟩ := h; exact ⟨x, h1, h2.mono hk (fun _ h => h), h3⟩

/-- m[k] = v -/
theorem run_mapUpdate {t kt el : TypeId} {ti : TI} {x ix y : Operand} {id : Nat} {D : List (List Int × List FV)} {ag : Bool} {a b : Int} {q : List FV} (hE : TabEq C.P C.T) (hk : KeyT C.P C.T kt) (ho : o.op = .mapUpdate t x ix y) (hw : Wanted ops o (slF sl)) (hdst : o.dst = none)
    (ht : C.T t = some ti) (hdesc : ti.desc = .map kt el) (hx : evA (slF sl) x = .s (.c (.mp id))) (hm : meF mem tl id = some (.mapb ag D)) (hix : evA (slF sl) ix = .s (.agg [.f (.int .i64 a), .f (.int .i64 b)])) (hD : ∀ d ∈ D, d.1.length = 2)
    (hy : evA (slF sl) y = .s (valS ag q)) (hq : ag = false → q.length = 1) (hid : Nat.blt id nx = true)
    (t' : RunG C ops l ⟨sl, (id, some (.mapb ag (upsD D [a, b] q))) :: mem, tl, nx⟩ (⟨[], [id]⟩ :: acc) K) : RunG C ops (o :: l) ⟨sl, mem, tl, nx⟩ acc K := by
  refine run_step (S := ⟨sl, mem, tl, nx⟩) (d := ⟨[], [id], .any, fun _ => some (.mapb ag (upsD D [a, b] q))⟩) (LS_val (by simp [notDefer, ho]) hw fun S' ac w e Z he hmm hsat => ?_) (by rw [hdst]; exact toF_wr ⟨sl, mem, tl, nx⟩ none [] .any id _ (blt_of hid)) t'
  have hxv := map_val hsat (x := x) (id := id) (by rw [he x (by simp [ho, Op.operands])]; exact hx)
  have hkv := key_val hsat (x := ix) (i := a) (j := b) (by rw [he ix (by simp [ho, Op.operands])]; exact hix)
  have hyv := evA_ok hsat y
  rw [he y (by simp [ho, Op.operands]), show evA (St.toF ⟨sl, mem, tl, nx⟩).slot y = _ from hy] at hyv
  have hm' : S'.mem id = some (.mapb ag D) := ((hmm id (.inr (by simp))).1).trans hm
  obtain ⟨es, c, h1, h2, h3, h4, h5⟩ := hsat.m.ok id _ hm'
  have hval : ∀ m : MapEntry, m.key = keyVal [a, b] → m.val = ac.eval y → EntryOk w Z ag m ([a, b], q) := fun m q1 q2 => by
    refine ⟨q1, ?_⟩
    rw [q2]
    cases ag with
    | true =>
      simp only [if_true]
      simp only [valS, if_true] at hyv
      obtain ⟨cs, p1, p2, p3⟩ := hyv
      exact ⟨cs, p1, (All2.of_map_right p2).imp fun _ _ h => h, p3⟩
    | false =>
      simp only [Bool.false_eq_true, if_false]
      simp only [valS, Bool.false_eq_true, if_false] at hyv
      match q, hq rfl with
      | [x], _ => exact ⟨x, rfl, hyv.1, hyv.2⟩
  obtain ⟨es', c', r1, r2, r3, r4, r5⟩ := run_update_ok (w := w) (Z := Z) C.hT hE ht hdesc hk h1 h2 h3 h4 h5 hD a b hval
  have hlt : e.b id < w.heap.size := (Array.getElem?_eq_some_iff.1 h1).1
  have hz : ¬ Z (e.b id) := hsat.m.clear id _ _ hm' rfl
  refine ⟨undef, _, e, Z, .inr ⟨?_, rfl⟩, hsat.setMap (dst_none hdst) [] hm' rfl rfl ⟨es', c', World.putObj_heap_same hlt, r2.imp fun _ _ h => entry_mono (keep_put hz) h, r3, r4, r5⟩ trivial⟩
  simp only [execOp, ho, hxv, hkv, Sem.run_bind, r1, Result.andThen_ok, Sem.run_pure]
end

end Go.Sx

/- Ranges over maps, with the map's block pinned. -/
namespace Go.Sx
open Go Go.RowKit

def flatB : FV → Bool
  | .int _ _ => true
  | .bool _ => true
  | _ => false
def flatVal (ag : Bool) (q : List FV) : Value := if ag then .agg (q.map FV.valOf).toArray else (q.headD .any).valOf

/-- What is known of a pinned map's entries. -/
structure MapIs (ag : Bool) (D : List (List Int × List FV)) (es : Array MapEntry) (c : Nat) : Prop where
  ent : All2 (fun (m : MapEntry) d => m.key = keyVal d.1 ∧ m.val = flatVal ag d.2) es.toList D
  flat : ∀ d ∈ D, d.2.all flatB = true ∧ (ag = false → d.2.length = 1)
  keys : (keysOf D).Nodup
  born : (es.toList.map (·.born)).Nodup
  lt : ∀ m ∈ es.toList, m.born < c

theorem flat_val {w : World} {Z : Nat → Prop} {x : FV} (h : flatB x = true) {v : Value} (hr : RepF w Z v x) : v = x.valOf := by
  cases x <;> first
    | (cases hr; rfl)
    | cases h
theorem flat_rep {w : World} {Z : Nat → Prop} {x : FV} (h : flatB x = true) : RepF w Z x.valOf x ∧ x.valOf.oneCell' = true := by
  cases x <;> first
    | exact ⟨.int _ _, rfl⟩
    | exact ⟨.bool _, rfl⟩
    | cases h

theorem flat_vals {w : World} {Z : Nat → Prop} : ∀ {l : List FV} {vs : List Value}, l.all flatB = true → All2 (RepF w Z) vs l → vs = l.map FV.valOf := by
  intro l
  induction l with
  | nil => intro vs _ h; cases h; rfl
  | cons x l ih =>
    intro vs h hr
    simp only [List.all_cons, Bool.and_eq_true] at h
    cases hr with
    | cons h1 h2 => rw [flat_val h.1 h1, ih h.2 h2]; rfl
theorem flat_reps {w : World} {Z : Nat → Prop} : ∀ {l : List FV}, l.all flatB = true → All2 (RepF w Z) (l.map FV.valOf) l ∧ ∀ u ∈ l.map FV.valOf, u.oneCell' = true := by
  intro l
  induction l with
  | nil => intro _; exact ⟨.nil, by simp⟩
  | cons x l ih =>
    intro h
    simp only [List.all_cons, Bool.and_eq_true] at h
    obtain ⟨h1, h2⟩ := flat_rep (w := w) (Z := Z) h.1
    obtain ⟨h3, h4⟩ := ih h.2
    exact ⟨.cons h1 h3, by intro u hu; rcases List.mem_cons.1 hu with rfl | hu; exact h2; exact h4 u hu⟩

theorem entry_flat {w : World} {Z : Nat → Prop} {ag : Bool} {m : MapEntry} {d : List Int × List FV} (hf : d.2.all flatB = true) (h : EntryOk w Z ag m d) : m.key = keyVal d.1 ∧ m.val = flatVal ag d.2 := by
  refine ⟨h.1, ?_⟩
  have h := h.2
  cases ag with
  | true =>
    simp only [if_true] at h
    obtain ⟨cs, h1, h2, _⟩ := h
    rw [h1]
    simp only [flatVal, if_true]
    congr 1
    apply Array.ext'
    simpa using flat_vals hf h2
  | false =>
    simp only [Bool.false_eq_true, if_false] at h
    obtain ⟨x, h1, h2, _⟩ := h
    rw [h1] at hf ⊢
    simp only [List.all_cons, List.all_nil, Bool.and_true] at hf
    simp only [flatVal, Bool.false_eq_true, if_false, List.headD_cons]
    exact flat_val hf h2

theorem flat_entry {w : World} {Z : Nat → Prop} {ag : Bool} {m : MapEntry} {d : List Int × List FV} (hf : d.2.all flatB = true) (h1 : ag = false → d.2.length = 1) (h : m.key = keyVal d.1 ∧ m.val = flatVal ag d.2) : EntryOk w Z ag m d := by
  refine ⟨h.1, ?_⟩
  rw [h.2]
  cases ag with
  | true =>
    obtain ⟨h2, h3⟩ := flat_reps (w := w) (Z := Z) hf
    simp only [if_true, flatVal]
    exact ⟨_, rfl, by simpa using h2, by simpa using h3⟩
  | false =>
    match hq : d.2, h1 rfl with
    | [x], _ =>
      rw [hq] at hf
      simp only [List.all_cons, List.all_nil, Bool.and_true] at hf
      obtain ⟨h2, h3⟩ := flat_rep (w := w) (Z := Z) hf
      simp only [Bool.false_eq_true, if_false, flatVal, List.headD_cons]
      exact ⟨x, rfl, h2, h3⟩

theorem Sat.drew {C : Ctx} {S : StF} {a : Act} {w : World} {e : Env} {Z : Nat → Prop} (h : Sat C S a w e Z) : Sat C S a w.drew e Z := by
  have hk : KeepZ Z w w.drew := fun _ _ => rfl
  have hg : AgreeL S.lim e e := fun _ _ => ⟨rfl, rfl⟩
  exact ⟨⟨h.m.lim, fun id b hb => (h.m.ok id b hb).mono hk (fun _ h => h) (fun _ h => h) hg ⟨rfl, rfl⟩ (fun _ _ => rfl), h.m.apart, h.m.clear, h.m.zlt⟩,
    fun s => RepA.mono hk (fun _ h => h) (fun _ h => h) hg (h.sl s), h.nt, h.dfs, h.fr.drew, h.ag, h.l0, h.z0, h.z1, h.ft⟩

/-- A state with another block at an id that stands for the same heap block. -/
theorem Sat.reblk {C : Ctx} {sl : List (Nat × AV)} {mem : List (Nat × Option Blk)} {tl : Nat → Option Blk} {nx : Nat} {a : Act} {w : World} {e : Env} {Z : Nat → Prop} (h : Sat C (St.toF ⟨sl, mem, tl, nx⟩) a w e Z) {id : Nat} {b b' : Blk} (hm : lkF mem tl id = some b)
    (hf : Foot e id b' = Foot e id b) (hb : BlkOk w e Z (fun i => i < nx) id b') : Sat C (St.toF ⟨sl, (id, some b') :: mem, tl, nx⟩) a w e Z := by
  have hmem : ∀ i c, lkF ((id, some b') :: mem) tl i = some c → (i = id ∧ c = b') ∨ lkF mem tl i = some c := fun i c hc => by
    rw [lkF_cons] at hc
    split at hc
    · rename_i hi; cases hc; exact .inl ⟨hi.symm, rfl⟩
    · exact .inr hc
  have hold : ∀ i c, lkF ((id, some b') :: mem) tl i = some c → ∃ c0, lkF mem tl i = some c0 ∧ Foot e i c = Foot e i c0 := fun i c hc => by
    rcases hmem i c hc with ⟨rfl, rfl⟩ | hc
    · exact ⟨b, hm, hf⟩
    · exact ⟨c, hc, rfl⟩
  refine ⟨⟨fun i c hc => ?_, fun i c hc => ?_, ?_, ?_, h.m.zlt⟩, h.sl, h.nt, ⟨h.dfs.1, fun q hq => ?_⟩, h.fr, h.ag, h.l0, h.z0, h.z1, ?_⟩
  · obtain ⟨c0, h1, _⟩ := hold i c hc; exact h.m.lim i c0 h1
  · rcases hmem i c hc with ⟨rfl, rfl⟩ | hc
    · exact hb
    · exact h.m.ok i c hc
  · intro i j c c' g hne hc hc' hg hg'
    obtain ⟨c0, h1, h2⟩ := hold i c hc
    obtain ⟨c0', h1', h2'⟩ := hold j c' hc'
    rw [h2] at hg; rw [h2'] at hg'
    exact h.m.apart i j c0 c0' g hne h1 h1' hg hg'
  · intro i c g hc hg
    obtain ⟨c0, h1, h2⟩ := hold i c hc
    rw [h2] at hg
    exact h.m.clear i c0 g h1 hg
  · obtain ⟨D, q1, q2, q3, q4, q5⟩ := h.dfs.2 q hq
    refine ⟨D, q1, q2, q3, q4, fun i c hc hg => ?_⟩
    obtain ⟨c0, h1, h2⟩ := hold i c hc
    rw [h2] at hg
    exact q5 i c0 h1 hg
  · rintro g ⟨i, c, hc, hg⟩
    obtain ⟨c0, h1, h2⟩ := hold i c hc
    rw [h2] at hg
    exact h.ft g ⟨i, c0, h1, hg⟩

section
variable {C : Ctx} {ops : Array Oper} {o : Oper} {l : List Oper} {acc : List FP} {K : List FP → St → Prop} {sl : List (Nat × AV)} {mem : List (Nat × Option Blk)} {tl : Nat → Option Blk} {nx d : Nat}

/-- A map is pinned: its entries are named. -/
theorem vc_pin {c : Code} {N R : St → Prop} {X : Nat → St → Prop} (id : Nat) {ag : Bool} {D : List (List Int × List FV)} (hm : meF mem tl id = some (.mapb ag D)) (hfl : ∀ d ∈ D, d.2.all flatB = true ∧ (ag = false → d.2.length = 1))
    (H : ∀ g es ck, MapIs ag D es ck → VC C c ⟨sl, (id, some (.pin g (.map es ck))) :: mem, tl, nx⟩ N X R) : VC C c ⟨sl, mem, tl, nx⟩ N X R := by
  refine ⟨fun a w hs => ?_⟩
  obtain ⟨e, Z, h⟩ := hs
  obtain ⟨es, ck, h1, h2, h3, h4, h5⟩ := h.m.ok id _ hm
  refine (H (e.b id) es ck ⟨h2.impMem fun m d hd h => entry_flat (hfl d hd).1 h, hfl, h3, h4, h5⟩).h a w ⟨e, Z, h.reblk hm rfl ⟨rfl, h1⟩⟩

theorem ent_unpin (id : Nat) {g : Nat} {es : Array MapEntry} {ck : Nat} {ag : Bool} {D : List (List Int × List FV)} (hm : meF mem tl id = some (.pin g (.map es ck))) (hi : MapIs ag D es ck) : Ent C ⟨sl, mem, tl, nx⟩ ⟨sl, (id, some (.mapb ag D)) :: mem, tl, nx⟩ := by
  refine ⟨fun a w hs => ?_⟩
  obtain ⟨e, Z, h⟩ := hs
  obtain ⟨h1, h2⟩ := h.m.ok id _ hm
  exact ⟨e, Z, h.reblk hm rfl ⟨es, ck, h2, hi.ent.impMem fun m d hd h => flat_entry (hi.flat d hd).1 (hi.flat d hd).2 h, hi.keys, hi.born, hi.lt⟩⟩

theorem run_range {t kt el : TypeId} {ti : TI} {x : Operand} {id g : Nat} {es : Array MapEntry} {ck : Nat} (ho : o.op = .range t x) (hw : Wanted ops o (slF sl)) (hdst : o.dst = some d) (hd : Nat.blt d C.nt = true) (ht : C.T t = some ti) (hdesc : ti.desc = .map kt el) (hx : evA (slF sl) x = .s (.c (.mp id)))
    (hm : meF mem tl id = some (.pin g (.map es ck))) (t' : RunG C ops l ⟨(d, .s (.c (.ptr nx 0))) :: sl, (nx, some (.obj (.mapIter (some g) ck #[] ck))) :: mem, tl, nx + 1⟩ (⟨[id], [nx]⟩ :: acc) K) : RunG C ops (o :: l) ⟨sl, mem, tl, nx⟩ acc K := by
  refine run_step (S := ⟨sl, mem, tl, nx⟩) (d := ⟨[id], [nx], .s (.c (.ptr nx 0)), fun _ => some (.obj (.mapIter (some g) ck #[] ck))⟩) (LS_val (by simp [notDefer, ho]) hw fun S' a w e Z he hmm hsat => ?_) (by rw [hdst]; exact toF_new ⟨sl, mem, tl, nx⟩ (some d) [id] _ _) t'
  have hxv := map_val hsat (x := x) (id := id) (by rw [he x (by simp [ho, Op.operands])]; exact hx)
  have hm' : S'.mem id = some (.pin g (.map es ck)) := ((hmm id (.inl (by simp))).1).trans hm
  obtain ⟨h1, h2⟩ := hsat.m.ok id _ hm'
  rw [h1] at h2 hxv
  have hnx : ¬ S'.lim nx := fun h => Nat.lt_irrefl nx ((hmm nx (.inr (by simp))).2.1 h)
  have hag := agree_withB e (g := w.heap.size) hnx
  have e1 : (e.withB nx w.heap.size).b nx = w.heap.size := by simp [Env.withB]
  refine ⟨.pointer (some ⟨w.heap.size, 0, none⟩), w.alloc (.mapIter (some g) ck #[] ck), e.withB nx w.heap.size, Z, .inl ?_, ?_⟩
  · simp only [execOp, ho, hxv, Instr.range, Sem.run_bind, run_und (C.hT.get ht), hdesc, getObj_map h2, Sem.run_pure, Result.andThen_ok, run_newObj_alloc]
  · refine hsat.step_world (dst_some hdst hd) (Y := fun _ => False) (fr_alloc w _ _) hag (fun _ hb => hb) (fun _ hb => .inl hb) (fun b hb => by have := hsat.m.zlt b hb; simp; omega) (fun _ hf => hf.elim) ?_ ?_ ⟨⟨.inr (by simp), by rw [e1]⟩, rfl⟩
    · intro i b hi hb
      simp only [List.mem_singleton] at hi
      subst hi
      simp only [Option.some.injEq] at hb
      subst hb
      refine ⟨by simp only [BlkOk, e1]; exact World.alloc_heap_new w _, fun g hg => ?_⟩
      simp only [Foot, e1, Option.some.injEq] at hg
      subst hg
      exact ⟨.inl (Nat.le_refl _), fun hz => by have := hsat.m.zlt _ hz; omega⟩
    · intro i j b b' g hi hj hne
      simp only [List.mem_singleton] at hi hj
      exact absurd (hi.trans hj.symm) hne

def keyS (k : List Int) : SV := .agg (k.map fun n => .f (.int .i64 n))
theorem keyS_ok {w : World} {e : Env} {Z L : Nat → Prop} (k : List Int) : RepS w e Z L (keyVal k) (keyS k) := by
  refine ⟨_, rfl, ?_, ?_⟩
  · induction k with
    | nil => exact .nil
    | cons n k ih => exact .cons (RepF.int _ _) (by simpa using ih)
  · intro u hu
    simp only [List.mem_map] at hu
    obtain ⟨n, _, rfl⟩ := hu
    rfl

theorem iter_val {S : StF} {a : Act} {w : World} {e : Env} {Z : Nat → Prop} (h : Sat C S a w e Z) {x : Operand} {id : Nat} (hx : evA S.slot x = .s (.c (.ptr id 0))) : a.eval x = .pointer (some ⟨e.b id, 0, none⟩) := by
  have := evA_ok h x
  rw [hx] at this
  exact this.1.2

theorem run_entry {x : Operand} {id iid g since : Nat} {es : Array MapEntry} {ck : Nat} {seen : Array Nat} {ag : Bool} {D : List (List Int × List FV)} {j : Nat} {m : MapEntry} {k : List Int} {q : List FV} (hi : MapIs ag D es ck) (ho : o.op = .entry x) (hw : Wanted ops o (slF sl)) (hdst : o.dst = some d) (hd : Nat.blt d C.nt = true)
    (hx : evA (slF sl) x = .s (.c (.ptr iid 0))) (hit : meF mem tl iid = some (.obj (.mapIter (some g) since (seen.push m.born) ck))) (hm : meF mem tl id = some (.pin g (.map es ck))) (hj : es.toList[j]? = some m) (hjD : D[j]? = some (k, q))
    (t' : RunG C ops l ⟨(d, .tup [keyS k, valS ag q]) :: sl, mem, tl, nx⟩ (⟨[iid, id], []⟩ :: acc) K) : RunG C ops (o :: l) ⟨sl, mem, tl, nx⟩ acc K := by
  refine run_step (S := ⟨sl, mem, tl, nx⟩) (d := ⟨[iid, id], [], .tup [keyS k, valS ag q], fun _ => none⟩) (LS_val (by simp [notDefer, ho]) hw fun S' a w e Z he hmm hsat => ?_) (by rw [hdst]; exact toF_put ⟨sl, mem, tl, nx⟩ (some d) [iid, id] _ _) t'
  have hxv := iter_val hsat (x := x) (id := iid) (by rw [he x (by simp [ho, Op.operands])]; exact hx)
  have hm' : S'.mem id = some (.pin g (.map es ck)) := ((hmm id (.inl (by simp))).1).trans hm
  have hit' : S'.mem iid = some (.obj (.mapIter (some g) since (seen.push m.born) ck)) := ((hmm iid (.inl (by simp))).1).trans hit
  obtain ⟨h1, h2⟩ := hsat.m.ok id _ hm'
  have h3 : w.heap[e.b iid]? = _ := hsat.m.ok iid _ hit'
  rw [h1] at h2
  obtain ⟨m', q1, q2, q3⟩ := hi.ent.get j (k, q) hjD
  rw [hj] at q1; cases q1
  have hfl := hi.flat (k, q) (List.mem_of_getElem? hjD)
  refine ⟨.tuple #[m.key, m.val], w, e, Z, .inl ?_, hsat.put (dst_some hdst hd) ⟨_, rfl, .cons ?_ (.cons ?_ .nil)⟩⟩
  · simp only [execOp, ho, hxv, Sem.run_bind, run_entry_at w (e.b iid) g since seen es ck m h3 h2 (List.mem_of_getElem? hj) hi.born, Result.andThen_ok, Sem.run_pure]
  · rw [q2]; exact keyS_ok k
  · exact valS_ok (d := (k, q)) (flat_entry hfl.1 hfl.2 ⟨q2, q3⟩)

theorem runT_next {K : St → Prop} {x : Operand} {id iid g : Nat} {es : Array MapEntry} {ck : Nat} {seen : Array Nat} {ag : Bool} {D : List (List Int × List FV)} (hi : MapIs ag D es ck) (ho : o.op = .next x false) (hw : Wanted ops o (slF sl)) (hdst : o.dst = some d) (hd : Nat.blt d C.nt = true)
    (hx : evA (slF sl) x = .s (.c (.ptr iid 0))) (hit : meF mem tl iid = some (.obj (.mapIter (some g) ck seen ck))) (hm : meF mem tl id = some (.pin g (.map es ck)))
    (H0 : (∀ m ∈ es.toList, m.born ∈ seen.toList) → RunT C ops l ⟨(d, .tup [.c (.f (.bool false))]) :: sl, mem, tl, nx⟩ K)
    (H1 : ∀ (j : Nat) (m : MapEntry) (k : List Int) (q : List FV), es.toList[j]? = some m → D[j]? = some (k, q) → m.born ∉ seen.toList → RunT C ops l ⟨(d, .tup [.c (.f (.bool true)), keyS k, valS ag q]) :: sl, (iid, some (.obj (.mapIter (some g) ck (seen.push m.born) ck))) :: mem, tl, nx⟩ K) :
    RunT C ops (o :: l) ⟨sl, mem, tl, nx⟩ K := by
  refine ⟨fun Q a w hs hq => ?_⟩
  obtain ⟨e, Z, hsat⟩ := hs
  have hxv := iter_val hsat (x := x) (id := iid) hx
  obtain ⟨h1, h2⟩ := hsat.m.ok id _ hm
  have h3 : w.heap[e.b iid]? = _ := hsat.m.ok iid _ hit
  rw [h1] at h2
  show OpGoal C ops o a w _ Q
  unfold OpGoal
  rw [if_pos (wanted_of hsat hw)]
  refine ⟨fun f _ => C.hF f, ?_⟩
  rw [Oper.semAt_eq _ _ _ (fun c hc => by simp [ho] at hc)]
  have hlen := hi.ent.length
  rcases run_next_at (P := C.P) w o.type (e.b iid) g ck ck seen es ck h3 h2 hi.lt (Nat.le_refl _) with ⟨h4, h5⟩ | ⟨m, hmem, w1, hw1, h5⟩
  · have hrun : (execOp a.eval o).run C.P w = .ok (.value (.tuple #[.bool false])) w := by simp only [execOp, ho, hxv, Sem.run_bind, h5, Result.andThen_ok, Sem.run_pure]
    rw [hrun, Oper.uponIn_value, hdst]
    have h6 := hsat.put (dst := some d) (fun e he => by cases he; exact blt_of hd) (R := []) (av := .tup [.c (.f (.bool false))]) (u := fun _ => none) (v := .tuple #[.bool false]) ⟨_, rfl, .cons ⟨.bool _, rfl⟩ .nil⟩
    rw [toF_put] at h6
    refine (H0 fun m hm => ?_).h Q _ _ ⟨e, Z, h6⟩ hq
    have h7 : leftOf es seen = #[] := Array.eq_empty_of_size_eq_zero h4
    unfold leftOf at h7
    rw [Array.filter_eq_empty_iff] at h7
    have := h7 m (by simpa using hm)
    simpa using this
  · have hme : m ∈ es.toList ∧ m.born ∉ seen.toList := by
      unfold leftOf at hmem
      simp at hmem
      simpa using hmem
    obtain ⟨j, hj⟩ := List.mem_iff_getElem?.1 hme.1
    have hjlt := (List.getElem?_eq_some_iff.1 hj).1
    obtain ⟨k, q, hkq⟩ : ∃ k q, D[j]? = some (k, q) := ⟨(D[j]'(by omega)).1, (D[j]'(by omega)).2, List.getElem?_eq_getElem (by omega)⟩
    obtain ⟨m', q1, q2, q3⟩ := hi.ent.get j (k, q) hkq
    rw [hj] at q1; cases q1
    have hfl := hi.flat (k, q) (List.mem_of_getElem? hkq)
    have hrun : (execOp a.eval o).run C.P w = .ok (.value (.tuple #[.bool true, m.key, m.val])) (Go.ChangeMaps.setBlock w1 (e.b iid) (.mapIter (some g) ck (seen.push m.born) ck)) := by simp only [execOp, ho, hxv, Sem.run_bind, h5, Result.andThen_ok, Sem.run_pure]
    rw [hrun, Oper.uponIn_value, hdst]
    have hsat1 : Sat C (St.toF ⟨sl, mem, tl, nx⟩) a w1 e Z := by
      rcases hw1 with rfl | rfl
      · exact hsat
      · exact hsat.drew
    have h8 := (hsat1.setObjSt (id := iid) (o' := .mapIter (some g) ck (seen.push m.born) ck) hit).put (dst := some d) (fun e he => by cases he; exact blt_of hd) (R := []) (av := .tup [.c (.f (.bool true)), keyS k, valS ag q]) (u := fun _ => none) (v := .tuple #[.bool true, m.key, m.val])
      ⟨_, rfl, .cons ⟨.bool _, rfl⟩ (.cons (by rw [q2]; exact keyS_ok k) (.cons (valS_ok (d := (k, q)) (flat_entry hfl.1 hfl.2 ⟨q2, q3⟩)) .nil))⟩
    rw [toF_put] at h8
    exact (H1 j m k q hj hkq hme.2).h Q _ _ ⟨e, Z, h8⟩ hq
end

end Go.Sx

/- Joins and loops, relative to the state at their start. -/
namespace Go.Sx
open Go Go.RowKit

/-- The slots l are the slots sl but for those of ks. -/
inductive Over (ks : List Nat) (sl : List (Nat × AV)) : List (Nat × AV) → Prop
  | base : Over ks sl sl
  | step {k : Nat} {v : AV} {l : List (Nat × AV)} (h : ks.contains k = true) (t : Over ks sl l) : Over ks sl ((k, v) :: l)

theorem Over.get {ks : List Nat} {sl l : List (Nat × AV)} (h : Over ks sl l) {s : Nat} (hs : ¬ s ∈ ks) : slF l s = slF sl s := by
  induction h with
  | base => rfl
  | @step k v l h t ih =>
    show lkF ((k, v) :: l) _ s = _
    rw [lkF_cons, if_neg]
    · exact ih
    · rintro rfl; exact hs (by simpa [List.contains_iff_mem] using h)

theorem ent_over {C : Ctx} {sl l : List (Nat × AV)} {news : List (Nat × AV)} {mem : List (Nat × Option Blk)} {tl : Nat → Option Blk} {nx : Nat} (h : Over (news.map (·.1)) sl l) (hn : SlSub l news) : Ent C ⟨l, mem, tl, nx⟩ ⟨news ++ sl, mem, tl, nx⟩ := by
  refine ⟨fun a w hs => ?_⟩
  obtain ⟨e, Z, h1⟩ := hs
  refine ⟨e, Z, ⟨h1.m, fun i => ?_, h1.nt, h1.dfs, h1.fr, h1.ag, h1.l0, h1.z0, h1.z1, h1.ft⟩⟩
  show RepA w e Z _ _ (lkF (news ++ sl) (fun _ => AV.any) i)
  rw [lkF_append]
  split
  · rename_i hi
    obtain ⟨p, hp, he⟩ := List.mem_map.1 hi
    rcases lkF_spec news (fun _ => AV.any) i with ⟨x, hx, he2⟩ | he2
    · rw [he2]; exact hn.get hx w e Z _ _ (h1.sl i)
    · rw [he2]; trivial
  · rename_i hi
    have := h.get hi
    rw [show lkF sl (fun _ => AV.any) i = slF sl i from rfl, ← this]
    exact h1.sl i

theorem vc_seqJ {C : Ctx} {x y : Code} {S : St} {N R : St → Prop} {X : Nat → St → Prop} (S2 : St) (h1 : VC C x S (fun S' => Ent C S' S2) X R) (h2 : VC C y S2 N X R) : VC C (.seq x y) S N X R :=
  vc_seq (vc_mono h1 (fun _ he => vc_ent he h2) (fun _ _ h => h) (fun _ h => h))

/-- A join after which the slots are those of the start, but for the news. -/
theorem vc_join {C : Ctx} {x y : Code} {sl : List (Nat × AV)} {mem : List (Nat × Option Blk)} {tl : Nat → Option Blk} {nx : Nat} {N R : St → Prop} {X : Nat → St → Prop} (news : List (Nat × AV)) (h1 : VC C x ⟨sl, mem, tl, nx⟩ (fun S' => Ent C S' ⟨news ++ sl, mem, tl, nx⟩) X R)
    (h2 : VC C y ⟨news ++ sl, mem, tl, nx⟩ N X R) : VC C (.seq x y) ⟨sl, mem, tl, nx⟩ N X R := vc_seqJ _ h1 h2

/-- A loop that turns slots alone. -/
theorem vc_loopO {C : Ctx} {κ : Type} {c : Code} {sl : List (Nat × AV)} {mem : List (Nat × Option Blk)} {tl : Nat → Option Blk} {nx : Nat} {N R : St → Prop} {X : Nat → St → Prop} (I : κ → Prop) (news : κ → List (Nat × AV)) (μ : κ → Nat) (k0 : κ) (hI : I k0) (he : Ent C ⟨sl, mem, tl, nx⟩ ⟨news k0 ++ sl, mem, tl, nx⟩)
    (round : ∀ k, I k → VC C c ⟨news k ++ sl, mem, tl, nx⟩ (fun S' => ∃ k', I k' ∧ μ k' < μ k ∧ Ent C S' ⟨news k' ++ sl, mem, tl, nx⟩) X R) : VC C (.loop c) ⟨sl, mem, tl, nx⟩ N X R :=
  vc_loop I (fun k => ⟨news k ++ sl, mem, tl, nx⟩) μ k0 hI he round

theorem Over.app {sl l : List (Nat × AV)} {ns : List (Nat × AV)} : Over (ns.map (·.1)) sl (ns ++ sl) := by
  have : ∀ (m : List (Nat × AV)), (∀ p ∈ m, p ∈ ns) → Over (ns.map (·.1)) sl (m ++ sl) := by
    intro m
    induction m with
    | nil => intro _; exact .base
    | cons p m ih =>
      intro h
      exact .step (by simp only [List.contains_iff_mem]; exact List.mem_map_of_mem (h p (by simp))) (ih fun q hq => h q (by simp [hq]))
  exact this ns fun _ h => h

/-- A slice against nil. -/
theorem runT_nilEq {C : Ctx} {ops : Array Oper} {o : Oper} {l : List Oper} {sl : List (Nat × AV)} {mem : List (Nat × Option Blk)} {tl : Nat → Option Blk} {nx d : Nat} {K : St → Prop} {t ty el : TypeId} {ti : TI} {x : Operand} {k n : Nat} {f : Nat → Nat → FV}
    (ho : o.op = .binOp .eql t x (.const (.slice none 0 0)) ty) (hw : Wanted ops o (slF sl)) (hdst : o.dst = some d) (hd : Nat.blt d C.nt = true) (ht : C.T t = some ti) (hdesc : ti.desc = .slice el) (hx : evA (slF sl) x = .s (.c (.f (.sl k n f))))
    (h1 : n = 0 → RunT C ops l ⟨(d, aBool true) :: sl, mem, tl, nx⟩ K) (h0 : RunT C ops l ⟨(d, aBool false) :: sl, mem, tl, nx⟩ K) : RunT C ops (o :: l) ⟨sl, mem, tl, nx⟩ K := by
  refine ⟨fun Q a w hs hq => ?_⟩
  obtain ⟨e, Z, hsat⟩ := hs
  have hxv := evA_ok hsat x
  rw [show evA (St.toF ⟨sl, mem, tl, nx⟩).slot x = _ from hx] at hxv
  show OpGoal C ops o a w _ Q
  unfold OpGoal
  rw [if_pos (wanted_of hsat hw)]
  refine ⟨fun f _ => C.hF f, ?_⟩
  rw [Oper.semAt_eq _ _ _ (fun c hc => by simp [ho] at hc)]
  have hev : a.eval (.const (.slice none 0 0)) = .slice none 0 0 := rfl
  have hu : C.P.underlying t = some (.slice el) := by rw [(C.hT.get ht).und, hdesc]
  have hcase : ∃ (A : Option Addr) (m c : Nat), a.eval x = .slice A m c ∧ (A.isNone = true → n = 0) := by
    have h3 : RepF w Z (a.eval x) (.sl k n f) := hxv.1
    generalize a.eval x = v at h3
    cases h3 with
    | nil A c k f hc => exact ⟨A, 0, c, rfl, fun _ => rfl⟩
    | sl ad n c k f u hn hc hm => exact ⟨some ad, n, c, rfl, fun h => by cases h⟩
  obtain ⟨A, m, c, hv, hn⟩ := hcase
  have hrun : (execOp a.eval o).run C.P w = .ok (.value (.bool A.isNone)) w := by
    simp only [execOp, ho, hv, hev, eqGuard, Sem.run_bind, binOp]
    simp [Sem.run_bind, run_equal_slice_nil w t el A m c hu]
  rw [hrun, Oper.uponIn_value, hdst]
  have hput := hsat.put (dst := some d) (fun e he => by cases he; exact blt_of hd) (R := []) (av := aBool A.isNone) (u := fun _ => none) (v := .bool A.isNone) (mkBool _)
  rw [toF_put] at hput
  cases hA : A.isNone with
  | true => rw [hA] at hput hn; exact (h1 (hn rfl)).h Q _ _ ⟨e, Z, hput⟩ hq
  | false => rw [hA] at hput; exact h0.h Q _ _ ⟨e, Z, hput⟩ hq

theorem TabEq.of {P : Program} (L : List (Nat × Option TI)) {b : Nat × Option TI → Bool} (hb : ∀ t ti, b (t, some ti) = true → (P.stoodInHeld t = false ∧ P.eqGuardType P.depth t = false) ∧ (match ti.desc with | .struct fs => fs.toList.all (fun f => f.name != "_") | _ => true) = true) (h : L.all b = true) :
    TabEq P fun t => lkF L (fun _ => none) t := by
  have key : ∀ t ti, lkF L (fun _ => none) t = some ti → (P.stoodInHeld t = false ∧ P.eqGuardType P.depth t = false) ∧ (match ti.desc with | .struct fs => fs.toList.all (fun f => f.name != "_") | _ => true) = true := by
    intro t ti ht
    rcases lkF_spec L (fun _ => none) t with ⟨x, hx, he⟩ | he
    · rw [ht] at he; subst he
      exact hb t ti (List.all_eq_true.1 h _ hx)
    · rw [ht] at he; cases he
  refine ⟨fun t ti fields ht hd f hf => ?_, fun t ti ht => (key t ti ht).1.1, fun t ti ht => (key t ti ht).1.2⟩
  have := (key t ti ht).2
  rw [hd] at this
  have := List.all_eq_true.1 this f hf
  simpa using this

section
variable {C : Ctx} {ops : Array Oper} {l : List Oper} {acc : List FP} {K : List FP → St → Prop} {KT : St → Prop} {sl : List (Nat × AV)} {mem : List (Nat × Option Blk)} {tl : Nat → Option Blk} {nx : Nat} {S : St} {N R : St → Prop} {X : Nat → St → Prop} {p : Prop} [Decidable p]

theorem vc_condP {c : Operand} {x y : Code} (hb : evA S.slot c = aBool (decide p)) (h1 : p → VC C x S N X R) (h0 : ¬ p → VC C y S N X R) : VC C (.cond c x y) S N X R :=
  vc_cond hb (fun h => h1 (of_decide_eq_true h)) (fun h => h0 (of_decide_eq_false h))
theorem vc_condN {c : Operand} {x y : Code} (hb : evA S.slot c = aBool (!decide p)) (h1 : ¬ p → VC C x S N X R) (h0 : p → VC C y S N X R) : VC C (.cond c x y) S N X R :=
  vc_cond hb (fun h => h1 (by simpa using h)) (fun h => h0 (by simpa using h))
theorem run_splitP (s : Nat) (hs : slF sl s = aBool (decide p)) (h1 : p → RunG C ops l ⟨(s, aBool true) :: sl, mem, tl, nx⟩ acc K) (h0 : ¬ p → RunG C ops l ⟨(s, aBool false) :: sl, mem, tl, nx⟩ acc K) : RunG C ops l ⟨sl, mem, tl, nx⟩ acc K :=
  run_split s hs (fun h => h1 (of_decide_eq_true h)) (fun h => h0 (of_decide_eq_false h))
theorem run_splitN (s : Nat) (hs : slF sl s = aBool (!decide p)) (h1 : ¬ p → RunG C ops l ⟨(s, aBool true) :: sl, mem, tl, nx⟩ acc K) (h0 : p → RunG C ops l ⟨(s, aBool false) :: sl, mem, tl, nx⟩ acc K) : RunG C ops l ⟨sl, mem, tl, nx⟩ acc K :=
  run_split s hs (fun h => h1 (by simpa using h)) (fun h => h0 (by simpa using h))

/-- The end of a walk of a function without blocks of its caller's. -/
theorem ret_pure {T : Tab} {rs : List ResultVar} {av res : AV} {c : Prop} (h : resAV T S rs = some (av, c)) (hc : c) (hok : res.okL 0 = true) (hle : AVle av (res.ren (piOf []))) : RetP T rs S 0 0 [] res :=
  ⟨[], av, c, h, hc, hle, hok, .nil, rfl, fun i hi => absurd hi (Nat.not_lt_zero i)⟩
end

theorem aInt_eq {k : IntKind} {a b : Int} (h : a = b) : aInt k a = aInt k b := by rw [h]
theorem aBool_eq {a b : Bool} (h : a = b) : aBool a = aBool b := by rw [h]

/-- Slots of which nothing is said any more. -/
def deadL (ds : List Nat) : List (Nat × AV) := ds.map fun d => (d, .any)
theorem SlSub.dead {l : List (Nat × AV)} (ds : List Nat) : SlSub l (deadL ds) := by
  induction ds with
  | nil => exact .nil
  | cons d ds ih => exact .cons (AVle.any _) ih
theorem SlSub.app {l a : List (Nat × AV)} (h : SlSub l a) (ds : List Nat) : SlSub l (a ++ deadL ds) := by
  induction h with
  | nil => exact .dead ds
  | cons h t ih => exact .cons h ih

/-- The bounds of an int. -/
theorem arc {e : Int} (h1 : -9223372036854775808 ≤ e) (h2 : e ≤ 9223372036854775807) : (arithI .i64 e).c := ⟨h1, h2⟩
theorem arc2 {e : Int} (h1 : -9223372036854775808 ≤ e) (h2 : e ≤ 9223372036854775807) : IntKind.i64 = IntKind.i64 ∧ (arithI .i64 e).c := ⟨rfl, h1, h2⟩
theorem wrap64 {n : Int} (h1 : -9223372036854775808 ≤ n) (h2 : n ≤ 9223372036854775807) : IntKind.i64.wrap n = n := by
  simp only [IntKind.wrap, IntKind.bits, IntKind.signed, Bool.true_and, decide_eq_true_eq, show (2 : Int) ^ 64 = 18446744073709551616 from rfl, show (2 : Int) ^ (64 - 1) = 9223372036854775808 from rfl]
  split <;> omega

section
variable {C : Ctx} {ops : Array Oper} {o : Oper} {l : List Oper} {acc : List FP} {K : List FP → St → Prop} {sl : List (Nat × AV)} {mem : List (Nat × Option Blk)} {tl : Nat → Option Blk} {nx d : Nat}

theorem LS_weak {S : StF} {e : StepD} {y : AV} (h : LS C ops o S e) (hy : AVle e.av y) : LS C ops o S ⟨e.R, e.W, y, e.upd⟩ := by
  intro S' h1 h2 a w K' Q hs hk
  refine h S' h1 h2 a w K' Q hs fun a' w' hs' => hk a' w' ?_
  obtain ⟨en, Z, h3⟩ := hs'
  refine ⟨en, Z, ⟨h3.m, fun s => ?_, h3.nt, h3.dfs, h3.fr, h3.ag, h3.l0, h3.z0, h3.z1, h3.ft⟩⟩
  have := h3.sl s
  simp only [StF.step] at this ⊢
  split
  · rename_i he; rw [if_pos he] at this; exact hy _ _ _ _ _ this
  · rename_i he; rw [if_neg he] at this; exact this

/-- A quiet operation, its value read more weakly. -/
theorem run_qW {av : AV} {R : List Nat} {c : Prop} (y : AV) (hr : avalN C.T (evA (slF sl)) (meF mem tl) o.op = some ⟨av, R, c⟩) (hw : Wanted ops o (slF sl)) (hdst : o.dst = some d) (hnd : notDefer o = true) (hd : Nat.blt d C.nt = true) (hc : c) (hy : AVle av y)
    (t : RunG C ops l ⟨(d, y) :: sl, mem, tl, nx⟩ (⟨R, []⟩ :: acc) K) : RunG C ops (o :: l) ⟨sl, mem, tl, nx⟩ acc K :=
  run_step (S := ⟨sl, mem, tl, nx⟩) (LS_weak (LS_quiet hnd hw (dst_some hdst hd) (avalN_eq.symm.trans hr) hc) hy) (by rw [hdst]; exact toF_put ⟨sl, mem, tl, nx⟩ (some d) R y _) t

/-- A literal of a slice, read more weakly. -/
theorem run_buildSliceW {t el : TypeId} {ti te : TI} {len : Nat} {parts : Array (Nat × Operand)} {out : List CV} {q : List FV} (y : FV) (ho : o.op = .buildSlice t len parts) (hw : Wanted ops o (slF sl)) (hdst : o.dst = some d) (hd : Nat.blt d C.nt = true)
    (ht : C.T t = some ti) (hdesc : ti.desc = .slice el) (hte : C.T el = some te) (hsmall : Nat.ble (len * te.size) (2 ^ 24) = true) (h0 : Nat.blt 0 te.size = true)
    (hf : (match fillL (fun i => some (i * te.size, te.size)) ((List.range (len * te.size)).map fun i => CV.f ((te.zero).getD (i % te.size) .any)) (parts.toList.map fun p => (p.1, evA (slF sl) p.2)) with | some r => nrmL r some | none => none) = some out) (hq : frozenL out = some q)
    (hy : FVle (.sl te.size len fun i j => q.getD (i * te.size + j) .any) y)
    (t' : RunG C ops l ⟨(d, .s (.c (.f y))) :: sl, mem, tl, nx⟩ (⟨[], []⟩ :: acc) K) : RunG C ops (o :: l) ⟨sl, mem, tl, nx⟩ acc K := by
  have hf' : fillL (fun i => some (i * te.size, te.size)) ((List.range (len * te.size)).map fun i => CV.f ((te.zero).getD (i % te.size) .any)) (parts.toList.map fun p => (p.1, evA (slF sl) p.2)) = some out := by
    split at hf
    · rename_i r hr; rw [nrmL_eq] at hf; rw [hr]; exact hf
    · cases hf
  exact run_step (S := ⟨sl, mem, tl, nx⟩) (LS_weak (LS_buildSlice ho hw (dst_some hdst hd) ht hdesc hte (ble_of hsmall) (by have := blt_of h0; omega) hf' hq) (.f hy)) (by rw [hdst]; exact toF_put ⟨sl, mem, tl, nx⟩ (some d) [] _ _) t'
end

/-- A list of things of k cells each, as a frozen slice. -/
def encL {α : Type} (k : Nat) (g : α → Nat → FV) (d : α) (l : List α) : FV := .sl k l.length fun i j => g (l.getD i d) j

/-- A literal, as such a list. -/
theorem encL_lit {α : Type} {k : Nat} {g : α → Nat → FV} {d : α} (l : List α) : FVle (.sl k l.length fun i j => (l.flatMap fun x => (List.range k).map (g x)).getD (i * k + j) .any) (encL k g d l) := by
  refine .sl rfl fun i j hi hj => .of_eq ?_
  induction l generalizing i with
  | nil => simp at hi
  | cons x l ih =>
    cases i with
    | zero =>
      simp only [List.flatMap_cons, Nat.zero_mul, Nat.zero_add, List.getD, List.getElem?_append, List.length_map, List.length_range, hj, if_true]
      simp [hj]
    | succ i =>
      have := ih i (by simpa using hi)
      simp only [List.flatMap_cons, List.getD, List.getElem?_append, List.length_map, List.length_range] at this ⊢
      rw [if_neg (by rw [Nat.succ_mul]; omega), show (i + 1) * k + j - k = i * k + j by rw [Nat.succ_mul]; omega]
      simpa using this

theorem encL_take {α : Type} {k : Nat} {g : α → Nat → FV} {d : α} (l : List α) (n : Nat) {m : Nat} (hm : m = (l.take n).length) : FVle (.sl k m fun i j => g (l.getD (0 + i) d) j) (encL k g d (l.take n)) := by
  refine .sl hm fun i j hi _ => .of_eq ?_
  have h2 : i < n := by simp at hm; omega
  simp [List.getD, List.getElem?_take, h2]

theorem encL_drop {α : Type} {k : Nat} {g : α → Nat → FV} {d : α} (l : List α) (n : Nat) {m : Nat} (hm : m = (l.drop n).length) : FVle (.sl k m fun i j => g (l.getD (n + i) d) j) (encL k g d (l.drop n)) :=
  .sl hm fun i j _ _ => .of_eq (by simp [List.getD])

theorem encL_app {α : Type} {k : Nat} {g : α → Nat → FV} {d : α} (l : List α) (m : List α) : FVle (.sl k (l.length + m.length) (appF l.length (fun i j => g (l.getD i d) j) fun i j => g (m.getD i d) j)) (encL k g d (l ++ m)) := by
  refine .sl (by simp) fun i j hi _ => .of_eq ?_
  simp only [appF]
  by_cases h : i < l.length
  · simp [h, List.getD, List.getElem?_append]
  · simp [h, List.getD, List.getElem?_append]

/-- What a slot's reading tells. -/
theorem vc_fact {C : Ctx} {c : Code} {S : St} {N R : St → Prop} {X : Nat → St → Prop} (s : Nat) {P : Prop} (h : ∀ w e Z L v, RepA w e Z L v (S.slot s) → P) (t : P → VC C c S N X R) : VC C c S N X R := by
  refine ⟨fun a w hs => ?_⟩
  have hs' := hs
  obtain ⟨e, Z, h1⟩ := hs
  exact (t (h w e Z _ _ (h1.sl s))).h a w hs'

theorem RepF.len {w : World} {Z : Nat → Prop} {v : Value} {k n : Nat} {f : Nat → Nat → FV} (h : RepF w Z v (.sl k n f)) : n ≤ 9223372036854775807 := by
  have hmx : maxLen = 9223372036854775807 := rfl
  cases h with
  | nil A c k f hc => exact Nat.zero_le _
  | sl a n c k f u hn hc hm => omega
theorem RepF.elem {w : World} {Z : Nat → Prop} {v : Value} {k n : Nat} {f : Nat → Nat → FV} (h : RepF w Z v (.sl k n f)) {i j : Nat} (hi : i < n) (hj : j < k) : ∃ u, RepF w Z u (f i j) := by
  cases h with
  | nil A c k f hc => omega
  | sl a n c k f u hn hc hm hs hz hu h1 hr => exact ⟨_, hr i j hi hj⟩
/-- The reading of one cell of a struct. -/
theorem RepA.cell {w : World} {e : Env} {Z L : Nat → Prop} {v : Value} {l : List CV} (h : RepA w e Z L v (.s (.agg l))) {i : Nat} {x : FV} (hi : l[i]? = some (.f x)) : ∃ u, RepF w Z u x := by
  obtain ⟨cs, h1, h2, _⟩ := h
  obtain ⟨u, _, hu⟩ := h2.get i _ hi
  exact ⟨u, hu⟩

theorem quo64 {a b : Int} (h0 : 0 ≤ a) (h1 : a ≤ 9223372036854775807) (h2 : 0 < b) : IntKind.i64 = IntKind.i64 ∧ 0 ≤ a ∧ a ≤ IntKind.i64.max ∧ 0 < b := ⟨rfl, h0, h1, h2⟩

end Go.Sx

/- The commonest steps, in few letters. -/
namespace Go.Sx
open Go Go.RowKit
variable {C : Ctx} {ops : Array Oper} {o : Oper} {l : List Oper} {acc : List FP} {K : List FP → St → Prop} {sl : List (Nat × AV)} {mem : List (Nat × Option Blk)} {tl : Nat → Option Blk} {nx d : Nat} {av : AV} {R : List Nat} {c : Prop}
theorem oq1 (t : RunG C ops l ⟨(d, av) :: sl, mem, tl, nx⟩ (⟨R, []⟩ :: acc) K) (hr : avalN C.T (evA (slF sl)) (meF mem tl) o.op = some ⟨av, R, c⟩ := by exact rfl) (hw : Wanted ops o (slF sl) := by first | exact trivial | exact rfl) (hdst : o.dst = some d := by exact rfl) (hnd : notDefer o = true := by exact rfl) (hd : Nat.blt d C.nt = true := by exact rfl) (hc : c := by exact trivial) :
    RunG C ops (o :: l) ⟨sl, mem, tl, nx⟩ acc K := run_q hr hw hdst hnd hd hc t
theorem oq2 (t : RunG C ops l ⟨(d, av) :: sl, mem, tl, nx⟩ (⟨R, []⟩ :: acc) K) (hr : avalN C.T (evA (slF sl)) (meF mem tl) o.op = some ⟨av, R, c⟩ := by exact rfl) (hw : Wanted ops o (slF sl) := by first | exact trivial | exact rfl) (hdst : o.dst = some d := by exact rfl) (hnd : notDefer o = true := by exact rfl) (hd : Nat.blt d C.nt = true := by exact rfl)
    (hc : c := by first | exact Nat.le_of_ble_eq_true rfl | exact ⟨rfl, rfl⟩ | exact ⟨rfl, by (try simp only [Int.toNat_natCast]); omega, Nat.le_of_ble_eq_true rfl⟩) : RunG C ops (o :: l) ⟨sl, mem, tl, nx⟩ acc K := run_q hr hw hdst hnd hd hc t
theorem oq3 (t : RunG C ops l ⟨(d, av) :: sl, mem, tl, nx⟩ (⟨R, []⟩ :: acc) K) (hr : avalN C.T (evA (slF sl)) (meF mem tl) o.op = some ⟨av, R, c⟩ := by exact rfl) (hw : Wanted ops o (slF sl) := by first | exact trivial | exact rfl) (hdst : o.dst = some d := by exact rfl) (hnd : notDefer o = true := by exact rfl) (hd : Nat.blt d C.nt = true := by exact rfl)
    (hc : c := by first | exact ⟨rfl, by (try simp only [Int.toNat_natCast]); omega, by (try simp only [Int.toNat_natCast]); omega⟩ | exact ⟨rfl, rfl, rfl, by (try simp only [Int.toNat_natCast]); omega, by (try simp only [Int.toNat_natCast]); omega⟩ | exact ⟨by (try simp only [Int.toNat_natCast]); omega, by (try simp only [Int.toNat_natCast]); omega⟩) :
    RunG C ops (o :: l) ⟨sl, mem, tl, nx⟩ acc K := run_q hr hw hdst hnd hd hc t
theorem oq4 (t : RunG C ops l ⟨(d, av) :: sl, mem, tl, nx⟩ (⟨R, []⟩ :: acc) K) (hr : avalN C.T (evA (slF sl)) (meF mem tl) o.op = some ⟨av, R, c⟩ := by exact rfl) (hw : Wanted ops o (slF sl) := by first | exact trivial | exact rfl) (hdst : o.dst = some d := by exact rfl) (hnd : notDefer o = true := by exact rfl) (hd : Nat.blt d C.nt = true := by exact rfl)
    (hc : c := by exact (arc2 (by (try simp only [Int.toNat_natCast]); omega) (by (try simp only [Int.toNat_natCast]); omega))) : RunG C ops (o :: l) ⟨sl, mem, tl, nx⟩ acc K := run_q hr hw hdst hnd hd hc t
theorem oq5 (t : RunG C ops l ⟨(d, av) :: sl, mem, tl, nx⟩ (⟨R, []⟩ :: acc) K) (hr : avalN C.T (evA (slF sl)) (meF mem tl) o.op = some ⟨av, R, c⟩ := by exact rfl) (hw : Wanted ops o (slF sl) := by first | exact trivial | exact rfl) (hdst : o.dst = some d := by exact rfl) (hnd : notDefer o = true := by exact rfl) (hd : Nat.blt d C.nt = true := by exact rfl)
    (hc : c := by exact Nat.succ_ne_zero _) : RunG C ops (o :: l) ⟨sl, mem, tl, nx⟩ acc K := run_q hr hw hdst hnd hd hc t
theorem oq6 (t : RunG C ops l ⟨(d, av) :: sl, mem, tl, nx⟩ (⟨R, []⟩ :: acc) K) (hr : avalN C.T (evA (slF sl)) (meF mem tl) o.op = some ⟨av, R, c⟩ := by exact rfl) (hw : Wanted ops o (slF sl) := by first | exact trivial | exact rfl) (hdst : o.dst = some d := by exact rfl) (hnd : notDefer o = true := by exact rfl) (hd : Nat.blt d C.nt = true := by exact rfl)
    (hc : c := by exact rfl) : RunG C ops (o :: l) ⟨sl, mem, tl, nx⟩ acc K := run_q hr hw hdst hnd hd hc t
theorem osk (t : RunG C ops l ⟨(d, .any) :: sl, mem, tl, nx⟩ (⟨[], []⟩ :: acc) K) (hw : Unwanted ops o (slF sl) := by exact rfl) (hdst : o.dst = some d := by exact rfl) (hd : Nat.blt d C.nt = true := by exact rfl) : RunG C ops (o :: l) ⟨sl, mem, tl, nx⟩ acc K := run_skip hw hdst hd t
end Go.Sx

/- A nil slice may be adopted as an owned row; rows that hold lists. -/
namespace Go.Sx
open Go Go.RowKit

section
variable {C : Ctx} {S : StF} {a : Act} {w : World} {e : Env} {Z : Nat → Prop}

theorem Sat.adopt (h : Sat C S a w e Z) {nx : Nat} (hnx : ¬ S.lim nx) (ty k : Nat) (f : Nat → Nat → FV) :
    Sat C (S.step none ⟨[], [nx], .any, fun _ => some (.row ty k 0 f)⟩) a w (e.withV nx (.slice none 0 0)) Z := by
  have := h.step_world (dst := none) (fun _ h => by cases h) (d := ⟨[], [nx], .any, fun _ => some (.row ty k 0 f)⟩) (w' := w) (e' := e.withV nx (.slice none 0 0)) (Z' := Z) (Y := fun _ => False) (v := undef)
    (Fr.refl w _) (agree_withV e hnx) (fun _ hb => hb) (fun _ hb => .inl hb) (fun b hb => h.m.zlt b hb) (fun _ hf => hf.elim)
    (fun i b hi hb => by
      simp only [List.mem_singleton] at hi
      subst hi
      simp only [Option.some.injEq] at hb
      subst hb
      refine ⟨⟨[], by simpa [Env.withV] using World.ownsRow_nil w 0 ty k, fun g hg => by simp [Env.withV, Value.ownBlock] at hg, fun i j hi => absurd hi (Nat.not_lt_zero i), fun u hu => by cases hu⟩, fun g hg => by simp [Foot, Env.withV, Value.ownBlock] at hg⟩)
    (fun i j b b' g hi hj hne => by
      simp only [List.mem_singleton] at hi hj
      exact absurd (hi.trans hj.symm) hne) trivial
  exact this
end

theorem RepF_nil {w : World} {Z : Nat → Prop} {v : Value} {u : Value} (h : RepF w Z v (.lit u)) : v = u := by cases h; rfl

/-- The nil slice in a slot. -/
theorem ent_adoptS {C : Ctx} {sl : List (Nat × AV)} {mem : List (Nat × Option Blk)} {tl : Nat → Option Blk} {nx : Nat} (s ty k : Nat) (f : Nat → Nat → FV) (hs : slF sl s = .s (.c (.f (.lit (.slice none 0 0))))) :
    Ent C ⟨sl, mem, tl, nx⟩ ⟨(s, .s (.c (.own nx))) :: sl, (nx, some (.row ty k 0 f)) :: mem, tl, nx + 1⟩ := by
  refine ⟨fun a w hsat => ?_⟩
  obtain ⟨e, Z, h⟩ := hsat
  have h1 := h.adopt (nx := nx) (Nat.lt_irrefl nx) ty k f
  rw [toF_new ⟨sl, mem, tl, nx⟩ none [] .any _] at h1
  refine ⟨e.withV nx (.slice none 0 0), Z, ⟨h1.m, fun i => ?_, h1.nt, h1.dfs, h1.fr, h1.ag, h1.l0, h1.z0, h1.z1, h1.ft⟩⟩
  show RepA w _ Z _ _ (lkF ((s, .s (.c (.own nx))) :: sl) (fun _ => AV.any) i)
  rw [lkF_cons]
  split
  · rename_i he
    subst he
    have h2 := h.sl s
    rw [show (St.toF ⟨sl, mem, tl, nx⟩).slot s = slF sl s from rfl, hs] at h2
    exact ⟨⟨Nat.lt_succ_self nx, by simpa [Env.withV] using RepF_nil h2.1⟩, h2.2⟩
  · exact h1.sl i

theorem All2.set {α β : Type} {R : α → β → Prop} : ∀ {l : List α} {m : List β} {i : Nat} {y : β}, All2 R l m → (∀ x, l[i]? = some x → R x y) → All2 R l (m.set i y)
  | _, _, _, _, .nil, _ => by simpa using .nil
  | _, _, 0, _, .cons h t, hy => .cons (hy _ rfl) t
  | _, _, i + 1, _, .cons h t, hy => .cons h (t.set fun x hx => hy x (by simpa using hx))

/-- The nil slice in a cell. -/
theorem ent_adoptC {C : Ctx} {sl : List (Nat × AV)} {mem : List (Nat × Option Blk)} {tl : Nat → Option Blk} {nx : Nat} (id off ty k : Nat) (f : Nat → Nat → FV) {ty' : TypeId} {cs : List CV} (hm : meF mem tl id = some (.cells ty' cs)) (hc : cs[off]? = some (.f (.lit (.slice none 0 0)))) (hid : Nat.blt id nx = true) :
    Ent C ⟨sl, mem, tl, nx⟩ ⟨sl, (id, some (.cells ty' (cs.set off (.own nx)))) :: (nx, some (.row ty k 0 f)) :: mem, tl, nx + 1⟩ := by
  refine ⟨fun a w hsat => ?_⟩
  obtain ⟨e, Z, h⟩ := hsat
  have hlt := blt_of hid
  have h1 := h.adopt (nx := nx) (Nat.lt_irrefl nx) ty k f
  rw [toF_new ⟨sl, mem, tl, nx⟩ none [] .any _] at h1
  replace h1 : Sat C (St.toF ⟨sl, (nx, some (.row ty k 0 f)) :: mem, tl, nx + 1⟩) a w (e.withV nx (.slice none 0 0)) Z := h1
  have hm1 : (St.toF ⟨sl, (nx, some (.row ty k 0 f)) :: mem, tl, nx + 1⟩).mem id = some (.cells ty' cs) := by
    show lkF ((nx, some (.row ty k 0 f)) :: mem) tl id = _
    rw [lkF_cons, if_neg (by omega)]; exact hm
  refine ⟨e.withV nx (.slice none 0 0), Z, ?_⟩
  have hok := h1.m.ok id _ hm1
  have h2 := h1.step_world (dst := none) (fun _ h => by cases h) (d := ⟨[], [id], .any, fun _ => some (.cells ty' (cs.set off (.own nx)))⟩) (w' := w) (e' := e.withV nx (.slice none 0 0)) (Z' := Z) (Y := fun g => g = (e.withV nx (.slice none 0 0)).b id) (v := undef)
    (Fr.refl w _) (fun _ _ => ⟨rfl, rfl⟩) (fun _ hb => hb) (fun _ hb => .inl hb) (fun b hb => h1.m.zlt b hb) (fun g hg => ⟨id, _, by simp, hm1, by simp [Foot, hg]⟩)
    (fun i b hi hb => by
      simp only [List.mem_singleton] at hi
      subst hi
      simp only [Option.some.injEq] at hb
      subst hb
      obtain ⟨arr, q1, q2, q3⟩ := hok
      refine ⟨⟨arr, q1, ?_, q3⟩, fun g hg => ?_⟩
      · have q2' : All2 (RepC w (e.withV nx (.slice none 0 0)) Z fun j => j < nx + 1 ∨ j ∈ [i]) arr.toList cs := q2.imp fun _ _ hh => RepC.mono (fun _ _ => rfl) (fun _ h => h) (fun _ h => .inl h) (fun _ _ => ⟨rfl, rfl⟩) hh
        refine q2'.set fun x hx => ⟨.inl (Nat.lt_succ_self nx), ?_⟩
        obtain ⟨x', hx', hr⟩ := q2.get off _ hc
        rw [hx] at hx'
        cases hx'
        simpa [Env.withV] using RepF_nil hr
      · simp only [Foot, Option.some.injEq] at hg
        exact ⟨.inr hg.symm, hg ▸ h1.m.clear i _ _ hm1 rfl⟩)
    (fun i j b b' g hi hj hne => by
      simp only [List.mem_singleton] at hi hj
      exact absurd (hi.trans hj.symm) hne) trivial
  rw [toF_wr ⟨sl, (nx, some (.row ty k 0 f)) :: mem, tl, nx + 1⟩ none [] .any id _ (Nat.lt_succ_of_lt hlt)] at h2
  exact h2

/-! ### Rows that hold lists -/

abbrev rowL {α : Type} (ty k : Nat) (g : α → Nat → FV) (d : α) (l : List α) : Blk := .row ty k l.length fun i j => g (l.getD i d) j

theorem rowL_nil {α : Type} {ty k : Nat} {g : α → Nat → FV} {d : α} {f : Nat → Nat → FV} : BlkLe (.row ty k 0 f) (rowL ty k g d []) := .row rfl fun i _ hi => absurd hi (Nat.not_lt_zero i)

theorem rowL_app {α : Type} {ty k : Nat} {g : α → Nat → FV} {d : α} (l m : List α) {n : Nat} {h : Nat → Nat → FV} (hn : n = m.length) (hh : ∀ i j, i < m.length → j < k → FVle (h i j) (g (m.getD i d) j)) : BlkLe (.row ty k (l.length + n) (appF l.length (fun i j => g (l.getD i d) j) h)) (rowL ty k g d (l ++ m)) := by
  refine .row (by simp [hn]) fun i j hi hj => ?_
  by_cases hlt : i < l.length
  · simp only [appF, hlt, if_true]
    exact .of_eq (by simp [List.getD, List.getElem?_append, hlt])
  · have := hh (i - l.length) j (by omega) hj
    simp only [appF, hlt, if_false]
    refine this.trans (.of_eq ?_)
    simp [List.getD, List.getElem?_append, hlt]

/-- One thing more. -/
theorem rowL_snoc {α : Type} {ty k : Nat} {g : α → Nat → FV} {d : α} (l : List α) (x : α) {h : Nat → Nat → FV} (hh : ∀ j, j < k → FVle (h 0 j) (g x j)) : BlkLe (.row ty k (l.length + 1) (appF l.length (fun i j => g (l.getD i d) j) h)) (rowL ty k g d (l ++ [x])) :=
  rowL_app l [x] rfl fun i j hi hj => by
    obtain rfl : i = 0 := by simpa using hi
    exact hh j hj

/-- The value is turned at one place. -/
theorem rowL_set {α : Type} {ty k : Nat} {g : α → Nat → FV} {d : α} (l : List α) (i : Nat) (x : α) {f : Nat → Nat → FV} (hi : ∀ j, j < k → FVle (f i j) (g x j)) (ho : ∀ t j, t ≠ i → t < l.length → j < k → FVle (f t j) (g (l.getD t d) j)) : BlkLe (.row ty k l.length f) (rowL ty k g d (l.set i x)) := by
  refine .row (by simp) fun t j ht hj => ?_
  by_cases he : t = i
  · subst he
    refine (hi j hj).trans (.of_eq ?_)
    simp [List.getD, List.getElem?_set, ht]
  · refine (ho t j he ht hj).trans (.of_eq ?_)
    simp [List.getD, List.getElem?_set, show i ≠ t from fun h => he h.symm]

/-- A frozen row reads as a list. -/
theorem rowL_enc {α : Type} {k : Nat} {g : α → Nat → FV} {d : α} (l : List α) : FVle (.sl k l.length fun i j => g (l.getD i d) j) (encL k g d l) := .refl _

end Go.Sx

/- A literal of a slice that the function keeps as its own; a row given up. -/
namespace Go.Sx
open Go Go.RowKit

section
variable {C : Ctx} {ops : Array Oper} {o : Oper}
theorem LS_buildOwn {S : StF} {t el : TypeId} {ti te : TI} {len : Nat} {parts : Array (Nat × Operand)} {out : List CV} {q : List FV} {nid : Nat} (ho : o.op = .buildSlice t len parts) (hw : Wanted ops o S.slot) (hd : ∀ d, o.dst = some d → d < C.nt)
    (ht : C.T t = some ti) (hdesc : ti.desc = .slice el) (hte : C.T el = some te) (hsmall : len * te.size ≤ 2 ^ 24) (h0 : te.size ≠ 0)
    (hf : fillL (fun i => some (i * te.size, te.size)) ((List.range (len * te.size)).map fun i => CV.f ((te.zero).getD (i % te.size) .any)) (parts.toList.map fun p => (p.1, evA S.slot p.2)) = some out) (hq : frozenL out = some q)
    (hnid : ¬ S.lim nid) : LS C ops o S ⟨[], [nid], .s (.c (.own nid)), fun i => if i = nid then some (.row el te.size len fun i j => q.getD (i * te.size + j) .any) else none⟩ := by
  refine LS_val (by simp [notDefer, ho]) hw fun S' a w e Z he hm hsat => ?_
  have ht' := C.hT.get ht
  have hte' := C.hT.get hte
  have hparts : (parts.toList.map fun p => (p.1, evA S'.slot p.2)) = parts.toList.map fun p => (p.1, evA S.slot p.2) := List.map_congr_left fun p hp => by
    rw [he p.2 (by simp only [ho, Op.operands, List.mem_toArray, List.mem_map]; exact ⟨p, hp, rfl⟩)]
  have hzl : te.zv.cells.size = te.size := by rw [hte'.zv]; simp [hte'.len]
  have hzero : All2 (RepC w e Z S'.lim) ((Array.range (len * te.size)).map (te.zv.cells[· % te.zv.cells.size]!)).toList ((List.range (len * te.size)).map fun i => CV.f ((te.zero).getD (i % te.size) .any)) := by
    refine All2.of_get (by simp) fun i x y hx hy => ?_
    simp only [Array.toList_map, Array.toList_range, List.getElem?_map, Option.map_eq_some_iff] at hx hy
    obtain ⟨j, hj, rfl⟩ := hx
    obtain ⟨j', hj', rfl⟩ := hy
    rw [hj] at hj'; cases hj'
    rw [hzl]
    have hlt : j % te.size < te.size := Nat.mod_lt _ (by omega)
    have hz := zerosC (S := S') (w := w) (e := e) (Z := Z) hte'
    obtain ⟨u, hu, hru⟩ := hz.get (j % te.size) (CV.f (te.zero[j % te.size]'(by rw [hte'.len]; exact hlt))) (by rw [List.getElem?_map, List.getElem?_eq_getElem (by rw [hte'.len]; exact hlt)]; rfl)
    rw [Array.getElem?_toList] at hu
    have hlt2 : j % te.size < te.zv.cells.size := by rw [hzl]; exact hlt
    have e1 : te.zv.cells[j % te.size]! = u := by
      rw [getElem!_pos te.zv.cells _ hlt2]
      rw [Array.getElem?_eq_getElem hlt2] at hu
      exact Option.some.inj hu
    have e2 : te.zero.getD (j % te.size) .any = te.zero[j % te.size]'(by rw [hte'.len]; exact hlt) := by simp [List.getD, List.getElem?_eq_getElem (by rw [hte'.len]; exact hlt : j % te.size < te.zero.length)]
    rw [e1, e2]; exact hru
  have hone : ∀ u ∈ ((Array.range (len * te.size)).map (te.zv.cells[· % te.zv.cells.size]!)).toList, u.oneCell' = true := by
    intro u hu
    simp only [Array.toList_map, Array.toList_range, List.mem_map, List.mem_range] at hu
    obtain ⟨j, hj, rfl⟩ := hu
    rw [hzl]
    have hlt : j % te.size < te.zv.cells.size := by rw [hzl]; exact Nat.mod_lt _ (by omega)
    rw [getElem!_pos te.zv.cells _ hlt]
    exact zerosOne hte' _ (by simp)
  obtain ⟨cs', e1, e2, e3, e4⟩ := fill_ok (w := w) (e := e) (Z := Z) (L := S'.lim) _ _ _ _ out (partsA hsat parts.toList) hzero hone (by rw [hparts]; exact hf)
  have hfr := frozenL_ok e2 hq
  have hlenq : q.length = len * te.size := by rw [← hfr.length]; simp [e4]
  have hnid' : ¬ S'.lim nid := fun h => hnid ((hm nid (.inr (by simp))).2.1 h)
  have hlm : len ≤ maxLen := by
    have : len * 1 ≤ len * te.size := Nat.mul_le_mul_left len (by omega)
    unfold maxLen; omega
  have hown : (w.alloc (.cells cs' el)).ownsRow 0 el te.size (.slice (some ⟨w.heap.size, 0, none⟩) len len) len cs'.toList :=
    ⟨by simp [e4], .inr ⟨w.heap.size, len, cs', rfl, Nat.zero_le _, heap_alloc_new w _, Nat.le_refl _, hlm, by simp [e4], by rw [List.take_of_length_le]; simp [e4]⟩⟩
  refine ⟨.slice (some ⟨w.heap.size, 0, none⟩) len len, w.alloc (.cells cs' el), _, Z, .inl ?_, hsat.appended hd hnid' (by simp) (v := .slice none 0 0) (f := fun i j => q.getD (i * te.size + j) .any) (fun g hg => by simp [Value.ownBlock] at hg) hown ?_ (.inr rfl) (fun i j hi hj => ?_) (fun u hu => e3 u hu) []⟩
  · have e1' : Instr.fill (fun i => some (i * te.size, te.size)) ((Array.range (len * te.size)).map (te.zv.cells[· % te.zv.cells.size]!)) (parts.map fun x => match x with | (i, x) => (i, a.eval x)).toList = some cs' := by
      rw [Array.toList_map]; exact e1
    simp only [execOp, ho, Instr.buildSlice, Sem.run_bind, run_und ht', hdesc, Result.andThen_ok, run_size hte']
    rw [if_neg (by omega)]
    by_cases hz0 : len * te.size = 0
    · rw [hz0] at e1'
      have e2' : ∀ z : Array Value, (Array.range 0).map (fun x => z[x % z.size]!) = #[] := fun z => by simp
      rw [e2'] at e1'
      simp only [hz0, if_true, Sem.run_bind, Sem.run_pure, Result.andThen_ok, e2', e1', newRow, run_newObj]
      rfl
    · simp only [hz0, if_false, Sem.run_bind, run_zero hte', Sem.run_pure, Result.andThen_ok, e1', newRow, run_newObj]
      rfl
  · exact ⟨rfl, rfl, rfl, by simp, fun k hk _ => Below.heap_alloc w _ k hk⟩
  · have hlt : i * te.size + j < len * te.size := by
      have := Nat.mul_le_mul_right te.size (show i + 1 ≤ len from hi)
      rw [Nat.succ_mul] at this
      omega
    obtain ⟨u, hu, hru⟩ := hfr.get (i * te.size + j) (q[i * te.size + j]'(by omega)) (List.getElem?_eq_getElem (by omega))
    refine ⟨u, hu, ?_⟩
    have : q.getD (i * te.size + j) .any = q[i * te.size + j]'(by omega) := by simp [List.getD, List.getElem?_eq_getElem (by omega : i * te.size + j < q.length)]
    rw [this]; exact hru.mono (keep_alloc (o := .cells cs' el) hsat.m.zlt) (fun _ h => h)
end

section
variable {C : Ctx} {ops : Array Oper} {o : Oper} {l : List Oper} {acc : List FP} {K : List FP → St → Prop} {sl : List (Nat × AV)} {mem : List (Nat × Option Blk)} {tl : Nat → Option Blk} {nx d : Nat}

theorem run_buildOwn {t el : TypeId} {ti te : TI} {len : Nat} {parts : Array (Nat × Operand)} {out : List CV} {q : List FV} (ho : o.op = .buildSlice t len parts) (hw : Wanted ops o (slF sl)) (hdst : o.dst = some d) (hd : Nat.blt d C.nt = true)
    (ht : C.T t = some ti) (hdesc : ti.desc = .slice el) (hte : C.T el = some te) (hsmall : Nat.ble (len * te.size) (2 ^ 24) = true) (h0 : Nat.blt 0 te.size = true)
    (hf : (match fillL (fun i => some (i * te.size, te.size)) ((List.range (len * te.size)).map fun i => CV.f ((te.zero).getD (i % te.size) .any)) (parts.toList.map fun p => (p.1, evA (slF sl) p.2)) with | some r => nrmL r some | none => none) = some out) (hq : frozenL out = some q)
    (t' : RunG C ops l ⟨(d, .s (.c (.own nx))) :: sl, (nx, some (.row el te.size len fun i j => q.getD (i * te.size + j) .any)) :: mem, tl, nx + 1⟩ (⟨[], [nx]⟩ :: acc) K) : RunG C ops (o :: l) ⟨sl, mem, tl, nx⟩ acc K := by
  have hf' : fillL (fun i => some (i * te.size, te.size)) ((List.range (len * te.size)).map fun i => CV.f ((te.zero).getD (i % te.size) .any)) (parts.toList.map fun p => (p.1, evA (slF sl) p.2)) = some out := by
    split at hf
    · rename_i r hr; rw [nrmL_eq] at hf; rw [hr]; exact hf
    · cases hf
  exact run_step (S := ⟨sl, mem, tl, nx⟩) (LS_congr (d' := ⟨[], [nx], .s (.c (.own nx)), fun _ => some (.row el te.size len fun i j => q.getD (i * te.size + j) .any)⟩)
    (LS_buildOwn ho hw (dst_some hdst hd) ht hdesc hte (ble_of hsmall) (by have := blt_of h0; omega) hf' hq (Nat.lt_irrefl nx)) rfl rfl rfl (fun i hi => by simp only [List.mem_singleton] at hi; simp [hi])) (by rw [hdst]; exact toF_new ⟨sl, mem, tl, nx⟩ (some d) [] _ _) t'

/-! ### What is left out -/

def UnwantedU (ops : Array Oper) (o : Oper) (slot : Nat → AV) : Prop :=
  match o.guard with
  | none => False
  | some (j, want) => match (ops[j]?).bind (·.dst) with | some dj => slot dj = aBool (!want) ∨ slot dj = .tup [] | none => False

theorem UnwantedU.congr {S S' : StF} (h : UnwantedU ops o S.slot) (hs : ∀ s ∈ o.looksAt ops, S'.slot s = S.slot s) : UnwantedU ops o S'.slot := by
  unfold UnwantedU at h ⊢
  split at h
  · exact h
  · rename_i j want hg
    split at h
    · rename_i dj hj
      rw [hs dj ?_]
      · exact h
      · simp only [Oper.looksAt, hg, List.mem_append]
        first
          | (right; simp [hj])
          | (left; simp [hj])
    · exact h

theorem LS_skipU {S : StF} (hw : UnwantedU ops o S.slot) (hd : ∀ d, o.dst = some d → d < C.nt) : LS C ops o S ⟨[], [], .tup [], fun _ => none⟩ := by
  intro S' hs hm a w K Q hsat hK
  obtain ⟨e, Z, hsat⟩ := hsat
  have hun : Region.wanted o (yielded ops a.tmps) = false := by
    have hw' := hw.congr hs
    unfold UnwantedU at hw'
    unfold Region.wanted
    split at hw'
    · exact hw'.elim
    · rename_i j want hg
      rw [hg]
      split at hw'
      · rename_i dj hj
        rcases hw' with hw' | hw'
        · simp [yielded_of hsat hj hw']
        · have h1 := hsat.sl dj
          rw [hw'] at h1
          obtain ⟨vs, hv, hl⟩ := h1
          have hy : yielded ops a.tmps j = none := by
            unfold yielded
            rw [hj]
            simp only [Option.bind_some]
            cases hq : a.tmps[dj]? with
            | none => rfl
            | some u =>
              have : a.tmps.getD dj undef = u := by simp [Array.getD_eq_getD_getElem?, hq]
              rw [this] at hv; rw [hv]
          simp [hy]
      · exact hw'.elim
  unfold OpGoal
  rw [if_neg (by rw [hun]; simp)]
  exact ⟨fun f _ => C.hF f, hK _ _ ⟨e, Z, hsat.put hd ⟨#[], rfl, .nil⟩⟩⟩

theorem run_skipU (hw : UnwantedU ops o (slF sl)) (hdst : o.dst = some d) (hd : Nat.blt d C.nt = true) (t : RunG C ops l ⟨(d, .tup []) :: sl, mem, tl, nx⟩ (⟨[], []⟩ :: acc) K) : RunG C ops (o :: l) ⟨sl, mem, tl, nx⟩ acc K :=
  run_step (S := ⟨sl, mem, tl, nx⟩) (LS_skipU hw (dst_some hdst hd)) (by rw [hdst]; exact toF_put ⟨sl, mem, tl, nx⟩ (some d) [] (.tup []) _) t

theorem run_skipU0 (hw : UnwantedU ops o (slF sl)) (hdst : o.dst = none) (t : RunG C ops l ⟨sl, mem, tl, nx⟩ (⟨[], []⟩ :: acc) K) : RunG C ops (o :: l) ⟨sl, mem, tl, nx⟩ acc K :=
  run_step (S := ⟨sl, mem, tl, nx⟩) (LS_skipU hw (dst_none hdst)) (by rw [hdst]; exact toF_put ⟨sl, mem, tl, nx⟩ none [] (.tup []) _) t
end

/-- A slot is read more weakly, or in other words. -/
theorem ent_le {C : Ctx} {sl : List (Nat × AV)} {mem : List (Nat × Option Blk)} {tl : Nat → Option Blk} {nx : Nat} (s : Nat) {y : AV} (h : AVle (slF sl s) y) : Ent C ⟨sl, mem, tl, nx⟩ ⟨(s, y) :: sl, mem, tl, nx⟩ := ⟨fun _ _ hs => hs.le h⟩
theorem AVle.tup {l m : List SV} (h : All2 (fun x y => AVle (.s x) (.s y)) l m) : AVle (.tup l) (.tup m) := fun w e Z L v q => by
  obtain ⟨vs, h1, h2⟩ := q
  exact ⟨vs, h1, h2.comp (fun a b c hab hbc => hbc w e Z L a hab) h⟩

/-! ### Few cells -/

theorem fall1 {P : Nat → Prop} (h0 : P 0) : ∀ j, j < 1 → P j
  | 0, _ => h0
theorem fall2 {P : Nat → Prop} (h0 : P 0) (h1 : P 1) : ∀ j, j < 2 → P j
  | 0, _ => h0
  | 1, _ => h1
theorem fall3 {P : Nat → Prop} (h0 : P 0) (h1 : P 1) (h2 : P 2) : ∀ j, j < 3 → P j
  | 0, _ => h0
  | 1, _ => h1
  | 2, _ => h2
theorem fall4 {P : Nat → Prop} (h0 : P 0) (h1 : P 1) (h2 : P 2) (h3 : P 3) : ∀ j, j < 4 → P j
  | 0, _ => h0
  | 1, _ => h1
  | 2, _ => h2
  | 3, _ => h3
theorem fall5 {P : Nat → Prop} (h0 : P 0) (h1 : P 1) (h2 : P 2) (h3 : P 3) (h4 : P 4) : ∀ j, j < 5 → P j
  | 0, _ => h0
  | 1, _ => h1
  | 2, _ => h2
  | 3, _ => h3
  | 4, _ => h4

theorem rowZ {ty k n : Nat} {f f' : Nat → Nat → FV} (h : n = 0) : BlkLe (.row ty k 0 f) (.row ty k n f') := .row h.symm fun i _ hi => absurd hi (Nat.not_lt_zero i)

theorem app_room {n c : Nat} (h : n ≤ 1000000) (hc : Nat.ble (1000000 * c) 140737488355328 = true) : n * c ≤ 140737488355328 := Nat.le_trans (Nat.mul_le_mul_right c h) (Nat.le_of_ble_eq_true hc)

end Go.Sx

/- copy onto an array of integers, through a slice of it. -/
namespace Go.Sx
open Go Go.RowKit

theorem setRow_put {w : World} {g : Nat} {cur cs : Array Value} {t : TypeId} (h : w.heap[g]? = some (.cells cur t (0, 0))) : w.setRow g cs = w.putObj g (.cells cs t (0, 0)) := by
  unfold World.setRow World.putObj
  congr 1
  refine Array.ext_getElem? fun i => ?_
  rw [Array.getElem?_modify, Array.getElem?_setIfInBounds]
  by_cases hi : g = i
  · subst hi
    obtain ⟨hlt, hv⟩ := Array.getElem?_eq_some_iff.1 h
    simp [hlt, hv]
  · simp [hi]

abbrev intVals (l : List Int) : Array Value := (l.map (Value.int .i64)).toArray

section
variable {C : Ctx} {ops : Array Oper} {o : Oper} {l : List Oper} {acc : List FP} {K : List FP → St → Prop} {sl : List (Nat × AV)} {mem : List (Nat × Option Blk)} {tl : Nat → Option Blk} {nx d : Nat}

/-- An array of integers is pinned. -/
theorem vc_pinI {c : Code} {N R : St → Prop} {X : Nat → St → Prop} (id : Nat) (x : List Int) {ty : TypeId} {f : Nat → Nat → FV} {n : Nat} (hm : meF mem tl id = some (.arr ty 1 n f)) (hn : n = x.length) (hf : ∀ i, i < n → f i 0 = .int .i64 (x.getD i 0))
    (H : ∀ g, VC C c ⟨sl, (id, some (.pin g (.cells (intVals x) ty (0, 0)))) :: mem, tl, nx⟩ N X R) : VC C c ⟨sl, mem, tl, nx⟩ N X R := by
  refine ⟨fun a w hs => ?_⟩
  obtain ⟨e, Z, h⟩ := hs
  obtain ⟨arr, h1, h2, h3, h4⟩ := h.m.ok id _ hm
  have he : arr = intVals x := by
    refine Array.ext_getElem? fun i => ?_
    by_cases hi : i < n
    · obtain ⟨u, hu, hr⟩ := h3 i 0 hi (by decide)
      rw [Nat.mul_one, Nat.add_zero] at hu
      rw [hf i hi] at hr
      cases hr
      rw [hu]
      have hi' : i < x.length := hn ▸ hi
      simp [List.getD, List.getElem?_eq_getElem hi']
    · rw [Array.getElem?_eq_none (by omega), Array.getElem?_eq_none (by simp; omega)]
  subst he
  exact (H (e.b id)).h a w ⟨e, Z, h.reblk hm rfl ⟨rfl, h1⟩⟩

theorem ent_unpinI (id : Nat) (x : List Int) {g : Nat} {ty : TypeId} (n : Nat) (hn : x.length = n) (hm : meF mem tl id = some (.pin g (.cells (intVals x) ty (0, 0)))) : Ent C ⟨sl, mem, tl, nx⟩ ⟨sl, (id, some (.arr ty 1 n fun i _ => .int .i64 (x.getD i 0))) :: mem, tl, nx⟩ := by
  subst hn
  refine ⟨fun a w hs => ?_⟩
  obtain ⟨e, Z, h⟩ := hs
  obtain ⟨h1, h2⟩ := h.m.ok id _ hm
  refine ⟨e, Z, h.reblk hm rfl ⟨intVals x, h2, by simp, fun i j hi hj => ?_, fun u hu => ?_⟩⟩
  · obtain rfl : j = 0 := by omega
    exact ⟨.int .i64 (x.getD i 0), by simp [List.getD, List.getElem?_eq_getElem hi], .int _ _⟩
  · simp only [List.mem_map] at hu
    obtain ⟨y, _, rfl⟩ := hu
    rfl

/-- A block is read more weakly, or in other words. -/
theorem ent_blk {C : Ctx} {sl : List (Nat × AV)} {mem : List (Nat × Option Blk)} {tl : Nat → Option Blk} {nx : Nat} (id : Nat) {b b' : Blk} (hm : meF mem tl id = some b) (h : BlkLe b b') : Ent C ⟨sl, mem, tl, nx⟩ ⟨sl, (id, some b') :: mem, tl, nx⟩ := by
  refine ⟨fun a w hs => ?_⟩
  obtain ⟨e, Z, h1⟩ := hs
  obtain ⟨h2, h3⟩ := h w e Z _ id (h1.m.ok id _ hm)
  exact ⟨e, Z, h1.reblk hm h3 h2⟩

theorem run_sliceA {t el : TypeId} {x : Operand} {ti te : TI} {id g n : Nat} {cs : Array Value} {ty : TypeId} (ho : o.op = .slice t x none none none) (hw : Wanted ops o (slF sl)) (hdst : o.dst = some d) (hd : Nat.blt d C.nt = true) (ht : C.T t = some ti) (hdesc : ti.desc = .array n el) (hte : C.T el = some te)
    (hx : evA (slF sl) x = .s (.c (.ptr id 0))) (hm : meF mem tl id = some (.pin g (.cells cs ty (0, 0)))) (h0 : Nat.blt 0 n = true)
    (t' : RunG C ops l ⟨(d, .s (.c (.f (.lit (.slice (some ⟨g, 0, none⟩) n n))))) :: sl, mem, tl, nx⟩ (⟨[id], []⟩ :: acc) K) : RunG C ops (o :: l) ⟨sl, mem, tl, nx⟩ acc K := by
  refine run_step (S := ⟨sl, mem, tl, nx⟩) (d := ⟨[id], [], .s (.c (.f (.lit (.slice (some ⟨g, 0, none⟩) n n)))), fun _ => none⟩) (LS_val (by simp [notDefer, ho]) hw fun S' a w e Z he hmm hsat => ?_) (by rw [hdst]; exact toF_put ⟨sl, mem, tl, nx⟩ (some d) [id] _ _) t'
  have hm' : S'.mem id = some (.pin g (.cells cs ty (0, 0))) := ((hmm id (.inl (by simp))).1).trans hm
  obtain ⟨h1, h2⟩ := hsat.m.ok id _ hm'
  have hxv := evA_ok hsat x
  rw [he x (by simp [ho, Op.operands]), show evA (St.toF ⟨sl, mem, tl, nx⟩).slot x = _ from hx] at hxv
  have hv : a.eval x = .pointer (some ⟨g, 0, none⟩) := by rw [hxv.1.2, h1]
  refine ⟨_, w, e, Z, .inl ?_, hsat.put (dst_some hdst hd) ⟨.lit _, rfl⟩⟩
  have hn : n ≠ 0 := by have := blt_of h0; omega
  simp [execOp, ho, hv, Instr.sliceAt, Instr.sureAddr, run_und (C.hT.get ht), hdesc, Instr.sliceBounds, run_size (C.hT.get hte), hn, Addr.add]

theorem run_copyA {c : Call} {x y : Operand} {t el : TypeId} {ti te : TI} {id g n : Nat} {ty : TypeId} (q s : List Int) {f : Nat → Nat → FV} (ho : o.op = .call c) (hcc : c.callee = .builtin .copy) (hca : c.args = #[x, y]) (hct : c.argTypes = #[t, t]) (hw : Wanted ops o (slF sl)) (hdst : o.dst = some d) (hd : Nat.blt d C.nt = true)
    (ht : C.T t = some ti) (hdesc : ti.desc = .slice el) (hte : C.T el = some te) (h1 : Nat.beq te.size 1 = true) (hx : evA (slF sl) x = .s (.c (.f (.lit (.slice (some ⟨g, 0, none⟩) n n))))) (hm : meF mem tl id = some (.pin g (.cells (intVals q) ty (0, 0)))) (hn : n = q.length)
    (hy : evA (slF sl) y = .s (.c (.f (.sl 1 s.length f)))) (hs : s.length ≤ n) (hf : ∀ i, i < s.length → f i 0 = .int .i64 (s.getD i 0)) (hid : Nat.blt id nx = true)
    (t' : RunG C ops l ⟨(d, .any) :: sl, (id, some (.pin g (.cells (intVals (s ++ q.drop s.length)) ty (0, 0)))) :: mem, tl, nx⟩ (⟨[], [id]⟩ :: acc) K) : RunG C ops (o :: l) ⟨sl, mem, tl, nx⟩ acc K := by
  refine run_step (S := ⟨sl, mem, tl, nx⟩) (d := ⟨[], [id], .any, fun _ => some (.pin g (.cells (intVals (s ++ q.drop s.length)) ty (0, 0)))⟩) (LS_val (by simp [notDefer, ho, hcc]) hw fun S' a w e Z he hmm hsat => ?_) (by rw [hdst]; exact toF_wr ⟨sl, mem, tl, nx⟩ (some d) [] .any id _ (blt_of hid)) t'
  have hm' : S'.mem id = some (.pin g (.cells (intVals q) ty (0, 0))) := ((hmm id (.inr (by simp))).1).trans hm
  obtain ⟨q1, q2⟩ := hsat.m.ok id _ hm'
  have hops : o.op.operands = #[x, y] := by simp [ho, Op.operands, Call.operands, hcc, hca]
  have hxv := evA_ok hsat x
  rw [he x (by simp [hops]), show evA (St.toF ⟨sl, mem, tl, nx⟩).slot x = _ from hx] at hxv
  have hyv := evA_ok hsat y
  rw [he y (by simp [hops]), show evA (St.toF ⟨sl, mem, tl, nx⟩).slot y = _ from hy] at hyv
  have hvx : a.eval x = .slice (some ⟨g, 0, none⟩) n n := RepF_nil hxv.1
  have hte1 : te.size = 1 := Nat.eq_of_beq_eq_true h1
  have hu : C.P.underlying t = some (.slice el) := by rw [(C.hT.get ht).und, hdesc]
  have hsz : (C.P.info? el).map (·.size) = some 1 := by
    obtain ⟨i, hi, hi2, _⟩ := (C.hT.get hte).info
    rw [hi]; simp [hi2, hte1]
  have hrun : ∃ v, (Builtin.copy_ #[t, t] o.type #[a.eval x, a.eval y]).run C.P w = .ok v (w.putObj g (.cells (intVals (s ++ q.drop s.length)) ty (0, 0))) := by
    rw [hvx]
    rw [q1] at q2
    have hyv1 : RepF w Z (a.eval y) (.sl 1 s.length f) := hyv.1
    generalize a.eval y = vy at hyv1
    have hself : w.putObj g (.cells (intVals q) ty (0, 0)) = w := by
      unfold World.putObj
      have hlt := (Array.getElem?_eq_some_iff.1 q2).1
      have : w.heap.setIfInBounds g (.cells (intVals q) ty (0, 0)) = w.heap := by
        refine Array.ext_getElem? fun i => ?_
        rw [Array.getElem?_setIfInBounds]
        by_cases hi : g = i
        · subst hi; rw [if_pos rfl, if_pos hlt, q2]
        · rw [if_neg hi]
      rw [this]
    obtain ⟨m, hml⟩ : ∃ m, m = s.length := ⟨_, rfl⟩
    rw [← hml] at hyv1
    cases hyv1 with
    | nil A cc k f hc =>
      obtain rfl : s = [] := List.length_eq_zero_iff.1 hml.symm
      refine ⟨goInt 0, ?_⟩
      have hq : (C.P.info? el) ≠ none := by intro h; rw [h] at hsz; cases hsz
      obtain ⟨i, hi⟩ := Option.ne_none_iff_exists'.1 hq
      have hi1 : i.size = 1 := by rw [hi] at hsz; simpa using hsz
      simp only [List.nil_append, List.length_nil, List.drop_zero, hself]
      cases A <;> simp [Builtin.copy_, run_underlying hu, Builtin.lenOf, Builtin.firstCells, sizeOf, typeInfo, hi, hi1, storeCells, loadCells, loadCellsFrom]
    | sl ad mm cc k f u hn0 hc hmx hsp hz hcell hone hr =>
      have hcs : ∀ i, i < s.length → w.cell? (ad.add i) = some (.int .i64 (s.getD i 0)) := fun i hi => by
        have h5 := hcell i 0 (by omega) (by decide)
        have h6 := hr i 0 (by omega) (by decide)
        rw [hf i hi] at h6
        rw [Nat.mul_one, Nat.add_zero] at h5
        cases h7 : u i 0 with
        | _ => rw [h7] at h5 h6; cases h6; try exact h5
      refine ⟨goInt (s.map (Value.int .i64)).length, (run_copy_row (P := C.P) w t t o.type el g 0 n n ad m cc (intVals q) ty (s.map (Value.int .i64)) hu hsz q2 (by rw [List.length_map]; exact (hml.symm.trans (Nat.min_eq_left (by omega)).symm)) (fun j v hj => ?_) (by simp; omega) (fun v hv => ?_)).trans ?_⟩
      · simp only [List.getElem?_map, Option.map_eq_some_iff] at hj
        obtain ⟨z, hz1, rfl⟩ := hj
        have hlt := (List.getElem?_eq_some_iff.1 hz1).1
        rw [hcs j hlt]
        simp [List.getD, hz1]
      · simp only [List.mem_map] at hv
        obtain ⟨z, _, rfl⟩ := hv
        rfl
      · rw [setRow_put q2]
        simp [intVals, List.map_drop]
  obtain ⟨v, hv⟩ := hrun
  rw [← q1] at hv
  refine ⟨v, _, e, Z, .inl ?_, hsat.setMap (dst_some hdst hd) [] hm' rfl rfl ⟨q1, by rw [World.putObj_heap_same (Array.getElem?_eq_some_iff.1 q2).1]⟩ trivial⟩
  have ea : c.args.map a.eval = #[a.eval x, a.eval y] := by rw [hca]; simp
  simp only [execOp, ho, resolve, hcc, Sem.run_bind, Sem.run_pure, Result.andThen_ok, invoke, builtin, ea, hct, hv, q1]
end

section
variable {C : Ctx} {ops : Array Oper} {l : List Oper} {KT : St → Prop} {sl : List (Nat × AV)} {mem : List (Nat × Option Blk)} {tl : Nat → Option Blk} {nx : Nat} {p : Prop} [Decidable p]
theorem runT_splitP (s : Nat) (hs : slF sl s = aBool (decide p)) (h1 : p → RunT C ops l ⟨(s, aBool true) :: sl, mem, tl, nx⟩ KT) (h0 : ¬ p → RunT C ops l ⟨(s, aBool false) :: sl, mem, tl, nx⟩ KT) : RunT C ops l ⟨sl, mem, tl, nx⟩ KT :=
  runT_split s hs (fun h => h1 (of_decide_eq_true h)) (fun h => h0 (of_decide_eq_false h))
theorem runT_splitN (s : Nat) (hs : slF sl s = aBool (!decide p)) (h1 : ¬ p → RunT C ops l ⟨(s, aBool true) :: sl, mem, tl, nx⟩ KT) (h0 : p → RunT C ops l ⟨(s, aBool false) :: sl, mem, tl, nx⟩ KT) : RunT C ops l ⟨sl, mem, tl, nx⟩ KT :=
  runT_split s hs (fun h => h1 (by simpa using h)) (fun h => h0 (by simpa using h))
end

theorem runT_yieldN {C : Ctx} {ops : Array Oper} {o : Oper} {l : List Oper} {sl slr : List (Nat × AV)} {mem : List (Nat × Option Blk)} {tl : Nat → Option Blk} {nx d lid : Nat} {K : St → Prop} {c : Call} {g : Operand} {r : Loop} {as : List AV} {nt : Nat} (hnt : r.tmps.size = nt) (ho : o.op = .call c) (hcc : c.callee = .value g)
    (hg : evA (slF sl) g = yieldV (C.e0.b lid)) (hw : Wanted ops o (slF sl)) (hdst : o.dst = some d) (hd : Nat.blt d C.nt = true) (hl0 : C.L0 lid) (hm : meF mem tl lid = some (.obj (.loop r))) (hr : r.state = .ready) (has : c.args.toList.map (evA (slF sl)) = as)
    (hps : r.params.toList.length = as.length) (hpn : nodupB r.params.toList = true) (hpt : r.params.toList.all (fun p => Nat.blt p r.tmps.size) = true) (hrec : ∀ s, RepA C.w0 C.e0 C.Z0 C.L0 (r.tmps.getD s undef) (slF slr s)) (hz0 : ∀ b, C.Z0 b → b < C.w0.heap.size)
    (H : ∀ (w : World) (e : Env) (Z : Nat → Prop) (hX : ∀ g, Z g → ¬ Feet e (meF mem tl) g) (n : Nat), AgreeL C.L0 C.e0 e →
      VC (C.sub w e Z (fun i => i < nx) (Feet e (meF mem tl)) hX nt (Fence.wide.inRound (e.b lid)) (.inr ⟨_, rfl⟩) n) r.assign ⟨r.params.toList.zip as ++ slr, mem, tl, nx⟩
        (fun S1 => S1.memf lid = some (.obj (.loop r)) ∧
          VC (C.sub w e Z (fun i => i < nx) (Feet e (meF mem tl)) hX nt (Fence.wide.inRound (e.b lid)) (.inr ⟨_, rfl⟩) n) r.body ⟨S1.sl, (lid, some (.obj (.loop { r with state := .busy }))) :: S1.mem, S1.tl, S1.nx⟩
            (fun S2 => S2.memf lid = some (.obj (.loop { r with state := .busy })) ∧ RunT C ops l ⟨(d, aBool true) :: sl, (lid, some (.obj (.loop { r with state := .ready, pending := none }))) :: S2.mem, S2.tl, S2.nx⟩ K)
            (fun i S2 => S2.memf lid = some (.obj (.loop { r with state := .busy })) ∧ RunT C ops l ⟨(d, aBool false) :: sl, (lid, some (.obj (.loop { r with state := .done, pending := some (.exit i) }))) :: S2.mem, S2.tl, S2.nx⟩ K)
            (fun S2 => S2.memf lid = some (.obj (.loop { r with state := .busy })) ∧ RunT C ops l ⟨(d, aBool false) :: sl, (lid, some (.obj (.loop { r with state := .done, pending := some .ret }))) :: S2.mem, S2.tl, S2.nx⟩ K))
        (fun _ _ => False) (fun _ => False)) : RunT C ops (o :: l) ⟨sl, mem, tl, nx⟩ K := by
  subst hnt
  exact runT_yield ho hcc hg hw hdst hd hl0 hm hr has hps hpn hpt hrec hz0 H

theorem piS {ps : List (Nat × Nat)} {n i : Nat} (h : ps.all (fun p => Nat.ble n p.1) = true) (hi : i < n) : piOf ps i = i := by
  unfold piOf
  induction ps with
  | nil => rfl
  | cons p ps ih =>
    obtain ⟨k, v⟩ := p
    simp only [List.all_cons, Bool.and_eq_true] at h
    rw [lkF_cons, if_neg (by have := Nat.le_of_ble_eq_true h.1; omega)]
    exact ih h.2

theorem mapb_eq {a : Bool} {D D' : List (List Int × List FV)} (h : D = D') : BlkLe (.mapb a D) (.mapb a D') := h ▸ .refl _

/-- A key that is not there yet. -/
theorem upsD_new {D : List (List Int × List FV)} {k : List Int} {q : List FV} (h : ∀ d ∈ D, d.1 ≠ k) : upsD D k q = D ++ [(k, q)] := by
  unfold upsD
  have : (keysOf D).idxOf? k = none := by
    rw [List.idxOf?_eq_none_iff]
    intro hm
    obtain ⟨d, hd, he⟩ := List.mem_map.1 hm
    exact h d hd he
  rw [this]

end Go.Sx

/- A scope without jumps. -/
namespace Go.Sx
open Go Go.RowKit

section
variable {F : Fence} {n : Nat} {P : Program} {Q : Exit → Act → World → Prop} {a : Act} {w : World} {b : Frame} {k : List Item} {cs : List Frame}

theorem stepR_scope {c : Code} : step P (lone (b.atR a (.code (.scope c) :: k)) cs w) = .next (lone (b.atR a (.code c :: .inScope c :: k)) cs w) :=
  step_lone_go (by simp [stepG, stepG.exec, Frame.atR])
theorem stepR_inScope {c : Code} : step P (lone (b.atR a (.inScope c :: k)) cs w) = .next (lone (b.atR a k) cs w) :=
  step_lone_go (by simp [stepG, stepG.exec, Frame.atR])

theorem wpIn_scope {c : Code} (h : c.wpIn F n P Q a w) (hq : ∀ l a w, ¬ Q (.goto l) a w) : (Code.scope c).wpIn F n P Q a w := by
  intro b k cs hro hb hr
  have h0 : (lone (b.atR a (.code (.scope c) :: k)) cs w).fenced P F := fenced_calm hb hr rfl
  obtain ⟨e, a₁, w₁, hq1, harr⟩ := h b (.inScope c :: k) cs hro hb hr
  cases e with
  | normal => exact ⟨.normal, a₁, w₁, hq1, .head h0 stepR_scope (StepsIn.trans harr (.one (fenced_calm hb hr rfl) stepR_inScope))⟩
  | exit id' =>
    have hx : exitTo id' (.inScope c :: k) = exitTo id' k := by simp [exitTo]
    exact ⟨.exit id', a₁, w₁, hq1, fun k' hk => .head h0 stepR_scope (harr.1 k' (by rw [hx]; exact hk)),
      fun hr' hk => let ⟨k₁, h1, h2⟩ := harr.2 hr' (by rw [hx]; exact hk); ⟨k₁, h1, .head h0 stepR_scope h2⟩⟩
  | goto l => exact absurd hq1 (hq _ _ _)
  | ret => exact ⟨_, a₁, w₁, hq1, .of_steps (.one h0 stepR_scope) harr⟩
  | panic ch => exact ⟨_, a₁, w₁, hq1, .of_steps (.one h0 stepR_scope) harr⟩
  | outgrown => exact ⟨_, a₁, w₁, hq1, .of_steps (.one h0 stepR_scope) harr⟩
end

theorem vc_scope {C : Ctx} {c : Code} {S : St} {N R : St → Prop} {X : Nat → St → Prop} (h : VC C c S N X R) : VC C (.scope c) S N X R :=
  ⟨fun a w hs => wpIn_scope (h.h a w hs) fun _ _ _ hq => hq⟩

end Go.Sx

/- An append whose outcome is frozen at once. -/
namespace Go.Sx
open Go Go.RowKit

section
variable {C : Ctx} {ops : Array Oper} {o : Oper}

theorem LS_appendFz {S : StF} {c : Call} {s x : Operand} {t el : TypeId} {ti te : TI} {id k n m : Nat} {f g : Nat → Nat → FV} {y : FV} (ho : o.op = .call c) (hcc : c.callee = .builtin .append) (hca : c.args = #[s, x]) (hct : c.argTypes = #[t, t]) (hw : Wanted ops o S.slot)
    (hd : ∀ d, o.dst = some d → d < C.nt) (ht : C.T t = some ti) (hdesc : ti.desc = .slice el) (hte : C.T el = some te) (h0 : 0 < te.size) (hs : evA S.slot s = .s (.c (.own id))) (hm : S.mem id = some (.row el te.size n f)) (hx : evA S.slot x = .s (.c (.f (.sl k m g)))) (hk : k = te.size)
    (h63 : n + m ≤ 9223372036854775807) (hby : (n + m) * te.bytes ≤ 140737488355328) (hy : FVle (.sl te.size (n + m) (appF n f g)) y) :
    LS C ops o S ⟨[], [id], .s (.c (.f y)), fun _ => none⟩ := by
  refine LS_val (by simp [notDefer, ho]) hw fun S' a w e Z he hmm hsat => ?_
  have hops : o.op.operands = #[s, x] := by simp [ho, Op.operands, Call.operands, hcc, hca]
  have hs' := evA_ok hsat s
  rw [he s (by simp [hops]), hs] at hs'
  have hx' := evA_ok hsat x
  rw [he x (by simp [hops]), hx] at hx'
  obtain ⟨⟨hl, hsv⟩, _⟩ := hs'
  have hm' : S'.mem id = some (.row el te.size n f) := by rw [(hmm id (.inr (by simp))).1]; exact hm
  obtain ⟨xs, h1, h2, h3, h4⟩ := hsat.m.ok _ _ hm'
  have hfoot : Foot e id (.row el te.size n f) = (e.v id).ownBlock := rfl
  obtain ⟨v', w', xs', hrun, g1, g2, g3, g4, g5⟩ := append_core (ty := o.type) (C.hT.get ht) hdesc (C.hT.get hte) h0 h1 h3 h4 hx'.1 hk (by unfold maxLen; omega) hby fun b hb => ⟨hsat.m.zlt b hb, fun hob => hsat.m.clear id _ b hm' (by rw [hfoot]; exact hob) hb⟩
  obtain ⟨Z', hZ'⟩ : ∃ Z', Z' = fun b => Z b ∨ v'.ownBlock = some b := ⟨_, rfl⟩
  have hz : ∀ b, Z b → Z' b := fun b hb => by rw [hZ']; exact .inl hb
  have hrep : RepF w' Z' v' (.sl te.size (n + m) (appF n f g)) := by
    have hb : BlkOk w' ((⟨fun _ => 0, fun _ => undef⟩ : Env).withV 0 v') Z (fun _ => True) 0 (.row el te.size (n + m) (appF n f g)) :=
      ⟨xs', by simpa [Env.withV] using g1, fun g hg => by simp [Env.withV] at hg ⊢; simp [hg], g4, g5⟩
    have := own_frozen hb
    rw [hZ']
    simpa [Env.withV, Foot] using this
  refine ⟨v', w', e, Z', .inl ?_, ?_⟩
  · have ea : c.args.map a.eval = #[e.v id, a.eval x] := by rw [hca]; simp [hsv]
    simp only [execOp, ho, resolve, hcc, Sem.run_bind, Sem.run_pure, Result.andThen_ok, invoke, builtin, ea, hct, hrun]
  · refine hsat.step_world hd (Y := fun g => (e.v id).ownBlock = some g) (fr_grown g2) (fun _ _ => ⟨rfl, rfl⟩) hz (fun b hb => ?_) (fun b hb => ?_) (fun g hg => ⟨id, _, by simp, hm', by rw [hfoot]; exact hg⟩) (fun i b hi hb => by cases hb) (fun i j b b' g _ _ _ hb => by cases hb) ⟨hy _ _ _ hrep, owns_one g1⟩
    · rw [hZ'] at hb
      rcases hb with hb | hb
      · exact .inl hb
      · rcases g3 with g3 | g3
        · exact .inr (.inr (g3 ▸ hb))
        · rw [g3] at hb; cases hb; exact .inr (.inl (Nat.le_refl _))
    · rw [hZ'] at hb
      rcases hb with hb | hb
      · exact Nat.lt_of_lt_of_le (hsat.m.zlt b hb) g2.size
      · exact (g1.lt b hb).2
end

section
variable {C : Ctx} {ops : Array Oper} {o : Oper} {l : List Oper} {acc : List FP} {K : List FP → St → Prop} {sl : List (Nat × AV)} {mem : List (Nat × Option Blk)} {tl : Nat → Option Blk} {nx d : Nat}

theorem run_appendFz {c : Call} {s x : Operand} {t el : TypeId} {ti te : TI} {id k n m : Nat} {f g : Nat → Nat → FV} (y : FV) (ho : o.op = .call c) (hcc : c.callee = .builtin .append) (hca : c.args = #[s, x]) (hct : c.argTypes = #[t, t]) (hw : Wanted ops o (slF sl))
    (hdst : o.dst = some d) (hd : Nat.blt d C.nt = true) (ht : C.T t = some ti) (hdesc : ti.desc = .slice el) (hte : C.T el = some te) (h0 : Nat.blt 0 te.size = true) (hs : evA (slF sl) s = .s (.c (.own id))) (hm : meF mem tl id = some (.row el te.size n f)) (hx : evA (slF sl) x = .s (.c (.f (.sl k m g)))) (hk : k = te.size)
    (hid : Nat.blt id nx = true) (h63 : (n + m) * (te.bytes + 1) ≤ 140737488355328) (hy : FVle (.sl te.size (n + m) (appF n f g)) y)
    (t' : RunG C ops l ⟨(d, .s (.c (.f y))) :: sl, (id, none) :: mem, tl, nx⟩ (⟨[], [id]⟩ :: acc) K) : RunG C ops (o :: l) ⟨sl, mem, tl, nx⟩ acc K := by
  rw [Nat.mul_add] at h63
  exact run_step (S := ⟨sl, mem, tl, nx⟩) (LS_appendFz ho hcc hca hct hw (dst_some hdst hd) ht hdesc hte (blt_of h0) hs hm hx hk (by omega) (by omega) hy) (by rw [hdst]; exact toF_wr ⟨sl, mem, tl, nx⟩ (some d) [] _ id none (blt_of hid)) t'
end

end Go.Sx

/- A struct is frozen; a slice of a frozen array. -/
namespace Go.Sx
open Go Go.RowKit

def frzC : CV → FV
  | .f x => x
  | _ => .any

theorem RepC.frz {w : World} {e : Env} {Z L : Nat → Prop} {v : Value} {x : CV} (h : RepC w e Z L v x) : RepF w Z v (frzC x) := by
  cases x with
  | f x => exact h
  | _ => exact .any v

/-- A struct behind a pointer is frozen. -/
theorem ent_fzC {C : Ctx} {sl : List (Nat × AV)} {mem : List (Nat × Option Blk)} {tl : Nat → Option Blk} {nx : Nat} (id s : Nat) {ty : TypeId} {cs : List CV} (hm : meF mem tl id = some (.cells ty cs)) (hs : slF sl s = .s (.c (.ptr id 0))) :
    Ent C ⟨sl, mem, tl, nx⟩ ⟨(s, .s (.c (.fptr cs.length fun j => frzC (cs.getD j (.f .any))))) :: sl, (id, none) :: mem, tl, nx⟩ := by
  refine ⟨fun a w hsat => ?_⟩
  obtain ⟨e, Z, h⟩ := hsat
  have hb := h.m.ok id _ hm
  obtain ⟨Z', hZ'⟩ : ∃ Z', Z' = fun b => Z b ∨ b = e.b id := ⟨_, rfl⟩
  have hz : ∀ b, Z b → Z' b := fun b hb => by rw [hZ']; exact .inl hb
  have hmem : ∀ i b, lkF ((id, none) :: mem) tl i = some b → i ≠ id ∧ lkF mem tl i = some b := fun i b hb => by
    rw [lkF_cons] at hb
    by_cases hi : id = i
    · rw [if_pos hi] at hb; cases hb
    · rw [if_neg hi] at hb; exact ⟨fun h => hi h.symm, hb⟩
  have hid : ∀ i b g, lkF ((id, none) :: mem) tl i = some b → Foot e i b = some g → g ≠ e.b id := fun i b g hb hg he => by
    obtain ⟨hne, hb'⟩ := hmem i b hb
    exact h.m.apart i id b _ g hne hb' hm hg (by simp [Foot, he])
  refine ⟨e, Z', ⟨⟨fun i b hb' => h.m.lim i b (hmem i b hb').2, fun i b hb' => ?_, fun i j b b' g hne hb' hb'' => h.m.apart i j b b' g hne (hmem i b hb').2 (hmem j b' hb'').2, fun i b g hb' hg hzg => ?_, fun g hg => ?_⟩, fun t => ?_, h.nt, ⟨h.dfs.1, fun d hd => ?_⟩, h.fr, h.ag, h.l0, fun b hb => hz b (h.z0 b hb), fun b hb' => ?_, fun g hg => ?_⟩⟩
  · exact (h.m.ok i b (hmem i b hb').2).mono (fun _ _ => rfl) hz (fun _ h => h) (fun _ _ => ⟨rfl, rfl⟩) ⟨rfl, rfl⟩ (fun _ _ => rfl)
  · rw [hZ'] at hzg
    rcases hzg with h3 | h3
    · exact h.m.clear i b g (hmem i b hb').2 hg h3
    · exact hid i b g hb' hg h3
  · rw [hZ'] at hg
    rcases hg with h3 | h3
    · exact h.m.zlt g h3
    · exact hb.foot_lt (by simp [Foot, h3])
  · have hold : RepA w e Z' (fun i => i < nx) (a.tmps.getD t undef) (slF sl t) := RepA.mono (fun _ _ => rfl) hz (fun _ h => h) (fun _ _ => ⟨rfl, rfl⟩) (h.sl t)
    show RepA w e Z' _ _ (lkF ((s, _) :: sl) (fun _ => AV.any) t)
    rw [lkF_cons]
    split
    · rename_i he
      subst he
      have h1 := h.sl s
      rw [show (St.toF ⟨sl, mem, tl, nx⟩).slot s = slF sl s from rfl, hs] at h1
      obtain ⟨arr, q1, q2, q3⟩ := hb
      refine ⟨⟨⟨e.b id, 0, none⟩, fun j => arr.getD j undef, h1.1.2, rfl, by rw [hZ']; exact .inr rfl, fun j hj => ?_, fun j hj => ?_, fun j hj => ?_⟩, h1.2⟩
      · have hl := q2.length
        rw [add_mk, Nat.zero_add, cell_blk q1]
        have : j < arr.size := by rw [← Array.length_toList, hl]; exact hj
        simp [Array.getD_eq_getD_getElem?, Array.getElem?_eq_getElem this]
      · have hl := q2.length
        have hj' : j < arr.size := by rw [← Array.length_toList, hl]; exact hj
        simp only [Array.getD_eq_getD_getElem?, Array.getElem?_eq_getElem hj', Option.getD_some]
        exact q3 _ (by simp)
      · have hl := q2.length
        have hj' : j < arr.size := by rw [← Array.length_toList, hl]; exact hj
        obtain ⟨u, hu, hr⟩ := q2.get j cs[j] (List.getElem?_eq_getElem hj)
        rw [Array.getElem?_toList] at hu
        have e1 : arr.getD j undef = u := by simp [Array.getD_eq_getD_getElem?, hu]
        have e2 : cs.getD j (.f .any) = cs[j] := by simp [List.getD, List.getElem?_eq_getElem hj]
        show RepF w Z' (arr.getD j undef) (frzC (cs.getD j (.f .any)))
        rw [e1, e2]
        exact (hr.frz).mono (fun _ _ => rfl) hz
    · exact hold
  · obtain ⟨D, h1, h2, h3, h4, h5⟩ := h.dfs.2 d hd
    refine ⟨D, h1, h2, h3, fun hzd => ?_, fun i b hb' => h5 i b (hmem i b hb').2⟩
    rw [hZ'] at hzd
    rcases hzd with h6 | h6
    · exact h4 h6
    · exact h5 id _ hm (by simp [Foot, h6])
  · rw [hZ'] at hb'
    rcases hb' with h3 | h3
    · exact h.z1 b h3
    · exact .inr (h.ft b ⟨id, _, hm, by simp [Foot, h3]⟩)
  · obtain ⟨i, b, hb', hg'⟩ := hg
    exact h.ft g ⟨i, b, (hmem i b hb').2, hg'⟩

section
variable {C : Ctx} {ops : Array Oper} {o : Oper} {l : List Oper} {acc : List FP} {K : List FP → St → Prop} {sl : List (Nat × AV)} {mem : List (Nat × Option Blk)} {tl : Nat → Option Blk} {nx d : Nat}

/-- A slice of a frozen array, from its beginning. -/
theorem run_sliceF {t el : TypeId} {x hi : Operand} {ti te : TI} {m n h : Nat} {kh : IntKind} {H : Int} {g : Nat → FV} (ho : o.op = .slice t x none (some hi) none) (hw : Wanted ops o (slF sl)) (hdst : o.dst = some d) (hd : Nat.blt d C.nt = true) (ht : C.T t = some ti) (hdesc : ti.desc = .array n el) (hte : C.T el = some te) (h1 : Nat.beq te.size 1 = true)
    (hx : evA (slF sl) x = .s (.c (.fptr m g))) (hhi : evA (slF sl) hi = aInt kh H) (hH : H = (h : Int)) (hn : Nat.ble n m = true) (hn0 : Nat.blt 0 n = true) (hn2 : Nat.ble n 1000 = true) (hh : h ≤ n) {y : FV} (hy : FVle (.sl 1 h fun i _ => g i) y)
    (t' : RunG C ops l ⟨(d, .s (.c (.f y))) :: sl, mem, tl, nx⟩ (⟨[], []⟩ :: acc) K) : RunG C ops (o :: l) ⟨sl, mem, tl, nx⟩ acc K := by
  subst hH
  refine run_step (S := ⟨sl, mem, tl, nx⟩) (d := ⟨[], [], .s (.c (.f y)), fun _ => none⟩) (LS_weak (e := ⟨[], [], .s (.c (.f (.sl 1 h fun i _ => g i))), fun _ => none⟩) (LS_val (by simp [notDefer, ho]) hw fun S' a w e Z he hmm hsat => ?_) (.f hy)) (by rw [hdst]; exact toF_put ⟨sl, mem, tl, nx⟩ (some d) [] _ _) t'
  have hxv := evA_ok hsat x
  rw [he x (by simp [ho, Op.operands]), show evA (St.toF ⟨sl, mem, tl, nx⟩).slot x = _ from hx] at hxv
  have hhv := evA_ok hsat hi
  rw [he hi (by simp [ho, Op.operands]), show evA (St.toF ⟨sl, mem, tl, nx⟩).slot hi = _ from hhi] at hhv
  obtain ⟨⟨ad, u, hv, hsp, hzb, hcell, hone, hr⟩, _⟩ := hxv
  have hnm := ble_of hn
  have hn0' : n ≠ 0 := by have := blt_of hn0; omega
  have hmax : n ≤ maxLen := by have := ble_of hn2; unfold maxLen; omega
  have ha0 : ad.add 0 = ad := by simp [Addr.add]
  refine ⟨.slice (some ad) h n, w, e, Z, .inl ?_, hsat.put (dst_some hdst hd) ⟨?_, rfl⟩⟩
  · have hle : (0 : Int) ≤ (h : Int) ∧ (h : Int) ≤ (n : Int) := ⟨by omega, by omega⟩
    simp [execOp, ho, hv, repInt hhv, Instr.sliceAt, Instr.sureAddr, run_und (C.hT.get ht), hdesc, Instr.sliceBounds, Instr.sliceBound, asIntOf, run_size (C.hT.get hte), hn0', hh, ha0]
  · rcases Nat.eq_zero_or_pos h with rfl | hpos
    · exact .nil (some ad) n 1 _ hmax
    · refine .sl ad h n 1 _ (fun i _ => u i) hpos hh hmax hsp hzb (fun i j hi hj => ?_) (fun i j hi hj => hone i (by omega)) (fun i j hi hj => hr i (by omega))
      obtain rfl : j = 0 := by omega
      rw [Nat.mul_one, Nat.add_zero]
      exact hcell i (by omega)
end

end Go.Sx

/- From the statement's reading of the arguments to the abstract values, and from a contract that answers true to the statement's step. -/
namespace Go.Sx
open Go Go.RowKit Go.ChangeShapes Go.WideShapes Go.ChangeAt

section
variable {H : Type} {enc : TypeId × Value → H} {P : Program} {w : World}

/-- How the cells of a type read, where they stand in the given world. -/
def Rd {H : Type} (enc : TypeId × Value → H) (P : Program) (w : World) {β : Type} (t : TypeId) (k : Nat) (F : β → Nat → FV) (Q : β → DataW H → Prop) : Prop :=
  ∀ (n : Nat) (cs : List Value) (x : DataW H × List MemPlace), DataW.trod enc P w 0 (fun _ => true) true n t cs = some x →
    cs.length = k ∧ ∃ y, Q y x.1 ∧ ∀ j, j < k → ∃ u, cs[j]? = some u ∧ RepF w (fun b => b < w.heap.size) u (F y j) ∧ u.oneCell' = true

theorem rd_int {t : TypeId} {kk : IntKind} (ht : P.underlying t = some (.int kk)) : Rd enc P w t 1 (fun (y : Int) _ => .int kk y) (fun y _ => kk.min ≤ y ∧ y ≤ kk.max) := by
  intro n cs x h
  obtain ⟨m, rfl, rfl, hw⟩ := DataW.trod_int ht h
  refine ⟨rfl, m, by simpa [Lit.wf] using hw, fun j hj => ?_⟩
  obtain rfl : j = 0 := by omega
  exact ⟨_, rfl, .int _ _, rfl⟩

theorem rd_bool {t : TypeId} (ht : P.underlying t = some .bool) : Rd enc P w t 1 (fun (y : Bool) _ => .bool y) (fun _ _ => True) := by
  intro n cs x h
  obtain ⟨m, rfl, rfl⟩ := DataW.trod_bool ht h
  refine ⟨rfl, m, trivial, fun j hj => ?_⟩
  obtain rfl : j = 0 := by omega
  exact ⟨_, rfl, .bool _, rfl⟩

theorem Rd.map {β γ : Type} {t : TypeId} {k : Nat} {F : β → Nat → FV} {Q : β → DataW H → Prop} (h : Rd enc P w t k F Q) (g : β → γ) {G : γ → Nat → FV} {R : γ → DataW H → Prop} (hF : ∀ y j, j < k → F y j = G (g y) j) (hQ : ∀ y d, Q y d → R (g y) d) : Rd enc P w t k G R := by
  intro n cs x hx
  obtain ⟨h1, y, hy, h2⟩ := h n cs x hx
  exact ⟨h1, g y, hQ _ _ hy, fun j hj => by rw [← hF y j hj]; exact h2 j hj⟩

theorem cells_get : ∀ {n : Nat} {w : World} {a : Addr} {cs : List Value}, w.cells? 0 a n = some cs → cs.length = n ∧ ∀ j, j < n → w.cell? (a.add j) = cs[j]? := by
  intro n w a cs h
  unfold World.cells? at h
  rw [if_pos (Nat.zero_le _)] at h
  have hl := mapM_some_length h
  refine ⟨by simpa using hl, fun j hj => ?_⟩
  exact mapM_some_get h j j (List.getElem?_range hj)

theorem rd_slice {β : Type} {t e : TypeId} {k : Nat} {F : β → Nat → FV} {Q : β → DataW H → Prop} (d : β) (ht : P.underlying t = some (.slice e)) (hk : P.cellsOf e = k) (hpos : 0 < k) (he : Rd enc P w e k F Q) :
    Rd enc P w t 1 (fun (l : List β) _ => encL k F d l) (fun l x => l.length ≤ maxLen ∧ (∀ y ∈ l, ∃ z, Q y z) ∧ ((l = [] ∧ x = .nil) ∨ ∃ es sp, x = .slice es sp ∧ es.length = l.length)) := by
  intro n cs x h
  rcases DataW.trod_slice ht h with ⟨rfl, rfl⟩ | ⟨a, len, cap, elems, rest, m, _, rfl, rfl, _, hl, hm, hlen, hel, _, _⟩
  · refine ⟨rfl, [], ⟨Nat.zero_le _, by simp, .inl ⟨rfl, rfl⟩⟩, fun j hj => ?_⟩
    obtain rfl : j = 0 := by omega
    exact ⟨_, rfl, .nil _ _ _ _ (Nat.zero_le _), rfl⟩
  · rw [hk] at hel
    have hE : ∀ i, ∃ (y : β), i < len → (∃ z, Q y z) ∧ ∃ u : Nat → Value, ∀ j, j < k → w.cell? (a.add (i * k + j)) = some (u j) ∧ RepF w (fun b => b < w.heap.size) (u j) (F y j) ∧ (u j).oneCell' = true := by
      intro i
      by_cases hi : i < len
      · have h1 := hel i hi
        rw [List.getElem?_eq_getElem (by omega)] at h1
        obtain ⟨cs', hc', ht'⟩ := Option.bind_eq_some_iff.1 h1
        obtain ⟨hcl, hcg⟩ := cells_get hc'
        obtain ⟨_, y, hy, hj⟩ := he m cs' _ ht'
        refine ⟨y, fun _ => ⟨⟨_, hy⟩, fun j => cs'.getD j (.bool false), fun j hj' => ?_⟩⟩
        obtain ⟨u, hu, hr, h1⟩ := hj j hj'
        have hg := hcg j hj'
        rw [add_add, hu] at hg
        have hgu : cs'.getD j (.bool false) = u := by simp [List.getD, hu]
        simp only [hgu]
        exact ⟨hg, hr, h1⟩
      · exact ⟨d, fun h => absurd h hi⟩
    let Y : Nat → β := fun i => (hE i).choose
    have hY := fun i => (hE i).choose_spec
    refine ⟨rfl, (List.range len).map Y, ⟨by simp; omega, ?_, .inr ⟨_, _, rfl, by simp [hlen]⟩⟩, fun j hj => ?_⟩
    · intro y hy
      obtain ⟨i, hi, rfl⟩ := List.mem_map.1 hy
      exact (hY i (by simpa using hi)).1
    · obtain rfl : j = 0 := by omega
      refine ⟨_, rfl, ?_, rfl⟩
      have hU : ∀ i, ∃ u : Nat → Value, i < len → ∀ j, j < k → w.cell? (a.add (i * k + j)) = some (u j) ∧ RepF w (fun b => b < w.heap.size) (u j) (F (Y i) j) ∧ (u j).oneCell' = true := by
        intro i
        by_cases hi : i < len
        · obtain ⟨u, hu⟩ := (hY i hi).2; exact ⟨u, fun _ => hu⟩
        · exact ⟨fun _ => .bool false, fun h => absurd h hi⟩
      let U : Nat → Nat → Value := fun i => (hU i).choose
      have hUs := fun i => (hU i).choose_spec
      have hlm : ((List.range len).map Y).length = len := by simp
      have hgd : ∀ i, i < len → ((List.range len).map Y).getD i d = Y i := fun i hi => by simp [List.getD, hi]
      rcases Nat.eq_zero_or_pos len with h0 | hp
      · subst h0; exact .nil _ _ _ _ hm
      · unfold encL
        simp only [hlm]
        have hc0 := (hUs 0 hp 0 hpos).1
        have hsp : a.spot = none := by
          unfold World.cell? at hc0
          split at hc0
          · rename_i heq
            split at hc0
            · cases hc0
            · rename_i hns
              simp only [Nat.zero_mul, Nat.add_zero] at hns
              rw [show a.add 0 = a by simp [Addr.add]] at hns
              cases hsp' : a.spot with
              | none => rfl
              | some x => rw [hsp'] at hns; simp at hns
          · cases hc0
        have hz : a.block < w.heap.size := by
          unfold World.cell? at hc0
          split at hc0
          · rename_i heq
            rw [add_block] at heq
            exact (Array.getElem?_eq_some_iff.1 heq).1
          · cases hc0
        refine .sl a len cap k _ U hp hl hm hsp hz (fun i j hi hj => (hUs i hi j hj).1) (fun i j hi hj => (hUs i hi j hj).2.2) (fun i j hi hj => ?_)
        rw [hgd i hi]
        exact (hUs i hi j hj).2.1

theorem get_dt {cs : List Value} {o k j : Nat} (hj : j < k) : ((cs.drop o).take k)[j]? = cs[o + j]? := by simp [List.getElem?_take, hj]

theorem rd_struct2 {β0 β1 : Type} {t : TypeId} {f0 f1 : Field} {k0 k1 : Nat} {F0 : β0 → Nat → FV} {F1 : β1 → Nat → FV} {Q0 : β0 → DataW H → Prop} {Q1 : β1 → DataW H → Prop}
    (ht : P.underlying t = some (.struct #[f0, f1])) (ct : P.cellsOf t = k0 + k1) (o0 : f0.offset = 0) (o1 : f1.offset = k0) (c0 : P.cellsOf f0.type = k0) (c1 : P.cellsOf f1.type = k1)
    (h0 : Rd enc P w f0.type k0 F0 Q0) (h1 : Rd enc P w f1.type k1 F1 Q1) :
    Rd enc P w t (k0 + k1) (fun (y : β0 × β1) j => if j < k0 then F0 y.1 j else F1 y.2 (j - k0)) (fun y d => ∃ d0 d1, d = .agg [d0, d1] ∧ Q0 y.1 d0 ∧ Q1 y.2 d1) := by
  intro n cs x h
  obtain ⟨y0, y1, m, rfl, hl, g0, g1⟩ := trod_struct2 ht h
  rw [o0, c0] at g0; rw [o1, c1] at g1
  obtain ⟨l0, z0, q0, r0⟩ := h0 _ _ _ g0
  obtain ⟨l1, z1, q1, r1⟩ := h1 _ _ _ g1
  refine ⟨by rw [hl, ct], (z0, z1), ⟨_, _, rfl, q0, q1⟩, fun j hj => ?_⟩
  by_cases hj0 : j < k0
  · obtain ⟨u, hu, hr⟩ := r0 j hj0
    rw [get_dt hj0, Nat.zero_add] at hu
    exact ⟨u, hu, by simpa [hj0] using hr⟩
  · obtain ⟨u, hu, hr⟩ := r1 (j - k0) (by omega)
    rw [get_dt (by omega), show k0 + (j - k0) = j by omega] at hu
    exact ⟨u, hu, by simpa [hj0] using hr⟩

theorem rd_struct3 {β0 β1 β2 : Type} {t : TypeId} {f0 f1 f2 : Field} {k0 k1 k2 : Nat} {F0 : β0 → Nat → FV} {F1 : β1 → Nat → FV} {F2 : β2 → Nat → FV} {Q0 : β0 → DataW H → Prop} {Q1 : β1 → DataW H → Prop} {Q2 : β2 → DataW H → Prop}
    (ht : P.underlying t = some (.struct #[f0, f1, f2])) (ct : P.cellsOf t = k0 + k1 + k2) (o0 : f0.offset = 0) (o1 : f1.offset = k0) (o2 : f2.offset = k0 + k1) (c0 : P.cellsOf f0.type = k0) (c1 : P.cellsOf f1.type = k1) (c2 : P.cellsOf f2.type = k2)
    (h0 : Rd enc P w f0.type k0 F0 Q0) (h1 : Rd enc P w f1.type k1 F1 Q1) (h2 : Rd enc P w f2.type k2 F2 Q2) :
    Rd enc P w t (k0 + k1 + k2) (fun (y : β0 × β1 × β2) j => if j < k0 then F0 y.1 j else if j < k0 + k1 then F1 y.2.1 (j - k0) else F2 y.2.2 (j - (k0 + k1))) (fun y d => ∃ d0 d1 d2, d = .agg [d0, d1, d2] ∧ Q0 y.1 d0 ∧ Q1 y.2.1 d1 ∧ Q2 y.2.2 d2) := by
  intro n cs x h
  obtain ⟨xs, m, _, rfl, hl, hlen, hf⟩ := DataW.trod_struct ht h
  match xs, hlen with
  | [y0, y1, y2], _ =>
  have g0 : DataW.trod enc P w 0 (fun _ => true) true m f0.type ((cs.drop f0.offset).take (P.cellsOf f0.type)) = some y0 := by simpa using hf 0 f0 rfl
  have g1 : DataW.trod enc P w 0 (fun _ => true) true m f1.type ((cs.drop f1.offset).take (P.cellsOf f1.type)) = some y1 := by simpa using hf 1 f1 rfl
  have g2 : DataW.trod enc P w 0 (fun _ => true) true m f2.type ((cs.drop f2.offset).take (P.cellsOf f2.type)) = some y2 := by simpa using hf 2 f2 rfl
  rw [o0, c0] at g0; rw [o1, c1] at g1; rw [o2, c2] at g2
  obtain ⟨l0, z0, q0, r0⟩ := h0 _ _ _ g0
  obtain ⟨l1, z1, q1, r1⟩ := h1 _ _ _ g1
  obtain ⟨l2, z2, q2, r2⟩ := h2 _ _ _ g2
  refine ⟨by rw [hl, ct], (z0, z1, z2), ⟨_, _, _, rfl, q0, q1, q2⟩, fun j hj => ?_⟩
  by_cases hj0 : j < k0
  · obtain ⟨u, hu, hr⟩ := r0 j hj0
    rw [get_dt hj0, Nat.zero_add] at hu
    exact ⟨u, hu, by simpa [hj0] using hr⟩
  by_cases hj1 : j < k0 + k1
  · obtain ⟨u, hu, hr⟩ := r1 (j - k0) (by omega)
    rw [get_dt (by omega), show k0 + (j - k0) = j by omega] at hu
    exact ⟨u, hu, by simpa [hj0, hj1] using hr⟩
  · obtain ⟨u, hu, hr⟩ := r2 (j - (k0 + k1)) (by omega)
    rw [get_dt (by omega), show k0 + k1 + (j - (k0 + k1)) = j by omega] at hu
    exact ⟨u, hu, by simpa [hj0, hj1] using hr⟩

theorem rd_struct4 {β0 β1 β2 β3 : Type} {t : TypeId} {f0 f1 f2 f3 : Field} {k0 k1 k2 k3 : Nat} {F0 : β0 → Nat → FV} {F1 : β1 → Nat → FV} {F2 : β2 → Nat → FV} {F3 : β3 → Nat → FV} {Q0 : β0 → DataW H → Prop} {Q1 : β1 → DataW H → Prop} {Q2 : β2 → DataW H → Prop} {Q3 : β3 → DataW H → Prop}
    (ht : P.underlying t = some (.struct #[f0, f1, f2, f3])) (ct : P.cellsOf t = k0 + k1 + k2 + k3) (o0 : f0.offset = 0) (o1 : f1.offset = k0) (o2 : f2.offset = k0 + k1) (o3 : f3.offset = k0 + k1 + k2) (c0 : P.cellsOf f0.type = k0) (c1 : P.cellsOf f1.type = k1) (c2 : P.cellsOf f2.type = k2) (c3 : P.cellsOf f3.type = k3)
    (h0 : Rd enc P w f0.type k0 F0 Q0) (h1 : Rd enc P w f1.type k1 F1 Q1) (h2 : Rd enc P w f2.type k2 F2 Q2) (h3 : Rd enc P w f3.type k3 F3 Q3) :
    Rd enc P w t (k0 + k1 + k2 + k3) (fun (y : β0 × β1 × β2 × β3) j => if j < k0 then F0 y.1 j else if j < k0 + k1 then F1 y.2.1 (j - k0) else if j < k0 + k1 + k2 then F2 y.2.2.1 (j - (k0 + k1)) else F3 y.2.2.2 (j - (k0 + k1 + k2))) (fun y d => ∃ d0 d1 d2 d3, d = .agg [d0, d1, d2, d3] ∧ Q0 y.1 d0 ∧ Q1 y.2.1 d1 ∧ Q2 y.2.2.1 d2 ∧ Q3 y.2.2.2 d3) := by
  intro n cs x h
  obtain ⟨xs, m, _, rfl, hl, hlen, hf⟩ := DataW.trod_struct ht h
  match xs, hlen with
  | [y0, y1, y2, y3], _ =>
  have g0 : DataW.trod enc P w 0 (fun _ => true) true m f0.type ((cs.drop f0.offset).take (P.cellsOf f0.type)) = some y0 := by simpa using hf 0 f0 rfl
  have g1 : DataW.trod enc P w 0 (fun _ => true) true m f1.type ((cs.drop f1.offset).take (P.cellsOf f1.type)) = some y1 := by simpa using hf 1 f1 rfl
  have g2 : DataW.trod enc P w 0 (fun _ => true) true m f2.type ((cs.drop f2.offset).take (P.cellsOf f2.type)) = some y2 := by simpa using hf 2 f2 rfl
  have g3 : DataW.trod enc P w 0 (fun _ => true) true m f3.type ((cs.drop f3.offset).take (P.cellsOf f3.type)) = some y3 := by simpa using hf 3 f3 rfl
  rw [o0, c0] at g0; rw [o1, c1] at g1; rw [o2, c2] at g2; rw [o3, c3] at g3
  obtain ⟨l0, z0, q0, r0⟩ := h0 _ _ _ g0
  obtain ⟨l1, z1, q1, r1⟩ := h1 _ _ _ g1
  obtain ⟨l2, z2, q2, r2⟩ := h2 _ _ _ g2
  obtain ⟨l3, z3, q3, r3⟩ := h3 _ _ _ g3
  refine ⟨by rw [hl, ct], (z0, z1, z2, z3), ⟨_, _, _, _, rfl, q0, q1, q2, q3⟩, fun j hj => ?_⟩
  by_cases hj0 : j < k0
  · obtain ⟨u, hu, hr⟩ := r0 j hj0
    rw [get_dt hj0, Nat.zero_add] at hu
    exact ⟨u, hu, by simpa [hj0] using hr⟩
  by_cases hj1 : j < k0 + k1
  · obtain ⟨u, hu, hr⟩ := r1 (j - k0) (by omega)
    rw [get_dt (by omega), show k0 + (j - k0) = j by omega] at hu
    exact ⟨u, hu, by simpa [hj0, hj1] using hr⟩
  by_cases hj2 : j < k0 + k1 + k2
  · obtain ⟨u, hu, hr⟩ := r2 (j - (k0 + k1)) (by omega)
    rw [get_dt (by omega), show k0 + k1 + (j - (k0 + k1)) = j by omega] at hu
    exact ⟨u, hu, by simpa [hj0, hj1, hj2] using hr⟩
  · obtain ⟨u, hu, hr⟩ := r3 (j - (k0 + k1 + k2)) (by omega)
    rw [get_dt (by omega), show k0 + k1 + k2 + (j - (k0 + k1 + k2)) = j by omega] at hu
    exact ⟨u, hu, by simpa [hj0, hj1, hj2] using hr⟩

/-! ### Arguments -/

theorem rep_agg {β : Type} {t : TypeId} {k : Nat} {F : β → Nat → FV} {Q : β → DataW H → Prop} {e : Env} {L : Nat → Prop} (h : Rd enc P w t k F Q) {fs : Array Field} (ht : P.underlying t = some (.struct fs)) {v : Value} {r : Reach} {b0 : Nat} (hv : Value.okWide P w r b0 t v)
    {d : DataW H} {p : List MemPlace} (hd : DataW.Trod enc P w 0 (fun _ => true) true t v d p) : ∃ y, Q y d ∧ RepA w e (fun b => b < w.heap.size) L v (.s (.agg ((List.range k).map fun j => .f (F y j)))) := by
  obtain ⟨cs, rfl, _⟩ := okWide_struct ht hv
  obtain ⟨n, hn⟩ := hd
  obtain ⟨hl, y, hq, hj⟩ := h n _ _ hn
  simp only [Value.cells] at hl hj
  refine ⟨y, hq, cs, rfl, All2.of_get (by simpa using hl) fun i u x hu hx => ?_, fun u hu => ?_⟩
  · rw [List.getElem?_map] at hx
    have hi : i < k := by
      have := (List.getElem?_eq_some_iff.1 hu).1
      omega
    rw [List.getElem?_range hi] at hx
    obtain rfl : CV.f (F y i) = x := by simpa using hx
    obtain ⟨u', h1, h2, _⟩ := hj i hi
    rw [hu] at h1; cases h1
    exact h2
  · obtain ⟨i, hi, rfl⟩ := List.getElem_of_mem hu
    obtain ⟨u', h1, _, h3⟩ := hj i (by omega)
    rw [List.getElem?_eq_getElem hi] at h1; cases h1
    exact h3

theorem rep_one {β : Type} {t : TypeId} {F : β → Nat → FV} {Q : β → DataW H → Prop} {e : Env} {L : Nat → Prop} (h : Rd enc P w t 1 F Q) {v : Value} (hv : v.cells.toList = [v])
    {d : DataW H} {p : List MemPlace} (hd : DataW.Trod enc P w 0 (fun _ => true) true t v d p) : ∃ y, Q y d ∧ RepA w e (fun b => b < w.heap.size) L v (.s (.c (.f (F y 0)))) := by
  obtain ⟨n, hn⟩ := hd
  obtain ⟨_, y, hq, hj⟩ := h n _ _ hn
  obtain ⟨u, h1, h2, h3⟩ := hj 0 (by omega)
  rw [hv] at h1; cases h1
  exact ⟨y, hq, h2, h3⟩

theorem slice_cells {t e : TypeId} (ht : P.underlying t = some (.slice e)) {v : Value} {r : Reach} {b0 : Nat} (hv : Value.okWide P w r b0 t v) : v.cells.toList = [v] := by
  obtain ⟨a, l, c, rfl⟩ := okWide_slice ht hv; rfl
theorem int_cells {t : TypeId} {k : IntKind} (ht : P.underlying t = some (.int k)) {v : Value} {r : Reach} {b0 : Nat} (hv : Value.okWide P w r b0 t v) : v.cells.toList = [v] := by
  obtain ⟨n, rfl⟩ := okWide_int ht hv; rfl

/-- The same, of a law's argument. -/
theorem arg_agg {β : Type} {t : TypeId} {k : Nat} {F : β → Nat → FV} {Q : β → DataW H → Prop} (e : Env) (L : Nat → Prop) (h : Rd enc P w t k F Q) {fs : Array Field} (ht : P.underlying t = some (.struct fs)) {ps : Array TypeId} {args : Array Value} {b0 : Nat}
    (hval : ∀ (j : Nat) t v, ps[j]? = some t → args[j]? = some v → Value.okWide P w .any b0 t v) (j : Nat) {v : Value} (hp : ps[j]? = some t) (ha : args[j]? = some v) {d : DataW H} {p : List MemPlace} (hd : DataW.Trod enc P w 0 (fun _ => true) true t v d p) :
    ∃ y, Q y d ∧ RepA w e (fun b => b < w.heap.size) L v (.s (.agg ((List.range k).map fun j => .f (F y j)))) := rep_agg h ht (hval j t v hp ha) hd
theorem arg_int {t : TypeId} {k : IntKind} (e : Env) (L : Nat → Prop) (ht : P.underlying t = some (.int k)) {ps : Array TypeId} {args : Array Value} {b0 : Nat}
    (hval : ∀ (j : Nat) t v, ps[j]? = some t → args[j]? = some v → Value.okWide P w .any b0 t v) (j : Nat) {v : Value} (hp : ps[j]? = some t) (ha : args[j]? = some v) {d : DataW H} {p : List MemPlace} (hd : DataW.Trod enc P w 0 (fun _ => true) true t v d p) :
    ∃ n : Int, (k.min ≤ n ∧ n ≤ k.max) ∧ RepA w e (fun b => b < w.heap.size) L v (aInt k n) := rep_one (rd_int ht) (int_cells ht (hval j t v hp ha)) hd
theorem arg_slice {β : Type} {t el : TypeId} {F : β → Nat → FV} {Q : β → DataW H → Prop} (e : Env) (L : Nat → Prop) (h : Rd enc P w t 1 F Q) (ht : P.underlying t = some (.slice el)) {ps : Array TypeId} {args : Array Value} {b0 : Nat}
    (hval : ∀ (j : Nat) t v, ps[j]? = some t → args[j]? = some v → Value.okWide P w .any b0 t v) (j : Nat) {v : Value} (hp : ps[j]? = some t) (ha : args[j]? = some v) {d : DataW H} {p : List MemPlace} (hd : DataW.Trod enc P w 0 (fun _ => true) true t v d p) :
    ∃ y, Q y d ∧ RepA w e (fun b => b < w.heap.size) L v (.s (.c (.f (F y 0)))) := rep_one h (slice_cells ht (hval j t v hp ha)) hd

/-! ### The step -/

theorem satM_start (w : World) (e : Env) (L : Nat → Prop) : SatM w e (fun b => b < w.heap.size) L (fun _ => none) :=
  ⟨fun _ _ h => by simp at h, fun _ _ h => by simp at h, fun _ _ _ _ _ _ h => by simp at h, fun _ _ _ h => by simp at h, fun _ h => h⟩

theorem trodAll_stays {W W' : World} {sp : Nat → Bool} (hl : laidOutB P = true) : ∀ {ts : List TypeId} {vs : List Value} {ds : List (DataW H)} {ps : List MemPlace}, (∀ t ∈ ts, P.readableRec t = true ∧ t < P.types.size) → DataW.TrodAll enc P W 0 (fun _ => true) true ts vs ds ps →
    (∀ p ∈ ps, W.sameAt W' p) → (∀ p ∈ ps, sp p.block = true) → DataW.TrodAll enc P W' 0 sp true ts vs ds ps
  | [], [], [], _, _, h, _, _ => h
  | t :: ts, v :: vs, d :: ds, _, ht, ⟨p, q, h, hs, e⟩, h1, h2 => by
    subst e
    exact ⟨p, q, WideElems.Trod_stays hl (ht t (by simp)).1 (ht t (by simp)).2 h (fun x hx => h1 x (by simp [hx])) (fun x hx => h2 x (by simp [hx])),
      trodAll_stays hl (fun t h => ht t (by simp [h])) hs (fun x hx => h1 x (by simp [hx])) (fun x hx => h2 x (by simp [hx])), rfl⟩
  | [], [], _ :: _, _, _, h, _, _ => h.elim
  | [], _ :: _, _, _, _, h, _, _ => h.elim
  | _ :: _, [], _, _, _, h, _, _ => h.elim
  | _ :: _, _ :: _, [], _, _, h, _, _ => h.elim

theorem step_of {f : Func} {fid : FuncId} {s : ChangeSpec} {tb : TypeId} {W : World} {args : Array Value} {ds gs : List (DataW H)} {before : List MemPlace} {avs : List AV} {n' : Nat} {m' : Nat → Option Blk}
    (hl : laidOutB P = true) (hrt : f.resultTypes = #[tb]) (hb : P.underlying tb = some .bool) (hread : ∀ t ∈ f.params.toList, P.readableRec t = true ∧ t < P.types.size) (hvars : s.vars = [])
    (hspec : ∀ ds : List (DataW H), ds.length = f.params.size → s.fn H ds = { results := [.lit (.bool true)], args := ds }) (hW : DataW.Whole enc P f.params.toList s.vars false W args.toList ds gs before)
    (hrep : All2 (RepA W ⟨fun _ => 0, fun _ => .bool false⟩ (fun b => b < W.heap.size) fun i => i < 0) args.toList avs) (hc : CallC P fid 0 (fun _ => none) avs n' m' (aBool true)) :
    Calls P fid args W fun e W' => ∃ v, e = .returned v ∧ s.post enc P f false true false false W args v W' := by
  refine Calls.mono' (hc.run W _ _ args.toList (satM_start _ _ _) hrep) fun en W' hr => ?_
  cases en with
  | returned v =>
    obtain ⟨e', Z', _, hres, _, _, _, hfr, _⟩ := hr
    obtain ⟨hres, _⟩ := hres
    cases hres
    refine ⟨_, rfl, ?_⟩
    have hold : ∀ k, k < W.heap.size → W'.heap[k]? = W.heap[k]? := fun k hk => hfr.block k hk (by rintro ⟨_, _, h, _⟩; simp at h)
    have hlt : ∀ p ∈ before, p.block < W.heap.size := fun p hp => hW.lt p hp
    have hW' := hW
    obtain ⟨p, q, hA, hV, rfl, hfz, hnd⟩ := hW
    rw [hvars] at hV
    obtain ⟨rfl, rfl⟩ := trodVars_none hV
    have hlen : ds.length = f.params.size := by
      have : ∀ {ts : List TypeId} {vs : List Value} {ds : List (DataW H)} {ps : List MemPlace}, DataW.TrodAll enc P W 0 (fun _ => true) true ts vs ds ps → ds.length = ts.length := by
        intro ts
        induction ts with
        | nil => intro vs ds ps h; cases vs <;> cases ds <;> simp [DataW.TrodAll] at h ⊢
        | cons t ts ih => intro vs ds ps h; cases vs <;> cases ds <;> simp [DataW.TrodAll] at h ⊢; obtain ⟨p, _, q, hq, _⟩ := h; exact ih hq
      simpa using this hA
    have hds : ds ++ [] = ds := List.append_nil _
    have hpn : p ++ [] = p := List.append_nil _
    have hsame : ∀ x ∈ p, W.sameAt W' x := fun x hx => by
      have := hold _ (hlt x (by simp [hx]))
      cases x with
      | cell b off => exact cell_of_heap this
      | map b => exact this
    have hfn := hspec ds hlen
    have hres : ∀ (b : Nat) (sp : Nat → Bool) (hd : Bool), DataW.TrodAll enc P W' b sp hd f.resultTypes.toList (Value.resultList f.resultTypes.size (.bool true)) (s.fn H (ds ++ [])).results [] := by
      intro b sp hd
      rw [hds, hfn, hrt]
      exact trodAll_mk1 ⟨1, by simp [DataW.trod, Value.cells, hb]⟩
    have hargs : ∀ sp : Nat → Bool, (∀ x ∈ p, sp x.block = true) → DataW.TrodAll enc P W' 0 sp true f.params.toList args.toList (s.fn H (ds ++ [])).args p := by
      intro sp hsp
      rw [hds, hfn]
      exact trodAll_stays hl hread hA hsame hsp
    have hgone : ∀ sp : Nat → Bool, DataW.TrodVars enc P W' sp s.vars (s.fn H (ds ++ [])).vars [] := by
      intro sp; rw [hds, hfn, hvars]; exact rfl
    refine ⟨ds, [], p ++ [], [], p, [], hW', hres _ _ _, hargs _ (fun x hx => by simpa using hlt x (by simp [hx])), hgone _, ?_, fun _ => ⟨?_, _, _, ([] ++ p) ++ [], ⟨[] ++ p, [], trodAll_append (hargs _ (fun _ _ => rfl)) (hres _ _ _), hgone _, rfl, ?_, ?_⟩, ?_⟩⟩
    · refine ⟨hfr.os, hfr.output, fun i hi => ?_⟩
      rw [hold i hi]
      cases hh : W.heap[i]? with
      | none => trivial
      | some o => cases o <;> simp
    · intro j t r hj hr
      rw [hrt] at hj hr
      cases j with
      | zero =>
        simp only [List.size_toArray, List.length_cons, List.length_nil] at hj hr
        simp at hj; subst hj
        have : r = .bool true := by simpa [Value.resultList] using hr.symm
        subst this
        simp [Value.okWide, hb, Cell.okWide, Cell.ok]
      | succ j => simp at hj
    · intro b off hp
      have hm : MemPlace.cell b off ∈ p ++ [] := by simpa using hp
      have hbl := hold b (hlt _ hm)
      unfold World.frozen?
      simp only
      rw [hbl]
      exact hfz b off hm
    · intro h; cases h
    · intro x hx _
      simpa using hx
  | panicked c => exact hr.elim
  | outgrown => exact hr.elim
end
end Go.Sx

