import Derived.WalkKit
import Derived.WalkSpells
import Derived.WalkLawsBesides
import Derived.OwnWalkIn
import Derived.OrdersIn
import Derived.RangeFuncCalls
/- The abstract values and states of the verification conditions: what a Go value reads as, which blocks are owned, and what a call leaves. -/
namespace Go.Sx
open Go Go.RowKit

/-- Frozen data, cell by cell: 'sl k n f' is a slice of n elements of k cells each. -/
inductive FV where
  | any
  | lit (v : Value)
  | int (k : IntKind) (n : Int)
  | bool (b : Bool)
  | sl (k n : Nat) (f : Nat → Nat → FV)

/-- One cell's value: frozen data, or a pointer into an owned block, a slice of the function's own, a closure, a map. -/
inductive CV where
  | f (x : FV)
  | ptr (id off : Nat)
  | rptr (id k i off : Nat)
  | fptr (m : Nat) (g : Nat → FV)
  | own (id : Nat)
  | fn (f : FuncId) (first : List (List FV)) (caps : List Nat)
  | mp (id : Nat)

inductive SV where
  | c (x : CV)
  | agg (l : List CV)

inductive AV where
  | any
  | s (v : SV)
  | tup (l : List SV)

/-- What an owned block holds. -/
inductive Blk where
  | cells (ty : TypeId) (cs : List CV)
  | arr (ty : TypeId) (k n : Nat) (f : Nat → Nat → FV)
  | row (ty : TypeId) (k n : Nat) (f : Nat → Nat → FV)
  | obj (o : Obj)
  | pin (g : Nat) (o : Obj)
  | mapb (agg : Bool) (D : List (List Int × List FV))

structure Env where
  b : Nat → Nat
  v : Nat → Value

inductive RepF (w : World) (Z : Nat → Prop) : Value → FV → Prop
  | any (v : Value) : RepF w Z v .any
  | lit (v : Value) : RepF w Z v (.lit v)
  | int (k : IntKind) (n : Int) : RepF w Z (.int k n) (.int k n)
  | bool (b : Bool) : RepF w Z (.bool b) (.bool b)
  | nil (A : Option Addr) (c k : Nat) (f : Nat → Nat → FV) (hc : c ≤ maxLen) : RepF w Z (.slice A 0 c) (.sl k 0 f)
  | sl (a : Addr) (n c k : Nat) (f : Nat → Nat → FV) (u : Nat → Nat → Value) (hn : 0 < n) (hc : n ≤ c) (hm : c ≤ maxLen) (hs : a.spot = none) (hz : Z a.block)
      (hu : ∀ i j, i < n → j < k → w.cell? (a.add (i * k + j)) = some (u i j)) (h1 : ∀ i j, i < n → j < k → (u i j).oneCell' = true) (hr : ∀ i j, i < n → j < k → RepF w Z (u i j) (f i j)) : RepF w Z (.slice (some a) n c) (.sl k n f)

/-- Blocks of Z are as they were. -/
def KeepZ (Z : Nat → Prop) (w w' : World) : Prop := ∀ b, Z b → w'.heap[b]? = w.heap[b]?

theorem cell_of_heap {w w' : World} {a : Addr} (h : w'.heap[a.block]? = w.heap[a.block]?) : w'.cell? a = w.cell? a := by unfold World.cell?; rw [h]

theorem add_block (a : Addr) (n : Nat) : (a.add n).block = a.block := by unfold Addr.add; split <;> rfl
theorem add_spot {a : Addr} (h : a.spot = none) (n : Nat) : (a.add n).spot = none := by unfold Addr.add; split <;> simp [h]
theorem add_add (a : Addr) (i j : Nat) : (a.add i).add j = a.add (i + j) := by
  unfold Addr.add
  by_cases hi : i = 0 <;> by_cases hj : j = 0 <;> simp [hi, hj, Nat.add_assoc]
theorem add_mk (b off n : Nat) : (⟨b, off, none⟩ : Addr).add n = ⟨b, off + n, none⟩ := by
  unfold Addr.add; split
  · rename_i h; subst h; rfl
  · rfl

theorem RepF.mono {w w' : World} {Z Z' : Nat → Prop} (hk : KeepZ Z w w') (hz : ∀ b, Z b → Z' b) {v : Value} {x : FV} (h : RepF w Z v x) : RepF w' Z' v x := by
  induction h with
  | any v => exact .any v
  | lit v => exact .lit v
  | int k n => exact .int k n
  | bool b => exact .bool b
  | nil A c k f hc => exact .nil A c k f hc
  | sl a n c k f u hn hc hm hs hzb hu h1 hr ih =>
    refine .sl a n c k f u hn hc hm hs (hz _ hzb) (fun i j hi hj => (cell_of_heap (w := w) (w' := w') (by rw [add_block]; exact hk _ hzb)).trans (hu i j hi hj)) h1 ih

/-- Lists of values, one by one. -/
inductive All2 {α β : Type} (R : α → β → Prop) : List α → List β → Prop
  | nil : All2 R [] []
  | cons {a : α} {b : β} {l : List α} {m : List β} (h : R a b) (t : All2 R l m) : All2 R (a :: l) (b :: m)

theorem All2.imp {α β : Type} {R R' : α → β → Prop} (h : ∀ a b, R a b → R' a b) : ∀ {l : List α} {m : List β}, All2 R l m → All2 R' l m
  | _, _, .nil => .nil
  | _, _, .cons x t => .cons (h _ _ x) (t.imp h)
theorem All2.length {α β : Type} {R : α → β → Prop} : ∀ {l : List α} {m : List β}, All2 R l m → l.length = m.length
  | _, _, .nil => rfl
  | _, _, .cons _ t => by simp [t.length]
theorem All2.get {α β : Type} {R : α → β → Prop} : ∀ {l : List α} {m : List β}, All2 R l m → ∀ (i : Nat) (y : β), m[i]? = some y → ∃ x, l[i]? = some x ∧ R x y
  | _, _, .nil, i, y, h => by simp at h
  | _, _, .cons hx t, 0, y, h => by simp at h; subst h; exact ⟨_, rfl, hx⟩
  | _, _, .cons hx t, i + 1, y, h => by simpa using t.get i y (by simpa using h)
theorem All2.of_get {α β : Type} {R : α → β → Prop} : ∀ {l : List α} {m : List β}, l.length = m.length → (∀ (i : Nat) (x : α) (y : β), l[i]? = some x → m[i]? = some y → R x y) → All2 R l m
  | [], [], _, _ => .nil
  | a :: l, b :: m, hl, h => .cons (h 0 a b rfl rfl) (All2.of_get (by simpa using hl) (fun i x y hx hy => h (i + 1) x y (by simpa using hx) (by simpa using hy)))
theorem All2.take {α β : Type} {R : α → β → Prop} : ∀ {l : List α} {m : List β} (n : Nat), All2 R l m → All2 R (l.take n) (m.take n)
  | _, _, 0, _ => by simpa using .nil
  | _, _, n + 1, .nil => by simpa using .nil
  | _, _, n + 1, .cons h t => by simpa using .cons h (t.take n)
theorem All2.drop {α β : Type} {R : α → β → Prop} : ∀ {l : List α} {m : List β} (n : Nat), All2 R l m → All2 R (l.drop n) (m.drop n)
  | _, _, 0, h => by simpa using h
  | _, _, n + 1, .nil => by simpa using .nil
  | _, _, n + 1, .cons h t => by simpa using t.drop n
theorem All2.append {α β : Type} {R : α → β → Prop} : ∀ {l : List α} {m : List β} {l' : List α} {m' : List β}, All2 R l m → All2 R l' m' → All2 R (l ++ l') (m ++ m')
  | _, _, _, _, .nil, h => by simpa using h
  | _, _, _, _, .cons x t, h => by simpa using .cons x (t.append h)
theorem All2.map_right {α β γ : Type} {R : α → β → Prop} {g : γ → β} : ∀ {l : List α} {m : List γ}, All2 (fun a c => R a (g c)) l m → All2 R l (m.map g)
  | _, _, .nil => .nil
  | _, _, .cons x t => .cons x t.map_right
theorem All2.of_map_right {α β γ : Type} {R : α → β → Prop} {g : γ → β} : ∀ {l : List α} {m : List γ}, All2 R l (m.map g) → All2 (fun a c => R a (g c)) l m
  | [], [], .nil => .nil
  | _ :: _, _ :: _, .cons x t => .cons x (All2.of_map_right t)

/-- A frozen struct's cells: '.agg' of values that read so. -/
def RepFs (w : World) (Z : Nat → Prop) (v : Value) (l : List FV) : Prop := ∃ cs : Array Value, v = .agg cs ∧ All2 (RepF w Z) cs.toList l ∧ ∀ u ∈ cs.toList, u.oneCell' = true

def RepC (w : World) (e : Env) (Z L : Nat → Prop) : Value → CV → Prop
  | v, .f x => RepF w Z v x
  | v, .ptr id off => L id ∧ v = .pointer (some ⟨e.b id, off, none⟩)
  | v, .rptr id k i off => L id ∧ v = .pointer (some ⟨e.b id, i * k + off, none⟩)
  | v, .fptr m g => ∃ (a : Addr) (u : Nat → Value), v = .pointer (some a) ∧ a.spot = none ∧ Z a.block ∧ (∀ j, j < m → w.cell? (a.add j) = some (u j)) ∧ (∀ j, j < m → (u j).oneCell' = true) ∧ ∀ j, j < m → RepF w Z (u j) (g j)
  | v, .own id => L id ∧ v = e.v id
  | v, .fn f first caps => ∃ (fs : List Value), v = .func (.func f) fs.toArray (caps.map fun id => Value.pointer (some ⟨e.b id, 0, none⟩)).toArray ∧ All2 (RepFs w Z) fs first ∧ ∀ id ∈ caps, L id
  | v, .mp id => L id ∧ v = .map (some (e.b id))

def RepS (w : World) (e : Env) (Z L : Nat → Prop) : Value → SV → Prop
  | v, .c x => RepC w e Z L v x ∧ v.oneCell' = true
  | v, .agg l => ∃ cs : Array Value, v = .agg cs ∧ All2 (RepC w e Z L) cs.toList l ∧ ∀ u ∈ cs.toList, u.oneCell' = true

def RepA (w : World) (e : Env) (Z L : Nat → Prop) : Value → AV → Prop
  | _, .any => True
  | v, .s x => RepS w e Z L v x
  | v, .tup l => ∃ vs : Array Value, v = .tuple vs ∧ All2 (RepS w e Z L) vs.toList l

/-- The environments agree on what L names. -/
def AgreeL (L : Nat → Prop) (e e' : Env) : Prop := ∀ id, L id → e'.b id = e.b id ∧ e'.v id = e.v id

theorem map_agree {L : Nat → Prop} {e e' : Env} (hg : AgreeL L e e') (caps : List Nat) (hc : ∀ id ∈ caps, L id) :
    (caps.map fun id => Value.pointer (some ⟨e'.b id, 0, none⟩)) = caps.map fun id => Value.pointer (some ⟨e.b id, 0, none⟩) :=
  List.map_congr_left fun id h => by rw [(hg id (hc id h)).1]

theorem RepC.mono {w w' : World} {e e' : Env} {Z Z' L L' : Nat → Prop} (hk : KeepZ Z w w') (hz : ∀ b, Z b → Z' b) (hl : ∀ id, L id → L' id) (hg : AgreeL L e e') {v : Value} {x : CV}
    (h : RepC w e Z L v x) : RepC w' e' Z' L' v x := by
  cases x with
  | f x => exact RepF.mono hk hz h
  | ptr id off => exact ⟨hl _ h.1, by rw [h.2, (hg id h.1).1]⟩
  | rptr id k i off => exact ⟨hl _ h.1, by rw [h.2, (hg id h.1).1]⟩
  | fptr m g =>
    obtain ⟨a, u, hv, hs, hzb, hc, h1, hr⟩ := h
    refine ⟨a, u, hv, hs, hz _ hzb, fun j hj => (cell_of_heap (w := w) (w' := w') (by rw [add_block]; exact hk _ hzb)).trans (hc j hj), h1, fun j hj => (hr j hj).mono hk hz⟩
  | own id => exact ⟨hl _ h.1, by rw [h.2, (hg id h.1).2]⟩
  | fn f first caps =>
    obtain ⟨fs, hv, hf, hc⟩ := h
    refine ⟨fs, by rw [hv, map_agree hg caps hc], hf.imp fun a b ⟨cs, h1, h2, h4⟩ => ⟨cs, h1, h2.imp fun _ _ h3 => h3.mono hk hz, h4⟩, fun id hid => hl _ (hc id hid)⟩
  | mp id => exact ⟨hl _ h.1, by rw [h.2, (hg id h.1).1]⟩

theorem RepS.mono {w w' : World} {e e' : Env} {Z Z' L L' : Nat → Prop} (hk : KeepZ Z w w') (hz : ∀ b, Z b → Z' b) (hl : ∀ id, L id → L' id) (hg : AgreeL L e e') {v : Value} {x : SV}
    (h : RepS w e Z L v x) : RepS w' e' Z' L' v x := by
  cases x with
  | c x => exact ⟨RepC.mono hk hz hl hg h.1, h.2⟩
  | agg l => obtain ⟨cs, hv, hc, h1⟩ := h; exact ⟨cs, hv, hc.imp fun _ _ h => RepC.mono hk hz hl hg h, h1⟩

theorem RepA.mono {w w' : World} {e e' : Env} {Z Z' L L' : Nat → Prop} (hk : KeepZ Z w w') (hz : ∀ b, Z b → Z' b) (hl : ∀ id, L id → L' id) (hg : AgreeL L e e') {v : Value} {x : AV}
    (h : RepA w e Z L v x) : RepA w' e' Z' L' v x := by
  cases x with
  | any => trivial
  | s x => exact RepS.mono hk hz hl hg h
  | tup l => obtain ⟨cs, hv, hc⟩ := h; exact ⟨cs, hv, hc.imp fun _ _ h => RepS.mono hk hz hl hg h⟩

/-- The block that an owned id stands for, if it has one. -/
def Foot (e : Env) (id : Nat) : Blk → Option Nat
  | .row .. => (e.v id).ownBlock
  | _ => some (e.b id)

/-- A map's keys here are structs of integers. -/
def keyVal (k : List Int) : Value := .agg (k.map (Value.int .i64)).toArray

def EntryOk (w : World) (Z : Nat → Prop) (agg : Bool) (m : MapEntry) (d : List Int × List FV) : Prop :=
  m.key = keyVal d.1 ∧ if agg then RepFs w Z m.val d.2 else ∃ x, d.2 = [x] ∧ RepF w Z m.val x ∧ m.val.oneCell' = true

def BlkOk (w : World) (e : Env) (Z L : Nat → Prop) (id : Nat) : Blk → Prop
  | .cells ty cs => ∃ arr : Array Value, w.heap[e.b id]? = some (.cells arr ty (0, 0)) ∧ All2 (RepC w e Z L) arr.toList cs ∧ ∀ u ∈ arr.toList, u.oneCell' = true
  | .arr ty k n f => ∃ arr : Array Value, w.heap[e.b id]? = some (.cells arr ty (0, 0)) ∧ arr.size = n * k ∧ (∀ i j, i < n → j < k → ∃ u, arr[i * k + j]? = some u ∧ RepF w Z u (f i j)) ∧ ∀ u ∈ arr.toList, u.oneCell' = true
  | .row ty k n f => ∃ xs : List Value, w.ownsRow 0 ty k (e.v id) n xs ∧ (∀ g, (e.v id).ownBlock = some g → e.b id = g) ∧ (∀ i j, i < n → j < k → ∃ u, xs[i * k + j]? = some u ∧ RepF w Z u (f i j)) ∧ ∀ u ∈ xs, u.oneCell' = true
  | .obj o => w.heap[e.b id]? = some o
  | .pin g o => e.b id = g ∧ w.heap[e.b id]? = some o
  | .mapb agg D => ∃ (es : Array MapEntry) (clock : Nat), w.heap[e.b id]? = some (.map es clock) ∧ All2 (EntryOk w Z agg) es.toList D ∧ (D.map (·.1)).Nodup ∧ (es.toList.map (·.born)).Nodup ∧ ∀ m ∈ es.toList, m.born < clock

structure SatM (w : World) (e : Env) (Z L : Nat → Prop) (mem : Nat → Option Blk) : Prop where
  lim : ∀ id b, mem id = some b → L id
  ok : ∀ id b, mem id = some b → BlkOk w e Z L id b
  apart : ∀ id id' b b' g, id ≠ id' → mem id = some b → mem id' = some b' → Foot e id b = some g → Foot e id' b' ≠ some g
  clear : ∀ id b g, mem id = some b → Foot e id b = some g → ¬ Z g
  zlt : ∀ g, Z g → g < w.heap.size

/-- The blocks that owned ids stand for. -/
def Feet (e : Env) (mem : Nat → Option Blk) (g : Nat) : Prop := ∃ id b, mem id = some b ∧ Foot e id b = some g

theorem BlkOk.foot_lt {w : World} {e : Env} {Z L : Nat → Prop} {id : Nat} {b : Blk} (h : BlkOk w e Z L id b) {g : Nat} (hg : Foot e id b = some g) : g < w.heap.size := by
  cases b with
  | cells ty cs =>
    obtain ⟨arr, h1, _⟩ := h
    simp only [Foot, Option.some.injEq] at hg; subst hg
    exact (Array.getElem?_eq_some_iff.1 h1).1
  | arr ty k n f =>
    obtain ⟨arr, h1, _⟩ := h
    simp only [Foot, Option.some.injEq] at hg; subst hg
    exact (Array.getElem?_eq_some_iff.1 h1).1
  | row ty k n f =>
    obtain ⟨xs, h1, _⟩ := h
    exact (h1.lt g hg).2
  | obj o =>
    simp only [Foot, Option.some.injEq] at hg; subst hg
    exact (Array.getElem?_eq_some_iff.1 h).1
  | pin g o =>
    simp only [Foot, Option.some.injEq] at hg; subst hg
    exact (Array.getElem?_eq_some_iff.1 h.2).1
  | mapb agg D =>
    obtain ⟨es, clock, h1, _⟩ := h
    simp only [Foot, Option.some.injEq] at hg; subst hg
    exact (Array.getElem?_eq_some_iff.1 h1).1

/-- A block's reading abides if its own block and the frozen ones do, whatever else turns. -/
theorem BlkOk.mono {w w' : World} {e e' : Env} {Z Z' L L' : Nat → Prop} {id : Nat} {b : Blk} (hk : KeepZ Z w w') (hz : ∀ b, Z b → Z' b) (hl : ∀ id, L id → L' id) (hg : AgreeL L e e')
    (hid : e'.b id = e.b id ∧ e'.v id = e.v id) (hfoot : ∀ g, Foot e id b = some g → w'.heap[g]? = w.heap[g]?) (h : BlkOk w e Z L id b) : BlkOk w' e' Z' L' id b := by
  cases b with
  | cells ty cs =>
    obtain ⟨arr, h1, h2, h3⟩ := h
    exact ⟨arr, by rw [hid.1, hfoot _ rfl]; exact h1, h2.imp fun _ _ h => RepC.mono hk hz hl hg h, h3⟩
  | arr ty k n f =>
    obtain ⟨arr, h1, h2, h3, h4⟩ := h
    exact ⟨arr, by rw [hid.1, hfoot _ rfl]; exact h1, h2, fun i j hi hj => let ⟨u, hu, hr⟩ := h3 i j hi hj; ⟨u, hu, hr.mono hk hz⟩, h4⟩
  | row ty k n f =>
    obtain ⟨xs, h1, h2, h3, h4⟩ := h
    refine ⟨xs, ?_, by rw [hid.1, hid.2]; exact h2, fun i j hi hj => let ⟨u, hu, hr⟩ := h3 i j hi hj; ⟨u, hu, hr.mono hk hz⟩, h4⟩
    rw [hid.2]
    obtain ⟨hl1, h5⟩ := h1
    refine ⟨hl1, ?_⟩
    rcases h5 with h5 | ⟨g, cap, cur, hv, hb, hh, rest⟩
    · exact .inl h5
    · refine .inr ⟨g, cap, cur, hv, hb, ?_, rest⟩
      rw [hfoot g (by simp [Foot, hv, Value.ownBlock])]
      exact hh
  | obj o => show w'.heap[e'.b id]? = some o; rw [hid.1, hfoot _ rfl]; exact h
  | pin g o => exact ⟨by rw [hid.1]; exact h.1, by rw [hid.1, hfoot _ rfl]; exact h.2⟩
  | mapb agg D =>
    obtain ⟨es, clock, h1, h2, h3⟩ := h
    refine ⟨es, clock, by rw [hid.1, hfoot _ rfl]; exact h1, h2.imp fun m d h => ⟨h.1, ?_⟩, h3⟩
    have h := h.2
    cases agg with
    | true => simp only [if_true] at h ⊢; obtain ⟨cs, h1, h2, h4⟩ := h; exact ⟨cs, h1, h2.imp fun _ _ h3 => h3.mono hk hz, h4⟩
    | false => simp only [Bool.false_eq_true, if_false] at h ⊢; obtain ⟨x, h1, h2, h3⟩ := h; exact ⟨x, h1, h2.mono hk hz, h3⟩

theorem Foot_agree {L : Nat → Prop} {e e' : Env} (hg : AgreeL L e e') {id : Nat} (hid : L id) (b : Blk) : Foot e' id b = Foot e id b := by
  cases b <;> simp [Foot, (hg id hid).1, (hg id hid).2]

/-- The streams abide, no block goes, and of the old blocks only those of X may have turned. -/
structure Fr (w0 w : World) (X : Nat → Prop) : Prop where
  os : w.os = w0.os
  tape : w.tape = w0.tape
  output : w.output = w0.output
  size : w0.heap.size ≤ w.heap.size
  block : ∀ k, k < w0.heap.size → ¬ X k → w.heap[k]? = w0.heap[k]?

theorem Fr.refl (w : World) (X : Nat → Prop) : Fr w w X := ⟨rfl, rfl, rfl, Nat.le_refl _, fun _ _ _ => rfl⟩
theorem Fr.trans {a b c : World} {X Y : Nat → Prop} (h : Fr a b X) (k : Fr b c Y) (hY : ∀ g, Y g → g < a.heap.size → X g) : Fr a c X :=
  ⟨k.os.trans h.os, k.tape.trans h.tape, k.output.trans h.output, Nat.le_trans h.size k.size, fun i hi hx =>
    (k.block i (Nat.lt_of_lt_of_le hi h.size) fun hy => hx (hY i hy hi)).trans (h.block i hi hx)⟩
theorem Fr.below {w w' : World} (h : Fr w w' fun _ => False) : Below w.heap.size w w' := ⟨h.os, h.tape, h.output, h.size, fun k hk => h.block k hk id⟩
theorem Fr.of_below {w w' : World} {X : Nat → Prop} (h : Below w.heap.size w w') : Fr w w' X := ⟨h.os, h.tape, h.output, h.size, fun k hk _ => h.block k hk⟩
theorem Fr.drew {w w' : World} {X : Nat → Prop} (h : Fr w w' X) : Fr w w'.drew X := ⟨h.os, h.tape, h.output, h.size, h.block⟩

end Go.Sx

/- States, single steps, runs of a region in the text's order, and in any order. -/
namespace Go.Sx
open Go Go.RowKit

structure StF where
  slot : Nat → AV
  mem : Nat → Option Blk
  lim : Nat → Prop

theorem StF.ext' {S S' : StF} (h1 : ∀ s, S.slot s = S'.slot s) (h2 : ∀ i, S.mem i = S'.mem i) (h3 : ∀ i, S.lim i ↔ S'.lim i) : S = S' := by
  cases S; cases S'
  simp only [StF.mk.injEq]
  exact ⟨funext h1, funext h2, funext fun i => propext (h3 i)⟩

structure TI where
  desc : TypeDesc
  size : Nat
  agg : Bool
  bytes : Nat
  zero : List FV
  zv : Value

def isAggD : TypeDesc → Bool
  | .struct _ => true
  | .array _ _ => true
  | _ => false

def FV.valOf : FV → Value
  | .lit v => v
  | .int k n => .int k n
  | .bool b => .bool b
  | _ => undef

structure TIOk (P : Program) (t : TypeId) (ti : TI) : Prop where
  und : P.underlying t = some ti.desc
  info : ∃ i, P.info? t = some i ∧ i.size = ti.size ∧ i.zero = some ti.zv ∧ i.bytes = ti.bytes
  agg : ti.agg = isAggD ti.desc
  zv : ti.zv.cells = (ti.zero.map FV.valOf).toArray
  zok : ti.zero.all (fun x => match x with | .any => false | .sl .. => false | _ => true) = true
  zone : ∀ u ∈ ti.zero.map FV.valOf, u.oneCell' = true
  len : ti.zero.length = ti.size
  one : ti.agg = false → ti.size = 1
  zagg : ti.agg = true → ∃ cs, ti.zv = .agg cs
  znag : ti.agg = false → ti.zv.oneCell' = true

abbrev Tab := TypeId → Option TI
def TabOk (P : Program) (T : Tab) : Prop := ∀ t ti, T t = some ti → TIOk P t ti

structure Ctx where
  P : Program
  T : Tab
  hT : TabOk P T
  w0 : World
  e0 : Env
  Z0 : Nat → Prop
  L0 : Nat → Prop
  X : Nat → Prop
  nt : Nat
  F : Fence
  n : Nat
  hW : F = Fence.wide ∨ ∃ l, F = Fence.wide.inRound l
  hm : P.follows .mixedOrders = true
  hX : ∀ g, Z0 g → ¬ X g

theorem Ctx.hF (C : Ctx) (f : FuncId) : C.F.fn f := by
  rcases C.hW with h | ⟨l, h⟩ <;> rw [h] <;> trivial

/-- The deferred calls are marks of ranges over functions alone, whose rounds deferred nothing. -/
def DfsOk (w0 w : World) (e : Env) (Z : Nat → Prop) (mem : Nat → Option Blk) (l : List Deferred) : Prop :=
  l.Nodup ∧ ∀ d ∈ l, ∃ D, d = { target := .collected D, args := #[] } ∧ w.heap[D]? = some (.deferred (some [])) ∧ w0.heap.size ≤ D ∧ ¬ Z D ∧ ∀ id b, mem id = some b → Foot e id b ≠ some D

structure Sat (C : Ctx) (S : StF) (a : Act) (w : World) (e : Env) (Z : Nat → Prop) : Prop where
  m : SatM w e Z S.lim S.mem
  sl : ∀ s, RepA w e Z S.lim (a.tmps.getD s undef) (S.slot s)
  nt : a.tmps.size = C.nt
  dfs : DfsOk C.w0 w e Z S.mem a.defers
  fr : Fr C.w0 w C.X
  ag : AgreeL C.L0 C.e0 e
  l0 : ∀ id, C.L0 id → S.lim id
  z0 : ∀ b, C.Z0 b → Z b
  z1 : ∀ b, Z b → C.Z0 b ∨ C.w0.heap.size ≤ b ∨ C.X b
  ft : ∀ g, Feet e S.mem g → C.w0.heap.size ≤ g ∨ C.X g

def Sats (C : Ctx) (S : StF) (a : Act) (w : World) : Prop := ∃ e Z, Sat C S a w e Z

theorem Sats.drew {C : Ctx} {S : StF} {a : Act} {w : World} (h : Sats C S a w) : Sats C S a w.drew := by
  obtain ⟨e, Z, h⟩ := h
  have hk : KeepZ Z w w.drew := fun _ _ => rfl
  have hg : AgreeL S.lim e e := fun _ _ => ⟨rfl, rfl⟩
  exact ⟨e, Z, ⟨h.m.lim, fun id b hb => (h.m.ok id b hb).mono hk (fun _ h => h) (fun _ h => h) hg ⟨rfl, rfl⟩ (fun _ _ => rfl), h.m.apart, h.m.clear, h.m.zlt⟩,
    fun s => RepA.mono hk (fun _ h => h) (fun _ h => h) hg (h.sl s), h.nt, h.dfs, h.fr.drew, h.ag, h.l0, h.z0, h.z1, h.ft⟩

/-- What one operation does: the ids that it reads, those that it writes or makes, its value, what the ids then hold. -/
structure StepD where
  R : List Nat
  W : List Nat
  av : AV
  upd : Nat → Option Blk

def StF.step (S : StF) (dst : Option Tmp) (d : StepD) : StF where
  slot s := if dst = some s then d.av else S.slot s
  mem id := if id ∈ d.W then d.upd id else S.mem id
  lim id := S.lim id ∨ id ∈ d.W

def OpGoal (C : Ctx) (ops : Array Oper) (o : Oper) (a : Act) (w : World) (K : Act → World → Prop) (Q : Exit → Act → World → Prop) : Prop :=
  if Region.wanted o (yielded ops a.tmps) then o.wpIn C.F C.n C.P a w K Q else (∀ f, o.about C.P w a.eval = some f → C.F.fn f) ∧ K (a.put o.dst undef) w

def LS (C : Ctx) (ops : Array Oper) (o : Oper) (S : StF) (d : StepD) : Prop :=
  ∀ S' : StF, (∀ s ∈ o.looksAt ops, S'.slot s = S.slot s) → (∀ id, id ∈ d.R ∨ id ∈ d.W → S'.mem id = S.mem id ∧ (S'.lim id ↔ S.lim id)) →
    ∀ a w K Q, Sats C S' a w → (∀ a' w', Sats C (S'.step o.dst d) a' w' → K a' w') → OpGoal C ops o a w K Q

inductive Run (C : Ctx) (ops : Array Oper) : List Oper → StF → List StepD → StF → Prop
  | nil (S : StF) : Run C ops [] S [] S
  | cons {o : Oper} {l : List Oper} {S S' : StF} {d : StepD} {ds : List StepD} (h : LS C ops o S d) (t : Run C ops l (S.step o.dst d) ds S') : Run C ops (o :: l) S (d :: ds) S'

theorem run_seq {C : Ctx} {ops : Array Oper} {Q : Exit → Act → World → Prop} {l : List Oper} {S S' : StF} {ds : List StepD} (h : Run C ops l S ds S') :
    ∀ a w, Sats C S a w → (∀ a' w', Sats C S' a' w' → Q .normal a' w') → wpListIn C.F C.n C.P ops Q l a w := by
  induction h with
  | nil S => exact fun a w hs hq => wpListIn_nil (hq a w hs)
  | cons h t ih =>
    intro a w hs hq
    exact h _ (fun _ _ => rfl) (fun _ _ => ⟨rfl, Iff.rfl⟩) a w _ Q hs fun a' w' hs' => ih a' w' hs' hq

/-! ### Any order -/

/-- The state when just the operations of D have been carried out. -/
def part (D : Nat → Bool) : Nat → List Oper → List StepD → StF → StF
  | i, o :: os, d :: ds, S => part D (i + 1) os ds (if D i then S.step o.dst d else S)
  | _, _, _, S => S

theorem Run.len {C : Ctx} {ops : Array Oper} {l : List Oper} {S S' : StF} {ds : List StepD} (h : Run C ops l S ds S') : l.length = ds.length := by
  induction h with
  | nil S => rfl
  | cons h t ih => simp [ih]

theorem Run.part_all {C : Ctx} {ops : Array Oper} {l : List Oper} {S S' : StF} {ds : List StepD} (h : Run C ops l S ds S') :
    ∀ (i : Nat) (D : Nat → Bool), (∀ j, i ≤ j → j < i + l.length → D j = true) → part D i l ds S = S' := by
  induction h with
  | nil S => intro i D _; rfl
  | cons h t ih =>
    intro i D hD
    simp only [part]
    rw [if_pos (hD i (Nat.le_refl _) (by simp))]
    exact ih (i + 1) D fun j h1 h2 => hD j (by omega) (by simp; omega)

/-- The single step at place i, from the state of the text. -/
theorem Run.at_ {C : Ctx} {ops : Array Oper} {l : List Oper} {S S' : StF} {ds : List StepD} (h : Run C ops l S ds S') :
    ∀ (b i : Nat) (o : Oper) (d : StepD), l[i]? = some o → ds[i]? = some d → LS C ops o (part (fun j => decide (j < b + i)) b l ds S) d := by
  induction h with
  | nil S => intro b i o d h; simp at h
  | @cons o' l S S' d' ds h t ih =>
    intro b i o d ho hd
    cases i with
    | zero =>
      simp only [List.getElem?_cons_zero, Option.some.injEq] at ho hd
      subst ho; subst hd
      have : ∀ (b' : Nat) (l : List Oper) (ds : List StepD) (S : StF), b < b' → part (fun j => decide (j < b + 0)) b' l ds S = S := by
        intro b' l
        induction l generalizing b' with
        | nil => intros; rfl
        | cons o l ih2 =>
          intro ds S hb
          cases ds with
          | nil => rfl
          | cons d ds =>
            simp only [part]
            rw [if_neg (by simp; omega)]
            exact ih2 (b' + 1) ds S (by omega)
      simp only [part]
      rw [if_neg (by simp), this (b + 1) _ _ _ (by omega)]
      exact h
    | succ i =>
      simp only [List.getElem?_cons_succ] at ho hd
      have := ih (b + 1) i o d ho hd
      simp only [part]
      rw [if_pos (by simp)]
      rw [show b + (i + 1) = b + 1 + i by omega]
      exact this

/-- The state at a slot, or at an id, hangs on the operations that write it alone. -/
theorem part_slot_congr (s : Nat) (D D' : Nat → Bool) : ∀ (l : List Oper) (ds : List StepD) (i : Nat) (S S' : StF), S.slot s = S'.slot s →
    (∀ j o, l[j]? = some o → o.dst = some s → D (i + j) = D' (i + j)) → (part D i l ds S).slot s = (part D' i l ds S').slot s := by
  intro l
  induction l with
  | nil => intro ds i S S' h _; cases ds <;> exact h
  | cons o l ih =>
    intro ds i S S' h hD
    cases ds with
    | nil => exact h
    | cons d ds =>
      simp only [part]
      refine ih ds (i + 1) _ _ ?_ fun j o' hj ho => by have := hD (j + 1) o' (by simpa using hj) ho; rwa [show i + (j + 1) = i + 1 + j by omega] at this
      by_cases hs : o.dst = some s
      · have := hD 0 o rfl hs
        simp only [Nat.add_zero] at this
        rw [this]
        cases D' i <;> simp [StF.step, hs, h]
      · cases D i <;> cases D' i <;> simp [StF.step, hs, h]

theorem part_mem_congr (id : Nat) (D D' : Nat → Bool) : ∀ (l : List Oper) (ds : List StepD) (i : Nat) (S S' : StF), S.mem id = S'.mem id →
    (∀ j d, ds[j]? = some d → id ∈ d.W → D (i + j) = D' (i + j)) → (part D i l ds S).mem id = (part D' i l ds S').mem id := by
  intro l
  induction l with
  | nil => intro ds i S S' h _; cases ds <;> exact h
  | cons o l ih =>
    intro ds i S S' h hD
    cases ds with
    | nil => exact h
    | cons d ds =>
      simp only [part]
      refine ih ds (i + 1) _ _ ?_ fun j o' hj ho => by have := hD (j + 1) o' (by simpa using hj) ho; rwa [show i + (j + 1) = i + 1 + j by omega] at this
      by_cases hs : id ∈ d.W
      · have := hD 0 d rfl hs
        simp only [Nat.add_zero] at this
        rw [this]
        cases D' i <;> simp [StF.step, hs, h]
      · cases D i <;> cases D' i <;> simp [StF.step, hs, h]

theorem part_lim (id : Nat) (D : Nat → Bool) : ∀ (l : List Oper) (ds : List StepD) (i : Nat) (S : StF), l.length = ds.length →
    ((part D i l ds S).lim id ↔ S.lim id ∨ ∃ j d, ds[j]? = some d ∧ id ∈ d.W ∧ D (i + j) = true) := by
  intro l
  induction l with
  | nil => intro ds i S h; cases ds with | nil => simp [part] | cons d ds => simp at h
  | cons o l ih =>
    intro ds i S h
    cases ds with
    | nil => simp at h
    | cons d ds =>
      simp only [part]
      rw [ih ds (i + 1) _ (by simpa using h)]
      constructor
      · rintro (h1 | ⟨j, d', hj, hw, hd⟩)
        · cases hi : D i with
          | false => rw [hi] at h1; exact .inl (by simpa using h1)
          | true =>
            rw [hi] at h1
            simp only [if_true, StF.step] at h1
            rcases h1 with h1 | h1
            · exact .inl h1
            · exact .inr ⟨0, d, rfl, h1, by simpa using hi⟩
        · exact .inr ⟨j + 1, d', by simpa using hj, hw, by rw [show i + (j + 1) = i + 1 + j by omega]; exact hd⟩
      · rintro (h1 | ⟨j, d', hj, hw, hd⟩)
        · left; cases D i <;> simp [StF.step, h1]
        · cases j with
          | zero =>
            simp only [List.getElem?_cons_zero, Option.some.injEq] at hj
            subst hj
            left
            simp only [Nat.add_zero] at hd
            rw [hd]; simp [StF.step, hw]
          | succ j => exact .inr ⟨j, d', by simpa using hj, hw, by rw [show i + 1 + j = i + (j + 1) by omega]; exact hd⟩

/-- Where i is the last one of D that writes slot s, s holds i's value. -/
theorem part_slot_last (s : Nat) (D : Nat → Bool) : ∀ (l : List Oper) (ds : List StepD) (b i : Nat) (S : StF) (o : Oper) (d : StepD), l[i]? = some o → ds[i]? = some d → o.dst = some s → D (b + i) = true →
    (∀ j o', l[j]? = some o' → o'.dst = some s → i < j → D (b + j) = false) → (part D b l ds S).slot s = d.av := by
  intro l
  induction l with
  | nil => intro ds b i S o d h; simp at h
  | cons o' l ih =>
    intro ds b i S o d ho hd hs hD hl
    cases ds with
    | nil => simp at hd
    | cons d' ds =>
      simp only [part]
      cases i with
      | zero =>
        simp only [List.getElem?_cons_zero, Option.some.injEq] at ho hd
        subst ho; subst hd
        simp only [Nat.add_zero] at hD
        rw [hD]
        have := part_slot_congr s D (fun _ => false) l ds (b + 1) (if true = true then S.step o'.dst d' else S) (S.step o'.dst d') rfl
          (fun j o2 hj h2 => by rw [show b + 1 + j = b + (j + 1) by omega]; exact hl (j + 1) o2 (by simpa using hj) h2 (by omega))
        rw [this]
        have hf : ∀ (l : List Oper) (ds : List StepD) (b : Nat) (S : StF), part (fun _ => false) b l ds S = S := by
          intro l
          induction l with
          | nil => intro ds b S; cases ds <;> rfl
          | cons o l ih2 => intro ds b S; cases ds with | nil => rfl | cons d ds => simp only [part]; exact ih2 _ _ _
        rw [hf]
        simp [StF.step, hs]
      | succ i =>
        refine ih ds (b + 1) i _ o d (by simpa using ho) (by simpa using hd) hs (by rw [show b + 1 + i = b + (i + 1) by omega]; exact hD) fun j o2 hj h2 hlt => ?_
        rw [show b + 1 + j = b + (j + 1) by omega]; exact hl (j + 1) o2 (by simpa using hj) h2 (by omega)

theorem part_mem_last (id : Nat) (D : Nat → Bool) : ∀ (l : List Oper) (ds : List StepD) (b i : Nat) (S : StF) (d : StepD), l.length = ds.length → ds[i]? = some d → id ∈ d.W → D (b + i) = true →
    (∀ j d', ds[j]? = some d' → id ∈ d'.W → i < j → D (b + j) = false) → (part D b l ds S).mem id = d.upd id := by
  intro l
  induction l with
  | nil => intro ds b i S d hlen hd; cases ds with | nil => simp at hd | cons d ds => simp at hlen
  | cons o' l ih =>
    intro ds b i S d hlen hd hs hD hl
    cases ds with
    | nil => simp at hd
    | cons d' ds =>
      simp only [part]
      cases i with
      | zero =>
        simp only [List.getElem?_cons_zero, Option.some.injEq] at hd
        subst hd
        simp only [Nat.add_zero] at hD
        rw [hD]
        have := part_mem_congr id D (fun _ => false) l ds (b + 1) (if true = true then S.step o'.dst d' else S) (S.step o'.dst d') rfl
          (fun j o2 hj h2 => by rw [show b + 1 + j = b + (j + 1) by omega]; exact hl (j + 1) o2 (by simpa using hj) h2 (by omega))
        rw [this]
        have hf : ∀ (l : List Oper) (ds : List StepD) (b : Nat) (S : StF), part (fun _ => false) b l ds S = S := by
          intro l
          induction l with
          | nil => intro ds b S; cases ds <;> rfl
          | cons o l ih2 => intro ds b S; cases ds with | nil => rfl | cons d ds => simp only [part]; exact ih2 _ _ _
        rw [hf]
        simp [StF.step, hs]
      | succ i =>
        refine ih ds (b + 1) i _ d (by simpa using hlen) (by simpa using hd) hs (by rw [show b + 1 + i = b + (i + 1) by omega]; exact hD) fun j o2 hj h2 hlt => ?_
        rw [show b + 1 + j = b + (j + 1) by omega]; exact hl (j + 1) o2 (by simpa using hj) h2 (by omega)

/-! ### Which operations must come before which -/

def maskOf (acc : List Nat) (o : Oper) : Nat := o.after.toList.foldl (fun s e => if Region.binds .any e then s ||| (2 ^ e.on) ||| acc.getD e.on 0 else s) 0
def befs : List Nat → List Oper → List Nat
  | acc, [] => acc
  | acc, o :: r => befs (acc ++ [maskOf acc o]) r

def Closed (ops : List Oper) (D : Nat → Bool) : Prop := ∀ j o, ops[j]? = some o → D j = true → ∀ e ∈ o.after.toList, Region.binds .any e = true → D e.on = true

theorem mask_spec (D : Nat → Bool) (acc : List Nat) (hacc : ∀ k m, acc[k]? = some m → D k = true → ∀ i, m.testBit i = true → D i = true) (es : List Edge) :
    ∀ (s : Nat), (∀ i, s.testBit i = true → D i = true) → (∀ e ∈ es, Region.binds .any e = true → D e.on = true) →
      ∀ i, (es.foldl (fun s e => if Region.binds .any e then s ||| (2 ^ e.on) ||| acc.getD e.on 0 else s) s).testBit i = true → D i = true := by
  induction es with
  | nil => intro s hs _ i h; exact hs i h
  | cons e es ih =>
    intro s hs he
    simp only [List.foldl_cons]
    refine ih _ ?_ fun e' h' => he e' (List.mem_cons_of_mem _ h')
    intro i hi
    by_cases hb : Region.binds .any e = true
    · rw [if_pos hb] at hi
      have hon := he e List.mem_cons_self hb
      simp only [Nat.testBit_or, Bool.or_eq_true, Nat.testBit_two_pow, decide_eq_true_eq] at hi
      rcases hi with (hi | hi) | hi
      · exact hs i hi
      · subst hi; exact hon
      · cases hk : acc[e.on]? with
        | none => simp [List.getD, hk] at hi
        | some m => exact hacc _ m hk hon i (by simpa [List.getD, hk] using hi)
    · rw [if_neg hb] at hi; exact hs i hi

theorem befs_spec (D : Nat → Bool) : ∀ (l : List Oper) (acc : List Nat), (∀ j o, l[j]? = some o → D (acc.length + j) = true → ∀ e ∈ o.after.toList, Region.binds .any e = true → D e.on = true) →
    (∀ k m, acc[k]? = some m → D k = true → ∀ i, m.testBit i = true → D i = true) → ∀ k m, (befs acc l)[k]? = some m → D k = true → ∀ i, m.testBit i = true → D i = true := by
  intro l
  induction l with
  | nil => intro acc _ hacc; exact hacc
  | cons o l ih =>
    intro acc hc hacc
    simp only [befs]
    refine ih _ ?_ ?_
    · intro j o' hj hd
      have := hc (j + 1) o' (by simpa using hj)
      rw [List.length_append, List.length_singleton, show acc.length + 1 + j = acc.length + (j + 1) by omega] at hd
      exact this hd
    · intro k m hk hd
      rw [List.getElem?_append] at hk
      split at hk
      · exact hacc k m hk hd
      · rename_i hlt
        have hk0 : k = acc.length := by
          have := (List.getElem?_eq_some_iff.1 hk).1
          simp at this; omega
        subst hk0
        simp at hk
        subst hk
        exact mask_spec D acc hacc _ 0 (by simp) (fun e he hb => hc 0 o rfl (by simpa using hd) e he hb)

theorem befs_closed {ops : List Oper} {D : Nat → Bool} (hc : Closed ops D) {k m : Nat} (hk : (befs [] ops)[k]? = some m) (hd : D k = true) {i : Nat} (hi : m.testBit i = true) : D i = true :=
  befs_spec D ops [] (fun j o hj hd => hc j o hj (by simpa using hd)) (fun k m h => by simp at h) k m hk hd i hi

/-- i stands ahead of j in whatever order. -/
def ahead (bs : List Nat) (i j : Nat) : Bool := match bs[j]? with | some m => m.testBit i | none => false

structure FP where
  R : List Nat
  W : List Nat

def clash (ops : Array Oper) (x y : Oper) (p q : FP) : Bool :=
  (match x.dst with | some s => (y.looksAt ops).contains s || y.dst == some s | none => false) ||
  (match y.dst with | some s => (x.looksAt ops).contains s | none => false) ||
  p.W.any (fun i => q.R.contains i || q.W.contains i) || q.W.any fun i => p.R.contains i

def drawRow (ops : Array Oper) (bs : List Nat) (x : Oper) (p : FP) (i : Nat) : Nat → List Oper → List FP → Bool
  | j, y :: l, q :: r => (!clash ops x y p q || ahead bs i j) && drawRow ops bs x p i (j + 1) l r
  | _, _, _ => true
def drawGo (ops : Array Oper) (bs : List Nat) : Nat → List Oper → List FP → Bool
  | i, x :: l, p :: r => drawRow ops bs x p i (i + 1) l r && drawGo ops bs (i + 1) l r
  | _, _, _ => true
def drawOk (ops : Array Oper) (fps : List FP) : Bool := drawGo ops (befs [] ops.toList) 0 ops.toList fps

theorem drawRow_spec {ops : Array Oper} {bs : List Nat} {x : Oper} {p : FP} {i : Nat} : ∀ (l : List Oper) (r : List FP) (b : Nat), drawRow ops bs x p i b l r = true → ∀ j y q, l[j]? = some y → r[j]? = some q → clash ops x y p q = true → ahead bs i (b + j) = true := by
  intro l
  induction l with
  | nil => intro r b _ j y q h; simp at h
  | cons y l ih =>
    intro r b h j y' q hy hq hc
    cases r with
    | nil => simp at hq
    | cons q' r =>
      simp only [drawRow, Bool.and_eq_true, Bool.or_eq_true, Bool.not_eq_true'] at h
      cases j with
      | zero =>
        simp only [List.getElem?_cons_zero, Option.some.injEq] at hy hq
        subst hy; subst hq
        rcases h.1 with h1 | h1
        · rw [hc] at h1; cases h1
        · exact h1
      | succ j =>
        have := ih r (b + 1) h.2 j y' q (by simpa using hy) (by simpa using hq) hc
        rwa [show b + 1 + j = b + (j + 1) by omega] at this

theorem drawGo_spec {ops : Array Oper} {bs : List Nat} : ∀ (l : List Oper) (r : List FP) (b : Nat), drawGo ops bs b l r = true → ∀ i j x y p q, i < j → l[i]? = some x → l[j]? = some y → r[i]? = some p → r[j]? = some q →
    clash ops x y p q = true → ahead bs (b + i) (b + j) = true := by
  intro l
  induction l with
  | nil => intro r b _ i j x y p q _ h; simp at h
  | cons x l ih =>
    intro r b h i j x' y p q hij hx hy hp hq hc
    cases r with
    | nil => simp at hp
    | cons p' r =>
      simp only [drawGo, Bool.and_eq_true] at h
      cases j with
      | zero => omega
      | succ j =>
        cases i with
        | zero =>
          simp only [List.getElem?_cons_zero, Option.some.injEq] at hx hp
          subst hx; subst hp
          have := drawRow_spec l r (b + 1) h.1 j y q (by simpa using hy) (by simpa using hq) hc
          rwa [show b + 1 + j = b + (j + 1) by omega] at this
        | succ i =>
          have := ih r (b + 1) h.2 i j x' y p q (by omega) (by simpa using hx) (by simpa using hy) (by simpa using hp) (by simpa using hq) hc
          rwa [show b + 1 + i = b + (i + 1) by omega, show b + 1 + j = b + (j + 1) by omega] at this

def fpOf (d : StepD) : FP := ⟨d.R, d.W⟩

section
variable {C : Ctx} {ops : Array Oper} {S Sn : StF} {ds : List StepD}

/-- One more operation, from the state of D. -/
theorem any_step (hrun : Run C ops ops.toList S ds Sn) (hok : drawOk ops (ds.map fpOf) = true) {D : Nat → Bool} (hcl : Closed ops.toList D) {i : Nat} {o : Oper} (ho : ops.toList[i]? = some o) (hi : D i = false)
    (hready : ∀ e ∈ o.after.toList, Region.binds .any e = true → D e.on = true) {a : Act} {w : World} {K : Act → World → Prop} {Q : Exit → Act → World → Prop} (hs : Sats C (part D 0 ops.toList ds S) a w)
    (hK : ∀ a' w', Sats C (part (fun j => D j || j == i) 0 ops.toList ds S) a' w' → K a' w') : OpGoal C ops o a w K Q := by
  have hlen := hrun.len
  have hilt := (List.getElem?_eq_some_iff.1 ho).1
  obtain ⟨d, hd⟩ : ∃ d, ds[i]? = some d := ⟨ds[i]'(by omega), List.getElem?_eq_getElem (by omega)⟩
  have hfp : ∀ {j : Nat} {d' : StepD}, ds[j]? = some d' → (ds.map fpOf)[j]? = some (fpOf d') := fun h => by rw [List.getElem?_map, h]; rfl
  have hds : ∀ {j : Nat} {o' : Oper}, ops.toList[j]? = some o' → ∃ d', ds[j]? = some d' := fun {j} {o'} h => ⟨ds[j]'(by have := (List.getElem?_eq_some_iff.1 h).1; omega), List.getElem?_eq_getElem (by have := (List.getElem?_eq_some_iff.1 h).1; omega)⟩
  have hos : ∀ {j : Nat} {d' : StepD}, ds[j]? = some d' → ∃ o', ops.toList[j]? = some o' := fun {j} {o'} h => ⟨ops.toList[j]'(by have := (List.getElem?_eq_some_iff.1 h).1; omega), List.getElem?_eq_getElem (by have := (List.getElem?_eq_some_iff.1 h).1; omega)⟩
  -- D and i together are closed
  have hcl' : Closed ops.toList (fun j => D j || j == i) := by
    intro j o' hj hd' e he hb
    simp only [Bool.or_eq_true, beq_iff_eq] at hd' ⊢
    rcases hd' with hd' | rfl
    · exact .inl (hcl j o' hj hd' e he hb)
    · rw [ho] at hj; cases hj; exact .inl (hready e he hb)
  -- what clashes with i and stands before it is in D, what stands behind it is not
  have hlow : ∀ {j o' d'}, ops.toList[j]? = some o' → ds[j]? = some d' → j < i → clash ops o' o (fpOf d') (fpOf d) = true → D j = true := by
    intro j o' d' hj hdj hlt hc
    have := drawGo_spec ops.toList (ds.map fpOf) 0 hok j i o' o (fpOf d') (fpOf d) hlt hj ho (hfp hdj) (hfp hd) hc
    simp only [Nat.zero_add, ahead] at this
    split at this
    · rename_i m hm
      have := befs_closed hcl' hm (by simp) this
      simp only [Bool.or_eq_true, beq_iff_eq] at this
      rcases this with h | h
      · exact h
      · omega
    · cases this
  have hhigh : ∀ {j o' d'}, ops.toList[j]? = some o' → ds[j]? = some d' → i < j → clash ops o o' (fpOf d) (fpOf d') = true → D j = false := by
    intro j o' d' hj hdj hlt hc
    have := drawGo_spec ops.toList (ds.map fpOf) 0 hok i j o o' (fpOf d) (fpOf d') hlt ho hj (hfp hd) (hfp hdj) hc
    simp only [Nat.zero_add, ahead] at this
    split at this
    · rename_i m hm
      cases hD : D j with
      | false => rfl
      | true => rw [befs_closed hcl hm hD this] at hi; cases hi
    · cases this
  have hLS := hrun.at_ 0 i o d ho hd
  simp only [Nat.zero_add] at hLS
  refine hLS (part D 0 ops.toList ds S) ?_ ?_ a w K Q hs ?_
  · intro s hsl
    refine part_slot_congr s _ _ ops.toList ds 0 S S rfl fun j o' hj hdst => ?_
    simp only [Nat.zero_add]
    obtain ⟨d', hdj⟩ := hds hj
    rcases Nat.lt_trichotomy j i with hlt | rfl | hgt
    · rw [hlow hj hdj hlt (by simp [clash, hdst, hsl]), decide_eq_true hlt]
    · rw [hi]; simp
    · rw [hhigh hj hdj hgt (by simp [clash, hdst, hsl])]; simp; omega
  · intro id hid
    have hm : ∀ j d', ds[j]? = some d' → id ∈ d'.W → D j = decide (j < i) := by
      intro j d' hdj hw
      obtain ⟨o', hj⟩ := hos hdj
      rcases Nat.lt_trichotomy j i with hlt | rfl | hgt
      · rw [hlow hj hdj hlt (by
          simp only [clash, fpOf, Bool.or_eq_true, List.any_eq_true, List.contains_iff_mem]
          rcases hid with h | h
          · exact .inl (.inr ⟨id, hw, .inl h⟩)
          · exact .inl (.inr ⟨id, hw, .inr h⟩)), decide_eq_true hlt]
      · rw [hi]; simp
      · rw [hhigh hj hdj hgt (by
          simp only [clash, fpOf, Bool.or_eq_true, List.any_eq_true, List.contains_iff_mem]
          rcases hid with h | h
          · exact .inr ⟨id, hw, h⟩
          · exact .inl (.inr ⟨id, h, .inr hw⟩))]
        simp; omega
    refine ⟨part_mem_congr id _ _ ops.toList ds 0 S S rfl fun j d' hdj hw => by simpa using hm j d' hdj hw, ?_⟩
    rw [part_lim id D ops.toList ds 0 S hlen, part_lim id _ ops.toList ds 0 S hlen]
    refine or_congr Iff.rfl ⟨?_, ?_⟩
    · rintro ⟨j, d', hdj, hw, hD⟩; exact ⟨j, d', hdj, hw, by simp only [Nat.zero_add] at hD ⊢; rw [← hm j d' hdj hw]; exact hD⟩
    · rintro ⟨j, d', hdj, hw, hD⟩; exact ⟨j, d', hdj, hw, by simp only [Nat.zero_add] at hD ⊢; rw [hm j d' hdj hw]; exact hD⟩
  · intro a' w' hs'
    refine hK a' w' ?_
    have he : (part D 0 ops.toList ds S).step o.dst d = part (fun j => D j || j == i) 0 ops.toList ds S := by
      refine StF.ext' (fun s => ?_) (fun id => ?_) (fun id => ?_)
      · by_cases hdst : o.dst = some s
        · simp only [StF.step, hdst, if_true]
          refine (part_slot_last s _ ops.toList ds 0 i S o d ho hd hdst (by simp) fun j o' hj hd2 hgt => ?_).symm
          obtain ⟨d', hdj⟩ := hds hj
          simp only [Nat.zero_add]
          rw [hhigh hj hdj hgt (by simp [clash, hdst, hd2])]
          simp; omega
        · simp only [StF.step, hdst, if_false]
          refine part_slot_congr s _ _ ops.toList ds 0 S S rfl fun j o' hj hd2 => ?_
          simp only [Nat.zero_add]
          have : j ≠ i := fun e => by subst e; rw [ho] at hj; cases hj; exact hdst hd2
          simp [this]
      · by_cases hw : id ∈ d.W
        · simp only [StF.step, hw, if_true]
          refine (part_mem_last id _ ops.toList ds 0 i S d hlen hd hw (by simp) fun j d' hdj hw2 hgt => ?_).symm
          obtain ⟨o', hj⟩ := hos hdj
          simp only [Nat.zero_add]
          rw [hhigh hj hdj hgt (by
            simp only [clash, fpOf, Bool.or_eq_true, List.any_eq_true, List.contains_iff_mem]
            exact .inl (.inr ⟨id, hw, .inr hw2⟩))]
          simp; omega
        · simp only [StF.step, hw, if_false]
          refine part_mem_congr id _ _ ops.toList ds 0 S S rfl fun j d' hdj hw2 => ?_
          simp only [Nat.zero_add]
          have : j ≠ i := fun e => by subst e; rw [hd] at hdj; cases hdj; exact hw hw2
          simp [this]
      · show (part D 0 ops.toList ds S).lim id ∨ id ∈ d.W ↔ _
        rw [part_lim id D ops.toList ds 0 S hlen, part_lim id _ ops.toList ds 0 S hlen]
        constructor
        · rintro ((h | ⟨j, d', hdj, hw, hD⟩) | hw)
          · exact .inl h
          · exact .inr ⟨j, d', hdj, hw, by simp only [Nat.zero_add] at hD ⊢; simp [hD]⟩
          · exact .inr ⟨i, d, hd, hw, by simp⟩
        · rintro (h | ⟨j, d', hdj, hw, hD⟩)
          · exact .inl (.inl h)
          · simp only [Nat.zero_add, Bool.or_eq_true, beq_iff_eq] at hD
            rcases hD with hD | rfl
            · exact .inl (.inr ⟨j, d', hdj, hw, by simpa using hD⟩)
            · rw [hd] at hdj; cases hdj; exact .inr hw
    rw [← he]; exact hs'

theorem mem_ready' {md : Region.Mode} {ops : Array Oper} {listed : Array Bool} {i : Nat} (h : i ∈ Region.ready md ops listed) :
    i < ops.size ∧ listed.getD i true = false ∧ ∃ o, ops[i]? = some o ∧ ∀ e ∈ o.after, Region.binds md e = true → listed.getD e.on false = true := by
  unfold Region.ready at h
  simp only [List.mem_filter, List.mem_range, Bool.and_eq_true, Bool.not_eq_true'] at h
  obtain ⟨h1, h2, h3⟩ := h
  refine ⟨h1, h2, ?_⟩
  cases ho : ops[i]? with
  | none => simp [ho] at h3
  | some o =>
    simp only [ho, Option.map_some, Option.getD_some, Array.all_eq_true', Bool.or_eq_true, Bool.not_eq_true'] at h3
    refine ⟨o, rfl, fun e he hb => ?_⟩
    rcases h3 e he with h4 | h4
    · rw [hb] at h4; cases h4
    · exact h4

theorem getD_listed {listed : Array Bool} {i : Nat} (h : listed.getD i true = false) : listed.getD i false = false ∧ i < listed.size := by
  rcases Nat.lt_or_ge i listed.size with h' | h'
  · simp [h'] at h ⊢; exact h
  · simp [Array.getElem?_eq_none h'] at h

theorem listed_set {listed : Array Bool} {i : Nat} (hi : i < listed.size) : (fun j => (listed.setIfInBounds i true).getD j false) = fun j => listed.getD j false || j == i := by
  funext j
  by_cases h : j = i
  · subst h; simp [hi]
  · have h' : i ≠ j := fun e => h e.symm
    simp [h, h', Array.getElem?_setIfInBounds]

/-- How many are done. -/
def countB (listed : Array Bool) : Nat := (listed.toList.filter id).length

theorem countB_set {listed : Array Bool} {i : Nat} (hi : i < listed.size) (h : listed.getD i false = false) : countB (listed.setIfInBounds i true) = countB listed + 1 := by
  obtain ⟨l⟩ := listed
  simp only [countB, List.setIfInBounds_toArray]
  simp only [List.size_toArray] at hi
  simp only [Array.getD_eq_getD_getElem?, List.getElem?_toArray] at h
  induction l generalizing i with
  | nil => simp at hi
  | cons b l ih =>
    cases i with
    | zero =>
      simp at h; subst h; simp
    | succ i =>
      have := ih (i := i) (by simpa using hi) (by simpa using h)
      simp only [List.set_cons_succ, List.filter_cons]
      cases b <;> simp [this]

theorem countB_le (listed : Array Bool) : countB listed ≤ listed.size := by
  obtain ⟨l⟩ := listed
  exact List.length_filter_le _ _

theorem countB_full {listed : Array Bool} (h : countB listed = listed.size) : ∀ j, j < listed.size → listed.getD j false = true := by
  obtain ⟨l⟩ := listed
  intro j hj
  have h' : ∀ b ∈ l, id b = true := (List.length_filter_eq_length_iff).1 h
  simp only [List.size_toArray] at hj
  have := h' (l[j]) (List.getElem_mem hj)
  simp [hj]; simpa using this

theorem edges_back {o : Oper} {i : Nat} (h : o.after.toList.all (fun e => !Region.binds .any e || decide (e.on < i)) = true) : ∀ e ∈ o.after, Region.binds .any e = true → e.on < i := by
  intro e he hb
  have := List.all_eq_true.1 h e (by simpa using he)
  simp only [hb, Bool.not_true, Bool.false_or, decide_eq_true_eq] at this
  exact this

def backB : Nat → List Oper → Bool
  | _, [] => true
  | i, o :: l => o.after.toList.all (fun e => !Region.binds .any e || decide (e.on < i)) && backB (i + 1) l

theorem backB_spec : ∀ (l : List Oper) (b : Nat), backB b l = true → ∀ i o, l[i]? = some o → ∀ e ∈ o.after, Region.binds .any e = true → e.on < b + i := by
  intro l
  induction l with
  | nil => intro b _ i o h; simp at h
  | cons o l ih =>
    intro b h i o' ho
    simp only [backB, Bool.and_eq_true] at h
    cases i with
    | zero => simp only [List.getElem?_cons_zero, Option.some.injEq] at ho; subst ho; simpa using edges_back h.1
    | succ i => have := ih (b + 1) h.2 i o' (by simpa using ho); rwa [show b + 1 + i = b + (i + 1) by omega] at this

theorem exists_ready (hb : backB 0 ops.toList = true) {listed : Array Bool} (hsz : listed.size = ops.size) (h : ∃ j, j < ops.size ∧ listed.getD j false = false) : Region.ready .any ops listed ≠ [] := by
  -- the first one that is not done is ready
  obtain ⟨j, hj, hjl⟩ := h
  have : ∀ n, (∀ i, i < n → listed.getD i false = true) ∨ ∃ i, i < n ∧ listed.getD i false = false ∧ ∀ k, k < i → listed.getD k false = true := by
    intro n
    induction n with
    | zero => exact .inl fun i h => by omega
    | succ n ih =>
      rcases ih with h | ⟨i, h1, h2, h3⟩
      · cases hn : listed.getD n false with
        | true =>
          refine .inl fun i hi => ?_
          rcases Nat.lt_succ_iff_lt_or_eq.1 hi with h' | h'
          · exact h i h'
          · subst h'; exact hn
        | false => exact .inr ⟨n, by omega, hn, h⟩
      · exact .inr ⟨i, by omega, h2, h3⟩
  rcases this (j + 1) with h | ⟨i, h1, h2, h3⟩
  · rw [h j (by omega)] at hjl; cases hjl
  · intro hnil
    have hi : i < ops.size := by omega
    have : i ∈ Region.ready .any ops listed := by
      unfold Region.ready
      simp only [List.mem_filter, List.mem_range, Bool.and_eq_true, Bool.not_eq_true']
      refine ⟨hi, ?_, ?_⟩
      · have hil : i < listed.size := by omega
        simp [hil] at h2 ⊢; exact h2
      · have ho : ops[i]? = some ops[i] := Array.getElem?_eq_getElem hi
        simp only [ho, Option.map_some, Option.getD_some, Array.all_eq_true', Bool.or_eq_true, Bool.not_eq_true']
        intro e he
        cases hbd : Region.binds .any e with
        | false => exact .inl rfl
        | true =>
          refine .inr (h3 _ ?_)
          have := backB_spec ops.toList 0 hb i ops[i] (by simp) e he hbd
          simpa using this
    rw [hnil] at this; cases this

theorem any_all (hrun : Run C ops ops.toList S ds Sn) (hok : drawOk ops (ds.map fpOf) = true) (hb : backB 0 ops.toList = true) {Q : Exit → Act → World → Prop} (hQ : ∀ a w, Sats C Sn a w → Q .normal a w) :
    ∀ (fuel : Nat) (listed : Array Bool) (a : Act) (w : World), listed.size = ops.size → countB listed + fuel = ops.size → Closed ops.toList (fun j => listed.getD j false) →
      Sats C (part (fun j => listed.getD j false) 0 ops.toList ds S) a w → wpAnyIn C.F C.n C.P .any ops Q fuel listed a w := by
  have hfin : ∀ (listed : Array Bool) (a : Act) (w : World), listed.size = ops.size → Region.ready .any ops listed = [] → Sats C (part (fun j => listed.getD j false) 0 ops.toList ds S) a w → Q .normal a w := by
    intro listed a w hsz hr hs
    refine hQ a w ?_
    rw [← hrun.part_all 0 (fun j => listed.getD j false) fun j _ hj => ?_]
    · exact hs
    · simp only [Nat.zero_add, Array.length_toList] at hj
      cases hl : listed.getD j false with
      | true => rfl
      | false => exact absurd hr (exists_ready hb hsz ⟨j, hj, hl⟩)
  intro fuel
  induction fuel with
  | zero =>
    intro listed a w hsz hc hcl hs
    have hnil : Region.ready .any ops listed = [] := by
      refine List.eq_nil_iff_forall_not_mem.2 fun i hi => ?_
      obtain ⟨h1, h2, _⟩ := mem_ready' hi
      have := countB_full (by omega : countB listed = listed.size) i (by omega)
      rw [(getD_listed h2).1] at this; cases this
    exact ⟨hnil, hfin listed a w hsz hnil hs⟩
  | succ fuel ih =>
    intro listed a w hsz hc hcl hs
    refine ⟨fun hr => hfin listed a w hsz hr hs, fun i hi => ?_⟩
    obtain ⟨h1, h2, o, ho, hall⟩ := mem_ready' hi
    obtain ⟨h3, h4⟩ := getD_listed h2
    unfold wpOpIn
    simp only [ho]
    have := any_step (K := wpAnyIn C.F C.n C.P .any ops Q fuel (listed.setIfInBounds i true)) (Q := Q) hrun hok hcl (by rw [Array.getElem?_toList]; exact ho) h3 (fun e he hbd => hall e (by simpa using he) hbd) hs ?_
    · exact this
    · intro a' w' hs'
      rw [← listed_set h4] at hs'
      refine ih _ a' w' (by simp [hsz]) (by rw [countB_set h4 h3]; omega) ?_ hs'
      intro j o' hj hd e he hbd
      dsimp only at hd ⊢
      rw [show (listed.setIfInBounds i true).getD j false = (listed.getD j false || j == i) from congrFun (listed_set h4) j] at hd
      rw [show (listed.setIfInBounds i true).getD e.on false = (listed.getD e.on false || e.on == i) from congrFun (listed_set h4) e.on]
      simp only [Bool.or_eq_true, beq_iff_eq] at hd ⊢
      rcases hd with hd | rfl
      · exact .inl (hcl j o' hj hd e he hbd)
      · rw [Array.getElem?_toList, ho] at hj; cases hj
        exact .inl (hall e (by simpa using he) hbd)
end

/-- A region that draws its order. -/
theorem run_any {C : Ctx} {ops : Array Oper} {S Sn : StF} {ds : List StepD} {id : Nat} {Q : Exit → Act → World → Prop} (hrun : Run C ops ops.toList S ds Sn) (hok : drawOk ops (ds.map fpOf) = true)
    (hb : backB 0 ops.toList = true) {a : Act} {w : World} (hs : Sats C S a w) (hQ : ∀ a w, Sats C Sn a w → Q .normal a w) : (Code.region id ops true).wpIn C.F C.n C.P Q a w := by
  refine wpIn_region_any C.hm ?_
  have hz : (fun j => (Array.replicate ops.size false).getD j false) = fun _ => false := by
    funext j
    rcases Nat.lt_or_ge j ops.size with h | h <;> simp [h]
  have hp : ∀ (l : List Oper) (ds : List StepD) (b : Nat) (S : StF), part (fun _ => false) b l ds S = S := by
    intro l
    induction l with
    | nil => intro ds b S; cases ds <;> rfl
    | cons o l ih2 => intro ds b S; cases ds with | nil => rfl | cons d ds => simp only [part]; exact ih2 _ _ _
  refine any_all hrun hok hb hQ ops.size _ a _ (by simp) (by simp [countB]) ?_ ?_
  · rw [hz]; intro j o hj hd; cases hd
  · rw [hz, hp]; exact hs.drew

end Go.Sx

/- What the quiet operations compute, on abstract values, and that they compute it. -/
namespace Go.Sx
open Go Go.RowKit

theorem RepF.zero {w : World} {Z : Nat → Prop} {x : FV} (h : (match x with | .any => false | .sl .. => false | _ => true) = true) : RepF w Z x.valOf x := by
  cases x with
  | any => cases h
  | lit v => exact .lit v
  | int k n => exact .int k n
  | bool b => exact .bool b
  | sl k n f => cases h

theorem TIOk.zeros {P : Program} {t : TypeId} {ti : TI} (h : TIOk P t ti) (w : World) (Z : Nat → Prop) : All2 (RepF w Z) ti.zv.cells.toList ti.zero := by
  rw [h.zv]
  have hz := h.zok
  generalize ti.zero = l at hz
  induction l with
  | nil => exact .nil
  | cons x l ih =>
    simp only [List.all_cons, Bool.and_eq_true] at hz
    exact .cons (RepF.zero hz.1) (by simpa using ih hz.2)

theorem run_und {P : Program} {t : TypeId} {ti : TI} (h : TIOk P t ti) (w : World) : (underlying t).run P w = .ok ti.desc w := run_underlying h.und w
theorem run_size {P : Program} {t : TypeId} {ti : TI} (h : TIOk P t ti) (w : World) : (sizeOf t).run P w = .ok ti.size w := by
  obtain ⟨i, hi, hs, _⟩ := h.info
  simp [sizeOf, typeInfo, hi, hs]
theorem run_isAgg {P : Program} {t : TypeId} {ti : TI} (h : TIOk P t ti) (w : World) : (isAgg t).run P w = .ok ti.agg w := by
  have := h.agg
  simp only [isAgg, Sem.run_bind, run_und h, Result.andThen_ok]
  rw [this]
  cases ti.desc <;> rfl
theorem run_zero {P : Program} {t : TypeId} {ti : TI} (h : TIOk P t ti) (w : World) : (zeroValue t).run P w = .ok ti.zv w := by
  obtain ⟨i, hi, hs, hz, _⟩ := h.info
  simp [zeroValue, typeInfo, hi, hz]

/-! ### Operands -/

def cAV : Value → AV
  | .int k n => .s (.c (.f (.int k n)))
  | .bool b => .s (.c (.f (.bool b)))
  | .agg _ => .any
  | .tuple _ => .any
  | v => .s (.c (.f (.lit v)))

def evA (slot : Nat → AV) : Operand → AV
  | .tmp t => slot t
  | .const v => cAV v
  | .func f => .s (.c (.fn f [] []))
  | .global _ => .any

theorem cAV_ok {w : World} {e : Env} {Z L : Nat → Prop} (v : Value) : RepA w e Z L v (cAV v) := by
  cases v <;> first
    | trivial
    | exact ⟨.int _ _, rfl⟩
    | exact ⟨.bool _, rfl⟩
    | exact ⟨.lit _, rfl⟩

theorem evA_ok {C : Ctx} {S : StF} {a : Act} {w : World} {e : Env} {Z : Nat → Prop} (h : Sat C S a w e Z) (x : Operand) : RepA w e Z S.lim (a.eval x) (evA S.slot x) := by
  cases x with
  | tmp t => exact h.sl t
  | const v => exact cAV_ok v
  | func f => exact ⟨⟨[], rfl, .nil, by simp⟩, rfl⟩
  | global g => trivial

/-- The value at the head of some cells, as a variable of that type has it. -/
def mkAV (ti : TI) (l : List CV) : AV := if ti.agg then .s (.agg (l.take ti.size)) else match l with | x :: _ => .s (.c x) | [] => .any

theorem mkAV_ok {P : Program} {t : TypeId} {ti : TI} (ht : TIOk P t ti) {w : World} {e : Env} {Z L : Nat → Prop} {vs : List Value} {l : List CV} (h : All2 (RepC w e Z L) vs l) (h1 : ∀ u ∈ vs, u.oneCell' = true)
    (hl : ti.size ≤ l.length) : RepA w e Z L (if ti.agg then .agg (vs.take ti.size).toArray else vs.headD undef) (mkAV ti l) := by
  unfold mkAV
  cases ha : ti.agg with
  | true => simp only [if_true]; exact ⟨_, rfl, by simpa using h.take ti.size, fun u hu => h1 u (List.mem_of_mem_take (by simpa using hu))⟩
  | false =>
    have := ht.one ha
    simp only [Bool.false_eq_true, if_false]
    cases h with
    | nil => simp at hl; omega
    | cons hx t => exact ⟨hx, h1 _ (by simp)⟩

/-! ### Loads -/

theorem run_loadCellsFrom {P : Program} {w : World} {a : Addr} : ∀ (n i : Nat) (acc : Array Value) (u : Nat → Value), (∀ j, i ≤ j → j < i + n → w.cell? (a.add j) = some (u j)) →
    (loadCellsFrom a i n acc).run P w = .ok (acc ++ ((List.range' i n).map u).toArray) w := by
  intro n
  induction n with
  | zero => intro i acc u _; simp [loadCellsFrom]
  | succ n ih =>
    intro i acc u h
    simp only [loadCellsFrom, Sem.run_bind, run_load, h i (Nat.le_refl _) (by omega), Result.andThen_ok]
    rw [ih (i + 1) _ u fun j h1 h2 => h j (by omega) (by omega)]
    simp [List.range'_succ]

theorem run_loadVar_of {P : Program} {t : TypeId} {ti : TI} (ht : TIOk P t ti) {w : World} {a : Addr} {vs : List Value} (hl : ti.size ≤ vs.length) (hc : ∀ j v, j < ti.size → vs[j]? = some v → w.cell? (a.add j) = some v) :
    (loadVar t a).run P w = .ok (if ti.agg then .agg (vs.take ti.size).toArray else vs.headD undef) w := by
  simp only [loadVar, Sem.run_bind, run_isAgg ht, Result.andThen_ok]
  cases ha : ti.agg with
  | true =>
    simp only [if_true, Sem.run_bind, run_size ht, Result.andThen_ok, loadCells]
    rw [run_loadCellsFrom ti.size 0 #[] (fun j => vs.getD j undef) fun j _ hj => hc j _ (by omega) (by
      have : j < vs.length := by omega
      simp [this])]
    simp only [Result.andThen_ok, Sem.run_pure]
    congr 2
    rw [Array.empty_append]
    congr 1
    refine List.ext_getElem (by simp; omega) fun i h1 h2 => ?_
    have : i < vs.length := by simp at h2; omega
    simp [this]
  | false =>
    have h1 := ht.one ha
    simp only [Bool.false_eq_true, if_false]
    cases vs with
    | nil => simp at hl; omega
    | cons v vs =>
      have := hc 0 v (by omega) rfl
      rw [show a.add 0 = a by simp [Addr.add]] at this
      simp [run_load, this]

structure AR where
  av : AV
  R : List Nat
  c : Prop

def arrCells (k n : Nat) (f : Nat → Nat → FV) : List CV := (List.range n).flatMap fun i => (List.range k).map fun j => CV.f (f i j)
def rowCells (k off : Nat) (g : Nat → FV) : List CV := (List.range (k - off)).map fun j => CV.f (g (off + j))

def avLoad (ti : TI) (mem : Nat → Option Blk) : AV → Option AR
  | .s (.c (.ptr id off)) =>
    match mem id with
    | some (.cells _ cs) => some ⟨mkAV ti (cs.drop off), [id], off + ti.size ≤ cs.length⟩
    | some (.arr _ k n f) => some ⟨mkAV ti (arrCells k n f), [id], off = 0 ∧ ti.size = n * k⟩
    | _ => none
  | .s (.c (.rptr id k i off)) =>
    match mem id with
    | some (.row _ k' n f) => some ⟨mkAV ti (rowCells k off (f i)), [id], k' = k ∧ i < n ∧ off + ti.size ≤ k⟩
    | some (.arr _ k' n f) => some ⟨mkAV ti (rowCells k off (f i)), [id], k' = k ∧ i < n ∧ off + ti.size ≤ k⟩
    | _ => none
  | .s (.c (.fptr m g)) => some ⟨mkAV ti (rowCells m 0 g), [], ti.size ≤ m⟩
  | _ => none

theorem cell_blk {w : World} {b : Nat} {arr : Array Value} {ty : TypeId} (h : w.heap[b]? = some (.cells arr ty (0, 0))) (i : Nat) : w.cell? ⟨b, i, none⟩ = arr[i]? := by
  simp [World.cell?, h]

theorem rowCells_ok {w : World} {e : Env} {Z L : Nat → Prop} {k off : Nat} {g : Nat → FV} (u : Nat → Value) (h : ∀ j, off + j < k → RepF w Z (u (off + j)) (g (off + j))) :
    All2 (RepC w e Z L) ((List.range (k - off)).map fun j => u (off + j)) (rowCells k off g) := by
  refine All2.of_get (by simp [rowCells]) fun i x y hx hy => ?_
  simp only [rowCells, List.getElem?_map, Option.map_eq_some_iff, List.getElem?_range'] at hx hy
  obtain ⟨j, hj, rfl⟩ := hx
  obtain ⟨j', hj', rfl⟩ := hy
  rw [hj] at hj'; cases hj'
  obtain ⟨hlt, he⟩ := List.getElem?_eq_some_iff.1 hj
  simp at hlt he
  subst he
  exact h i (by omega)

theorem load_ok {C : Ctx} {S : StF} {a : Act} {w : World} {e : Env} {Z : Nat → Prop} (h : Sat C S a w e Z) {t : TypeId} {ti : TI} (ht : TIOk C.P t ti) {p : Operand} {x : AV} (hx : RepA w e Z S.lim (a.eval p) x) {r : AR}
    (hr : avLoad ti S.mem x = some r) (hc : r.c) : ∃ v, (Instr.loadAt t (a.eval p)).run C.P w = .ok v w ∧ RepA w e Z S.lim v r.av := by
  unfold avLoad at hr
  split at hr
  · rename_i id off
    obtain ⟨⟨hl, hp⟩, _⟩ := hx
    simp only [Instr.loadAt, hp, Instr.sureAddr, Sem.run_bind, Sem.run_pure, Result.andThen_ok]
    split at hr
    · rename_i ty cs hm
      simp only [Option.some.injEq] at hr; subst hr
      obtain ⟨arr, h1, h2, h3⟩ := h.m.ok _ _ hm
      have hlen := h2.length
      refine ⟨_, run_loadVar_of ht (vs := arr.toList.drop off) (by simp at hlen ⊢; omega) (fun j v hj hv => ?_), mkAV_ok ht (h2.drop off) (fun u hu => h3 u (List.mem_of_mem_drop hu)) (by simp; omega)⟩
      rw [add_mk, cell_blk h1]
      rw [List.getElem?_drop] at hv
      simpa using hv
    · rename_i ty k n f hm
      simp only [Option.some.injEq] at hr; subst hr
      obtain ⟨rfl, hsz⟩ := hc
      obtain ⟨arr, h1, h2, h3, h4⟩ := h.m.ok _ _ hm
      refine ⟨_, run_loadVar_of ht (vs := arr.toList) (by simp; omega) (fun j v hj hv => ?_), mkAV_ok ht (l := arrCells k n f) ?_ (fun u hu => h4 u hu) ?_⟩
      · rw [add_mk, cell_blk h1]; simpa using hv
      · have hlen : ∀ n, (arrCells k n f).length = n * k := by
          intro n
          induction n with
          | zero => simp [arrCells]
          | succ n ih => rw [arrCells, List.range_succ, List.flatMap_append, List.length_append]; rw [arrCells] at ih; simp [ih, Nat.succ_mul]
        refine All2.of_get (by simp [h2, hlen]) fun i x y hx hy => ?_
        have hget : ∀ n i y, (arrCells k n f)[i]? = some y → ∃ q j, q < n ∧ j < k ∧ i = q * k + j ∧ y = CV.f (f q j) := by
          intro n
          induction n with
          | zero => intro i y h; simp [arrCells] at h
          | succ n ih =>
            intro i y h
            have e : arrCells k (n + 1) f = arrCells k n f ++ (List.range k).map fun j => CV.f (f n j) := by simp [arrCells, List.range_succ]
            rw [e, List.getElem?_append] at h
            split at h
            · obtain ⟨q, j, h1, h2, h3, h4⟩ := ih i y h
              exact ⟨q, j, by omega, h2, h3, h4⟩
            · rename_i hge
              rw [hlen n] at h hge
              simp only [List.getElem?_map, Option.map_eq_some_iff] at h
              obtain ⟨j, hj, rfl⟩ := h
              obtain ⟨hlt, he⟩ := List.getElem?_eq_some_iff.1 hj
              simp at hlt he
              exact ⟨n, j, by omega, by omega, by omega, rfl⟩
        obtain ⟨q, j, hq, hj, rfl, rfl⟩ := hget n i y hy
        obtain ⟨u, hu, hru⟩ := h3 q j hq hj
        rw [Array.getElem?_toList, hu] at hx
        cases hx
        exact hru
      · have hlen : ∀ n, (arrCells k n f).length = n * k := by
          intro n
          induction n with
          | zero => simp [arrCells]
          | succ n ih => rw [arrCells, List.range_succ, List.flatMap_append, List.length_append]; rw [arrCells] at ih; simp [ih, Nat.succ_mul]
        rw [hlen]; omega
    · cases hr
  · rename_i id k i off
    obtain ⟨⟨hl, hp⟩, _⟩ := hx
    simp only [Instr.loadAt, hp, Instr.sureAddr, Sem.run_bind, Sem.run_pure, Result.andThen_ok]
    split at hr
    · rename_i ty k' n f hm
      simp only [Option.some.injEq] at hr; subst hr
      obtain ⟨rfl, hi, hsz⟩ := hc
      obtain ⟨xs, h1, h2, h3, h4⟩ := h.m.ok _ _ hm
      obtain ⟨g, hg⟩ : ∃ g, (e.v id).ownBlock = some g := by
        rcases h1.2 with ⟨hv, h0⟩ | ⟨g, cap, cur, hv, _⟩
        · omega
        · exact ⟨g, by rw [hv]; rfl⟩
      have hb := h2 g hg
      have hcell : ∀ j, j < k' → ∃ u, xs[i * k' + j]? = some u ∧ RepF w Z u (f i j) ∧ w.cell? ⟨e.b id, i * k' + j, none⟩ = some u := fun j hj => by
        obtain ⟨u, hu, hru⟩ := h3 i j hi hj
        refine ⟨u, hu, hru, ?_⟩
        have := h1.cells hg _ _ hu
        rwa [add_mk, Nat.zero_add, ← hb] at this
      refine ⟨_, run_loadVar_of ht (vs := (List.range (k' - off)).map fun j => xs.getD (i * k' + (off + j)) undef) (by simp; omega) (fun j v hj hv => ?_), mkAV_ok ht (rowCells_ok (fun j => xs.getD (i * k' + j) undef) fun j hj => ?_) (fun v hv => ?_) (by simp [rowCells]; omega)⟩
      · obtain ⟨u, hu, _, hcu⟩ := hcell (off + j) (by omega)
        rw [add_mk, Nat.add_assoc, hcu]
        have hjl : j < k' - off := by omega
        simp [hjl, hu] at hv
        rw [hv]
      · obtain ⟨u, hu, hru, _⟩ := hcell (off + j) hj
        simpa [hu] using hru
      · simp only [List.mem_map, List.mem_range] at hv
        obtain ⟨j, hj, rfl⟩ := hv
        obtain ⟨u, hu, _, _⟩ := hcell (off + j) (by omega)
        simp [hu]; exact h4 u (List.mem_of_getElem? hu)
    · rename_i ty k' n f hm
      simp only [Option.some.injEq] at hr; subst hr
      obtain ⟨rfl, hi, hsz⟩ := hc
      obtain ⟨arr, h1, h2, h3, h4⟩ := h.m.ok _ _ hm
      refine ⟨_, run_loadVar_of ht (vs := (List.range (k' - off)).map fun j => arr.getD (i * k' + (off + j)) undef) (by simp; omega) (fun j v hj hv => ?_), mkAV_ok ht (rowCells_ok (fun j => arr.getD (i * k' + j) undef) fun j hj => ?_) (fun v hv => ?_) (by simp [rowCells]; omega)⟩
      · obtain ⟨u, hu, _⟩ := h3 i (off + j) hi (by omega)
        rw [add_mk, Nat.add_assoc, cell_blk h1, hu]
        have hjl : j < k' - off := by omega
        simp [hjl, hu] at hv
        rw [hv]
      · obtain ⟨u, hu, hru⟩ := h3 i (off + j) hi hj
        simpa [hu] using hru
      · simp only [List.mem_map, List.mem_range] at hv
        obtain ⟨j, hj, rfl⟩ := hv
        obtain ⟨u, hu, _⟩ := h3 i (off + j) hi (by omega)
        simp [hu]; exact h4 u (by rw [← Array.mem_def]; exact Array.mem_of_getElem? hu)
    · cases hr
  · rename_i m g
    simp only [Option.some.injEq] at hr; subst hr
    obtain ⟨⟨ad, u, hp, hs, hz, hcell, h1c, hru⟩, _⟩ := hx
    simp only [Instr.loadAt, hp, Instr.sureAddr, Sem.run_bind, Sem.run_pure, Result.andThen_ok]
    refine ⟨_, run_loadVar_of ht (vs := (List.range (m - 0)).map fun j => u (0 + j)) (by simp; exact hc) (fun j v hj hv => ?_), mkAV_ok ht (rowCells_ok u fun j hj => hru _ (by omega)) (fun v hv => ?_) (by simp [rowCells]; exact hc)⟩
    · have hjl : j < m := by have : ti.size ≤ m := hc; omega
      simp [hjl] at hv
      rw [hcell j hjl, hv]
    · simp only [List.mem_map, List.mem_range] at hv
      obtain ⟨j, hj, rfl⟩ := hv
      exact h1c _ (by omega)
  · cases hr

end Go.Sx

/- Addresses, parts, slices, arithmetic: what they come to on abstract values. -/
namespace Go.Sx
open Go Go.RowKit

section
variable {P : Program} {w : World} {e : Env} {Z L : Nat → Prop}

/-! ### Addresses -/

def avFieldAddr (off : Nat) : AV → Option AV
  | .s (.c (.ptr id o)) => some (.s (.c (.ptr id (o + off))))
  | .s (.c (.rptr id k i o)) => some (.s (.c (.rptr id k i (o + off))))
  | .s (.c (.fptr m g)) => some (.s (.c (.fptr (m - off) (fun j => g (off + j)))))
  | _ => none

theorem addr_field {v : Value} {x y : AV} {off : Nat} (hx : RepA w e Z L v x) (h : avFieldAddr off x = some y) : ∃ a, v = .pointer (some a) ∧ RepA w e Z L (.pointer (some (a.add off))) y := by
  unfold avFieldAddr at h
  split at h
  · cases h; obtain ⟨⟨hl, hv⟩, _⟩ := hx; exact ⟨_, hv, ⟨hl, by rw [add_mk]⟩, rfl⟩
  · cases h; obtain ⟨⟨hl, hv⟩, _⟩ := hx; exact ⟨_, hv, ⟨hl, by rw [add_mk, Nat.add_assoc]⟩, rfl⟩
  · cases h
    obtain ⟨⟨a, u, hv, hs, hz, hc, h1, hr⟩, _⟩ := hx
    refine ⟨a, hv, ⟨a.add off, fun j => u (off + j), rfl, add_spot hs off, by rw [add_block]; exact hz, fun j hj => by rw [add_add]; exact hc _ (by omega), fun j hj => h1 _ (by omega), fun j hj => hr _ (by omega)⟩, rfl⟩
  · cases h

theorem field_ok {s : TypeId} {ti tf : TI} (hs : TIOk P s ti) {fields : Array Field} (hd : ti.desc = .struct fields) {fi : Nat} {f : Field} (hf : fields[fi]? = some f) (htf : TIOk P f.type tf) (h0 : tf.size ≠ 0)
    {v : Value} {x y : AV} (hx : RepA w e Z L v x) (h : avFieldAddr f.offset x = some y) : ∃ u, (Instr.fieldAt s v fi).run P w = .ok u w ∧ RepA w e Z L u y := by
  obtain ⟨a, rfl, hy⟩ := addr_field hx h
  refine ⟨_, ?_, hy⟩
  simp only [Instr.fieldAt, Sem.run_bind, run_und hs, Result.andThen_ok, hd, hf, Instr.sureAddr, Sem.run_pure, fieldPlace, run_size htf, h0, if_false]

/-- A part of a struct that lies in a slot. -/
def avField (tf : TI) (off : Nat) : AV → Option AR
  | .s (.agg l) => some ⟨mkAV tf (l.drop off), [], off + tf.size ≤ l.length⟩
  | _ => none

theorem run_part {t : TypeId} {ti : TI} (ht : TIOk P t ti) {cs : Array Value} {l : List CV} (hc : All2 (RepC w e Z L) cs.toList l) (h1 : ∀ u ∈ cs.toList, u.oneCell' = true) {off : Nat} (hl : off + ti.size ≤ l.length) :
    ∃ u, (Go.part t cs off).run P w = .ok u w ∧ RepA w e Z L u (mkAV ti (l.drop off)) := by
  have hlen := hc.length
  refine ⟨_, ?_, mkAV_ok ht (hc.drop off) (fun u hu => h1 u (List.mem_of_mem_drop hu)) (by simp; omega)⟩
  simp only [Go.part, Sem.run_bind, run_isAgg ht, Result.andThen_ok]
  cases ha : ti.agg with
  | true =>
    simp only [if_true, Sem.run_bind, run_size ht, Result.andThen_ok, Sem.run_pure]
    congr 2
    apply Array.toList_inj.1
    simp [List.take_drop, Nat.add_comm]
  | false =>
    have := ht.one ha
    simp only [Bool.false_eq_true, if_false]
    have hlt : off < cs.toList.length := by omega
    have : cs[off]? = some (cs.toList[off]) := by rw [← Array.getElem?_toList]; exact List.getElem?_eq_getElem hlt
    rw [this]
    simp only [Sem.run_pure]
    rw [List.drop_eq_getElem_cons hlt]
    rfl

theorem partof_ok {s : TypeId} {ti tf : TI} (hs : TIOk P s ti) {fields : Array Field} (hd : ti.desc = .struct fields) {fi : Nat} {f : Field} (hf : fields[fi]? = some f) (htf : TIOk P f.type tf)
    {v : Value} {x : AV} {r : AR} (hx : RepA w e Z L v x) (h : avField tf f.offset x = some r) (hc : r.c) : ∃ u, (Instr.field s v fi).run P w = .ok u w ∧ RepA w e Z L u r.av := by
  unfold avField at h
  split at h
  · cases h
    obtain ⟨cs, rfl, h2, h1⟩ := hx
    obtain ⟨u, hu, hr⟩ := run_part htf h2 h1 hc
    refine ⟨u, ?_, hr⟩
    simp only [Instr.field, Sem.run_bind, run_und hs, Result.andThen_ok, hd, hf, asAgg, Sem.run_pure]
    exact hu
  · cases h

/-! ### Indexes -/

def avIndexAddr (d : TypeDesc) (es : Nat) (mem : Nat → Option Blk) (i : Int) : AV → Option AR
  | .s (.c (.f (.sl k n f))) => match d with | .slice _ => some ⟨.s (.c (.fptr k (f i.toNat))), [], k = es ∧ 0 ≤ i ∧ i < n⟩ | _ => none
  | .s (.c (.own id)) => match d, mem id with | .slice _, some (.row _ k n _) => some ⟨.s (.c (.rptr id k i.toNat 0)), [id], k = es ∧ 0 ≤ i ∧ i < n⟩ | _, _ => none
  | .s (.c (.ptr id off)) =>
    match d with
    | .array len _ =>
      match mem id with
      | some (.arr _ k n _) => some ⟨.s (.c (.rptr id k i.toNat 0)), [id], off = 0 ∧ k = es ∧ n = len ∧ 0 ≤ i ∧ i < len⟩
      | some (.cells _ _) => some ⟨.s (.c (.ptr id (off + i.toNat * es))), [id], 0 ≤ i ∧ i < len⟩
      | _ => none
    | _ => none
  | .s (.c (.fptr m g)) => match d with | .array len _ => some ⟨.s (.c (.fptr es (fun j => g (i.toNat * es + j)))), [], len * es ≤ m ∧ 0 ≤ i ∧ i < len⟩ | _ => none
  | _ => none

theorem own_some {id k n : Nat} {ty : TypeId} {f : Nat → Nat → FV} (h : BlkOk w e Z L id (.row ty k n f)) (hn : 0 < n) : ∃ cap, e.v id = .slice (some ⟨e.b id, 0, none⟩) n cap ∧ n ≤ cap ∧ cap ≤ maxLen := by
  obtain ⟨xs, h1, h2, _⟩ := h
  rcases h1.2 with ⟨hv, h0⟩ | ⟨g, cap, cur, hv, _, _, hnc, hm, _⟩
  · omega
  · have := h2 g (by rw [hv]; rfl)
    exact ⟨cap, by rw [hv, this], hnc, hm⟩

theorem index_ok {S : StF} (hm : SatM w e Z L S.mem) {t el : TypeId} {ti te : TI} (ht : TIOk P t ti) (hel : (match ti.desc with | .slice el' => el' = el | .array _ el' => el' = el | _ => False)) (hte : TIOk P el te) {v vi : Value} {x : AV} {i : Int} {k : IntKind} {r : AR}
    (hx : RepA w e Z L v x) (hvi : vi = .int k i) (h : avIndexAddr ti.desc te.size S.mem i x = some r) (hc : r.c) : ∃ u, (Instr.indexAt t v vi).run P w = .ok u w ∧ RepA w e Z L u r.av := by
  subst hvi
  unfold avIndexAddr at h
  split at h
  · rename_i k' n f
    split at h
    · rename_i el' hd
      rw [hd] at hel
      dsimp only at hel; subst hel
      cases h
      obtain ⟨rfl, h0, hlt⟩ := hc
      obtain ⟨hrf, _⟩ := hx
      cases hrf with
      | nil A c k f hc => simp at hlt; omega
      | sl a n c k f u hn hcc hmm hs hz hu h1 hr =>
        have hi : i.toNat < n := by omega
        refine ⟨.pointer (some (a.add (i.toNat * te.size))), ?_, ⟨_, fun j => u i.toNat j, rfl, add_spot hs _, by rw [add_block]; exact hz, fun j hj => by rw [add_add]; exact hu _ _ hi hj, fun j hj => h1 _ _ hi hj, fun j hj => hr _ _ hi hj⟩, rfl⟩
        simp [Instr.indexAt, asIntOf, run_und ht, hd, h0, hlt, run_size hte]
    · cases h
  · rename_i id
    split at h
    · rename_i el' ty k' n f hd hmem
      rw [hd] at hel
      dsimp only at hel; subst hel
      cases h
      obtain ⟨rfl, h0, hlt⟩ := hc
      obtain ⟨⟨hl, hv⟩, _⟩ := hx
      obtain ⟨cap, hv2, _, _⟩ := own_some (hm.ok _ _ hmem) (by omega)
      refine ⟨.pointer (some (Addr.add ⟨e.b id, 0, none⟩ (i.toNat * te.size))), ?_, ⟨hl, by rw [add_mk]; simp⟩, rfl⟩
      rw [hv, hv2]
      simp [Instr.indexAt, asIntOf, run_und ht, hd, h0, hlt, run_size hte]
    · cases h
  · rename_i id off
    split at h
    · rename_i len el' hd
      rw [hd] at hel
      dsimp only at hel; subst hel
      obtain ⟨⟨hl, hv⟩, _⟩ := hx
      have hrun : ∀ (h0 : 0 ≤ i) (hlt : i < (len : Int)), (Instr.indexAt t v (.int k i)).run P w = .ok (.pointer (some (Addr.add ⟨e.b id, off, none⟩ (i.toNat * te.size)))) w := by
        intro h0 hlt
        rw [hv]
        simp [Instr.indexAt, asIntOf, run_und ht, hd, Instr.sureAddr, h0, hlt, run_size hte]
      split at h
      · cases h
        obtain ⟨rfl, rfl, rfl, h0, hlt⟩ := hc
        exact ⟨_, hrun h0 hlt, ⟨hl, by rw [add_mk]; simp⟩, rfl⟩
      · cases h
        obtain ⟨h0, hlt⟩ := hc
        exact ⟨_, hrun h0 hlt, ⟨hl, by rw [add_mk]⟩, rfl⟩
      · cases h
    · cases h
  · rename_i m g
    split at h
    · rename_i len el' hd
      rw [hd] at hel
      dsimp only at hel; subst hel
      cases h
      obtain ⟨hlen, h0, hlt⟩ := hc
      obtain ⟨⟨a, u, hv, hs, hz, hcell, h1, hr⟩, _⟩ := hx
      have hb : ∀ j, j < te.size → i.toNat * te.size + j < m := fun j hj => by
        have : i.toNat + 1 ≤ len := by omega
        have := Nat.mul_le_mul_right te.size this
        rw [Nat.succ_mul] at this
        omega
      refine ⟨.pointer (some (a.add (i.toNat * te.size))), ?_, ⟨_, fun j => u (i.toNat * te.size + j), rfl, add_spot hs _, by rw [add_block]; exact hz, fun j hj => by rw [add_add]; exact hcell _ (hb j hj), fun j hj => h1 _ (hb j hj), fun j hj => hr _ (hb j hj)⟩, rfl⟩
      rw [hv]
      simp [Instr.indexAt, asIntOf, run_und ht, hd, Instr.sureAddr, h0, hlt, run_size hte]
    · cases h
  · cases h

/-- An array that lies in a slot. -/
def avIndex (te : TI) (len : Nat) (i : Int) : AV → Option AR
  | .s (.agg l) => some ⟨mkAV te (l.drop (i.toNat * te.size)), [], 0 ≤ i ∧ i < len ∧ i.toNat * te.size + te.size ≤ l.length⟩
  | _ => none

theorem indexv_ok {t el : TypeId} {ti te : TI} (ht : TIOk P t ti) {len : Nat} (hd : ti.desc = .array len el) (hte : TIOk P el te) {v vi : Value} {x : AV} {i : Int} {k : IntKind} {r : AR}
    (hx : RepA w e Z L v x) (hvi : vi = .int k i) (h : avIndex te len i x = some r) (hc : r.c) : ∃ u, (Instr.index t v vi).run P w = .ok u w ∧ RepA w e Z L u r.av := by
  subst hvi
  unfold avIndex at h
  split at h
  · cases h
    obtain ⟨h0, hlt, hl⟩ := hc
    obtain ⟨cs, rfl, h2, h1⟩ := hx
    obtain ⟨u, hu, hr⟩ := run_part hte h2 h1 hl
    refine ⟨u, ?_, hr⟩
    simp [Instr.index, asIntOf, run_und ht, hd, h0, hlt, run_size hte, hu]
  · cases h

/-! ### Slices of frozen slices -/

def avSlice (x : AV) (lo hi mx : Option Int) : Option AR :=
  match x with
  | .s (.c (.f (.sl k n f))) => some ⟨.s (.c (.f (.sl k ((hi.getD n).toNat - (lo.getD 0).toNat) (fun i j => f ((lo.getD 0).toNat + i) j)))), [],
      0 ≤ lo.getD 0 ∧ lo.getD 0 ≤ hi.getD n ∧ hi.getD n ≤ mx.getD n ∧ mx.getD n ≤ n⟩
  | _ => none

def capOf (mi : Option Int) (c : Nat) : Nat := match mi with | some m => m.toNat | none => c

def intOpt (v : Option Value) (i : Option Int) : Prop := match v, i with | none, none => True | some v, some i => ∃ k, v = .int k i | _, _ => False

theorem slice_ok {t el : TypeId} {ti te : TI} (ht : TIOk P t ti) (hd : ti.desc = .slice el) (hte : TIOk P el te) {v : Value} {lo hi mx : Option Value} {li hi' mi : Option Int} {k n : Nat} {f : Nat → Nat → FV} (hk : k = te.size) {r : AR}
    (hx : RepA w e Z L v (.s (.c (.f (.sl k n f))))) (h1 : intOpt lo li) (h2 : intOpt hi hi') (h3 : intOpt mx mi) (h4 : mi.isSome = true → hi'.isSome = true) (h : avSlice (.s (.c (.f (.sl k n f)))) li hi' mi = some r) (hc : r.c) :
    ∃ u, (Instr.sliceAt t v lo hi mx).run P w = .ok u w ∧ RepA w e Z L u r.av := by
  unfold avSlice at h
  cases h
  obtain ⟨c0, c1, c2, c3⟩ := hc
  obtain ⟨hrf, _⟩ := hx
  -- the value's own bounds
  obtain ⟨A, c, hv, hnc, hm⟩ : ∃ A c, v = .slice A n c ∧ n ≤ c ∧ c ≤ maxLen := by
    cases hrf with
    | nil A c k f hc => exact ⟨A, c, rfl, by omega, hc⟩
    | sl a n c k f u hn hcc hmm => exact ⟨_, c, rfl, hcc, hmm⟩
  have hrun : (Instr.sliceAt t v lo hi mx).run P w = .ok (.slice (if capOf mi c = (li.getD 0).toNat then A else A.map (·.add ((li.getD 0).toNat * te.size))) ((hi'.getD n).toNat - (li.getD 0).toNat) (capOf mi c - (li.getD 0).toNat)) w := by
    rw [hv]
    have hb : ∀ (y : Nat) (code : BoundsCode) (k : IntKind) (i : Int), 0 ≤ i → i ≤ (y : Int) → (Instr.sliceBound (.int k i) y code).run P w = .ok i.toNat w := fun y code k i g1 g2 => by
      simp [Instr.sliceBound, asIntOf, g1, g2]
    have hbs : (Instr.sliceBounds true n c lo hi mx).run P w = .ok ((li.getD 0).toNat, (hi'.getD n).toNat, capOf mi c) w := by
      have hcase : ∀ {v : Option Value} {i : Option Int}, intOpt v i → (v = none ∧ i = none) ∨ ∃ k x, v = some (.int k x) ∧ i = some x := by
        intro v i h
        cases v <;> cases i <;> simp only [intOpt] at h
        · exact .inl ⟨rfl, rfl⟩
        · obtain ⟨k, rfl⟩ := h; exact .inr ⟨k, _, rfl, rfl⟩
      unfold Instr.sliceBounds
      rcases hcase h1 with ⟨rfl, rfl⟩ | ⟨k1, l, rfl, rfl⟩ <;> rcases hcase h2 with ⟨rfl, rfl⟩ | ⟨k2, b, rfl, rfl⟩ <;> rcases hcase h3 with ⟨rfl, rfl⟩ | ⟨k3, m, rfl, rfl⟩ <;>
        (simp only [Option.getD_none, Option.getD_some] at c0 c1 c2 c3)
      · simp [capOf]
      · simp at h4
      · simp [capOf, hb c _ _ b (by omega) (by omega)]
      · simp [capOf, hb c _ _ m (by omega) (by omega), hb m.toNat _ _ b (by omega) (by omega)]
      · simp [capOf, hb n _ _ l (by omega) (by omega)]
      · simp at h4
      · simp [capOf, hb c _ _ b (by omega) (by omega), hb b.toNat _ _ l (by omega) (by omega)]
      · simp [capOf, hb c _ _ m (by omega) (by omega), hb m.toNat _ _ b (by omega) (by omega), hb b.toNat _ _ l (by omega) (by omega)]
    simp only [Instr.sliceAt, Sem.run_bind, run_und ht, Result.andThen_ok, hd, Instr.slice, hbs, run_size hte, Sem.run_pure]
  refine ⟨_, hrun, ?_⟩
  have hmc : capOf mi c ≤ c := by cases mi with | none => simp [capOf] | some m => simp [capOf] at c3 ⊢; omega
  have hhm : (hi'.getD n).toNat ≤ capOf mi c := by
    cases mi with
    | none => simp [capOf] at c2 ⊢; omega
    | some m => simp [capOf] at c2 ⊢; omega
  generalize capOf mi c = M at hmc hhm hrun ⊢
  refine ⟨?_, rfl⟩
  show RepF w Z _ _
  rcases Nat.eq_zero_or_pos ((hi'.getD n).toNat - (li.getD 0).toNat) with h0 | hpos
  · rw [h0]; exact .nil _ _ _ _ (by omega)
  · cases hrf with
    | nil A' c' k f hc =>
      exfalso
      cases hi' with
      | none => simp at hpos
      | some b => simp at hpos c2 c3; omega
    | sl a n c' k f u hn hcc hmm hs hz hu hone hr =>
      simp only [Value.slice.injEq] at hv
      obtain ⟨rfl, -, rfl⟩ := hv
      have hne : M ≠ (li.getD 0).toNat := by omega
      have hin : ∀ i, i < (hi'.getD n).toNat - (li.getD 0).toNat → (li.getD 0).toNat + i < n := fun i hi2 => by
        have : (hi'.getD n).toNat ≤ n := by omega
        omega
      rw [if_neg hne]
      subst hk
      refine .sl (a.add ((li.getD 0).toNat * te.size)) _ _ _ _ (fun i j => u ((li.getD 0).toNat + i) j) hpos (by omega) (by omega) (add_spot hs _) (by rw [add_block]; exact hz) (fun i j hi2 hj => ?_) (fun i j hi2 hj => hone _ _ (hin i hi2) hj) (fun i j hi2 hj => hr _ _ (hin i hi2) hj)
      rw [add_add, ← Nat.add_assoc, ← Nat.add_mul]
      exact hu _ _ (hin i hi2) hj
end

end Go.Sx

/- Arithmetic, conversions, literals of structs, the quiet builtins: what they come to on abstract values. -/
namespace Go.Sx
open Go Go.RowKit

structure PR where
  av : AV
  c : Prop

abbrev aInt (k : IntKind) (n : Int) : AV := .s (.c (.f (.int k n)))
abbrev aBool (b : Bool) : AV := .s (.c (.f (.bool b)))

def bitF (op : BinOp) (k : IntKind) (x y : Int) : Int :=
  let a := BitVec.ofInt k.bits x
  let b := BitVec.ofInt k.bits y
  match op with
  | .and => k.wrap (a &&& b).toNat
  | .or => k.wrap (a ||| b).toNat
  | .xor => k.wrap (a ^^^ b).toNat
  | _ => k.wrap (a &&& ~~~b).toNat

def arithI (k : IntKind) (n : Int) : PR :=
  match k with
  | .i64 => ⟨aInt .i64 n, -9223372036854775808 ≤ n ∧ n ≤ 9223372036854775807⟩
  | k => ⟨aInt k (k.wrap n), True⟩

def avBin (d : TypeDesc) (op : BinOp) : AV → AV → Option PR
  | .s (.c (.f (.int k a))), .s (.c (.f (.int k' b))) =>
    match op with
    | .shl => some ⟨aInt k (k.wrap (a * 2 ^ (min b.toNat k.bits))), 0 ≤ b⟩
    | .shr => some ⟨aInt k (a.fdiv (2 ^ (min b.toNat k.bits))), 0 ≤ b⟩
    | .add => some ⟨(arithI k (a + b)).av, k = k' ∧ (arithI k (a + b)).c⟩
    | .sub => some ⟨(arithI k (a - b)).av, k = k' ∧ (arithI k (a - b)).c⟩
    | .mul => some ⟨(arithI k (a * b)).av, k = k' ∧ (arithI k (a * b)).c⟩
    | .quo => some ⟨aInt k (a / b), k = k' ∧ 0 ≤ a ∧ a ≤ k.max ∧ 0 < b⟩
    | .rem => some ⟨aInt k (a % b), k = k' ∧ 0 ≤ a ∧ 0 < b⟩
    | .eql => some ⟨aBool (decide (a = b)), k = k'⟩
    | .neq => some ⟨aBool (!decide (a = b)), k = k'⟩
    | .lss => some ⟨aBool (decide (a < b)), k = k'⟩
    | .leq => some ⟨aBool (decide (a ≤ b)), k = k'⟩
    | .gtr => some ⟨aBool (decide (b < a)), k = k'⟩
    | .geq => some ⟨aBool (decide (b ≤ a)), k = k'⟩
    | op => some ⟨aInt k (bitF op k a b), k = k'⟩
  | .s (.c (.f (.bool a))), .s (.c (.f (.bool b))) =>
    match d, op with
    | .bool, .eql => some ⟨aBool (a == b), True⟩
    | .bool, .neq => some ⟨aBool (a != b), True⟩
    | _, _ => none
  | _, _ => none

section
variable {P : Program} {w : World} {e : Env} {Z L : Nat → Prop}

theorem repInt {v : Value} {k : IntKind} {n : Int} (h : RepA w e Z L v (aInt k n)) : v = .int k n := by
  obtain ⟨h, _⟩ := h
  cases h; rfl
theorem repBool {v : Value} {b : Bool} (h : RepA w e Z L v (aBool b)) : v = .bool b := by
  obtain ⟨h, _⟩ := h
  cases h; rfl
theorem mkInt (k : IntKind) (n : Int) : RepA w e Z L (.int k n) (aInt k n) := ⟨.int k n, rfl⟩
theorem mkBool (b : Bool) : RepA w e Z L (.bool b) (aBool b) := ⟨.bool b, rfl⟩

theorem IntKind_max_le (k : IntKind) : k.wrap 0 = 0 := by cases k <;> rfl

theorem wrap_of {k : IntKind} {n : Int} (h0 : 0 ≤ n) (h1 : n ≤ k.max) : k.wrap n = n := by
  cases k <;> simp [IntKind.wrap, IntKind.max, IntKind.min, IntKind.bits, IntKind.signed] at * <;> omega

theorem arithI_ok (k : IntKind) (n : Int) (h : (arithI k n).c) : RepA w e Z L (.int k (k.wrap n)) (arithI k n).av := by
  cases k <;> first
    | exact mkInt _ _
    | (obtain ⟨h1, h2⟩ := h
       have : IntKind.i64.wrap n = n := by rw [IntKind.wrap_i64]; omega
       rw [this]
       exact mkInt _ _)

theorem guard_int {op : BinOp} {t : TypeId} {x y : Operand} {k k' : IntKind} {a b : Int} : (eqGuard op t x y (.int k a) (.int k' b)).run P w = .ok () w := by
  unfold eqGuard
  cases op <;> rfl
theorem guard_bool {op : BinOp} {t : TypeId} {x y : Operand} {a b : Bool} : (eqGuard op t x y (.bool a) (.bool b)).run P w = .ok () w := by
  unfold eqGuard
  cases op <;> rfl

theorem bin_ok {t : TypeId} {ti : TI} (ht : TIOk P t ti) {op : BinOp} {x y : AV} {vx vy : Value} {ox oy : Operand} {r : PR} (hx : RepA w e Z L vx x) (hy : RepA w e Z L vy y) (h : avBin ti.desc op x y = some r) (hc : r.c) :
    ∃ u, (do eqGuard op t ox oy vx vy; binOp op t vx vy : Sem Value).run P w = .ok u w ∧ RepA w e Z L u r.av := by
  unfold avBin at h
  split at h
  · rename_i k a k' b
    obtain rfl := repInt hx
    obtain rfl := repInt hy
    simp only [Sem.run_bind, guard_int, Result.andThen_ok]
    cases op <;> simp only [Option.some.injEq] at h <;> subst h <;> dsimp only at hc
    case shl =>
      refine ⟨_, ?_, mkInt _ _⟩
      simp only [binOp, Op.shift]
      rw [if_neg (by omega)]; rfl
    case shr =>
      refine ⟨_, ?_, mkInt _ _⟩
      simp only [binOp, Op.shift]
      rw [if_neg (by omega)]; rfl
    case add => obtain ⟨rfl, hc⟩ := hc; exact ⟨_, by simp [binOp, Op.intArith], arithI_ok _ _ hc⟩
    case sub => obtain ⟨rfl, hc⟩ := hc; exact ⟨_, by simp [binOp, Op.intArith], arithI_ok _ _ hc⟩
    case mul => obtain ⟨rfl, hc⟩ := hc; exact ⟨_, by simp [binOp, Op.intArith], arithI_ok _ _ hc⟩
    case quo =>
      obtain ⟨rfl, h0, hm, hb⟩ := hc
      refine ⟨_, ?_, mkInt _ _⟩
      have h1 : a.tdiv b = a / b := Int.tdiv_eq_ediv_of_nonneg h0
      have h2 : k.wrap (a / b) = a / b := by
        have h3 : 0 ≤ a / b := Int.ediv_nonneg h0 (by omega)
        have h4 : a / b ≤ a := Int.ediv_le_self _ h0
        exact wrap_of h3 (by omega)
      simp only [binOp, Op.intDiv]
      rw [if_neg (by simp), if_neg (by omega)]
      simp [h1, h2]
    case rem =>
      obtain ⟨rfl, h0, hb⟩ := hc
      refine ⟨_, ?_, mkInt _ _⟩
      have h1 : a.tmod b = a % b := Int.tmod_eq_emod_of_nonneg h0
      simp only [binOp, Op.intDiv]
      rw [if_neg (by simp), if_neg (by omega)]
      simp [h1]
    case eql => subst hc; exact ⟨.bool (a == b), by simp [binOp, Op.intCmp], mkBool _⟩
    case neq => subst hc; exact ⟨.bool (a != b), by simp [binOp, Op.intCmp], mkBool _⟩
    case lss => subst hc; exact ⟨_, by simp [binOp, Op.intCmp], mkBool _⟩
    case leq => subst hc; exact ⟨_, by simp [binOp, Op.intCmp], mkBool _⟩
    case gtr => subst hc; exact ⟨_, by simp [binOp, Op.intCmp], mkBool _⟩
    case geq => subst hc; exact ⟨_, by simp [binOp, Op.intCmp], mkBool _⟩
    case and => subst hc; exact ⟨_, by simp [binOp, Op.intBits, bitF], mkInt _ _⟩
    case or => subst hc; exact ⟨_, by simp [binOp, Op.intBits, bitF], mkInt _ _⟩
    case xor => subst hc; exact ⟨_, by simp [binOp, Op.intBits, bitF], mkInt _ _⟩
    case andNot => subst hc; exact ⟨_, by simp [binOp, Op.intBits, bitF], mkInt _ _⟩
  · rename_i a b
    obtain rfl := repBool hx
    obtain rfl := repBool hy
    simp only [Sem.run_bind, guard_bool, Result.andThen_ok]
    have heq : ti.desc = .bool → (Op.equal t (.bool a) (.bool b)).run P w = .ok (a == b) w := fun hd => by
      have : ∀ d, (Op.equalIn (d + 1) t (.bool a) (.bool b)).run P w = .ok (a == b) w := fun d => by simp [Op.equalIn, run_und ht, hd]
      exact this 9999
    split at h
    · rename_i hd
      cases h
      refine ⟨_, ?_, mkBool _⟩
      simp only [binOp, Sem.run_bind, heq hd, Result.andThen_ok, Sem.run_pure]
    · rename_i hd
      cases h
      refine ⟨_, ?_, mkBool _⟩
      simp only [binOp, Sem.run_bind, heq hd, Result.andThen_ok, Sem.run_pure, bne]
    · cases h
  · cases h

def avUn : UnOp → AV → Option PR
  | .not, .s (.c (.f (.bool b))) => some ⟨aBool (!b), True⟩
  | .neg, .s (.c (.f (.int k n))) => some (arithI k (-n))
  | _, _ => none

theorem un_ok {op : UnOp} {x : AV} {v : Value} {r : PR} (hx : RepA w e Z L v x) (h : avUn op x = some r) (hc : r.c) : ∃ u, (Op.unary op v).run P w = .ok u w ∧ RepA w e Z L u r.av := by
  unfold avUn at h
  split at h
  · cases h; obtain rfl := repBool hx; exact ⟨_, rfl, mkBool _⟩
  · rename_i k n
    cases h; obtain rfl := repInt hx
    refine ⟨_, ?_, arithI_ok _ _ hc⟩
    simp [Op.unary, Op.intArith]
  · cases h

def avConv (d : TypeDesc) : AV → Option PR
  | .s (.c (.f (.int _ n))) => match d with | .int k => some ⟨aInt k n, k.wrap n = n⟩ | _ => none
  | _ => none

theorem conv_ok {s t : TypeId} {ts tt : TI} (hs : TIOk P s ts) (ht : TIOk P t tt) (hsd : ∃ k, ts.desc = .int k) {x : AV} {v : Value} {r : PR} (hx : RepA w e Z L v x) (h : avConv tt.desc x = some r) (hc : r.c) :
    ∃ u, (convert s t v).run P w = .ok u w ∧ RepA w e Z L u r.av := by
  unfold avConv at h
  split at h
  · rename_i k0 n
    split at h
    · rename_i k hd
      cases h
      obtain rfl := repInt hx
      obtain ⟨k1, hk⟩ := hsd
      refine ⟨.int k n, ?_, mkInt _ _⟩
      simp only [convert, Sem.run_bind, run_und hs, run_und ht, Result.andThen_ok, hk, hd, Conv.intToInt, Sem.run_pure]
      rw [hc]
    · cases h
  · cases h

/-! ### len, max, min -/

def avLen (mem : Nat → Option Blk) : AV → Option AR
  | .s (.c (.f (.sl _ n _))) => some ⟨aInt .i64 n, [], True⟩
  | .s (.c (.f (.lit v))) => match v with | .slice _ n _ => some ⟨aInt .i64 n, [], True⟩ | _ => none
  | .s (.c (.own id)) => match mem id with | some (.row _ _ n _) => some ⟨aInt .i64 n, [id], True⟩ | _ => none
  | .s (.c (.mp id)) => match mem id with | some (.mapb _ D) => some ⟨aInt .i64 D.length, [id], True⟩ | _ => none
  | _ => none

def LenD (d : TypeDesc) : AV → Prop
  | .s (.c (.mp _)) => ∃ a b, d = .map a b
  | _ => ∃ el, d = .slice el

theorem len_ok {S : StF} (hm : SatM w e Z L S.mem) {t ty : TypeId} {ti : TI} (ht : TIOk P t ti) {x : AV} {v : Value} {r : AR} (hx : RepA w e Z L v x) (h : avLen S.mem x = some r)
    (hd : LenD ti.desc x) : ∃ u, (Builtin.len_ #[t] ty #[v]).run P w = .ok u w ∧ RepA w e Z L u r.av := by
  cases x with
  | any => cases h
  | tup l => cases h
  | s sv =>
  cases sv with
  | agg l => cases h
  | c cv =>
  cases cv with
  | f fv =>
    cases fv with
    | any => cases h
    | int k n => cases h
    | bool b => cases h
    | lit v' =>
      obtain ⟨el, hd⟩ := hd
      obtain ⟨hrf, _⟩ := hx
      cases hrf
      cases v <;> first
        | (simp [avLen] at h; done)
        | (simp only [avLen, Option.some.injEq] at h
           subst h
           exact ⟨_, by simp [Builtin.len_, run_und ht, hd, goInt], mkInt _ _⟩)
    | sl k n f =>
      simp only [avLen, Option.some.injEq] at h
      subst h
      obtain ⟨el, hd⟩ := hd
      obtain ⟨hrf, _⟩ := hx
      cases hrf with
      | nil A c k f hc => exact ⟨_, by simp [Builtin.len_, run_und ht, hd, goInt], mkInt _ _⟩
      | sl a n c k f u => exact ⟨_, by simp [Builtin.len_, run_und ht, hd, goInt], mkInt _ _⟩
  | own id =>
    simp only [avLen] at h
    split at h
    · rename_i ty' k n f hmem
      cases h
      obtain ⟨el, hd⟩ := hd
      obtain ⟨⟨hl, hv⟩, _⟩ := hx
      obtain ⟨xs, h1, _⟩ := hm.ok _ _ hmem
      rcases h1.2 with ⟨hv2, h0⟩ | ⟨g, cap, cur, hv2, _⟩
      · subst h0; rw [hv, hv2]; exact ⟨_, by simp [Builtin.len_, run_und ht, hd, goInt], mkInt _ _⟩
      · rw [hv, hv2]; exact ⟨_, by simp [Builtin.len_, run_und ht, hd, goInt], mkInt _ _⟩
    · cases h
  | mp id =>
    simp only [avLen] at h
    split at h
    · rename_i agg D hmem
      cases h
      obtain ⟨a, b, hd⟩ := hd
      obtain ⟨⟨hl, hv⟩, _⟩ := hx
      obtain ⟨es, clock, h1, h2, _⟩ := hm.ok _ _ hmem
      have hlen : es.size = D.length := by simpa using h2.length
      rw [hv]
      refine ⟨.int .i64 (es.size : Int), by simp [Builtin.len_, run_und ht, hd, goInt, getObj, Sem.run, h1], ?_⟩
      rw [hlen]; exact mkInt _ _
    · cases h
  | ptr id off => cases h
  | rptr id k i off => cases h
  | fptr m g => cases h
  | fn f a b => cases h

def avMM (mx : Bool) : List AV → Option PR
  | [.s (.c (.f (.int k a))), .s (.c (.f (.int k' b)))] => some ⟨aInt k (if mx then max a b else min a b), k = k'⟩
  | [.s (.c (.f (.int k a))), .s (.c (.f (.int k' b))), .s (.c (.f (.int k'' c)))] => some ⟨aInt k (if mx then max (max a b) c else min (min a b) c), k = k' ∧ k = k''⟩
  | _ => none

theorem max_ok {ts : Array TypeId} {ty : TypeId} {l : List AV} {vs : List Value} {r : PR} (hx : All2 (RepA w e Z L) vs l) (h : avMM true l = some r) (hc : r.c) :
    ∃ u, (Builtin.max_ ts ty vs.toArray).run P w = .ok u w ∧ RepA w e Z L u r.av := by
  unfold avMM at h
  split at h
  · cases h
    cases hx with | cons h1 t => cases t with | cons h2 t => cases t with | nil =>
    obtain rfl := repInt h1
    obtain rfl := repInt h2
    refine ⟨_, ?_, mkInt _ _⟩
    simp only [Builtin.max_, Builtin.max2, List.foldlM_cons, List.foldlM_nil, Sem.run_bind, Sem.run_pure, Result.andThen_ok, if_true]
    congr 2
    rename_i a k' b; omega
  · cases h
    cases hx with | cons h1 t => cases t with | cons h2 t => cases t with | cons h3 t => cases t with | nil =>
    obtain rfl := repInt h1
    obtain rfl := repInt h2
    obtain rfl := repInt h3
    refine ⟨_, ?_, mkInt _ _⟩
    simp only [Builtin.max_, Builtin.max2, List.foldlM_cons, List.foldlM_nil, Sem.run_bind, Sem.run_pure, Result.andThen_ok, if_true]
    congr 2
    rename_i a k' b k'' c; omega
  · cases h

theorem min_ok {ts : Array TypeId} {ty : TypeId} {l : List AV} {vs : List Value} {r : PR} (hx : All2 (RepA w e Z L) vs l) (h : avMM false l = some r) (hc : r.c) :
    ∃ u, (Builtin.min_ ts ty vs.toArray).run P w = .ok u w ∧ RepA w e Z L u r.av := by
  unfold avMM at h
  split at h
  · cases h
    cases hx with | cons h1 t => cases t with | cons h2 t => cases t with | nil =>
    obtain rfl := repInt h1
    obtain rfl := repInt h2
    refine ⟨_, ?_, mkInt _ _⟩
    simp only [Builtin.min_, Builtin.min2, List.foldlM_cons, List.foldlM_nil, Sem.run_bind, Sem.run_pure, Result.andThen_ok, Bool.false_eq_true, if_false]
    congr 2
    rename_i a k' b; omega
  · cases h
    cases hx with | cons h1 t => cases t with | cons h2 t => cases t with | cons h3 t => cases t with | nil =>
    obtain rfl := repInt h1
    obtain rfl := repInt h2
    obtain rfl := repInt h3
    refine ⟨_, ?_, mkInt _ _⟩
    simp only [Builtin.min_, Builtin.min2, List.foldlM_cons, List.foldlM_nil, Sem.run_bind, Sem.run_pure, Result.andThen_ok, Bool.false_eq_true, if_false]
    congr 2
    rename_i a k' b k'' c; omega
  · cases h

/-! ### Struct literals -/

def cellsOf : AV → Option (List CV)
  | .s (.c x) => some [x]
  | .s (.agg l) => some l
  | _ => none

def fillL (place : Nat → Option (Nat × Nat)) (cells : List CV) : List (Nat × AV) → Option (List CV)
  | [] => some cells
  | (i, v) :: rest =>
    match place i, cellsOf v with
    | some (off, size), some l => if l.length = size ∧ off + l.length ≤ cells.length then fillL place (cells.take off ++ l ++ cells.drop (off + l.length)) rest else none
    | _, _ => none

theorem cellsOf_ok {v : Value} {x : AV} {l : List CV} (hx : RepA w e Z L v x) (h : cellsOf x = some l) : All2 (RepC w e Z L) v.cells.toList l ∧ ∀ u ∈ v.cells.toList, u.oneCell' = true := by
  unfold cellsOf at h
  split at h
  · cases h
    obtain ⟨h1, h2⟩ := hx
    have : v.cells = #[v] := by cases v <;> simp_all [Value.cells, Value.oneCell']
    rw [this]
    exact ⟨.cons h1 .nil, by simpa using h2⟩
  · cases h
    obtain ⟨cs, rfl, h2, h1⟩ := hx
    exact ⟨h2, h1⟩
  · cases h

theorem foldSet : ∀ (l : List Value) (k off : Nat) (cs : Array Value), off + k + l.length ≤ cs.size →
    ((l.zipIdx k).foldl (fun cs (c, j) => cs.setIfInBounds (off + j) c) cs).toList = cs.toList.take (off + k) ++ l ++ cs.toList.drop (off + k + l.length) := by
  intro l
  induction l with
  | nil => intro k off cs h; simp
  | cons x l ih =>
    intro k off cs h
    simp only [List.zipIdx_cons, List.foldl_cons]
    simp only [List.length_cons] at h
    rw [ih (k + 1) off _ (by simp; omega)]
    simp only [Array.toList_setIfInBounds, List.length_cons]
    have hs : off + k < cs.toList.length := by simp; omega
    generalize cs.toList = l0 at hs
    have e1 : (l0.set (off + k) x).take (off + (k + 1)) = l0.take (off + k) ++ [x] := by
      rw [show off + (k + 1) = off + k + 1 by omega, List.take_succ_eq_append_getElem (by simpa using hs)]
      simp [List.take_set]
      rw [List.set_eq_of_length_le (by simp; omega)]
    have e2 : (l0.set (off + k) x).drop (off + (k + 1) + l.length) = l0.drop (off + (k + 1) + l.length) := by
      rw [List.drop_set_of_lt (by omega)]
    rw [e1, e2, show off + k + (l.length + 1) = off + (k + 1) + l.length by omega]
    simp

theorem fill_ok {place : Nat → Option (Nat × Nat)} : ∀ (parts : List (Nat × Value)) (aps : List (Nat × AV)) (cs : Array Value) (cells out : List CV), All2 (fun p q => p.1 = q.1 ∧ RepA w e Z L p.2 q.2) parts aps →
    All2 (RepC w e Z L) cs.toList cells → (∀ u ∈ cs.toList, u.oneCell' = true) → fillL place cells aps = some out →
    ∃ cs', Instr.fill place cs parts = some cs' ∧ All2 (RepC w e Z L) cs'.toList out ∧ (∀ u ∈ cs'.toList, u.oneCell' = true) ∧ cs'.size = cs.size := by
  intro parts
  induction parts with
  | nil =>
    intro aps cs cells out hp hc h1 h
    cases hp
    simp only [fillL, Option.some.injEq] at h
    subst h
    exact ⟨cs, rfl, hc, h1, rfl⟩
  | cons p parts ih =>
    intro aps cs cells out hp hc h1 h
    cases hp with
    | @cons _ q _ aps hpq ht =>
    obtain ⟨i, v⟩ := p
    obtain ⟨i', x⟩ := q
    obtain ⟨hi, hx⟩ := hpq
    dsimp only at hi hx; subst hi
    simp only [fillL] at h
    split at h
    · rename_i off size l hpl hcl
      split at h
      · rename_i hsz
        obtain ⟨hs1, hs2⟩ := hsz
        obtain ⟨hv, hv1⟩ := cellsOf_ok hx hcl
        have hlen := hv.length
        have hclen := hc.length
        simp only [Array.length_toList] at hlen hclen
        have hfold := foldSet v.cells.toList 0 off cs (by simp; omega)
        simp only [Nat.add_zero] at hfold
        obtain ⟨cs', e1, e2, e3, e4⟩ := ih aps (v.cells.zipIdx.foldl (fun cs (c, j) => cs.setIfInBounds (off + j) c) cs) _ out ht (by
          rw [← Array.foldl_toList, Array.toList_zipIdx, hfold]
          rw [show off + v.cells.toList.length = off + l.length by simp; omega]
          exact ((hc.take off).append hv).append (hc.drop _)) (by
          rw [← Array.foldl_toList, Array.toList_zipIdx, hfold]
          intro u hu
          simp only [List.mem_append] at hu
          rcases hu with (hu | hu) | hu
          · exact h1 u (List.mem_of_mem_take hu)
          · exact hv1 u hu
          · exact h1 u (List.mem_of_mem_drop hu)) h
        refine ⟨cs', ?_, e2, e3, ?_⟩
        · simp only [Instr.fill, hpl]
          rw [if_neg (by simp; omega)]
          exact e1
        · rw [e4, ← Array.length_toList, ← Array.foldl_toList, Array.toList_zipIdx, hfold]
          simp; omega
      · cases h
    · cases h

end

end Go.Sx

/- All quiet operations in one function; that it looks at its operands and at the ids that it names alone; the single step. -/
namespace Go.Sx
open Go Go.RowKit

def pickAV : Bool → AV → AV → AV
  | true, x, _ => x
  | false, _, y => y

def elemOfD : TypeDesc → Option TypeId
  | .slice el => some el
  | .array _ el => some el
  | _ => none

def placesOf (T : Tab) : List Field → Option (List (Nat × Nat))
  | [] => some []
  | f :: r => match T f.type, placesOf T r with | some tf, some l => some ((f.offset, tf.size) :: l) | _, _ => none

def frozenL : List CV → Option (List FV)
  | [] => some []
  | .f x :: r => match frozenL r with | some l => some (x :: l) | none => none
  | _ :: _ => none

def firstL (ev : Operand → AV) : List Operand → Option (List (List FV))
  | [] => some []
  | x :: r => match ev x, firstL ev r with | .s (.agg l), some m => (frozenL l).map fun q => q :: m | _, _ => none

def capsL (ev : Operand → AV) : List Operand → Option (List Nat)
  | [] => some []
  | x :: r => match ev x, capsL ev r with | .s (.c (.ptr id 0)), some m => some (id :: m) | _, _ => none

def optI (ev : Operand → AV) : Option Operand → Option (Option Int)
  | none => some none
  | some x => match ev x with | .s (.c (.f (.int _ n))) => some (some n) | _ => none

def avCallB (T : Tab) (ev : Operand → AV) (mem : Nat → Option Blk) (b : Builtin) (args : List Operand) (ats : Array TypeId) : Option AR :=
  match b with
  | .len =>
    match args, ats.toList with
    | [x], [t] =>
      match T t with
      | some ti =>
        match ti.desc with
        | .slice _ => (match ev x with | .s (.c (.mp _)) => none | y => avLen mem y)
        | .map _ _ => (match ev x with | .s (.c (.mp id)) => avLen mem (.s (.c (.mp id))) | _ => none)
        | _ => none
      | none => none
    | _, _ => none
  | .max => (avMM true (args.map ev)).map fun r => ⟨r.av, [], r.c⟩
  | .min => (avMM false (args.map ev)).map fun r => ⟨r.av, [], r.c⟩
  | _ => none

def aval (T : Tab) (ev : Operand → AV) (mem : Nat → Option Blk) : Op → Option AR
  | .move x => some ⟨ev x, [], True⟩
  | .assign x => some ⟨ev x, [], True⟩
  | .pick c a b => match ev c with | .s (.c (.f (.bool t))) => some ⟨pickAV t (ev a) (ev b), [], True⟩ | _ => none
  | .load t p => match T t with | some ti => avLoad ti mem (ev p) | none => none
  | .nilCheck x => match ev x with
    | .s (.c (.ptr id off)) => some ⟨.s (.c (.ptr id off)), [], True⟩
    | .s (.c (.rptr id k i off)) => some ⟨.s (.c (.rptr id k i off)), [], True⟩
    | .s (.c (.fptr m g)) => some ⟨.s (.c (.fptr m g)), [], True⟩
    | _ => none
  | .fieldAddr s x fi =>
    match T s with
    | some ti => match ti.desc with
      | .struct fields => match fields[fi]? with
        | some f => match T f.type with
          | some tf => match avFieldAddr f.offset (ev x) with | some y => some ⟨y, [], tf.size ≠ 0⟩ | none => none
          | none => none
        | none => none
      | _ => none
    | none => none
  | .field s x fi =>
    match T s with
    | some ti => match ti.desc with
      | .struct fields => match fields[fi]? with
        | some f => match T f.type with
          | some tf => avField tf f.offset (ev x)
          | none => none
        | none => none
      | _ => none
    | none => none
  | .indexAddr t x i =>
    match T t, ev i with
    | some ti, .s (.c (.f (.int _ n))) => match elemOfD ti.desc with
      | some el => match T el with | some te => avIndexAddr ti.desc te.size mem n (ev x) | none => none
      | none => none
    | _, _ => none
  | .index t x i =>
    match T t, ev i with
    | some ti, .s (.c (.f (.int _ n))) => match ti.desc with
      | .array len el => match T el with | some te => avIndex te len n (ev x) | none => none
      | _ => none
    | _, _ => none
  | .slice t x lo hi mx =>
    match T t with
    | some ti => match ti.desc with
      | .slice el => match T el, ev x, optI ev lo, optI ev hi, optI ev mx with
        | some te, .s (.c (.f (.sl k n f))), some l, some h, some m => match avSlice (.s (.c (.f (.sl k n f)))) l h m with
          | some r => some ⟨r.av, [], (k = te.size ∧ (m.isSome = true → h.isSome = true)) ∧ r.c⟩
          | none => none
        | _, _, _, _, _ => none
      | _ => none
    | none => none
  | .binOp op t x y _ => match T t with | some ti => (avBin ti.desc op (ev x) (ev y)).map fun r => ⟨r.av, [], r.c⟩ | none => none
  | .unOp op _ x => (avUn op (ev x)).map fun r => ⟨r.av, [], r.c⟩
  | .convert s t x => match T s, T t with
    | some ts, some tt => match ts.desc with | .int _ => (avConv tt.desc (ev x)).map fun r => ⟨r.av, [], r.c⟩ | _ => none
    | _, _ => none
  | .extract x i => match ev x with | .tup l => (match l[i]? with | some v => some ⟨.s v, [], True⟩ | none => none) | _ => none
  | .build t parts => match T t with
    | some ti => match ti.desc with
      | .struct fields => match placesOf T fields.toList with
        | some pl => match fillL (fun i => pl[i]?) (ti.zero.map CV.f) (parts.toList.map fun p => (p.1, ev p.2)) with | some out => some ⟨.s (.agg out), [], True⟩ | none => none
        | none => none
      | .array _ el => match T el with
        | some te => match fillL (fun i => some (i * te.size, te.size)) (ti.zero.map CV.f) (parts.toList.map fun p => (p.1, ev p.2)) with | some out => some ⟨.s (.agg out), [], True⟩ | none => none
        | none => none
      | _ => none
    | none => none
  | .makeFunc fn first caps => match fn with
    | .func f => match firstL ev first.toList, capsL ev caps.toList with | some fs, some cs => some ⟨.s (.c (.fn f fs cs)), [], True⟩ | _, _ => none
    | _ => none
  | .call c => match c.callee with | .builtin b => avCallB T ev mem b c.args.toList c.argTypes | _ => none
  | _ => none

/-! ### It looks at its operands and its ids alone -/

theorem avLoad_congr {ti : TI} {mem mem' : Nat → Option Blk} {x : AV} {r : AR} (h : avLoad ti mem x = some r) (hm : ∀ id ∈ r.R, mem' id = mem id) : avLoad ti mem' x = some r := by
  unfold avLoad at h ⊢
  split at h
  · rename_i id off
    split at h <;> first
      | (rename_i hmem; cases h; have := hm id (by simp); rw [this, hmem])
      | cases h
  · rename_i id k i off
    split at h <;> first
      | (rename_i hmem; cases h; have := hm id (by simp); rw [this, hmem])
      | cases h
  · exact h
  · cases h

theorem avIndexAddr_congr {d : TypeDesc} {es : Nat} {mem mem' : Nat → Option Blk} {i : Int} {x : AV} {r : AR} (h : avIndexAddr d es mem i x = some r) (hm : ∀ id ∈ r.R, mem' id = mem id) : avIndexAddr d es mem' i x = some r := by
  unfold avIndexAddr at h ⊢
  split at h
  · exact h
  · rename_i id
    split at h
    · rename_i hd hmem; cases h; have := hm id (by simp); rw [this, hmem]
    · cases h
  · rename_i id off
    split at h
    · split at h <;> first
        | (rename_i hmem; cases h; have := hm id (by simp); rw [this, hmem])
        | cases h
    · cases h
  · exact h
  · cases h

theorem avLen_congr {mem mem' : Nat → Option Blk} {x : AV} {r : AR} (h : avLen mem x = some r) (hm : ∀ id ∈ r.R, mem' id = mem id) : avLen mem' x = some r := by
  cases x with
  | any => exact h
  | tup l => exact h
  | s sv =>
  cases sv with
  | agg l => exact h
  | c cv =>
  cases cv with
  | f fv => cases fv <;> exact h
  | own id =>
    simp only [avLen] at h ⊢
    split at h
    · rename_i hmem; cases h; rw [hm id (by simp), hmem]
    · cases h
  | mp id =>
    simp only [avLen] at h ⊢
    split at h
    · rename_i hmem; cases h; rw [hm id (by simp), hmem]
    · cases h
  | ptr id off => exact h
  | rptr id k i off => exact h
  | fptr m g => exact h
  | fn f a b => exact h

theorem firstL_congr {ev ev' : Operand → AV} : ∀ (l : List Operand), (∀ x ∈ l, ev' x = ev x) → firstL ev' l = firstL ev l
  | [], _ => rfl
  | x :: r, h => by simp only [firstL, h x (by simp), firstL_congr r fun y hy => h y (by simp [hy])]
theorem capsL_congr {ev ev' : Operand → AV} : ∀ (l : List Operand), (∀ x ∈ l, ev' x = ev x) → capsL ev' l = capsL ev l
  | [], _ => rfl
  | x :: r, h => by simp only [capsL, h x (by simp), capsL_congr r fun y hy => h y (by simp [hy])]
theorem optI_congr {ev ev' : Operand → AV} (o : Option Operand) (h : ∀ x, o = some x → ev' x = ev x) : optI ev' o = optI ev o := by
  cases o with
  | none => rfl
  | some x => simp only [optI, h x rfl]

theorem aval_congr {T : Tab} {ev ev' : Operand → AV} {mem mem' : Nat → Option Blk} {op : Op} {r : AR} (h : aval T ev mem op = some r) (he : ∀ x ∈ op.operands, ev' x = ev x) (hm : ∀ id ∈ r.R, mem' id = mem id) :
    aval T ev' mem' op = some r := by
  cases op <;> simp only [aval] at h ⊢ <;> try (cases h; done)
  case move x => rw [he x (by simp [Op.operands])]; exact h
  case assign x => rw [he x (by simp [Op.operands])]; exact h
  case pick c a b => rw [he c (by simp [Op.operands]), he a (by simp [Op.operands]), he b (by simp [Op.operands])]; exact h
  case load t p =>
    rw [he p (by simp [Op.operands])]
    split at h
    · exact avLoad_congr h hm
    · cases h
  case nilCheck x => rw [he x (by simp [Op.operands])]; exact h
  case fieldAddr s x fi => rw [he x (by simp [Op.operands])]; exact h
  case field s x fi => rw [he x (by simp [Op.operands])]; exact h
  case indexAddr t x i =>
    rw [he x (by simp [Op.operands]), he i (by simp [Op.operands])]
    split at h
    · split at h
      · split at h
        · exact avIndexAddr_congr h hm
        · cases h
      · cases h
    · cases h
  case index t x i => rw [he x (by simp [Op.operands]), he i (by simp [Op.operands])]; exact h
  case slice t x lo hi mx =>
    rw [he x (by simp [Op.operands]), optI_congr lo fun y hy => he y (by simp [Op.operands, hy]), optI_congr hi fun y hy => he y (by simp [Op.operands, hy]), optI_congr mx fun y hy => he y (by simp [Op.operands, hy])]
    exact h
  case binOp op t x y ty => rw [he x (by simp [Op.operands]), he y (by simp [Op.operands])]; exact h
  case unOp op t x => rw [he x (by simp [Op.operands])]; exact h
  case convert s t x => rw [he x (by simp [Op.operands])]; exact h
  case extract x i => rw [he x (by simp [Op.operands])]; exact h
  case build t parts =>
    have : (parts.toList.map fun p => (p.1, ev' p.2)) = parts.toList.map fun p => (p.1, ev p.2) := List.map_congr_left fun p hp => by
      rw [he p.2 (by simp only [Op.operands, List.mem_toArray, List.mem_map]; exact ⟨p, hp, rfl⟩)]
    rw [this]; exact h
  case makeFunc fn first caps =>
    cases fn <;> try (cases h; done)
    dsimp only at h ⊢
    rw [firstL_congr first.toList fun x hx => he x (by simp [Op.operands] at *; exact .inl hx), capsL_congr caps.toList fun x hx => he x (by simp [Op.operands] at *; exact .inr hx)]
    exact h
  case call c =>
    have hc : ∀ x ∈ c.args.toList, ev' x = ev x := fun x hx => he x (by
      simp only [Op.operands, Call.operands, Array.mem_append]
      exact .inr (by simpa using hx))
    split at h
    · rename_i b hb
      unfold avCallB at h ⊢
      split at h
      · split at h
        · rename_i x t hargs hats
          rw [hc x (by rw [hargs]; simp)]
          split at h
          · split at h
            · split at h
              · cases h
              · exact avLen_congr h hm
            · split at h
              · exact avLen_congr h hm
              · cases h
            · cases h
          · cases h
        · cases h
      · rw [List.map_congr_left hc]; exact h
      · rw [List.map_congr_left hc]; exact h
      · cases h
    · cases h

end Go.Sx

/- The quiet operations are carried out as the function says; the single steps. -/
namespace Go.Sx
open Go Go.RowKit

theorem TabOk.get {P : Program} {T : Tab} (h : TabOk P T) {t : TypeId} {ti : TI} (ht : T t = some ti) : TIOk P t ti := h t ti ht

section
variable {C : Ctx} {S : StF} {a : Act} {w : World} {e : Env} {Z : Nat → Prop}

theorem exec_v {o : Oper} {s : Sem Value} {v : Value} (h : s.run C.P w = .ok v w) : (do pure (Next.value (← s)) : Sem Next).run C.P w = .ok (.value v) w := by
  simp [h]

theorem frozen_of {v : Value} {l : List CV} {q : List FV} (hx : RepA w e Z S.lim v (.s (.agg l))) (h : frozenL l = some q) : RepFs w Z v q := by
  obtain ⟨cs, rfl, h2, h1⟩ := hx
  refine ⟨cs, rfl, ?_, h1⟩
  have : ∀ (vs : List Value) (l : List CV) (q : List FV), All2 (RepC w e Z S.lim) vs l → frozenL l = some q → All2 (RepF w Z) vs q := by
    intro vs l
    induction l generalizing vs with
    | nil => intro q h hq; cases h; simp only [frozenL, Option.some.injEq] at hq; subst hq; exact .nil
    | cons x l ih =>
      intro q h hq
      cases h with | cons hx ht =>
      cases x <;> simp only [frozenL] at hq <;> try (cases hq; done)
      split at hq
      · rename_i m hm; cases hq; exact .cons hx (ih _ _ ht hm)
      · cases hq
  exact this _ _ _ h2 h

theorem firstL_ok (h : Sat C S a w e Z) : ∀ (l : List Operand) (q : List (List FV)), firstL (evA S.slot) l = some q → All2 (RepFs w Z) (l.map a.eval) q := by
  intro l
  induction l with
  | nil => intro q hq; simp only [firstL, Option.some.injEq] at hq; subst hq; exact .nil
  | cons x l ih =>
    intro q hq
    simp only [firstL] at hq
    split at hq
    · rename_i m q' hm hq'
      cases hf : frozenL m with
      | none => rw [hf] at hq; cases hq
      | some m' =>
        rw [hf] at hq; simp only [Option.map_some, Option.some.injEq] at hq; subst hq
        exact .cons (frozen_of (S := S) (by have := evA_ok h x; rwa [hm] at this) hf) (ih _ hq')
    · cases hq

theorem capsL_ok (h : Sat C S a w e Z) : ∀ (l : List Operand) (q : List Nat), capsL (evA S.slot) l = some q → l.map a.eval = (q.map fun id => Value.pointer (some ⟨e.b id, 0, none⟩)) ∧ ∀ id ∈ q, S.lim id := by
  intro l
  induction l with
  | nil => intro q hq; simp only [capsL, Option.some.injEq] at hq; subst hq; exact ⟨rfl, by simp⟩
  | cons x l ih =>
    intro q hq
    simp only [capsL] at hq
    split at hq
    · rename_i id m hid hm
      cases hq
      obtain ⟨i1, i2⟩ := ih _ hm
      have := evA_ok h x
      rw [hid] at this
      obtain ⟨⟨hl, hv⟩, _⟩ := this
      refine ⟨by simp [i1, hv], fun i hi => ?_⟩
      rcases List.mem_cons.1 hi with rfl | hi
      · exact hl
      · exact i2 _ hi
    · cases hq

theorem optI_ok (h : Sat C S a w e Z) {o : Option Operand} {i : Option Int} (hi : optI (evA S.slot) o = some i) : intOpt (o.map a.eval) i := by
  cases o with
  | none => simp only [optI, Option.some.injEq] at hi; subst hi; trivial
  | some x =>
    simp only [optI] at hi
    split at hi
    · rename_i k n hx
      cases hi
      have := evA_ok h x
      rw [hx] at this
      exact ⟨k, repInt this⟩
    · cases hi

theorem placesOf_ok {P : Program} {T : Tab} (hT : TabOk P T) (w : World) : ∀ (l : List Field) (pl : List (Nat × Nat)), placesOf T l = some pl →
    (l.mapM (m := Sem) fun f => do pure (f.offset, ← sizeOf f.type)).run P w = .ok pl w := by
  intro l
  induction l with
  | nil => intro pl h; simp only [placesOf, Option.some.injEq] at h; subst h; simp
  | cons f l ih =>
    intro pl h
    simp only [placesOf] at h
    split at h
    · rename_i tf l' h1 h2
      cases h
      simp only [List.mapM_cons, Sem.run_bind, run_size (hT.get h1), Result.andThen_ok, Sem.run_pure, ih _ h2]
    · cases h

theorem mapM_toList {P : Program} {α β : Type} (f : α → Sem β) (l : Array α) (w : World) {q : List β} (h : (l.toList.mapM f).run P w = .ok q w) : (l.mapM f).run P w = .ok q.toArray w := by
  rw [Array.mapM_eq_mapM_toList]
  simp only [Sem.run_map, h, Result.andThen_ok]

theorem argsA (h : Sat C S a w e Z) (l : List Operand) : All2 (RepA w e Z S.lim) (l.map a.eval) (l.map (evA S.slot)) := by
  induction l with
  | nil => exact .nil
  | cons x l ih => exact .cons (evA_ok h x) ih

theorem partsA (h : Sat C S a w e Z) (l : List (Nat × Operand)) : All2 (fun p q => p.1 = q.1 ∧ RepA w e Z S.lim p.2 q.2) (l.map fun (p : Nat × Operand) => (p.1, a.eval p.2)) (l.map fun (p : Nat × Operand) => (p.1, evA S.slot p.2)) := by
  induction l with
  | nil => exact .nil
  | cons x l ih => exact .cons ⟨rfl, evA_ok h x.2⟩ ih

theorem zerosC {P : Program} {t : TypeId} {ti : TI} (ht : TIOk P t ti) : All2 (RepC w e Z S.lim) ti.zv.cells.toList (ti.zero.map CV.f) := All2.map_right ((ht.zeros w Z).imp fun _ _ h => h)
theorem zerosOne {P : Program} {t : TypeId} {ti : TI} (ht : TIOk P t ti) : ∀ u ∈ ti.zv.cells.toList, u.oneCell' = true := by
  rw [ht.zv]; exact fun u hu => ht.zone u (by simpa using hu)

theorem aval_ok (h : Sat C S a w e Z) {o : Oper} {r : AR} (hr : aval C.T (evA S.slot) S.mem o.op = some r) (hc : r.c) :
    ∃ v, (execOp a.eval o).run C.P w = .ok (.value v) w ∧ RepA w e Z S.lim v r.av := by
  have wrap : ∀ {s : Sem Value} {av : AV}, (∃ v, s.run C.P w = .ok v w ∧ RepA w e Z S.lim v av) → ∃ v, (do pure (Next.value (← s)) : Sem Next).run C.P w = .ok (.value v) w ∧ RepA w e Z S.lim v av :=
    fun ⟨v, h1, h2⟩ => ⟨v, by simp [h1], h2⟩
  unfold execOp
  cases ho : o.op <;> rw [ho] at hr <;> simp only [aval] at hr <;> try (cases hr; done)
  case move x => cases hr; exact ⟨_, rfl, evA_ok h x⟩
  case assign x => cases hr; exact ⟨_, rfl, evA_ok h x⟩
  case pick c x y =>
    split at hr
    · rename_i t hct
      cases hr
      have := evA_ok h c
      rw [hct] at this
      have hv := repBool this
      dsimp only
      cases t with
      | true => exact ⟨a.eval x, by simp [hv, asBool], evA_ok h x⟩
      | false => exact ⟨a.eval y, by simp [hv, asBool], evA_ok h y⟩
    · cases hr
  case load t p =>
    split at hr
    · rename_i ti ht
      exact wrap (load_ok h (C.hT.get ht) (p := p) (evA_ok h p) hr hc)
    · cases hr
  case nilCheck x =>
    have hx := evA_ok h x
    split at hr
    · rename_i id off hex
      cases hr
      rw [hex] at hx
      have hx' := hx
      obtain ⟨⟨hl, hv⟩, _⟩ := hx'
      refine ⟨a.eval x, ?_, hx⟩
      dsimp only; rw [hv]; rfl
    · rename_i id k i off hex
      cases hr
      rw [hex] at hx
      obtain ⟨⟨hl, hv⟩, _⟩ := hx
      refine ⟨a.eval x, ?_, ⟨⟨hl, hv⟩, by rw [hv]; rfl⟩⟩
      dsimp only; rw [hv]; rfl
    · rename_i m g hex
      cases hr
      rw [hex] at hx
      have hx' := hx
      obtain ⟨⟨ad, u, hv, _⟩, _⟩ := hx'
      refine ⟨a.eval x, ?_, hx⟩
      dsimp only; rw [hv]; rfl
    · cases hr
  case fieldAddr s x fi =>
    split at hr
    · rename_i ti hti
      split at hr
      · rename_i fields hd
        split at hr
        · rename_i f hf
          split at hr
          · rename_i tf htf
            split at hr
            · rename_i y hy
              cases hr
              exact wrap (field_ok (C.hT.get hti) hd hf (C.hT.get htf) hc (evA_ok h x) hy)
            · cases hr
          · cases hr
        · cases hr
      · cases hr
    · cases hr
  case field s x fi =>
    split at hr
    · rename_i ti hti
      split at hr
      · rename_i fields hd
        split at hr
        · rename_i f hf
          split at hr
          · rename_i tf htf
            exact wrap (partof_ok (C.hT.get hti) hd hf (C.hT.get htf) (evA_ok h x) hr hc)
          · cases hr
        · cases hr
      · cases hr
    · cases hr
  case indexAddr t x i =>
    split at hr
    · rename_i ti k n hti hi
      have hvi := evA_ok h i
      rw [hi] at hvi
      split at hr
      · rename_i el hel
        split at hr
        · rename_i te hte
          refine wrap (index_ok h.m (C.hT.get hti) ?_ (C.hT.get hte) (evA_ok h x) (repInt hvi) hr hc)
          unfold elemOfD at hel
          split at hel <;> cases hel <;> simp_all
        · cases hr
      · cases hr
    · cases hr
  case index t x i =>
    split at hr
    · rename_i ti k n hti hi
      have hvi := evA_ok h i
      rw [hi] at hvi
      split at hr
      · rename_i len el hd
        split at hr
        · rename_i te hte
          exact wrap (indexv_ok (C.hT.get hti) hd (C.hT.get hte) (evA_ok h x) (repInt hvi) hr hc)
        · cases hr
      · cases hr
    · cases hr
  case slice t x lo hi mx =>
    split at hr
    · rename_i ti hti
      split at hr
      · rename_i el hd
        split at hr
        · rename_i te k n f l h' m hte hex hl hh hm
          split at hr
          · rename_i r' hr'
            cases hr
            obtain ⟨⟨hk, h4⟩, hc⟩ := hc
            have hx := evA_ok h x
            rw [hex] at hx
            exact wrap (slice_ok (r := r') (C.hT.get hti) hd (C.hT.get hte) hk hx (optI_ok h hl) (optI_ok h hh) (optI_ok h hm) h4 hr' hc)
          · cases hr
        · cases hr
      · cases hr
    · cases hr
  case binOp op t x y ty =>
    split at hr
    · rename_i ti hti
      obtain ⟨r', hr', rfl⟩ := Option.map_eq_some_iff.1 hr
      exact wrap (bin_ok (C.hT.get hti) (evA_ok h x) (evA_ok h y) hr' hc)
    · cases hr
  case unOp op t x =>
    obtain ⟨r', hr', rfl⟩ := Option.map_eq_some_iff.1 hr
    exact wrap (un_ok (evA_ok h x) hr' hc)
  case convert s t x =>
    split at hr
    · rename_i ts tt hts htt
      split at hr
      · rename_i k hk
        obtain ⟨r', hr', rfl⟩ := Option.map_eq_some_iff.1 hr
        exact wrap (conv_ok (C.hT.get hts) (C.hT.get htt) ⟨k, hk⟩ (evA_ok h x) hr' hc)
      · cases hr
    · cases hr
  case extract x i =>
    split at hr
    · rename_i l hex
      split at hr
      · rename_i v hv
        cases hr
        have hx := evA_ok h x
        rw [hex] at hx
        obtain ⟨vs, hvs, h2⟩ := hx
        obtain ⟨u, hu, hru⟩ := h2.get i v hv
        rw [Array.getElem?_toList] at hu
        refine wrap ⟨u, ?_, hru⟩
        rw [hvs]; simp [Instr.extract, hu]
      · cases hr
    · cases hr
  case build t parts =>
    split at hr
    · rename_i ti hti
      have ht := C.hT.get hti
      split at hr
      · rename_i fields hd
        split at hr
        · rename_i pl hpl
          split at hr
          · rename_i out hout
            cases hr
            obtain ⟨cs', e1, e2, e3, _⟩ := fill_ok (w := w) (e := e) (Z := Z) (L := S.lim) _ _ ti.zv.cells _ out (partsA h parts.toList) (zerosC ht) (zerosOne ht) hout
            refine wrap ⟨.agg cs', ?_, ⟨cs', rfl, e2, e3⟩⟩
            have hp := mapM_toList (P := C.P) (fun f : Field => do pure (f.offset, ← sizeOf f.type)) fields w (placesOf_ok C.hT w _ _ hpl)
            simp only [Instr.build, Sem.run_bind, run_zero ht, run_und ht, hd, Result.andThen_ok, hp]
            have : (fun x : Nat => pl.toArray[x]?) = fun i : Nat => pl[i]? := by funext i; simp
            rw [this]
            have e1' : Instr.fill (fun i : Nat => pl[i]?) ti.zv.cells (parts.map fun x => match x with | (i, x) => (i, a.eval x)).toList = some cs' := by
              rw [Array.toList_map]; exact e1
            rw [e1']; rfl
          · cases hr
        · cases hr
      · rename_i len el hd
        split at hr
        · rename_i te hte
          split at hr
          · rename_i out hout
            cases hr
            obtain ⟨cs', e1, e2, e3, _⟩ := fill_ok (w := w) (e := e) (Z := Z) (L := S.lim) _ _ ti.zv.cells _ out (partsA h parts.toList) (zerosC ht) (zerosOne ht) hout
            refine wrap ⟨.agg cs', ?_, ⟨cs', rfl, e2, e3⟩⟩
            simp only [Instr.build, Sem.run_bind, run_zero ht, run_und ht, hd, Result.andThen_ok, run_size (C.hT.get hte)]
            have e1' : Instr.fill (fun i => some (i * te.size, te.size)) ti.zv.cells (parts.map fun x => match x with | (i, x) => (i, a.eval x)).toList = some cs' := by
              rw [Array.toList_map]; exact e1
            rw [e1']; rfl
          · cases hr
        · cases hr
      · cases hr
    · cases hr
  case makeFunc fn first caps =>
    cases fn <;> try (cases hr; done)
    rename_i f
    dsimp only at hr ⊢
    split at hr
    · rename_i fs cs hfs hcs
      cases hr
      obtain ⟨c1, c2⟩ := capsL_ok h _ _ hcs
      refine wrap ⟨.func (.func f) (first.map a.eval) (caps.map a.eval), rfl, ⟨⟨first.toList.map a.eval, ?_, firstL_ok h _ _ hfs, c2⟩, rfl⟩⟩
      rw [← c1]
      congr 1 <;> (apply Array.toList_inj.1; simp)
    · cases hr
  case call c =>
    split at hr
    · rename_i b hb
      unfold avCallB at hr
      have hargs := argsA h c.args.toList
      split at hr
      · split at hr
        · rename_i x t hax hat
          split at hr
          · rename_i ti hti
            have ea : c.args.map a.eval = #[a.eval x] := by apply Array.toList_inj.1; simp [hax]
            have et : c.argTypes = #[t] := by apply Array.toList_inj.1; simp [hat]
            have hgo : ∀ {y : AV} {r : AR}, RepA w e Z S.lim (a.eval x) y → avLen S.mem y = some r → LenD ti.desc y →
                ∃ v, (do let d ← resolve a.eval c o.type; invoke d.target d.args : Sem Next).run C.P w = .ok (.value v) w ∧ RepA w e Z S.lim v r.av := by
              intro y r hy hl hd
              obtain ⟨v, hv, hrv⟩ := len_ok (ty := o.type) h.m (C.hT.get hti) hy hl hd
              refine ⟨v, ?_, hrv⟩
              simp only [resolve, hb, Sem.run_bind, Sem.run_pure, Result.andThen_ok, invoke, builtin, ea, et, hv]
            split at hr
            · rename_i el hd
              split at hr
              · cases hr
              · rename_i y hne
                refine hgo (evA_ok h x) hr ?_
                unfold LenD
                split
                · rename_i id hid; exact absurd hid (hne id)
                · exact ⟨el, hd⟩
            · rename_i k v hd
              split at hr
              · rename_i id hid
                refine hgo (y := .s (.c (.mp id))) (by rw [← hid]; exact evA_ok h x) hr ⟨k, v, hd⟩
              · cases hr
            · cases hr
          · cases hr
        · cases hr
      · obtain ⟨r', hr', rfl⟩ := Option.map_eq_some_iff.1 hr
        obtain ⟨v, hv, hrv⟩ := max_ok (P := C.P) (ts := c.argTypes) (ty := o.type) hargs hr' hc
        refine ⟨v, ?_, hrv⟩
        have ea : c.args.map a.eval = (c.args.toList.map a.eval).toArray := by apply Array.toList_inj.1; simp
        simp only [resolve, hb, Sem.run_bind, Sem.run_pure, Result.andThen_ok, invoke, builtin, ea, hv]
      · obtain ⟨r', hr', rfl⟩ := Option.map_eq_some_iff.1 hr
        obtain ⟨v, hv, hrv⟩ := min_ok (P := C.P) (ts := c.argTypes) (ty := o.type) hargs hr' hc
        refine ⟨v, ?_, hrv⟩
        have ea : c.args.map a.eval = (c.args.toList.map a.eval).toArray := by apply Array.toList_inj.1; simp
        simp only [resolve, hb, Sem.run_bind, Sem.run_pure, Result.andThen_ok, invoke, builtin, ea, hv]
      · cases hr
    · cases hr

end

end Go.Sx

/- A step that turns the world; quiet steps; new variables; literals of slices. -/
namespace Go.Sx
open Go Go.RowKit

theorem getD_put {a : Act} {dst : Option Tmp} {v : Value} {nt : Nat} (hsz : a.tmps.size = nt) (hd : ∀ d, dst = some d → d < nt) (s : Nat) :
    (a.put dst v).tmps.getD s undef = if dst = some s then v else a.tmps.getD s undef := by
  cases dst with
  | none => simp [Act.put]
  | some d =>
    have := hd d rfl
    simp only [Act.put, Option.some.injEq, Array.getD_eq_getD_getElem?, Array.getElem?_setIfInBounds]
    by_cases h : d = s
    · subst h; simp [hsz, this]
    · simp [h]

section
variable {C : Ctx} {S : StF} {a : Act} {w : World} {e : Env} {Z : Nat → Prop}

/-- A step that turns blocks of the ids W alone, or makes new ones. -/
theorem Sat.step_world (h : Sat C S a w e Z) {dst : Option Tmp} (hd : ∀ d, dst = some d → d < C.nt) {d : StepD} {w' : World} {e' : Env} {Z' Y : Nat → Prop} {v : Value} (hfr : Fr w w' Y) (hag : AgreeL S.lim e e')
    (hz : ∀ b, Z b → Z' b) (hz' : ∀ b, Z' b → Z b ∨ (w.heap.size ≤ b ∨ Y b)) (hzl : ∀ b, Z' b → b < w'.heap.size)
    (hY : ∀ g, Y g → ∃ id b, id ∈ d.W ∧ S.mem id = some b ∧ Foot e id b = some g)
    (hnew : ∀ id b, id ∈ d.W → d.upd id = some b → BlkOk w' e' Z' (fun i => S.lim i ∨ i ∈ d.W) id b ∧ ∀ g, Foot e' id b = some g → (w.heap.size ≤ g ∨ Y g) ∧ ¬ Z' g)
    (hap : ∀ id id' b b' g, id ∈ d.W → id' ∈ d.W → id ≠ id' → d.upd id = some b → d.upd id' = some b' → Foot e' id b = some g → Foot e' id' b' ≠ some g)
    (hv : RepA w' e' Z' (fun i => S.lim i ∨ i ∈ d.W) v d.av) : Sat C (S.step dst d) (a.put dst v) w' e' Z' := by
  have hkz : KeepZ Z w w' := fun b hb => hfr.block b (h.m.zlt b hb) fun hy => by
    obtain ⟨id, bk, _, hm, hf⟩ := hY b hy
    exact h.m.clear id bk b hm hf hb
  have hlim : ∀ i, S.lim i → S.lim i ∨ i ∈ d.W := fun i hi => .inl hi
  have hold : ∀ id b, id ∉ d.W → S.mem id = some b → ∀ g, Foot e id b = some g → ¬ Y g ∧ g < w.heap.size := fun id b hw hm g hg => by
    refine ⟨fun hy => ?_, (h.m.ok id b hm).foot_lt hg⟩
    obtain ⟨id', bk, hw', hm', hf'⟩ := hY g hy
    have hne : id' ≠ id := fun e => hw (e ▸ hw')
    exact h.m.apart id' id bk b g hne hm' hm hf' hg
  have hfoot : ∀ id b, S.mem id = some b → Foot e' id b = Foot e id b := fun id b hm => Foot_agree hag (h.m.lim id b hm) b
  refine ⟨⟨?_, ?_, ?_, ?_, hzl⟩, ?_, ?_, ?_, ?_, ?_, ?_, ?_, ?_, ?_⟩
  · intro id b hm
    simp only [StF.step] at hm ⊢
    split at hm
    · rename_i hw; exact .inr hw
    · exact .inl (h.m.lim id b hm)
  · intro id b hm
    simp only [StF.step] at hm ⊢
    split at hm
    · rename_i hw; exact (hnew id b hw hm).1
    · rename_i hw
      refine (h.m.ok id b hm).mono hkz hz hlim hag (hag id (h.m.lim id b hm)) fun g hg => ?_
      obtain ⟨h1, h2⟩ := hold id b hw hm g hg
      exact hfr.block g h2 h1
  · intro id id' b b' g hne hm hm' hg hg'
    simp only [StF.step] at hm hm'
    by_cases hw : id ∈ d.W <;> by_cases hw' : id' ∈ d.W <;> simp only [hw, hw', if_true, if_false] at hm hm'
    · exact hap id id' b b' g hw hw' hne hm hm' hg hg'
    · have h1 := ((hnew id b hw hm).2 g hg).1
      rw [hfoot id' b' hm'] at hg'
      obtain ⟨h2, h3⟩ := hold id' b' hw' hm' g hg'
      rcases h1 with h1 | h1
      · omega
      · exact h2 h1
    · have h1 := ((hnew id' b' hw' hm').2 g hg').1
      rw [hfoot id b hm] at hg
      obtain ⟨h2, h3⟩ := hold id b hw hm g hg
      rcases h1 with h1 | h1
      · omega
      · exact h2 h1
    · rw [hfoot id b hm] at hg
      rw [hfoot id' b' hm'] at hg'
      exact h.m.apart id id' b b' g hne hm hm' hg hg'
  · intro id b g hm hg hzg
    simp only [StF.step] at hm
    split at hm
    · rename_i hw; exact ((hnew id b hw hm).2 g hg).2 hzg
    · rename_i hw
      rw [hfoot id b hm] at hg
      obtain ⟨h2, h3⟩ := hold id b hw hm g hg
      rcases hz' g hzg with h1 | h1 | h1
      · exact h.m.clear id b g hm hg h1
      · omega
      · exact h2 h1
  · intro s
    rw [getD_put h.nt hd]
    simp only [StF.step]
    split
    · exact hv
    · exact RepA.mono hkz hz hlim hag (h.sl s)
  · cases dst <;> simp [Act.put, h.nt]
  · refine ⟨by cases dst <;> simpa [Act.put] using h.dfs.1, fun q hq => ?_⟩
    have hq' : q ∈ a.defers := by cases dst <;> simpa [Act.put] using hq
    obtain ⟨D, h1, h2, h3, h4, h5⟩ := h.dfs.2 q hq'
    have hlt : D < w.heap.size := (Array.getElem?_eq_some_iff.1 h2).1
    have hny : ¬ Y D := fun hy => by
      obtain ⟨id, bk, _, hm, hf⟩ := hY D hy
      exact h5 id bk hm hf
    refine ⟨D, h1, (hfr.block D hlt hny).trans h2, h3, fun hz1 => ?_, fun id b hm hg => ?_⟩
    · rcases hz' D hz1 with h6 | h6 | h6
      · exact h4 h6
      · omega
      · exact hny h6
    · simp only [StF.step] at hm
      split at hm
      · rename_i hw
        rcases ((hnew id b hw hm).2 D hg).1 with h6 | h6
        · omega
        · exact hny h6
      · rw [hfoot id b hm] at hg
        exact h5 id b hm hg
  · refine h.fr.trans hfr fun g hy hlt => ?_
    obtain ⟨id, bk, hw', hm', hf'⟩ := hY g hy
    rcases h.ft g ⟨id, bk, hm', hf'⟩ with h1 | h1
    · omega
    · exact h1
  · intro id hid
    obtain ⟨h1, h2⟩ := h.ag id hid
    obtain ⟨h3, h4⟩ := hag id (h.l0 id hid)
    exact ⟨h3.trans h1, h4.trans h2⟩
  · exact fun id hid => .inl (h.l0 id hid)
  · exact fun b hb => hz b (h.z0 b hb)
  · intro b hb
    rcases hz' b hb with h1 | h1 | h1
    · exact h.z1 b h1
    · exact .inr (.inl (Nat.le_trans h.fr.size h1))
    · obtain ⟨id, bk, hw', hm', hf'⟩ := hY b h1
      exact .inr (h.ft b ⟨id, bk, hm', hf'⟩)
  · rintro g ⟨id, b, hm, hg⟩
    simp only [StF.step] at hm
    split at hm
    · rename_i hw
      rcases ((hnew id b hw hm).2 g hg).1 with h1 | h1
      · exact .inl (Nat.le_trans h.fr.size h1)
      · obtain ⟨id, bk, hw', hm', hf'⟩ := hY g h1
        exact h.ft g ⟨id, bk, hm', hf'⟩
    · rw [hfoot id b hm] at hg
      exact h.ft g ⟨id, b, hm, hg⟩

/-- A value into a slot; nothing else. -/
theorem Sat.put (h : Sat C S a w e Z) {dst : Option Tmp} (hd : ∀ d, dst = some d → d < C.nt) {R : List Nat} {av : AV} {u : Nat → Option Blk} {v : Value} (hv : RepA w e Z S.lim v av) :
    Sat C (S.step dst ⟨R, [], av, u⟩) (a.put dst v) w e Z :=
  h.step_world hd (Y := fun _ => False) (Fr.refl w _) (fun _ _ => ⟨rfl, rfl⟩) (fun _ hb => hb) (fun _ hb => .inl hb) h.m.zlt (fun _ hf => hf.elim) (fun id b hw => by simp at hw) (fun id id' b b' g hw => by simp at hw)
    (RepA.mono (fun _ _ => rfl) (fun _ h => h) (fun _ h => .inl h) (fun _ _ => ⟨rfl, rfl⟩) hv)
end

/-! ### Is an operation wanted? -/

def Wanted (ops : Array Oper) (o : Oper) (slot : Nat → AV) : Prop :=
  match o.guard with
  | none => True
  | some (j, want) => match (ops[j]?).bind (·.dst) with | some dj => slot dj = aBool want | none => False

def Unwanted (ops : Array Oper) (o : Oper) (slot : Nat → AV) : Prop :=
  match o.guard with
  | none => False
  | some (j, want) => match (ops[j]?).bind (·.dst) with | some dj => slot dj = aBool (!want) | none => False

section
variable {C : Ctx} {ops : Array Oper} {o : Oper}

theorem yielded_of {S : StF} {a : Act} {w : World} {e : Env} {Z : Nat → Prop} (h : Sat C S a w e Z) {j dj : Nat} {b : Bool} (hj : (ops[j]?).bind (·.dst) = some dj) (hs : S.slot dj = aBool b) : yielded ops a.tmps j = some b := by
  have := h.sl dj
  rw [hs] at this
  have hv := repBool this
  unfold yielded
  rw [hj]
  simp only [Option.bind_some]
  have hlt : dj < a.tmps.size := by
    rcases Nat.lt_or_ge dj a.tmps.size with h' | h'
    · exact h'
    · simp [Array.getElem?_eq_none h', undef] at hv
  have : a.tmps[dj]? = some (.bool b) := by
    simp only [Array.getD_eq_getD_getElem?, Array.getElem?_eq_getElem hlt, Option.getD_some] at hv
    rw [Array.getElem?_eq_getElem hlt, hv]
  rw [this]

theorem wanted_of {S : StF} {a : Act} {w : World} {e : Env} {Z : Nat → Prop} (h : Sat C S a w e Z) (hw : Wanted ops o S.slot) : Region.wanted o (yielded ops a.tmps) = true := by
  unfold Wanted at hw
  unfold Region.wanted
  split at hw
  · rename_i hg; rw [hg]
  · rename_i j want hg
    rw [hg]
    split at hw
    · rename_i dj hj
      simp [yielded_of h hj hw]
    · exact hw.elim

theorem unwanted_of {S : StF} {a : Act} {w : World} {e : Env} {Z : Nat → Prop} (h : Sat C S a w e Z) (hw : Unwanted ops o S.slot) : Region.wanted o (yielded ops a.tmps) = false := by
  unfold Unwanted at hw
  unfold Region.wanted
  split at hw
  · exact hw.elim
  · rename_i j want hg
    rw [hg]
    split at hw
    · rename_i dj hj
      simp [yielded_of h hj hw]
    · exact hw.elim

theorem Wanted.congr {slot slot' : Nat → AV} (h : Wanted ops o slot) (hs : ∀ s ∈ o.looksAt ops, slot' s = slot s) : Wanted ops o slot' := by
  unfold Wanted at h ⊢
  split at h
  · trivial
  · rename_i j want hg
    split at h
    · rename_i dj hj
      rw [hs dj (by simp [Oper.looksAt, hg, hj])]
      exact h
    · exact h.elim

theorem Unwanted.congr {slot slot' : Nat → AV} (h : Unwanted ops o slot) (hs : ∀ s ∈ o.looksAt ops, slot' s = slot s) : Unwanted ops o slot' := by
  unfold Unwanted at h ⊢
  split at h
  · exact h.elim
  · rename_i j want hg
    split at h
    · rename_i dj hj
      rw [hs dj (by simp [Oper.looksAt, hg, hj])]
      exact h
    · exact h.elim

theorem evA_congr {slot slot' : Nat → AV} (hs : ∀ s ∈ o.looksAt ops, slot' s = slot s) : ∀ x ∈ o.op.operands, evA slot' x = evA slot x := by
  intro x hx
  cases x with
  | tmp t => exact hs t (by simp only [Oper.looksAt, List.mem_append, List.mem_filterMap]; exact .inl ⟨.tmp t, by simpa using hx, rfl⟩)
  | const v => rfl
  | func f => rfl
  | global g => rfl

def notDefer (o : Oper) : Bool := match o.op with | .defer _ => false | _ => true

/-- A single step, out of the operation's run. -/
theorem LS_val {S : StF} {d : StepD} (hnd : notDefer o = true) (hw : Wanted ops o S.slot)
    (H : ∀ (S' : StF) (a : Act) (w : World) (e : Env) (Z : Nat → Prop), (∀ x ∈ o.op.operands, evA S'.slot x = evA S.slot x) → (∀ id, id ∈ d.R ∨ id ∈ d.W → S'.mem id = S.mem id ∧ (S'.lim id ↔ S.lim id)) → Sat C S' a w e Z →
      ∃ v w' e' Z', ((execOp a.eval o).run C.P w = .ok (.value v) w' ∨ ((execOp a.eval o).run C.P w = .ok .skip w' ∧ v = undef)) ∧ Sat C (S'.step o.dst d) (a.put o.dst v) w' e' Z') : LS C ops o S d := by
  intro S' hs hm a w K Q hsat hK
  obtain ⟨e, Z, hsat⟩ := hsat
  obtain ⟨v, w', e', Z', hrun, hs'⟩ := H S' a w e Z (evA_congr hs) hm hsat
  unfold OpGoal
  rw [if_pos (wanted_of hsat (hw.congr hs))]
  refine ⟨fun f _ => C.hF f, ?_⟩
  rw [Oper.semAt_eq _ _ _ (fun c hc => by simp [notDefer, hc] at hnd)]
  rcases hrun with hrun | ⟨hrun, rfl⟩
  · rw [hrun]; exact hK _ _ ⟨e', Z', hs'⟩
  · rw [hrun]; exact hK _ _ ⟨e', Z', hs'⟩

theorem LS_quiet {S : StF} {r : AR} (hnd : notDefer o = true) (hw : Wanted ops o S.slot) (hd : ∀ d, o.dst = some d → d < C.nt) (hr : aval C.T (evA S.slot) S.mem o.op = some r) (hc : r.c) :
    LS C ops o S ⟨r.R, [], r.av, fun _ => none⟩ := by
  refine LS_val hnd hw fun S' a w e Z he hm hsat => ?_
  obtain ⟨v, hrun, hv⟩ := aval_ok (o := o) hsat (aval_congr hr he fun id hid => (hm id (.inl hid)).1) hc
  exact ⟨v, w, e, Z, .inl hrun, hsat.put hd hv⟩

theorem LS_skip {S : StF} (hw : Unwanted ops o S.slot) (hd : ∀ d, o.dst = some d → d < C.nt) : LS C ops o S ⟨[], [], .any, fun _ => none⟩ := by
  intro S' hs hm a w K Q hsat hK
  obtain ⟨e, Z, hsat⟩ := hsat
  unfold OpGoal
  rw [if_neg (by rw [unwanted_of hsat (hw.congr hs)]; simp)]
  exact ⟨fun f _ => C.hF f, hK _ _ ⟨e, Z, hsat.put hd trivial⟩⟩
end

/-! ### New variables -/

theorem fr_alloc (w : World) (o : Obj) (Y : Nat → Prop) : Fr w (w.alloc o) Y := ⟨rfl, rfl, rfl, by simp, fun k hk _ => Below.heap_alloc w o k hk⟩
theorem keep_alloc {w : World} {o : Obj} {Z : Nat → Prop} (h : ∀ b, Z b → b < w.heap.size) : KeepZ Z w (w.alloc o) := fun b hb => Below.heap_alloc w o b (h b hb)

def Env.withB (e : Env) (id g : Nat) : Env := { e with b := fun i => if i = id then g else e.b i }
theorem agree_withB {L : Nat → Prop} (e : Env) {id g : Nat} (h : ¬ L id) : AgreeL L e (e.withB id g) := fun i hi => by
  refine ⟨?_, rfl⟩
  simp only [Env.withB]
  rw [if_neg (fun e : i = id => h (e ▸ hi))]

/-- What a new variable of a type holds. -/
def newBlk (t : TypeId) (ti : TI) (l : List CV) : Option Blk :=
  match ti.desc with
  | .array n el => match frozenL l with | some q => if n = 0 then none else some (.arr t (ti.size / n) n fun i j => q.getD (i * (ti.size / n) + j) .any) | none => none
  | _ => some (.cells t l)

theorem frozenL_ok {w : World} {e : Env} {Z L : Nat → Prop} : ∀ {vs : List Value} {l : List CV} {q : List FV}, All2 (RepC w e Z L) vs l → frozenL l = some q → All2 (RepF w Z) vs q := by
  intro vs l
  induction l generalizing vs with
  | nil => intro q h hq; cases h; simp only [frozenL, Option.some.injEq] at hq; subst hq; exact .nil
  | cons x l ih =>
    intro q h hq
    cases h with | cons hx ht =>
    cases x <;> simp only [frozenL] at hq <;> try (cases hq; done)
    split at hq
    · rename_i m hm; cases hq; exact .cons hx (ih ht hm)
    · cases hq

theorem newBlk_ok {P : Program} {t : TypeId} {ti : TI} (ht : TIOk P t ti) {w : World} {e : Env} {Z L : Nat → Prop} {cs : Array Value} {l : List CV} {b : Blk} (hb : newBlk t ti l = some b) (hsz : l.length = ti.size) {id g : Nat} (hid : e.b id = g)
    (hw : w.heap[g]? = some (.cells cs t)) (hc : All2 (RepC w e Z L) cs.toList l) (h1 : ∀ u ∈ cs.toList, u.oneCell' = true) (hdv : ∀ n el, ti.desc = .array n el → n ≠ 0 → ti.size / n * n = ti.size) : BlkOk w e Z L id b ∧ Foot e id b = some g := by
  have hlen := hc.length
  simp only [Array.length_toList] at hlen
  unfold newBlk at hb
  split at hb
  · rename_i n el hd
    split at hb
    · rename_i q hq
      split at hb
      · cases hb
      · rename_i hn
        cases hb
        have hm := hdv n el hd hn
        refine ⟨⟨cs, by rw [hid]; exact hw, by rw [hlen, hsz, Nat.mul_comm]; exact hm.symm, fun i j hi hj => ?_, h1⟩, by simp [Foot, hid]⟩
        have hf := frozenL_ok hc hq
        have hlt : i * (ti.size / n) + j < cs.size := by
          have : i + 1 ≤ n := hi
          have := Nat.mul_le_mul_right (ti.size / n) this
          rw [Nat.succ_mul, Nat.mul_comm n] at this
          omega
        have hql : q.length = cs.size := by simpa using hf.length.symm
        obtain ⟨u, hu, hru⟩ := hf.get (i * (ti.size / n) + j) (q[i * (ti.size / n) + j]'(by omega)) (List.getElem?_eq_getElem (by omega))
        rw [Array.getElem?_toList] at hu
        refine ⟨u, hu, ?_⟩
        have : q.getD (i * (ti.size / n) + j) .any = q[i * (ti.size / n) + j]'(by omega) := by simp [List.getD, List.getElem?_eq_getElem (by omega : i * (ti.size / n) + j < q.length)]
        show RepF w Z u (q.getD (i * (ti.size / n) + j) .any)
        rw [this]; exact hru
    · cases hb
  · cases hb
    exact ⟨⟨cs, by rw [hid]; exact hw, hc, h1⟩, by simp [Foot, hid]⟩

section
variable {C : Ctx} {ops : Array Oper} {o : Oper}

/-- A new block for an id that nothing names yet. -/
theorem Sat.new {S : StF} {a : Act} {w : World} {e : Env} {Z : Nat → Prop} (h : Sat C S a w e Z) {dst : Option Tmp} (hd : ∀ d, dst = some d → d < C.nt) {nx : Nat} (hnx : ¬ S.lim nx) {t : TypeId} {ti : TI} (ht : TIOk C.P t ti) {cs : Array Value} {l : List CV} {b : Blk}
    (hb : newBlk t ti l = some b) (hsz : l.length = ti.size) (hc : All2 (RepC w e Z S.lim) cs.toList l) (h1 : ∀ u ∈ cs.toList, u.oneCell' = true) (hdv : ∀ n el, ti.desc = .array n el → n ≠ 0 → ti.size / n * n = ti.size) (R : List Nat) :
    Sat C (S.step dst ⟨R, [nx], .s (.c (.ptr nx 0)), fun _ => some b⟩) (a.put dst (.pointer (some ⟨w.heap.size, 0, none⟩))) (w.alloc (.cells cs t)) (e.withB nx w.heap.size) Z := by
  have hag := agree_withB e (g := w.heap.size) hnx
  have hkz := keep_alloc (o := .cells cs t) h.m.zlt
  have hbk := newBlk_ok ht (w := w.alloc (.cells cs t)) (e := e.withB nx w.heap.size) (Z := Z) (L := fun i => S.lim i ∨ i ∈ [nx]) (id := nx) (g := w.heap.size) hb hsz (by simp [Env.withB]) (heap_alloc_new w _) (hc.imp fun _ _ h => RepC.mono hkz (fun _ h => h) (fun _ h => .inl h) hag h) h1 hdv
  refine h.step_world hd (Y := fun _ => False) (fr_alloc w _ _) hag (fun _ hb => hb) (fun _ hb => .inl hb) (fun b hb => by have := h.m.zlt b hb; simp; omega) (fun _ hf => hf.elim) ?_ ?_ ?_
  · intro id b' hid hb'
    simp only [List.mem_singleton] at hid
    subst hid
    simp only [Option.some.injEq] at hb'
    subst hb'
    refine ⟨hbk.1, fun g hg => ?_⟩
    rw [hbk.2] at hg; cases hg
    exact ⟨.inl (Nat.le_refl _), fun hz => by have := h.m.zlt _ hz; omega⟩
  · intro id id' b1 b2 g h3 h4 hne
    simp only [List.mem_singleton] at h3 h4
    exact absurd (h3.trans h4.symm) hne
  · exact ⟨⟨.inr (by simp), by simp [Env.withB]⟩, rfl⟩

theorem LS_box {S : StF} {t : TypeId} {x : Operand} {ti : TI} {l : List CV} {b : Blk} {nx : Nat} (ho : o.op = .box t x) (hw : Wanted ops o S.slot) (hd : ∀ d, o.dst = some d → d < C.nt) (ht : C.T t = some ti) (hx : cellsOf (evA S.slot x) = some l)
    (hb : newBlk t ti l = some b) (hsz : l.length = ti.size) (hdv : ∀ n el, ti.desc = .array n el → n ≠ 0 → ti.size / n * n = ti.size) (hnx : ¬ S.lim nx) : LS C ops o S ⟨[], [nx], .s (.c (.ptr nx 0)), fun _ => some b⟩ := by
  refine LS_val (by simp [notDefer, ho]) hw fun S' a w e Z he hm hsat => ?_
  have hx' := evA_ok hsat x
  rw [he x (by simp [ho, Op.operands])] at hx'
  obtain ⟨hc, h1⟩ := cellsOf_ok hx' hx
  refine ⟨_, _, _, _, .inl ?_, hsat.new hd (fun hl => hnx ((hm nx (.inr (by simp))).2.1 hl)) (C.hT.get ht) hb hsz hc h1 hdv []⟩
  simp [execOp, ho, Instr.box, newVar, newRow]

theorem LS_alloc {S : StF} {t : TypeId} {ti : TI} {b : Blk} {nx : Nat} (ho : o.op = .alloc t) (hw : Wanted ops o S.slot) (hd : ∀ d, o.dst = some d → d < C.nt) (ht : C.T t = some ti) (hb : newBlk t ti (ti.zero.map CV.f) = some b)
    (hdv : ∀ n el, ti.desc = .array n el → n ≠ 0 → ti.size / n * n = ti.size) (hnx : ¬ S.lim nx) : LS C ops o S ⟨[], [nx], .s (.c (.ptr nx 0)), fun _ => some b⟩ := by
  refine LS_val (by simp [notDefer, ho]) hw fun S' a w e Z he hm hsat => ?_
  have ht' := C.hT.get ht
  refine ⟨_, _, _, _, .inl ?_, hsat.new hd (fun hl => hnx ((hm nx (.inr (by simp))).2.1 hl)) ht' hb (by simp [ht'.len]) (zerosC ht') (zerosOne ht') hdv []⟩
  simp [execOp, ho, Instr.alloc, newVar, newRow, run_zero ht']

/-- A literal of a slice, as frozen data. -/
theorem LS_buildSlice {S : StF} {t el : TypeId} {ti te : TI} {len : Nat} {parts : Array (Nat × Operand)} {out : List CV} {q : List FV} (ho : o.op = .buildSlice t len parts) (hw : Wanted ops o S.slot) (hd : ∀ d, o.dst = some d → d < C.nt)
    (ht : C.T t = some ti) (hdesc : ti.desc = .slice el) (hte : C.T el = some te) (hsmall : len * te.size ≤ 2 ^ 24) (h0 : te.size ≠ 0)
    (hf : fillL (fun i => some (i * te.size, te.size)) ((List.range (len * te.size)).map fun i => CV.f ((te.zero).getD (i % te.size) .any)) (parts.toList.map fun p => (p.1, evA S.slot p.2)) = some out) (hq : frozenL out = some q) :
    LS C ops o S ⟨[], [], .s (.c (.f (.sl te.size len fun i j => q.getD (i * te.size + j) .any))), fun _ => none⟩ := by
  refine LS_val (by simp [notDefer, ho]) hw fun S' a w e Z he hm hsat => ?_
  have ht' := C.hT.get ht
  have hte' := C.hT.get hte
  have hparts : (parts.toList.map fun p => (p.1, evA S'.slot p.2)) = parts.toList.map fun p => (p.1, evA S.slot p.2) := List.map_congr_left fun p hp => by
    rw [he p.2 (by simp only [ho, Op.operands, List.mem_toArray, List.mem_map]; exact ⟨p, hp, rfl⟩)]
  have hzl : te.zv.cells.size = te.size := by rw [hte'.zv]; simp [hte'.len]
  have hzero : All2 (RepC w e Z S'.lim) ((Array.range (len * te.size)).map (te.zv.cells[· % te.zv.cells.size]!)).toList ((List.range (len * te.size)).map fun i => CV.f ((te.zero).getD (i % te.size) .any)) := by
    refine All2.of_get (by simp) fun i x y hx hy => ?_
    simp only [Array.toList_map, Array.toList_range, List.getElem?_map, Option.map_eq_some_iff] at hx hy
    obtain ⟨j, hj, rfl⟩ := hx
    obtain ⟨j', hj', rfl⟩ := hy
    rw [hj] at hj'; cases hj'
    rw [hzl]
    have hlt : j % te.size < te.size := Nat.mod_lt _ (by omega)
    have hz := zerosC (S := S') (w := w) (e := e) (Z := Z) hte'
    obtain ⟨u, hu, hru⟩ := hz.get (j % te.size) (CV.f (te.zero[j % te.size]'(by rw [hte'.len]; exact hlt))) (by rw [List.getElem?_map, List.getElem?_eq_getElem (by rw [hte'.len]; exact hlt)]; rfl)
    rw [Array.getElem?_toList] at hu
    have hlt2 : j % te.size < te.zv.cells.size := by rw [hzl]; exact hlt
    have e1 : te.zv.cells[j % te.size]! = u := by
      rw [getElem!_pos te.zv.cells _ hlt2]
      rw [Array.getElem?_eq_getElem hlt2] at hu
      exact Option.some.inj hu
    have e2 : te.zero.getD (j % te.size) .any = te.zero[j % te.size]'(by rw [hte'.len]; exact hlt) := by simp [List.getD, List.getElem?_eq_getElem (by rw [hte'.len]; exact hlt : j % te.size < te.zero.length)]
    rw [e1, e2]; exact hru
  have hone : ∀ u ∈ ((Array.range (len * te.size)).map (te.zv.cells[· % te.zv.cells.size]!)).toList, u.oneCell' = true := by
    intro u hu
    simp only [Array.toList_map, Array.toList_range, List.mem_map, List.mem_range] at hu
    obtain ⟨j, hj, rfl⟩ := hu
    rw [hzl]
    have hlt : j % te.size < te.zv.cells.size := by rw [hzl]; exact Nat.mod_lt _ (by omega)
    rw [getElem!_pos te.zv.cells _ hlt]
    exact zerosOne hte' _ (by simp)
  obtain ⟨cs', e1, e2, e3, e4⟩ := fill_ok (w := w) (e := e) (Z := Z) (L := S'.lim) _ _ _ _ out (partsA hsat parts.toList) hzero hone (by rw [hparts]; exact hf)
  have hfr := frozenL_ok e2 hq
  have hlenq : q.length = len * te.size := by rw [← hfr.length]; simp [e4]
  refine ⟨.slice (some ⟨w.heap.size, 0, none⟩) len len, w.alloc (.cells cs' el), e, fun b => Z b ∨ b = w.heap.size, .inl ?_, ?_⟩
  · have e1' : Instr.fill (fun i => some (i * te.size, te.size)) ((Array.range (len * te.size)).map (te.zv.cells[· % te.zv.cells.size]!)) (parts.map fun x => match x with | (i, x) => (i, a.eval x)).toList = some cs' := by
      rw [Array.toList_map]; exact e1
    simp only [execOp, ho, Instr.buildSlice, Sem.run_bind, run_und ht', hdesc, Result.andThen_ok, run_size hte']
    rw [if_neg (by omega)]
    by_cases hz0 : len * te.size = 0
    · rw [hz0] at e1'
      have e2' : ∀ z : Array Value, (Array.range 0).map (fun x => z[x % z.size]!) = #[] := fun z => by simp
      rw [e2'] at e1'
      simp only [hz0, if_true, Sem.run_bind, Sem.run_pure, Result.andThen_ok, e2', e1', newRow, run_newObj]
      rfl
    · simp only [hz0, if_false, Sem.run_bind, run_zero hte', Sem.run_pure, Result.andThen_ok, e1', newRow, run_newObj]
      rfl
  · have hkz := keep_alloc (o := .cells cs' el) hsat.m.zlt
    refine hsat.step_world hd (Y := fun _ => False) (fr_alloc w _ _) (fun _ _ => ⟨rfl, rfl⟩) (fun _ hb => .inl hb) (fun b hb => by rcases hb with hb | rfl; exact .inl hb; exact .inr (.inl (Nat.le_refl _)))
      (fun b hb => by rcases hb with hb | rfl; · have := hsat.m.zlt b hb; simp; omega
                      · simp) (fun _ hf => hf.elim) (fun id b hw => by simp at hw) (fun id id' b b' g hw => by simp at hw) ?_
    refine ⟨?_, rfl⟩
    rcases Nat.eq_zero_or_pos len with rfl | hpos
    · exact .nil _ _ _ _ (Nat.zero_le _)
    · have hget : ∀ i j, i < len → j < te.size → i * te.size + j < len * te.size := fun i j hi hj => by
        have := Nat.mul_le_mul_right te.size (show i + 1 ≤ len from hi)
        rw [Nat.succ_mul] at this
        omega
      have hcs : ∀ i j, i < len → j < te.size → ∃ u, cs'[i * te.size + j]? = some u ∧ RepF w Z u (q.getD (i * te.size + j) .any) := fun i j hi hj => by
        have hlt := hget i j hi hj
        obtain ⟨u, hu, hru⟩ := hfr.get (i * te.size + j) (q[i * te.size + j]'(by omega)) (List.getElem?_eq_getElem (by omega))
        rw [Array.getElem?_toList] at hu
        refine ⟨u, hu, ?_⟩
        have : q.getD (i * te.size + j) .any = q[i * te.size + j]'(by omega) := by simp [List.getD, List.getElem?_eq_getElem (by omega : i * te.size + j < q.length)]
        rw [this]; exact hru
      have hlm : len ≤ maxLen := by
        have : len * 1 ≤ len * te.size := Nat.mul_le_mul_left len (by omega)
        unfold maxLen; omega
      refine .sl ⟨w.heap.size, 0, none⟩ len len te.size _ (fun i j => cs'.getD (i * te.size + j) undef) hpos (Nat.le_refl _) hlm rfl (.inr rfl) (fun i j hi hj => ?_) (fun i j hi hj => ?_) (fun i j hi hj => ?_)
      · obtain ⟨u, hu, _⟩ := hcs i j hi hj
        rw [add_mk, Nat.zero_add, cell_blk (heap_alloc_new w _), hu]; simp [hu]
      · obtain ⟨u, hu, _⟩ := hcs i j hi hj
        simp [hu]; exact e3 u (by rw [← Array.mem_def]; exact Array.mem_of_getElem? hu)
      · obtain ⟨u, hu, hru⟩ := hcs i j hi hj
        simp [hu]; exact hru.mono hkz (fun _ h => .inl h)
end

end Go.Sx

