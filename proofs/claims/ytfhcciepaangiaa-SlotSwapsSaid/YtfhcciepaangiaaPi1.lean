/- A plain reading of Go values: what a value means, without memory; how it lies in a world (definitions and frame laws). -/
import Derived.Test.YtfhcciepaangiaaBase
import Derived.Orders
import Derived.Below
set_option linter.unusedVariables false
set_option linter.unusedSimpArgs false
namespace Go.Proofs.Ytfhcciepaangiaa

/- plain values. 'ptr', 'sl': into memory of the run's own, by a number; 'ept', 'lst': into cells that nobody writes any more -/
inductive AV where
  | und
  | sc (v : Value)
  | agg (cs : List AV)
  | tup (vs : List AV)
  | nilp
  | ptr (id off : Nat)
  | ept (cs : List AV) (off : Nat)
  | nils
  | lst (n : Nat) (cs : List AV) (ex : Bool)
  | sl (id off esz n cap : Nat) (ex : Bool)
  | fn (f : FuncId) (cs : List AV)
  deriving Inhabited

structure ABlk where
  cells : List AV
  ty : TypeId
  deriving Inhabited

def isSc : Value → Bool
  | .bool _ | .int _ _ | .string _ | .float _ _ => true
  | _ => false

/- a world, the places of the numbers in it, which numbers are given out, what lies in the run's own memory -/
structure Cx where
  w : World
  f : Nat → Nat
  al : Nat → Prop
  M : Nat → Option ABlk
  no : Nat → Prop

def Cx.own (c : Cx) (b : Nat) : Prop := ∃ id blk, c.M id = some blk ∧ c.f id = b
def Cx.stable (c : Cx) (b : Nat) : Prop := b < c.w.heap.size ∧ ¬ c.own b ∧ ¬ c.no b
def CellsAt (w : World) (b o : Nat) (vs : List Value) : Prop := ∀ k v, vs[k]? = some v → w.cell? ⟨b, o + k, none⟩ = some v

mutual
inductive VRel (c : Cx) : AV → Value → Prop
  | und (v : Value) : VRel c .und v
  | sc (v : Value) (h : isSc v = true) : VRel c (.sc v) v
  | agg {cs : List AV} {vs : List Value} (h : Rels c cs vs) : VRel c (.agg cs) (.agg vs.toArray)
  | tup {cs : List AV} {vs : List Value} (h : Rels c cs vs) : VRel c (.tup cs) (.tuple vs.toArray)
  | nilp : VRel c .nilp (.pointer none)
  | ptr {id : Nat} (h : c.al id) (off : Nat) : VRel c (.ptr id off) (.pointer (some ⟨c.f id, off, none⟩))
  | ept {b o : Nat} {cs : List AV} {vs : List Value} (hb : c.stable b) (h : Rels c cs vs) (hc : CellsAt c.w b o vs) (off : Nat) : VRel c (.ept cs off) (.pointer (some ⟨b, o + off, none⟩))
  | nils : VRel c .nils (.slice none 0 0)
  | lst0 (a : Option Addr) (cap : Nat) (ex : Bool) (he : ex = true → cap = 0) (hm : cap ≤ maxLen) (hn : a = none → cap = 0) : VRel c (.lst 0 [] ex) (.slice a 0 cap)
  | lst {b o n : Nat} {cs : List AV} {vs : List Value} {cap : Nat} {ex : Bool} (hb : c.stable b) (h : Rels c cs vs) (hc : CellsAt c.w b o vs) (hn : n ≤ cap) (he : ex = true → cap = n) (hm : cap ≤ maxLen) : VRel c (.lst n cs ex) (.slice (some ⟨b, o, none⟩) n cap)
  | sl {id off esz n cap cap' : Nat} {ex : Bool} {arr : Array Value} {T : TypeId} (h : c.al id) (hb : c.w.heap[c.f id]? = some (.cells arr T)) (hs : off + cap' * esz ≤ arr.size) (hn : n ≤ cap) (hc : cap ≤ cap') (he : ex = true → cap' = cap) (hm : cap' ≤ maxLen) : VRel c (.sl id off esz n cap ex) (.slice (some ⟨c.f id, off, none⟩) n cap')
  | fn (f : FuncId) {cs : List AV} {vs : List Value} (h : Rels c cs vs) : VRel c (.fn f cs) (.func (.func f) #[] vs.toArray)
inductive Rels (c : Cx) : List AV → List Value → Prop
  | nil : Rels c [] []
  | cons {x : AV} {v : Value} {xs : List AV} {vs : List Value} (h : VRel c x v) (t : Rels c xs vs) : Rels c (x :: xs) (v :: vs)
end

/- from one moment of a run to a later one -/
structure Step (c c' : Cx) : Prop where
  os : c'.w.os = c.w.os
  tape : c'.w.tape = c.w.tape
  output : c'.w.output = c.w.output
  size : c.w.heap.size ≤ c'.w.heap.size
  blk : ∀ b, b < c.w.heap.size → ¬ c.own b → c'.w.heap[b]? = c.w.heap[b]?
  own : ∀ b, b < c.w.heap.size → c'.own b → c.own b
  f : ∀ id, c.al id → c'.f id = c.f id
  al : ∀ id, c.al id → c'.al id
  no : ∀ b, c'.no b ↔ c.no b
  shp : ∀ (b : Nat) (arr : Array Value) (T : TypeId), c.w.heap[b]? = some (.cells arr T) → ∃ arr' : Array Value, c'.w.heap[b]? = some (.cells arr' T) ∧ arr'.size = arr.size
  drawn : c.w.drawn ≤ c'.w.drawn

theorem Step.refl (c : Cx) : Step c c := ⟨rfl, rfl, rfl, Nat.le_refl _, fun _ _ _ => rfl, fun _ _ h => h, fun _ _ => rfl, fun _ h => h, fun _ => Iff.rfl, fun b arr T h => ⟨arr, h, rfl⟩, Nat.le_refl _⟩
theorem Step.trans {a b c : Cx} (h : Step a b) (k : Step b c) : Step a c where
  os := k.os.trans h.os
  tape := k.tape.trans h.tape
  output := k.output.trans h.output
  size := Nat.le_trans h.size k.size
  blk := fun x hx hn => (k.blk x (Nat.lt_of_lt_of_le hx h.size) (fun ho => hn (h.own x hx ho))).trans (h.blk x hx hn)
  own := fun x hx ho => h.own x hx (k.own x (Nat.lt_of_lt_of_le hx h.size) ho)
  f := fun id hi => (k.f id (h.al id hi)).trans (h.f id hi)
  al := fun id hi => k.al id (h.al id hi)
  no := fun b => (k.no b).trans (h.no b)
  shp := fun b arr T hb => by
    obtain ⟨a1, h1, s1⟩ := h.shp b arr T hb
    obtain ⟨a2, h2, s2⟩ := k.shp b a1 T h1
    exact ⟨a2, h2, s2.trans s1⟩
  drawn := Nat.le_trans h.drawn k.drawn

theorem Step.stable {c c' : Cx} (h : Step c c') {b : Nat} (hb : c.stable b) : c'.stable b := ⟨Nat.lt_of_lt_of_le hb.1 h.size, fun ho => hb.2.1 (h.own b hb.1 ho), fun hn => hb.2.2 ((h.no b).1 hn)⟩
theorem Step.cellsAt {c c' : Cx} (h : Step c c') {b o : Nat} {vs : List Value} (hb : c.stable b) (hc : CellsAt c.w b o vs) : CellsAt c'.w b o vs := by
  intro k v hv
  have := hc k v hv
  unfold World.cell? at this ⊢
  rw [h.blk b hb.1 hb.2.1]; exact this

mutual
theorem VRel.step {c c' : Cx} (s : Step c c') {x : AV} {v : Value} : VRel c x v → VRel c' x v
  | .und v => .und v
  | .sc v h => .sc v h
  | .agg h => .agg (Rels.step s h)
  | .tup h => .tup (Rels.step s h)
  | .nilp => .nilp
  | .ptr (id := id) h off => s.f id h ▸ VRel.ptr (s.al id h) off
  | .ept hb h hc off => .ept (s.stable hb) (Rels.step s h) (s.cellsAt hb hc) off
  | .nils => .nils
  | .lst0 a cap ex he hm hn => .lst0 a cap ex he hm hn
  | .lst hb h hc hn he hm => .lst (s.stable hb) (Rels.step s h) (s.cellsAt hb hc) hn he hm
  | .sl (id := id) (off := off) (arr := arr) (T := T) h hb hs hn hc he hm => by
    obtain ⟨a', h', hz⟩ := s.shp _ arr T hb
    rw [← s.f id h]
    exact .sl (s.al id h) (by rw [s.f id h]; exact h') (by rw [hz]; exact hs) hn hc he hm
  | .fn f h => .fn f (Rels.step s h)
theorem Rels.step {c c' : Cx} (s : Step c c') {xs : List AV} {vs : List Value} : Rels c xs vs → Rels c' xs vs
  | .nil => .nil
  | .cons h t => .cons (VRel.step s h) (Rels.step s t)
end

theorem Rels.length {c : Cx} {xs : List AV} {vs : List Value} (h : Rels c xs vs) : xs.length = vs.length := by
  induction xs generalizing vs with
  | nil => cases h; rfl
  | cons x xs ih => cases h with | cons h t => simp [ih t]
theorem Rels.get {c : Cx} {xs : List AV} {vs : List Value} (h : Rels c xs vs) {k : Nat} {x : AV} (hk : xs[k]? = some x) : ∃ v, vs[k]? = some v ∧ VRel c x v := by
  induction xs generalizing vs k with
  | nil => simp at hk
  | cons y xs ih =>
    cases h with
    | cons h t =>
      cases k with
      | zero => simp at hk; subst hk; exact ⟨_, rfl, h⟩
      | succ k => simpa using ih t (by simpa using hk)
theorem Rels.of_get {c : Cx} {xs : List AV} {vs : List Value} (hl : xs.length = vs.length) (h : ∀ (k : Nat) (x : AV) (v : Value), xs[k]? = some x → vs[k]? = some v → VRel c x v) : Rels c xs vs := by
  induction xs generalizing vs with
  | nil => cases vs with | nil => exact .nil | cons v vs => simp at hl
  | cons x xs ih =>
    cases vs with
    | nil => simp at hl
    | cons v vs => exact .cons (h 0 x v rfl rfl) (ih (by simpa using hl) fun k y u hy hu => h (k + 1) y u (by simpa using hy) (by simpa using hu))
theorem Rels.append {c : Cx} {xs ys : List AV} {vs us : List Value} (h : Rels c xs vs) (k : Rels c ys us) : Rels c (xs ++ ys) (vs ++ us) := by
  induction xs generalizing vs with
  | nil => cases h; exact k
  | cons x xs ih => cases h with | cons h t => exact .cons h (ih t)
theorem Rels.take {c : Cx} {xs : List AV} {vs : List Value} (h : Rels c xs vs) (n : Nat) : Rels c (xs.take n) (vs.take n) := by
  induction n generalizing xs vs with
  | zero => simp; exact .nil
  | succ n ih =>
    cases h with
    | nil => exact .nil
    | cons h t => exact .cons h (ih t)
theorem Rels.drop {c : Cx} {xs : List AV} {vs : List Value} (h : Rels c xs vs) (n : Nat) : Rels c (xs.drop n) (vs.drop n) := by
  induction n generalizing xs vs with
  | zero => exact h
  | succ n ih =>
    cases h with
    | nil => exact .nil
    | cons h t => exact ih t
theorem Rels.set {c : Cx} {xs : List AV} {vs : List Value} (h : Rels c xs vs) (k : Nat) {x : AV} {v : Value} (hx : VRel c x v) : Rels c (xs.set k x) (vs.set k v) := by
  induction xs generalizing vs k with
  | nil => cases h; exact .nil
  | cons y xs ih =>
    cases h with
    | cons h t =>
      cases k with
      | zero => exact .cons hx t
      | succ k => exact .cons h (ih t k)
theorem Rels.one {c : Cx} {x : AV} {v : Value} (h : VRel c x v) : Rels c [x] [v] := .cons h .nil

/- all is as it is said to be -/
structure Good (B : Nat) (c : Cx) : Prop where
  hB : B ≤ c.w.heap.size
  low : ∀ id blk, c.M id = some blk → B ≤ c.f id ∧ c.al id
  blk : ∀ id blk, c.M id = some blk → ∃ (arr : Array Value) (vs rest : List Value), c.w.heap[c.f id]? = some (.cells arr blk.ty) ∧ arr.toList = vs ++ rest ∧ Rels c blk.cells vs
  nol : ∀ b, c.no b → b < B
  inj : ∀ id id' blk blk', c.M id = some blk → c.M id' = some blk' → c.f id = c.f id' → id = id'

theorem heap_lt {w : World} {b : Nat} {o : Obj} (h : w.heap[b]? = some o) : b < w.heap.size := by
  rcases Nat.lt_or_ge b w.heap.size with h' | h'
  · exact h'
  · rw [Array.getElem?_eq_none h'] at h; cases h

end Go.Proofs.Ytfhcciepaangiaa
