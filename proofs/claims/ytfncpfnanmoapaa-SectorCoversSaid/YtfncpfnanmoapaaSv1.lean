/- Calls between the rounds of a range over a function: what lay ahead lies as it lay, but for one block. -/
import Derived.Test.YtfncpfnanmoapaaPJ
import Derived.RangeFuncNested
import Derived.RangeFuncBound
import Derived.RangeFuncCalls
import Derived.RangeFuncLeaves
import Derived.Shelf.Abstract
import Derived.Shelf.RegionOpen
import Derived.WalkKit
import Derived.OwnWalkIn
import Derived.TacticsInMore
import Derived.LoopNIn
import Derived.LoopIn
set_option linter.unusedVariables false
set_option linter.unusedSimpArgs false
namespace Go.Proofs.Ytfncpfnanmoapaa
open Go.RowKit Go.Shelf

/- what lay below n lies as it lay, but for block b -/
structure Kx (n b : Nat) (w w' : World) : Prop where
  os : w'.os = w.os
  tape : w'.tape = w.tape
  output : w'.output = w.output
  size : w.heap.size ≤ w'.heap.size
  blk : ∀ k, k < n → k ≠ b → w'.heap[k]? = w.heap[k]?
  drawn : dr w ≤ dr w'
theorem Kx.refl (n b : Nat) (w : World) : Kx n b w w := ⟨rfl, rfl, rfl, Nat.le_refl _, fun _ _ _ => rfl, Nat.le_refl _⟩
theorem Kx.trans {n b : Nat} {x y z : World} (h : Kx n b x y) (k : Kx n b y z) : Kx n b x z := ⟨k.os.trans h.os, k.tape.trans h.tape, k.output.trans h.output, Nat.le_trans h.size k.size, fun i hi hb => (k.blk i hi hb).trans (h.blk i hi hb), Nat.le_trans h.drawn k.drawn⟩
theorem Kx.of_kept {n b : Nat} {w w' : World} (hn : n ≤ w.heap.size) (h : Kept w w') : Kx n b w w' := ⟨h.os, h.tape, h.output, h.size, fun k hk _ => h.blk k (by omega), h.drawn⟩
theorem Kx.mono {n m b : Nat} {w w' : World} (hn : m ≤ n) (h : Kx n b w w') : Kx m b w w' := ⟨h.os, h.tape, h.output, h.size, fun k hk hb => h.blk k (by omega) hb, h.drawn⟩
theorem Kx.cell {n b : Nat} {w w' : World} (h : Kx n b w w') {p : Addr} (hp : p.block < n) (hb : p.block ≠ b) : w'.cell? p = w.cell? p := by simp [World.cell?, h.blk _ hp hb]
theorem Kx.alloc {n b : Nat} {w w' : World} (h : Kx n b w w') (hn : n ≤ w'.heap.size) (o : Obj) : Kx n b w (w'.alloc o) := h.trans (Kx.of_kept hn (Kept.alloc _ _))
theorem Kx.setCell {n b : Nat} {w w' : World} (h : Kx n b w w') (a : Addr) (ha : a.block = b ∨ n ≤ a.block) (v : Value) : Kx n b w (w'.setCell a v) := by
  refine h.trans ⟨rfl, rfl, rfl, by simp, fun k hk hb => ?_, Nat.le_refl _⟩
  exact Below.heap_setCell _ _ _ _ (by omega)
theorem Kx.putObj {n b : Nat} (w : World) (l : Nat) (o : Obj) (hl : n ≤ l) : Kx n b w (w.putObj l o) :=
  ⟨rfl, rfl, rfl, by simp, fun k hk _ => World.putObj_heap_other (by omega), Nat.le_refl _⟩
theorem Kx.grown {n b : Nat} {w w' : World} {row : Option Nat} (hg : w.grownBy w' row) (hn : n ≤ w.heap.size) (hr : ∀ k, row = some k → n ≤ k) (hd : dr w ≤ dr w') : Kx n b w w' :=
  ⟨hg.os, hg.tape, hg.output, hg.size, fun k hk _ => hg.block k (by omega) (fun e => by have := hr k e.symm; omega), hd⟩
/- a context without memory of the run's own -/
structure Bare (c : Cx) : Prop where
  M : ∀ id, c.M id = none
  no : ∀ b, c.no b → b < c.w.heap.size
theorem Bare.own {c : Cx} (h : Bare c) (b : Nat) : ¬ c.own b := fun ⟨id, blk, h1, _⟩ => by rw [h.M id] at h1; cases h1
theorem Bare.good {c : Cx} (h : Bare c) : Good c.w.heap.size c :=
  ⟨Nat.le_refl _, fun id blk h1 => (by rw [h.M id] at h1; cases h1), fun id blk h1 => (by rw [h.M id] at h1; cases h1), h.no, fun id _ blk _ h1 => (by rw [h.M id] at h1; cases h1)⟩
theorem Bare.at {c : Cx} (h : Bare c) {w : World} (hs : c.w.heap.size ≤ w.heap.size) : Bare { c with w := w } := ⟨h.M, fun b hb => Nat.lt_of_lt_of_le (h.no b hb) hs⟩
mutual
theorem VRel.moved {c c' : Cx} (hs : ∀ b, c.stable b → c'.stable b) (hc : ∀ b o vs, c.stable b → CellsAt c.w b o vs → CellsAt c'.w b o vs) {x : AV} {v : Value} : VRel c x v → clean x = true → VRel c' x v
  | .und v, _ => .und v
  | .sc v h, _ => .sc v h
  | .agg h, q => .agg (Rels.moved hs hc h (by simpa [clean] using q))
  | .tup h, q => .tup (Rels.moved hs hc h (by simpa [clean] using q))
  | .nilp, _ => .nilp
  | .ptr h off, q => by simp [clean] at q
  | .ept hb h hce off, q => .ept (hs _ hb) (Rels.moved hs hc h (by simpa [clean] using q)) (hc _ _ _ hb hce) off
  | .nils, _ => .nils
  | .lst0 a cap ex he hm hn, _ => .lst0 a cap ex he hm hn
  | .lst hb h hce hn he hm, q => .lst (hs _ hb) (Rels.moved hs hc h (by simpa [clean] using q)) (hc _ _ _ hb hce) hn he hm
  | .sl h hb hs' hn hc' he hm, q => by simp [clean] at q
  | .fn f h, q => .fn f (Rels.moved hs hc h (by simpa [clean] using q))
  | .ifcN, _ => .ifcN
  | .ifcS u v, _ => .ifcS u v
theorem Rels.moved {c c' : Cx} (hs : ∀ b, c.stable b → c'.stable b) (hc : ∀ b o vs, c.stable b → CellsAt c.w b o vs → CellsAt c'.w b o vs) {xs : List AV} {vs : List Value} : Rels c xs vs → cleans xs = true → Rels c' xs vs
  | .nil, _ => .nil
  | .cons h t, q => .cons (VRel.moved hs hc h (by simp [cleans] at q; exact q.1)) (Rels.moved hs hc t (by simp [cleans] at q; exact q.2))
end
theorem Bare.stab {c : Cx} (h : Bare c) {b : Nat} (hb : c.no b) {w : World} (hk : Kx c.w.heap.size b c.w w) : (∀ k, c.stable k → ({ c with w := w } : Cx).stable k) ∧ ∀ k, c.stable k → w.heap[k]? = c.w.heap[k]? :=
  ⟨fun k ⟨h1, h2, h3⟩ => ⟨Nat.lt_of_lt_of_le h1 hk.size, (h.at hk.size).own k, h3⟩, fun k ⟨h1, h2, h3⟩ => hk.blk k h1 (fun e => h3 (e ▸ hb))⟩
theorem Bare.cat {c : Cx} (h : Bare c) {b : Nat} (hb : c.no b) {w : World} (hk : Kx c.w.heap.size b c.w w) : ∀ k o vs, c.stable k → CellsAt c.w k o vs → CellsAt w k o vs := fun k o vs hs hc j v hv => by
  have := hc j v hv
  rw [← this]
  simp [World.cell?, (h.stab hb hk).2 k hs]
theorem Bare.rels {c : Cx} (h : Bare c) {b : Nat} (hb : c.no b) {w : World} (hk : Kx c.w.heap.size b c.w w) {xs : List AV} {vs : List Value} (hx : cleans xs = true) (r : Rels c xs vs) : Rels { c with w := w } xs vs := r.moved (h.stab hb hk).1 (h.cat hb hk) hx
theorem Bare.glob {gl : Nat → Option (List AV)} {c : Cx} (h : Bare c) {b : Nat} (hb : c.no b) {w : World} (hk : Kx c.w.heap.size b c.w w) (hgl : GlobOk gl c) : GlobOk gl { c with w := w } := fun g cs hg => by
  obtain ⟨h1, h2, h3⟩ := hgl g cs hg
  refine ⟨h1, h2.moved (h.stab hb hk).1 (h.cat hb hk) (by simpa [clean] using h1), fun q => ?_⟩
  obtain ⟨k1, arr, T, fz, k2, k3⟩ := h3 q
  exact ⟨(h.stab hb hk).1 _ k1, arr, T, fz, ((h.stab hb hk).2 _ k1).trans k2, k3⟩
/- a call of a function whose answer is known, between two rounds -/
theorem says_at {P : Program} {gl : Nat → Option (List AV)} {f : FuncId} {args : List AV} {v : AV} (h : Says P gl f args v) {c : Cx} (hc : Bare c) (hgl : GlobOk gl c) {b : Nat} (hb : c.no b) {w : World} (hk : Kx c.w.heap.size b c.w w) {vals : List Value} (hr : Rels c args vals) (n : Nat) :
    CallsIn Fence.wide n P f vals.toArray w (fun e w' => ∃ v', e = .returned v' ∧ Kept w w' ∧ VRel { c with w := w' } v v') := by
  obtain ⟨h1, h2, -, h4⟩ := h
  have hc1 : Bare { c with w := w } := hc.at hk.size
  refine callsIn_wide.2 ((h4 _ { c with w := w } vals hc1.good (hc.glob hb hk hgl) (fun _ _ h => by cases h) (hc.rels hb hk h1 hr)).mono ?_)
  rintro e w' ⟨v', c', rfl, rfl, k1, k2, k3, k4, k5⟩
  refine ⟨v', rfl, ⟨k2.os, k2.tape, k2.output, k2.size, fun i hi => k2.blk i hi (hc1.own i), k2.drawn⟩, VRel.clean_to (c := c') (c0 := { c with w := c'.w }) rfl (fun i ⟨q1, q2, q3⟩ => ⟨q1, (hc1.at (w := c'.w) k2.size).own i, fun q => q3 ((k2.no i).2 q)⟩) k1 h2⟩
end Go.Proofs.Ytfncpfnanmoapaa
