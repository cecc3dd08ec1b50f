/- What a block of memory holds, carried over calls that change nothing that was there (small laws for the walks of this seat). -/
import Derived.Test.YtkdodbfnocdkdaaGreatDoorRows
import Derived.WalkKit
import Derived.WalkSpells
import Derived.WalkLawsBesides
import Derived.RegionTactic
import Derived.ChangeAlike
import Derived.Lib.Hide
import Derived.Handy
import Derived.Deep.RegionWith
import Derived.Deep.QuietTactic
import Derived.BigQuiet
import Derived.OneCell
import Derived.Lib.SliceRun
set_option linter.unusedVariables false
set_option linter.unusedSimpArgs false
namespace Go.Proofs.YtkdodbfnocdkdaaGreatDoor
open Go.RowKit

theorem ret_int {k : IntKind} {a b : Int} (h : a = b) : Ending.returned (.int k a) = .returned (.int k b) := by rw [h]
theorem ret_eq {a b : Value} (h : a = b) : Ending.returned a = .returned b := by rw [h]
theorem ret_bool {a b : Bool} (h : a = b) : Ending.returned (.bool a) = .returned (.bool b) := by rw [h]

def valErr (v r : Int) : Value := if r = 0 then .tuple #[.int .i64 v, .int .i64 0] else .tuple #[.int .i64 0, .int .i64 r]
theorem valErr_zero (v : Int) : valErr v 0 = .tuple #[.int .i64 v, .int .i64 0] := rfl
theorem valErr_ne {v r : Int} (h : r ≠ 0) : valErr v r = .tuple #[.int .i64 0, .int .i64 r] := if_neg h

theorem valErr_form (v r : Int) : ∃ u, valErr v r = .tuple #[.int .i64 u, .int .i64 r] ∧ (r = 0 → u = v) ∧ (r ≠ 0 → u = 0) := by
  by_cases h : r = 0
  · subst h; exact ⟨v, rfl, fun _ => rfl, fun h => absurd rfl h⟩
  · exact ⟨0, valErr_ne h, fun h' => absurd h' h, fun _ => rfl⟩

theorem addr_add (b off j : Nat) : (⟨b, off, none⟩ : Addr).add j = ⟨b, off + j, none⟩ := by
  unfold Addr.add; split
  · rename_i h; subst h; rfl
  · rfl

def Blk (w : World) (b : Nat) (o : Obj) : Prop := w.heap[b]? = some o

theorem Blk.lt {w : World} {b : Nat} {o : Obj} (h : Blk w b o) : b < w.heap.size := lt_of_block h
theorem Blk.new (w : World) (o : Obj) : Blk (w.alloc o) w.heap.size o := by show (w.heap.push o)[w.heap.size]? = some o; simp
theorem Blk.alloc {w : World} {b : Nat} {o : Obj} (h : Blk w b o) (o' : Obj) : Blk (w.alloc o') b o := by
  unfold Blk at *; rw [Below.heap_alloc w o' b (lt_of_block h)]; exact h
theorem Blk.drew {w : World} {b : Nat} {o : Obj} (h : Blk w b o) : Blk w.drew b o := h
theorem Blk.drewN {w : World} {b : Nat} {o : Obj} (h : Blk w b o) (n : Nat) : Blk (w.drewN n) b o := by
  unfold Blk at *; induction n generalizing w with
  | zero => exact h
  | succ n ih => exact ih (w := w.drew) h
theorem Blk.below {w w' : World} {b B : Nat} {o : Obj} (h : Blk w b o) (hb : Below B w w') (hB : b < B) : Blk w' b o := by
  unfold Blk at *; rw [hb.block b hB]; exact h
theorem Blk.after {w w' : World} {b : Nat} {o : Obj} (h : Blk w b o) (hb : Below w.heap.size w w') : Blk w' b o := h.below hb h.lt
theorem Blk.other {w : World} {b : Nat} {o : Obj} (h : Blk w b o) {a : Addr} (ha : b ≠ a.block) (v : Value) : Blk (w.setCell a v) b o := by
  unfold Blk at *; rw [Below.heap_setCell w a v b ha]; exact h
theorem Blk.set {w : World} {b : Nat} {c : Array Value} {t : TypeId} {fr : Nat × Nat} (h : Blk w b (.cells c t fr)) (j : Nat) (v : Value) : Blk (w.setCell ⟨b, j, none⟩ v) b (.cells (c.setIfInBounds j v) t fr) := by
  have hlt := lt_of_block h
  have h' : w.heap[b] = .cells c t fr := by unfold Blk at h; simpa [Array.getElem?_eq_getElem hlt] using h
  show (w.heap.modify b _)[b]? = _
  rw [Array.getElem?_eq_getElem (by simpa using hlt), Array.getElem_modify_self, h']
  rfl
theorem Blk.cell {w : World} {b : Nat} {c : Array Value} {t : TypeId} {fr : Nat × Nat} (h : Blk w b (.cells c t fr)) (j : Nat) : w.cell? ⟨b, j, none⟩ = c[j]? := by
  unfold Blk at h; simp [World.cell?, h]
theorem Blk.get {w : World} {b : Nat} {c : Array Value} {t : TypeId} {fr : Nat × Nat} (h : Blk w b (.cells c t fr)) (j : Nat) (v : Value) (hv : c[j]? = some v) : w.cell? ⟨b, j, none⟩ = some v := by
  rw [h.cell, hv]
theorem Blk.free {w : World} {b : Nat} {c : Array Value} {t : TypeId} (h : Blk w b (.cells c t)) (j : Nat) : w.frozen? ⟨b, j, none⟩ = false := by
  unfold Blk at h; simp [World.frozen?, h]
theorem Blk.one {w : World} {b : Nat} {x : Value} {t : TypeId} (h : Blk w b (.cells #[x] t)) :
    b < w.heap.size ∧ w.cell? ⟨b, 0, none⟩ = some x ∧ w.frozen? ⟨b, 0, none⟩ = false :=
  ⟨h.lt, h.cell 0, h.free 0⟩
theorem Blk.two {w : World} {b : Nat} {x y : Value} {t : TypeId} (h : Blk w b (.cells #[x, y] t)) :
    b < w.heap.size ∧ w.cell? ⟨b, 0, none⟩ = some x ∧ w.cell? ⟨b, 1, none⟩ = some y ∧ w.frozen? ⟨b, 0, none⟩ = false ∧ w.frozen? ⟨b, 1, none⟩ = false :=
  ⟨h.lt, h.cell 0, h.cell 1, h.free 0, h.free 1⟩
theorem Blk.three {w : World} {b : Nat} {x y z : Value} {t : TypeId} (h : Blk w b (.cells #[x, y, z] t)) :
    b < w.heap.size ∧ w.cell? ⟨b, 0, none⟩ = some x ∧ w.cell? ⟨b, 1, none⟩ = some y ∧ w.cell? ⟨b, 2, none⟩ = some z ∧ w.frozen? ⟨b, 0, none⟩ = false ∧ w.frozen? ⟨b, 1, none⟩ = false ∧ w.frozen? ⟨b, 2, none⟩ = false :=
  ⟨h.lt, h.cell 0, h.cell 1, h.cell 2, h.free 0, h.free 1, h.free 2⟩
theorem Blk.four {w : World} {b : Nat} {x y z u : Value} {t : TypeId} (h : Blk w b (.cells #[x, y, z, u] t)) :
    b < w.heap.size ∧ w.cell? ⟨b, 0, none⟩ = some x ∧ w.cell? ⟨b, 1, none⟩ = some y ∧ w.cell? ⟨b, 2, none⟩ = some z ∧ w.cell? ⟨b, 3, none⟩ = some u ∧ w.frozen? ⟨b, 0, none⟩ = false ∧ w.frozen? ⟨b, 1, none⟩ = false ∧ w.frozen? ⟨b, 2, none⟩ = false ∧ w.frozen? ⟨b, 3, none⟩ = false :=
  ⟨h.lt, h.cell 0, h.cell 1, h.cell 2, h.cell 3, h.free 0, h.free 1, h.free 2, h.free 3⟩

/- after a call whose contract says that nothing below the heap's size changed -/
theorem Below.step {B : Nat} {w W w' : World} (h : Below B w W) (hb : Below W.heap.size W w') (hB : B ≤ W.heap.size) : Below B w w' := h.trans (hb.mono hB)
theorem bcell {W w1 : World} (hb : Below W.heap.size W w1) : (∀ b o, b < W.heap.size → w1.cell? ⟨b, o, none⟩ = W.cell? ⟨b, o, none⟩) ∧ (∀ b o, b < W.heap.size → w1.frozen? ⟨b, o, none⟩ = W.frozen? ⟨b, o, none⟩) :=
  ⟨fun b o h => hb.cell (p := ⟨b, o, none⟩) h, fun b o h => hb.frozen (p := ⟨b, o, none⟩) h⟩

/- n elements of 'size' cells each lie at address a: cell k holds f k (a slice that came in, or one that was made; nothing is said where n = 0) -/
def RowAt (w : World) (size : Nat) (a : Option Addr) (n : Nat) (f : Nat → Value) : Prop :=
  0 < n → ∃ b off, a = some ⟨b, off, none⟩ ∧ b < w.heap.size ∧ ∀ k, k < n * size → w.cell? ⟨b, off + k, none⟩ = some (f k)
theorem RowAt.below {w w' : World} {size : Nat} {a : Option Addr} {n B : Nat} {f : Nat → Value} (h : RowAt w size a n f) (hb : Below B w w') (hB : w.heap.size ≤ B) : RowAt w' size a n f := by
  intro hn
  obtain ⟨b, off, ha, hlt, hc⟩ := h hn
  refine ⟨b, off, ha, Nat.lt_of_lt_of_le hlt hb.size, fun k hk => ?_⟩
  rw [hb.cell (p := ⟨b, off + k, none⟩) (by exact Nat.lt_of_lt_of_le hlt hB)]
  exact hc k hk
theorem RowAt.after {w w' : World} {size : Nat} {a : Option Addr} {n : Nat} {f : Nat → Value} (h : RowAt w size a n f) (hb : Below w.heap.size w w') : RowAt w' size a n f := h.below hb (Nat.le_refl _)
/- a row of integers -/
abbrev IntsAt (w : World) (a : Option Addr) (n : Nat) (z : Nat → Int) : Prop := RowAt w 1 a n (fun k => .int .i64 (z k))
theorem int_cell {w : World} {b off n : Nat} {z : Nat → Int} (h : ∀ k, k < n * 1 → w.cell? ⟨b, off + k, none⟩ = some (.int .i64 (z k))) (k : Nat) (hk : k < n) : w.cell? ⟨b, off + k, none⟩ = some (.int .i64 (z k)) := h k (by omega)

/- a slice that was made: it owns its cells, in memory that is new since w -/
def Made (w : World) (E : TypeId) (size n : Nat) (xs : List Value) (isNil : Prop) (e : Ending) (w' : World) : Prop :=
  ∃ v, e = .returned v ∧ w'.ownsRow w.heap.size E size v n xs ∧ Below w.heap.size w w' ∧ (v = .slice none 0 0 ↔ isNil)

theorem ownsRow_at {w : World} {base : Nat} {E : TypeId} {size : Nat} {v : Value} {n : Nat} {xs : List Value} (h : w.ownsRow base E size v n xs) (f : Nat → Value) (hf : ∀ k, k < n * size → xs[k]? = some (f k)) :
    ∃ a c, v = .slice a n c ∧ n ≤ c ∧ c ≤ maxLen ∧ (a = none → n = 0) ∧ RowAt w size a n f := by
  obtain ⟨hl, h | ⟨g, cap, cur, hv, hg, hh, hn, hm, hsz, ht⟩⟩ := h
  · obtain ⟨rfl, rfl⟩ := h
    exact ⟨none, 0, rfl, Nat.le_refl _, Nat.zero_le _, fun _ => rfl, fun h => absurd h (by omega)⟩
  · refine ⟨some ⟨g, 0, none⟩, cap, hv, hn, hm, fun h => by simp at h, fun _ => ⟨g, 0, rfl, lt_of_block hh, fun k hk => ?_⟩⟩
    have := Blk.cell (w := w) (b := g) (fr := (0, 0)) hh (0 + k)
    rw [this, Nat.zero_add]
    have h2 := hf k hk
    rw [← ht, List.getElem?_take, if_pos hk] at h2
    simpa using h2

end Go.Proofs.YtkdodbfnocdkdaaGreatDoor
