/- What a block of memory holds, carried over calls that change nothing that was there (small laws for the walks of this seat). -/
import Derived.Test.YtacdkldpnpjonaaRows
import Derived.WalkKit
import Derived.WalkSpells
import Derived.WalkLawsBesides
import Derived.RegionTactic
import Derived.ChangeAlike
import Derived.Lib.Hide
import Derived.Handy
import Derived.Deep.RegionWith
import Derived.Deep.QuietTactic
import Derived.BigQuiet
import Derived.OneCell
namespace Go.Proofs.Ytacdkldpnpjonaa
open Go.RowKit

theorem ret_int {k : IntKind} {a b : Int} (h : a = b) : Ending.returned (.int k a) = .returned (.int k b) := by rw [h]
theorem ret_eq {a b : Value} (h : a = b) : Ending.returned a = .returned b := by rw [h]
theorem ret_bool {a b : Bool} (h : a = b) : Ending.returned (.bool a) = .returned (.bool b) := by rw [h]

def Blk (w : World) (b : Nat) (o : Obj) : Prop := w.heap[b]? = some o

theorem Blk.lt {w : World} {b : Nat} {o : Obj} (h : Blk w b o) : b < w.heap.size := lt_of_block h
theorem Blk.new (w : World) (o : Obj) : Blk (w.alloc o) w.heap.size o := by show (w.heap.push o)[w.heap.size]? = some o; simp
theorem Blk.alloc {w : World} {b : Nat} {o : Obj} (h : Blk w b o) (o' : Obj) : Blk (w.alloc o') b o := by
  unfold Blk at *; rw [Below.heap_alloc w o' b (lt_of_block h)]; exact h
theorem Blk.drew {w : World} {b : Nat} {o : Obj} (h : Blk w b o) : Blk w.drew b o := h
theorem Blk.below {w w' : World} {b B : Nat} {o : Obj} (h : Blk w b o) (hb : Below B w w') (hB : b < B) : Blk w' b o := by
  unfold Blk at *; rw [hb.block b hB]; exact h
theorem Blk.after {w w' : World} {b : Nat} {o : Obj} (h : Blk w b o) (hb : Below w.heap.size w w') : Blk w' b o := h.below hb h.lt
theorem Blk.other {w : World} {b : Nat} {o : Obj} (h : Blk w b o) {a : Addr} (ha : b ≠ a.block) (v : Value) : Blk (w.setCell a v) b o := by
  unfold Blk at *; rw [Below.heap_setCell w a v b ha]; exact h
theorem Blk.set {w : World} {b : Nat} {c : Array Value} {t : TypeId} {fr : Nat × Nat} (h : Blk w b (.cells c t fr)) (j : Nat) (v : Value) : Blk (w.setCell ⟨b, j, none⟩ v) b (.cells (c.setIfInBounds j v) t fr) := by
  have hlt := lt_of_block h
  have h' : w.heap[b] = .cells c t fr := by unfold Blk at h; simpa [Array.getElem?_eq_getElem hlt] using h
  show (w.heap.modify b _)[b]? = _
  rw [Array.getElem?_eq_getElem (by simpa using hlt), Array.getElem_modify_self, h']
  rfl
theorem Blk.cell {w : World} {b : Nat} {c : Array Value} {t : TypeId} {fr : Nat × Nat} (h : Blk w b (.cells c t fr)) (j : Nat) : w.cell? ⟨b, j, none⟩ = c[j]? := by
  unfold Blk at h; simp [World.cell?, h]
theorem Blk.free {w : World} {b : Nat} {c : Array Value} {t : TypeId} (h : Blk w b (.cells c t)) (j : Nat) : w.frozen? ⟨b, j, none⟩ = false := by
  unfold Blk at h; simp [World.frozen?, h]
theorem Blk.one {w : World} {b : Nat} {x : Value} {t : TypeId} (h : Blk w b (.cells #[x] t)) :
    b < w.heap.size ∧ w.cell? ⟨b, 0, none⟩ = some x ∧ w.frozen? ⟨b, 0, none⟩ = false :=
  ⟨h.lt, h.cell 0, h.free 0⟩
theorem Blk.two {w : World} {b : Nat} {x y : Value} {t : TypeId} (h : Blk w b (.cells #[x, y] t)) :
    b < w.heap.size ∧ w.cell? ⟨b, 0, none⟩ = some x ∧ w.cell? ⟨b, 1, none⟩ = some y ∧ w.frozen? ⟨b, 0, none⟩ = false ∧ w.frozen? ⟨b, 1, none⟩ = false :=
  ⟨h.lt, h.cell 0, h.cell 1, h.free 0, h.free 1⟩
theorem Blk.three {w : World} {b : Nat} {x y z : Value} {t : TypeId} (h : Blk w b (.cells #[x, y, z] t)) :
    b < w.heap.size ∧ w.cell? ⟨b, 0, none⟩ = some x ∧ w.cell? ⟨b, 1, none⟩ = some y ∧ w.cell? ⟨b, 2, none⟩ = some z ∧ w.frozen? ⟨b, 0, none⟩ = false ∧ w.frozen? ⟨b, 1, none⟩ = false ∧ w.frozen? ⟨b, 2, none⟩ = false :=
  ⟨h.lt, h.cell 0, h.cell 1, h.cell 2, h.free 0, h.free 1, h.free 2⟩
theorem Blk.four {w : World} {b : Nat} {x y z u : Value} {t : TypeId} (h : Blk w b (.cells #[x, y, z, u] t)) :
    b < w.heap.size ∧ w.cell? ⟨b, 0, none⟩ = some x ∧ w.cell? ⟨b, 1, none⟩ = some y ∧ w.cell? ⟨b, 2, none⟩ = some z ∧ w.cell? ⟨b, 3, none⟩ = some u ∧ w.frozen? ⟨b, 0, none⟩ = false ∧ w.frozen? ⟨b, 1, none⟩ = false ∧ w.frozen? ⟨b, 2, none⟩ = false ∧ w.frozen? ⟨b, 3, none⟩ = false :=
  ⟨h.lt, h.cell 0, h.cell 1, h.cell 2, h.cell 3, h.free 0, h.free 1, h.free 2, h.free 3⟩

/- after a call whose contract says that nothing below the heap's size changed -/
theorem Below.step {B : Nat} {w W w' : World} (h : Below B w W) (hb : Below W.heap.size W w') (hB : B ≤ W.heap.size) : Below B w w' := h.trans (hb.mono hB)
theorem bcell {W w1 : World} (hb : Below W.heap.size W w1) : (∀ b o, b < W.heap.size → w1.cell? ⟨b, o, none⟩ = W.cell? ⟨b, o, none⟩) ∧ (∀ b o, b < W.heap.size → w1.frozen? ⟨b, o, none⟩ = W.frozen? ⟨b, o, none⟩) :=
  ⟨fun b o h => hb.cell (p := ⟨b, o, none⟩) h, fun b o h => hb.frozen (p := ⟨b, o, none⟩) h⟩

end Go.Proofs.Ytacdkldpnpjonaa
