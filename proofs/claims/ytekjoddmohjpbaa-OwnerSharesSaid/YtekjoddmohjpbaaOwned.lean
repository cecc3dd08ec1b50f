/- Rows that a call owns: what a block holds behind stores; clear on a slice of elements of several cells. -/
import Derived.Test.YtekjoddmohjpbaaBase
import Derived.Deep.RegionLaw
import Derived.Deep.RegionHeld3
import Derived.Deep.AppendLies
import Derived.Deep.DrawnRows
import Derived.Deep.Upon
import Derived.Lib.LazyBuf
set_option linter.unusedVariables false
set_option linter.unusedSimpArgs false
namespace Go.Proofs.Ytekjoddmohjpbaa
open Go.RowKit

theorem Blk.setCells {w : World} {b : Nat} {t : TypeId} : ∀ (vs : List Value) (o : Nat) (w : World) (l : List Value), Blk w b (.cells l.toArray t) → o + vs.length ≤ l.length → Blk (w.setCells b o vs) b (.cells (l.take o ++ vs ++ l.drop (o + vs.length)).toArray t)
  | [], o, w, l, h, _ => by simpa [World.setCells] using h
  | v :: r, o, w, l, h, hl => by
    simp only [List.length_cons] at hl
    have h1 := Blk.set h o v
    have h2 : (l.toArray.setIfInBounds o v) = (l.set o v).toArray := by simp
    rw [h2] at h1
    have h3 := Blk.setCells (w := w) r (o + 1) _ (l.set o v) h1 (by simp; omega)
    have h4 : (l.set o v).take (o + 1) ++ r ++ (l.set o v).drop (o + 1 + r.length) = l.take o ++ (v :: r) ++ l.drop (o + (r.length + 1)) := by
      have e1 : (l.set o v).take (o + 1) = l.take o ++ [v] := by
        rw [List.take_succ_eq_append_getElem (by simp; omega)]
        rw [List.take_set, List.set_eq_of_length_le (by simp; omega)]; simp
      have e2 : (l.set o v).drop (o + 1 + r.length) = l.drop (o + (r.length + 1)) := by
        rw [List.drop_set_of_lt (by omega)]
        congr 1; omega
      rw [e1, e2]; simp
    rw [h4] at h3
    exact h3

theorem run_clear_cells {P : Program} (w : World) (t e ty : TypeId) (z : Value) (ht : P.underlying t = some (.slice e)) (hv : ∀ w, (zeroValue e).run P w = .ok z w) (h1 : ∀ v ∈ z.cells, v.oneCell' = true) (b o n c : Nat) (hn : 0 < n)
    (hc : ∀ j, j < n * z.cells.size → (w.cell? ⟨b, o + j, none⟩).isSome = true) (hf : ∀ j, j < n * z.cells.size → w.frozen? ⟨b, o + j, none⟩ = false) :
    (Builtin.clear_ #[t] ty #[.slice (some ⟨b, o, none⟩) n c]).run P w = .ok (.tuple #[]) (w.setCells b o (Builtin.zeroCells z.cells n).toList) := by
  have hl : (Builtin.zeroCells z.cells n).toList.length = n * z.cells.size := by simp [Builtin.zeroCells]
  have h1' : ∀ v ∈ (Builtin.zeroCells z.cells n).toList, v.oneCell' = true := by
    intro v hv'
    simp only [Builtin.zeroCells, Array.toList_map, List.mem_map, Array.toList_range, List.mem_range] at hv'
    obtain ⟨k, hk, rfl⟩ := hv'
    have hp : 0 < z.cells.size := by
      rcases Nat.eq_zero_or_pos z.cells.size with h | h
      · rw [h] at hk; omega
      · exact h
    rw [getElem!_pos z.cells (k % z.cells.size) (Nat.mod_lt _ hp)]
    exact h1 _ (Array.getElem_mem _)
  have hst := run_storeCells_cells (P := P) b o (Builtin.zeroCells z.cells n).toList 0 w (by rw [hl]; simpa using hc) (by rw [hl]; simpa using hf) h1'
  simp only [Nat.add_zero] at hst
  obtain ⟨m, rfl⟩ : ∃ m, n = m + 1 := ⟨n - 1, by omega⟩
  simp [Builtin.clear_, run_underlying ht, hv, hst]

theorem Blk.new1 (w : World) (o o' : Obj) : Blk ((w.alloc o).alloc o') (w.heap.size + 1) o' := by
  have := Blk.new (w.alloc o) o'; simpa using this
theorem ownsRow_ne {w : World} {b : Nat} {e : TypeId} {size : Nat} {v : Value} {n : Nat} {xs : List Value} (h : w.ownsRow (b + 1) e size v n xs) : some b ≠ v.ownBlock := fun hh => by
  have := (h.lt b hh.symm).1; omega
theorem grownBy_setCells {w : World} (b o : Nat) (vs : List Value) : w.grownBy (w.setCells b o vs) (some b) := by
  have hs : ∀ (vs : List Value) (o : Nat) (w : World), (w.setCells b o vs).heap.size = w.heap.size ∧ (w.setCells b o vs).tape = w.tape := by
    intro vs
    induction vs with
    | nil => intro o w; exact ⟨rfl, rfl⟩
    | cons v r ih => intro o w; have := ih (o + 1) (w.setCell ⟨b, o, none⟩ v); exact ⟨this.1.trans (by simp), this.2.trans rfl⟩
  exact ⟨World.os_setCells w b o vs, (hs vs o w).2, World.output_setCells w b o vs, Nat.le_of_eq (hs vs o w).1.symm, fun k hk hne => World.heap_setCells_other w b o vs hk (fun h => hne (by rw [h]))⟩
theorem grownBy_two {a b c : World} {r : Option Nat} (h : a.grownBy b r) (k : b.grownBy c r) : a.grownBy c r :=
  ⟨k.os.trans h.os, k.tape.trans h.tape, k.output.trans h.output, Nat.le_trans h.size k.size, fun q hq hne => (k.block q (Nat.lt_of_lt_of_le hq h.size) hne).trans (h.block q hq hne)⟩
theorem size_setCells' (b : Nat) : ∀ (vs : List Value) (o : Nat) (w : World), (w.setCells b o vs).heap.size = w.heap.size
  | [], _, _ => rfl
  | v :: r, o, w => by simp only [World.setCells]; rw [size_setCells' b r]; simp

/- one element of an owned row is gone; nothing but its block changed -/
def Deleted (w : World) (E : TypeId) (size g n cap i base : Nat) (xs : List Value) (e : Ending) (w' : World) : Prop :=
  e = .returned (.slice (some ⟨g, 0, none⟩) (n - 1) cap) ∧ w'.ownsRow base E size (.slice (some ⟨g, 0, none⟩) (n - 1) cap) (n - 1) (xs.take (i * size) ++ xs.drop ((i + 1) * size)) ∧ w.grownBy w' (some g) ∧ w'.heap.size = w.heap.size

end Go.Proofs.Ytekjoddmohjpbaa
