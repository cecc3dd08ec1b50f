/- Lists of Go values in memory: how a list of elements lies in cells, read and owned (plain laws for every element type). -/
import Derived.Test.YtekjoddmohjpbaaOwned
import Derived.WideShapes
import Derived.Laws.StructEq
set_option linter.unusedVariables false
set_option linter.unusedSimpArgs false
set_option linter.unusedSectionVars false
namespace Go.Proofs.Ytekjoddmohjpbaa
open Go.RowKit

/- how an element lies in cells -/
structure Enc (α : Type) where
  enc : α → List Value
  size : Nat
  len : ∀ x, (enc x).length = size
  one : ∀ x, ∀ u ∈ enc x, u.oneCell' = true
  pos : 0 < size
section
variable {α : Type} [Inhabited α]
def el (l : List α) (k : Nat) : α := l.getD k default
theorem el_get {l : List α} {k : Nat} (h : k < l.length) : l[k]? = some (el l k) := by
  unfold el; rw [List.getD_eq_getElem?_getD, List.getElem?_eq_getElem h]; rfl
theorem el_of {l : List α} {k : Nat} {x : α} (h : l[k]? = some x) : el l k = x := by
  unfold el; rw [List.getD_eq_getElem?_getD, h]; rfl
theorem el_mem {l : List α} {k : Nat} (h : k < l.length) : el l k ∈ l := List.mem_of_getElem? (el_get h)
theorem mem_el {l : List α} {x : α} (h : x ∈ l) : ∃ k, k < l.length ∧ el l k = x := by
  obtain ⟨k, hk, he⟩ := List.getElem_of_mem h
  exact ⟨k, hk, el_of (by rw [List.getElem?_eq_getElem hk, he])⟩
theorem el_append_lt {l m : List α} {j : Nat} (h : j < l.length) : el (l ++ m) j = el l j := el_of (by rw [List.getElem?_append_left h, el_get h])
theorem el_snoc (l : List α) (x : α) : el (l ++ [x]) l.length = x := el_of (by simp)
theorem take_el {l : List α} {k : Nat} (h : k < l.length) : l.take (k + 1) = l.take k ++ [el l k] := by
  rw [List.take_succ_eq_append_getElem h]
  have : l[k]? = some (l[k]) := List.getElem?_eq_getElem h
  rw [el_get h] at this
  rw [Option.some.inj this]
theorem drop_el {l : List α} {k : Nat} (h : k < l.length) : l.drop k = el l k :: l.drop (k + 1) := by
  rw [List.drop_eq_getElem_cons h]
  have : l[k]? = some (l[k]) := List.getElem?_eq_getElem h
  rw [el_get h] at this
  rw [Option.some.inj this]
theorem el_map {β : Type} [Inhabited β] (f : α → β) {l : List α} {k : Nat} (h : k < l.length) : el (l.map f) k = f (el l k) := el_of (by rw [List.getElem?_map, el_get h]; rfl)
theorem el_drop {l : List α} {i k : Nat} : el (l.drop i) k = el l (i + k) := by
  unfold el; rw [List.getD_eq_getElem?_getD, List.getD_eq_getElem?_getD, List.getElem?_drop]
theorem el_take {l : List α} {i k : Nat} (h : k < i) : el (l.take i) k = el l k := by
  unfold el; rw [List.getD_eq_getElem?_getD, List.getD_eq_getElem?_getD, List.getElem?_take, if_pos h]
theorem list_ext {l m : List α} (h : l.length = m.length) (he : ∀ k, k < l.length → el l k = el m k) : l = m := by
  apply List.ext_getElem?
  intro k
  rcases Nat.lt_or_ge k l.length with hk | hk
  · rw [el_get hk, el_get (by omega), he k hk]
  · rw [List.getElem?_eq_none hk, List.getElem?_eq_none (by omega)]

variable (E : Enc α)
def Enc.flat (l : List α) : List Value := l.flatMap E.enc
theorem Enc.flat_nil : E.flat [] = [] := rfl
theorem Enc.flat_cons (x : α) (l : List α) : E.flat (x :: l) = E.enc x ++ E.flat l := rfl
theorem Enc.flat_append (l m : List α) : E.flat (l ++ m) = E.flat l ++ E.flat m := by simp [Enc.flat]
theorem Enc.flat_snoc (l : List α) (x : α) : E.flat (l ++ [x]) = E.flat l ++ E.enc x := by simp [Enc.flat]
theorem Enc.flat_len (l : List α) : (E.flat l).length = l.length * E.size := by
  induction l with
  | nil => simp [Enc.flat]
  | cons x l ih => rw [E.flat_cons, List.length_append, ih, E.len, List.length_cons, Nat.succ_mul, Nat.add_comm]
theorem Enc.flat_one (l : List α) : ∀ u ∈ E.flat l, u.oneCell' = true := by
  intro u hu
  obtain ⟨x, -, hx⟩ := List.mem_flatMap.1 hu
  exact E.one x u hx
theorem Enc.flat_get (l : List α) (i j : Nat) (hi : i < l.length) (hj : j < E.size) : (E.flat l)[i * E.size + j]? = (E.enc (el l i))[j]? := by
  induction l generalizing i with
  | nil => simp at hi
  | cons x l ih =>
    rw [E.flat_cons]
    cases i with
    | zero =>
      rw [Nat.zero_mul, Nat.zero_add, List.getElem?_append_left (by rw [E.len]; exact hj)]
      rfl
    | succ i =>
      rw [List.getElem?_append_right (by rw [E.len, Nat.succ_mul]; omega), E.len, show (i + 1) * E.size + j - E.size = i * E.size + j by rw [Nat.succ_mul]; omega, ih i (by simpa using hi)]
      rfl
theorem Enc.flat_drop (l : List α) (i : Nat) : (E.flat l).drop (i * E.size) = E.flat (l.drop i) := by
  rcases Nat.lt_or_ge l.length i with h | h
  · rw [List.drop_eq_nil_of_le (by rw [E.flat_len]; exact Nat.mul_le_mul_right _ (by omega)), List.drop_eq_nil_of_le (by omega)]; rfl
  · rw [show E.flat l = E.flat (l.take i) ++ E.flat (l.drop i) by rw [← E.flat_append, List.take_append_drop], List.drop_left' (by rw [E.flat_len, List.length_take, Nat.min_eq_left h])]
theorem Enc.flat_take (l : List α) (i : Nat) : (E.flat l).take (i * E.size) = E.flat (l.take i) := by
  rcases Nat.lt_or_ge l.length i with h | h
  · rw [List.take_of_length_le (by rw [E.flat_len]; exact Nat.mul_le_mul_right _ (by omega)), List.take_of_length_le (by omega)]
  · rw [show E.flat l = E.flat (l.take i) ++ E.flat (l.drop i) by rw [← E.flat_append, List.take_append_drop], List.take_left' (by rw [E.flat_len, List.length_take, Nat.min_eq_left h])]
theorem el_set_eq {l : List α} {i : Nat} (h : i < l.length) (y : α) : el (l.set i y) i = y := el_of (by rw [List.getElem?_set, if_pos rfl, if_pos h])
theorem el_set_ne {l : List α} {i k : Nat} (h : i ≠ k) (y : α) : el (l.set i y) k = el l k := by
  unfold el; rw [List.getD_eq_getElem?_getD, List.getD_eq_getElem?_getD, List.getElem?_set, if_neg h]
theorem Enc.flat_set (l : List α) (i j : Nat) (y : α) (v : Value) (hi : i < l.length) (hj : j < E.size) (hy : E.enc y = (E.enc (el l i)).set j v) : (E.flat l).set (i * E.size + j) v = E.flat (l.set i y) := by
  have hp := E.pos
  apply List.ext_getElem?
  intro k
  rw [List.getElem?_set, E.flat_len]
  rcases Nat.lt_or_ge k (l.length * E.size) with hk | hk
  · have h1 : k / E.size < l.length := Nat.div_lt_of_lt_mul (by rw [Nat.mul_comm]; exact hk)
    have h2 : k % E.size < E.size := Nat.mod_lt _ hp
    have h3 : k / E.size * E.size + k % E.size = k := by rw [Nat.mul_comm]; exact Nat.div_add_mod k E.size
    have e1 := E.flat_get l _ _ h1 h2
    have e2 := E.flat_get (l.set i y) (k / E.size) (k % E.size) (by rw [List.length_set]; exact h1) h2
    rw [h3] at e1 e2
    rw [e1, e2]
    by_cases hik : i = k / E.size
    · have hq : (i * E.size + j = k) ↔ j = k % E.size := by
        constructor
        · intro h; rw [← h3, ← hik] at h; omega
        · intro h; rw [h, hik]; exact h3
      rw [← hik, el_set_eq hi, hy, List.getElem?_set, E.len]
      by_cases hj2 : j = k % E.size
      · rw [if_pos (hq.2 hj2), if_pos (by rw [hq.2 hj2]; exact hk), if_pos hj2, if_pos hj]
      · rw [if_neg (fun h => hj2 (hq.1 h)), if_neg hj2]
    · rw [el_set_ne hik]
      rw [if_neg]
      intro h
      apply hik
      rw [← h, Nat.mul_comm, Nat.mul_add_div hp, Nat.div_eq_of_lt hj]; omega
  · rw [List.getElem?_eq_none (by rw [E.flat_len]; exact hk), List.getElem?_eq_none (by rw [E.flat_len, List.length_set]; exact hk), if_neg]
    intro h
    have : i * E.size + j < l.length * E.size := by
      have := Nat.mul_le_mul_right E.size (Nat.succ_le_of_lt hi)
      rw [Nat.succ_mul] at this; omega
    omega
def Enc.cellAt (l : List α) (k : Nat) : Value := (E.flat l).getD k undef
theorem Enc.cellAt_get (l : List α) (k : Nat) (h : k < l.length * E.size) : (E.flat l)[k]? = some (E.cellAt l k) := by
  unfold Enc.cellAt; rw [List.getD_eq_getElem?_getD, List.getElem?_eq_getElem (by rw [E.flat_len]; exact h)]; rfl
theorem Enc.cellAt_one (l : List α) (k : Nat) (h : k < l.length * E.size) : (E.cellAt l k).oneCell' = true := E.flat_one l _ (List.mem_of_getElem? (E.cellAt_get l k h))
/- the list l lies at a -/
def Enc.At (w : World) (a : Option Addr) (l : List α) : Prop := RowAt w E.size a l.length (E.cellAt l)
variable {E}
theorem Enc.At.after {w w' : World} {a : Option Addr} {l : List α} (h : E.At w a l) (hb : Below w.heap.size w w') : E.At w' a l := RowAt.after h hb
theorem Enc.At.below {w w' : World} {a : Option Addr} {l : List α} {B : Nat} (h : E.At w a l) (hb : Below B w w') (hB : w.heap.size ≤ B) : E.At w' a l := RowAt.below h hb hB
theorem Enc.At.cells {w : World} {a : Option Addr} {l : List α} (h : E.At w a l) (i : Nat) (hi : i < l.length) :
    ∃ b off, a = some ⟨b, off, none⟩ ∧ b < w.heap.size ∧ ∀ j, j < E.size → w.cell? ⟨b, off + (i * E.size + j), none⟩ = (E.enc (el l i))[j]? := by
  obtain ⟨b, off, ha, hb, hc⟩ := h (by omega)
  refine ⟨b, off, ha, hb, fun j hj => ?_⟩
  have hk : i * E.size + j < l.length * E.size := by
    have := Nat.mul_le_mul_right E.size (Nat.succ_le_of_lt hi)
    rw [Nat.succ_mul] at this; omega
  rw [hc _ hk, ← E.cellAt_get l _ hk, E.flat_get l i j hi hj]
theorem Enc.At.nil (w : World) (a : Option Addr) : E.At w a [] := fun h => absurd h (by simp)
theorem Enc.At.of_cells {w : World} {b off : Nat} {l : List α} (hb : b < w.heap.size) (h : ∀ i, i < l.length → ∀ j, j < E.size → w.cell? ⟨b, off + (i * E.size + j), none⟩ = (E.enc (el l i))[j]?) : E.At w (some ⟨b, off, none⟩) l := by
  intro _
  refine ⟨b, off, rfl, hb, fun k hk => ?_⟩
  have hp := E.pos
  have h1 : k / E.size < l.length := Nat.div_lt_of_lt_mul (by rw [Nat.mul_comm]; exact hk)
  have h2 : k % E.size < E.size := Nat.mod_lt _ hp
  have h3 : k / E.size * E.size + k % E.size = k := by rw [Nat.mul_comm]; exact Nat.div_add_mod k E.size
  have := h _ h1 _ h2
  rw [h3] at this
  rw [this, ← E.flat_get l _ _ h1 h2, h3, E.cellAt_get l k hk]
theorem Enc.At.block {w : World} {g : Nat} {l : List α} {cs : Array Value} {t : TypeId} (h : Blk w g (.cells cs t)) (hl : cs.toList = E.flat l) : E.At w (some ⟨g, 0, none⟩) l := by
  intro _
  refine ⟨g, 0, rfl, h.lt, fun k hk => ?_⟩
  rw [h.cell, Nat.zero_add, ← Array.getElem?_toList, hl, E.cellAt_get l k hk]
/- a part of a row -/
theorem Enc.At.drop {w : World} {b off : Nat} {l : List α} (h : E.At w (some ⟨b, off, none⟩) l) (i : Nat) : E.At w (some ⟨b, off + i * E.size, none⟩) (l.drop i) := by
  intro hn
  rw [List.length_drop] at hn
  obtain ⟨b', off', ha, hb, -⟩ := h (by omega)
  simp only [Option.some.injEq, Addr.mk.injEq, and_true] at ha
  obtain ⟨rfl, rfl⟩ := ha
  refine (Enc.At.of_cells (E := E) hb fun k hk j hj => ?_) (by rw [List.length_drop]; exact hn)
  rw [List.length_drop] at hk
  obtain ⟨b2, off2, ha2, -, hc2⟩ := h.cells (i + k) (by omega)
  simp only [Option.some.injEq, Addr.mk.injEq, and_true] at ha2
  obtain ⟨rfl, rfl⟩ := ha2
  rw [el_drop, ← hc2 j hj, Nat.add_mul]
  congr 2; omega
theorem Enc.At.take {w : World} {a : Option Addr} {l : List α} (h : E.At w a l) (i : Nat) : E.At w a (l.take i) := by
  intro hn
  rw [List.length_take] at hn
  obtain ⟨b, off, rfl, hb, hc⟩ := h (by omega)
  refine (Enc.At.of_cells (E := E) hb fun k hk j hj => ?_) (by rw [List.length_take]; exact hn)
  rw [List.length_take] at hk
  obtain ⟨b2, off2, ha2, -, hc2⟩ := h.cells k (by omega)
  simp only [Option.some.injEq, Addr.mk.injEq, and_true] at ha2
  obtain ⟨rfl, rfl⟩ := ha2
  rw [el_take (by omega), ← hc2 j hj]
/- the list l lies in a row of the call's own -/
def Enc.Own (E : Enc α) (w : World) (base : Nat) (T : TypeId) (v : Value) (l : List α) : Prop := w.ownsRow base T E.size v l.length (E.flat l)
theorem ownsRow_after {W w' : World} {base : Nat} {e : TypeId} {size : Nat} {v : Value} {n : Nat} {xs : List Value} (h : W.ownsRow base e size v n xs) (hb : Below W.heap.size W w') : w'.ownsRow base e size v n xs := by
  obtain ⟨hl, h | ⟨g, cap, cur, h1, h2, h3, h4⟩⟩ := h
  · exact ⟨hl, .inl h⟩
  · exact ⟨hl, .inr ⟨g, cap, cur, h1, h2, by rw [hb.block g (lt_of_block h3)]; exact h3, h4⟩⟩
theorem ownsRow_base {W : World} {base base' : Nat} {e : TypeId} {size : Nat} {v : Value} {n : Nat} {xs : List Value} (h : W.ownsRow base e size v n xs) (hb : base' ≤ base) : W.ownsRow base' e size v n xs := by
  obtain ⟨hl, h | ⟨g, cap, cur, h1, h2, h3⟩⟩ := h
  · exact ⟨hl, .inl h⟩
  · exact ⟨hl, .inr ⟨g, cap, cur, h1, by omega, h3⟩⟩
theorem ownsRow_blockBelow {W : World} {base : Nat} {e : TypeId} {size : Nat} {v : Value} {n : Nat} {xs : List Value} (h : W.ownsRow base e size v n xs) : ∀ k, v.ownBlock = some k → base ≤ k := fun k hk => (h.lt k hk).1
theorem owned_some {w : World} {base : Nat} {E : TypeId} {size : Nat} {v : Value} {n : Nat} {xs : List Value} (h : w.ownsRow base E size v n xs) (hn : 0 < n) : ∃ g cap, v = .slice (some ⟨g, 0, none⟩) n cap ∧ n ≤ cap ∧ cap ≤ maxLen ∧ base ≤ g ∧ g < w.heap.size := by
  obtain ⟨hl, h | ⟨g, cap, cur, h1, h2, h3, h4, h5, -⟩⟩ := h
  · omega
  · exact ⟨g, cap, h1, h4, h5, h2, lt_of_block h3⟩
theorem Enc.Own.after {E : Enc α} {W w' : World} {base : Nat} {T : TypeId} {v : Value} {l : List α} (h : E.Own W base T v l) (hb : Below W.heap.size W w') : E.Own w' base T v l := ownsRow_after h hb
theorem Enc.Own.base {E : Enc α} {W : World} {base base' : Nat} {T : TypeId} {v : Value} {l : List α} (h : E.Own W base T v l) (hb : base' ≤ base) : E.Own W base' T v l := ownsRow_base h hb
theorem Enc.Own.nil (E : Enc α) (W : World) (base : Nat) (T : TypeId) : E.Own W base T (.slice none 0 0) [] := World.ownsRow_nil _ _ _ _
theorem Enc.Own.at {E : Enc α} {w : World} {base : Nat} {T : TypeId} {v : Value} {l : List α} (h : E.Own w base T v l) :
    ∃ a c, v = .slice a l.length c ∧ l.length ≤ c ∧ c ≤ maxLen ∧ (a = none → l.length = 0) ∧ E.At w a l :=
  ownsRow_at h _ (fun k hk => E.cellAt_get l k hk)
theorem Enc.Own.set {E : Enc α} {w : World} {base : Nat} {T : TypeId} {g n cap : Nat} {l : List α} (h : E.Own w base T (.slice (some ⟨g, 0, none⟩) n cap) l) (hn : n = l.length) (i j : Nat) (y : α) (v : Value) (hi : i < l.length) (hj : j < E.size) (hy : E.enc y = (E.enc (el l i)).set j v) :
    E.Own (w.setCell ⟨g, i * E.size + j, none⟩ v) base T (.slice (some ⟨g, 0, none⟩) n cap) (l.set i y) ∧ w.grownBy (w.setCell ⟨g, i * E.size + j, none⟩ v) (some g) := by
  subst hn
  have h1 := World.ownsRow.stored h (i * E.size + j) v
  refine ⟨?_, h1.2⟩
  show World.ownsRow _ _ _ _ _ (l.set i y).length (E.flat (l.set i y))
  rw [List.length_set, ← E.flat_set l i j y v hi hj hy]
  exact h1.1
theorem Enc.Own.cell {E : Enc α} {w : World} {base : Nat} {T : TypeId} {g n cap : Nat} {l : List α} (h : E.Own w base T (.slice (some ⟨g, 0, none⟩) n cap) l) (hn : n = l.length) (i j : Nat) (hi : i < l.length) (hj : j < E.size) : w.cell? ⟨g, i * E.size + j, none⟩ = (E.enc (el l i))[j]? ∧ w.frozen? ⟨g, i * E.size + j, none⟩ = false := by
  subst hn
  refine ⟨?_, World.ownsRow.frozenAt h _⟩
  have : i * E.size + j < l.length * E.size := by
    have := Nat.mul_le_mul_right E.size (Nat.succ_le_of_lt hi)
    rw [Nat.succ_mul] at this; omega
  rw [World.ownsRow.cellAt h _ this, E.flat_get l i j hi hj]
theorem Enc.Own.lt {E : Enc α} {w : World} {base : Nat} {T : TypeId} {v : Value} {l : List α} (h : E.Own w base T v l) : ∀ k, v.ownBlock = some k → base ≤ k ∧ k < w.heap.size := World.ownsRow.lt h
/- a slice value: its list, with what Go promises of its capacity -/
def Enc.Slc (E : Enc α) (w : World) (a : Option Addr) (c : Nat) (l : List α) : Prop := l.length ≤ c ∧ c ≤ maxLen ∧ (a = none → c = 0) ∧ E.At w a l
theorem Enc.Slc.max {E : Enc α} {w : World} {a : Option Addr} {c : Nat} {l : List α} (h : E.Slc w a c l) : l.length ≤ maxLen := Nat.le_trans h.1 h.2.1
theorem Enc.Slc.none {E : Enc α} {w : World} {a : Option Addr} {c : Nat} {l : List α} (h : E.Slc w a c l) : a = none → l.length = 0 := fun ha => by have h1 := h.2.2.1 ha; have h2 := h.1; omega
theorem Enc.Slc.row {E : Enc α} {w : World} {a : Option Addr} {c : Nat} {l : List α} (h : E.Slc w a c l) : E.At w a l := h.2.2.2
theorem Enc.Slc.after {E : Enc α} {w w' : World} {a : Option Addr} {c : Nat} {l : List α} (h : E.Slc w a c l) (hb : Below w.heap.size w w') : E.Slc w' a c l := ⟨h.1, h.2.1, h.2.2.1, h.2.2.2.after hb⟩
theorem Enc.Slc.below {E : Enc α} {w w' : World} {a : Option Addr} {c : Nat} {l : List α} {B : Nat} (h : E.Slc w a c l) (hb : Below B w w') (hB : w.heap.size ≤ B) : E.Slc w' a c l := ⟨h.1, h.2.1, h.2.2.1, h.2.2.2.below hb hB⟩
theorem Enc.Slc.nil (E : Enc α) (w : World) : E.Slc w .none 0 [] := ⟨Nat.le_refl _, Nat.zero_le _, fun _ => rfl, Enc.At.nil _ _⟩
theorem Enc.Own.slc {E : Enc α} {w : World} {base : Nat} {T : TypeId} {v : Value} {l : List α} (h : E.Own w base T v l) : ∃ a c, v = .slice a l.length c ∧ E.Slc w a c l := by
  obtain ⟨a, c, hv, h1, h2, h3, h4⟩ := h.at
  rcases h.2 with ⟨hn, h0⟩ | ⟨g, cap, cur, hn, -⟩
  · rw [hv] at hn
    simp only [Value.slice.injEq] at hn
    exact ⟨a, c, hv, h1, h2, fun _ => hn.2.2, h4⟩
  · rw [hv] at hn
    simp only [Value.slice.injEq] at hn
    exact ⟨a, c, hv, h1, h2, (fun ha => by rw [ha] at hn; cases hn.1), h4⟩
theorem Enc.Slc.block {E : Enc α} {w : World} {g : Nat} {l : List α} {cs : Array Value} {t : TypeId} (h : Blk w g (.cells cs t)) (hl : cs.toList = E.flat l) (hm : l.length ≤ maxLen) : E.Slc w (some ⟨g, 0, Option.none⟩) l.length l := ⟨Nat.le_refl _, hm, (fun h => by cases h), Enc.At.block h hl⟩
/- the list of what a slice.Clone took -/
theorem Enc.cells_flat (E : Enc α) (l : List α) : (List.range (l.length * E.size)).map (E.cellAt l) = E.flat l := by
  apply List.ext_getElem?
  intro k
  rcases Nat.lt_or_ge k (l.length * E.size) with h | h
  · rw [List.getElem?_map, List.getElem?_range h, E.cellAt_get l k h]; rfl
  · rw [List.getElem?_eq_none (by simpa using h), List.getElem?_eq_none (by rw [E.flat_len]; exact h)]
end
theorem Blk.newAt (X : World) (o : Obj) (k : Nat) (h : k = X.heap.size) : Blk (X.alloc o) k o := by subst h; exact Blk.new X o

/- the first index at which a test holds -/
def firstIx (p : Nat → Bool) : Nat → Int
  | 0 => -1
  | n + 1 => if 0 ≤ firstIx p n then firstIx p n else if p n then n else -1
theorem firstIx_none {p : Nat → Bool} {n : Nat} (h : ∀ j, j < n → p j = false) : firstIx p n = -1 := by
  induction n with
  | zero => rfl
  | succ n ih => rw [firstIx, ih (fun j hj => h j (by omega)), if_neg (by decide), h n (by omega)]; rfl
theorem firstIx_at {p : Nat → Bool} {n i : Nat} (h : ∀ j, j < i → p j = false) (hi : p i = true) (hn : i < n) : firstIx p n = i := by
  induction n with
  | zero => omega
  | succ n ih =>
    rcases Nat.lt_or_ge i n with h' | h'
    · rw [firstIx, ih h', if_pos (by omega)]
    · obtain rfl : i = n := by omega
      rw [firstIx, firstIx_none h, if_neg (by decide), if_pos hi]
theorem firstIx_cases (p : Nat → Bool) (n : Nat) : (firstIx p n = -1 ∧ ∀ j, j < n → p j = false) ∨ ∃ i : Nat, i < n ∧ firstIx p n = i ∧ p i = true ∧ ∀ j, j < i → p j = false := by
  by_cases h : ∀ j, j < n → p j = false
  · exact .inl ⟨firstIx_none h, h⟩
  · right
    induction n with
    | zero => exact absurd (fun j hj => absurd hj (by omega)) h
    | succ n ih =>
      by_cases h' : ∀ j, j < n → p j = false
      · have hp : p n = true := by
          cases hpn : p n with
          | true => rfl
          | false => exact absurd (fun j hj => by rcases Nat.lt_or_ge j n with h2 | h2; exact h' j h2; (obtain rfl : j = n := by omega); exact hpn) h
        exact ⟨n, by omega, firstIx_at h' hp (by omega), hp, h'⟩
      · obtain ⟨i, h1, h2, h3, h4⟩ := ih h'
        exact ⟨i, by omega, firstIx_at h4 h3 (by omega), h3, h4⟩
/- the same over a list -/
def idxP {α : Type} [Inhabited α] (p : α → Bool) (l : List α) : Int := firstIx (fun i => p (el l i)) l.length
theorem idxP_any {α : Type} [Inhabited α] (p : α → Bool) (l : List α) : decide (0 ≤ idxP p l) = l.any p := by
  unfold idxP
  rcases firstIx_cases (fun i => p (el l i)) l.length with ⟨h1, h2⟩ | ⟨i, h1, h2, h3, -⟩
  · rw [h1, decide_eq_false (by decide)]
    symm
    rw [List.any_eq_false]
    intro x hx
    obtain ⟨k, hk, rfl⟩ := mem_el hx
    rw [h2 k hk]; decide
  · rw [h2, decide_eq_true (by omega)]
    symm
    rw [List.any_eq_true]
    exact ⟨_, el_mem h1, h3⟩

/- s[k:] -/
def cutA (a : Option Addr) (c k size : Nat) : Option Addr := if c = k then a else a.map (·.add (k * size))
theorem run_cut {P : Program} {t e : TypeId} {size : Nat} (ht : P.underlying t = some (.slice e)) (hsz : ∀ w, (Go.sizeOf e).run P w = .ok size w) (a : Option Addr) (n c k : Nat) (hk : k ≤ n) (x : Int) (hx : x = (k : Int)) (w : World) :
    (Instr.slice t (.slice a n c) (some (.int .i64 x)) none none).run P w = .ok (.slice (cutA a c k size) (n - k) (c - k)) w := by
  subst hx
  have h1 : (0 : Int) ≤ (k : Int) ∧ (k : Int) ≤ (n : Int) := by omega
  simp [Instr.slice, Instr.sliceBounds, Instr.sliceBound, run_underlying ht, hsz, asIntOf, h1, cutA]
  intro h; omega
theorem Enc.Slc.cut {α : Type} [Inhabited α] {E : Enc α} {w : World} {a : Option Addr} {c : Nat} {l : List α} (h : E.Slc w a c l) (k : Nat) (hk : k ≤ l.length) : E.Slc w (cutA a c k E.size) (c - k) (l.drop k) := by
  obtain ⟨h1, h2, h3, h4⟩ := h
  refine ⟨by rw [List.length_drop]; omega, by omega, ?_, ?_⟩
  · unfold cutA
    split
    · intro ha; have := h3 ha; omega
    · intro ha
      cases a with
      | none => have := h3 rfl; omega
      | some x => simp at ha
  · intro hn
    rw [List.length_drop] at hn
    obtain ⟨b, off, rfl, hb, -⟩ := h4 (by omega)
    unfold cutA
    rw [if_neg (by omega)]
    have := h4.drop k (by rw [List.length_drop]; exact hn)
    simp only [Option.map_some, addr_add]
    exact this
/- s[:k] -/
theorem run_head {P : Program} {t e : TypeId} {size : Nat} (ht : P.underlying t = some (.slice e)) (hsz : ∀ w, (Go.sizeOf e).run P w = .ok size w) (a : Option Addr) (n c k : Nat) (hk : k ≤ c) (x : Int) (hx : x = (k : Int)) (w : World) :
    (Instr.slice t (.slice a n c) none (some (.int .i64 x)) none).run P w = .ok (.slice a k c) w := by
  subst hx
  have h1 : (0 : Int) ≤ (k : Int) ∧ (k : Int) ≤ (c : Int) := by omega
  have h2 : a.map (·.add (0 * size)) = a := by cases a <;> simp [Addr.add]
  simp [Instr.slice, Instr.sliceBounds, Instr.sliceBound, run_underlying ht, hsz, asIntOf, h1] at h2 ⊢
  rw [if_pos (by omega)]
  simp [h2]
theorem Enc.Slc.head {α : Type} [Inhabited α] {E : Enc α} {w : World} {a : Option Addr} {c : Nat} {l : List α} (h : E.Slc w a c l) (k : Nat) : E.Slc w a c (l.take k) := by
  obtain ⟨h1, h2, h3, h4⟩ := h
  exact ⟨by rw [List.length_take]; omega, h2, h3, h4.take k⟩
/- strings compared by their bytes -/
theorem str_inj {a b : ByteArray} (h : a.toList = b.toList) : a = b := by
  rw [ByteArray.toList_eq, ByteArray.toList_eq] at h
  exact Go.WideShapes.bytes_inj h
theorem str_same {a b : ByteArray} (h : a = b) : (a.toList == b.toList) = true := by rw [h]; simp
theorem str_diff {a b : ByteArray} (h : a ≠ b) : (a.toList == b.toList) = false := by simp; exact fun hh => h (str_inj hh)
theorem str_beq (a b : ByteArray) : (a.toList == b.toList) = decide (a = b) := by
  by_cases h : a = b
  · rw [str_same h, decide_eq_true h]
  · rw [str_diff h, decide_eq_false h]
/- integers and strings -/
def intE : Enc Int := ⟨fun x => [.int .i64 x], 1, fun _ => rfl, fun x u hu => by simp at hu; subst hu; rfl, by decide⟩
def strE : Enc ByteArray := ⟨fun x => [.string x], 1, fun _ => rfl, fun x u hu => by simp at hu; subst hu; rfl, by decide⟩
theorem intE_cell {w : World} {a : Option Addr} {l : List Int} (h : intE.At w a l) (i : Nat) (hi : i < l.length) : ∃ b off, a = some ⟨b, off, none⟩ ∧ b < w.heap.size ∧ w.cell? ⟨b, off + i, none⟩ = some (.int .i64 (el l i)) := by
  obtain ⟨b, off, ha, hb, hc⟩ := h.cells i hi
  have := hc 0 (by decide)
  exact ⟨b, off, ha, hb, by simpa [intE] using this⟩
theorem strE_cell {w : World} {a : Option Addr} {l : List ByteArray} (h : strE.At w a l) (i : Nat) (hi : i < l.length) : ∃ b off, a = some ⟨b, off, none⟩ ∧ b < w.heap.size ∧ w.cell? ⟨b, off + i, none⟩ = some (.string (el l i)) := by
  obtain ⟨b, off, ha, hb, hc⟩ := h.cells i hi
  have := hc 0 (by decide)
  exact ⟨b, off, ha, hb, by simpa [strE] using this⟩
theorem intE_flat (l : List Int) : intE.flat l = l.map (Value.int .i64) := by
  induction l with
  | nil => rfl
  | cons x l ih => rw [Enc.flat_cons, ih]; rfl
theorem strE_flat (l : List ByteArray) : strE.flat l = l.map Value.string := by
  induction l with
  | nil => rfl
  | cons x l ih => rw [Enc.flat_cons, ih]; rfl
/- a slice was made, with more results behind it -/
def MadeL {α : Type} [Inhabited α] (E : Enc α) (w : World) (T : TypeId) (l : List α) (more : List Value) (e : Ending) (w' : World) : Prop :=
  ∃ v, e = .returned (.tuple (v :: more).toArray) ∧ E.Own w' w.heap.size T v l ∧ Below w.heap.size w w'
/- a row does not lie in the block that v owns -/
def Free (n : Nat) (a : Option Addr) (v : Value) : Prop := 0 < n → ∀ x, a = some x → v.ownBlock ≠ some x.block
theorem RowAt.grownBy {w w' : World} {size : Nat} {a : Option Addr} {n : Nat} {f : Nat → Value} {v : Value} (h : RowAt w size a n f) (hg : w.grownBy w' v.ownBlock) (hf : Free n a v) : RowAt w' size a n f := by
  intro hn
  obtain ⟨b, off, ha, hlt, hc⟩ := h hn
  refine ⟨b, off, ha, Nat.lt_of_lt_of_le hlt hg.size, fun k hk => ?_⟩
  rw [hg.cell_far ⟨b, off + k, none⟩ hlt (fun h' => hf hn _ ha h'.symm)]
  exact hc k hk
theorem Free.lies {W : World} {size n : Nat} {a : Option Addr} {f : Nat → Value} {v : Value} {g m cap : Nat} (hf : Free n a v) (h : RowAt W size a n f) (hat : v.ownBlock = some g ∨ W.heap.size ≤ g) : Free n a (.slice (some ⟨g, 0, none⟩) m cap) := by
  intro hn x hx
  obtain ⟨b, off, ha, hlt, -⟩ := h hn
  rw [hx] at ha
  obtain rfl := Option.some.inj ha
  show some g ≠ some b
  intro hh
  obtain rfl := Option.some.inj hh
  rcases hat with h1 | h1
  · exact hf hn _ hx h1
  · omega
theorem Free.nil (n : Nat) (a : Option Addr) : Free n a (.slice none 0 0) := fun _ _ _ h => by cases h
theorem Free.newer {W w' : World} {base : Nat} {E E' : TypeId} {size size' n n' m : Nat} {a : Option Addr} {c : Nat} {v : Value} {xs ys : List Value} (hv : W.ownsRow base E size v n' xs) (hu : w'.ownsRow W.heap.size E' size' (.slice a n c) m ys) : Free n a v := by
  intro hn x hx hh
  have h1 := (hv.lt _ hh).2
  have h2 := hu.lt x.block (by rw [hx]; rfl)
  omega

end Go.Proofs.Ytekjoddmohjpbaa
