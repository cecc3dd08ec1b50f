/- What task.walk calls. -/
import Derived.Test.YtlgbioidkbeanaaJw
import Derived.Test.YtlgbioidkbeanaaCr
set_option linter.unusedVariables false
set_option linter.unusedSimpArgs false
namespace Go.Proofs.Ytlgbioidkbeanaa
open Go.RowKit Go.Shelf

structure ChOk (l : List (List TJointOption)) (c : List Int) : Prop where
  len : c.length ≤ l.length
  each : ∀ (j : Nat) (x : Int), c[j]? = some x → 0 ≤ x ∧ x < ((l.getD j []).length : Int)
theorem ChOk.snoc {l : List (List TJointOption)} {c : List Int} (h : ChOk l c) {j : Nat} (hl : c.length < l.length) (hj : j < (l.getD c.length []).length) : ChOk l (c ++ [(j : Int)]) := by
  refine ⟨by simp; omega, fun i x hx => ?_⟩
  rcases Nat.lt_or_ge i c.length with q | q
  · rw [List.getElem?_append_left q] at hx
    exact h.each i x hx
  · rw [List.getElem?_append_right q] at hx
    have : i - c.length = 0 := by
      rcases Nat.eq_zero_or_pos (i - c.length) with e | e
      · exact e
      · rw [List.getElem?_eq_none (by simp; omega)] at hx; cases hx
    rw [this] at hx
    simp at hx
    subst hx
    obtain rfl : i = c.length := by omega
    omega
theorem kept_grown0 {w w3 w4 : World} {row : Option Nat} (hk : Kept w w3) (hg : w3.grownBy w4 row) (hr : ∀ b, row = some b → w.heap.size ≤ b) (hd : w3.drawn ≤ w4.drawn) : Kept w w4 := by
  have hs := hk.size
  refine ⟨hg.os.trans hk.os, hg.tape.trans hk.tape, hg.output.trans hk.output, Nat.le_trans hs hg.size, fun k hlt => ?_, Nat.le_trans hk.drawn (dr_le hd)⟩
  exact (hg.block k (by omega) (fun e => by have := hr k e.symm; omega)).trans (hk.blk k hlt)
theorem new1k {wr w2 : World} {x : Value} {T : TypeId} (hk : Kept ((wr.alloc (.cells #[x] T)).drew) w2) : ∀ j u, ([x] : List Value)[j]? = some u → w2.cell? ((⟨wr.heap.size, 0, none⟩ : Addr).add j) = some u := by
  intro j u hu
  have hb : ((⟨wr.heap.size, 0, none⟩ : Addr).add j).block = wr.heap.size := by unfold Addr.add; split <;> rfl
  refine (hk.cell ?_).trans (new1 wr x T j u hu)
  rw [hb]
  show wr.heap.size < (wr.alloc _).heap.size
  simp
theorem own_ge {w : World} {base : Nat} {e : TypeId} {sz : Nat} {v : Value} {k : Nat} {xs : List Value} (h : w.ownsRow base e sz v k xs) : ∀ b, v.ownBlock = some b → base ≤ b := by
  intro b hb
  rcases h.2 with ⟨q, -⟩ | ⟨g, c3, cur, q, q2, -⟩
  · rw [q] at hb; cases hb
  · rw [q] at hb; cases hb; exact q2
theorem snoc_row {w : World} {base : Nat} {v : Value} {c : List Int} {C : Nat} (hC : c.length = C) {z : Int} (h : w.ownsRow base 3 1 v (C + 1) (c.map (Value.int .i64) ++ [.int .i64 z])) : w.ownsRow base 3 1 v (c ++ [z]).length ((c ++ [z]).map (Value.int .i64)) := by
  have e1 : (c ++ [z]).length = C + 1 := by simp [hC]
  have e2 : (c ++ [z]).map (Value.int .i64) = c.map (Value.int .i64) ++ [.int .i64 z] := by simp
  rw [e1, e2]; exact h
theorem both2 {w : World} {b : Nat} {x y : Value} {T : TypeId} (h : w.heap[b]? = some (.cells #[x, y] T (0, 0))) : w.cell? ⟨b, 0, none⟩ = some x ∧ w.cell? ⟨b, 1, none⟩ = some y := by simp [World.cell?, h]
theorem getD_lst {l : List (List TJointOption)} {i : Nat} (h : i < l.length) : l.getD i [] = l[i] := by simp [List.getD, h]
theorem with_of {l : List (List TJointOption)} (hl6 : l.length ≤ 6) (hl8 : ∀ o ∈ l, o.length ≤ 8) {cl : Nat → Nat → Nat → Nat → Bool} {mb n : Nat} {f : Int → Int → Int → Int → Bool} (hf : ∀ i k m q : Nat, i < k → k < l.length → m < (l.getD i []).length → q < (l.getD k []).length → f (i : Int) (k : Int) (m : Int) (q : Int) = cl i k m q)
    {c : List Int} (hco : ChOk l c) (hne : c ≠ []) {no : Nat → Prop} {W : World} {lv v : Value} (hr : VRel (cxA no W) (lstA intE c) v) (hM : MapIs W mb n f) :
    Calls Try.prog 43 #[.agg #[lv, .map (some mb)], v] W fun e w' => e = .returned (.int .i64 (withF cl c)) ∧ Kept W w' := by
  obtain ⟨K, hK⟩ : ∃ K, c.length = K + 1 := ⟨c.length - 1, by cases c with | nil => exact absurd rfl hne | cons x c => simp⟩
  have hcl := hco.len
  have small : ∀ (j : Nat) (x : Int), c[j]? = some x → 0 ≤ x ∧ x < ((l.getD j []).length : Int) ∧ x ≤ 1000 := fun j x hx => by
    have h1 := hco.each j x hx
    have hj : j < l.length := Nat.lt_of_lt_of_le (List.getElem?_eq_some_iff.1 hx).1 hcl
    have := hl8 (l[j]) (List.getElem_mem hj)
    rw [getD_lst hj] at h1 ⊢
    omega
  refine with_calls hr hK (by omega) hM (fun x hx => ?_) (fun i hi => ?_)
  · obtain ⟨j, hj, rfl⟩ := List.getElem_of_mem hx
    have := small j _ (List.getElem?_eq_getElem hj)
    exact ⟨this.1, this.2.2⟩
  · obtain ⟨x, hx⟩ : ∃ x, c[i]? = some x := ⟨_, List.getElem?_eq_getElem (by omega)⟩
    obtain ⟨y, hy⟩ : ∃ y, c[K]? = some y := ⟨_, List.getElem?_eq_getElem (by omega)⟩
    have h1 := small i x hx
    have h2 := small K y hy
    rw [getD_of hx, getD_of hy]
    have := hf i K x.toNat y.toNat hi (by omega) (by omega) (by omega)
    rw [Int.toNat_of_nonneg h1.1, Int.toNat_of_nonneg h2.1] at this
    exact this
end Go.Proofs.Ytlgbioidkbeanaa
