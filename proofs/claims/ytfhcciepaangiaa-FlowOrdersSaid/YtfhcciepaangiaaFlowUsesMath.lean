/- Using up slots one by one: the plain law. -/
import Derived.Test.YtfhcciepaangiaaFlowFact
set_option linter.unusedVariables false
set_option linter.unusedSimpArgs false
namespace Go.Proofs.Ytfhcciepaangiaa
open Go.RowKit
attribute [local go_sem ↓] Go.wp_at_zero Go.wp_at_succ

theorem cnt_congr {n : Nat} {F T : Nat → Int} {z y : Nat → Int} {i : Int} {m : Nat} (h : ∀ j, j < m → z j = y j) : cnt n F T z i m = cnt n F T y i m := by
  induction m with
  | zero => rfl
  | succ m ih => rw [cnt, cnt, ih (fun j hj => h j (by omega)), h m (by omega)]
theorem nth_snoc_lt {l : List Int} {x : Int} {j : Nat} (h : j < l.length) : nth (l ++ [x]) j = nth l j := by
  apply nth_of; rw [List.getElem?_append_left h, nth_get h]
theorem nth_snoc_eq (l : List Int) (x : Int) : nth (l ++ [x]) l.length = x := by
  apply nth_of; simp
theorem cnt_snoc (n : Nat) (F T : Nat → Int) (l : List Int) (x i : Int) : cnt n F T (nth (l ++ [x])) i (l ++ [x]).length = cnt n F T (nth l) i l.length + if capIx n F T x = i then 1 else 0 := by
  rw [List.length_append, List.length_singleton, cnt, nth_snoc_eq, cnt_congr (y := nth l) (fun j hj => nth_snoc_lt hj)]
def sumN (M : Nat → Int) : Nat → Int
  | 0 => 0
  | k + 1 => sumN M k + M k
theorem sumN_congr {M M' : Nat → Int} {n : Nat} (h : ∀ k, k < n → M k = M' k) : sumN M n = sumN M' n := by
  induction n with
  | zero => rfl
  | succ n ih => rw [sumN, sumN, ih (fun k hk => h k (by omega)), h n (by omega)]
theorem roomS_all {T M : Nat → Int} {n : Nat} (h : ∀ k, k < n → 0 < T k) : roomS T M 0 n = sumN M n := by
  induction n with
  | zero => rfl
  | succ n ih => rw [roomS, sumN, ih (fun k hk => h k (by omega)), if_pos (h n (by omega))]
theorem sumN_less {n : Nat} {F T M : Nat → Int} {x : Int} {i : Nat} (hi : i < n) (hx : capIx n F T x = i) : ∀ m, m ≤ n → sumN (lessM n F T M x) m = sumN M m - if i < m then 1 else 0
  | 0, _ => by rw [if_neg (by omega)]; rfl
  | m + 1, h => by
    rw [sumN, sumN, sumN_less hi hx m (by omega), lessM, hx]
    split <;> split <;> split <;> omega
structure UInv (n : Nat) (F T M M' : Nat → Int) (us : List Int) : Prop where
  left : ∀ k, k < n → 0 ≤ M' k ∧ M' k + cnt n F T (nth us) k us.length = M k
  time : ∀ j, j < us.length → 0 ≤ nth us j ∧ nth us j ≤ 200000
  sum : sumN M' n + us.length = sumN M n
theorem UInv.start (n : Nat) (F T M : Nat → Int) (h : fchk n F T M = 0) : UInv n F T M M [] :=
  ⟨fun k hk => ⟨((fchk_good h).2 k hk).2.2.2.1, by show M k + 0 = M k; omega⟩, fun j hj => absurd hj (by simp), by simp⟩
theorem fchk_keeps {n : Nat} {F T M M' : Nat → Int} (h : fchk n F T M = 0) (hM : ∀ k, k < n → 0 ≤ M' k ∧ M' k ≤ M k) : fchk n F T M' = 0 := by
  have hn := (fchk_good h).1
  unfold fchk at h ⊢
  rw [if_neg (by omega)] at h ⊢
  have hg := fsc_good h
  apply fsc_of
  intro k hk
  obtain ⟨h1, h2⟩ := hg k hk
  have := hM k hk
  refine ⟨?_, h2⟩
  unfold fbad at h1 ⊢
  omega
theorem UInv.ok {n : Nat} {F T M M' : Nat → Int} {us : List Int} (h : UInv n F T M M' us) (hc : fchk n F T M = 0) : fchk n F T M' = 0 :=
  fchk_keeps hc fun k hk => by
    have h1 := h.left k hk
    have h2 := cnt_in n F T (nth us) k us.length
    exact ⟨h1.1, by omega⟩
theorem UInv.next {n : Nat} {F T M M' : Nat → Int} {us : List Int} {x : Int} (h : UInv n F T M M' us) (hc : fchk n F T M = 0) (hl : lessE n F T M' x = 0) : UInv n F T M (lessM n F T M' x) (us ++ [x]) := by
  have hg := (fchk_good hc).2
  unfold lessE at hl
  by_cases ha : atE n F T M' x = 0
  · rw [if_neg (by omega)] at hl
    unfold atE at ha
    rw [h.ok hc, if_neg (by decide)] at ha
    rcases capIx_cases n F T x with hx | ⟨i, hin, hx, h1, h2⟩
    · rw [hx, if_pos (by decide)] at ha; omega
    rw [hx] at hl
    have hM : M' i ≠ 0 := by
      intro h0
      rw [if_pos (by simpa using h0)] at hl; omega
    refine ⟨fun k hk => ?_, fun j hj => ?_, ?_⟩
    · rw [cnt_snoc, lessM, hx]
      have hk1 := h.left k hk
      by_cases hki : k = i
      · subst hki; rw [if_pos rfl, if_pos rfl]; omega
      · rw [if_neg (by omega), if_neg (by omega)]; omega
    · rcases Nat.lt_or_ge j us.length with hj2 | hj2
      · rw [nth_snoc_lt hj2]; exact h.time j hj2
      · obtain rfl : j = us.length := by simp at hj; omega
        rw [nth_snoc_eq]
        have := hg i hin
        omega
    · rw [sumN_less hin hx n (Nat.le_refl _), if_pos hin]
      have := h.sum
      simp
      omega
  · rw [if_pos ha] at hl; exact absurd hl ha
theorem tsc_good {z : Nat → Int} {m : Nat} (h : ∀ j, j < m → 0 ≤ z j ∧ z j ≤ 200000) : tsc z m = 0 := by
  induction m with
  | zero => rfl
  | succ m ih => exact tsc_next (ih (fun j hj => h j (by omega))) (by have := h m (by omega); unfold tbad; omega)
theorem UInv.dem {n : Nat} {F T M M' : Nat → Int} {us : List Int} (h : UInv n F T M M' us) (hc : fchk n F T M = 0) (hl : us.length ≤ 256) : demE n F T M us.length (nth us) = 0 := by
  unfold demE; rw [hc, if_neg (by decide), if_neg (by omega), tsc_good h.time]
theorem UInv.over {n : Nat} {F T M M' : Nat → Int} {us : List Int} (h : UInv n F T M M' us) : overL n F T M us.length (nth us) = [] := by
  have : ∀ m, m ≤ n → overTo n F T M us.length (nth us) m = [] := by
    intro m
    induction m with
    | zero => intro _; rfl
    | succ m ih =>
      intro hm
      rw [overTo, ih (by omega), if_neg (by have := h.left m (by omega); omega)]; rfl
  unfold overL
  split
  · exact this n (Nat.le_refl _)
  · rfl
theorem UInv.room {n : Nat} {F T M M' : Nat → Int} {us : List Int} (h : UInv n F T M M' us) (hc : fchk n F T M = 0) : roomN n F T M 0 - roomN n F T M' 0 = us.length := by
  have hg := (fchk_good hc).2
  unfold roomN
  rw [if_pos hc, if_pos (h.ok hc), roomS_all (fun k hk => by have := hg k hk; omega), roomS_all (fun k hk => by have := hg k hk; omega)]
  have := h.sum
  omega
/- a row does not lie in the block that v owns -/
def Free (n : Nat) (a : Option Addr) (v : Value) : Prop := 0 < n → ∀ x, a = some x → v.ownBlock ≠ some x.block
theorem RowAt.grownBy {w w' : World} {size : Nat} {a : Option Addr} {n : Nat} {f : Nat → Value} {v : Value} (h : RowAt w size a n f) (hg : w.grownBy w' v.ownBlock) (hf : Free n a v) : RowAt w' size a n f := by
  intro hn
  obtain ⟨b, off, ha, hlt, hc⟩ := h hn
  refine ⟨b, off, ha, Nat.lt_of_lt_of_le hlt hg.size, fun k hk => ?_⟩
  rw [hg.cell_far ⟨b, off + k, none⟩ hlt (fun h' => hf hn _ ha h'.symm)]
  exact hc k hk
theorem Free.lies {W : World} {size n : Nat} {a : Option Addr} {f : Nat → Value} {v : Value} {g m cap : Nat} (hf : Free n a v) (h : RowAt W size a n f) (hat : v.ownBlock = some g ∨ W.heap.size ≤ g) : Free n a (.slice (some ⟨g, 0, none⟩) m cap) := by
  intro hn x hx
  obtain ⟨b, off, ha, hlt, -⟩ := h hn
  rw [hx] at ha
  obtain rfl := Option.some.inj ha
  show some g ≠ some b
  intro hh
  obtain rfl := Option.some.inj hh
  rcases hat with h1 | h1
  · exact hf hn _ hx h1
  · omega
theorem Free.nil (n : Nat) (a : Option Addr) : Free n a (.slice none 0 0) := fun _ _ _ h => by cases h
theorem Free.newer {W w' : World} {base : Nat} {E E' : TypeId} {size size' n n' m : Nat} {a : Option Addr} {c : Nat} {v : Value} {xs ys : List Value} (hv : W.ownsRow base E size v n' xs) (hu : w'.ownsRow W.heap.size E' size' (.slice a n c) m ys) : Free n a v := by
  intro hn x hx hh
  have h1 := (hv.lt _ hh).2
  have h2 := hu.lt x.block (by rw [hx]; rfl)
  omega

end Go.Proofs.Ytfhcciepaangiaa
