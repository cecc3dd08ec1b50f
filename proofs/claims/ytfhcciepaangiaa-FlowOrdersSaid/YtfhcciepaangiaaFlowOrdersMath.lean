/- The order of times does not matter: the plain law. -/
import Derived.Test.YtfhcciepaangiaaFlowUsesMath
import Derived.Test.YtfhcciepaangiaaRevInt
set_option linter.unusedVariables false
set_option linter.unusedSimpArgs false
namespace Go.Proofs.Ytfhcciepaangiaa
open Go.RowKit
attribute [local go_sem ↓] Go.wp_at_zero Go.wp_at_succ

theorem tsc_value (z : Nat → Int) (m : Nat) : (tsc z m = 0 ∧ ∀ j, j < m → ¬ tbad (z j)) ∨ (tsc z m = 12 ∧ ∃ j, j < m ∧ tbad (z j)) := by
  induction m with
  | zero => exact .inl ⟨rfl, fun j hj => absurd hj (by omega)⟩
  | succ m ih =>
    rcases ih with ⟨h1, h2⟩ | ⟨h1, j, h2, h3⟩
    · by_cases hb : tbad (z m)
      · exact .inr ⟨tsc_bad h1 hb, m, by omega, hb⟩
      · refine .inl ⟨tsc_next h1 hb, fun j hj => ?_⟩
        rcases Nat.lt_or_ge j m with h | h
        · exact h2 j h
        · obtain rfl : j = m := by omega
          exact hb
    · exact .inr ⟨by rw [tsc, if_pos (by omega), h1], j, by omega, h3⟩
theorem tsc_same {z y : Nat → Int} {m : Nat} (h : ∀ j, j < m → ∃ k, k < m ∧ z j = y k) (h' : ∀ j, j < m → ∃ k, k < m ∧ y j = z k) : tsc z m = tsc y m := by
  rcases tsc_value z m with ⟨h1, h2⟩ | ⟨h1, j, h2, h3⟩ <;> rcases tsc_value y m with ⟨g1, g2⟩ | ⟨g1, k, g2, g3⟩
  · rw [h1, g1]
  · obtain ⟨q, hq, he⟩ := h' k g2
    rw [he] at g3; exact absurd g3 (h2 q hq)
  · obtain ⟨q, hq, he⟩ := h j h2
    rw [he] at h3; exact absurd h3 (g2 q hq)
  · rw [h1, g1]
theorem cnt_count (n : Nat) (F T : Nat → Int) (z : Nat → Int) (i : Int) (m : Nat) : cnt n F T z i m = ((listOf m z).countP (fun x => decide (capIx n F T x = i)) : Nat) := by
  induction m with
  | zero => rfl
  | succ m ih =>
    rw [cnt, ih, listOf_succ, List.countP_append]
    by_cases h : capIx n F T (z m) = i
    · rw [if_pos h]; simp [h]
    · rw [if_neg h]; simp [h]
theorem rev_nth {l : List Int} {k : Nat} (h : k < l.length) : nth l.reverse k = nth l (l.length - 1 - k) := by
  apply nth_of; rw [List.getElem?_reverse h, nth_get (by omega)]
theorem cnt_rev (n : Nat) (F T : Nat → Int) (z : Nat → Int) (i : Int) (m : Nat) : cnt n F T (nth (listOf m z).reverse) i m = cnt n F T z i m := by
  rw [cnt_count, cnt_count]
  have : listOf m (nth (listOf m z).reverse) = (listOf m z).reverse := by
    have h := listOf_self (listOf m z).reverse
    rw [List.length_reverse, listOf_len] at h
    exact h
  rw [this, List.countP_reverse]
theorem tsc_rev (z : Nat → Int) (m : Nat) : tsc (nth (listOf m z).reverse) m = tsc z m := by
  have hk : ∀ k, k < m → nth (listOf m z).reverse k = z (m - 1 - k) := fun k hk => by
    rw [rev_nth (by rw [listOf_len]; exact hk), listOf_len, listOf_nth (by omega)]
  apply tsc_same
  · intro j hj; exact ⟨m - 1 - j, by omega, hk j hj⟩
  · intro j hj; exact ⟨m - 1 - j, by omega, by rw [hk _ (by omega)]; congr 1; omega⟩
theorem demE_rev (n : Nat) (F T M : Nat → Int) (nt : Nat) (z : Nat → Int) : demE n F T M nt (nth (listOf nt z).reverse) = demE n F T M nt z := by
  unfold demE; rw [tsc_rev]
theorem demL_rev (n : Nat) (F T M : Nat → Int) (nt : Nat) (z : Nat → Int) : demL n F T M nt (nth (listOf nt z).reverse) = demL n F T M nt z := by
  unfold demL; rw [demE_rev]
  have : cnts n F T (nth (listOf nt z).reverse) nt = cnts n F T z nt := by
    unfold cnts listOf; apply List.map_congr_left; intro i _; exact cnt_rev n F T z i nt
  rw [this]
theorem demN_rev (n : Nat) (F T M : Nat → Int) (nt : Nat) (z : Nat → Int) : demN n F T M nt (nth (listOf nt z).reverse) = demN n F T M nt z := by
  unfold demN; rw [demE_rev, cnt_rev]
theorem sumN_add_if (f : Nat → Int) (i : Int) : ∀ n : Nat, sumN (fun k => f k + if i = (k : Int) then 1 else 0) n = sumN f n + if 0 ≤ i ∧ i < n then 1 else 0
  | 0 => by rw [if_neg (by omega)]; rfl
  | n + 1 => by
    rw [sumN, sumN, sumN_add_if f i n]
    by_cases h : i = (n : Int)
    · rw [if_pos h, if_neg (by omega), if_pos (by omega)]; omega
    · rw [if_neg h]
      by_cases h2 : 0 ≤ i ∧ i < n
      · rw [if_pos h2, if_pos (by omega)]; omega
      · rw [if_neg h2, if_neg (by omega)]; omega
theorem cnt_sum (n : Nat) (F T : Nat → Int) (z : Nat → Int) : ∀ m : Nat, cnt n F T z (-1) m + sumN (fun i => cnt n F T z i m) n = m
  | 0 => by
    have : sumN (fun i => cnt n F T z i 0) n = 0 := by
      induction n with
      | zero => rfl
      | succ n ih =>
        have : sumN (fun i => cnt (n + 1) F T z (i : Int) 0) n = 0 := by
          have h2 : ∀ q, sumN (fun i => cnt (n + 1) F T z (i : Int) 0) q = 0 := fun q => by
            induction q with
            | zero => rfl
            | succ q ih => rw [sumN, ih]; rfl
          exact h2 n
        rw [sumN, this]; rfl
    rw [this]; rfl
  | m + 1 => by
    have ih := cnt_sum n F T z m
    have : sumN (fun i => cnt n F T z i (m + 1)) n = sumN (fun i => cnt n F T z i m) n + if 0 ≤ capIx n F T (z m) ∧ capIx n F T (z m) < n then 1 else 0 := sumN_add_if (fun i => cnt n F T z i m) _ n
    rw [this, cnt]
    rcases capIx_cases n F T (z m) with h | ⟨i, hi, h, -, -⟩
    · rw [h, if_pos rfl, if_neg (by omega)]; omega
    · rw [h, if_neg (by omega), if_pos (by omega)]; omega
theorem dem_sum {n : Nat} {F T M : Nat → Int} {nt : Nat} {z : Nat → Int} (h : demE n F T M nt z = 0) : demN n F T M nt z + sumN (nth (demL n F T M nt z)) (demL n F T M nt z).length = nt := by
  rw [(dem_yes h).1, (dem_yes h).2, cnts_len]
  have : sumN (nth (cnts n F T z nt)) n = sumN (fun i => cnt n F T z i nt) n := sumN_congr (fun k hk => cnts_nth hk)
  rw [this]; exact cnt_sum n F T z nt
theorem dem_in (n : Nat) (F T M : Nat → Int) (nt : Nat) (z : Nat → Int) : 0 ≤ demN n F T M nt z ∧ demN n F T M nt z ≤ 256 ∧ (demL n F T M nt z).length ≤ 256 ∧ ∀ k, k < (demL n F T M nt z).length → 0 ≤ nth (demL n F T M nt z) k ∧ nth (demL n F T M nt z) k ≤ 256 := by
  by_cases h : demE n F T M nt z = 0
  · have hg : n ≤ 256 ∧ nt ≤ 256 := by
      unfold demE at h
      by_cases hc : fchk n F T M = 0
      · rw [if_neg (by omega)] at h
        by_cases hb : 256 < nt
        · rw [if_pos hb] at h; omega
        · exact ⟨(fchk_good hc).1, by omega⟩
      · rw [if_pos hc] at h; exact absurd h hc
    rw [(dem_yes h).1, (dem_yes h).2, cnts_len]
    have := cnt_in n F T z (-1) nt
    refine ⟨by omega, by omega, hg.1, fun k hk => ?_⟩
    rw [cnts_nth hk]
    have := cnt_in n F T z k nt
    omega
  · obtain ⟨h1, h2⟩ := dem_no rfl h
    rw [h1, h2]; simp
theorem sumN_in {f : Nat → Int} {n : Nat} (h : ∀ k, k < n → 0 ≤ f k ∧ f k ≤ 256) : 0 ≤ sumN f n ∧ sumN f n ≤ 256 * n := by
  induction n with
  | zero => exact ⟨Int.le_refl _, Int.le_refl _⟩
  | succ n ih =>
    have h1 := ih (fun k hk => h k (by omega))
    have h2 := h n (by omega)
    rw [sumN]; omega

end Go.Proofs.Ytfhcciepaangiaa
