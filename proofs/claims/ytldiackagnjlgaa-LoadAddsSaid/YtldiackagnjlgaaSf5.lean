/- Numbers of tubes: division, distance, the node at a time is within its neighbours. -/
import Derived.Test.YtldiackagnjlgaaSf1
set_option linter.unusedVariables false
set_option linter.unusedSimpArgs false
namespace Go.Proofs.Ytldiackagnjlgaa

theorem up_val (n : Nat) (a b : Int) (ha : 0 ≤ a) (ha2 : a ≤ 1000000000000) (hb : 0 < b) : ∃ q, g68 n a b = some (q, 0) ∧ 0 ≤ q ∧ q ≤ a + 1 ∧ a ≤ q * b := by
  have hd : divO a b = some (a / b) := by simp only [divO, if_neg (show ¬ b = 0 by omega)]; rw [Int.tdiv_eq_ediv_of_nonneg ha]
  have hm : modO a b = some (a % b) := by simp only [modO, if_neg (show ¬ b = 0 by omega)]; rw [Int.tmod_eq_emod_of_nonneg ha]
  have q0 : 0 ≤ a / b := Int.ediv_nonneg ha (by omega)
  have q1 : a / b ≤ a := Int.ediv_le_self b ha
  have r0 : 0 ≤ a % b := Int.emod_nonneg a (by omega)
  have r1 : a % b < b := Int.emod_lt_of_pos a hb
  have e := Int.mul_ediv_add_emod a b
  have hw : IntKind.wrap .i64 (a / b) = a / b := wrap64 (by omega) (by omega)
  have hD : g67 n a b = some (a / b, 0) := by
    unfold g67
    rw [show (b == 0) = false from beq_eq_false_iff_ne.2 (by omega), cond_false, show (a == -9223372036854775808) = false from beq_eq_false_iff_ne.2 (by omega), cond_false, hd, hm, decide_eq_false (show ¬ a < 0 by omega), decide_eq_false (show ¬ b < 0 by omega)]
    simp only [Option.bind_some, hw]
    cases (a % b != 0) <;> rfl
  unfold g68
  rw [hD, hm]
  simp only [Option.bind_some, show ((0 : Int) == 0) = true from rfl, cond_true]
  by_cases h : a % b = 0
  · rw [show (a % b != 0) = false from by simp [h], cond_false]
    refine ⟨_, rfl, q0, by omega, ?_⟩
    rw [Int.mul_comm]; omega
  · rw [show (a % b != 0) = true from by simp [h], cond_true, wrap64 (by omega) (by omega)]
    refine ⟨_, rfl, by omega, by omega, ?_⟩
    rw [Int.add_mul, Int.one_mul, Int.mul_comm]; omega
/- rounding down between the ends -/
theorem down_mid (n : Nat) (D c d : Int) (hD : -2000000 ≤ D ∧ D ≤ 2000000) (hc : 0 ≤ c ∧ c ≤ d) (hd : 0 < d ∧ d ≤ 200000) : ∃ q, g67 n (IntKind.wrap .i64 (D * c)) d = some (q, 0) ∧ (0 ≤ D → 0 ≤ q ∧ q ≤ D) ∧ (D < 0 → D ≤ q ∧ q ≤ 0) := by
  have b1 : D * c ≤ 2000000 * 200000 := by
    have h1 : D * c ≤ 2000000 * c := Int.mul_le_mul_of_nonneg_right hD.2 hc.1
    omega
  have b2 : -(2000000 * 200000) ≤ D * c := by
    have h1 : (-2000000) * c ≤ D * c := Int.mul_le_mul_of_nonneg_right hD.1 hc.1
    omega
  rw [wrap64 (by omega) (by omega)]
  have key : (D * c) / d = (D * c).tdiv d - (if (D * c).tmod d ≠ 0 ∧ D * c < 0 then 1 else 0) := by
    rw [Int.tdiv_eq_ediv, Int.sign_eq_one_of_pos hd.1]
    by_cases h0 : 0 ≤ D * c
    · rw [if_pos (Or.inl h0), if_neg (by omega)]; omega
    · by_cases hv : d ∣ D * c
      · rw [if_pos (Or.inr hv), if_neg (by rintro ⟨k, -⟩; exact k (Int.tmod_eq_zero_of_dvd hv))]; omega
      · have hne : (D * c).tmod d ≠ 0 := fun h => hv (Int.dvd_of_tmod_eq_zero h)
        rw [if_neg (by rintro (k | k); exact h0 k; exact hv k), if_pos ⟨hne, by omega⟩]; omega
  have hdv : divO (D * c) d = some ((D * c).tdiv d) := by simp only [divO, if_neg (show ¬ d = 0 by omega)]
  have hmv : modO (D * c) d = some ((D * c).tmod d) := by simp only [modO, if_neg (show ¬ d = 0 by omega)]
  have t1 : (D * c) / d ≤ 2000000 * 200000 := by
    rcases Int.lt_or_le (D * c) 0 with h | h
    · have := Int.ediv_neg_of_neg_of_pos h hd.1; omega
    · have := Int.ediv_le_self d h; omega
  have t2 : -(2000000 * 200000) - 1 ≤ (D * c) / d := by
    have : -(2000000 * 200000) ≤ (D * c) / d := Int.le_ediv_of_mul_le hd.1 (by
      have : -(2000000 * 200000) * d ≤ -(2000000 * 200000) * 1 := Int.mul_le_mul_of_nonpos_left (by omega) (by omega)
      omega)
    omega
  refine ⟨(D * c) / d, ?_, fun h => ⟨Int.ediv_nonneg (Int.mul_nonneg h hc.1) (by omega), Int.ediv_le_of_le_mul hd.1 (Int.mul_le_mul_of_nonneg_left hc.2 h)⟩, fun h => ⟨Int.le_ediv_of_mul_le hd.1 (Int.mul_le_mul_of_nonpos_left (by omega) hc.2), ?_⟩⟩
  · unfold g67
    rw [show (d == 0) = false from beq_eq_false_iff_ne.2 (by omega), cond_false, show (D * c == -9223372036854775808) = false from beq_eq_false_iff_ne.2 (by omega), cond_false, hdv, hmv, decide_eq_false (show ¬ d < 0 by omega)]
    simp only [Option.bind_some]
    by_cases h1 : (D * c).tmod d = 0
    · rw [show ((D * c).tmod d != 0) = false from by simp [h1], cond_false, key, if_neg (by rintro ⟨k, -⟩; exact k h1)]
      rw [if_neg (by rintro ⟨k, -⟩; exact k h1)] at key
      rw [wrap64 (by omega) (by omega)]; simp
    · rw [show ((D * c).tmod d != 0) = true from by simp [h1], cond_true]
      by_cases h2 : D * c < 0
      · rw [decide_eq_true h2, key, if_pos ⟨h1, h2⟩]
        rw [if_pos ⟨h1, h2⟩] at key
        rw [show (!(true == false)) = true from rfl, cond_true]
        rw [wrap64 (z := (D * c).tdiv d) (by omega) (by omega), wrap64 (by omega) (by omega)]
      · rw [decide_eq_false h2, key, if_neg (by rintro ⟨-, k⟩; exact h2 k)]
        rw [if_neg (by rintro ⟨-, k⟩; exact h2 k)] at key
        rw [show (!(false == false)) = false from rfl, cond_false]
        rw [wrap64 (by omega) (by omega)]; simp
  · rcases Int.lt_or_eq_of_le hc.1 with h' | h'
    · have : D * c < 0 := Int.mul_neg_of_neg_of_pos h h'
      have := Int.ediv_neg_of_neg_of_pos this hd.1
      omega
    · rw [← h', Int.mul_zero, Int.zero_ediv]; exact Int.le_refl _
end Go.Proofs.Ytldiackagnjlgaa
