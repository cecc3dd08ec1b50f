/- Numbers of tubes: division, distance, the node at a time is within its neighbours. -/
import Derived.Test.YtpjepkldnnfncaaDoorEf3
set_option linter.unusedVariables false
set_option linter.unusedSimpArgs false
namespace Go.Proofs.YtpjepkldnnfncaaDoor

theorem up_val (n : Nat) (a b : Int) (ha : 0 ≤ a) (ha2 : a ≤ 1000000000000) (hb : 0 < b) : ∃ q, g36 n a b = some (q, 0) ∧ 0 ≤ q ∧ q ≤ a + 1 ∧ a ≤ q * b := by
  have hd : divO a b = some (a / b) := by simp only [divO, if_neg (show ¬ b = 0 by omega)]; rw [Int.tdiv_eq_ediv_of_nonneg ha]
  have hm : modO a b = some (a % b) := by simp only [modO, if_neg (show ¬ b = 0 by omega)]; rw [Int.tmod_eq_emod_of_nonneg ha]
  have q0 : 0 ≤ a / b := Int.ediv_nonneg ha (by omega)
  have q1 : a / b ≤ a := Int.ediv_le_self b ha
  have r0 : 0 ≤ a % b := Int.emod_nonneg a (by omega)
  have r1 : a % b < b := Int.emod_lt_of_pos a hb
  have e := Int.mul_ediv_add_emod a b
  have hw : IntKind.wrap .i64 (a / b) = a / b := wrap64 (by omega) (by omega)
  have hD : g50 n a b = some (a / b, 0) := by
    unfold g50
    rw [show (b == 0) = false from beq_eq_false_iff_ne.2 (by omega), cond_false, show (a == -9223372036854775808) = false from beq_eq_false_iff_ne.2 (by omega), cond_false, hd, hm, decide_eq_false (show ¬ a < 0 by omega), decide_eq_false (show ¬ b < 0 by omega)]
    simp only [Option.bind_some, hw]
    cases (a % b != 0) <;> rfl
  unfold g36
  rw [hD, hm]
  simp only [Option.bind_some, show ((0 : Int) == 0) = true from rfl, cond_true]
  by_cases h : a % b = 0
  · rw [show (a % b != 0) = false from by simp [h], cond_false]
    refine ⟨_, rfl, q0, by omega, ?_⟩
    rw [Int.mul_comm]; omega
  · rw [show (a % b != 0) = true from by simp [h], cond_true, wrap64 (by omega) (by omega)]
    refine ⟨_, rfl, by omega, by omega, ?_⟩
    rw [Int.add_mul, Int.one_mul, Int.mul_comm]; omega
/- rounding down between the ends -/
theorem down_mid (n : Nat) (D c d : Int) (hD : -2000000 ≤ D ∧ D ≤ 2000000) (hc : 0 ≤ c ∧ c ≤ d) (hd : 0 < d ∧ d ≤ 200000) : ∃ q, g50 n (IntKind.wrap .i64 (D * c)) d = some (q, 0) ∧ (0 ≤ D → 0 ≤ q ∧ q ≤ D) ∧ (D < 0 → D ≤ q ∧ q ≤ 0) := by
  have b1 : D * c ≤ 2000000 * 200000 := by
    have h1 : D * c ≤ 2000000 * c := Int.mul_le_mul_of_nonneg_right hD.2 hc.1
    omega
  have b2 : -(2000000 * 200000) ≤ D * c := by
    have h1 : (-2000000) * c ≤ D * c := Int.mul_le_mul_of_nonneg_right hD.1 hc.1
    omega
  rw [wrap64 (by omega) (by omega)]
  have key : (D * c) / d = (D * c).tdiv d - (if (D * c).tmod d ≠ 0 ∧ D * c < 0 then 1 else 0) := by
    rw [Int.tdiv_eq_ediv, Int.sign_eq_one_of_pos hd.1]
    by_cases h0 : 0 ≤ D * c
    · rw [if_pos (Or.inl h0), if_neg (by omega)]; omega
    · by_cases hv : d ∣ D * c
      · rw [if_pos (Or.inr hv), if_neg (by rintro ⟨k, -⟩; exact k (Int.tmod_eq_zero_of_dvd hv))]; omega
      · have hne : (D * c).tmod d ≠ 0 := fun h => hv (Int.dvd_of_tmod_eq_zero h)
        rw [if_neg (by rintro (k | k); exact h0 k; exact hv k), if_pos ⟨hne, by omega⟩]; omega
  have hdv : divO (D * c) d = some ((D * c).tdiv d) := by simp only [divO, if_neg (show ¬ d = 0 by omega)]
  have hmv : modO (D * c) d = some ((D * c).tmod d) := by simp only [modO, if_neg (show ¬ d = 0 by omega)]
  have t1 : (D * c) / d ≤ 2000000 * 200000 := by
    rcases Int.lt_or_le (D * c) 0 with h | h
    · have := Int.ediv_neg_of_neg_of_pos h hd.1; omega
    · have := Int.ediv_le_self d h; omega
  have t2 : -(2000000 * 200000) - 1 ≤ (D * c) / d := by
    have : -(2000000 * 200000) ≤ (D * c) / d := Int.le_ediv_of_mul_le hd.1 (by
      have : -(2000000 * 200000) * d ≤ -(2000000 * 200000) * 1 := Int.mul_le_mul_of_nonpos_left (by omega) (by omega)
      omega)
    omega
  refine ⟨(D * c) / d, ?_, fun h => ⟨Int.ediv_nonneg (Int.mul_nonneg h hc.1) (by omega), Int.ediv_le_of_le_mul hd.1 (Int.mul_le_mul_of_nonneg_left hc.2 h)⟩, fun h => ⟨Int.le_ediv_of_mul_le hd.1 (Int.mul_le_mul_of_nonpos_left (by omega) hc.2), ?_⟩⟩
  · unfold g50
    rw [show (d == 0) = false from beq_eq_false_iff_ne.2 (by omega), cond_false, show (D * c == -9223372036854775808) = false from beq_eq_false_iff_ne.2 (by omega), cond_false, hdv, hmv, decide_eq_false (show ¬ d < 0 by omega)]
    simp only [Option.bind_some]
    by_cases h1 : (D * c).tmod d = 0
    · rw [show ((D * c).tmod d != 0) = false from by simp [h1], cond_false, key, if_neg (by rintro ⟨k, -⟩; exact k h1)]
      rw [if_neg (by rintro ⟨k, -⟩; exact k h1)] at key
      rw [wrap64 (by omega) (by omega)]; simp
    · rw [show ((D * c).tmod d != 0) = true from by simp [h1], cond_true]
      by_cases h2 : D * c < 0
      · rw [decide_eq_true h2, key, if_pos ⟨h1, h2⟩]
        rw [if_pos ⟨h1, h2⟩] at key
        rw [show (!(true == false)) = true from rfl, cond_true]
        rw [wrap64 (z := (D * c).tdiv d) (by omega) (by omega), wrap64 (by omega) (by omega)]
      · rw [decide_eq_false h2, key, if_neg (by rintro ⟨-, k⟩; exact h2 k)]
        rw [if_neg (by rintro ⟨-, k⟩; exact h2 k)] at key
        rw [show (!(false == false)) = false from rfl, cond_false]
        rw [wrap64 (by omega) (by omega)]; simp
  · rcases Int.lt_or_eq_of_le hc.1 with h' | h'
    · have : D * c < 0 := Int.mul_neg_of_neg_of_pos h h'
      have := Int.ediv_neg_of_neg_of_pos this hd.1
      omega
    · rw [← h', Int.mul_zero, Int.zero_ediv]; exact Int.le_refl _
/- the integer root -/
theorem sq_eq (a b : Int) : a * a - b * b = (a - b) * (a + b) := by
  rw [Int.sub_mul, Int.mul_add, Int.mul_add, Int.mul_comm b a]; omega
theorem sq_nonneg (a : Int) : 0 ≤ a * a := by
  rcases Int.le_total 0 a with h | h
  · exact Int.mul_nonneg h h
  · exact Int.mul_nonneg_of_nonpos_of_nonpos h h
theorem sq_le {a b : Int} (h0 : 0 ≤ a) (h : a ≤ b) : a * a ≤ b * b := Int.mul_le_mul h h h0 (by omega)
theorem root_loop (n : Nat) (x : Int) (hx : 0 ≤ x) (hx2 : x ≤ 9000000000000000000) : ∀ (k m : Nat) (v w : Int), 0 ≤ v → v ≤ w → w ≤ 3037000499 → w - v < 2 ^ k → k < m → v * v ≤ x → x < (w + 1) * (w + 1) →
    ∃ r : Int, iterO (fun y : Int × Int => S38_0 n x 0 y.1 y.2) m (v, w) = some r ∧ 0 ≤ r ∧ r ≤ 3037000499 ∧ r * r ≤ x ∧ x < (r + 1) * (r + 1)
  | k, m, v, w, h0, hvw, hw, hk, hm, h1, h2 => by
    obtain ⟨q, rfl⟩ : ∃ q, m = q + 1 := ⟨m - 1, by omega⟩
    rcases Int.lt_or_eq_of_le hvw with hlt | rfl
    · match k, hk, hm with
      | 0, hk, hm => simp at hk; omega
      | k + 1, hk, hm =>
        have hmid : IntKind.wrap .i64 (v + (IntKind.wrap .i64 (Int.tdiv (IntKind.wrap .i64 ((IntKind.wrap .i64 (w - v)) + 1)) 2))) = v + (w - v + 1) / 2 := by
          rw [wrap64 (z := w - v) (by omega) (by omega), wrap64 (z := w - v + 1) (by omega) (by omega), Int.tdiv_eq_ediv_of_nonneg (by omega), wrap64 (z := (w - v + 1) / 2) (by omega) (by omega), wrap64 (by omega) (by omega)]
        have hpow : (2 : Int) ^ (k + 1) = 2 * 2 ^ k := by rw [Int.pow_succ, Int.mul_comm]
        rw [hpow] at hk
        generalize hM : v + (w - v + 1) / 2 = M at hmid
        have M0 : v < M := by omega
        have M1 : M ≤ w := by omega
        have sq : M * M ≤ 3037000499 * 3037000499 := sq_le (by omega) (by omega)
        have sq0 := sq_nonneg M
        simp only [iterO]
        unfold S38_0
        rw [decide_eq_true hlt, cond_true, hmid, wrap64 (z := M * M) (by omega) (by omega)]
        by_cases hc : M * M ≤ x
        · rw [decide_eq_true hc, cond_true]
          exact root_loop n x hx hx2 k q M w (by omega) M1 hw (by omega) (by omega) hc h2
        · rw [decide_eq_false hc, cond_false, wrap64 (z := M - 1) (by omega) (by omega)]
          exact root_loop n x hx hx2 k q v (M - 1) h0 (by omega) (by omega) (by omega) (by omega) h1 (by rw [Int.sub_add_cancel]; omega)
    · refine ⟨v, ?_, h0, hw, h1, h2⟩
      simp only [iterO]
      unfold S38_0
      rw [decide_eq_false (Int.lt_irrefl _)]; rfl
theorem root_val (n : Nat) (hn : 64 < n) (x : Int) (hx : 0 ≤ x) (hx2 : x ≤ 9000000000000000000) : ∃ r : Int, g38 n x = some r ∧ 0 ≤ r ∧ r ≤ 3037000499 ∧ r * r ≤ x ∧ x < (r + 1) * (r + 1) := by
  unfold g38
  by_cases h : x ≤ 0
  · rw [decide_eq_true h, cond_true]
    have : x = 0 := by omega
    subst this
    exact ⟨0, rfl, by decide, by decide, by decide, by decide⟩
  · rw [decide_eq_false h, cond_false]
    exact root_loop n x hx hx2 32 n 0 3037000499 (by decide) (by decide) (by decide) (by decide) (by omega) (by simpa using hx) (by omega)
/- distance -/
theorem dist_val (n : Nat) (hn : 64 < n) (p q : TP) (hp : POk p) (hq : POk q) : ∃ f c, g17 n p q = some (f, c) ∧ 0 ≤ f ∧ f ≤ c ∧ c ≤ f + 1 ∧ f ≤ 3000000 ∧ (c = 0 → p = q) := by
  obtain ⟨p1, p2, p3, p4⟩ := hp
  obtain ⟨q1, q2, q3, q4⟩ := hq
  generalize hdx : p.X - q.X = dx
  generalize hdy : p.Y - q.Y = dy
  have b : ∀ d : Int, -2000000 ≤ d → d ≤ 2000000 → d * d ≤ 4000000000000 := fun d h1 h2 => by
    have h := sq_eq 2000000 d
    have := Int.mul_nonneg (show 0 ≤ 2000000 - d by omega) (show 0 ≤ 2000000 + d by omega)
    omega
  have bx := b dx (by omega) (by omega)
  have by' := b dy (by omega) (by omega)
  have nx := sq_nonneg dx
  have ny := sq_nonneg dy
  obtain ⟨r, hr, r0, r1, r2, r3⟩ := root_val n hn (dx * dx + dy * dy) (by omega) (by omega)
  have hs : g37 n p q = some (dx * dx + dy * dy) := by
    unfold g37 g14 g51
    simp only [Option.bind_some]
    rw [hdx, hdy, wrap64 (z := dx) (by omega) (by omega), wrap64 (z := dy) (by omega) (by omega), wrap64 (z := dx * dx) (by omega) (by omega), wrap64 (z := dy * dy) (by omega) (by omega), wrap64 (by omega) (by omega)]
  have r4 : r ≤ 3000000 := by
    rcases Int.lt_or_le 3000000 r with h | h
    · have := sq_le (a := 3000000) (b := r) (by decide) (by omega); omega
    · exact h
  unfold g17
  rw [hs, Option.bind_some, hr, Option.bind_some, wrap64 (z := r * r) (by have := sq_nonneg r; omega) (by omega), wrap64 (z := r + 1) (by omega) (by omega)]
  by_cases h : r * r < dx * dx + dy * dy
  · rw [decide_eq_true h, cond_true]
    exact ⟨r, r + 1, rfl, r0, by omega, by omega, r4, fun h => by omega⟩
  · rw [decide_eq_false h, cond_false]
    refine ⟨r, r, rfl, r0, Int.le_refl _, by omega, r4, fun h0 => ?_⟩
    subst h0
    simp at h
    have z1 : dx = 0 := by
      have : dx * dx = 0 := by omega
      rcases Int.mul_eq_zero.1 this with h | h <;> exact h
    have z2 : dy = 0 := by
      have : dy * dy = 0 := by omega
      rcases Int.mul_eq_zero.1 this with h | h <;> exact h
    cases p; cases q
    simp only [TP.mk.injEq] at *
    omega
end Go.Proofs.YtpjepkldnnfncaaDoor
