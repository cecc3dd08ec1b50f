/- The node at a time, with its height. -/
import Derived.Test.YtpjepkldnnfncaaDoorFf6
import Derived.Test.YtpjepkldnnfncaaDoorFr1
set_option linter.unusedVariables false
set_option linter.unusedSimpArgs false
namespace Go.Proofs.YtpjepkldnnfncaaDoor

theorem down_exact (n : Nat) (X d : Int) (hX : -1000000000000 ≤ X ∧ X ≤ 1000000000000) (hd : 0 < d) : g50 n X d = some (X / d, 0) := by
  have key : X / d = X.tdiv d - (if X.tmod d ≠ 0 ∧ X < 0 then 1 else 0) := by
    rw [Int.tdiv_eq_ediv, Int.sign_eq_one_of_pos hd]
    by_cases h0 : 0 ≤ X
    · rw [if_pos (Or.inl h0), if_neg (by omega)]; omega
    · by_cases hv : d ∣ X
      · rw [if_pos (Or.inr hv), if_neg (by rintro ⟨k, -⟩; exact k (Int.tmod_eq_zero_of_dvd hv))]; omega
      · have hne : X.tmod d ≠ 0 := fun h => hv (Int.dvd_of_tmod_eq_zero h)
        rw [if_neg (by rintro (k | k); exact h0 k; exact hv k), if_pos ⟨hne, by omega⟩]; omega
  have hdv : divO X d = some (X.tdiv d) := by simp only [divO, if_neg (show ¬ d = 0 by omega)]
  have hmv : modO X d = some (X.tmod d) := by simp only [modO, if_neg (show ¬ d = 0 by omega)]
  have t1 : X / d ≤ 1000000000000 := by
    rcases Int.lt_or_le X 0 with h | h
    · have := Int.ediv_neg_of_neg_of_pos h hd; omega
    · have := Int.ediv_le_self d h; omega
  have t2 : -1000000000000 ≤ X / d := Int.le_ediv_of_mul_le hd (by
      have : -1000000000000 * d ≤ -1000000000000 * 1 := Int.mul_le_mul_of_nonpos_left (by omega) (by omega)
      omega)
  unfold g50
  rw [show (d == 0) = false from beq_eq_false_iff_ne.2 (by omega), cond_false, show (X == -9223372036854775808) = false from beq_eq_false_iff_ne.2 (by omega), cond_false, hdv, hmv, decide_eq_false (show ¬ d < 0 by omega)]
  simp only [Option.bind_some]
  by_cases h1 : X.tmod d = 0
  · rw [show (X.tmod d != 0) = false from by simp [h1], cond_false, key, if_neg (by rintro ⟨k, -⟩; exact k h1)]
    rw [if_neg (by rintro ⟨k, -⟩; exact k h1)] at key
    rw [wrap64 (by omega) (by omega)]; simp
  · rw [show (X.tmod d != 0) = true from by simp [h1], cond_true]
    by_cases h2 : X < 0
    · rw [decide_eq_true h2, key, if_pos ⟨h1, h2⟩]
      rw [if_pos ⟨h1, h2⟩] at key
      rw [show (!(true == false)) = true from rfl, cond_true]
      rw [wrap64 (z := X.tdiv d) (by omega) (by omega), wrap64 (by omega) (by omega)]
    · rw [decide_eq_false h2, key, if_neg (by rintro ⟨-, k⟩; exact h2 k)]
      rw [if_neg (by rintro ⟨-, k⟩; exact h2 k)] at key
      rw [show (!(false == false)) = false from rfl, cond_false]
      rw [wrap64 (by omega) (by omega)]; simp
theorem prod_bound {D c M : Int} (h : -M ≤ D ∧ D ≤ M) (hc : 0 ≤ c ∧ c ≤ 200000) (hM : 0 ≤ M ∧ M ≤ 2000000) : -1000000000000 ≤ D * c ∧ D * c ≤ 1000000000000 := by
  have h1 : D * c ≤ M * c := Int.mul_le_mul_of_nonneg_right h.2 hc.1
  have h2 : -M * c ≤ D * c := Int.mul_le_mul_of_nonneg_right h.1 hc.1
  have h3 : M * c ≤ M * 200000 := Int.mul_le_mul_of_nonneg_left hc.2 hM.1
  rw [Int.neg_mul] at h2
  omega
/- rounding up between the ends -/
theorem up_mid (n : Nat) (D c d : Int) (hD : -2000000 ≤ D ∧ D ≤ 2000000) (hc : 0 ≤ c ∧ c ≤ d) (hd : 0 < d ∧ d ≤ 200000) : ∃ q, g36 n (IntKind.wrap .i64 (D * c)) d = some (q, 0) ∧ (0 ≤ D → 0 ≤ q ∧ q ≤ D) ∧ (D < 0 → D ≤ q ∧ q ≤ 0) := by
  have hb := prod_bound (M := 2000000) hD ⟨hc.1, by omega⟩ (by decide)
  obtain ⟨q, eq, u1, u2⟩ := down_mid n D c d hD hc hd
  rw [wrap64 (by omega) (by omega)] at eq ⊢
  have ex := down_exact n (D * c) d hb hd.1
  rw [ex] at eq
  simp only [Option.some.injEq, Prod.mk.injEq, and_true] at eq
  have hmv : modO (D * c) d = some ((D * c).tmod d) := by simp only [modO, if_neg (show ¬ d = 0 by omega)]
  unfold g36
  rw [ex, Option.bind_some]
  simp only [show ((0 : Int) == 0) = true from rfl, cond_true]
  rw [hmv, Option.bind_some]
  by_cases h1 : (D * c).tmod d = 0
  · rw [show ((D * c).tmod d != 0) = false from by simp [h1], cond_false, eq]
    exact ⟨q, rfl, u1, u2⟩
  · rw [show ((D * c).tmod d != 0) = true from by simp [h1], cond_true, eq]
    have hne : ∀ k : Int, D * c ≠ k * d := fun k h => h1 (by rw [h]; exact Int.mul_tmod_left k d)
    have e := Int.mul_ediv_add_emod (D * c) d
    have r0 : 0 ≤ (D * c) % d := Int.emod_nonneg _ (by omega)
    have r1 : (D * c) % d < d := Int.emod_lt_of_pos _ hd.1
    have hq0 : -2000000 ≤ q ∧ q ≤ 2000000 := by
      rcases Int.lt_or_le D 0 with h | h
      · have := u2 h; omega
      · have := u1 h; omega
    rw [wrap64 (by omega) (by omega)]
    refine ⟨q + 1, rfl, fun h => ?_, fun h => ?_⟩
    · have := u1 h
      refine ⟨by omega, ?_⟩
      have hlt : (D * c) / d < D := Int.ediv_lt_of_lt_mul hd.1 (by
        have k1 : D * c ≤ D * d := Int.mul_le_mul_of_nonneg_left hc.2 h
        have k2 := hne D
        omega)
      omega
    · have := u2 h
      refine ⟨by omega, ?_⟩
      have hlt : (D * c) / d < 0 := by
        rcases Int.lt_or_eq_of_le hc.1 with k | k
        · exact Int.ediv_neg_of_neg_of_pos (Int.mul_neg_of_neg_of_pos h k) hd.1
        · exfalso; exact hne 0 (by rw [← k]; simp)
      omega
/- what At answers inside a tube -/
set_option maxHeartbeats 2000000 in
theorem At_seg (n : Nat) (hn : 64 < n) (l : List TTubeNode) (h : TubeOk l) (hc : g12 n l = some 0) (u : Int) (x0 x1 : TTubeNode) (h0 : l[0]? = some x0) (h1 : l[l.length - 1]? = some x1) (ht0 : x0.Node_Time ≤ u) (ht1 : u ≤ x1.Node_Time) :
    ∃ r : TTubeNode, g13 n l u = some (r, 0) ∧ NodeB r ∧ r.Node_Time = u ∧ ((∃ i : Nat, l[i]? = some r) ∨ ∃ (i : Nat) (a b : TTubeNode), l[i]? = some a ∧ l[i + 1]? = some b ∧ a.Node_Time < u ∧ u < b.Node_Time ∧ r.Node_Height = a.Node_Height + ((b.Node_Height - a.Node_Height) * (u - a.Node_Time)) / (b.Node_Time - a.Node_Time)) := by
  have hp := h.pos
  have b0 := h.nodes x0 (List.mem_of_getElem? h0)
  have b1 := h.nodes x1 (List.mem_of_getElem? h1)
  have fin : ∀ r : TTubeNode, g35 n l u = some r → g13 n l u = some (r, 0) := fun r hr => by
    rcases At_cases n hn l h hc u x0 x1 h0 h1 with ⟨-, -, r', e1, e2⟩ | ⟨k, -⟩
    · rw [hr] at e1; cases e1; exact e2
    · omega
  obtain ⟨i, hi, k1, k2, b, hb, hbt⟩ := search_eq n hn l h u (by have := b0.1; have := b1.2.1; omega)
  cases b with
  | true =>
    obtain ⟨x, hx, hxt⟩ := hbt.1 rfl
    refine ⟨x, fin x ?_, h.nodes x (List.mem_of_getElem? hx), hxt, .inl ⟨i, hx⟩⟩
    unfold g35
    rw [hb, Option.bind_some]
    simp only [cond_true]
    rw [getI_at hx]; rfl
  | false =>
    have hil : i < l.length := by
      rcases Nat.lt_or_ge i l.length with h' | h'
      · exact h'
      · have := k1 (l.length - 1) x1 (by omega) h1; omega
    have hi0 : 0 < i := by
      rcases Nat.eq_zero_or_pos i with rfl | h'
      · have := k2 0 x0 (Nat.le_refl _) h0
        have := hbt.2 ⟨x0, h0, by omega⟩
        cases this
      · exact h'
    have ha : l[i - 1]? = some l[i - 1] := List.getElem?_eq_getElem (by omega)
    have hb' : l[i]? = some l[i] := List.getElem?_eq_getElem hil
    have na := h.nodes _ (List.mem_of_getElem? ha)
    have nb := h.nodes _ (List.mem_of_getElem? hb')
    have ta := k1 (i - 1) _ (by omega) ha
    have tb : u < l[i].Node_Time := by
      have := k2 i _ (Nat.le_refl _) hb'
      rcases Int.lt_or_eq_of_le this with k | k
      · exact k
      · have := hbt.2 ⟨_, hb', k.symm⟩; cases this
    have hw : IntKind.wrap .i64 ((i : Int) - 1) = ((i - 1 : Nat) : Int) := by have := h.len; rw [wrap64 (by omega) (by omega)]; omega
    obtain ⟨a1, a2, a3, a4, a5, a6, a7, a8, a9⟩ := na
    obtain ⟨c1, c2, c3, c4, c5, c6, c7, c8, c9⟩ := nb
    obtain ⟨q1, e1, hq⟩ := toward_val n (⟨l[i - 1].Node_At_X, l[i - 1].Node_At_Y⟩ : TP) (⟨l[i].Node_At_X, l[i].Node_At_Y⟩ : TP) a3 c3 (u - l[i - 1].Node_Time) (l[i].Node_Time - l[i - 1].Node_Time) (by omega) (by omega)
    have pb := prod_bound (D := l[i].Node_Height - l[i - 1].Node_Height) (c := u - l[i - 1].Node_Time) (M := 2000000) (by omega) (by omega) (by decide)
    have e2 := down_exact n ((l[i].Node_Height - l[i - 1].Node_Height) * (u - l[i - 1].Node_Time)) (l[i].Node_Time - l[i - 1].Node_Time) pb (by omega)
    obtain ⟨qh, eh, v1, v2⟩ := down_mid n (l[i].Node_Height - l[i - 1].Node_Height) (u - l[i - 1].Node_Time) (l[i].Node_Time - l[i - 1].Node_Time) (by omega) (by omega) (by omega)
    rw [wrap64 (by omega) (by omega), e2] at eh
    simp only [Option.some.injEq, Prod.mk.injEq, and_true] at eh
    obtain ⟨q3, e3, y1, y2⟩ := up_mid n (l[i].Radius - l[i - 1].Radius) (u - l[i - 1].Node_Time) (l[i].Node_Time - l[i - 1].Node_Time) (by omega) (by omega) (by omega)
    obtain ⟨q4, e4, z1, z2⟩ := up_mid n (l[i].Band - l[i - 1].Band) (u - l[i - 1].Node_Time) (l[i].Node_Time - l[i - 1].Node_Time) (by omega) (by omega) (by omega)
    have hH : 0 ≤ l[i - 1].Node_Height + qh ∧ l[i - 1].Node_Height + qh ≤ 60000 := by
      rcases Int.lt_or_le (l[i].Node_Height - l[i - 1].Node_Height) 0 with k | k
      · have := v2 k; omega
      · have := v1 k; omega
    have hR : 0 ≤ l[i - 1].Radius + q3 ∧ l[i - 1].Radius + q3 ≤ 1000000 := by
      rcases Int.lt_or_le (l[i].Radius - l[i - 1].Radius) 0 with k | k
      · have := y2 k; omega
      · have := y1 k; omega
    have hB : 0 ≤ l[i - 1].Band + q4 ∧ l[i - 1].Band + q4 ≤ 60000 := by
      rcases Int.lt_or_le (l[i].Band - l[i - 1].Band) 0 with k | k
      · have := z2 k; omega
      · have := z1 k; omega
    refine ⟨(⟨u, q1.X, q1.Y, l[i - 1].Node_Height + qh, l[i - 1].Radius + q3, l[i - 1].Band + q4⟩ : TTubeNode), fin _ ?_, ⟨by show 0 ≤ u; omega, by show u ≤ 200000; omega, hq, hH.1, hH.2, hR.1, hR.2, hB.1, hB.2⟩, rfl, .inr ⟨i - 1, l[i - 1], l[i], ha, by rw [show i - 1 + 1 = i by omega]; exact hb', ta, tb, by show l[i - 1].Node_Height + qh = _; rw [eh]⟩⟩
    unfold g35
    rw [hb, Option.bind_some]
    simp only [cond_false]
    rw [hw, getI_at ha, getI_at hb']
    simp only [Option.bind_some]
    rw [wrap64 (z := u - l[i - 1].Node_Time) (by omega) (by omega), wrap64 (z := l[i].Node_Time - l[i - 1].Node_Time) (by omega) (by omega), e1, Option.bind_some, wrap64 (z := l[i].Node_Height - l[i - 1].Node_Height) (by omega) (by omega), wrap64 (z := (l[i].Node_Height - l[i - 1].Node_Height) * (u - l[i - 1].Node_Time)) (by omega) (by omega), e2, Option.bind_some, wrap64 (z := l[i].Radius - l[i - 1].Radius) (by omega) (by omega), e3, Option.bind_some, wrap64 (z := l[i].Band - l[i - 1].Band) (by omega) (by omega), e4, Option.bind_some, eh, wrap64 (z := l[i - 1].Node_Height + qh) (by omega) (by omega), wrap64 (z := l[i - 1].Radius + q3) (by omega) (by omega), wrap64 (z := l[i - 1].Band + q4) (by omega) (by omega)]
end Go.Proofs.YtpjepkldnnfncaaDoor
