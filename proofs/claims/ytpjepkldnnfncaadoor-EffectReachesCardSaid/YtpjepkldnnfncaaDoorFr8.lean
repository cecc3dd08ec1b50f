/- The loop of the law EffectReaches. -/
import Derived.Test.YtpjepkldnnfncaaDoorFr7
set_option linter.unusedVariables false
set_option linter.unusedSimpArgs false
namespace Go.Proofs.YtpjepkldnnfncaaDoor

theorem minI' (a b : Int) : (if a < b then a else b) = min b a := by simp only [Int.min_def]; split <;> split <;> omega
theorem maxI' (a b : Int) : (if a > b then a else b) = max b a := by simp only [Int.max_def]; split <;> split <;> omega
/- m: the tube after the clearance; at each second from t + 1 to its end the height is as asked -/
theorem reach_loop (n : Nat) (hn : 200200 < n) (m : List TTubeNode) (hm : m.length ≤ 64) (last now : TTubeNode) (hlast : m[m.length - 1]? = some last) (hl2 : last.Node_Time ≤ 200000) (k : TKind) (to t N : Int) (hc : ClimbOk k now.Node_Height to N) (ht : 0 ≤ t ∧ t ≤ 200000) (hp : m ≠ [])
    (hH : ∀ u, t < u → u ≤ last.Node_Time → ∃ r : TTubeNode, g13 n m u = some (r, 0) ∧ HOk k now.Node_Height to t N u r.Node_Height ∧ 0 ≤ r.Node_Height ∧ r.Node_Height ≤ 60000) :
    iterO (fun y : Int => S4_0 n to t false m N now.Node_Time now.Node_At_X now.Node_At_Y now.Node_Height now.Radius now.Band k.Name k.Wake k.Ceiling k.Climb k.Descent k.Slow k.Fast y) n (IntKind.wrap .i64 (t + 1)) = some true := by
  have hlen : 0 < m.length := List.length_pos_iff.2 hp
  have hw : IntKind.wrap .i64 ((m.length : Int) - 1) = ((m.length - 1 : Nat) : Int) := by rw [wrap64 (by omega) (by omega)]; omega
  rw [wrap64 (z := t + 1) (by omega) (by omega)]
  obtain ⟨c1, c2, c3, c4, c5, c6, k1, k2, k3, k4⟩ := hc
  refine iterO_eq (fun u => t < u ∧ u ≤ 400000) true (fun u => (200001 - u).toNat) ?_ n (t + 1) ⟨by omega, by omega⟩ (by omega)
  rintro u ⟨u1, u2⟩
  by_cases hu : u ≤ last.Node_Time
  · left
    obtain ⟨r, er, ⟨q1, q2, q3, q4, q5⟩, r0, r1⟩ := hH u u1 hu
    refine ⟨u + 1, ?_, ⟨by omega, by omega⟩, by omega⟩
    have bC : 0 ≤ k.Climb * (u - t) ∧ k.Climb * (u - t) ≤ 200 * 400000 := by
      refine ⟨Int.mul_nonneg (by omega) (by omega), ?_⟩
      have h1 : k.Climb * (u - t) ≤ 200 * (u - t) := Int.mul_le_mul_of_nonneg_right k2 (by omega)
      omega
    have bD : 0 ≤ k.Descent * (u - t) ∧ k.Descent * (u - t) ≤ 200 * 400000 := by
      refine ⟨Int.mul_nonneg (by omega) (by omega), ?_⟩
      have h1 : k.Descent * (u - t) ≤ 200 * (u - t) := Int.mul_le_mul_of_nonneg_right k4 (by omega)
      omega
    have up : r.Node_Height - now.Node_Height ≤ k.Climb * (u - t) := by
      rcases Int.le_total now.Node_Height to with h | h
      · have := q4 h; omega
      · omega
    have dn : 0 - (r.Node_Height - now.Node_Height) ≤ k.Descent * (u - t) + 2 := by
      rcases Int.le_total to now.Node_Height with h | h
      · have := q5 h; omega
      · omega
    show S4_0 n to t false m N now.Node_Time now.Node_At_X now.Node_At_Y now.Node_Height now.Radius now.Band k.Name k.Wake k.Ceiling k.Climb k.Descent k.Slow k.Fast u = _
    unfold S4_0
    rw [hw, getI_at hlast, Option.bind_some, decide_eq_true hu, cond_true, er, Option.bind_some]
    simp only [show ((0 : Int) != 0) = false from rfl, cond_false]
    rw [minI', maxI', decide_eq_false (show ¬ r.Node_Height < min now.Node_Height to by omega), decide_eq_false (show ¬ r.Node_Height > max now.Node_Height to by omega), wrap64 (z := t + N) (by omega) (by omega), wrap64 (z := u - t) (by omega) (by omega), wrap64 (z := k.Climb * (u - t)) (by omega) (by omega), wrap64 (z := k.Descent * (u - t)) (by omega) (by omega), wrap64 (z := r.Node_Height - now.Node_Height) (by omega) (by omega), wrap64 (z := 0 - (r.Node_Height - now.Node_Height)) (by omega) (by omega), wrap64 (z := k.Descent * (u - t) + 2) (by omega) (by omega), wrap64 (z := u + 1) (by omega) (by omega), decide_eq_false (show ¬ r.Node_Height - now.Node_Height > k.Climb * (u - t) by omega), decide_eq_false (show ¬ 0 - (r.Node_Height - now.Node_Height) > k.Descent * (u - t) + 2 by omega)]
    simp only [cond_false]
    by_cases he : u ≥ t + N
    · rw [decide_eq_true he, cond_true, show (r.Node_Height != to) = false from by rw [q3 he]; simp, cond_false]
    · rw [decide_eq_false he, cond_false]
  · right
    show S4_0 n to t false m N now.Node_Time now.Node_At_X now.Node_At_Y now.Node_Height now.Radius now.Band k.Name k.Wake k.Ceiling k.Climb k.Descent k.Slow k.Fast u = _
    unfold S4_0
    rw [hw, getI_at hlast, Option.bind_some, decide_eq_false hu, cond_false]
end Go.Proofs.YtpjepkldnnfncaaDoor
