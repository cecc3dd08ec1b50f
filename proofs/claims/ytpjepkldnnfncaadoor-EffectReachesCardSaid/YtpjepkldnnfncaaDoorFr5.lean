/- How long a climb takes. -/
import Derived.Test.YtpjepkldnnfncaaDoorFr4
set_option linter.unusedVariables false
set_option linter.unusedSimpArgs false
namespace Go.Proofs.YtpjepkldnnfncaaDoor

theorem up_zero (n : Nat) (b : Int) (hb : 0 < b) : g36 n 0 b = some (0, 0) := by
  have hd := down_exact n 0 b (by decide) hb
  have hm : modO 0 b = some 0 := by simp only [modO, if_neg (show ¬ b = 0 by omega)]; simp
  unfold g36
  rw [hd, Option.bind_some]
  simp only [show ((0 : Int) == 0) = true from rfl, cond_true]
  rw [hm, Option.bind_some]
  simp
structure ClimbOk (k : TKind) (h to N : Int) : Prop where
  hh : 0 ≤ h ∧ h ≤ 60000
  hto : 0 ≤ to ∧ to ≤ 60000
  hN : 0 ≤ N ∧ N ≤ 60001
  up : to - h ≤ k.Climb * N ∨ to < h
  down : h - to ≤ k.Descent * N ∨ h ≤ to
  same : h = to → N = 0
  rate : 1 ≤ k.Climb ∧ k.Climb ≤ 200 ∧ 1 ≤ k.Descent ∧ k.Descent ≤ 200
theorem climb_cases (n : Nat) (hn : 16 < n) (k : TKind) (h to : Int) : ∃ r : Int × Int, g15 n k h to = some r ∧ (r.2 = 0 → ClimbOk k h to r.1) := by
  unfold g15
  obtain ⟨z, hz, hk⟩ := craft_tot n hn k
  rw [hz, Option.bind_some]
  by_cases z0 : z = 0
  case neg => rw [bne_iff_ne.2 z0, cond_true]; exact ⟨_, rfl, fun e => absurd e z0⟩
  subst z0
  obtain ⟨k1, k2, k3, k4, -⟩ := hk rfl
  rw [show ((0 : Int) != 0) = false from rfl, cond_false]
  by_cases a1 : h < 0
  · rw [decide_eq_true a1, cond_true]; exact ⟨_, rfl, fun e => by cases e⟩
  rw [decide_eq_false a1, cond_false]
  by_cases a2 : h > 60000
  · rw [decide_eq_true a2, cond_true]; exact ⟨_, rfl, fun e => by cases e⟩
  rw [decide_eq_false a2, cond_false]
  by_cases a3 : to < 0
  · rw [decide_eq_true a3, cond_true]; exact ⟨_, rfl, fun e => by cases e⟩
  rw [decide_eq_false a3, cond_false]
  by_cases a4 : to > 60000
  · rw [decide_eq_true a4, cond_true]; exact ⟨_, rfl, fun e => by cases e⟩
  rw [decide_eq_false a4, cond_false]
  by_cases a5 : h > k.Ceiling
  · rw [decide_eq_true a5, cond_true]; exact ⟨_, rfl, fun e => by cases e⟩
  rw [decide_eq_false a5, cond_false]
  by_cases a6 : to > k.Ceiling
  · rw [decide_eq_true a6, cond_true]; exact ⟨_, rfl, fun e => by cases e⟩
  rw [decide_eq_false a6, cond_false]
  by_cases a7 : to ≥ h
  · rw [decide_eq_true a7, cond_true, wrap64 (z := to - h) (by omega) (by omega)]
    obtain ⟨q, hq, q0, q1, q2⟩ := up_val n (to - h) k.Climb (by omega) (by omega) (by omega)
    rw [hq, Option.bind_some]
    refine ⟨_, rfl, fun _ => ⟨by omega, by omega, by show 0 ≤ q ∧ q ≤ 60001; omega, .inl (by rw [Int.mul_comm]; exact q2), .inr (by omega), fun e => ?_, k1, k2, k3, k4⟩⟩
    have hz := up_zero n k.Climb (by omega)
    rw [show to - h = 0 by omega, hz] at hq
    cases hq; rfl
  · rw [decide_eq_false a7, cond_false, wrap64 (z := h - to) (by omega) (by omega)]
    obtain ⟨q, hq, q0, q1, q2⟩ := up_val n (h - to) k.Descent (by omega) (by omega) (by omega)
    rw [hq, Option.bind_some]
    exact ⟨_, rfl, fun _ => ⟨by omega, by omega, by show 0 ≤ q ∧ q ≤ 60001; omega, .inr (by omega), .inl (by rw [Int.mul_comm]; exact q2), fun e => by omega, k1, k2, k3, k4⟩⟩
end Go.Proofs.YtpjepkldnnfncaaDoor
