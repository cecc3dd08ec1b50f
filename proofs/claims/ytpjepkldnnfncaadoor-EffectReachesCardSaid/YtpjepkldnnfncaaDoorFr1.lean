/- Heights between two nodes, rounded down: not above and not below a line that lies above, below, both nodes. -/
import Derived.Test.YtpjepkldnnfncaaDoorMath2
set_option linter.unusedVariables false
set_option linter.unusedSimpArgs false
namespace Go.Proofs.YtpjepkldnnfncaaDoor

theorem cross (x y c d : Int) : (x + y * c) * d - (x + y * d) * c = x * (d - c) := by
  rw [Int.add_mul, Int.add_mul, Int.mul_sub, Int.mul_assoc, Int.mul_assoc, Int.mul_comm c d]; omega
/- ha, hb: heights at ta and tb = ta + d; the line is A at ta and rises by K in a second -/
theorem interp_up {ha hb A K c d : Int} (hc : 0 ≤ c) (hcd : c ≤ d) (hd : 0 < d) (h1 : ha ≤ A) (h2 : hb ≤ A + K * d) : ha + ((hb - ha) * c) / d ≤ A + K * c := by
  have e : ((hb - ha) * c) / d ≤ A + K * c - ha := Int.ediv_le_of_le_mul hd (by
    have k1 : (hb - ha) * c ≤ (A + K * d - ha) * c := Int.mul_le_mul_of_nonneg_right (by omega) hc
    have k2 := cross (A - ha) K c d
    have k3 : 0 ≤ (A - ha) * (d - c) := Int.mul_nonneg (by omega) (by omega)
    rw [show A - ha + K * c = A + K * c - ha by omega, show A - ha + K * d = A + K * d - ha by omega] at k2
    omega)
  omega
theorem interp_lo {ha hb A K c d : Int} (hc : 0 ≤ c) (hcd : c ≤ d) (hd : 0 < d) (h1 : A ≤ ha) (h2 : A + K * d ≤ hb) : A + K * c ≤ ha + ((hb - ha) * c) / d := by
  have e : A + K * c - ha ≤ ((hb - ha) * c) / d := Int.le_ediv_of_mul_le hd (by
    have k1 : (A + K * d - ha) * c ≤ (hb - ha) * c := Int.mul_le_mul_of_nonneg_right (by omega) hc
    have k2 := cross (A - ha) K c d
    have k3 : (A - ha) * (d - c) ≤ 0 := Int.mul_nonpos_of_nonpos_of_nonneg (by omega) (by omega)
    rw [show A - ha + K * c = A + K * c - ha by omega, show A - ha + K * d = A + K * d - ha by omega] at k2
    omega)
  omega
/- the height that a flight has x seconds after a clearance: D in all, N seconds long, C at most in a second -/
theorem rise_le {D N C x : Int} (hN : 0 < N) (hx : 0 ≤ x) (h : D ≤ C * N) : (D * x) / N ≤ C * x := Int.ediv_le_of_le_mul hN (by
  have := Int.mul_le_mul_of_nonneg_right h hx
  rw [Int.mul_assoc, Int.mul_comm N x, ← Int.mul_assoc] at this
  exact this)
theorem rise_ge {D N C x : Int} (hN : 0 < N) (hx : 0 ≤ x) (h : C * N ≤ D) : C * x ≤ (D * x) / N := Int.le_ediv_of_mul_le hN (by
  have := Int.mul_le_mul_of_nonneg_right h hx
  rw [Int.mul_assoc, Int.mul_comm N x, ← Int.mul_assoc] at this
  exact this)
end Go.Proofs.YtpjepkldnnfncaaDoor
