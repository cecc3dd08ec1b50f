/- The height at a time: its bounds. -/
import Derived.Test.YtpjepkldnnfncaaDoorFr5
set_option linter.unusedVariables false
set_option linter.unusedSimpArgs false
namespace Go.Proofs.YtpjepkldnnfncaaDoor

section
variable {k : TKind} {h0 to t0 N u : Int}
theorem ClimbOk.zero (h : ClimbOk k h0 to N) (hz : N = 0) : h0 = to := by
  have h1 := h.up
  have h2 := h.down
  rw [hz, Int.mul_zero] at h1 h2
  omega
theorem hgt_end (h : t0 + N ≤ u) : hgt h0 to t0 N u = to := by unfold hgt; rw [if_pos h]
theorem hgt_start (h : ClimbOk k h0 to N) : hgt h0 to t0 N t0 = h0 := by
  unfold hgt
  have := h.hN
  by_cases hz : N = 0
  · rw [if_pos (by omega)]; exact (h.zero hz).symm
  · rw [if_neg (by omega)]; simp
theorem hgt_range (h : ClimbOk k h0 to N) (hu : t0 ≤ u) : min h0 to ≤ hgt h0 to t0 N u ∧ hgt h0 to t0 N u ≤ max h0 to := by
  unfold hgt
  by_cases he : t0 + N ≤ u
  · rw [if_pos he]; omega
  · rw [if_neg he]
    have md := mid_le (D := to - h0) (c := u - t0) (d := N) (by omega) (by omega)
    rcases Int.lt_or_le (to - h0) 0 with q | q
    · have := md.2 q; omega
    · have := md.1 q; omega
theorem hgt_up (h : ClimbOk k h0 to N) (hu : t0 ≤ u) (hd : h0 ≤ to) : hgt h0 to t0 N u ≤ h0 + k.Climb * (u - t0) := by
  have h1 : to - h0 ≤ k.Climb * N := by have := h.up; omega
  have hC := h.rate.1
  unfold hgt
  by_cases he : t0 + N ≤ u
  · rw [if_pos he]
    have : k.Climb * N ≤ k.Climb * (u - t0) := Int.mul_le_mul_of_nonneg_left (by omega) (by omega)
    omega
  · rw [if_neg he]
    have := rise_le (D := to - h0) (N := N) (C := k.Climb) (x := u - t0) (by omega) (by omega) h1
    omega
theorem hgt_down (h : ClimbOk k h0 to N) (hu : t0 ≤ u) (hd : to ≤ h0) : h0 - k.Descent * (u - t0) ≤ hgt h0 to t0 N u := by
  have h1 : h0 - to ≤ k.Descent * N := by have := h.down; rcases this with q | q; exact q; (have := h.rate.2.2.1; have := h.hN; have := Int.mul_nonneg (show 0 ≤ k.Descent by omega) h.hN.1; omega)
  have hC := h.rate.2.2.1
  unfold hgt
  by_cases he : t0 + N ≤ u
  · rw [if_pos he]
    have : k.Descent * N ≤ k.Descent * (u - t0) := Int.mul_le_mul_of_nonneg_left (by omega) (by omega)
    omega
  · rw [if_neg he]
    have := rise_ge (D := to - h0) (N := N) (C := -k.Descent) (x := u - t0) (by omega) (by omega) (by rw [Int.neg_mul]; omega)
    rw [Int.neg_mul] at this
    omega
end
end Go.Proofs.YtpjepkldnnfncaaDoor
