/- The height between two nodes of a climb. -/
import Derived.Test.YtpjepkldnnfncaaDoorFr6
set_option linter.unusedVariables false
set_option linter.unusedSimpArgs false
namespace Go.Proofs.YtpjepkldnnfncaaDoor

def HOk (k : TKind) (h0 to t0 N u z : Int) : Prop := min h0 to ≤ z ∧ z ≤ max h0 to ∧ (t0 + N ≤ u → z = to) ∧ (h0 ≤ to → z ≤ h0 + k.Climb * (u - t0)) ∧ (to ≤ h0 → h0 - k.Descent * (u - t0) ≤ z)
theorem hok_node {k : TKind} {h0 to t0 N u : Int} (h : ClimbOk k h0 to N) (hu : t0 ≤ u) : HOk k h0 to t0 N u (hgt h0 to t0 N u) :=
  ⟨(hgt_range h hu).1, (hgt_range h hu).2, hgt_end, hgt_up h hu, hgt_down h hu⟩
theorem lin (K a b c : Int) : K * (a - b) + K * (c - a) = K * (c - b) := by rw [← Int.mul_add]; congr 1; omega
theorem hok_seg {k : TKind} {h0 to t0 N ta u tb : Int} (h : ClimbOk k h0 to N) (h1 : t0 ≤ ta) (h2 : ta < u) (h3 : u < tb) (hs : tb ≤ t0 + N ∨ t0 + N ≤ ta) :
    HOk k h0 to t0 N u (hgt h0 to t0 N ta + ((hgt h0 to t0 N tb - hgt h0 to t0 N ta) * (u - ta)) / (tb - ta)) := by
  have ra := hgt_range h h1
  have rb := hgt_range (t0 := t0) (u := tb) h (by omega)
  refine ⟨?_, ?_, fun he => ?_, fun hd => ?_, fun hd => ?_⟩
  · have := interp_lo (ha := hgt h0 to t0 N ta) (hb := hgt h0 to t0 N tb) (A := min h0 to) (K := 0) (c := u - ta) (d := tb - ta) (by omega) (by omega) (by omega) ra.1 (by rw [Int.zero_mul]; omega)
    rw [Int.zero_mul] at this; omega
  · have := interp_up (ha := hgt h0 to t0 N ta) (hb := hgt h0 to t0 N tb) (A := max h0 to) (K := 0) (c := u - ta) (d := tb - ta) (by omega) (by omega) (by omega) ra.2 (by rw [Int.zero_mul]; omega)
    rw [Int.zero_mul] at this; omega
  · rw [hgt_end (h0 := h0) (to := to) (t0 := t0) (N := N) (u := ta) (by omega), hgt_end (h0 := h0) (to := to) (t0 := t0) (N := N) (u := tb) (by omega)]
    simp
  · have ua := hgt_up h h1 hd
    have ub := hgt_up (t0 := t0) (u := tb) h (by omega) hd
    have := interp_up (ha := hgt h0 to t0 N ta) (hb := hgt h0 to t0 N tb) (A := h0 + k.Climb * (ta - t0)) (K := k.Climb) (c := u - ta) (d := tb - ta) (by omega) (by omega) (by omega) ua (by have := lin k.Climb ta t0 tb; omega)
    have := lin k.Climb ta t0 u
    omega
  · have ua := hgt_down h h1 hd
    have ub := hgt_down (t0 := t0) (u := tb) h (by omega) hd
    have := interp_lo (ha := hgt h0 to t0 N ta) (hb := hgt h0 to t0 N tb) (A := h0 - k.Descent * (ta - t0)) (K := -k.Descent) (c := u - ta) (d := tb - ta) (by omega) (by omega) (by omega) ua (by rw [Int.neg_mul]; have := lin k.Descent ta t0 tb; omega)
    rw [Int.neg_mul] at this
    have := lin k.Descent ta t0 u
    omega
end Go.Proofs.YtpjepkldnnfncaaDoor
