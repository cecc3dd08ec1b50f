/- cmp.Compare of texts as a plain program. -/
import Derived.Test.YtfmodgffhbljoaaMath2
import Derived.Test.YtfmodgffhbljoaaX1G
set_option linter.unusedVariables false
set_option linter.unusedSimpArgs false
namespace Go.Proofs.Ytfmodgffhbljoaa
theorem cmpC_eq (n : Nat) (a b : ByteArray) : g59 n a b = some (cmpC a b) := by
  unfold g59 g69
  simp only [beq_self_eq_true, Bool.not_true, Option.bind_some, cond_false, cmpC]
  rcases less_tot a.toList b.toList with h | h | h
  · simp [h]
  · have := less_asy _ _ h
    have hne : (a.toList == b.toList) = false := by
      cases hq : a.toList == b.toList with
      | false => rfl
      | true => rw [beq_iff_eq.1 hq, less_irr] at h; cases h
    simp [h, this, hne]
  · rw [h]; simp [less_irr]
end Go.Proofs.Ytfmodgffhbljoaa
