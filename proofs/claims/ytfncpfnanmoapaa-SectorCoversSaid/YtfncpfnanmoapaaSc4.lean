/- Sectors: Check answers, Place answers a sector or none. -/
import Derived.Test.YtfncpfnanmoapaaSc3
set_option linter.unusedVariables false
set_option linter.unusedSimpArgs false
namespace Go.Proofs.Ytfncpfnanmoapaa

theorem name_tot (n : Nat) (hn : 16 < n) (s : ByteArray) : ∃ b, g28 n s = some b := by
  unfold g28
  by_cases h1 : (s.size : Int) < 1
  · simp [h1]
  by_cases h2 : (s.size : Int) > 8
  · simp [h1, h2]
  have hl : s.data.toList.length = s.size := Array.length_toList
  rw [decide_eq_false h1, decide_eq_false h2, room_of (by omega) (by omega)]
  simp only [cond_false, Option.bind_some]
  refine iter_tot s.data.toList.length (fun i hi => ?_) (fun i hi => ?_) n 0 (by omega)
  · obtain ⟨x, hx⟩ := getI_tot hi
    show S28_0 n false (s.data.toList) ((s.data.toList).length : Int) (i : Int) = _ ∨ ∃ r, S28_0 n false (s.data.toList) ((s.data.toList).length : Int) (i : Int) = _
    unfold S28_0
    rw [decide_eq_true (show (i : Int) < _ by omega), hx, wS (by omega)]
    simp only [cond_true, Option.bind_some]
    repeat' (rw [Bool.cond_eq_ite]; split)
    all_goals simp
  · show ∃ r, S28_0 n false (s.data.toList) ((s.data.toList).length : Int) (i : Int) = _
    unfold S28_0
    rw [decide_eq_false (show ¬ (i : Int) < _ by omega)]
    exact ⟨_, rfl⟩
theorem sname_tot (n : Nat) (hn : 16 < n) (s : ByteArray) : ∃ b, g16 n s = some b := by
  unfold g16
  exact bind_tot (name_tot n hn s) fun _ => ⟨_, rfl⟩
structure SecOk (l : List TSector) : Prop where
  len : l.length ≤ 12
  rooms : ∀ s ∈ l, s.Room.length ≤ 4 ∧ ∀ v ∈ s.Room, VolOk v
/- a point's sector -/
end Go.Proofs.Ytfncpfnanmoapaa
