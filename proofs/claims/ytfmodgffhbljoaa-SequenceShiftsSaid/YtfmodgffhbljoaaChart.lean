/- chart.Name as a plain program: it always answers. -/
import Derived.Test.YtfmodgffhbljoaaMath2
import Derived.Test.YtfmodgffhbljoaaX1G
set_option linter.unusedVariables false
set_option linter.unusedSimpArgs false
namespace Go.Proofs.Ytfmodgffhbljoaa
theorem name_tot (n : Nat) (hn : 16 < n) (s : ByteArray) : ∃ b, g62 n s = some b := by
  unfold g62
  by_cases h1 : (s.size : Int) < 1
  · simp [h1]
  by_cases h2 : (s.size : Int) > 8
  · simp [h1, h2]
  have hl : s.data.toList.length = s.size := Array.length_toList
  rw [decide_eq_false h1, decide_eq_false h2, room_of (by omega) (by omega)]
  simp only [cond_false, Option.bind_some]
  obtain ⟨r, h, -⟩ := iterO_rule (S := fun y : Int => S62_0 n false (s.data.toList) ((s.data.toList).length : Int) y) (fun x => ∃ i : Nat, i ≤ s.data.toList.length ∧ x = (i : Int)) (fun _ => True) (fun x => s.data.toList.length - x.toNat) (by
    rintro _ ⟨i, hi, rfl⟩
    rcases Nat.lt_or_ge i s.data.toList.length with hlt | hge
    · have hx := getI_at (List.getElem?_eq_getElem hlt)
      have hw := wS (i := i) (by omega)
      have key : S62_0 n false (s.data.toList) ((s.data.toList).length : Int) (i : Int) = some (.inl (((i + 1 : Nat) : Int))) ∨ ∃ r, S62_0 n false (s.data.toList) ((s.data.toList).length : Int) (i : Int) = some (.inr r) := by
        unfold S62_0
        rw [decide_eq_true (show (i : Int) < _ by omega), hx, hw]
        simp only [cond_true, Option.bind_some]
        repeat' (rw [Bool.cond_eq_ite]; split)
        all_goals simp
      rcases key with k | ⟨r, k⟩
      · exact .inl ⟨_, k, ⟨i + 1, hlt, rfl⟩, by simp; omega⟩
      · exact .inr ⟨r, k, trivial⟩
    · have : i = s.data.toList.length := by omega
      subst this
      refine .inr ⟨true, ?_, trivial⟩
      unfold S62_0
      simp) n 0 ⟨0, Nat.zero_le _, rfl⟩ (by simp; omega)
  exact ⟨r, h⟩
end Go.Proofs.Ytfmodgffhbljoaa
