/- A tube whose nodes are in bounds and whose times grow passes Check. -/
import Derived.Test.YtpjepkldnnfncaaDoorFf1
set_option linter.unusedVariables false
set_option linter.unusedSimpArgs false
namespace Go.Proofs.YtpjepkldnnfncaaDoor

theorem check_ok (n : Nat) (hn : 64 < n) (l : List TTubeNode) (h : TubeOk l) : g12 n l = some 0 := by
  have hp := h.pos
  have hl := h.len
  unfold g12
  rw [decide_eq_false (show ¬ (l.length : Int) > 64 by omega), cond_false, show ((l.length : Int) == 0) = false from beq_eq_false_iff_ne.2 (by omega), cond_false]
  refine iterO_eq (S := fun y : Int => S12_0 n l 0 (l.length : Int) y) (fun x => ∃ i : Nat, i ≤ l.length ∧ x = (i : Int)) 0 (fun x => l.length - x.toNat) ?_ n 0 ⟨0, Nat.zero_le _, rfl⟩ (by simp; omega)
  rintro _ ⟨i, hi, rfl⟩
  rcases Nat.lt_or_ge i l.length with hlt | hge
  · left
    have hx : l[i]? = some l[i] := List.getElem?_eq_getElem hlt
    obtain ⟨b1, b2, b3, b4, b5, b6, b7, b8, b9⟩ := h.nodes _ (List.getElem_mem hlt)
    have ep : g30 n (⟨l[i].Node_At_X, l[i].Node_At_Y⟩ : TP) = some 0 := by
      rcases pcheck n ⟨l[i].Node_At_X, l[i].Node_At_Y⟩ with ⟨e, -⟩ | ⟨-, e⟩
      · exact e
      · exact absurd b3 e
    refine ⟨((i + 1 : Nat) : Int), ?_, ⟨i + 1, hlt, rfl⟩, by simp; omega⟩
    show S12_0 n l 0 (l.length : Int) (i : Int) = _
    unfold S12_0
    rw [decide_eq_true (show (i : Int) < (l.length : Int) by omega), cond_true, getI_at hx, Option.bind_some, wS (by omega), decide_eq_false (show ¬ l[i].Node_Time < 0 by omega), cond_false, decide_eq_false (show ¬ l[i].Node_Time > 200000 by omega), cond_false, ep, Option.bind_some, show ((0 : Int) != 0) = false from rfl, cond_false, decide_eq_false (show ¬ l[i].Node_Height < 0 by omega), decide_eq_false (show ¬ l[i].Node_Height > 60000 by omega), decide_eq_false (show ¬ l[i].Radius < 0 by omega), decide_eq_false (show ¬ l[i].Radius > 1000000 by omega), decide_eq_false (show ¬ l[i].Band < 0 by omega), decide_eq_false (show ¬ l[i].Band > 60000 by omega)]
    simp only [cond_false]
    rcases i with _ | j
    · rfl
    · have hj : j < l.length := by omega
      have hy : l[j]? = some l[j] := List.getElem?_eq_getElem hj
      have hwj : IntKind.wrap .i64 (((j + 1 : Nat) : Int) - 1) = (j : Int) := by rw [wrap64 (by omega) (by omega)]; omega
      have hinc := h.inc j _ _ hy hx
      rw [decide_eq_true (show ((j + 1 : Nat) : Int) > 0 by omega), cond_true, hwj, getI_at hy, Option.bind_some, decide_eq_false (show ¬ l[j + 1].Node_Time ≤ l[j].Node_Time by omega), cond_false]
  · right
    have : i = l.length := by omega
    subst this
    show S12_0 n l 0 (l.length : Int) (l.length : Int) = _
    unfold S12_0
    rw [decide_eq_false (Int.lt_irrefl _)]; rfl
end Go.Proofs.YtpjepkldnnfncaaDoor
