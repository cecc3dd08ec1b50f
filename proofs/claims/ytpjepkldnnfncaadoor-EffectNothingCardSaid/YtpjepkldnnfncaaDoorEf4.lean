/- EffectNothing: clearances of the other kinds change nothing. -/
import Derived.Test.YtpjepkldnnfncaaDoorEf2
import Derived.Test.YtpjepkldnnfncaaDoorEf3
import Derived.OpenShut
set_option linter.unusedVariables false
set_option linter.unusedSimpArgs false
namespace Go.Proofs.YtpjepkldnnfncaaDoor

theorem equal_tubes (n : Nat) (l : List TTubeNode) (hl : l.length ≤ 64) (hn : 64 < n) : g20 n l l = some true := by
  unfold g20
  rw [show ((l.length : Int) != (l.length : Int)) = false from by simp, cond_false]
  have := equal_loop l l rfl (S := fun y : Int => S20_0 n l l false (l.length : Int) y) (fun i x y hx hy => by
    have hlt := some_lt hx
    unfold S20_0
    obtain rfl : x = y := by rw [hx] at hy; exact Option.some.inj hy
    rw [decide_eq_true (show (i : Int) < (l.length : Int) by omega), cond_true, getI_at hx]
    simp only [Option.bind_some]
    rw [wS (by omega)]
    rw [decide_eq_true trivial, if_pos trivial]; rfl) (by
    unfold S20_0
    rw [decide_eq_false (Int.lt_irrefl _)]; rfl) n (by omega)
  rw [show iterO (fun y : Int => S20_0 n l l false (l.length : Int) y) n 0 = some (decide (l = l)) from this, decide_eq_true rfl]
theorem nothing_law (l : List TTubeNode) (c : TClearance) (t : Int) (k : TKind) : g8 200300 l c t k = some true := by
  unfold g8
  rw [effect_fact, Option.bind_some, Bool.not_true, cond_false]
  rcases small_cases 200300 (by omega) [l] 1 400 (by simp) (by simp) with h | e
  case inr => rw [e]; rfl
  obtain ⟨e, h⟩ := h
  rw [e, Option.bind_some, Bool.not_true, cond_false]
  obtain ⟨ca, ha, wa⟩ := h l (by simp)
  obtain ⟨z, hz, z0, z2⟩ : ∃ z : Int, g19 200300 c.Kind 3 = some z ∧ 0 ≤ z ∧ z ≤ 2 := by
    unfold g19
    have h3 : IntKind.wrap .u64 (3 : Int) = 3 := IntWalk.u64_in _ (by omega)
    have hb := bounds_u64 (n := IntKind.wrap .u64 c.Kind) (wf_wrap _ _)
    rw [h3]
    generalize IntKind.wrap .u64 c.Kind = u at *
    have hm : modO u 3 = some (u.tmod 3) := by simp [modO]
    have ht : u.tmod 3 = u % 3 := Int.tmod_eq_emod_of_nonneg hb.1
    rw [hm, Option.bind_some, ht, wrap64 (by omega) (by omega)]
    exact ⟨_, rfl, by omega, by omega⟩
  rw [hz, Option.bind_some, wrap64 (by omega) (by omega)]
  rcases of_cases 200300 (by omega) l (⟨c.Call, 4 + z, c.Value, c.Fix⟩ : TClearance) t k (⟨0, 0⟩ : TP) with ⟨y, hy, e1⟩ | ⟨-, -, -, -, now, e4, e1⟩
  · rw [e1, Option.bind_some, bne_iff_ne.2 hy]; rfl
  have hend : ofEnd 200300 l (⟨c.Call, 4 + z, c.Value, c.Fix⟩ : TClearance) t now k (⟨0, 0⟩ : TP) = some (l, 0) := by
    have hc : g31 200300 (tsk l (⟨c.Call, 4 + z, c.Value, c.Fix⟩ : TClearance) t now k (⟨0, 0⟩ : TP)) = some ([], true, 0) := by
      unfold g31 tsk
      simp only []
      rw [show ((4 + z : Int) == 0) = false from beq_eq_false_iff_ne.2 (by omega), show ((4 + z : Int) == 1) = false from beq_eq_false_iff_ne.2 (by omega), show ((4 + z : Int) == 2) = false from beq_eq_false_iff_ne.2 (by omega), show ((4 + z : Int) == 3) = false from beq_eq_false_iff_ne.2 (by omega)]
      simp only [cond_false]
      cases ((lat l t).length : Int) == 0 <;> rfl
    unfold ofEnd
    have := ha.len
    rw [hc, Option.bind_some, room_of (by omega) (by omega)]
    rfl
  have pa := ha.pos
  have ka0 : l[0]? = some l[0] := List.getElem?_eq_getElem pa
  have ka1 : l[l.length - 1]? = some l[l.length - 1] := List.getElem?_eq_getElem (by omega)
  have wa' := wa _ _ ka0 ka1
  have hself : g16 200300 l l = some (0, 8) := by
    rcases differs_cases 200300 (by omega) l l ha ha ca ca _ _ _ _ ka0 ka1 ka0 ka1 with ⟨k, -⟩ | ⟨-, ⟨s, -, -, k, -⟩ | ⟨-, k⟩⟩
    · rw [Int.max_self, Int.min_self] at k; omega
    · exact absurd k (not_diff_self _ _ _)
    · exact k
  rw [e1, hend, Option.bind_some, show ((0 : Int) != 0) = false from rfl, cond_false, hself, Option.bind_some, show ((8 : Int) == 8) = true from rfl, cond_true, equal_tubes 200300 l ha.len (by omega)]
  rfl
end Go.Proofs.YtpjepkldnnfncaaDoor
