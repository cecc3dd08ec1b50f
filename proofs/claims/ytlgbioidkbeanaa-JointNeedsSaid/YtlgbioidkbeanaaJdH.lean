/- joint.Refuted, as a plain program. -/
import Derived.Test.YtlgbioidkbeanaaJh
import Derived.Test.YtlgbioidkbeanaaJrH
import Derived.Test.YtlgbioidkbeanaaMath2
set_option linter.unusedVariables false
set_option linter.unusedSimpArgs false
namespace Go.Proofs.Ytlgbioidkbeanaa
open Go.RowKit Go.Shelf

theorem eqI {a b : List Int} (ha : a.length ≤ 6) : g22 10 a b = some (decide (a = b)) := by
  unfold g22
  by_cases hl : a.length = b.length
  · rw [show ((a.length : Int) != (b.length : Int)) = false by simp [hl], cond_false]
    refine equal_loop a b hl (fun i x y hx hy => ?_) (by unfold S22_0; simp) 10 (by omega)
    unfold S22_0
    have hi := (List.getElem?_eq_some_iff.1 hx).1
    rw [decide_eq_true (by omega), cond_true]
    have e1 : getI a (i : Int) = some x := by unfold getI; rw [if_pos (by omega)]; exact hx
    have e2 : getI b (i : Int) = some y := by unfold getI; rw [if_pos (by omega)]; exact hy
    rw [e1, e2]
    simp only [Option.bind_some]
    rw [wrap64 (by omega) (by omega)]
    by_cases h : x = y
    · rw [if_pos h, bne_eq_false_iff_eq.2 h, cond_false]; rfl
    · rw [if_neg h, bne_iff_ne.2 h, cond_true]
  · rw [show ((a.length : Int) != (b.length : Int)) = true by simp; omega, cond_true, decide_eq_false (fun h => hl (by rw [h]))]
theorem sgR : SgR := ⟨fun _ _ _ _ h => sg32 h, fun a b h => sg22 (eqI h)⟩
theorem sg11 {n : Nat} {a0 : List (List TJointOption)} {a1 : TSep} {a2 : List TJointRefuted} {t : ρ11} (h : g11 n a0 a1 a2 = some t) : Says Try.prog KK.gl 11 [(lstA (lstE TJointOption.E) a0), (AV.agg [(intA a1.Lateral), (intA a1.Vertical)]), (lstA TJointRefuted.E a2)] ((intA t)) := by
  refine says_of_calls ⟨Try.f11, _, Try.func11, rfl, by kernel_rfl⟩ (by simp [cleans, clean, encs_clean]) rfl fun B c vals g hgl hrel => ?_
  cases hrel with
  | cons r1 hrel =>
  cases hrel with
  | cons r2 hrel =>
  cases hrel with
  | cons r3 hrel =>
  cases hrel
  obtain rfl := sep_of r2
  refine (refuted_calls sgJ sgR h (rel_in r1 (lstA_clean _ _)) (rel_in r3 (lstA_clean _ _))).mono ?_
  rintro e w' ⟨rfl, hk⟩
  exact ⟨_, rfl, hk, .sc _ rfl⟩
end Go.Proofs.Ytlgbioidkbeanaa
