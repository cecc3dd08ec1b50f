/- joint.Refute, as a plain program. -/
import Derived.Test.YtlgbioidkbeanaaJd
import Derived.Test.YtlgbioidkbeanaaJbH
set_option linter.unusedVariables false
set_option linter.unusedSimpArgs false
namespace Go.Proofs.Ytlgbioidkbeanaa
open Go.RowKit Go.Shelf

theorem sg10 {n : Nat} {a0 : List (List TJointOption)} {a1 : TSep} {t : ρ10} (h : g10 n a0 a1 = some t) : Says Try.prog KK.gl 10 [(lstA (lstE TJointOption.E) a0), (AV.agg [(intA a1.Lateral), (intA a1.Vertical)])] ((AV.tup [(lstA TJointRefuted.E t.1), (intA t.2)])) := by
  refine says_of_calls ⟨Try.f10, _, Try.func10, rfl, by kernel_rfl⟩ (by simp [cleans, clean, encs_clean]) (by simp [cleans, clean, encs_clean]) fun B c vals g hgl hrel => ?_
  cases hrel with
  | cons r1 hrel =>
  cases hrel with
  | cons r2 hrel =>
  cases hrel
  obtain rfl := sep_of r2
  refine (refute_calls sgJ h (rel_in r1 (lstA_clean _ _))).mono ?_
  rintro e w' ⟨v, rfl, hk, hv⟩
  exact ⟨_, rfl, hk, .tup (vs := [v, .int .i64 t.2]) (.cons (rel_out g hv (lstA_clean _ _)) (.cons (.sc _ rfl) .nil))⟩
end Go.Proofs.Ytlgbioidkbeanaa
