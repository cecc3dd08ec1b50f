/- config.Combine as a plain program. -/
import Derived.Test.YthjcdlbkdobmiaaCcW
set_option linter.unusedVariables false
set_option linter.unusedSimpArgs false
namespace Go.Proofs.Ythjcdlbkdobmiaa
open Go.RowKit Go.Shelf

theorem sg8 {n : Nat} {l : List TConfigGroup} {to from_ : ByteArray} {t : ρ8} (h : g8 n l to from_ = some t) : Says Try.prog KK.gl 8 [lstA TConfigGroup.E l, strA to, strA from_] (.tup [lstA TConfigGroup.E t.1, intA t.2]) := by
  refine says_of_calls ⟨Try.f8, _, Try.func8, rfl, by kernel_rfl⟩ (by simp [cleans, clean, encs_clean]) (by simp [clean, cleans, encs_clean]) fun B c vals g hgl hrel => ?_
  cases hrel with
  | cons r1 hrel =>
  cases hrel with
  | cons r2 hrel =>
  cases hrel with
  | cons r3 hrel =>
  cases hrel
  cases r2
  cases r3
  refine (comb_calls h (rel_in r1 (lstA_clean _ _))).mono ?_
  rintro e w' ⟨v', rfl, hk, hv⟩
  exact ⟨_, rfl, hk, .tup (.cons (rel_out g hv (lstA_clean _ _)) (.cons (.sc _ rfl) .nil))⟩
end Go.Proofs.Ythjcdlbkdobmiaa
