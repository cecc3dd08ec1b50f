/- config.Split as a plain program. -/
import Derived.Test.YthjcdlbkdobmiaaCsW
set_option linter.unusedVariables false
set_option linter.unusedSimpArgs false
namespace Go.Proofs.Ythjcdlbkdobmiaa
open Go.RowKit Go.Shelf

theorem sg9 {n : Nat} {l : List TConfigGroup} {from_ to : ByteArray} {names : List ByteArray} {t : ρ9} (h : g9 n l from_ to names = some t) : Says Try.prog KK.gl 9 [lstA TConfigGroup.E l, strA from_, strA to, lstA strE names] (.tup [lstA TConfigGroup.E t.1, intA t.2]) := by
  refine says_of_calls ⟨Try.f9, _, Try.func9, rfl, by kernel_rfl⟩ (by simp [cleans, clean, encs_clean]) (by simp [clean, cleans, encs_clean]) fun B c vals g hgl hrel => ?_
  cases hrel with
  | cons r1 hrel =>
  cases hrel with
  | cons r2 hrel =>
  cases hrel with
  | cons r3 hrel =>
  cases hrel with
  | cons r4 hrel =>
  cases hrel
  cases r2
  cases r3
  refine (split_calls h (rel_in r1 (lstA_clean _ _)) (rel_in r4 (lstA_clean _ _))).mono ?_
  rintro e w' ⟨v', rfl, hk, hv⟩
  exact ⟨_, rfl, hk, .tup (.cons (rel_out g hv (lstA_clean _ _)) (.cons (.sc _ rfl) .nil))⟩
end Go.Proofs.Ythjcdlbkdobmiaa
