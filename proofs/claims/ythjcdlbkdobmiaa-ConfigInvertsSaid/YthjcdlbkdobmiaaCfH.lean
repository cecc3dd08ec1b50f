/- Texts compared, as the library does it; the fact, by the evaluator that knows that. -/
import Derived.Test.YthjcdlbkdobmiaaX1T
import Derived.Test.YthjcdlbkdobmiaaPX
import Derived.Shelf.Small.Strs
set_option linter.unusedVariables false
set_option linter.unusedSimpArgs false
set_option maxRecDepth 100000
namespace Go.Proofs.Ythjcdlbkdobmiaa
open Go.RowKit Go.Shelf
def layCmp_ren : Go.Shelf.Ren := ⟨fun | 106 => 37 | 213 => 50 | 265 => 65 | n => n, fun | 9 => 9 | 3 => 3 | n => n, fun | n => n⟩
theorem layCmp : Go.Proofs.Lays.n106 Try.prog layCmp_ren where
  mixed := by kernel_rfl
  f106 := Try.func37.trans (congrArg some (by kernel_rfl))
  f213 := Try.func50.trans (congrArg some (by kernel_rfl))
  f265 := Try.func65.trans (congrArg some (by kernel_rfl))
  t3 := Try.underlying3
  a3 := Try.isAgg3
  z3 := Try.sizeOf3
  v3 := Try.zeroValue3
  t9 := Try.underlying9
  a9 := Try.isAgg9
  z9 := Try.sizeOf9
  v9 := Try.zeroValue9
theorem cmp_says (a b : ByteArray) : Says Try.prog KF.gl 37 [strA a, strA b] (intA (Lib.compareBytes a.data.toList b.data.toList)) := by
  refine says_of_calls ⟨Try.f37, _, Try.func37, rfl, by kernel_rfl⟩ rfl rfl fun B c vals g hgl hr => ?_
  cases hr with
  | cons r1 r2 =>
    cases r2 with
    | cons r2 r3 =>
    cases r3
    cases r1
    cases r2
    refine (Any.strings_Compare layCmp a b c.w).mono ?_
    rintro e w' ⟨rfl, rfl⟩
    exact ⟨_, rfl, Kept.refl _, .sc _ rfl⟩
def spC : FuncId → List AV → Option AV := fun f args => match args with
  | [.sc (.string a), .sc (.string b)] => bif f == 37 then some (intA (Lib.compareBytes a.data.toList b.data.toList)) else none
  | _ => none
theorem spC_ok : ∀ f args v, spC f args = some v → Says Try.prog KF.gl f args v := by
  intro f args v h
  unfold spC at h
  split at h
  · rename_i a b
    cases hf : f == 37 with
    | false => rw [hf] at h; cases h
    | true =>
      rw [hf] at h
      cases h
      obtain rfl := beq_iff_eq.1 hf
      exact cmp_says a b
  · cases h
abbrev ρ6 := Bool
def g6 (n : Nat) : Option ρ6 := some true
theorem ev6 : evalsToX Try.prog KF spC 300 6 = some true := by decide +kernel
theorem sg6 {n : Nat} {t : ρ6} (h : g6 n = some t) : Says Try.prog KK.gl 6 [] (boolA t) := by
  cases h
  exact says_of_evalsX (K := KF) fol spC_ok (k := 300) ev6
end Go.Proofs.Ythjcdlbkdobmiaa
