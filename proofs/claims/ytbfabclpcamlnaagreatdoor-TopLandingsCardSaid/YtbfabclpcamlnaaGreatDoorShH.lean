/- A part. -/
import Derived.Test.YtbfabclpcamlnaaGreatDoorShC
import Derived.Test.YtbfabclpcamlnaaGreatDoorShD
set_option linter.unusedVariables false
set_option maxRecDepth 100000
namespace Go.Proofs.YtbfabclpcamlnaaGreatDoor
def spH : Eh := fun f args m nx =>
  bif Nat.beq f 23 then (bif J7 args Adj then some (Adc, m, nx) else none)
  else bif Nat.beq f 105 then (bif J7 args xZ then some (xK, m, nx) else none)
  else bif Nat.beq f 33 then (bif J7 args mY then some (o5, m, nx) else none) else spT f args m nx
theorem Abl : Ey Tryz.prog KF.gl spH := by
  intro f args m nx v m' nx' h
  unfold spH at h
  cases h1 : Nat.beq f 23 with
  | true =>
    rw [h1, cond_true] at h
    obtain ⟨ha, he⟩ := Hx h
    cases he
    rw [Nat.eq_of_beq_eq_true h1, Hy _ _ ha]
    exact Ew (K := KS) (G6 (K := KS) Ee Vd y3)
  | false =>
    rw [h1, cond_false] at h
    cases h2 : Nat.beq f 105 with
    | true =>
      rw [h2, cond_true] at h
      obtain ⟨ha, he⟩ := Hx h
      cases he
      rw [Nat.eq_of_beq_eq_true h2, Hy _ _ ha]
      exact Ew (K := KS) (G6 (K := KS) Ee Vd rZ)
    | false =>
      rw [h2, cond_false] at h
      cases h3 : Nat.beq f 33 with
      | true =>
        rw [h3, cond_true] at h
        obtain ⟨ha, he⟩ := Hx h
        cases he
        rw [Nat.eq_of_beq_eq_true h3, Hy _ _ ha]
        exact Ew (K := KS) (G6 (K := KS) Ee Vd kD)
      | false =>
        rw [h3, cond_false] at h
        exact Vd _ _ _ _ _ _ _ h
theorem mR : Rn Tryz.prog KS spH 300 4 = some true := by decide +kernel
theorem sg4 {n : Nat} {t : ρ4} (h : g4 n = some t) : C3 Tryz.prog KK.gl 4 [] (Ac t) := by
  cases h
  exact Qn (K := KS) Ee Abl (k := 300) mR
end Go.Proofs.YtbfabclpcamlnaaGreatDoor
