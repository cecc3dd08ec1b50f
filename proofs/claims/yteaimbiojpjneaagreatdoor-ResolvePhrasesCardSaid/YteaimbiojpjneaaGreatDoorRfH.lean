/- The fact skyway/skywaykeep3.resolveFact. -/
import Derived.Test.YteaimbiojpjneaaGreatDoorRpF
set_option linter.unusedVariables false
set_option maxRecDepth 100000
namespace Go.Proofs.YteaimbiojpjneaaGreatDoor
def KR : Cfg := ⟨fun f => f == 21, KF.gl⟩
theorem ev_resolve : evalsToY Tryz.prog KR sp0 300 6 = some true := by decide +kernel
theorem sg6 {n : Nat} {t : ρ6} (h : g6 n = some t) : Says Tryz.prog KK.gl 6 [] (boolA t) := by
  cases h
  exact says_of_evalsY (K := KR) fol sp0_ok (k := 300) ev_resolve
end Go.Proofs.YteaimbiojpjneaaGreatDoor
