/- The fact skyway/skywaykeep3.sectorFact. -/
import Derived.Test.YtfncpfnanmoapaaSpH
set_option linter.unusedVariables false
set_option maxRecDepth 100000
namespace Go.Proofs.Ytfncpfnanmoapaa
theorem ev_sector : evalsToY Try.prog KF sp0 300 5 = some true := by decide +kernel
theorem sg5 {n : Nat} {t : ρ5} (h : g5 n = some t) : Says Try.prog KK.gl 5 [] (boolA t) := by
  cases h
  exact says_of_evalsY (K := KF) fol sp0_ok (k := 300) ev_sector
end Go.Proofs.Ytfncpfnanmoapaa
