/- The fact skyway/skywaykeep3.sectorFact. -/
import Derived.Test.YtldiackagnjlgaaX1E4
import Derived.Test.YtldiackagnjlgaaSpH
set_option linter.unusedVariables false
set_option maxRecDepth 100000
namespace Go.Proofs.Ytldiackagnjlgaa
theorem ev_sector : evalsToY Try.prog KF sp0 300 9 = some true := by decide +kernel
theorem sg9 {n : Nat} {t : ρ9} (h : g9 n = some t) : Says Try.prog KK.gl 9 [] (boolA t) := by
  cases h
  exact says_of_evalsY (K := KF) fol sp0_ok (k := 300) ev_sector
end Go.Proofs.Ytldiackagnjlgaa
