/- The fact skyway/skywaykeep3.loadFact. -/
import Derived.Test.YtldiackagnjlgaaSpH
set_option linter.unusedVariables false
set_option maxRecDepth 100000
namespace Go.Proofs.Ytldiackagnjlgaa
theorem ev_load : evalsToY Try.prog KF sp0 300 18 = some true := by decide +kernel
theorem sg18 {n : Nat} {t : ρ18} (h : g18 n = some t) : Says Try.prog KK.gl 18 [] (boolA t) := by
  cases h
  exact says_of_evalsY (K := KF) fol sp0_ok (k := 300) ev_load
end Go.Proofs.Ytldiackagnjlgaa
