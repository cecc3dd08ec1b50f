/- Plain functional programs out of the program's functions, with proofs that the functions compute them; printed by wip/Ext.lean.txt. -/
import Derived.Test.YtldiackagnjlgaaSvH
set_option linter.unusedVariables false
set_option linter.unusedSimpArgs false
set_option maxRecDepth 100000
set_option maxHeartbeats 4000000
namespace Go.Proofs.Ytldiackagnjlgaa
/- skyway/sector.Path -/
theorem g11_ok (n : Nat) (a0 : List TSector) (a1 : List TTubeNode) {t : ρ11} (R : AV → Mem → Prop) (hR : ∀ r : ρ11, t = r → ∀ u m, Ans ((AV.tup [(lstA TSectorVisit.E r.1), (intA r.2)])) u m → R u m) : g11 n a0 a1 = some t → F11 (lstA TSector.E a0) (lstA TTubeNode.E a1) R := by
  unfold g11 F11
  refine bind_b fun x145 h145 => ?_
  refine imp (callQ_says (sg24 h145)) ?_
  refine imp ex_i64_b ?_
  refine cond_b (fun _ => ?_) (fun _ => ?_)
  · exact fun hg => retN rfl (hR _ (Option.some.inj hg).symm) (fzL_cons (fz_nils (E := TSectorVisit.E) _) (fzL_cons (fz_sc _ _) fzL_nil))
  · refine bind_b fun x146 h146 => ?_
    refine imp (callQ_says (sg28 h146)) ?_
    refine imp ex_i64_b ?_
    refine cond_b (fun _ => ?_) (fun _ => ?_)
    · exact fun hg => retN rfl (hR _ (Option.some.inj hg).symm) (fzL_cons (fz_nils (E := TSectorVisit.E) _) (fzL_cons (fz_sc _ _) fzL_nil))
    · refine imp (opP_of (show _ = some ((intA (a1.length : Int)), []) from rfl)) ?_
      refine imp ex_i64_b ?_
      refine bind_b fun x147 h147 => ?_
      refine imp (opP_of (show _ = some ((AV.ept [(intA x147.Node_Time), (intA x147.Node_At_X), (intA x147.Node_At_Y), (intA x147.Node_Height), (intA x147.Radius), (intA x147.Band)] 0), []) from (idx_lst (E := TTubeNode.E) rfl h147))) ?_
      refine imp (opP_of (show _ = some ((AV.ept [(intA x147.Node_Time), (intA x147.Node_At_X), (intA x147.Node_At_Y), (intA x147.Node_Height), (intA x147.Radius), (intA x147.Band)] 0), []) from rfl)) ?_
      refine imp (opP_of (show _ = some ((AV.ept [(intA x147.Node_Time), (intA x147.Node_At_X), (intA x147.Node_At_Y), (intA x147.Node_Height), (intA x147.Radius), (intA x147.Band)] 0), []) from rfl)) ?_
      refine imp (opP_of (show _ = some ((intA x147.Node_Time), []) from rfl)) ?_
      refine imp ex_i64_b ?_
      refine bind_b fun x148 h148 => ?_
      refine imp (opP_of (show _ = some ((AV.ept [(intA x148.Node_Time), (intA x148.Node_At_X), (intA x148.Node_At_Y), (intA x148.Node_Height), (intA x148.Radius), (intA x148.Band)] 0), []) from (idx_lst (E := TTubeNode.E) rfl h148))) ?_
      refine imp (opP_of (show _ = some ((AV.ept [(intA x148.Node_Time), (intA x148.Node_At_X), (intA x148.Node_At_Y), (intA x148.Node_Height), (intA x148.Radius), (intA x148.Band)] 0), []) from rfl)) ?_
      refine imp (opP_of (show _ = some ((AV.ept [(intA x148.Node_Time), (intA x148.Node_At_X), (intA x148.Node_At_Y), (intA x148.Node_Height), (intA x148.Radius), (intA x148.Band)] 0), []) from rfl)) ?_
      refine imp (opP_of (show _ = some ((intA x148.Node_Time), []) from rfl)) ?_
      refine imp ex_i64_b ?_
      refine cond_b (fun _ => ?_) (fun _ => ?_)
      · exact fun hg => retN rfl (hR _ (Option.some.inj hg).symm) (fzL_cons (fz_nils (E := TSectorVisit.E) _) (fzL_cons (fz_sc _ _) fzL_nil))
      · refine bind_b fun x149 h149 => ?_
        refine imp (callQ_says (sg29 h149)) ?_
        exact fun hg => retN rfl (hR _ (Option.some.inj hg).symm) (fzL_cons (fz_lst (E := TSectorVisit.E) _ _ false) (fzL_cons (fz_sc _ _) fzL_nil))
theorem sg11 {n : Nat} {a0 : List TSector} {a1 : List TTubeNode} {t : ρ11} (h : g11 n a0 a1 = some t) : Says Try.prog KK.gl 11 [(lstA TSector.E a0), (lstA TTubeNode.E a1)] ((AV.tup [(lstA TSectorVisit.E t.1), (intA t.2)])) :=
  says_of_own (by first | rfl | simp [cleans, clean, encs_clean, En.cln]) (by first | rfl | simp [cleans, clean, encs_clean, En.cln]) (F11_own (lstA TSector.E a0) (lstA TTubeNode.E a1) _ (g11_ok n a0 a1 (Ans ((AV.tup [(lstA TSectorVisit.E t.1), (intA t.2)]))) (fun r e u m h => by rw [e]; exact h) h))
end Go.Proofs.Ytldiackagnjlgaa
