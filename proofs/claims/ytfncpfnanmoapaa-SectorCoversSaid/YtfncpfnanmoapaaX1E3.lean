/- Plain functional programs out of the program's functions, with proofs that the functions compute them; printed by wip/Ext.lean.txt. -/
import Derived.Test.YtfncpfnanmoapaaX1E2
set_option linter.unusedVariables false
set_option linter.unusedSimpArgs false
set_option maxRecDepth 100000
set_option maxHeartbeats 4000000
namespace Go.Proofs.Ytfncpfnanmoapaa
/- skyway/plane.Toward -/
theorem g55_ok (n : Nat) (a0 : TP) (a1 : TP) (a2 : Int) (a3 : Int) {t : ρ55} (R : AV → Mem → Prop) (hR : ∀ r : ρ55, t = r → ∀ u m, Ans ((AV.tup [(AV.agg (TP.E.enc r.1)), (intA r.2)])) u m → R u m) : g55 n a0 a1 a2 a3 = some t → F55 a0.X a0.Y a1.X a1.Y a2 a3 R := by
  unfold g55 F55
  refine cond_b (fun _ => ?_) (fun _ => ?_)
  · refine imp (opP_of (show _ = some ((AV.agg [(intA (0)), (intA (0))]), []) from rfl)) ?_
    refine imp (storeW_cells (sz := 2) (by kernel_rfl) (by kernel_rfl) rfl rfl (cs := [(intA (0)), (intA (0))]) (cs' := [(intA (0)), (intA (0))]) (ty := 24) (by first | rfl | (simp (disch := first | decide | assumption) only [mpushs_nil, mpushs_cons, mget_hd, mget_tl, mget_appW_o, mget_appW_n, mget_appW_e])) rfl rfl) ?_
    exact fun hg => retN rfl (hR _ (Option.some.inj hg).symm) (fzL_cons (fz_el (E := TP.E) _ (⟨(0), (0)⟩ : TP)) (fzL_cons (fz_sc _ _) fzL_nil))
  · refine cond_b (fun _ => ?_) (fun _ => ?_)
    · refine imp (opP_of (show _ = some ((AV.agg [(intA (0)), (intA (0))]), []) from rfl)) ?_
      refine imp (storeW_cells (sz := 2) (by kernel_rfl) (by kernel_rfl) rfl rfl (cs := [(intA (0)), (intA (0))]) (cs' := [(intA (0)), (intA (0))]) (ty := 24) (by first | rfl | (simp (disch := first | decide | assumption) only [mpushs_nil, mpushs_cons, mget_hd, mget_tl, mget_appW_o, mget_appW_n, mget_appW_e])) rfl rfl) ?_
      exact fun hg => retN rfl (hR _ (Option.some.inj hg).symm) (fzL_cons (fz_el (E := TP.E) _ (⟨(0), (0)⟩ : TP)) (fzL_cons (fz_sc _ _) fzL_nil))
    · refine cond_b (fun _ => ?_) (fun _ => ?_)
      · refine imp (opP_of (show _ = some ((AV.agg [(intA (0)), (intA (0))]), []) from rfl)) ?_
        refine imp (storeW_cells (sz := 2) (by kernel_rfl) (by kernel_rfl) rfl rfl (cs := [(intA (0)), (intA (0))]) (cs' := [(intA (0)), (intA (0))]) (ty := 24) (by first | rfl | (simp (disch := first | decide | assumption) only [mpushs_nil, mpushs_cons, mget_hd, mget_tl, mget_appW_o, mget_appW_n, mget_appW_e])) rfl rfl) ?_
        exact fun hg => retN rfl (hR _ (Option.some.inj hg).symm) (fzL_cons (fz_el (E := TP.E) _ (⟨(0), (0)⟩ : TP)) (fzL_cons (fz_sc _ _) fzL_nil))
      · refine cond_b (fun _ => ?_) (fun _ => ?_)
        · refine imp (opP_of (show _ = some ((AV.agg [(intA (0)), (intA (0))]), []) from rfl)) ?_
          refine imp (storeW_cells (sz := 2) (by kernel_rfl) (by kernel_rfl) rfl rfl (cs := [(intA (0)), (intA (0))]) (cs' := [(intA (0)), (intA (0))]) (ty := 24) (by first | rfl | (simp (disch := first | decide | assumption) only [mpushs_nil, mpushs_cons, mget_hd, mget_tl, mget_appW_o, mget_appW_n, mget_appW_e])) rfl rfl) ?_
          exact fun hg => retN rfl (hR _ (Option.some.inj hg).symm) (fzL_cons (fz_el (E := TP.E) _ (⟨(0), (0)⟩ : TP)) (fzL_cons (fz_sc _ _) fzL_nil))
        · refine bind_b fun x120 h120 => ?_
          refine imp (callQ_says (sg19 h120)) ?_
          refine imp ex_i64_b ?_
          refine cond_b (fun _ => ?_) (fun _ => ?_)
          · refine imp (opP_of (show _ = some ((AV.agg [(intA (0)), (intA (0))]), []) from rfl)) ?_
            refine bind_b fun x121 h121 => ?_
            refine imp (callQ_says (sg19 h121)) ?_
            refine imp ex_i64_b ?_
            refine imp (storeW_cells (sz := 2) (by kernel_rfl) (by kernel_rfl) rfl rfl (cs := [(intA (0)), (intA (0))]) (cs' := [(intA (0)), (intA (0))]) (ty := 24) (by first | rfl | (simp (disch := first | decide | assumption) only [mpushs_nil, mpushs_cons, mget_hd, mget_tl, mget_appW_o, mget_appW_n, mget_appW_e])) rfl rfl) ?_
            exact fun hg => retN rfl (hR _ (Option.some.inj hg).symm) (fzL_cons (fz_el (E := TP.E) _ (⟨(0), (0)⟩ : TP)) (fzL_cons (fz_sc _ _) fzL_nil))
          · refine bind_b fun x122 h122 => ?_
            refine imp (callQ_says (sg19 h122)) ?_
            refine imp ex_i64_b ?_
            refine cond_b (fun _ => ?_) (fun _ => ?_)
            · refine imp (opP_of (show _ = some ((AV.agg [(intA (0)), (intA (0))]), []) from rfl)) ?_
              refine bind_b fun x123 h123 => ?_
              refine imp (callQ_says (sg19 h123)) ?_
              refine imp ex_i64_b ?_
              refine imp (storeW_cells (sz := 2) (by kernel_rfl) (by kernel_rfl) rfl rfl (cs := [(intA (0)), (intA (0))]) (cs' := [(intA (0)), (intA (0))]) (ty := 24) (by first | rfl | (simp (disch := first | decide | assumption) only [mpushs_nil, mpushs_cons, mget_hd, mget_tl, mget_appW_o, mget_appW_n, mget_appW_e])) rfl rfl) ?_
              exact fun hg => retN rfl (hR _ (Option.some.inj hg).symm) (fzL_cons (fz_el (E := TP.E) _ (⟨(0), (0)⟩ : TP)) (fzL_cons (fz_sc _ _) fzL_nil))
            · refine bind_b fun x128 h128 => ?_
              refine imp (callQ_says (sg56 h128)) ?_
              refine imp exT2_b ?_
              refine imp ex_i64_b ?_
              refine imp ex_i64_b ?_
              refine bind_b fun x129 h129 => ?_
              refine imp (callQ_says (sg56 h129)) ?_
              refine imp exT2_b ?_
              refine imp ex_i64_b ?_
              refine imp ex_i64_b ?_
              refine imp (opP_of (show _ = some ((AV.agg [(intA (IntKind.wrap .i64 (a0.X + x128.1))), (intA (IntKind.wrap .i64 (a0.Y + x129.1)))]), []) from rfl)) ?_
              refine imp (storeW_cells (sz := 2) (by kernel_rfl) (by kernel_rfl) rfl rfl (cs := [(intA (0)), (intA (0))]) (cs' := [(intA (IntKind.wrap .i64 (a0.X + x128.1))), (intA (IntKind.wrap .i64 (a0.Y + x129.1)))]) (ty := 24) (by first | rfl | (simp (disch := first | decide | assumption) only [mpushs_nil, mpushs_cons, mget_hd, mget_tl, mget_appW_o, mget_appW_n, mget_appW_e])) rfl rfl) ?_
              exact fun hg => retN rfl (hR _ (Option.some.inj hg).symm) (fzL_cons (fz_el (E := TP.E) _ (⟨(IntKind.wrap .i64 (a0.X + x128.1)), (IntKind.wrap .i64 (a0.Y + x129.1))⟩ : TP)) (fzL_cons (fz_sc _ _) fzL_nil))
theorem sg55 {n : Nat} {a0 : TP} {a1 : TP} {a2 : Int} {a3 : Int} {t : ρ55} (h : g55 n a0 a1 a2 a3 = some t) : Says Try.prog KK.gl 55 [(AV.agg [(intA a0.X), (intA a0.Y)]), (AV.agg [(intA a1.X), (intA a1.Y)]), (intA a2), (intA a3)] ((AV.tup [(AV.agg (TP.E.enc t.1)), (intA t.2)])) :=
  says_of_own (by first | rfl | simp [cleans, clean, encs_clean, En.cln]) (by first | rfl | simp [cleans, clean, encs_clean, En.cln]) (F55_own a0.X a0.Y a1.X a1.Y a2 a3 _ (g55_ok n a0 a1 a2 a3 (Ans ((AV.tup [(AV.agg (TP.E.enc t.1)), (intA t.2)]))) (fun r e u m h => by rw [e]; exact h) h))
/- skyway/num.DivUp -/
theorem g57_ok (n : Nat) (a0 : Int) (a1 : Int) {t : ρ57} (R : AV → Mem → Prop) (hR : ∀ r : ρ57, t = r → ∀ u m, Ans ((AV.tup [(intA r.1), (intA r.2)])) u m → R u m) : g57 n a0 a1 = some t → F57 a0 a1 R := by
  unfold g57 F57
  refine bind_b fun x132 h132 => ?_
  refine imp (callQ_says (sg56 h132)) ?_
  refine imp exT2_b ?_
  refine imp ex_i64_b ?_
  refine imp ex_i64_b ?_
  refine cond_b (fun _ => ?_) (fun _ => ?_)
  · refine bind_b fun x133 h133 => ?_
    refine imp (opP_of (show _ = some ((intA x133), []) from (opA_rem h133))) ?_
    refine imp ex_i64_b ?_
    refine cond_b (fun _ => ?_) (fun _ => ?_)
    · exact fun hg => retN rfl (hR _ (Option.some.inj hg).symm) (fzL_cons (fz_sc _ _) (fzL_cons (fz_sc _ _) fzL_nil))
    · exact fun hg => retN rfl (hR _ (Option.some.inj hg).symm) (fzL_cons (fz_sc _ _) (fzL_cons (fz_sc _ _) fzL_nil))
  · exact fun hg => retN rfl (hR _ (Option.some.inj hg).symm) (fzL_cons (fz_sc _ _) (fzL_cons (fz_sc _ _) fzL_nil))
theorem sg57 {n : Nat} {a0 : Int} {a1 : Int} {t : ρ57} (h : g57 n a0 a1 = some t) : Says Try.prog KK.gl 57 [(intA a0), (intA a1)] ((AV.tup [(intA t.1), (intA t.2)])) :=
  says_of_own (by first | rfl | simp [cleans, clean, encs_clean, En.cln]) (by first | rfl | simp [cleans, clean, encs_clean, En.cln]) (F57_own a0 a1 _ (g57_ok n a0 a1 (Ans ((AV.tup [(intA t.1), (intA t.2)]))) (fun r e u m h => by rw [e]; exact h) h))
/- skyway/tube.at -/
theorem g47_ok (n : Nat) (a0 : List TTubeNode) (a1 : Int) {t : ρ47} (R : AV → Mem → Prop) (hR : ∀ r : ρ47, t = r → ∀ u m, Ans ((AV.agg (TTubeNode.E.enc r))) u m → R u m) : g47 n a0 a1 = some t → F47 (lstA TTubeNode.E a0) a1 R := by
  unfold g47 F47
  refine bind_b fun x116 h116 => ?_
  refine imp (callW_says (sg53 h116)) ?_
  refine imp exT2_b ?_
  refine imp ex_i64_b ?_
  refine imp exB_b ?_
  refine cond_b (fun _ => ?_) (fun _ => ?_)
  · refine bind_b fun x117 h117 => ?_
    refine imp (opP_of (show _ = some ((AV.ept [(intA x117.Node_Time), (intA x117.Node_At_X), (intA x117.Node_At_Y), (intA x117.Node_Height), (intA x117.Radius), (intA x117.Band)] 0), []) from (idx_lst (E := TTubeNode.E) rfl h117))) ?_
    refine imp (opP_of (show _ = some ((AV.agg [(intA x117.Node_Time), (intA x117.Node_At_X), (intA x117.Node_At_Y), (intA x117.Node_Height), (intA x117.Radius), (intA x117.Band)]), []) from rfl)) ?_
    refine imp exA6_b ?_
    refine imp ex_i64_b ?_
    refine imp ex_i64_b ?_
    refine imp ex_i64_b ?_
    refine imp ex_i64_b ?_
    refine imp ex_i64_b ?_
    refine imp ex_i64_b ?_
    refine imp (storeW_cells (sz := 6) (by kernel_rfl) (by kernel_rfl) rfl rfl (cs := [(intA (0)), (intA (0)), (intA (0)), (intA (0)), (intA (0)), (intA (0))]) (cs' := [(intA x117.Node_Time), (intA x117.Node_At_X), (intA x117.Node_At_Y), (intA x117.Node_Height), (intA x117.Radius), (intA x117.Band)]) (ty := 66) (by first | rfl | (simp (disch := first | decide | assumption) only [mpushs_nil, mpushs_cons, mget_hd, mget_tl, mget_appW_o, mget_appW_n, mget_appW_e])) rfl rfl) ?_
    exact fun hg => ret1 (hR _ (Option.some.inj hg).symm) (fz_el (E := TTubeNode.E) _ x117)
  · refine bind_b fun x118 h118 => ?_
    refine imp (opM_of (show _ = some ((AV.ept [(intA x118.Node_Time), (intA x118.Node_At_X), (intA x118.Node_At_Y), (intA x118.Node_Height), (intA x118.Radius), (intA x118.Band)] 0), []) from (idx_lst (E := TTubeNode.E) rfl h118))) ?_
    refine imp (opM_of (show _ = some ((AV.agg [(intA x118.Node_Time), (intA x118.Node_At_X), (intA x118.Node_At_Y), (intA x118.Node_Height), (intA x118.Radius), (intA x118.Band)]), []) from rfl)) ?_
    refine imp exA6_b ?_
    refine imp ex_i64_b ?_
    refine imp ex_i64_b ?_
    refine imp ex_i64_b ?_
    refine imp ex_i64_b ?_
    refine imp ex_i64_b ?_
    refine imp ex_i64_b ?_
    refine bind_b fun x119 h119 => ?_
    refine imp (opM_of (show _ = some ((AV.ept [(intA x119.Node_Time), (intA x119.Node_At_X), (intA x119.Node_At_Y), (intA x119.Node_Height), (intA x119.Radius), (intA x119.Band)] 0), []) from (idx_lst (E := TTubeNode.E) rfl h119))) ?_
    refine imp (opM_of (show _ = some ((AV.agg [(intA x119.Node_Time), (intA x119.Node_At_X), (intA x119.Node_At_Y), (intA x119.Node_Height), (intA x119.Radius), (intA x119.Band)]), []) from rfl)) ?_
    refine imp exA6_b ?_
    refine imp ex_i64_b ?_
    refine imp ex_i64_b ?_
    refine imp ex_i64_b ?_
    refine imp ex_i64_b ?_
    refine imp ex_i64_b ?_
    refine imp ex_i64_b ?_
    refine imp (storeW_cells (sz := 6) (by kernel_rfl) (by kernel_rfl) rfl rfl (cs := [(intA (0)), (intA (0)), (intA (0)), (intA (0)), (intA (0)), (intA (0))]) (cs' := [(intA x118.Node_Time), (intA x118.Node_At_X), (intA x118.Node_At_Y), (intA x118.Node_Height), (intA x118.Radius), (intA x118.Band)]) (ty := 66) (by first | rfl | (rw [look'_mem (by first | rfl | simp [topId_blk] | simp [topId])]; first | rfl | (simp (disch := first | decide | assumption) only [mpushs_nil, mpushs_cons, mget_hd, mget_tl, mget_appW_o, mget_appW_n, mget_appW_e]))) rfl rfl) ?_
    refine imp (storeW_cells (sz := 6) (by kernel_rfl) (by kernel_rfl) rfl rfl (cs := [(intA (0)), (intA (0)), (intA (0)), (intA (0)), (intA (0)), (intA (0))]) (cs' := [(intA x119.Node_Time), (intA x119.Node_At_X), (intA x119.Node_At_Y), (intA x119.Node_Height), (intA x119.Radius), (intA x119.Band)]) (ty := 66) (by first | rfl | (rw [look'_mem (by first | rfl | simp [topId_blk] | simp [topId])]; first | rfl | (simp (disch := first | decide | assumption) only [mpushs_nil, mpushs_cons, mget_hd, mget_tl, mget_appW_o, mget_appW_n, mget_appW_e]))) rfl rfl) ?_
    refine imp (chk_of (by kernel_rfl)) ?_
    refine imp (opP_of (show _ = some ((intA x118.Node_Time), []) from (ldS_ptr (b := ⟨[(intA x118.Node_Time), (intA x118.Node_At_X), (intA x118.Node_At_Y), (intA x118.Node_Height), (intA x118.Radius), (intA x118.Band)], 66⟩) (by first | rfl | (simp (disch := first | decide | assumption) only [mpushs_nil, mpushs_cons, mget_hd, mget_tl, mget_appW_o, mget_appW_n, mget_appW_e])) rfl))) ?_
    refine imp ex_i64_b ?_
    refine imp (opP_of (show _ = some ((intA x119.Node_Time), []) from (ldS_ptr (b := ⟨[(intA x119.Node_Time), (intA x119.Node_At_X), (intA x119.Node_At_Y), (intA x119.Node_Height), (intA x119.Radius), (intA x119.Band)], 66⟩) (by first | rfl | (simp (disch := first | decide | assumption) only [mpushs_nil, mpushs_cons, mget_hd, mget_tl, mget_appW_o, mget_appW_n, mget_appW_e])) rfl))) ?_
    refine imp ex_i64_b ?_
    refine imp (opP_of (show _ = some ((intA x118.Node_Time), []) from (ldS_ptr (b := ⟨[(intA x118.Node_Time), (intA x118.Node_At_X), (intA x118.Node_At_Y), (intA x118.Node_Height), (intA x118.Radius), (intA x118.Band)], 66⟩) (by first | rfl | (simp (disch := first | decide | assumption) only [mpushs_nil, mpushs_cons, mget_hd, mget_tl, mget_appW_o, mget_appW_n, mget_appW_e])) rfl))) ?_
    refine imp ex_i64_b ?_
    refine imp (opP_of (show _ = some ((AV.agg [(intA x118.Node_At_X), (intA x118.Node_At_Y)]), []) from (ldA_ptr (b := ⟨[(intA x118.Node_Time), (intA x118.Node_At_X), (intA x118.Node_At_Y), (intA x118.Node_Height), (intA x118.Radius), (intA x118.Band)], 66⟩) (by first | rfl | (simp (disch := first | decide | assumption) only [mpushs_nil, mpushs_cons, mget_hd, mget_tl, mget_appW_o, mget_appW_n, mget_appW_e])) rfl))) ?_
    refine imp exA2_b ?_
    refine imp ex_i64_b ?_
    refine imp ex_i64_b ?_
    refine imp (opP_of (show _ = some ((AV.agg [(intA x119.Node_At_X), (intA x119.Node_At_Y)]), []) from (ldA_ptr (b := ⟨[(intA x119.Node_Time), (intA x119.Node_At_X), (intA x119.Node_At_Y), (intA x119.Node_Height), (intA x119.Radius), (intA x119.Band)], 66⟩) (by first | rfl | (simp (disch := first | decide | assumption) only [mpushs_nil, mpushs_cons, mget_hd, mget_tl, mget_appW_o, mget_appW_n, mget_appW_e])) rfl))) ?_
    refine imp exA2_b ?_
    refine imp ex_i64_b ?_
    refine imp ex_i64_b ?_
    refine bind_b fun x130 h130 => ?_
    refine imp (callQ_says (sg55 h130)) ?_
    refine imp exT2_b ?_
    refine imp exA2_b ?_
    refine imp ex_i64_b ?_
    refine imp ex_i64_b ?_
    refine imp ex_i64_b ?_
    refine imp (opP_of (show _ = some ((intA x119.Node_Height), []) from (ldS_ptr (b := ⟨[(intA x119.Node_Time), (intA x119.Node_At_X), (intA x119.Node_At_Y), (intA x119.Node_Height), (intA x119.Radius), (intA x119.Band)], 66⟩) (by first | rfl | (simp (disch := first | decide | assumption) only [mpushs_nil, mpushs_cons, mget_hd, mget_tl, mget_appW_o, mget_appW_n, mget_appW_e])) rfl))) ?_
    refine imp ex_i64_b ?_
    refine imp (opP_of (show _ = some ((intA x118.Node_Height), []) from (ldS_ptr (b := ⟨[(intA x118.Node_Time), (intA x118.Node_At_X), (intA x118.Node_At_Y), (intA x118.Node_Height), (intA x118.Radius), (intA x118.Band)], 66⟩) (by first | rfl | (simp (disch := first | decide | assumption) only [mpushs_nil, mpushs_cons, mget_hd, mget_tl, mget_appW_o, mget_appW_n, mget_appW_e])) rfl))) ?_
    refine imp ex_i64_b ?_
    refine bind_b fun x131 h131 => ?_
    refine imp (callQ_says (sg56 h131)) ?_
    refine imp exT2_b ?_
    refine imp ex_i64_b ?_
    refine imp ex_i64_b ?_
    refine imp (opP_of (show _ = some ((intA x119.Radius), []) from (ldS_ptr (b := ⟨[(intA x119.Node_Time), (intA x119.Node_At_X), (intA x119.Node_At_Y), (intA x119.Node_Height), (intA x119.Radius), (intA x119.Band)], 66⟩) (by first | rfl | (simp (disch := first | decide | assumption) only [mpushs_nil, mpushs_cons, mget_hd, mget_tl, mget_appW_o, mget_appW_n, mget_appW_e])) rfl))) ?_
    refine imp ex_i64_b ?_
    refine imp (opP_of (show _ = some ((intA x118.Radius), []) from (ldS_ptr (b := ⟨[(intA x118.Node_Time), (intA x118.Node_At_X), (intA x118.Node_At_Y), (intA x118.Node_Height), (intA x118.Radius), (intA x118.Band)], 66⟩) (by first | rfl | (simp (disch := first | decide | assumption) only [mpushs_nil, mpushs_cons, mget_hd, mget_tl, mget_appW_o, mget_appW_n, mget_appW_e])) rfl))) ?_
    refine imp ex_i64_b ?_
    refine bind_b fun x134 h134 => ?_
    refine imp (callQ_says (sg57 h134)) ?_
    refine imp exT2_b ?_
    refine imp ex_i64_b ?_
    refine imp ex_i64_b ?_
    refine imp (opP_of (show _ = some ((intA x119.Band), []) from (ldS_ptr (b := ⟨[(intA x119.Node_Time), (intA x119.Node_At_X), (intA x119.Node_At_Y), (intA x119.Node_Height), (intA x119.Radius), (intA x119.Band)], 66⟩) (by first | rfl | (simp (disch := first | decide | assumption) only [mpushs_nil, mpushs_cons, mget_hd, mget_tl, mget_appW_o, mget_appW_n, mget_appW_e])) rfl))) ?_
    refine imp ex_i64_b ?_
    refine imp (opP_of (show _ = some ((intA x118.Band), []) from (ldS_ptr (b := ⟨[(intA x118.Node_Time), (intA x118.Node_At_X), (intA x118.Node_At_Y), (intA x118.Node_Height), (intA x118.Radius), (intA x118.Band)], 66⟩) (by first | rfl | (simp (disch := first | decide | assumption) only [mpushs_nil, mpushs_cons, mget_hd, mget_tl, mget_appW_o, mget_appW_n, mget_appW_e])) rfl))) ?_
    refine imp ex_i64_b ?_
    refine bind_b fun x135 h135 => ?_
    refine imp (callQ_says (sg57 h135)) ?_
    refine imp exT2_b ?_
    refine imp ex_i64_b ?_
    refine imp ex_i64_b ?_
    refine imp (opP_of (show _ = some ((intA x118.Node_Height), []) from (ldS_ptr (b := ⟨[(intA x118.Node_Time), (intA x118.Node_At_X), (intA x118.Node_At_Y), (intA x118.Node_Height), (intA x118.Radius), (intA x118.Band)], 66⟩) (by first | rfl | (simp (disch := first | decide | assumption) only [mpushs_nil, mpushs_cons, mget_hd, mget_tl, mget_appW_o, mget_appW_n, mget_appW_e])) rfl))) ?_
    refine imp ex_i64_b ?_
    refine imp (opP_of (show _ = some ((AV.agg [(intA a1), (intA x130.1.X), (intA x130.1.Y), (intA (IntKind.wrap .i64 (x118.Node_Height + x131.1)))]), []) from rfl)) ?_
    refine imp (opP_of (show _ = some ((intA x118.Radius), []) from (ldS_ptr (b := ⟨[(intA x118.Node_Time), (intA x118.Node_At_X), (intA x118.Node_At_Y), (intA x118.Node_Height), (intA x118.Radius), (intA x118.Band)], 66⟩) (by first | rfl | (simp (disch := first | decide | assumption) only [mpushs_nil, mpushs_cons, mget_hd, mget_tl, mget_appW_o, mget_appW_n, mget_appW_e])) rfl))) ?_
    refine imp ex_i64_b ?_
    refine imp (opP_of (show _ = some ((intA x118.Band), []) from (ldS_ptr (b := ⟨[(intA x118.Node_Time), (intA x118.Node_At_X), (intA x118.Node_At_Y), (intA x118.Node_Height), (intA x118.Radius), (intA x118.Band)], 66⟩) (by first | rfl | (simp (disch := first | decide | assumption) only [mpushs_nil, mpushs_cons, mget_hd, mget_tl, mget_appW_o, mget_appW_n, mget_appW_e])) rfl))) ?_
    refine imp ex_i64_b ?_
    refine imp (opP_of (show _ = some ((AV.agg [(intA a1), (intA x130.1.X), (intA x130.1.Y), (intA (IntKind.wrap .i64 (x118.Node_Height + x131.1))), (intA (IntKind.wrap .i64 (x118.Radius + x134.1))), (intA (IntKind.wrap .i64 (x118.Band + x135.1)))]), []) from rfl)) ?_
    refine imp (storeW_cells (sz := 6) (by kernel_rfl) (by kernel_rfl) rfl rfl (cs := [(intA (0)), (intA (0)), (intA (0)), (intA (0)), (intA (0)), (intA (0))]) (cs' := [(intA a1), (intA x130.1.X), (intA x130.1.Y), (intA (IntKind.wrap .i64 (x118.Node_Height + x131.1))), (intA (IntKind.wrap .i64 (x118.Radius + x134.1))), (intA (IntKind.wrap .i64 (x118.Band + x135.1)))]) (ty := 66) (by first | rfl | (simp (disch := first | decide | assumption) only [mpushs_nil, mpushs_cons, mget_hd, mget_tl, mget_appW_o, mget_appW_n, mget_appW_e])) rfl rfl) ?_
    exact fun hg => ret1 (hR _ (Option.some.inj hg).symm) (fz_el (E := TTubeNode.E) _ (⟨a1, x130.1.X, x130.1.Y, (IntKind.wrap .i64 (x118.Node_Height + x131.1)), (IntKind.wrap .i64 (x118.Radius + x134.1)), (IntKind.wrap .i64 (x118.Band + x135.1))⟩ : TTubeNode))
theorem sg47 {n : Nat} {a0 : List TTubeNode} {a1 : Int} {t : ρ47} (h : g47 n a0 a1 = some t) : Says Try.prog KK.gl 47 [(lstA TTubeNode.E a0), (intA a1)] ((AV.agg (TTubeNode.E.enc t))) :=
  says_of_own (by first | rfl | simp [cleans, clean, encs_clean, En.cln]) (by first | rfl | simp [cleans, clean, encs_clean, En.cln]) (F47_own (lstA TTubeNode.E a0) a1 _ (g47_ok n a0 a1 (Ans ((AV.agg (TTubeNode.E.enc t)))) (fun r e u m h => by rw [e]; exact h) h))
end Go.Proofs.Ytfncpfnanmoapaa
