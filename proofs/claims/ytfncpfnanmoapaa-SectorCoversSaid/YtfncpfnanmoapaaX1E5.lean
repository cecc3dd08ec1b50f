/- Plain functional programs out of the program's functions, with proofs that the functions compute them; printed by wip/Ext.lean.txt. -/
import Derived.Test.YtfncpfnanmoapaaX1E4
import Derived.Test.YtfncpfnanmoapaaSfH
set_option linter.unusedVariables false
set_option linter.unusedSimpArgs false
set_option maxRecDepth 100000
set_option maxHeartbeats 4000000
namespace Go.Proofs.Ytfncpfnanmoapaa
/- skyway/skywaykeep3.SectorShares -/
/- skyway/sector.Find -/
theorem g8_ok (n : Nat) (a0 : List TSector) (a1 : TP) (a2 : Int) {t : ρ8} (R : AV → Mem → Prop) (hR : ∀ r : ρ8, t = r → ∀ u m, Ans ((AV.tup [(intA r.1), (intA r.2)])) u m → R u m) : g8 n a0 a1 a2 = some t → F8 (lstA TSector.E a0) a1.X a1.Y a2 R := by
  unfold g8 F8
  refine bind_b fun x166 h166 => ?_
  refine imp (callQ_says (sg14 h166)) ?_
  refine imp ex_i64_b ?_
  refine cond_b (fun _ => ?_) (fun _ => ?_)
  · exact fun hg => retN rfl (hR _ (Option.some.inj hg).symm) (fzL_cons (fz_sc _ _) (fzL_cons (fz_sc _ _) fzL_nil))
  · refine bind_b fun x167 h167 => ?_
    refine imp (callQ_says (sg19 h167)) ?_
    refine imp ex_i64_b ?_
    refine cond_b (fun _ => ?_) (fun _ => ?_)
    · exact fun hg => retN rfl (hR _ (Option.some.inj hg).symm) (fzL_cons (fz_sc _ _) (fzL_cons (fz_sc _ _) fzL_nil))
    · refine cond_b (fun _ => ?_) (fun _ => ?_)
      · exact fun hg => retN rfl (hR _ (Option.some.inj hg).symm) (fzL_cons (fz_sc _ _) (fzL_cons (fz_sc _ _) fzL_nil))
      · refine cond_b (fun _ => ?_) (fun _ => ?_)
        · exact fun hg => retN rfl (hR _ (Option.some.inj hg).symm) (fzL_cons (fz_sc _ _) (fzL_cons (fz_sc _ _) fzL_nil))
        · refine bind_b fun x168 h168 => ?_
          refine imp (callQ_says (sg20 h168)) ?_
          refine imp ex_i64_b ?_
          refine cond_b (fun _ => ?_) (fun _ => ?_)
          · exact fun hg => retN rfl (hR _ (Option.some.inj hg).symm) (fzL_cons (fz_sc _ _) (fzL_cons (fz_sc _ _) fzL_nil))
          · exact fun hg => retN rfl (hR _ (Option.some.inj hg).symm) (fzL_cons (fz_sc _ _) (fzL_cons (fz_sc _ _) fzL_nil))
theorem sg8 {n : Nat} {a0 : List TSector} {a1 : TP} {a2 : Int} {t : ρ8} (h : g8 n a0 a1 a2 = some t) : Says Try.prog KK.gl 8 [(lstA TSector.E a0), (AV.agg [(intA a1.X), (intA a1.Y)]), (intA a2)] ((AV.tup [(intA t.1), (intA t.2)])) :=
  says_of_own (by first | rfl | simp [cleans, clean, encs_clean, En.cln]) (by first | rfl | simp [cleans, clean, encs_clean, En.cln]) (F8_own (lstA TSector.E a0) a1.X a1.Y a2 _ (g8_ok n a0 a1 a2 (Ans ((AV.tup [(intA t.1), (intA t.2)]))) (fun r e u m h => by rw [e]; exact h) h))
/- skyway/skywaykeep3.SectorCovers -/
theorem g3_ok (n : Nat) (a0 : List TSector) (a1 : TSectorBox) (a2 : TP) (a3 : Int) {t : ρ3} (R : AV → Mem → Prop) (hR : ∀ r : ρ3, t = r → ∀ u m, Ans ((boolA r)) u m → R u m) : g3 n a0 a1 a2 a3 = some t → F3 (lstA TSector.E a0) a1.From_X a1.From_Y a1.To_X a1.To_Y a1.Low a1.High a2.X a2.Y a3 R := by
  unfold g3 F3
  refine bind_b fun x161 h161 => ?_
  refine imp (callQ_says (sg5 h161)) ?_
  refine imp exB_b ?_
  refine cond_b (fun _ => ?_) (fun _ => ?_)
  · exact fun hg => ret1 (hR _ (Option.some.inj hg).symm) (fz_sc _ _)
  · refine bind_b fun x162 h162 => ?_
    refine imp (callQ_says (sg6 h162)) ?_
    refine imp exT2_b ?_
    refine imp ex_i64_b ?_
    refine imp ex_i64_b ?_
    refine cond_b (fun _ => ?_) (fun _ => ?_)
    · exact fun hg => ret1 (hR _ (Option.some.inj hg).symm) (fz_sc _ _)
    · refine cond_b (fun _ => ?_) (fun _ => ?_)
      · exact fun hg => ret1 (hR _ (Option.some.inj hg).symm) (fz_sc _ _)
      · refine imp (opM_of (show _ = some ((intA a1.From_X), []) from (ldS_ptr (b := ⟨[(intA a1.From_X), (intA a1.From_Y), (intA a1.To_X), (intA a1.To_Y), (intA a1.Low), (intA a1.High)], 26⟩) (by first | rfl | (rw [look'_mem (by first | rfl | simp [topId_blk] | simp [topId])]; first | rfl | (simp (disch := first | decide | assumption) only [mpushs_nil, mpushs_cons, mget_hd, mget_tl, mget_appW_o, mget_appW_n, mget_appW_e]))) rfl))) ?_
        refine imp ex_i64_b ?_
        refine imp (opM_of (show _ = some ((intA a2.X), []) from (ldS_ptr (b := ⟨[(intA a2.X), (intA a2.Y)], 24⟩) (by first | rfl | (rw [look'_mem (by first | rfl | simp [topId_blk] | simp [topId])]; first | rfl | (simp (disch := first | decide | assumption) only [mpushs_nil, mpushs_cons, mget_hd, mget_tl, mget_appW_o, mget_appW_n, mget_appW_e]))) rfl))) ?_
        refine imp ex_i64_b ?_
        refine imp (opM_of (show _ = some ((intA a1.To_X), []) from (ldS_ptr (b := ⟨[(intA a1.From_X), (intA a1.From_Y), (intA a1.To_X), (intA a1.To_Y), (intA a1.Low), (intA a1.High)], 26⟩) (by first | rfl | (rw [look'_mem (by first | rfl | simp [topId_blk] | simp [topId])]; first | rfl | (simp (disch := first | decide | assumption) only [mpushs_nil, mpushs_cons, mget_hd, mget_tl, mget_appW_o, mget_appW_n, mget_appW_e]))) rfl))) ?_
        refine imp ex_i64_b ?_
        refine imp (opM_of (show _ = some ((intA a1.From_X), []) from (ldS_ptr (b := ⟨[(intA a1.From_X), (intA a1.From_Y), (intA a1.To_X), (intA a1.To_Y), (intA a1.Low), (intA a1.High)], 26⟩) (by first | rfl | (rw [look'_mem (by first | rfl | simp [topId_blk] | simp [topId])]; first | rfl | (simp (disch := first | decide | assumption) only [mpushs_nil, mpushs_cons, mget_hd, mget_tl, mget_appW_o, mget_appW_n, mget_appW_e]))) rfl))) ?_
        refine imp ex_i64_b ?_
        refine bind_b fun x163 h163 => ?_
        refine imp (callF_says (sg7 h163)) ?_
        refine imp ex_i64_b ?_
        refine imp (opM_of (show _ = some ((intA a1.From_Y), []) from (ldS_ptr (b := ⟨[(intA a1.From_X), (intA a1.From_Y), (intA a1.To_X), (intA a1.To_Y), (intA a1.Low), (intA a1.High)], 26⟩) (by first | rfl | (rw [look'_mem (by first | rfl | simp [topId_blk] | simp [topId])]; first | rfl | (simp (disch := first | decide | assumption) only [mpushs_nil, mpushs_cons, mget_hd, mget_tl, mget_appW_o, mget_appW_n, mget_appW_e]))) rfl))) ?_
        refine imp ex_i64_b ?_
        refine imp (opM_of (show _ = some ((intA a2.Y), []) from (ldS_ptr (b := ⟨[(intA a2.X), (intA a2.Y)], 24⟩) (by first | rfl | (rw [look'_mem (by first | rfl | simp [topId_blk] | simp [topId])]; first | rfl | (simp (disch := first | decide | assumption) only [mpushs_nil, mpushs_cons, mget_hd, mget_tl, mget_appW_o, mget_appW_n, mget_appW_e]))) rfl))) ?_
        refine imp ex_i64_b ?_
        refine imp (opM_of (show _ = some ((intA a1.To_Y), []) from (ldS_ptr (b := ⟨[(intA a1.From_X), (intA a1.From_Y), (intA a1.To_X), (intA a1.To_Y), (intA a1.Low), (intA a1.High)], 26⟩) (by first | rfl | (rw [look'_mem (by first | rfl | simp [topId_blk] | simp [topId])]; first | rfl | (simp (disch := first | decide | assumption) only [mpushs_nil, mpushs_cons, mget_hd, mget_tl, mget_appW_o, mget_appW_n, mget_appW_e]))) rfl))) ?_
        refine imp ex_i64_b ?_
        refine imp (opM_of (show _ = some ((intA a1.From_Y), []) from (ldS_ptr (b := ⟨[(intA a1.From_X), (intA a1.From_Y), (intA a1.To_X), (intA a1.To_Y), (intA a1.Low), (intA a1.High)], 26⟩) (by first | rfl | (rw [look'_mem (by first | rfl | simp [topId_blk] | simp [topId])]; first | rfl | (simp (disch := first | decide | assumption) only [mpushs_nil, mpushs_cons, mget_hd, mget_tl, mget_appW_o, mget_appW_n, mget_appW_e]))) rfl))) ?_
        refine imp ex_i64_b ?_
        refine bind_b fun x164 h164 => ?_
        refine imp (callF_says (sg7 h164)) ?_
        refine imp ex_i64_b ?_
        refine imp (storeW_cell (by kernel_rfl) (by kernel_rfl) rfl (cs := [(intA a2.X), (intA a2.Y)]) (cs' := [(intA (IntKind.wrap .i64 (a1.From_X + x163))), (intA a2.Y)]) (ty := 24) (by first | rfl | (rw [look'_mem (by first | rfl | simp [topId_blk] | simp [topId])]; first | rfl | (simp (disch := first | decide | assumption) only [mpushs_nil, mpushs_cons, mget_hd, mget_tl, mget_appW_o, mget_appW_n, mget_appW_e]))) rfl rfl) ?_
        refine imp (storeW_cell (by kernel_rfl) (by kernel_rfl) rfl (cs := [(intA (IntKind.wrap .i64 (a1.From_X + x163))), (intA a2.Y)]) (cs' := [(intA (IntKind.wrap .i64 (a1.From_X + x163))), (intA (IntKind.wrap .i64 (a1.From_Y + x164)))]) (ty := 24) (by first | rfl | (rw [look'_mem (by first | rfl | simp [topId_blk] | simp [topId])]; first | rfl | (simp (disch := first | decide | assumption) only [mpushs_nil, mpushs_cons, mget_hd, mget_tl, mget_appW_o, mget_appW_n, mget_appW_e]))) rfl rfl) ?_
        refine imp (chk_of (by kernel_rfl)) ?_
        refine imp (opP_of (show _ = some ((intA a1.Low), []) from (ldS_ptr (b := ⟨[(intA a1.From_X), (intA a1.From_Y), (intA a1.To_X), (intA a1.To_Y), (intA a1.Low), (intA a1.High)], 26⟩) (by first | rfl | (simp (disch := first | decide | assumption) only [mpushs_nil, mpushs_cons, mget_hd, mget_tl, mget_appW_o, mget_appW_n, mget_appW_e])) rfl))) ?_
        refine imp ex_i64_b ?_
        refine imp (opP_of (show _ = some ((intA a1.High), []) from (ldS_ptr (b := ⟨[(intA a1.From_X), (intA a1.From_Y), (intA a1.To_X), (intA a1.To_Y), (intA a1.Low), (intA a1.High)], 26⟩) (by first | rfl | (simp (disch := first | decide | assumption) only [mpushs_nil, mpushs_cons, mget_hd, mget_tl, mget_appW_o, mget_appW_n, mget_appW_e])) rfl))) ?_
        refine imp ex_i64_b ?_
        refine imp (opP_of (show _ = some ((intA (if (60000) < a1.High then (60000) else a1.High)), []) from (by kernel_rfl))) ?_
        refine imp ex_i64_b ?_
        refine imp (opP_of (show _ = some ((intA a1.Low), []) from (ldS_ptr (b := ⟨[(intA a1.From_X), (intA a1.From_Y), (intA a1.To_X), (intA a1.To_Y), (intA a1.Low), (intA a1.High)], 26⟩) (by first | rfl | (simp (disch := first | decide | assumption) only [mpushs_nil, mpushs_cons, mget_hd, mget_tl, mget_appW_o, mget_appW_n, mget_appW_e])) rfl))) ?_
        refine imp ex_i64_b ?_
        refine bind_b fun x165 h165 => ?_
        refine imp (callQ_says (sg7 h165)) ?_
        refine imp ex_i64_b ?_
        refine imp (opP_of (show _ = some ((AV.agg [(intA (IntKind.wrap .i64 (a1.From_X + x163))), (intA (IntKind.wrap .i64 (a1.From_Y + x164)))]), []) from (ldA_ptr (b := ⟨[(intA (IntKind.wrap .i64 (a1.From_X + x163))), (intA (IntKind.wrap .i64 (a1.From_Y + x164)))], 24⟩) (by first | rfl | (simp (disch := first | decide | assumption) only [mpushs_nil, mpushs_cons, mget_hd, mget_tl, mget_appW_o, mget_appW_n, mget_appW_e])) rfl))) ?_
        refine imp exA2_b ?_
        refine imp ex_i64_b ?_
        refine imp ex_i64_b ?_
        refine bind_b fun x169 h169 => ?_
        refine imp (callQ_says (sg8 h169)) ?_
        refine imp exT2_b ?_
        refine imp ex_i64_b ?_
        refine imp ex_i64_b ?_
        refine imp (opP_of (show _ = some ((intA a1.High), []) from (ldS_ptr (b := ⟨[(intA a1.From_X), (intA a1.From_Y), (intA a1.To_X), (intA a1.To_Y), (intA a1.Low), (intA a1.High)], 26⟩) (by first | rfl | (simp (disch := first | decide | assumption) only [mpushs_nil, mpushs_cons, mget_hd, mget_tl, mget_appW_o, mget_appW_n, mget_appW_e])) rfl))) ?_
        refine imp ex_i64_b ?_
        refine cond_b (fun _ => ?_) (fun _ => ?_)
        · exact fun hg => ret1 (hR _ (Option.some.inj hg).symm) (fz_sc _ _)
        · refine cond_b (fun _ => ?_) (fun _ => ?_)
          · refine cond_b (fun _ => ?_) (fun _ => ?_)
            · refine imp (opP_of (show _ = some ((intA (a0.length : Int)), []) from rfl)) ?_
              refine imp ex_i64_b ?_
              exact fun hg => ret1 (hR _ (Option.some.inj hg).symm) (fz_sc _ _)
            · exact fun hg => ret1 (hR _ (Option.some.inj hg).symm) (fz_sc _ _)
          · exact fun hg => ret1 (hR _ (Option.some.inj hg).symm) (fz_sc _ _)
theorem sg3 {n : Nat} {a0 : List TSector} {a1 : TSectorBox} {a2 : TP} {a3 : Int} {t : ρ3} (h : g3 n a0 a1 a2 a3 = some t) : Says Try.prog KK.gl 3 [(lstA TSector.E a0), (AV.agg [(intA a1.From_X), (intA a1.From_Y), (intA a1.To_X), (intA a1.To_Y), (intA a1.Low), (intA a1.High)]), (AV.agg [(intA a2.X), (intA a2.Y)]), (intA a3)] ((boolA t)) :=
  says_of_own (by first | rfl | simp [cleans, clean, encs_clean, En.cln]) (by first | rfl | simp [cleans, clean, encs_clean, En.cln]) (F3_own (lstA TSector.E a0) a1.From_X a1.From_Y a1.To_X a1.To_Y a1.Low a1.High a2.X a2.Y a3 _ (g3_ok n a0 a1 a2 a3 (Ans ((boolA t))) (fun r e u m h => by rw [e]; exact h) h))
end Go.Proofs.Ytfncpfnanmoapaa
