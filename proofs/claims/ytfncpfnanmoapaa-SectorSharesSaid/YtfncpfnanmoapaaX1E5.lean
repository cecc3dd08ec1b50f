/- Plain functional programs out of the program's functions, with proofs that the functions compute them; printed by wip/Ext.lean.txt. -/
import Derived.Test.YtfncpfnanmoapaaX1E4
import Derived.Test.YtfncpfnanmoapaaSfH
set_option linter.unusedVariables false
set_option linter.unusedSimpArgs false
set_option maxRecDepth 100000
set_option maxHeartbeats 4000000
namespace Go.Proofs.Ytfncpfnanmoapaa
/- skyway/skywaykeep3.SectorShares -/
theorem g4_ok (n : Nat) (a0 : List TSector) (a1 : TSectorBox) (a2 : Int) {t : ρ4} (R : AV → Mem → Prop) (hR : ∀ r : ρ4, t = r → ∀ u m, Ans ((boolA r)) u m → R u m) : g4 n a0 a1 a2 = some t → F4 (lstA TSector.E a0) a1.From_X a1.From_Y a1.To_X a1.To_Y a1.Low a1.High a2 R := by
  unfold g4 F4
  refine bind_b fun x141 h141 => ?_
  refine imp (callQ_says (sg5 h141)) ?_
  refine imp exB_b ?_
  refine cond_b (fun _ => ?_) (fun _ => ?_)
  · exact fun hg => ret1 (hR _ (Option.some.inj hg).symm) (fz_sc _ _)
  · refine bind_b fun x152 h152 => ?_
    refine imp (callQ_says (sg6 h152)) ?_
    refine imp exT2_b ?_
    refine imp ex_i64_b ?_
    refine imp ex_i64_b ?_
    refine cond_b (fun _ => ?_) (fun _ => ?_)
    · refine cond_b (fun _ => ?_) (fun _ => ?_)
      · exact fun hg => ret1 (hR _ (Option.some.inj hg).symm) (fz_sc _ _)
      · exact fun hg => ret1 (hR _ (Option.some.inj hg).symm) (fz_sc _ _)
    · refine imp (opP_of (show _ = some ((intA (a0.length : Int)), []) from rfl)) ?_
      refine imp ex_i64_b ?_
      refine cond_b (fun _ => ?_) (fun _ => ?_)
      · refine cond_b (fun _ => ?_) (fun _ => ?_)
        · exact fun hg => ret1 (hR _ (Option.some.inj hg).symm) (fz_sc _ _)
        · exact fun hg => ret1 (hR _ (Option.some.inj hg).symm) (fz_sc _ _)
      · refine imp (opP_of (show _ = some ((intA (a0.length : Int)), []) from rfl)) ?_
        refine imp ex_i64_b ?_
        refine bind_b fun x154 h154 => ?_
        refine imp (callQ_says (sg7 h154)) ?_
        refine imp ex_i64_b ?_
        refine bind_b fun x155 h155 => ?_
        refine imp (callF_D [] (show PureD _ _ _ _ _ _ (ownV TSector.E 214 a0) [(214, ownB TSector.E 37 a0)] from cloneC10 h155)) ?_
        refine bind_b fun x156 h156 => ?_
        refine imp (callF_D [214] (show PureD _ _ _ _ _ _ (blkW TSector.E 218 x156) [(218, some ⟨encs TSector.E x156, 37⟩), (214, none)] from del9 rfl (by first | rfl | (rw [look'_mem (by first | rfl | simp [topId_blk] | simp [topId])]; first | rfl | (simp (disch := first | decide | assumption) only [mpushs_nil, mpushs_cons, mget_hd, mget_tl, mget_appW_o, mget_appW_n, mget_appW_e]))) h156)) ?_
        refine imp (opM_of (show _ = some ((AV.agg [(intA a1.From_X), (intA a1.From_Y), (intA a1.To_X), (intA a1.To_Y), (intA a1.Low), (intA a1.High)]), []) from (ldA_ptr (b := ⟨[(intA a1.From_X), (intA a1.From_Y), (intA a1.To_X), (intA a1.To_Y), (intA a1.Low), (intA a1.High)], 26⟩) (by first | rfl | (rw [look'_mem (by first | rfl | simp [topId_blk] | simp [topId])]; first | rfl | (simp (disch := first | decide | assumption) only [mpushs_nil, mpushs_cons, mget_hd, mget_tl, mget_appW_o, mget_appW_n, mget_appW_e]))) rfl))) ?_
        refine imp exA6_b ?_
        refine imp ex_i64_b ?_
        refine imp ex_i64_b ?_
        refine imp ex_i64_b ?_
        refine imp ex_i64_b ?_
        refine imp ex_i64_b ?_
        refine imp ex_i64_b ?_
        refine bind_b fun x157 h157 => ?_
        refine imp (callF_pure [218] (pure_snapN (snL_cons (sn_bw (E := TSector.E) (ty := 37) (l' := x156) _ TSector.nf rfl (by first | rfl | (simp (disch := first | decide | assumption) only [mpushs_nil, mpushs_cons, mget_hd, mget_tl, mget_appW_o, mget_appW_n, mget_appW_e]))) (snL_cons (sn_agg _ (snL_cons (sn_sc _ _) (snL_cons (sn_sc _ _) (snL_cons (sn_sc _ _) (snL_cons (sn_sc _ _) (snL_cons (sn_sc _ _) (snL_cons (sn_sc _ _) snL_nil))))))) snL_nil)) (sg6 h157) rfl)) ?_
        refine imp exT2_b ?_
        refine imp ex_i64_b ?_
        refine imp ex_i64_b ?_
        refine imp (chk_of (by kernel_rfl)) ?_
        refine bind_b fun x158 h158 => ?_
        refine imp (opP_of (show _ = some ((lstA TSector.E x158), []) from (slc_both (E := TSector.E) (e := 37) (by kernel_rfl) (by kernel_rfl) rfl h158))) ?_
        refine imp (opP_of (show _ = some ((AV.agg [(intA a1.From_X), (intA a1.From_Y), (intA a1.To_X), (intA a1.To_Y), (intA a1.Low), (intA a1.High)]), []) from (ldA_ptr (b := ⟨[(intA a1.From_X), (intA a1.From_Y), (intA a1.To_X), (intA a1.To_Y), (intA a1.Low), (intA a1.High)], 26⟩) (by first | rfl | (simp (disch := first | decide | assumption) only [mpushs_nil, mpushs_cons, mget_hd, mget_tl, mget_appW_o, mget_appW_n, mget_appW_e])) rfl))) ?_
        refine imp exA6_b ?_
        refine imp ex_i64_b ?_
        refine imp ex_i64_b ?_
        refine imp ex_i64_b ?_
        refine imp ex_i64_b ?_
        refine imp ex_i64_b ?_
        refine imp ex_i64_b ?_
        refine bind_b fun x159 h159 => ?_
        refine imp (callQ_says (sg6 h159)) ?_
        refine imp exT2_b ?_
        refine imp ex_i64_b ?_
        refine imp ex_i64_b ?_
        refine imp (opP_of (show _ = some ((AV.agg [(intA a1.From_X), (intA a1.From_Y), (intA a1.To_X), (intA a1.To_Y), (intA a1.Low), (intA a1.High)]), []) from (ldA_ptr (b := ⟨[(intA a1.From_X), (intA a1.From_Y), (intA a1.To_X), (intA a1.To_Y), (intA a1.Low), (intA a1.High)], 26⟩) (by first | rfl | (simp (disch := first | decide | assumption) only [mpushs_nil, mpushs_cons, mget_hd, mget_tl, mget_appW_o, mget_appW_n, mget_appW_e])) rfl))) ?_
        refine imp exA6_b ?_
        refine imp ex_i64_b ?_
        refine imp ex_i64_b ?_
        refine imp ex_i64_b ?_
        refine imp ex_i64_b ?_
        refine imp ex_i64_b ?_
        refine imp ex_i64_b ?_
        refine bind_b fun x160 h160 => ?_
        refine imp (callQ_saysL (rl_cons (leV_nils false) (rl_cons (leV_refl _) rl_nil)) (sg6 h160)) ?_
        refine imp exT2_b ?_
        refine imp ex_i64_b ?_
        refine imp ex_i64_b ?_
        refine cond_b (fun _ => ?_) (fun _ => ?_)
        · refine cond_b (fun _ => ?_) (fun _ => ?_)
          · refine cond_b (fun _ => ?_) (fun _ => ?_)
            · refine cond_b (fun _ => ?_) (fun _ => ?_)
              · refine cond_b (fun _ => ?_) (fun _ => ?_)
                · refine cond_b (fun _ => ?_) (fun _ => ?_)
                  · exact fun hg => ret1 (hR _ (Option.some.inj hg).symm) (fz_sc _ _)
                  · exact fun hg => ret1 (hR _ (Option.some.inj hg).symm) (fz_sc _ _)
                · exact fun hg => ret1 (hR _ (Option.some.inj hg).symm) (fz_sc _ _)
              · exact fun hg => ret1 (hR _ (Option.some.inj hg).symm) (fz_sc _ _)
            · exact fun hg => ret1 (hR _ (Option.some.inj hg).symm) (fz_sc _ _)
          · exact fun hg => ret1 (hR _ (Option.some.inj hg).symm) (fz_sc _ _)
        · exact fun hg => ret1 (hR _ (Option.some.inj hg).symm) (fz_sc _ _)
theorem sg4 {n : Nat} {a0 : List TSector} {a1 : TSectorBox} {a2 : Int} {t : ρ4} (h : g4 n a0 a1 a2 = some t) : Says Try.prog KK.gl 4 [(lstA TSector.E a0), (AV.agg [(intA a1.From_X), (intA a1.From_Y), (intA a1.To_X), (intA a1.To_Y), (intA a1.Low), (intA a1.High)]), (intA a2)] ((boolA t)) :=
  says_of_own (by first | rfl | simp [cleans, clean, encs_clean, En.cln]) (by first | rfl | simp [cleans, clean, encs_clean, En.cln]) (F4_own (lstA TSector.E a0) a1.From_X a1.From_Y a1.To_X a1.To_Y a1.Low a1.High a2 _ (g4_ok n a0 a1 a2 (Ans ((boolA t))) (fun r e u m h => by rw [e]; exact h) h))
/- skyway/sector.Find -/
/- skyway/skywaykeep3.SectorCovers -/
end Go.Proofs.Ytfncpfnanmoapaa
