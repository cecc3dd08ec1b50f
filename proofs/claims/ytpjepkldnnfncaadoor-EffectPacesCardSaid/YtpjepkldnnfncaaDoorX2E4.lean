/- Plain functional programs out of the program's functions, with proofs that the functions compute them; printed by wip/Ext.lean.txt. -/
import Derived.Test.YtpjepkldnnfncaaDoorX2E3
set_option linter.unusedVariables false
set_option linter.unusedSimpArgs false
set_option maxRecDepth 100000
set_option maxHeartbeats 4000000
namespace Go.Proofs.YtpjepkldnnfncaaDoor
/- skyway/effect.Of -/
theorem B11_1_ok (n : Nat) (a2 : Int) (c11 : Int) (c16 : Int) (a0 : List TTubeNode) (c55 : Int) (k100070_0 : Int) (k100070_1 : Int) (k100070_2 : Int) (k100070_3 : Int) (k100070_4 : Int) (k100070_5 : Int) (v56 : Int) (L90000 : List TTubeNode) (L90001 : List TTubeNode) (bv100081_0 : ByteArray) (bv100081_1 : Int) (bv100081_2 : Int) (bv100081_3 : ByteArray) (bv100081_6 : Int) (bv100081_7 : Int) (bv100081_8 : Int) (bv100081_9 : Int) (bv100081_10 : Int) (bv100081_11 : Int) (bv100081_12 : ByteArray) (bv100081_13 : Int) (bv100081_14 : Int) (bv100081_15 : Int) (bv100081_16 : Int) (bv100081_17 : Int) (bv100081_18 : Int) (bv100081_19 : Int) (bv100081_20 : Int) (bv100081_21 : List TTubeNode) {t : (Int × List TTubeNode × List TTubeNode × ByteArray × Int × Int × ByteArray × Int × Int × Int × Int × Int × Int × ByteArray × Int × Int × Int × Int × Int × Int × Int × Int × List TTubeNode) ⊕ ρ11} (R : AV → Mem → Prop) (N0 : St → Prop) (hR : ∀ r : ρ11, t = (.inr r) → ∀ u m, Ans ((AV.tup [(lstA TTubeNode.E r.1), (intA r.2)])) u m → R u m) (hN0 : ∀ y : Int × List TTubeNode × List TTubeNode × ByteArray × Int × Int × ByteArray × Int × Int × Int × Int × Int × Int × ByteArray × Int × Int × Int × Int × Int × Int × Int × Int × List TTubeNode, t = (.inl y) → ∀ s' : St, Weak KK 108 0 s' (h11_1 a2 AV.nils c11 c16 (lstA TTubeNode.E a0) c55 y.1 [(0, some ⟨[(lstA TTubeNode.E a0)], 23⟩), (100070, some ⟨[(intA k100070_0), (intA k100070_1), (intA k100070_2), (intA k100070_3), (intA k100070_4), (intA k100070_5)], 40⟩), (90000, ownB TTubeNode.E 40 y.2.1), (90001, ownB TTubeNode.E 40 y.2.2.1), (100081, some ⟨[(strA y.2.2.2.1), (intA y.2.2.2.2.1), (intA y.2.2.2.2.2.1), (strA y.2.2.2.2.2.2.1), (ownV TTubeNode.E 90000 y.2.1), (ownV TTubeNode.E 90001 y.2.2.1), (intA y.2.2.2.2.2.2.2.1), (intA y.2.2.2.2.2.2.2.2.1), (intA y.2.2.2.2.2.2.2.2.2.1), (intA y.2.2.2.2.2.2.2.2.2.2.1), (intA y.2.2.2.2.2.2.2.2.2.2.2.1), (intA y.2.2.2.2.2.2.2.2.2.2.2.2.1), (strA y.2.2.2.2.2.2.2.2.2.2.2.2.2.1), (intA y.2.2.2.2.2.2.2.2.2.2.2.2.2.2.1), (intA y.2.2.2.2.2.2.2.2.2.2.2.2.2.2.2.1), (intA y.2.2.2.2.2.2.2.2.2.2.2.2.2.2.2.2.1), (intA y.2.2.2.2.2.2.2.2.2.2.2.2.2.2.2.2.2.1), (intA y.2.2.2.2.2.2.2.2.2.2.2.2.2.2.2.2.2.2.1), (intA y.2.2.2.2.2.2.2.2.2.2.2.2.2.2.2.2.2.2.2.1), (intA y.2.2.2.2.2.2.2.2.2.2.2.2.2.2.2.2.2.2.2.2.1), (intA y.2.2.2.2.2.2.2.2.2.2.2.2.2.2.2.2.2.2.2.2.2.1), (lstA TTubeNode.E y.2.2.2.2.2.2.2.2.2.2.2.2.2.2.2.2.2.2.2.2.2.2)], 65⟩)]) → N0 s') : S11_1 n a2 c11 c16 a0 c55 k100070_0 k100070_1 k100070_2 k100070_3 k100070_4 k100070_5 v56 L90000 L90001 bv100081_0 bv100081_1 bv100081_2 bv100081_3 bv100081_6 bv100081_7 bv100081_8 bv100081_9 bv100081_10 bv100081_11 bv100081_12 bv100081_13 bv100081_14 bv100081_15 bv100081_16 bv100081_17 bv100081_18 bv100081_19 bv100081_20 bv100081_21 = some t → B11_1 a2 AV.nils c11 c16 (lstA TTubeNode.E a0) c55 v56 [(0, some ⟨[(lstA TTubeNode.E a0)], 23⟩), (100070, some ⟨[(intA k100070_0), (intA k100070_1), (intA k100070_2), (intA k100070_3), (intA k100070_4), (intA k100070_5)], 40⟩), (90000, ownB TTubeNode.E 40 L90000), (90001, ownB TTubeNode.E 40 L90001), (100081, some ⟨[(strA bv100081_0), (intA bv100081_1), (intA bv100081_2), (strA bv100081_3), (ownV TTubeNode.E 90000 L90000), (ownV TTubeNode.E 90001 L90001), (intA bv100081_6), (intA bv100081_7), (intA bv100081_8), (intA bv100081_9), (intA bv100081_10), (intA bv100081_11), (strA bv100081_12), (intA bv100081_13), (intA bv100081_14), (intA bv100081_15), (intA bv100081_16), (intA bv100081_17), (intA bv100081_18), (intA bv100081_19), (intA bv100081_20), (lstA TTubeNode.E bv100081_21)], 65⟩)] R N0 := by
  unfold S11_1 B11_1
  refine cond_b (fun _ => ?_) (fun _ => ?_)
  · refine bind_b fun x64 h64 => ?_
    refine imp (opP_of (show _ = some ((AV.ept [(intA x64.Node_Time), (intA x64.Node_At_X), (intA x64.Node_At_Y), (intA x64.Node_Height), (intA x64.Radius), (intA x64.Band)] 0), []) from (idx_lst (E := TTubeNode.E) rfl h64))) ?_
    refine imp (opP_of (show _ = some ((AV.agg [(intA x64.Node_Time), (intA x64.Node_At_X), (intA x64.Node_At_Y), (intA x64.Node_Height), (intA x64.Radius), (intA x64.Band)]), []) from rfl)) ?_
    refine imp exA6_b ?_
    refine imp ex_i64_b ?_
    refine imp ex_i64_b ?_
    refine imp ex_i64_b ?_
    refine imp ex_i64_b ?_
    refine imp ex_i64_b ?_
    refine imp ex_i64_b ?_
    refine cond_b (fun _ => ?_) (fun _ => ?_)
    · refine imp (opP_of (show _ = some ((ownV TTubeNode.E 90000 L90000), []) from (ldS_ptr (b := ⟨[(strA bv100081_0), (intA bv100081_1), (intA bv100081_2), (strA bv100081_3), (ownV TTubeNode.E 90000 L90000), (ownV TTubeNode.E 90001 L90001), (intA bv100081_6), (intA bv100081_7), (intA bv100081_8), (intA bv100081_9), (intA bv100081_10), (intA bv100081_11), (strA bv100081_12), (intA bv100081_13), (intA bv100081_14), (intA bv100081_15), (intA bv100081_16), (intA bv100081_17), (intA bv100081_18), (intA bv100081_19), (intA bv100081_20), (lstA TTubeNode.E bv100081_21)], 65⟩) (by first | rfl | (simp (disch := first | decide | assumption) only [mpushs_nil, mpushs_cons, mget_hd, mget_tl, mget_appW_o, mget_appW_n, mget_appW_e])) rfl))) ?_
      refine imp (opN_of (show _ = some ((blkV TTubeNode.E 200013 ([x64] : List TTubeNode)), [(200013, some ⟨encs TTubeNode.E ([x64] : List TTubeNode), 40⟩)]) from rfl)) ?_
      refine bind_b fun x66 h66 => ?_
      refine imp (opN_of (show _ = some ((ownV TTubeNode.E 200014 (L90000 ++ ([x64] : List TTubeNode))), (appW TTubeNode.E 200014 90000 40 L90000 ([x64] : List TTubeNode))) from (app_own (E := TTubeNode.E) (l' := L90000) (xs := ([x64] : List TTubeNode)) rfl rfl (cellsOf_blk (E := TTubeNode.E) (ty := 40) rfl rfl (by first | rfl | (simp (disch := first | decide | assumption) only [mpushs_nil, mpushs_cons, mget_hd, mget_tl, mget_appW_o, mget_appW_n, mget_appW_e]))) (by first | assumption | simp) rfl (fun hne => Eq.trans (by first | rfl | (simp (disch := first | decide | assumption) only [mpushs_nil, mpushs_cons, mget_hd, mget_tl, mget_appW_o, mget_appW_n, mget_appW_e])) (ownB_ne hne)) h66))) ?_
      refine imp (storeW_cell (by kernel_rfl) (by kernel_rfl) (isCell_own _ _) (cs := [(strA bv100081_0), (intA bv100081_1), (intA bv100081_2), (strA bv100081_3), (ownV TTubeNode.E 90000 L90000), (ownV TTubeNode.E 90001 L90001), (intA bv100081_6), (intA bv100081_7), (intA bv100081_8), (intA bv100081_9), (intA bv100081_10), (intA bv100081_11), (strA bv100081_12), (intA bv100081_13), (intA bv100081_14), (intA bv100081_15), (intA bv100081_16), (intA bv100081_17), (intA bv100081_18), (intA bv100081_19), (intA bv100081_20), (lstA TTubeNode.E bv100081_21)]) (cs' := [(strA bv100081_0), (intA bv100081_1), (intA bv100081_2), (strA bv100081_3), (ownV TTubeNode.E 200014 (L90000 ++ ([x64] : List TTubeNode))), (ownV TTubeNode.E 90001 L90001), (intA bv100081_6), (intA bv100081_7), (intA bv100081_8), (intA bv100081_9), (intA bv100081_10), (intA bv100081_11), (strA bv100081_12), (intA bv100081_13), (intA bv100081_14), (intA bv100081_15), (intA bv100081_16), (intA bv100081_17), (intA bv100081_18), (intA bv100081_19), (intA bv100081_20), (lstA TTubeNode.E bv100081_21)]) (ty := 65) (by first | rfl | (simp (disch := first | decide | assumption) only [mpushs_nil, mpushs_cons, mget_hd, mget_tl, mget_appW_o, mget_appW_n, mget_appW_e])) rfl rfl) ?_
      refine imp (opP_of (show _ = some ((intA x64.Node_Time), []) from (ldS_ptr (b := ⟨[(intA x64.Node_Time), (intA x64.Node_At_X), (intA x64.Node_At_Y), (intA x64.Node_Height), (intA x64.Radius), (intA x64.Band)], 40⟩) (by first | rfl | (simp (disch := first | decide | assumption) only [mpushs_nil, mpushs_cons, mget_hd, mget_tl, mget_appW_o, mget_appW_n, mget_appW_e])) rfl))) ?_
      refine imp ex_i64_b ?_
      refine cond_b (fun _ => ?_) (fun _ => ?_)
      · refine imp (opP_of (show _ = some ((ownV TTubeNode.E 90001 L90001), []) from (ldS_ptr (b := ⟨[(strA bv100081_0), (intA bv100081_1), (intA bv100081_2), (strA bv100081_3), (ownV TTubeNode.E 200014 (L90000 ++ ([x64] : List TTubeNode))), (ownV TTubeNode.E 90001 L90001), (intA bv100081_6), (intA bv100081_7), (intA bv100081_8), (intA bv100081_9), (intA bv100081_10), (intA bv100081_11), (strA bv100081_12), (intA bv100081_13), (intA bv100081_14), (intA bv100081_15), (intA bv100081_16), (intA bv100081_17), (intA bv100081_18), (intA bv100081_19), (intA bv100081_20), (lstA TTubeNode.E bv100081_21)], 65⟩) (by first | rfl | (simp (disch := first | decide | assumption) only [mpushs_nil, mpushs_cons, mget_hd, mget_tl, mget_appW_o, mget_appW_n, mget_appW_e])) rfl))) ?_
        refine imp (opP_of (show _ = some ((AV.agg [(intA x64.Node_Time), (intA x64.Node_At_X), (intA x64.Node_At_Y), (intA x64.Node_Height), (intA x64.Radius), (intA x64.Band)]), []) from (ldA_ptr (b := ⟨[(intA x64.Node_Time), (intA x64.Node_At_X), (intA x64.Node_At_Y), (intA x64.Node_Height), (intA x64.Radius), (intA x64.Band)], 40⟩) (by first | rfl | (simp (disch := first | decide | assumption) only [mpushs_nil, mpushs_cons, mget_hd, mget_tl, mget_appW_o, mget_appW_n, mget_appW_e])) rfl))) ?_
        refine imp exA6_b ?_
        refine imp ex_i64_b ?_
        refine imp ex_i64_b ?_
        refine imp ex_i64_b ?_
        refine imp ex_i64_b ?_
        refine imp ex_i64_b ?_
        refine imp ex_i64_b ?_
        refine imp (opN_of (show _ = some ((blkV TTubeNode.E 200025 ([x64] : List TTubeNode)), [(200025, some ⟨encs TTubeNode.E ([x64] : List TTubeNode), 40⟩)]) from rfl)) ?_
        refine bind_b fun x68 h68 => ?_
        refine imp (opN_of (show _ = some ((ownV TTubeNode.E 200026 (L90001 ++ ([x64] : List TTubeNode))), (appW TTubeNode.E 200026 90001 40 L90001 ([x64] : List TTubeNode))) from (app_own (E := TTubeNode.E) (l' := L90001) (xs := ([x64] : List TTubeNode)) rfl rfl (cellsOf_blk (E := TTubeNode.E) (ty := 40) rfl rfl (by first | rfl | (simp (disch := first | decide | assumption) only [mpushs_nil, mpushs_cons, mget_hd, mget_tl, mget_appW_o, mget_appW_n, mget_appW_e]))) (by first | assumption | simp) rfl (fun hne => Eq.trans (by first | rfl | (simp (disch := first | decide | assumption) only [mpushs_nil, mpushs_cons, mget_hd, mget_tl, mget_appW_o, mget_appW_n, mget_appW_e])) (ownB_ne hne)) h68))) ?_
        refine imp (storeW_cell (by kernel_rfl) (by kernel_rfl) (isCell_own _ _) (cs := [(strA bv100081_0), (intA bv100081_1), (intA bv100081_2), (strA bv100081_3), (ownV TTubeNode.E 200014 (L90000 ++ ([x64] : List TTubeNode))), (ownV TTubeNode.E 90001 L90001), (intA bv100081_6), (intA bv100081_7), (intA bv100081_8), (intA bv100081_9), (intA bv100081_10), (intA bv100081_11), (strA bv100081_12), (intA bv100081_13), (intA bv100081_14), (intA bv100081_15), (intA bv100081_16), (intA bv100081_17), (intA bv100081_18), (intA bv100081_19), (intA bv100081_20), (lstA TTubeNode.E bv100081_21)]) (cs' := [(strA bv100081_0), (intA bv100081_1), (intA bv100081_2), (strA bv100081_3), (ownV TTubeNode.E 200014 (L90000 ++ ([x64] : List TTubeNode))), (ownV TTubeNode.E 200026 (L90001 ++ ([x64] : List TTubeNode))), (intA bv100081_6), (intA bv100081_7), (intA bv100081_8), (intA bv100081_9), (intA bv100081_10), (intA bv100081_11), (strA bv100081_12), (intA bv100081_13), (intA bv100081_14), (intA bv100081_15), (intA bv100081_16), (intA bv100081_17), (intA bv100081_18), (intA bv100081_19), (intA bv100081_20), (lstA TTubeNode.E bv100081_21)]) (ty := 65) (by first | rfl | (simp (disch := first | decide | assumption) only [mpushs_nil, mpushs_cons, mget_hd, mget_tl, mget_appW_o, mget_appW_n, mget_appW_e])) rfl rfl) ?_
        exact fun hg => hN0 _ (Option.some.inj hg).symm _ (weak_mem [(0, 0), (100070, 100070), (90000, 200014), (90001, 200026), (100081, 100081)] rfl rfl rfl (okW_cons (.inl (leV_refl _)) (okW_cons (.inl (leV_refl _)) (okW_cons (.inl (leV_refl _)) (okW_cons (.inl (leV_refl _)) (okW_cons (.inl (leV_refl _)) (okW_cons (.inl (leV_refl _)) (okW_cons (.inl (leV_refl _)) (okW_cons (ent_lst (E := TTubeNode.E) _ false) (okW_cons (.inl (leV_refl _)) (okW_cons (.inl (leV_refl _)) okW_nil)))))))))) (okB_cons (okB_cells (cs := [(lstA TTubeNode.E a0)]) (ty := 23) (by simp [clean, cleans, encs_clean]) (show mget _ 0 = _ from (by first | rfl | (simp (disch := first | decide | assumption) only [mpushs_nil, mpushs_cons, mget_hd, mget_tl, mget_appW_o, mget_appW_n, mget_appW_e])))) (okB_cons (okB_cells (cs := [(intA k100070_0), (intA k100070_1), (intA k100070_2), (intA k100070_3), (intA k100070_4), (intA k100070_5)]) (ty := 40) rfl (show mget _ 100070 = _ from (by first | rfl | (simp (disch := first | decide | assumption) only [mpushs_nil, mpushs_cons, mget_hd, mget_tl, mget_appW_o, mget_appW_n, mget_appW_e])))) (okB_cons (okB_own (E := TTubeNode.E) (ty := 40) (l' := (L90000 ++ ([x64] : List TTubeNode))) rfl (show mget _ 200014 = _ from (by first | rfl | (simp (disch := first | decide | assumption) only [mpushs_nil, mpushs_cons, mget_hd, mget_tl, mget_appW_o, mget_appW_n, mget_appW_e])))) (okB_cons (okB_own (E := TTubeNode.E) (ty := 40) (l' := (L90001 ++ ([x64] : List TTubeNode))) rfl (show mget _ 200026 = _ from (by first | rfl | (simp (disch := first | decide | assumption) only [mpushs_nil, mpushs_cons, mget_hd, mget_tl, mget_appW_o, mget_appW_n, mget_appW_e])))) (okB_cons (okB_cellsR (us := [(strA bv100081_0), (intA bv100081_1), (intA bv100081_2), (strA bv100081_3), (ownV TTubeNode.E 200014 (L90000 ++ ([x64] : List TTubeNode))), (ownV TTubeNode.E 200026 (L90001 ++ ([x64] : List TTubeNode))), (intA bv100081_6), (intA bv100081_7), (intA bv100081_8), (intA bv100081_9), (intA bv100081_10), (intA bv100081_11), (strA bv100081_12), (intA bv100081_13), (intA bv100081_14), (intA bv100081_15), (intA bv100081_16), (intA bv100081_17), (intA bv100081_18), (intA bv100081_19), (intA bv100081_20), (lstA TTubeNode.E bv100081_21)]) (ty := 65) (rensL_cons (leV_eq rfl) (rensL_cons (leV_eq rfl) (rensL_cons (leV_eq rfl) (rensL_cons (leV_eq rfl) (rensL_cons (ren_own (E := TTubeNode.E) (j := 90000) (id := 200014) (l' := (L90000 ++ ([x64] : List TTubeNode))) rfl rfl) (rensL_cons (ren_own (E := TTubeNode.E) (j := 90001) (id := 200026) (l' := (L90001 ++ ([x64] : List TTubeNode))) rfl rfl) (rensL_cons (leV_eq rfl) (rensL_cons (leV_eq rfl) (rensL_cons (leV_eq rfl) (rensL_cons (leV_eq rfl) (rensL_cons (leV_eq rfl) (rensL_cons (leV_eq rfl) (rensL_cons (leV_eq rfl) (rensL_cons (leV_eq rfl) (rensL_cons (leV_eq rfl) (rensL_cons (leV_eq rfl) (rensL_cons (leV_eq rfl) (rensL_cons (leV_eq rfl) (rensL_cons (leV_eq rfl) (rensL_cons (leV_eq rfl) (rensL_cons (leV_eq rfl) (rensL_cons (leV_eq (ren_clean _ (by simp [clean, cleans, encs_clean])).symm) rensL_nil)))))))))))))))))))))) (show mget _ 100081 = _ from (by first | rfl | (simp (disch := first | decide | assumption) only [mpushs_nil, mpushs_cons, mget_hd, mget_tl, mget_appW_o, mget_appW_n, mget_appW_e])))) okB_nil'))))))
      · exact fun hg => hN0 _ (Option.some.inj hg).symm _ (weak_mem [(0, 0), (100070, 100070), (90000, 200014), (90001, 90001), (100081, 100081)] rfl rfl rfl (okW_cons (.inl (leV_refl _)) (okW_cons (.inl (leV_refl _)) (okW_cons (.inl (leV_refl _)) (okW_cons (.inl (leV_refl _)) (okW_cons (.inl (leV_refl _)) (okW_cons (.inl (leV_refl _)) (okW_cons (.inl (leV_refl _)) (okW_cons (ent_lst (E := TTubeNode.E) _ false) (okW_cons (.inl (leV_refl _)) (okW_cons (.inl (leV_refl _)) okW_nil)))))))))) (okB_cons (okB_cells (cs := [(lstA TTubeNode.E a0)]) (ty := 23) (by simp [clean, cleans, encs_clean]) (show mget _ 0 = _ from (by first | rfl | (simp (disch := first | decide | assumption) only [mpushs_nil, mpushs_cons, mget_hd, mget_tl, mget_appW_o, mget_appW_n, mget_appW_e])))) (okB_cons (okB_cells (cs := [(intA k100070_0), (intA k100070_1), (intA k100070_2), (intA k100070_3), (intA k100070_4), (intA k100070_5)]) (ty := 40) rfl (show mget _ 100070 = _ from (by first | rfl | (simp (disch := first | decide | assumption) only [mpushs_nil, mpushs_cons, mget_hd, mget_tl, mget_appW_o, mget_appW_n, mget_appW_e])))) (okB_cons (okB_own (E := TTubeNode.E) (ty := 40) (l' := (L90000 ++ ([x64] : List TTubeNode))) rfl (show mget _ 200014 = _ from (by first | rfl | (simp (disch := first | decide | assumption) only [mpushs_nil, mpushs_cons, mget_hd, mget_tl, mget_appW_o, mget_appW_n, mget_appW_e])))) (okB_cons (okB_own (E := TTubeNode.E) (ty := 40) (l' := L90001) rfl (show mget _ 90001 = _ from (by first | rfl | (simp (disch := first | decide | assumption) only [mpushs_nil, mpushs_cons, mget_hd, mget_tl, mget_appW_o, mget_appW_n, mget_appW_e])))) (okB_cons (okB_cellsR (us := [(strA bv100081_0), (intA bv100081_1), (intA bv100081_2), (strA bv100081_3), (ownV TTubeNode.E 200014 (L90000 ++ ([x64] : List TTubeNode))), (ownV TTubeNode.E 90001 L90001), (intA bv100081_6), (intA bv100081_7), (intA bv100081_8), (intA bv100081_9), (intA bv100081_10), (intA bv100081_11), (strA bv100081_12), (intA bv100081_13), (intA bv100081_14), (intA bv100081_15), (intA bv100081_16), (intA bv100081_17), (intA bv100081_18), (intA bv100081_19), (intA bv100081_20), (lstA TTubeNode.E bv100081_21)]) (ty := 65) (rensL_cons (leV_eq rfl) (rensL_cons (leV_eq rfl) (rensL_cons (leV_eq rfl) (rensL_cons (leV_eq rfl) (rensL_cons (ren_own (E := TTubeNode.E) (j := 90000) (id := 200014) (l' := (L90000 ++ ([x64] : List TTubeNode))) rfl rfl) (rensL_cons (ren_own (E := TTubeNode.E) (j := 90001) (id := 90001) (l' := L90001) rfl rfl) (rensL_cons (leV_eq rfl) (rensL_cons (leV_eq rfl) (rensL_cons (leV_eq rfl) (rensL_cons (leV_eq rfl) (rensL_cons (leV_eq rfl) (rensL_cons (leV_eq rfl) (rensL_cons (leV_eq rfl) (rensL_cons (leV_eq rfl) (rensL_cons (leV_eq rfl) (rensL_cons (leV_eq rfl) (rensL_cons (leV_eq rfl) (rensL_cons (leV_eq rfl) (rensL_cons (leV_eq rfl) (rensL_cons (leV_eq rfl) (rensL_cons (leV_eq rfl) (rensL_cons (leV_eq (ren_clean _ (by simp [clean, cleans, encs_clean])).symm) rensL_nil)))))))))))))))))))))) (show mget _ 100081 = _ from (by first | rfl | (simp (disch := first | decide | assumption) only [mpushs_nil, mpushs_cons, mget_hd, mget_tl, mget_appW_o, mget_appW_n, mget_appW_e])))) okB_nil'))))))
    · refine cond_b (fun _ => ?_) (fun _ => ?_)
      · refine imp (opP_of (show _ = some ((ownV TTubeNode.E 90001 L90001), []) from (ldS_ptr (b := ⟨[(strA bv100081_0), (intA bv100081_1), (intA bv100081_2), (strA bv100081_3), (ownV TTubeNode.E 90000 L90000), (ownV TTubeNode.E 90001 L90001), (intA bv100081_6), (intA bv100081_7), (intA bv100081_8), (intA bv100081_9), (intA bv100081_10), (intA bv100081_11), (strA bv100081_12), (intA bv100081_13), (intA bv100081_14), (intA bv100081_15), (intA bv100081_16), (intA bv100081_17), (intA bv100081_18), (intA bv100081_19), (intA bv100081_20), (lstA TTubeNode.E bv100081_21)], 65⟩) (by first | rfl | (simp (disch := first | decide | assumption) only [mpushs_nil, mpushs_cons, mget_hd, mget_tl, mget_appW_o, mget_appW_n, mget_appW_e])) rfl))) ?_
        refine imp (opN_of (show _ = some ((blkV TTubeNode.E 200018 ([x64] : List TTubeNode)), [(200018, some ⟨encs TTubeNode.E ([x64] : List TTubeNode), 40⟩)]) from rfl)) ?_
        refine bind_b fun x70 h70 => ?_
        refine imp (opN_of (show _ = some ((ownV TTubeNode.E 200019 (L90001 ++ ([x64] : List TTubeNode))), (appW TTubeNode.E 200019 90001 40 L90001 ([x64] : List TTubeNode))) from (app_own (E := TTubeNode.E) (l' := L90001) (xs := ([x64] : List TTubeNode)) rfl rfl (cellsOf_blk (E := TTubeNode.E) (ty := 40) rfl rfl (by first | rfl | (simp (disch := first | decide | assumption) only [mpushs_nil, mpushs_cons, mget_hd, mget_tl, mget_appW_o, mget_appW_n, mget_appW_e]))) (by first | assumption | simp) rfl (fun hne => Eq.trans (by first | rfl | (simp (disch := first | decide | assumption) only [mpushs_nil, mpushs_cons, mget_hd, mget_tl, mget_appW_o, mget_appW_n, mget_appW_e])) (ownB_ne hne)) h70))) ?_
        refine imp (storeW_cell (by kernel_rfl) (by kernel_rfl) (isCell_own _ _) (cs := [(strA bv100081_0), (intA bv100081_1), (intA bv100081_2), (strA bv100081_3), (ownV TTubeNode.E 90000 L90000), (ownV TTubeNode.E 90001 L90001), (intA bv100081_6), (intA bv100081_7), (intA bv100081_8), (intA bv100081_9), (intA bv100081_10), (intA bv100081_11), (strA bv100081_12), (intA bv100081_13), (intA bv100081_14), (intA bv100081_15), (intA bv100081_16), (intA bv100081_17), (intA bv100081_18), (intA bv100081_19), (intA bv100081_20), (lstA TTubeNode.E bv100081_21)]) (cs' := [(strA bv100081_0), (intA bv100081_1), (intA bv100081_2), (strA bv100081_3), (ownV TTubeNode.E 90000 L90000), (ownV TTubeNode.E 200019 (L90001 ++ ([x64] : List TTubeNode))), (intA bv100081_6), (intA bv100081_7), (intA bv100081_8), (intA bv100081_9), (intA bv100081_10), (intA bv100081_11), (strA bv100081_12), (intA bv100081_13), (intA bv100081_14), (intA bv100081_15), (intA bv100081_16), (intA bv100081_17), (intA bv100081_18), (intA bv100081_19), (intA bv100081_20), (lstA TTubeNode.E bv100081_21)]) (ty := 65) (by first | rfl | (simp (disch := first | decide | assumption) only [mpushs_nil, mpushs_cons, mget_hd, mget_tl, mget_appW_o, mget_appW_n, mget_appW_e])) rfl rfl) ?_
        exact fun hg => hN0 _ (Option.some.inj hg).symm _ (weak_mem [(0, 0), (100070, 100070), (90000, 90000), (90001, 200019), (100081, 100081)] rfl rfl rfl (okW_cons (.inl (leV_refl _)) (okW_cons (.inl (leV_refl _)) (okW_cons (.inl (leV_refl _)) (okW_cons (.inl (leV_refl _)) (okW_cons (.inl (leV_refl _)) (okW_cons (.inl (leV_refl _)) (okW_cons (.inl (leV_refl _)) (okW_cons (ent_lst (E := TTubeNode.E) _ false) (okW_cons (.inl (leV_refl _)) (okW_cons (.inl (leV_refl _)) okW_nil)))))))))) (okB_cons (okB_cells (cs := [(lstA TTubeNode.E a0)]) (ty := 23) (by simp [clean, cleans, encs_clean]) (show mget _ 0 = _ from (by first | rfl | (simp (disch := first | decide | assumption) only [mpushs_nil, mpushs_cons, mget_hd, mget_tl, mget_appW_o, mget_appW_n, mget_appW_e])))) (okB_cons (okB_cells (cs := [(intA k100070_0), (intA k100070_1), (intA k100070_2), (intA k100070_3), (intA k100070_4), (intA k100070_5)]) (ty := 40) rfl (show mget _ 100070 = _ from (by first | rfl | (simp (disch := first | decide | assumption) only [mpushs_nil, mpushs_cons, mget_hd, mget_tl, mget_appW_o, mget_appW_n, mget_appW_e])))) (okB_cons (okB_own (E := TTubeNode.E) (ty := 40) (l' := L90000) rfl (show mget _ 90000 = _ from (by first | rfl | (simp (disch := first | decide | assumption) only [mpushs_nil, mpushs_cons, mget_hd, mget_tl, mget_appW_o, mget_appW_n, mget_appW_e])))) (okB_cons (okB_own (E := TTubeNode.E) (ty := 40) (l' := (L90001 ++ ([x64] : List TTubeNode))) rfl (show mget _ 200019 = _ from (by first | rfl | (simp (disch := first | decide | assumption) only [mpushs_nil, mpushs_cons, mget_hd, mget_tl, mget_appW_o, mget_appW_n, mget_appW_e])))) (okB_cons (okB_cellsR (us := [(strA bv100081_0), (intA bv100081_1), (intA bv100081_2), (strA bv100081_3), (ownV TTubeNode.E 90000 L90000), (ownV TTubeNode.E 200019 (L90001 ++ ([x64] : List TTubeNode))), (intA bv100081_6), (intA bv100081_7), (intA bv100081_8), (intA bv100081_9), (intA bv100081_10), (intA bv100081_11), (strA bv100081_12), (intA bv100081_13), (intA bv100081_14), (intA bv100081_15), (intA bv100081_16), (intA bv100081_17), (intA bv100081_18), (intA bv100081_19), (intA bv100081_20), (lstA TTubeNode.E bv100081_21)]) (ty := 65) (rensL_cons (leV_eq rfl) (rensL_cons (leV_eq rfl) (rensL_cons (leV_eq rfl) (rensL_cons (leV_eq rfl) (rensL_cons (ren_own (E := TTubeNode.E) (j := 90000) (id := 90000) (l' := L90000) rfl rfl) (rensL_cons (ren_own (E := TTubeNode.E) (j := 90001) (id := 200019) (l' := (L90001 ++ ([x64] : List TTubeNode))) rfl rfl) (rensL_cons (leV_eq rfl) (rensL_cons (leV_eq rfl) (rensL_cons (leV_eq rfl) (rensL_cons (leV_eq rfl) (rensL_cons (leV_eq rfl) (rensL_cons (leV_eq rfl) (rensL_cons (leV_eq rfl) (rensL_cons (leV_eq rfl) (rensL_cons (leV_eq rfl) (rensL_cons (leV_eq rfl) (rensL_cons (leV_eq rfl) (rensL_cons (leV_eq rfl) (rensL_cons (leV_eq rfl) (rensL_cons (leV_eq rfl) (rensL_cons (leV_eq rfl) (rensL_cons (leV_eq (ren_clean _ (by simp [clean, cleans, encs_clean])).symm) rensL_nil)))))))))))))))))))))) (show mget _ 100081 = _ from (by first | rfl | (simp (disch := first | decide | assumption) only [mpushs_nil, mpushs_cons, mget_hd, mget_tl, mget_appW_o, mget_appW_n, mget_appW_e])))) okB_nil'))))))
      · exact fun hg => hN0 _ (Option.some.inj hg).symm _ (weak_mem [(0, 0), (100070, 100070), (90000, 90000), (90001, 90001), (100081, 100081)] rfl rfl rfl (okW_cons (.inl (leV_refl _)) (okW_cons (.inl (leV_refl _)) (okW_cons (.inl (leV_refl _)) (okW_cons (.inl (leV_refl _)) (okW_cons (.inl (leV_refl _)) (okW_cons (.inl (leV_refl _)) (okW_cons (.inl (leV_refl _)) (okW_cons (ent_lst (E := TTubeNode.E) _ false) (okW_cons (.inl (leV_refl _)) (okW_cons (.inl (leV_refl _)) okW_nil)))))))))) (okB_cons (okB_cells (cs := [(lstA TTubeNode.E a0)]) (ty := 23) (by simp [clean, cleans, encs_clean]) (show mget _ 0 = _ from (by first | rfl | (simp (disch := first | decide | assumption) only [mpushs_nil, mpushs_cons, mget_hd, mget_tl, mget_appW_o, mget_appW_n, mget_appW_e])))) (okB_cons (okB_cells (cs := [(intA k100070_0), (intA k100070_1), (intA k100070_2), (intA k100070_3), (intA k100070_4), (intA k100070_5)]) (ty := 40) rfl (show mget _ 100070 = _ from (by first | rfl | (simp (disch := first | decide | assumption) only [mpushs_nil, mpushs_cons, mget_hd, mget_tl, mget_appW_o, mget_appW_n, mget_appW_e])))) (okB_cons (okB_own (E := TTubeNode.E) (ty := 40) (l' := L90000) rfl (show mget _ 90000 = _ from (by first | rfl | (simp (disch := first | decide | assumption) only [mpushs_nil, mpushs_cons, mget_hd, mget_tl, mget_appW_o, mget_appW_n, mget_appW_e])))) (okB_cons (okB_own (E := TTubeNode.E) (ty := 40) (l' := L90001) rfl (show mget _ 90001 = _ from (by first | rfl | (simp (disch := first | decide | assumption) only [mpushs_nil, mpushs_cons, mget_hd, mget_tl, mget_appW_o, mget_appW_n, mget_appW_e])))) (okB_cons (okB_cellsR (us := [(strA bv100081_0), (intA bv100081_1), (intA bv100081_2), (strA bv100081_3), (ownV TTubeNode.E 90000 L90000), (ownV TTubeNode.E 90001 L90001), (intA bv100081_6), (intA bv100081_7), (intA bv100081_8), (intA bv100081_9), (intA bv100081_10), (intA bv100081_11), (strA bv100081_12), (intA bv100081_13), (intA bv100081_14), (intA bv100081_15), (intA bv100081_16), (intA bv100081_17), (intA bv100081_18), (intA bv100081_19), (intA bv100081_20), (lstA TTubeNode.E bv100081_21)]) (ty := 65) (rensL_cons (leV_eq rfl) (rensL_cons (leV_eq rfl) (rensL_cons (leV_eq rfl) (rensL_cons (leV_eq rfl) (rensL_cons (ren_own (E := TTubeNode.E) (j := 90000) (id := 90000) (l' := L90000) rfl rfl) (rensL_cons (ren_own (E := TTubeNode.E) (j := 90001) (id := 90001) (l' := L90001) rfl rfl) (rensL_cons (leV_eq rfl) (rensL_cons (leV_eq rfl) (rensL_cons (leV_eq rfl) (rensL_cons (leV_eq rfl) (rensL_cons (leV_eq rfl) (rensL_cons (leV_eq rfl) (rensL_cons (leV_eq rfl) (rensL_cons (leV_eq rfl) (rensL_cons (leV_eq rfl) (rensL_cons (leV_eq rfl) (rensL_cons (leV_eq rfl) (rensL_cons (leV_eq rfl) (rensL_cons (leV_eq rfl) (rensL_cons (leV_eq rfl) (rensL_cons (leV_eq rfl) (rensL_cons (leV_eq (ren_clean _ (by simp [clean, cleans, encs_clean])).symm) rensL_nil)))))))))))))))))))))) (show mget _ 100081 = _ from (by first | rfl | (simp (disch := first | decide | assumption) only [mpushs_nil, mpushs_cons, mget_hd, mget_tl, mget_appW_o, mget_appW_n, mget_appW_e])))) okB_nil'))))))
  · refine imp (opP_of (show _ = some ((AV.agg [(strA bv100081_0), (intA bv100081_1), (intA bv100081_2), (strA bv100081_3), (ownV TTubeNode.E 90000 L90000), (ownV TTubeNode.E 90001 L90001), (intA bv100081_6), (intA bv100081_7), (intA bv100081_8), (intA bv100081_9), (intA bv100081_10), (intA bv100081_11), (strA bv100081_12), (intA bv100081_13), (intA bv100081_14), (intA bv100081_15), (intA bv100081_16), (intA bv100081_17), (intA bv100081_18), (intA bv100081_19), (intA bv100081_20), (lstA TTubeNode.E bv100081_21)]), []) from (ldA_ptr (b := ⟨[(strA bv100081_0), (intA bv100081_1), (intA bv100081_2), (strA bv100081_3), (ownV TTubeNode.E 90000 L90000), (ownV TTubeNode.E 90001 L90001), (intA bv100081_6), (intA bv100081_7), (intA bv100081_8), (intA bv100081_9), (intA bv100081_10), (intA bv100081_11), (strA bv100081_12), (intA bv100081_13), (intA bv100081_14), (intA bv100081_15), (intA bv100081_16), (intA bv100081_17), (intA bv100081_18), (intA bv100081_19), (intA bv100081_20), (lstA TTubeNode.E bv100081_21)], 65⟩) (by first | rfl | (simp (disch := first | decide | assumption) only [mpushs_nil, mpushs_cons, mget_hd, mget_tl, mget_appW_o, mget_appW_n, mget_appW_e])) rfl))) ?_
    refine imp exA22_b ?_
    refine imp exStr_b ?_
    refine imp ex_i64_b ?_
    refine imp ex_i64_b ?_
    refine imp exStr_b ?_
    refine imp ex_i64_b ?_
    refine imp ex_i64_b ?_
    refine imp ex_i64_b ?_
    refine imp ex_i64_b ?_
    refine imp ex_i64_b ?_
    refine imp ex_i64_b ?_
    refine imp exStr_b ?_
    refine imp ex_i64_b ?_
    refine imp ex_i64_b ?_
    refine imp ex_i64_b ?_
    refine imp ex_i64_b ?_
    refine imp ex_i64_b ?_
    refine imp ex_i64_b ?_
    refine imp ex_i64_b ?_
    refine imp ex_i64_b ?_
    refine bind_b fun x126 h126 => ?_
    refine imp (callW_D (show PureD _ _ _ _ _ _ (AV.tup [(ownV TTubeNode.E 200002 x126.1), (boolA x126.2.1), (intA x126.2.2)]) [(200002, ownB TTubeNode.E 40 x126.1)] from mg31S h126 (snL_cons (sn_agg _ (snL_cons (sn_sc _ _) (snL_cons (sn_sc _ _) (snL_cons (sn_sc _ _) (snL_cons (sn_sc _ _) (snL_cons (sn_own (E := TTubeNode.E) (ty := 40) (l' := L90000) _ TTubeNode.nf rfl (by first | rfl | (simp (disch := first | decide | assumption) only [mpushs_nil, mpushs_cons, mget_hd, mget_tl, mget_appW_o, mget_appW_n, mget_appW_e]))) (snL_cons (sn_own (E := TTubeNode.E) (ty := 40) (l' := L90001) _ TTubeNode.nf rfl (by first | rfl | (simp (disch := first | decide | assumption) only [mpushs_nil, mpushs_cons, mget_hd, mget_tl, mget_appW_o, mget_appW_n, mget_appW_e]))) (snL_cons (sn_sc _ _) (snL_cons (sn_sc _ _) (snL_cons (sn_sc _ _) (snL_cons (sn_sc _ _) (snL_cons (sn_sc _ _) (snL_cons (sn_sc _ _) (snL_cons (sn_sc _ _) (snL_cons (sn_sc _ _) (snL_cons (sn_sc _ _) (snL_cons (sn_sc _ _) (snL_cons (sn_sc _ _) (snL_cons (sn_sc _ _) (snL_cons (sn_sc _ _) (snL_cons (sn_sc _ _) (snL_cons (sn_sc _ _) (snL_cons (sn_lst (E := TTubeNode.E) _ _ false) snL_nil))))))))))))))))))))))) snL_nil))) ?_
    refine imp exT3_b ?_
    refine imp exB_b ?_
    refine imp ex_i64_b ?_
    refine cond_b (fun _ => ?_) (fun _ => ?_)
    · exact fun hg => retN rfl (hR _ (Option.some.inj hg).symm) (fzL_cons (fz_nils (E := TTubeNode.E) _) (fzL_cons (fz_sc _ _) fzL_nil))
    · refine cond_b (fun _ => ?_) (fun _ => ?_)
      · refine imp (opP_of (show _ = some ((lstA TTubeNode.E a0), []) from (ldS_ptr (b := ⟨[(lstA TTubeNode.E a0)], 23⟩) (by first | rfl | (simp (disch := first | decide | assumption) only [mpushs_nil, mpushs_cons, mget_hd, mget_tl, mget_appW_o, mget_appW_n, mget_appW_e])) rfl))) ?_
        refine bind_b fun x131 h131 => ?_
        refine imp (callW_D (show PureD _ _ _ _ _ _ (ownV TTubeNode.E 200079 a0) [(200079, ownB TTubeNode.E 40 a0)] from cloneC32 h131)) ?_
        exact fun hg => retN rfl (hR _ (Option.some.inj hg).symm) (fzL_cons (fz_own (E := TTubeNode.E) (ty := 40) (l' := a0) _ rfl (by first | rfl | (simp (disch := first | decide | assumption) only [mpushs_nil, mpushs_cons, mget_hd, mget_tl, mget_appW_o, mget_appW_n, mget_appW_e]))) (fzL_cons (fz_sc _ _) fzL_nil))
      · refine imp (opP_of (show _ = some ((ownV TTubeNode.E 90000 L90000), []) from (ldS_ptr (b := ⟨[(strA bv100081_0), (intA bv100081_1), (intA bv100081_2), (strA bv100081_3), (ownV TTubeNode.E 90000 L90000), (ownV TTubeNode.E 90001 L90001), (intA bv100081_6), (intA bv100081_7), (intA bv100081_8), (intA bv100081_9), (intA bv100081_10), (intA bv100081_11), (strA bv100081_12), (intA bv100081_13), (intA bv100081_14), (intA bv100081_15), (intA bv100081_16), (intA bv100081_17), (intA bv100081_18), (intA bv100081_19), (intA bv100081_20), (lstA TTubeNode.E bv100081_21)], 65⟩) (by first | rfl | (simp (disch := first | decide | assumption) only [mpushs_nil, mpushs_cons, mget_hd, mget_tl, mget_appW_o, mget_appW_n, mget_appW_e])) rfl))) ?_
        refine imp (opP_of (show _ = some ((AV.agg [(intA k100070_0), (intA k100070_1), (intA k100070_2), (intA k100070_3), (intA k100070_4), (intA k100070_5)]), []) from (ldA_ptr (b := ⟨[(intA k100070_0), (intA k100070_1), (intA k100070_2), (intA k100070_3), (intA k100070_4), (intA k100070_5)], 40⟩) (by first | rfl | (simp (disch := first | decide | assumption) only [mpushs_nil, mpushs_cons, mget_hd, mget_tl, mget_appW_o, mget_appW_n, mget_appW_e])) rfl))) ?_
        refine imp exA6_b ?_
        refine imp ex_i64_b ?_
        refine imp ex_i64_b ?_
        refine imp ex_i64_b ?_
        refine imp ex_i64_b ?_
        refine imp ex_i64_b ?_
        refine imp ex_i64_b ?_
        refine imp (opN_of (show _ = some ((blkV TTubeNode.E 200081 ([(⟨k100070_0, k100070_1, k100070_2, k100070_3, k100070_4, k100070_5⟩ : TTubeNode)] : List TTubeNode)), [(200081, some ⟨encs TTubeNode.E ([(⟨k100070_0, k100070_1, k100070_2, k100070_3, k100070_4, k100070_5⟩ : TTubeNode)] : List TTubeNode), 40⟩)]) from rfl)) ?_
        refine imp (opN_of (show _ = some ((AV.sl 200083 0 1 3 3 true), [(200083, some ⟨[(ownV TTubeNode.E 90000 L90000), (blkV TTubeNode.E 200081 ([(⟨k100070_0, k100070_1, k100070_2, k100070_3, k100070_4, k100070_5⟩ : TTubeNode)] : List TTubeNode)), (ownV TTubeNode.E 200002 x126.1)], 23⟩)]) from (rows3 (z := .nils) (e := 23) acells_own rfl acells_own))) ?_
        refine bind_b fun x132 h132 => ?_
        refine imp (callW_D (show PureD _ _ _ _ _ _ (ownV TTubeNode.E 200084 x132) [(200084, ownB TTubeNode.E 40 x132)] from catS33 h132 (snL_cons (sn_rows (E := TTubeNode.E) (L := ([L90000, ([(⟨k100070_0, k100070_1, k100070_2, k100070_3, k100070_4, k100070_5⟩ : TTubeNode)] : List TTubeNode), x126.1] : List (List TTubeNode))) _ (ty := 23) (us := [(ownV TTubeNode.E 90000 L90000), (blkV TTubeNode.E 200081 ([(⟨k100070_0, k100070_1, k100070_2, k100070_3, k100070_4, k100070_5⟩ : TTubeNode)] : List TTubeNode)), (ownV TTubeNode.E 200002 x126.1)]) (by first | rfl | (simp (disch := first | decide | assumption) only [mpushs_nil, mpushs_cons, mget_hd, mget_tl, mget_appW_o, mget_appW_n, mget_appW_e])) (snL_cons (sn_own (E := TTubeNode.E) (ty := 40) (l' := L90000) _ TTubeNode.nf rfl (by first | rfl | (simp (disch := first | decide | assumption) only [mpushs_nil, mpushs_cons, mget_hd, mget_tl, mget_appW_o, mget_appW_n, mget_appW_e]))) (snL_cons (sn_blk (E := TTubeNode.E) (ty := 40) (l' := ([(⟨k100070_0, k100070_1, k100070_2, k100070_3, k100070_4, k100070_5⟩ : TTubeNode)] : List TTubeNode)) _ TTubeNode.nf rfl (by first | rfl | (simp (disch := first | decide | assumption) only [mpushs_nil, mpushs_cons, mget_hd, mget_tl, mget_appW_o, mget_appW_n, mget_appW_e]))) (snL_cons (sn_own (E := TTubeNode.E) (ty := 40) (l' := x126.1) _ TTubeNode.nf rfl (by first | rfl | (simp (disch := first | decide | assumption) only [mpushs_nil, mpushs_cons, mget_hd, mget_tl, mget_appW_o, mget_appW_n, mget_appW_e]))) snL_nil))) rfl rfl rfl) snL_nil))) ?_
        refine imp (opP_of (show _ = some ((intA (x132.length : Int)), []) from len_own)) ?_
        refine imp ex_i64_b ?_
        refine cond_b (fun _ => ?_) (fun _ => ?_)
        · exact fun hg => retN rfl (hR _ (Option.some.inj hg).symm) (fzL_cons (fz_nils (E := TTubeNode.E) _) (fzL_cons (fz_sc _ _) fzL_nil))
        · exact fun hg => retN rfl (hR _ (Option.some.inj hg).symm) (fzL_cons (fz_own (E := TTubeNode.E) (ty := 40) (l' := x132) _ rfl (by first | rfl | (simp (disch := first | decide | assumption) only [mpushs_nil, mpushs_cons, mget_hd, mget_tl, mget_appW_o, mget_appW_n, mget_appW_e]))) (fzL_cons (fz_sc _ _) fzL_nil))
theorem L11_1_ok (n : Nat) (a2 : Int) (c11 : Int) (c16 : Int) (a0 : List TTubeNode) (c55 : Int) (k100070_0 : Int) (k100070_1 : Int) (k100070_2 : Int) (k100070_3 : Int) (k100070_4 : Int) (k100070_5 : Int) {t : ρ11} (R : AV → Mem → Prop) (hR : ∀ r : ρ11, t = r → ∀ u m, Ans ((AV.tup [(lstA TTubeNode.E r.1), (intA r.2)])) u m → R u m) (k : Nat) (x : Int × List TTubeNode × List TTubeNode × ByteArray × Int × Int × ByteArray × Int × Int × Int × Int × Int × Int × ByteArray × Int × Int × Int × Int × Int × Int × Int × Int × List TTubeNode) (hx : iterO (fun y : Int × List TTubeNode × List TTubeNode × ByteArray × Int × Int × ByteArray × Int × Int × Int × Int × Int × Int × ByteArray × Int × Int × Int × Int × Int × Int × Int × Int × List TTubeNode => S11_1 n a2 c11 c16 a0 c55 k100070_0 k100070_1 k100070_2 k100070_3 k100070_4 k100070_5 y.1 y.2.1 y.2.2.1 y.2.2.2.1 y.2.2.2.2.1 y.2.2.2.2.2.1 y.2.2.2.2.2.2.1 y.2.2.2.2.2.2.2.1 y.2.2.2.2.2.2.2.2.1 y.2.2.2.2.2.2.2.2.2.1 y.2.2.2.2.2.2.2.2.2.2.1 y.2.2.2.2.2.2.2.2.2.2.2.1 y.2.2.2.2.2.2.2.2.2.2.2.2.1 y.2.2.2.2.2.2.2.2.2.2.2.2.2.1 y.2.2.2.2.2.2.2.2.2.2.2.2.2.2.1 y.2.2.2.2.2.2.2.2.2.2.2.2.2.2.2.1 y.2.2.2.2.2.2.2.2.2.2.2.2.2.2.2.2.1 y.2.2.2.2.2.2.2.2.2.2.2.2.2.2.2.2.2.1 y.2.2.2.2.2.2.2.2.2.2.2.2.2.2.2.2.2.2.1 y.2.2.2.2.2.2.2.2.2.2.2.2.2.2.2.2.2.2.2.1 y.2.2.2.2.2.2.2.2.2.2.2.2.2.2.2.2.2.2.2.2.1 y.2.2.2.2.2.2.2.2.2.2.2.2.2.2.2.2.2.2.2.2.2.1 y.2.2.2.2.2.2.2.2.2.2.2.2.2.2.2.2.2.2.2.2.2.2) k x = some t) {s : St} (hw : Weak KK 108 0 s (h11_1 a2 AV.nils c11 c16 (lstA TTubeNode.E a0) c55 x.1 [(0, some ⟨[(lstA TTubeNode.E a0)], 23⟩), (100070, some ⟨[(intA k100070_0), (intA k100070_1), (intA k100070_2), (intA k100070_3), (intA k100070_4), (intA k100070_5)], 40⟩), (90000, ownB TTubeNode.E 40 x.2.1), (90001, ownB TTubeNode.E 40 x.2.2.1), (100081, some ⟨[(strA x.2.2.2.1), (intA x.2.2.2.2.1), (intA x.2.2.2.2.2.1), (strA x.2.2.2.2.2.2.1), (ownV TTubeNode.E 90000 x.2.1), (ownV TTubeNode.E 90001 x.2.2.1), (intA x.2.2.2.2.2.2.2.1), (intA x.2.2.2.2.2.2.2.2.1), (intA x.2.2.2.2.2.2.2.2.2.1), (intA x.2.2.2.2.2.2.2.2.2.2.1), (intA x.2.2.2.2.2.2.2.2.2.2.2.1), (intA x.2.2.2.2.2.2.2.2.2.2.2.2.1), (strA x.2.2.2.2.2.2.2.2.2.2.2.2.2.1), (intA x.2.2.2.2.2.2.2.2.2.2.2.2.2.2.1), (intA x.2.2.2.2.2.2.2.2.2.2.2.2.2.2.2.1), (intA x.2.2.2.2.2.2.2.2.2.2.2.2.2.2.2.2.1), (intA x.2.2.2.2.2.2.2.2.2.2.2.2.2.2.2.2.2.1), (intA x.2.2.2.2.2.2.2.2.2.2.2.2.2.2.2.2.2.2.1), (intA x.2.2.2.2.2.2.2.2.2.2.2.2.2.2.2.2.2.2.2.1), (intA x.2.2.2.2.2.2.2.2.2.2.2.2.2.2.2.2.2.2.2.2.1), (intA x.2.2.2.2.2.2.2.2.2.2.2.2.2.2.2.2.2.2.2.2.2.1), (lstA TTubeNode.E x.2.2.2.2.2.2.2.2.2.2.2.2.2.2.2.2.2.2.2.2.2.2)], 65⟩)])) : Tri Tryd.prog KK 108 0 (.loop c11_1) s (q11_1 R ) :=
  L11_1 R  (σ := Nat × (Int × List TTubeNode × List TTubeNode × ByteArray × Int × Int × ByteArray × Int × Int × Int × Int × Int × Int × ByteArray × Int × Int × Int × Int × Int × Int × Int × Int × List TTubeNode)) (fun z => iterO (fun y : Int × List TTubeNode × List TTubeNode × ByteArray × Int × Int × ByteArray × Int × Int × Int × Int × Int × Int × ByteArray × Int × Int × Int × Int × Int × Int × Int × Int × List TTubeNode => S11_1 n a2 c11 c16 a0 c55 k100070_0 k100070_1 k100070_2 k100070_3 k100070_4 k100070_5 y.1 y.2.1 y.2.2.1 y.2.2.2.1 y.2.2.2.2.1 y.2.2.2.2.2.1 y.2.2.2.2.2.2.1 y.2.2.2.2.2.2.2.1 y.2.2.2.2.2.2.2.2.1 y.2.2.2.2.2.2.2.2.2.1 y.2.2.2.2.2.2.2.2.2.2.1 y.2.2.2.2.2.2.2.2.2.2.2.1 y.2.2.2.2.2.2.2.2.2.2.2.2.1 y.2.2.2.2.2.2.2.2.2.2.2.2.2.1 y.2.2.2.2.2.2.2.2.2.2.2.2.2.2.1 y.2.2.2.2.2.2.2.2.2.2.2.2.2.2.2.1 y.2.2.2.2.2.2.2.2.2.2.2.2.2.2.2.2.1 y.2.2.2.2.2.2.2.2.2.2.2.2.2.2.2.2.2.1 y.2.2.2.2.2.2.2.2.2.2.2.2.2.2.2.2.2.2.1 y.2.2.2.2.2.2.2.2.2.2.2.2.2.2.2.2.2.2.2.1 y.2.2.2.2.2.2.2.2.2.2.2.2.2.2.2.2.2.2.2.2.1 y.2.2.2.2.2.2.2.2.2.2.2.2.2.2.2.2.2.2.2.2.2.1 y.2.2.2.2.2.2.2.2.2.2.2.2.2.2.2.2.2.2.2.2.2.2) z.1 z.2 = some t) (fun z => a2) (fun z => AV.nils) (fun z => c11) (fun z => c16) (fun z => (lstA TTubeNode.E a0)) (fun z => c55) (fun z => z.2.1) (fun z => [(0, some ⟨[(lstA TTubeNode.E a0)], 23⟩), (100070, some ⟨[(intA k100070_0), (intA k100070_1), (intA k100070_2), (intA k100070_3), (intA k100070_4), (intA k100070_5)], 40⟩), (90000, ownB TTubeNode.E 40 z.2.2.1), (90001, ownB TTubeNode.E 40 z.2.2.2.1), (100081, some ⟨[(strA z.2.2.2.2.1), (intA z.2.2.2.2.2.1), (intA z.2.2.2.2.2.2.1), (strA z.2.2.2.2.2.2.2.1), (ownV TTubeNode.E 90000 z.2.2.1), (ownV TTubeNode.E 90001 z.2.2.2.1), (intA z.2.2.2.2.2.2.2.2.1), (intA z.2.2.2.2.2.2.2.2.2.1), (intA z.2.2.2.2.2.2.2.2.2.2.1), (intA z.2.2.2.2.2.2.2.2.2.2.2.1), (intA z.2.2.2.2.2.2.2.2.2.2.2.2.1), (intA z.2.2.2.2.2.2.2.2.2.2.2.2.2.1), (strA z.2.2.2.2.2.2.2.2.2.2.2.2.2.2.1), (intA z.2.2.2.2.2.2.2.2.2.2.2.2.2.2.2.1), (intA z.2.2.2.2.2.2.2.2.2.2.2.2.2.2.2.2.1), (intA z.2.2.2.2.2.2.2.2.2.2.2.2.2.2.2.2.2.1), (intA z.2.2.2.2.2.2.2.2.2.2.2.2.2.2.2.2.2.2.1), (intA z.2.2.2.2.2.2.2.2.2.2.2.2.2.2.2.2.2.2.2.1), (intA z.2.2.2.2.2.2.2.2.2.2.2.2.2.2.2.2.2.2.2.2.1), (intA z.2.2.2.2.2.2.2.2.2.2.2.2.2.2.2.2.2.2.2.2.2.1), (intA z.2.2.2.2.2.2.2.2.2.2.2.2.2.2.2.2.2.2.2.2.2.2.1), (lstA TTubeNode.E z.2.2.2.2.2.2.2.2.2.2.2.2.2.2.2.2.2.2.2.2.2.2.2)], 65⟩)]) (fun z => z.1) (by
    rintro ⟨k, y⟩ h
    cases k with
    | zero => exact (iterO_zero h).elim
    | succ k =>
      obtain ⟨u, h1, h2, h3⟩ := iterO_elim h
      exact B11_1_ok n a2 c11 c16 a0 c55 k100070_0 k100070_1 k100070_2 k100070_3 k100070_4 k100070_5 y.1 y.2.1 y.2.2.1 y.2.2.2.1 y.2.2.2.2.1 y.2.2.2.2.2.1 y.2.2.2.2.2.2.1 y.2.2.2.2.2.2.2.1 y.2.2.2.2.2.2.2.2.1 y.2.2.2.2.2.2.2.2.2.1 y.2.2.2.2.2.2.2.2.2.2.1 y.2.2.2.2.2.2.2.2.2.2.2.1 y.2.2.2.2.2.2.2.2.2.2.2.2.1 y.2.2.2.2.2.2.2.2.2.2.2.2.2.1 y.2.2.2.2.2.2.2.2.2.2.2.2.2.2.1 y.2.2.2.2.2.2.2.2.2.2.2.2.2.2.2.1 y.2.2.2.2.2.2.2.2.2.2.2.2.2.2.2.2.1 y.2.2.2.2.2.2.2.2.2.2.2.2.2.2.2.2.2.1 y.2.2.2.2.2.2.2.2.2.2.2.2.2.2.2.2.2.2.1 y.2.2.2.2.2.2.2.2.2.2.2.2.2.2.2.2.2.2.2.1 y.2.2.2.2.2.2.2.2.2.2.2.2.2.2.2.2.2.2.2.2.1 y.2.2.2.2.2.2.2.2.2.2.2.2.2.2.2.2.2.2.2.2.2.1 y.2.2.2.2.2.2.2.2.2.2.2.2.2.2.2.2.2.2.2.2.2.2 R  _ (fun r e => hR r (h3 _ e).symm)  (fun y' e s' hw => ⟨(k, y'), h2 _ e, Nat.lt_succ_self k, hw⟩) h1) (k, x) hx hw
theorem B11_0_ok (n : Nat) (a2 : Int) (c11 : Int) (c28 : Int) (a0 : List TTubeNode) (k1_0 : ByteArray) (k1_1 : Int) (k1_2 : Int) (k1_3 : ByteArray) (k2_0 : ByteArray) (k2_1 : Int) (k2_2 : Int) (k2_3 : Int) (k2_4 : Int) (k2_5 : Int) (k2_6 : Int) (k3_0 : Int) (k3_1 : Int) (v29 : Int) {t : (Int) ⊕ ρ11} (R : AV → Mem → Prop) (N0 : St → Prop) (hR : ∀ r : ρ11, t = (.inr r) → ∀ u m, Ans ((AV.tup [(lstA TTubeNode.E r.1), (intA r.2)])) u m → R u m) (hN0 : ∀ y : Int, t = (.inl y) → ∀ s' : St, Weak KK 108 0 s' (h11_0 a2 AV.nils c11 (AV.sl 10 0 1 4 4 true) c28 y [(0, some ⟨[(lstA TTubeNode.E a0)], 23⟩), (1, some ⟨[(strA k1_0), (intA k1_1), (intA k1_2), (strA k1_3)], 25⟩), (2, some ⟨[(strA k2_0), (intA k2_1), (intA k2_2), (intA k2_3), (intA k2_4), (intA k2_5), (intA k2_6)], 27⟩), (3, some ⟨[(intA k3_0), (intA k3_1)], 29⟩), (10, some ⟨[(AV.fn 24 [(AV.ptr 0 0)]), (AV.fn 25 [(AV.ptr 1 0)]), (AV.fn 27 [(AV.ptr 2 0)]), (AV.fn 29 [(AV.ptr 3 0)])], 59⟩)]) → N0 s') : S11_0 n a2 c11 c28 a0 k1_0 k1_1 k1_2 k1_3 k2_0 k2_1 k2_2 k2_3 k2_4 k2_5 k2_6 k3_0 k3_1 v29 = some t → B11_0 a2 AV.nils c11 (AV.sl 10 0 1 4 4 true) c28 v29 [(0, some ⟨[(lstA TTubeNode.E a0)], 23⟩), (1, some ⟨[(strA k1_0), (intA k1_1), (intA k1_2), (strA k1_3)], 25⟩), (2, some ⟨[(strA k2_0), (intA k2_1), (intA k2_2), (intA k2_3), (intA k2_4), (intA k2_5), (intA k2_6)], 27⟩), (3, some ⟨[(intA k3_0), (intA k3_1)], 29⟩), (10, some ⟨[(AV.fn 24 [(AV.ptr 0 0)]), (AV.fn 25 [(AV.ptr 1 0)]), (AV.fn 27 [(AV.ptr 2 0)]), (AV.fn 29 [(AV.ptr 3 0)])], 59⟩)] R N0 := by
  unfold S11_0 B11_0
  refine cond_b (fun _ => ?_) (fun _ => ?_)
  · refine cond_g (fun e3 => ?_) (fun _ => ?_)
    · refine imp (opP_of (show _ = some ((AV.ptr 10 0), []) from idx_at (n := 4) (j := 0) e3 (by decide))) ?_
      refine imp (opP_of (show _ = some ((AV.fn 24 [(AV.ptr 0 0)]), []) from (ldS_ptr (b := ⟨[(AV.fn 24 [(AV.ptr 0 0)]), (AV.fn 25 [(AV.ptr 1 0)]), (AV.fn 27 [(AV.ptr 2 0)]), (AV.fn 29 [(AV.ptr 3 0)])], 59⟩) (by first | rfl | (simp (disch := first | decide | assumption) only [mpushs_nil, mpushs_cons, mget_hd, mget_tl, mget_appW_o, mget_appW_n, mget_appW_e])) rfl))) ?_
      refine bind_b fun x9 h9 => ?_
      refine imp fnArgs_b ?_
      refine imp (cond_ff rfl) ?_
      refine imp (callW_pure (pure_snapN (snL_cons (sn_ptr _ (ty := 23) (us := [(lstA TTubeNode.E a0)]) (by first | rfl | (simp (disch := first | decide | assumption) only [mpushs_nil, mpushs_cons, mget_hd, mget_tl, mget_appW_o, mget_appW_n, mget_appW_e])) (snL_cons (sn_lst (E := TTubeNode.E) _ _ false) snL_nil)) snL_nil) (sg24 h9) rfl)) ?_
      refine imp ex_i64_b ?_
      refine cond_b (fun _ => ?_) (fun _ => ?_)
      · exact fun hg => retN rfl (hR _ (Option.some.inj hg).symm) (fzL_cons (fz_nils (E := TTubeNode.E) _) (fzL_cons (fz_sc _ _) fzL_nil))
      · exact fun hg => hN0 _ (Option.some.inj hg).symm _ (weak_mem [(0, 0), (1, 1), (2, 2), (3, 3), (10, 10)] rfl rfl rfl (okW_cons (.inl (leV_refl _)) (okW_cons (.inl (leV_refl _)) (okW_cons (.inl (leV_refl _)) (okW_cons (.inl (leV_refl _)) (okW_cons (.inl (leV_refl _)) (okW_cons (.inl (leV_refl _)) (okW_cons (.inl (leV_refl _)) (okW_cons (.inl (leV_refl _)) (okW_cons (.inl (leV_refl _)) (okW_cons (.inl (leV_refl _)) okW_nil)))))))))) (okB_cons (okB_cells (cs := [(lstA TTubeNode.E a0)]) (ty := 23) (by simp [clean, cleans, encs_clean]) (show mget _ 0 = _ from (by first | rfl | (simp (disch := first | decide | assumption) only [mpushs_nil, mpushs_cons, mget_hd, mget_tl, mget_appW_o, mget_appW_n, mget_appW_e])))) (okB_cons (okB_cells (cs := [(strA k1_0), (intA k1_1), (intA k1_2), (strA k1_3)]) (ty := 25) rfl (show mget _ 1 = _ from (by first | rfl | (simp (disch := first | decide | assumption) only [mpushs_nil, mpushs_cons, mget_hd, mget_tl, mget_appW_o, mget_appW_n, mget_appW_e])))) (okB_cons (okB_cells (cs := [(strA k2_0), (intA k2_1), (intA k2_2), (intA k2_3), (intA k2_4), (intA k2_5), (intA k2_6)]) (ty := 27) rfl (show mget _ 2 = _ from (by first | rfl | (simp (disch := first | decide | assumption) only [mpushs_nil, mpushs_cons, mget_hd, mget_tl, mget_appW_o, mget_appW_n, mget_appW_e])))) (okB_cons (okB_cells (cs := [(intA k3_0), (intA k3_1)]) (ty := 29) rfl (show mget _ 3 = _ from (by first | rfl | (simp (disch := first | decide | assumption) only [mpushs_nil, mpushs_cons, mget_hd, mget_tl, mget_appW_o, mget_appW_n, mget_appW_e])))) (okB_cons (okB_cellsR (us := [(AV.fn 24 [(AV.ptr 0 0)]), (AV.fn 25 [(AV.ptr 1 0)]), (AV.fn 27 [(AV.ptr 2 0)]), (AV.fn 29 [(AV.ptr 3 0)])]) (ty := 59) (rensL_cons (leV_eq rfl) (rensL_cons (leV_eq rfl) (rensL_cons (leV_eq rfl) (rensL_cons (leV_eq rfl) rensL_nil)))) (show mget _ 10 = _ from (by first | rfl | (simp (disch := first | decide | assumption) only [mpushs_nil, mpushs_cons, mget_hd, mget_tl, mget_appW_o, mget_appW_n, mget_appW_e])))) okB_nil'))))))
    · refine cond_g (fun e10 => ?_) (fun _ => ?_)
      · refine imp (opP_of (show _ = some ((AV.ptr 10 1), []) from idx_at (n := 4) (j := 1) e10 (by decide))) ?_
        refine imp (opP_of (show _ = some ((AV.fn 25 [(AV.ptr 1 0)]), []) from (ldS_ptr (b := ⟨[(AV.fn 24 [(AV.ptr 0 0)]), (AV.fn 25 [(AV.ptr 1 0)]), (AV.fn 27 [(AV.ptr 2 0)]), (AV.fn 29 [(AV.ptr 3 0)])], 59⟩) (by first | rfl | (simp (disch := first | decide | assumption) only [mpushs_nil, mpushs_cons, mget_hd, mget_tl, mget_appW_o, mget_appW_n, mget_appW_e])) rfl))) ?_
        refine bind_b fun x21 h21 => ?_
        refine imp fnArgs_b ?_
        refine imp (cond_ff rfl) ?_
        refine imp (callW_pure (pure_snapN (snL_cons (sn_ptr _ (ty := 25) (us := [(strA k1_0), (intA k1_1), (intA k1_2), (strA k1_3)]) (by first | rfl | (simp (disch := first | decide | assumption) only [mpushs_nil, mpushs_cons, mget_hd, mget_tl, mget_appW_o, mget_appW_n, mget_appW_e])) (snL_cons (sn_sc _ _) (snL_cons (sn_sc _ _) (snL_cons (sn_sc _ _) (snL_cons (sn_sc _ _) snL_nil))))) snL_nil) (sg25 h21) rfl)) ?_
        refine imp ex_i64_b ?_
        refine cond_b (fun _ => ?_) (fun _ => ?_)
        · exact fun hg => retN rfl (hR _ (Option.some.inj hg).symm) (fzL_cons (fz_nils (E := TTubeNode.E) _) (fzL_cons (fz_sc _ _) fzL_nil))
        · exact fun hg => hN0 _ (Option.some.inj hg).symm _ (weak_mem [(0, 0), (1, 1), (2, 2), (3, 3), (10, 10)] rfl rfl rfl (okW_cons (.inl (leV_refl _)) (okW_cons (.inl (leV_refl _)) (okW_cons (.inl (leV_refl _)) (okW_cons (.inl (leV_refl _)) (okW_cons (.inl (leV_refl _)) (okW_cons (.inl (leV_refl _)) (okW_cons (.inl (leV_refl _)) (okW_cons (.inl (leV_refl _)) (okW_cons (.inl (leV_refl _)) (okW_cons (.inl (leV_refl _)) okW_nil)))))))))) (okB_cons (okB_cells (cs := [(lstA TTubeNode.E a0)]) (ty := 23) (by simp [clean, cleans, encs_clean]) (show mget _ 0 = _ from (by first | rfl | (simp (disch := first | decide | assumption) only [mpushs_nil, mpushs_cons, mget_hd, mget_tl, mget_appW_o, mget_appW_n, mget_appW_e])))) (okB_cons (okB_cells (cs := [(strA k1_0), (intA k1_1), (intA k1_2), (strA k1_3)]) (ty := 25) rfl (show mget _ 1 = _ from (by first | rfl | (simp (disch := first | decide | assumption) only [mpushs_nil, mpushs_cons, mget_hd, mget_tl, mget_appW_o, mget_appW_n, mget_appW_e])))) (okB_cons (okB_cells (cs := [(strA k2_0), (intA k2_1), (intA k2_2), (intA k2_3), (intA k2_4), (intA k2_5), (intA k2_6)]) (ty := 27) rfl (show mget _ 2 = _ from (by first | rfl | (simp (disch := first | decide | assumption) only [mpushs_nil, mpushs_cons, mget_hd, mget_tl, mget_appW_o, mget_appW_n, mget_appW_e])))) (okB_cons (okB_cells (cs := [(intA k3_0), (intA k3_1)]) (ty := 29) rfl (show mget _ 3 = _ from (by first | rfl | (simp (disch := first | decide | assumption) only [mpushs_nil, mpushs_cons, mget_hd, mget_tl, mget_appW_o, mget_appW_n, mget_appW_e])))) (okB_cons (okB_cellsR (us := [(AV.fn 24 [(AV.ptr 0 0)]), (AV.fn 25 [(AV.ptr 1 0)]), (AV.fn 27 [(AV.ptr 2 0)]), (AV.fn 29 [(AV.ptr 3 0)])]) (ty := 59) (rensL_cons (leV_eq rfl) (rensL_cons (leV_eq rfl) (rensL_cons (leV_eq rfl) (rensL_cons (leV_eq rfl) rensL_nil)))) (show mget _ 10 = _ from (by first | rfl | (simp (disch := first | decide | assumption) only [mpushs_nil, mpushs_cons, mget_hd, mget_tl, mget_appW_o, mget_appW_n, mget_appW_e])))) okB_nil'))))))
      · refine cond_g (fun e22 => ?_) (fun _ => ?_)
        · refine imp (opP_of (show _ = some ((AV.ptr 10 2), []) from idx_at (n := 4) (j := 2) e22 (by decide))) ?_
          refine imp (opP_of (show _ = some ((AV.fn 27 [(AV.ptr 2 0)]), []) from (ldS_ptr (b := ⟨[(AV.fn 24 [(AV.ptr 0 0)]), (AV.fn 25 [(AV.ptr 1 0)]), (AV.fn 27 [(AV.ptr 2 0)]), (AV.fn 29 [(AV.ptr 3 0)])], 59⟩) (by first | rfl | (simp (disch := first | decide | assumption) only [mpushs_nil, mpushs_cons, mget_hd, mget_tl, mget_appW_o, mget_appW_n, mget_appW_e])) rfl))) ?_
          refine bind_b fun x30 h30 => ?_
          refine imp fnArgs_b ?_
          refine imp (cond_ff rfl) ?_
          refine imp (callW_pure (pure_snapN (snL_cons (sn_ptr _ (ty := 27) (us := [(strA k2_0), (intA k2_1), (intA k2_2), (intA k2_3), (intA k2_4), (intA k2_5), (intA k2_6)]) (by first | rfl | (simp (disch := first | decide | assumption) only [mpushs_nil, mpushs_cons, mget_hd, mget_tl, mget_appW_o, mget_appW_n, mget_appW_e])) (snL_cons (sn_sc _ _) (snL_cons (sn_sc _ _) (snL_cons (sn_sc _ _) (snL_cons (sn_sc _ _) (snL_cons (sn_sc _ _) (snL_cons (sn_sc _ _) (snL_cons (sn_sc _ _) snL_nil)))))))) snL_nil) (sg27 h30) rfl)) ?_
          refine imp ex_i64_b ?_
          refine cond_b (fun _ => ?_) (fun _ => ?_)
          · exact fun hg => retN rfl (hR _ (Option.some.inj hg).symm) (fzL_cons (fz_nils (E := TTubeNode.E) _) (fzL_cons (fz_sc _ _) fzL_nil))
          · exact fun hg => hN0 _ (Option.some.inj hg).symm _ (weak_mem [(0, 0), (1, 1), (2, 2), (3, 3), (10, 10)] rfl rfl rfl (okW_cons (.inl (leV_refl _)) (okW_cons (.inl (leV_refl _)) (okW_cons (.inl (leV_refl _)) (okW_cons (.inl (leV_refl _)) (okW_cons (.inl (leV_refl _)) (okW_cons (.inl (leV_refl _)) (okW_cons (.inl (leV_refl _)) (okW_cons (.inl (leV_refl _)) (okW_cons (.inl (leV_refl _)) (okW_cons (.inl (leV_refl _)) okW_nil)))))))))) (okB_cons (okB_cells (cs := [(lstA TTubeNode.E a0)]) (ty := 23) (by simp [clean, cleans, encs_clean]) (show mget _ 0 = _ from (by first | rfl | (simp (disch := first | decide | assumption) only [mpushs_nil, mpushs_cons, mget_hd, mget_tl, mget_appW_o, mget_appW_n, mget_appW_e])))) (okB_cons (okB_cells (cs := [(strA k1_0), (intA k1_1), (intA k1_2), (strA k1_3)]) (ty := 25) rfl (show mget _ 1 = _ from (by first | rfl | (simp (disch := first | decide | assumption) only [mpushs_nil, mpushs_cons, mget_hd, mget_tl, mget_appW_o, mget_appW_n, mget_appW_e])))) (okB_cons (okB_cells (cs := [(strA k2_0), (intA k2_1), (intA k2_2), (intA k2_3), (intA k2_4), (intA k2_5), (intA k2_6)]) (ty := 27) rfl (show mget _ 2 = _ from (by first | rfl | (simp (disch := first | decide | assumption) only [mpushs_nil, mpushs_cons, mget_hd, mget_tl, mget_appW_o, mget_appW_n, mget_appW_e])))) (okB_cons (okB_cells (cs := [(intA k3_0), (intA k3_1)]) (ty := 29) rfl (show mget _ 3 = _ from (by first | rfl | (simp (disch := first | decide | assumption) only [mpushs_nil, mpushs_cons, mget_hd, mget_tl, mget_appW_o, mget_appW_n, mget_appW_e])))) (okB_cons (okB_cellsR (us := [(AV.fn 24 [(AV.ptr 0 0)]), (AV.fn 25 [(AV.ptr 1 0)]), (AV.fn 27 [(AV.ptr 2 0)]), (AV.fn 29 [(AV.ptr 3 0)])]) (ty := 59) (rensL_cons (leV_eq rfl) (rensL_cons (leV_eq rfl) (rensL_cons (leV_eq rfl) (rensL_cons (leV_eq rfl) rensL_nil)))) (show mget _ 10 = _ from (by first | rfl | (simp (disch := first | decide | assumption) only [mpushs_nil, mpushs_cons, mget_hd, mget_tl, mget_appW_o, mget_appW_n, mget_appW_e])))) okB_nil'))))))
        · refine cond_g (fun e31 => ?_) (fun _ => ?_)
          · refine imp (opP_of (show _ = some ((AV.ptr 10 3), []) from idx_at (n := 4) (j := 3) e31 (by decide))) ?_
            refine imp (opP_of (show _ = some ((AV.fn 29 [(AV.ptr 3 0)]), []) from (ldS_ptr (b := ⟨[(AV.fn 24 [(AV.ptr 0 0)]), (AV.fn 25 [(AV.ptr 1 0)]), (AV.fn 27 [(AV.ptr 2 0)]), (AV.fn 29 [(AV.ptr 3 0)])], 59⟩) (by first | rfl | (simp (disch := first | decide | assumption) only [mpushs_nil, mpushs_cons, mget_hd, mget_tl, mget_appW_o, mget_appW_n, mget_appW_e])) rfl))) ?_
            refine bind_b fun x33 h33 => ?_
            refine imp fnArgs_b ?_
            refine imp (cond_ff rfl) ?_
            refine imp (callW_pure (pure_snapN (snL_cons (sn_ptr _ (ty := 29) (us := [(intA k3_0), (intA k3_1)]) (by first | rfl | (simp (disch := first | decide | assumption) only [mpushs_nil, mpushs_cons, mget_hd, mget_tl, mget_appW_o, mget_appW_n, mget_appW_e])) (snL_cons (sn_sc _ _) (snL_cons (sn_sc _ _) snL_nil))) snL_nil) (sg29 h33) rfl)) ?_
            refine imp ex_i64_b ?_
            refine cond_b (fun _ => ?_) (fun _ => ?_)
            · exact fun hg => retN rfl (hR _ (Option.some.inj hg).symm) (fzL_cons (fz_nils (E := TTubeNode.E) _) (fzL_cons (fz_sc _ _) fzL_nil))
            · exact fun hg => hN0 _ (Option.some.inj hg).symm _ (weak_mem [(0, 0), (1, 1), (2, 2), (3, 3), (10, 10)] rfl rfl rfl (okW_cons (.inl (leV_refl _)) (okW_cons (.inl (leV_refl _)) (okW_cons (.inl (leV_refl _)) (okW_cons (.inl (leV_refl _)) (okW_cons (.inl (leV_refl _)) (okW_cons (.inl (leV_refl _)) (okW_cons (.inl (leV_refl _)) (okW_cons (.inl (leV_refl _)) (okW_cons (.inl (leV_refl _)) (okW_cons (.inl (leV_refl _)) okW_nil)))))))))) (okB_cons (okB_cells (cs := [(lstA TTubeNode.E a0)]) (ty := 23) (by simp [clean, cleans, encs_clean]) (show mget _ 0 = _ from (by first | rfl | (simp (disch := first | decide | assumption) only [mpushs_nil, mpushs_cons, mget_hd, mget_tl, mget_appW_o, mget_appW_n, mget_appW_e])))) (okB_cons (okB_cells (cs := [(strA k1_0), (intA k1_1), (intA k1_2), (strA k1_3)]) (ty := 25) rfl (show mget _ 1 = _ from (by first | rfl | (simp (disch := first | decide | assumption) only [mpushs_nil, mpushs_cons, mget_hd, mget_tl, mget_appW_o, mget_appW_n, mget_appW_e])))) (okB_cons (okB_cells (cs := [(strA k2_0), (intA k2_1), (intA k2_2), (intA k2_3), (intA k2_4), (intA k2_5), (intA k2_6)]) (ty := 27) rfl (show mget _ 2 = _ from (by first | rfl | (simp (disch := first | decide | assumption) only [mpushs_nil, mpushs_cons, mget_hd, mget_tl, mget_appW_o, mget_appW_n, mget_appW_e])))) (okB_cons (okB_cells (cs := [(intA k3_0), (intA k3_1)]) (ty := 29) rfl (show mget _ 3 = _ from (by first | rfl | (simp (disch := first | decide | assumption) only [mpushs_nil, mpushs_cons, mget_hd, mget_tl, mget_appW_o, mget_appW_n, mget_appW_e])))) (okB_cons (okB_cellsR (us := [(AV.fn 24 [(AV.ptr 0 0)]), (AV.fn 25 [(AV.ptr 1 0)]), (AV.fn 27 [(AV.ptr 2 0)]), (AV.fn 29 [(AV.ptr 3 0)])]) (ty := 59) (rensL_cons (leV_eq rfl) (rensL_cons (leV_eq rfl) (rensL_cons (leV_eq rfl) (rensL_cons (leV_eq rfl) rensL_nil)))) (show mget _ 10 = _ from (by first | rfl | (simp (disch := first | decide | assumption) only [mpushs_nil, mpushs_cons, mget_hd, mget_tl, mget_appW_o, mget_appW_n, mget_appW_e])))) okB_nil'))))))
          · exact fun h => by cases h
  · refine imp (opP_of (show _ = some ((lstA TTubeNode.E a0), []) from (ldS_ptr (b := ⟨[(lstA TTubeNode.E a0)], 23⟩) (by first | rfl | (simp (disch := first | decide | assumption) only [mpushs_nil, mpushs_cons, mget_hd, mget_tl, mget_appW_o, mget_appW_n, mget_appW_e])) rfl))) ?_
    refine bind_b fun x63 h63 => ?_
    refine imp (callQ_says (sg13 h63)) ?_
    refine imp exT2_b ?_
    refine imp exA6_b ?_
    refine imp ex_i64_b ?_
    refine imp ex_i64_b ?_
    refine imp ex_i64_b ?_
    refine imp ex_i64_b ?_
    refine imp ex_i64_b ?_
    refine imp ex_i64_b ?_
    refine imp ex_i64_b ?_
    refine cond_b (fun _ => ?_) (fun _ => ?_)
    · exact fun hg => retN rfl (hR _ (Option.some.inj hg).symm) (fzL_cons (fz_nils (E := TTubeNode.E) _) (fzL_cons (fz_sc _ _) fzL_nil))
    · refine imp (opP_of (show _ = some ((AV.agg [(strA k1_0), (intA k1_1), (intA k1_2), (strA k1_3)]), []) from (ldA_ptr (b := ⟨[(strA k1_0), (intA k1_1), (intA k1_2), (strA k1_3)], 25⟩) (by first | rfl | (simp (disch := first | decide | assumption) only [mpushs_nil, mpushs_cons, mget_hd, mget_tl, mget_appW_o, mget_appW_n, mget_appW_e])) rfl))) ?_
      refine imp exA4_b ?_
      refine imp exStr_b ?_
      refine imp ex_i64_b ?_
      refine imp ex_i64_b ?_
      refine imp exStr_b ?_
      refine imp (opP_of (show _ = some ((AV.agg [(strA k2_0), (intA k2_1), (intA k2_2), (intA k2_3), (intA k2_4), (intA k2_5), (intA k2_6)]), []) from (ldA_ptr (b := ⟨[(strA k2_0), (intA k2_1), (intA k2_2), (intA k2_3), (intA k2_4), (intA k2_5), (intA k2_6)], 27⟩) (by first | rfl | (simp (disch := first | decide | assumption) only [mpushs_nil, mpushs_cons, mget_hd, mget_tl, mget_appW_o, mget_appW_n, mget_appW_e])) rfl))) ?_
      refine imp exA7_b ?_
      refine imp exStr_b ?_
      refine imp ex_i64_b ?_
      refine imp ex_i64_b ?_
      refine imp ex_i64_b ?_
      refine imp ex_i64_b ?_
      refine imp ex_i64_b ?_
      refine imp ex_i64_b ?_
      refine imp (opP_of (show _ = some ((AV.agg [(intA k3_0), (intA k3_1)]), []) from (ldA_ptr (b := ⟨[(intA k3_0), (intA k3_1)], 29⟩) (by first | rfl | (simp (disch := first | decide | assumption) only [mpushs_nil, mpushs_cons, mget_hd, mget_tl, mget_appW_o, mget_appW_n, mget_appW_e])) rfl))) ?_
      refine imp exA2_b ?_
      refine imp ex_i64_b ?_
      refine imp ex_i64_b ?_
      refine imp (opP_of (show _ = some ((lstA TTubeNode.E a0), []) from (ldS_ptr (b := ⟨[(lstA TTubeNode.E a0)], 23⟩) (by first | rfl | (simp (disch := first | decide | assumption) only [mpushs_nil, mpushs_cons, mget_hd, mget_tl, mget_appW_o, mget_appW_n, mget_appW_e])) rfl))) ?_
      refine imp (opP_of (show _ = some ((AV.agg [(strA k1_0), (intA k1_1), (intA k1_2), (strA k1_3), AV.nils, AV.nils, (intA x63.1.Node_Time), (intA x63.1.Node_At_X), (intA x63.1.Node_At_Y), (intA x63.1.Node_Height), (intA x63.1.Radius), (intA x63.1.Band), (strA k2_0), (intA k2_1), (intA k2_2), (intA k2_3), (intA k2_4), (intA k2_5), (intA k2_6), (intA k3_0), (intA k3_1), (lstA TTubeNode.E a0)]), []) from rfl)) ?_
      refine imp (storeW_cells (sz := 22) (by kernel_rfl) (by kernel_rfl) rfl rfl (cs := [(strA (⟨#[]⟩ : ByteArray)), (intA (0)), (intA (0)), (strA (⟨#[]⟩ : ByteArray)), AV.nils, AV.nils, (intA (0)), (intA (0)), (intA (0)), (intA (0)), (intA (0)), (intA (0)), (strA (⟨#[]⟩ : ByteArray)), (intA (0)), (intA (0)), (intA (0)), (intA (0)), (intA (0)), (intA (0)), (intA (0)), (intA (0)), AV.nils]) (cs' := [(strA k1_0), (intA k1_1), (intA k1_2), (strA k1_3), AV.nils, AV.nils, (intA x63.1.Node_Time), (intA x63.1.Node_At_X), (intA x63.1.Node_At_Y), (intA x63.1.Node_Height), (intA x63.1.Radius), (intA x63.1.Band), (strA k2_0), (intA k2_1), (intA k2_2), (intA k2_3), (intA k2_4), (intA k2_5), (intA k2_6), (intA k3_0), (intA k3_1), (lstA TTubeNode.E a0)]) (ty := 65) (by first | rfl | (simp (disch := first | decide | assumption) only [mpushs_nil, mpushs_cons, mget_hd, mget_tl, mget_appW_o, mget_appW_n, mget_appW_e])) rfl rfl) ?_
      refine imp (opP_of (show _ = some ((lstA TTubeNode.E a0), []) from (ldS_ptr (b := ⟨[(lstA TTubeNode.E a0)], 23⟩) (by first | rfl | (simp (disch := first | decide | assumption) only [mpushs_nil, mpushs_cons, mget_hd, mget_tl, mget_appW_o, mget_appW_n, mget_appW_e])) rfl))) ?_
      refine imp (opP_of (show _ = some ((intA (a0.length : Int)), []) from rfl)) ?_
      refine imp ex_i64_b ?_
      refine mapInr_b fun t0 e0 => ?_
      exact fun hg => L11_1_ok n a2 c11 x63.2 a0 (a0.length : Int) x63.1.Node_Time x63.1.Node_At_X x63.1.Node_At_Y x63.1.Node_Height x63.1.Radius x63.1.Band R  (fun r e => hR r (e0.trans (congrArg Sum.inr e))) n _ hg (weak_mem [(0, 0), (100070, 100070), (90000, 89500), (90001, 89501), (100081, 100081)] rfl rfl rfl (okW_cons (.inl (leV_refl _)) (okW_cons (.inl (leV_refl _)) (okW_cons (.inl (leV_refl _)) (okW_cons (.inl (leV_refl _)) (okW_cons (.inl (leV_refl _)) (okW_cons (.inl (leV_refl _)) (okW_cons (.inl (leV_refl _)) (okW_cons (ent_lst (E := TTubeNode.E) _ false) (okW_cons (.inl (leV_refl _)) (okW_cons (.inl (leV_refl _)) okW_nil)))))))))) (okB_cons (okB_cells (cs := [(lstA TTubeNode.E a0)]) (ty := 23) (by simp [clean, cleans, encs_clean]) (show mget _ 0 = _ from (by first | rfl | (simp (disch := first | decide | assumption) only [mpushs_nil, mpushs_cons, mget_hd, mget_tl, mget_appW_o, mget_appW_n, mget_appW_e])))) (okB_cons (okB_cells (cs := [(intA x63.1.Node_Time), (intA x63.1.Node_At_X), (intA x63.1.Node_At_Y), (intA x63.1.Node_Height), (intA x63.1.Radius), (intA x63.1.Band)]) (ty := 40) rfl (show mget _ 100070 = _ from (by first | rfl | (simp (disch := first | decide | assumption) only [mpushs_nil, mpushs_cons, mget_hd, mget_tl, mget_appW_o, mget_appW_n, mget_appW_e])))) (okB_cons okB_nil (okB_cons okB_nil (okB_cons (okB_cellsR (us := [(strA k1_0), (intA k1_1), (intA k1_2), (strA k1_3), AV.nils, AV.nils, (intA x63.1.Node_Time), (intA x63.1.Node_At_X), (intA x63.1.Node_At_Y), (intA x63.1.Node_Height), (intA x63.1.Radius), (intA x63.1.Band), (strA k2_0), (intA k2_1), (intA k2_2), (intA k2_3), (intA k2_4), (intA k2_5), (intA k2_6), (intA k3_0), (intA k3_1), (lstA TTubeNode.E a0)]) (ty := 65) (rensL_cons (leV_eq rfl) (rensL_cons (leV_eq rfl) (rensL_cons (leV_eq rfl) (rensL_cons (leV_eq rfl) (rensL_cons (ren_nils_own (E := TTubeNode.E) (j := 90000)) (rensL_cons (ren_nils_own (E := TTubeNode.E) (j := 90001)) (rensL_cons (leV_eq rfl) (rensL_cons (leV_eq rfl) (rensL_cons (leV_eq rfl) (rensL_cons (leV_eq rfl) (rensL_cons (leV_eq rfl) (rensL_cons (leV_eq rfl) (rensL_cons (leV_eq rfl) (rensL_cons (leV_eq rfl) (rensL_cons (leV_eq rfl) (rensL_cons (leV_eq rfl) (rensL_cons (leV_eq rfl) (rensL_cons (leV_eq rfl) (rensL_cons (leV_eq rfl) (rensL_cons (leV_eq rfl) (rensL_cons (leV_eq rfl) (rensL_cons (leV_eq (ren_clean _ (by simp [clean, cleans, encs_clean])).symm) rensL_nil)))))))))))))))))))))) (show mget _ 100081 = _ from (by first | rfl | (simp (disch := first | decide | assumption) only [mpushs_nil, mpushs_cons, mget_hd, mget_tl, mget_appW_o, mget_appW_n, mget_appW_e])))) okB_nil'))))))
theorem L11_0_ok (n : Nat) (a2 : Int) (c11 : Int) (c28 : Int) (a0 : List TTubeNode) (k1_0 : ByteArray) (k1_1 : Int) (k1_2 : Int) (k1_3 : ByteArray) (k2_0 : ByteArray) (k2_1 : Int) (k2_2 : Int) (k2_3 : Int) (k2_4 : Int) (k2_5 : Int) (k2_6 : Int) (k3_0 : Int) (k3_1 : Int) {t : ρ11} (R : AV → Mem → Prop) (hR : ∀ r : ρ11, t = r → ∀ u m, Ans ((AV.tup [(lstA TTubeNode.E r.1), (intA r.2)])) u m → R u m) (k : Nat) (x : Int) (hx : iterO (fun y : Int => S11_0 n a2 c11 c28 a0 k1_0 k1_1 k1_2 k1_3 k2_0 k2_1 k2_2 k2_3 k2_4 k2_5 k2_6 k3_0 k3_1 y) k x = some t) {s : St} (hw : Weak KK 108 0 s (h11_0 a2 AV.nils c11 (AV.sl 10 0 1 4 4 true) c28 x [(0, some ⟨[(lstA TTubeNode.E a0)], 23⟩), (1, some ⟨[(strA k1_0), (intA k1_1), (intA k1_2), (strA k1_3)], 25⟩), (2, some ⟨[(strA k2_0), (intA k2_1), (intA k2_2), (intA k2_3), (intA k2_4), (intA k2_5), (intA k2_6)], 27⟩), (3, some ⟨[(intA k3_0), (intA k3_1)], 29⟩), (10, some ⟨[(AV.fn 24 [(AV.ptr 0 0)]), (AV.fn 25 [(AV.ptr 1 0)]), (AV.fn 27 [(AV.ptr 2 0)]), (AV.fn 29 [(AV.ptr 3 0)])], 59⟩)])) : Tri Tryd.prog KK 108 0 (.loop c11_0) s (q11_0 R ) :=
  L11_0 R  (σ := Nat × (Int)) (fun z => iterO (fun y : Int => S11_0 n a2 c11 c28 a0 k1_0 k1_1 k1_2 k1_3 k2_0 k2_1 k2_2 k2_3 k2_4 k2_5 k2_6 k3_0 k3_1 y) z.1 z.2 = some t) (fun z => a2) (fun z => AV.nils) (fun z => c11) (fun z => (AV.sl 10 0 1 4 4 true)) (fun z => c28) (fun z => z.2) (fun z => [(0, some ⟨[(lstA TTubeNode.E a0)], 23⟩), (1, some ⟨[(strA k1_0), (intA k1_1), (intA k1_2), (strA k1_3)], 25⟩), (2, some ⟨[(strA k2_0), (intA k2_1), (intA k2_2), (intA k2_3), (intA k2_4), (intA k2_5), (intA k2_6)], 27⟩), (3, some ⟨[(intA k3_0), (intA k3_1)], 29⟩), (10, some ⟨[(AV.fn 24 [(AV.ptr 0 0)]), (AV.fn 25 [(AV.ptr 1 0)]), (AV.fn 27 [(AV.ptr 2 0)]), (AV.fn 29 [(AV.ptr 3 0)])], 59⟩)]) (fun z => z.1) (by
    rintro ⟨k, y⟩ h
    cases k with
    | zero => exact (iterO_zero h).elim
    | succ k =>
      obtain ⟨u, h1, h2, h3⟩ := iterO_elim h
      exact B11_0_ok n a2 c11 c28 a0 k1_0 k1_1 k1_2 k1_3 k2_0 k2_1 k2_2 k2_3 k2_4 k2_5 k2_6 k3_0 k3_1 y R  _ (fun r e => hR r (h3 _ e).symm)  (fun y' e s' hw => ⟨(k, y'), h2 _ e, Nat.lt_succ_self k, hw⟩) h1) (k, x) hx hw
theorem g11_ok (n : Nat) (a0 : List TTubeNode) (a1 : TClearance) (a2 : Int) (a3 : TKind) (a4 : TP) {t : ρ11} (R : AV → Mem → Prop) (hR : ∀ r : ρ11, t = r → ∀ u m, Ans ((AV.tup [(lstA TTubeNode.E r.1), (intA r.2)])) u m → R u m) : g11 n a0 a1 a2 a3 a4 = some t → F11 (lstA TTubeNode.E a0) a1.Call a1.Kind a1.Value a1.Fix a2 a3.Name a3.Wake a3.Ceiling a3.Climb a3.Descent a3.Slow a3.Fast a4.X a4.Y R := by
  unfold g11 F11
  refine imp (chk_of rfl) ?_
  refine imp (opN_of (show _ = some ((AV.sl 10 0 1 4 4 true), [(10, some ⟨[(AV.fn 24 [(AV.ptr 0 0)]), (AV.fn 25 [(AV.ptr 1 0)]), (AV.fn 27 [(AV.ptr 2 0)]), (AV.fn 29 [(AV.ptr 3 0)])], 59⟩)]) from rfl)) ?_
  refine imp (opP_of (show _ = some ((intA (4)), []) from rfl)) ?_
  refine imp ex_i64_b ?_
  exact fun hg => L11_0_ok n a2 (0) (4) a0 a1.Call a1.Kind a1.Value a1.Fix a3.Name a3.Wake a3.Ceiling a3.Climb a3.Descent a3.Slow a3.Fast a4.X a4.Y R  hR n _ hg (weak_mem [(0, 0), (1, 1), (2, 2), (3, 3), (10, 10)] rfl rfl rfl (okW_cons (.inl (leV_refl _)) (okW_cons (.inl (leV_refl _)) (okW_cons (.inl (leV_refl _)) (okW_cons (.inl (leV_refl _)) (okW_cons (.inl (leV_refl _)) (okW_cons (.inl (leV_refl _)) (okW_cons (.inl (leV_refl _)) (okW_cons (.inl (leV_refl _)) (okW_cons (.inl (leV_refl _)) (okW_cons (.inl (leV_refl _)) okW_nil)))))))))) (okB_cons (okB_cells (cs := [(lstA TTubeNode.E a0)]) (ty := 23) (by simp [clean, cleans, encs_clean]) (show mget _ 0 = _ from (by first | rfl | (simp (disch := first | decide | assumption) only [mpushs_nil, mpushs_cons, mget_hd, mget_tl, mget_appW_o, mget_appW_n, mget_appW_e])))) (okB_cons (okB_cells (cs := [(strA a1.Call), (intA a1.Kind), (intA a1.Value), (strA a1.Fix)]) (ty := 25) rfl (show mget _ 1 = _ from (by first | rfl | (simp (disch := first | decide | assumption) only [mpushs_nil, mpushs_cons, mget_hd, mget_tl, mget_appW_o, mget_appW_n, mget_appW_e])))) (okB_cons (okB_cells (cs := [(strA a3.Name), (intA a3.Wake), (intA a3.Ceiling), (intA a3.Climb), (intA a3.Descent), (intA a3.Slow), (intA a3.Fast)]) (ty := 27) rfl (show mget _ 2 = _ from (by first | rfl | (simp (disch := first | decide | assumption) only [mpushs_nil, mpushs_cons, mget_hd, mget_tl, mget_appW_o, mget_appW_n, mget_appW_e])))) (okB_cons (okB_cells (cs := [(intA a4.X), (intA a4.Y)]) (ty := 29) rfl (show mget _ 3 = _ from (by first | rfl | (simp (disch := first | decide | assumption) only [mpushs_nil, mpushs_cons, mget_hd, mget_tl, mget_appW_o, mget_appW_n, mget_appW_e])))) (okB_cons (okB_cellsR (us := [(AV.fn 24 [(AV.ptr 0 0)]), (AV.fn 25 [(AV.ptr 1 0)]), (AV.fn 27 [(AV.ptr 2 0)]), (AV.fn 29 [(AV.ptr 3 0)])]) (ty := 59) (rensL_cons (leV_eq rfl) (rensL_cons (leV_eq rfl) (rensL_cons (leV_eq rfl) (rensL_cons (leV_eq rfl) rensL_nil)))) (show mget _ 10 = _ from (by first | rfl | (simp (disch := first | decide | assumption) only [mpushs_nil, mpushs_cons, mget_hd, mget_tl, mget_appW_o, mget_appW_n, mget_appW_e])))) okB_nil'))))))
theorem sg11 {n : Nat} {a0 : List TTubeNode} {a1 : TClearance} {a2 : Int} {a3 : TKind} {a4 : TP} {t : ρ11} (h : g11 n a0 a1 a2 a3 a4 = some t) : Says Tryd.prog KK.gl 11 [(lstA TTubeNode.E a0), (AV.agg [(strA a1.Call), (intA a1.Kind), (intA a1.Value), (strA a1.Fix)]), (intA a2), (AV.agg [(strA a3.Name), (intA a3.Wake), (intA a3.Ceiling), (intA a3.Climb), (intA a3.Descent), (intA a3.Slow), (intA a3.Fast)]), (AV.agg [(intA a4.X), (intA a4.Y)])] ((AV.tup [(lstA TTubeNode.E t.1), (intA t.2)])) :=
  says_of_own (by first | rfl | simp [cleans, clean, encs_clean, En.cln]) (by first | rfl | simp [cleans, clean, encs_clean, En.cln]) (F11_own (lstA TTubeNode.E a0) a1.Call a1.Kind a1.Value a1.Fix a2 a3.Name a3.Wake a3.Ceiling a3.Climb a3.Descent a3.Slow a3.Fast a4.X a4.Y _ (g11_ok n a0 a1 a2 a3 a4 (Ans ((AV.tup [(lstA TTubeNode.E t.1), (intA t.2)]))) (fun r e u m h => by rw [e]; exact h) h))
/- skyway/effect.Differs -/
theorem B16_1_ok (n : Nat) (a0 : List TTubeNode) (a1 : List TTubeNode) (c4 : Int) (c10 : Int) (v11 : Int) {t : (Int) ⊕ ρ16} (R : AV → Mem → Prop) (N0 : St → Prop) (hR : ∀ r : ρ16, t = (.inr r) → ∀ u m, Ans ((AV.tup [(intA r.1), (intA r.2)])) u m → R u m) (hN0 : ∀ y : Int, t = (.inl y) → ∀ s' : St, Weak KK 102 0 s' (h16_1 (lstA TTubeNode.E a0) (lstA TTubeNode.E a1) c4 c4 c10 y []) → N0 s') : S16_1 n a0 a1 c4 c10 v11 = some t → B16_1 (lstA TTubeNode.E a0) (lstA TTubeNode.E a1) c4 c4 c10 v11 [] R N0 := by
  unfold S16_1 B16_1
  refine cond_b (fun _ => ?_) (fun _ => ?_)
  · refine bind_b fun x141 h141 => ?_
    refine imp (callQ_says (sg13 h141)) ?_
    refine imp exT2_b ?_
    refine imp exA6_b ?_
    refine imp ex_i64_b ?_
    refine imp ex_i64_b ?_
    refine imp ex_i64_b ?_
    refine imp ex_i64_b ?_
    refine imp ex_i64_b ?_
    refine imp ex_i64_b ?_
    refine imp ex_i64_b ?_
    refine bind_b fun x142 h142 => ?_
    refine imp (callQ_says (sg13 h142)) ?_
    refine imp exT2_b ?_
    refine imp exA6_b ?_
    refine imp ex_i64_b ?_
    refine imp ex_i64_b ?_
    refine imp ex_i64_b ?_
    refine imp ex_i64_b ?_
    refine imp ex_i64_b ?_
    refine imp ex_i64_b ?_
    refine imp ex_i64_b ?_
    refine cond_b (fun _ => ?_) (fun _ => ?_)
    · exact fun hg => retN rfl (hR _ (Option.some.inj hg).symm) (fzL_cons (fz_sc _ _) (fzL_cons (fz_sc _ _) fzL_nil))
    · refine imp (opP_of (show _ = some ((boolA (!(decide ((⟨x141.1.Node_At_X, x141.1.Node_At_Y⟩ : TP) = (⟨x142.1.Node_At_X, x142.1.Node_At_Y⟩ : TP))))), []) from (TP.neq29 ((⟨x141.1.Node_At_X, x141.1.Node_At_Y⟩ : TP)) ((⟨x142.1.Node_At_X, x142.1.Node_At_Y⟩ : TP))))) ?_
      refine imp exB_b ?_
      refine cond_b (fun _ => ?_) (fun _ => ?_)
      · exact fun hg => retN rfl (hR _ (Option.some.inj hg).symm) (fzL_cons (fz_sc _ _) (fzL_cons (fz_sc _ _) fzL_nil))
      · refine cond_b (fun _ => ?_) (fun _ => ?_)
        · exact fun hg => retN rfl (hR _ (Option.some.inj hg).symm) (fzL_cons (fz_sc _ _) (fzL_cons (fz_sc _ _) fzL_nil))
        · exact fun hg => hN0 _ (Option.some.inj hg).symm _ (weak_mem [] rfl rfl rfl (okW_cons (ent_lst (E := TTubeNode.E) _ false) (okW_cons (ent_lst (E := TTubeNode.E) _ false) (okW_cons (.inl (leV_refl _)) (okW_cons (.inl (leV_refl _)) (okW_cons (.inl (leV_refl _)) (okW_cons (.inl (leV_refl _)) okW_nil)))))) okB_nil')
  · exact fun hg => retN rfl (hR _ (Option.some.inj hg).symm) (fzL_cons (fz_sc _ _) (fzL_cons (fz_sc _ _) fzL_nil))
theorem L16_1_ok (n : Nat) (a0 : List TTubeNode) (a1 : List TTubeNode) (c4 : Int) (c10 : Int) {t : ρ16} (R : AV → Mem → Prop) (hR : ∀ r : ρ16, t = r → ∀ u m, Ans ((AV.tup [(intA r.1), (intA r.2)])) u m → R u m) (k : Nat) (x : Int) (hx : iterO (fun y : Int => S16_1 n a0 a1 c4 c10 y) k x = some t) {s : St} (hw : Weak KK 102 0 s (h16_1 (lstA TTubeNode.E a0) (lstA TTubeNode.E a1) c4 c4 c10 x [])) : Tri Tryd.prog KK 102 0 (.loop c16_1) s (q16_1 R ) :=
  L16_1 R  (σ := Nat × (Int)) (fun z => iterO (fun y : Int => S16_1 n a0 a1 c4 c10 y) z.1 z.2 = some t) (fun z => (lstA TTubeNode.E a0)) (fun z => (lstA TTubeNode.E a1)) (fun z => c4) (fun z => c4) (fun z => c10) (fun z => z.2) (fun z => []) (fun z => z.1) (by
    rintro ⟨k, y⟩ h
    cases k with
    | zero => exact (iterO_zero h).elim
    | succ k =>
      obtain ⟨u, h1, h2, h3⟩ := iterO_elim h
      exact B16_1_ok n a0 a1 c4 c10 y R  _ (fun r e => hR r (h3 _ e).symm)  (fun y' e s' hw => ⟨(k, y'), h2 _ e, Nat.lt_succ_self k, hw⟩) h1) (k, x) hx hw
theorem B16_0_ok (n : Nat) (a0 : List TTubeNode) (a1 : List TTubeNode) (c4 : Int) (c18 : List (List TTubeNode)) (c19 : Int) (v20 : Int) {t : (Int) ⊕ ρ16} (R : AV → Mem → Prop) (N0 : St → Prop) (hR : ∀ r : ρ16, t = (.inr r) → ∀ u m, Ans ((AV.tup [(intA r.1), (intA r.2)])) u m → R u m) (hN0 : ∀ y : Int, t = (.inl y) → ∀ s' : St, Weak KK 102 0 s' (h16_0 (lstA TTubeNode.E a0) (lstA TTubeNode.E a1) c4 c4 (lstA (lstE TTubeNode.E) c18) c19 y []) → N0 s') : S16_0 n a0 a1 c4 c18 c19 v20 = some t → B16_0 (lstA TTubeNode.E a0) (lstA TTubeNode.E a1) c4 c4 (lstA (lstE TTubeNode.E) c18) c19 v20 [] R N0 := by
  unfold S16_0 B16_0
  refine cond_b (fun _ => ?_) (fun _ => ?_)
  · refine bind_b fun x135 h135 => ?_
    refine imp (opP_of (show _ = some ((AV.ept [(lstA TTubeNode.E x135)] 0), []) from (idx_lst (E := (lstE TTubeNode.E)) rfl h135))) ?_
    refine imp (opP_of (show _ = some ((lstA TTubeNode.E x135), []) from rfl)) ?_
    refine bind_b fun x136 h136 => ?_
    refine imp (callQ_says (sg12 h136)) ?_
    refine imp ex_i64_b ?_
    refine cond_b (fun _ => ?_) (fun _ => ?_)
    · exact fun hg => retN rfl (hR _ (Option.some.inj hg).symm) (fzL_cons (fz_sc _ _) (fzL_cons (fz_sc _ _) fzL_nil))
    · exact fun hg => hN0 _ (Option.some.inj hg).symm _ (weak_mem [] rfl rfl rfl (okW_cons (ent_lst (E := TTubeNode.E) _ false) (okW_cons (ent_lst (E := TTubeNode.E) _ false) (okW_cons (.inl (leV_refl _)) (okW_cons (.inl (leV_refl _)) (okW_cons (ent_lst (E := (lstE TTubeNode.E)) _ false) (okW_cons (.inl (leV_refl _)) (okW_cons (.inl (leV_refl _)) okW_nil))))))) okB_nil')
  · refine bind_b fun x137 h137 => ?_
    refine imp (opP_of (show _ = some ((AV.ept [(intA x137.Node_Time), (intA x137.Node_At_X), (intA x137.Node_At_Y), (intA x137.Node_Height), (intA x137.Radius), (intA x137.Band)] 0), []) from (idx_lst (E := TTubeNode.E) rfl h137))) ?_
    refine imp (opP_of (show _ = some ((AV.ept [(intA x137.Node_Time), (intA x137.Node_At_X), (intA x137.Node_At_Y), (intA x137.Node_Height), (intA x137.Radius), (intA x137.Band)] 0), []) from rfl)) ?_
    refine imp (opP_of (show _ = some ((AV.ept [(intA x137.Node_Time), (intA x137.Node_At_X), (intA x137.Node_At_Y), (intA x137.Node_Height), (intA x137.Radius), (intA x137.Band)] 0), []) from rfl)) ?_
    refine imp (opP_of (show _ = some ((intA x137.Node_Time), []) from rfl)) ?_
    refine imp ex_i64_b ?_
    refine bind_b fun x138 h138 => ?_
    refine imp (opP_of (show _ = some ((AV.ept [(intA x138.Node_Time), (intA x138.Node_At_X), (intA x138.Node_At_Y), (intA x138.Node_Height), (intA x138.Radius), (intA x138.Band)] 0), []) from (idx_lst (E := TTubeNode.E) rfl h138))) ?_
    refine imp (opP_of (show _ = some ((AV.ept [(intA x138.Node_Time), (intA x138.Node_At_X), (intA x138.Node_At_Y), (intA x138.Node_Height), (intA x138.Radius), (intA x138.Band)] 0), []) from rfl)) ?_
    refine imp (opP_of (show _ = some ((AV.ept [(intA x138.Node_Time), (intA x138.Node_At_X), (intA x138.Node_At_Y), (intA x138.Node_Height), (intA x138.Radius), (intA x138.Band)] 0), []) from rfl)) ?_
    refine imp (opP_of (show _ = some ((intA x138.Node_Time), []) from rfl)) ?_
    refine imp ex_i64_b ?_
    refine imp (opP_of (show _ = some ((intA (if x138.Node_Time < x137.Node_Time then x138.Node_Time else x137.Node_Time)), []) from (by kernel_rfl))) ?_
    refine imp ex_i64_b ?_
    refine imp (opP_of (show _ = some ((intA (a0.length : Int)), []) from rfl)) ?_
    refine imp ex_i64_b ?_
    refine bind_b fun x139 h139 => ?_
    refine imp (opP_of (show _ = some ((AV.ept [(intA x139.Node_Time), (intA x139.Node_At_X), (intA x139.Node_At_Y), (intA x139.Node_Height), (intA x139.Radius), (intA x139.Band)] 0), []) from (idx_lst (E := TTubeNode.E) rfl h139))) ?_
    refine imp (opP_of (show _ = some ((AV.ept [(intA x139.Node_Time), (intA x139.Node_At_X), (intA x139.Node_At_Y), (intA x139.Node_Height), (intA x139.Radius), (intA x139.Band)] 0), []) from rfl)) ?_
    refine imp (opP_of (show _ = some ((AV.ept [(intA x139.Node_Time), (intA x139.Node_At_X), (intA x139.Node_At_Y), (intA x139.Node_Height), (intA x139.Radius), (intA x139.Band)] 0), []) from rfl)) ?_
    refine imp (opP_of (show _ = some ((intA x139.Node_Time), []) from rfl)) ?_
    refine imp ex_i64_b ?_
    refine imp (opP_of (show _ = some ((intA (a1.length : Int)), []) from rfl)) ?_
    refine imp ex_i64_b ?_
    refine bind_b fun x140 h140 => ?_
    refine imp (opP_of (show _ = some ((AV.ept [(intA x140.Node_Time), (intA x140.Node_At_X), (intA x140.Node_At_Y), (intA x140.Node_Height), (intA x140.Radius), (intA x140.Band)] 0), []) from (idx_lst (E := TTubeNode.E) rfl h140))) ?_
    refine imp (opP_of (show _ = some ((AV.ept [(intA x140.Node_Time), (intA x140.Node_At_X), (intA x140.Node_At_Y), (intA x140.Node_Height), (intA x140.Radius), (intA x140.Band)] 0), []) from rfl)) ?_
    refine imp (opP_of (show _ = some ((AV.ept [(intA x140.Node_Time), (intA x140.Node_At_X), (intA x140.Node_At_Y), (intA x140.Node_Height), (intA x140.Radius), (intA x140.Band)] 0), []) from rfl)) ?_
    refine imp (opP_of (show _ = some ((intA x140.Node_Time), []) from rfl)) ?_
    refine imp ex_i64_b ?_
    refine imp (opP_of (show _ = some ((intA (if x140.Node_Time > x139.Node_Time then x140.Node_Time else x139.Node_Time)), []) from (by kernel_rfl))) ?_
    refine imp ex_i64_b ?_
    refine cond_b (fun _ => ?_) (fun _ => ?_)
    · exact fun hg => retN rfl (hR _ (Option.some.inj hg).symm) (fzL_cons (fz_sc _ _) (fzL_cons (fz_sc _ _) fzL_nil))
    · refine mapInr_b fun t0 e0 => ?_
      exact fun hg => L16_1_ok n a0 a1 c4 (if x140.Node_Time > x139.Node_Time then x140.Node_Time else x139.Node_Time) R  (fun r e => hR r (e0.trans (congrArg Sum.inr e))) n _ hg (weak_mem [] rfl rfl rfl (okW_cons (ent_lst (E := TTubeNode.E) _ false) (okW_cons (ent_lst (E := TTubeNode.E) _ false) (okW_cons (.inl (leV_refl _)) (okW_cons (.inl (leV_refl _)) (okW_cons (.inl (leV_refl _)) (okW_cons (.inl (leV_refl _)) okW_nil)))))) okB_nil')
theorem L16_0_ok (n : Nat) (a0 : List TTubeNode) (a1 : List TTubeNode) (c4 : Int) (c18 : List (List TTubeNode)) (c19 : Int) {t : ρ16} (R : AV → Mem → Prop) (hR : ∀ r : ρ16, t = r → ∀ u m, Ans ((AV.tup [(intA r.1), (intA r.2)])) u m → R u m) (k : Nat) (x : Int) (hx : iterO (fun y : Int => S16_0 n a0 a1 c4 c18 c19 y) k x = some t) {s : St} (hw : Weak KK 102 0 s (h16_0 (lstA TTubeNode.E a0) (lstA TTubeNode.E a1) c4 c4 (lstA (lstE TTubeNode.E) c18) c19 x [])) : Tri Tryd.prog KK 102 0 (.loop c16_0) s (q16_0 R ) :=
  L16_0 R  (σ := Nat × (Int)) (fun z => iterO (fun y : Int => S16_0 n a0 a1 c4 c18 c19 y) z.1 z.2 = some t) (fun z => (lstA TTubeNode.E a0)) (fun z => (lstA TTubeNode.E a1)) (fun z => c4) (fun z => c4) (fun z => (lstA (lstE TTubeNode.E) c18)) (fun z => c19) (fun z => z.2) (fun z => []) (fun z => z.1) (by
    rintro ⟨k, y⟩ h
    cases k with
    | zero => exact (iterO_zero h).elim
    | succ k =>
      obtain ⟨u, h1, h2, h3⟩ := iterO_elim h
      exact B16_0_ok n a0 a1 c4 c18 c19 y R  _ (fun r e => hR r (h3 _ e).symm)  (fun y' e s' hw => ⟨(k, y'), h2 _ e, Nat.lt_succ_self k, hw⟩) h1) (k, x) hx hw
theorem g16_ok (n : Nat) (a0 : List TTubeNode) (a1 : List TTubeNode) {t : ρ16} (R : AV → Mem → Prop) (hR : ∀ r : ρ16, t = r → ∀ u m, Ans ((AV.tup [(intA r.1), (intA r.2)])) u m → R u m) : g16 n a0 a1 = some t → F16 (lstA TTubeNode.E a0) (lstA TTubeNode.E a1) R := by
  unfold g16 F16
  refine imp (opN_of (show _ = some ((blkV (lstE TTubeNode.E) 4 ([a0, a1] : List (List TTubeNode))), [(4, some ⟨encs (lstE TTubeNode.E) ([a0, a1] : List (List TTubeNode)), 23⟩)]) from rfl)) ?_
  refine imp (opP_of (show _ = some ((intA (([a0, a1] : List (List TTubeNode)).length : Int)), []) from len_blk)) ?_
  refine imp ex_i64_b ?_
  exact fun hg => L16_0_ok n a0 a1 (0) ([a0, a1] : List (List TTubeNode)) (([a0, a1] : List (List TTubeNode)).length : Int) R  hR n _ hg (weak_mem [] rfl rfl rfl (okW_cons (ent_lst (E := TTubeNode.E) _ false) (okW_cons (ent_lst (E := TTubeNode.E) _ false) (okW_cons (.inl (leV_refl _)) (okW_cons (.inl (leV_refl _)) (okW_cons (ent_blk_frz (E := (lstE TTubeNode.E)) (ty := 23) (l' := ([a0, a1] : List (List TTubeNode))) rfl (by first | rfl | (simp (disch := first | decide | assumption) only [mpushs_nil, mpushs_cons, mget_hd, mget_tl, mget_appW_o, mget_appW_n, mget_appW_e])) rfl) (okW_cons (.inl (leV_refl _)) (okW_cons (.inl (leV_refl _)) okW_nil))))))) okB_nil')
theorem sg16 {n : Nat} {a0 : List TTubeNode} {a1 : List TTubeNode} {t : ρ16} (h : g16 n a0 a1 = some t) : Says Tryd.prog KK.gl 16 [(lstA TTubeNode.E a0), (lstA TTubeNode.E a1)] ((AV.tup [(intA t.1), (intA t.2)])) :=
  says_of_own (by first | rfl | simp [cleans, clean, encs_clean, En.cln]) (by first | rfl | simp [cleans, clean, encs_clean, En.cln]) (F16_own (lstA TTubeNode.E a0) (lstA TTubeNode.E a1) _ (g16_ok n a0 a1 (Ans ((AV.tup [(intA t.1), (intA t.2)]))) (fun r e u m h => by rw [e]; exact h) h))
/- skyway/skywaykeep3.effectFact -/
theorem g9_ok (n : Nat) {t : ρ9} (R : AV → Mem → Prop) (hR : ∀ r : ρ9, t = r → ∀ u m, Ans ((boolA r)) u m → R u m) : g9 n  = some t → F9  R := by
  unfold g9 F9
  refine bind_b fun x0 h0 => ?_
  refine imp (callQ_says (sg21 h0)) ?_
  refine bind_b fun x1 h1 => ?_
  refine imp (callQ_says (sg22 h1)) ?_
  refine imp exA4_b ?_
  refine imp exStr_b ?_
  refine imp ex_i64_b ?_
  refine imp ex_i64_b ?_
  refine imp exStr_b ?_
  refine bind_b fun x2 h2 => ?_
  refine imp (callQ_says (sg23 h2)) ?_
  refine imp exA7_b ?_
  refine imp exStr_b ?_
  refine imp ex_i64_b ?_
  refine imp ex_i64_b ?_
  refine imp ex_i64_b ?_
  refine imp ex_i64_b ?_
  refine imp ex_i64_b ?_
  refine imp ex_i64_b ?_
  refine imp (opP_of (show _ = some ((AV.agg [(intA (0)), (intA (0))]), []) from rfl)) ?_
  refine bind_b fun x133 h133 => ?_
  refine imp (callQ_says (sg11 h133)) ?_
  refine imp exT2_b ?_
  refine imp ex_i64_b ?_
  refine bind_b fun x134 h134 => ?_
  refine imp (callQ_says (sg21 h134)) ?_
  refine bind_b fun x143 h143 => ?_
  refine imp (callQ_says (sg16 h143)) ?_
  refine imp exT2_b ?_
  refine imp ex_i64_b ?_
  refine imp ex_i64_b ?_
  refine cond_b (fun _ => ?_) (fun _ => ?_)
  · refine cond_b (fun _ => ?_) (fun _ => ?_)
    · refine imp (opP_of (show _ = some ((intA (x133.1.length : Int)), []) from rfl)) ?_
      refine imp ex_i64_b ?_
      refine cond_b (fun _ => ?_) (fun _ => ?_)
      · refine bind_b fun x144 h144 => ?_
        refine imp (opP_of (show _ = some ((AV.ept [(intA x144.Node_Time), (intA x144.Node_At_X), (intA x144.Node_At_Y), (intA x144.Node_Height), (intA x144.Radius), (intA x144.Band)] 0), []) from (idx_lst (E := TTubeNode.E) rfl h144))) ?_
        refine imp (opP_of (show _ = some ((AV.ept [(intA x144.Node_Time), (intA x144.Node_At_X), (intA x144.Node_At_Y), (intA x144.Node_Height), (intA x144.Radius), (intA x144.Band)] 0), []) from rfl)) ?_
        refine imp (opP_of (show _ = some ((AV.ept [(intA x144.Node_Time), (intA x144.Node_At_X), (intA x144.Node_At_Y), (intA x144.Node_Height), (intA x144.Radius), (intA x144.Band)] 0), []) from rfl)) ?_
        refine imp (opP_of (show _ = some ((intA x144.Node_Time), []) from rfl)) ?_
        refine imp ex_i64_b ?_
        refine cond_b (fun _ => ?_) (fun _ => ?_)
        · refine bind_b fun x145 h145 => ?_
          refine imp (opP_of (show _ = some ((AV.ept [(intA x145.Node_Time), (intA x145.Node_At_X), (intA x145.Node_At_Y), (intA x145.Node_Height), (intA x145.Radius), (intA x145.Band)] 0), []) from (idx_lst (E := TTubeNode.E) rfl h145))) ?_
          refine imp (opP_of (show _ = some ((AV.ept [(intA x145.Node_Time), (intA x145.Node_At_X), (intA x145.Node_At_Y), (intA x145.Node_Height), (intA x145.Radius), (intA x145.Band)] 0), []) from rfl)) ?_
          refine imp (opP_of (show _ = some ((AV.ept [(intA x145.Node_Time), (intA x145.Node_At_X), (intA x145.Node_At_Y), (intA x145.Node_Height), (intA x145.Radius), (intA x145.Band)] 3), []) from rfl)) ?_
          refine imp (opP_of (show _ = some ((intA x145.Node_Height), []) from rfl)) ?_
          refine imp ex_i64_b ?_
          refine cond_b (fun _ => ?_) (fun _ => ?_)
          · refine bind_b fun x146 h146 => ?_
            refine imp (opP_of (show _ = some ((AV.ept [(intA x146.Node_Time), (intA x146.Node_At_X), (intA x146.Node_At_Y), (intA x146.Node_Height), (intA x146.Radius), (intA x146.Band)] 0), []) from (idx_lst (E := TTubeNode.E) rfl h146))) ?_
            refine imp (opP_of (show _ = some ((AV.ept [(intA x146.Node_Time), (intA x146.Node_At_X), (intA x146.Node_At_Y), (intA x146.Node_Height), (intA x146.Radius), (intA x146.Band)] 0), []) from rfl)) ?_
            refine imp (opP_of (show _ = some ((AV.ept [(intA x146.Node_Time), (intA x146.Node_At_X), (intA x146.Node_At_Y), (intA x146.Node_Height), (intA x146.Radius), (intA x146.Band)] 1), []) from rfl)) ?_
            refine imp (opP_of (show _ = some ((AV.ept [(intA x146.Node_Time), (intA x146.Node_At_X), (intA x146.Node_At_Y), (intA x146.Node_Height), (intA x146.Radius), (intA x146.Band)] 1), []) from rfl)) ?_
            refine imp (opP_of (show _ = some ((intA x146.Node_At_X), []) from rfl)) ?_
            refine imp ex_i64_b ?_
            refine cond_b (fun _ => ?_) (fun _ => ?_)
            · refine bind_b fun x147 h147 => ?_
              refine imp (opP_of (show _ = some ((AV.ept [(intA x147.Node_Time), (intA x147.Node_At_X), (intA x147.Node_At_Y), (intA x147.Node_Height), (intA x147.Radius), (intA x147.Band)] 0), []) from (idx_lst (E := TTubeNode.E) rfl h147))) ?_
              refine imp (opP_of (show _ = some ((AV.ept [(intA x147.Node_Time), (intA x147.Node_At_X), (intA x147.Node_At_Y), (intA x147.Node_Height), (intA x147.Radius), (intA x147.Band)] 0), []) from rfl)) ?_
              refine imp (opP_of (show _ = some ((AV.ept [(intA x147.Node_Time), (intA x147.Node_At_X), (intA x147.Node_At_Y), (intA x147.Node_Height), (intA x147.Radius), (intA x147.Band)] 3), []) from rfl)) ?_
              refine imp (opP_of (show _ = some ((intA x147.Node_Height), []) from rfl)) ?_
              refine imp ex_i64_b ?_
              refine cond_b (fun _ => ?_) (fun _ => ?_)
              · refine bind_b fun x148 h148 => ?_
                refine imp (opP_of (show _ = some ((AV.ept [(intA x148.Node_Time), (intA x148.Node_At_X), (intA x148.Node_At_Y), (intA x148.Node_Height), (intA x148.Radius), (intA x148.Band)] 0), []) from (idx_lst (E := TTubeNode.E) rfl h148))) ?_
                refine imp (opP_of (show _ = some ((AV.ept [(intA x148.Node_Time), (intA x148.Node_At_X), (intA x148.Node_At_Y), (intA x148.Node_Height), (intA x148.Radius), (intA x148.Band)] 4), []) from rfl)) ?_
                refine imp (opP_of (show _ = some ((intA x148.Radius), []) from rfl)) ?_
                refine imp ex_i64_b ?_
                refine cond_b (fun _ => ?_) (fun _ => ?_)
                · exact fun hg => ret1 (hR _ (Option.some.inj hg).symm) (fz_sc _ _)
                · exact fun hg => ret1 (hR _ (Option.some.inj hg).symm) (fz_sc _ _)
              · exact fun hg => ret1 (hR _ (Option.some.inj hg).symm) (fz_sc _ _)
            · exact fun hg => ret1 (hR _ (Option.some.inj hg).symm) (fz_sc _ _)
          · exact fun hg => ret1 (hR _ (Option.some.inj hg).symm) (fz_sc _ _)
        · exact fun hg => ret1 (hR _ (Option.some.inj hg).symm) (fz_sc _ _)
      · exact fun hg => ret1 (hR _ (Option.some.inj hg).symm) (fz_sc _ _)
    · exact fun hg => ret1 (hR _ (Option.some.inj hg).symm) (fz_sc _ _)
  · exact fun hg => ret1 (hR _ (Option.some.inj hg).symm) (fz_sc _ _)
theorem sg9 {n : Nat} {t : ρ9} (h : g9 n  = some t) : Says Tryd.prog KK.gl 9 [] ((boolA t)) :=
  says_of_own (by first | rfl | simp [cleans, clean, encs_clean, En.cln]) (by first | rfl | simp [cleans, clean, encs_clean, En.cln]) (F9_own  _ (g9_ok n  (Ans ((boolA t))) (fun r e u m h => by rw [e]; exact h) h))
/- skyway/skywaykeep3.EffectArrives -/
theorem g5_ok (n : Nat) (a0 : List TTubeNode) (a1 : TClearance) (a2 : Int) (a3 : TKind) (a4 : TP) {t : ρ5} (R : AV → Mem → Prop) (hR : ∀ r : ρ5, t = r → ∀ u m, Ans ((boolA r)) u m → R u m) : g5 n a0 a1 a2 a3 a4 = some t → F5 (lstA TTubeNode.E a0) a1.Call a1.Kind a1.Value a1.Fix a2 a3.Name a3.Wake a3.Ceiling a3.Climb a3.Descent a3.Slow a3.Fast a4.X a4.Y R := by
  unfold g5 F5
  refine bind_b fun x149 h149 => ?_
  refine imp (callQ_says (sg9 h149)) ?_
  refine imp exB_b ?_
  refine cond_b (fun _ => ?_) (fun _ => ?_)
  · exact fun hg => ret1 (hR _ (Option.some.inj hg).symm) (fz_sc _ _)
  · refine bind_b fun x150 h150 => ?_
    refine imp (callQ_says (sg11 h150)) ?_
    refine imp exT2_b ?_
    refine imp ex_i64_b ?_
    refine cond_b (fun _ => ?_) (fun _ => ?_)
    · refine cond_b (fun _ => ?_) (fun _ => ?_)
      · exact fun hg => ret1 (hR _ (Option.some.inj hg).symm) (fz_sc _ _)
      · refine imp (opP_of (show _ = some ((intA (x150.1.length : Int)), []) from rfl)) ?_
        refine imp ex_i64_b ?_
        exact fun hg => ret1 (hR _ (Option.some.inj hg).symm) (fz_sc _ _)
    · refine imp (opP_of (show _ = some ((intA (a0.length : Int)), []) from rfl)) ?_
      refine imp ex_i64_b ?_
      refine cond_b (fun _ => ?_) (fun _ => ?_)
      · refine cond_b (fun _ => ?_) (fun _ => ?_)
        · exact fun hg => ret1 (hR _ (Option.some.inj hg).symm) (fz_sc _ _)
        · refine imp (opP_of (show _ = some ((intA (x150.1.length : Int)), []) from rfl)) ?_
          refine imp ex_i64_b ?_
          exact fun hg => ret1 (hR _ (Option.some.inj hg).symm) (fz_sc _ _)
      · refine imp (opP_of (show _ = some ((intA (a0.length : Int)), []) from rfl)) ?_
        refine imp ex_i64_b ?_
        refine bind_b fun x151 h151 => ?_
        refine imp (opP_of (show _ = some ((AV.ept [(intA x151.Node_Time), (intA x151.Node_At_X), (intA x151.Node_At_Y), (intA x151.Node_Height), (intA x151.Radius), (intA x151.Band)] 0), []) from (idx_lst (E := TTubeNode.E) rfl h151))) ?_
        refine imp (opP_of (show _ = some ((AV.ept [(intA x151.Node_Time), (intA x151.Node_At_X), (intA x151.Node_At_Y), (intA x151.Node_Height), (intA x151.Radius), (intA x151.Band)] 0), []) from rfl)) ?_
        refine imp (opP_of (show _ = some ((AV.ept [(intA x151.Node_Time), (intA x151.Node_At_X), (intA x151.Node_At_Y), (intA x151.Node_Height), (intA x151.Radius), (intA x151.Band)] 0), []) from rfl)) ?_
        refine imp (opP_of (show _ = some ((intA x151.Node_Time), []) from rfl)) ?_
        refine imp ex_i64_b ?_
        refine cond_b (fun _ => ?_) (fun _ => ?_)
        · refine cond_b (fun _ => ?_) (fun _ => ?_)
          · exact fun hg => ret1 (hR _ (Option.some.inj hg).symm) (fz_sc _ _)
          · refine imp (opP_of (show _ = some ((intA (x150.1.length : Int)), []) from rfl)) ?_
            refine imp ex_i64_b ?_
            exact fun hg => ret1 (hR _ (Option.some.inj hg).symm) (fz_sc _ _)
        · refine imp (opP_of (show _ = some ((intA (x150.1.length : Int)), []) from rfl)) ?_
          refine imp ex_i64_b ?_
          refine cond_b (fun _ => ?_) (fun _ => ?_)
          · exact fun hg => ret1 (hR _ (Option.some.inj hg).symm) (fz_sc _ _)
          · refine imp (opP_of (show _ = some ((intA (x150.1.length : Int)), []) from rfl)) ?_
            refine imp ex_i64_b ?_
            refine bind_b fun x152 h152 => ?_
            refine imp (opP_of (show _ = some ((AV.ept [(intA x152.Node_Time), (intA x152.Node_At_X), (intA x152.Node_At_Y), (intA x152.Node_Height), (intA x152.Radius), (intA x152.Band)] 0), []) from (idx_lst (E := TTubeNode.E) rfl h152))) ?_
            refine imp (opP_of (show _ = some ((AV.agg [(intA x152.Node_Time), (intA x152.Node_At_X), (intA x152.Node_At_Y), (intA x152.Node_Height), (intA x152.Radius), (intA x152.Band)]), []) from rfl)) ?_
            refine imp exA6_b ?_
            refine imp ex_i64_b ?_
            refine imp ex_i64_b ?_
            refine imp ex_i64_b ?_
            refine imp ex_i64_b ?_
            refine imp ex_i64_b ?_
            refine imp ex_i64_b ?_
            refine bind_b fun x153 h153 => ?_
            refine imp (callQ_says (sg13 h153)) ?_
            refine imp exT2_b ?_
            refine imp exA6_b ?_
            refine imp ex_i64_b ?_
            refine imp ex_i64_b ?_
            refine imp ex_i64_b ?_
            refine imp ex_i64_b ?_
            refine imp ex_i64_b ?_
            refine imp ex_i64_b ?_
            refine imp ex_i64_b ?_
            refine cond_b (fun _ => ?_) (fun _ => ?_)
            · refine imp (opP_of (show _ = some ((boolA (decide ((⟨x152.Node_At_X, x152.Node_At_Y⟩ : TP) = a4))), []) from (TP.eql29 ((⟨x152.Node_At_X, x152.Node_At_Y⟩ : TP)) (a4)))) ?_
              refine imp exB_b ?_
              refine cond_b (fun _ => ?_) (fun _ => ?_)
              · refine cond_b (fun _ => ?_) (fun _ => ?_)
                · refine cond_b (fun _ => ?_) (fun _ => ?_)
                  · exact fun hg => ret1 (hR _ (Option.some.inj hg).symm) (fz_sc _ _)
                  · exact fun hg => ret1 (hR _ (Option.some.inj hg).symm) (fz_sc _ _)
                · exact fun hg => ret1 (hR _ (Option.some.inj hg).symm) (fz_sc _ _)
              · exact fun hg => ret1 (hR _ (Option.some.inj hg).symm) (fz_sc _ _)
            · exact fun hg => ret1 (hR _ (Option.some.inj hg).symm) (fz_sc _ _)
theorem sg5 {n : Nat} {a0 : List TTubeNode} {a1 : TClearance} {a2 : Int} {a3 : TKind} {a4 : TP} {t : ρ5} (h : g5 n a0 a1 a2 a3 a4 = some t) : Says Tryd.prog KK.gl 5 [(lstA TTubeNode.E a0), (AV.agg [(strA a1.Call), (intA a1.Kind), (intA a1.Value), (strA a1.Fix)]), (intA a2), (AV.agg [(strA a3.Name), (intA a3.Wake), (intA a3.Ceiling), (intA a3.Climb), (intA a3.Descent), (intA a3.Slow), (intA a3.Fast)]), (AV.agg [(intA a4.X), (intA a4.Y)])] ((boolA t)) :=
  says_of_own (by first | rfl | simp [cleans, clean, encs_clean, En.cln]) (by first | rfl | simp [cleans, clean, encs_clean, En.cln]) (F5_own (lstA TTubeNode.E a0) a1.Call a1.Kind a1.Value a1.Fix a2 a3.Name a3.Wake a3.Ceiling a3.Climb a3.Descent a3.Slow a3.Fast a4.X a4.Y _ (g5_ok n a0 a1 a2 a3 a4 (Ans ((boolA t))) (fun r e u m h => by rw [e]; exact h) h))
end Go.Proofs.YtpjepkldnnfncaaDoor
