/- Plain functional programs out of the program's functions, with proofs that the functions compute them; printed by wip/Ext.lean.txt. -/
import Derived.Test.YtbbfpbngnkjkdaaDoorX1E5
set_option linter.unusedVariables false
set_option linter.unusedSimpArgs false
set_option maxRecDepth 100000
set_option maxHeartbeats 4000000
namespace Go.Proofs.YtbbfpbngnkjkdaaDoor
/- (skyway/effect.task).heading -/
/- (skyway/effect.task).heading -/
theorem B30_0_okM (n : Nat) (c3 : Int) (c13 : Int) (k0_0 : ByteArray) (k0_1 : Int) (k0_2 : Int) (k0_3 : ByteArray) (k0_4 : List TTubeNode) (k0_5 : List TTubeNode) (k0_6 : Int) (k0_7 : Int) (k0_8 : Int) (k0_9 : Int) (k0_10 : Int) (k0_11 : Int) (k0_12 : ByteArray) (k0_13 : Int) (k0_14 : Int) (k0_15 : Int) (k0_16 : Int) (k0_17 : Int) (k0_18 : Int) (k0_19 : Int) (k0_20 : Int) (k0_21 : List TTubeNode) (v14 : Int) (L90000 : List TTubeNode) {t : (Int × List TTubeNode) ⊕ ρ30} (R : AV → Mem → Prop) (N0 : St → Prop) (hR : ∀ r : ρ30, t = (.inr r) → ∀ u m, MadeT TTubeNode.E 40 r.1 [Value.int .i64 r.2] u m → R u m) (hN0 : ∀ y : Int × List TTubeNode, t = (.inl y) → ∀ s' : St, Weak KK 64 0 s' (h30_0 AV.nils c3 (ownV TTubeNode.E 90000 y.2) c13 y.1 [(90000, ownB TTubeNode.E 40 y.2), (0, some ⟨[(strA k0_0), (intA k0_1), (intA k0_2), (strA k0_3), (lstA TTubeNode.E k0_4), (lstA TTubeNode.E k0_5), (intA k0_6), (intA k0_7), (intA k0_8), (intA k0_9), (intA k0_10), (intA k0_11), (strA k0_12), (intA k0_13), (intA k0_14), (intA k0_15), (intA k0_16), (intA k0_17), (intA k0_18), (intA k0_19), (intA k0_20), (lstA TTubeNode.E k0_21)], 56⟩)]) → N0 s') : S30_0 n c3 c13 k0_0 k0_1 k0_2 k0_3 k0_4 k0_5 k0_6 k0_7 k0_8 k0_9 k0_10 k0_11 k0_12 k0_13 k0_14 k0_15 k0_16 k0_17 k0_18 k0_19 k0_20 k0_21 v14 L90000 = some t → B30_0 AV.nils c3 (ownV TTubeNode.E 90000 L90000) c13 v14 [(90000, ownB TTubeNode.E 40 L90000), (0, some ⟨[(strA k0_0), (intA k0_1), (intA k0_2), (strA k0_3), (lstA TTubeNode.E k0_4), (lstA TTubeNode.E k0_5), (intA k0_6), (intA k0_7), (intA k0_8), (intA k0_9), (intA k0_10), (intA k0_11), (strA k0_12), (intA k0_13), (intA k0_14), (intA k0_15), (intA k0_16), (intA k0_17), (intA k0_18), (intA k0_19), (intA k0_20), (lstA TTubeNode.E k0_21)], 56⟩)] R N0 := by
  unfold S30_0 B30_0
  refine cond_b (fun _ => ?_) (fun _ => ?_)
  · refine imp (opM_of (show _ = some ((intA k0_2), []) from (ldS_ptr (b := ⟨[(strA k0_0), (intA k0_1), (intA k0_2), (strA k0_3), (lstA TTubeNode.E k0_4), (lstA TTubeNode.E k0_5), (intA k0_6), (intA k0_7), (intA k0_8), (intA k0_9), (intA k0_10), (intA k0_11), (strA k0_12), (intA k0_13), (intA k0_14), (intA k0_15), (intA k0_16), (intA k0_17), (intA k0_18), (intA k0_19), (intA k0_20), (lstA TTubeNode.E k0_21)], 56⟩) (by first | rfl | (rw [look'_mem (by first | rfl | simp [topId_blk] | simp [topId])]; first | rfl | (simp (disch := first | decide | assumption) only [mpushs_nil, mpushs_cons, mget_hd, mget_tl, mget_appW_o, mget_appW_n, mget_appW_e]))) rfl))) ?_
    refine imp ex_i64_b ?_
    refine imp (opM_of (show _ = some ((AV.agg [(strA k0_0), (intA k0_1), (intA k0_2), (strA k0_3), (lstA TTubeNode.E k0_4), (lstA TTubeNode.E k0_5), (intA k0_6), (intA k0_7), (intA k0_8), (intA k0_9), (intA k0_10), (intA k0_11), (strA k0_12), (intA k0_13), (intA k0_14), (intA k0_15), (intA k0_16), (intA k0_17), (intA k0_18), (intA k0_19), (intA k0_20), (lstA TTubeNode.E k0_21)]), []) from (ldA_ptr (b := ⟨[(strA k0_0), (intA k0_1), (intA k0_2), (strA k0_3), (lstA TTubeNode.E k0_4), (lstA TTubeNode.E k0_5), (intA k0_6), (intA k0_7), (intA k0_8), (intA k0_9), (intA k0_10), (intA k0_11), (strA k0_12), (intA k0_13), (intA k0_14), (intA k0_15), (intA k0_16), (intA k0_17), (intA k0_18), (intA k0_19), (intA k0_20), (lstA TTubeNode.E k0_21)], 56⟩) (by first | rfl | (rw [look'_mem (by first | rfl | simp [topId_blk] | simp [topId])]; first | rfl | (simp (disch := first | decide | assumption) only [mpushs_nil, mpushs_cons, mget_hd, mget_tl, mget_appW_o, mget_appW_n, mget_appW_e]))) rfl))) ?_
    refine imp exA22_b ?_
    refine imp exStr_b ?_
    iterate 2 refine imp ex_i64_b ?_
    refine imp exStr_b ?_
    iterate 6 refine imp ex_i64_b ?_
    refine imp exStr_b ?_
    iterate 8 refine imp ex_i64_b ?_
    refine bind_b fun x694 h694 => ?_
    refine imp (callF_says (sg45 h694)) ?_
    refine imp ex_i64_b ?_
    refine bind_b fun x695 h695 => ?_
    refine imp (opM_of (show _ = some ((AV.ptr 90000 (((v14 : Int).toNat) * 6 + 0)), []) from (idx_own (E := TTubeNode.E) rfl h695))) ?_
    refine imp (opM_of (show _ = some ((AV.ptr 90000 (((v14 : Int).toNat) * 6 + 0)), []) from rfl)) ?_
    refine imp (opM_of (show _ = some ((AV.ptr 90000 (((v14 : Int).toNat) * 6 + 0)), []) from rfl)) ?_
    refine imp (opM_of (show _ = some ((intA x695.Node_Time), []) from (ldS_blk (E := TTubeNode.E) (l := L90000) (ty := 40) (o := 0) (own_some (ty := 40) (by first | rfl | (rw [look'_mem (by first | rfl | simp [topId_blk] | simp [topId])]; first | rfl | (simp (disch := first | decide | assumption) only [mpushs_nil, mpushs_cons, mget_hd, mget_tl, mget_appW_o, mget_appW_n, mget_appW_e]))) (getI_some h695).2) (getI_some h695).2 rfl (by decide) rfl))) ?_
    refine imp ex_i64_b ?_
    refine imp (opM_of (show _ = some ((intA k0_6), []) from (ldS_ptr (b := ⟨[(strA k0_0), (intA k0_1), (intA k0_2), (strA k0_3), (lstA TTubeNode.E k0_4), (lstA TTubeNode.E k0_5), (intA k0_6), (intA k0_7), (intA k0_8), (intA k0_9), (intA k0_10), (intA k0_11), (strA k0_12), (intA k0_13), (intA k0_14), (intA k0_15), (intA k0_16), (intA k0_17), (intA k0_18), (intA k0_19), (intA k0_20), (lstA TTubeNode.E k0_21)], 56⟩) (by first | rfl | (rw [look'_mem (by first | rfl | simp [topId_blk] | simp [topId])]; first | rfl | (simp (disch := first | decide | assumption) only [mpushs_nil, mpushs_cons, mget_hd, mget_tl, mget_appW_o, mget_appW_n, mget_appW_e]))) rfl))) ?_
    refine imp ex_i64_b ?_
    refine bind_b fun x696 h696 => ?_
    refine imp (callF_says (sg44 h696)) ?_
    refine imp exT2_b ?_
    refine imp exA2_b ?_
    iterate 3 refine imp ex_i64_b ?_
    refine imp (storeW_cells (sz := 2) (by kernel_rfl) (by kernel_rfl) rfl rfl (cs := [(intA (0)), (intA (0))]) (cs' := [(intA x696.1.X), (intA x696.1.Y)]) (ty := 29) (by first | rfl | (rw [look'_mem (by first | rfl | simp [topId_blk] | simp [topId])]; first | rfl | (simp (disch := first | decide | assumption) only [mpushs_nil, mpushs_cons, mget_hd, mget_tl, mget_appW_o, mget_appW_n, mget_appW_e]))) rfl rfl) ?_
    refine imp (chk_of (by kernel_rfl)) ?_
    refine cond_b (fun _ => ?_) (fun _ => ?_)
    · exact fun hg => hR _ (Option.some.inj hg).symm _ _ ⟨_, rfl, made_nils_pf⟩
    · refine iq (AV.agg [(intA k0_7), (intA k0_8)]) (ldA_ptr (b := ⟨[(strA k0_0), (intA k0_1), (intA k0_2), (strA k0_3), (lstA TTubeNode.E k0_4), (lstA TTubeNode.E k0_5), (intA k0_6), (intA k0_7), (intA k0_8), (intA k0_9), (intA k0_10), (intA k0_11), (strA k0_12), (intA k0_13), (intA k0_14), (intA k0_15), (intA k0_16), (intA k0_17), (intA k0_18), (intA k0_19), (intA k0_20), (lstA TTubeNode.E k0_21)], 56⟩) (by first | rfl | (simp (disch := first | decide | assumption) only [mpushs_nil, mpushs_cons, mget_hd, mget_tl, mget_appW_o, mget_appW_n, mget_appW_e])) rfl) ?_
      refine imp exA2_b ?_
      iterate 2 refine imp ex_i64_b ?_
      refine iq (AV.agg [(intA x696.1.X), (intA x696.1.Y)]) (ldA_ptr (b := ⟨[(intA x696.1.X), (intA x696.1.Y)], 29⟩) (by first | rfl | (simp (disch := first | decide | assumption) only [mpushs_nil, mpushs_cons, mget_hd, mget_tl, mget_appW_o, mget_appW_n, mget_appW_e])) rfl) ?_
      refine imp exA2_b ?_
      iterate 2 refine imp ex_i64_b ?_
      refine bind_b fun x697 h697 => ?_
      refine imp (callQ_says (sg46 h697)) ?_
      refine imp exA2_b ?_
      iterate 2 refine imp ex_i64_b ?_
      refine bind_b fun x698 h698 => ?_
      refine iq (AV.ptr 90000 (((v14 : Int).toNat) * 6 + 0)) (idx_own (E := TTubeNode.E) rfl h698) ?_
      refine iq (AV.ptr 90000 (((v14 : Int).toNat) * 6 + 0)) rfl ?_
      refine iq (AV.ptr 90000 (((v14 : Int).toNat) * 6 + 1)) rfl ?_
      refine imp (storeW_partO (E := TTubeNode.E) (l := L90000) (i := ((v14 : Int).toNat)) (o := 1) (y := (⟨x698.Node_Time, x697.X, x697.Y, x698.Node_Height, x698.Radius, x698.Band⟩ : TTubeNode)) (ty := 40) (sz := 2) (by kernel_rfl) (by kernel_rfl) rfl rfl (by first | rfl | (simp (disch := first | decide | assumption) only [mpushs_nil, mpushs_cons, mget_hd, mget_tl, mget_appW_o, mget_appW_n, mget_appW_e])) (getI_some h698).2 rfl (Nat.le_of_ble_eq_true rfl) rfl) ?_
      refine bind_b fun x699 h699 => ?_
      refine iq (AV.ptr 90000 (((v14 : Int).toNat) * 6 + 0)) (idx_own (E := TTubeNode.E) (by first | rfl | omega | (simp; done) | (simp; omega)) h699) ?_
      refine iq (AV.ptr 90000 (((v14 : Int).toNat) * 6 + 0)) rfl ?_
      refine iq (AV.ptr 90000 (((v14 : Int).toNat) * 6 + 1)) rfl ?_
      refine iq (AV.agg [(intA x699.Node_At_X), (intA x699.Node_At_Y)]) (ldA_blkP (E := TTubeNode.E) (l := (L90000.set ((v14 : Int).toNat) (⟨x698.Node_Time, x697.X, x697.Y, x698.Node_Height, x698.Radius, x698.Band⟩ : TTubeNode))) (ty := 40) (o := 1) (own_some (ty := 40) (by first | rfl | (simp (disch := first | decide | assumption) only [mpushs_nil, mpushs_cons, mget_hd, mget_tl, mget_appW_o, mget_appW_n, mget_appW_e])) (getI_some h699).2) (getI_some h699).2 rfl (by decide) rfl) ?_
      refine imp exA2_b ?_
      iterate 2 refine imp ex_i64_b ?_
      refine bind_b fun x700 h700 => ?_
      refine imp (callQ_says (sg20 h700)) ?_
      refine imp ex_i64_b ?_
      refine cond_b (fun _ => ?_) (fun _ => ?_)
      · exact fun hg => hR _ (Option.some.inj hg).symm _ _ ⟨_, rfl, made_nils_pf⟩
      · exact fun hg => hN0 _ (Option.some.inj hg).symm _ (weak_mem [(90000, 90000), (0, 0)] rfl rfl rfl (okW_cons (.inl (leV_refl _)) (okW_cons (.inl (leV_refl _)) (okW_cons (.inl (leV_refl _)) (okW_cons (ent_own (E := TTubeNode.E) (id := 90000) (l' := (L90000.set ((v14 : Int).toNat) (⟨x698.Node_Time, x697.X, x697.Y, x698.Node_Height, x698.Radius, x698.Band⟩ : TTubeNode))) (by first | rfl | omega | (simp; done) | (simp; omega)) rfl) (okW_cons (.inl (leV_refl _)) (okW_cons (.inl (leV_refl _)) okW_nil)))))) (okB_cons (okB_own (E := TTubeNode.E) (ty := 40) (l' := (L90000.set ((v14 : Int).toNat) (⟨x698.Node_Time, x697.X, x697.Y, x698.Node_Height, x698.Radius, x698.Band⟩ : TTubeNode))) rfl (show mget _ 90000 = _ from (by first | rfl | (simp (disch := first | decide | assumption) only [mpushs_nil, mpushs_cons, mget_hd, mget_tl, mget_appW_o, mget_appW_n, mget_appW_e])))) (okB_cons (okB_cells (cs := [(strA k0_0), (intA k0_1), (intA k0_2), (strA k0_3), (lstA TTubeNode.E k0_4), (lstA TTubeNode.E k0_5), (intA k0_6), (intA k0_7), (intA k0_8), (intA k0_9), (intA k0_10), (intA k0_11), (strA k0_12), (intA k0_13), (intA k0_14), (intA k0_15), (intA k0_16), (intA k0_17), (intA k0_18), (intA k0_19), (intA k0_20), (lstA TTubeNode.E k0_21)]) (ty := 56) (by simp [clean, cleans, encs_clean]) (show mget _ 0 = _ from (by first | rfl | (simp (disch := first | decide | assumption) only [mpushs_nil, mpushs_cons, mget_hd, mget_tl, mget_appW_o, mget_appW_n, mget_appW_e])))) okB_nil')))
  · exact fun hg => hR _ (Option.some.inj hg).symm _ _ ⟨_, rfl, (made_own_pf (E := TTubeNode.E) (ty := 40) (l := L90000) rfl (by first | rfl | (simp (disch := first | decide | assumption) only [mpushs_nil, mpushs_cons, mget_hd, mget_tl, mget_appW_o, mget_appW_n, mget_appW_e])))⟩
theorem L30_0_okM (n : Nat) (c3 : Int) (c13 : Int) (k0_0 : ByteArray) (k0_1 : Int) (k0_2 : Int) (k0_3 : ByteArray) (k0_4 : List TTubeNode) (k0_5 : List TTubeNode) (k0_6 : Int) (k0_7 : Int) (k0_8 : Int) (k0_9 : Int) (k0_10 : Int) (k0_11 : Int) (k0_12 : ByteArray) (k0_13 : Int) (k0_14 : Int) (k0_15 : Int) (k0_16 : Int) (k0_17 : Int) (k0_18 : Int) (k0_19 : Int) (k0_20 : Int) (k0_21 : List TTubeNode) {t : ρ30} (R : AV → Mem → Prop) (hR : ∀ r : ρ30, t = r → ∀ u m, MadeT TTubeNode.E 40 r.1 [Value.int .i64 r.2] u m → R u m) (k : Nat) (x : Int × List TTubeNode) (hx : iterO (fun y : Int × List TTubeNode => S30_0 n c3 c13 k0_0 k0_1 k0_2 k0_3 k0_4 k0_5 k0_6 k0_7 k0_8 k0_9 k0_10 k0_11 k0_12 k0_13 k0_14 k0_15 k0_16 k0_17 k0_18 k0_19 k0_20 k0_21 y.1 y.2) k x = some t) {s : St} (hw : Weak KK 64 0 s (h30_0 AV.nils c3 (ownV TTubeNode.E 90000 x.2) c13 x.1 [(90000, ownB TTubeNode.E 40 x.2), (0, some ⟨[(strA k0_0), (intA k0_1), (intA k0_2), (strA k0_3), (lstA TTubeNode.E k0_4), (lstA TTubeNode.E k0_5), (intA k0_6), (intA k0_7), (intA k0_8), (intA k0_9), (intA k0_10), (intA k0_11), (strA k0_12), (intA k0_13), (intA k0_14), (intA k0_15), (intA k0_16), (intA k0_17), (intA k0_18), (intA k0_19), (intA k0_20), (lstA TTubeNode.E k0_21)], 56⟩)])) : Tri pg KK 64 0 (.loop c30_0) s (q30_0 R ) :=
  L30_0 R  (σ := Nat × (Int × List TTubeNode)) (fun z => iterO (fun y : Int × List TTubeNode => S30_0 n c3 c13 k0_0 k0_1 k0_2 k0_3 k0_4 k0_5 k0_6 k0_7 k0_8 k0_9 k0_10 k0_11 k0_12 k0_13 k0_14 k0_15 k0_16 k0_17 k0_18 k0_19 k0_20 k0_21 y.1 y.2) z.1 z.2 = some t) (fun z => AV.nils) (fun z => c3) (fun z => (ownV TTubeNode.E 90000 z.2.2)) (fun z => c13) (fun z => z.2.1) (fun z => [(90000, ownB TTubeNode.E 40 z.2.2), (0, some ⟨[(strA k0_0), (intA k0_1), (intA k0_2), (strA k0_3), (lstA TTubeNode.E k0_4), (lstA TTubeNode.E k0_5), (intA k0_6), (intA k0_7), (intA k0_8), (intA k0_9), (intA k0_10), (intA k0_11), (strA k0_12), (intA k0_13), (intA k0_14), (intA k0_15), (intA k0_16), (intA k0_17), (intA k0_18), (intA k0_19), (intA k0_20), (lstA TTubeNode.E k0_21)], 56⟩)]) (fun z => z.1) (by
    rintro ⟨k, y⟩ h
    cases k with
    | zero => exact (iterO_zero h).elim
    | succ k =>
      obtain ⟨u, h1, h2, h3⟩ := iterO_elim h
      exact B30_0_okM n c3 c13 k0_0 k0_1 k0_2 k0_3 k0_4 k0_5 k0_6 k0_7 k0_8 k0_9 k0_10 k0_11 k0_12 k0_13 k0_14 k0_15 k0_16 k0_17 k0_18 k0_19 k0_20 k0_21 y.1 y.2 R  _ (fun r e => hR r (h3 _ e).symm)  (fun y' e s' hw => ⟨(k, y'), h2 _ e, Nat.lt_succ_self k, hw⟩) h1) (k, x) hx hw
theorem g30_okM (n : Nat) (a0 : Ttask) {t : ρ30} (R : AV → Mem → Prop) (hR : ∀ r : ρ30, t = r → ∀ u m, MadeT TTubeNode.E 40 r.1 [Value.int .i64 r.2] u m → R u m) : g30 n a0 = some t → F30 a0.Clearance_Call a0.Clearance_Kind a0.Clearance_Value a0.Clearance_Fix (lstA TTubeNode.E a0.before) (lstA TTubeNode.E a0.later) a0.now_Node_Time a0.now_Node_At_X a0.now_Node_At_Y a0.now_Node_Height a0.now_Radius a0.now_Band a0.kind_Name a0.kind_Wake a0.kind_Ceiling a0.kind_Climb a0.kind_Descent a0.kind_Slow a0.kind_Fast a0.fix_X a0.fix_Y (lstA TTubeNode.E a0.whole) R := by
  unfold g30 F30
  refine imp (chk_of rfl) ?_
  refine imp (chk_of rfl) ?_
  refine imp (chk_of rfl) ?_
  refine bind_b fun x693 h693 => ?_
  refine imp (callW_D (show PureD _ _ _ _ _ _ (ownV TTubeNode.E 5 a0.later) [(5, ownB TTubeNode.E 40 a0.later)] from cloneC22 h693)) ?_
  refine imp (opP_of (show _ = some ((intA (a0.later.length : Int)), []) from len_own)) ?_
  refine imp ex_i64_b ?_
  exact fun hg => L30_0_okM n (0) (a0.later.length : Int) a0.Clearance_Call a0.Clearance_Kind a0.Clearance_Value a0.Clearance_Fix a0.before a0.later a0.now_Node_Time a0.now_Node_At_X a0.now_Node_At_Y a0.now_Node_Height a0.now_Radius a0.now_Band a0.kind_Name a0.kind_Wake a0.kind_Ceiling a0.kind_Climb a0.kind_Descent a0.kind_Slow a0.kind_Fast a0.fix_X a0.fix_Y a0.whole R  hR n _ hg (weak_mem [(90000, 5), (0, 0)] rfl rfl rfl (okW_cons (.inl (leV_refl _)) (okW_cons (.inl (leV_refl _)) (okW_cons (.inl (leV_refl _)) (okW_cons (ent_own (E := TTubeNode.E) (id := 5) (l' := a0.later) rfl rfl) (okW_cons (.inl (leV_refl _)) (okW_cons (.inl (leV_refl _)) okW_nil)))))) (okB_cons (okB_own (E := TTubeNode.E) (ty := 40) (l' := a0.later) rfl (show mget _ 5 = _ from (by first | rfl | (simp (disch := first | decide | assumption) only [mpushs_nil, mpushs_cons, mget_hd, mget_tl, mget_appW_o, mget_appW_n, mget_appW_e])))) (okB_cons (okB_cells (cs := [(strA a0.Clearance_Call), (intA a0.Clearance_Kind), (intA a0.Clearance_Value), (strA a0.Clearance_Fix), (lstA TTubeNode.E a0.before), (lstA TTubeNode.E a0.later), (intA a0.now_Node_Time), (intA a0.now_Node_At_X), (intA a0.now_Node_At_Y), (intA a0.now_Node_Height), (intA a0.now_Radius), (intA a0.now_Band), (strA a0.kind_Name), (intA a0.kind_Wake), (intA a0.kind_Ceiling), (intA a0.kind_Climb), (intA a0.kind_Descent), (intA a0.kind_Slow), (intA a0.kind_Fast), (intA a0.fix_X), (intA a0.fix_Y), (lstA TTubeNode.E a0.whole)]) (ty := 56) (by simp [clean, cleans, encs_clean]) (show mget _ 0 = _ from (by first | rfl | (simp (disch := first | decide | assumption) only [mpushs_nil, mpushs_cons, mget_hd, mget_tl, mget_appW_o, mget_appW_n, mget_appW_e])))) okB_nil')))
theorem mg30C {n k : Nat} {look : Nat → Option ABlk} {a0 : Ttask} {t : ρ30} (h : g30 n a0 = some t) : PureD pg KK.gl look k 30 [(AV.agg [(strA a0.Clearance_Call), (intA a0.Clearance_Kind), (intA a0.Clearance_Value), (strA a0.Clearance_Fix), (lstA TTubeNode.E a0.before), (lstA TTubeNode.E a0.later), (intA a0.now_Node_Time), (intA a0.now_Node_At_X), (intA a0.now_Node_At_Y), (intA a0.now_Node_Height), (intA a0.now_Radius), (intA a0.now_Band), (strA a0.kind_Name), (intA a0.kind_Wake), (intA a0.kind_Ceiling), (intA a0.kind_Climb), (intA a0.kind_Descent), (intA a0.kind_Slow), (intA a0.kind_Fast), (intA a0.fix_X), (intA a0.fix_Y), (lstA TTubeNode.E a0.whole)])] (.tup (ownV TTubeNode.E k t.1 :: ([Value.int .i64 t.2] : List Value).map AV.sc)) [(k, ownB TTubeNode.E 40 t.1)] :=
  made_tupC (by first | rfl | simp [cleans, clean, encs_clean, En.cln]) (F30_own a0.Clearance_Call a0.Clearance_Kind a0.Clearance_Value a0.Clearance_Fix (lstA TTubeNode.E a0.before) (lstA TTubeNode.E a0.later) a0.now_Node_Time a0.now_Node_At_X a0.now_Node_At_Y a0.now_Node_Height a0.now_Radius a0.now_Band a0.kind_Name a0.kind_Wake a0.kind_Ceiling a0.kind_Climb a0.kind_Descent a0.kind_Slow a0.kind_Fast a0.fix_X a0.fix_Y (lstA TTubeNode.E a0.whole) _ (g30_okM n a0 (MadeT TTubeNode.E 40 t.1 [Value.int .i64 t.2]) (fun r e u m h => by rw [e]; exact h) h))
/- (skyway/effect.task).slower -/
/- (skyway/effect.task).slower -/
theorem B31_0_okM (n : Nat) (c3 : Int) (c33 : Int) (k0_0 : ByteArray) (k0_1 : Int) (k0_2 : Int) (k0_3 : ByteArray) (k0_4 : List TTubeNode) (k0_5 : List TTubeNode) (k0_6 : Int) (k0_7 : Int) (k0_8 : Int) (k0_9 : Int) (k0_10 : Int) (k0_11 : Int) (k0_12 : ByteArray) (k0_13 : Int) (k0_14 : Int) (k0_15 : Int) (k0_16 : Int) (k0_17 : Int) (k0_18 : Int) (k0_19 : Int) (k0_20 : Int) (k0_21 : List TTubeNode) (v34 : Int) (L90000 : List TTubeNode) (bv88_0 : Int) (bv88_1 : Int) (bv88_2 : Int) (bv88_3 : Int) (bv88_4 : Int) (bv88_5 : Int) {t : (Int × List TTubeNode × Int × Int × Int × Int × Int × Int) ⊕ ρ31} (R : AV → Mem → Prop) (N0 : St → Prop) (hR : ∀ r : ρ31, t = (.inr r) → ∀ u m, MadeT TTubeNode.E 40 r.1 [Value.int .i64 r.2] u m → R u m) (hN0 : ∀ y : Int × List TTubeNode × Int × Int × Int × Int × Int × Int, t = (.inl y) → ∀ s' : St, Weak KK 82 0 s' (h31_0 AV.nils c3 (ownV TTubeNode.E 90000 y.2.1) c33 y.1 y.2.2.1 y.2.2.2.1 y.2.2.2.2.1 y.2.2.2.2.2.1 y.2.2.2.2.2.2.1 y.2.2.2.2.2.2.2 [(90000, ownB TTubeNode.E 40 y.2.1), (0, some ⟨[(strA k0_0), (intA k0_1), (intA k0_2), (strA k0_3), (lstA TTubeNode.E k0_4), (lstA TTubeNode.E k0_5), (intA k0_6), (intA k0_7), (intA k0_8), (intA k0_9), (intA k0_10), (intA k0_11), (strA k0_12), (intA k0_13), (intA k0_14), (intA k0_15), (intA k0_16), (intA k0_17), (intA k0_18), (intA k0_19), (intA k0_20), (lstA TTubeNode.E k0_21)], 56⟩)]) → N0 s') : S31_0 n c3 c33 k0_0 k0_1 k0_2 k0_3 k0_4 k0_5 k0_6 k0_7 k0_8 k0_9 k0_10 k0_11 k0_12 k0_13 k0_14 k0_15 k0_16 k0_17 k0_18 k0_19 k0_20 k0_21 v34 L90000 bv88_0 bv88_1 bv88_2 bv88_3 bv88_4 bv88_5 = some t → B31_0 AV.nils c3 (ownV TTubeNode.E 90000 L90000) c33 v34 bv88_0 bv88_1 bv88_2 bv88_3 bv88_4 bv88_5 [(90000, ownB TTubeNode.E 40 L90000), (0, some ⟨[(strA k0_0), (intA k0_1), (intA k0_2), (strA k0_3), (lstA TTubeNode.E k0_4), (lstA TTubeNode.E k0_5), (intA k0_6), (intA k0_7), (intA k0_8), (intA k0_9), (intA k0_10), (intA k0_11), (strA k0_12), (intA k0_13), (intA k0_14), (intA k0_15), (intA k0_16), (intA k0_17), (intA k0_18), (intA k0_19), (intA k0_20), (lstA TTubeNode.E k0_21)], 56⟩)] R N0 := by
  unfold S31_0 B31_0
  refine cond_b (fun _ => ?_) (fun _ => ?_)
  · refine bind_b fun x710 h710 => ?_
    refine iq (AV.ptr 90000 (((v34 : Int).toNat) * 6 + 0)) (idx_own (E := TTubeNode.E) rfl h710) ?_
    refine iq (AV.ptr 90000 (((v34 : Int).toNat) * 6 + 0)) rfl ?_
    refine iq (AV.ptr 90000 (((v34 : Int).toNat) * 6 + 1)) rfl ?_
    refine iq (AV.agg [(intA x710.Node_At_X), (intA x710.Node_At_Y)]) (ldA_blkP (E := TTubeNode.E) (l := L90000) (ty := 40) (o := 1) (own_some (ty := 40) (by first | rfl | (simp (disch := first | decide | assumption) only [mpushs_nil, mpushs_cons, mget_hd, mget_tl, mget_appW_o, mget_appW_n, mget_appW_e])) (getI_some h710).2) (getI_some h710).2 rfl (by decide) rfl) ?_
    refine imp exA2_b ?_
    iterate 2 refine imp ex_i64_b ?_
    refine bind_b fun x711 h711 => ?_
    refine imp (callQ_says (sg47 h711)) ?_
    refine imp exT2_b ?_
    iterate 2 refine imp ex_i64_b ?_
    refine iq (intA k0_2) (ldS_ptr (b := ⟨[(strA k0_0), (intA k0_1), (intA k0_2), (strA k0_3), (lstA TTubeNode.E k0_4), (lstA TTubeNode.E k0_5), (intA k0_6), (intA k0_7), (intA k0_8), (intA k0_9), (intA k0_10), (intA k0_11), (strA k0_12), (intA k0_13), (intA k0_14), (intA k0_15), (intA k0_16), (intA k0_17), (intA k0_18), (intA k0_19), (intA k0_20), (lstA TTubeNode.E k0_21)], 56⟩) (by first | rfl | (simp (disch := first | decide | assumption) only [mpushs_nil, mpushs_cons, mget_hd, mget_tl, mget_appW_o, mget_appW_n, mget_appW_e])) rfl) ?_
    refine imp ex_i64_b ?_
    refine bind_b fun x712 h712 => ?_
    refine imp (callQ_says (sg38 h712)) ?_
    refine imp exT2_b ?_
    iterate 2 refine imp ex_i64_b ?_
    refine iq (intA (if x712.1 > (1) then x712.1 else (1))) (by kernel_rfl) ?_
    refine imp ex_i64_b ?_
    refine bind_b fun x713 h713 => ?_
    refine iq (AV.ptr 90000 (((v34 : Int).toNat) * 6 + 0)) (idx_own (E := TTubeNode.E) rfl h713) ?_
    refine iq (AV.ptr 90000 (((v34 : Int).toNat) * 6 + 0)) rfl ?_
    refine iq (AV.ptr 90000 (((v34 : Int).toNat) * 6 + 0)) rfl ?_
    refine imp (storeW_elO (E := TTubeNode.E) (l := L90000) (i := ((v34 : Int).toNat)) (o := 0) (y := (⟨(IntKind.wrap .i64 (bv88_0 + (if x712.1 > (1) then x712.1 else (1)))), x713.Node_At_X, x713.Node_At_Y, x713.Node_Height, x713.Radius, x713.Band⟩ : TTubeNode)) (ty := 40) (by kernel_rfl) (by kernel_rfl) rfl (by first | rfl | (simp (disch := first | decide | assumption) only [mpushs_nil, mpushs_cons, mget_hd, mget_tl, mget_appW_o, mget_appW_n, mget_appW_e])) (getI_some h713).2 rfl (by decide) rfl) ?_
    refine bind_b fun x714 h714 => ?_
    refine iq (AV.ptr 90000 (((v34 : Int).toNat) * 6 + 0)) (idx_own (E := TTubeNode.E) (by first | rfl | omega | (simp; done) | (simp; omega)) h714) ?_
    refine iq (AV.ptr 90000 (((v34 : Int).toNat) * 6 + 0)) rfl ?_
    refine iq (AV.ptr 90000 (((v34 : Int).toNat) * 6 + 0)) rfl ?_
    refine iq (intA x714.Node_Time) (ldS_blk (E := TTubeNode.E) (l := (L90000.set ((v34 : Int).toNat) (⟨(IntKind.wrap .i64 (bv88_0 + (if x712.1 > (1) then x712.1 else (1)))), x713.Node_At_X, x713.Node_At_Y, x713.Node_Height, x713.Radius, x713.Band⟩ : TTubeNode))) (ty := 40) (o := 0) (own_some (ty := 40) (by first | rfl | (simp (disch := first | decide | assumption) only [mpushs_nil, mpushs_cons, mget_hd, mget_tl, mget_appW_o, mget_appW_n, mget_appW_e])) (getI_some h714).2) (getI_some h714).2 rfl (by decide) rfl) ?_
    refine imp ex_i64_b ?_
    refine cond_b (fun _ => ?_) (fun _ => ?_)
    · exact fun hg => hR _ (Option.some.inj hg).symm _ _ ⟨_, rfl, made_nils_pf⟩
    · refine bind_b fun x715 h715 => ?_
      refine iq (AV.ptr 90000 (((v34 : Int).toNat) * 6 + 0)) (idx_own (E := TTubeNode.E) (by first | rfl | omega | (simp; done) | (simp; omega)) h715) ?_
      refine iq (AV.agg [(intA x715.Node_Time), (intA x715.Node_At_X), (intA x715.Node_At_Y), (intA x715.Node_Height), (intA x715.Radius), (intA x715.Band)]) (ldA_blk (E := TTubeNode.E) (l := (L90000.set ((v34 : Int).toNat) (⟨(IntKind.wrap .i64 (bv88_0 + (if x712.1 > (1) then x712.1 else (1)))), x713.Node_At_X, x713.Node_At_Y, x713.Node_Height, x713.Radius, x713.Band⟩ : TTubeNode))) (ty := 40) rfl (own_some (ty := 40) (by first | rfl | (simp (disch := first | decide | assumption) only [mpushs_nil, mpushs_cons, mget_hd, mget_tl, mget_appW_o, mget_appW_n, mget_appW_e])) (getI_some h715).2) (getI_some h715).2 rfl) ?_
      refine imp exA6_b ?_
      iterate 6 refine imp ex_i64_b ?_
      refine imp (storeW_cells (sz := 6) (by kernel_rfl) (by kernel_rfl) rfl rfl (cs := [(intA bv88_0), (intA bv88_1), (intA bv88_2), (intA bv88_3), (intA bv88_4), (intA bv88_5)]) (cs' := [(intA x715.Node_Time), (intA x715.Node_At_X), (intA x715.Node_At_Y), (intA x715.Node_Height), (intA x715.Radius), (intA x715.Band)]) (ty := 40) (by first | rfl | (simp (disch := first | decide | assumption) only [mpushs_nil, mpushs_cons, mget_hd, mget_tl, mget_appW_o, mget_appW_n, mget_appW_e])) rfl rfl) ?_
      exact fun hg => hN0 _ (Option.some.inj hg).symm _ (weak_mem [(90000, 90000), (88, 88), (0, 0)] rfl rfl rfl (okW_cons (.inl (leV_refl _)) (okW_cons (.inl (leV_refl _)) (okW_cons (.inl (leV_refl _)) (okW_cons (ent_own (E := TTubeNode.E) (id := 90000) (l' := (L90000.set ((v34 : Int).toNat) (⟨(IntKind.wrap .i64 (bv88_0 + (if x712.1 > (1) then x712.1 else (1)))), x713.Node_At_X, x713.Node_At_Y, x713.Node_Height, x713.Radius, x713.Band⟩ : TTubeNode))) (by first | rfl | omega | (simp; done) | (simp; omega)) rfl) (okW_cons (.inl (leV_refl _)) (okW_cons (.inl (leV_refl _)) (okW_cons (.inl (leV_refl _)) okW_nil))))))) (okB_cons (okB_cells (cs := [(intA x715.Node_Time), (intA x715.Node_At_X), (intA x715.Node_At_Y), (intA x715.Node_Height), (intA x715.Radius), (intA x715.Band)]) (ty := 40) rfl (show mget _ 88 = _ from (by first | rfl | (simp (disch := first | decide | assumption) only [mpushs_nil, mpushs_cons, mget_hd, mget_tl, mget_appW_o, mget_appW_n, mget_appW_e])))) (okB_cons (okB_own (E := TTubeNode.E) (ty := 40) (l' := (L90000.set ((v34 : Int).toNat) (⟨(IntKind.wrap .i64 (bv88_0 + (if x712.1 > (1) then x712.1 else (1)))), x713.Node_At_X, x713.Node_At_Y, x713.Node_Height, x713.Radius, x713.Band⟩ : TTubeNode))) rfl (show mget _ 90000 = _ from (by first | rfl | (simp (disch := first | decide | assumption) only [mpushs_nil, mpushs_cons, mget_hd, mget_tl, mget_appW_o, mget_appW_n, mget_appW_e])))) (okB_cons (okB_cells (cs := [(strA k0_0), (intA k0_1), (intA k0_2), (strA k0_3), (lstA TTubeNode.E k0_4), (lstA TTubeNode.E k0_5), (intA k0_6), (intA k0_7), (intA k0_8), (intA k0_9), (intA k0_10), (intA k0_11), (strA k0_12), (intA k0_13), (intA k0_14), (intA k0_15), (intA k0_16), (intA k0_17), (intA k0_18), (intA k0_19), (intA k0_20), (lstA TTubeNode.E k0_21)]) (ty := 56) (by simp [clean, cleans, encs_clean]) (show mget _ 0 = _ from (by first | rfl | (simp (disch := first | decide | assumption) only [mpushs_nil, mpushs_cons, mget_hd, mget_tl, mget_appW_o, mget_appW_n, mget_appW_e])))) okB_nil'))))
  · exact fun hg => hR _ (Option.some.inj hg).symm _ _ ⟨_, rfl, (made_own_pf (E := TTubeNode.E) (ty := 40) (l := L90000) rfl (by first | rfl | (simp (disch := first | decide | assumption) only [mpushs_nil, mpushs_cons, mget_hd, mget_tl, mget_appW_o, mget_appW_n, mget_appW_e])))⟩
theorem L31_0_okM (n : Nat) (c3 : Int) (c33 : Int) (k0_0 : ByteArray) (k0_1 : Int) (k0_2 : Int) (k0_3 : ByteArray) (k0_4 : List TTubeNode) (k0_5 : List TTubeNode) (k0_6 : Int) (k0_7 : Int) (k0_8 : Int) (k0_9 : Int) (k0_10 : Int) (k0_11 : Int) (k0_12 : ByteArray) (k0_13 : Int) (k0_14 : Int) (k0_15 : Int) (k0_16 : Int) (k0_17 : Int) (k0_18 : Int) (k0_19 : Int) (k0_20 : Int) (k0_21 : List TTubeNode) {t : ρ31} (R : AV → Mem → Prop) (hR : ∀ r : ρ31, t = r → ∀ u m, MadeT TTubeNode.E 40 r.1 [Value.int .i64 r.2] u m → R u m) (k : Nat) (x : Int × List TTubeNode × Int × Int × Int × Int × Int × Int) (hx : iterO (fun y : Int × List TTubeNode × Int × Int × Int × Int × Int × Int => S31_0 n c3 c33 k0_0 k0_1 k0_2 k0_3 k0_4 k0_5 k0_6 k0_7 k0_8 k0_9 k0_10 k0_11 k0_12 k0_13 k0_14 k0_15 k0_16 k0_17 k0_18 k0_19 k0_20 k0_21 y.1 y.2.1 y.2.2.1 y.2.2.2.1 y.2.2.2.2.1 y.2.2.2.2.2.1 y.2.2.2.2.2.2.1 y.2.2.2.2.2.2.2) k x = some t) {s : St} (hw : Weak KK 82 0 s (h31_0 AV.nils c3 (ownV TTubeNode.E 90000 x.2.1) c33 x.1 x.2.2.1 x.2.2.2.1 x.2.2.2.2.1 x.2.2.2.2.2.1 x.2.2.2.2.2.2.1 x.2.2.2.2.2.2.2 [(90000, ownB TTubeNode.E 40 x.2.1), (0, some ⟨[(strA k0_0), (intA k0_1), (intA k0_2), (strA k0_3), (lstA TTubeNode.E k0_4), (lstA TTubeNode.E k0_5), (intA k0_6), (intA k0_7), (intA k0_8), (intA k0_9), (intA k0_10), (intA k0_11), (strA k0_12), (intA k0_13), (intA k0_14), (intA k0_15), (intA k0_16), (intA k0_17), (intA k0_18), (intA k0_19), (intA k0_20), (lstA TTubeNode.E k0_21)], 56⟩)])) : Tri pg KK 82 0 (.loop c31_0) s (q31_0 R ) :=
  L31_0 R  (σ := Nat × (Int × List TTubeNode × Int × Int × Int × Int × Int × Int)) (fun z => iterO (fun y : Int × List TTubeNode × Int × Int × Int × Int × Int × Int => S31_0 n c3 c33 k0_0 k0_1 k0_2 k0_3 k0_4 k0_5 k0_6 k0_7 k0_8 k0_9 k0_10 k0_11 k0_12 k0_13 k0_14 k0_15 k0_16 k0_17 k0_18 k0_19 k0_20 k0_21 y.1 y.2.1 y.2.2.1 y.2.2.2.1 y.2.2.2.2.1 y.2.2.2.2.2.1 y.2.2.2.2.2.2.1 y.2.2.2.2.2.2.2) z.1 z.2 = some t) (fun z => AV.nils) (fun z => c3) (fun z => (ownV TTubeNode.E 90000 z.2.2.1)) (fun z => c33) (fun z => z.2.1) (fun z => z.2.2.2.1) (fun z => z.2.2.2.2.1) (fun z => z.2.2.2.2.2.1) (fun z => z.2.2.2.2.2.2.1) (fun z => z.2.2.2.2.2.2.2.1) (fun z => z.2.2.2.2.2.2.2.2) (fun z => [(90000, ownB TTubeNode.E 40 z.2.2.1), (0, some ⟨[(strA k0_0), (intA k0_1), (intA k0_2), (strA k0_3), (lstA TTubeNode.E k0_4), (lstA TTubeNode.E k0_5), (intA k0_6), (intA k0_7), (intA k0_8), (intA k0_9), (intA k0_10), (intA k0_11), (strA k0_12), (intA k0_13), (intA k0_14), (intA k0_15), (intA k0_16), (intA k0_17), (intA k0_18), (intA k0_19), (intA k0_20), (lstA TTubeNode.E k0_21)], 56⟩)]) (fun z => z.1) (by
    rintro ⟨k, y⟩ h
    cases k with
    | zero => exact (iterO_zero h).elim
    | succ k =>
      obtain ⟨u, h1, h2, h3⟩ := iterO_elim h
      exact B31_0_okM n c3 c33 k0_0 k0_1 k0_2 k0_3 k0_4 k0_5 k0_6 k0_7 k0_8 k0_9 k0_10 k0_11 k0_12 k0_13 k0_14 k0_15 k0_16 k0_17 k0_18 k0_19 k0_20 k0_21 y.1 y.2.1 y.2.2.1 y.2.2.2.1 y.2.2.2.2.1 y.2.2.2.2.2.1 y.2.2.2.2.2.2.1 y.2.2.2.2.2.2.2 R  _ (fun r e => hR r (h3 _ e).symm)  (fun y' e s' hw => ⟨(k, y'), h2 _ e, Nat.lt_succ_self k, hw⟩) h1) (k, x) hx hw
theorem g31_okM (n : Nat) (a0 : Ttask) {t : ρ31} (R : AV → Mem → Prop) (hR : ∀ r : ρ31, t = r → ∀ u m, MadeT TTubeNode.E 40 r.1 [Value.int .i64 r.2] u m → R u m) : g31 n a0 = some t → F31 a0.Clearance_Call a0.Clearance_Kind a0.Clearance_Value a0.Clearance_Fix (lstA TTubeNode.E a0.before) (lstA TTubeNode.E a0.later) a0.now_Node_Time a0.now_Node_At_X a0.now_Node_At_Y a0.now_Node_Height a0.now_Radius a0.now_Band a0.kind_Name a0.kind_Wake a0.kind_Ceiling a0.kind_Climb a0.kind_Descent a0.kind_Slow a0.kind_Fast a0.fix_X a0.fix_Y (lstA TTubeNode.E a0.whole) R := by
  unfold g31 F31
  refine imp (chk_of rfl) ?_
  refine imp (chk_of rfl) ?_
  refine imp (chk_of rfl) ?_
  refine cond_b (fun _ => ?_) (fun _ => ?_)
  · exact fun hg => hR _ (Option.some.inj hg).symm _ _ ⟨_, rfl, made_nils_pf⟩
  · refine cond_b (fun _ => ?_) (fun _ => ?_)
    · exact fun hg => hR _ (Option.some.inj hg).symm _ _ ⟨_, rfl, made_nils_pf⟩
    · refine bind_b fun x709 h709 => ?_
      refine imp (callW_D (show PureD _ _ _ _ _ _ (ownV TTubeNode.E 21 a0.later) [(21, ownB TTubeNode.E 40 a0.later)] from cloneC22 h709)) ?_
      refine iq (AV.agg [(intA a0.now_Node_Time), (intA a0.now_Node_At_X), (intA a0.now_Node_At_Y), (intA a0.now_Node_Height), (intA a0.now_Radius), (intA a0.now_Band)]) (ldA_ptr (b := ⟨[(strA a0.Clearance_Call), (intA a0.Clearance_Kind), (intA a0.Clearance_Value), (strA a0.Clearance_Fix), (lstA TTubeNode.E a0.before), (lstA TTubeNode.E a0.later), (intA a0.now_Node_Time), (intA a0.now_Node_At_X), (intA a0.now_Node_At_Y), (intA a0.now_Node_Height), (intA a0.now_Radius), (intA a0.now_Band), (strA a0.kind_Name), (intA a0.kind_Wake), (intA a0.kind_Ceiling), (intA a0.kind_Climb), (intA a0.kind_Descent), (intA a0.kind_Slow), (intA a0.kind_Fast), (intA a0.fix_X), (intA a0.fix_Y), (lstA TTubeNode.E a0.whole)], 56⟩) (by first | rfl | (simp (disch := first | decide | assumption) only [mpushs_nil, mpushs_cons, mget_hd, mget_tl, mget_appW_o, mget_appW_n, mget_appW_e])) rfl) ?_
      refine imp exA6_b ?_
      iterate 6 refine imp ex_i64_b ?_
      refine imp (opP_of (show _ = some ((intA (a0.later.length : Int)), []) from len_own)) ?_
      refine imp ex_i64_b ?_
      exact fun hg => L31_0_okM n (0) (a0.later.length : Int) a0.Clearance_Call a0.Clearance_Kind a0.Clearance_Value a0.Clearance_Fix a0.before a0.later a0.now_Node_Time a0.now_Node_At_X a0.now_Node_At_Y a0.now_Node_Height a0.now_Radius a0.now_Band a0.kind_Name a0.kind_Wake a0.kind_Ceiling a0.kind_Climb a0.kind_Descent a0.kind_Slow a0.kind_Fast a0.fix_X a0.fix_Y a0.whole R  hR n _ hg (weak_mem [(90000, 21), (88, 88), (0, 0)] rfl rfl rfl (okW_cons (.inl (leV_refl _)) (okW_cons (.inl (leV_refl _)) (okW_cons (.inl (leV_refl _)) (okW_cons (ent_own (E := TTubeNode.E) (id := 21) (l' := a0.later) rfl rfl) (okW_cons (.inl (leV_refl _)) (okW_cons (.inl (leV_refl _)) (okW_cons (.inl (leV_refl _)) okW_nil))))))) (okB_cons (okB_cells (cs := [(intA a0.now_Node_Time), (intA a0.now_Node_At_X), (intA a0.now_Node_At_Y), (intA a0.now_Node_Height), (intA a0.now_Radius), (intA a0.now_Band)]) (ty := 40) rfl (show mget _ 88 = _ from (by first | rfl | (simp (disch := first | decide | assumption) only [mpushs_nil, mpushs_cons, mget_hd, mget_tl, mget_appW_o, mget_appW_n, mget_appW_e])))) (okB_cons (okB_own (E := TTubeNode.E) (ty := 40) (l' := a0.later) rfl (show mget _ 21 = _ from (by first | rfl | (simp (disch := first | decide | assumption) only [mpushs_nil, mpushs_cons, mget_hd, mget_tl, mget_appW_o, mget_appW_n, mget_appW_e])))) (okB_cons (okB_cells (cs := [(strA a0.Clearance_Call), (intA a0.Clearance_Kind), (intA a0.Clearance_Value), (strA a0.Clearance_Fix), (lstA TTubeNode.E a0.before), (lstA TTubeNode.E a0.later), (intA a0.now_Node_Time), (intA a0.now_Node_At_X), (intA a0.now_Node_At_Y), (intA a0.now_Node_Height), (intA a0.now_Radius), (intA a0.now_Band), (strA a0.kind_Name), (intA a0.kind_Wake), (intA a0.kind_Ceiling), (intA a0.kind_Climb), (intA a0.kind_Descent), (intA a0.kind_Slow), (intA a0.kind_Fast), (intA a0.fix_X), (intA a0.fix_Y), (lstA TTubeNode.E a0.whole)]) (ty := 56) (by simp [clean, cleans, encs_clean]) (show mget _ 0 = _ from (by first | rfl | (simp (disch := first | decide | assumption) only [mpushs_nil, mpushs_cons, mget_hd, mget_tl, mget_appW_o, mget_appW_n, mget_appW_e])))) okB_nil'))))
theorem mg31C {n k : Nat} {look : Nat → Option ABlk} {a0 : Ttask} {t : ρ31} (h : g31 n a0 = some t) : PureD pg KK.gl look k 31 [(AV.agg [(strA a0.Clearance_Call), (intA a0.Clearance_Kind), (intA a0.Clearance_Value), (strA a0.Clearance_Fix), (lstA TTubeNode.E a0.before), (lstA TTubeNode.E a0.later), (intA a0.now_Node_Time), (intA a0.now_Node_At_X), (intA a0.now_Node_At_Y), (intA a0.now_Node_Height), (intA a0.now_Radius), (intA a0.now_Band), (strA a0.kind_Name), (intA a0.kind_Wake), (intA a0.kind_Ceiling), (intA a0.kind_Climb), (intA a0.kind_Descent), (intA a0.kind_Slow), (intA a0.kind_Fast), (intA a0.fix_X), (intA a0.fix_Y), (lstA TTubeNode.E a0.whole)])] (.tup (ownV TTubeNode.E k t.1 :: ([Value.int .i64 t.2] : List Value).map AV.sc)) [(k, ownB TTubeNode.E 40 t.1)] :=
  made_tupC (by first | rfl | simp [cleans, clean, encs_clean, En.cln]) (F31_own a0.Clearance_Call a0.Clearance_Kind a0.Clearance_Value a0.Clearance_Fix (lstA TTubeNode.E a0.before) (lstA TTubeNode.E a0.later) a0.now_Node_Time a0.now_Node_At_X a0.now_Node_At_Y a0.now_Node_Height a0.now_Radius a0.now_Band a0.kind_Name a0.kind_Wake a0.kind_Ceiling a0.kind_Climb a0.kind_Descent a0.kind_Slow a0.kind_Fast a0.fix_X a0.fix_Y (lstA TTubeNode.E a0.whole) _ (g31_okM n a0 (MadeT TTubeNode.E 40 t.1 [Value.int .i64 t.2]) (fun r e u m h => by rw [e]; exact h) h))
/- (skyway/effect.task).direct -/
/- (skyway/effect.task).direct -/
theorem g32_okM (n : Nat) (a0 : Ttask) {t : ρ32} (R : AV → Mem → Prop) (hR : ∀ r : ρ32, t = r → ∀ u m, MadeT TTubeNode.E 40 r.1 [Value.int .i64 r.2] u m → R u m) : g32 n a0 = some t → F32 a0.Clearance_Call a0.Clearance_Kind a0.Clearance_Value a0.Clearance_Fix (lstA TTubeNode.E a0.before) (lstA TTubeNode.E a0.later) a0.now_Node_Time a0.now_Node_At_X a0.now_Node_At_Y a0.now_Node_Height a0.now_Radius a0.now_Band a0.kind_Name a0.kind_Wake a0.kind_Ceiling a0.kind_Climb a0.kind_Descent a0.kind_Slow a0.kind_Fast a0.fix_X a0.fix_Y (lstA TTubeNode.E a0.whole) R := by
  unfold g32 F32
  refine imp (chk_of rfl) ?_
  refine imp (chk_of rfl) ?_
  refine imp (chk_of rfl) ?_
  refine bind_b fun x720 h720 => ?_
  refine imp (callQ_says (sg45 h720)) ?_
  refine imp ex_i64_b ?_
  refine cond_b (fun _ => ?_) (fun _ => ?_)
  · exact fun hg => hR _ (Option.some.inj hg).symm _ _ ⟨_, rfl, made_nils_pf⟩
  · refine bind_b fun x721 h721 => ?_
    refine imp (callQ_says (sg47 h721)) ?_
    refine imp exT2_b ?_
    iterate 2 refine imp ex_i64_b ?_
    refine cond_b (fun _ => ?_) (fun _ => ?_)
    · exact fun hg => hR _ (Option.some.inj hg).symm _ _ ⟨_, rfl, made_nils_pf⟩
    · refine bind_b fun x722 h722 => ?_
      refine imp (callQ_says (sg38 h722)) ?_
      refine imp exT2_b ?_
      iterate 2 refine imp ex_i64_b ?_
      refine cond_b (fun _ => ?_) (fun _ => ?_)
      · exact fun hg => hR _ (Option.some.inj hg).symm _ _ ⟨_, rfl, made_nils_pf⟩
      · refine imp (opN_of (show _ = some ((blkV TTubeNode.E 241 ([(⟨(IntKind.wrap .i64 (a0.now_Node_Time + x722.1)), a0.fix_X, a0.fix_Y, a0.now_Node_Height, a0.now_Radius, a0.now_Band⟩ : TTubeNode)] : List TTubeNode)), [(241, some ⟨encs TTubeNode.E ([(⟨(IntKind.wrap .i64 (a0.now_Node_Time + x722.1)), a0.fix_X, a0.fix_Y, a0.now_Node_Height, a0.now_Radius, a0.now_Band⟩ : TTubeNode)] : List TTubeNode), 40⟩)]) from rfl)) ?_
        exact fun hg => hR _ (Option.some.inj hg).symm _ _ ⟨_, rfl, (made_blk_pf (E := TTubeNode.E) (ty := 40) (l := ([(⟨(IntKind.wrap .i64 (a0.now_Node_Time + x722.1)), a0.fix_X, a0.fix_Y, a0.now_Node_Height, a0.now_Radius, a0.now_Band⟩ : TTubeNode)] : List TTubeNode)) rfl (by first | rfl | (simp (disch := first | decide | assumption) only [mpushs_nil, mpushs_cons, mget_hd, mget_tl, mget_appW_o, mget_appW_n, mget_appW_e])))⟩
theorem mg32C {n k : Nat} {look : Nat → Option ABlk} {a0 : Ttask} {t : ρ32} (h : g32 n a0 = some t) : PureD pg KK.gl look k 32 [(AV.agg [(strA a0.Clearance_Call), (intA a0.Clearance_Kind), (intA a0.Clearance_Value), (strA a0.Clearance_Fix), (lstA TTubeNode.E a0.before), (lstA TTubeNode.E a0.later), (intA a0.now_Node_Time), (intA a0.now_Node_At_X), (intA a0.now_Node_At_Y), (intA a0.now_Node_Height), (intA a0.now_Radius), (intA a0.now_Band), (strA a0.kind_Name), (intA a0.kind_Wake), (intA a0.kind_Ceiling), (intA a0.kind_Climb), (intA a0.kind_Descent), (intA a0.kind_Slow), (intA a0.kind_Fast), (intA a0.fix_X), (intA a0.fix_Y), (lstA TTubeNode.E a0.whole)])] (.tup (ownV TTubeNode.E k t.1 :: ([Value.int .i64 t.2] : List Value).map AV.sc)) [(k, ownB TTubeNode.E 40 t.1)] :=
  made_tupC (by first | rfl | simp [cleans, clean, encs_clean, En.cln]) (F32_own a0.Clearance_Call a0.Clearance_Kind a0.Clearance_Value a0.Clearance_Fix (lstA TTubeNode.E a0.before) (lstA TTubeNode.E a0.later) a0.now_Node_Time a0.now_Node_At_X a0.now_Node_At_Y a0.now_Node_Height a0.now_Radius a0.now_Band a0.kind_Name a0.kind_Wake a0.kind_Ceiling a0.kind_Climb a0.kind_Descent a0.kind_Slow a0.kind_Fast a0.fix_X a0.fix_Y (lstA TTubeNode.E a0.whole) _ (g32_okM n a0 (MadeT TTubeNode.E 40 t.1 [Value.int .i64 t.2]) (fun r e u m h => by rw [e]; exact h) h))
/- (skyway/effect.task).carried -/
/- (skyway/effect.task).carried -/
theorem g21_okM (n : Nat) (a0 : Ttask) {t : ρ21} (R : AV → Mem → Prop) (hR : ∀ r : ρ21, t = r → ∀ u m, MadeT TTubeNode.E 40 r.1 [Value.bool r.2.1, Value.int .i64 r.2.2] u m → R u m) : g21 n a0 = some t → F21 a0.Clearance_Call a0.Clearance_Kind a0.Clearance_Value a0.Clearance_Fix (lstA TTubeNode.E a0.before) (lstA TTubeNode.E a0.later) a0.now_Node_Time a0.now_Node_At_X a0.now_Node_At_Y a0.now_Node_Height a0.now_Radius a0.now_Band a0.kind_Name a0.kind_Wake a0.kind_Ceiling a0.kind_Climb a0.kind_Descent a0.kind_Slow a0.kind_Fast a0.fix_X a0.fix_Y (lstA TTubeNode.E a0.whole) R := by
  unfold g21 F21
  refine imp (chk_of rfl) ?_
  refine imp (chk_of rfl) ?_
  refine imp (chk_of rfl) ?_
  refine cond_b (fun _ => ?_) (fun _ => ?_)
  · refine bind_b fun x724 h724 => ?_
    refine imp (callW_D (show PureD _ _ _ _ _ _ (AV.tup [(ownV TTubeNode.E 10 x724.1), (intA x724.2)]) [(10, ownB TTubeNode.E 40 x724.1)] from mg29C h724)) ?_
    refine imp exT2_b ?_
    refine imp ex_i64_b ?_
    exact fun hg => hR _ (Option.some.inj hg).symm _ _ ⟨_, rfl, (made_own_pf (E := TTubeNode.E) (ty := 40) (l := x724.1) rfl (by first | rfl | (simp (disch := first | decide | assumption) only [mpushs_nil, mpushs_cons, mget_hd, mget_tl, mget_appW_o, mget_appW_n, mget_appW_e])))⟩
  · refine iq (intA (a0.later.length : Int)) rfl ?_
    refine imp ex_i64_b ?_
    refine cond_b (fun _ => ?_) (fun _ => ?_)
    · exact fun hg => hR _ (Option.some.inj hg).symm _ _ ⟨_, rfl, made_nils_pf⟩
    · refine cond_b (fun _ => ?_) (fun _ => ?_)
      · refine bind_b fun x725 h725 => ?_
        refine imp (callW_D (show PureD _ _ _ _ _ _ (AV.tup [(ownV TTubeNode.E 20 x725.1), (intA x725.2)]) [(20, ownB TTubeNode.E 40 x725.1)] from mg30C h725)) ?_
        refine imp exT2_b ?_
        refine imp ex_i64_b ?_
        exact fun hg => hR _ (Option.some.inj hg).symm _ _ ⟨_, rfl, (made_own_pf (E := TTubeNode.E) (ty := 40) (l := x725.1) rfl (by first | rfl | (simp (disch := first | decide | assumption) only [mpushs_nil, mpushs_cons, mget_hd, mget_tl, mget_appW_o, mget_appW_n, mget_appW_e])))⟩
      · refine cond_b (fun _ => ?_) (fun _ => ?_)
        · refine bind_b fun x726 h726 => ?_
          refine imp (callW_D (show PureD _ _ _ _ _ _ (AV.tup [(ownV TTubeNode.E 25 x726.1), (intA x726.2)]) [(25, ownB TTubeNode.E 40 x726.1)] from mg31C h726)) ?_
          refine imp exT2_b ?_
          refine imp ex_i64_b ?_
          exact fun hg => hR _ (Option.some.inj hg).symm _ _ ⟨_, rfl, (made_own_pf (E := TTubeNode.E) (ty := 40) (l := x726.1) rfl (by first | rfl | (simp (disch := first | decide | assumption) only [mpushs_nil, mpushs_cons, mget_hd, mget_tl, mget_appW_o, mget_appW_n, mget_appW_e])))⟩
        · refine cond_b (fun _ => ?_) (fun _ => ?_)
          · refine bind_b fun x727 h727 => ?_
            refine imp (callW_D (show PureD _ _ _ _ _ _ (AV.tup [(ownV TTubeNode.E 30 x727.1), (intA x727.2)]) [(30, ownB TTubeNode.E 40 x727.1)] from mg32C h727)) ?_
            refine imp exT2_b ?_
            refine imp ex_i64_b ?_
            exact fun hg => hR _ (Option.some.inj hg).symm _ _ ⟨_, rfl, (made_own_pf (E := TTubeNode.E) (ty := 40) (l := x727.1) rfl (by first | rfl | (simp (disch := first | decide | assumption) only [mpushs_nil, mpushs_cons, mget_hd, mget_tl, mget_appW_o, mget_appW_n, mget_appW_e])))⟩
          · exact fun hg => hR _ (Option.some.inj hg).symm _ _ ⟨_, rfl, made_nils_pf⟩
theorem mg21S {n k : Nat} {look : Nat → Option ABlk} {args : List AV} {a0 : Ttask} {t : ρ21} (h : g21 n a0 = some t) (hs : SnL look 6 args [(AV.agg [(strA a0.Clearance_Call), (intA a0.Clearance_Kind), (intA a0.Clearance_Value), (strA a0.Clearance_Fix), (lstA TTubeNode.E a0.before), (lstA TTubeNode.E a0.later), (intA a0.now_Node_Time), (intA a0.now_Node_At_X), (intA a0.now_Node_At_Y), (intA a0.now_Node_Height), (intA a0.now_Radius), (intA a0.now_Band), (strA a0.kind_Name), (intA a0.kind_Wake), (intA a0.kind_Ceiling), (intA a0.kind_Climb), (intA a0.kind_Descent), (intA a0.kind_Slow), (intA a0.kind_Fast), (intA a0.fix_X), (intA a0.fix_Y), (lstA TTubeNode.E a0.whole)])]) : PureD pg KK.gl look k 21 args (.tup (ownV TTubeNode.E k t.1 :: ([Value.bool t.2.1, Value.int .i64 t.2.2] : List Value).map AV.sc)) [(k, ownB TTubeNode.E 40 t.1)] :=
  made_tupS (fun _ => rfl) hs (F21_own a0.Clearance_Call a0.Clearance_Kind a0.Clearance_Value a0.Clearance_Fix (lstA TTubeNode.E a0.before) (lstA TTubeNode.E a0.later) a0.now_Node_Time a0.now_Node_At_X a0.now_Node_At_Y a0.now_Node_Height a0.now_Radius a0.now_Band a0.kind_Name a0.kind_Wake a0.kind_Ceiling a0.kind_Climb a0.kind_Descent a0.kind_Slow a0.kind_Fast a0.fix_X a0.fix_Y (lstA TTubeNode.E a0.whole) _ (g21_okM n a0 (MadeT TTubeNode.E 40 t.1 [Value.bool t.2.1, Value.int .i64 t.2.2]) (fun r e u m h => by rw [e]; exact h) h))
end Go.Proofs.YtbbfpbngnkjkdaaDoor
