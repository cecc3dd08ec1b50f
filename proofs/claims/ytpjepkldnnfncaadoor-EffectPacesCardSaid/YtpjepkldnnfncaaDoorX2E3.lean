/- Plain functional programs out of the program's functions, with proofs that the functions compute them; printed by wip/Ext.lean.txt. -/
import Derived.Test.YtpjepkldnnfncaaDoorX2E2
set_option linter.unusedVariables false
set_option linter.unusedSimpArgs false
set_option maxRecDepth 100000
set_option maxHeartbeats 4000000
namespace Go.Proofs.YtpjepkldnnfncaaDoor
/- (skyway/effect.task).slower -/
theorem B44_0_ok (n : Nat) (c3 : Int) (c33 : Int) (k0_0 : ByteArray) (k0_1 : Int) (k0_2 : Int) (k0_3 : ByteArray) (k0_4 : List TTubeNode) (k0_5 : List TTubeNode) (k0_6 : Int) (k0_7 : Int) (k0_8 : Int) (k0_9 : Int) (k0_10 : Int) (k0_11 : Int) (k0_12 : ByteArray) (k0_13 : Int) (k0_14 : Int) (k0_15 : Int) (k0_16 : Int) (k0_17 : Int) (k0_18 : Int) (k0_19 : Int) (k0_20 : Int) (k0_21 : List TTubeNode) (v34 : Int) (L90000 : List TTubeNode) (bv88_0 : Int) (bv88_1 : Int) (bv88_2 : Int) (bv88_3 : Int) (bv88_4 : Int) (bv88_5 : Int) {t : (Int × List TTubeNode × Int × Int × Int × Int × Int × Int) ⊕ ρ44} (R : AV → Mem → Prop) (N0 : St → Prop) (hR : ∀ r : ρ44, t = (.inr r) → ∀ u m, Ans ((AV.tup [(lstA TTubeNode.E r.1), (intA r.2)])) u m → R u m) (hN0 : ∀ y : Int × List TTubeNode × Int × Int × Int × Int × Int × Int, t = (.inl y) → ∀ s' : St, Weak KK 82 0 s' (h44_0 AV.nils c3 (ownV TTubeNode.E 90000 y.2.1) c33 y.1 y.2.2.1 y.2.2.2.1 y.2.2.2.2.1 y.2.2.2.2.2.1 y.2.2.2.2.2.2.1 y.2.2.2.2.2.2.2 [(90000, ownB TTubeNode.E 40 y.2.1), (0, some ⟨[(strA k0_0), (intA k0_1), (intA k0_2), (strA k0_3), (lstA TTubeNode.E k0_4), (lstA TTubeNode.E k0_5), (intA k0_6), (intA k0_7), (intA k0_8), (intA k0_9), (intA k0_10), (intA k0_11), (strA k0_12), (intA k0_13), (intA k0_14), (intA k0_15), (intA k0_16), (intA k0_17), (intA k0_18), (intA k0_19), (intA k0_20), (lstA TTubeNode.E k0_21)], 65⟩)]) → N0 s') : S44_0 n c3 c33 k0_0 k0_1 k0_2 k0_3 k0_4 k0_5 k0_6 k0_7 k0_8 k0_9 k0_10 k0_11 k0_12 k0_13 k0_14 k0_15 k0_16 k0_17 k0_18 k0_19 k0_20 k0_21 v34 L90000 bv88_0 bv88_1 bv88_2 bv88_3 bv88_4 bv88_5 = some t → B44_0 AV.nils c3 (ownV TTubeNode.E 90000 L90000) c33 v34 bv88_0 bv88_1 bv88_2 bv88_3 bv88_4 bv88_5 [(90000, ownB TTubeNode.E 40 L90000), (0, some ⟨[(strA k0_0), (intA k0_1), (intA k0_2), (strA k0_3), (lstA TTubeNode.E k0_4), (lstA TTubeNode.E k0_5), (intA k0_6), (intA k0_7), (intA k0_8), (intA k0_9), (intA k0_10), (intA k0_11), (strA k0_12), (intA k0_13), (intA k0_14), (intA k0_15), (intA k0_16), (intA k0_17), (intA k0_18), (intA k0_19), (intA k0_20), (lstA TTubeNode.E k0_21)], 65⟩)] R N0 := by
  unfold S44_0 B44_0
  refine cond_b (fun _ => ?_) (fun _ => ?_)
  · refine bind_b fun x97 h97 => ?_
    refine imp (opP_of (show _ = some ((AV.ptr 90000 (((v34 : Int).toNat) * 6 + 0)), []) from (idx_own (E := TTubeNode.E) rfl h97))) ?_
    refine imp (opP_of (show _ = some ((AV.ptr 90000 (((v34 : Int).toNat) * 6 + 0)), []) from rfl)) ?_
    refine imp (opP_of (show _ = some ((AV.ptr 90000 (((v34 : Int).toNat) * 6 + 1)), []) from rfl)) ?_
    refine imp (opP_of (show _ = some ((AV.agg [(intA x97.Node_At_X), (intA x97.Node_At_Y)]), []) from (ldA_blkP (E := TTubeNode.E) (l := L90000) (ty := 40) (o := 1) (own_some (ty := 40) (by first | rfl | (simp (disch := first | decide | assumption) only [mpushs_nil, mpushs_cons, mget_hd, mget_tl, mget_appW_o, mget_appW_n, mget_appW_e])) (getI_some h97).2) (getI_some h97).2 rfl (by decide) rfl))) ?_
    refine imp exA2_b ?_
    refine imp ex_i64_b ?_
    refine imp ex_i64_b ?_
    refine bind_b fun x102 h102 => ?_
    refine imp (callQ_says (sg17 h102)) ?_
    refine imp exT2_b ?_
    refine imp ex_i64_b ?_
    refine imp ex_i64_b ?_
    refine imp (opP_of (show _ = some ((intA k0_2), []) from (ldS_ptr (b := ⟨[(strA k0_0), (intA k0_1), (intA k0_2), (strA k0_3), (lstA TTubeNode.E k0_4), (lstA TTubeNode.E k0_5), (intA k0_6), (intA k0_7), (intA k0_8), (intA k0_9), (intA k0_10), (intA k0_11), (strA k0_12), (intA k0_13), (intA k0_14), (intA k0_15), (intA k0_16), (intA k0_17), (intA k0_18), (intA k0_19), (intA k0_20), (lstA TTubeNode.E k0_21)], 65⟩) (by first | rfl | (simp (disch := first | decide | assumption) only [mpushs_nil, mpushs_cons, mget_hd, mget_tl, mget_appW_o, mget_appW_n, mget_appW_e])) rfl))) ?_
    refine imp ex_i64_b ?_
    refine bind_b fun x103 h103 => ?_
    refine imp (callQ_says (sg36 h103)) ?_
    refine imp exT2_b ?_
    refine imp ex_i64_b ?_
    refine imp ex_i64_b ?_
    refine imp (opP_of (show _ = some ((intA (if x103.1 > (1) then x103.1 else (1))), []) from (by kernel_rfl))) ?_
    refine imp ex_i64_b ?_
    refine bind_b fun x104 h104 => ?_
    refine imp (opP_of (show _ = some ((AV.ptr 90000 (((v34 : Int).toNat) * 6 + 0)), []) from (idx_own (E := TTubeNode.E) rfl h104))) ?_
    refine imp (opP_of (show _ = some ((AV.ptr 90000 (((v34 : Int).toNat) * 6 + 0)), []) from rfl)) ?_
    refine imp (opP_of (show _ = some ((AV.ptr 90000 (((v34 : Int).toNat) * 6 + 0)), []) from rfl)) ?_
    refine imp (storeW_elO (E := TTubeNode.E) (l := L90000) (i := ((v34 : Int).toNat)) (o := 0) (y := (⟨(IntKind.wrap .i64 (bv88_0 + (if x103.1 > (1) then x103.1 else (1)))), x104.Node_At_X, x104.Node_At_Y, x104.Node_Height, x104.Radius, x104.Band⟩ : TTubeNode)) (ty := 40) (by kernel_rfl) (by kernel_rfl) rfl (by first | rfl | (simp (disch := first | decide | assumption) only [mpushs_nil, mpushs_cons, mget_hd, mget_tl, mget_appW_o, mget_appW_n, mget_appW_e])) (getI_some h104).2 rfl (by decide) rfl) ?_
    refine bind_b fun x105 h105 => ?_
    refine imp (opP_of (show _ = some ((AV.ptr 90000 (((v34 : Int).toNat) * 6 + 0)), []) from (idx_own (E := TTubeNode.E) (by first | rfl | omega | (simp; done) | (simp; omega)) h105))) ?_
    refine imp (opP_of (show _ = some ((AV.ptr 90000 (((v34 : Int).toNat) * 6 + 0)), []) from rfl)) ?_
    refine imp (opP_of (show _ = some ((AV.ptr 90000 (((v34 : Int).toNat) * 6 + 0)), []) from rfl)) ?_
    refine imp (opP_of (show _ = some ((intA x105.Node_Time), []) from (ldS_blk (E := TTubeNode.E) (l := (L90000.set ((v34 : Int).toNat) (⟨(IntKind.wrap .i64 (bv88_0 + (if x103.1 > (1) then x103.1 else (1)))), x104.Node_At_X, x104.Node_At_Y, x104.Node_Height, x104.Radius, x104.Band⟩ : TTubeNode))) (ty := 40) (o := 0) (own_some (ty := 40) (by first | rfl | (simp (disch := first | decide | assumption) only [mpushs_nil, mpushs_cons, mget_hd, mget_tl, mget_appW_o, mget_appW_n, mget_appW_e])) (getI_some h105).2) (getI_some h105).2 rfl (by decide) rfl))) ?_
    refine imp ex_i64_b ?_
    refine cond_b (fun _ => ?_) (fun _ => ?_)
    · exact fun hg => retN rfl (hR _ (Option.some.inj hg).symm) (fzL_cons (fz_nils (E := TTubeNode.E) _) (fzL_cons (fz_sc _ _) fzL_nil))
    · refine bind_b fun x106 h106 => ?_
      refine imp (opP_of (show _ = some ((AV.ptr 90000 (((v34 : Int).toNat) * 6 + 0)), []) from (idx_own (E := TTubeNode.E) (by first | rfl | omega | (simp; done) | (simp; omega)) h106))) ?_
      refine imp (opP_of (show _ = some ((AV.agg [(intA x106.Node_Time), (intA x106.Node_At_X), (intA x106.Node_At_Y), (intA x106.Node_Height), (intA x106.Radius), (intA x106.Band)]), []) from (ldA_blk (E := TTubeNode.E) (l := (L90000.set ((v34 : Int).toNat) (⟨(IntKind.wrap .i64 (bv88_0 + (if x103.1 > (1) then x103.1 else (1)))), x104.Node_At_X, x104.Node_At_Y, x104.Node_Height, x104.Radius, x104.Band⟩ : TTubeNode))) (ty := 40) rfl (own_some (ty := 40) (by first | rfl | (simp (disch := first | decide | assumption) only [mpushs_nil, mpushs_cons, mget_hd, mget_tl, mget_appW_o, mget_appW_n, mget_appW_e])) (getI_some h106).2) (getI_some h106).2 rfl))) ?_
      refine imp exA6_b ?_
      refine imp ex_i64_b ?_
      refine imp ex_i64_b ?_
      refine imp ex_i64_b ?_
      refine imp ex_i64_b ?_
      refine imp ex_i64_b ?_
      refine imp ex_i64_b ?_
      refine imp (storeW_cells (sz := 6) (by kernel_rfl) (by kernel_rfl) rfl rfl (cs := [(intA bv88_0), (intA bv88_1), (intA bv88_2), (intA bv88_3), (intA bv88_4), (intA bv88_5)]) (cs' := [(intA x106.Node_Time), (intA x106.Node_At_X), (intA x106.Node_At_Y), (intA x106.Node_Height), (intA x106.Radius), (intA x106.Band)]) (ty := 40) (by first | rfl | (simp (disch := first | decide | assumption) only [mpushs_nil, mpushs_cons, mget_hd, mget_tl, mget_appW_o, mget_appW_n, mget_appW_e])) rfl rfl) ?_
      exact fun hg => hN0 _ (Option.some.inj hg).symm _ (weak_mem [(90000, 90000), (88, 88), (0, 0)] rfl rfl rfl (okW_cons (.inl (leV_refl _)) (okW_cons (.inl (leV_refl _)) (okW_cons (.inl (leV_refl _)) (okW_cons (ent_own (E := TTubeNode.E) (id := 90000) (l' := (L90000.set ((v34 : Int).toNat) (⟨(IntKind.wrap .i64 (bv88_0 + (if x103.1 > (1) then x103.1 else (1)))), x104.Node_At_X, x104.Node_At_Y, x104.Node_Height, x104.Radius, x104.Band⟩ : TTubeNode))) (by first | rfl | omega | (simp; done) | (simp; omega)) rfl) (okW_cons (.inl (leV_refl _)) (okW_cons (.inl (leV_refl _)) (okW_cons (.inl (leV_refl _)) okW_nil))))))) (okB_cons (okB_cells (cs := [(intA x106.Node_Time), (intA x106.Node_At_X), (intA x106.Node_At_Y), (intA x106.Node_Height), (intA x106.Radius), (intA x106.Band)]) (ty := 40) rfl (show mget _ 88 = _ from (by first | rfl | (simp (disch := first | decide | assumption) only [mpushs_nil, mpushs_cons, mget_hd, mget_tl, mget_appW_o, mget_appW_n, mget_appW_e])))) (okB_cons (okB_own (E := TTubeNode.E) (ty := 40) (l' := (L90000.set ((v34 : Int).toNat) (⟨(IntKind.wrap .i64 (bv88_0 + (if x103.1 > (1) then x103.1 else (1)))), x104.Node_At_X, x104.Node_At_Y, x104.Node_Height, x104.Radius, x104.Band⟩ : TTubeNode))) rfl (show mget _ 90000 = _ from (by first | rfl | (simp (disch := first | decide | assumption) only [mpushs_nil, mpushs_cons, mget_hd, mget_tl, mget_appW_o, mget_appW_n, mget_appW_e])))) (okB_cons (okB_cells (cs := [(strA k0_0), (intA k0_1), (intA k0_2), (strA k0_3), (lstA TTubeNode.E k0_4), (lstA TTubeNode.E k0_5), (intA k0_6), (intA k0_7), (intA k0_8), (intA k0_9), (intA k0_10), (intA k0_11), (strA k0_12), (intA k0_13), (intA k0_14), (intA k0_15), (intA k0_16), (intA k0_17), (intA k0_18), (intA k0_19), (intA k0_20), (lstA TTubeNode.E k0_21)]) (ty := 65) (by simp [clean, cleans, encs_clean]) (show mget _ 0 = _ from (by first | rfl | (simp (disch := first | decide | assumption) only [mpushs_nil, mpushs_cons, mget_hd, mget_tl, mget_appW_o, mget_appW_n, mget_appW_e])))) okB_nil'))))
  · exact fun hg => retN rfl (hR _ (Option.some.inj hg).symm) (fzL_cons (fz_own (E := TTubeNode.E) (ty := 40) (l' := L90000) _ rfl (by first | rfl | (simp (disch := first | decide | assumption) only [mpushs_nil, mpushs_cons, mget_hd, mget_tl, mget_appW_o, mget_appW_n, mget_appW_e]))) (fzL_cons (fz_sc _ _) fzL_nil))
theorem L44_0_ok (n : Nat) (c3 : Int) (c33 : Int) (k0_0 : ByteArray) (k0_1 : Int) (k0_2 : Int) (k0_3 : ByteArray) (k0_4 : List TTubeNode) (k0_5 : List TTubeNode) (k0_6 : Int) (k0_7 : Int) (k0_8 : Int) (k0_9 : Int) (k0_10 : Int) (k0_11 : Int) (k0_12 : ByteArray) (k0_13 : Int) (k0_14 : Int) (k0_15 : Int) (k0_16 : Int) (k0_17 : Int) (k0_18 : Int) (k0_19 : Int) (k0_20 : Int) (k0_21 : List TTubeNode) {t : ρ44} (R : AV → Mem → Prop) (hR : ∀ r : ρ44, t = r → ∀ u m, Ans ((AV.tup [(lstA TTubeNode.E r.1), (intA r.2)])) u m → R u m) (k : Nat) (x : Int × List TTubeNode × Int × Int × Int × Int × Int × Int) (hx : iterO (fun y : Int × List TTubeNode × Int × Int × Int × Int × Int × Int => S44_0 n c3 c33 k0_0 k0_1 k0_2 k0_3 k0_4 k0_5 k0_6 k0_7 k0_8 k0_9 k0_10 k0_11 k0_12 k0_13 k0_14 k0_15 k0_16 k0_17 k0_18 k0_19 k0_20 k0_21 y.1 y.2.1 y.2.2.1 y.2.2.2.1 y.2.2.2.2.1 y.2.2.2.2.2.1 y.2.2.2.2.2.2.1 y.2.2.2.2.2.2.2) k x = some t) {s : St} (hw : Weak KK 82 0 s (h44_0 AV.nils c3 (ownV TTubeNode.E 90000 x.2.1) c33 x.1 x.2.2.1 x.2.2.2.1 x.2.2.2.2.1 x.2.2.2.2.2.1 x.2.2.2.2.2.2.1 x.2.2.2.2.2.2.2 [(90000, ownB TTubeNode.E 40 x.2.1), (0, some ⟨[(strA k0_0), (intA k0_1), (intA k0_2), (strA k0_3), (lstA TTubeNode.E k0_4), (lstA TTubeNode.E k0_5), (intA k0_6), (intA k0_7), (intA k0_8), (intA k0_9), (intA k0_10), (intA k0_11), (strA k0_12), (intA k0_13), (intA k0_14), (intA k0_15), (intA k0_16), (intA k0_17), (intA k0_18), (intA k0_19), (intA k0_20), (lstA TTubeNode.E k0_21)], 65⟩)])) : Tri Tryd.prog KK 82 0 (.loop c44_0) s (q44_0 R ) :=
  L44_0 R  (σ := Nat × (Int × List TTubeNode × Int × Int × Int × Int × Int × Int)) (fun z => iterO (fun y : Int × List TTubeNode × Int × Int × Int × Int × Int × Int => S44_0 n c3 c33 k0_0 k0_1 k0_2 k0_3 k0_4 k0_5 k0_6 k0_7 k0_8 k0_9 k0_10 k0_11 k0_12 k0_13 k0_14 k0_15 k0_16 k0_17 k0_18 k0_19 k0_20 k0_21 y.1 y.2.1 y.2.2.1 y.2.2.2.1 y.2.2.2.2.1 y.2.2.2.2.2.1 y.2.2.2.2.2.2.1 y.2.2.2.2.2.2.2) z.1 z.2 = some t) (fun z => AV.nils) (fun z => c3) (fun z => (ownV TTubeNode.E 90000 z.2.2.1)) (fun z => c33) (fun z => z.2.1) (fun z => z.2.2.2.1) (fun z => z.2.2.2.2.1) (fun z => z.2.2.2.2.2.1) (fun z => z.2.2.2.2.2.2.1) (fun z => z.2.2.2.2.2.2.2.1) (fun z => z.2.2.2.2.2.2.2.2) (fun z => [(90000, ownB TTubeNode.E 40 z.2.2.1), (0, some ⟨[(strA k0_0), (intA k0_1), (intA k0_2), (strA k0_3), (lstA TTubeNode.E k0_4), (lstA TTubeNode.E k0_5), (intA k0_6), (intA k0_7), (intA k0_8), (intA k0_9), (intA k0_10), (intA k0_11), (strA k0_12), (intA k0_13), (intA k0_14), (intA k0_15), (intA k0_16), (intA k0_17), (intA k0_18), (intA k0_19), (intA k0_20), (lstA TTubeNode.E k0_21)], 65⟩)]) (fun z => z.1) (by
    rintro ⟨k, y⟩ h
    cases k with
    | zero => exact (iterO_zero h).elim
    | succ k =>
      obtain ⟨u, h1, h2, h3⟩ := iterO_elim h
      exact B44_0_ok n c3 c33 k0_0 k0_1 k0_2 k0_3 k0_4 k0_5 k0_6 k0_7 k0_8 k0_9 k0_10 k0_11 k0_12 k0_13 k0_14 k0_15 k0_16 k0_17 k0_18 k0_19 k0_20 k0_21 y.1 y.2.1 y.2.2.1 y.2.2.2.1 y.2.2.2.2.1 y.2.2.2.2.2.1 y.2.2.2.2.2.2.1 y.2.2.2.2.2.2.2 R  _ (fun r e => hR r (h3 _ e).symm)  (fun y' e s' hw => ⟨(k, y'), h2 _ e, Nat.lt_succ_self k, hw⟩) h1) (k, x) hx hw
theorem g44_ok (n : Nat) (a0 : Ttask) {t : ρ44} (R : AV → Mem → Prop) (hR : ∀ r : ρ44, t = r → ∀ u m, Ans ((AV.tup [(lstA TTubeNode.E r.1), (intA r.2)])) u m → R u m) : g44 n a0 = some t → F44 a0.Clearance_Call a0.Clearance_Kind a0.Clearance_Value a0.Clearance_Fix (lstA TTubeNode.E a0.before) (lstA TTubeNode.E a0.later) a0.now_Node_Time a0.now_Node_At_X a0.now_Node_At_Y a0.now_Node_Height a0.now_Radius a0.now_Band a0.kind_Name a0.kind_Wake a0.kind_Ceiling a0.kind_Climb a0.kind_Descent a0.kind_Slow a0.kind_Fast a0.fix_X a0.fix_Y (lstA TTubeNode.E a0.whole) R := by
  unfold g44 F44
  refine imp (chk_of rfl) ?_
  refine imp (chk_of rfl) ?_
  refine imp (chk_of rfl) ?_
  refine cond_b (fun _ => ?_) (fun _ => ?_)
  · exact fun hg => retN rfl (hR _ (Option.some.inj hg).symm) (fzL_cons (fz_nils (E := TTubeNode.E) _) (fzL_cons (fz_sc _ _) fzL_nil))
  · refine cond_b (fun _ => ?_) (fun _ => ?_)
    · exact fun hg => retN rfl (hR _ (Option.some.inj hg).symm) (fzL_cons (fz_nils (E := TTubeNode.E) _) (fzL_cons (fz_sc _ _) fzL_nil))
    · refine bind_b fun x96 h96 => ?_
      refine imp (callW_D (show PureD _ _ _ _ _ _ (ownV TTubeNode.E 21 a0.later) [(21, ownB TTubeNode.E 40 a0.later)] from cloneC32 h96)) ?_
      refine imp (opP_of (show _ = some ((AV.agg [(intA a0.now_Node_Time), (intA a0.now_Node_At_X), (intA a0.now_Node_At_Y), (intA a0.now_Node_Height), (intA a0.now_Radius), (intA a0.now_Band)]), []) from (ldA_ptr (b := ⟨[(strA a0.Clearance_Call), (intA a0.Clearance_Kind), (intA a0.Clearance_Value), (strA a0.Clearance_Fix), (lstA TTubeNode.E a0.before), (lstA TTubeNode.E a0.later), (intA a0.now_Node_Time), (intA a0.now_Node_At_X), (intA a0.now_Node_At_Y), (intA a0.now_Node_Height), (intA a0.now_Radius), (intA a0.now_Band), (strA a0.kind_Name), (intA a0.kind_Wake), (intA a0.kind_Ceiling), (intA a0.kind_Climb), (intA a0.kind_Descent), (intA a0.kind_Slow), (intA a0.kind_Fast), (intA a0.fix_X), (intA a0.fix_Y), (lstA TTubeNode.E a0.whole)], 65⟩) (by first | rfl | (simp (disch := first | decide | assumption) only [mpushs_nil, mpushs_cons, mget_hd, mget_tl, mget_appW_o, mget_appW_n, mget_appW_e])) rfl))) ?_
      refine imp exA6_b ?_
      refine imp ex_i64_b ?_
      refine imp ex_i64_b ?_
      refine imp ex_i64_b ?_
      refine imp ex_i64_b ?_
      refine imp ex_i64_b ?_
      refine imp ex_i64_b ?_
      refine imp (opP_of (show _ = some ((intA (a0.later.length : Int)), []) from len_own)) ?_
      refine imp ex_i64_b ?_
      exact fun hg => L44_0_ok n (0) (a0.later.length : Int) a0.Clearance_Call a0.Clearance_Kind a0.Clearance_Value a0.Clearance_Fix a0.before a0.later a0.now_Node_Time a0.now_Node_At_X a0.now_Node_At_Y a0.now_Node_Height a0.now_Radius a0.now_Band a0.kind_Name a0.kind_Wake a0.kind_Ceiling a0.kind_Climb a0.kind_Descent a0.kind_Slow a0.kind_Fast a0.fix_X a0.fix_Y a0.whole R  hR n _ hg (weak_mem [(90000, 21), (88, 88), (0, 0)] rfl rfl rfl (okW_cons (.inl (leV_refl _)) (okW_cons (.inl (leV_refl _)) (okW_cons (.inl (leV_refl _)) (okW_cons (ent_own (E := TTubeNode.E) (id := 21) (l' := a0.later) rfl rfl) (okW_cons (.inl (leV_refl _)) (okW_cons (.inl (leV_refl _)) (okW_cons (.inl (leV_refl _)) okW_nil))))))) (okB_cons (okB_cells (cs := [(intA a0.now_Node_Time), (intA a0.now_Node_At_X), (intA a0.now_Node_At_Y), (intA a0.now_Node_Height), (intA a0.now_Radius), (intA a0.now_Band)]) (ty := 40) rfl (show mget _ 88 = _ from (by first | rfl | (simp (disch := first | decide | assumption) only [mpushs_nil, mpushs_cons, mget_hd, mget_tl, mget_appW_o, mget_appW_n, mget_appW_e])))) (okB_cons (okB_own (E := TTubeNode.E) (ty := 40) (l' := a0.later) rfl (show mget _ 21 = _ from (by first | rfl | (simp (disch := first | decide | assumption) only [mpushs_nil, mpushs_cons, mget_hd, mget_tl, mget_appW_o, mget_appW_n, mget_appW_e])))) (okB_cons (okB_cells (cs := [(strA a0.Clearance_Call), (intA a0.Clearance_Kind), (intA a0.Clearance_Value), (strA a0.Clearance_Fix), (lstA TTubeNode.E a0.before), (lstA TTubeNode.E a0.later), (intA a0.now_Node_Time), (intA a0.now_Node_At_X), (intA a0.now_Node_At_Y), (intA a0.now_Node_Height), (intA a0.now_Radius), (intA a0.now_Band), (strA a0.kind_Name), (intA a0.kind_Wake), (intA a0.kind_Ceiling), (intA a0.kind_Climb), (intA a0.kind_Descent), (intA a0.kind_Slow), (intA a0.kind_Fast), (intA a0.fix_X), (intA a0.fix_Y), (lstA TTubeNode.E a0.whole)]) (ty := 65) (by simp [clean, cleans, encs_clean]) (show mget _ 0 = _ from (by first | rfl | (simp (disch := first | decide | assumption) only [mpushs_nil, mpushs_cons, mget_hd, mget_tl, mget_appW_o, mget_appW_n, mget_appW_e])))) okB_nil'))))
theorem sg44 {n : Nat} {a0 : Ttask} {t : ρ44} (h : g44 n a0 = some t) : Says Tryd.prog KK.gl 44 [(AV.agg [(strA a0.Clearance_Call), (intA a0.Clearance_Kind), (intA a0.Clearance_Value), (strA a0.Clearance_Fix), (lstA TTubeNode.E a0.before), (lstA TTubeNode.E a0.later), (intA a0.now_Node_Time), (intA a0.now_Node_At_X), (intA a0.now_Node_At_Y), (intA a0.now_Node_Height), (intA a0.now_Radius), (intA a0.now_Band), (strA a0.kind_Name), (intA a0.kind_Wake), (intA a0.kind_Ceiling), (intA a0.kind_Climb), (intA a0.kind_Descent), (intA a0.kind_Slow), (intA a0.kind_Fast), (intA a0.fix_X), (intA a0.fix_Y), (lstA TTubeNode.E a0.whole)])] ((AV.tup [(lstA TTubeNode.E t.1), (intA t.2)])) :=
  says_of_own (by first | rfl | simp [cleans, clean, encs_clean, En.cln]) (by first | rfl | simp [cleans, clean, encs_clean, En.cln]) (F44_own a0.Clearance_Call a0.Clearance_Kind a0.Clearance_Value a0.Clearance_Fix (lstA TTubeNode.E a0.before) (lstA TTubeNode.E a0.later) a0.now_Node_Time a0.now_Node_At_X a0.now_Node_At_Y a0.now_Node_Height a0.now_Radius a0.now_Band a0.kind_Name a0.kind_Wake a0.kind_Ceiling a0.kind_Climb a0.kind_Descent a0.kind_Slow a0.kind_Fast a0.fix_X a0.fix_Y (lstA TTubeNode.E a0.whole) _ (g44_ok n a0 (Ans ((AV.tup [(lstA TTubeNode.E t.1), (intA t.2)]))) (fun r e u m h => by rw [e]; exact h) h))
/- (skyway/effect.task).slower -/
theorem B44_0_okM (n : Nat) (c3 : Int) (c33 : Int) (k0_0 : ByteArray) (k0_1 : Int) (k0_2 : Int) (k0_3 : ByteArray) (k0_4 : List TTubeNode) (k0_5 : List TTubeNode) (k0_6 : Int) (k0_7 : Int) (k0_8 : Int) (k0_9 : Int) (k0_10 : Int) (k0_11 : Int) (k0_12 : ByteArray) (k0_13 : Int) (k0_14 : Int) (k0_15 : Int) (k0_16 : Int) (k0_17 : Int) (k0_18 : Int) (k0_19 : Int) (k0_20 : Int) (k0_21 : List TTubeNode) (v34 : Int) (L90000 : List TTubeNode) (bv88_0 : Int) (bv88_1 : Int) (bv88_2 : Int) (bv88_3 : Int) (bv88_4 : Int) (bv88_5 : Int) {t : (Int × List TTubeNode × Int × Int × Int × Int × Int × Int) ⊕ ρ44} (R : AV → Mem → Prop) (N0 : St → Prop) (hR : ∀ r : ρ44, t = (.inr r) → ∀ u m, MadeT TTubeNode.E 40 r.1 [Value.int .i64 r.2] u m → R u m) (hN0 : ∀ y : Int × List TTubeNode × Int × Int × Int × Int × Int × Int, t = (.inl y) → ∀ s' : St, Weak KK 82 0 s' (h44_0 AV.nils c3 (ownV TTubeNode.E 90000 y.2.1) c33 y.1 y.2.2.1 y.2.2.2.1 y.2.2.2.2.1 y.2.2.2.2.2.1 y.2.2.2.2.2.2.1 y.2.2.2.2.2.2.2 [(90000, ownB TTubeNode.E 40 y.2.1), (0, some ⟨[(strA k0_0), (intA k0_1), (intA k0_2), (strA k0_3), (lstA TTubeNode.E k0_4), (lstA TTubeNode.E k0_5), (intA k0_6), (intA k0_7), (intA k0_8), (intA k0_9), (intA k0_10), (intA k0_11), (strA k0_12), (intA k0_13), (intA k0_14), (intA k0_15), (intA k0_16), (intA k0_17), (intA k0_18), (intA k0_19), (intA k0_20), (lstA TTubeNode.E k0_21)], 65⟩)]) → N0 s') : S44_0 n c3 c33 k0_0 k0_1 k0_2 k0_3 k0_4 k0_5 k0_6 k0_7 k0_8 k0_9 k0_10 k0_11 k0_12 k0_13 k0_14 k0_15 k0_16 k0_17 k0_18 k0_19 k0_20 k0_21 v34 L90000 bv88_0 bv88_1 bv88_2 bv88_3 bv88_4 bv88_5 = some t → B44_0 AV.nils c3 (ownV TTubeNode.E 90000 L90000) c33 v34 bv88_0 bv88_1 bv88_2 bv88_3 bv88_4 bv88_5 [(90000, ownB TTubeNode.E 40 L90000), (0, some ⟨[(strA k0_0), (intA k0_1), (intA k0_2), (strA k0_3), (lstA TTubeNode.E k0_4), (lstA TTubeNode.E k0_5), (intA k0_6), (intA k0_7), (intA k0_8), (intA k0_9), (intA k0_10), (intA k0_11), (strA k0_12), (intA k0_13), (intA k0_14), (intA k0_15), (intA k0_16), (intA k0_17), (intA k0_18), (intA k0_19), (intA k0_20), (lstA TTubeNode.E k0_21)], 65⟩)] R N0 := by
  unfold S44_0 B44_0
  refine cond_b (fun _ => ?_) (fun _ => ?_)
  · refine bind_b fun x109 h109 => ?_
    refine imp (opP_of (show _ = some ((AV.ptr 90000 (((v34 : Int).toNat) * 6 + 0)), []) from (idx_own (E := TTubeNode.E) rfl h109))) ?_
    refine imp (opP_of (show _ = some ((AV.ptr 90000 (((v34 : Int).toNat) * 6 + 0)), []) from rfl)) ?_
    refine imp (opP_of (show _ = some ((AV.ptr 90000 (((v34 : Int).toNat) * 6 + 1)), []) from rfl)) ?_
    refine imp (opP_of (show _ = some ((AV.agg [(intA x109.Node_At_X), (intA x109.Node_At_Y)]), []) from (ldA_blkP (E := TTubeNode.E) (l := L90000) (ty := 40) (o := 1) (own_some (ty := 40) (by first | rfl | (simp (disch := first | decide | assumption) only [mpushs_nil, mpushs_cons, mget_hd, mget_tl, mget_appW_o, mget_appW_n, mget_appW_e])) (getI_some h109).2) (getI_some h109).2 rfl (by decide) rfl))) ?_
    refine imp exA2_b ?_
    refine imp ex_i64_b ?_
    refine imp ex_i64_b ?_
    refine bind_b fun x110 h110 => ?_
    refine imp (callQ_says (sg17 h110)) ?_
    refine imp exT2_b ?_
    refine imp ex_i64_b ?_
    refine imp ex_i64_b ?_
    refine imp (opP_of (show _ = some ((intA k0_2), []) from (ldS_ptr (b := ⟨[(strA k0_0), (intA k0_1), (intA k0_2), (strA k0_3), (lstA TTubeNode.E k0_4), (lstA TTubeNode.E k0_5), (intA k0_6), (intA k0_7), (intA k0_8), (intA k0_9), (intA k0_10), (intA k0_11), (strA k0_12), (intA k0_13), (intA k0_14), (intA k0_15), (intA k0_16), (intA k0_17), (intA k0_18), (intA k0_19), (intA k0_20), (lstA TTubeNode.E k0_21)], 65⟩) (by first | rfl | (simp (disch := first | decide | assumption) only [mpushs_nil, mpushs_cons, mget_hd, mget_tl, mget_appW_o, mget_appW_n, mget_appW_e])) rfl))) ?_
    refine imp ex_i64_b ?_
    refine bind_b fun x111 h111 => ?_
    refine imp (callQ_says (sg36 h111)) ?_
    refine imp exT2_b ?_
    refine imp ex_i64_b ?_
    refine imp ex_i64_b ?_
    refine imp (opP_of (show _ = some ((intA (if x111.1 > (1) then x111.1 else (1))), []) from (by kernel_rfl))) ?_
    refine imp ex_i64_b ?_
    refine bind_b fun x112 h112 => ?_
    refine imp (opP_of (show _ = some ((AV.ptr 90000 (((v34 : Int).toNat) * 6 + 0)), []) from (idx_own (E := TTubeNode.E) rfl h112))) ?_
    refine imp (opP_of (show _ = some ((AV.ptr 90000 (((v34 : Int).toNat) * 6 + 0)), []) from rfl)) ?_
    refine imp (opP_of (show _ = some ((AV.ptr 90000 (((v34 : Int).toNat) * 6 + 0)), []) from rfl)) ?_
    refine imp (storeW_elO (E := TTubeNode.E) (l := L90000) (i := ((v34 : Int).toNat)) (o := 0) (y := (⟨(IntKind.wrap .i64 (bv88_0 + (if x111.1 > (1) then x111.1 else (1)))), x112.Node_At_X, x112.Node_At_Y, x112.Node_Height, x112.Radius, x112.Band⟩ : TTubeNode)) (ty := 40) (by kernel_rfl) (by kernel_rfl) rfl (by first | rfl | (simp (disch := first | decide | assumption) only [mpushs_nil, mpushs_cons, mget_hd, mget_tl, mget_appW_o, mget_appW_n, mget_appW_e])) (getI_some h112).2 rfl (by decide) rfl) ?_
    refine bind_b fun x113 h113 => ?_
    refine imp (opP_of (show _ = some ((AV.ptr 90000 (((v34 : Int).toNat) * 6 + 0)), []) from (idx_own (E := TTubeNode.E) (by first | rfl | omega | (simp; done) | (simp; omega)) h113))) ?_
    refine imp (opP_of (show _ = some ((AV.ptr 90000 (((v34 : Int).toNat) * 6 + 0)), []) from rfl)) ?_
    refine imp (opP_of (show _ = some ((AV.ptr 90000 (((v34 : Int).toNat) * 6 + 0)), []) from rfl)) ?_
    refine imp (opP_of (show _ = some ((intA x113.Node_Time), []) from (ldS_blk (E := TTubeNode.E) (l := (L90000.set ((v34 : Int).toNat) (⟨(IntKind.wrap .i64 (bv88_0 + (if x111.1 > (1) then x111.1 else (1)))), x112.Node_At_X, x112.Node_At_Y, x112.Node_Height, x112.Radius, x112.Band⟩ : TTubeNode))) (ty := 40) (o := 0) (own_some (ty := 40) (by first | rfl | (simp (disch := first | decide | assumption) only [mpushs_nil, mpushs_cons, mget_hd, mget_tl, mget_appW_o, mget_appW_n, mget_appW_e])) (getI_some h113).2) (getI_some h113).2 rfl (by decide) rfl))) ?_
    refine imp ex_i64_b ?_
    refine cond_b (fun _ => ?_) (fun _ => ?_)
    · exact fun hg => hR _ (Option.some.inj hg).symm _ _ ⟨_, rfl, made_nils_pf⟩
    · refine bind_b fun x114 h114 => ?_
      refine imp (opP_of (show _ = some ((AV.ptr 90000 (((v34 : Int).toNat) * 6 + 0)), []) from (idx_own (E := TTubeNode.E) (by first | rfl | omega | (simp; done) | (simp; omega)) h114))) ?_
      refine imp (opP_of (show _ = some ((AV.agg [(intA x114.Node_Time), (intA x114.Node_At_X), (intA x114.Node_At_Y), (intA x114.Node_Height), (intA x114.Radius), (intA x114.Band)]), []) from (ldA_blk (E := TTubeNode.E) (l := (L90000.set ((v34 : Int).toNat) (⟨(IntKind.wrap .i64 (bv88_0 + (if x111.1 > (1) then x111.1 else (1)))), x112.Node_At_X, x112.Node_At_Y, x112.Node_Height, x112.Radius, x112.Band⟩ : TTubeNode))) (ty := 40) rfl (own_some (ty := 40) (by first | rfl | (simp (disch := first | decide | assumption) only [mpushs_nil, mpushs_cons, mget_hd, mget_tl, mget_appW_o, mget_appW_n, mget_appW_e])) (getI_some h114).2) (getI_some h114).2 rfl))) ?_
      refine imp exA6_b ?_
      refine imp ex_i64_b ?_
      refine imp ex_i64_b ?_
      refine imp ex_i64_b ?_
      refine imp ex_i64_b ?_
      refine imp ex_i64_b ?_
      refine imp ex_i64_b ?_
      refine imp (storeW_cells (sz := 6) (by kernel_rfl) (by kernel_rfl) rfl rfl (cs := [(intA bv88_0), (intA bv88_1), (intA bv88_2), (intA bv88_3), (intA bv88_4), (intA bv88_5)]) (cs' := [(intA x114.Node_Time), (intA x114.Node_At_X), (intA x114.Node_At_Y), (intA x114.Node_Height), (intA x114.Radius), (intA x114.Band)]) (ty := 40) (by first | rfl | (simp (disch := first | decide | assumption) only [mpushs_nil, mpushs_cons, mget_hd, mget_tl, mget_appW_o, mget_appW_n, mget_appW_e])) rfl rfl) ?_
      exact fun hg => hN0 _ (Option.some.inj hg).symm _ (weak_mem [(90000, 90000), (88, 88), (0, 0)] rfl rfl rfl (okW_cons (.inl (leV_refl _)) (okW_cons (.inl (leV_refl _)) (okW_cons (.inl (leV_refl _)) (okW_cons (ent_own (E := TTubeNode.E) (id := 90000) (l' := (L90000.set ((v34 : Int).toNat) (⟨(IntKind.wrap .i64 (bv88_0 + (if x111.1 > (1) then x111.1 else (1)))), x112.Node_At_X, x112.Node_At_Y, x112.Node_Height, x112.Radius, x112.Band⟩ : TTubeNode))) (by first | rfl | omega | (simp; done) | (simp; omega)) rfl) (okW_cons (.inl (leV_refl _)) (okW_cons (.inl (leV_refl _)) (okW_cons (.inl (leV_refl _)) okW_nil))))))) (okB_cons (okB_cells (cs := [(intA x114.Node_Time), (intA x114.Node_At_X), (intA x114.Node_At_Y), (intA x114.Node_Height), (intA x114.Radius), (intA x114.Band)]) (ty := 40) rfl (show mget _ 88 = _ from (by first | rfl | (simp (disch := first | decide | assumption) only [mpushs_nil, mpushs_cons, mget_hd, mget_tl, mget_appW_o, mget_appW_n, mget_appW_e])))) (okB_cons (okB_own (E := TTubeNode.E) (ty := 40) (l' := (L90000.set ((v34 : Int).toNat) (⟨(IntKind.wrap .i64 (bv88_0 + (if x111.1 > (1) then x111.1 else (1)))), x112.Node_At_X, x112.Node_At_Y, x112.Node_Height, x112.Radius, x112.Band⟩ : TTubeNode))) rfl (show mget _ 90000 = _ from (by first | rfl | (simp (disch := first | decide | assumption) only [mpushs_nil, mpushs_cons, mget_hd, mget_tl, mget_appW_o, mget_appW_n, mget_appW_e])))) (okB_cons (okB_cells (cs := [(strA k0_0), (intA k0_1), (intA k0_2), (strA k0_3), (lstA TTubeNode.E k0_4), (lstA TTubeNode.E k0_5), (intA k0_6), (intA k0_7), (intA k0_8), (intA k0_9), (intA k0_10), (intA k0_11), (strA k0_12), (intA k0_13), (intA k0_14), (intA k0_15), (intA k0_16), (intA k0_17), (intA k0_18), (intA k0_19), (intA k0_20), (lstA TTubeNode.E k0_21)]) (ty := 65) (by simp [clean, cleans, encs_clean]) (show mget _ 0 = _ from (by first | rfl | (simp (disch := first | decide | assumption) only [mpushs_nil, mpushs_cons, mget_hd, mget_tl, mget_appW_o, mget_appW_n, mget_appW_e])))) okB_nil'))))
  · exact fun hg => hR _ (Option.some.inj hg).symm _ _ ⟨_, rfl, (made_own_pf (E := TTubeNode.E) (ty := 40) (l := L90000) rfl (by first | rfl | (simp (disch := first | decide | assumption) only [mpushs_nil, mpushs_cons, mget_hd, mget_tl, mget_appW_o, mget_appW_n, mget_appW_e])))⟩
theorem L44_0_okM (n : Nat) (c3 : Int) (c33 : Int) (k0_0 : ByteArray) (k0_1 : Int) (k0_2 : Int) (k0_3 : ByteArray) (k0_4 : List TTubeNode) (k0_5 : List TTubeNode) (k0_6 : Int) (k0_7 : Int) (k0_8 : Int) (k0_9 : Int) (k0_10 : Int) (k0_11 : Int) (k0_12 : ByteArray) (k0_13 : Int) (k0_14 : Int) (k0_15 : Int) (k0_16 : Int) (k0_17 : Int) (k0_18 : Int) (k0_19 : Int) (k0_20 : Int) (k0_21 : List TTubeNode) {t : ρ44} (R : AV → Mem → Prop) (hR : ∀ r : ρ44, t = r → ∀ u m, MadeT TTubeNode.E 40 r.1 [Value.int .i64 r.2] u m → R u m) (k : Nat) (x : Int × List TTubeNode × Int × Int × Int × Int × Int × Int) (hx : iterO (fun y : Int × List TTubeNode × Int × Int × Int × Int × Int × Int => S44_0 n c3 c33 k0_0 k0_1 k0_2 k0_3 k0_4 k0_5 k0_6 k0_7 k0_8 k0_9 k0_10 k0_11 k0_12 k0_13 k0_14 k0_15 k0_16 k0_17 k0_18 k0_19 k0_20 k0_21 y.1 y.2.1 y.2.2.1 y.2.2.2.1 y.2.2.2.2.1 y.2.2.2.2.2.1 y.2.2.2.2.2.2.1 y.2.2.2.2.2.2.2) k x = some t) {s : St} (hw : Weak KK 82 0 s (h44_0 AV.nils c3 (ownV TTubeNode.E 90000 x.2.1) c33 x.1 x.2.2.1 x.2.2.2.1 x.2.2.2.2.1 x.2.2.2.2.2.1 x.2.2.2.2.2.2.1 x.2.2.2.2.2.2.2 [(90000, ownB TTubeNode.E 40 x.2.1), (0, some ⟨[(strA k0_0), (intA k0_1), (intA k0_2), (strA k0_3), (lstA TTubeNode.E k0_4), (lstA TTubeNode.E k0_5), (intA k0_6), (intA k0_7), (intA k0_8), (intA k0_9), (intA k0_10), (intA k0_11), (strA k0_12), (intA k0_13), (intA k0_14), (intA k0_15), (intA k0_16), (intA k0_17), (intA k0_18), (intA k0_19), (intA k0_20), (lstA TTubeNode.E k0_21)], 65⟩)])) : Tri Tryd.prog KK 82 0 (.loop c44_0) s (q44_0 R ) :=
  L44_0 R  (σ := Nat × (Int × List TTubeNode × Int × Int × Int × Int × Int × Int)) (fun z => iterO (fun y : Int × List TTubeNode × Int × Int × Int × Int × Int × Int => S44_0 n c3 c33 k0_0 k0_1 k0_2 k0_3 k0_4 k0_5 k0_6 k0_7 k0_8 k0_9 k0_10 k0_11 k0_12 k0_13 k0_14 k0_15 k0_16 k0_17 k0_18 k0_19 k0_20 k0_21 y.1 y.2.1 y.2.2.1 y.2.2.2.1 y.2.2.2.2.1 y.2.2.2.2.2.1 y.2.2.2.2.2.2.1 y.2.2.2.2.2.2.2) z.1 z.2 = some t) (fun z => AV.nils) (fun z => c3) (fun z => (ownV TTubeNode.E 90000 z.2.2.1)) (fun z => c33) (fun z => z.2.1) (fun z => z.2.2.2.1) (fun z => z.2.2.2.2.1) (fun z => z.2.2.2.2.2.1) (fun z => z.2.2.2.2.2.2.1) (fun z => z.2.2.2.2.2.2.2.1) (fun z => z.2.2.2.2.2.2.2.2) (fun z => [(90000, ownB TTubeNode.E 40 z.2.2.1), (0, some ⟨[(strA k0_0), (intA k0_1), (intA k0_2), (strA k0_3), (lstA TTubeNode.E k0_4), (lstA TTubeNode.E k0_5), (intA k0_6), (intA k0_7), (intA k0_8), (intA k0_9), (intA k0_10), (intA k0_11), (strA k0_12), (intA k0_13), (intA k0_14), (intA k0_15), (intA k0_16), (intA k0_17), (intA k0_18), (intA k0_19), (intA k0_20), (lstA TTubeNode.E k0_21)], 65⟩)]) (fun z => z.1) (by
    rintro ⟨k, y⟩ h
    cases k with
    | zero => exact (iterO_zero h).elim
    | succ k =>
      obtain ⟨u, h1, h2, h3⟩ := iterO_elim h
      exact B44_0_okM n c3 c33 k0_0 k0_1 k0_2 k0_3 k0_4 k0_5 k0_6 k0_7 k0_8 k0_9 k0_10 k0_11 k0_12 k0_13 k0_14 k0_15 k0_16 k0_17 k0_18 k0_19 k0_20 k0_21 y.1 y.2.1 y.2.2.1 y.2.2.2.1 y.2.2.2.2.1 y.2.2.2.2.2.1 y.2.2.2.2.2.2.1 y.2.2.2.2.2.2.2 R  _ (fun r e => hR r (h3 _ e).symm)  (fun y' e s' hw => ⟨(k, y'), h2 _ e, Nat.lt_succ_self k, hw⟩) h1) (k, x) hx hw
theorem g44_okM (n : Nat) (a0 : Ttask) {t : ρ44} (R : AV → Mem → Prop) (hR : ∀ r : ρ44, t = r → ∀ u m, MadeT TTubeNode.E 40 r.1 [Value.int .i64 r.2] u m → R u m) : g44 n a0 = some t → F44 a0.Clearance_Call a0.Clearance_Kind a0.Clearance_Value a0.Clearance_Fix (lstA TTubeNode.E a0.before) (lstA TTubeNode.E a0.later) a0.now_Node_Time a0.now_Node_At_X a0.now_Node_At_Y a0.now_Node_Height a0.now_Radius a0.now_Band a0.kind_Name a0.kind_Wake a0.kind_Ceiling a0.kind_Climb a0.kind_Descent a0.kind_Slow a0.kind_Fast a0.fix_X a0.fix_Y (lstA TTubeNode.E a0.whole) R := by
  unfold g44 F44
  refine imp (chk_of rfl) ?_
  refine imp (chk_of rfl) ?_
  refine imp (chk_of rfl) ?_
  refine cond_b (fun _ => ?_) (fun _ => ?_)
  · exact fun hg => hR _ (Option.some.inj hg).symm _ _ ⟨_, rfl, made_nils_pf⟩
  · refine cond_b (fun _ => ?_) (fun _ => ?_)
    · exact fun hg => hR _ (Option.some.inj hg).symm _ _ ⟨_, rfl, made_nils_pf⟩
    · refine bind_b fun x108 h108 => ?_
      refine imp (callW_D (show PureD _ _ _ _ _ _ (ownV TTubeNode.E 21 a0.later) [(21, ownB TTubeNode.E 40 a0.later)] from cloneC32 h108)) ?_
      refine imp (opP_of (show _ = some ((AV.agg [(intA a0.now_Node_Time), (intA a0.now_Node_At_X), (intA a0.now_Node_At_Y), (intA a0.now_Node_Height), (intA a0.now_Radius), (intA a0.now_Band)]), []) from (ldA_ptr (b := ⟨[(strA a0.Clearance_Call), (intA a0.Clearance_Kind), (intA a0.Clearance_Value), (strA a0.Clearance_Fix), (lstA TTubeNode.E a0.before), (lstA TTubeNode.E a0.later), (intA a0.now_Node_Time), (intA a0.now_Node_At_X), (intA a0.now_Node_At_Y), (intA a0.now_Node_Height), (intA a0.now_Radius), (intA a0.now_Band), (strA a0.kind_Name), (intA a0.kind_Wake), (intA a0.kind_Ceiling), (intA a0.kind_Climb), (intA a0.kind_Descent), (intA a0.kind_Slow), (intA a0.kind_Fast), (intA a0.fix_X), (intA a0.fix_Y), (lstA TTubeNode.E a0.whole)], 65⟩) (by first | rfl | (simp (disch := first | decide | assumption) only [mpushs_nil, mpushs_cons, mget_hd, mget_tl, mget_appW_o, mget_appW_n, mget_appW_e])) rfl))) ?_
      refine imp exA6_b ?_
      refine imp ex_i64_b ?_
      refine imp ex_i64_b ?_
      refine imp ex_i64_b ?_
      refine imp ex_i64_b ?_
      refine imp ex_i64_b ?_
      refine imp ex_i64_b ?_
      refine imp (opP_of (show _ = some ((intA (a0.later.length : Int)), []) from len_own)) ?_
      refine imp ex_i64_b ?_
      exact fun hg => L44_0_okM n (0) (a0.later.length : Int) a0.Clearance_Call a0.Clearance_Kind a0.Clearance_Value a0.Clearance_Fix a0.before a0.later a0.now_Node_Time a0.now_Node_At_X a0.now_Node_At_Y a0.now_Node_Height a0.now_Radius a0.now_Band a0.kind_Name a0.kind_Wake a0.kind_Ceiling a0.kind_Climb a0.kind_Descent a0.kind_Slow a0.kind_Fast a0.fix_X a0.fix_Y a0.whole R  hR n _ hg (weak_mem [(90000, 21), (88, 88), (0, 0)] rfl rfl rfl (okW_cons (.inl (leV_refl _)) (okW_cons (.inl (leV_refl _)) (okW_cons (.inl (leV_refl _)) (okW_cons (ent_own (E := TTubeNode.E) (id := 21) (l' := a0.later) rfl rfl) (okW_cons (.inl (leV_refl _)) (okW_cons (.inl (leV_refl _)) (okW_cons (.inl (leV_refl _)) okW_nil))))))) (okB_cons (okB_cells (cs := [(intA a0.now_Node_Time), (intA a0.now_Node_At_X), (intA a0.now_Node_At_Y), (intA a0.now_Node_Height), (intA a0.now_Radius), (intA a0.now_Band)]) (ty := 40) rfl (show mget _ 88 = _ from (by first | rfl | (simp (disch := first | decide | assumption) only [mpushs_nil, mpushs_cons, mget_hd, mget_tl, mget_appW_o, mget_appW_n, mget_appW_e])))) (okB_cons (okB_own (E := TTubeNode.E) (ty := 40) (l' := a0.later) rfl (show mget _ 21 = _ from (by first | rfl | (simp (disch := first | decide | assumption) only [mpushs_nil, mpushs_cons, mget_hd, mget_tl, mget_appW_o, mget_appW_n, mget_appW_e])))) (okB_cons (okB_cells (cs := [(strA a0.Clearance_Call), (intA a0.Clearance_Kind), (intA a0.Clearance_Value), (strA a0.Clearance_Fix), (lstA TTubeNode.E a0.before), (lstA TTubeNode.E a0.later), (intA a0.now_Node_Time), (intA a0.now_Node_At_X), (intA a0.now_Node_At_Y), (intA a0.now_Node_Height), (intA a0.now_Radius), (intA a0.now_Band), (strA a0.kind_Name), (intA a0.kind_Wake), (intA a0.kind_Ceiling), (intA a0.kind_Climb), (intA a0.kind_Descent), (intA a0.kind_Slow), (intA a0.kind_Fast), (intA a0.fix_X), (intA a0.fix_Y), (lstA TTubeNode.E a0.whole)]) (ty := 65) (by simp [clean, cleans, encs_clean]) (show mget _ 0 = _ from (by first | rfl | (simp (disch := first | decide | assumption) only [mpushs_nil, mpushs_cons, mget_hd, mget_tl, mget_appW_o, mget_appW_n, mget_appW_e])))) okB_nil'))))
theorem mg44C {n k : Nat} {look : Nat → Option ABlk} {a0 : Ttask} {t : ρ44} (h : g44 n a0 = some t) : PureD Tryd.prog KK.gl look k 44 [(AV.agg [(strA a0.Clearance_Call), (intA a0.Clearance_Kind), (intA a0.Clearance_Value), (strA a0.Clearance_Fix), (lstA TTubeNode.E a0.before), (lstA TTubeNode.E a0.later), (intA a0.now_Node_Time), (intA a0.now_Node_At_X), (intA a0.now_Node_At_Y), (intA a0.now_Node_Height), (intA a0.now_Radius), (intA a0.now_Band), (strA a0.kind_Name), (intA a0.kind_Wake), (intA a0.kind_Ceiling), (intA a0.kind_Climb), (intA a0.kind_Descent), (intA a0.kind_Slow), (intA a0.kind_Fast), (intA a0.fix_X), (intA a0.fix_Y), (lstA TTubeNode.E a0.whole)])] (.tup (ownV TTubeNode.E k t.1 :: ([Value.int .i64 t.2] : List Value).map AV.sc)) [(k, ownB TTubeNode.E 40 t.1)] :=
  made_tupC (by first | rfl | simp [cleans, clean, encs_clean, En.cln]) (F44_own a0.Clearance_Call a0.Clearance_Kind a0.Clearance_Value a0.Clearance_Fix (lstA TTubeNode.E a0.before) (lstA TTubeNode.E a0.later) a0.now_Node_Time a0.now_Node_At_X a0.now_Node_At_Y a0.now_Node_Height a0.now_Radius a0.now_Band a0.kind_Name a0.kind_Wake a0.kind_Ceiling a0.kind_Climb a0.kind_Descent a0.kind_Slow a0.kind_Fast a0.fix_X a0.fix_Y (lstA TTubeNode.E a0.whole) _ (g44_okM n a0 (MadeT TTubeNode.E 40 t.1 [Value.int .i64 t.2]) (fun r e u m h => by rw [e]; exact h) h))
theorem mg44S {n k : Nat} {look : Nat → Option ABlk} {args : List AV} {a0 : Ttask} {t : ρ44} (h : g44 n a0 = some t) (hs : SnL look 6 args [(AV.agg [(strA a0.Clearance_Call), (intA a0.Clearance_Kind), (intA a0.Clearance_Value), (strA a0.Clearance_Fix), (lstA TTubeNode.E a0.before), (lstA TTubeNode.E a0.later), (intA a0.now_Node_Time), (intA a0.now_Node_At_X), (intA a0.now_Node_At_Y), (intA a0.now_Node_Height), (intA a0.now_Radius), (intA a0.now_Band), (strA a0.kind_Name), (intA a0.kind_Wake), (intA a0.kind_Ceiling), (intA a0.kind_Climb), (intA a0.kind_Descent), (intA a0.kind_Slow), (intA a0.kind_Fast), (intA a0.fix_X), (intA a0.fix_Y), (lstA TTubeNode.E a0.whole)])]) : PureD Tryd.prog KK.gl look k 44 args (.tup (ownV TTubeNode.E k t.1 :: ([Value.int .i64 t.2] : List Value).map AV.sc)) [(k, ownB TTubeNode.E 40 t.1)] :=
  made_tupS (fun _ => rfl) hs (F44_own a0.Clearance_Call a0.Clearance_Kind a0.Clearance_Value a0.Clearance_Fix (lstA TTubeNode.E a0.before) (lstA TTubeNode.E a0.later) a0.now_Node_Time a0.now_Node_At_X a0.now_Node_At_Y a0.now_Node_Height a0.now_Radius a0.now_Band a0.kind_Name a0.kind_Wake a0.kind_Ceiling a0.kind_Climb a0.kind_Descent a0.kind_Slow a0.kind_Fast a0.fix_X a0.fix_Y (lstA TTubeNode.E a0.whole) _ (g44_okM n a0 (MadeT TTubeNode.E 40 t.1 [Value.int .i64 t.2]) (fun r e u m h => by rw [e]; exact h) h))
/- (skyway/effect.task).speed -/
theorem g57_ok (n : Nat) (a0 : Ttask) {t : ρ57} (R : AV → Mem → Prop) (hR : ∀ r : ρ57, t = r → ∀ u m, Ans ((intA r)) u m → R u m) : g57 n a0 = some t → F57 a0.Clearance_Call a0.Clearance_Kind a0.Clearance_Value a0.Clearance_Fix (lstA TTubeNode.E a0.before) (lstA TTubeNode.E a0.later) a0.now_Node_Time a0.now_Node_At_X a0.now_Node_At_Y a0.now_Node_Height a0.now_Radius a0.now_Band a0.kind_Name a0.kind_Wake a0.kind_Ceiling a0.kind_Climb a0.kind_Descent a0.kind_Slow a0.kind_Fast a0.fix_X a0.fix_Y (lstA TTubeNode.E a0.whole) R := by
  unfold g57 F57
  refine imp (chk_of rfl) ?_
  refine imp (chk_of rfl) ?_
  refine imp (chk_of rfl) ?_
  refine bind_b fun x115 h115 => ?_
  refine imp (opP_of (show _ = some ((AV.ept [(intA x115.Node_Time), (intA x115.Node_At_X), (intA x115.Node_At_Y), (intA x115.Node_Height), (intA x115.Radius), (intA x115.Band)] 0), []) from (idx_lst (E := TTubeNode.E) rfl h115))) ?_
  refine imp (opP_of (show _ = some ((AV.ept [(intA x115.Node_Time), (intA x115.Node_At_X), (intA x115.Node_At_Y), (intA x115.Node_Height), (intA x115.Radius), (intA x115.Band)] 0), []) from rfl)) ?_
  refine imp (opP_of (show _ = some ((AV.ept [(intA x115.Node_Time), (intA x115.Node_At_X), (intA x115.Node_At_Y), (intA x115.Node_Height), (intA x115.Radius), (intA x115.Band)] 1), []) from rfl)) ?_
  refine imp (opP_of (show _ = some ((AV.agg [(intA x115.Node_At_X), (intA x115.Node_At_Y)]), []) from rfl)) ?_
  refine imp exA2_b ?_
  refine imp ex_i64_b ?_
  refine imp ex_i64_b ?_
  refine bind_b fun x116 h116 => ?_
  refine imp (callQ_says (sg17 h116)) ?_
  refine imp exT2_b ?_
  refine imp ex_i64_b ?_
  refine imp ex_i64_b ?_
  refine bind_b fun x117 h117 => ?_
  refine imp (opP_of (show _ = some ((AV.ept [(intA x117.Node_Time), (intA x117.Node_At_X), (intA x117.Node_At_Y), (intA x117.Node_Height), (intA x117.Radius), (intA x117.Band)] 0), []) from (idx_lst (E := TTubeNode.E) rfl h117))) ?_
  refine imp (opP_of (show _ = some ((AV.ept [(intA x117.Node_Time), (intA x117.Node_At_X), (intA x117.Node_At_Y), (intA x117.Node_Height), (intA x117.Radius), (intA x117.Band)] 0), []) from rfl)) ?_
  refine imp (opP_of (show _ = some ((AV.ept [(intA x117.Node_Time), (intA x117.Node_At_X), (intA x117.Node_At_Y), (intA x117.Node_Height), (intA x117.Radius), (intA x117.Band)] 0), []) from rfl)) ?_
  refine imp (opP_of (show _ = some ((intA x117.Node_Time), []) from rfl)) ?_
  refine imp ex_i64_b ?_
  refine bind_b fun x118 h118 => ?_
  refine imp (opP_of (show _ = some ((intA (IntKind.wrap .i64 x118)), []) from (opA_quo h118))) ?_
  refine imp ex_i64_b ?_
  exact fun hg => ret1 (hR _ (Option.some.inj hg).symm) (fz_sc _ _)
theorem sg57 {n : Nat} {a0 : Ttask} {t : ρ57} (h : g57 n a0 = some t) : Says Tryd.prog KK.gl 57 [(AV.agg [(strA a0.Clearance_Call), (intA a0.Clearance_Kind), (intA a0.Clearance_Value), (strA a0.Clearance_Fix), (lstA TTubeNode.E a0.before), (lstA TTubeNode.E a0.later), (intA a0.now_Node_Time), (intA a0.now_Node_At_X), (intA a0.now_Node_At_Y), (intA a0.now_Node_Height), (intA a0.now_Radius), (intA a0.now_Band), (strA a0.kind_Name), (intA a0.kind_Wake), (intA a0.kind_Ceiling), (intA a0.kind_Climb), (intA a0.kind_Descent), (intA a0.kind_Slow), (intA a0.kind_Fast), (intA a0.fix_X), (intA a0.fix_Y), (lstA TTubeNode.E a0.whole)])] ((intA t)) :=
  says_of_own (by first | rfl | simp [cleans, clean, encs_clean, En.cln]) (by first | rfl | simp [cleans, clean, encs_clean, En.cln]) (F57_own a0.Clearance_Call a0.Clearance_Kind a0.Clearance_Value a0.Clearance_Fix (lstA TTubeNode.E a0.before) (lstA TTubeNode.E a0.later) a0.now_Node_Time a0.now_Node_At_X a0.now_Node_At_Y a0.now_Node_Height a0.now_Radius a0.now_Band a0.kind_Name a0.kind_Wake a0.kind_Ceiling a0.kind_Climb a0.kind_Descent a0.kind_Slow a0.kind_Fast a0.fix_X a0.fix_Y (lstA TTubeNode.E a0.whole) _ (g57_ok n a0 (Ans ((intA t))) (fun r e u m h => by rw [e]; exact h) h))
/- (skyway/effect.task).direct -/
theorem g45_ok (n : Nat) (a0 : Ttask) {t : ρ45} (R : AV → Mem → Prop) (hR : ∀ r : ρ45, t = r → ∀ u m, Ans ((AV.tup [(lstA TTubeNode.E r.1), (intA r.2)])) u m → R u m) : g45 n a0 = some t → F45 a0.Clearance_Call a0.Clearance_Kind a0.Clearance_Value a0.Clearance_Fix (lstA TTubeNode.E a0.before) (lstA TTubeNode.E a0.later) a0.now_Node_Time a0.now_Node_At_X a0.now_Node_At_Y a0.now_Node_Height a0.now_Radius a0.now_Band a0.kind_Name a0.kind_Wake a0.kind_Ceiling a0.kind_Climb a0.kind_Descent a0.kind_Slow a0.kind_Fast a0.fix_X a0.fix_Y (lstA TTubeNode.E a0.whole) R := by
  unfold g45 F45
  refine imp (chk_of rfl) ?_
  refine imp (chk_of rfl) ?_
  refine imp (chk_of rfl) ?_
  refine bind_b fun x119 h119 => ?_
  refine imp (callQ_says (sg57 h119)) ?_
  refine imp ex_i64_b ?_
  refine cond_b (fun _ => ?_) (fun _ => ?_)
  · exact fun hg => retN rfl (hR _ (Option.some.inj hg).symm) (fzL_cons (fz_nils (E := TTubeNode.E) _) (fzL_cons (fz_sc _ _) fzL_nil))
  · refine bind_b fun x120 h120 => ?_
    refine imp (callQ_says (sg17 h120)) ?_
    refine imp exT2_b ?_
    refine imp ex_i64_b ?_
    refine imp ex_i64_b ?_
    refine cond_b (fun _ => ?_) (fun _ => ?_)
    · exact fun hg => retN rfl (hR _ (Option.some.inj hg).symm) (fzL_cons (fz_nils (E := TTubeNode.E) _) (fzL_cons (fz_sc _ _) fzL_nil))
    · refine bind_b fun x121 h121 => ?_
      refine imp (callQ_says (sg36 h121)) ?_
      refine imp exT2_b ?_
      refine imp ex_i64_b ?_
      refine imp ex_i64_b ?_
      refine cond_b (fun _ => ?_) (fun _ => ?_)
      · exact fun hg => retN rfl (hR _ (Option.some.inj hg).symm) (fzL_cons (fz_nils (E := TTubeNode.E) _) (fzL_cons (fz_sc _ _) fzL_nil))
      · refine imp (opN_of (show _ = some ((blkV TTubeNode.E 241 ([(⟨(IntKind.wrap .i64 (a0.now_Node_Time + x121.1)), a0.fix_X, a0.fix_Y, a0.now_Node_Height, a0.now_Radius, a0.now_Band⟩ : TTubeNode)] : List TTubeNode)), [(241, some ⟨encs TTubeNode.E ([(⟨(IntKind.wrap .i64 (a0.now_Node_Time + x121.1)), a0.fix_X, a0.fix_Y, a0.now_Node_Height, a0.now_Radius, a0.now_Band⟩ : TTubeNode)] : List TTubeNode), 40⟩)]) from rfl)) ?_
        exact fun hg => retN rfl (hR _ (Option.some.inj hg).symm) (fzL_cons (fz_blk (E := TTubeNode.E) (ty := 40) (l' := ([(⟨(IntKind.wrap .i64 (a0.now_Node_Time + x121.1)), a0.fix_X, a0.fix_Y, a0.now_Node_Height, a0.now_Radius, a0.now_Band⟩ : TTubeNode)] : List TTubeNode)) _ rfl (by first | rfl | (simp (disch := first | decide | assumption) only [mpushs_nil, mpushs_cons, mget_hd, mget_tl, mget_appW_o, mget_appW_n, mget_appW_e]))) (fzL_cons (fz_sc _ _) fzL_nil))
theorem sg45 {n : Nat} {a0 : Ttask} {t : ρ45} (h : g45 n a0 = some t) : Says Tryd.prog KK.gl 45 [(AV.agg [(strA a0.Clearance_Call), (intA a0.Clearance_Kind), (intA a0.Clearance_Value), (strA a0.Clearance_Fix), (lstA TTubeNode.E a0.before), (lstA TTubeNode.E a0.later), (intA a0.now_Node_Time), (intA a0.now_Node_At_X), (intA a0.now_Node_At_Y), (intA a0.now_Node_Height), (intA a0.now_Radius), (intA a0.now_Band), (strA a0.kind_Name), (intA a0.kind_Wake), (intA a0.kind_Ceiling), (intA a0.kind_Climb), (intA a0.kind_Descent), (intA a0.kind_Slow), (intA a0.kind_Fast), (intA a0.fix_X), (intA a0.fix_Y), (lstA TTubeNode.E a0.whole)])] ((AV.tup [(lstA TTubeNode.E t.1), (intA t.2)])) :=
  says_of_own (by first | rfl | simp [cleans, clean, encs_clean, En.cln]) (by first | rfl | simp [cleans, clean, encs_clean, En.cln]) (F45_own a0.Clearance_Call a0.Clearance_Kind a0.Clearance_Value a0.Clearance_Fix (lstA TTubeNode.E a0.before) (lstA TTubeNode.E a0.later) a0.now_Node_Time a0.now_Node_At_X a0.now_Node_At_Y a0.now_Node_Height a0.now_Radius a0.now_Band a0.kind_Name a0.kind_Wake a0.kind_Ceiling a0.kind_Climb a0.kind_Descent a0.kind_Slow a0.kind_Fast a0.fix_X a0.fix_Y (lstA TTubeNode.E a0.whole) _ (g45_ok n a0 (Ans ((AV.tup [(lstA TTubeNode.E t.1), (intA t.2)]))) (fun r e u m h => by rw [e]; exact h) h))
/- (skyway/effect.task).direct -/
theorem g45_okM (n : Nat) (a0 : Ttask) {t : ρ45} (R : AV → Mem → Prop) (hR : ∀ r : ρ45, t = r → ∀ u m, MadeT TTubeNode.E 40 r.1 [Value.int .i64 r.2] u m → R u m) : g45 n a0 = some t → F45 a0.Clearance_Call a0.Clearance_Kind a0.Clearance_Value a0.Clearance_Fix (lstA TTubeNode.E a0.before) (lstA TTubeNode.E a0.later) a0.now_Node_Time a0.now_Node_At_X a0.now_Node_At_Y a0.now_Node_Height a0.now_Radius a0.now_Band a0.kind_Name a0.kind_Wake a0.kind_Ceiling a0.kind_Climb a0.kind_Descent a0.kind_Slow a0.kind_Fast a0.fix_X a0.fix_Y (lstA TTubeNode.E a0.whole) R := by
  unfold g45 F45
  refine imp (chk_of rfl) ?_
  refine imp (chk_of rfl) ?_
  refine imp (chk_of rfl) ?_
  refine bind_b fun x123 h123 => ?_
  refine imp (callQ_says (sg57 h123)) ?_
  refine imp ex_i64_b ?_
  refine cond_b (fun _ => ?_) (fun _ => ?_)
  · exact fun hg => hR _ (Option.some.inj hg).symm _ _ ⟨_, rfl, made_nils_pf⟩
  · refine bind_b fun x124 h124 => ?_
    refine imp (callQ_says (sg17 h124)) ?_
    refine imp exT2_b ?_
    refine imp ex_i64_b ?_
    refine imp ex_i64_b ?_
    refine cond_b (fun _ => ?_) (fun _ => ?_)
    · exact fun hg => hR _ (Option.some.inj hg).symm _ _ ⟨_, rfl, made_nils_pf⟩
    · refine bind_b fun x125 h125 => ?_
      refine imp (callQ_says (sg36 h125)) ?_
      refine imp exT2_b ?_
      refine imp ex_i64_b ?_
      refine imp ex_i64_b ?_
      refine cond_b (fun _ => ?_) (fun _ => ?_)
      · exact fun hg => hR _ (Option.some.inj hg).symm _ _ ⟨_, rfl, made_nils_pf⟩
      · refine imp (opN_of (show _ = some ((blkV TTubeNode.E 241 ([(⟨(IntKind.wrap .i64 (a0.now_Node_Time + x125.1)), a0.fix_X, a0.fix_Y, a0.now_Node_Height, a0.now_Radius, a0.now_Band⟩ : TTubeNode)] : List TTubeNode)), [(241, some ⟨encs TTubeNode.E ([(⟨(IntKind.wrap .i64 (a0.now_Node_Time + x125.1)), a0.fix_X, a0.fix_Y, a0.now_Node_Height, a0.now_Radius, a0.now_Band⟩ : TTubeNode)] : List TTubeNode), 40⟩)]) from rfl)) ?_
        exact fun hg => hR _ (Option.some.inj hg).symm _ _ ⟨_, rfl, (made_blk_pf (E := TTubeNode.E) (ty := 40) (l := ([(⟨(IntKind.wrap .i64 (a0.now_Node_Time + x125.1)), a0.fix_X, a0.fix_Y, a0.now_Node_Height, a0.now_Radius, a0.now_Band⟩ : TTubeNode)] : List TTubeNode)) rfl (by first | rfl | (simp (disch := first | decide | assumption) only [mpushs_nil, mpushs_cons, mget_hd, mget_tl, mget_appW_o, mget_appW_n, mget_appW_e])))⟩
theorem mg45C {n k : Nat} {look : Nat → Option ABlk} {a0 : Ttask} {t : ρ45} (h : g45 n a0 = some t) : PureD Tryd.prog KK.gl look k 45 [(AV.agg [(strA a0.Clearance_Call), (intA a0.Clearance_Kind), (intA a0.Clearance_Value), (strA a0.Clearance_Fix), (lstA TTubeNode.E a0.before), (lstA TTubeNode.E a0.later), (intA a0.now_Node_Time), (intA a0.now_Node_At_X), (intA a0.now_Node_At_Y), (intA a0.now_Node_Height), (intA a0.now_Radius), (intA a0.now_Band), (strA a0.kind_Name), (intA a0.kind_Wake), (intA a0.kind_Ceiling), (intA a0.kind_Climb), (intA a0.kind_Descent), (intA a0.kind_Slow), (intA a0.kind_Fast), (intA a0.fix_X), (intA a0.fix_Y), (lstA TTubeNode.E a0.whole)])] (.tup (ownV TTubeNode.E k t.1 :: ([Value.int .i64 t.2] : List Value).map AV.sc)) [(k, ownB TTubeNode.E 40 t.1)] :=
  made_tupC (by first | rfl | simp [cleans, clean, encs_clean, En.cln]) (F45_own a0.Clearance_Call a0.Clearance_Kind a0.Clearance_Value a0.Clearance_Fix (lstA TTubeNode.E a0.before) (lstA TTubeNode.E a0.later) a0.now_Node_Time a0.now_Node_At_X a0.now_Node_At_Y a0.now_Node_Height a0.now_Radius a0.now_Band a0.kind_Name a0.kind_Wake a0.kind_Ceiling a0.kind_Climb a0.kind_Descent a0.kind_Slow a0.kind_Fast a0.fix_X a0.fix_Y (lstA TTubeNode.E a0.whole) _ (g45_okM n a0 (MadeT TTubeNode.E 40 t.1 [Value.int .i64 t.2]) (fun r e u m h => by rw [e]; exact h) h))
theorem mg45S {n k : Nat} {look : Nat → Option ABlk} {args : List AV} {a0 : Ttask} {t : ρ45} (h : g45 n a0 = some t) (hs : SnL look 6 args [(AV.agg [(strA a0.Clearance_Call), (intA a0.Clearance_Kind), (intA a0.Clearance_Value), (strA a0.Clearance_Fix), (lstA TTubeNode.E a0.before), (lstA TTubeNode.E a0.later), (intA a0.now_Node_Time), (intA a0.now_Node_At_X), (intA a0.now_Node_At_Y), (intA a0.now_Node_Height), (intA a0.now_Radius), (intA a0.now_Band), (strA a0.kind_Name), (intA a0.kind_Wake), (intA a0.kind_Ceiling), (intA a0.kind_Climb), (intA a0.kind_Descent), (intA a0.kind_Slow), (intA a0.kind_Fast), (intA a0.fix_X), (intA a0.fix_Y), (lstA TTubeNode.E a0.whole)])]) : PureD Tryd.prog KK.gl look k 45 args (.tup (ownV TTubeNode.E k t.1 :: ([Value.int .i64 t.2] : List Value).map AV.sc)) [(k, ownB TTubeNode.E 40 t.1)] :=
  made_tupS (fun _ => rfl) hs (F45_own a0.Clearance_Call a0.Clearance_Kind a0.Clearance_Value a0.Clearance_Fix (lstA TTubeNode.E a0.before) (lstA TTubeNode.E a0.later) a0.now_Node_Time a0.now_Node_At_X a0.now_Node_At_Y a0.now_Node_Height a0.now_Radius a0.now_Band a0.kind_Name a0.kind_Wake a0.kind_Ceiling a0.kind_Climb a0.kind_Descent a0.kind_Slow a0.kind_Fast a0.fix_X a0.fix_Y (lstA TTubeNode.E a0.whole) _ (g45_okM n a0 (MadeT TTubeNode.E 40 t.1 [Value.int .i64 t.2]) (fun r e u m h => by rw [e]; exact h) h))
/- (skyway/effect.task).carried -/
theorem g31_ok (n : Nat) (a0 : Ttask) {t : ρ31} (R : AV → Mem → Prop) (hR : ∀ r : ρ31, t = r → ∀ u m, Ans ((AV.tup [(lstA TTubeNode.E r.1), (boolA r.2.1), (intA r.2.2)])) u m → R u m) : g31 n a0 = some t → F31 a0.Clearance_Call a0.Clearance_Kind a0.Clearance_Value a0.Clearance_Fix (lstA TTubeNode.E a0.before) (lstA TTubeNode.E a0.later) a0.now_Node_Time a0.now_Node_At_X a0.now_Node_At_Y a0.now_Node_Height a0.now_Radius a0.now_Band a0.kind_Name a0.kind_Wake a0.kind_Ceiling a0.kind_Climb a0.kind_Descent a0.kind_Slow a0.kind_Fast a0.fix_X a0.fix_Y (lstA TTubeNode.E a0.whole) R := by
  unfold g31 F31
  refine imp (chk_of rfl) ?_
  refine imp (chk_of rfl) ?_
  refine imp (chk_of rfl) ?_
  refine cond_b (fun _ => ?_) (fun _ => ?_)
  · refine bind_b fun x85 h85 => ?_
    refine imp (callW_D (show PureD _ _ _ _ _ _ (AV.tup [(ownV TTubeNode.E 10 x85.1), (intA x85.2)]) [(10, ownB TTubeNode.E 40 x85.1)] from mg42C h85)) ?_
    refine imp exT2_b ?_
    refine imp ex_i64_b ?_
    exact fun hg => retN rfl (hR _ (Option.some.inj hg).symm) (fzL_cons (fz_own (E := TTubeNode.E) (ty := 40) (l' := x85.1) _ rfl (by first | rfl | (simp (disch := first | decide | assumption) only [mpushs_nil, mpushs_cons, mget_hd, mget_tl, mget_appW_o, mget_appW_n, mget_appW_e]))) (fzL_cons (fz_sc _ _) (fzL_cons (fz_sc _ _) fzL_nil)))
  · refine imp (opP_of (show _ = some ((intA (a0.later.length : Int)), []) from rfl)) ?_
    refine imp ex_i64_b ?_
    refine cond_b (fun _ => ?_) (fun _ => ?_)
    · exact fun hg => retN rfl (hR _ (Option.some.inj hg).symm) (fzL_cons (fz_nils (E := TTubeNode.E) _) (fzL_cons (fz_sc _ _) (fzL_cons (fz_sc _ _) fzL_nil)))
    · refine cond_b (fun _ => ?_) (fun _ => ?_)
      · refine bind_b fun x95 h95 => ?_
        refine imp (callW_D (show PureD _ _ _ _ _ _ (AV.tup [(ownV TTubeNode.E 20 x95.1), (intA x95.2)]) [(20, ownB TTubeNode.E 40 x95.1)] from mg43C h95)) ?_
        refine imp exT2_b ?_
        refine imp ex_i64_b ?_
        exact fun hg => retN rfl (hR _ (Option.some.inj hg).symm) (fzL_cons (fz_own (E := TTubeNode.E) (ty := 40) (l' := x95.1) _ rfl (by first | rfl | (simp (disch := first | decide | assumption) only [mpushs_nil, mpushs_cons, mget_hd, mget_tl, mget_appW_o, mget_appW_n, mget_appW_e]))) (fzL_cons (fz_sc _ _) (fzL_cons (fz_sc _ _) fzL_nil)))
      · refine cond_b (fun _ => ?_) (fun _ => ?_)
        · refine bind_b fun x107 h107 => ?_
          refine imp (callW_D (show PureD _ _ _ _ _ _ (AV.tup [(ownV TTubeNode.E 25 x107.1), (intA x107.2)]) [(25, ownB TTubeNode.E 40 x107.1)] from mg44C h107)) ?_
          refine imp exT2_b ?_
          refine imp ex_i64_b ?_
          exact fun hg => retN rfl (hR _ (Option.some.inj hg).symm) (fzL_cons (fz_own (E := TTubeNode.E) (ty := 40) (l' := x107.1) _ rfl (by first | rfl | (simp (disch := first | decide | assumption) only [mpushs_nil, mpushs_cons, mget_hd, mget_tl, mget_appW_o, mget_appW_n, mget_appW_e]))) (fzL_cons (fz_sc _ _) (fzL_cons (fz_sc _ _) fzL_nil)))
        · refine cond_b (fun _ => ?_) (fun _ => ?_)
          · refine bind_b fun x122 h122 => ?_
            refine imp (callW_D (show PureD _ _ _ _ _ _ (AV.tup [(ownV TTubeNode.E 30 x122.1), (intA x122.2)]) [(30, ownB TTubeNode.E 40 x122.1)] from mg45C h122)) ?_
            refine imp exT2_b ?_
            refine imp ex_i64_b ?_
            exact fun hg => retN rfl (hR _ (Option.some.inj hg).symm) (fzL_cons (fz_own (E := TTubeNode.E) (ty := 40) (l' := x122.1) _ rfl (by first | rfl | (simp (disch := first | decide | assumption) only [mpushs_nil, mpushs_cons, mget_hd, mget_tl, mget_appW_o, mget_appW_n, mget_appW_e]))) (fzL_cons (fz_sc _ _) (fzL_cons (fz_sc _ _) fzL_nil)))
          · exact fun hg => retN rfl (hR _ (Option.some.inj hg).symm) (fzL_cons (fz_nils (E := TTubeNode.E) _) (fzL_cons (fz_sc _ _) (fzL_cons (fz_sc _ _) fzL_nil)))
theorem sg31 {n : Nat} {a0 : Ttask} {t : ρ31} (h : g31 n a0 = some t) : Says Tryd.prog KK.gl 31 [(AV.agg [(strA a0.Clearance_Call), (intA a0.Clearance_Kind), (intA a0.Clearance_Value), (strA a0.Clearance_Fix), (lstA TTubeNode.E a0.before), (lstA TTubeNode.E a0.later), (intA a0.now_Node_Time), (intA a0.now_Node_At_X), (intA a0.now_Node_At_Y), (intA a0.now_Node_Height), (intA a0.now_Radius), (intA a0.now_Band), (strA a0.kind_Name), (intA a0.kind_Wake), (intA a0.kind_Ceiling), (intA a0.kind_Climb), (intA a0.kind_Descent), (intA a0.kind_Slow), (intA a0.kind_Fast), (intA a0.fix_X), (intA a0.fix_Y), (lstA TTubeNode.E a0.whole)])] ((AV.tup [(lstA TTubeNode.E t.1), (boolA t.2.1), (intA t.2.2)])) :=
  says_of_own (by first | rfl | simp [cleans, clean, encs_clean, En.cln]) (by first | rfl | simp [cleans, clean, encs_clean, En.cln]) (F31_own a0.Clearance_Call a0.Clearance_Kind a0.Clearance_Value a0.Clearance_Fix (lstA TTubeNode.E a0.before) (lstA TTubeNode.E a0.later) a0.now_Node_Time a0.now_Node_At_X a0.now_Node_At_Y a0.now_Node_Height a0.now_Radius a0.now_Band a0.kind_Name a0.kind_Wake a0.kind_Ceiling a0.kind_Climb a0.kind_Descent a0.kind_Slow a0.kind_Fast a0.fix_X a0.fix_Y (lstA TTubeNode.E a0.whole) _ (g31_ok n a0 (Ans ((AV.tup [(lstA TTubeNode.E t.1), (boolA t.2.1), (intA t.2.2)]))) (fun r e u m h => by rw [e]; exact h) h))
/- (skyway/effect.task).carried -/
theorem g31_okM (n : Nat) (a0 : Ttask) {t : ρ31} (R : AV → Mem → Prop) (hR : ∀ r : ρ31, t = r → ∀ u m, MadeT TTubeNode.E 40 r.1 [Value.bool r.2.1, Value.int .i64 r.2.2] u m → R u m) : g31 n a0 = some t → F31 a0.Clearance_Call a0.Clearance_Kind a0.Clearance_Value a0.Clearance_Fix (lstA TTubeNode.E a0.before) (lstA TTubeNode.E a0.later) a0.now_Node_Time a0.now_Node_At_X a0.now_Node_At_Y a0.now_Node_Height a0.now_Radius a0.now_Band a0.kind_Name a0.kind_Wake a0.kind_Ceiling a0.kind_Climb a0.kind_Descent a0.kind_Slow a0.kind_Fast a0.fix_X a0.fix_Y (lstA TTubeNode.E a0.whole) R := by
  unfold g31 F31
  refine imp (chk_of rfl) ?_
  refine imp (chk_of rfl) ?_
  refine imp (chk_of rfl) ?_
  refine cond_b (fun _ => ?_) (fun _ => ?_)
  · refine bind_b fun x127 h127 => ?_
    refine imp (callW_D (show PureD _ _ _ _ _ _ (AV.tup [(ownV TTubeNode.E 10 x127.1), (intA x127.2)]) [(10, ownB TTubeNode.E 40 x127.1)] from mg42C h127)) ?_
    refine imp exT2_b ?_
    refine imp ex_i64_b ?_
    exact fun hg => hR _ (Option.some.inj hg).symm _ _ ⟨_, rfl, (made_own_pf (E := TTubeNode.E) (ty := 40) (l := x127.1) rfl (by first | rfl | (simp (disch := first | decide | assumption) only [mpushs_nil, mpushs_cons, mget_hd, mget_tl, mget_appW_o, mget_appW_n, mget_appW_e])))⟩
  · refine imp (opP_of (show _ = some ((intA (a0.later.length : Int)), []) from rfl)) ?_
    refine imp ex_i64_b ?_
    refine cond_b (fun _ => ?_) (fun _ => ?_)
    · exact fun hg => hR _ (Option.some.inj hg).symm _ _ ⟨_, rfl, made_nils_pf⟩
    · refine cond_b (fun _ => ?_) (fun _ => ?_)
      · refine bind_b fun x128 h128 => ?_
        refine imp (callW_D (show PureD _ _ _ _ _ _ (AV.tup [(ownV TTubeNode.E 20 x128.1), (intA x128.2)]) [(20, ownB TTubeNode.E 40 x128.1)] from mg43C h128)) ?_
        refine imp exT2_b ?_
        refine imp ex_i64_b ?_
        exact fun hg => hR _ (Option.some.inj hg).symm _ _ ⟨_, rfl, (made_own_pf (E := TTubeNode.E) (ty := 40) (l := x128.1) rfl (by first | rfl | (simp (disch := first | decide | assumption) only [mpushs_nil, mpushs_cons, mget_hd, mget_tl, mget_appW_o, mget_appW_n, mget_appW_e])))⟩
      · refine cond_b (fun _ => ?_) (fun _ => ?_)
        · refine bind_b fun x129 h129 => ?_
          refine imp (callW_D (show PureD _ _ _ _ _ _ (AV.tup [(ownV TTubeNode.E 25 x129.1), (intA x129.2)]) [(25, ownB TTubeNode.E 40 x129.1)] from mg44C h129)) ?_
          refine imp exT2_b ?_
          refine imp ex_i64_b ?_
          exact fun hg => hR _ (Option.some.inj hg).symm _ _ ⟨_, rfl, (made_own_pf (E := TTubeNode.E) (ty := 40) (l := x129.1) rfl (by first | rfl | (simp (disch := first | decide | assumption) only [mpushs_nil, mpushs_cons, mget_hd, mget_tl, mget_appW_o, mget_appW_n, mget_appW_e])))⟩
        · refine cond_b (fun _ => ?_) (fun _ => ?_)
          · refine bind_b fun x130 h130 => ?_
            refine imp (callW_D (show PureD _ _ _ _ _ _ (AV.tup [(ownV TTubeNode.E 30 x130.1), (intA x130.2)]) [(30, ownB TTubeNode.E 40 x130.1)] from mg45C h130)) ?_
            refine imp exT2_b ?_
            refine imp ex_i64_b ?_
            exact fun hg => hR _ (Option.some.inj hg).symm _ _ ⟨_, rfl, (made_own_pf (E := TTubeNode.E) (ty := 40) (l := x130.1) rfl (by first | rfl | (simp (disch := first | decide | assumption) only [mpushs_nil, mpushs_cons, mget_hd, mget_tl, mget_appW_o, mget_appW_n, mget_appW_e])))⟩
          · exact fun hg => hR _ (Option.some.inj hg).symm _ _ ⟨_, rfl, made_nils_pf⟩
theorem mg31C {n k : Nat} {look : Nat → Option ABlk} {a0 : Ttask} {t : ρ31} (h : g31 n a0 = some t) : PureD Tryd.prog KK.gl look k 31 [(AV.agg [(strA a0.Clearance_Call), (intA a0.Clearance_Kind), (intA a0.Clearance_Value), (strA a0.Clearance_Fix), (lstA TTubeNode.E a0.before), (lstA TTubeNode.E a0.later), (intA a0.now_Node_Time), (intA a0.now_Node_At_X), (intA a0.now_Node_At_Y), (intA a0.now_Node_Height), (intA a0.now_Radius), (intA a0.now_Band), (strA a0.kind_Name), (intA a0.kind_Wake), (intA a0.kind_Ceiling), (intA a0.kind_Climb), (intA a0.kind_Descent), (intA a0.kind_Slow), (intA a0.kind_Fast), (intA a0.fix_X), (intA a0.fix_Y), (lstA TTubeNode.E a0.whole)])] (.tup (ownV TTubeNode.E k t.1 :: ([Value.bool t.2.1, Value.int .i64 t.2.2] : List Value).map AV.sc)) [(k, ownB TTubeNode.E 40 t.1)] :=
  made_tupC (by first | rfl | simp [cleans, clean, encs_clean, En.cln]) (F31_own a0.Clearance_Call a0.Clearance_Kind a0.Clearance_Value a0.Clearance_Fix (lstA TTubeNode.E a0.before) (lstA TTubeNode.E a0.later) a0.now_Node_Time a0.now_Node_At_X a0.now_Node_At_Y a0.now_Node_Height a0.now_Radius a0.now_Band a0.kind_Name a0.kind_Wake a0.kind_Ceiling a0.kind_Climb a0.kind_Descent a0.kind_Slow a0.kind_Fast a0.fix_X a0.fix_Y (lstA TTubeNode.E a0.whole) _ (g31_okM n a0 (MadeT TTubeNode.E 40 t.1 [Value.bool t.2.1, Value.int .i64 t.2.2]) (fun r e u m h => by rw [e]; exact h) h))
theorem mg31S {n k : Nat} {look : Nat → Option ABlk} {args : List AV} {a0 : Ttask} {t : ρ31} (h : g31 n a0 = some t) (hs : SnL look 6 args [(AV.agg [(strA a0.Clearance_Call), (intA a0.Clearance_Kind), (intA a0.Clearance_Value), (strA a0.Clearance_Fix), (lstA TTubeNode.E a0.before), (lstA TTubeNode.E a0.later), (intA a0.now_Node_Time), (intA a0.now_Node_At_X), (intA a0.now_Node_At_Y), (intA a0.now_Node_Height), (intA a0.now_Radius), (intA a0.now_Band), (strA a0.kind_Name), (intA a0.kind_Wake), (intA a0.kind_Ceiling), (intA a0.kind_Climb), (intA a0.kind_Descent), (intA a0.kind_Slow), (intA a0.kind_Fast), (intA a0.fix_X), (intA a0.fix_Y), (lstA TTubeNode.E a0.whole)])]) : PureD Tryd.prog KK.gl look k 31 args (.tup (ownV TTubeNode.E k t.1 :: ([Value.bool t.2.1, Value.int .i64 t.2.2] : List Value).map AV.sc)) [(k, ownB TTubeNode.E 40 t.1)] :=
  made_tupS (fun _ => rfl) hs (F31_own a0.Clearance_Call a0.Clearance_Kind a0.Clearance_Value a0.Clearance_Fix (lstA TTubeNode.E a0.before) (lstA TTubeNode.E a0.later) a0.now_Node_Time a0.now_Node_At_X a0.now_Node_At_Y a0.now_Node_Height a0.now_Radius a0.now_Band a0.kind_Name a0.kind_Wake a0.kind_Ceiling a0.kind_Climb a0.kind_Descent a0.kind_Slow a0.kind_Fast a0.fix_X a0.fix_Y (lstA TTubeNode.E a0.whole) _ (g31_okM n a0 (MadeT TTubeNode.E 40 t.1 [Value.bool t.2.1, Value.int .i64 t.2.2]) (fun r e u m h => by rw [e]; exact h) h))
end Go.Proofs.YtpjepkldnnfncaaDoor
