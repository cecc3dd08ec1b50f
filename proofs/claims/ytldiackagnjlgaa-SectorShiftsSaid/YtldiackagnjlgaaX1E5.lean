/- Plain functional programs out of the program's functions, with proofs that the functions compute them; printed by wip/Ext.lean.txt. -/
import Derived.Test.YtldiackagnjlgaaSfH
set_option linter.unusedVariables false
set_option linter.unusedSimpArgs false
set_option maxRecDepth 100000
set_option maxHeartbeats 4000000
namespace Go.Proofs.Ytldiackagnjlgaa
/- skyway/skywaykeep3.SectorVisits -/
theorem B3_0_ok (n : Nat) (a0 : List TSector) (c4 : Bool) (c5 : List TSectorVisit) (c60 : Int) (v61 : Int) {t : (Int) ⊕ ρ3} (R : AV → Mem → Prop) (N0 : St → Prop) (hR : ∀ r : ρ3, t = (.inr r) → ∀ u m, Ans ((boolA r)) u m → R u m) (hN0 : ∀ y : Int, t = (.inl y) → ∀ s' : St, Weak KK 111 0 s' (h3_0 (lstA TSector.E a0) c4 (lstA TSectorVisit.E c5) (lstA TSectorVisit.E c5) c60 y []) → N0 s') : S3_0 n a0 c4 c5 c60 v61 = some t → B3_0 (lstA TSector.E a0) c4 (lstA TSectorVisit.E c5) (lstA TSectorVisit.E c5) c60 v61 [] R N0 := by
  unfold S3_0 B3_0
  refine cond_b (fun _ => ?_) (fun _ => ?_)
  · refine bind_b fun x155 h155 => ?_
    refine imp (opP_of (show _ = some ((AV.ept [(intA x155.Sector), (intA x155.From), (intA x155.To)] 0), []) from (idx_lst (E := TSectorVisit.E) rfl h155))) ?_
    refine imp (opP_of (show _ = some ((AV.agg [(intA x155.Sector), (intA x155.From), (intA x155.To)]), []) from rfl)) ?_
    refine imp exA3_b ?_
    refine imp ex_i64_b ?_
    refine imp ex_i64_b ?_
    refine imp ex_i64_b ?_
    refine cond_b (fun _ => ?_) (fun _ => ?_)
    · exact fun hg => ret1 (hR _ (Option.some.inj hg).symm) (fz_sc _ _)
    · refine imp (opP_of (show _ = some ((intA (a0.length : Int)), []) from rfl)) ?_
      refine imp ex_i64_b ?_
      refine cond_b (fun _ => ?_) (fun _ => ?_)
      · exact fun hg => ret1 (hR _ (Option.some.inj hg).symm) (fz_sc _ _)
      · refine cond_b (fun _ => ?_) (fun _ => ?_)
        · exact fun hg => ret1 (hR _ (Option.some.inj hg).symm) (fz_sc _ _)
        · refine cond_b (fun _ => ?_) (fun _ => ?_)
          · refine bind_b fun x156 h156 => ?_
            refine imp (opP_of (show _ = some ((AV.ept [(intA x156.Sector), (intA x156.From), (intA x156.To)] 0), []) from (idx_lst (E := TSectorVisit.E) rfl h156))) ?_
            refine imp (opP_of (show _ = some ((AV.ept [(intA x156.Sector), (intA x156.From), (intA x156.To)] 2), []) from rfl)) ?_
            refine imp (opP_of (show _ = some ((intA x156.To), []) from rfl)) ?_
            refine imp ex_i64_b ?_
            refine cond_b (fun _ => ?_) (fun _ => ?_)
            · exact fun hg => ret1 (hR _ (Option.some.inj hg).symm) (fz_sc _ _)
            · refine bind_b fun x157 h157 => ?_
              refine imp (opP_of (show _ = some ((AV.ept [(intA x157.Sector), (intA x157.From), (intA x157.To)] 0), []) from (idx_lst (E := TSectorVisit.E) rfl h157))) ?_
              refine imp (opP_of (show _ = some ((AV.ept [(intA x157.Sector), (intA x157.From), (intA x157.To)] 0), []) from rfl)) ?_
              refine imp (opP_of (show _ = some ((intA x157.Sector), []) from rfl)) ?_
              refine imp ex_i64_b ?_
              refine cond_b (fun _ => ?_) (fun _ => ?_)
              · exact fun hg => ret1 (hR _ (Option.some.inj hg).symm) (fz_sc _ _)
              · exact fun hg => hN0 _ (Option.some.inj hg).symm _ (weak_mem [] rfl rfl rfl (okW_cons (ent_lst (E := TSector.E) _ false) (okW_cons (.inl (leV_refl _)) (okW_cons (ent_lst (E := TSectorVisit.E) _ false) (okW_cons (ent_lst (E := TSectorVisit.E) _ false) (okW_cons (.inl (leV_refl _)) (okW_cons (.inl (leV_refl _)) okW_nil)))))) okB_nil')
          · exact fun hg => hN0 _ (Option.some.inj hg).symm _ (weak_mem [] rfl rfl rfl (okW_cons (ent_lst (E := TSector.E) _ false) (okW_cons (.inl (leV_refl _)) (okW_cons (ent_lst (E := TSectorVisit.E) _ false) (okW_cons (ent_lst (E := TSectorVisit.E) _ false) (okW_cons (.inl (leV_refl _)) (okW_cons (.inl (leV_refl _)) okW_nil)))))) okB_nil')
  · exact fun hg => ret1 (hR _ (Option.some.inj hg).symm) (fz_sc _ _)
theorem L3_0_ok (n : Nat) (a0 : List TSector) (c4 : Bool) (c5 : List TSectorVisit) (c60 : Int) {t : ρ3} (R : AV → Mem → Prop) (hR : ∀ r : ρ3, t = r → ∀ u m, Ans ((boolA r)) u m → R u m) (k : Nat) (x : Int) (hx : iterO (fun y : Int => S3_0 n a0 c4 c5 c60 y) k x = some t) {s : St} (hw : Weak KK 111 0 s (h3_0 (lstA TSector.E a0) c4 (lstA TSectorVisit.E c5) (lstA TSectorVisit.E c5) c60 x [])) : Tri Try.prog KK 111 0 (.loop c3_0) s (q3_0 R ) :=
  L3_0 R  (σ := Nat × (Int)) (fun z => iterO (fun y : Int => S3_0 n a0 c4 c5 c60 y) z.1 z.2 = some t) (fun z => (lstA TSector.E a0)) (fun z => c4) (fun z => (lstA TSectorVisit.E c5)) (fun z => (lstA TSectorVisit.E c5)) (fun z => c60) (fun z => z.2) (fun z => []) (fun z => z.1) (by
    rintro ⟨k, y⟩ h
    cases k with
    | zero => exact (iterO_zero h).elim
    | succ k =>
      obtain ⟨u, h1, h2, h3⟩ := iterO_elim h
      exact B3_0_ok n a0 c4 c5 c60 y R  _ (fun r e => hR r (h3 _ e).symm)  (fun y' e s' hw => ⟨(k, y'), h2 _ e, Nat.lt_succ_self k, hw⟩) h1) (k, x) hx hw
theorem g3_ok (n : Nat) (a0 : List TSector) (a1 : List TTubeNode) {t : ρ3} (R : AV → Mem → Prop) (hR : ∀ r : ρ3, t = r → ∀ u m, Ans ((boolA r)) u m → R u m) : g3 n a0 a1 = some t → F3 (lstA TSector.E a0) (lstA TTubeNode.E a1) R := by
  unfold g3 F3
  refine bind_b fun x139 h139 => ?_
  refine imp (callQ_says (sg9 h139)) ?_
  refine imp exB_b ?_
  refine cond_b (fun _ => ?_) (fun _ => ?_)
  · exact fun hg => ret1 (hR _ (Option.some.inj hg).symm) (fz_sc _ _)
  · refine imp (opN_of (show _ = some ((blkV (lstE TTubeNode.E) 67 ([a1] : List (List TTubeNode))), [(67, some ⟨encs (lstE TTubeNode.E) ([a1] : List (List TTubeNode)), 24⟩)]) from rfl)) ?_
    refine bind_b fun x144 h144 => ?_
    refine imp (callQ_pure (pure_snapN (snL_cons (sn_blk (E := (lstE TTubeNode.E)) (ty := 24) (l' := ([a1] : List (List TTubeNode))) _ (lstE.nf TTubeNode.E) rfl (by first | rfl | (simp (disch := first | decide | assumption) only [mpushs_nil, mpushs_cons, mget_hd, mget_tl, mget_appW_o, mget_appW_n, mget_appW_e]))) (snL_cons (sn_sc _ _) (snL_cons (sn_sc _ _) snL_nil))) (sg10 h144) rfl)) ?_
    refine imp exB_b ?_
    refine cond_b (fun _ => ?_) (fun _ => ?_)
    · exact fun hg => ret1 (hR _ (Option.some.inj hg).symm) (fz_sc _ _)
    · refine bind_b fun x150 h150 => ?_
      refine imp (callQ_says (sg11 h150)) ?_
      refine imp exT2_b ?_
      refine imp ex_i64_b ?_
      refine cond_b (fun _ => ?_) (fun _ => ?_)
      · refine imp (opP_of (show _ = some ((intA (x150.1.length : Int)), []) from rfl)) ?_
        refine imp ex_i64_b ?_
        exact fun hg => ret1 (hR _ (Option.some.inj hg).symm) (fz_sc _ _)
      · refine imp (opP_of (show _ = some ((intA (x150.1.length : Int)), []) from rfl)) ?_
        refine imp ex_i64_b ?_
        refine cond_b (fun _ => ?_) (fun _ => ?_)
        · exact fun hg => ret1 (hR _ (Option.some.inj hg).symm) (fz_sc _ _)
        · refine bind_b fun x151 h151 => ?_
          refine imp (opP_of (show _ = some ((AV.ept [(intA x151.Sector), (intA x151.From), (intA x151.To)] 0), []) from (idx_lst (E := TSectorVisit.E) rfl h151))) ?_
          refine imp (opP_of (show _ = some ((AV.ept [(intA x151.Sector), (intA x151.From), (intA x151.To)] 1), []) from rfl)) ?_
          refine imp (opP_of (show _ = some ((intA x151.From), []) from rfl)) ?_
          refine imp ex_i64_b ?_
          refine bind_b fun x152 h152 => ?_
          refine imp (opP_of (show _ = some ((AV.ept [(intA x152.Node_Time), (intA x152.Node_At_X), (intA x152.Node_At_Y), (intA x152.Node_Height), (intA x152.Radius), (intA x152.Band)] 0), []) from (idx_lst (E := TTubeNode.E) rfl h152))) ?_
          refine imp (opP_of (show _ = some ((AV.ept [(intA x152.Node_Time), (intA x152.Node_At_X), (intA x152.Node_At_Y), (intA x152.Node_Height), (intA x152.Radius), (intA x152.Band)] 0), []) from rfl)) ?_
          refine imp (opP_of (show _ = some ((AV.ept [(intA x152.Node_Time), (intA x152.Node_At_X), (intA x152.Node_At_Y), (intA x152.Node_Height), (intA x152.Radius), (intA x152.Band)] 0), []) from rfl)) ?_
          refine imp (opP_of (show _ = some ((intA x152.Node_Time), []) from rfl)) ?_
          refine imp ex_i64_b ?_
          refine cond_b (fun _ => ?_) (fun _ => ?_)
          · exact fun hg => ret1 (hR _ (Option.some.inj hg).symm) (fz_sc _ _)
          · refine imp (opP_of (show _ = some ((intA (x150.1.length : Int)), []) from rfl)) ?_
            refine imp ex_i64_b ?_
            refine bind_b fun x153 h153 => ?_
            refine imp (opP_of (show _ = some ((AV.ept [(intA x153.Sector), (intA x153.From), (intA x153.To)] 0), []) from (idx_lst (E := TSectorVisit.E) rfl h153))) ?_
            refine imp (opP_of (show _ = some ((AV.ept [(intA x153.Sector), (intA x153.From), (intA x153.To)] 2), []) from rfl)) ?_
            refine imp (opP_of (show _ = some ((intA x153.To), []) from rfl)) ?_
            refine imp ex_i64_b ?_
            refine imp (opP_of (show _ = some ((intA (a1.length : Int)), []) from rfl)) ?_
            refine imp ex_i64_b ?_
            refine bind_b fun x154 h154 => ?_
            refine imp (opP_of (show _ = some ((AV.ept [(intA x154.Node_Time), (intA x154.Node_At_X), (intA x154.Node_At_Y), (intA x154.Node_Height), (intA x154.Radius), (intA x154.Band)] 0), []) from (idx_lst (E := TTubeNode.E) rfl h154))) ?_
            refine imp (opP_of (show _ = some ((AV.ept [(intA x154.Node_Time), (intA x154.Node_At_X), (intA x154.Node_At_Y), (intA x154.Node_Height), (intA x154.Radius), (intA x154.Band)] 0), []) from rfl)) ?_
            refine imp (opP_of (show _ = some ((AV.ept [(intA x154.Node_Time), (intA x154.Node_At_X), (intA x154.Node_At_Y), (intA x154.Node_Height), (intA x154.Radius), (intA x154.Band)] 0), []) from rfl)) ?_
            refine imp (opP_of (show _ = some ((intA x154.Node_Time), []) from rfl)) ?_
            refine imp ex_i64_b ?_
            refine cond_b (fun _ => ?_) (fun _ => ?_)
            · exact fun hg => ret1 (hR _ (Option.some.inj hg).symm) (fz_sc _ _)
            · refine imp (opP_of (show _ = some ((intA (x150.1.length : Int)), []) from rfl)) ?_
              refine imp ex_i64_b ?_
              exact fun hg => L3_0_ok n a0 false x150.1 (x150.1.length : Int) R  hR n _ hg (weak_mem [] rfl rfl rfl (okW_cons (ent_lst (E := TSector.E) _ false) (okW_cons (.inl (leV_refl _)) (okW_cons (ent_lst (E := TSectorVisit.E) _ false) (okW_cons (ent_lst (E := TSectorVisit.E) _ false) (okW_cons (.inl (leV_refl _)) (okW_cons (.inl (leV_refl _)) okW_nil)))))) okB_nil')
theorem sg3 {n : Nat} {a0 : List TSector} {a1 : List TTubeNode} {t : ρ3} (h : g3 n a0 a1 = some t) : Says Try.prog KK.gl 3 [(lstA TSector.E a0), (lstA TTubeNode.E a1)] ((boolA t)) :=
  says_of_own (by first | rfl | simp [cleans, clean, encs_clean, En.cln]) (by first | rfl | simp [cleans, clean, encs_clean, En.cln]) (F3_own (lstA TSector.E a0) (lstA TTubeNode.E a1) _ (g3_ok n a0 a1 (Ans ((boolA t))) (fun r e u m h => by rw [e]; exact h) h))
/- skyway/plane.Add -/
theorem g34_ok (n : Nat) (a0 : TP) (a1 : TP) {t : ρ34} (R : AV → Mem → Prop) (hR : ∀ r : ρ34, t = r → ∀ u m, Ans ((AV.agg (TP.E.enc r))) u m → R u m) : g34 n a0 a1 = some t → F34 a0.X a0.Y a1.X a1.Y R := by
  unfold g34 F34
  refine imp (opP_of (show _ = some ((AV.agg [(intA (IntKind.wrap .i64 (a0.X + a1.X))), (intA (IntKind.wrap .i64 (a0.Y + a1.Y)))]), []) from rfl)) ?_
  refine imp (storeW_cells (sz := 2) (by kernel_rfl) (by kernel_rfl) rfl rfl (cs := [(intA (0)), (intA (0))]) (cs' := [(intA (IntKind.wrap .i64 (a0.X + a1.X))), (intA (IntKind.wrap .i64 (a0.Y + a1.Y)))]) (ty := 35) (by first | rfl | (simp (disch := first | decide | assumption) only [mpushs_nil, mpushs_cons, mget_hd, mget_tl, mget_appW_o, mget_appW_n, mget_appW_e])) rfl rfl) ?_
  exact fun hg => ret1 (hR _ (Option.some.inj hg).symm) (fz_el (E := TP.E) _ (⟨(IntKind.wrap .i64 (a0.X + a1.X)), (IntKind.wrap .i64 (a0.Y + a1.Y))⟩ : TP))
theorem sg34 {n : Nat} {a0 : TP} {a1 : TP} {t : ρ34} (h : g34 n a0 a1 = some t) : Says Try.prog KK.gl 34 [(AV.agg [(intA a0.X), (intA a0.Y)]), (AV.agg [(intA a1.X), (intA a1.Y)])] ((AV.agg (TP.E.enc t))) :=
  says_of_own (by first | rfl | simp [cleans, clean, encs_clean, En.cln]) (by first | rfl | simp [cleans, clean, encs_clean, En.cln]) (F34_own a0.X a0.Y a1.X a1.Y _ (g34_ok n a0 a1 (Ans ((AV.agg (TP.E.enc t)))) (fun r e u m h => by rw [e]; exact h) h))
/- skyway/tube.Shift -/
theorem B17_0_ok (n : Nat) (a2 : Int) (c7 : Int) (c46 : Int) (k0_0 : Int) (k0_1 : Int) (v47 : Int) (L90000 : List TTubeNode) {t : (Int × List TTubeNode) ⊕ ρ17} (R : AV → Mem → Prop) (N0 : St → Prop) (hR : ∀ r : ρ17, t = (.inr r) → ∀ u m, Ans ((AV.tup [(lstA TTubeNode.E r.1), (intA r.2)])) u m → R u m) (hN0 : ∀ y : Int × List TTubeNode, t = (.inl y) → ∀ s' : St, Weak KK 81 0 s' (h17_0 a2 AV.nils c7 (ownV TTubeNode.E 90000 y.2) c46 y.1 [(90000, ownB TTubeNode.E 39 y.2), (0, some ⟨[(intA k0_0), (intA k0_1)], 35⟩)]) → N0 s') : S17_0 n a2 c7 c46 k0_0 k0_1 v47 L90000 = some t → B17_0 a2 AV.nils c7 (ownV TTubeNode.E 90000 L90000) c46 v47 [(90000, ownB TTubeNode.E 39 L90000), (0, some ⟨[(intA k0_0), (intA k0_1)], 35⟩)] R N0 := by
  unfold S17_0 B17_0
  refine cond_b (fun _ => ?_) (fun _ => ?_)
  · refine bind_b fun x162 h162 => ?_
    refine imp (opM_of (show _ = some ((AV.ptr 90000 (((v47 : Int).toNat) * 6 + 0)), []) from (idx_own (E := TTubeNode.E) rfl h162))) ?_
    refine imp (opM_of (show _ = some ((AV.ptr 90000 (((v47 : Int).toNat) * 6 + 0)), []) from rfl)) ?_
    refine imp (opM_of (show _ = some ((AV.ptr 90000 (((v47 : Int).toNat) * 6 + 1)), []) from rfl)) ?_
    refine imp (opM_of (show _ = some ((AV.agg [(intA x162.Node_At_X), (intA x162.Node_At_Y)]), []) from (ldA_blkP (E := TTubeNode.E) (l := L90000) (ty := 39) (o := 1) (own_some (ty := 39) (by first | rfl | (rw [look'_mem (by first | rfl | simp [topId_blk] | simp [topId])]; first | rfl | (simp (disch := first | decide | assumption) only [mpushs_nil, mpushs_cons, mget_hd, mget_tl, mget_appW_o, mget_appW_n, mget_appW_e]))) (getI_some h162).2) (getI_some h162).2 rfl (by decide) rfl))) ?_
    refine imp exA2_b ?_
    refine imp ex_i64_b ?_
    refine imp ex_i64_b ?_
    refine imp (opM_of (show _ = some ((AV.agg [(intA k0_0), (intA k0_1)]), []) from (ldA_ptr (b := ⟨[(intA k0_0), (intA k0_1)], 35⟩) (by first | rfl | (rw [look'_mem (by first | rfl | simp [topId_blk] | simp [topId])]; first | rfl | (simp (disch := first | decide | assumption) only [mpushs_nil, mpushs_cons, mget_hd, mget_tl, mget_appW_o, mget_appW_n, mget_appW_e]))) rfl))) ?_
    refine imp exA2_b ?_
    refine imp ex_i64_b ?_
    refine imp ex_i64_b ?_
    refine bind_b fun x163 h163 => ?_
    refine imp (callF_says (sg34 h163)) ?_
    refine imp exA2_b ?_
    refine imp ex_i64_b ?_
    refine imp ex_i64_b ?_
    refine bind_b fun x164 h164 => ?_
    refine imp (opM_of (show _ = some ((AV.ptr 90000 (((v47 : Int).toNat) * 6 + 0)), []) from (idx_own (E := TTubeNode.E) rfl h164))) ?_
    refine imp (opM_of (show _ = some ((AV.ptr 90000 (((v47 : Int).toNat) * 6 + 0)), []) from rfl)) ?_
    refine imp (opM_of (show _ = some ((AV.ptr 90000 (((v47 : Int).toNat) * 6 + 1)), []) from rfl)) ?_
    refine imp (storeW_partO (E := TTubeNode.E) (l := L90000) (i := ((v47 : Int).toNat)) (o := 1) (y := (⟨x164.Node_Time, x163.X, x163.Y, x164.Node_Height, x164.Radius, x164.Band⟩ : TTubeNode)) (ty := 39) (sz := 2) (by kernel_rfl) (by kernel_rfl) rfl rfl (by first | rfl | (rw [look'_mem (by first | rfl | simp [topId_blk] | simp [topId])]; first | rfl | (simp (disch := first | decide | assumption) only [mpushs_nil, mpushs_cons, mget_hd, mget_tl, mget_appW_o, mget_appW_n, mget_appW_e]))) (getI_some h164).2 rfl (Nat.le_of_ble_eq_true rfl) rfl) ?_
    refine imp (chk_of (by kernel_rfl)) ?_
    refine bind_b fun x165 h165 => ?_
    refine imp (opP_of (show _ = some ((AV.ptr 90000 (((v47 : Int).toNat) * 6 + 0)), []) from (idx_own (E := TTubeNode.E) (by first | rfl | omega | (simp; done) | (simp; omega)) h165))) ?_
    refine imp (opP_of (show _ = some ((AV.ptr 90000 (((v47 : Int).toNat) * 6 + 0)), []) from rfl)) ?_
    refine imp (opP_of (show _ = some ((AV.ptr 90000 (((v47 : Int).toNat) * 6 + 0)), []) from rfl)) ?_
    refine imp (opP_of (show _ = some ((intA x165.Node_Time), []) from (ldS_blk (E := TTubeNode.E) (l := (L90000.set ((v47 : Int).toNat) (⟨x164.Node_Time, x163.X, x163.Y, x164.Node_Height, x164.Radius, x164.Band⟩ : TTubeNode))) (ty := 39) (o := 0) (own_some (ty := 39) (by first | rfl | (simp (disch := first | decide | assumption) only [mpushs_nil, mpushs_cons, mget_hd, mget_tl, mget_appW_o, mget_appW_n, mget_appW_e])) (getI_some h165).2) (getI_some h165).2 rfl (by decide) rfl))) ?_
    refine imp ex_i64_b ?_
    refine bind_b fun x166 h166 => ?_
    refine imp (opP_of (show _ = some ((AV.ptr 90000 (((v47 : Int).toNat) * 6 + 0)), []) from (idx_own (E := TTubeNode.E) (by first | rfl | omega | (simp; done) | (simp; omega)) h166))) ?_
    refine imp (opP_of (show _ = some ((AV.ptr 90000 (((v47 : Int).toNat) * 6 + 0)), []) from rfl)) ?_
    refine imp (opP_of (show _ = some ((AV.ptr 90000 (((v47 : Int).toNat) * 6 + 0)), []) from rfl)) ?_
    refine imp (storeW_elO (E := TTubeNode.E) (l := (L90000.set ((v47 : Int).toNat) (⟨x164.Node_Time, x163.X, x163.Y, x164.Node_Height, x164.Radius, x164.Band⟩ : TTubeNode))) (i := ((v47 : Int).toNat)) (o := 0) (y := (⟨(IntKind.wrap .i64 (x165.Node_Time + a2)), x166.Node_At_X, x166.Node_At_Y, x166.Node_Height, x166.Radius, x166.Band⟩ : TTubeNode)) (ty := 39) (by kernel_rfl) (by kernel_rfl) rfl (by first | rfl | (simp (disch := first | decide | assumption) only [mpushs_nil, mpushs_cons, mget_hd, mget_tl, mget_appW_o, mget_appW_n, mget_appW_e])) (getI_some h166).2 rfl (by decide) rfl) ?_
    exact fun hg => hN0 _ (Option.some.inj hg).symm _ (weak_mem [(90000, 90000), (0, 0)] rfl rfl rfl (okW_cons (.inl (leV_refl _)) (okW_cons (.inl (leV_refl _)) (okW_cons (.inl (leV_refl _)) (okW_cons (.inl (leV_refl _)) (okW_cons (ent_own (E := TTubeNode.E) (id := 90000) (l' := ((L90000.set ((v47 : Int).toNat) (⟨x164.Node_Time, x163.X, x163.Y, x164.Node_Height, x164.Radius, x164.Band⟩ : TTubeNode)).set ((v47 : Int).toNat) (⟨(IntKind.wrap .i64 (x165.Node_Time + a2)), x166.Node_At_X, x166.Node_At_Y, x166.Node_Height, x166.Radius, x166.Band⟩ : TTubeNode))) (by first | rfl | omega | (simp; done) | (simp; omega)) rfl) (okW_cons (.inl (leV_refl _)) (okW_cons (.inl (leV_refl _)) okW_nil))))))) (okB_cons (okB_own (E := TTubeNode.E) (ty := 39) (l' := ((L90000.set ((v47 : Int).toNat) (⟨x164.Node_Time, x163.X, x163.Y, x164.Node_Height, x164.Radius, x164.Band⟩ : TTubeNode)).set ((v47 : Int).toNat) (⟨(IntKind.wrap .i64 (x165.Node_Time + a2)), x166.Node_At_X, x166.Node_At_Y, x166.Node_Height, x166.Radius, x166.Band⟩ : TTubeNode))) rfl (show mget _ 90000 = _ from (by first | rfl | (simp (disch := first | decide | assumption) only [mpushs_nil, mpushs_cons, mget_hd, mget_tl, mget_appW_o, mget_appW_n, mget_appW_e])))) (okB_cons (okB_cells (cs := [(intA k0_0), (intA k0_1)]) (ty := 35) rfl (show mget _ 0 = _ from (by first | rfl | (simp (disch := first | decide | assumption) only [mpushs_nil, mpushs_cons, mget_hd, mget_tl, mget_appW_o, mget_appW_n, mget_appW_e])))) okB_nil')))
  · refine bind_b fun x167 h167 => ?_
    refine imp (callQ_pure (pure_snapN (snL_cons (sn_own (E := TTubeNode.E) (ty := 39) (l' := L90000) _ TTubeNode.nf rfl (by first | rfl | (simp (disch := first | decide | assumption) only [mpushs_nil, mpushs_cons, mget_hd, mget_tl, mget_appW_o, mget_appW_n, mget_appW_e]))) snL_nil) (sg28 h167) rfl)) ?_
    refine imp ex_i64_b ?_
    refine cond_b (fun _ => ?_) (fun _ => ?_)
    · exact fun hg => retN rfl (hR _ (Option.some.inj hg).symm) (fzL_cons (fz_nils (E := TTubeNode.E) _) (fzL_cons (fz_sc _ _) fzL_nil))
    · exact fun hg => retN rfl (hR _ (Option.some.inj hg).symm) (fzL_cons (fz_own (E := TTubeNode.E) (ty := 39) (l' := L90000) _ rfl (by first | rfl | (simp (disch := first | decide | assumption) only [mpushs_nil, mpushs_cons, mget_hd, mget_tl, mget_appW_o, mget_appW_n, mget_appW_e]))) (fzL_cons (fz_sc _ _) fzL_nil))
theorem L17_0_ok (n : Nat) (a2 : Int) (c7 : Int) (c46 : Int) (k0_0 : Int) (k0_1 : Int) {t : ρ17} (R : AV → Mem → Prop) (hR : ∀ r : ρ17, t = r → ∀ u m, Ans ((AV.tup [(lstA TTubeNode.E r.1), (intA r.2)])) u m → R u m) (k : Nat) (x : Int × List TTubeNode) (hx : iterO (fun y : Int × List TTubeNode => S17_0 n a2 c7 c46 k0_0 k0_1 y.1 y.2) k x = some t) {s : St} (hw : Weak KK 81 0 s (h17_0 a2 AV.nils c7 (ownV TTubeNode.E 90000 x.2) c46 x.1 [(90000, ownB TTubeNode.E 39 x.2), (0, some ⟨[(intA k0_0), (intA k0_1)], 35⟩)])) : Tri Try.prog KK 81 0 (.loop c17_0) s (q17_0 R ) :=
  L17_0 R  (σ := Nat × (Int × List TTubeNode)) (fun z => iterO (fun y : Int × List TTubeNode => S17_0 n a2 c7 c46 k0_0 k0_1 y.1 y.2) z.1 z.2 = some t) (fun z => a2) (fun z => AV.nils) (fun z => c7) (fun z => (ownV TTubeNode.E 90000 z.2.2)) (fun z => c46) (fun z => z.2.1) (fun z => [(90000, ownB TTubeNode.E 39 z.2.2), (0, some ⟨[(intA k0_0), (intA k0_1)], 35⟩)]) (fun z => z.1) (by
    rintro ⟨k, y⟩ h
    cases k with
    | zero => exact (iterO_zero h).elim
    | succ k =>
      obtain ⟨u, h1, h2, h3⟩ := iterO_elim h
      exact B17_0_ok n a2 c7 c46 k0_0 k0_1 y.1 y.2 R  _ (fun r e => hR r (h3 _ e).symm)  (fun y' e s' hw => ⟨(k, y'), h2 _ e, Nat.lt_succ_self k, hw⟩) h1) (k, x) hx hw
theorem g17_ok (n : Nat) (a0 : List TTubeNode) (a1 : TP) (a2 : Int) {t : ρ17} (R : AV → Mem → Prop) (hR : ∀ r : ρ17, t = r → ∀ u m, Ans ((AV.tup [(lstA TTubeNode.E r.1), (intA r.2)])) u m → R u m) : g17 n a0 a1 a2 = some t → F17 (lstA TTubeNode.E a0) a1.X a1.Y a2 R := by
  unfold g17 F17
  refine bind_b fun x160 h160 => ?_
  refine imp (callQ_says (sg28 h160)) ?_
  refine imp ex_i64_b ?_
  refine cond_b (fun _ => ?_) (fun _ => ?_)
  · exact fun hg => retN rfl (hR _ (Option.some.inj hg).symm) (fzL_cons (fz_nils (E := TTubeNode.E) _) (fzL_cons (fz_sc _ _) fzL_nil))
  · refine cond_b (fun _ => ?_) (fun _ => ?_)
    · exact fun hg => retN rfl (hR _ (Option.some.inj hg).symm) (fzL_cons (fz_nils (E := TTubeNode.E) _) (fzL_cons (fz_sc _ _) fzL_nil))
    · refine cond_b (fun _ => ?_) (fun _ => ?_)
      · exact fun hg => retN rfl (hR _ (Option.some.inj hg).symm) (fzL_cons (fz_nils (E := TTubeNode.E) _) (fzL_cons (fz_sc _ _) fzL_nil))
      · refine cond_b (fun _ => ?_) (fun _ => ?_)
        · exact fun hg => retN rfl (hR _ (Option.some.inj hg).symm) (fzL_cons (fz_nils (E := TTubeNode.E) _) (fzL_cons (fz_sc _ _) fzL_nil))
        · refine cond_b (fun _ => ?_) (fun _ => ?_)
          · exact fun hg => retN rfl (hR _ (Option.some.inj hg).symm) (fzL_cons (fz_nils (E := TTubeNode.E) _) (fzL_cons (fz_sc _ _) fzL_nil))
          · refine cond_b (fun _ => ?_) (fun _ => ?_)
            · exact fun hg => retN rfl (hR _ (Option.some.inj hg).symm) (fzL_cons (fz_nils (E := TTubeNode.E) _) (fzL_cons (fz_sc _ _) fzL_nil))
            · refine cond_b (fun _ => ?_) (fun _ => ?_)
              · exact fun hg => retN rfl (hR _ (Option.some.inj hg).symm) (fzL_cons (fz_nils (E := TTubeNode.E) _) (fzL_cons (fz_sc _ _) fzL_nil))
              · refine bind_b fun x161 h161 => ?_
                refine imp (callW_D (show PureD _ _ _ _ _ _ (ownV TTubeNode.E 98 a0) [(98, ownB TTubeNode.E 39 a0)] from cloneC33 h161)) ?_
                refine imp (opP_of (show _ = some ((intA (a0.length : Int)), []) from len_own)) ?_
                refine imp ex_i64_b ?_
                exact fun hg => L17_0_ok n a2 (0) (a0.length : Int) a1.X a1.Y R  hR n _ hg (weak_mem [(90000, 98), (0, 0)] rfl rfl rfl (okW_cons (.inl (leV_refl _)) (okW_cons (.inl (leV_refl _)) (okW_cons (.inl (leV_refl _)) (okW_cons (.inl (leV_refl _)) (okW_cons (ent_own (E := TTubeNode.E) (id := 98) (l' := a0) rfl rfl) (okW_cons (.inl (leV_refl _)) (okW_cons (.inl (leV_refl _)) okW_nil))))))) (okB_cons (okB_own (E := TTubeNode.E) (ty := 39) (l' := a0) rfl (show mget _ 98 = _ from (by first | rfl | (simp (disch := first | decide | assumption) only [mpushs_nil, mpushs_cons, mget_hd, mget_tl, mget_appW_o, mget_appW_n, mget_appW_e])))) (okB_cons (okB_cells (cs := [(intA a1.X), (intA a1.Y)]) (ty := 35) rfl (show mget _ 0 = _ from (by first | rfl | (simp (disch := first | decide | assumption) only [mpushs_nil, mpushs_cons, mget_hd, mget_tl, mget_appW_o, mget_appW_n, mget_appW_e])))) okB_nil')))
theorem sg17 {n : Nat} {a0 : List TTubeNode} {a1 : TP} {a2 : Int} {t : ρ17} (h : g17 n a0 a1 a2 = some t) : Says Try.prog KK.gl 17 [(lstA TTubeNode.E a0), (AV.agg [(intA a1.X), (intA a1.Y)]), (intA a2)] ((AV.tup [(lstA TTubeNode.E t.1), (intA t.2)])) :=
  says_of_own (by first | rfl | simp [cleans, clean, encs_clean, En.cln]) (by first | rfl | simp [cleans, clean, encs_clean, En.cln]) (F17_own (lstA TTubeNode.E a0) a1.X a1.Y a2 _ (g17_ok n a0 a1 a2 (Ans ((AV.tup [(lstA TTubeNode.E t.1), (intA t.2)]))) (fun r e u m h => by rw [e]; exact h) h))
/- skyway/skywaykeep3.SectorShifts -/
theorem B6_0_ok (n : Nat) (a2 : Int) (c6 : Bool) (c9 : List TSectorVisit) (c10 : List TSectorVisit) (c51 : Int) (v52 : Int) {t : (Int) ⊕ ρ6} (R : AV → Mem → Prop) (N0 : St → Prop) (hR : ∀ r : ρ6, t = (.inr r) → ∀ u m, Ans ((boolA r)) u m → R u m) (hN0 : ∀ y : Int, t = (.inl y) → ∀ s' : St, Weak KK 81 0 s' (h6_0 a2 c6 (lstA TSectorVisit.E c9) (lstA TSectorVisit.E c10) c51 y []) → N0 s') : S6_0 n a2 c6 c9 c10 c51 v52 = some t → B6_0 a2 c6 (lstA TSectorVisit.E c9) (lstA TSectorVisit.E c10) c51 v52 [] R N0 := by
  unfold S6_0 B6_0
  refine cond_b (fun _ => ?_) (fun _ => ?_)
  · refine bind_b fun x171 h171 => ?_
    refine imp (opP_of (show _ = some ((AV.ept [(intA x171.Sector), (intA x171.From), (intA x171.To)] 0), []) from (idx_lst (E := TSectorVisit.E) rfl h171))) ?_
    refine imp (opP_of (show _ = some ((AV.agg [(intA x171.Sector), (intA x171.From), (intA x171.To)]), []) from rfl)) ?_
    refine imp exA3_b ?_
    refine imp ex_i64_b ?_
    refine imp ex_i64_b ?_
    refine imp ex_i64_b ?_
    refine bind_b fun x172 h172 => ?_
    refine imp (opP_of (show _ = some ((AV.ept [(intA x172.Sector), (intA x172.From), (intA x172.To)] 0), []) from (idx_lst (E := TSectorVisit.E) rfl h172))) ?_
    refine imp (opP_of (show _ = some ((AV.ept [(intA x172.Sector), (intA x172.From), (intA x172.To)] 0), []) from rfl)) ?_
    refine imp (opP_of (show _ = some ((intA x172.Sector), []) from rfl)) ?_
    refine imp ex_i64_b ?_
    refine bind_b fun x173 h173 => ?_
    refine imp (opP_of (show _ = some ((AV.ept [(intA x173.Sector), (intA x173.From), (intA x173.To)] 0), []) from (idx_lst (E := TSectorVisit.E) rfl h173))) ?_
    refine imp (opP_of (show _ = some ((AV.ept [(intA x173.Sector), (intA x173.From), (intA x173.To)] 1), []) from rfl)) ?_
    refine imp (opP_of (show _ = some ((intA x173.From), []) from rfl)) ?_
    refine imp ex_i64_b ?_
    refine bind_b fun x174 h174 => ?_
    refine imp (opP_of (show _ = some ((AV.ept [(intA x174.Sector), (intA x174.From), (intA x174.To)] 0), []) from (idx_lst (E := TSectorVisit.E) rfl h174))) ?_
    refine imp (opP_of (show _ = some ((AV.ept [(intA x174.Sector), (intA x174.From), (intA x174.To)] 2), []) from rfl)) ?_
    refine imp (opP_of (show _ = some ((intA x174.To), []) from rfl)) ?_
    refine imp ex_i64_b ?_
    refine imp (opP_of (show _ = some ((AV.agg [(intA x172.Sector), (intA (IntKind.wrap .i64 (x173.From + a2))), (intA (IntKind.wrap .i64 (x174.To + a2)))]), []) from rfl)) ?_
    refine imp (opP_of (show _ = some ((boolA (!(decide (x171 = (⟨x172.Sector, (IntKind.wrap .i64 (x173.From + a2)), (IntKind.wrap .i64 (x174.To + a2))⟩ : TSectorVisit))))), []) from (TSectorVisit.neq33 (x171) ((⟨x172.Sector, (IntKind.wrap .i64 (x173.From + a2)), (IntKind.wrap .i64 (x174.To + a2))⟩ : TSectorVisit))))) ?_
    refine imp exB_b ?_
    refine cond_b (fun _ => ?_) (fun _ => ?_)
    · exact fun hg => ret1 (hR _ (Option.some.inj hg).symm) (fz_sc _ _)
    · exact fun hg => hN0 _ (Option.some.inj hg).symm _ (weak_mem [] rfl rfl rfl (okW_cons (.inl (leV_refl _)) (okW_cons (.inl (leV_refl _)) (okW_cons (ent_lst (E := TSectorVisit.E) _ false) (okW_cons (ent_lst (E := TSectorVisit.E) _ false) (okW_cons (.inl (leV_refl _)) (okW_cons (.inl (leV_refl _)) okW_nil)))))) okB_nil')
  · exact fun hg => ret1 (hR _ (Option.some.inj hg).symm) (fz_sc _ _)
theorem L6_0_ok (n : Nat) (a2 : Int) (c6 : Bool) (c9 : List TSectorVisit) (c10 : List TSectorVisit) (c51 : Int) {t : ρ6} (R : AV → Mem → Prop) (hR : ∀ r : ρ6, t = r → ∀ u m, Ans ((boolA r)) u m → R u m) (k : Nat) (x : Int) (hx : iterO (fun y : Int => S6_0 n a2 c6 c9 c10 c51 y) k x = some t) {s : St} (hw : Weak KK 81 0 s (h6_0 a2 c6 (lstA TSectorVisit.E c9) (lstA TSectorVisit.E c10) c51 x [])) : Tri Try.prog KK 81 0 (.loop c6_0) s (q6_0 R ) :=
  L6_0 R  (σ := Nat × (Int)) (fun z => iterO (fun y : Int => S6_0 n a2 c6 c9 c10 c51 y) z.1 z.2 = some t) (fun z => a2) (fun z => c6) (fun z => (lstA TSectorVisit.E c9)) (fun z => (lstA TSectorVisit.E c10)) (fun z => c51) (fun z => z.2) (fun z => []) (fun z => z.1) (by
    rintro ⟨k, y⟩ h
    cases k with
    | zero => exact (iterO_zero h).elim
    | succ k =>
      obtain ⟨u, h1, h2, h3⟩ := iterO_elim h
      exact B6_0_ok n a2 c6 c9 c10 c51 y R  _ (fun r e => hR r (h3 _ e).symm)  (fun y' e s' hw => ⟨(k, y'), h2 _ e, Nat.lt_succ_self k, hw⟩) h1) (k, x) hx hw
theorem g6_ok (n : Nat) (a0 : List TSector) (a1 : List TTubeNode) (a2 : Int) {t : ρ6} (R : AV → Mem → Prop) (hR : ∀ r : ρ6, t = r → ∀ u m, Ans ((boolA r)) u m → R u m) : g6 n a0 a1 a2 = some t → F6 (lstA TSector.E a0) (lstA TTubeNode.E a1) a2 R := by
  unfold g6 F6
  refine bind_b fun x158 h158 => ?_
  refine imp (callQ_says (sg9 h158)) ?_
  refine imp exB_b ?_
  refine cond_b (fun _ => ?_) (fun _ => ?_)
  · exact fun hg => ret1 (hR _ (Option.some.inj hg).symm) (fz_sc _ _)
  · refine imp (opN_of (show _ = some ((blkV (lstE TTubeNode.E) 67 ([a1] : List (List TTubeNode))), [(67, some ⟨encs (lstE TTubeNode.E) ([a1] : List (List TTubeNode)), 24⟩)]) from rfl)) ?_
    refine bind_b fun x159 h159 => ?_
    refine imp (callQ_pure (pure_snapN (snL_cons (sn_blk (E := (lstE TTubeNode.E)) (ty := 24) (l' := ([a1] : List (List TTubeNode))) _ (lstE.nf TTubeNode.E) rfl (by first | rfl | (simp (disch := first | decide | assumption) only [mpushs_nil, mpushs_cons, mget_hd, mget_tl, mget_appW_o, mget_appW_n, mget_appW_e]))) (snL_cons (sn_sc _ _) (snL_cons (sn_sc _ _) snL_nil))) (sg10 h159) rfl)) ?_
    refine imp exB_b ?_
    refine cond_b (fun _ => ?_) (fun _ => ?_)
    · exact fun hg => ret1 (hR _ (Option.some.inj hg).symm) (fz_sc _ _)
    · refine imp (opP_of (show _ = some ((AV.agg [(intA (0)), (intA (0))]), []) from rfl)) ?_
      refine bind_b fun x168 h168 => ?_
      refine imp (callQ_says (sg17 h168)) ?_
      refine imp exT2_b ?_
      refine imp ex_i64_b ?_
      refine cond_b (fun _ => ?_) (fun _ => ?_)
      · exact fun hg => ret1 (hR _ (Option.some.inj hg).symm) (fz_sc _ _)
      · refine bind_b fun x169 h169 => ?_
        refine imp (callQ_says (sg11 h169)) ?_
        refine imp exT2_b ?_
        refine imp ex_i64_b ?_
        refine bind_b fun x170 h170 => ?_
        refine imp (callQ_says (sg11 h170)) ?_
        refine imp exT2_b ?_
        refine imp ex_i64_b ?_
        refine cond_b (fun _ => ?_) (fun _ => ?_)
        · exact fun hg => ret1 (hR _ (Option.some.inj hg).symm) (fz_sc _ _)
        · refine imp (opP_of (show _ = some ((intA (x169.1.length : Int)), []) from rfl)) ?_
          refine imp ex_i64_b ?_
          refine imp (opP_of (show _ = some ((intA (x170.1.length : Int)), []) from rfl)) ?_
          refine imp ex_i64_b ?_
          refine cond_b (fun _ => ?_) (fun _ => ?_)
          · exact fun hg => ret1 (hR _ (Option.some.inj hg).symm) (fz_sc _ _)
          · refine imp (opP_of (show _ = some ((intA (x169.1.length : Int)), []) from rfl)) ?_
            refine imp ex_i64_b ?_
            exact fun hg => L6_0_ok n a2 false x169.1 x170.1 (x169.1.length : Int) R  hR n _ hg (weak_mem [] rfl rfl rfl (okW_cons (.inl (leV_refl _)) (okW_cons (.inl (leV_refl _)) (okW_cons (ent_lst (E := TSectorVisit.E) _ false) (okW_cons (ent_lst (E := TSectorVisit.E) _ false) (okW_cons (.inl (leV_refl _)) (okW_cons (.inl (leV_refl _)) okW_nil)))))) okB_nil')
theorem sg6 {n : Nat} {a0 : List TSector} {a1 : List TTubeNode} {a2 : Int} {t : ρ6} (h : g6 n a0 a1 a2 = some t) : Says Try.prog KK.gl 6 [(lstA TSector.E a0), (lstA TTubeNode.E a1), (intA a2)] ((boolA t)) :=
  says_of_own (by first | rfl | simp [cleans, clean, encs_clean, En.cln]) (by first | rfl | simp [cleans, clean, encs_clean, En.cln]) (F6_own (lstA TSector.E a0) (lstA TTubeNode.E a1) a2 _ (g6_ok n a0 a1 a2 (Ans ((boolA t))) (fun r e u m h => by rw [e]; exact h) h))
/- skyway/load.check -/
theorem B40_0_ok (n : Nat) (c4 : Int) (a1 : List (List TTubeNode)) (c18 : Int) (v19 : Int) {t : (Int) ⊕ ρ40} (R : AV → Mem → Prop) (N0 : St → Prop) (hR : ∀ r : ρ40, t = (.inr r) → ∀ u m, Ans ((intA r)) u m → R u m) (hN0 : ∀ y : Int, t = (.inl y) → ∀ s' : St, Weak KK 29 0 s' (h40_0 c4 (lstA (lstE TTubeNode.E) a1) c18 y []) → N0 s') : S40_0 n c4 a1 c18 v19 = some t → B40_0 c4 (lstA (lstE TTubeNode.E) a1) c18 v19 [] R N0 := by
  unfold S40_0 B40_0
  refine cond_b (fun _ => ?_) (fun _ => ?_)
  · refine bind_b fun x177 h177 => ?_
    refine imp (opP_of (show _ = some ((AV.ept [(lstA TTubeNode.E x177)] 0), []) from (idx_lst (E := (lstE TTubeNode.E)) rfl h177))) ?_
    refine imp (opP_of (show _ = some ((lstA TTubeNode.E x177), []) from rfl)) ?_
    refine bind_b fun x178 h178 => ?_
    refine imp (callQ_says (sg28 h178)) ?_
    refine imp ex_i64_b ?_
    refine cond_b (fun _ => ?_) (fun _ => ?_)
    · exact fun hg => ret1 (hR _ (Option.some.inj hg).symm) (fz_sc _ _)
    · exact fun hg => hN0 _ (Option.some.inj hg).symm _ (weak_mem [] rfl rfl rfl (okW_cons (.inl (leV_refl _)) (okW_cons (ent_lst (E := (lstE TTubeNode.E)) _ false) (okW_cons (.inl (leV_refl _)) (okW_cons (.inl (leV_refl _)) okW_nil)))) okB_nil')
  · exact fun hg => ret1 (hR _ (Option.some.inj hg).symm) (fz_sc _ _)
theorem L40_0_ok (n : Nat) (c4 : Int) (a1 : List (List TTubeNode)) (c18 : Int) {t : ρ40} (R : AV → Mem → Prop) (hR : ∀ r : ρ40, t = r → ∀ u m, Ans ((intA r)) u m → R u m) (k : Nat) (x : Int) (hx : iterO (fun y : Int => S40_0 n c4 a1 c18 y) k x = some t) {s : St} (hw : Weak KK 29 0 s (h40_0 c4 (lstA (lstE TTubeNode.E) a1) c18 x [])) : Tri Try.prog KK 29 0 (.loop c40_0) s (q40_0 R ) :=
  L40_0 R  (σ := Nat × (Int)) (fun z => iterO (fun y : Int => S40_0 n c4 a1 c18 y) z.1 z.2 = some t) (fun z => c4) (fun z => (lstA (lstE TTubeNode.E) a1)) (fun z => c18) (fun z => z.2) (fun z => []) (fun z => z.1) (by
    rintro ⟨k, y⟩ h
    cases k with
    | zero => exact (iterO_zero h).elim
    | succ k =>
      obtain ⟨u, h1, h2, h3⟩ := iterO_elim h
      exact B40_0_ok n c4 a1 c18 y R  _ (fun r e => hR r (h3 _ e).symm)  (fun y' e s' hw => ⟨(k, y'), h2 _ e, Nat.lt_succ_self k, hw⟩) h1) (k, x) hx hw
theorem g40_ok (n : Nat) (a0 : List TSector) (a1 : List (List TTubeNode)) {t : ρ40} (R : AV → Mem → Prop) (hR : ∀ r : ρ40, t = r → ∀ u m, Ans ((intA r)) u m → R u m) : g40 n a0 a1 = some t → F40 (lstA TSector.E a0) (lstA (lstE TTubeNode.E) a1) R := by
  unfold g40 F40
  refine bind_b fun x176 h176 => ?_
  refine imp (callQ_says (sg24 h176)) ?_
  refine imp ex_i64_b ?_
  refine cond_b (fun _ => ?_) (fun _ => ?_)
  · exact fun hg => ret1 (hR _ (Option.some.inj hg).symm) (fz_sc _ _)
  · refine imp (opP_of (show _ = some ((intA (a1.length : Int)), []) from rfl)) ?_
    refine imp ex_i64_b ?_
    refine cond_b (fun _ => ?_) (fun _ => ?_)
    · exact fun hg => ret1 (hR _ (Option.some.inj hg).symm) (fz_sc _ _)
    · refine imp (opP_of (show _ = some ((intA (a1.length : Int)), []) from rfl)) ?_
      refine imp ex_i64_b ?_
      exact fun hg => L40_0_ok n (0) a1 (a1.length : Int) R  hR n _ hg (weak_mem [] rfl rfl rfl (okW_cons (.inl (leV_refl _)) (okW_cons (ent_lst (E := (lstE TTubeNode.E)) _ false) (okW_cons (.inl (leV_refl _)) (okW_cons (.inl (leV_refl _)) okW_nil)))) okB_nil')
theorem sg40 {n : Nat} {a0 : List TSector} {a1 : List (List TTubeNode)} {t : ρ40} (h : g40 n a0 a1 = some t) : Says Try.prog KK.gl 40 [(lstA TSector.E a0), (lstA (lstE TTubeNode.E) a1)] ((intA t)) :=
  says_of_own (by first | rfl | simp [cleans, clean, encs_clean, En.cln]) (by first | rfl | simp [cleans, clean, encs_clean, En.cln]) (F40_own (lstA TSector.E a0) (lstA (lstE TTubeNode.E) a1) _ (g40_ok n a0 a1 (Ans ((intA t))) (fun r e u m h => by rw [e]; exact h) h))
/- skyway/load.count -/
theorem B41_0_ok (n : Nat) (a0 : List TSector) (a2 : Int) (c7 : Int) (a1 : List (List TTubeNode)) (c19 : Int) (v9 : Int) (v20 : Int) (L90000 : List Int) {t : (Int × Int × List Int) ⊕ ρ41} (R : AV → Mem → Prop) (N0 : St → Prop) (hR : ∀ r : ρ41, t = (.inr r) → ∀ u m, Ans ((AV.tup [(lstA intE r.1), (intA r.2)])) u m → R u m) (hN0 : ∀ y : Int × Int × List Int, t = (.inl y) → ∀ s' : St, Weak KK 53 0 s' (h41_0 (lstA TSector.E a0) a2 AV.nils c7 (blkV intE 90000 y.2.2) y.1 (lstA (lstE TTubeNode.E) a1) c19 y.2.1 [(90000, some ⟨encs intE y.2.2, 3⟩)]) → N0 s') : S41_0 n a0 a2 c7 a1 c19 v9 v20 L90000 = some t → B41_0 (lstA TSector.E a0) a2 AV.nils c7 (blkV intE 90000 L90000) v9 (lstA (lstE TTubeNode.E) a1) c19 v20 [(90000, some ⟨encs intE L90000, 3⟩)] R N0 := by
  unfold S41_0 B41_0
  refine cond_b (fun _ => ?_) (fun _ => ?_)
  · refine bind_b fun x181 h181 => ?_
    refine imp (opP_of (show _ = some ((AV.ept [(lstA TTubeNode.E x181)] 0), []) from (idx_lst (E := (lstE TTubeNode.E)) rfl h181))) ?_
    refine imp (opP_of (show _ = some ((lstA TTubeNode.E x181), []) from rfl)) ?_
    refine bind_b fun x182 h182 => ?_
    refine imp (callQ_says (sg20 h182)) ?_
    refine imp exT2_b ?_
    refine imp exA6_b ?_
    refine imp ex_i64_b ?_
    refine imp ex_i64_b ?_
    refine imp ex_i64_b ?_
    refine imp ex_i64_b ?_
    refine imp ex_i64_b ?_
    refine imp ex_i64_b ?_
    refine imp ex_i64_b ?_
    refine cond_b (fun _ => ?_) (fun _ => ?_)
    · exact fun hg => hN0 _ (Option.some.inj hg).symm _ (weak_mem [(90000, 90000)] rfl rfl rfl (okW_cons (ent_lst (E := TSector.E) _ false) (okW_cons (.inl (leV_refl _)) (okW_cons (.inl (leV_refl _)) (okW_cons (.inl (leV_refl _)) (okW_cons (ent_blk (E := intE) (id := 90000) (l' := L90000) rfl rfl) (okW_cons (.inl (leV_refl _)) (okW_cons (ent_lst (E := (lstE TTubeNode.E)) _ false) (okW_cons (.inl (leV_refl _)) (okW_cons (.inl (leV_refl _)) okW_nil))))))))) (okB_cons (okB_cells (cs := encs intE L90000) (ty := 3) (encs_clean _) (show mget _ 90000 = _ from (by first | rfl | (simp (disch := first | decide | assumption) only [mpushs_nil, mpushs_cons, mget_hd, mget_tl, mget_appW_o, mget_appW_n, mget_appW_e])))) okB_nil'))
    · refine bind_b fun x183 h183 => ?_
      refine imp (callQ_says (sg32 h183)) ?_
      refine imp ex_i64_b ?_
      refine cond_b (fun _ => ?_) (fun _ => ?_)
      · refine bind_b fun x184 h184 => ?_
        refine imp (opP_of (show _ = some ((AV.ptr 90000 (((x183 : Int).toNat) * 1 + 0)), []) from (idx_blk (E := intE) rfl h184))) ?_
        refine imp (opP_of (show _ = some ((intA x184), []) from (ldS_blk (E := intE) (l := L90000) (ty := 3) (o := 0) (by first | rfl | (simp (disch := first | decide | assumption) only [mpushs_nil, mpushs_cons, mget_hd, mget_tl, mget_appW_o, mget_appW_n, mget_appW_e])) (getI_some h184).2 rfl (by decide) rfl))) ?_
        refine imp ex_i64_b ?_
        refine bind_b fun x185 h185 => ?_
        refine imp (opP_of (show _ = some ((AV.ptr 90000 (((x183 : Int).toNat) * 1 + 0)), []) from (idx_blk (E := intE) rfl h185))) ?_
        refine imp (storeW_el (E := intE) (l := L90000) (i := ((x183 : Int).toNat)) (o := 0) (y := (IntKind.wrap .i64 (x184 + (1)))) (ty := 3) (by kernel_rfl) (by kernel_rfl) rfl (by first | rfl | (simp (disch := first | decide | assumption) only [mpushs_nil, mpushs_cons, mget_hd, mget_tl, mget_appW_o, mget_appW_n, mget_appW_e])) (getI_some h185).2 rfl (by decide) rfl) ?_
        exact fun hg => hN0 _ (Option.some.inj hg).symm _ (weak_mem [(90000, 90000)] rfl rfl rfl (okW_cons (ent_lst (E := TSector.E) _ false) (okW_cons (.inl (leV_refl _)) (okW_cons (.inl (leV_refl _)) (okW_cons (.inl (leV_refl _)) (okW_cons (ent_blk (E := intE) (id := 90000) (l' := (L90000.set ((x183 : Int).toNat) (IntKind.wrap .i64 (x184 + (1))))) (by first | rfl | omega | (simp; done) | (simp; omega)) rfl) (okW_cons (.inl (leV_refl _)) (okW_cons (ent_lst (E := (lstE TTubeNode.E)) _ false) (okW_cons (.inl (leV_refl _)) (okW_cons (.inl (leV_refl _)) okW_nil))))))))) (okB_cons (okB_cells (cs := encs intE (L90000.set ((x183 : Int).toNat) (IntKind.wrap .i64 (x184 + (1))))) (ty := 3) (encs_clean _) (show mget _ 90000 = _ from (by first | rfl | (simp (disch := first | decide | assumption) only [mpushs_nil, mpushs_cons, mget_hd, mget_tl, mget_appW_o, mget_appW_n, mget_appW_e])))) okB_nil'))
      · exact fun hg => hN0 _ (Option.some.inj hg).symm _ (weak_mem [(90000, 90000)] rfl rfl rfl (okW_cons (ent_lst (E := TSector.E) _ false) (okW_cons (.inl (leV_refl _)) (okW_cons (.inl (leV_refl _)) (okW_cons (.inl (leV_refl _)) (okW_cons (ent_blk (E := intE) (id := 90000) (l' := L90000) rfl rfl) (okW_cons (.inl (leV_refl _)) (okW_cons (ent_lst (E := (lstE TTubeNode.E)) _ false) (okW_cons (.inl (leV_refl _)) (okW_cons (.inl (leV_refl _)) okW_nil))))))))) (okB_cons (okB_cells (cs := encs intE L90000) (ty := 3) (encs_clean _) (show mget _ 90000 = _ from (by first | rfl | (simp (disch := first | decide | assumption) only [mpushs_nil, mpushs_cons, mget_hd, mget_tl, mget_appW_o, mget_appW_n, mget_appW_e])))) okB_nil'))
  · exact fun hg => retN rfl (hR _ (Option.some.inj hg).symm) (fzL_cons (fz_blk (E := intE) (ty := 3) (l' := L90000) _ rfl (by first | rfl | (simp (disch := first | decide | assumption) only [mpushs_nil, mpushs_cons, mget_hd, mget_tl, mget_appW_o, mget_appW_n, mget_appW_e]))) (fzL_cons (fz_sc _ _) fzL_nil))
theorem L41_0_ok (n : Nat) (a0 : List TSector) (a2 : Int) (c7 : Int) (a1 : List (List TTubeNode)) (c19 : Int) {t : ρ41} (R : AV → Mem → Prop) (hR : ∀ r : ρ41, t = r → ∀ u m, Ans ((AV.tup [(lstA intE r.1), (intA r.2)])) u m → R u m) (k : Nat) (x : Int × Int × List Int) (hx : iterO (fun y : Int × Int × List Int => S41_0 n a0 a2 c7 a1 c19 y.1 y.2.1 y.2.2) k x = some t) {s : St} (hw : Weak KK 53 0 s (h41_0 (lstA TSector.E a0) a2 AV.nils c7 (blkV intE 90000 x.2.2) x.1 (lstA (lstE TTubeNode.E) a1) c19 x.2.1 [(90000, some ⟨encs intE x.2.2, 3⟩)])) : Tri Try.prog KK 53 0 (.loop c41_0) s (q41_0 R ) :=
  L41_0 R  (σ := Nat × (Int × Int × List Int)) (fun z => iterO (fun y : Int × Int × List Int => S41_0 n a0 a2 c7 a1 c19 y.1 y.2.1 y.2.2) z.1 z.2 = some t) (fun z => (lstA TSector.E a0)) (fun z => a2) (fun z => AV.nils) (fun z => c7) (fun z => (blkV intE 90000 z.2.2.2)) (fun z => z.2.1) (fun z => (lstA (lstE TTubeNode.E) a1)) (fun z => c19) (fun z => z.2.2.1) (fun z => [(90000, some ⟨encs intE z.2.2.2, 3⟩)]) (fun z => z.1) (by
    rintro ⟨k, y⟩ h
    cases k with
    | zero => exact (iterO_zero h).elim
    | succ k =>
      obtain ⟨u, h1, h2, h3⟩ := iterO_elim h
      exact B41_0_ok n a0 a2 c7 a1 c19 y.1 y.2.1 y.2.2 R  _ (fun r e => hR r (h3 _ e).symm)  (fun y' e s' hw => ⟨(k, y'), h2 _ e, Nat.lt_succ_self k, hw⟩) h1) (k, x) hx hw
theorem g41_ok (n : Nat) (a0 : List TSector) (a1 : List (List TTubeNode)) (a2 : Int) {t : ρ41} (R : AV → Mem → Prop) (hR : ∀ r : ρ41, t = r → ∀ u m, Ans ((AV.tup [(lstA intE r.1), (intA r.2)])) u m → R u m) : g41 n a0 a1 a2 = some t → F41 (lstA TSector.E a0) (lstA (lstE TTubeNode.E) a1) a2 R := by
  unfold g41 F41
  refine imp (opP_of (show _ = some ((intA (a0.length : Int)), []) from rfl)) ?_
  refine imp ex_i64_b ?_
  refine bind_b fun x180 h180 => ?_
  refine imp (opN_of (show _ = some ((blkV intE 4 (List.replicate x180 (0))), [(4, some ⟨encs intE (List.replicate x180 (0)), 3⟩)]) from (mks_ok (E := intE) (z := (0)) rfl rfl h180))) ?_
  refine imp (opP_of (show _ = some ((intA (a1.length : Int)), []) from rfl)) ?_
  refine imp ex_i64_b ?_
  exact fun hg => L41_0_ok n a0 a2 (0) a1 (a1.length : Int) R  hR n _ hg (weak_mem [(90000, 4)] rfl rfl rfl (okW_cons (ent_lst (E := TSector.E) _ false) (okW_cons (.inl (leV_refl _)) (okW_cons (.inl (leV_refl _)) (okW_cons (.inl (leV_refl _)) (okW_cons (ent_blk (E := intE) (id := 4) (l' := (List.replicate x180 (0))) rfl rfl) (okW_cons (.inl (leV_refl _)) (okW_cons (ent_lst (E := (lstE TTubeNode.E)) _ false) (okW_cons (.inl (leV_refl _)) (okW_cons (.inl (leV_refl _)) okW_nil))))))))) (okB_cons (okB_cells (cs := encs intE (List.replicate x180 (0))) (ty := 3) (encs_clean _) (show mget _ 4 = _ from (by first | rfl | (simp (disch := first | decide | assumption) only [mpushs_nil, mpushs_cons, mget_hd, mget_tl, mget_appW_o, mget_appW_n, mget_appW_e])))) okB_nil'))
theorem sg41 {n : Nat} {a0 : List TSector} {a1 : List (List TTubeNode)} {a2 : Int} {t : ρ41} (h : g41 n a0 a1 a2 = some t) : Says Try.prog KK.gl 41 [(lstA TSector.E a0), (lstA (lstE TTubeNode.E) a1), (intA a2)] ((AV.tup [(lstA intE t.1), (intA t.2)])) :=
  says_of_own (by first | rfl | simp [cleans, clean, encs_clean, En.cln]) (by first | rfl | simp [cleans, clean, encs_clean, En.cln]) (F41_own (lstA TSector.E a0) (lstA (lstE TTubeNode.E) a1) a2 _ (g41_ok n a0 a1 a2 (Ans ((AV.tup [(lstA intE t.1), (intA t.2)]))) (fun r e u m h => by rw [e]; exact h) h))
/- skyway/load.count -/
theorem B41_0_okM (n : Nat) (a0 : List TSector) (a2 : Int) (c7 : Int) (a1 : List (List TTubeNode)) (c19 : Int) (v9 : Int) (v20 : Int) (L90000 : List Int) {t : (Int × Int × List Int) ⊕ ρ41} (R : AV → Mem → Prop) (N0 : St → Prop) (hR : ∀ r : ρ41, t = (.inr r) → ∀ u m, MadeT intE 3 r.1 [Value.int .i64 r.2] u m → R u m) (hN0 : ∀ y : Int × Int × List Int, t = (.inl y) → ∀ s' : St, Weak KK 53 0 s' (h41_0 (lstA TSector.E a0) a2 AV.nils c7 (blkV intE 90000 y.2.2) y.1 (lstA (lstE TTubeNode.E) a1) c19 y.2.1 [(90000, some ⟨encs intE y.2.2, 3⟩)]) → N0 s') : S41_0 n a0 a2 c7 a1 c19 v9 v20 L90000 = some t → B41_0 (lstA TSector.E a0) a2 AV.nils c7 (blkV intE 90000 L90000) v9 (lstA (lstE TTubeNode.E) a1) c19 v20 [(90000, some ⟨encs intE L90000, 3⟩)] R N0 := by
  unfold S41_0 B41_0
  refine cond_b (fun _ => ?_) (fun _ => ?_)
  · refine bind_b fun x188 h188 => ?_
    refine imp (opP_of (show _ = some ((AV.ept [(lstA TTubeNode.E x188)] 0), []) from (idx_lst (E := (lstE TTubeNode.E)) rfl h188))) ?_
    refine imp (opP_of (show _ = some ((lstA TTubeNode.E x188), []) from rfl)) ?_
    refine bind_b fun x189 h189 => ?_
    refine imp (callQ_says (sg20 h189)) ?_
    refine imp exT2_b ?_
    refine imp exA6_b ?_
    refine imp ex_i64_b ?_
    refine imp ex_i64_b ?_
    refine imp ex_i64_b ?_
    refine imp ex_i64_b ?_
    refine imp ex_i64_b ?_
    refine imp ex_i64_b ?_
    refine imp ex_i64_b ?_
    refine cond_b (fun _ => ?_) (fun _ => ?_)
    · exact fun hg => hN0 _ (Option.some.inj hg).symm _ (weak_mem [(90000, 90000)] rfl rfl rfl (okW_cons (ent_lst (E := TSector.E) _ false) (okW_cons (.inl (leV_refl _)) (okW_cons (.inl (leV_refl _)) (okW_cons (.inl (leV_refl _)) (okW_cons (ent_blk (E := intE) (id := 90000) (l' := L90000) rfl rfl) (okW_cons (.inl (leV_refl _)) (okW_cons (ent_lst (E := (lstE TTubeNode.E)) _ false) (okW_cons (.inl (leV_refl _)) (okW_cons (.inl (leV_refl _)) okW_nil))))))))) (okB_cons (okB_cells (cs := encs intE L90000) (ty := 3) (encs_clean _) (show mget _ 90000 = _ from (by first | rfl | (simp (disch := first | decide | assumption) only [mpushs_nil, mpushs_cons, mget_hd, mget_tl, mget_appW_o, mget_appW_n, mget_appW_e])))) okB_nil'))
    · refine bind_b fun x190 h190 => ?_
      refine imp (callQ_says (sg32 h190)) ?_
      refine imp ex_i64_b ?_
      refine cond_b (fun _ => ?_) (fun _ => ?_)
      · refine bind_b fun x191 h191 => ?_
        refine imp (opP_of (show _ = some ((AV.ptr 90000 (((x190 : Int).toNat) * 1 + 0)), []) from (idx_blk (E := intE) rfl h191))) ?_
        refine imp (opP_of (show _ = some ((intA x191), []) from (ldS_blk (E := intE) (l := L90000) (ty := 3) (o := 0) (by first | rfl | (simp (disch := first | decide | assumption) only [mpushs_nil, mpushs_cons, mget_hd, mget_tl, mget_appW_o, mget_appW_n, mget_appW_e])) (getI_some h191).2 rfl (by decide) rfl))) ?_
        refine imp ex_i64_b ?_
        refine bind_b fun x192 h192 => ?_
        refine imp (opP_of (show _ = some ((AV.ptr 90000 (((x190 : Int).toNat) * 1 + 0)), []) from (idx_blk (E := intE) rfl h192))) ?_
        refine imp (storeW_el (E := intE) (l := L90000) (i := ((x190 : Int).toNat)) (o := 0) (y := (IntKind.wrap .i64 (x191 + (1)))) (ty := 3) (by kernel_rfl) (by kernel_rfl) rfl (by first | rfl | (simp (disch := first | decide | assumption) only [mpushs_nil, mpushs_cons, mget_hd, mget_tl, mget_appW_o, mget_appW_n, mget_appW_e])) (getI_some h192).2 rfl (by decide) rfl) ?_
        exact fun hg => hN0 _ (Option.some.inj hg).symm _ (weak_mem [(90000, 90000)] rfl rfl rfl (okW_cons (ent_lst (E := TSector.E) _ false) (okW_cons (.inl (leV_refl _)) (okW_cons (.inl (leV_refl _)) (okW_cons (.inl (leV_refl _)) (okW_cons (ent_blk (E := intE) (id := 90000) (l' := (L90000.set ((x190 : Int).toNat) (IntKind.wrap .i64 (x191 + (1))))) (by first | rfl | omega | (simp; done) | (simp; omega)) rfl) (okW_cons (.inl (leV_refl _)) (okW_cons (ent_lst (E := (lstE TTubeNode.E)) _ false) (okW_cons (.inl (leV_refl _)) (okW_cons (.inl (leV_refl _)) okW_nil))))))))) (okB_cons (okB_cells (cs := encs intE (L90000.set ((x190 : Int).toNat) (IntKind.wrap .i64 (x191 + (1))))) (ty := 3) (encs_clean _) (show mget _ 90000 = _ from (by first | rfl | (simp (disch := first | decide | assumption) only [mpushs_nil, mpushs_cons, mget_hd, mget_tl, mget_appW_o, mget_appW_n, mget_appW_e])))) okB_nil'))
      · exact fun hg => hN0 _ (Option.some.inj hg).symm _ (weak_mem [(90000, 90000)] rfl rfl rfl (okW_cons (ent_lst (E := TSector.E) _ false) (okW_cons (.inl (leV_refl _)) (okW_cons (.inl (leV_refl _)) (okW_cons (.inl (leV_refl _)) (okW_cons (ent_blk (E := intE) (id := 90000) (l' := L90000) rfl rfl) (okW_cons (.inl (leV_refl _)) (okW_cons (ent_lst (E := (lstE TTubeNode.E)) _ false) (okW_cons (.inl (leV_refl _)) (okW_cons (.inl (leV_refl _)) okW_nil))))))))) (okB_cons (okB_cells (cs := encs intE L90000) (ty := 3) (encs_clean _) (show mget _ 90000 = _ from (by first | rfl | (simp (disch := first | decide | assumption) only [mpushs_nil, mpushs_cons, mget_hd, mget_tl, mget_appW_o, mget_appW_n, mget_appW_e])))) okB_nil'))
  · exact fun hg => hR _ (Option.some.inj hg).symm _ _ ⟨_, rfl, (made_blk_pf (E := intE) (ty := 3) (l := L90000) rfl (by first | rfl | (simp (disch := first | decide | assumption) only [mpushs_nil, mpushs_cons, mget_hd, mget_tl, mget_appW_o, mget_appW_n, mget_appW_e])))⟩
theorem L41_0_okM (n : Nat) (a0 : List TSector) (a2 : Int) (c7 : Int) (a1 : List (List TTubeNode)) (c19 : Int) {t : ρ41} (R : AV → Mem → Prop) (hR : ∀ r : ρ41, t = r → ∀ u m, MadeT intE 3 r.1 [Value.int .i64 r.2] u m → R u m) (k : Nat) (x : Int × Int × List Int) (hx : iterO (fun y : Int × Int × List Int => S41_0 n a0 a2 c7 a1 c19 y.1 y.2.1 y.2.2) k x = some t) {s : St} (hw : Weak KK 53 0 s (h41_0 (lstA TSector.E a0) a2 AV.nils c7 (blkV intE 90000 x.2.2) x.1 (lstA (lstE TTubeNode.E) a1) c19 x.2.1 [(90000, some ⟨encs intE x.2.2, 3⟩)])) : Tri Try.prog KK 53 0 (.loop c41_0) s (q41_0 R ) :=
  L41_0 R  (σ := Nat × (Int × Int × List Int)) (fun z => iterO (fun y : Int × Int × List Int => S41_0 n a0 a2 c7 a1 c19 y.1 y.2.1 y.2.2) z.1 z.2 = some t) (fun z => (lstA TSector.E a0)) (fun z => a2) (fun z => AV.nils) (fun z => c7) (fun z => (blkV intE 90000 z.2.2.2)) (fun z => z.2.1) (fun z => (lstA (lstE TTubeNode.E) a1)) (fun z => c19) (fun z => z.2.2.1) (fun z => [(90000, some ⟨encs intE z.2.2.2, 3⟩)]) (fun z => z.1) (by
    rintro ⟨k, y⟩ h
    cases k with
    | zero => exact (iterO_zero h).elim
    | succ k =>
      obtain ⟨u, h1, h2, h3⟩ := iterO_elim h
      exact B41_0_okM n a0 a2 c7 a1 c19 y.1 y.2.1 y.2.2 R  _ (fun r e => hR r (h3 _ e).symm)  (fun y' e s' hw => ⟨(k, y'), h2 _ e, Nat.lt_succ_self k, hw⟩) h1) (k, x) hx hw
theorem g41_okM (n : Nat) (a0 : List TSector) (a1 : List (List TTubeNode)) (a2 : Int) {t : ρ41} (R : AV → Mem → Prop) (hR : ∀ r : ρ41, t = r → ∀ u m, MadeT intE 3 r.1 [Value.int .i64 r.2] u m → R u m) : g41 n a0 a1 a2 = some t → F41 (lstA TSector.E a0) (lstA (lstE TTubeNode.E) a1) a2 R := by
  unfold g41 F41
  refine imp (opP_of (show _ = some ((intA (a0.length : Int)), []) from rfl)) ?_
  refine imp ex_i64_b ?_
  refine bind_b fun x187 h187 => ?_
  refine imp (opN_of (show _ = some ((blkV intE 4 (List.replicate x187 (0))), [(4, some ⟨encs intE (List.replicate x187 (0)), 3⟩)]) from (mks_ok (E := intE) (z := (0)) rfl rfl h187))) ?_
  refine imp (opP_of (show _ = some ((intA (a1.length : Int)), []) from rfl)) ?_
  refine imp ex_i64_b ?_
  exact fun hg => L41_0_okM n a0 a2 (0) a1 (a1.length : Int) R  hR n _ hg (weak_mem [(90000, 4)] rfl rfl rfl (okW_cons (ent_lst (E := TSector.E) _ false) (okW_cons (.inl (leV_refl _)) (okW_cons (.inl (leV_refl _)) (okW_cons (.inl (leV_refl _)) (okW_cons (ent_blk (E := intE) (id := 4) (l' := (List.replicate x187 (0))) rfl rfl) (okW_cons (.inl (leV_refl _)) (okW_cons (ent_lst (E := (lstE TTubeNode.E)) _ false) (okW_cons (.inl (leV_refl _)) (okW_cons (.inl (leV_refl _)) okW_nil))))))))) (okB_cons (okB_cells (cs := encs intE (List.replicate x187 (0))) (ty := 3) (encs_clean _) (show mget _ 4 = _ from (by first | rfl | (simp (disch := first | decide | assumption) only [mpushs_nil, mpushs_cons, mget_hd, mget_tl, mget_appW_o, mget_appW_n, mget_appW_e])))) okB_nil'))
theorem mg41C {n k : Nat} {look : Nat → Option ABlk} {a0 : List TSector} {a1 : List (List TTubeNode)} {a2 : Int} {t : ρ41} (h : g41 n a0 a1 a2 = some t) : PureD Try.prog KK.gl look k 41 [(lstA TSector.E a0), (lstA (lstE TTubeNode.E) a1), (intA a2)] (.tup (ownV intE k t.1 :: ([Value.int .i64 t.2] : List Value).map AV.sc)) [(k, ownB intE 3 t.1)] :=
  made_tupC (by first | rfl | simp [cleans, clean, encs_clean, En.cln]) (F41_own (lstA TSector.E a0) (lstA (lstE TTubeNode.E) a1) a2 _ (g41_okM n a0 a1 a2 (MadeT intE 3 t.1 [Value.int .i64 t.2]) (fun r e u m h => by rw [e]; exact h) h))
theorem mg41S {n k : Nat} {look : Nat → Option ABlk} {args : List AV} {a0 : List TSector} {a1 : List (List TTubeNode)} {a2 : Int} {t : ρ41} (h : g41 n a0 a1 a2 = some t) (hs : SnL look 6 args [(lstA TSector.E a0), (lstA (lstE TTubeNode.E) a1), (intA a2)]) : PureD Try.prog KK.gl look k 41 args (.tup (ownV intE k t.1 :: ([Value.int .i64 t.2] : List Value).map AV.sc)) [(k, ownB intE 3 t.1)] :=
  made_tupS (fun _ => rfl) hs (F41_own (lstA TSector.E a0) (lstA (lstE TTubeNode.E) a1) a2 _ (g41_okM n a0 a1 a2 (MadeT intE 3 t.1 [Value.int .i64 t.2]) (fun r e u m h => by rw [e]; exact h) h))
/- skyway/load.Count -/
theorem g19_ok (n : Nat) (a0 : List TSector) (a1 : List (List TTubeNode)) (a2 : Int) {t : ρ19} (R : AV → Mem → Prop) (hR : ∀ r : ρ19, t = r → ∀ u m, Ans ((AV.tup [(lstA intE r.1), (intA r.2.1), (intA r.2.2)])) u m → R u m) : g19 n a0 a1 a2 = some t → F19 (lstA TSector.E a0) (lstA (lstE TTubeNode.E) a1) a2 R := by
  unfold g19 F19
  refine bind_b fun x179 h179 => ?_
  refine imp (callQ_says (sg40 h179)) ?_
  refine imp ex_i64_b ?_
  refine cond_b (fun _ => ?_) (fun _ => ?_)
  · exact fun hg => retN rfl (hR _ (Option.some.inj hg).symm) (fzL_cons (fz_nils (E := intE) _) (fzL_cons (fz_sc _ _) (fzL_cons (fz_sc _ _) fzL_nil)))
  · refine cond_b (fun _ => ?_) (fun _ => ?_)
    · exact fun hg => retN rfl (hR _ (Option.some.inj hg).symm) (fzL_cons (fz_nils (E := intE) _) (fzL_cons (fz_sc _ _) (fzL_cons (fz_sc _ _) fzL_nil)))
    · refine cond_b (fun _ => ?_) (fun _ => ?_)
      · exact fun hg => retN rfl (hR _ (Option.some.inj hg).symm) (fzL_cons (fz_nils (E := intE) _) (fzL_cons (fz_sc _ _) (fzL_cons (fz_sc _ _) fzL_nil)))
      · refine bind_b fun x186 h186 => ?_
        refine imp (callW_D (show PureD _ _ _ _ _ _ (AV.tup [(ownV intE 81 x186.1), (intA x186.2)]) [(81, ownB intE 3 x186.1)] from mg41C h186)) ?_
        refine imp exT2_b ?_
        refine imp ex_i64_b ?_
        exact fun hg => retN rfl (hR _ (Option.some.inj hg).symm) (fzL_cons (fz_own (E := intE) (ty := 3) (l' := x186.1) _ rfl (by first | rfl | (simp (disch := first | decide | assumption) only [mpushs_nil, mpushs_cons, mget_hd, mget_tl, mget_appW_o, mget_appW_n, mget_appW_e]))) (fzL_cons (fz_sc _ _) (fzL_cons (fz_sc _ _) fzL_nil)))
theorem sg19 {n : Nat} {a0 : List TSector} {a1 : List (List TTubeNode)} {a2 : Int} {t : ρ19} (h : g19 n a0 a1 a2 = some t) : Says Try.prog KK.gl 19 [(lstA TSector.E a0), (lstA (lstE TTubeNode.E) a1), (intA a2)] ((AV.tup [(lstA intE t.1), (intA t.2.1), (intA t.2.2)])) :=
  says_of_own (by first | rfl | simp [cleans, clean, encs_clean, En.cln]) (by first | rfl | simp [cleans, clean, encs_clean, En.cln]) (F19_own (lstA TSector.E a0) (lstA (lstE TTubeNode.E) a1) a2 _ (g19_ok n a0 a1 a2 (Ans ((AV.tup [(lstA intE t.1), (intA t.2.1), (intA t.2.2)]))) (fun r e u m h => by rw [e]; exact h) h))
end Go.Proofs.Ytldiackagnjlgaa
