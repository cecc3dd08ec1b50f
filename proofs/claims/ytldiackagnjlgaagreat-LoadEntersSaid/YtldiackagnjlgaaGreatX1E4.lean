/- Plain functional programs out of the program's functions, with proofs that the functions compute them; printed by wip/Ext.lean.txt. -/
import Derived.Test.YtldiackagnjlgaaGreatX1E3
import Derived.Test.YtldiackagnjlgaaGreatSvH
set_option linter.unusedVariables false
set_option linter.unusedSimpArgs false
set_option maxRecDepth 100000
set_option maxHeartbeats 4000000
namespace Go.Proofs.YtldiackagnjlgaaGreat
/- skyway/sector.Path -/
theorem g8_ok (n : Nat) (a0 : List TSector) (a1 : List TTubeNode) {t : ρ8} (R : AV → Mem → Prop) (hR : ∀ r : ρ8, t = r → ∀ u m, Ans ((AV.tup [(lstA TSectorVisit.E r.1), (intA r.2)])) u m → R u m) : g8 n a0 a1 = some t → F8 (lstA TSector.E a0) (lstA TTubeNode.E a1) R := by
  unfold g8 F8
  refine bind_b fun x151 h151 => ?_
  refine imp (callQ_says (sg23 h151)) ?_
  refine imp ex_i64_b ?_
  refine cond_b (fun _ => ?_) (fun _ => ?_)
  · exact fun hg => retN rfl (hR _ (Option.some.inj hg).symm) (fzL_cons (fz_nils (E := TSectorVisit.E) _) (fzL_cons (fz_sc _ _) fzL_nil))
  · refine bind_b fun x152 h152 => ?_
    refine imp (callQ_says (sg21 h152)) ?_
    refine imp ex_i64_b ?_
    refine cond_b (fun _ => ?_) (fun _ => ?_)
    · exact fun hg => retN rfl (hR _ (Option.some.inj hg).symm) (fzL_cons (fz_nils (E := TSectorVisit.E) _) (fzL_cons (fz_sc _ _) fzL_nil))
    · refine imp (opP_of (show _ = some ((intA (a1.length : Int)), []) from rfl)) ?_
      refine imp ex_i64_b ?_
      refine bind_b fun x153 h153 => ?_
      refine imp (opP_of (show _ = some ((AV.ept [(intA x153.Node_Time), (intA x153.Node_At_X), (intA x153.Node_At_Y), (intA x153.Node_Height), (intA x153.Radius), (intA x153.Band)] 0), []) from (idx_lst (E := TTubeNode.E) rfl h153))) ?_
      refine imp (opP_of (show _ = some ((AV.ept [(intA x153.Node_Time), (intA x153.Node_At_X), (intA x153.Node_At_Y), (intA x153.Node_Height), (intA x153.Radius), (intA x153.Band)] 0), []) from rfl)) ?_
      refine imp (opP_of (show _ = some ((AV.ept [(intA x153.Node_Time), (intA x153.Node_At_X), (intA x153.Node_At_Y), (intA x153.Node_Height), (intA x153.Radius), (intA x153.Band)] 0), []) from rfl)) ?_
      refine imp (opP_of (show _ = some ((intA x153.Node_Time), []) from rfl)) ?_
      refine imp ex_i64_b ?_
      refine bind_b fun x154 h154 => ?_
      refine imp (opP_of (show _ = some ((AV.ept [(intA x154.Node_Time), (intA x154.Node_At_X), (intA x154.Node_At_Y), (intA x154.Node_Height), (intA x154.Radius), (intA x154.Band)] 0), []) from (idx_lst (E := TTubeNode.E) rfl h154))) ?_
      refine imp (opP_of (show _ = some ((AV.ept [(intA x154.Node_Time), (intA x154.Node_At_X), (intA x154.Node_At_Y), (intA x154.Node_Height), (intA x154.Radius), (intA x154.Band)] 0), []) from rfl)) ?_
      refine imp (opP_of (show _ = some ((AV.ept [(intA x154.Node_Time), (intA x154.Node_At_X), (intA x154.Node_At_Y), (intA x154.Node_Height), (intA x154.Radius), (intA x154.Band)] 0), []) from rfl)) ?_
      refine imp (opP_of (show _ = some ((intA x154.Node_Time), []) from rfl)) ?_
      refine imp ex_i64_b ?_
      refine cond_b (fun _ => ?_) (fun _ => ?_)
      · exact fun hg => retN rfl (hR _ (Option.some.inj hg).symm) (fzL_cons (fz_nils (E := TSectorVisit.E) _) (fzL_cons (fz_sc _ _) fzL_nil))
      · refine bind_b fun x155 h155 => ?_
        refine imp (callQ_says (sg24 h155)) ?_
        exact fun hg => retN rfl (hR _ (Option.some.inj hg).symm) (fzL_cons (fz_lst (E := TSectorVisit.E) _ _ false) (fzL_cons (fz_sc _ _) fzL_nil))
theorem sg8 {n : Nat} {a0 : List TSector} {a1 : List TTubeNode} {t : ρ8} (h : g8 n a0 a1 = some t) : Says Tryz.prog KK.gl 8 [(lstA TSector.E a0), (lstA TTubeNode.E a1)] ((AV.tup [(lstA TSectorVisit.E t.1), (intA t.2)])) :=
  says_of_own (by first | rfl | simp [cleans, clean, encs_clean, En.cln]) (by first | rfl | simp [cleans, clean, encs_clean, En.cln]) (F8_own (lstA TSector.E a0) (lstA TTubeNode.E a1) _ (g8_ok n a0 a1 (Ans ((AV.tup [(lstA TSectorVisit.E t.1), (intA t.2)]))) (fun r e u m h => by rw [e]; exact h) h))
/- skyway/load.Entries -/
theorem B7_0_0_ok (n : Nat) (a0 : List TSector) (c5 : Int) (a1 : List (List TTubeNode)) (c24 : Int) (v25 : Int) (c38 : List TSectorVisit) (c39 : Int) (w40 : Int) (L90000 : List Int) {t : (Int × List Int) ⊕ ((Int × List Int) ⊕ ρ7)} (R : AV → Mem → Prop) (N0 : St → Prop) (N1 : St → Prop) (hR : ∀ r : ρ7, t = (.inr (.inr r)) → ∀ u m, Ans ((AV.tup [(lstA intE r.1), (intA r.2)])) u m → R u m) (hN0 : ∀ y : Int × List Int, t = (.inr (.inl y)) → ∀ s' : St, Weak KK 57 0 s' (h7_0 (lstA TSector.E a0) AV.nils c5 (blkV intE 90000 y.2) (lstA (lstE TTubeNode.E) a1) c24 y.1 [(90000, some ⟨encs intE y.2, 3⟩)]) → N0 s') (hN1 : ∀ y : Int × List Int, t = (.inl y) → ∀ s' : St, Weak KK 57 0 s' (h7_0_0 (lstA TSector.E a0) AV.nils c5 (blkV intE 90000 y.2) (lstA (lstE TTubeNode.E) a1) c24 v25 (lstA TSectorVisit.E c38) c39 y.1 [(90000, some ⟨encs intE y.2, 3⟩)]) → N1 s') : S7_0_0 n a0 c5 a1 c24 v25 c38 c39 w40 L90000 = some t → B7_0_0 (lstA TSector.E a0) AV.nils c5 (blkV intE 90000 L90000) (lstA (lstE TTubeNode.E) a1) c24 v25 (lstA TSectorVisit.E c38) c39 w40 [(90000, some ⟨encs intE L90000, 3⟩)] R N0 N1 := by
  unfold S7_0_0 B7_0_0
  refine cond_b (fun _ => ?_) (fun _ => ?_)
  · refine bind_b fun x157 h157 => ?_
    refine imp (opP_of (show _ = some ((AV.ept [(intA x157.Sector), (intA x157.From), (intA x157.To)] 0), []) from (idx_lst (E := TSectorVisit.E) rfl h157))) ?_
    refine imp (opP_of (show _ = some ((AV.agg [(intA x157.Sector), (intA x157.From), (intA x157.To)]), []) from rfl)) ?_
    refine imp exA3_b ?_
    refine imp ex_i64_b ?_
    refine imp ex_i64_b ?_
    refine imp ex_i64_b ?_
    refine cond_b (fun _ => ?_) (fun _ => ?_)
    · refine bind_b fun x158 h158 => ?_
      refine imp (opP_of (show _ = some ((AV.ptr 90000 (((x157.Sector : Int).toNat) * 1 + 0)), []) from (idx_blk (E := intE) rfl h158))) ?_
      refine imp (opP_of (show _ = some ((intA x158), []) from (ldS_blk (E := intE) (l := L90000) (ty := 3) (o := 0) (by first | rfl | (simp (disch := first | decide | assumption) only [mpushs_nil, mpushs_cons, mget_hd, mget_tl, mget_appW_o, mget_appW_n, mget_appW_e])) (getI_some h158).2 rfl (by decide) rfl))) ?_
      refine imp ex_i64_b ?_
      refine bind_b fun x159 h159 => ?_
      refine imp (opP_of (show _ = some ((AV.ptr 90000 (((x157.Sector : Int).toNat) * 1 + 0)), []) from (idx_blk (E := intE) rfl h159))) ?_
      refine imp (storeW_el (E := intE) (l := L90000) (i := ((x157.Sector : Int).toNat)) (o := 0) (y := (IntKind.wrap .i64 (x158 + (1)))) (ty := 3) (by kernel_rfl) (by kernel_rfl) rfl (by first | rfl | (simp (disch := first | decide | assumption) only [mpushs_nil, mpushs_cons, mget_hd, mget_tl, mget_appW_o, mget_appW_n, mget_appW_e])) (getI_some h159).2 rfl (by decide) rfl) ?_
      exact fun hg => hN1 _ (Option.some.inj hg).symm _ (weak_mem [(90000, 90000)] rfl rfl rfl (okW_cons (ent_lst (E := TSector.E) _ false) (okW_cons (.inl (leV_refl _)) (okW_cons (.inl (leV_refl _)) (okW_cons (ent_blk (E := intE) (id := 90000) (l' := (L90000.set ((x157.Sector : Int).toNat) (IntKind.wrap .i64 (x158 + (1))))) (by first | rfl | omega | (simp; done) | (simp; omega)) rfl) (okW_cons (ent_lst (E := (lstE TTubeNode.E)) _ false) (okW_cons (.inl (leV_refl _)) (okW_cons (.inl (leV_refl _)) (okW_cons (ent_lst (E := TSectorVisit.E) _ false) (okW_cons (.inl (leV_refl _)) (okW_cons (.inl (leV_refl _)) okW_nil)))))))))) (okB_cons (okB_cells (cs := encs intE (L90000.set ((x157.Sector : Int).toNat) (IntKind.wrap .i64 (x158 + (1))))) (ty := 3) (encs_clean _) (show mget _ 90000 = _ from (by first | rfl | (simp (disch := first | decide | assumption) only [mpushs_nil, mpushs_cons, mget_hd, mget_tl, mget_appW_o, mget_appW_n, mget_appW_e])))) okB_nil'))
    · exact fun hg => hN1 _ (Option.some.inj hg).symm _ (weak_mem [(90000, 90000)] rfl rfl rfl (okW_cons (ent_lst (E := TSector.E) _ false) (okW_cons (.inl (leV_refl _)) (okW_cons (.inl (leV_refl _)) (okW_cons (ent_blk (E := intE) (id := 90000) (l' := L90000) rfl rfl) (okW_cons (ent_lst (E := (lstE TTubeNode.E)) _ false) (okW_cons (.inl (leV_refl _)) (okW_cons (.inl (leV_refl _)) (okW_cons (ent_lst (E := TSectorVisit.E) _ false) (okW_cons (.inl (leV_refl _)) (okW_cons (.inl (leV_refl _)) okW_nil)))))))))) (okB_cons (okB_cells (cs := encs intE L90000) (ty := 3) (encs_clean _) (show mget _ 90000 = _ from (by first | rfl | (simp (disch := first | decide | assumption) only [mpushs_nil, mpushs_cons, mget_hd, mget_tl, mget_appW_o, mget_appW_n, mget_appW_e])))) okB_nil'))
  · exact fun hg => hN0 _ (Option.some.inj hg).symm _ (weak_mem [(90000, 90000)] rfl rfl rfl (okW_cons (ent_lst (E := TSector.E) _ false) (okW_cons (.inl (leV_refl _)) (okW_cons (.inl (leV_refl _)) (okW_cons (ent_blk (E := intE) (id := 90000) (l' := L90000) rfl rfl) (okW_cons (ent_lst (E := (lstE TTubeNode.E)) _ false) (okW_cons (.inl (leV_refl _)) (okW_cons (.inl (leV_refl _)) okW_nil))))))) (okB_cons (okB_cells (cs := encs intE L90000) (ty := 3) (encs_clean _) (show mget _ 90000 = _ from (by first | rfl | (simp (disch := first | decide | assumption) only [mpushs_nil, mpushs_cons, mget_hd, mget_tl, mget_appW_o, mget_appW_n, mget_appW_e])))) okB_nil'))
theorem L7_0_0_ok (n : Nat) (a0 : List TSector) (c5 : Int) (a1 : List (List TTubeNode)) (c24 : Int) (v25 : Int) (c38 : List TSectorVisit) (c39 : Int) {t : ((Int × List Int) ⊕ ρ7)} (R : AV → Mem → Prop) (N0 : St → Prop) (hR : ∀ r : ρ7, t = (.inr r) → ∀ u m, Ans ((AV.tup [(lstA intE r.1), (intA r.2)])) u m → R u m) (hN0 : ∀ y : Int × List Int, t = (.inl y) → ∀ s' : St, Weak KK 57 0 s' (h7_0 (lstA TSector.E a0) AV.nils c5 (blkV intE 90000 y.2) (lstA (lstE TTubeNode.E) a1) c24 y.1 [(90000, some ⟨encs intE y.2, 3⟩)]) → N0 s') (k : Nat) (x : Int × List Int) (hx : iterO (fun y : Int × List Int => S7_0_0 n a0 c5 a1 c24 v25 c38 c39 y.1 y.2) k x = some t) {s : St} (hw : Weak KK 57 0 s (h7_0_0 (lstA TSector.E a0) AV.nils c5 (blkV intE 90000 x.2) (lstA (lstE TTubeNode.E) a1) c24 v25 (lstA TSectorVisit.E c38) c39 x.1 [(90000, some ⟨encs intE x.2, 3⟩)])) : Tri Tryz.prog KK 57 0 (.loop c7_0_0) s (q7_0_0 R N0) :=
  L7_0_0 R N0 (σ := Nat × (Int × List Int)) (fun z => iterO (fun y : Int × List Int => S7_0_0 n a0 c5 a1 c24 v25 c38 c39 y.1 y.2) z.1 z.2 = some t) (fun z => (lstA TSector.E a0)) (fun z => AV.nils) (fun z => c5) (fun z => (blkV intE 90000 z.2.2)) (fun z => (lstA (lstE TTubeNode.E) a1)) (fun z => c24) (fun z => v25) (fun z => (lstA TSectorVisit.E c38)) (fun z => c39) (fun z => z.2.1) (fun z => [(90000, some ⟨encs intE z.2.2, 3⟩)]) (fun z => z.1) (by
    rintro ⟨k, y⟩ h
    cases k with
    | zero => exact (iterO_zero h).elim
    | succ k =>
      obtain ⟨u, h1, h2, h3⟩ := iterO_elim h
      exact B7_0_0_ok n a0 c5 a1 c24 v25 c38 c39 y.1 y.2 R N0 _ (fun r e => hR r (h3 _ e).symm) (fun y' e => hN0 y' (h3 _ e).symm) (fun y' e s' hw => ⟨(k, y'), h2 _ e, Nat.lt_succ_self k, hw⟩) h1) (k, x) hx hw
theorem B7_0_ok (n : Nat) (a0 : List TSector) (c5 : Int) (a1 : List (List TTubeNode)) (c24 : Int) (v25 : Int) (L90000 : List Int) {t : (Int × List Int) ⊕ ρ7} (R : AV → Mem → Prop) (N0 : St → Prop) (hR : ∀ r : ρ7, t = (.inr r) → ∀ u m, Ans ((AV.tup [(lstA intE r.1), (intA r.2)])) u m → R u m) (hN0 : ∀ y : Int × List Int, t = (.inl y) → ∀ s' : St, Weak KK 57 0 s' (h7_0 (lstA TSector.E a0) AV.nils c5 (blkV intE 90000 y.2) (lstA (lstE TTubeNode.E) a1) c24 y.1 [(90000, some ⟨encs intE y.2, 3⟩)]) → N0 s') : S7_0 n a0 c5 a1 c24 v25 L90000 = some t → B7_0 (lstA TSector.E a0) AV.nils c5 (blkV intE 90000 L90000) (lstA (lstE TTubeNode.E) a1) c24 v25 [(90000, some ⟨encs intE L90000, 3⟩)] R N0 := by
  unfold S7_0 B7_0
  refine cond_b (fun _ => ?_) (fun _ => ?_)
  · refine bind_b fun x150 h150 => ?_
    refine imp (opP_of (show _ = some ((AV.ept [(lstA TTubeNode.E x150)] 0), []) from (idx_lst (E := (lstE TTubeNode.E)) rfl h150))) ?_
    refine imp (opP_of (show _ = some ((lstA TTubeNode.E x150), []) from rfl)) ?_
    refine bind_b fun x156 h156 => ?_
    refine imp (callQ_says (sg8 h156)) ?_
    refine imp exT2_b ?_
    refine imp ex_i64_b ?_
    refine cond_b (fun _ => ?_) (fun _ => ?_)
    · exact fun hg => retN rfl (hR _ (Option.some.inj hg).symm) (fzL_cons (fz_nils (E := intE) _) (fzL_cons (fz_sc _ _) fzL_nil))
    · refine imp (opP_of (show _ = some ((intA (x156.1.length : Int)), []) from rfl)) ?_
      refine imp ex_i64_b ?_
      exact fun hg => L7_0_0_ok n a0 c5 a1 c24 v25 x156.1 (x156.1.length : Int) R N0 hR hN0 n _ hg (weak_mem [(90000, 90000)] rfl rfl rfl (okW_cons (ent_lst (E := TSector.E) _ false) (okW_cons (.inl (leV_refl _)) (okW_cons (.inl (leV_refl _)) (okW_cons (ent_blk (E := intE) (id := 90000) (l' := L90000) rfl rfl) (okW_cons (ent_lst (E := (lstE TTubeNode.E)) _ false) (okW_cons (.inl (leV_refl _)) (okW_cons (.inl (leV_refl _)) (okW_cons (ent_lst (E := TSectorVisit.E) _ false) (okW_cons (.inl (leV_refl _)) (okW_cons (.inl (leV_refl _)) okW_nil)))))))))) (okB_cons (okB_cells (cs := encs intE L90000) (ty := 3) (encs_clean _) (show mget _ 90000 = _ from (by first | rfl | (simp (disch := first | decide | assumption) only [mpushs_nil, mpushs_cons, mget_hd, mget_tl, mget_appW_o, mget_appW_n, mget_appW_e])))) okB_nil'))
  · exact fun hg => retN rfl (hR _ (Option.some.inj hg).symm) (fzL_cons (fz_blk (E := intE) (ty := 3) (l' := L90000) _ rfl (by first | rfl | (simp (disch := first | decide | assumption) only [mpushs_nil, mpushs_cons, mget_hd, mget_tl, mget_appW_o, mget_appW_n, mget_appW_e]))) (fzL_cons (fz_sc _ _) fzL_nil))
theorem L7_0_ok (n : Nat) (a0 : List TSector) (c5 : Int) (a1 : List (List TTubeNode)) (c24 : Int) {t : ρ7} (R : AV → Mem → Prop) (hR : ∀ r : ρ7, t = r → ∀ u m, Ans ((AV.tup [(lstA intE r.1), (intA r.2)])) u m → R u m) (k : Nat) (x : Int × List Int) (hx : iterO (fun y : Int × List Int => S7_0 n a0 c5 a1 c24 y.1 y.2) k x = some t) {s : St} (hw : Weak KK 57 0 s (h7_0 (lstA TSector.E a0) AV.nils c5 (blkV intE 90000 x.2) (lstA (lstE TTubeNode.E) a1) c24 x.1 [(90000, some ⟨encs intE x.2, 3⟩)])) : Tri Tryz.prog KK 57 0 (.loop c7_0) s (q7_0 R ) :=
  L7_0 R  (σ := Nat × (Int × List Int)) (fun z => iterO (fun y : Int × List Int => S7_0 n a0 c5 a1 c24 y.1 y.2) z.1 z.2 = some t) (fun z => (lstA TSector.E a0)) (fun z => AV.nils) (fun z => c5) (fun z => (blkV intE 90000 z.2.2)) (fun z => (lstA (lstE TTubeNode.E) a1)) (fun z => c24) (fun z => z.2.1) (fun z => [(90000, some ⟨encs intE z.2.2, 3⟩)]) (fun z => z.1) (by
    rintro ⟨k, y⟩ h
    cases k with
    | zero => exact (iterO_zero h).elim
    | succ k =>
      obtain ⟨u, h1, h2, h3⟩ := iterO_elim h
      exact B7_0_ok n a0 c5 a1 c24 y.1 y.2 R  _ (fun r e => hR r (h3 _ e).symm)  (fun y' e s' hw => ⟨(k, y'), h2 _ e, Nat.lt_succ_self k, hw⟩) h1) (k, x) hx hw
theorem g7_ok (n : Nat) (a0 : List TSector) (a1 : List (List TTubeNode)) {t : ρ7} (R : AV → Mem → Prop) (hR : ∀ r : ρ7, t = r → ∀ u m, Ans ((AV.tup [(lstA intE r.1), (intA r.2)])) u m → R u m) : g7 n a0 a1 = some t → F7 (lstA TSector.E a0) (lstA (lstE TTubeNode.E) a1) R := by
  unfold g7 F7
  refine bind_b fun x148 h148 => ?_
  refine imp (callQ_says (sg22 h148)) ?_
  refine imp ex_i64_b ?_
  refine cond_b (fun _ => ?_) (fun _ => ?_)
  · exact fun hg => retN rfl (hR _ (Option.some.inj hg).symm) (fzL_cons (fz_nils (E := intE) _) (fzL_cons (fz_sc _ _) fzL_nil))
  · refine imp (opP_of (show _ = some ((intA (a0.length : Int)), []) from rfl)) ?_
    refine imp ex_i64_b ?_
    refine bind_b fun x149 h149 => ?_
    refine imp (opN_of (show _ = some ((blkV intE 73 (List.replicate x149 (0))), [(73, some ⟨encs intE (List.replicate x149 (0)), 3⟩)]) from (mks_ok (E := intE) (z := (0)) rfl rfl h149))) ?_
    refine imp (opP_of (show _ = some ((intA (a1.length : Int)), []) from rfl)) ?_
    refine imp ex_i64_b ?_
    exact fun hg => L7_0_ok n a0 (0) a1 (a1.length : Int) R  hR n _ hg (weak_mem [(90000, 73)] rfl rfl rfl (okW_cons (ent_lst (E := TSector.E) _ false) (okW_cons (.inl (leV_refl _)) (okW_cons (.inl (leV_refl _)) (okW_cons (ent_blk (E := intE) (id := 73) (l' := (List.replicate x149 (0))) rfl rfl) (okW_cons (ent_lst (E := (lstE TTubeNode.E)) _ false) (okW_cons (.inl (leV_refl _)) (okW_cons (.inl (leV_refl _)) okW_nil))))))) (okB_cons (okB_cells (cs := encs intE (List.replicate x149 (0))) (ty := 3) (encs_clean _) (show mget _ 73 = _ from (by first | rfl | (simp (disch := first | decide | assumption) only [mpushs_nil, mpushs_cons, mget_hd, mget_tl, mget_appW_o, mget_appW_n, mget_appW_e])))) okB_nil'))
theorem sg7 {n : Nat} {a0 : List TSector} {a1 : List (List TTubeNode)} {t : ρ7} (h : g7 n a0 a1 = some t) : Says Tryz.prog KK.gl 7 [(lstA TSector.E a0), (lstA (lstE TTubeNode.E) a1)] ((AV.tup [(lstA intE t.1), (intA t.2)])) :=
  says_of_own (by first | rfl | simp [cleans, clean, encs_clean, En.cln]) (by first | rfl | simp [cleans, clean, encs_clean, En.cln]) (F7_own (lstA TSector.E a0) (lstA (lstE TTubeNode.E) a1) _ (g7_ok n a0 a1 (Ans ((AV.tup [(lstA intE t.1), (intA t.2)]))) (fun r e u m h => by rw [e]; exact h) h))
/- skyway/load.Entries -/
theorem B7_0_0_okM (n : Nat) (a0 : List TSector) (c5 : Int) (a1 : List (List TTubeNode)) (c24 : Int) (v25 : Int) (c38 : List TSectorVisit) (c39 : Int) (w40 : Int) (L90000 : List Int) {t : (Int × List Int) ⊕ ((Int × List Int) ⊕ ρ7)} (R : AV → Mem → Prop) (N0 : St → Prop) (N1 : St → Prop) (hR : ∀ r : ρ7, t = (.inr (.inr r)) → ∀ u m, MadeT intE 3 r.1 [Value.int .i64 r.2] u m → R u m) (hN0 : ∀ y : Int × List Int, t = (.inr (.inl y)) → ∀ s' : St, Weak KK 57 0 s' (h7_0 (lstA TSector.E a0) AV.nils c5 (blkV intE 90000 y.2) (lstA (lstE TTubeNode.E) a1) c24 y.1 [(90000, some ⟨encs intE y.2, 3⟩)]) → N0 s') (hN1 : ∀ y : Int × List Int, t = (.inl y) → ∀ s' : St, Weak KK 57 0 s' (h7_0_0 (lstA TSector.E a0) AV.nils c5 (blkV intE 90000 y.2) (lstA (lstE TTubeNode.E) a1) c24 v25 (lstA TSectorVisit.E c38) c39 y.1 [(90000, some ⟨encs intE y.2, 3⟩)]) → N1 s') : S7_0_0 n a0 c5 a1 c24 v25 c38 c39 w40 L90000 = some t → B7_0_0 (lstA TSector.E a0) AV.nils c5 (blkV intE 90000 L90000) (lstA (lstE TTubeNode.E) a1) c24 v25 (lstA TSectorVisit.E c38) c39 w40 [(90000, some ⟨encs intE L90000, 3⟩)] R N0 N1 := by
  unfold S7_0_0 B7_0_0
  refine cond_b (fun _ => ?_) (fun _ => ?_)
  · refine bind_b fun x165 h165 => ?_
    refine imp (opP_of (show _ = some ((AV.ept [(intA x165.Sector), (intA x165.From), (intA x165.To)] 0), []) from (idx_lst (E := TSectorVisit.E) rfl h165))) ?_
    refine imp (opP_of (show _ = some ((AV.agg [(intA x165.Sector), (intA x165.From), (intA x165.To)]), []) from rfl)) ?_
    refine imp exA3_b ?_
    refine imp ex_i64_b ?_
    refine imp ex_i64_b ?_
    refine imp ex_i64_b ?_
    refine cond_b (fun _ => ?_) (fun _ => ?_)
    · refine bind_b fun x166 h166 => ?_
      refine imp (opP_of (show _ = some ((AV.ptr 90000 (((x165.Sector : Int).toNat) * 1 + 0)), []) from (idx_blk (E := intE) rfl h166))) ?_
      refine imp (opP_of (show _ = some ((intA x166), []) from (ldS_blk (E := intE) (l := L90000) (ty := 3) (o := 0) (by first | rfl | (simp (disch := first | decide | assumption) only [mpushs_nil, mpushs_cons, mget_hd, mget_tl, mget_appW_o, mget_appW_n, mget_appW_e])) (getI_some h166).2 rfl (by decide) rfl))) ?_
      refine imp ex_i64_b ?_
      refine bind_b fun x167 h167 => ?_
      refine imp (opP_of (show _ = some ((AV.ptr 90000 (((x165.Sector : Int).toNat) * 1 + 0)), []) from (idx_blk (E := intE) rfl h167))) ?_
      refine imp (storeW_el (E := intE) (l := L90000) (i := ((x165.Sector : Int).toNat)) (o := 0) (y := (IntKind.wrap .i64 (x166 + (1)))) (ty := 3) (by kernel_rfl) (by kernel_rfl) rfl (by first | rfl | (simp (disch := first | decide | assumption) only [mpushs_nil, mpushs_cons, mget_hd, mget_tl, mget_appW_o, mget_appW_n, mget_appW_e])) (getI_some h167).2 rfl (by decide) rfl) ?_
      exact fun hg => hN1 _ (Option.some.inj hg).symm _ (weak_mem [(90000, 90000)] rfl rfl rfl (okW_cons (ent_lst (E := TSector.E) _ false) (okW_cons (.inl (leV_refl _)) (okW_cons (.inl (leV_refl _)) (okW_cons (ent_blk (E := intE) (id := 90000) (l' := (L90000.set ((x165.Sector : Int).toNat) (IntKind.wrap .i64 (x166 + (1))))) (by first | rfl | omega | (simp; done) | (simp; omega)) rfl) (okW_cons (ent_lst (E := (lstE TTubeNode.E)) _ false) (okW_cons (.inl (leV_refl _)) (okW_cons (.inl (leV_refl _)) (okW_cons (ent_lst (E := TSectorVisit.E) _ false) (okW_cons (.inl (leV_refl _)) (okW_cons (.inl (leV_refl _)) okW_nil)))))))))) (okB_cons (okB_cells (cs := encs intE (L90000.set ((x165.Sector : Int).toNat) (IntKind.wrap .i64 (x166 + (1))))) (ty := 3) (encs_clean _) (show mget _ 90000 = _ from (by first | rfl | (simp (disch := first | decide | assumption) only [mpushs_nil, mpushs_cons, mget_hd, mget_tl, mget_appW_o, mget_appW_n, mget_appW_e])))) okB_nil'))
    · exact fun hg => hN1 _ (Option.some.inj hg).symm _ (weak_mem [(90000, 90000)] rfl rfl rfl (okW_cons (ent_lst (E := TSector.E) _ false) (okW_cons (.inl (leV_refl _)) (okW_cons (.inl (leV_refl _)) (okW_cons (ent_blk (E := intE) (id := 90000) (l' := L90000) rfl rfl) (okW_cons (ent_lst (E := (lstE TTubeNode.E)) _ false) (okW_cons (.inl (leV_refl _)) (okW_cons (.inl (leV_refl _)) (okW_cons (ent_lst (E := TSectorVisit.E) _ false) (okW_cons (.inl (leV_refl _)) (okW_cons (.inl (leV_refl _)) okW_nil)))))))))) (okB_cons (okB_cells (cs := encs intE L90000) (ty := 3) (encs_clean _) (show mget _ 90000 = _ from (by first | rfl | (simp (disch := first | decide | assumption) only [mpushs_nil, mpushs_cons, mget_hd, mget_tl, mget_appW_o, mget_appW_n, mget_appW_e])))) okB_nil'))
  · exact fun hg => hN0 _ (Option.some.inj hg).symm _ (weak_mem [(90000, 90000)] rfl rfl rfl (okW_cons (ent_lst (E := TSector.E) _ false) (okW_cons (.inl (leV_refl _)) (okW_cons (.inl (leV_refl _)) (okW_cons (ent_blk (E := intE) (id := 90000) (l' := L90000) rfl rfl) (okW_cons (ent_lst (E := (lstE TTubeNode.E)) _ false) (okW_cons (.inl (leV_refl _)) (okW_cons (.inl (leV_refl _)) okW_nil))))))) (okB_cons (okB_cells (cs := encs intE L90000) (ty := 3) (encs_clean _) (show mget _ 90000 = _ from (by first | rfl | (simp (disch := first | decide | assumption) only [mpushs_nil, mpushs_cons, mget_hd, mget_tl, mget_appW_o, mget_appW_n, mget_appW_e])))) okB_nil'))
theorem L7_0_0_okM (n : Nat) (a0 : List TSector) (c5 : Int) (a1 : List (List TTubeNode)) (c24 : Int) (v25 : Int) (c38 : List TSectorVisit) (c39 : Int) {t : ((Int × List Int) ⊕ ρ7)} (R : AV → Mem → Prop) (N0 : St → Prop) (hR : ∀ r : ρ7, t = (.inr r) → ∀ u m, MadeT intE 3 r.1 [Value.int .i64 r.2] u m → R u m) (hN0 : ∀ y : Int × List Int, t = (.inl y) → ∀ s' : St, Weak KK 57 0 s' (h7_0 (lstA TSector.E a0) AV.nils c5 (blkV intE 90000 y.2) (lstA (lstE TTubeNode.E) a1) c24 y.1 [(90000, some ⟨encs intE y.2, 3⟩)]) → N0 s') (k : Nat) (x : Int × List Int) (hx : iterO (fun y : Int × List Int => S7_0_0 n a0 c5 a1 c24 v25 c38 c39 y.1 y.2) k x = some t) {s : St} (hw : Weak KK 57 0 s (h7_0_0 (lstA TSector.E a0) AV.nils c5 (blkV intE 90000 x.2) (lstA (lstE TTubeNode.E) a1) c24 v25 (lstA TSectorVisit.E c38) c39 x.1 [(90000, some ⟨encs intE x.2, 3⟩)])) : Tri Tryz.prog KK 57 0 (.loop c7_0_0) s (q7_0_0 R N0) :=
  L7_0_0 R N0 (σ := Nat × (Int × List Int)) (fun z => iterO (fun y : Int × List Int => S7_0_0 n a0 c5 a1 c24 v25 c38 c39 y.1 y.2) z.1 z.2 = some t) (fun z => (lstA TSector.E a0)) (fun z => AV.nils) (fun z => c5) (fun z => (blkV intE 90000 z.2.2)) (fun z => (lstA (lstE TTubeNode.E) a1)) (fun z => c24) (fun z => v25) (fun z => (lstA TSectorVisit.E c38)) (fun z => c39) (fun z => z.2.1) (fun z => [(90000, some ⟨encs intE z.2.2, 3⟩)]) (fun z => z.1) (by
    rintro ⟨k, y⟩ h
    cases k with
    | zero => exact (iterO_zero h).elim
    | succ k =>
      obtain ⟨u, h1, h2, h3⟩ := iterO_elim h
      exact B7_0_0_okM n a0 c5 a1 c24 v25 c38 c39 y.1 y.2 R N0 _ (fun r e => hR r (h3 _ e).symm) (fun y' e => hN0 y' (h3 _ e).symm) (fun y' e s' hw => ⟨(k, y'), h2 _ e, Nat.lt_succ_self k, hw⟩) h1) (k, x) hx hw
theorem B7_0_okM (n : Nat) (a0 : List TSector) (c5 : Int) (a1 : List (List TTubeNode)) (c24 : Int) (v25 : Int) (L90000 : List Int) {t : (Int × List Int) ⊕ ρ7} (R : AV → Mem → Prop) (N0 : St → Prop) (hR : ∀ r : ρ7, t = (.inr r) → ∀ u m, MadeT intE 3 r.1 [Value.int .i64 r.2] u m → R u m) (hN0 : ∀ y : Int × List Int, t = (.inl y) → ∀ s' : St, Weak KK 57 0 s' (h7_0 (lstA TSector.E a0) AV.nils c5 (blkV intE 90000 y.2) (lstA (lstE TTubeNode.E) a1) c24 y.1 [(90000, some ⟨encs intE y.2, 3⟩)]) → N0 s') : S7_0 n a0 c5 a1 c24 v25 L90000 = some t → B7_0 (lstA TSector.E a0) AV.nils c5 (blkV intE 90000 L90000) (lstA (lstE TTubeNode.E) a1) c24 v25 [(90000, some ⟨encs intE L90000, 3⟩)] R N0 := by
  unfold S7_0 B7_0
  refine cond_b (fun _ => ?_) (fun _ => ?_)
  · refine bind_b fun x163 h163 => ?_
    refine imp (opP_of (show _ = some ((AV.ept [(lstA TTubeNode.E x163)] 0), []) from (idx_lst (E := (lstE TTubeNode.E)) rfl h163))) ?_
    refine imp (opP_of (show _ = some ((lstA TTubeNode.E x163), []) from rfl)) ?_
    refine bind_b fun x164 h164 => ?_
    refine imp (callQ_says (sg8 h164)) ?_
    refine imp exT2_b ?_
    refine imp ex_i64_b ?_
    refine cond_b (fun _ => ?_) (fun _ => ?_)
    · exact fun hg => hR _ (Option.some.inj hg).symm _ _ ⟨_, rfl, made_nils_pf⟩
    · refine imp (opP_of (show _ = some ((intA (x164.1.length : Int)), []) from rfl)) ?_
      refine imp ex_i64_b ?_
      exact fun hg => L7_0_0_okM n a0 c5 a1 c24 v25 x164.1 (x164.1.length : Int) R N0 hR hN0 n _ hg (weak_mem [(90000, 90000)] rfl rfl rfl (okW_cons (ent_lst (E := TSector.E) _ false) (okW_cons (.inl (leV_refl _)) (okW_cons (.inl (leV_refl _)) (okW_cons (ent_blk (E := intE) (id := 90000) (l' := L90000) rfl rfl) (okW_cons (ent_lst (E := (lstE TTubeNode.E)) _ false) (okW_cons (.inl (leV_refl _)) (okW_cons (.inl (leV_refl _)) (okW_cons (ent_lst (E := TSectorVisit.E) _ false) (okW_cons (.inl (leV_refl _)) (okW_cons (.inl (leV_refl _)) okW_nil)))))))))) (okB_cons (okB_cells (cs := encs intE L90000) (ty := 3) (encs_clean _) (show mget _ 90000 = _ from (by first | rfl | (simp (disch := first | decide | assumption) only [mpushs_nil, mpushs_cons, mget_hd, mget_tl, mget_appW_o, mget_appW_n, mget_appW_e])))) okB_nil'))
  · exact fun hg => hR _ (Option.some.inj hg).symm _ _ ⟨_, rfl, (made_blk_pf (E := intE) (ty := 3) (l := L90000) rfl (by first | rfl | (simp (disch := first | decide | assumption) only [mpushs_nil, mpushs_cons, mget_hd, mget_tl, mget_appW_o, mget_appW_n, mget_appW_e])))⟩
theorem L7_0_okM (n : Nat) (a0 : List TSector) (c5 : Int) (a1 : List (List TTubeNode)) (c24 : Int) {t : ρ7} (R : AV → Mem → Prop) (hR : ∀ r : ρ7, t = r → ∀ u m, MadeT intE 3 r.1 [Value.int .i64 r.2] u m → R u m) (k : Nat) (x : Int × List Int) (hx : iterO (fun y : Int × List Int => S7_0 n a0 c5 a1 c24 y.1 y.2) k x = some t) {s : St} (hw : Weak KK 57 0 s (h7_0 (lstA TSector.E a0) AV.nils c5 (blkV intE 90000 x.2) (lstA (lstE TTubeNode.E) a1) c24 x.1 [(90000, some ⟨encs intE x.2, 3⟩)])) : Tri Tryz.prog KK 57 0 (.loop c7_0) s (q7_0 R ) :=
  L7_0 R  (σ := Nat × (Int × List Int)) (fun z => iterO (fun y : Int × List Int => S7_0 n a0 c5 a1 c24 y.1 y.2) z.1 z.2 = some t) (fun z => (lstA TSector.E a0)) (fun z => AV.nils) (fun z => c5) (fun z => (blkV intE 90000 z.2.2)) (fun z => (lstA (lstE TTubeNode.E) a1)) (fun z => c24) (fun z => z.2.1) (fun z => [(90000, some ⟨encs intE z.2.2, 3⟩)]) (fun z => z.1) (by
    rintro ⟨k, y⟩ h
    cases k with
    | zero => exact (iterO_zero h).elim
    | succ k =>
      obtain ⟨u, h1, h2, h3⟩ := iterO_elim h
      exact B7_0_okM n a0 c5 a1 c24 y.1 y.2 R  _ (fun r e => hR r (h3 _ e).symm)  (fun y' e s' hw => ⟨(k, y'), h2 _ e, Nat.lt_succ_self k, hw⟩) h1) (k, x) hx hw
theorem g7_okM (n : Nat) (a0 : List TSector) (a1 : List (List TTubeNode)) {t : ρ7} (R : AV → Mem → Prop) (hR : ∀ r : ρ7, t = r → ∀ u m, MadeT intE 3 r.1 [Value.int .i64 r.2] u m → R u m) : g7 n a0 a1 = some t → F7 (lstA TSector.E a0) (lstA (lstE TTubeNode.E) a1) R := by
  unfold g7 F7
  refine bind_b fun x161 h161 => ?_
  refine imp (callQ_says (sg22 h161)) ?_
  refine imp ex_i64_b ?_
  refine cond_b (fun _ => ?_) (fun _ => ?_)
  · exact fun hg => hR _ (Option.some.inj hg).symm _ _ ⟨_, rfl, made_nils_pf⟩
  · refine imp (opP_of (show _ = some ((intA (a0.length : Int)), []) from rfl)) ?_
    refine imp ex_i64_b ?_
    refine bind_b fun x162 h162 => ?_
    refine imp (opN_of (show _ = some ((blkV intE 73 (List.replicate x162 (0))), [(73, some ⟨encs intE (List.replicate x162 (0)), 3⟩)]) from (mks_ok (E := intE) (z := (0)) rfl rfl h162))) ?_
    refine imp (opP_of (show _ = some ((intA (a1.length : Int)), []) from rfl)) ?_
    refine imp ex_i64_b ?_
    exact fun hg => L7_0_okM n a0 (0) a1 (a1.length : Int) R  hR n _ hg (weak_mem [(90000, 73)] rfl rfl rfl (okW_cons (ent_lst (E := TSector.E) _ false) (okW_cons (.inl (leV_refl _)) (okW_cons (.inl (leV_refl _)) (okW_cons (ent_blk (E := intE) (id := 73) (l' := (List.replicate x162 (0))) rfl rfl) (okW_cons (ent_lst (E := (lstE TTubeNode.E)) _ false) (okW_cons (.inl (leV_refl _)) (okW_cons (.inl (leV_refl _)) okW_nil))))))) (okB_cons (okB_cells (cs := encs intE (List.replicate x162 (0))) (ty := 3) (encs_clean _) (show mget _ 73 = _ from (by first | rfl | (simp (disch := first | decide | assumption) only [mpushs_nil, mpushs_cons, mget_hd, mget_tl, mget_appW_o, mget_appW_n, mget_appW_e])))) okB_nil'))
theorem mg7C {n k : Nat} {look : Nat → Option ABlk} {a0 : List TSector} {a1 : List (List TTubeNode)} {t : ρ7} (h : g7 n a0 a1 = some t) : PureD Tryz.prog KK.gl look k 7 [(lstA TSector.E a0), (lstA (lstE TTubeNode.E) a1)] (.tup (ownV intE k t.1 :: ([Value.int .i64 t.2] : List Value).map AV.sc)) [(k, ownB intE 3 t.1)] :=
  made_tupC (by first | rfl | simp [cleans, clean, encs_clean, En.cln]) (F7_own (lstA TSector.E a0) (lstA (lstE TTubeNode.E) a1) _ (g7_okM n a0 a1 (MadeT intE 3 t.1 [Value.int .i64 t.2]) (fun r e u m h => by rw [e]; exact h) h))
theorem mg7S {n k : Nat} {look : Nat → Option ABlk} {args : List AV} {a0 : List TSector} {a1 : List (List TTubeNode)} {t : ρ7} (h : g7 n a0 a1 = some t) (hs : SnL look 6 args [(lstA TSector.E a0), (lstA (lstE TTubeNode.E) a1)]) : PureD Tryz.prog KK.gl look k 7 args (.tup (ownV intE k t.1 :: ([Value.int .i64 t.2] : List Value).map AV.sc)) [(k, ownB intE 3 t.1)] :=
  made_tupS (fun _ => rfl) hs (F7_own (lstA TSector.E a0) (lstA (lstE TTubeNode.E) a1) _ (g7_okM n a0 a1 (MadeT intE 3 t.1 [Value.int .i64 t.2]) (fun r e u m h => by rw [e]; exact h) h))
/- skyway/skywaykeep3.LoadEnters$1 -/
theorem g10_ok (n : Nat) (a0 : Int) {t : ρ10} (R : AV → Mem → Prop) (hR : ∀ r : ρ10, t = r → ∀ u m, Ans ((boolA r)) u m → R u m) : g10 n a0 = some t → F10 a0 R := by
  unfold g10 F10
  exact fun hg => ret1 (hR _ (Option.some.inj hg).symm) (fz_sc _ _)
theorem sg10 {n : Nat} {a0 : Int} {t : ρ10} (h : g10 n a0 = some t) : Says Tryz.prog KK.gl 10 [(intA a0)] ((boolA t)) :=
  says_of_own (by first | rfl | simp [cleans, clean, encs_clean, En.cln]) (by first | rfl | simp [cleans, clean, encs_clean, En.cln]) (F10_own a0 _ (g10_ok n a0 (Ans ((boolA t))) (fun r e u m h => by rw [e]; exact h) h))
/- slices.IndexFunc[[]int,int] -/
theorem B25_0_ok (n : Nat) (a0 : List Int) (c4 : Int) (c7 : Int) (v8 : Int) {t : (Int) ⊕ ρ25} (R : AV → Mem → Prop) (N0 : St → Prop) (hR : ∀ r : ρ25, t = (.inr r) → ∀ u m, Ans ((intA r)) u m → R u m) (hN0 : ∀ y : Int, t = (.inl y) → ∀ s' : St, Weak KK 19 0 s' (h25_0 (lstA intE a0) (AV.fn 10 []) c4 c7 y []) → N0 s') : S25_0 n a0 c4 c7 v8 = some t → B25_0 (lstA intE a0) (AV.fn 10 []) c4 c7 v8 [] R N0 := by
  unfold S25_0 B25_0
  refine cond_b (fun _ => ?_) (fun _ => ?_)
  · refine bind_b fun x173 h173 => ?_
    refine imp (opP_of (show _ = some ((AV.ept [(intA x173)] 0), []) from (idx_lst (E := intE) rfl h173))) ?_
    refine imp (opP_of (show _ = some ((intA x173), []) from rfl)) ?_
    refine imp ex_i64_b ?_
    refine bind_b fun x174 h174 => ?_
    refine imp fnArgs_b ?_
    refine imp (cond_tt rfl) ?_
    refine imp (callQ_says (sg10 h174)) ?_
    refine imp exB_b ?_
    refine cond_b (fun _ => ?_) (fun _ => ?_)
    · exact fun hg => ret1 (hR _ (Option.some.inj hg).symm) (fz_sc _ _)
    · exact fun hg => hN0 _ (Option.some.inj hg).symm _ (weak_mem [] rfl rfl rfl (okW_cons (ent_lst (E := intE) _ false) (okW_cons (.inl (leV_refl _)) (okW_cons (.inl (leV_refl _)) (okW_cons (.inl (leV_refl _)) (okW_cons (.inl (leV_refl _)) okW_nil))))) okB_nil')
  · exact fun hg => ret1 (hR _ (Option.some.inj hg).symm) (fz_sc _ _)
theorem L25_0_ok (n : Nat) (a0 : List Int) (c4 : Int) (c7 : Int) {t : ρ25} (R : AV → Mem → Prop) (hR : ∀ r : ρ25, t = r → ∀ u m, Ans ((intA r)) u m → R u m) (k : Nat) (x : Int) (hx : iterO (fun y : Int => S25_0 n a0 c4 c7 y) k x = some t) {s : St} (hw : Weak KK 19 0 s (h25_0 (lstA intE a0) (AV.fn 10 []) c4 c7 x [])) : Tri Tryz.prog KK 19 0 (.loop c25_0) s (q25_0 R ) :=
  L25_0 R  (σ := Nat × (Int)) (fun z => iterO (fun y : Int => S25_0 n a0 c4 c7 y) z.1 z.2 = some t) (fun z => (lstA intE a0)) (fun z => (AV.fn 10 [])) (fun z => c4) (fun z => c7) (fun z => z.2) (fun z => []) (fun z => z.1) (by
    rintro ⟨k, y⟩ h
    cases k with
    | zero => exact (iterO_zero h).elim
    | succ k =>
      obtain ⟨u, h1, h2, h3⟩ := iterO_elim h
      exact B25_0_ok n a0 c4 c7 y R  _ (fun r e => hR r (h3 _ e).symm)  (fun y' e s' hw => ⟨(k, y'), h2 _ e, Nat.lt_succ_self k, hw⟩) h1) (k, x) hx hw
theorem g25_ok (n : Nat) (a0 : List Int) {t : ρ25} (R : AV → Mem → Prop) (hR : ∀ r : ρ25, t = r → ∀ u m, Ans ((intA r)) u m → R u m) : g25 n a0 = some t → F25 (lstA intE a0) (AV.fn 10 []) R := by
  unfold g25 F25
  refine imp (opP_of (show _ = some ((intA (a0.length : Int)), []) from rfl)) ?_
  refine imp ex_i64_b ?_
  exact fun hg => L25_0_ok n a0 (0) (a0.length : Int) R  hR n _ hg (weak_mem [] rfl rfl rfl (okW_cons (ent_lst (E := intE) _ false) (okW_cons (.inl (leV_refl _)) (okW_cons (.inl (leV_refl _)) (okW_cons (.inl (leV_refl _)) (okW_cons (.inl (leV_refl _)) okW_nil))))) okB_nil')
theorem sg25 {n : Nat} {a0 : List Int} {t : ρ25} (h : g25 n a0 = some t) : Says Tryz.prog KK.gl 25 [(lstA intE a0), (AV.fn 10 [])] ((intA t)) :=
  says_of_own (by first | rfl | simp [cleans, clean, encs_clean, En.cln]) (by first | rfl | simp [cleans, clean, encs_clean, En.cln]) (F25_own (lstA intE a0) (AV.fn 10 []) _ (g25_ok n a0 (Ans ((intA t))) (fun r e u m h => by rw [e]; exact h) h))
/- slices.ContainsFunc[[]int,int] -/
theorem g9_ok (n : Nat) (a0 : List Int) {t : ρ9} (R : AV → Mem → Prop) (hR : ∀ r : ρ9, t = r → ∀ u m, Ans ((boolA r)) u m → R u m) : g9 n a0 = some t → F9 (lstA intE a0) (AV.fn 10 []) R := by
  unfold g9 F9
  refine bind_b fun x175 h175 => ?_
  refine imp (callQ_says (sg25 h175)) ?_
  refine imp ex_i64_b ?_
  exact fun hg => ret1 (hR _ (Option.some.inj hg).symm) (fz_sc _ _)
theorem sg9 {n : Nat} {a0 : List Int} {t : ρ9} (h : g9 n a0 = some t) : Says Tryz.prog KK.gl 9 [(lstA intE a0), (AV.fn 10 [])] ((boolA t)) :=
  says_of_own (by first | rfl | simp [cleans, clean, encs_clean, En.cln]) (by first | rfl | simp [cleans, clean, encs_clean, En.cln]) (F9_own (lstA intE a0) (AV.fn 10 []) _ (g9_ok n a0 (Ans ((boolA t))) (fun r e u m h => by rw [e]; exact h) h))
end Go.Proofs.YtldiackagnjlgaaGreat
