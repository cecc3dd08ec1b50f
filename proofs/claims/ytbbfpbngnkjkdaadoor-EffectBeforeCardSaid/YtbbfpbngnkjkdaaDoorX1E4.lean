/- Plain functional programs out of the program's functions, with proofs that the functions compute them; printed by wip/Ext.lean.txt. -/
import Derived.Test.YtbbfpbngnkjkdaaDoorX1E3
import Derived.Test.YtbbfpbngnkjkdaaDoorNrH
set_option linter.unusedVariables false
set_option linter.unusedSimpArgs false
set_option maxRecDepth 100000
set_option maxHeartbeats 4000000
namespace Go.Proofs.YtbbfpbngnkjkdaaDoor
/- skyway/angle.Vector -/
theorem g44_ok (n : Nat) (a0 : Int) (a1 : Int) {t : ρ44} (R : AV → Mem → Prop) (hR : ∀ r : ρ44, t = r → ∀ u m, Ans ((AV.tup [(AV.agg (TP.E.enc r.1)), (intA r.2)])) u m → R u m) : g44 n a0 a1 = some t → F44 a0 a1 R := by
  unfold g44 F44
  refine cond_b (fun _ => ?_) (fun _ => ?_)
  · refine iq (AV.agg [(intA (0)), (intA (0))]) rfl ?_
    refine imp (storeW_cells (sz := 2) (by kernel_rfl) (by kernel_rfl) rfl rfl (cs := [(intA (0)), (intA (0))]) (cs' := [(intA (0)), (intA (0))]) (ty := 29) (by first | rfl | (simp (disch := first | decide | assumption) only [mpushs_nil, mpushs_cons, mget_hd, mget_tl, mget_appW_o, mget_appW_n, mget_appW_e])) rfl rfl) ?_
    exact fun hg => retN rfl (hR _ (Option.some.inj hg).symm) (fzL_cons (fz_el (E := TP.E) _ (⟨(0), (0)⟩ : TP)) (fzL_cons (fz_sc _ _) fzL_nil))
  · refine cond_b (fun _ => ?_) (fun _ => ?_)
    · refine iq (AV.agg [(intA (0)), (intA (0))]) rfl ?_
      refine imp (storeW_cells (sz := 2) (by kernel_rfl) (by kernel_rfl) rfl rfl (cs := [(intA (0)), (intA (0))]) (cs' := [(intA (0)), (intA (0))]) (ty := 29) (by first | rfl | (simp (disch := first | decide | assumption) only [mpushs_nil, mpushs_cons, mget_hd, mget_tl, mget_appW_o, mget_appW_n, mget_appW_e])) rfl rfl) ?_
      exact fun hg => retN rfl (hR _ (Option.some.inj hg).symm) (fzL_cons (fz_el (E := TP.E) _ (⟨(0), (0)⟩ : TP)) (fzL_cons (fz_sc _ _) fzL_nil))
    · refine bind_b fun x577 h577 => ?_
      refine imp (callQ_says (sg52 h577)) ?_
      refine imp ex_i64_b ?_
      refine bind_b fun x578 h578 => ?_
      refine imp (callQ_says (sg51 h578)) ?_
      refine imp ex_i64_b ?_
      refine bind_b fun x579 h579 => ?_
      refine imp (callQ_says (sg53 h579)) ?_
      refine imp ex_i64_b ?_
      refine bind_b fun x580 h580 => ?_
      refine imp (callQ_says (sg51 h580)) ?_
      refine imp ex_i64_b ?_
      refine iq (AV.agg [(intA x578), (intA x580)]) rfl ?_
      refine imp (storeW_cells (sz := 2) (by kernel_rfl) (by kernel_rfl) rfl rfl (cs := [(intA (0)), (intA (0))]) (cs' := [(intA x578), (intA x580)]) (ty := 29) (by first | rfl | (simp (disch := first | decide | assumption) only [mpushs_nil, mpushs_cons, mget_hd, mget_tl, mget_appW_o, mget_appW_n, mget_appW_e])) rfl rfl) ?_
      exact fun hg => retN rfl (hR _ (Option.some.inj hg).symm) (fzL_cons (fz_el (E := TP.E) _ (⟨x578, x580⟩ : TP)) (fzL_cons (fz_sc _ _) fzL_nil))
theorem sg44 {n : Nat} {a0 : Int} {a1 : Int} {t : ρ44} (h : g44 n a0 a1 = some t) : Says pg KK.gl 44 [(intA a0), (intA a1)] ((AV.tup [(AV.agg (TP.E.enc t.1)), (intA t.2)])) :=
  says_of_own (by first | rfl | simp [cleans, clean, encs_clean, En.cln]) (by first | rfl | simp [cleans, clean, encs_clean, En.cln]) (F44_own a0 a1 _ (g44_ok n a0 a1 (Ans ((AV.tup [(AV.agg (TP.E.enc t.1)), (intA t.2)]))) (fun r e u m h => by rw [e]; exact h) h))
/- skyway/skywaykeep3.level -/
theorem g10_ok (n : Nat) {t : ρ10} (R : AV → Mem → Prop) (hR : ∀ r : ρ10, t = r → ∀ u m, Ans ((lstA TTubeNode.E r)) u m → R u m) : g10 n  = some t → F10  R := by
  unfold g10 F10
  refine iq (AV.agg [(intA (0)), (intA (0)), (intA (0)), (intA (9000))]) rfl ?_
  refine iq (AV.agg [(intA (0)), (intA (0)), (intA (0)), (intA (9000)), (intA (100)), (intA (50))]) rfl ?_
  refine imp (storeW_cells (sz := 6) (by kernel_rfl) (by kernel_rfl) rfl rfl (cs := [(intA (0)), (intA (0)), (intA (0)), (intA (0)), (intA (0)), (intA (0))]) (cs' := [(intA (0)), (intA (0)), (intA (0)), (intA (9000)), (intA (100)), (intA (50))]) (ty := 40) (by first | rfl | (simp (disch := first | decide | assumption) only [mpushs_nil, mpushs_cons, mget_hd, mget_tl, mget_appW_o, mget_appW_n, mget_appW_e])) rfl rfl) ?_
  refine iq (AV.agg [(intA (0)), (intA (0)), (intA (0)), (intA (9000)), (intA (100)), (intA (50))]) (ldA_ptr (b := ⟨[(intA (0)), (intA (0)), (intA (0)), (intA (9000)), (intA (100)), (intA (50))], 40⟩) (by first | rfl | (simp (disch := first | decide | assumption) only [mpushs_nil, mpushs_cons, mget_hd, mget_tl, mget_appW_o, mget_appW_n, mget_appW_e])) rfl) ?_
  refine imp exA6_b ?_
  iterate 6 refine imp ex_i64_b ?_
  refine iq (AV.agg [(intA (0)), (intA (0)), (intA (0)), (intA (9000)), (intA (100)), (intA (50))]) (ldA_ptr (b := ⟨[(intA (0)), (intA (0)), (intA (0)), (intA (9000)), (intA (100)), (intA (50))], 40⟩) (by first | rfl | (simp (disch := first | decide | assumption) only [mpushs_nil, mpushs_cons, mget_hd, mget_tl, mget_appW_o, mget_appW_n, mget_appW_e])) rfl) ?_
  refine imp exA6_b ?_
  iterate 6 refine imp ex_i64_b ?_
  refine imp (opN_of (show _ = some ((blkV TTubeNode.E 17 ([(⟨(0), (0), (0), (9000), (100), (50)⟩ : TTubeNode), (⟨(100), (10000), (0), (9000), (100), (50)⟩ : TTubeNode)] : List TTubeNode)), [(17, some ⟨encs TTubeNode.E ([(⟨(0), (0), (0), (9000), (100), (50)⟩ : TTubeNode), (⟨(100), (10000), (0), (9000), (100), (50)⟩ : TTubeNode)] : List TTubeNode), 40⟩)]) from rfl)) ?_
  exact fun hg => ret1 (hR _ (Option.some.inj hg).symm) (fz_blk (E := TTubeNode.E) (ty := 40) (l' := ([(⟨(0), (0), (0), (9000), (100), (50)⟩ : TTubeNode), (⟨(100), (10000), (0), (9000), (100), (50)⟩ : TTubeNode)] : List TTubeNode)) _ rfl (by first | rfl | (simp (disch := first | decide | assumption) only [mpushs_nil, mpushs_cons, mget_hd, mget_tl, mget_appW_o, mget_appW_n, mget_appW_e])))
theorem sg10 {n : Nat} {t : ρ10} (h : g10 n  = some t) : Says pg KK.gl 10 [] ((lstA TTubeNode.E t)) :=
  says_of_own (by first | rfl | simp [cleans, clean, encs_clean, En.cln]) (by first | rfl | simp [cleans, clean, encs_clean, En.cln]) (F10_own  _ (g10_ok n  (Ans ((lstA TTubeNode.E t))) (fun r e u m h => by rw [e]; exact h) h))
/- skyway/skywaykeep3.climbed -/
theorem g11_ok (n : Nat) (a0 : Int) {t : ρ11} (R : AV → Mem → Prop) (hR : ∀ r : ρ11, t = r → ∀ u m, Ans ((AV.agg (TClearance.E.enc r))) u m → R u m) : g11 n a0 = some t → F11 a0 R := by
  unfold g11 F11
  refine iq (AV.agg [(strA (⟨#[65, 49]⟩ : ByteArray)), (intA (0)), (intA a0), (strA (⟨#[]⟩ : ByteArray))]) rfl ?_
  refine imp (storeW_cells (sz := 4) (by kernel_rfl) (by kernel_rfl) rfl rfl (cs := [(strA (⟨#[]⟩ : ByteArray)), (intA (0)), (intA (0)), (strA (⟨#[]⟩ : ByteArray))]) (cs' := [(strA (⟨#[65, 49]⟩ : ByteArray)), (intA (0)), (intA a0), (strA (⟨#[]⟩ : ByteArray))]) (ty := 25) (by first | rfl | (simp (disch := first | decide | assumption) only [mpushs_nil, mpushs_cons, mget_hd, mget_tl, mget_appW_o, mget_appW_n, mget_appW_e])) rfl rfl) ?_
  exact fun hg => ret1 (hR _ (Option.some.inj hg).symm) (fz_el (E := TClearance.E) _ (⟨(⟨#[65, 49]⟩ : ByteArray), (0), a0, (⟨#[]⟩ : ByteArray)⟩ : TClearance))
theorem sg11 {n : Nat} {a0 : Int} {t : ρ11} (h : g11 n a0 = some t) : Says pg KK.gl 11 [(intA a0)] ((AV.agg (TClearance.E.enc t))) :=
  says_of_own (by first | rfl | simp [cleans, clean, encs_clean, En.cln]) (by first | rfl | simp [cleans, clean, encs_clean, En.cln]) (F11_own a0 _ (g11_ok n a0 (Ans ((AV.agg (TClearance.E.enc t)))) (fun r e u m h => by rw [e]; exact h) h))
/- skyway/skywaykeep3.jet -/
theorem g12_ok (n : Nat) {t : ρ12} (R : AV → Mem → Prop) (hR : ∀ r : ρ12, t = r → ∀ u m, Ans ((AV.agg (TKind.E.enc r))) u m → R u m) : g12 n  = some t → F12  R := by
  unfold g12 F12
  refine iq (AV.agg [(strA (⟨#[74, 69, 84]⟩ : ByteArray)), (intA (1)), (intA (40000)), (intA (50)), (intA (40)), (intA (50)), (intA (300))]) rfl ?_
  refine imp (storeW_cells (sz := 7) (by kernel_rfl) (by kernel_rfl) rfl rfl (cs := [(strA (⟨#[]⟩ : ByteArray)), (intA (0)), (intA (0)), (intA (0)), (intA (0)), (intA (0)), (intA (0))]) (cs' := [(strA (⟨#[74, 69, 84]⟩ : ByteArray)), (intA (1)), (intA (40000)), (intA (50)), (intA (40)), (intA (50)), (intA (300))]) (ty := 27) (by first | rfl | (simp (disch := first | decide | assumption) only [mpushs_nil, mpushs_cons, mget_hd, mget_tl, mget_appW_o, mget_appW_n, mget_appW_e])) rfl rfl) ?_
  exact fun hg => ret1 (hR _ (Option.some.inj hg).symm) (fz_el (E := TKind.E) _ (⟨(⟨#[74, 69, 84]⟩ : ByteArray), (1), (40000), (50), (40), (50), (300)⟩ : TKind))
theorem sg12 {n : Nat} {t : ρ12} (h : g12 n  = some t) : Says pg KK.gl 12 [] ((AV.agg (TKind.E.enc t))) :=
  says_of_own (by first | rfl | simp [cleans, clean, encs_clean, En.cln]) (by first | rfl | simp [cleans, clean, encs_clean, En.cln]) (F12_own  _ (g12_ok n  (Ans ((AV.agg (TKind.E.enc t)))) (fun r e u m h => by rw [e]; exact h) h))
/- skyway/plane.Check -/
theorem g20_ok (n : Nat) (a0 : TP) {t : ρ20} (R : AV → Mem → Prop) (hR : ∀ r : ρ20, t = r → ∀ u m, Ans ((intA r)) u m → R u m) : g20 n a0 = some t → F20 a0.X a0.Y R := by
  unfold g20 F20
  refine cond_b (fun _ => ?_) (fun _ => ?_)
  · exact fun hg => ret1 (hR _ (Option.some.inj hg).symm) (fz_sc _ _)
  · refine cond_b (fun _ => ?_) (fun _ => ?_)
    · exact fun hg => ret1 (hR _ (Option.some.inj hg).symm) (fz_sc _ _)
    · refine cond_b (fun _ => ?_) (fun _ => ?_)
      · exact fun hg => ret1 (hR _ (Option.some.inj hg).symm) (fz_sc _ _)
      · refine cond_b (fun _ => ?_) (fun _ => ?_)
        · exact fun hg => ret1 (hR _ (Option.some.inj hg).symm) (fz_sc _ _)
        · exact fun hg => ret1 (hR _ (Option.some.inj hg).symm) (fz_sc _ _)
theorem sg20 {n : Nat} {a0 : TP} {t : ρ20} (h : g20 n a0 = some t) : Says pg KK.gl 20 [(AV.agg [(intA a0.X), (intA a0.Y)])] ((intA t)) :=
  says_of_own (by first | rfl | simp [cleans, clean, encs_clean, En.cln]) (by first | rfl | simp [cleans, clean, encs_clean, En.cln]) (F20_own a0.X a0.Y _ (g20_ok n a0 (Ans ((intA t))) (fun r e u m h => by rw [e]; exact h) h))
/- skyway/tube.Check -/
theorem B7_0_ok (n : Nat) (a0 : List TTubeNode) (c2 : Int) (c15 : Int) (v16 : Int) {t : (Int) ⊕ ρ7} (R : AV → Mem → Prop) (N0 : St → Prop) (hR : ∀ r : ρ7, t = (.inr r) → ∀ u m, Ans ((intA r)) u m → R u m) (hN0 : ∀ y : Int, t = (.inl y) → ∀ s' : St, Weak KK 86 0 s' (h7_0 (lstA TTubeNode.E a0) c2 (lstA TTubeNode.E a0) c15 y []) → N0 s') : S7_0 n a0 c2 c15 v16 = some t → B7_0 (lstA TTubeNode.E a0) c2 (lstA TTubeNode.E a0) c15 v16 [] R N0 := by
  unfold S7_0 B7_0
  refine cond_b (fun _ => ?_) (fun _ => ?_)
  · refine bind_b fun x585 h585 => ?_
    refine iq (AV.ept [(intA x585.Node_Time), (intA x585.Node_At_X), (intA x585.Node_At_Y), (intA x585.Node_Height), (intA x585.Radius), (intA x585.Band)] 0) (idx_lst (E := TTubeNode.E) rfl h585) ?_
    refine iq (AV.agg [(intA x585.Node_Time), (intA x585.Node_At_X), (intA x585.Node_At_Y), (intA x585.Node_Height), (intA x585.Radius), (intA x585.Band)]) rfl ?_
    refine imp exA6_b ?_
    iterate 6 refine imp ex_i64_b ?_
    refine cond_b (fun _ => ?_) (fun _ => ?_)
    · exact fun hg => ret1 (hR _ (Option.some.inj hg).symm) (fz_sc _ _)
    · refine cond_b (fun _ => ?_) (fun _ => ?_)
      · exact fun hg => ret1 (hR _ (Option.some.inj hg).symm) (fz_sc _ _)
      · refine cond_b (fun _ => ?_) (fun _ => ?_)
        · refine bind_b fun x586 h586 => ?_
          refine iq (AV.ept [(intA x586.Node_Time), (intA x586.Node_At_X), (intA x586.Node_At_Y), (intA x586.Node_Height), (intA x586.Radius), (intA x586.Band)] 0) (idx_lst (E := TTubeNode.E) rfl h586) ?_
          refine iq (AV.ept [(intA x586.Node_Time), (intA x586.Node_At_X), (intA x586.Node_At_Y), (intA x586.Node_Height), (intA x586.Radius), (intA x586.Band)] 0) rfl ?_
          refine iq (AV.ept [(intA x586.Node_Time), (intA x586.Node_At_X), (intA x586.Node_At_Y), (intA x586.Node_Height), (intA x586.Radius), (intA x586.Band)] 0) rfl ?_
          refine iq (intA x586.Node_Time) rfl ?_
          refine imp ex_i64_b ?_
          refine cond_b (fun _ => ?_) (fun _ => ?_)
          · exact fun hg => ret1 (hR _ (Option.some.inj hg).symm) (fz_sc _ _)
          · refine bind_b fun x587 h587 => ?_
            refine imp (callQ_says (sg20 h587)) ?_
            refine imp ex_i64_b ?_
            refine cond_b (fun _ => ?_) (fun _ => ?_)
            · exact fun hg => ret1 (hR _ (Option.some.inj hg).symm) (fz_sc _ _)
            · refine cond_b (fun _ => ?_) (fun _ => ?_)
              · exact fun hg => ret1 (hR _ (Option.some.inj hg).symm) (fz_sc _ _)
              · refine cond_b (fun _ => ?_) (fun _ => ?_)
                · exact fun hg => ret1 (hR _ (Option.some.inj hg).symm) (fz_sc _ _)
                · refine cond_b (fun _ => ?_) (fun _ => ?_)
                  · exact fun hg => ret1 (hR _ (Option.some.inj hg).symm) (fz_sc _ _)
                  · refine cond_b (fun _ => ?_) (fun _ => ?_)
                    · exact fun hg => ret1 (hR _ (Option.some.inj hg).symm) (fz_sc _ _)
                    · refine cond_b (fun _ => ?_) (fun _ => ?_)
                      · exact fun hg => ret1 (hR _ (Option.some.inj hg).symm) (fz_sc _ _)
                      · refine cond_b (fun _ => ?_) (fun _ => ?_)
                        · exact fun hg => ret1 (hR _ (Option.some.inj hg).symm) (fz_sc _ _)
                        · exact fun hg => hN0 _ (Option.some.inj hg).symm _ (weak_mem [] rfl rfl rfl (okW_cons (ent_lst (E := TTubeNode.E) _ false) (okW_cons (.inl (leV_refl _)) (okW_cons (ent_lst (E := TTubeNode.E) _ false) (okW_cons (.inl (leV_refl _)) (okW_cons (.inl (leV_refl _)) okW_nil))))) okB_nil')
        · refine bind_b fun x588 h588 => ?_
          refine imp (callQ_says (sg20 h588)) ?_
          refine imp ex_i64_b ?_
          refine cond_b (fun _ => ?_) (fun _ => ?_)
          · exact fun hg => ret1 (hR _ (Option.some.inj hg).symm) (fz_sc _ _)
          · refine cond_b (fun _ => ?_) (fun _ => ?_)
            · exact fun hg => ret1 (hR _ (Option.some.inj hg).symm) (fz_sc _ _)
            · refine cond_b (fun _ => ?_) (fun _ => ?_)
              · exact fun hg => ret1 (hR _ (Option.some.inj hg).symm) (fz_sc _ _)
              · refine cond_b (fun _ => ?_) (fun _ => ?_)
                · exact fun hg => ret1 (hR _ (Option.some.inj hg).symm) (fz_sc _ _)
                · refine cond_b (fun _ => ?_) (fun _ => ?_)
                  · exact fun hg => ret1 (hR _ (Option.some.inj hg).symm) (fz_sc _ _)
                  · refine cond_b (fun _ => ?_) (fun _ => ?_)
                    · exact fun hg => ret1 (hR _ (Option.some.inj hg).symm) (fz_sc _ _)
                    · refine cond_b (fun _ => ?_) (fun _ => ?_)
                      · exact fun hg => ret1 (hR _ (Option.some.inj hg).symm) (fz_sc _ _)
                      · exact fun hg => hN0 _ (Option.some.inj hg).symm _ (weak_mem [] rfl rfl rfl (okW_cons (ent_lst (E := TTubeNode.E) _ false) (okW_cons (.inl (leV_refl _)) (okW_cons (ent_lst (E := TTubeNode.E) _ false) (okW_cons (.inl (leV_refl _)) (okW_cons (.inl (leV_refl _)) okW_nil))))) okB_nil')
  · exact fun hg => ret1 (hR _ (Option.some.inj hg).symm) (fz_sc _ _)
theorem L7_0_ok (n : Nat) (a0 : List TTubeNode) (c2 : Int) (c15 : Int) {t : ρ7} (R : AV → Mem → Prop) (hR : ∀ r : ρ7, t = r → ∀ u m, Ans ((intA r)) u m → R u m) (k : Nat) (x : Int) (hx : iterO (fun y : Int => S7_0 n a0 c2 c15 y) k x = some t) {s : St} (hw : Weak KK 86 0 s (h7_0 (lstA TTubeNode.E a0) c2 (lstA TTubeNode.E a0) c15 x [])) : Tri pg KK 86 0 (.loop c7_0) s (q7_0 R ) :=
  L7_0 R  (σ := Nat × (Int)) (fun z => iterO (fun y : Int => S7_0 n a0 c2 c15 y) z.1 z.2 = some t) (fun z => (lstA TTubeNode.E a0)) (fun z => c2) (fun z => (lstA TTubeNode.E a0)) (fun z => c15) (fun z => z.2) (fun z => []) (fun z => z.1) (by
    rintro ⟨k, y⟩ h
    cases k with
    | zero => exact (iterO_zero h).elim
    | succ k =>
      obtain ⟨u, h1, h2, h3⟩ := iterO_elim h
      exact B7_0_ok n a0 c2 c15 y R  _ (fun r e => hR r (h3 _ e).symm)  (fun y' e s' hw => ⟨(k, y'), h2 _ e, Nat.lt_succ_self k, hw⟩) h1) (k, x) hx hw
theorem g7_ok (n : Nat) (a0 : List TTubeNode) {t : ρ7} (R : AV → Mem → Prop) (hR : ∀ r : ρ7, t = r → ∀ u m, Ans ((intA r)) u m → R u m) : g7 n a0 = some t → F7 (lstA TTubeNode.E a0) R := by
  unfold g7 F7
  refine iq (intA (a0.length : Int)) rfl ?_
  refine imp ex_i64_b ?_
  refine cond_b (fun _ => ?_) (fun _ => ?_)
  · exact fun hg => ret1 (hR _ (Option.some.inj hg).symm) (fz_sc _ _)
  · refine iq (intA (a0.length : Int)) rfl ?_
    refine imp ex_i64_b ?_
    refine cond_b (fun _ => ?_) (fun _ => ?_)
    · exact fun hg => ret1 (hR _ (Option.some.inj hg).symm) (fz_sc _ _)
    · refine iq (intA (a0.length : Int)) rfl ?_
      refine imp ex_i64_b ?_
      exact fun hg => L7_0_ok n a0 (0) (a0.length : Int) R  hR n _ hg (weak_mem [] rfl rfl rfl (okW_cons (ent_lst (E := TTubeNode.E) _ false) (okW_cons (.inl (leV_refl _)) (okW_cons (ent_lst (E := TTubeNode.E) _ false) (okW_cons (.inl (leV_refl _)) (okW_cons (.inl (leV_refl _)) okW_nil))))) okB_nil')
theorem sg7 {n : Nat} {a0 : List TTubeNode} {t : ρ7} (h : g7 n a0 = some t) : Says pg KK.gl 7 [(lstA TTubeNode.E a0)] ((intA t)) :=
  says_of_own (by first | rfl | simp [cleans, clean, encs_clean, En.cln]) (by first | rfl | simp [cleans, clean, encs_clean, En.cln]) (F7_own (lstA TTubeNode.E a0) _ (g7_ok n a0 (Ans ((intA t))) (fun r e u m h => by rw [e]; exact h) h))
/- skyway/effect.Of$1 -/
theorem g14_ok (n : Nat) (a0_0 : List TTubeNode) {t : ρ14} (R : AV → Mem → Prop) (hR : ∀ r : ρ14, t = r → ∀ u m, Ans ((intA r)) u m → R u m) : g14 n a0_0 = some t → F14 (AV.ept [(lstA TTubeNode.E a0_0)] 0) R := by
  unfold g14 F14
  refine iq (lstA TTubeNode.E a0_0) rfl ?_
  refine bind_b fun x589 h589 => ?_
  refine imp (callQ_says (sg7 h589)) ?_
  refine imp ex_i64_b ?_
  exact fun hg => ret1 (hR _ (Option.some.inj hg).symm) (fz_sc _ _)
theorem sg14 {n : Nat} {a0_0 : List TTubeNode} {t : ρ14} (h : g14 n a0_0 = some t) : Says pg KK.gl 14 [(AV.ept [(lstA TTubeNode.E a0_0)] 0)] ((intA t)) :=
  says_of_own (by first | rfl | simp [cleans, clean, encs_clean, En.cln]) (by first | rfl | simp [cleans, clean, encs_clean, En.cln]) (F14_own (AV.ept [(lstA TTubeNode.E a0_0)] 0) _ (g14_ok n a0_0 (Ans ((intA t))) (fun r e u m h => by rw [e]; exact h) h))
/- skyway/chart.Name -/
theorem B28_0_ok (n : Nat) (c2 : Bool) (c14 : List UInt8) (c15 : Int) (v16 : Int) {t : (Int) ⊕ ρ28} (R : AV → Mem → Prop) (N0 : St → Prop) (hR : ∀ r : ρ28, t = (.inr r) → ∀ u m, Ans ((boolA r)) u m → R u m) (hN0 : ∀ y : Int, t = (.inl y) → ∀ s' : St, Weak KK 41 0 s' (h28_0 c2 (lstA byteE c14) c15 y []) → N0 s') : S28_0 n c2 c14 c15 v16 = some t → B28_0 c2 (lstA byteE c14) c15 v16 [] R N0 := by
  unfold S28_0 B28_0
  refine cond_b (fun _ => ?_) (fun _ => ?_)
  · refine bind_b fun x593 h593 => ?_
    refine iq (AV.ept [(AV.sc (.int .u8 (x593.toNat : Int)))] 0) (idx_lst (E := byteE) rfl h593) ?_
    refine iq (AV.sc (.int .u8 (x593.toNat : Int))) rfl ?_
    refine imp ex_u8_b ?_
    refine cond_b (fun _ => ?_) (fun _ => ?_)
    · refine cond_b (fun _ => ?_) (fun _ => ?_)
      · exact fun hg => hN0 _ (Option.some.inj hg).symm _ (weak_mem [] rfl rfl rfl (okW_cons (.inl (leV_refl _)) (okW_cons (ent_lst (E := byteE) _ false) (okW_cons (.inl (leV_refl _)) (okW_cons (.inl (leV_refl _)) okW_nil)))) okB_nil')
      · refine cond_b (fun _ => ?_) (fun _ => ?_)
        · refine cond_b (fun _ => ?_) (fun _ => ?_)
          · refine cond_b (fun _ => ?_) (fun _ => ?_)
            · exact fun hg => ret1 (hR _ (Option.some.inj hg).symm) (fz_sc _ _)
            · exact fun hg => hN0 _ (Option.some.inj hg).symm _ (weak_mem [] rfl rfl rfl (okW_cons (.inl (leV_refl _)) (okW_cons (ent_lst (E := byteE) _ false) (okW_cons (.inl (leV_refl _)) (okW_cons (.inl (leV_refl _)) okW_nil)))) okB_nil')
          · exact fun hg => ret1 (hR _ (Option.some.inj hg).symm) (fz_sc _ _)
        · exact fun hg => ret1 (hR _ (Option.some.inj hg).symm) (fz_sc _ _)
    · refine cond_b (fun _ => ?_) (fun _ => ?_)
      · refine cond_b (fun _ => ?_) (fun _ => ?_)
        · refine cond_b (fun _ => ?_) (fun _ => ?_)
          · exact fun hg => ret1 (hR _ (Option.some.inj hg).symm) (fz_sc _ _)
          · exact fun hg => hN0 _ (Option.some.inj hg).symm _ (weak_mem [] rfl rfl rfl (okW_cons (.inl (leV_refl _)) (okW_cons (ent_lst (E := byteE) _ false) (okW_cons (.inl (leV_refl _)) (okW_cons (.inl (leV_refl _)) okW_nil)))) okB_nil')
        · exact fun hg => ret1 (hR _ (Option.some.inj hg).symm) (fz_sc _ _)
      · exact fun hg => ret1 (hR _ (Option.some.inj hg).symm) (fz_sc _ _)
  · exact fun hg => ret1 (hR _ (Option.some.inj hg).symm) (fz_sc _ _)
theorem L28_0_ok (n : Nat) (c2 : Bool) (c14 : List UInt8) (c15 : Int) {t : ρ28} (R : AV → Mem → Prop) (hR : ∀ r : ρ28, t = r → ∀ u m, Ans ((boolA r)) u m → R u m) (k : Nat) (x : Int) (hx : iterO (fun y : Int => S28_0 n c2 c14 c15 y) k x = some t) {s : St} (hw : Weak KK 41 0 s (h28_0 c2 (lstA byteE c14) c15 x [])) : Tri pg KK 41 0 (.loop c28_0) s (q28_0 R ) :=
  L28_0 R  (σ := Nat × (Int)) (fun z => iterO (fun y : Int => S28_0 n c2 c14 c15 y) z.1 z.2 = some t) (fun z => c2) (fun z => (lstA byteE c14)) (fun z => c15) (fun z => z.2) (fun z => []) (fun z => z.1) (by
    rintro ⟨k, y⟩ h
    cases k with
    | zero => exact (iterO_zero h).elim
    | succ k =>
      obtain ⟨u, h1, h2, h3⟩ := iterO_elim h
      exact B28_0_ok n c2 c14 c15 y R  _ (fun r e => hR r (h3 _ e).symm)  (fun y' e s' hw => ⟨(k, y'), h2 _ e, Nat.lt_succ_self k, hw⟩) h1) (k, x) hx hw
theorem g28_ok (n : Nat) (a0 : ByteArray) {t : ρ28} (R : AV → Mem → Prop) (hR : ∀ r : ρ28, t = r → ∀ u m, Ans ((boolA r)) u m → R u m) : g28 n a0 = some t → F28 a0 R := by
  unfold g28 F28
  refine iq (intA (a0.size : Int)) (by kernel_rfl) ?_
  refine imp ex_i64_b ?_
  refine cond_b (fun _ => ?_) (fun _ => ?_)
  · exact fun hg => ret1 (hR _ (Option.some.inj hg).symm) (fz_sc _ _)
  · refine iq (intA (a0.size : Int)) (by kernel_rfl) ?_
    refine imp ex_i64_b ?_
    refine cond_b (fun _ => ?_) (fun _ => ?_)
    · exact fun hg => ret1 (hR _ (Option.some.inj hg).symm) (fz_sc _ _)
    · refine bind_b fun x592 h592 => ?_
      refine iq (lstA byteE (a0.data.toList)) (opA_bytes (e := 5) (by kernel_rfl) (by kernel_rfl) (by kernel_rfl) h592) ?_
      refine iq (intA ((a0.data.toList).length : Int)) rfl ?_
      refine imp ex_i64_b ?_
      exact fun hg => L28_0_ok n false (a0.data.toList) ((a0.data.toList).length : Int) R  hR n _ hg (weak_mem [] rfl rfl rfl (okW_cons (.inl (leV_refl _)) (okW_cons (ent_lst (E := byteE) _ false) (okW_cons (.inl (leV_refl _)) (okW_cons (.inl (leV_refl _)) okW_nil)))) okB_nil')
theorem sg28 {n : Nat} {a0 : ByteArray} {t : ρ28} (h : g28 n a0 = some t) : Says pg KK.gl 28 [(strA a0)] ((boolA t)) :=
  says_of_own (by first | rfl | simp [cleans, clean, encs_clean, En.cln]) (by first | rfl | simp [cleans, clean, encs_clean, En.cln]) (F28_own a0 _ (g28_ok n a0 (Ans ((boolA t))) (fun r e u m h => by rw [e]; exact h) h))
/- slices.Index[[]string,string] -/
theorem B48_0_ok (n : Nat) (a0 : List ByteArray) (a1 : ByteArray) (c4 : Int) (c7 : Int) (v8 : Int) {t : (Int) ⊕ ρ48} (R : AV → Mem → Prop) (N0 : St → Prop) (hR : ∀ r : ρ48, t = (.inr r) → ∀ u m, Ans ((intA r)) u m → R u m) (hN0 : ∀ y : Int, t = (.inl y) → ∀ s' : St, Weak KK 19 0 s' (h48_0 (lstA strE a0) a1 c4 c7 y []) → N0 s') : S48_0 n a0 a1 c4 c7 v8 = some t → B48_0 (lstA strE a0) a1 c4 c7 v8 [] R N0 := by
  unfold S48_0 B48_0
  refine cond_b (fun _ => ?_) (fun _ => ?_)
  · refine bind_b fun x595 h595 => ?_
    refine iq (AV.ept [(strA x595)] 0) (idx_lst (E := strE) rfl h595) ?_
    refine iq (strA x595) rfl ?_
    refine imp exStr_b ?_
    refine cond_b (fun _ => ?_) (fun _ => ?_)
    · exact fun hg => ret1 (hR _ (Option.some.inj hg).symm) (fz_sc _ _)
    · exact fun hg => hN0 _ (Option.some.inj hg).symm _ (weak_mem [] rfl rfl rfl (okW_cons (ent_lst (E := strE) _ false) (okW_cons (.inl (leV_refl _)) (okW_cons (.inl (leV_refl _)) (okW_cons (.inl (leV_refl _)) (okW_cons (.inl (leV_refl _)) okW_nil))))) okB_nil')
  · exact fun hg => ret1 (hR _ (Option.some.inj hg).symm) (fz_sc _ _)
theorem L48_0_ok (n : Nat) (a0 : List ByteArray) (a1 : ByteArray) (c4 : Int) (c7 : Int) {t : ρ48} (R : AV → Mem → Prop) (hR : ∀ r : ρ48, t = r → ∀ u m, Ans ((intA r)) u m → R u m) (k : Nat) (x : Int) (hx : iterO (fun y : Int => S48_0 n a0 a1 c4 c7 y) k x = some t) {s : St} (hw : Weak KK 19 0 s (h48_0 (lstA strE a0) a1 c4 c7 x [])) : Tri pg KK 19 0 (.loop c48_0) s (q48_0 R ) :=
  L48_0 R  (σ := Nat × (Int)) (fun z => iterO (fun y : Int => S48_0 n a0 a1 c4 c7 y) z.1 z.2 = some t) (fun z => (lstA strE a0)) (fun z => a1) (fun z => c4) (fun z => c7) (fun z => z.2) (fun z => []) (fun z => z.1) (by
    rintro ⟨k, y⟩ h
    cases k with
    | zero => exact (iterO_zero h).elim
    | succ k =>
      obtain ⟨u, h1, h2, h3⟩ := iterO_elim h
      exact B48_0_ok n a0 a1 c4 c7 y R  _ (fun r e => hR r (h3 _ e).symm)  (fun y' e s' hw => ⟨(k, y'), h2 _ e, Nat.lt_succ_self k, hw⟩) h1) (k, x) hx hw
theorem g48_ok (n : Nat) (a0 : List ByteArray) (a1 : ByteArray) {t : ρ48} (R : AV → Mem → Prop) (hR : ∀ r : ρ48, t = r → ∀ u m, Ans ((intA r)) u m → R u m) : g48 n a0 a1 = some t → F48 (lstA strE a0) a1 R := by
  unfold g48 F48
  refine iq (intA (a0.length : Int)) rfl ?_
  refine imp ex_i64_b ?_
  exact fun hg => L48_0_ok n a0 a1 (0) (a0.length : Int) R  hR n _ hg (weak_mem [] rfl rfl rfl (okW_cons (ent_lst (E := strE) _ false) (okW_cons (.inl (leV_refl _)) (okW_cons (.inl (leV_refl _)) (okW_cons (.inl (leV_refl _)) (okW_cons (.inl (leV_refl _)) okW_nil))))) okB_nil')
theorem sg48 {n : Nat} {a0 : List ByteArray} {a1 : ByteArray} {t : ρ48} (h : g48 n a0 a1 = some t) : Says pg KK.gl 48 [(lstA strE a0), (strA a1)] ((intA t)) :=
  says_of_own (by first | rfl | simp [cleans, clean, encs_clean, En.cln]) (by first | rfl | simp [cleans, clean, encs_clean, En.cln]) (F48_own (lstA strE a0) a1 _ (g48_ok n a0 a1 (Ans ((intA t))) (fun r e u m h => by rw [e]; exact h) h))
/- skyway/phrase.kind -/
theorem g39_ok (n : Nat) (a0 : ByteArray) {t : ρ39} (R : AV → Mem → Prop) (hR : ∀ r : ρ39, t = r → ∀ u m, Ans ((intA r)) u m → R u m) : g39 n a0 = some t → F39 a0 R := by
  unfold g39 F39
  refine iq (AV.lst (([(⟨#[72, 69, 73, 71, 72, 84]⟩ : ByteArray), (⟨#[72, 69, 65, 68, 73, 78, 71]⟩ : ByteArray), (⟨#[83, 80, 69, 69, 68]⟩ : ByteArray), (⟨#[68, 73, 82, 69, 67, 84]⟩ : ByteArray), (⟨#[72, 79, 76, 68]⟩ : ByteArray), (⟨#[67, 79, 78, 84, 65, 67, 84]⟩ : ByteArray), (⟨#[76, 65, 78, 68]⟩ : ByteArray)] : List ByteArray)).length (encs strE ([(⟨#[72, 69, 73, 71, 72, 84]⟩ : ByteArray), (⟨#[72, 69, 65, 68, 73, 78, 71]⟩ : ByteArray), (⟨#[83, 80, 69, 69, 68]⟩ : ByteArray), (⟨#[68, 73, 82, 69, 67, 84]⟩ : ByteArray), (⟨#[72, 79, 76, 68]⟩ : ByteArray), (⟨#[67, 79, 78, 84, 65, 67, 84]⟩ : ByteArray), (⟨#[76, 65, 78, 68]⟩ : ByteArray)] : List ByteArray)) true) (by kernel_rfl) ?_
  refine bind_b fun x596 h596 => ?_
  refine imp (callQ_saysL (rl_cons leV_lstT (rl_cons (leV_refl _) rl_nil)) (sg48 h596)) ?_
  refine imp ex_i64_b ?_
  exact fun hg => ret1 (hR _ (Option.some.inj hg).symm) (fz_sc _ _)
theorem sg39 {n : Nat} {a0 : ByteArray} {t : ρ39} (h : g39 n a0 = some t) : Says pg KK.gl 39 [(strA a0)] ((intA t)) :=
  says_of_own (by first | rfl | simp [cleans, clean, encs_clean, En.cln]) (by first | rfl | simp [cleans, clean, encs_clean, En.cln]) (F39_own a0 _ (g39_ok n a0 (Ans ((intA t))) (fun r e u m h => by rw [e]; exact h) h))
/- skyway/phrase.name -/
theorem g26_ok (n : Nat) (a0 : ByteArray) {t : ρ26} (R : AV → Mem → Prop) (hR : ∀ r : ρ26, t = r → ∀ u m, Ans ((boolA r)) u m → R u m) : g26 n a0 = some t → F26 a0 R := by
  unfold g26 F26
  refine bind_b fun x594 h594 => ?_
  refine imp (callQ_says (sg28 h594)) ?_
  refine imp exB_b ?_
  refine cond_b (fun _ => ?_) (fun _ => ?_)
  · refine bind_b fun x597 h597 => ?_
    refine imp (callQ_says (sg39 h597)) ?_
    refine imp ex_i64_b ?_
    exact fun hg => ret1 (hR _ (Option.some.inj hg).symm) (fz_sc _ _)
  · exact fun hg => ret1 (hR _ (Option.some.inj hg).symm) (fz_sc _ _)
theorem sg26 {n : Nat} {a0 : ByteArray} {t : ρ26} (h : g26 n a0 = some t) : Says pg KK.gl 26 [(strA a0)] ((boolA t)) :=
  says_of_own (by first | rfl | simp [cleans, clean, encs_clean, En.cln]) (by first | rfl | simp [cleans, clean, encs_clean, En.cln]) (F26_own a0 _ (g26_ok n a0 (Ans ((boolA t))) (fun r e u m h => by rw [e]; exact h) h))
/- skyway/phrase.Check -/
theorem g16_ok (n : Nat) (a0 : TClearance) {t : ρ16} (R : AV → Mem → Prop) (hR : ∀ r : ρ16, t = r → ∀ u m, Ans ((intA r)) u m → R u m) : g16 n a0 = some t → F16 a0.Call a0.Kind a0.Value a0.Fix R := by
  unfold g16 F16
  refine bind_b fun x598 h598 => ?_
  refine imp (callQ_says (sg26 h598)) ?_
  refine imp exB_b ?_
  refine cond_b (fun _ => ?_) (fun _ => ?_)
  · exact fun hg => ret1 (hR _ (Option.some.inj hg).symm) (fz_sc _ _)
  · refine cond_b (fun _ => ?_) (fun _ => ?_)
    · exact fun hg => ret1 (hR _ (Option.some.inj hg).symm) (fz_sc _ _)
    · refine cond_b (fun _ => ?_) (fun _ => ?_)
      · exact fun hg => ret1 (hR _ (Option.some.inj hg).symm) (fz_sc _ _)
      · refine cond_b (fun _ => ?_) (fun _ => ?_)
        · refine cond_b (fun _ => ?_) (fun _ => ?_)
          · exact fun hg => ret1 (hR _ (Option.some.inj hg).symm) (fz_sc _ _)
          · refine bind_b fun x599 h599 => ?_
            refine imp (callQ_says (sg26 h599)) ?_
            refine imp exB_b ?_
            refine cond_b (fun _ => ?_) (fun _ => ?_)
            · exact fun hg => ret1 (hR _ (Option.some.inj hg).symm) (fz_sc _ _)
            · exact fun hg => ret1 (hR _ (Option.some.inj hg).symm) (fz_sc _ _)
        · refine cond_b (fun _ => ?_) (fun _ => ?_)
          · exact fun hg => ret1 (hR _ (Option.some.inj hg).symm) (fz_sc _ _)
          · refine cond_b (fun _ => ?_) (fun _ => ?_)
            · exact fun hg => ret1 (hR _ (Option.some.inj hg).symm) (fz_sc _ _)
            · refine bind_b fun x600 h600 => ?_
              refine iq (AV.ept [(intA (60000)), (intA (4095)), (intA (400))] (((a0.Kind : Int).toNat) * 1 + 0)) (idxA_ept0 (l := ([(60000), (4095), (400)] : List Int)) (len := 3) rfl h600) ?_
              refine iq (intA x600) (ldS_ept_blk (E := intE) (l := ([(60000), (4095), (400)] : List Int)) (o := 0) rfl (getI_some h600).2 rfl (by decide) rfl) ?_
              refine imp ex_i64_b ?_
              refine cond_b (fun _ => ?_) (fun _ => ?_)
              · exact fun hg => ret1 (hR _ (Option.some.inj hg).symm) (fz_sc _ _)
              · exact fun hg => ret1 (hR _ (Option.some.inj hg).symm) (fz_sc _ _)
theorem sg16 {n : Nat} {a0 : TClearance} {t : ρ16} (h : g16 n a0 = some t) : Says pg KK.gl 16 [(AV.agg [(strA a0.Call), (intA a0.Kind), (intA a0.Value), (strA a0.Fix)])] ((intA t)) :=
  says_of_own (by first | rfl | simp [cleans, clean, encs_clean, En.cln]) (by first | rfl | simp [cleans, clean, encs_clean, En.cln]) (F16_own a0.Call a0.Kind a0.Value a0.Fix _ (g16_ok n a0 (Ans ((intA t))) (fun r e u m h => by rw [e]; exact h) h))
/- skyway/effect.Of$2 -/
theorem g15_ok (n : Nat) (a0_0 : ByteArray) (a0_1 : Int) (a0_2 : Int) (a0_3 : ByteArray) {t : ρ15} (R : AV → Mem → Prop) (hR : ∀ r : ρ15, t = r → ∀ u m, Ans ((intA r)) u m → R u m) : g15 n a0_0 a0_1 a0_2 a0_3 = some t → F15 (AV.ept [(strA a0_0), (intA a0_1), (intA a0_2), (strA a0_3)] 0) R := by
  unfold g15 F15
  refine iq (AV.agg [(strA a0_0), (intA a0_1), (intA a0_2), (strA a0_3)]) rfl ?_
  refine imp exA4_b ?_
  refine imp exStr_b ?_
  iterate 2 refine imp ex_i64_b ?_
  refine imp exStr_b ?_
  refine bind_b fun x601 h601 => ?_
  refine imp (callQ_says (sg16 h601)) ?_
  refine imp ex_i64_b ?_
  exact fun hg => ret1 (hR _ (Option.some.inj hg).symm) (fz_sc _ _)
theorem sg15 {n : Nat} {a0_0 : ByteArray} {a0_1 : Int} {a0_2 : Int} {a0_3 : ByteArray} {t : ρ15} (h : g15 n a0_0 a0_1 a0_2 a0_3 = some t) : Says pg KK.gl 15 [(AV.ept [(strA a0_0), (intA a0_1), (intA a0_2), (strA a0_3)] 0)] ((intA t)) :=
  says_of_own (by first | rfl | simp [cleans, clean, encs_clean, En.cln]) (by first | rfl | simp [cleans, clean, encs_clean, En.cln]) (F15_own (AV.ept [(strA a0_0), (intA a0_1), (intA a0_2), (strA a0_3)] 0) _ (g15_ok n a0_0 a0_1 a0_2 a0_3 (Ans ((intA t))) (fun r e u m h => by rw [e]; exact h) h))
/- skyway/aircraft.Check$1 -/
theorem g27_ok (n : Nat) (a0 : Int) (a1 : Int) {t : ρ27} (R : AV → Mem → Prop) (hR : ∀ r : ρ27, t = r → ∀ u m, Ans ((boolA r)) u m → R u m) : g27 n a0 a1 = some t → F27 a0 a1 R := by
  unfold g27 F27
  refine cond_b (fun _ => ?_) (fun _ => ?_)
  · exact fun hg => ret1 (hR _ (Option.some.inj hg).symm) (fz_sc _ _)
  · exact fun hg => ret1 (hR _ (Option.some.inj hg).symm) (fz_sc _ _)
theorem sg27 {n : Nat} {a0 : Int} {a1 : Int} {t : ρ27} (h : g27 n a0 a1 = some t) : Says pg KK.gl 27 [(intA a0), (intA a1)] ((boolA t)) :=
  says_of_own (by first | rfl | simp [cleans, clean, encs_clean, En.cln]) (by first | rfl | simp [cleans, clean, encs_clean, En.cln]) (F27_own a0 a1 _ (g27_ok n a0 a1 (Ans ((boolA t))) (fun r e u m h => by rw [e]; exact h) h))
/- skyway/aircraft.Check -/
theorem g18_ok (n : Nat) (a0 : TKind) {t : ρ18} (R : AV → Mem → Prop) (hR : ∀ r : ρ18, t = r → ∀ u m, Ans ((intA r)) u m → R u m) : g18 n a0 = some t → F18 a0.Name a0.Wake a0.Ceiling a0.Climb a0.Descent a0.Slow a0.Fast R := by
  unfold g18 F18
  refine bind_b fun x604 h604 => ?_
  refine imp (callQ_says (sg28 h604)) ?_
  refine imp exB_b ?_
  refine cond_b (fun _ => ?_) (fun _ => ?_)
  · exact fun hg => ret1 (hR _ (Option.some.inj hg).symm) (fz_sc _ _)
  · refine cond_b (fun _ => ?_) (fun _ => ?_)
    · exact fun hg => ret1 (hR _ (Option.some.inj hg).symm) (fz_sc _ _)
    · refine cond_b (fun _ => ?_) (fun _ => ?_)
      · exact fun hg => ret1 (hR _ (Option.some.inj hg).symm) (fz_sc _ _)
      · refine bind_b fun x605 h605 => ?_
        refine imp (callQ_says (sg27 h605)) ?_
        refine imp exB_b ?_
        refine cond_b (fun _ => ?_) (fun _ => ?_)
        · exact fun hg => ret1 (hR _ (Option.some.inj hg).symm) (fz_sc _ _)
        · refine bind_b fun x606 h606 => ?_
          refine imp (callQ_says (sg27 h606)) ?_
          refine imp exB_b ?_
          refine cond_b (fun _ => ?_) (fun _ => ?_)
          · exact fun hg => ret1 (hR _ (Option.some.inj hg).symm) (fz_sc _ _)
          · refine bind_b fun x607 h607 => ?_
            refine imp (callQ_says (sg27 h607)) ?_
            refine imp exB_b ?_
            refine cond_b (fun _ => ?_) (fun _ => ?_)
            · exact fun hg => ret1 (hR _ (Option.some.inj hg).symm) (fz_sc _ _)
            · refine bind_b fun x608 h608 => ?_
              refine imp (callQ_says (sg27 h608)) ?_
              refine imp exB_b ?_
              refine cond_b (fun _ => ?_) (fun _ => ?_)
              · exact fun hg => ret1 (hR _ (Option.some.inj hg).symm) (fz_sc _ _)
              · refine bind_b fun x609 h609 => ?_
                refine imp (callQ_says (sg27 h609)) ?_
                refine imp exB_b ?_
                refine cond_b (fun _ => ?_) (fun _ => ?_)
                · exact fun hg => ret1 (hR _ (Option.some.inj hg).symm) (fz_sc _ _)
                · refine cond_b (fun _ => ?_) (fun _ => ?_)
                  · exact fun hg => ret1 (hR _ (Option.some.inj hg).symm) (fz_sc _ _)
                  · exact fun hg => ret1 (hR _ (Option.some.inj hg).symm) (fz_sc _ _)
theorem sg18 {n : Nat} {a0 : TKind} {t : ρ18} (h : g18 n a0 = some t) : Says pg KK.gl 18 [(AV.agg [(strA a0.Name), (intA a0.Wake), (intA a0.Ceiling), (intA a0.Climb), (intA a0.Descent), (intA a0.Slow), (intA a0.Fast)])] ((intA t)) :=
  says_of_own (by first | rfl | simp [cleans, clean, encs_clean, En.cln]) (by first | rfl | simp [cleans, clean, encs_clean, En.cln]) (F18_own a0.Name a0.Wake a0.Ceiling a0.Climb a0.Descent a0.Slow a0.Fast _ (g18_ok n a0 (Ans ((intA t))) (fun r e u m h => by rw [e]; exact h) h))
/- skyway/effect.Of$3 -/
theorem g17_ok (n : Nat) (a0_0 : ByteArray) (a0_1 : Int) (a0_2 : Int) (a0_3 : Int) (a0_4 : Int) (a0_5 : Int) (a0_6 : Int) {t : ρ17} (R : AV → Mem → Prop) (hR : ∀ r : ρ17, t = r → ∀ u m, Ans ((intA r)) u m → R u m) : g17 n a0_0 a0_1 a0_2 a0_3 a0_4 a0_5 a0_6 = some t → F17 (AV.ept [(strA a0_0), (intA a0_1), (intA a0_2), (intA a0_3), (intA a0_4), (intA a0_5), (intA a0_6)] 0) R := by
  unfold g17 F17
  refine iq (AV.agg [(strA a0_0), (intA a0_1), (intA a0_2), (intA a0_3), (intA a0_4), (intA a0_5), (intA a0_6)]) rfl ?_
  refine imp exA7_b ?_
  refine imp exStr_b ?_
  iterate 6 refine imp ex_i64_b ?_
  refine bind_b fun x610 h610 => ?_
  refine imp (callQ_says (sg18 h610)) ?_
  refine imp ex_i64_b ?_
  exact fun hg => ret1 (hR _ (Option.some.inj hg).symm) (fz_sc _ _)
theorem sg17 {n : Nat} {a0_0 : ByteArray} {a0_1 : Int} {a0_2 : Int} {a0_3 : Int} {a0_4 : Int} {a0_5 : Int} {a0_6 : Int} {t : ρ17} (h : g17 n a0_0 a0_1 a0_2 a0_3 a0_4 a0_5 a0_6 = some t) : Says pg KK.gl 17 [(AV.ept [(strA a0_0), (intA a0_1), (intA a0_2), (intA a0_3), (intA a0_4), (intA a0_5), (intA a0_6)] 0)] ((intA t)) :=
  says_of_own (by first | rfl | simp [cleans, clean, encs_clean, En.cln]) (by first | rfl | simp [cleans, clean, encs_clean, En.cln]) (F17_own (AV.ept [(strA a0_0), (intA a0_1), (intA a0_2), (intA a0_3), (intA a0_4), (intA a0_5), (intA a0_6)] 0) _ (g17_ok n a0_0 a0_1 a0_2 a0_3 a0_4 a0_5 a0_6 (Ans ((intA t))) (fun r e u m h => by rw [e]; exact h) h))
/- skyway/effect.Of$4 -/
theorem g19_ok (n : Nat) (a0_0 : Int) (a0_1 : Int) {t : ρ19} (R : AV → Mem → Prop) (hR : ∀ r : ρ19, t = r → ∀ u m, Ans ((intA r)) u m → R u m) : g19 n a0_0 a0_1 = some t → F19 (AV.ept [(intA a0_0), (intA a0_1)] 0) R := by
  unfold g19 F19
  refine iq (AV.agg [(intA a0_0), (intA a0_1)]) rfl ?_
  refine imp exA2_b ?_
  iterate 2 refine imp ex_i64_b ?_
  refine bind_b fun x613 h613 => ?_
  refine imp (callQ_says (sg20 h613)) ?_
  refine imp ex_i64_b ?_
  exact fun hg => ret1 (hR _ (Option.some.inj hg).symm) (fz_sc _ _)
theorem sg19 {n : Nat} {a0_0 : Int} {a0_1 : Int} {t : ρ19} (h : g19 n a0_0 a0_1 = some t) : Says pg KK.gl 19 [(AV.ept [(intA a0_0), (intA a0_1)] 0)] ((intA t)) :=
  says_of_own (by first | rfl | simp [cleans, clean, encs_clean, En.cln]) (by first | rfl | simp [cleans, clean, encs_clean, En.cln]) (F19_own (AV.ept [(intA a0_0), (intA a0_1)] 0) _ (g19_ok n a0_0 a0_1 (Ans ((intA t))) (fun r e u m h => by rw [e]; exact h) h))
/- skyway/tube.ends -/
theorem g24_ok (n : Nat) (a0 : List TTubeNode) {t : ρ24} (R : AV → Mem → Prop) (hR : ∀ r : ρ24, t = r → ∀ u m, Ans ((AV.tup [(intA r.1), (intA r.2)])) u m → R u m) : g24 n a0 = some t → F24 (lstA TTubeNode.E a0) R := by
  unfold g24 F24
  refine bind_b fun x616 h616 => ?_
  refine iq (AV.ept [(intA x616.Node_Time), (intA x616.Node_At_X), (intA x616.Node_At_Y), (intA x616.Node_Height), (intA x616.Radius), (intA x616.Band)] 0) (idx_lst (E := TTubeNode.E) rfl h616) ?_
  refine iq (AV.ept [(intA x616.Node_Time), (intA x616.Node_At_X), (intA x616.Node_At_Y), (intA x616.Node_Height), (intA x616.Radius), (intA x616.Band)] 0) rfl ?_
  refine iq (AV.ept [(intA x616.Node_Time), (intA x616.Node_At_X), (intA x616.Node_At_Y), (intA x616.Node_Height), (intA x616.Radius), (intA x616.Band)] 0) rfl ?_
  refine iq (intA x616.Node_Time) rfl ?_
  refine imp ex_i64_b ?_
  refine iq (intA (a0.length : Int)) rfl ?_
  refine imp ex_i64_b ?_
  refine bind_b fun x617 h617 => ?_
  refine iq (AV.ept [(intA x617.Node_Time), (intA x617.Node_At_X), (intA x617.Node_At_Y), (intA x617.Node_Height), (intA x617.Radius), (intA x617.Band)] 0) (idx_lst (E := TTubeNode.E) rfl h617) ?_
  refine iq (AV.ept [(intA x617.Node_Time), (intA x617.Node_At_X), (intA x617.Node_At_Y), (intA x617.Node_Height), (intA x617.Radius), (intA x617.Band)] 0) rfl ?_
  refine iq (AV.ept [(intA x617.Node_Time), (intA x617.Node_At_X), (intA x617.Node_At_Y), (intA x617.Node_Height), (intA x617.Radius), (intA x617.Band)] 0) rfl ?_
  refine iq (intA x617.Node_Time) rfl ?_
  refine imp ex_i64_b ?_
  exact fun hg => retN rfl (hR _ (Option.some.inj hg).symm) (fzL_cons (fz_sc _ _) (fzL_cons (fz_sc _ _) fzL_nil))
theorem sg24 {n : Nat} {a0 : List TTubeNode} {t : ρ24} (h : g24 n a0 = some t) : Says pg KK.gl 24 [(lstA TTubeNode.E a0)] ((AV.tup [(intA t.1), (intA t.2)])) :=
  says_of_own (by first | rfl | simp [cleans, clean, encs_clean, En.cln]) (by first | rfl | simp [cleans, clean, encs_clean, En.cln]) (F24_own (lstA TTubeNode.E a0) _ (g24_ok n a0 (Ans ((AV.tup [(intA t.1), (intA t.2)]))) (fun r e u m h => by rw [e]; exact h) h))
/- skyway/tube.at$1 -/
theorem g35_ok (n : Nat) (a0 : TTubeNode) (a1 : Int) {t : ρ35} (R : AV → Mem → Prop) (hR : ∀ r : ρ35, t = r → ∀ u m, Ans ((intA r)) u m → R u m) : g35 n a0 a1 = some t → F35 a0.Node_Time a0.Node_At_X a0.Node_At_Y a0.Node_Height a0.Radius a0.Band a1 R := by
  unfold g35 F35
  exact fun hg => ret1 (hR _ (Option.some.inj hg).symm) (fz_sc _ _)
theorem sg35 {n : Nat} {a0 : TTubeNode} {a1 : Int} {t : ρ35} (h : g35 n a0 a1 = some t) : Says pg KK.gl 35 [(AV.agg [(intA a0.Node_Time), (intA a0.Node_At_X), (intA a0.Node_At_Y), (intA a0.Node_Height), (intA a0.Radius), (intA a0.Band)]), (intA a1)] ((intA t)) :=
  says_of_own (by first | rfl | simp [cleans, clean, encs_clean, En.cln]) (by first | rfl | simp [cleans, clean, encs_clean, En.cln]) (F35_own a0.Node_Time a0.Node_At_X a0.Node_At_Y a0.Node_Height a0.Radius a0.Band a1 _ (g35_ok n a0 a1 (Ans ((intA t))) (fun r e u m h => by rw [e]; exact h) h))
/- slices.BinarySearchFunc[skyway/api.Tube,skyway/api.TubeNode,int] -/
theorem B34_0_ok (n : Nat) (a0 : List TTubeNode) (a1 : Int) (c6 : Int) (c7 : Bool) (c8 : Int) (v9 : Int) (v10 : Int) {t : (Int × Int) ⊕ ρ34} (R : AV → Mem → Prop) (N0 : St → Prop) (hR : ∀ r : ρ34, t = (.inr r) → ∀ u m, Ans ((AV.tup [(intA r.1), (boolA r.2)])) u m → R u m) (hN0 : ∀ y : Int × Int, t = (.inl y) → ∀ s' : St, Weak KK 49 0 s' (h34_0 (lstA TTubeNode.E a0) a1 (AV.fn 35 []) c6 c7 c8 y.1 y.2 []) → N0 s') : S34_0 n a0 a1 c6 c7 c8 v9 v10 = some t → B34_0 (lstA TTubeNode.E a0) a1 (AV.fn 35 []) c6 c7 c8 v9 v10 [] R N0 := by
  unfold S34_0 B34_0
  refine cond_b (fun _ => ?_) (fun _ => ?_)
  · refine iq (AV.sc (.int .u64 (IntKind.wrap .u64 (IntKind.wrap .i64 (v9 + v10))))) (by kernel_rfl) ?_
    refine imp ex_u64_b ?_
    refine imp (opP_of (show _ = some ((AV.sc (.int .u64 (Int.fdiv (IntKind.wrap .u64 (IntKind.wrap .i64 (v9 + v10))) 2))), []) from opA_shr1)) ?_
    refine imp ex_u64_b ?_
    refine iq (intA (IntKind.wrap .i64 (Int.fdiv (IntKind.wrap .u64 (IntKind.wrap .i64 (v9 + v10))) 2))) (by kernel_rfl) ?_
    refine imp ex_i64_b ?_
    refine bind_b fun x619 h619 => ?_
    refine iq (AV.ept [(intA x619.Node_Time), (intA x619.Node_At_X), (intA x619.Node_At_Y), (intA x619.Node_Height), (intA x619.Radius), (intA x619.Band)] 0) (idx_lst (E := TTubeNode.E) rfl h619) ?_
    refine iq (AV.agg [(intA x619.Node_Time), (intA x619.Node_At_X), (intA x619.Node_At_Y), (intA x619.Node_Height), (intA x619.Radius), (intA x619.Band)]) rfl ?_
    refine imp exA6_b ?_
    iterate 6 refine imp ex_i64_b ?_
    refine bind_b fun x620 h620 => ?_
    refine imp fnArgs_b ?_
    refine imp (cond_tt rfl) ?_
    refine imp (callQ_says (sg35 h620)) ?_
    refine imp ex_i64_b ?_
    refine cond_b (fun _ => ?_) (fun _ => ?_)
    · exact fun hg => hN0 _ (Option.some.inj hg).symm _ (weak_mem [] rfl rfl rfl (okW_cons (ent_lst (E := TTubeNode.E) _ false) (okW_cons (.inl (leV_refl _)) (okW_cons (.inl (leV_refl _)) (okW_cons (.inl (leV_refl _)) (okW_cons (.inl (leV_refl _)) (okW_cons (.inl (leV_refl _)) (okW_cons (.inl (leV_refl _)) (okW_cons (.inl (leV_refl _)) okW_nil)))))))) okB_nil')
    · exact fun hg => hN0 _ (Option.some.inj hg).symm _ (weak_mem [] rfl rfl rfl (okW_cons (ent_lst (E := TTubeNode.E) _ false) (okW_cons (.inl (leV_refl _)) (okW_cons (.inl (leV_refl _)) (okW_cons (.inl (leV_refl _)) (okW_cons (.inl (leV_refl _)) (okW_cons (.inl (leV_refl _)) (okW_cons (.inl (leV_refl _)) (okW_cons (.inl (leV_refl _)) okW_nil)))))))) okB_nil')
  · refine cond_b (fun _ => ?_) (fun _ => ?_)
    · refine bind_b fun x621 h621 => ?_
      refine iq (AV.ept [(intA x621.Node_Time), (intA x621.Node_At_X), (intA x621.Node_At_Y), (intA x621.Node_Height), (intA x621.Radius), (intA x621.Band)] 0) (idx_lst (E := TTubeNode.E) rfl h621) ?_
      refine iq (AV.agg [(intA x621.Node_Time), (intA x621.Node_At_X), (intA x621.Node_At_Y), (intA x621.Node_Height), (intA x621.Radius), (intA x621.Band)]) rfl ?_
      refine imp exA6_b ?_
      iterate 6 refine imp ex_i64_b ?_
      refine bind_b fun x622 h622 => ?_
      refine imp fnArgs_b ?_
      refine imp (cond_tt rfl) ?_
      refine imp (callQ_says (sg35 h622)) ?_
      refine imp ex_i64_b ?_
      exact fun hg => retN rfl (hR _ (Option.some.inj hg).symm) (fzL_cons (fz_sc _ _) (fzL_cons (fz_sc _ _) fzL_nil))
    · exact fun hg => retN rfl (hR _ (Option.some.inj hg).symm) (fzL_cons (fz_sc _ _) (fzL_cons (fz_sc _ _) fzL_nil))
theorem L34_0_ok (n : Nat) (a0 : List TTubeNode) (a1 : Int) (c6 : Int) (c7 : Bool) (c8 : Int) {t : ρ34} (R : AV → Mem → Prop) (hR : ∀ r : ρ34, t = r → ∀ u m, Ans ((AV.tup [(intA r.1), (boolA r.2)])) u m → R u m) (k : Nat) (x : Int × Int) (hx : iterO (fun y : Int × Int => S34_0 n a0 a1 c6 c7 c8 y.1 y.2) k x = some t) {s : St} (hw : Weak KK 49 0 s (h34_0 (lstA TTubeNode.E a0) a1 (AV.fn 35 []) c6 c7 c8 x.1 x.2 [])) : Tri pg KK 49 0 (.loop c34_0) s (q34_0 R ) :=
  L34_0 R  (σ := Nat × (Int × Int)) (fun z => iterO (fun y : Int × Int => S34_0 n a0 a1 c6 c7 c8 y.1 y.2) z.1 z.2 = some t) (fun z => (lstA TTubeNode.E a0)) (fun z => a1) (fun z => (AV.fn 35 [])) (fun z => c6) (fun z => c7) (fun z => c8) (fun z => z.2.1) (fun z => z.2.2) (fun z => []) (fun z => z.1) (by
    rintro ⟨k, y⟩ h
    cases k with
    | zero => exact (iterO_zero h).elim
    | succ k =>
      obtain ⟨u, h1, h2, h3⟩ := iterO_elim h
      exact B34_0_ok n a0 a1 c6 c7 c8 y.1 y.2 R  _ (fun r e => hR r (h3 _ e).symm)  (fun y' e s' hw => ⟨(k, y'), h2 _ e, Nat.lt_succ_self k, hw⟩) h1) (k, x) hx hw
theorem g34_ok (n : Nat) (a0 : List TTubeNode) (a1 : Int) {t : ρ34} (R : AV → Mem → Prop) (hR : ∀ r : ρ34, t = r → ∀ u m, Ans ((AV.tup [(intA r.1), (boolA r.2)])) u m → R u m) : g34 n a0 a1 = some t → F34 (lstA TTubeNode.E a0) a1 (AV.fn 35 []) R := by
  unfold g34 F34
  refine iq (intA (a0.length : Int)) rfl ?_
  refine imp ex_i64_b ?_
  exact fun hg => L34_0_ok n a0 a1 (0) false (a0.length : Int) R  hR n _ hg (weak_mem [] rfl rfl rfl (okW_cons (ent_lst (E := TTubeNode.E) _ false) (okW_cons (.inl (leV_refl _)) (okW_cons (.inl (leV_refl _)) (okW_cons (.inl (leV_refl _)) (okW_cons (.inl (leV_refl _)) (okW_cons (.inl (leV_refl _)) (okW_cons (.inl (leV_refl _)) (okW_cons (.inl (leV_refl _)) okW_nil)))))))) okB_nil')
theorem sg34 {n : Nat} {a0 : List TTubeNode} {a1 : Int} {t : ρ34} (h : g34 n a0 a1 = some t) : Says pg KK.gl 34 [(lstA TTubeNode.E a0), (intA a1), (AV.fn 35 [])] ((AV.tup [(intA t.1), (boolA t.2)])) :=
  says_of_own (by first | rfl | simp [cleans, clean, encs_clean, En.cln]) (by first | rfl | simp [cleans, clean, encs_clean, En.cln]) (F34_own (lstA TTubeNode.E a0) a1 (AV.fn 35 []) _ (g34_ok n a0 a1 (Ans ((AV.tup [(intA t.1), (boolA t.2)]))) (fun r e u m h => by rw [e]; exact h) h))
/- skyway/num.DivDown -/
theorem g37_ok (n : Nat) (a0 : Int) (a1 : Int) {t : ρ37} (R : AV → Mem → Prop) (hR : ∀ r : ρ37, t = r → ∀ u m, Ans ((AV.tup [(intA r.1), (intA r.2)])) u m → R u m) : g37 n a0 a1 = some t → F37 a0 a1 R := by
  unfold g37 F37
  refine cond_b (fun _ => ?_) (fun _ => ?_)
  · exact fun hg => retN rfl (hR _ (Option.some.inj hg).symm) (fzL_cons (fz_sc _ _) (fzL_cons (fz_sc _ _) fzL_nil))
  · refine cond_b (fun _ => ?_) (fun _ => ?_)
    · refine cond_b (fun _ => ?_) (fun _ => ?_)
      · exact fun hg => retN rfl (hR _ (Option.some.inj hg).symm) (fzL_cons (fz_sc _ _) (fzL_cons (fz_sc _ _) fzL_nil))
      · refine bind_b fun x631 h631 => ?_
        refine iq (intA (IntKind.wrap .i64 x631)) (opA_quo h631) ?_
        refine imp ex_i64_b ?_
        refine bind_b fun x632 h632 => ?_
        refine iq (intA x632) (opA_rem h632) ?_
        refine imp ex_i64_b ?_
        refine cond_b (fun _ => ?_) (fun _ => ?_)
        · refine iq (boolA (!((decide (a0 < (0))) == (decide (a1 < (0)))))) (by kernel_rfl) ?_
          refine imp exB_b ?_
          refine cond_b (fun _ => ?_) (fun _ => ?_)
          · exact fun hg => retN rfl (hR _ (Option.some.inj hg).symm) (fzL_cons (fz_sc _ _) (fzL_cons (fz_sc _ _) fzL_nil))
          · exact fun hg => retN rfl (hR _ (Option.some.inj hg).symm) (fzL_cons (fz_sc _ _) (fzL_cons (fz_sc _ _) fzL_nil))
        · exact fun hg => retN rfl (hR _ (Option.some.inj hg).symm) (fzL_cons (fz_sc _ _) (fzL_cons (fz_sc _ _) fzL_nil))
    · refine bind_b fun x633 h633 => ?_
      refine iq (intA (IntKind.wrap .i64 x633)) (opA_quo h633) ?_
      refine imp ex_i64_b ?_
      refine bind_b fun x634 h634 => ?_
      refine iq (intA x634) (opA_rem h634) ?_
      refine imp ex_i64_b ?_
      refine cond_b (fun _ => ?_) (fun _ => ?_)
      · refine iq (boolA (!((decide (a0 < (0))) == (decide (a1 < (0)))))) (by kernel_rfl) ?_
        refine imp exB_b ?_
        refine cond_b (fun _ => ?_) (fun _ => ?_)
        · exact fun hg => retN rfl (hR _ (Option.some.inj hg).symm) (fzL_cons (fz_sc _ _) (fzL_cons (fz_sc _ _) fzL_nil))
        · exact fun hg => retN rfl (hR _ (Option.some.inj hg).symm) (fzL_cons (fz_sc _ _) (fzL_cons (fz_sc _ _) fzL_nil))
      · exact fun hg => retN rfl (hR _ (Option.some.inj hg).symm) (fzL_cons (fz_sc _ _) (fzL_cons (fz_sc _ _) fzL_nil))
theorem sg37 {n : Nat} {a0 : Int} {a1 : Int} {t : ρ37} (h : g37 n a0 a1 = some t) : Says pg KK.gl 37 [(intA a0), (intA a1)] ((AV.tup [(intA t.1), (intA t.2)])) :=
  says_of_own (by first | rfl | simp [cleans, clean, encs_clean, En.cln]) (by first | rfl | simp [cleans, clean, encs_clean, En.cln]) (F37_own a0 a1 _ (g37_ok n a0 a1 (Ans ((AV.tup [(intA t.1), (intA t.2)]))) (fun r e u m h => by rw [e]; exact h) h))
/- skyway/plane.Toward -/
theorem g36_ok (n : Nat) (a0 : TP) (a1 : TP) (a2 : Int) (a3 : Int) {t : ρ36} (R : AV → Mem → Prop) (hR : ∀ r : ρ36, t = r → ∀ u m, Ans ((AV.tup [(AV.agg (TP.E.enc r.1)), (intA r.2)])) u m → R u m) : g36 n a0 a1 a2 a3 = some t → F36 a0.X a0.Y a1.X a1.Y a2 a3 R := by
  unfold g36 F36
  refine cond_b (fun _ => ?_) (fun _ => ?_)
  · refine iq (AV.agg [(intA (0)), (intA (0))]) rfl ?_
    refine imp (storeW_cells (sz := 2) (by kernel_rfl) (by kernel_rfl) rfl rfl (cs := [(intA (0)), (intA (0))]) (cs' := [(intA (0)), (intA (0))]) (ty := 29) (by first | rfl | (simp (disch := first | decide | assumption) only [mpushs_nil, mpushs_cons, mget_hd, mget_tl, mget_appW_o, mget_appW_n, mget_appW_e])) rfl rfl) ?_
    exact fun hg => retN rfl (hR _ (Option.some.inj hg).symm) (fzL_cons (fz_el (E := TP.E) _ (⟨(0), (0)⟩ : TP)) (fzL_cons (fz_sc _ _) fzL_nil))
  · refine cond_b (fun _ => ?_) (fun _ => ?_)
    · refine iq (AV.agg [(intA (0)), (intA (0))]) rfl ?_
      refine imp (storeW_cells (sz := 2) (by kernel_rfl) (by kernel_rfl) rfl rfl (cs := [(intA (0)), (intA (0))]) (cs' := [(intA (0)), (intA (0))]) (ty := 29) (by first | rfl | (simp (disch := first | decide | assumption) only [mpushs_nil, mpushs_cons, mget_hd, mget_tl, mget_appW_o, mget_appW_n, mget_appW_e])) rfl rfl) ?_
      exact fun hg => retN rfl (hR _ (Option.some.inj hg).symm) (fzL_cons (fz_el (E := TP.E) _ (⟨(0), (0)⟩ : TP)) (fzL_cons (fz_sc _ _) fzL_nil))
    · refine cond_b (fun _ => ?_) (fun _ => ?_)
      · refine iq (AV.agg [(intA (0)), (intA (0))]) rfl ?_
        refine imp (storeW_cells (sz := 2) (by kernel_rfl) (by kernel_rfl) rfl rfl (cs := [(intA (0)), (intA (0))]) (cs' := [(intA (0)), (intA (0))]) (ty := 29) (by first | rfl | (simp (disch := first | decide | assumption) only [mpushs_nil, mpushs_cons, mget_hd, mget_tl, mget_appW_o, mget_appW_n, mget_appW_e])) rfl rfl) ?_
        exact fun hg => retN rfl (hR _ (Option.some.inj hg).symm) (fzL_cons (fz_el (E := TP.E) _ (⟨(0), (0)⟩ : TP)) (fzL_cons (fz_sc _ _) fzL_nil))
      · refine cond_b (fun _ => ?_) (fun _ => ?_)
        · refine iq (AV.agg [(intA (0)), (intA (0))]) rfl ?_
          refine imp (storeW_cells (sz := 2) (by kernel_rfl) (by kernel_rfl) rfl rfl (cs := [(intA (0)), (intA (0))]) (cs' := [(intA (0)), (intA (0))]) (ty := 29) (by first | rfl | (simp (disch := first | decide | assumption) only [mpushs_nil, mpushs_cons, mget_hd, mget_tl, mget_appW_o, mget_appW_n, mget_appW_e])) rfl rfl) ?_
          exact fun hg => retN rfl (hR _ (Option.some.inj hg).symm) (fzL_cons (fz_el (E := TP.E) _ (⟨(0), (0)⟩ : TP)) (fzL_cons (fz_sc _ _) fzL_nil))
        · refine bind_b fun x627 h627 => ?_
          refine imp (callQ_says (sg20 h627)) ?_
          refine imp ex_i64_b ?_
          refine cond_b (fun _ => ?_) (fun _ => ?_)
          · refine iq (AV.agg [(intA (0)), (intA (0))]) rfl ?_
            refine bind_b fun x628 h628 => ?_
            refine imp (callQ_says (sg20 h628)) ?_
            refine imp ex_i64_b ?_
            refine imp (storeW_cells (sz := 2) (by kernel_rfl) (by kernel_rfl) rfl rfl (cs := [(intA (0)), (intA (0))]) (cs' := [(intA (0)), (intA (0))]) (ty := 29) (by first | rfl | (simp (disch := first | decide | assumption) only [mpushs_nil, mpushs_cons, mget_hd, mget_tl, mget_appW_o, mget_appW_n, mget_appW_e])) rfl rfl) ?_
            exact fun hg => retN rfl (hR _ (Option.some.inj hg).symm) (fzL_cons (fz_el (E := TP.E) _ (⟨(0), (0)⟩ : TP)) (fzL_cons (fz_sc _ _) fzL_nil))
          · refine bind_b fun x629 h629 => ?_
            refine imp (callQ_says (sg20 h629)) ?_
            refine imp ex_i64_b ?_
            refine cond_b (fun _ => ?_) (fun _ => ?_)
            · refine iq (AV.agg [(intA (0)), (intA (0))]) rfl ?_
              refine bind_b fun x630 h630 => ?_
              refine imp (callQ_says (sg20 h630)) ?_
              refine imp ex_i64_b ?_
              refine imp (storeW_cells (sz := 2) (by kernel_rfl) (by kernel_rfl) rfl rfl (cs := [(intA (0)), (intA (0))]) (cs' := [(intA (0)), (intA (0))]) (ty := 29) (by first | rfl | (simp (disch := first | decide | assumption) only [mpushs_nil, mpushs_cons, mget_hd, mget_tl, mget_appW_o, mget_appW_n, mget_appW_e])) rfl rfl) ?_
              exact fun hg => retN rfl (hR _ (Option.some.inj hg).symm) (fzL_cons (fz_el (E := TP.E) _ (⟨(0), (0)⟩ : TP)) (fzL_cons (fz_sc _ _) fzL_nil))
            · refine bind_b fun x635 h635 => ?_
              refine imp (callQ_says (sg37 h635)) ?_
              refine imp exT2_b ?_
              iterate 2 refine imp ex_i64_b ?_
              refine bind_b fun x636 h636 => ?_
              refine imp (callQ_says (sg37 h636)) ?_
              refine imp exT2_b ?_
              iterate 2 refine imp ex_i64_b ?_
              refine iq (AV.agg [(intA (IntKind.wrap .i64 (a0.X + x635.1))), (intA (IntKind.wrap .i64 (a0.Y + x636.1)))]) rfl ?_
              refine imp (storeW_cells (sz := 2) (by kernel_rfl) (by kernel_rfl) rfl rfl (cs := [(intA (0)), (intA (0))]) (cs' := [(intA (IntKind.wrap .i64 (a0.X + x635.1))), (intA (IntKind.wrap .i64 (a0.Y + x636.1)))]) (ty := 29) (by first | rfl | (simp (disch := first | decide | assumption) only [mpushs_nil, mpushs_cons, mget_hd, mget_tl, mget_appW_o, mget_appW_n, mget_appW_e])) rfl rfl) ?_
              exact fun hg => retN rfl (hR _ (Option.some.inj hg).symm) (fzL_cons (fz_el (E := TP.E) _ (⟨(IntKind.wrap .i64 (a0.X + x635.1)), (IntKind.wrap .i64 (a0.Y + x636.1))⟩ : TP)) (fzL_cons (fz_sc _ _) fzL_nil))
theorem sg36 {n : Nat} {a0 : TP} {a1 : TP} {a2 : Int} {a3 : Int} {t : ρ36} (h : g36 n a0 a1 a2 a3 = some t) : Says pg KK.gl 36 [(AV.agg [(intA a0.X), (intA a0.Y)]), (AV.agg [(intA a1.X), (intA a1.Y)]), (intA a2), (intA a3)] ((AV.tup [(AV.agg (TP.E.enc t.1)), (intA t.2)])) :=
  says_of_own (by first | rfl | simp [cleans, clean, encs_clean, En.cln]) (by first | rfl | simp [cleans, clean, encs_clean, En.cln]) (F36_own a0.X a0.Y a1.X a1.Y a2 a3 _ (g36_ok n a0 a1 a2 a3 (Ans ((AV.tup [(AV.agg (TP.E.enc t.1)), (intA t.2)]))) (fun r e u m h => by rw [e]; exact h) h))
/- skyway/num.DivUp -/
theorem g38_ok (n : Nat) (a0 : Int) (a1 : Int) {t : ρ38} (R : AV → Mem → Prop) (hR : ∀ r : ρ38, t = r → ∀ u m, Ans ((AV.tup [(intA r.1), (intA r.2)])) u m → R u m) : g38 n a0 a1 = some t → F38 a0 a1 R := by
  unfold g38 F38
  refine bind_b fun x639 h639 => ?_
  refine imp (callQ_says (sg37 h639)) ?_
  refine imp exT2_b ?_
  iterate 2 refine imp ex_i64_b ?_
  refine cond_b (fun _ => ?_) (fun _ => ?_)
  · refine bind_b fun x640 h640 => ?_
    refine iq (intA x640) (opA_rem h640) ?_
    refine imp ex_i64_b ?_
    refine cond_b (fun _ => ?_) (fun _ => ?_)
    · exact fun hg => retN rfl (hR _ (Option.some.inj hg).symm) (fzL_cons (fz_sc _ _) (fzL_cons (fz_sc _ _) fzL_nil))
    · exact fun hg => retN rfl (hR _ (Option.some.inj hg).symm) (fzL_cons (fz_sc _ _) (fzL_cons (fz_sc _ _) fzL_nil))
  · exact fun hg => retN rfl (hR _ (Option.some.inj hg).symm) (fzL_cons (fz_sc _ _) (fzL_cons (fz_sc _ _) fzL_nil))
theorem sg38 {n : Nat} {a0 : Int} {a1 : Int} {t : ρ38} (h : g38 n a0 a1 = some t) : Says pg KK.gl 38 [(intA a0), (intA a1)] ((AV.tup [(intA t.1), (intA t.2)])) :=
  says_of_own (by first | rfl | simp [cleans, clean, encs_clean, En.cln]) (by first | rfl | simp [cleans, clean, encs_clean, En.cln]) (F38_own a0 a1 _ (g38_ok n a0 a1 (Ans ((AV.tup [(intA t.1), (intA t.2)]))) (fun r e u m h => by rw [e]; exact h) h))
/- skyway/tube.at -/
theorem g25_ok (n : Nat) (a0 : List TTubeNode) (a1 : Int) {t : ρ25} (R : AV → Mem → Prop) (hR : ∀ r : ρ25, t = r → ∀ u m, Ans ((AV.agg (TTubeNode.E.enc r))) u m → R u m) : g25 n a0 a1 = some t → F25 (lstA TTubeNode.E a0) a1 R := by
  unfold g25 F25
  refine bind_b fun x623 h623 => ?_
  refine imp (callW_says (sg34 h623)) ?_
  refine imp exT2_b ?_
  refine imp ex_i64_b ?_
  refine imp exB_b ?_
  refine cond_b (fun _ => ?_) (fun _ => ?_)
  · refine bind_b fun x624 h624 => ?_
    refine iq (AV.ept [(intA x624.Node_Time), (intA x624.Node_At_X), (intA x624.Node_At_Y), (intA x624.Node_Height), (intA x624.Radius), (intA x624.Band)] 0) (idx_lst (E := TTubeNode.E) rfl h624) ?_
    refine iq (AV.agg [(intA x624.Node_Time), (intA x624.Node_At_X), (intA x624.Node_At_Y), (intA x624.Node_Height), (intA x624.Radius), (intA x624.Band)]) rfl ?_
    refine imp exA6_b ?_
    iterate 6 refine imp ex_i64_b ?_
    refine imp (storeW_cells (sz := 6) (by kernel_rfl) (by kernel_rfl) rfl rfl (cs := [(intA (0)), (intA (0)), (intA (0)), (intA (0)), (intA (0)), (intA (0))]) (cs' := [(intA x624.Node_Time), (intA x624.Node_At_X), (intA x624.Node_At_Y), (intA x624.Node_Height), (intA x624.Radius), (intA x624.Band)]) (ty := 40) (by first | rfl | (simp (disch := first | decide | assumption) only [mpushs_nil, mpushs_cons, mget_hd, mget_tl, mget_appW_o, mget_appW_n, mget_appW_e])) rfl rfl) ?_
    exact fun hg => ret1 (hR _ (Option.some.inj hg).symm) (fz_el (E := TTubeNode.E) _ x624)
  · refine bind_b fun x625 h625 => ?_
    refine imp (opM_of (show _ = some ((AV.ept [(intA x625.Node_Time), (intA x625.Node_At_X), (intA x625.Node_At_Y), (intA x625.Node_Height), (intA x625.Radius), (intA x625.Band)] 0), []) from (idx_lst (E := TTubeNode.E) rfl h625))) ?_
    refine imp (opM_of (show _ = some ((AV.agg [(intA x625.Node_Time), (intA x625.Node_At_X), (intA x625.Node_At_Y), (intA x625.Node_Height), (intA x625.Radius), (intA x625.Band)]), []) from rfl)) ?_
    refine imp exA6_b ?_
    iterate 6 refine imp ex_i64_b ?_
    refine bind_b fun x626 h626 => ?_
    refine imp (opM_of (show _ = some ((AV.ept [(intA x626.Node_Time), (intA x626.Node_At_X), (intA x626.Node_At_Y), (intA x626.Node_Height), (intA x626.Radius), (intA x626.Band)] 0), []) from (idx_lst (E := TTubeNode.E) rfl h626))) ?_
    refine imp (opM_of (show _ = some ((AV.agg [(intA x626.Node_Time), (intA x626.Node_At_X), (intA x626.Node_At_Y), (intA x626.Node_Height), (intA x626.Radius), (intA x626.Band)]), []) from rfl)) ?_
    refine imp exA6_b ?_
    iterate 6 refine imp ex_i64_b ?_
    refine imp (storeW_cells (sz := 6) (by kernel_rfl) (by kernel_rfl) rfl rfl (cs := [(intA (0)), (intA (0)), (intA (0)), (intA (0)), (intA (0)), (intA (0))]) (cs' := [(intA x625.Node_Time), (intA x625.Node_At_X), (intA x625.Node_At_Y), (intA x625.Node_Height), (intA x625.Radius), (intA x625.Band)]) (ty := 40) (by first | rfl | (rw [look'_mem (by first | rfl | simp [topId_blk] | simp [topId])]; first | rfl | (simp (disch := first | decide | assumption) only [mpushs_nil, mpushs_cons, mget_hd, mget_tl, mget_appW_o, mget_appW_n, mget_appW_e]))) rfl rfl) ?_
    refine imp (storeW_cells (sz := 6) (by kernel_rfl) (by kernel_rfl) rfl rfl (cs := [(intA (0)), (intA (0)), (intA (0)), (intA (0)), (intA (0)), (intA (0))]) (cs' := [(intA x626.Node_Time), (intA x626.Node_At_X), (intA x626.Node_At_Y), (intA x626.Node_Height), (intA x626.Radius), (intA x626.Band)]) (ty := 40) (by first | rfl | (rw [look'_mem (by first | rfl | simp [topId_blk] | simp [topId])]; first | rfl | (simp (disch := first | decide | assumption) only [mpushs_nil, mpushs_cons, mget_hd, mget_tl, mget_appW_o, mget_appW_n, mget_appW_e]))) rfl rfl) ?_
    refine imp (chk_of (by kernel_rfl)) ?_
    refine iq (intA x625.Node_Time) (ldS_ptr (b := ⟨[(intA x625.Node_Time), (intA x625.Node_At_X), (intA x625.Node_At_Y), (intA x625.Node_Height), (intA x625.Radius), (intA x625.Band)], 40⟩) (by first | rfl | (simp (disch := first | decide | assumption) only [mpushs_nil, mpushs_cons, mget_hd, mget_tl, mget_appW_o, mget_appW_n, mget_appW_e])) rfl) ?_
    refine imp ex_i64_b ?_
    refine iq (intA x626.Node_Time) (ldS_ptr (b := ⟨[(intA x626.Node_Time), (intA x626.Node_At_X), (intA x626.Node_At_Y), (intA x626.Node_Height), (intA x626.Radius), (intA x626.Band)], 40⟩) (by first | rfl | (simp (disch := first | decide | assumption) only [mpushs_nil, mpushs_cons, mget_hd, mget_tl, mget_appW_o, mget_appW_n, mget_appW_e])) rfl) ?_
    refine imp ex_i64_b ?_
    refine iq (intA x625.Node_Time) (ldS_ptr (b := ⟨[(intA x625.Node_Time), (intA x625.Node_At_X), (intA x625.Node_At_Y), (intA x625.Node_Height), (intA x625.Radius), (intA x625.Band)], 40⟩) (by first | rfl | (simp (disch := first | decide | assumption) only [mpushs_nil, mpushs_cons, mget_hd, mget_tl, mget_appW_o, mget_appW_n, mget_appW_e])) rfl) ?_
    refine imp ex_i64_b ?_
    refine iq (AV.agg [(intA x625.Node_At_X), (intA x625.Node_At_Y)]) (ldA_ptr (b := ⟨[(intA x625.Node_Time), (intA x625.Node_At_X), (intA x625.Node_At_Y), (intA x625.Node_Height), (intA x625.Radius), (intA x625.Band)], 40⟩) (by first | rfl | (simp (disch := first | decide | assumption) only [mpushs_nil, mpushs_cons, mget_hd, mget_tl, mget_appW_o, mget_appW_n, mget_appW_e])) rfl) ?_
    refine imp exA2_b ?_
    iterate 2 refine imp ex_i64_b ?_
    refine iq (AV.agg [(intA x626.Node_At_X), (intA x626.Node_At_Y)]) (ldA_ptr (b := ⟨[(intA x626.Node_Time), (intA x626.Node_At_X), (intA x626.Node_At_Y), (intA x626.Node_Height), (intA x626.Radius), (intA x626.Band)], 40⟩) (by first | rfl | (simp (disch := first | decide | assumption) only [mpushs_nil, mpushs_cons, mget_hd, mget_tl, mget_appW_o, mget_appW_n, mget_appW_e])) rfl) ?_
    refine imp exA2_b ?_
    iterate 2 refine imp ex_i64_b ?_
    refine bind_b fun x637 h637 => ?_
    refine imp (callQ_says (sg36 h637)) ?_
    refine imp exT2_b ?_
    refine imp exA2_b ?_
    iterate 3 refine imp ex_i64_b ?_
    refine iq (intA x626.Node_Height) (ldS_ptr (b := ⟨[(intA x626.Node_Time), (intA x626.Node_At_X), (intA x626.Node_At_Y), (intA x626.Node_Height), (intA x626.Radius), (intA x626.Band)], 40⟩) (by first | rfl | (simp (disch := first | decide | assumption) only [mpushs_nil, mpushs_cons, mget_hd, mget_tl, mget_appW_o, mget_appW_n, mget_appW_e])) rfl) ?_
    refine imp ex_i64_b ?_
    refine iq (intA x625.Node_Height) (ldS_ptr (b := ⟨[(intA x625.Node_Time), (intA x625.Node_At_X), (intA x625.Node_At_Y), (intA x625.Node_Height), (intA x625.Radius), (intA x625.Band)], 40⟩) (by first | rfl | (simp (disch := first | decide | assumption) only [mpushs_nil, mpushs_cons, mget_hd, mget_tl, mget_appW_o, mget_appW_n, mget_appW_e])) rfl) ?_
    refine imp ex_i64_b ?_
    refine bind_b fun x638 h638 => ?_
    refine imp (callQ_says (sg37 h638)) ?_
    refine imp exT2_b ?_
    iterate 2 refine imp ex_i64_b ?_
    refine iq (intA x626.Radius) (ldS_ptr (b := ⟨[(intA x626.Node_Time), (intA x626.Node_At_X), (intA x626.Node_At_Y), (intA x626.Node_Height), (intA x626.Radius), (intA x626.Band)], 40⟩) (by first | rfl | (simp (disch := first | decide | assumption) only [mpushs_nil, mpushs_cons, mget_hd, mget_tl, mget_appW_o, mget_appW_n, mget_appW_e])) rfl) ?_
    refine imp ex_i64_b ?_
    refine iq (intA x625.Radius) (ldS_ptr (b := ⟨[(intA x625.Node_Time), (intA x625.Node_At_X), (intA x625.Node_At_Y), (intA x625.Node_Height), (intA x625.Radius), (intA x625.Band)], 40⟩) (by first | rfl | (simp (disch := first | decide | assumption) only [mpushs_nil, mpushs_cons, mget_hd, mget_tl, mget_appW_o, mget_appW_n, mget_appW_e])) rfl) ?_
    refine imp ex_i64_b ?_
    refine bind_b fun x641 h641 => ?_
    refine imp (callQ_says (sg38 h641)) ?_
    refine imp exT2_b ?_
    iterate 2 refine imp ex_i64_b ?_
    refine iq (intA x626.Band) (ldS_ptr (b := ⟨[(intA x626.Node_Time), (intA x626.Node_At_X), (intA x626.Node_At_Y), (intA x626.Node_Height), (intA x626.Radius), (intA x626.Band)], 40⟩) (by first | rfl | (simp (disch := first | decide | assumption) only [mpushs_nil, mpushs_cons, mget_hd, mget_tl, mget_appW_o, mget_appW_n, mget_appW_e])) rfl) ?_
    refine imp ex_i64_b ?_
    refine iq (intA x625.Band) (ldS_ptr (b := ⟨[(intA x625.Node_Time), (intA x625.Node_At_X), (intA x625.Node_At_Y), (intA x625.Node_Height), (intA x625.Radius), (intA x625.Band)], 40⟩) (by first | rfl | (simp (disch := first | decide | assumption) only [mpushs_nil, mpushs_cons, mget_hd, mget_tl, mget_appW_o, mget_appW_n, mget_appW_e])) rfl) ?_
    refine imp ex_i64_b ?_
    refine bind_b fun x642 h642 => ?_
    refine imp (callQ_says (sg38 h642)) ?_
    refine imp exT2_b ?_
    iterate 2 refine imp ex_i64_b ?_
    refine iq (intA x625.Node_Height) (ldS_ptr (b := ⟨[(intA x625.Node_Time), (intA x625.Node_At_X), (intA x625.Node_At_Y), (intA x625.Node_Height), (intA x625.Radius), (intA x625.Band)], 40⟩) (by first | rfl | (simp (disch := first | decide | assumption) only [mpushs_nil, mpushs_cons, mget_hd, mget_tl, mget_appW_o, mget_appW_n, mget_appW_e])) rfl) ?_
    refine imp ex_i64_b ?_
    refine iq (AV.agg [(intA a1), (intA x637.1.X), (intA x637.1.Y), (intA (IntKind.wrap .i64 (x625.Node_Height + x638.1)))]) rfl ?_
    refine iq (intA x625.Radius) (ldS_ptr (b := ⟨[(intA x625.Node_Time), (intA x625.Node_At_X), (intA x625.Node_At_Y), (intA x625.Node_Height), (intA x625.Radius), (intA x625.Band)], 40⟩) (by first | rfl | (simp (disch := first | decide | assumption) only [mpushs_nil, mpushs_cons, mget_hd, mget_tl, mget_appW_o, mget_appW_n, mget_appW_e])) rfl) ?_
    refine imp ex_i64_b ?_
    refine iq (intA x625.Band) (ldS_ptr (b := ⟨[(intA x625.Node_Time), (intA x625.Node_At_X), (intA x625.Node_At_Y), (intA x625.Node_Height), (intA x625.Radius), (intA x625.Band)], 40⟩) (by first | rfl | (simp (disch := first | decide | assumption) only [mpushs_nil, mpushs_cons, mget_hd, mget_tl, mget_appW_o, mget_appW_n, mget_appW_e])) rfl) ?_
    refine imp ex_i64_b ?_
    refine iq (AV.agg [(intA a1), (intA x637.1.X), (intA x637.1.Y), (intA (IntKind.wrap .i64 (x625.Node_Height + x638.1))), (intA (IntKind.wrap .i64 (x625.Radius + x641.1))), (intA (IntKind.wrap .i64 (x625.Band + x642.1)))]) rfl ?_
    refine imp (storeW_cells (sz := 6) (by kernel_rfl) (by kernel_rfl) rfl rfl (cs := [(intA (0)), (intA (0)), (intA (0)), (intA (0)), (intA (0)), (intA (0))]) (cs' := [(intA a1), (intA x637.1.X), (intA x637.1.Y), (intA (IntKind.wrap .i64 (x625.Node_Height + x638.1))), (intA (IntKind.wrap .i64 (x625.Radius + x641.1))), (intA (IntKind.wrap .i64 (x625.Band + x642.1)))]) (ty := 40) (by first | rfl | (simp (disch := first | decide | assumption) only [mpushs_nil, mpushs_cons, mget_hd, mget_tl, mget_appW_o, mget_appW_n, mget_appW_e])) rfl rfl) ?_
    exact fun hg => ret1 (hR _ (Option.some.inj hg).symm) (fz_el (E := TTubeNode.E) _ (⟨a1, x637.1.X, x637.1.Y, (IntKind.wrap .i64 (x625.Node_Height + x638.1)), (IntKind.wrap .i64 (x625.Radius + x641.1)), (IntKind.wrap .i64 (x625.Band + x642.1))⟩ : TTubeNode))
theorem sg25 {n : Nat} {a0 : List TTubeNode} {a1 : Int} {t : ρ25} (h : g25 n a0 a1 = some t) : Says pg KK.gl 25 [(lstA TTubeNode.E a0), (intA a1)] ((AV.agg (TTubeNode.E.enc t))) :=
  says_of_own (by first | rfl | simp [cleans, clean, encs_clean, En.cln]) (by first | rfl | simp [cleans, clean, encs_clean, En.cln]) (F25_own (lstA TTubeNode.E a0) a1 _ (g25_ok n a0 a1 (Ans ((AV.agg (TTubeNode.E.enc t)))) (fun r e u m h => by rw [e]; exact h) h))
/- skyway/tube.At -/
theorem g8_ok (n : Nat) (a0 : List TTubeNode) (a1 : Int) {t : ρ8} (R : AV → Mem → Prop) (hR : ∀ r : ρ8, t = r → ∀ u m, Ans ((AV.tup [(AV.agg (TTubeNode.E.enc r.1)), (intA r.2)])) u m → R u m) : g8 n a0 a1 = some t → F8 (lstA TTubeNode.E a0) a1 R := by
  unfold g8 F8
  refine bind_b fun x615 h615 => ?_
  refine imp (callQ_says (sg7 h615)) ?_
  refine imp ex_i64_b ?_
  refine cond_b (fun _ => ?_) (fun _ => ?_)
  · refine iq (AV.agg [(intA (0)), (intA (0)), (intA (0)), (intA (0)), (intA (0)), (intA (0))]) rfl ?_
    refine imp (storeW_cells (sz := 6) (by kernel_rfl) (by kernel_rfl) rfl rfl (cs := [(intA (0)), (intA (0)), (intA (0)), (intA (0)), (intA (0)), (intA (0))]) (cs' := [(intA (0)), (intA (0)), (intA (0)), (intA (0)), (intA (0)), (intA (0))]) (ty := 40) (by first | rfl | (simp (disch := first | decide | assumption) only [mpushs_nil, mpushs_cons, mget_hd, mget_tl, mget_appW_o, mget_appW_n, mget_appW_e])) rfl rfl) ?_
    exact fun hg => retN rfl (hR _ (Option.some.inj hg).symm) (fzL_cons (fz_el (E := TTubeNode.E) _ (⟨(0), (0), (0), (0), (0), (0)⟩ : TTubeNode)) (fzL_cons (fz_sc _ _) fzL_nil))
  · refine bind_b fun x618 h618 => ?_
    refine imp (callQ_says (sg24 h618)) ?_
    refine imp exT2_b ?_
    iterate 2 refine imp ex_i64_b ?_
    refine cond_b (fun _ => ?_) (fun _ => ?_)
    · refine iq (AV.agg [(intA (0)), (intA (0)), (intA (0)), (intA (0)), (intA (0)), (intA (0))]) rfl ?_
      refine imp (storeW_cells (sz := 6) (by kernel_rfl) (by kernel_rfl) rfl rfl (cs := [(intA (0)), (intA (0)), (intA (0)), (intA (0)), (intA (0)), (intA (0))]) (cs' := [(intA (0)), (intA (0)), (intA (0)), (intA (0)), (intA (0)), (intA (0))]) (ty := 40) (by first | rfl | (simp (disch := first | decide | assumption) only [mpushs_nil, mpushs_cons, mget_hd, mget_tl, mget_appW_o, mget_appW_n, mget_appW_e])) rfl rfl) ?_
      exact fun hg => retN rfl (hR _ (Option.some.inj hg).symm) (fzL_cons (fz_el (E := TTubeNode.E) _ (⟨(0), (0), (0), (0), (0), (0)⟩ : TTubeNode)) (fzL_cons (fz_sc _ _) fzL_nil))
    · refine cond_b (fun _ => ?_) (fun _ => ?_)
      · refine iq (AV.agg [(intA (0)), (intA (0)), (intA (0)), (intA (0)), (intA (0)), (intA (0))]) rfl ?_
        refine imp (storeW_cells (sz := 6) (by kernel_rfl) (by kernel_rfl) rfl rfl (cs := [(intA (0)), (intA (0)), (intA (0)), (intA (0)), (intA (0)), (intA (0))]) (cs' := [(intA (0)), (intA (0)), (intA (0)), (intA (0)), (intA (0)), (intA (0))]) (ty := 40) (by first | rfl | (simp (disch := first | decide | assumption) only [mpushs_nil, mpushs_cons, mget_hd, mget_tl, mget_appW_o, mget_appW_n, mget_appW_e])) rfl rfl) ?_
        exact fun hg => retN rfl (hR _ (Option.some.inj hg).symm) (fzL_cons (fz_el (E := TTubeNode.E) _ (⟨(0), (0), (0), (0), (0), (0)⟩ : TTubeNode)) (fzL_cons (fz_sc _ _) fzL_nil))
      · refine bind_b fun x643 h643 => ?_
        refine imp (callQ_says (sg25 h643)) ?_
        refine imp exA6_b ?_
        iterate 6 refine imp ex_i64_b ?_
        exact fun hg => retN rfl (hR _ (Option.some.inj hg).symm) (fzL_cons (fz_el (E := TTubeNode.E) _ x643) (fzL_cons (fz_sc _ _) fzL_nil))
theorem sg8 {n : Nat} {a0 : List TTubeNode} {a1 : Int} {t : ρ8} (h : g8 n a0 a1 = some t) : Says pg KK.gl 8 [(lstA TTubeNode.E a0), (intA a1)] ((AV.tup [(AV.agg (TTubeNode.E.enc t.1)), (intA t.2)])) :=
  says_of_own (by first | rfl | simp [cleans, clean, encs_clean, En.cln]) (by first | rfl | simp [cleans, clean, encs_clean, En.cln]) (F8_own (lstA TTubeNode.E a0) a1 _ (g8_ok n a0 a1 (Ans ((AV.tup [(AV.agg (TTubeNode.E.enc t.1)), (intA t.2)]))) (fun r e u m h => by rw [e]; exact h) h))
/- skyway/aircraft.Climb -/
theorem g40_ok (n : Nat) (a0 : TKind) (a1 : Int) (a2 : Int) {t : ρ40} (R : AV → Mem → Prop) (hR : ∀ r : ρ40, t = r → ∀ u m, Ans ((AV.tup [(intA r.1), (intA r.2)])) u m → R u m) : g40 n a0 a1 a2 = some t → F40 a0.Name a0.Wake a0.Ceiling a0.Climb a0.Descent a0.Slow a0.Fast a1 a2 R := by
  unfold g40 F40
  refine bind_b fun x652 h652 => ?_
  refine imp (callQ_says (sg18 h652)) ?_
  refine imp ex_i64_b ?_
  refine cond_b (fun _ => ?_) (fun _ => ?_)
  · exact fun hg => retN rfl (hR _ (Option.some.inj hg).symm) (fzL_cons (fz_sc _ _) (fzL_cons (fz_sc _ _) fzL_nil))
  · refine cond_b (fun _ => ?_) (fun _ => ?_)
    · exact fun hg => retN rfl (hR _ (Option.some.inj hg).symm) (fzL_cons (fz_sc _ _) (fzL_cons (fz_sc _ _) fzL_nil))
    · refine cond_b (fun _ => ?_) (fun _ => ?_)
      · exact fun hg => retN rfl (hR _ (Option.some.inj hg).symm) (fzL_cons (fz_sc _ _) (fzL_cons (fz_sc _ _) fzL_nil))
      · refine cond_b (fun _ => ?_) (fun _ => ?_)
        · exact fun hg => retN rfl (hR _ (Option.some.inj hg).symm) (fzL_cons (fz_sc _ _) (fzL_cons (fz_sc _ _) fzL_nil))
        · refine cond_b (fun _ => ?_) (fun _ => ?_)
          · exact fun hg => retN rfl (hR _ (Option.some.inj hg).symm) (fzL_cons (fz_sc _ _) (fzL_cons (fz_sc _ _) fzL_nil))
          · refine cond_b (fun _ => ?_) (fun _ => ?_)
            · exact fun hg => retN rfl (hR _ (Option.some.inj hg).symm) (fzL_cons (fz_sc _ _) (fzL_cons (fz_sc _ _) fzL_nil))
            · refine cond_b (fun _ => ?_) (fun _ => ?_)
              · exact fun hg => retN rfl (hR _ (Option.some.inj hg).symm) (fzL_cons (fz_sc _ _) (fzL_cons (fz_sc _ _) fzL_nil))
              · refine cond_b (fun _ => ?_) (fun _ => ?_)
                · refine bind_b fun x653 h653 => ?_
                  refine imp (callQ_says (sg38 h653)) ?_
                  refine imp exT2_b ?_
                  iterate 2 refine imp ex_i64_b ?_
                  exact fun hg => retN rfl (hR _ (Option.some.inj hg).symm) (fzL_cons (fz_sc _ _) (fzL_cons (fz_sc _ _) fzL_nil))
                · refine bind_b fun x654 h654 => ?_
                  refine imp (callQ_says (sg38 h654)) ?_
                  refine imp exT2_b ?_
                  iterate 2 refine imp ex_i64_b ?_
                  exact fun hg => retN rfl (hR _ (Option.some.inj hg).symm) (fzL_cons (fz_sc _ _) (fzL_cons (fz_sc _ _) fzL_nil))
theorem sg40 {n : Nat} {a0 : TKind} {a1 : Int} {a2 : Int} {t : ρ40} (h : g40 n a0 a1 a2 = some t) : Says pg KK.gl 40 [(AV.agg [(strA a0.Name), (intA a0.Wake), (intA a0.Ceiling), (intA a0.Climb), (intA a0.Descent), (intA a0.Slow), (intA a0.Fast)]), (intA a1), (intA a2)] ((AV.tup [(intA t.1), (intA t.2)])) :=
  says_of_own (by first | rfl | simp [cleans, clean, encs_clean, En.cln]) (by first | rfl | simp [cleans, clean, encs_clean, En.cln]) (F40_own a0.Name a0.Wake a0.Ceiling a0.Climb a0.Descent a0.Slow a0.Fast a1 a2 _ (g40_ok n a0 a1 a2 (Ans ((AV.tup [(intA t.1), (intA t.2)]))) (fun r e u m h => by rw [e]; exact h) h))
/- (skyway/effect.task).height$1 -/
theorem g42_ok (n : Nat) (a0 : TTubeNode) (a1_0 : Int) {t : ρ42} (R : AV → Mem → Prop) (hR : ∀ r : ρ42, t = r → ∀ u m, Ans ((boolA r)) u m → R u m) : g42 n a0 a1_0 = some t → F42 a0.Node_Time a0.Node_At_X a0.Node_At_Y a0.Node_Height a0.Radius a0.Band (AV.ept [(intA a1_0)] 0) R := by
  unfold g42 F42
  refine iq (intA a1_0) rfl ?_
  refine imp ex_i64_b ?_
  exact fun hg => ret1 (hR _ (Option.some.inj hg).symm) (fz_sc _ _)
theorem sg42 {n : Nat} {a0 : TTubeNode} {a1_0 : Int} {t : ρ42} (h : g42 n a0 a1_0 = some t) : Says pg KK.gl 42 [(AV.agg [(intA a0.Node_Time), (intA a0.Node_At_X), (intA a0.Node_At_Y), (intA a0.Node_Height), (intA a0.Radius), (intA a0.Band)]), (AV.ept [(intA a1_0)] 0)] ((boolA t)) :=
  says_of_own (by first | rfl | simp [cleans, clean, encs_clean, En.cln]) (by first | rfl | simp [cleans, clean, encs_clean, En.cln]) (F42_own a0.Node_Time a0.Node_At_X a0.Node_At_Y a0.Node_Height a0.Radius a0.Band (AV.ept [(intA a1_0)] 0) _ (g42_ok n a0 a1_0 (Ans ((boolA t))) (fun r e u m h => by rw [e]; exact h) h))
/- slices.IndexFunc[skyway/api.Tube,skyway/api.TubeNode] -/
theorem B41_0_ok (n : Nat) (a0 : List TTubeNode) (a1_0_0 : Int) (c4 : Int) (c7 : Int) (v8 : Int) {t : (Int) ⊕ ρ41} (R : AV → Mem → Prop) (N0 : St → Prop) (hR : ∀ r : ρ41, t = (.inr r) → ∀ u m, Ans ((intA r)) u m → R u m) (hN0 : ∀ y : Int, t = (.inl y) → ∀ s' : St, Weak KK 19 0 s' (h41_0 (lstA TTubeNode.E a0) (AV.fn 42 [(AV.ept [(intA a1_0_0)] 0)]) c4 c7 y []) → N0 s') : S41_0 n a0 a1_0_0 c4 c7 v8 = some t → B41_0 (lstA TTubeNode.E a0) (AV.fn 42 [(AV.ept [(intA a1_0_0)] 0)]) c4 c7 v8 [] R N0 := by
  unfold S41_0 B41_0
  refine cond_b (fun _ => ?_) (fun _ => ?_)
  · refine bind_b fun x658 h658 => ?_
    refine iq (AV.ept [(intA x658.Node_Time), (intA x658.Node_At_X), (intA x658.Node_At_Y), (intA x658.Node_Height), (intA x658.Radius), (intA x658.Band)] 0) (idx_lst (E := TTubeNode.E) rfl h658) ?_
    refine iq (AV.agg [(intA x658.Node_Time), (intA x658.Node_At_X), (intA x658.Node_At_Y), (intA x658.Node_Height), (intA x658.Radius), (intA x658.Band)]) rfl ?_
    refine imp exA6_b ?_
    iterate 6 refine imp ex_i64_b ?_
    refine bind_b fun x659 h659 => ?_
    refine imp fnArgs_b ?_
    refine imp (cond_ff rfl) ?_
    refine imp (callW_says (sg42 h659)) ?_
    refine imp exB_b ?_
    refine cond_b (fun _ => ?_) (fun _ => ?_)
    · exact fun hg => ret1 (hR _ (Option.some.inj hg).symm) (fz_sc _ _)
    · exact fun hg => hN0 _ (Option.some.inj hg).symm _ (weak_mem [] rfl rfl rfl (okW_cons (ent_lst (E := TTubeNode.E) _ false) (okW_cons (ent_clean (leV_refl _) (by simp [clean, cleans, encs_clean])) (okW_cons (.inl (leV_refl _)) (okW_cons (.inl (leV_refl _)) (okW_cons (.inl (leV_refl _)) okW_nil))))) okB_nil')
  · exact fun hg => ret1 (hR _ (Option.some.inj hg).symm) (fz_sc _ _)
theorem L41_0_ok (n : Nat) (a0 : List TTubeNode) (a1_0_0 : Int) (c4 : Int) (c7 : Int) {t : ρ41} (R : AV → Mem → Prop) (hR : ∀ r : ρ41, t = r → ∀ u m, Ans ((intA r)) u m → R u m) (k : Nat) (x : Int) (hx : iterO (fun y : Int => S41_0 n a0 a1_0_0 c4 c7 y) k x = some t) {s : St} (hw : Weak KK 19 0 s (h41_0 (lstA TTubeNode.E a0) (AV.fn 42 [(AV.ept [(intA a1_0_0)] 0)]) c4 c7 x [])) : Tri pg KK 19 0 (.loop c41_0) s (q41_0 R ) :=
  L41_0 R  (σ := Nat × (Int)) (fun z => iterO (fun y : Int => S41_0 n a0 a1_0_0 c4 c7 y) z.1 z.2 = some t) (fun z => (lstA TTubeNode.E a0)) (fun z => (AV.fn 42 [(AV.ept [(intA a1_0_0)] 0)])) (fun z => c4) (fun z => c7) (fun z => z.2) (fun z => []) (fun z => z.1) (by
    rintro ⟨k, y⟩ h
    cases k with
    | zero => exact (iterO_zero h).elim
    | succ k =>
      obtain ⟨u, h1, h2, h3⟩ := iterO_elim h
      exact B41_0_ok n a0 a1_0_0 c4 c7 y R  _ (fun r e => hR r (h3 _ e).symm)  (fun y' e s' hw => ⟨(k, y'), h2 _ e, Nat.lt_succ_self k, hw⟩) h1) (k, x) hx hw
theorem g41_ok (n : Nat) (a0 : List TTubeNode) (a1_0_0 : Int) {t : ρ41} (R : AV → Mem → Prop) (hR : ∀ r : ρ41, t = r → ∀ u m, Ans ((intA r)) u m → R u m) : g41 n a0 a1_0_0 = some t → F41 (lstA TTubeNode.E a0) (AV.fn 42 [(AV.ept [(intA a1_0_0)] 0)]) R := by
  unfold g41 F41
  refine iq (intA (a0.length : Int)) rfl ?_
  refine imp ex_i64_b ?_
  exact fun hg => L41_0_ok n a0 a1_0_0 (0) (a0.length : Int) R  hR n _ hg (weak_mem [] rfl rfl rfl (okW_cons (ent_lst (E := TTubeNode.E) _ false) (okW_cons (ent_clean (leV_refl _) (by simp [clean, cleans, encs_clean])) (okW_cons (.inl (leV_refl _)) (okW_cons (.inl (leV_refl _)) (okW_cons (.inl (leV_refl _)) okW_nil))))) okB_nil')
theorem sg41 {n : Nat} {a0 : List TTubeNode} {a1_0_0 : Int} {t : ρ41} (h : g41 n a0 a1_0_0 = some t) : Says pg KK.gl 41 [(lstA TTubeNode.E a0), (AV.fn 42 [(AV.ept [(intA a1_0_0)] 0)])] ((intA t)) :=
  says_of_own (by first | rfl | simp [cleans, clean, encs_clean, En.cln]) (by first | rfl | simp [cleans, clean, encs_clean, En.cln]) (F41_own (lstA TTubeNode.E a0) (AV.fn 42 [(AV.ept [(intA a1_0_0)] 0)]) _ (g41_ok n a0 a1_0_0 (Ans ((intA t))) (fun r e u m h => by rw [e]; exact h) h))
end Go.Proofs.YtbbfpbngnkjkdaaDoor
