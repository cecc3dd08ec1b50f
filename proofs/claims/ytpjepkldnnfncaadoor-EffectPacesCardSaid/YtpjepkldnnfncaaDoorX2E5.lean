/- Plain functional programs out of the program's functions, with proofs that the functions compute them; printed by wip/Ext.lean.txt. -/
import Derived.Test.YtpjepkldnnfncaaDoorX2E4
set_option linter.unusedVariables false
set_option linter.unusedSimpArgs false
set_option maxRecDepth 100000
set_option maxHeartbeats 4000000
namespace Go.Proofs.YtpjepkldnnfncaaDoor
/- skyway/skywaykeep3.small -/
theorem B10_0_ok (n : Nat) (a2 : Int) (c6 : Bool) (a0 : List (List TTubeNode)) (c14 : Int) (v15 : Int) {t : (Int) ⊕ ρ10} (R : AV → Mem → Prop) (N0 : St → Prop) (hR : ∀ r : ρ10, t = (.inr r) → ∀ u m, Ans ((boolA r)) u m → R u m) (hN0 : ∀ y : Int, t = (.inl y) → ∀ s' : St, Weak KK 41 0 s' (h10_0 a2 c6 (lstA (lstE TTubeNode.E) a0) c14 y []) → N0 s') : S10_0 n a2 c6 a0 c14 v15 = some t → B10_0 a2 c6 (lstA (lstE TTubeNode.E) a0) c14 v15 [] R N0 := by
  unfold S10_0 B10_0
  refine cond_b (fun _ => ?_) (fun _ => ?_)
  · refine bind_b fun x155 h155 => ?_
    refine imp (opP_of (show _ = some ((AV.ept [(lstA TTubeNode.E x155)] 0), []) from (idx_lst (E := (lstE TTubeNode.E)) rfl h155))) ?_
    refine imp (opP_of (show _ = some ((lstA TTubeNode.E x155), []) from rfl)) ?_
    refine bind_b fun x156 h156 => ?_
    refine imp (callQ_says (sg12 h156)) ?_
    refine imp ex_i64_b ?_
    refine cond_b (fun _ => ?_) (fun _ => ?_)
    · exact fun hg => ret1 (hR _ (Option.some.inj hg).symm) (fz_sc _ _)
    · refine imp (opP_of (show _ = some ((intA (x155.length : Int)), []) from rfl)) ?_
      refine imp ex_i64_b ?_
      refine bind_b fun x157 h157 => ?_
      refine imp (opP_of (show _ = some ((AV.ept [(intA x157.Node_Time), (intA x157.Node_At_X), (intA x157.Node_At_Y), (intA x157.Node_Height), (intA x157.Radius), (intA x157.Band)] 0), []) from (idx_lst (E := TTubeNode.E) rfl h157))) ?_
      refine imp (opP_of (show _ = some ((AV.ept [(intA x157.Node_Time), (intA x157.Node_At_X), (intA x157.Node_At_Y), (intA x157.Node_Height), (intA x157.Radius), (intA x157.Band)] 0), []) from rfl)) ?_
      refine imp (opP_of (show _ = some ((AV.ept [(intA x157.Node_Time), (intA x157.Node_At_X), (intA x157.Node_At_Y), (intA x157.Node_Height), (intA x157.Radius), (intA x157.Band)] 0), []) from rfl)) ?_
      refine imp (opP_of (show _ = some ((intA x157.Node_Time), []) from rfl)) ?_
      refine imp ex_i64_b ?_
      refine bind_b fun x158 h158 => ?_
      refine imp (opP_of (show _ = some ((AV.ept [(intA x158.Node_Time), (intA x158.Node_At_X), (intA x158.Node_At_Y), (intA x158.Node_Height), (intA x158.Radius), (intA x158.Band)] 0), []) from (idx_lst (E := TTubeNode.E) rfl h158))) ?_
      refine imp (opP_of (show _ = some ((AV.ept [(intA x158.Node_Time), (intA x158.Node_At_X), (intA x158.Node_At_Y), (intA x158.Node_Height), (intA x158.Radius), (intA x158.Band)] 0), []) from rfl)) ?_
      refine imp (opP_of (show _ = some ((AV.ept [(intA x158.Node_Time), (intA x158.Node_At_X), (intA x158.Node_At_Y), (intA x158.Node_Height), (intA x158.Radius), (intA x158.Band)] 0), []) from rfl)) ?_
      refine imp (opP_of (show _ = some ((intA x158.Node_Time), []) from rfl)) ?_
      refine imp ex_i64_b ?_
      refine cond_b (fun _ => ?_) (fun _ => ?_)
      · exact fun hg => ret1 (hR _ (Option.some.inj hg).symm) (fz_sc _ _)
      · exact fun hg => hN0 _ (Option.some.inj hg).symm _ (weak_mem [] rfl rfl rfl (okW_cons (.inl (leV_refl _)) (okW_cons (.inl (leV_refl _)) (okW_cons (ent_lst (E := (lstE TTubeNode.E)) _ false) (okW_cons (.inl (leV_refl _)) (okW_cons (.inl (leV_refl _)) okW_nil))))) okB_nil')
  · exact fun hg => ret1 (hR _ (Option.some.inj hg).symm) (fz_sc _ _)
theorem L10_0_ok (n : Nat) (a2 : Int) (c6 : Bool) (a0 : List (List TTubeNode)) (c14 : Int) {t : ρ10} (R : AV → Mem → Prop) (hR : ∀ r : ρ10, t = r → ∀ u m, Ans ((boolA r)) u m → R u m) (k : Nat) (x : Int) (hx : iterO (fun y : Int => S10_0 n a2 c6 a0 c14 y) k x = some t) {s : St} (hw : Weak KK 41 0 s (h10_0 a2 c6 (lstA (lstE TTubeNode.E) a0) c14 x [])) : Tri Tryd.prog KK 41 0 (.loop c10_0) s (q10_0 R ) :=
  L10_0 R  (σ := Nat × (Int)) (fun z => iterO (fun y : Int => S10_0 n a2 c6 a0 c14 y) z.1 z.2 = some t) (fun z => a2) (fun z => c6) (fun z => (lstA (lstE TTubeNode.E) a0)) (fun z => c14) (fun z => z.2) (fun z => []) (fun z => z.1) (by
    rintro ⟨k, y⟩ h
    cases k with
    | zero => exact (iterO_zero h).elim
    | succ k =>
      obtain ⟨u, h1, h2, h3⟩ := iterO_elim h
      exact B10_0_ok n a2 c6 a0 c14 y R  _ (fun r e => hR r (h3 _ e).symm)  (fun y' e s' hw => ⟨(k, y'), h2 _ e, Nat.lt_succ_self k, hw⟩) h1) (k, x) hx hw
theorem g10_ok (n : Nat) (a0 : List (List TTubeNode)) (a1 : Int) (a2 : Int) {t : ρ10} (R : AV → Mem → Prop) (hR : ∀ r : ρ10, t = r → ∀ u m, Ans ((boolA r)) u m → R u m) : g10 n a0 a1 a2 = some t → F10 (lstA (lstE TTubeNode.E) a0) a1 a2 R := by
  unfold g10 F10
  refine imp (opP_of (show _ = some ((intA (a0.length : Int)), []) from rfl)) ?_
  refine imp ex_i64_b ?_
  refine cond_b (fun _ => ?_) (fun _ => ?_)
  · exact fun hg => ret1 (hR _ (Option.some.inj hg).symm) (fz_sc _ _)
  · refine imp (opP_of (show _ = some ((intA (a0.length : Int)), []) from rfl)) ?_
    refine imp ex_i64_b ?_
    exact fun hg => L10_0_ok n a2 false a0 (a0.length : Int) R  hR n _ hg (weak_mem [] rfl rfl rfl (okW_cons (.inl (leV_refl _)) (okW_cons (.inl (leV_refl _)) (okW_cons (ent_lst (E := (lstE TTubeNode.E)) _ false) (okW_cons (.inl (leV_refl _)) (okW_cons (.inl (leV_refl _)) okW_nil))))) okB_nil')
theorem sg10 {n : Nat} {a0 : List (List TTubeNode)} {a1 : Int} {a2 : Int} {t : ρ10} (h : g10 n a0 a1 a2 = some t) : Says Tryd.prog KK.gl 10 [(lstA (lstE TTubeNode.E) a0), (intA a1), (intA a2)] ((boolA t)) :=
  says_of_own (by first | rfl | simp [cleans, clean, encs_clean, En.cln]) (by first | rfl | simp [cleans, clean, encs_clean, En.cln]) (F10_own (lstA (lstE TTubeNode.E) a0) a1 a2 _ (g10_ok n a0 a1 a2 (Ans ((boolA t))) (fun r e u m h => by rw [e]; exact h) h))
/- skyway/skywaykeep3.EffectFirst -/
theorem g6_ok (n : Nat) (a0 : List TTubeNode) (a1 : List TTubeNode) {t : ρ6} (R : AV → Mem → Prop) (hR : ∀ r : ρ6, t = r → ∀ u m, Ans ((boolA r)) u m → R u m) : g6 n a0 a1 = some t → F6 (lstA TTubeNode.E a0) (lstA TTubeNode.E a1) R := by
  unfold g6 F6
  refine bind_b fun x154 h154 => ?_
  refine imp (callQ_says (sg9 h154)) ?_
  refine imp exB_b ?_
  refine cond_b (fun _ => ?_) (fun _ => ?_)
  · exact fun hg => ret1 (hR _ (Option.some.inj hg).symm) (fz_sc _ _)
  · refine imp (opN_of (show _ = some ((blkV (lstE TTubeNode.E) 68 ([a0, a1] : List (List TTubeNode))), [(68, some ⟨encs (lstE TTubeNode.E) ([a0, a1] : List (List TTubeNode)), 23⟩)]) from rfl)) ?_
    refine bind_b fun x159 h159 => ?_
    refine imp (callQ_pure (pure_snapN (snL_cons (sn_blk (E := (lstE TTubeNode.E)) (ty := 23) (l' := ([a0, a1] : List (List TTubeNode))) _ (lstE.nf TTubeNode.E) rfl (by first | rfl | (simp (disch := first | decide | assumption) only [mpushs_nil, mpushs_cons, mget_hd, mget_tl, mget_appW_o, mget_appW_n, mget_appW_e]))) (snL_cons (sn_sc _ _) (snL_cons (sn_sc _ _) snL_nil))) (sg10 h159) rfl)) ?_
    refine imp exB_b ?_
    refine cond_b (fun _ => ?_) (fun _ => ?_)
    · exact fun hg => ret1 (hR _ (Option.some.inj hg).symm) (fz_sc _ _)
    · refine bind_b fun x160 h160 => ?_
      refine imp (callQ_says (sg16 h160)) ?_
      refine imp exT2_b ?_
      refine imp ex_i64_b ?_
      refine imp ex_i64_b ?_
      refine bind_b fun x161 h161 => ?_
      refine imp (callQ_says (sg16 h161)) ?_
      refine imp exT2_b ?_
      refine imp ex_i64_b ?_
      refine imp ex_i64_b ?_
      refine bind_b fun x162 h162 => ?_
      refine imp (callQ_says (sg16 h162)) ?_
      refine imp exT2_b ?_
      refine imp ex_i64_b ?_
      refine imp ex_i64_b ?_
      refine cond_b (fun _ => ?_) (fun _ => ?_)
      · exact fun hg => ret1 (hR _ (Option.some.inj hg).symm) (fz_sc _ _)
      · refine cond_b (fun _ => ?_) (fun _ => ?_)
        · exact fun hg => ret1 (hR _ (Option.some.inj hg).symm) (fz_sc _ _)
        · refine cond_b (fun _ => ?_) (fun _ => ?_)
          · exact fun hg => ret1 (hR _ (Option.some.inj hg).symm) (fz_sc _ _)
          · refine cond_b (fun _ => ?_) (fun _ => ?_)
            · refine cond_b (fun _ => ?_) (fun _ => ?_)
              · exact fun hg => ret1 (hR _ (Option.some.inj hg).symm) (fz_sc _ _)
              · exact fun hg => ret1 (hR _ (Option.some.inj hg).symm) (fz_sc _ _)
            · refine bind_b fun x163 h163 => ?_
              refine imp (callQ_says (sg13 h163)) ?_
              refine imp exT2_b ?_
              refine imp exA6_b ?_
              refine imp ex_i64_b ?_
              refine imp ex_i64_b ?_
              refine imp ex_i64_b ?_
              refine imp ex_i64_b ?_
              refine imp ex_i64_b ?_
              refine imp ex_i64_b ?_
              refine imp ex_i64_b ?_
              refine bind_b fun x164 h164 => ?_
              refine imp (callQ_says (sg13 h164)) ?_
              refine imp exT2_b ?_
              refine imp exA6_b ?_
              refine imp ex_i64_b ?_
              refine imp ex_i64_b ?_
              refine imp ex_i64_b ?_
              refine imp ex_i64_b ?_
              refine imp ex_i64_b ?_
              refine imp ex_i64_b ?_
              refine imp ex_i64_b ?_
              refine cond_b (fun _ => ?_) (fun _ => ?_)
              · exact fun hg => ret1 (hR _ (Option.some.inj hg).symm) (fz_sc _ _)
              · refine cond_b (fun _ => ?_) (fun _ => ?_)
                · refine imp (opP_of (show _ = some ((boolA (!(decide ((⟨x163.1.Node_At_X, x163.1.Node_At_Y⟩ : TP) = (⟨x164.1.Node_At_X, x164.1.Node_At_Y⟩ : TP))))), []) from (TP.neq29 ((⟨x163.1.Node_At_X, x163.1.Node_At_Y⟩ : TP)) ((⟨x164.1.Node_At_X, x164.1.Node_At_Y⟩ : TP))))) ?_
                  refine imp exB_b ?_
                  refine cond_b (fun _ => ?_) (fun _ => ?_)
                  · exact fun hg => ret1 (hR _ (Option.some.inj hg).symm) (fz_sc _ _)
                  · exact fun hg => ret1 (hR _ (Option.some.inj hg).symm) (fz_sc _ _)
                · exact fun hg => ret1 (hR _ (Option.some.inj hg).symm) (fz_sc _ _)
theorem sg6 {n : Nat} {a0 : List TTubeNode} {a1 : List TTubeNode} {t : ρ6} (h : g6 n a0 a1 = some t) : Says Tryd.prog KK.gl 6 [(lstA TTubeNode.E a0), (lstA TTubeNode.E a1)] ((boolA t)) :=
  says_of_own (by first | rfl | simp [cleans, clean, encs_clean, En.cln]) (by first | rfl | simp [cleans, clean, encs_clean, En.cln]) (F6_own (lstA TTubeNode.E a0) (lstA TTubeNode.E a1) _ (g6_ok n a0 a1 (Ans ((boolA t))) (fun r e u m h => by rw [e]; exact h) h))
/- slices.Equal[[]skyway/api.P,skyway/api.P] -/
theorem B18_0_ok (n : Nat) (a0 : List TP) (a1 : List TP) (c4 : Bool) (c12 : Int) (v13 : Int) {t : (Int) ⊕ ρ18} (R : AV → Mem → Prop) (N0 : St → Prop) (hR : ∀ r : ρ18, t = (.inr r) → ∀ u m, Ans ((boolA r)) u m → R u m) (hN0 : ∀ y : Int, t = (.inl y) → ∀ s' : St, Weak KK 26 0 s' (h18_0 (lstA TP.E a0) (lstA TP.E a1) c4 c12 y []) → N0 s') : S18_0 n a0 a1 c4 c12 v13 = some t → B18_0 (lstA TP.E a0) (lstA TP.E a1) c4 c12 v13 [] R N0 := by
  unfold S18_0 B18_0
  refine cond_b (fun _ => ?_) (fun _ => ?_)
  · refine bind_b fun x176 h176 => ?_
    refine imp (opP_of (show _ = some ((AV.ept [(intA x176.X), (intA x176.Y)] 0), []) from (idx_lst (E := TP.E) rfl h176))) ?_
    refine imp (opP_of (show _ = some ((AV.agg [(intA x176.X), (intA x176.Y)]), []) from rfl)) ?_
    refine imp exA2_b ?_
    refine imp ex_i64_b ?_
    refine imp ex_i64_b ?_
    refine bind_b fun x177 h177 => ?_
    refine imp (opP_of (show _ = some ((AV.ept [(intA x177.X), (intA x177.Y)] 0), []) from (idx_lst (E := TP.E) rfl h177))) ?_
    refine imp (opP_of (show _ = some ((AV.agg [(intA x177.X), (intA x177.Y)]), []) from rfl)) ?_
    refine imp exA2_b ?_
    refine imp ex_i64_b ?_
    refine imp ex_i64_b ?_
    refine imp (opP_of (show _ = some ((boolA (!(decide (x176 = x177)))), []) from (TP.neq29 (x176) (x177)))) ?_
    refine imp exB_b ?_
    refine cond_b (fun _ => ?_) (fun _ => ?_)
    · exact fun hg => ret1 (hR _ (Option.some.inj hg).symm) (fz_sc _ _)
    · exact fun hg => hN0 _ (Option.some.inj hg).symm _ (weak_mem [] rfl rfl rfl (okW_cons (ent_lst (E := TP.E) _ false) (okW_cons (ent_lst (E := TP.E) _ false) (okW_cons (.inl (leV_refl _)) (okW_cons (.inl (leV_refl _)) (okW_cons (.inl (leV_refl _)) okW_nil))))) okB_nil')
  · exact fun hg => ret1 (hR _ (Option.some.inj hg).symm) (fz_sc _ _)
theorem L18_0_ok (n : Nat) (a0 : List TP) (a1 : List TP) (c4 : Bool) (c12 : Int) {t : ρ18} (R : AV → Mem → Prop) (hR : ∀ r : ρ18, t = r → ∀ u m, Ans ((boolA r)) u m → R u m) (k : Nat) (x : Int) (hx : iterO (fun y : Int => S18_0 n a0 a1 c4 c12 y) k x = some t) {s : St} (hw : Weak KK 26 0 s (h18_0 (lstA TP.E a0) (lstA TP.E a1) c4 c12 x [])) : Tri Tryd.prog KK 26 0 (.loop c18_0) s (q18_0 R ) :=
  L18_0 R  (σ := Nat × (Int)) (fun z => iterO (fun y : Int => S18_0 n a0 a1 c4 c12 y) z.1 z.2 = some t) (fun z => (lstA TP.E a0)) (fun z => (lstA TP.E a1)) (fun z => c4) (fun z => c12) (fun z => z.2) (fun z => []) (fun z => z.1) (by
    rintro ⟨k, y⟩ h
    cases k with
    | zero => exact (iterO_zero h).elim
    | succ k =>
      obtain ⟨u, h1, h2, h3⟩ := iterO_elim h
      exact B18_0_ok n a0 a1 c4 c12 y R  _ (fun r e => hR r (h3 _ e).symm)  (fun y' e s' hw => ⟨(k, y'), h2 _ e, Nat.lt_succ_self k, hw⟩) h1) (k, x) hx hw
theorem g18_ok (n : Nat) (a0 : List TP) (a1 : List TP) {t : ρ18} (R : AV → Mem → Prop) (hR : ∀ r : ρ18, t = r → ∀ u m, Ans ((boolA r)) u m → R u m) : g18 n a0 a1 = some t → F18 (lstA TP.E a0) (lstA TP.E a1) R := by
  unfold g18 F18
  refine imp (opP_of (show _ = some ((intA (a0.length : Int)), []) from rfl)) ?_
  refine imp ex_i64_b ?_
  refine imp (opP_of (show _ = some ((intA (a1.length : Int)), []) from rfl)) ?_
  refine imp ex_i64_b ?_
  refine cond_b (fun _ => ?_) (fun _ => ?_)
  · exact fun hg => ret1 (hR _ (Option.some.inj hg).symm) (fz_sc _ _)
  · refine imp (opP_of (show _ = some ((intA (a0.length : Int)), []) from rfl)) ?_
    refine imp ex_i64_b ?_
    exact fun hg => L18_0_ok n a0 a1 false (a0.length : Int) R  hR n _ hg (weak_mem [] rfl rfl rfl (okW_cons (ent_lst (E := TP.E) _ false) (okW_cons (ent_lst (E := TP.E) _ false) (okW_cons (.inl (leV_refl _)) (okW_cons (.inl (leV_refl _)) (okW_cons (.inl (leV_refl _)) okW_nil))))) okB_nil')
theorem sg18 {n : Nat} {a0 : List TP} {a1 : List TP} {t : ρ18} (h : g18 n a0 a1 = some t) : Says Tryd.prog KK.gl 18 [(lstA TP.E a0), (lstA TP.E a1)] ((boolA t)) :=
  says_of_own (by first | rfl | simp [cleans, clean, encs_clean, En.cln]) (by first | rfl | simp [cleans, clean, encs_clean, En.cln]) (F18_own (lstA TP.E a0) (lstA TP.E a1) _ (g18_ok n a0 a1 (Ans ((boolA t))) (fun r e u m h => by rw [e]; exact h) h))
/- skyway/skywaykeep3.EffectPaces -/
theorem B7_1_ok (n : Nat) (a2 : Int) (a3 : Int) (c10 : Bool) (c11 : List TTubeNode) (c58 : Int) (v59 : Int) (L90000 : List TP) (L90001 : List TP) {t : (Int × List TP × List TP) ⊕ ρ7} (R : AV → Mem → Prop) (N0 : St → Prop) (hR : ∀ r : ρ7, t = (.inr r) → ∀ u m, Ans ((boolA r)) u m → R u m) (hN0 : ∀ y : Int × List TP × List TP, t = (.inl y) → ∀ s' : St, Weak KK 110 0 s' (h7_1 a2 a3 c10 (lstA TTubeNode.E c11) (ownV TP.E 90000 y.2.1) (ownV TP.E 90001 y.2.2) (lstA TTubeNode.E c11) c58 y.1 [(90000, ownB TP.E 29 y.2.1), (90001, ownB TP.E 29 y.2.2)]) → N0 s') : S7_1 n a2 a3 c10 c11 c58 v59 L90000 L90001 = some t → B7_1 a2 a3 c10 (lstA TTubeNode.E c11) (ownV TP.E 90000 L90000) (ownV TP.E 90001 L90001) (lstA TTubeNode.E c11) c58 v59 [(90000, ownB TP.E 29 L90000), (90001, ownB TP.E 29 L90001)] R N0 := by
  unfold S7_1 B7_1
  refine cond_b (fun _ => ?_) (fun _ => ?_)
  · refine bind_b fun x170 h170 => ?_
    refine imp (opP_of (show _ = some ((AV.ept [(intA x170.Node_Time), (intA x170.Node_At_X), (intA x170.Node_At_Y), (intA x170.Node_Height), (intA x170.Radius), (intA x170.Band)] 0), []) from (idx_lst (E := TTubeNode.E) rfl h170))) ?_
    refine imp (opP_of (show _ = some ((AV.agg [(intA x170.Node_Time), (intA x170.Node_At_X), (intA x170.Node_At_Y), (intA x170.Node_Height), (intA x170.Radius), (intA x170.Band)]), []) from rfl)) ?_
    refine imp exA6_b ?_
    refine imp ex_i64_b ?_
    refine imp ex_i64_b ?_
    refine imp ex_i64_b ?_
    refine imp ex_i64_b ?_
    refine imp ex_i64_b ?_
    refine imp ex_i64_b ?_
    refine cond_b (fun _ => ?_) (fun _ => ?_)
    · exact fun hg => hN0 _ (Option.some.inj hg).symm _ (weak_mem [(90000, 90000), (90001, 90001)] rfl rfl rfl (okW_cons (.inl (leV_refl _)) (okW_cons (.inl (leV_refl _)) (okW_cons (.inl (leV_refl _)) (okW_cons (ent_lst (E := TTubeNode.E) _ false) (okW_cons (ent_own (E := TP.E) (id := 90000) (l' := L90000) rfl rfl) (okW_cons (ent_own (E := TP.E) (id := 90001) (l' := L90001) rfl rfl) (okW_cons (ent_lst (E := TTubeNode.E) _ false) (okW_cons (.inl (leV_refl _)) (okW_cons (.inl (leV_refl _)) okW_nil))))))))) (okB_cons (okB_own (E := TP.E) (ty := 29) (l' := L90000) rfl (show mget _ 90000 = _ from (by first | rfl | (simp (disch := first | decide | assumption) only [mpushs_nil, mpushs_cons, mget_hd, mget_tl, mget_appW_o, mget_appW_n, mget_appW_e])))) (okB_cons (okB_own (E := TP.E) (ty := 29) (l' := L90001) rfl (show mget _ 90001 = _ from (by first | rfl | (simp (disch := first | decide | assumption) only [mpushs_nil, mpushs_cons, mget_hd, mget_tl, mget_appW_o, mget_appW_n, mget_appW_e])))) okB_nil')))
    · refine imp (opN_of (show _ = some ((blkV TP.E 200016 ([(⟨x170.Node_At_X, x170.Node_At_Y⟩ : TP)] : List TP)), [(200016, some ⟨encs TP.E ([(⟨x170.Node_At_X, x170.Node_At_Y⟩ : TP)] : List TP), 29⟩)]) from rfl)) ?_
      refine bind_b fun x172 h172 => ?_
      refine imp (opN_of (show _ = some ((ownV TP.E 200017 (L90001 ++ ([(⟨x170.Node_At_X, x170.Node_At_Y⟩ : TP)] : List TP))), (appW TP.E 200017 90001 29 L90001 ([(⟨x170.Node_At_X, x170.Node_At_Y⟩ : TP)] : List TP))) from (app_own (E := TP.E) (l' := L90001) (xs := ([(⟨x170.Node_At_X, x170.Node_At_Y⟩ : TP)] : List TP)) rfl rfl (cellsOf_blk (E := TP.E) (ty := 29) rfl rfl (by first | rfl | (simp (disch := first | decide | assumption) only [mpushs_nil, mpushs_cons, mget_hd, mget_tl, mget_appW_o, mget_appW_n, mget_appW_e]))) (by first | assumption | simp) rfl (fun hne => Eq.trans (by first | rfl | (simp (disch := first | decide | assumption) only [mpushs_nil, mpushs_cons, mget_hd, mget_tl, mget_appW_o, mget_appW_n, mget_appW_e])) (ownB_ne hne)) h172))) ?_
      refine cond_b (fun _ => ?_) (fun _ => ?_)
      · exact fun hg => ret1 (hR _ (Option.some.inj hg).symm) (fz_sc _ _)
      · refine bind_b fun x173 h173 => ?_
        refine imp (opP_of (show _ = some ((AV.ept [(intA x173.Node_Time), (intA x173.Node_At_X), (intA x173.Node_At_Y), (intA x173.Node_Height), (intA x173.Radius), (intA x173.Band)] 0), []) from (idx_lst (E := TTubeNode.E) rfl h173))) ?_
        refine imp (opP_of (show _ = some ((AV.ept [(intA x173.Node_Time), (intA x173.Node_At_X), (intA x173.Node_At_Y), (intA x173.Node_Height), (intA x173.Radius), (intA x173.Band)] 0), []) from rfl)) ?_
        refine imp (opP_of (show _ = some ((AV.ept [(intA x173.Node_Time), (intA x173.Node_At_X), (intA x173.Node_At_Y), (intA x173.Node_Height), (intA x173.Radius), (intA x173.Band)] 1), []) from rfl)) ?_
        refine imp (opP_of (show _ = some ((AV.agg [(intA x173.Node_At_X), (intA x173.Node_At_Y)]), []) from rfl)) ?_
        refine imp exA2_b ?_
        refine imp ex_i64_b ?_
        refine imp ex_i64_b ?_
        refine imp (opP_of (show _ = some ((AV.agg [(intA x170.Node_At_X), (intA x170.Node_At_Y)]), []) from (ldA_ptr (b := ⟨[(intA x170.Node_Time), (intA x170.Node_At_X), (intA x170.Node_At_Y), (intA x170.Node_Height), (intA x170.Radius), (intA x170.Band)], 40⟩) (by first | rfl | (simp (disch := first | decide | assumption) only [mpushs_nil, mpushs_cons, mget_hd, mget_tl, mget_appW_o, mget_appW_n, mget_appW_e])) rfl))) ?_
        refine imp exA2_b ?_
        refine imp ex_i64_b ?_
        refine imp ex_i64_b ?_
        refine bind_b fun x174 h174 => ?_
        refine imp (callQ_says (sg17 h174)) ?_
        refine imp exT2_b ?_
        refine imp ex_i64_b ?_
        refine imp ex_i64_b ?_
        refine imp (opP_of (show _ = some ((intA x170.Node_Time), []) from (ldS_ptr (b := ⟨[(intA x170.Node_Time), (intA x170.Node_At_X), (intA x170.Node_At_Y), (intA x170.Node_Height), (intA x170.Radius), (intA x170.Band)], 40⟩) (by first | rfl | (simp (disch := first | decide | assumption) only [mpushs_nil, mpushs_cons, mget_hd, mget_tl, mget_appW_o, mget_appW_n, mget_appW_e])) rfl))) ?_
        refine imp ex_i64_b ?_
        refine bind_b fun x175 h175 => ?_
        refine imp (opP_of (show _ = some ((AV.ept [(intA x175.Node_Time), (intA x175.Node_At_X), (intA x175.Node_At_Y), (intA x175.Node_Height), (intA x175.Radius), (intA x175.Band)] 0), []) from (idx_lst (E := TTubeNode.E) rfl h175))) ?_
        refine imp (opP_of (show _ = some ((AV.ept [(intA x175.Node_Time), (intA x175.Node_At_X), (intA x175.Node_At_Y), (intA x175.Node_Height), (intA x175.Radius), (intA x175.Band)] 0), []) from rfl)) ?_
        refine imp (opP_of (show _ = some ((AV.ept [(intA x175.Node_Time), (intA x175.Node_At_X), (intA x175.Node_At_Y), (intA x175.Node_Height), (intA x175.Radius), (intA x175.Band)] 0), []) from rfl)) ?_
        refine imp (opP_of (show _ = some ((intA x175.Node_Time), []) from rfl)) ?_
        refine imp ex_i64_b ?_
        refine cond_b (fun _ => ?_) (fun _ => ?_)
        · exact fun hg => ret1 (hR _ (Option.some.inj hg).symm) (fz_sc _ _)
        · exact fun hg => hN0 _ (Option.some.inj hg).symm _ (weak_mem [(90000, 90000), (90001, 200017)] rfl rfl rfl (okW_cons (.inl (leV_refl _)) (okW_cons (.inl (leV_refl _)) (okW_cons (.inl (leV_refl _)) (okW_cons (ent_lst (E := TTubeNode.E) _ false) (okW_cons (ent_own (E := TP.E) (id := 90000) (l' := L90000) rfl rfl) (okW_cons (ent_own (E := TP.E) (id := 200017) (l' := (L90001 ++ ([(⟨x170.Node_At_X, x170.Node_At_Y⟩ : TP)] : List TP))) rfl rfl) (okW_cons (ent_lst (E := TTubeNode.E) _ false) (okW_cons (.inl (leV_refl _)) (okW_cons (.inl (leV_refl _)) okW_nil))))))))) (okB_cons (okB_own (E := TP.E) (ty := 29) (l' := L90000) rfl (show mget _ 90000 = _ from (by first | rfl | (simp (disch := first | decide | assumption) only [mpushs_nil, mpushs_cons, mget_hd, mget_tl, mget_appW_o, mget_appW_n, mget_appW_e])))) (okB_cons (okB_own (E := TP.E) (ty := 29) (l' := (L90001 ++ ([(⟨x170.Node_At_X, x170.Node_At_Y⟩ : TP)] : List TP))) rfl (show mget _ 200017 = _ from (by first | rfl | (simp (disch := first | decide | assumption) only [mpushs_nil, mpushs_cons, mget_hd, mget_tl, mget_appW_o, mget_appW_n, mget_appW_e])))) okB_nil')))
  · refine bind_b fun x178 h178 => ?_
    refine imp (callQ_pure (pure_snapN (snL_cons (sn_own (E := TP.E) (ty := 29) (l' := L90000) _ TP.nf rfl (by first | rfl | (simp (disch := first | decide | assumption) only [mpushs_nil, mpushs_cons, mget_hd, mget_tl, mget_appW_o, mget_appW_n, mget_appW_e]))) (snL_cons (sn_own (E := TP.E) (ty := 29) (l' := L90001) _ TP.nf rfl (by first | rfl | (simp (disch := first | decide | assumption) only [mpushs_nil, mpushs_cons, mget_hd, mget_tl, mget_appW_o, mget_appW_n, mget_appW_e]))) snL_nil)) (sg18 h178) rfl)) ?_
    refine imp exB_b ?_
    exact fun hg => ret1 (hR _ (Option.some.inj hg).symm) (fz_sc _ _)
theorem L7_1_ok (n : Nat) (a2 : Int) (a3 : Int) (c10 : Bool) (c11 : List TTubeNode) (c58 : Int) {t : ρ7} (R : AV → Mem → Prop) (hR : ∀ r : ρ7, t = r → ∀ u m, Ans ((boolA r)) u m → R u m) (k : Nat) (x : Int × List TP × List TP) (hx : iterO (fun y : Int × List TP × List TP => S7_1 n a2 a3 c10 c11 c58 y.1 y.2.1 y.2.2) k x = some t) {s : St} (hw : Weak KK 110 0 s (h7_1 a2 a3 c10 (lstA TTubeNode.E c11) (ownV TP.E 90000 x.2.1) (ownV TP.E 90001 x.2.2) (lstA TTubeNode.E c11) c58 x.1 [(90000, ownB TP.E 29 x.2.1), (90001, ownB TP.E 29 x.2.2)])) : Tri Tryd.prog KK 110 0 (.loop c7_1) s (q7_1 R ) :=
  L7_1 R  (σ := Nat × (Int × List TP × List TP)) (fun z => iterO (fun y : Int × List TP × List TP => S7_1 n a2 a3 c10 c11 c58 y.1 y.2.1 y.2.2) z.1 z.2 = some t) (fun z => a2) (fun z => a3) (fun z => c10) (fun z => (lstA TTubeNode.E c11)) (fun z => (ownV TP.E 90000 z.2.2.1)) (fun z => (ownV TP.E 90001 z.2.2.2)) (fun z => (lstA TTubeNode.E c11)) (fun z => c58) (fun z => z.2.1) (fun z => [(90000, ownB TP.E 29 z.2.2.1), (90001, ownB TP.E 29 z.2.2.2)]) (fun z => z.1) (by
    rintro ⟨k, y⟩ h
    cases k with
    | zero => exact (iterO_zero h).elim
    | succ k =>
      obtain ⟨u, h1, h2, h3⟩ := iterO_elim h
      exact B7_1_ok n a2 a3 c10 c11 c58 y.1 y.2.1 y.2.2 R  _ (fun r e => hR r (h3 _ e).symm)  (fun y' e s' hw => ⟨(k, y'), h2 _ e, Nat.lt_succ_self k, hw⟩) h1) (k, x) hx hw
theorem B7_0_ok (n : Nat) (a2 : Int) (a3 : Int) (c10 : Bool) (c11 : List TTubeNode) (a0 : List TTubeNode) (c40 : Int) (v41 : Int) (L90000 : List TP) {t : (Int × List TP) ⊕ ρ7} (R : AV → Mem → Prop) (N0 : St → Prop) (hR : ∀ r : ρ7, t = (.inr r) → ∀ u m, Ans ((boolA r)) u m → R u m) (hN0 : ∀ y : Int × List TP, t = (.inl y) → ∀ s' : St, Weak KK 110 0 s' (h7_0 a2 a3 c10 (lstA TTubeNode.E c11) (ownV TP.E 90000 y.2) AV.nils (lstA TTubeNode.E a0) c40 y.1 [(90000, ownB TP.E 29 y.2)]) → N0 s') : S7_0 n a2 a3 c10 c11 a0 c40 v41 L90000 = some t → B7_0 a2 a3 c10 (lstA TTubeNode.E c11) (ownV TP.E 90000 L90000) AV.nils (lstA TTubeNode.E a0) c40 v41 [(90000, ownB TP.E 29 L90000)] R N0 := by
  unfold S7_0 B7_0
  refine cond_b (fun _ => ?_) (fun _ => ?_)
  · refine bind_b fun x167 h167 => ?_
    refine imp (opP_of (show _ = some ((AV.ept [(intA x167.Node_Time), (intA x167.Node_At_X), (intA x167.Node_At_Y), (intA x167.Node_Height), (intA x167.Radius), (intA x167.Band)] 0), []) from (idx_lst (E := TTubeNode.E) rfl h167))) ?_
    refine imp (opP_of (show _ = some ((AV.agg [(intA x167.Node_Time), (intA x167.Node_At_X), (intA x167.Node_At_Y), (intA x167.Node_Height), (intA x167.Radius), (intA x167.Band)]), []) from rfl)) ?_
    refine imp exA6_b ?_
    refine imp ex_i64_b ?_
    refine imp ex_i64_b ?_
    refine imp ex_i64_b ?_
    refine imp ex_i64_b ?_
    refine imp ex_i64_b ?_
    refine imp ex_i64_b ?_
    refine cond_b (fun _ => ?_) (fun _ => ?_)
    · refine imp (opN_of (show _ = some ((blkV TP.E 100014 ([(⟨x167.Node_At_X, x167.Node_At_Y⟩ : TP)] : List TP)), [(100014, some ⟨encs TP.E ([(⟨x167.Node_At_X, x167.Node_At_Y⟩ : TP)] : List TP), 29⟩)]) from rfl)) ?_
      refine bind_b fun x169 h169 => ?_
      refine imp (opN_of (show _ = some ((ownV TP.E 100015 (L90000 ++ ([(⟨x167.Node_At_X, x167.Node_At_Y⟩ : TP)] : List TP))), (appW TP.E 100015 90000 29 L90000 ([(⟨x167.Node_At_X, x167.Node_At_Y⟩ : TP)] : List TP))) from (app_own (E := TP.E) (l' := L90000) (xs := ([(⟨x167.Node_At_X, x167.Node_At_Y⟩ : TP)] : List TP)) rfl rfl (cellsOf_blk (E := TP.E) (ty := 29) rfl rfl (by first | rfl | (simp (disch := first | decide | assumption) only [mpushs_nil, mpushs_cons, mget_hd, mget_tl, mget_appW_o, mget_appW_n, mget_appW_e]))) (by first | assumption | simp) rfl (fun hne => Eq.trans (by first | rfl | (simp (disch := first | decide | assumption) only [mpushs_nil, mpushs_cons, mget_hd, mget_tl, mget_appW_o, mget_appW_n, mget_appW_e])) (ownB_ne hne)) h169))) ?_
      exact fun hg => hN0 _ (Option.some.inj hg).symm _ (weak_mem [(90000, 100015)] rfl rfl rfl (okW_cons (.inl (leV_refl _)) (okW_cons (.inl (leV_refl _)) (okW_cons (.inl (leV_refl _)) (okW_cons (ent_lst (E := TTubeNode.E) _ false) (okW_cons (ent_own (E := TP.E) (id := 100015) (l' := (L90000 ++ ([(⟨x167.Node_At_X, x167.Node_At_Y⟩ : TP)] : List TP))) rfl rfl) (okW_cons (.inl (leV_refl _)) (okW_cons (ent_lst (E := TTubeNode.E) _ false) (okW_cons (.inl (leV_refl _)) (okW_cons (.inl (leV_refl _)) okW_nil))))))))) (okB_cons (okB_own (E := TP.E) (ty := 29) (l' := (L90000 ++ ([(⟨x167.Node_At_X, x167.Node_At_Y⟩ : TP)] : List TP))) rfl (show mget _ 100015 = _ from (by first | rfl | (simp (disch := first | decide | assumption) only [mpushs_nil, mpushs_cons, mget_hd, mget_tl, mget_appW_o, mget_appW_n, mget_appW_e])))) okB_nil'))
    · exact fun hg => hN0 _ (Option.some.inj hg).symm _ (weak_mem [(90000, 90000)] rfl rfl rfl (okW_cons (.inl (leV_refl _)) (okW_cons (.inl (leV_refl _)) (okW_cons (.inl (leV_refl _)) (okW_cons (ent_lst (E := TTubeNode.E) _ false) (okW_cons (ent_own (E := TP.E) (id := 90000) (l' := L90000) rfl rfl) (okW_cons (.inl (leV_refl _)) (okW_cons (ent_lst (E := TTubeNode.E) _ false) (okW_cons (.inl (leV_refl _)) (okW_cons (.inl (leV_refl _)) okW_nil))))))))) (okB_cons (okB_own (E := TP.E) (ty := 29) (l' := L90000) rfl (show mget _ 90000 = _ from (by first | rfl | (simp (disch := first | decide | assumption) only [mpushs_nil, mpushs_cons, mget_hd, mget_tl, mget_appW_o, mget_appW_n, mget_appW_e])))) okB_nil'))
  · refine imp (opP_of (show _ = some ((intA (c11.length : Int)), []) from rfl)) ?_
    refine imp ex_i64_b ?_
    refine mapInr_b fun t0 e0 => ?_
    exact fun hg => L7_1_ok n a2 a3 c10 c11 (c11.length : Int) R  (fun r e => hR r (e0.trans (congrArg Sum.inr e))) n _ hg (weak_mem [(90000, 90000), (90001, 89501)] rfl rfl rfl (okW_cons (.inl (leV_refl _)) (okW_cons (.inl (leV_refl _)) (okW_cons (.inl (leV_refl _)) (okW_cons (ent_lst (E := TTubeNode.E) _ false) (okW_cons (ent_own (E := TP.E) (id := 90000) (l' := L90000) rfl rfl) (okW_cons ent_nils_own (okW_cons (ent_lst (E := TTubeNode.E) _ false) (okW_cons (.inl (leV_refl _)) (okW_cons (.inl (leV_refl _)) okW_nil))))))))) (okB_cons (okB_own (E := TP.E) (ty := 29) (l' := L90000) rfl (show mget _ 90000 = _ from (by first | rfl | (simp (disch := first | decide | assumption) only [mpushs_nil, mpushs_cons, mget_hd, mget_tl, mget_appW_o, mget_appW_n, mget_appW_e])))) (okB_cons okB_nil okB_nil')))
theorem L7_0_ok (n : Nat) (a2 : Int) (a3 : Int) (c10 : Bool) (c11 : List TTubeNode) (a0 : List TTubeNode) (c40 : Int) {t : ρ7} (R : AV → Mem → Prop) (hR : ∀ r : ρ7, t = r → ∀ u m, Ans ((boolA r)) u m → R u m) (k : Nat) (x : Int × List TP) (hx : iterO (fun y : Int × List TP => S7_0 n a2 a3 c10 c11 a0 c40 y.1 y.2) k x = some t) {s : St} (hw : Weak KK 110 0 s (h7_0 a2 a3 c10 (lstA TTubeNode.E c11) (ownV TP.E 90000 x.2) AV.nils (lstA TTubeNode.E a0) c40 x.1 [(90000, ownB TP.E 29 x.2)])) : Tri Tryd.prog KK 110 0 (.loop c7_0) s (q7_0 R ) :=
  L7_0 R  (σ := Nat × (Int × List TP)) (fun z => iterO (fun y : Int × List TP => S7_0 n a2 a3 c10 c11 a0 c40 y.1 y.2) z.1 z.2 = some t) (fun z => a2) (fun z => a3) (fun z => c10) (fun z => (lstA TTubeNode.E c11)) (fun z => (ownV TP.E 90000 z.2.2)) (fun z => AV.nils) (fun z => (lstA TTubeNode.E a0)) (fun z => c40) (fun z => z.2.1) (fun z => [(90000, ownB TP.E 29 z.2.2)]) (fun z => z.1) (by
    rintro ⟨k, y⟩ h
    cases k with
    | zero => exact (iterO_zero h).elim
    | succ k =>
      obtain ⟨u, h1, h2, h3⟩ := iterO_elim h
      exact B7_0_ok n a2 a3 c10 c11 a0 c40 y.1 y.2 R  _ (fun r e => hR r (h3 _ e).symm)  (fun y' e s' hw => ⟨(k, y'), h2 _ e, Nat.lt_succ_self k, hw⟩) h1) (k, x) hx hw
theorem g7_ok (n : Nat) (a0 : List TTubeNode) (a1 : ByteArray) (a2 : Int) (a3 : Int) (a4 : TKind) {t : ρ7} (R : AV → Mem → Prop) (hR : ∀ r : ρ7, t = r → ∀ u m, Ans ((boolA r)) u m → R u m) : g7 n a0 a1 a2 a3 a4 = some t → F7 (lstA TTubeNode.E a0) a1 a2 a3 a4.Name a4.Wake a4.Ceiling a4.Climb a4.Descent a4.Slow a4.Fast R := by
  unfold g7 F7
  refine bind_b fun x165 h165 => ?_
  refine imp (callQ_says (sg9 h165)) ?_
  refine imp exB_b ?_
  refine cond_b (fun _ => ?_) (fun _ => ?_)
  · exact fun hg => ret1 (hR _ (Option.some.inj hg).symm) (fz_sc _ _)
  · refine imp (opP_of (show _ = some ((AV.agg [(strA a1), (intA (2)), (intA a2), (strA (⟨#[]⟩ : ByteArray))]), []) from rfl)) ?_
    refine imp (opP_of (show _ = some ((AV.agg [(intA (0)), (intA (0))]), []) from rfl)) ?_
    refine bind_b fun x166 h166 => ?_
    refine imp (callQ_says (sg11 h166)) ?_
    refine imp exT2_b ?_
    refine imp ex_i64_b ?_
    refine cond_b (fun _ => ?_) (fun _ => ?_)
    · refine imp (opP_of (show _ = some ((intA (x166.1.length : Int)), []) from rfl)) ?_
      refine imp ex_i64_b ?_
      exact fun hg => ret1 (hR _ (Option.some.inj hg).symm) (fz_sc _ _)
    · refine imp (opP_of (show _ = some ((intA (a0.length : Int)), []) from rfl)) ?_
      refine imp ex_i64_b ?_
      exact fun hg => L7_0_ok n a2 a3 false x166.1 a0 (a0.length : Int) R  hR n _ hg (weak_mem [(90000, 89500)] rfl rfl rfl (okW_cons (.inl (leV_refl _)) (okW_cons (.inl (leV_refl _)) (okW_cons (.inl (leV_refl _)) (okW_cons (ent_lst (E := TTubeNode.E) _ false) (okW_cons ent_nils_own (okW_cons (.inl (leV_refl _)) (okW_cons (ent_lst (E := TTubeNode.E) _ false) (okW_cons (.inl (leV_refl _)) (okW_cons (.inl (leV_refl _)) okW_nil))))))))) (okB_cons okB_nil okB_nil'))
theorem sg7 {n : Nat} {a0 : List TTubeNode} {a1 : ByteArray} {a2 : Int} {a3 : Int} {a4 : TKind} {t : ρ7} (h : g7 n a0 a1 a2 a3 a4 = some t) : Says Tryd.prog KK.gl 7 [(lstA TTubeNode.E a0), (strA a1), (intA a2), (intA a3), (AV.agg [(strA a4.Name), (intA a4.Wake), (intA a4.Ceiling), (intA a4.Climb), (intA a4.Descent), (intA a4.Slow), (intA a4.Fast)])] ((boolA t)) :=
  says_of_own (by first | rfl | simp [cleans, clean, encs_clean, En.cln]) (by first | rfl | simp [cleans, clean, encs_clean, En.cln]) (F7_own (lstA TTubeNode.E a0) a1 a2 a3 a4.Name a4.Wake a4.Ceiling a4.Climb a4.Descent a4.Slow a4.Fast _ (g7_ok n a0 a1 a2 a3 a4 (Ans ((boolA t))) (fun r e u m h => by rw [e]; exact h) h))
/- skyway/skywaykeep3.pick -/
theorem g19_ok (n : Nat) (a0 : Int) (a1 : Int) {t : ρ19} (R : AV → Mem → Prop) (hR : ∀ r : ρ19, t = r → ∀ u m, Ans ((intA r)) u m → R u m) : g19 n a0 a1 = some t → F19 a0 a1 R := by
  unfold g19 F19
  refine imp (opP_of (show _ = some ((AV.sc (.int .u64 (IntKind.wrap .u64 a0))), []) from (by kernel_rfl))) ?_
  refine imp ex_u64_b ?_
  refine imp (opP_of (show _ = some ((AV.sc (.int .u64 (IntKind.wrap .u64 a1))), []) from (by kernel_rfl))) ?_
  refine imp ex_u64_b ?_
  refine bind_b fun x181 h181 => ?_
  refine imp (opP_of (show _ = some ((AV.sc (.int .u64 x181)), []) from (opA_rem h181))) ?_
  refine imp ex_u64_b ?_
  refine imp (opP_of (show _ = some ((intA (IntKind.wrap .i64 x181)), []) from (by kernel_rfl))) ?_
  refine imp ex_i64_b ?_
  exact fun hg => ret1 (hR _ (Option.some.inj hg).symm) (fz_sc _ _)
theorem sg19 {n : Nat} {a0 : Int} {a1 : Int} {t : ρ19} (h : g19 n a0 a1 = some t) : Says Tryd.prog KK.gl 19 [(intA a0), (intA a1)] ((intA t)) :=
  says_of_own (by first | rfl | simp [cleans, clean, encs_clean, En.cln]) (by first | rfl | simp [cleans, clean, encs_clean, En.cln]) (F19_own a0 a1 _ (g19_ok n a0 a1 (Ans ((intA t))) (fun r e u m h => by rw [e]; exact h) h))
/- slices.Equal[skyway/api.Tube,skyway/api.TubeNode] -/
theorem B20_0_ok (n : Nat) (a0 : List TTubeNode) (a1 : List TTubeNode) (c4 : Bool) (c12 : Int) (v13 : Int) {t : (Int) ⊕ ρ20} (R : AV → Mem → Prop) (N0 : St → Prop) (hR : ∀ r : ρ20, t = (.inr r) → ∀ u m, Ans ((boolA r)) u m → R u m) (hN0 : ∀ y : Int, t = (.inl y) → ∀ s' : St, Weak KK 26 0 s' (h20_0 (lstA TTubeNode.E a0) (lstA TTubeNode.E a1) c4 c12 y []) → N0 s') : S20_0 n a0 a1 c4 c12 v13 = some t → B20_0 (lstA TTubeNode.E a0) (lstA TTubeNode.E a1) c4 c12 v13 [] R N0 := by
  unfold S20_0 B20_0
  refine cond_b (fun _ => ?_) (fun _ => ?_)
  · refine bind_b fun x185 h185 => ?_
    refine imp (opP_of (show _ = some ((AV.ept [(intA x185.Node_Time), (intA x185.Node_At_X), (intA x185.Node_At_Y), (intA x185.Node_Height), (intA x185.Radius), (intA x185.Band)] 0), []) from (idx_lst (E := TTubeNode.E) rfl h185))) ?_
    refine imp (opP_of (show _ = some ((AV.agg [(intA x185.Node_Time), (intA x185.Node_At_X), (intA x185.Node_At_Y), (intA x185.Node_Height), (intA x185.Radius), (intA x185.Band)]), []) from rfl)) ?_
    refine imp exA6_b ?_
    refine imp ex_i64_b ?_
    refine imp ex_i64_b ?_
    refine imp ex_i64_b ?_
    refine imp ex_i64_b ?_
    refine imp ex_i64_b ?_
    refine imp ex_i64_b ?_
    refine bind_b fun x186 h186 => ?_
    refine imp (opP_of (show _ = some ((AV.ept [(intA x186.Node_Time), (intA x186.Node_At_X), (intA x186.Node_At_Y), (intA x186.Node_Height), (intA x186.Radius), (intA x186.Band)] 0), []) from (idx_lst (E := TTubeNode.E) rfl h186))) ?_
    refine imp (opP_of (show _ = some ((AV.agg [(intA x186.Node_Time), (intA x186.Node_At_X), (intA x186.Node_At_Y), (intA x186.Node_Height), (intA x186.Radius), (intA x186.Band)]), []) from rfl)) ?_
    refine imp exA6_b ?_
    refine imp ex_i64_b ?_
    refine imp ex_i64_b ?_
    refine imp ex_i64_b ?_
    refine imp ex_i64_b ?_
    refine imp ex_i64_b ?_
    refine imp ex_i64_b ?_
    refine imp (opP_of (show _ = some ((boolA (!(decide (x185 = x186)))), []) from (TTubeNode.neq40 (x185) (x186)))) ?_
    refine imp exB_b ?_
    refine cond_b (fun _ => ?_) (fun _ => ?_)
    · exact fun hg => ret1 (hR _ (Option.some.inj hg).symm) (fz_sc _ _)
    · exact fun hg => hN0 _ (Option.some.inj hg).symm _ (weak_mem [] rfl rfl rfl (okW_cons (ent_lst (E := TTubeNode.E) _ false) (okW_cons (ent_lst (E := TTubeNode.E) _ false) (okW_cons (.inl (leV_refl _)) (okW_cons (.inl (leV_refl _)) (okW_cons (.inl (leV_refl _)) okW_nil))))) okB_nil')
  · exact fun hg => ret1 (hR _ (Option.some.inj hg).symm) (fz_sc _ _)
theorem L20_0_ok (n : Nat) (a0 : List TTubeNode) (a1 : List TTubeNode) (c4 : Bool) (c12 : Int) {t : ρ20} (R : AV → Mem → Prop) (hR : ∀ r : ρ20, t = r → ∀ u m, Ans ((boolA r)) u m → R u m) (k : Nat) (x : Int) (hx : iterO (fun y : Int => S20_0 n a0 a1 c4 c12 y) k x = some t) {s : St} (hw : Weak KK 26 0 s (h20_0 (lstA TTubeNode.E a0) (lstA TTubeNode.E a1) c4 c12 x [])) : Tri Tryd.prog KK 26 0 (.loop c20_0) s (q20_0 R ) :=
  L20_0 R  (σ := Nat × (Int)) (fun z => iterO (fun y : Int => S20_0 n a0 a1 c4 c12 y) z.1 z.2 = some t) (fun z => (lstA TTubeNode.E a0)) (fun z => (lstA TTubeNode.E a1)) (fun z => c4) (fun z => c12) (fun z => z.2) (fun z => []) (fun z => z.1) (by
    rintro ⟨k, y⟩ h
    cases k with
    | zero => exact (iterO_zero h).elim
    | succ k =>
      obtain ⟨u, h1, h2, h3⟩ := iterO_elim h
      exact B20_0_ok n a0 a1 c4 c12 y R  _ (fun r e => hR r (h3 _ e).symm)  (fun y' e s' hw => ⟨(k, y'), h2 _ e, Nat.lt_succ_self k, hw⟩) h1) (k, x) hx hw
theorem g20_ok (n : Nat) (a0 : List TTubeNode) (a1 : List TTubeNode) {t : ρ20} (R : AV → Mem → Prop) (hR : ∀ r : ρ20, t = r → ∀ u m, Ans ((boolA r)) u m → R u m) : g20 n a0 a1 = some t → F20 (lstA TTubeNode.E a0) (lstA TTubeNode.E a1) R := by
  unfold g20 F20
  refine imp (opP_of (show _ = some ((intA (a0.length : Int)), []) from rfl)) ?_
  refine imp ex_i64_b ?_
  refine imp (opP_of (show _ = some ((intA (a1.length : Int)), []) from rfl)) ?_
  refine imp ex_i64_b ?_
  refine cond_b (fun _ => ?_) (fun _ => ?_)
  · exact fun hg => ret1 (hR _ (Option.some.inj hg).symm) (fz_sc _ _)
  · refine imp (opP_of (show _ = some ((intA (a0.length : Int)), []) from rfl)) ?_
    refine imp ex_i64_b ?_
    exact fun hg => L20_0_ok n a0 a1 false (a0.length : Int) R  hR n _ hg (weak_mem [] rfl rfl rfl (okW_cons (ent_lst (E := TTubeNode.E) _ false) (okW_cons (ent_lst (E := TTubeNode.E) _ false) (okW_cons (.inl (leV_refl _)) (okW_cons (.inl (leV_refl _)) (okW_cons (.inl (leV_refl _)) okW_nil))))) okB_nil')
theorem sg20 {n : Nat} {a0 : List TTubeNode} {a1 : List TTubeNode} {t : ρ20} (h : g20 n a0 a1 = some t) : Says Tryd.prog KK.gl 20 [(lstA TTubeNode.E a0), (lstA TTubeNode.E a1)] ((boolA t)) :=
  says_of_own (by first | rfl | simp [cleans, clean, encs_clean, En.cln]) (by first | rfl | simp [cleans, clean, encs_clean, En.cln]) (F20_own (lstA TTubeNode.E a0) (lstA TTubeNode.E a1) _ (g20_ok n a0 a1 (Ans ((boolA t))) (fun r e u m h => by rw [e]; exact h) h))
/- skyway/skywaykeep3.EffectNothing -/
theorem g8_ok (n : Nat) (a0 : List TTubeNode) (a1 : TClearance) (a2 : Int) (a3 : TKind) {t : ρ8} (R : AV → Mem → Prop) (hR : ∀ r : ρ8, t = r → ∀ u m, Ans ((boolA r)) u m → R u m) : g8 n a0 a1 a2 a3 = some t → F8 (lstA TTubeNode.E a0) a1.Call a1.Kind a1.Value a1.Fix a2 a3.Name a3.Wake a3.Ceiling a3.Climb a3.Descent a3.Slow a3.Fast R := by
  unfold g8 F8
  refine bind_b fun x179 h179 => ?_
  refine imp (callQ_says (sg9 h179)) ?_
  refine imp exB_b ?_
  refine cond_b (fun _ => ?_) (fun _ => ?_)
  · exact fun hg => ret1 (hR _ (Option.some.inj hg).symm) (fz_sc _ _)
  · refine imp (opN_of (show _ = some ((blkV (lstE TTubeNode.E) 69 ([a0] : List (List TTubeNode))), [(69, some ⟨encs (lstE TTubeNode.E) ([a0] : List (List TTubeNode)), 23⟩)]) from rfl)) ?_
    refine bind_b fun x180 h180 => ?_
    refine imp (callQ_pure (pure_snapN (snL_cons (sn_blk (E := (lstE TTubeNode.E)) (ty := 23) (l' := ([a0] : List (List TTubeNode))) _ (lstE.nf TTubeNode.E) rfl (by first | rfl | (simp (disch := first | decide | assumption) only [mpushs_nil, mpushs_cons, mget_hd, mget_tl, mget_appW_o, mget_appW_n, mget_appW_e]))) (snL_cons (sn_sc _ _) (snL_cons (sn_sc _ _) snL_nil))) (sg10 h180) rfl)) ?_
    refine imp exB_b ?_
    refine cond_b (fun _ => ?_) (fun _ => ?_)
    · exact fun hg => ret1 (hR _ (Option.some.inj hg).symm) (fz_sc _ _)
    · refine imp (opP_of (show _ = some ((intA a1.Kind), []) from (ldS_ptr (b := ⟨[(strA a1.Call), (intA a1.Kind), (intA a1.Value), (strA a1.Fix)], 25⟩) (by first | rfl | (simp (disch := first | decide | assumption) only [mpushs_nil, mpushs_cons, mget_hd, mget_tl, mget_appW_o, mget_appW_n, mget_appW_e])) rfl))) ?_
      refine imp ex_i64_b ?_
      refine bind_b fun x182 h182 => ?_
      refine imp (callQ_says (sg19 h182)) ?_
      refine imp ex_i64_b ?_
      refine imp (storeW_cell (by kernel_rfl) (by kernel_rfl) rfl (cs := [(strA a1.Call), (intA a1.Kind), (intA a1.Value), (strA a1.Fix)]) (cs' := [(strA a1.Call), (intA (IntKind.wrap .i64 ((4) + x182))), (intA a1.Value), (strA a1.Fix)]) (ty := 25) (by first | rfl | (simp (disch := first | decide | assumption) only [mpushs_nil, mpushs_cons, mget_hd, mget_tl, mget_appW_o, mget_appW_n, mget_appW_e])) rfl rfl) ?_
      refine imp (opP_of (show _ = some ((AV.agg [(strA a1.Call), (intA (IntKind.wrap .i64 ((4) + x182))), (intA a1.Value), (strA a1.Fix)]), []) from (ldA_ptr (b := ⟨[(strA a1.Call), (intA (IntKind.wrap .i64 ((4) + x182))), (intA a1.Value), (strA a1.Fix)], 25⟩) (by first | rfl | (simp (disch := first | decide | assumption) only [mpushs_nil, mpushs_cons, mget_hd, mget_tl, mget_appW_o, mget_appW_n, mget_appW_e])) rfl))) ?_
      refine imp exA4_b ?_
      refine imp exStr_b ?_
      refine imp ex_i64_b ?_
      refine imp ex_i64_b ?_
      refine imp exStr_b ?_
      refine imp (opP_of (show _ = some ((AV.agg [(strA a3.Name), (intA a3.Wake), (intA a3.Ceiling), (intA a3.Climb), (intA a3.Descent), (intA a3.Slow), (intA a3.Fast)]), []) from (ldA_ptr (b := ⟨[(strA a3.Name), (intA a3.Wake), (intA a3.Ceiling), (intA a3.Climb), (intA a3.Descent), (intA a3.Slow), (intA a3.Fast)], 27⟩) (by first | rfl | (simp (disch := first | decide | assumption) only [mpushs_nil, mpushs_cons, mget_hd, mget_tl, mget_appW_o, mget_appW_n, mget_appW_e])) rfl))) ?_
      refine imp exA7_b ?_
      refine imp exStr_b ?_
      refine imp ex_i64_b ?_
      refine imp ex_i64_b ?_
      refine imp ex_i64_b ?_
      refine imp ex_i64_b ?_
      refine imp ex_i64_b ?_
      refine imp ex_i64_b ?_
      refine imp (opP_of (show _ = some ((AV.agg [(intA (0)), (intA (0))]), []) from rfl)) ?_
      refine bind_b fun x183 h183 => ?_
      refine imp (callQ_says (sg11 h183)) ?_
      refine imp exT2_b ?_
      refine imp ex_i64_b ?_
      refine cond_b (fun _ => ?_) (fun _ => ?_)
      · refine imp (opP_of (show _ = some ((intA (x183.1.length : Int)), []) from rfl)) ?_
        refine imp ex_i64_b ?_
        exact fun hg => ret1 (hR _ (Option.some.inj hg).symm) (fz_sc _ _)
      · refine bind_b fun x184 h184 => ?_
        refine imp (callQ_says (sg16 h184)) ?_
        refine imp exT2_b ?_
        refine imp ex_i64_b ?_
        refine imp ex_i64_b ?_
        refine cond_b (fun _ => ?_) (fun _ => ?_)
        · refine bind_b fun x187 h187 => ?_
          refine imp (callQ_says (sg20 h187)) ?_
          refine imp exB_b ?_
          exact fun hg => ret1 (hR _ (Option.some.inj hg).symm) (fz_sc _ _)
        · exact fun hg => ret1 (hR _ (Option.some.inj hg).symm) (fz_sc _ _)
theorem sg8 {n : Nat} {a0 : List TTubeNode} {a1 : TClearance} {a2 : Int} {a3 : TKind} {t : ρ8} (h : g8 n a0 a1 a2 a3 = some t) : Says Tryd.prog KK.gl 8 [(lstA TTubeNode.E a0), (AV.agg [(strA a1.Call), (intA a1.Kind), (intA a1.Value), (strA a1.Fix)]), (intA a2), (AV.agg [(strA a3.Name), (intA a3.Wake), (intA a3.Ceiling), (intA a3.Climb), (intA a3.Descent), (intA a3.Slow), (intA a3.Fast)])] ((boolA t)) :=
  says_of_own (by first | rfl | simp [cleans, clean, encs_clean, En.cln]) (by first | rfl | simp [cleans, clean, encs_clean, En.cln]) (F8_own (lstA TTubeNode.E a0) a1.Call a1.Kind a1.Value a1.Fix a2 a3.Name a3.Wake a3.Ceiling a3.Climb a3.Descent a3.Slow a3.Fast _ (g8_ok n a0 a1 a2 a3 (Ans ((boolA t))) (fun r e u m h => by rw [e]; exact h) h))
end Go.Proofs.YtpjepkldnnfncaaDoor
