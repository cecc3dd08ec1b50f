/- Plain functional programs out of the program's functions, with proofs that the functions compute them; printed by wip/Ext.lean.txt. -/
import Derived.Test.YteaimbiojpjneaaGreatDoorX1G
import Derived.Test.YteaimbiojpjneaaGreatDoorX1F1
import Derived.Test.YteaimbiojpjneaaGreatDoorX1F2
import Derived.Test.YteaimbiojpjneaaGreatDoorX1F3
set_option linter.unusedVariables false
set_option linter.unusedSimpArgs false
set_option maxRecDepth 100000
set_option maxHeartbeats 4000000
namespace Go.Proofs.YteaimbiojpjneaaGreatDoor
/- skyway/probe.CheckSep -/
theorem g43_ok (n : Nat) (a0 : TSep) {t : ρ43} (R : AV → Mem → Prop) (hR : ∀ r : ρ43, t = r → ∀ u m, Ans ((intA r)) u m → R u m) : g43 n a0 = some t → F43 a0.Lateral a0.Vertical R := by
  unfold g43 F43
  refine cond_b (fun _ => ?_) (fun _ => ?_)
  · exact fun hg => ret1 (hR _ (Option.some.inj hg).symm) (fz_sc _ _)
  · refine cond_b (fun _ => ?_) (fun _ => ?_)
    · exact fun hg => ret1 (hR _ (Option.some.inj hg).symm) (fz_sc _ _)
    · refine cond_b (fun _ => ?_) (fun _ => ?_)
      · exact fun hg => ret1 (hR _ (Option.some.inj hg).symm) (fz_sc _ _)
      · refine cond_b (fun _ => ?_) (fun _ => ?_)
        · exact fun hg => ret1 (hR _ (Option.some.inj hg).symm) (fz_sc _ _)
        · exact fun hg => ret1 (hR _ (Option.some.inj hg).symm) (fz_sc _ _)
theorem sg43 {n : Nat} {a0 : TSep} {t : ρ43} (h : g43 n a0 = some t) : Says pg KK.gl 43 [(AV.agg [(intA a0.Lateral), (intA a0.Vertical)])] ((intA t)) :=
  says_of_own (by first | rfl | simp [cleans, clean, encs_clean, En.cln]) (by first | rfl | simp [cleans, clean, encs_clean, En.cln]) (F43_own a0.Lateral a0.Vertical _ (g43_ok n a0 (Ans ((intA t))) (fun r e u m h => by rw [e]; exact h) h))
/- skyway/plane.Check -/
theorem g38_ok (n : Nat) (a0 : TP) {t : ρ38} (R : AV → Mem → Prop) (hR : ∀ r : ρ38, t = r → ∀ u m, Ans ((intA r)) u m → R u m) : g38 n a0 = some t → F38 a0.X a0.Y R := by
  unfold g38 F38
  refine cond_b (fun _ => ?_) (fun _ => ?_)
  · exact fun hg => ret1 (hR _ (Option.some.inj hg).symm) (fz_sc _ _)
  · refine cond_b (fun _ => ?_) (fun _ => ?_)
    · exact fun hg => ret1 (hR _ (Option.some.inj hg).symm) (fz_sc _ _)
    · refine cond_b (fun _ => ?_) (fun _ => ?_)
      · exact fun hg => ret1 (hR _ (Option.some.inj hg).symm) (fz_sc _ _)
      · refine cond_b (fun _ => ?_) (fun _ => ?_)
        · exact fun hg => ret1 (hR _ (Option.some.inj hg).symm) (fz_sc _ _)
        · exact fun hg => ret1 (hR _ (Option.some.inj hg).symm) (fz_sc _ _)
theorem sg38 {n : Nat} {a0 : TP} {t : ρ38} (h : g38 n a0 = some t) : Says pg KK.gl 38 [(AV.agg [(intA a0.X), (intA a0.Y)])] ((intA t)) :=
  says_of_own (by first | rfl | simp [cleans, clean, encs_clean, En.cln]) (by first | rfl | simp [cleans, clean, encs_clean, En.cln]) (F38_own a0.X a0.Y _ (g38_ok n a0 (Ans ((intA t))) (fun r e u m h => by rw [e]; exact h) h))
/- skyway/tube.Check -/
theorem B24_0_ok (n : Nat) (a0 : List TTubeNode) (c2 : Int) (c15 : Int) (v16 : Int) {t : (Int) ⊕ ρ24} (R : AV → Mem → Prop) (N0 : St → Prop) (hR : ∀ r : ρ24, t = (.inr r) → ∀ u m, Ans ((intA r)) u m → R u m) (hN0 : ∀ y : Int, t = (.inl y) → ∀ s' : St, Weak KK 86 0 s' (h24_0 (lstA TTubeNode.E a0) c2 (lstA TTubeNode.E a0) c15 y []) → N0 s') : S24_0 n a0 c2 c15 v16 = some t → B24_0 (lstA TTubeNode.E a0) c2 (lstA TTubeNode.E a0) c15 v16 [] R N0 := by
  unfold S24_0 B24_0
  refine cond_b (fun _ => ?_) (fun _ => ?_)
  · refine bind_b fun x0 h0 => ?_
    refine iq (AV.ept [(intA x0.Node_Time), (intA x0.Node_At_X), (intA x0.Node_At_Y), (intA x0.Node_Height), (intA x0.Radius), (intA x0.Band)] 0) (idx_lst (E := TTubeNode.E) rfl h0) ?_
    refine iq (AV.agg [(intA x0.Node_Time), (intA x0.Node_At_X), (intA x0.Node_At_Y), (intA x0.Node_Height), (intA x0.Radius), (intA x0.Band)]) rfl ?_
    refine imp exA6_b ?_
    iterate 6 refine imp ex_i64_b ?_
    refine cond_b (fun _ => ?_) (fun _ => ?_)
    · exact fun hg => ret1 (hR _ (Option.some.inj hg).symm) (fz_sc _ _)
    · refine cond_b (fun _ => ?_) (fun _ => ?_)
      · exact fun hg => ret1 (hR _ (Option.some.inj hg).symm) (fz_sc _ _)
      · refine cond_b (fun _ => ?_) (fun _ => ?_)
        · refine bind_b fun x1 h1 => ?_
          refine iq (AV.ept [(intA x1.Node_Time), (intA x1.Node_At_X), (intA x1.Node_At_Y), (intA x1.Node_Height), (intA x1.Radius), (intA x1.Band)] 0) (idx_lst (E := TTubeNode.E) rfl h1) ?_
          refine iq (AV.ept [(intA x1.Node_Time), (intA x1.Node_At_X), (intA x1.Node_At_Y), (intA x1.Node_Height), (intA x1.Radius), (intA x1.Band)] 0) rfl ?_
          refine iq (AV.ept [(intA x1.Node_Time), (intA x1.Node_At_X), (intA x1.Node_At_Y), (intA x1.Node_Height), (intA x1.Radius), (intA x1.Band)] 0) rfl ?_
          refine iq (intA x1.Node_Time) rfl ?_
          refine imp ex_i64_b ?_
          refine cond_b (fun _ => ?_) (fun _ => ?_)
          · exact fun hg => ret1 (hR _ (Option.some.inj hg).symm) (fz_sc _ _)
          · refine bind_b fun x2 h2 => ?_
            refine imp (callQ_says (sg38 h2)) ?_
            refine imp ex_i64_b ?_
            refine cond_b (fun _ => ?_) (fun _ => ?_)
            · exact fun hg => ret1 (hR _ (Option.some.inj hg).symm) (fz_sc _ _)
            · refine cond_b (fun _ => ?_) (fun _ => ?_)
              · exact fun hg => ret1 (hR _ (Option.some.inj hg).symm) (fz_sc _ _)
              · refine cond_b (fun _ => ?_) (fun _ => ?_)
                · exact fun hg => ret1 (hR _ (Option.some.inj hg).symm) (fz_sc _ _)
                · refine cond_b (fun _ => ?_) (fun _ => ?_)
                  · exact fun hg => ret1 (hR _ (Option.some.inj hg).symm) (fz_sc _ _)
                  · refine cond_b (fun _ => ?_) (fun _ => ?_)
                    · exact fun hg => ret1 (hR _ (Option.some.inj hg).symm) (fz_sc _ _)
                    · refine cond_b (fun _ => ?_) (fun _ => ?_)
                      · exact fun hg => ret1 (hR _ (Option.some.inj hg).symm) (fz_sc _ _)
                      · refine cond_b (fun _ => ?_) (fun _ => ?_)
                        · exact fun hg => ret1 (hR _ (Option.some.inj hg).symm) (fz_sc _ _)
                        · exact fun hg => hN0 _ (Option.some.inj hg).symm _ (weak_mem [] rfl rfl rfl (okW_cons (ent_lst (E := TTubeNode.E) _ false) (okW_cons (.inl (leV_refl _)) (okW_cons (ent_lst (E := TTubeNode.E) _ false) (okW_cons (.inl (leV_refl _)) (okW_cons (.inl (leV_refl _)) okW_nil))))) okB_nil')
        · refine bind_b fun x3 h3 => ?_
          refine imp (callQ_says (sg38 h3)) ?_
          refine imp ex_i64_b ?_
          refine cond_b (fun _ => ?_) (fun _ => ?_)
          · exact fun hg => ret1 (hR _ (Option.some.inj hg).symm) (fz_sc _ _)
          · refine cond_b (fun _ => ?_) (fun _ => ?_)
            · exact fun hg => ret1 (hR _ (Option.some.inj hg).symm) (fz_sc _ _)
            · refine cond_b (fun _ => ?_) (fun _ => ?_)
              · exact fun hg => ret1 (hR _ (Option.some.inj hg).symm) (fz_sc _ _)
              · refine cond_b (fun _ => ?_) (fun _ => ?_)
                · exact fun hg => ret1 (hR _ (Option.some.inj hg).symm) (fz_sc _ _)
                · refine cond_b (fun _ => ?_) (fun _ => ?_)
                  · exact fun hg => ret1 (hR _ (Option.some.inj hg).symm) (fz_sc _ _)
                  · refine cond_b (fun _ => ?_) (fun _ => ?_)
                    · exact fun hg => ret1 (hR _ (Option.some.inj hg).symm) (fz_sc _ _)
                    · refine cond_b (fun _ => ?_) (fun _ => ?_)
                      · exact fun hg => ret1 (hR _ (Option.some.inj hg).symm) (fz_sc _ _)
                      · exact fun hg => hN0 _ (Option.some.inj hg).symm _ (weak_mem [] rfl rfl rfl (okW_cons (ent_lst (E := TTubeNode.E) _ false) (okW_cons (.inl (leV_refl _)) (okW_cons (ent_lst (E := TTubeNode.E) _ false) (okW_cons (.inl (leV_refl _)) (okW_cons (.inl (leV_refl _)) okW_nil))))) okB_nil')
  · exact fun hg => ret1 (hR _ (Option.some.inj hg).symm) (fz_sc _ _)
theorem L24_0_ok (n : Nat) (a0 : List TTubeNode) (c2 : Int) (c15 : Int) {t : ρ24} (R : AV → Mem → Prop) (hR : ∀ r : ρ24, t = r → ∀ u m, Ans ((intA r)) u m → R u m) (k : Nat) (x : Int) (hx : iterO (fun y : Int => S24_0 n a0 c2 c15 y) k x = some t) {s : St} (hw : Weak KK 86 0 s (h24_0 (lstA TTubeNode.E a0) c2 (lstA TTubeNode.E a0) c15 x [])) : Tri pg KK 86 0 (.loop c24_0) s (q24_0 R ) :=
  L24_0 R  (σ := Nat × (Int)) (fun z => iterO (fun y : Int => S24_0 n a0 c2 c15 y) z.1 z.2 = some t) (fun z => (lstA TTubeNode.E a0)) (fun z => c2) (fun z => (lstA TTubeNode.E a0)) (fun z => c15) (fun z => z.2) (fun z => []) (fun z => z.1) (by
    rintro ⟨k, y⟩ h
    cases k with
    | zero => exact (iterO_zero h).elim
    | succ k =>
      obtain ⟨u, h1, h2, h3⟩ := iterO_elim h
      exact B24_0_ok n a0 c2 c15 y R  _ (fun r e => hR r (h3 _ e).symm)  (fun y' e s' hw => ⟨(k, y'), h2 _ e, Nat.lt_succ_self k, hw⟩) h1) (k, x) hx hw
theorem g24_ok (n : Nat) (a0 : List TTubeNode) {t : ρ24} (R : AV → Mem → Prop) (hR : ∀ r : ρ24, t = r → ∀ u m, Ans ((intA r)) u m → R u m) : g24 n a0 = some t → F24 (lstA TTubeNode.E a0) R := by
  unfold g24 F24
  refine iq (intA (a0.length : Int)) rfl ?_
  refine imp ex_i64_b ?_
  refine cond_b (fun _ => ?_) (fun _ => ?_)
  · exact fun hg => ret1 (hR _ (Option.some.inj hg).symm) (fz_sc _ _)
  · refine iq (intA (a0.length : Int)) rfl ?_
    refine imp ex_i64_b ?_
    refine cond_b (fun _ => ?_) (fun _ => ?_)
    · exact fun hg => ret1 (hR _ (Option.some.inj hg).symm) (fz_sc _ _)
    · refine iq (intA (a0.length : Int)) rfl ?_
      refine imp ex_i64_b ?_
      exact fun hg => L24_0_ok n a0 (0) (a0.length : Int) R  hR n _ hg (weak_mem [] rfl rfl rfl (okW_cons (ent_lst (E := TTubeNode.E) _ false) (okW_cons (.inl (leV_refl _)) (okW_cons (ent_lst (E := TTubeNode.E) _ false) (okW_cons (.inl (leV_refl _)) (okW_cons (.inl (leV_refl _)) okW_nil))))) okB_nil')
theorem sg24 {n : Nat} {a0 : List TTubeNode} {t : ρ24} (h : g24 n a0 = some t) : Says pg KK.gl 24 [(lstA TTubeNode.E a0)] ((intA t)) :=
  says_of_own (by first | rfl | simp [cleans, clean, encs_clean, En.cln]) (by first | rfl | simp [cleans, clean, encs_clean, En.cln]) (F24_own (lstA TTubeNode.E a0) _ (g24_ok n a0 (Ans ((intA t))) (fun r e u m h => by rw [e]; exact h) h))
/- skyway/probe.check -/
theorem B44_0_ok (n : Nat) (c4 : Int) (a1 : List (List TTubeNode)) (c15 : Int) (v16 : Int) {t : (Int) ⊕ ρ44} (R : AV → Mem → Prop) (N0 : St → Prop) (hR : ∀ r : ρ44, t = (.inr r) → ∀ u m, Ans ((intA r)) u m → R u m) (hN0 : ∀ y : Int, t = (.inl y) → ∀ s' : St, Weak KK 26 0 s' (h44_0 c4 (lstA (lstE TTubeNode.E) a1) c15 y []) → N0 s') : S44_0 n c4 a1 c15 v16 = some t → B44_0 c4 (lstA (lstE TTubeNode.E) a1) c15 v16 [] R N0 := by
  unfold S44_0 B44_0
  refine cond_b (fun _ => ?_) (fun _ => ?_)
  · refine bind_b fun x5 h5 => ?_
    refine iq (AV.ept [(lstA TTubeNode.E x5)] 0) (idx_lst (E := (lstE TTubeNode.E)) rfl h5) ?_
    refine iq (lstA TTubeNode.E x5) rfl ?_
    refine bind_b fun x6 h6 => ?_
    refine imp (callQ_says (sg24 h6)) ?_
    refine imp ex_i64_b ?_
    refine cond_b (fun _ => ?_) (fun _ => ?_)
    · exact fun hg => ret1 (hR _ (Option.some.inj hg).symm) (fz_sc _ _)
    · exact fun hg => hN0 _ (Option.some.inj hg).symm _ (weak_mem [] rfl rfl rfl (okW_cons (.inl (leV_refl _)) (okW_cons (ent_lst (E := (lstE TTubeNode.E)) _ false) (okW_cons (.inl (leV_refl _)) (okW_cons (.inl (leV_refl _)) okW_nil)))) okB_nil')
  · exact fun hg => ret1 (hR _ (Option.some.inj hg).symm) (fz_sc _ _)
theorem L44_0_ok (n : Nat) (c4 : Int) (a1 : List (List TTubeNode)) (c15 : Int) {t : ρ44} (R : AV → Mem → Prop) (hR : ∀ r : ρ44, t = r → ∀ u m, Ans ((intA r)) u m → R u m) (k : Nat) (x : Int) (hx : iterO (fun y : Int => S44_0 n c4 a1 c15 y) k x = some t) {s : St} (hw : Weak KK 26 0 s (h44_0 c4 (lstA (lstE TTubeNode.E) a1) c15 x [])) : Tri pg KK 26 0 (.loop c44_0) s (q44_0 R ) :=
  L44_0 R  (σ := Nat × (Int)) (fun z => iterO (fun y : Int => S44_0 n c4 a1 c15 y) z.1 z.2 = some t) (fun z => c4) (fun z => (lstA (lstE TTubeNode.E) a1)) (fun z => c15) (fun z => z.2) (fun z => []) (fun z => z.1) (by
    rintro ⟨k, y⟩ h
    cases k with
    | zero => exact (iterO_zero h).elim
    | succ k =>
      obtain ⟨u, h1, h2, h3⟩ := iterO_elim h
      exact B44_0_ok n c4 a1 c15 y R  _ (fun r e => hR r (h3 _ e).symm)  (fun y' e s' hw => ⟨(k, y'), h2 _ e, Nat.lt_succ_self k, hw⟩) h1) (k, x) hx hw
theorem g44_ok (n : Nat) (a0 : TSep) (a1 : List (List TTubeNode)) {t : ρ44} (R : AV → Mem → Prop) (hR : ∀ r : ρ44, t = r → ∀ u m, Ans ((intA r)) u m → R u m) : g44 n a0 a1 = some t → F44 a0.Lateral a0.Vertical (lstA (lstE TTubeNode.E) a1) R := by
  unfold g44 F44
  refine bind_b fun x4 h4 => ?_
  refine imp (callQ_says (sg43 h4)) ?_
  refine imp ex_i64_b ?_
  refine cond_b (fun _ => ?_) (fun _ => ?_)
  · exact fun hg => ret1 (hR _ (Option.some.inj hg).symm) (fz_sc _ _)
  · refine iq (intA (a1.length : Int)) rfl ?_
    refine imp ex_i64_b ?_
    exact fun hg => L44_0_ok n (0) a1 (a1.length : Int) R  hR n _ hg (weak_mem [] rfl rfl rfl (okW_cons (.inl (leV_refl _)) (okW_cons (ent_lst (E := (lstE TTubeNode.E)) _ false) (okW_cons (.inl (leV_refl _)) (okW_cons (.inl (leV_refl _)) okW_nil)))) okB_nil')
theorem sg44 {n : Nat} {a0 : TSep} {a1 : List (List TTubeNode)} {t : ρ44} (h : g44 n a0 a1 = some t) : Says pg KK.gl 44 [(AV.agg [(intA a0.Lateral), (intA a0.Vertical)]), (lstA (lstE TTubeNode.E) a1)] ((intA t)) :=
  says_of_own (by first | rfl | simp [cleans, clean, encs_clean, En.cln]) (by first | rfl | simp [cleans, clean, encs_clean, En.cln]) (F44_own a0.Lateral a0.Vertical (lstA (lstE TTubeNode.E) a1) _ (g44_ok n a0 a1 (Ans ((intA t))) (fun r e u m h => by rw [e]; exact h) h))
/- skyway/probe.common -/
theorem g64_ok (n : Nat) (a0 : List TTubeNode) (a1 : List TTubeNode) {t : ρ64} (R : AV → Mem → Prop) (hR : ∀ r : ρ64, t = r → ∀ u m, Ans ((AV.tup [(intA r.1), (intA r.2)])) u m → R u m) : g64 n a0 a1 = some t → F64 (lstA TTubeNode.E a0) (lstA TTubeNode.E a1) R := by
  unfold g64 F64
  refine bind_b fun x8 h8 => ?_
  refine iq (AV.ept [(intA x8.Node_Time), (intA x8.Node_At_X), (intA x8.Node_At_Y), (intA x8.Node_Height), (intA x8.Radius), (intA x8.Band)] 0) (idx_lst (E := TTubeNode.E) rfl h8) ?_
  refine iq (AV.ept [(intA x8.Node_Time), (intA x8.Node_At_X), (intA x8.Node_At_Y), (intA x8.Node_Height), (intA x8.Radius), (intA x8.Band)] 0) rfl ?_
  refine iq (AV.ept [(intA x8.Node_Time), (intA x8.Node_At_X), (intA x8.Node_At_Y), (intA x8.Node_Height), (intA x8.Radius), (intA x8.Band)] 0) rfl ?_
  refine iq (intA x8.Node_Time) rfl ?_
  refine imp ex_i64_b ?_
  refine bind_b fun x9 h9 => ?_
  refine iq (AV.ept [(intA x9.Node_Time), (intA x9.Node_At_X), (intA x9.Node_At_Y), (intA x9.Node_Height), (intA x9.Radius), (intA x9.Band)] 0) (idx_lst (E := TTubeNode.E) rfl h9) ?_
  refine iq (AV.ept [(intA x9.Node_Time), (intA x9.Node_At_X), (intA x9.Node_At_Y), (intA x9.Node_Height), (intA x9.Radius), (intA x9.Band)] 0) rfl ?_
  refine iq (AV.ept [(intA x9.Node_Time), (intA x9.Node_At_X), (intA x9.Node_At_Y), (intA x9.Node_Height), (intA x9.Radius), (intA x9.Band)] 0) rfl ?_
  refine iq (intA x9.Node_Time) rfl ?_
  refine imp ex_i64_b ?_
  refine iq (intA (if x9.Node_Time > x8.Node_Time then x9.Node_Time else x8.Node_Time)) (by kernel_rfl) ?_
  refine imp ex_i64_b ?_
  refine iq (intA (a0.length : Int)) rfl ?_
  refine imp ex_i64_b ?_
  refine bind_b fun x10 h10 => ?_
  refine iq (AV.ept [(intA x10.Node_Time), (intA x10.Node_At_X), (intA x10.Node_At_Y), (intA x10.Node_Height), (intA x10.Radius), (intA x10.Band)] 0) (idx_lst (E := TTubeNode.E) rfl h10) ?_
  refine iq (AV.ept [(intA x10.Node_Time), (intA x10.Node_At_X), (intA x10.Node_At_Y), (intA x10.Node_Height), (intA x10.Radius), (intA x10.Band)] 0) rfl ?_
  refine iq (AV.ept [(intA x10.Node_Time), (intA x10.Node_At_X), (intA x10.Node_At_Y), (intA x10.Node_Height), (intA x10.Radius), (intA x10.Band)] 0) rfl ?_
  refine iq (intA x10.Node_Time) rfl ?_
  refine imp ex_i64_b ?_
  refine iq (intA (a1.length : Int)) rfl ?_
  refine imp ex_i64_b ?_
  refine bind_b fun x11 h11 => ?_
  refine iq (AV.ept [(intA x11.Node_Time), (intA x11.Node_At_X), (intA x11.Node_At_Y), (intA x11.Node_Height), (intA x11.Radius), (intA x11.Band)] 0) (idx_lst (E := TTubeNode.E) rfl h11) ?_
  refine iq (AV.ept [(intA x11.Node_Time), (intA x11.Node_At_X), (intA x11.Node_At_Y), (intA x11.Node_Height), (intA x11.Radius), (intA x11.Band)] 0) rfl ?_
  refine iq (AV.ept [(intA x11.Node_Time), (intA x11.Node_At_X), (intA x11.Node_At_Y), (intA x11.Node_Height), (intA x11.Radius), (intA x11.Band)] 0) rfl ?_
  refine iq (intA x11.Node_Time) rfl ?_
  refine imp ex_i64_b ?_
  refine iq (intA (if x11.Node_Time < x10.Node_Time then x11.Node_Time else x10.Node_Time)) (by kernel_rfl) ?_
  refine imp ex_i64_b ?_
  exact fun hg => retN rfl (hR _ (Option.some.inj hg).symm) (fzL_cons (fz_sc _ _) (fzL_cons (fz_sc _ _) fzL_nil))
theorem sg64 {n : Nat} {a0 : List TTubeNode} {a1 : List TTubeNode} {t : ρ64} (h : g64 n a0 a1 = some t) : Says pg KK.gl 64 [(lstA TTubeNode.E a0), (lstA TTubeNode.E a1)] ((AV.tup [(intA t.1), (intA t.2)])) :=
  says_of_own (by first | rfl | simp [cleans, clean, encs_clean, En.cln]) (by first | rfl | simp [cleans, clean, encs_clean, En.cln]) (F64_own (lstA TTubeNode.E a0) (lstA TTubeNode.E a1) _ (g64_ok n a0 a1 (Ans ((AV.tup [(intA t.1), (intA t.2)]))) (fun r e u m h => by rw [e]; exact h) h))
/- skyway/tube.ends -/
theorem g52_ok (n : Nat) (a0 : List TTubeNode) {t : ρ52} (R : AV → Mem → Prop) (hR : ∀ r : ρ52, t = r → ∀ u m, Ans ((AV.tup [(intA r.1), (intA r.2)])) u m → R u m) : g52 n a0 = some t → F52 (lstA TTubeNode.E a0) R := by
  unfold g52 F52
  refine bind_b fun x14 h14 => ?_
  refine iq (AV.ept [(intA x14.Node_Time), (intA x14.Node_At_X), (intA x14.Node_At_Y), (intA x14.Node_Height), (intA x14.Radius), (intA x14.Band)] 0) (idx_lst (E := TTubeNode.E) rfl h14) ?_
  refine iq (AV.ept [(intA x14.Node_Time), (intA x14.Node_At_X), (intA x14.Node_At_Y), (intA x14.Node_Height), (intA x14.Radius), (intA x14.Band)] 0) rfl ?_
  refine iq (AV.ept [(intA x14.Node_Time), (intA x14.Node_At_X), (intA x14.Node_At_Y), (intA x14.Node_Height), (intA x14.Radius), (intA x14.Band)] 0) rfl ?_
  refine iq (intA x14.Node_Time) rfl ?_
  refine imp ex_i64_b ?_
  refine iq (intA (a0.length : Int)) rfl ?_
  refine imp ex_i64_b ?_
  refine bind_b fun x15 h15 => ?_
  refine iq (AV.ept [(intA x15.Node_Time), (intA x15.Node_At_X), (intA x15.Node_At_Y), (intA x15.Node_Height), (intA x15.Radius), (intA x15.Band)] 0) (idx_lst (E := TTubeNode.E) rfl h15) ?_
  refine iq (AV.ept [(intA x15.Node_Time), (intA x15.Node_At_X), (intA x15.Node_At_Y), (intA x15.Node_Height), (intA x15.Radius), (intA x15.Band)] 0) rfl ?_
  refine iq (AV.ept [(intA x15.Node_Time), (intA x15.Node_At_X), (intA x15.Node_At_Y), (intA x15.Node_Height), (intA x15.Radius), (intA x15.Band)] 0) rfl ?_
  refine iq (intA x15.Node_Time) rfl ?_
  refine imp ex_i64_b ?_
  exact fun hg => retN rfl (hR _ (Option.some.inj hg).symm) (fzL_cons (fz_sc _ _) (fzL_cons (fz_sc _ _) fzL_nil))
theorem sg52 {n : Nat} {a0 : List TTubeNode} {t : ρ52} (h : g52 n a0 = some t) : Says pg KK.gl 52 [(lstA TTubeNode.E a0)] ((AV.tup [(intA t.1), (intA t.2)])) :=
  says_of_own (by first | rfl | simp [cleans, clean, encs_clean, En.cln]) (by first | rfl | simp [cleans, clean, encs_clean, En.cln]) (F52_own (lstA TTubeNode.E a0) _ (g52_ok n a0 (Ans ((AV.tup [(intA t.1), (intA t.2)]))) (fun r e u m h => by rw [e]; exact h) h))
/- skyway/tube.at$1 -/
theorem g69_ok (n : Nat) (a0 : TTubeNode) (a1 : Int) {t : ρ69} (R : AV → Mem → Prop) (hR : ∀ r : ρ69, t = r → ∀ u m, Ans ((intA r)) u m → R u m) : g69 n a0 a1 = some t → F69 a0.Node_Time a0.Node_At_X a0.Node_At_Y a0.Node_Height a0.Radius a0.Band a1 R := by
  unfold g69 F69
  exact fun hg => ret1 (hR _ (Option.some.inj hg).symm) (fz_sc _ _)
theorem sg69 {n : Nat} {a0 : TTubeNode} {a1 : Int} {t : ρ69} (h : g69 n a0 a1 = some t) : Says pg KK.gl 69 [(AV.agg [(intA a0.Node_Time), (intA a0.Node_At_X), (intA a0.Node_At_Y), (intA a0.Node_Height), (intA a0.Radius), (intA a0.Band)]), (intA a1)] ((intA t)) :=
  says_of_own (by first | rfl | simp [cleans, clean, encs_clean, En.cln]) (by first | rfl | simp [cleans, clean, encs_clean, En.cln]) (F69_own a0.Node_Time a0.Node_At_X a0.Node_At_Y a0.Node_Height a0.Radius a0.Band a1 _ (g69_ok n a0 a1 (Ans ((intA t))) (fun r e u m h => by rw [e]; exact h) h))
/- slices.BinarySearchFunc[skyway/api.Tube,skyway/api.TubeNode,int] -/
theorem B68_0_ok (n : Nat) (a0 : List TTubeNode) (a1 : Int) (c6 : Int) (c7 : Bool) (c8 : Int) (v9 : Int) (v10 : Int) {t : (Int × Int) ⊕ ρ68} (R : AV → Mem → Prop) (N0 : St → Prop) (hR : ∀ r : ρ68, t = (.inr r) → ∀ u m, Ans ((AV.tup [(intA r.1), (boolA r.2)])) u m → R u m) (hN0 : ∀ y : Int × Int, t = (.inl y) → ∀ s' : St, Weak KK 49 0 s' (h68_0 (lstA TTubeNode.E a0) a1 (AV.fn 69 []) c6 c7 c8 y.1 y.2 []) → N0 s') : S68_0 n a0 a1 c6 c7 c8 v9 v10 = some t → B68_0 (lstA TTubeNode.E a0) a1 (AV.fn 69 []) c6 c7 c8 v9 v10 [] R N0 := by
  unfold S68_0 B68_0
  refine cond_b (fun _ => ?_) (fun _ => ?_)
  · refine iq (AV.sc (.int .u64 (IntKind.wrap .u64 (IntKind.wrap .i64 (v9 + v10))))) (by kernel_rfl) ?_
    refine imp ex_u64_b ?_
    refine imp (opP_of (show _ = some ((AV.sc (.int .u64 (Int.fdiv (IntKind.wrap .u64 (IntKind.wrap .i64 (v9 + v10))) 2))), []) from opA_shr1)) ?_
    refine imp ex_u64_b ?_
    refine iq (intA (IntKind.wrap .i64 (Int.fdiv (IntKind.wrap .u64 (IntKind.wrap .i64 (v9 + v10))) 2))) (by kernel_rfl) ?_
    refine imp ex_i64_b ?_
    refine bind_b fun x17 h17 => ?_
    refine iq (AV.ept [(intA x17.Node_Time), (intA x17.Node_At_X), (intA x17.Node_At_Y), (intA x17.Node_Height), (intA x17.Radius), (intA x17.Band)] 0) (idx_lst (E := TTubeNode.E) rfl h17) ?_
    refine iq (AV.agg [(intA x17.Node_Time), (intA x17.Node_At_X), (intA x17.Node_At_Y), (intA x17.Node_Height), (intA x17.Radius), (intA x17.Band)]) rfl ?_
    refine imp exA6_b ?_
    iterate 6 refine imp ex_i64_b ?_
    refine bind_b fun x18 h18 => ?_
    refine imp fnArgs_b ?_
    refine imp (cond_tt rfl) ?_
    refine imp (callQ_says (sg69 h18)) ?_
    refine imp ex_i64_b ?_
    refine cond_b (fun _ => ?_) (fun _ => ?_)
    · exact fun hg => hN0 _ (Option.some.inj hg).symm _ (weak_mem [] rfl rfl rfl (okW_cons (ent_lst (E := TTubeNode.E) _ false) (okW_cons (.inl (leV_refl _)) (okW_cons (.inl (leV_refl _)) (okW_cons (.inl (leV_refl _)) (okW_cons (.inl (leV_refl _)) (okW_cons (.inl (leV_refl _)) (okW_cons (.inl (leV_refl _)) (okW_cons (.inl (leV_refl _)) okW_nil)))))))) okB_nil')
    · exact fun hg => hN0 _ (Option.some.inj hg).symm _ (weak_mem [] rfl rfl rfl (okW_cons (ent_lst (E := TTubeNode.E) _ false) (okW_cons (.inl (leV_refl _)) (okW_cons (.inl (leV_refl _)) (okW_cons (.inl (leV_refl _)) (okW_cons (.inl (leV_refl _)) (okW_cons (.inl (leV_refl _)) (okW_cons (.inl (leV_refl _)) (okW_cons (.inl (leV_refl _)) okW_nil)))))))) okB_nil')
  · refine cond_b (fun _ => ?_) (fun _ => ?_)
    · refine bind_b fun x19 h19 => ?_
      refine iq (AV.ept [(intA x19.Node_Time), (intA x19.Node_At_X), (intA x19.Node_At_Y), (intA x19.Node_Height), (intA x19.Radius), (intA x19.Band)] 0) (idx_lst (E := TTubeNode.E) rfl h19) ?_
      refine iq (AV.agg [(intA x19.Node_Time), (intA x19.Node_At_X), (intA x19.Node_At_Y), (intA x19.Node_Height), (intA x19.Radius), (intA x19.Band)]) rfl ?_
      refine imp exA6_b ?_
      iterate 6 refine imp ex_i64_b ?_
      refine bind_b fun x20 h20 => ?_
      refine imp fnArgs_b ?_
      refine imp (cond_tt rfl) ?_
      refine imp (callQ_says (sg69 h20)) ?_
      refine imp ex_i64_b ?_
      exact fun hg => retN rfl (hR _ (Option.some.inj hg).symm) (fzL_cons (fz_sc _ _) (fzL_cons (fz_sc _ _) fzL_nil))
    · exact fun hg => retN rfl (hR _ (Option.some.inj hg).symm) (fzL_cons (fz_sc _ _) (fzL_cons (fz_sc _ _) fzL_nil))
theorem L68_0_ok (n : Nat) (a0 : List TTubeNode) (a1 : Int) (c6 : Int) (c7 : Bool) (c8 : Int) {t : ρ68} (R : AV → Mem → Prop) (hR : ∀ r : ρ68, t = r → ∀ u m, Ans ((AV.tup [(intA r.1), (boolA r.2)])) u m → R u m) (k : Nat) (x : Int × Int) (hx : iterO (fun y : Int × Int => S68_0 n a0 a1 c6 c7 c8 y.1 y.2) k x = some t) {s : St} (hw : Weak KK 49 0 s (h68_0 (lstA TTubeNode.E a0) a1 (AV.fn 69 []) c6 c7 c8 x.1 x.2 [])) : Tri pg KK 49 0 (.loop c68_0) s (q68_0 R ) :=
  L68_0 R  (σ := Nat × (Int × Int)) (fun z => iterO (fun y : Int × Int => S68_0 n a0 a1 c6 c7 c8 y.1 y.2) z.1 z.2 = some t) (fun z => (lstA TTubeNode.E a0)) (fun z => a1) (fun z => (AV.fn 69 [])) (fun z => c6) (fun z => c7) (fun z => c8) (fun z => z.2.1) (fun z => z.2.2) (fun z => []) (fun z => z.1) (by
    rintro ⟨k, y⟩ h
    cases k with
    | zero => exact (iterO_zero h).elim
    | succ k =>
      obtain ⟨u, h1, h2, h3⟩ := iterO_elim h
      exact B68_0_ok n a0 a1 c6 c7 c8 y.1 y.2 R  _ (fun r e => hR r (h3 _ e).symm)  (fun y' e s' hw => ⟨(k, y'), h2 _ e, Nat.lt_succ_self k, hw⟩) h1) (k, x) hx hw
theorem g68_ok (n : Nat) (a0 : List TTubeNode) (a1 : Int) {t : ρ68} (R : AV → Mem → Prop) (hR : ∀ r : ρ68, t = r → ∀ u m, Ans ((AV.tup [(intA r.1), (boolA r.2)])) u m → R u m) : g68 n a0 a1 = some t → F68 (lstA TTubeNode.E a0) a1 (AV.fn 69 []) R := by
  unfold g68 F68
  refine iq (intA (a0.length : Int)) rfl ?_
  refine imp ex_i64_b ?_
  exact fun hg => L68_0_ok n a0 a1 (0) false (a0.length : Int) R  hR n _ hg (weak_mem [] rfl rfl rfl (okW_cons (ent_lst (E := TTubeNode.E) _ false) (okW_cons (.inl (leV_refl _)) (okW_cons (.inl (leV_refl _)) (okW_cons (.inl (leV_refl _)) (okW_cons (.inl (leV_refl _)) (okW_cons (.inl (leV_refl _)) (okW_cons (.inl (leV_refl _)) (okW_cons (.inl (leV_refl _)) okW_nil)))))))) okB_nil')
theorem sg68 {n : Nat} {a0 : List TTubeNode} {a1 : Int} {t : ρ68} (h : g68 n a0 a1 = some t) : Says pg KK.gl 68 [(lstA TTubeNode.E a0), (intA a1), (AV.fn 69 [])] ((AV.tup [(intA t.1), (boolA t.2)])) :=
  says_of_own (by first | rfl | simp [cleans, clean, encs_clean, En.cln]) (by first | rfl | simp [cleans, clean, encs_clean, En.cln]) (F68_own (lstA TTubeNode.E a0) a1 (AV.fn 69 []) _ (g68_ok n a0 a1 (Ans ((AV.tup [(intA t.1), (boolA t.2)]))) (fun r e u m h => by rw [e]; exact h) h))
/- skyway/num.DivDown -/
theorem g71_ok (n : Nat) (a0 : Int) (a1 : Int) {t : ρ71} (R : AV → Mem → Prop) (hR : ∀ r : ρ71, t = r → ∀ u m, Ans ((AV.tup [(intA r.1), (intA r.2)])) u m → R u m) : g71 n a0 a1 = some t → F71 a0 a1 R := by
  unfold g71 F71
  refine cond_b (fun _ => ?_) (fun _ => ?_)
  · exact fun hg => retN rfl (hR _ (Option.some.inj hg).symm) (fzL_cons (fz_sc _ _) (fzL_cons (fz_sc _ _) fzL_nil))
  · refine cond_b (fun _ => ?_) (fun _ => ?_)
    · refine cond_b (fun _ => ?_) (fun _ => ?_)
      · exact fun hg => retN rfl (hR _ (Option.some.inj hg).symm) (fzL_cons (fz_sc _ _) (fzL_cons (fz_sc _ _) fzL_nil))
      · refine bind_b fun x29 h29 => ?_
        refine iq (intA (IntKind.wrap .i64 x29)) (opA_quo h29) ?_
        refine imp ex_i64_b ?_
        refine bind_b fun x30 h30 => ?_
        refine iq (intA x30) (opA_rem h30) ?_
        refine imp ex_i64_b ?_
        refine cond_b (fun _ => ?_) (fun _ => ?_)
        · refine iq (boolA (!((decide (a0 < (0))) == (decide (a1 < (0)))))) (by kernel_rfl) ?_
          refine imp exB_b ?_
          refine cond_b (fun _ => ?_) (fun _ => ?_)
          · exact fun hg => retN rfl (hR _ (Option.some.inj hg).symm) (fzL_cons (fz_sc _ _) (fzL_cons (fz_sc _ _) fzL_nil))
          · exact fun hg => retN rfl (hR _ (Option.some.inj hg).symm) (fzL_cons (fz_sc _ _) (fzL_cons (fz_sc _ _) fzL_nil))
        · exact fun hg => retN rfl (hR _ (Option.some.inj hg).symm) (fzL_cons (fz_sc _ _) (fzL_cons (fz_sc _ _) fzL_nil))
    · refine bind_b fun x31 h31 => ?_
      refine iq (intA (IntKind.wrap .i64 x31)) (opA_quo h31) ?_
      refine imp ex_i64_b ?_
      refine bind_b fun x32 h32 => ?_
      refine iq (intA x32) (opA_rem h32) ?_
      refine imp ex_i64_b ?_
      refine cond_b (fun _ => ?_) (fun _ => ?_)
      · refine iq (boolA (!((decide (a0 < (0))) == (decide (a1 < (0)))))) (by kernel_rfl) ?_
        refine imp exB_b ?_
        refine cond_b (fun _ => ?_) (fun _ => ?_)
        · exact fun hg => retN rfl (hR _ (Option.some.inj hg).symm) (fzL_cons (fz_sc _ _) (fzL_cons (fz_sc _ _) fzL_nil))
        · exact fun hg => retN rfl (hR _ (Option.some.inj hg).symm) (fzL_cons (fz_sc _ _) (fzL_cons (fz_sc _ _) fzL_nil))
      · exact fun hg => retN rfl (hR _ (Option.some.inj hg).symm) (fzL_cons (fz_sc _ _) (fzL_cons (fz_sc _ _) fzL_nil))
theorem sg71 {n : Nat} {a0 : Int} {a1 : Int} {t : ρ71} (h : g71 n a0 a1 = some t) : Says pg KK.gl 71 [(intA a0), (intA a1)] ((AV.tup [(intA t.1), (intA t.2)])) :=
  says_of_own (by first | rfl | simp [cleans, clean, encs_clean, En.cln]) (by first | rfl | simp [cleans, clean, encs_clean, En.cln]) (F71_own a0 a1 _ (g71_ok n a0 a1 (Ans ((AV.tup [(intA t.1), (intA t.2)]))) (fun r e u m h => by rw [e]; exact h) h))
/- skyway/plane.Toward -/
theorem g70_ok (n : Nat) (a0 : TP) (a1 : TP) (a2 : Int) (a3 : Int) {t : ρ70} (R : AV → Mem → Prop) (hR : ∀ r : ρ70, t = r → ∀ u m, Ans ((AV.tup [(AV.agg (TP.E.enc r.1)), (intA r.2)])) u m → R u m) : g70 n a0 a1 a2 a3 = some t → F70 a0.X a0.Y a1.X a1.Y a2 a3 R := by
  unfold g70 F70
  refine cond_b (fun _ => ?_) (fun _ => ?_)
  · refine iq (AV.agg [(intA (0)), (intA (0))]) rfl ?_
    refine imp (storeW_cells (sz := 2) (by kernel_rfl) (by kernel_rfl) rfl rfl (cs := [(intA (0)), (intA (0))]) (cs' := [(intA (0)), (intA (0))]) (ty := 45) (by first | rfl | (simp (disch := first | decide | assumption) only [mpushs_nil, mpushs_cons, mget_hd, mget_tl, mget_appW_o, mget_appW_n, mget_appW_e])) rfl rfl) ?_
    exact fun hg => retN rfl (hR _ (Option.some.inj hg).symm) (fzL_cons (fz_el (E := TP.E) _ (⟨(0), (0)⟩ : TP)) (fzL_cons (fz_sc _ _) fzL_nil))
  · refine cond_b (fun _ => ?_) (fun _ => ?_)
    · refine iq (AV.agg [(intA (0)), (intA (0))]) rfl ?_
      refine imp (storeW_cells (sz := 2) (by kernel_rfl) (by kernel_rfl) rfl rfl (cs := [(intA (0)), (intA (0))]) (cs' := [(intA (0)), (intA (0))]) (ty := 45) (by first | rfl | (simp (disch := first | decide | assumption) only [mpushs_nil, mpushs_cons, mget_hd, mget_tl, mget_appW_o, mget_appW_n, mget_appW_e])) rfl rfl) ?_
      exact fun hg => retN rfl (hR _ (Option.some.inj hg).symm) (fzL_cons (fz_el (E := TP.E) _ (⟨(0), (0)⟩ : TP)) (fzL_cons (fz_sc _ _) fzL_nil))
    · refine cond_b (fun _ => ?_) (fun _ => ?_)
      · refine iq (AV.agg [(intA (0)), (intA (0))]) rfl ?_
        refine imp (storeW_cells (sz := 2) (by kernel_rfl) (by kernel_rfl) rfl rfl (cs := [(intA (0)), (intA (0))]) (cs' := [(intA (0)), (intA (0))]) (ty := 45) (by first | rfl | (simp (disch := first | decide | assumption) only [mpushs_nil, mpushs_cons, mget_hd, mget_tl, mget_appW_o, mget_appW_n, mget_appW_e])) rfl rfl) ?_
        exact fun hg => retN rfl (hR _ (Option.some.inj hg).symm) (fzL_cons (fz_el (E := TP.E) _ (⟨(0), (0)⟩ : TP)) (fzL_cons (fz_sc _ _) fzL_nil))
      · refine cond_b (fun _ => ?_) (fun _ => ?_)
        · refine iq (AV.agg [(intA (0)), (intA (0))]) rfl ?_
          refine imp (storeW_cells (sz := 2) (by kernel_rfl) (by kernel_rfl) rfl rfl (cs := [(intA (0)), (intA (0))]) (cs' := [(intA (0)), (intA (0))]) (ty := 45) (by first | rfl | (simp (disch := first | decide | assumption) only [mpushs_nil, mpushs_cons, mget_hd, mget_tl, mget_appW_o, mget_appW_n, mget_appW_e])) rfl rfl) ?_
          exact fun hg => retN rfl (hR _ (Option.some.inj hg).symm) (fzL_cons (fz_el (E := TP.E) _ (⟨(0), (0)⟩ : TP)) (fzL_cons (fz_sc _ _) fzL_nil))
        · refine bind_b fun x25 h25 => ?_
          refine imp (callQ_says (sg38 h25)) ?_
          refine imp ex_i64_b ?_
          refine cond_b (fun _ => ?_) (fun _ => ?_)
          · refine iq (AV.agg [(intA (0)), (intA (0))]) rfl ?_
            refine bind_b fun x26 h26 => ?_
            refine imp (callQ_says (sg38 h26)) ?_
            refine imp ex_i64_b ?_
            refine imp (storeW_cells (sz := 2) (by kernel_rfl) (by kernel_rfl) rfl rfl (cs := [(intA (0)), (intA (0))]) (cs' := [(intA (0)), (intA (0))]) (ty := 45) (by first | rfl | (simp (disch := first | decide | assumption) only [mpushs_nil, mpushs_cons, mget_hd, mget_tl, mget_appW_o, mget_appW_n, mget_appW_e])) rfl rfl) ?_
            exact fun hg => retN rfl (hR _ (Option.some.inj hg).symm) (fzL_cons (fz_el (E := TP.E) _ (⟨(0), (0)⟩ : TP)) (fzL_cons (fz_sc _ _) fzL_nil))
          · refine bind_b fun x27 h27 => ?_
            refine imp (callQ_says (sg38 h27)) ?_
            refine imp ex_i64_b ?_
            refine cond_b (fun _ => ?_) (fun _ => ?_)
            · refine iq (AV.agg [(intA (0)), (intA (0))]) rfl ?_
              refine bind_b fun x28 h28 => ?_
              refine imp (callQ_says (sg38 h28)) ?_
              refine imp ex_i64_b ?_
              refine imp (storeW_cells (sz := 2) (by kernel_rfl) (by kernel_rfl) rfl rfl (cs := [(intA (0)), (intA (0))]) (cs' := [(intA (0)), (intA (0))]) (ty := 45) (by first | rfl | (simp (disch := first | decide | assumption) only [mpushs_nil, mpushs_cons, mget_hd, mget_tl, mget_appW_o, mget_appW_n, mget_appW_e])) rfl rfl) ?_
              exact fun hg => retN rfl (hR _ (Option.some.inj hg).symm) (fzL_cons (fz_el (E := TP.E) _ (⟨(0), (0)⟩ : TP)) (fzL_cons (fz_sc _ _) fzL_nil))
            · refine bind_b fun x33 h33 => ?_
              refine imp (callQ_says (sg71 h33)) ?_
              refine imp exT2_b ?_
              iterate 2 refine imp ex_i64_b ?_
              refine bind_b fun x34 h34 => ?_
              refine imp (callQ_says (sg71 h34)) ?_
              refine imp exT2_b ?_
              iterate 2 refine imp ex_i64_b ?_
              refine iq (AV.agg [(intA (IntKind.wrap .i64 (a0.X + x33.1))), (intA (IntKind.wrap .i64 (a0.Y + x34.1)))]) rfl ?_
              refine imp (storeW_cells (sz := 2) (by kernel_rfl) (by kernel_rfl) rfl rfl (cs := [(intA (0)), (intA (0))]) (cs' := [(intA (IntKind.wrap .i64 (a0.X + x33.1))), (intA (IntKind.wrap .i64 (a0.Y + x34.1)))]) (ty := 45) (by first | rfl | (simp (disch := first | decide | assumption) only [mpushs_nil, mpushs_cons, mget_hd, mget_tl, mget_appW_o, mget_appW_n, mget_appW_e])) rfl rfl) ?_
              exact fun hg => retN rfl (hR _ (Option.some.inj hg).symm) (fzL_cons (fz_el (E := TP.E) _ (⟨(IntKind.wrap .i64 (a0.X + x33.1)), (IntKind.wrap .i64 (a0.Y + x34.1))⟩ : TP)) (fzL_cons (fz_sc _ _) fzL_nil))
theorem sg70 {n : Nat} {a0 : TP} {a1 : TP} {a2 : Int} {a3 : Int} {t : ρ70} (h : g70 n a0 a1 a2 a3 = some t) : Says pg KK.gl 70 [(AV.agg [(intA a0.X), (intA a0.Y)]), (AV.agg [(intA a1.X), (intA a1.Y)]), (intA a2), (intA a3)] ((AV.tup [(AV.agg (TP.E.enc t.1)), (intA t.2)])) :=
  says_of_own (by first | rfl | simp [cleans, clean, encs_clean, En.cln]) (by first | rfl | simp [cleans, clean, encs_clean, En.cln]) (F70_own a0.X a0.Y a1.X a1.Y a2 a3 _ (g70_ok n a0 a1 a2 a3 (Ans ((AV.tup [(AV.agg (TP.E.enc t.1)), (intA t.2)]))) (fun r e u m h => by rw [e]; exact h) h))
/- skyway/num.DivUp -/
theorem g72_ok (n : Nat) (a0 : Int) (a1 : Int) {t : ρ72} (R : AV → Mem → Prop) (hR : ∀ r : ρ72, t = r → ∀ u m, Ans ((AV.tup [(intA r.1), (intA r.2)])) u m → R u m) : g72 n a0 a1 = some t → F72 a0 a1 R := by
  unfold g72 F72
  refine bind_b fun x37 h37 => ?_
  refine imp (callQ_says (sg71 h37)) ?_
  refine imp exT2_b ?_
  iterate 2 refine imp ex_i64_b ?_
  refine cond_b (fun _ => ?_) (fun _ => ?_)
  · refine bind_b fun x38 h38 => ?_
    refine iq (intA x38) (opA_rem h38) ?_
    refine imp ex_i64_b ?_
    refine cond_b (fun _ => ?_) (fun _ => ?_)
    · exact fun hg => retN rfl (hR _ (Option.some.inj hg).symm) (fzL_cons (fz_sc _ _) (fzL_cons (fz_sc _ _) fzL_nil))
    · exact fun hg => retN rfl (hR _ (Option.some.inj hg).symm) (fzL_cons (fz_sc _ _) (fzL_cons (fz_sc _ _) fzL_nil))
  · exact fun hg => retN rfl (hR _ (Option.some.inj hg).symm) (fzL_cons (fz_sc _ _) (fzL_cons (fz_sc _ _) fzL_nil))
theorem sg72 {n : Nat} {a0 : Int} {a1 : Int} {t : ρ72} (h : g72 n a0 a1 = some t) : Says pg KK.gl 72 [(intA a0), (intA a1)] ((AV.tup [(intA t.1), (intA t.2)])) :=
  says_of_own (by first | rfl | simp [cleans, clean, encs_clean, En.cln]) (by first | rfl | simp [cleans, clean, encs_clean, En.cln]) (F72_own a0 a1 _ (g72_ok n a0 a1 (Ans ((AV.tup [(intA t.1), (intA t.2)]))) (fun r e u m h => by rw [e]; exact h) h))
/- skyway/tube.at -/
theorem g53_ok (n : Nat) (a0 : List TTubeNode) (a1 : Int) {t : ρ53} (R : AV → Mem → Prop) (hR : ∀ r : ρ53, t = r → ∀ u m, Ans ((AV.agg (TTubeNode.E.enc r))) u m → R u m) : g53 n a0 a1 = some t → F53 (lstA TTubeNode.E a0) a1 R := by
  unfold g53 F53
  refine bind_b fun x21 h21 => ?_
  refine imp (callW_says (sg68 h21)) ?_
  refine imp exT2_b ?_
  refine imp ex_i64_b ?_
  refine imp exB_b ?_
  refine cond_b (fun _ => ?_) (fun _ => ?_)
  · refine bind_b fun x22 h22 => ?_
    refine iq (AV.ept [(intA x22.Node_Time), (intA x22.Node_At_X), (intA x22.Node_At_Y), (intA x22.Node_Height), (intA x22.Radius), (intA x22.Band)] 0) (idx_lst (E := TTubeNode.E) rfl h22) ?_
    refine iq (AV.agg [(intA x22.Node_Time), (intA x22.Node_At_X), (intA x22.Node_At_Y), (intA x22.Node_Height), (intA x22.Radius), (intA x22.Band)]) rfl ?_
    refine imp exA6_b ?_
    iterate 6 refine imp ex_i64_b ?_
    refine imp (storeW_cells (sz := 6) (by kernel_rfl) (by kernel_rfl) rfl rfl (cs := [(intA (0)), (intA (0)), (intA (0)), (intA (0)), (intA (0)), (intA (0))]) (cs' := [(intA x22.Node_Time), (intA x22.Node_At_X), (intA x22.Node_At_Y), (intA x22.Node_Height), (intA x22.Radius), (intA x22.Band)]) (ty := 50) (by first | rfl | (simp (disch := first | decide | assumption) only [mpushs_nil, mpushs_cons, mget_hd, mget_tl, mget_appW_o, mget_appW_n, mget_appW_e])) rfl rfl) ?_
    exact fun hg => ret1 (hR _ (Option.some.inj hg).symm) (fz_el (E := TTubeNode.E) _ x22)
  · refine bind_b fun x23 h23 => ?_
    refine imp (opM_of (show _ = some ((AV.ept [(intA x23.Node_Time), (intA x23.Node_At_X), (intA x23.Node_At_Y), (intA x23.Node_Height), (intA x23.Radius), (intA x23.Band)] 0), []) from (idx_lst (E := TTubeNode.E) rfl h23))) ?_
    refine imp (opM_of (show _ = some ((AV.agg [(intA x23.Node_Time), (intA x23.Node_At_X), (intA x23.Node_At_Y), (intA x23.Node_Height), (intA x23.Radius), (intA x23.Band)]), []) from rfl)) ?_
    refine imp exA6_b ?_
    iterate 6 refine imp ex_i64_b ?_
    refine bind_b fun x24 h24 => ?_
    refine imp (opM_of (show _ = some ((AV.ept [(intA x24.Node_Time), (intA x24.Node_At_X), (intA x24.Node_At_Y), (intA x24.Node_Height), (intA x24.Radius), (intA x24.Band)] 0), []) from (idx_lst (E := TTubeNode.E) rfl h24))) ?_
    refine imp (opM_of (show _ = some ((AV.agg [(intA x24.Node_Time), (intA x24.Node_At_X), (intA x24.Node_At_Y), (intA x24.Node_Height), (intA x24.Radius), (intA x24.Band)]), []) from rfl)) ?_
    refine imp exA6_b ?_
    iterate 6 refine imp ex_i64_b ?_
    refine imp (storeW_cells (sz := 6) (by kernel_rfl) (by kernel_rfl) rfl rfl (cs := [(intA (0)), (intA (0)), (intA (0)), (intA (0)), (intA (0)), (intA (0))]) (cs' := [(intA x23.Node_Time), (intA x23.Node_At_X), (intA x23.Node_At_Y), (intA x23.Node_Height), (intA x23.Radius), (intA x23.Band)]) (ty := 50) (by first | rfl | (rw [look'_mem (by first | rfl | simp [topId_blk] | simp [topId])]; first | rfl | (simp (disch := first | decide | assumption) only [mpushs_nil, mpushs_cons, mget_hd, mget_tl, mget_appW_o, mget_appW_n, mget_appW_e]))) rfl rfl) ?_
    refine imp (storeW_cells (sz := 6) (by kernel_rfl) (by kernel_rfl) rfl rfl (cs := [(intA (0)), (intA (0)), (intA (0)), (intA (0)), (intA (0)), (intA (0))]) (cs' := [(intA x24.Node_Time), (intA x24.Node_At_X), (intA x24.Node_At_Y), (intA x24.Node_Height), (intA x24.Radius), (intA x24.Band)]) (ty := 50) (by first | rfl | (rw [look'_mem (by first | rfl | simp [topId_blk] | simp [topId])]; first | rfl | (simp (disch := first | decide | assumption) only [mpushs_nil, mpushs_cons, mget_hd, mget_tl, mget_appW_o, mget_appW_n, mget_appW_e]))) rfl rfl) ?_
    refine imp (chk_of (by kernel_rfl)) ?_
    refine iq (intA x23.Node_Time) (ldS_ptr (b := ⟨[(intA x23.Node_Time), (intA x23.Node_At_X), (intA x23.Node_At_Y), (intA x23.Node_Height), (intA x23.Radius), (intA x23.Band)], 50⟩) (by first | rfl | (simp (disch := first | decide | assumption) only [mpushs_nil, mpushs_cons, mget_hd, mget_tl, mget_appW_o, mget_appW_n, mget_appW_e])) rfl) ?_
    refine imp ex_i64_b ?_
    refine iq (intA x24.Node_Time) (ldS_ptr (b := ⟨[(intA x24.Node_Time), (intA x24.Node_At_X), (intA x24.Node_At_Y), (intA x24.Node_Height), (intA x24.Radius), (intA x24.Band)], 50⟩) (by first | rfl | (simp (disch := first | decide | assumption) only [mpushs_nil, mpushs_cons, mget_hd, mget_tl, mget_appW_o, mget_appW_n, mget_appW_e])) rfl) ?_
    refine imp ex_i64_b ?_
    refine iq (intA x23.Node_Time) (ldS_ptr (b := ⟨[(intA x23.Node_Time), (intA x23.Node_At_X), (intA x23.Node_At_Y), (intA x23.Node_Height), (intA x23.Radius), (intA x23.Band)], 50⟩) (by first | rfl | (simp (disch := first | decide | assumption) only [mpushs_nil, mpushs_cons, mget_hd, mget_tl, mget_appW_o, mget_appW_n, mget_appW_e])) rfl) ?_
    refine imp ex_i64_b ?_
    refine iq (AV.agg [(intA x23.Node_At_X), (intA x23.Node_At_Y)]) (ldA_ptr (b := ⟨[(intA x23.Node_Time), (intA x23.Node_At_X), (intA x23.Node_At_Y), (intA x23.Node_Height), (intA x23.Radius), (intA x23.Band)], 50⟩) (by first | rfl | (simp (disch := first | decide | assumption) only [mpushs_nil, mpushs_cons, mget_hd, mget_tl, mget_appW_o, mget_appW_n, mget_appW_e])) rfl) ?_
    refine imp exA2_b ?_
    iterate 2 refine imp ex_i64_b ?_
    refine iq (AV.agg [(intA x24.Node_At_X), (intA x24.Node_At_Y)]) (ldA_ptr (b := ⟨[(intA x24.Node_Time), (intA x24.Node_At_X), (intA x24.Node_At_Y), (intA x24.Node_Height), (intA x24.Radius), (intA x24.Band)], 50⟩) (by first | rfl | (simp (disch := first | decide | assumption) only [mpushs_nil, mpushs_cons, mget_hd, mget_tl, mget_appW_o, mget_appW_n, mget_appW_e])) rfl) ?_
    refine imp exA2_b ?_
    iterate 2 refine imp ex_i64_b ?_
    refine bind_b fun x35 h35 => ?_
    refine imp (callQ_says (sg70 h35)) ?_
    refine imp exT2_b ?_
    refine imp exA2_b ?_
    iterate 3 refine imp ex_i64_b ?_
    refine iq (intA x24.Node_Height) (ldS_ptr (b := ⟨[(intA x24.Node_Time), (intA x24.Node_At_X), (intA x24.Node_At_Y), (intA x24.Node_Height), (intA x24.Radius), (intA x24.Band)], 50⟩) (by first | rfl | (simp (disch := first | decide | assumption) only [mpushs_nil, mpushs_cons, mget_hd, mget_tl, mget_appW_o, mget_appW_n, mget_appW_e])) rfl) ?_
    refine imp ex_i64_b ?_
    refine iq (intA x23.Node_Height) (ldS_ptr (b := ⟨[(intA x23.Node_Time), (intA x23.Node_At_X), (intA x23.Node_At_Y), (intA x23.Node_Height), (intA x23.Radius), (intA x23.Band)], 50⟩) (by first | rfl | (simp (disch := first | decide | assumption) only [mpushs_nil, mpushs_cons, mget_hd, mget_tl, mget_appW_o, mget_appW_n, mget_appW_e])) rfl) ?_
    refine imp ex_i64_b ?_
    refine bind_b fun x36 h36 => ?_
    refine imp (callQ_says (sg71 h36)) ?_
    refine imp exT2_b ?_
    iterate 2 refine imp ex_i64_b ?_
    refine iq (intA x24.Radius) (ldS_ptr (b := ⟨[(intA x24.Node_Time), (intA x24.Node_At_X), (intA x24.Node_At_Y), (intA x24.Node_Height), (intA x24.Radius), (intA x24.Band)], 50⟩) (by first | rfl | (simp (disch := first | decide | assumption) only [mpushs_nil, mpushs_cons, mget_hd, mget_tl, mget_appW_o, mget_appW_n, mget_appW_e])) rfl) ?_
    refine imp ex_i64_b ?_
    refine iq (intA x23.Radius) (ldS_ptr (b := ⟨[(intA x23.Node_Time), (intA x23.Node_At_X), (intA x23.Node_At_Y), (intA x23.Node_Height), (intA x23.Radius), (intA x23.Band)], 50⟩) (by first | rfl | (simp (disch := first | decide | assumption) only [mpushs_nil, mpushs_cons, mget_hd, mget_tl, mget_appW_o, mget_appW_n, mget_appW_e])) rfl) ?_
    refine imp ex_i64_b ?_
    refine bind_b fun x39 h39 => ?_
    refine imp (callQ_says (sg72 h39)) ?_
    refine imp exT2_b ?_
    iterate 2 refine imp ex_i64_b ?_
    refine iq (intA x24.Band) (ldS_ptr (b := ⟨[(intA x24.Node_Time), (intA x24.Node_At_X), (intA x24.Node_At_Y), (intA x24.Node_Height), (intA x24.Radius), (intA x24.Band)], 50⟩) (by first | rfl | (simp (disch := first | decide | assumption) only [mpushs_nil, mpushs_cons, mget_hd, mget_tl, mget_appW_o, mget_appW_n, mget_appW_e])) rfl) ?_
    refine imp ex_i64_b ?_
    refine iq (intA x23.Band) (ldS_ptr (b := ⟨[(intA x23.Node_Time), (intA x23.Node_At_X), (intA x23.Node_At_Y), (intA x23.Node_Height), (intA x23.Radius), (intA x23.Band)], 50⟩) (by first | rfl | (simp (disch := first | decide | assumption) only [mpushs_nil, mpushs_cons, mget_hd, mget_tl, mget_appW_o, mget_appW_n, mget_appW_e])) rfl) ?_
    refine imp ex_i64_b ?_
    refine bind_b fun x40 h40 => ?_
    refine imp (callQ_says (sg72 h40)) ?_
    refine imp exT2_b ?_
    iterate 2 refine imp ex_i64_b ?_
    refine iq (intA x23.Node_Height) (ldS_ptr (b := ⟨[(intA x23.Node_Time), (intA x23.Node_At_X), (intA x23.Node_At_Y), (intA x23.Node_Height), (intA x23.Radius), (intA x23.Band)], 50⟩) (by first | rfl | (simp (disch := first | decide | assumption) only [mpushs_nil, mpushs_cons, mget_hd, mget_tl, mget_appW_o, mget_appW_n, mget_appW_e])) rfl) ?_
    refine imp ex_i64_b ?_
    refine iq (AV.agg [(intA a1), (intA x35.1.X), (intA x35.1.Y), (intA (IntKind.wrap .i64 (x23.Node_Height + x36.1)))]) rfl ?_
    refine iq (intA x23.Radius) (ldS_ptr (b := ⟨[(intA x23.Node_Time), (intA x23.Node_At_X), (intA x23.Node_At_Y), (intA x23.Node_Height), (intA x23.Radius), (intA x23.Band)], 50⟩) (by first | rfl | (simp (disch := first | decide | assumption) only [mpushs_nil, mpushs_cons, mget_hd, mget_tl, mget_appW_o, mget_appW_n, mget_appW_e])) rfl) ?_
    refine imp ex_i64_b ?_
    refine iq (intA x23.Band) (ldS_ptr (b := ⟨[(intA x23.Node_Time), (intA x23.Node_At_X), (intA x23.Node_At_Y), (intA x23.Node_Height), (intA x23.Radius), (intA x23.Band)], 50⟩) (by first | rfl | (simp (disch := first | decide | assumption) only [mpushs_nil, mpushs_cons, mget_hd, mget_tl, mget_appW_o, mget_appW_n, mget_appW_e])) rfl) ?_
    refine imp ex_i64_b ?_
    refine iq (AV.agg [(intA a1), (intA x35.1.X), (intA x35.1.Y), (intA (IntKind.wrap .i64 (x23.Node_Height + x36.1))), (intA (IntKind.wrap .i64 (x23.Radius + x39.1))), (intA (IntKind.wrap .i64 (x23.Band + x40.1)))]) rfl ?_
    refine imp (storeW_cells (sz := 6) (by kernel_rfl) (by kernel_rfl) rfl rfl (cs := [(intA (0)), (intA (0)), (intA (0)), (intA (0)), (intA (0)), (intA (0))]) (cs' := [(intA a1), (intA x35.1.X), (intA x35.1.Y), (intA (IntKind.wrap .i64 (x23.Node_Height + x36.1))), (intA (IntKind.wrap .i64 (x23.Radius + x39.1))), (intA (IntKind.wrap .i64 (x23.Band + x40.1)))]) (ty := 50) (by first | rfl | (simp (disch := first | decide | assumption) only [mpushs_nil, mpushs_cons, mget_hd, mget_tl, mget_appW_o, mget_appW_n, mget_appW_e])) rfl rfl) ?_
    exact fun hg => ret1 (hR _ (Option.some.inj hg).symm) (fz_el (E := TTubeNode.E) _ (⟨a1, x35.1.X, x35.1.Y, (IntKind.wrap .i64 (x23.Node_Height + x36.1)), (IntKind.wrap .i64 (x23.Radius + x39.1)), (IntKind.wrap .i64 (x23.Band + x40.1))⟩ : TTubeNode))
theorem sg53 {n : Nat} {a0 : List TTubeNode} {a1 : Int} {t : ρ53} (h : g53 n a0 a1 = some t) : Says pg KK.gl 53 [(lstA TTubeNode.E a0), (intA a1)] ((AV.agg (TTubeNode.E.enc t))) :=
  says_of_own (by first | rfl | simp [cleans, clean, encs_clean, En.cln]) (by first | rfl | simp [cleans, clean, encs_clean, En.cln]) (F53_own (lstA TTubeNode.E a0) a1 _ (g53_ok n a0 a1 (Ans ((AV.agg (TTubeNode.E.enc t)))) (fun r e u m h => by rw [e]; exact h) h))
/- skyway/tube.At -/
theorem g26_ok (n : Nat) (a0 : List TTubeNode) (a1 : Int) {t : ρ26} (R : AV → Mem → Prop) (hR : ∀ r : ρ26, t = r → ∀ u m, Ans ((AV.tup [(AV.agg (TTubeNode.E.enc r.1)), (intA r.2)])) u m → R u m) : g26 n a0 a1 = some t → F26 (lstA TTubeNode.E a0) a1 R := by
  unfold g26 F26
  refine bind_b fun x13 h13 => ?_
  refine imp (callQ_says (sg24 h13)) ?_
  refine imp ex_i64_b ?_
  refine cond_b (fun _ => ?_) (fun _ => ?_)
  · refine iq (AV.agg [(intA (0)), (intA (0)), (intA (0)), (intA (0)), (intA (0)), (intA (0))]) rfl ?_
    refine imp (storeW_cells (sz := 6) (by kernel_rfl) (by kernel_rfl) rfl rfl (cs := [(intA (0)), (intA (0)), (intA (0)), (intA (0)), (intA (0)), (intA (0))]) (cs' := [(intA (0)), (intA (0)), (intA (0)), (intA (0)), (intA (0)), (intA (0))]) (ty := 50) (by first | rfl | (simp (disch := first | decide | assumption) only [mpushs_nil, mpushs_cons, mget_hd, mget_tl, mget_appW_o, mget_appW_n, mget_appW_e])) rfl rfl) ?_
    exact fun hg => retN rfl (hR _ (Option.some.inj hg).symm) (fzL_cons (fz_el (E := TTubeNode.E) _ (⟨(0), (0), (0), (0), (0), (0)⟩ : TTubeNode)) (fzL_cons (fz_sc _ _) fzL_nil))
  · refine bind_b fun x16 h16 => ?_
    refine imp (callQ_says (sg52 h16)) ?_
    refine imp exT2_b ?_
    iterate 2 refine imp ex_i64_b ?_
    refine cond_b (fun _ => ?_) (fun _ => ?_)
    · refine iq (AV.agg [(intA (0)), (intA (0)), (intA (0)), (intA (0)), (intA (0)), (intA (0))]) rfl ?_
      refine imp (storeW_cells (sz := 6) (by kernel_rfl) (by kernel_rfl) rfl rfl (cs := [(intA (0)), (intA (0)), (intA (0)), (intA (0)), (intA (0)), (intA (0))]) (cs' := [(intA (0)), (intA (0)), (intA (0)), (intA (0)), (intA (0)), (intA (0))]) (ty := 50) (by first | rfl | (simp (disch := first | decide | assumption) only [mpushs_nil, mpushs_cons, mget_hd, mget_tl, mget_appW_o, mget_appW_n, mget_appW_e])) rfl rfl) ?_
      exact fun hg => retN rfl (hR _ (Option.some.inj hg).symm) (fzL_cons (fz_el (E := TTubeNode.E) _ (⟨(0), (0), (0), (0), (0), (0)⟩ : TTubeNode)) (fzL_cons (fz_sc _ _) fzL_nil))
    · refine cond_b (fun _ => ?_) (fun _ => ?_)
      · refine iq (AV.agg [(intA (0)), (intA (0)), (intA (0)), (intA (0)), (intA (0)), (intA (0))]) rfl ?_
        refine imp (storeW_cells (sz := 6) (by kernel_rfl) (by kernel_rfl) rfl rfl (cs := [(intA (0)), (intA (0)), (intA (0)), (intA (0)), (intA (0)), (intA (0))]) (cs' := [(intA (0)), (intA (0)), (intA (0)), (intA (0)), (intA (0)), (intA (0))]) (ty := 50) (by first | rfl | (simp (disch := first | decide | assumption) only [mpushs_nil, mpushs_cons, mget_hd, mget_tl, mget_appW_o, mget_appW_n, mget_appW_e])) rfl rfl) ?_
        exact fun hg => retN rfl (hR _ (Option.some.inj hg).symm) (fzL_cons (fz_el (E := TTubeNode.E) _ (⟨(0), (0), (0), (0), (0), (0)⟩ : TTubeNode)) (fzL_cons (fz_sc _ _) fzL_nil))
      · refine bind_b fun x41 h41 => ?_
        refine imp (callQ_says (sg53 h41)) ?_
        refine imp exA6_b ?_
        iterate 6 refine imp ex_i64_b ?_
        exact fun hg => retN rfl (hR _ (Option.some.inj hg).symm) (fzL_cons (fz_el (E := TTubeNode.E) _ x41) (fzL_cons (fz_sc _ _) fzL_nil))
theorem sg26 {n : Nat} {a0 : List TTubeNode} {a1 : Int} {t : ρ26} (h : g26 n a0 a1 = some t) : Says pg KK.gl 26 [(lstA TTubeNode.E a0), (intA a1)] ((AV.tup [(AV.agg (TTubeNode.E.enc t.1)), (intA t.2)])) :=
  says_of_own (by first | rfl | simp [cleans, clean, encs_clean, En.cln]) (by first | rfl | simp [cleans, clean, encs_clean, En.cln]) (F26_own (lstA TTubeNode.E a0) a1 _ (g26_ok n a0 a1 (Ans ((AV.tup [(AV.agg (TTubeNode.E.enc t.1)), (intA t.2)]))) (fun r e u m h => by rw [e]; exact h) h))
/- skyway/plane.Sub -/
theorem g55_ok (n : Nat) (a0 : TP) (a1 : TP) {t : ρ55} (R : AV → Mem → Prop) (hR : ∀ r : ρ55, t = r → ∀ u m, Ans ((AV.agg (TP.E.enc r))) u m → R u m) : g55 n a0 a1 = some t → F55 a0.X a0.Y a1.X a1.Y R := by
  unfold g55 F55
  refine iq (AV.agg [(intA (IntKind.wrap .i64 (a0.X - a1.X))), (intA (IntKind.wrap .i64 (a0.Y - a1.Y)))]) rfl ?_
  refine imp (storeW_cells (sz := 2) (by kernel_rfl) (by kernel_rfl) rfl rfl (cs := [(intA (0)), (intA (0))]) (cs' := [(intA (IntKind.wrap .i64 (a0.X - a1.X))), (intA (IntKind.wrap .i64 (a0.Y - a1.Y)))]) (ty := 45) (by first | rfl | (simp (disch := first | decide | assumption) only [mpushs_nil, mpushs_cons, mget_hd, mget_tl, mget_appW_o, mget_appW_n, mget_appW_e])) rfl rfl) ?_
  exact fun hg => ret1 (hR _ (Option.some.inj hg).symm) (fz_el (E := TP.E) _ (⟨(IntKind.wrap .i64 (a0.X - a1.X)), (IntKind.wrap .i64 (a0.Y - a1.Y))⟩ : TP))
theorem sg55 {n : Nat} {a0 : TP} {a1 : TP} {t : ρ55} (h : g55 n a0 a1 = some t) : Says pg KK.gl 55 [(AV.agg [(intA a0.X), (intA a0.Y)]), (AV.agg [(intA a1.X), (intA a1.Y)])] ((AV.agg (TP.E.enc t))) :=
  says_of_own (by first | rfl | simp [cleans, clean, encs_clean, En.cln]) (by first | rfl | simp [cleans, clean, encs_clean, En.cln]) (F55_own a0.X a0.Y a1.X a1.Y _ (g55_ok n a0 a1 (Ans ((AV.agg (TP.E.enc t)))) (fun r e u m h => by rw [e]; exact h) h))
/- skyway/plane.Dot -/
theorem g103_ok (n : Nat) (a0 : TP) (a1 : TP) {t : ρ103} (R : AV → Mem → Prop) (hR : ∀ r : ρ103, t = r → ∀ u m, Ans ((intA r)) u m → R u m) : g103 n a0 a1 = some t → F103 a0.X a0.Y a1.X a1.Y R := by
  unfold g103 F103
  exact fun hg => ret1 (hR _ (Option.some.inj hg).symm) (fz_sc _ _)
theorem sg103 {n : Nat} {a0 : TP} {a1 : TP} {t : ρ103} (h : g103 n a0 a1 = some t) : Says pg KK.gl 103 [(AV.agg [(intA a0.X), (intA a0.Y)]), (AV.agg [(intA a1.X), (intA a1.Y)])] ((intA t)) :=
  says_of_own (by first | rfl | simp [cleans, clean, encs_clean, En.cln]) (by first | rfl | simp [cleans, clean, encs_clean, En.cln]) (F103_own a0.X a0.Y a1.X a1.Y _ (g103_ok n a0 a1 (Ans ((intA t))) (fun r e u m h => by rw [e]; exact h) h))
/- skyway/plane.Square -/
theorem g77_ok (n : Nat) (a0 : TP) (a1 : TP) {t : ρ77} (R : AV → Mem → Prop) (hR : ∀ r : ρ77, t = r → ∀ u m, Ans ((intA r)) u m → R u m) : g77 n a0 a1 = some t → F77 a0.X a0.Y a1.X a1.Y R := by
  unfold g77 F77
  refine bind_b fun x44 h44 => ?_
  refine imp (callQ_says (sg55 h44)) ?_
  refine imp exA2_b ?_
  iterate 2 refine imp ex_i64_b ?_
  refine bind_b fun x45 h45 => ?_
  refine imp (callQ_says (sg103 h45)) ?_
  refine imp ex_i64_b ?_
  exact fun hg => ret1 (hR _ (Option.some.inj hg).symm) (fz_sc _ _)
theorem sg77 {n : Nat} {a0 : TP} {a1 : TP} {t : ρ77} (h : g77 n a0 a1 = some t) : Says pg KK.gl 77 [(AV.agg [(intA a0.X), (intA a0.Y)]), (AV.agg [(intA a1.X), (intA a1.Y)])] ((intA t)) :=
  says_of_own (by first | rfl | simp [cleans, clean, encs_clean, En.cln]) (by first | rfl | simp [cleans, clean, encs_clean, En.cln]) (F77_own a0.X a0.Y a1.X a1.Y _ (g77_ok n a0 a1 (Ans ((intA t))) (fun r e u m h => by rw [e]; exact h) h))
/- skyway/num.Root -/
theorem B78_0_ok (n : Nat) (a0 : Int) (c2 : Int) (v3 : Int) (v4 : Int) {t : (Int × Int) ⊕ ρ78} (R : AV → Mem → Prop) (N0 : St → Prop) (hR : ∀ r : ρ78, t = (.inr r) → ∀ u m, Ans ((intA r)) u m → R u m) (hN0 : ∀ y : Int × Int, t = (.inl y) → ∀ s' : St, Weak KK 27 0 s' (h78_0 a0 c2 y.1 y.2 []) → N0 s') : S78_0 n a0 c2 v3 v4 = some t → B78_0 a0 c2 v3 v4 [] R N0 := by
  unfold S78_0 B78_0
  refine cond_b (fun _ => ?_) (fun _ => ?_)
  · refine cond_b (fun _ => ?_) (fun _ => ?_)
    · exact fun hg => hN0 _ (Option.some.inj hg).symm _ (weak_mem [] rfl rfl rfl (okW_cons (.inl (leV_refl _)) (okW_cons (.inl (leV_refl _)) (okW_cons (.inl (leV_refl _)) (okW_cons (.inl (leV_refl _)) okW_nil)))) okB_nil')
    · exact fun hg => hN0 _ (Option.some.inj hg).symm _ (weak_mem [] rfl rfl rfl (okW_cons (.inl (leV_refl _)) (okW_cons (.inl (leV_refl _)) (okW_cons (.inl (leV_refl _)) (okW_cons (.inl (leV_refl _)) okW_nil)))) okB_nil')
  · exact fun hg => ret1 (hR _ (Option.some.inj hg).symm) (fz_sc _ _)
theorem L78_0_ok (n : Nat) (a0 : Int) (c2 : Int) {t : ρ78} (R : AV → Mem → Prop) (hR : ∀ r : ρ78, t = r → ∀ u m, Ans ((intA r)) u m → R u m) (k : Nat) (x : Int × Int) (hx : iterO (fun y : Int × Int => S78_0 n a0 c2 y.1 y.2) k x = some t) {s : St} (hw : Weak KK 27 0 s (h78_0 a0 c2 x.1 x.2 [])) : Tri pg KK 27 0 (.loop c78_0) s (q78_0 R ) :=
  L78_0 R  (σ := Nat × (Int × Int)) (fun z => iterO (fun y : Int × Int => S78_0 n a0 c2 y.1 y.2) z.1 z.2 = some t) (fun z => a0) (fun z => c2) (fun z => z.2.1) (fun z => z.2.2) (fun z => []) (fun z => z.1) (by
    rintro ⟨k, y⟩ h
    cases k with
    | zero => exact (iterO_zero h).elim
    | succ k =>
      obtain ⟨u, h1, h2, h3⟩ := iterO_elim h
      exact B78_0_ok n a0 c2 y.1 y.2 R  _ (fun r e => hR r (h3 _ e).symm)  (fun y' e s' hw => ⟨(k, y'), h2 _ e, Nat.lt_succ_self k, hw⟩) h1) (k, x) hx hw
theorem g78_ok (n : Nat) (a0 : Int) {t : ρ78} (R : AV → Mem → Prop) (hR : ∀ r : ρ78, t = r → ∀ u m, Ans ((intA r)) u m → R u m) : g78 n a0 = some t → F78 a0 R := by
  unfold g78 F78
  refine cond_b (fun _ => ?_) (fun _ => ?_)
  · exact fun hg => ret1 (hR _ (Option.some.inj hg).symm) (fz_sc _ _)
  · exact fun hg => L78_0_ok n a0 (0) R  hR n _ hg (weak_mem [] rfl rfl rfl (okW_cons (.inl (leV_refl _)) (okW_cons (.inl (leV_refl _)) (okW_cons (.inl (leV_refl _)) (okW_cons (.inl (leV_refl _)) okW_nil)))) okB_nil')
theorem sg78 {n : Nat} {a0 : Int} {t : ρ78} (h : g78 n a0 = some t) : Says pg KK.gl 78 [(intA a0)] ((intA t)) :=
  says_of_own (by first | rfl | simp [cleans, clean, encs_clean, En.cln]) (by first | rfl | simp [cleans, clean, encs_clean, En.cln]) (F78_own a0 _ (g78_ok n a0 (Ans ((intA t))) (fun r e u m h => by rw [e]; exact h) h))
/- skyway/plane.Distance -/
theorem g56_ok (n : Nat) (a0 : TP) (a1 : TP) {t : ρ56} (R : AV → Mem → Prop) (hR : ∀ r : ρ56, t = r → ∀ u m, Ans ((AV.tup [(intA r.1), (intA r.2)])) u m → R u m) : g56 n a0 a1 = some t → F56 a0.X a0.Y a1.X a1.Y R := by
  unfold g56 F56
  refine bind_b fun x46 h46 => ?_
  refine imp (callQ_says (sg77 h46)) ?_
  refine imp ex_i64_b ?_
  refine bind_b fun x47 h47 => ?_
  refine imp (callQ_says (sg78 h47)) ?_
  refine imp ex_i64_b ?_
  refine cond_b (fun _ => ?_) (fun _ => ?_)
  · exact fun hg => retN rfl (hR _ (Option.some.inj hg).symm) (fzL_cons (fz_sc _ _) (fzL_cons (fz_sc _ _) fzL_nil))
  · exact fun hg => retN rfl (hR _ (Option.some.inj hg).symm) (fzL_cons (fz_sc _ _) (fzL_cons (fz_sc _ _) fzL_nil))
theorem sg56 {n : Nat} {a0 : TP} {a1 : TP} {t : ρ56} (h : g56 n a0 a1 = some t) : Says pg KK.gl 56 [(AV.agg [(intA a0.X), (intA a0.Y)]), (AV.agg [(intA a1.X), (intA a1.Y)])] ((AV.tup [(intA t.1), (intA t.2)])) :=
  says_of_own (by first | rfl | simp [cleans, clean, encs_clean, En.cln]) (by first | rfl | simp [cleans, clean, encs_clean, En.cln]) (F56_own a0.X a0.Y a1.X a1.Y _ (g56_ok n a0 a1 (Ans ((AV.tup [(intA t.1), (intA t.2)]))) (fun r e u m h => by rw [e]; exact h) h))
/- skyway/probe.separated -/
theorem g65_ok (n : Nat) (a0 : TTubeNode) (a1 : TTubeNode) (a2 : TSep) {t : ρ65} (R : AV → Mem → Prop) (hR : ∀ r : ρ65, t = r → ∀ u m, Ans ((boolA r)) u m → R u m) : g65 n a0 a1 a2 = some t → F65 a0.Node_Time a0.Node_At_X a0.Node_At_Y a0.Node_Height a0.Radius a0.Band a1.Node_Time a1.Node_At_X a1.Node_At_Y a1.Node_Height a1.Radius a1.Band a2.Lateral a2.Vertical R := by
  unfold g65 F65
  refine bind_b fun x48 h48 => ?_
  refine imp (callQ_says (sg56 h48)) ?_
  refine imp exT2_b ?_
  iterate 2 refine imp ex_i64_b ?_
  refine cond_b (fun _ => ?_) (fun _ => ?_)
  · exact fun hg => ret1 (hR _ (Option.some.inj hg).symm) (fz_sc _ _)
  · refine iq (intA (if (IntKind.wrap .i64 (a1.Node_Height - a0.Node_Height)) > (IntKind.wrap .i64 (a0.Node_Height - a1.Node_Height)) then (IntKind.wrap .i64 (a1.Node_Height - a0.Node_Height)) else (IntKind.wrap .i64 (a0.Node_Height - a1.Node_Height)))) (by kernel_rfl) ?_
    refine imp ex_i64_b ?_
    exact fun hg => ret1 (hR _ (Option.some.inj hg).symm) (fz_sc _ _)
theorem sg65 {n : Nat} {a0 : TTubeNode} {a1 : TTubeNode} {a2 : TSep} {t : ρ65} (h : g65 n a0 a1 a2 = some t) : Says pg KK.gl 65 [(AV.agg [(intA a0.Node_Time), (intA a0.Node_At_X), (intA a0.Node_At_Y), (intA a0.Node_Height), (intA a0.Radius), (intA a0.Band)]), (AV.agg [(intA a1.Node_Time), (intA a1.Node_At_X), (intA a1.Node_At_Y), (intA a1.Node_Height), (intA a1.Radius), (intA a1.Band)]), (AV.agg [(intA a2.Lateral), (intA a2.Vertical)])] ((boolA t)) :=
  says_of_own (by first | rfl | simp [cleans, clean, encs_clean, En.cln]) (by first | rfl | simp [cleans, clean, encs_clean, En.cln]) (F65_own a0.Node_Time a0.Node_At_X a0.Node_At_Y a0.Node_Height a0.Radius a0.Band a1.Node_Time a1.Node_At_X a1.Node_At_Y a1.Node_Height a1.Radius a1.Band a2.Lateral a2.Vertical _ (g65_ok n a0 a1 a2 (Ans ((boolA t))) (fun r e u m h => by rw [e]; exact h) h))
/- skyway/probe.spans -/
theorem B45_0_ok (n : Nat) (a0 : List TTubeNode) (a1 : List TTubeNode) (c9 : Int) (k0_0 : Int) (k0_1 : Int) (v10 : Int) (L90000 : List TSpan) {t : (Int × List TSpan) ⊕ ρ45} (R : AV → Mem → Prop) (N0 : St → Prop) (hR : ∀ r : ρ45, t = (.inr r) → ∀ u m, Ans ((lstA TSpan.E r)) u m → R u m) (hN0 : ∀ y : Int × List TSpan, t = (.inl y) → ∀ s' : St, Weak KK 73 0 s' (h45_0 (lstA TTubeNode.E a0) (lstA TTubeNode.E a1) AV.nils (ownV TSpan.E 90000 y.2) c9 y.1 k0_0 k0_1 [(90000, ownB TSpan.E 97 y.2)]) → N0 s') : S45_0 n a0 a1 c9 k0_0 k0_1 v10 L90000 = some t → B45_0 (lstA TTubeNode.E a0) (lstA TTubeNode.E a1) AV.nils (ownV TSpan.E 90000 L90000) c9 v10 k0_0 k0_1 [(90000, ownB TSpan.E 97 L90000)] R N0 := by
  unfold S45_0 B45_0
  refine cond_b (fun _ => ?_) (fun _ => ?_)
  · refine bind_b fun x42 h42 => ?_
    refine imp (callQ_says (sg26 h42)) ?_
    refine imp exT2_b ?_
    refine imp exA6_b ?_
    iterate 7 refine imp ex_i64_b ?_
    refine bind_b fun x43 h43 => ?_
    refine imp (callQ_says (sg26 h43)) ?_
    refine imp exT2_b ?_
    refine imp exA6_b ?_
    iterate 7 refine imp ex_i64_b ?_
    refine bind_b fun x49 h49 => ?_
    refine imp (callQ_says (sg65 h49)) ?_
    refine imp exB_b ?_
    refine cond_b (fun _ => ?_) (fun _ => ?_)
    · exact fun hg => hN0 _ (Option.some.inj hg).symm _ (weak_mem [(90000, 90000), (0, 0)] rfl rfl rfl (okW_cons (ent_lst (E := TTubeNode.E) _ false) (okW_cons (ent_lst (E := TTubeNode.E) _ false) (okW_cons (.inl (leV_refl _)) (okW_cons (.inl (leV_refl _)) (okW_cons (ent_own (E := TSpan.E) (id := 90000) (l' := L90000) rfl rfl) (okW_cons (.inl (leV_refl _)) (okW_cons (.inl (leV_refl _)) okW_nil))))))) (okB_cons (okB_cells (cs := [(intA k0_0), (intA k0_1)]) (ty := 38) rfl (show mget _ 0 = _ from (by first | rfl | (simp (disch := first | decide | assumption) only [mpushs_nil, mpushs_cons, mget_hd, mget_tl, mget_appW_o, mget_appW_n, mget_appW_e])))) (okB_cons (okB_own (E := TSpan.E) (ty := 97) (l' := L90000) rfl (show mget _ 90000 = _ from (by first | rfl | (simp (disch := first | decide | assumption) only [mpushs_nil, mpushs_cons, mget_hd, mget_tl, mget_appW_o, mget_appW_n, mget_appW_e])))) okB_nil')))
    · refine imp (opP_of (show _ = some ((intA (L90000.length : Int)), []) from len_own)) ?_
      refine imp ex_i64_b ?_
      refine cond_b (fun _ => ?_) (fun _ => ?_)
      · refine bind_b fun x50 h50 => ?_
        refine iq (AV.ptr 90000 ((((IntKind.wrap .i64 ((L90000.length : Int) - (1))) : Int).toNat) * 2 + 0)) (idx_own (E := TSpan.E) rfl h50) ?_
        refine iq (AV.ptr 90000 ((((IntKind.wrap .i64 ((L90000.length : Int) - (1))) : Int).toNat) * 2 + 1)) rfl ?_
        refine iq (intA x50.To) (ldS_blk (E := TSpan.E) (l := L90000) (ty := 97) (o := 1) (own_some (ty := 97) (by first | rfl | (simp (disch := first | decide | assumption) only [mpushs_nil, mpushs_cons, mget_hd, mget_tl, mget_appW_o, mget_appW_n, mget_appW_e])) (getI_some h50).2) (getI_some h50).2 rfl (by decide) rfl) ?_
        refine imp ex_i64_b ?_
        refine cond_b (fun _ => ?_) (fun _ => ?_)
        · refine bind_b fun x51 h51 => ?_
          refine iq (AV.ptr 90000 ((((IntKind.wrap .i64 ((L90000.length : Int) - (1))) : Int).toNat) * 2 + 0)) (idx_own (E := TSpan.E) rfl h51) ?_
          refine iq (AV.ptr 90000 ((((IntKind.wrap .i64 ((L90000.length : Int) - (1))) : Int).toNat) * 2 + 1)) rfl ?_
          refine imp (storeW_elO (E := TSpan.E) (l := L90000) (i := (((IntKind.wrap .i64 ((L90000.length : Int) - (1))) : Int).toNat)) (o := 1) (y := (⟨x51.From, (IntKind.wrap .i64 (v10 + (1)))⟩ : TSpan)) (ty := 97) (by kernel_rfl) (by kernel_rfl) rfl (by first | rfl | (simp (disch := first | decide | assumption) only [mpushs_nil, mpushs_cons, mget_hd, mget_tl, mget_appW_o, mget_appW_n, mget_appW_e])) (getI_some h51).2 rfl (by decide) rfl) ?_
          exact fun hg => hN0 _ (Option.some.inj hg).symm _ (weak_mem [(90000, 90000), (0, 0)] rfl rfl rfl (okW_cons (ent_lst (E := TTubeNode.E) _ false) (okW_cons (ent_lst (E := TTubeNode.E) _ false) (okW_cons (.inl (leV_refl _)) (okW_cons (.inl (leV_refl _)) (okW_cons (ent_own (E := TSpan.E) (id := 90000) (l' := (L90000.set (((IntKind.wrap .i64 ((L90000.length : Int) - (1))) : Int).toNat) (⟨x51.From, (IntKind.wrap .i64 (v10 + (1)))⟩ : TSpan))) (by first | rfl | omega | (simp; done) | (simp; omega)) rfl) (okW_cons (.inl (leV_refl _)) (okW_cons (.inl (leV_refl _)) okW_nil))))))) (okB_cons (okB_cells (cs := [(intA k0_0), (intA k0_1)]) (ty := 38) rfl (show mget _ 0 = _ from (by first | rfl | (simp (disch := first | decide | assumption) only [mpushs_nil, mpushs_cons, mget_hd, mget_tl, mget_appW_o, mget_appW_n, mget_appW_e])))) (okB_cons (okB_own (E := TSpan.E) (ty := 97) (l' := (L90000.set (((IntKind.wrap .i64 ((L90000.length : Int) - (1))) : Int).toNat) (⟨x51.From, (IntKind.wrap .i64 (v10 + (1)))⟩ : TSpan))) rfl (show mget _ 90000 = _ from (by first | rfl | (simp (disch := first | decide | assumption) only [mpushs_nil, mpushs_cons, mget_hd, mget_tl, mget_appW_o, mget_appW_n, mget_appW_e])))) okB_nil')))
        · refine iq (AV.agg [(intA v10), (intA (IntKind.wrap .i64 (v10 + (1))))]) rfl ?_
          refine imp (opN_of (show _ = some ((blkV TSpan.E 100234 ([(⟨v10, (IntKind.wrap .i64 (v10 + (1)))⟩ : TSpan)] : List TSpan)), [(100234, some ⟨encs TSpan.E ([(⟨v10, (IntKind.wrap .i64 (v10 + (1)))⟩ : TSpan)] : List TSpan), 97⟩)]) from rfl)) ?_
          refine bind_b fun x53 h53 => ?_
          refine imp (opN_of (show _ = some ((ownV TSpan.E 100235 (L90000 ++ ([(⟨v10, (IntKind.wrap .i64 (v10 + (1)))⟩ : TSpan)] : List TSpan))), (appW TSpan.E 100235 90000 97 L90000 ([(⟨v10, (IntKind.wrap .i64 (v10 + (1)))⟩ : TSpan)] : List TSpan))) from (app_own (E := TSpan.E) (l' := L90000) (xs := ([(⟨v10, (IntKind.wrap .i64 (v10 + (1)))⟩ : TSpan)] : List TSpan)) rfl rfl (cellsOf_blk (E := TSpan.E) (ty := 97) rfl rfl (by first | rfl | (simp (disch := first | decide | assumption) only [mpushs_nil, mpushs_cons, mget_hd, mget_tl, mget_appW_o, mget_appW_n, mget_appW_e]))) (by first | assumption | simp) rfl (fun hne => Eq.trans (by first | rfl | (simp (disch := first | decide | assumption) only [mpushs_nil, mpushs_cons, mget_hd, mget_tl, mget_appW_o, mget_appW_n, mget_appW_e])) (ownB_ne hne)) h53))) ?_
          exact fun hg => hN0 _ (Option.some.inj hg).symm _ (weak_mem [(90000, 100235), (0, 0)] rfl rfl rfl (okW_cons (ent_lst (E := TTubeNode.E) _ false) (okW_cons (ent_lst (E := TTubeNode.E) _ false) (okW_cons (.inl (leV_refl _)) (okW_cons (.inl (leV_refl _)) (okW_cons (ent_own (E := TSpan.E) (id := 100235) (l' := (L90000 ++ ([(⟨v10, (IntKind.wrap .i64 (v10 + (1)))⟩ : TSpan)] : List TSpan))) rfl rfl) (okW_cons (.inl (leV_refl _)) (okW_cons (.inl (leV_refl _)) okW_nil))))))) (okB_cons (okB_cells (cs := [(intA k0_0), (intA k0_1)]) (ty := 38) rfl (show mget _ 0 = _ from (by first | rfl | (simp (disch := first | decide | assumption) only [mpushs_nil, mpushs_cons, mget_hd, mget_tl, mget_appW_o, mget_appW_n, mget_appW_e])))) (okB_cons (okB_own (E := TSpan.E) (ty := 97) (l' := (L90000 ++ ([(⟨v10, (IntKind.wrap .i64 (v10 + (1)))⟩ : TSpan)] : List TSpan))) rfl (show mget _ 100235 = _ from (by first | rfl | (simp (disch := first | decide | assumption) only [mpushs_nil, mpushs_cons, mget_hd, mget_tl, mget_appW_o, mget_appW_n, mget_appW_e])))) okB_nil')))
      · refine iq (AV.agg [(intA v10), (intA (IntKind.wrap .i64 (v10 + (1))))]) rfl ?_
        refine imp (opN_of (show _ = some ((blkV TSpan.E 100226 ([(⟨v10, (IntKind.wrap .i64 (v10 + (1)))⟩ : TSpan)] : List TSpan)), [(100226, some ⟨encs TSpan.E ([(⟨v10, (IntKind.wrap .i64 (v10 + (1)))⟩ : TSpan)] : List TSpan), 97⟩)]) from rfl)) ?_
        refine bind_b fun x55 h55 => ?_
        refine imp (opN_of (show _ = some ((ownV TSpan.E 100227 (L90000 ++ ([(⟨v10, (IntKind.wrap .i64 (v10 + (1)))⟩ : TSpan)] : List TSpan))), (appW TSpan.E 100227 90000 97 L90000 ([(⟨v10, (IntKind.wrap .i64 (v10 + (1)))⟩ : TSpan)] : List TSpan))) from (app_own (E := TSpan.E) (l' := L90000) (xs := ([(⟨v10, (IntKind.wrap .i64 (v10 + (1)))⟩ : TSpan)] : List TSpan)) rfl rfl (cellsOf_blk (E := TSpan.E) (ty := 97) rfl rfl (by first | rfl | (simp (disch := first | decide | assumption) only [mpushs_nil, mpushs_cons, mget_hd, mget_tl, mget_appW_o, mget_appW_n, mget_appW_e]))) (by first | assumption | simp) rfl (fun hne => Eq.trans (by first | rfl | (simp (disch := first | decide | assumption) only [mpushs_nil, mpushs_cons, mget_hd, mget_tl, mget_appW_o, mget_appW_n, mget_appW_e])) (ownB_ne hne)) h55))) ?_
        exact fun hg => hN0 _ (Option.some.inj hg).symm _ (weak_mem [(90000, 100227), (0, 0)] rfl rfl rfl (okW_cons (ent_lst (E := TTubeNode.E) _ false) (okW_cons (ent_lst (E := TTubeNode.E) _ false) (okW_cons (.inl (leV_refl _)) (okW_cons (.inl (leV_refl _)) (okW_cons (ent_own (E := TSpan.E) (id := 100227) (l' := (L90000 ++ ([(⟨v10, (IntKind.wrap .i64 (v10 + (1)))⟩ : TSpan)] : List TSpan))) rfl rfl) (okW_cons (.inl (leV_refl _)) (okW_cons (.inl (leV_refl _)) okW_nil))))))) (okB_cons (okB_cells (cs := [(intA k0_0), (intA k0_1)]) (ty := 38) rfl (show mget _ 0 = _ from (by first | rfl | (simp (disch := first | decide | assumption) only [mpushs_nil, mpushs_cons, mget_hd, mget_tl, mget_appW_o, mget_appW_n, mget_appW_e])))) (okB_cons (okB_own (E := TSpan.E) (ty := 97) (l' := (L90000 ++ ([(⟨v10, (IntKind.wrap .i64 (v10 + (1)))⟩ : TSpan)] : List TSpan))) rfl (show mget _ 100227 = _ from (by first | rfl | (simp (disch := first | decide | assumption) only [mpushs_nil, mpushs_cons, mget_hd, mget_tl, mget_appW_o, mget_appW_n, mget_appW_e])))) okB_nil')))
  · exact fun hg => ret1 (hR _ (Option.some.inj hg).symm) (fz_own (E := TSpan.E) (ty := 97) (l' := L90000) _ rfl (by first | rfl | (simp (disch := first | decide | assumption) only [mpushs_nil, mpushs_cons, mget_hd, mget_tl, mget_appW_o, mget_appW_n, mget_appW_e])))
theorem L45_0_ok (n : Nat) (a0 : List TTubeNode) (a1 : List TTubeNode) (c9 : Int) (k0_0 : Int) (k0_1 : Int) {t : ρ45} (R : AV → Mem → Prop) (hR : ∀ r : ρ45, t = r → ∀ u m, Ans ((lstA TSpan.E r)) u m → R u m) (k : Nat) (x : Int × List TSpan) (hx : iterO (fun y : Int × List TSpan => S45_0 n a0 a1 c9 k0_0 k0_1 y.1 y.2) k x = some t) {s : St} (hw : Weak KK 73 0 s (h45_0 (lstA TTubeNode.E a0) (lstA TTubeNode.E a1) AV.nils (ownV TSpan.E 90000 x.2) c9 x.1 k0_0 k0_1 [(90000, ownB TSpan.E 97 x.2)])) : Tri pg KK 73 0 (.loop c45_0) s (q45_0 R ) :=
  L45_0 R  (σ := Nat × (Int × List TSpan)) (fun z => iterO (fun y : Int × List TSpan => S45_0 n a0 a1 c9 k0_0 k0_1 y.1 y.2) z.1 z.2 = some t) (fun z => (lstA TTubeNode.E a0)) (fun z => (lstA TTubeNode.E a1)) (fun z => AV.nils) (fun z => (ownV TSpan.E 90000 z.2.2)) (fun z => c9) (fun z => z.2.1) (fun z => k0_0) (fun z => k0_1) (fun z => [(90000, ownB TSpan.E 97 z.2.2)]) (fun z => z.1) (by
    rintro ⟨k, y⟩ h
    cases k with
    | zero => exact (iterO_zero h).elim
    | succ k =>
      obtain ⟨u, h1, h2, h3⟩ := iterO_elim h
      exact B45_0_ok n a0 a1 c9 k0_0 k0_1 y.1 y.2 R  _ (fun r e => hR r (h3 _ e).symm)  (fun y' e s' hw => ⟨(k, y'), h2 _ e, Nat.lt_succ_self k, hw⟩) h1) (k, x) hx hw
theorem g45_ok (n : Nat) (a0 : List TTubeNode) (a1 : List TTubeNode) (a2 : TSep) {t : ρ45} (R : AV → Mem → Prop) (hR : ∀ r : ρ45, t = r → ∀ u m, Ans ((lstA TSpan.E r)) u m → R u m) : g45 n a0 a1 a2 = some t → F45 (lstA TTubeNode.E a0) (lstA TTubeNode.E a1) a2.Lateral a2.Vertical R := by
  unfold g45 F45
  refine bind_b fun x12 h12 => ?_
  refine imp (callQ_says (sg64 h12)) ?_
  refine imp exT2_b ?_
  iterate 2 refine imp ex_i64_b ?_
  exact fun hg => L45_0_ok n a0 a1 x12.2 a2.Lateral a2.Vertical R  hR n _ hg (weak_mem [(90000, 89500), (0, 0)] rfl rfl rfl (okW_cons (ent_lst (E := TTubeNode.E) _ false) (okW_cons (ent_lst (E := TTubeNode.E) _ false) (okW_cons (.inl (leV_refl _)) (okW_cons (.inl (leV_refl _)) (okW_cons ent_nils_own (okW_cons (.inl (leV_refl _)) (okW_cons (.inl (leV_refl _)) okW_nil))))))) (okB_cons (okB_cells (cs := [(intA a2.Lateral), (intA a2.Vertical)]) (ty := 38) rfl (show mget _ 0 = _ from (by first | rfl | (simp (disch := first | decide | assumption) only [mpushs_nil, mpushs_cons, mget_hd, mget_tl, mget_appW_o, mget_appW_n, mget_appW_e])))) (okB_cons okB_nil okB_nil')))
theorem sg45 {n : Nat} {a0 : List TTubeNode} {a1 : List TTubeNode} {a2 : TSep} {t : ρ45} (h : g45 n a0 a1 a2 = some t) : Says pg KK.gl 45 [(lstA TTubeNode.E a0), (lstA TTubeNode.E a1), (AV.agg [(intA a2.Lateral), (intA a2.Vertical)])] ((lstA TSpan.E t)) :=
  says_of_own (by first | rfl | simp [cleans, clean, encs_clean, En.cln]) (by first | rfl | simp [cleans, clean, encs_clean, En.cln]) (F45_own (lstA TTubeNode.E a0) (lstA TTubeNode.E a1) a2.Lateral a2.Vertical _ (g45_ok n a0 a1 a2 (Ans ((lstA TSpan.E t))) (fun r e u m h => by rw [e]; exact h) h))
/- skyway/probe.Pair -/
theorem g63_ok (n : Nat) (a0 : List TTubeNode) (a1 : List TTubeNode) (a2 : TSep) {t : ρ63} (R : AV → Mem → Prop) (hR : ∀ r : ρ63, t = r → ∀ u m, Ans ((AV.tup [(lstA TSpan.E r.1), (intA r.2)])) u m → R u m) : g63 n a0 a1 a2 = some t → F63 (lstA TTubeNode.E a0) (lstA TTubeNode.E a1) a2.Lateral a2.Vertical R := by
  unfold g63 F63
  refine imp (opN_of (show _ = some ((blkV (lstE TTubeNode.E) 6 ([a0, a1] : List (List TTubeNode))), [(6, some ⟨encs (lstE TTubeNode.E) ([a0, a1] : List (List TTubeNode)), 23⟩)]) from rfl)) ?_
  refine bind_b fun x7 h7 => ?_
  refine imp (callQ_pure (pure_snapN (snL_cons (sn_agg _ (snL_cons (sn_sc _ _) (snL_cons (sn_sc _ _) snL_nil))) (snL_cons (sn_blk (E := (lstE TTubeNode.E)) (ty := 23) (l' := ([a0, a1] : List (List TTubeNode))) _ (lstE.nf TTubeNode.E) rfl (by first | rfl | (simp (disch := first | decide | assumption) only [mpushs_nil, mpushs_cons, mget_hd, mget_tl, mget_appW_o, mget_appW_n, mget_appW_e]))) snL_nil)) (sg44 h7) rfl)) ?_
  refine imp ex_i64_b ?_
  refine cond_b (fun _ => ?_) (fun _ => ?_)
  · exact fun hg => retN rfl (hR _ (Option.some.inj hg).symm) (fzL_cons (fz_nils (E := TSpan.E) _) (fzL_cons (fz_sc _ _) fzL_nil))
  · refine iq (AV.agg [(intA a2.Lateral), (intA a2.Vertical)]) (ldA_ptr (b := ⟨[(intA a2.Lateral), (intA a2.Vertical)], 38⟩) (by first | rfl | (simp (disch := first | decide | assumption) only [mpushs_nil, mpushs_cons, mget_hd, mget_tl, mget_appW_o, mget_appW_n, mget_appW_e])) rfl) ?_
    refine imp exA2_b ?_
    iterate 2 refine imp ex_i64_b ?_
    refine bind_b fun x56 h56 => ?_
    refine imp (callQ_says (sg45 h56)) ?_
    exact fun hg => retN rfl (hR _ (Option.some.inj hg).symm) (fzL_cons (fz_lst (E := TSpan.E) _ _ false) (fzL_cons (fz_sc _ _) fzL_nil))
theorem sg63 {n : Nat} {a0 : List TTubeNode} {a1 : List TTubeNode} {a2 : TSep} {t : ρ63} (h : g63 n a0 a1 a2 = some t) : Says pg KK.gl 63 [(lstA TTubeNode.E a0), (lstA TTubeNode.E a1), (AV.agg [(intA a2.Lateral), (intA a2.Vertical)])] ((AV.tup [(lstA TSpan.E t.1), (intA t.2)])) :=
  says_of_own (by first | rfl | simp [cleans, clean, encs_clean, En.cln]) (by first | rfl | simp [cleans, clean, encs_clean, En.cln]) (F63_own (lstA TTubeNode.E a0) (lstA TTubeNode.E a1) a2.Lateral a2.Vertical _ (g63_ok n a0 a1 a2 (Ans ((AV.tup [(lstA TSpan.E t.1), (intA t.2)]))) (fun r e u m h => by rw [e]; exact h) h))
/- skyway/probe.First -/
theorem g42_ok (n : Nat) (a0 : List TTubeNode) (a1 : List TTubeNode) (a2 : TSep) {t : ρ42} (R : AV → Mem → Prop) (hR : ∀ r : ρ42, t = r → ∀ u m, Ans ((AV.tup [(intA r.1), (intA r.2)])) u m → R u m) : g42 n a0 a1 a2 = some t → F42 (lstA TTubeNode.E a0) (lstA TTubeNode.E a1) a2.Lateral a2.Vertical R := by
  unfold g42 F42
  refine bind_b fun x57 h57 => ?_
  refine imp (callQ_says (sg63 h57)) ?_
  refine imp exT2_b ?_
  refine imp ex_i64_b ?_
  refine cond_b (fun _ => ?_) (fun _ => ?_)
  · exact fun hg => retN rfl (hR _ (Option.some.inj hg).symm) (fzL_cons (fz_sc _ _) (fzL_cons (fz_sc _ _) fzL_nil))
  · refine iq (intA (x57.1.length : Int)) rfl ?_
    refine imp ex_i64_b ?_
    refine cond_b (fun _ => ?_) (fun _ => ?_)
    · exact fun hg => retN rfl (hR _ (Option.some.inj hg).symm) (fzL_cons (fz_sc _ _) (fzL_cons (fz_sc _ _) fzL_nil))
    · refine bind_b fun x58 h58 => ?_
      refine iq (AV.ept [(intA x58.From), (intA x58.To)] 0) (idx_lst (E := TSpan.E) rfl h58) ?_
      refine iq (AV.ept [(intA x58.From), (intA x58.To)] 0) rfl ?_
      refine iq (intA x58.From) rfl ?_
      refine imp ex_i64_b ?_
      exact fun hg => retN rfl (hR _ (Option.some.inj hg).symm) (fzL_cons (fz_sc _ _) (fzL_cons (fz_sc _ _) fzL_nil))
theorem sg42 {n : Nat} {a0 : List TTubeNode} {a1 : List TTubeNode} {a2 : TSep} {t : ρ42} (h : g42 n a0 a1 a2 = some t) : Says pg KK.gl 42 [(lstA TTubeNode.E a0), (lstA TTubeNode.E a1), (AV.agg [(intA a2.Lateral), (intA a2.Vertical)])] ((AV.tup [(intA t.1), (intA t.2)])) :=
  says_of_own (by first | rfl | simp [cleans, clean, encs_clean, En.cln]) (by first | rfl | simp [cleans, clean, encs_clean, En.cln]) (F42_own (lstA TTubeNode.E a0) (lstA TTubeNode.E a1) a2.Lateral a2.Vertical _ (g42_ok n a0 a1 a2 (Ans ((AV.tup [(intA t.1), (intA t.2)]))) (fun r e u m h => by rw [e]; exact h) h))
/- skyway/angle.Norm -/
theorem g29_ok (n : Nat) (a0 : Int) {t : ρ29} (R : AV → Mem → Prop) (hR : ∀ r : ρ29, t = r → ∀ u m, Ans ((intA r)) u m → R u m) : g29 n a0 = some t → F29 a0 R := by
  unfold g29 F29
  exact fun hg => ret1 (hR _ (Option.some.inj hg).symm) (fz_sc _ _)
theorem sg29 {n : Nat} {a0 : Int} {t : ρ29} (h : g29 n a0 = some t) : Says pg KK.gl 29 [(intA a0)] ((intA t)) :=
  says_of_own (by first | rfl | simp [cleans, clean, encs_clean, En.cln]) (by first | rfl | simp [cleans, clean, encs_clean, En.cln]) (F29_own a0 _ (g29_ok n a0 (Ans ((intA t))) (fun r e u m h => by rw [e]; exact h) h))
/- math.IsNaN -/
theorem g112_ok (n : Nat) (a0 : Nat) {t : ρ112} (R : AV → Mem → Prop) (hR : ∀ r : ρ112, t = r → ∀ u m, Ans ((boolA r)) u m → R u m) : g112 n a0 = some t → F112 a0 R := by
  unfold g112 F112
  refine fneq_s ?_
  exact fun hg => ret1 (hR _ (Option.some.inj hg).symm) (fz_sc _ _)
theorem sg112 {n : Nat} {a0 : Nat} {t : ρ112} (h : g112 n a0 = some t) : Says pg KK.gl 112 [(fltA a0)] ((boolA t)) :=
  says_of_own (by first | rfl | simp [cleans, clean, encs_clean, En.cln]) (by first | rfl | simp [cleans, clean, encs_clean, En.cln]) (F112_own a0 _ (g112_ok n a0 (Ans ((boolA t))) (fun r e u m h => by rw [e]; exact h) h))
/- math.Abs -/
theorem g123_ok (n : Nat) (a0 : Nat) {t : ρ123} (R : AV → Mem → Prop) (hR : ∀ r : ρ123, t = r → ∀ u m, Ans ((fltA r)) u m → R u m) : g123 n a0 = some t → F123 a0 R := by
  unfold g123 F123
  refine imp (callQ_ext (ext_bits _)) ?_
  refine imp ex_u64_b ?_
  refine iq (AV.sc (.int .u64 (bAndNot .u64 (a0 : Int) (9223372036854775808)))) (opA_bandNot _ _) ?_
  refine imp ex_u64_b ?_
  refine imp (callQ_ext (ext_frombits _)) ?_
  refine imp exF_b ?_
  exact fun hg => ret1 (hR _ (Option.some.inj hg).symm) (fz_sc _ _)
theorem sg123 {n : Nat} {a0 : Nat} {t : ρ123} (h : g123 n a0 = some t) : Says pg KK.gl 123 [(fltA a0)] ((fltA t)) :=
  says_of_own (by first | rfl | simp [cleans, clean, encs_clean, En.cln]) (by first | rfl | simp [cleans, clean, encs_clean, En.cln]) (F123_own a0 _ (g123_ok n a0 (Ans ((fltA t))) (fun r e u m h => by rw [e]; exact h) h))
/- math.IsInf -/
theorem g113_ok (n : Nat) (a0 : Nat) (a1 : Int) {t : ρ113} (R : AV → Mem → Prop) (hR : ∀ r : ρ113, t = r → ∀ u m, Ans ((boolA r)) u m → R u m) : g113 n a0 a1 = some t → F113 a0 a1 R := by
  unfold g113 F113
  refine cond_b (fun _ => ?_) (fun _ => ?_)
  · refine bind_b fun x63 h63 => ?_
    refine imp (callQ_says (sg123 h63)) ?_
    refine imp exF_b ?_
    refine fgtr_s ?_
    exact fun hg => ret1 (hR _ (Option.some.inj hg).symm) (fz_sc _ _)
  · refine cond_b (fun _ => ?_) (fun _ => ?_)
    · refine fneg_s ?_
      refine fgtr_s ?_
      exact fun hg => ret1 (hR _ (Option.some.inj hg).symm) (fz_sc _ _)
    · refine fgtr_s ?_
      exact fun hg => ret1 (hR _ (Option.some.inj hg).symm) (fz_sc _ _)
theorem sg113 {n : Nat} {a0 : Nat} {a1 : Int} {t : ρ113} (h : g113 n a0 a1 = some t) : Says pg KK.gl 113 [(fltA a0), (intA a1)] ((boolA t)) :=
  says_of_own (by first | rfl | simp [cleans, clean, encs_clean, En.cln]) (by first | rfl | simp [cleans, clean, encs_clean, En.cln]) (F113_own a0 a1 _ (g113_ok n a0 a1 (Ans ((boolA t))) (fun r e u m h => by rw [e]; exact h) h))
/- math.NaN -/
theorem g115_ok (n : Nat) {t : ρ115} (R : AV → Mem → Prop) (hR : ∀ r : ρ115, t = r → ∀ u m, Ans ((fltA r)) u m → R u m) : g115 n  = some t → F115  R := by
  unfold g115 F115
  refine imp (callQ_ext (ext_frombits _)) ?_
  refine imp exF_b ?_
  exact fun hg => ret1 (hR _ (Option.some.inj hg).symm) (fz_sc _ _)
theorem sg115 {n : Nat} {t : ρ115} (h : g115 n  = some t) : Says pg KK.gl 115 [] ((fltA t)) :=
  says_of_own (by first | rfl | simp [cleans, clean, encs_clean, En.cln]) (by first | rfl | simp [cleans, clean, encs_clean, En.cln]) (F115_own  _ (g115_ok n  (Ans ((fltA t))) (fun r e u m h => by rw [e]; exact h) h))
/- math.trigReduce -/
theorem sg135 {n : Nat} {a0 : Nat} {t : ρ135} (h : g135 n a0 = some t) : Says pg KK.gl 135 [(fltA a0)] ((AV.tup [(AV.sc (.int .u64 t.1)), (fltA t.2)])) := by
  unfold g135 at h; cases h
end Go.Proofs.YteaimbiojpjneaaGreatDoor
