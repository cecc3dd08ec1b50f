/- Plain functional programs out of the program's functions, with proofs that the functions compute them; printed by wip/Ext.lean.txt. -/
import Derived.Test.YtfncpfnanmoapaaX1G
import Derived.Test.YtfncpfnanmoapaaX1F1
import Derived.Test.YtfncpfnanmoapaaX1F2
import Derived.Test.YtfncpfnanmoapaaX1S
set_option linter.unusedVariables false
set_option linter.unusedSimpArgs false
set_option maxRecDepth 100000
set_option maxHeartbeats 4000000
namespace Go.Proofs.Ytfncpfnanmoapaa
theorem cloneC44 {n : Nat} {look : Nat → Option ABlk} {l : List TTubeNode} {u : Unit} (h : roomO l.length 48 = some u) : PureD Try.prog KK.gl look n 44 [lstA TTubeNode.E l] (ownV TTubeNode.E n l) [(n, ownB TTubeNode.E 66 l)] :=
  made_ownC (by simp [cleans, clean, encs_clean]) (F44_own _ _ (by
    unfold F44
    exact clone_ok (E := TTubeNode.E) rfl rfl h))
/- skyway/plane.Check -/
theorem g19_ok (n : Nat) (a0 : TP) {t : ρ19} (R : AV → Mem → Prop) (hR : ∀ r : ρ19, t = r → ∀ u m, Ans ((intA r)) u m → R u m) : g19 n a0 = some t → F19 a0.X a0.Y R := by
  unfold g19 F19
  refine cond_b (fun _ => ?_) (fun _ => ?_)
  · exact fun hg => ret1 (hR _ (Option.some.inj hg).symm) (fz_sc _ _)
  · refine cond_b (fun _ => ?_) (fun _ => ?_)
    · exact fun hg => ret1 (hR _ (Option.some.inj hg).symm) (fz_sc _ _)
    · refine cond_b (fun _ => ?_) (fun _ => ?_)
      · exact fun hg => ret1 (hR _ (Option.some.inj hg).symm) (fz_sc _ _)
      · refine cond_b (fun _ => ?_) (fun _ => ?_)
        · exact fun hg => ret1 (hR _ (Option.some.inj hg).symm) (fz_sc _ _)
        · exact fun hg => ret1 (hR _ (Option.some.inj hg).symm) (fz_sc _ _)
theorem sg19 {n : Nat} {a0 : TP} {t : ρ19} (h : g19 n a0 = some t) : Says Try.prog KK.gl 19 [(AV.agg [(intA a0.X), (intA a0.Y)])] ((intA t)) :=
  says_of_own (by first | rfl | simp [cleans, clean, encs_clean, En.cln]) (by first | rfl | simp [cleans, clean, encs_clean, En.cln]) (F19_own a0.X a0.Y _ (g19_ok n a0 (Ans ((intA t))) (fun r e u m h => by rw [e]; exact h) h))
/- skyway/tube.Check -/
theorem B22_0_ok (n : Nat) (a0 : List TTubeNode) (c2 : Int) (c15 : Int) (v16 : Int) {t : (Int) ⊕ ρ22} (R : AV → Mem → Prop) (N0 : St → Prop) (hR : ∀ r : ρ22, t = (.inr r) → ∀ u m, Ans ((intA r)) u m → R u m) (hN0 : ∀ y : Int, t = (.inl y) → ∀ s' : St, Weak KK 86 0 s' (h22_0 (lstA TTubeNode.E a0) c2 (lstA TTubeNode.E a0) c15 y []) → N0 s') : S22_0 n a0 c2 c15 v16 = some t → B22_0 (lstA TTubeNode.E a0) c2 (lstA TTubeNode.E a0) c15 v16 [] R N0 := by
  unfold S22_0 B22_0
  refine cond_b (fun _ => ?_) (fun _ => ?_)
  · refine bind_b fun x0 h0 => ?_
    refine imp (opP_of (show _ = some ((AV.ept [(intA x0.Node_Time), (intA x0.Node_At_X), (intA x0.Node_At_Y), (intA x0.Node_Height), (intA x0.Radius), (intA x0.Band)] 0), []) from (idx_lst (E := TTubeNode.E) rfl h0))) ?_
    refine imp (opP_of (show _ = some ((AV.agg [(intA x0.Node_Time), (intA x0.Node_At_X), (intA x0.Node_At_Y), (intA x0.Node_Height), (intA x0.Radius), (intA x0.Band)]), []) from rfl)) ?_
    refine imp exA6_b ?_
    refine imp ex_i64_b ?_
    refine imp ex_i64_b ?_
    refine imp ex_i64_b ?_
    refine imp ex_i64_b ?_
    refine imp ex_i64_b ?_
    refine imp ex_i64_b ?_
    refine cond_b (fun _ => ?_) (fun _ => ?_)
    · exact fun hg => ret1 (hR _ (Option.some.inj hg).symm) (fz_sc _ _)
    · refine cond_b (fun _ => ?_) (fun _ => ?_)
      · exact fun hg => ret1 (hR _ (Option.some.inj hg).symm) (fz_sc _ _)
      · refine cond_b (fun _ => ?_) (fun _ => ?_)
        · refine bind_b fun x1 h1 => ?_
          refine imp (opP_of (show _ = some ((AV.ept [(intA x1.Node_Time), (intA x1.Node_At_X), (intA x1.Node_At_Y), (intA x1.Node_Height), (intA x1.Radius), (intA x1.Band)] 0), []) from (idx_lst (E := TTubeNode.E) rfl h1))) ?_
          refine imp (opP_of (show _ = some ((AV.ept [(intA x1.Node_Time), (intA x1.Node_At_X), (intA x1.Node_At_Y), (intA x1.Node_Height), (intA x1.Radius), (intA x1.Band)] 0), []) from rfl)) ?_
          refine imp (opP_of (show _ = some ((AV.ept [(intA x1.Node_Time), (intA x1.Node_At_X), (intA x1.Node_At_Y), (intA x1.Node_Height), (intA x1.Radius), (intA x1.Band)] 0), []) from rfl)) ?_
          refine imp (opP_of (show _ = some ((intA x1.Node_Time), []) from rfl)) ?_
          refine imp ex_i64_b ?_
          refine cond_b (fun _ => ?_) (fun _ => ?_)
          · exact fun hg => ret1 (hR _ (Option.some.inj hg).symm) (fz_sc _ _)
          · refine bind_b fun x2 h2 => ?_
            refine imp (callQ_says (sg19 h2)) ?_
            refine imp ex_i64_b ?_
            refine cond_b (fun _ => ?_) (fun _ => ?_)
            · exact fun hg => ret1 (hR _ (Option.some.inj hg).symm) (fz_sc _ _)
            · refine cond_b (fun _ => ?_) (fun _ => ?_)
              · exact fun hg => ret1 (hR _ (Option.some.inj hg).symm) (fz_sc _ _)
              · refine cond_b (fun _ => ?_) (fun _ => ?_)
                · exact fun hg => ret1 (hR _ (Option.some.inj hg).symm) (fz_sc _ _)
                · refine cond_b (fun _ => ?_) (fun _ => ?_)
                  · exact fun hg => ret1 (hR _ (Option.some.inj hg).symm) (fz_sc _ _)
                  · refine cond_b (fun _ => ?_) (fun _ => ?_)
                    · exact fun hg => ret1 (hR _ (Option.some.inj hg).symm) (fz_sc _ _)
                    · refine cond_b (fun _ => ?_) (fun _ => ?_)
                      · exact fun hg => ret1 (hR _ (Option.some.inj hg).symm) (fz_sc _ _)
                      · refine cond_b (fun _ => ?_) (fun _ => ?_)
                        · exact fun hg => ret1 (hR _ (Option.some.inj hg).symm) (fz_sc _ _)
                        · exact fun hg => hN0 _ (Option.some.inj hg).symm _ (weak_mem [] rfl rfl rfl (okW_cons (ent_lst (E := TTubeNode.E) _ false) (okW_cons (.inl (leV_refl _)) (okW_cons (ent_lst (E := TTubeNode.E) _ false) (okW_cons (.inl (leV_refl _)) (okW_cons (.inl (leV_refl _)) okW_nil))))) okB_nil')
        · refine bind_b fun x3 h3 => ?_
          refine imp (callQ_says (sg19 h3)) ?_
          refine imp ex_i64_b ?_
          refine cond_b (fun _ => ?_) (fun _ => ?_)
          · exact fun hg => ret1 (hR _ (Option.some.inj hg).symm) (fz_sc _ _)
          · refine cond_b (fun _ => ?_) (fun _ => ?_)
            · exact fun hg => ret1 (hR _ (Option.some.inj hg).symm) (fz_sc _ _)
            · refine cond_b (fun _ => ?_) (fun _ => ?_)
              · exact fun hg => ret1 (hR _ (Option.some.inj hg).symm) (fz_sc _ _)
              · refine cond_b (fun _ => ?_) (fun _ => ?_)
                · exact fun hg => ret1 (hR _ (Option.some.inj hg).symm) (fz_sc _ _)
                · refine cond_b (fun _ => ?_) (fun _ => ?_)
                  · exact fun hg => ret1 (hR _ (Option.some.inj hg).symm) (fz_sc _ _)
                  · refine cond_b (fun _ => ?_) (fun _ => ?_)
                    · exact fun hg => ret1 (hR _ (Option.some.inj hg).symm) (fz_sc _ _)
                    · refine cond_b (fun _ => ?_) (fun _ => ?_)
                      · exact fun hg => ret1 (hR _ (Option.some.inj hg).symm) (fz_sc _ _)
                      · exact fun hg => hN0 _ (Option.some.inj hg).symm _ (weak_mem [] rfl rfl rfl (okW_cons (ent_lst (E := TTubeNode.E) _ false) (okW_cons (.inl (leV_refl _)) (okW_cons (ent_lst (E := TTubeNode.E) _ false) (okW_cons (.inl (leV_refl _)) (okW_cons (.inl (leV_refl _)) okW_nil))))) okB_nil')
  · exact fun hg => ret1 (hR _ (Option.some.inj hg).symm) (fz_sc _ _)
theorem L22_0_ok (n : Nat) (a0 : List TTubeNode) (c2 : Int) (c15 : Int) {t : ρ22} (R : AV → Mem → Prop) (hR : ∀ r : ρ22, t = r → ∀ u m, Ans ((intA r)) u m → R u m) (k : Nat) (x : Int) (hx : iterO (fun y : Int => S22_0 n a0 c2 c15 y) k x = some t) {s : St} (hw : Weak KK 86 0 s (h22_0 (lstA TTubeNode.E a0) c2 (lstA TTubeNode.E a0) c15 x [])) : Tri Try.prog KK 86 0 (.loop c22_0) s (q22_0 R ) :=
  L22_0 R  (σ := Nat × (Int)) (fun z => iterO (fun y : Int => S22_0 n a0 c2 c15 y) z.1 z.2 = some t) (fun z => (lstA TTubeNode.E a0)) (fun z => c2) (fun z => (lstA TTubeNode.E a0)) (fun z => c15) (fun z => z.2) (fun z => []) (fun z => z.1) (by
    rintro ⟨k, y⟩ h
    cases k with
    | zero => exact (iterO_zero h).elim
    | succ k =>
      obtain ⟨u, h1, h2, h3⟩ := iterO_elim h
      exact B22_0_ok n a0 c2 c15 y R  _ (fun r e => hR r (h3 _ e).symm)  (fun y' e s' hw => ⟨(k, y'), h2 _ e, Nat.lt_succ_self k, hw⟩) h1) (k, x) hx hw
theorem g22_ok (n : Nat) (a0 : List TTubeNode) {t : ρ22} (R : AV → Mem → Prop) (hR : ∀ r : ρ22, t = r → ∀ u m, Ans ((intA r)) u m → R u m) : g22 n a0 = some t → F22 (lstA TTubeNode.E a0) R := by
  unfold g22 F22
  refine imp (opP_of (show _ = some ((intA (a0.length : Int)), []) from rfl)) ?_
  refine imp ex_i64_b ?_
  refine cond_b (fun _ => ?_) (fun _ => ?_)
  · exact fun hg => ret1 (hR _ (Option.some.inj hg).symm) (fz_sc _ _)
  · refine imp (opP_of (show _ = some ((intA (a0.length : Int)), []) from rfl)) ?_
    refine imp ex_i64_b ?_
    refine cond_b (fun _ => ?_) (fun _ => ?_)
    · exact fun hg => ret1 (hR _ (Option.some.inj hg).symm) (fz_sc _ _)
    · refine imp (opP_of (show _ = some ((intA (a0.length : Int)), []) from rfl)) ?_
      refine imp ex_i64_b ?_
      exact fun hg => L22_0_ok n a0 (0) (a0.length : Int) R  hR n _ hg (weak_mem [] rfl rfl rfl (okW_cons (ent_lst (E := TTubeNode.E) _ false) (okW_cons (.inl (leV_refl _)) (okW_cons (ent_lst (E := TTubeNode.E) _ false) (okW_cons (.inl (leV_refl _)) (okW_cons (.inl (leV_refl _)) okW_nil))))) okB_nil')
theorem sg22 {n : Nat} {a0 : List TTubeNode} {t : ρ22} (h : g22 n a0 = some t) : Says Try.prog KK.gl 22 [(lstA TTubeNode.E a0)] ((intA t)) :=
  says_of_own (by first | rfl | simp [cleans, clean, encs_clean, En.cln]) (by first | rfl | simp [cleans, clean, encs_clean, En.cln]) (F22_own (lstA TTubeNode.E a0) _ (g22_ok n a0 (Ans ((intA t))) (fun r e u m h => by rw [e]; exact h) h))
/- skyway/tube.ends -/
theorem g46_ok (n : Nat) (a0 : List TTubeNode) {t : ρ46} (R : AV → Mem → Prop) (hR : ∀ r : ρ46, t = r → ∀ u m, Ans ((AV.tup [(intA r.1), (intA r.2)])) u m → R u m) : g46 n a0 = some t → F46 (lstA TTubeNode.E a0) R := by
  unfold g46 F46
  refine bind_b fun x4 h4 => ?_
  refine imp (opP_of (show _ = some ((AV.ept [(intA x4.Node_Time), (intA x4.Node_At_X), (intA x4.Node_At_Y), (intA x4.Node_Height), (intA x4.Radius), (intA x4.Band)] 0), []) from (idx_lst (E := TTubeNode.E) rfl h4))) ?_
  refine imp (opP_of (show _ = some ((AV.ept [(intA x4.Node_Time), (intA x4.Node_At_X), (intA x4.Node_At_Y), (intA x4.Node_Height), (intA x4.Radius), (intA x4.Band)] 0), []) from rfl)) ?_
  refine imp (opP_of (show _ = some ((AV.ept [(intA x4.Node_Time), (intA x4.Node_At_X), (intA x4.Node_At_Y), (intA x4.Node_Height), (intA x4.Radius), (intA x4.Band)] 0), []) from rfl)) ?_
  refine imp (opP_of (show _ = some ((intA x4.Node_Time), []) from rfl)) ?_
  refine imp ex_i64_b ?_
  refine imp (opP_of (show _ = some ((intA (a0.length : Int)), []) from rfl)) ?_
  refine imp ex_i64_b ?_
  refine bind_b fun x5 h5 => ?_
  refine imp (opP_of (show _ = some ((AV.ept [(intA x5.Node_Time), (intA x5.Node_At_X), (intA x5.Node_At_Y), (intA x5.Node_Height), (intA x5.Radius), (intA x5.Band)] 0), []) from (idx_lst (E := TTubeNode.E) rfl h5))) ?_
  refine imp (opP_of (show _ = some ((AV.ept [(intA x5.Node_Time), (intA x5.Node_At_X), (intA x5.Node_At_Y), (intA x5.Node_Height), (intA x5.Radius), (intA x5.Band)] 0), []) from rfl)) ?_
  refine imp (opP_of (show _ = some ((AV.ept [(intA x5.Node_Time), (intA x5.Node_At_X), (intA x5.Node_At_Y), (intA x5.Node_Height), (intA x5.Radius), (intA x5.Band)] 0), []) from rfl)) ?_
  refine imp (opP_of (show _ = some ((intA x5.Node_Time), []) from rfl)) ?_
  refine imp ex_i64_b ?_
  exact fun hg => retN rfl (hR _ (Option.some.inj hg).symm) (fzL_cons (fz_sc _ _) (fzL_cons (fz_sc _ _) fzL_nil))
theorem sg46 {n : Nat} {a0 : List TTubeNode} {t : ρ46} (h : g46 n a0 = some t) : Says Try.prog KK.gl 46 [(lstA TTubeNode.E a0)] ((AV.tup [(intA t.1), (intA t.2)])) :=
  says_of_own (by first | rfl | simp [cleans, clean, encs_clean, En.cln]) (by first | rfl | simp [cleans, clean, encs_clean, En.cln]) (F46_own (lstA TTubeNode.E a0) _ (g46_ok n a0 (Ans ((AV.tup [(intA t.1), (intA t.2)]))) (fun r e u m h => by rw [e]; exact h) h))
/- skyway/polygon.next -/
theorem g39_ok (n : Nat) (a0 : List TP) (a1 : Int) {t : ρ39} (R : AV → Mem → Prop) (hR : ∀ r : ρ39, t = r → ∀ u m, Ans ((AV.agg (TP.E.enc r))) u m → R u m) : g39 n a0 a1 = some t → F39 (lstA TP.E a0) a1 R := by
  unfold g39 F39
  refine imp (opP_of (show _ = some ((intA (a0.length : Int)), []) from rfl)) ?_
  refine imp ex_i64_b ?_
  refine bind_b fun x9 h9 => ?_
  refine imp (opP_of (show _ = some ((intA x9), []) from (opA_rem h9))) ?_
  refine imp ex_i64_b ?_
  refine bind_b fun x10 h10 => ?_
  refine imp (opP_of (show _ = some ((AV.ept [(intA x10.X), (intA x10.Y)] 0), []) from (idx_lst (E := TP.E) rfl h10))) ?_
  refine imp (opP_of (show _ = some ((AV.agg [(intA x10.X), (intA x10.Y)]), []) from rfl)) ?_
  refine imp exA2_b ?_
  refine imp ex_i64_b ?_
  refine imp ex_i64_b ?_
  exact fun hg => ret1 (hR _ (Option.some.inj hg).symm) (fz_el (E := TP.E) _ x10)
theorem sg39 {n : Nat} {a0 : List TP} {a1 : Int} {t : ρ39} (h : g39 n a0 a1 = some t) : Says Try.prog KK.gl 39 [(lstA TP.E a0), (intA a1)] ((AV.agg (TP.E.enc t))) :=
  says_of_own (by first | rfl | simp [cleans, clean, encs_clean, En.cln]) (by first | rfl | simp [cleans, clean, encs_clean, En.cln]) (F39_own (lstA TP.E a0) a1 _ (g39_ok n a0 a1 (Ans ((AV.agg (TP.E.enc t)))) (fun r e u m h => by rw [e]; exact h) h))
/- skyway/plane.Sub -/
theorem g51_ok (n : Nat) (a0 : TP) (a1 : TP) {t : ρ51} (R : AV → Mem → Prop) (hR : ∀ r : ρ51, t = r → ∀ u m, Ans ((AV.agg (TP.E.enc r))) u m → R u m) : g51 n a0 a1 = some t → F51 a0.X a0.Y a1.X a1.Y R := by
  unfold g51 F51
  refine imp (opP_of (show _ = some ((AV.agg [(intA (IntKind.wrap .i64 (a0.X - a1.X))), (intA (IntKind.wrap .i64 (a0.Y - a1.Y)))]), []) from rfl)) ?_
  refine imp (storeW_cells (sz := 2) (by kernel_rfl) (by kernel_rfl) rfl rfl (cs := [(intA (0)), (intA (0))]) (cs' := [(intA (IntKind.wrap .i64 (a0.X - a1.X))), (intA (IntKind.wrap .i64 (a0.Y - a1.Y)))]) (ty := 24) (by first | rfl | (simp (disch := first | decide | assumption) only [mpushs_nil, mpushs_cons, mget_hd, mget_tl, mget_appW_o, mget_appW_n, mget_appW_e])) rfl rfl) ?_
  exact fun hg => ret1 (hR _ (Option.some.inj hg).symm) (fz_el (E := TP.E) _ (⟨(IntKind.wrap .i64 (a0.X - a1.X)), (IntKind.wrap .i64 (a0.Y - a1.Y))⟩ : TP))
theorem sg51 {n : Nat} {a0 : TP} {a1 : TP} {t : ρ51} (h : g51 n a0 a1 = some t) : Says Try.prog KK.gl 51 [(AV.agg [(intA a0.X), (intA a0.Y)]), (AV.agg [(intA a1.X), (intA a1.Y)])] ((AV.agg (TP.E.enc t))) :=
  says_of_own (by first | rfl | simp [cleans, clean, encs_clean, En.cln]) (by first | rfl | simp [cleans, clean, encs_clean, En.cln]) (F51_own a0.X a0.Y a1.X a1.Y _ (g51_ok n a0 a1 (Ans ((AV.agg (TP.E.enc t)))) (fun r e u m h => by rw [e]; exact h) h))
/- skyway/plane.Cross -/
theorem g41_ok (n : Nat) (a0 : TP) (a1 : TP) {t : ρ41} (R : AV → Mem → Prop) (hR : ∀ r : ρ41, t = r → ∀ u m, Ans ((intA r)) u m → R u m) : g41 n a0 a1 = some t → F41 a0.X a0.Y a1.X a1.Y R := by
  unfold g41 F41
  exact fun hg => ret1 (hR _ (Option.some.inj hg).symm) (fz_sc _ _)
theorem sg41 {n : Nat} {a0 : TP} {a1 : TP} {t : ρ41} (h : g41 n a0 a1 = some t) : Says Try.prog KK.gl 41 [(AV.agg [(intA a0.X), (intA a0.Y)]), (AV.agg [(intA a1.X), (intA a1.Y)])] ((intA t)) :=
  says_of_own (by first | rfl | simp [cleans, clean, encs_clean, En.cln]) (by first | rfl | simp [cleans, clean, encs_clean, En.cln]) (F41_own a0.X a0.Y a1.X a1.Y _ (g41_ok n a0 a1 (Ans ((intA t))) (fun r e u m h => by rw [e]; exact h) h))
/- skyway/plane.Turn -/
theorem g38_ok (n : Nat) (a0 : TP) (a1 : TP) (a2 : TP) {t : ρ38} (R : AV → Mem → Prop) (hR : ∀ r : ρ38, t = r → ∀ u m, Ans ((intA r)) u m → R u m) : g38 n a0 a1 a2 = some t → F38 a0.X a0.Y a1.X a1.Y a2.X a2.Y R := by
  unfold g38 F38
  refine bind_b fun x12 h12 => ?_
  refine imp (callQ_says (sg51 h12)) ?_
  refine imp exA2_b ?_
  refine imp ex_i64_b ?_
  refine imp ex_i64_b ?_
  refine bind_b fun x13 h13 => ?_
  refine imp (callQ_says (sg51 h13)) ?_
  refine imp exA2_b ?_
  refine imp ex_i64_b ?_
  refine imp ex_i64_b ?_
  refine bind_b fun x14 h14 => ?_
  refine imp (callQ_says (sg41 h14)) ?_
  refine imp ex_i64_b ?_
  refine cond_b (fun _ => ?_) (fun _ => ?_)
  · exact fun hg => ret1 (hR _ (Option.some.inj hg).symm) (fz_sc _ _)
  · refine cond_b (fun _ => ?_) (fun _ => ?_)
    · exact fun hg => ret1 (hR _ (Option.some.inj hg).symm) (fz_sc _ _)
    · exact fun hg => ret1 (hR _ (Option.some.inj hg).symm) (fz_sc _ _)
theorem sg38 {n : Nat} {a0 : TP} {a1 : TP} {a2 : TP} {t : ρ38} (h : g38 n a0 a1 a2 = some t) : Says Try.prog KK.gl 38 [(AV.agg [(intA a0.X), (intA a0.Y)]), (AV.agg [(intA a1.X), (intA a1.Y)]), (AV.agg [(intA a2.X), (intA a2.Y)])] ((intA t)) :=
  says_of_own (by first | rfl | simp [cleans, clean, encs_clean, En.cln]) (by first | rfl | simp [cleans, clean, encs_clean, En.cln]) (F38_own a0.X a0.Y a1.X a1.Y a2.X a2.Y _ (g38_ok n a0 a1 a2 (Ans ((intA t))) (fun r e u m h => by rw [e]; exact h) h))
/- skyway/polygon.between -/
theorem g62_ok (n : Nat) (a0 : TP) (a1 : TP) (a2 : TP) {t : ρ62} (R : AV → Mem → Prop) (hR : ∀ r : ρ62, t = r → ∀ u m, Ans ((boolA r)) u m → R u m) : g62 n a0 a1 a2 = some t → F62 a0.X a0.Y a1.X a1.Y a2.X a2.Y R := by
  unfold g62 F62
  refine imp (opP_of (show _ = some ((intA (if a1.X < a0.X then a1.X else a0.X)), []) from (by kernel_rfl))) ?_
  refine imp ex_i64_b ?_
  refine cond_b (fun _ => ?_) (fun _ => ?_)
  · refine imp (opP_of (show _ = some ((intA (if a1.X > a0.X then a1.X else a0.X)), []) from (by kernel_rfl))) ?_
    refine imp ex_i64_b ?_
    refine cond_b (fun _ => ?_) (fun _ => ?_)
    · refine imp (opP_of (show _ = some ((intA (if a1.Y < a0.Y then a1.Y else a0.Y)), []) from (by kernel_rfl))) ?_
      refine imp ex_i64_b ?_
      refine cond_b (fun _ => ?_) (fun _ => ?_)
      · refine imp (opP_of (show _ = some ((intA (if a1.Y > a0.Y then a1.Y else a0.Y)), []) from (by kernel_rfl))) ?_
        refine imp ex_i64_b ?_
        exact fun hg => ret1 (hR _ (Option.some.inj hg).symm) (fz_sc _ _)
      · exact fun hg => ret1 (hR _ (Option.some.inj hg).symm) (fz_sc _ _)
    · exact fun hg => ret1 (hR _ (Option.some.inj hg).symm) (fz_sc _ _)
  · exact fun hg => ret1 (hR _ (Option.some.inj hg).symm) (fz_sc _ _)
theorem sg62 {n : Nat} {a0 : TP} {a1 : TP} {a2 : TP} {t : ρ62} (h : g62 n a0 a1 a2 = some t) : Says Try.prog KK.gl 62 [(AV.agg [(intA a0.X), (intA a0.Y)]), (AV.agg [(intA a1.X), (intA a1.Y)]), (AV.agg [(intA a2.X), (intA a2.Y)])] ((boolA t)) :=
  says_of_own (by first | rfl | simp [cleans, clean, encs_clean, En.cln]) (by first | rfl | simp [cleans, clean, encs_clean, En.cln]) (F62_own a0.X a0.Y a1.X a1.Y a2.X a2.Y _ (g62_ok n a0 a1 a2 (Ans ((boolA t))) (fun r e u m h => by rw [e]; exact h) h))
/- skyway/polygon.on -/
theorem g52_ok (n : Nat) (a0 : TP) (a1 : TP) (a2 : TP) {t : ρ52} (R : AV → Mem → Prop) (hR : ∀ r : ρ52, t = r → ∀ u m, Ans ((boolA r)) u m → R u m) : g52 n a0 a1 a2 = some t → F52 a0.X a0.Y a1.X a1.Y a2.X a2.Y R := by
  unfold g52 F52
  refine bind_b fun x15 h15 => ?_
  refine imp (callQ_says (sg38 h15)) ?_
  refine imp ex_i64_b ?_
  refine cond_b (fun _ => ?_) (fun _ => ?_)
  · refine bind_b fun x16 h16 => ?_
    refine imp (callQ_says (sg62 h16)) ?_
    refine imp exB_b ?_
    exact fun hg => ret1 (hR _ (Option.some.inj hg).symm) (fz_sc _ _)
  · exact fun hg => ret1 (hR _ (Option.some.inj hg).symm) (fz_sc _ _)
theorem sg52 {n : Nat} {a0 : TP} {a1 : TP} {a2 : TP} {t : ρ52} (h : g52 n a0 a1 a2 = some t) : Says Try.prog KK.gl 52 [(AV.agg [(intA a0.X), (intA a0.Y)]), (AV.agg [(intA a1.X), (intA a1.Y)]), (AV.agg [(intA a2.X), (intA a2.Y)])] ((boolA t)) :=
  says_of_own (by first | rfl | simp [cleans, clean, encs_clean, En.cln]) (by first | rfl | simp [cleans, clean, encs_clean, En.cln]) (F52_own a0.X a0.Y a1.X a1.Y a2.X a2.Y _ (g52_ok n a0 a1 a2 (Ans ((boolA t))) (fun r e u m h => by rw [e]; exact h) h))
/- skyway/polygon.Place -/
theorem B43_0_ok (n : Nat) (a0 : List TP) (c4 : Int) (c11 : Int) (k0_0 : Int) (k0_1 : Int) (v5 : Int) (v12 : Int) {t : (Int × Int) ⊕ ρ43} (R : AV → Mem → Prop) (N0 : St → Prop) (hR : ∀ r : ρ43, t = (.inr r) → ∀ u m, Ans ((intA r)) u m → R u m) (hN0 : ∀ y : Int × Int, t = (.inl y) → ∀ s' : St, Weak KK 65 0 s' (h43_0 (lstA TP.E a0) c4 y.1 c11 y.2 k0_0 k0_1 []) → N0 s') : S43_0 n a0 c4 c11 k0_0 k0_1 v5 v12 = some t → B43_0 (lstA TP.E a0) c4 v5 c11 v12 k0_0 k0_1 [] R N0 := by
  unfold S43_0 B43_0
  refine cond_b (fun _ => ?_) (fun _ => ?_)
  · refine bind_b fun x8 h8 => ?_
    refine imp (opM_of (show _ = some ((AV.ept [(intA x8.X), (intA x8.Y)] 0), []) from (idx_lst (E := TP.E) rfl h8))) ?_
    refine imp (opM_of (show _ = some ((AV.agg [(intA x8.X), (intA x8.Y)]), []) from rfl)) ?_
    refine imp exA2_b ?_
    refine imp ex_i64_b ?_
    refine imp ex_i64_b ?_
    refine bind_b fun x11 h11 => ?_
    refine imp (callF_says (sg39 h11)) ?_
    refine imp exA2_b ?_
    refine imp ex_i64_b ?_
    refine imp ex_i64_b ?_
    refine imp (storeW_cells (sz := 2) (by kernel_rfl) (by kernel_rfl) rfl rfl (cs := [(intA (0)), (intA (0))]) (cs' := [(intA x8.X), (intA x8.Y)]) (ty := 24) (by first | rfl | (rw [look'_mem (by first | rfl | simp [topId_blk] | simp [topId])]; first | rfl | (simp (disch := first | decide | assumption) only [mpushs_nil, mpushs_cons, mget_hd, mget_tl, mget_appW_o, mget_appW_n, mget_appW_e]))) rfl rfl) ?_
    refine imp (storeW_cells (sz := 2) (by kernel_rfl) (by kernel_rfl) rfl rfl (cs := [(intA (0)), (intA (0))]) (cs' := [(intA x11.X), (intA x11.Y)]) (ty := 24) (by first | rfl | (rw [look'_mem (by first | rfl | simp [topId_blk] | simp [topId])]; first | rfl | (simp (disch := first | decide | assumption) only [mpushs_nil, mpushs_cons, mget_hd, mget_tl, mget_appW_o, mget_appW_n, mget_appW_e]))) rfl rfl) ?_
    refine imp (chk_of (by kernel_rfl)) ?_
    refine imp (opP_of (show _ = some ((AV.agg [(intA x8.X), (intA x8.Y)]), []) from (ldA_ptr (b := ⟨[(intA x8.X), (intA x8.Y)], 24⟩) (by first | rfl | (simp (disch := first | decide | assumption) only [mpushs_nil, mpushs_cons, mget_hd, mget_tl, mget_appW_o, mget_appW_n, mget_appW_e])) rfl))) ?_
    refine imp exA2_b ?_
    refine imp ex_i64_b ?_
    refine imp ex_i64_b ?_
    refine imp (opP_of (show _ = some ((AV.agg [(intA x11.X), (intA x11.Y)]), []) from (ldA_ptr (b := ⟨[(intA x11.X), (intA x11.Y)], 24⟩) (by first | rfl | (simp (disch := first | decide | assumption) only [mpushs_nil, mpushs_cons, mget_hd, mget_tl, mget_appW_o, mget_appW_n, mget_appW_e])) rfl))) ?_
    refine imp exA2_b ?_
    refine imp ex_i64_b ?_
    refine imp ex_i64_b ?_
    refine imp (opP_of (show _ = some ((AV.agg [(intA k0_0), (intA k0_1)]), []) from (ldA_ptr (b := ⟨[(intA k0_0), (intA k0_1)], 24⟩) (by first | rfl | (simp (disch := first | decide | assumption) only [mpushs_nil, mpushs_cons, mget_hd, mget_tl, mget_appW_o, mget_appW_n, mget_appW_e])) rfl))) ?_
    refine imp exA2_b ?_
    refine imp ex_i64_b ?_
    refine imp ex_i64_b ?_
    refine bind_b fun x17 h17 => ?_
    refine imp (callQ_says (sg52 h17)) ?_
    refine imp exB_b ?_
    refine cond_b (fun _ => ?_) (fun _ => ?_)
    · exact fun hg => ret1 (hR _ (Option.some.inj hg).symm) (fz_sc _ _)
    · refine imp (opP_of (show _ = some ((intA x8.Y), []) from (ldS_ptr (b := ⟨[(intA x8.X), (intA x8.Y)], 24⟩) (by first | rfl | (simp (disch := first | decide | assumption) only [mpushs_nil, mpushs_cons, mget_hd, mget_tl, mget_appW_o, mget_appW_n, mget_appW_e])) rfl))) ?_
      refine imp ex_i64_b ?_
      refine imp (opP_of (show _ = some ((intA k0_1), []) from (ldS_ptr (b := ⟨[(intA k0_0), (intA k0_1)], 24⟩) (by first | rfl | (simp (disch := first | decide | assumption) only [mpushs_nil, mpushs_cons, mget_hd, mget_tl, mget_appW_o, mget_appW_n, mget_appW_e])) rfl))) ?_
      refine imp ex_i64_b ?_
      refine imp (opP_of (show _ = some ((intA x11.Y), []) from (ldS_ptr (b := ⟨[(intA x11.X), (intA x11.Y)], 24⟩) (by first | rfl | (simp (disch := first | decide | assumption) only [mpushs_nil, mpushs_cons, mget_hd, mget_tl, mget_appW_o, mget_appW_n, mget_appW_e])) rfl))) ?_
      refine imp ex_i64_b ?_
      refine imp (opP_of (show _ = some ((intA k0_1), []) from (ldS_ptr (b := ⟨[(intA k0_0), (intA k0_1)], 24⟩) (by first | rfl | (simp (disch := first | decide | assumption) only [mpushs_nil, mpushs_cons, mget_hd, mget_tl, mget_appW_o, mget_appW_n, mget_appW_e])) rfl))) ?_
      refine imp ex_i64_b ?_
      refine imp (opP_of (show _ = some ((boolA (!((decide (x8.Y > k0_1)) == (decide (x11.Y > k0_1))))), []) from (by kernel_rfl))) ?_
      refine imp exB_b ?_
      refine cond_b (fun _ => ?_) (fun _ => ?_)
      · refine imp (opP_of (show _ = some ((AV.agg [(intA x8.X), (intA x8.Y)]), []) from (ldA_ptr (b := ⟨[(intA x8.X), (intA x8.Y)], 24⟩) (by first | rfl | (simp (disch := first | decide | assumption) only [mpushs_nil, mpushs_cons, mget_hd, mget_tl, mget_appW_o, mget_appW_n, mget_appW_e])) rfl))) ?_
        refine imp exA2_b ?_
        refine imp ex_i64_b ?_
        refine imp ex_i64_b ?_
        refine imp (opP_of (show _ = some ((AV.agg [(intA x11.X), (intA x11.Y)]), []) from (ldA_ptr (b := ⟨[(intA x11.X), (intA x11.Y)], 24⟩) (by first | rfl | (simp (disch := first | decide | assumption) only [mpushs_nil, mpushs_cons, mget_hd, mget_tl, mget_appW_o, mget_appW_n, mget_appW_e])) rfl))) ?_
        refine imp exA2_b ?_
        refine imp ex_i64_b ?_
        refine imp ex_i64_b ?_
        refine imp (opP_of (show _ = some ((AV.agg [(intA k0_0), (intA k0_1)]), []) from (ldA_ptr (b := ⟨[(intA k0_0), (intA k0_1)], 24⟩) (by first | rfl | (simp (disch := first | decide | assumption) only [mpushs_nil, mpushs_cons, mget_hd, mget_tl, mget_appW_o, mget_appW_n, mget_appW_e])) rfl))) ?_
        refine imp exA2_b ?_
        refine imp ex_i64_b ?_
        refine imp ex_i64_b ?_
        refine bind_b fun x18 h18 => ?_
        refine imp (callQ_says (sg38 h18)) ?_
        refine imp ex_i64_b ?_
        refine imp (opP_of (show _ = some ((intA x11.Y), []) from (ldS_ptr (b := ⟨[(intA x11.X), (intA x11.Y)], 24⟩) (by first | rfl | (simp (disch := first | decide | assumption) only [mpushs_nil, mpushs_cons, mget_hd, mget_tl, mget_appW_o, mget_appW_n, mget_appW_e])) rfl))) ?_
        refine imp ex_i64_b ?_
        refine imp (opP_of (show _ = some ((intA x8.Y), []) from (ldS_ptr (b := ⟨[(intA x8.X), (intA x8.Y)], 24⟩) (by first | rfl | (simp (disch := first | decide | assumption) only [mpushs_nil, mpushs_cons, mget_hd, mget_tl, mget_appW_o, mget_appW_n, mget_appW_e])) rfl))) ?_
        refine imp ex_i64_b ?_
        refine cond_b (fun _ => ?_) (fun _ => ?_)
        · refine cond_b (fun _ => ?_) (fun _ => ?_)
          · refine imp (opP_of (show _ = some ((intA (IntKind.wrap .i64 (0 - v5))), []) from (by kernel_rfl))) ?_
            refine imp ex_i64_b ?_
            exact fun hg => hN0 _ (Option.some.inj hg).symm _ (weak_mem [(0, 0)] rfl rfl rfl (okW_cons (ent_lst (E := TP.E) _ false) (okW_cons (.inl (leV_refl _)) (okW_cons (.inl (leV_refl _)) (okW_cons (.inl (leV_refl _)) (okW_cons (.inl (leV_refl _)) (okW_cons (.inl (leV_refl _)) okW_nil)))))) (okB_cons (okB_cells (cs := [(intA k0_0), (intA k0_1)]) (ty := 24) rfl (show mget _ 0 = _ from (by first | rfl | (simp (disch := first | decide | assumption) only [mpushs_nil, mpushs_cons, mget_hd, mget_tl, mget_appW_o, mget_appW_n, mget_appW_e])))) okB_nil'))
          · refine imp (opP_of (show _ = some ((intA x11.Y), []) from (ldS_ptr (b := ⟨[(intA x11.X), (intA x11.Y)], 24⟩) (by first | rfl | (simp (disch := first | decide | assumption) only [mpushs_nil, mpushs_cons, mget_hd, mget_tl, mget_appW_o, mget_appW_n, mget_appW_e])) rfl))) ?_
            refine imp ex_i64_b ?_
            refine imp (opP_of (show _ = some ((intA x8.Y), []) from (ldS_ptr (b := ⟨[(intA x8.X), (intA x8.Y)], 24⟩) (by first | rfl | (simp (disch := first | decide | assumption) only [mpushs_nil, mpushs_cons, mget_hd, mget_tl, mget_appW_o, mget_appW_n, mget_appW_e])) rfl))) ?_
            refine imp ex_i64_b ?_
            refine cond_b (fun _ => ?_) (fun _ => ?_)
            · refine cond_b (fun _ => ?_) (fun _ => ?_)
              · refine imp (opP_of (show _ = some ((intA (IntKind.wrap .i64 (0 - v5))), []) from (by kernel_rfl))) ?_
                refine imp ex_i64_b ?_
                exact fun hg => hN0 _ (Option.some.inj hg).symm _ (weak_mem [(0, 0)] rfl rfl rfl (okW_cons (ent_lst (E := TP.E) _ false) (okW_cons (.inl (leV_refl _)) (okW_cons (.inl (leV_refl _)) (okW_cons (.inl (leV_refl _)) (okW_cons (.inl (leV_refl _)) (okW_cons (.inl (leV_refl _)) okW_nil)))))) (okB_cons (okB_cells (cs := [(intA k0_0), (intA k0_1)]) (ty := 24) rfl (show mget _ 0 = _ from (by first | rfl | (simp (disch := first | decide | assumption) only [mpushs_nil, mpushs_cons, mget_hd, mget_tl, mget_appW_o, mget_appW_n, mget_appW_e])))) okB_nil'))
              · exact fun hg => hN0 _ (Option.some.inj hg).symm _ (weak_mem [(0, 0)] rfl rfl rfl (okW_cons (ent_lst (E := TP.E) _ false) (okW_cons (.inl (leV_refl _)) (okW_cons (.inl (leV_refl _)) (okW_cons (.inl (leV_refl _)) (okW_cons (.inl (leV_refl _)) (okW_cons (.inl (leV_refl _)) okW_nil)))))) (okB_cons (okB_cells (cs := [(intA k0_0), (intA k0_1)]) (ty := 24) rfl (show mget _ 0 = _ from (by first | rfl | (simp (disch := first | decide | assumption) only [mpushs_nil, mpushs_cons, mget_hd, mget_tl, mget_appW_o, mget_appW_n, mget_appW_e])))) okB_nil'))
            · exact fun hg => hN0 _ (Option.some.inj hg).symm _ (weak_mem [(0, 0)] rfl rfl rfl (okW_cons (ent_lst (E := TP.E) _ false) (okW_cons (.inl (leV_refl _)) (okW_cons (.inl (leV_refl _)) (okW_cons (.inl (leV_refl _)) (okW_cons (.inl (leV_refl _)) (okW_cons (.inl (leV_refl _)) okW_nil)))))) (okB_cons (okB_cells (cs := [(intA k0_0), (intA k0_1)]) (ty := 24) rfl (show mget _ 0 = _ from (by first | rfl | (simp (disch := first | decide | assumption) only [mpushs_nil, mpushs_cons, mget_hd, mget_tl, mget_appW_o, mget_appW_n, mget_appW_e])))) okB_nil'))
        · refine imp (opP_of (show _ = some ((intA x11.Y), []) from (ldS_ptr (b := ⟨[(intA x11.X), (intA x11.Y)], 24⟩) (by first | rfl | (simp (disch := first | decide | assumption) only [mpushs_nil, mpushs_cons, mget_hd, mget_tl, mget_appW_o, mget_appW_n, mget_appW_e])) rfl))) ?_
          refine imp ex_i64_b ?_
          refine imp (opP_of (show _ = some ((intA x8.Y), []) from (ldS_ptr (b := ⟨[(intA x8.X), (intA x8.Y)], 24⟩) (by first | rfl | (simp (disch := first | decide | assumption) only [mpushs_nil, mpushs_cons, mget_hd, mget_tl, mget_appW_o, mget_appW_n, mget_appW_e])) rfl))) ?_
          refine imp ex_i64_b ?_
          refine cond_b (fun _ => ?_) (fun _ => ?_)
          · refine cond_b (fun _ => ?_) (fun _ => ?_)
            · refine imp (opP_of (show _ = some ((intA (IntKind.wrap .i64 (0 - v5))), []) from (by kernel_rfl))) ?_
              refine imp ex_i64_b ?_
              exact fun hg => hN0 _ (Option.some.inj hg).symm _ (weak_mem [(0, 0)] rfl rfl rfl (okW_cons (ent_lst (E := TP.E) _ false) (okW_cons (.inl (leV_refl _)) (okW_cons (.inl (leV_refl _)) (okW_cons (.inl (leV_refl _)) (okW_cons (.inl (leV_refl _)) (okW_cons (.inl (leV_refl _)) okW_nil)))))) (okB_cons (okB_cells (cs := [(intA k0_0), (intA k0_1)]) (ty := 24) rfl (show mget _ 0 = _ from (by first | rfl | (simp (disch := first | decide | assumption) only [mpushs_nil, mpushs_cons, mget_hd, mget_tl, mget_appW_o, mget_appW_n, mget_appW_e])))) okB_nil'))
            · exact fun hg => hN0 _ (Option.some.inj hg).symm _ (weak_mem [(0, 0)] rfl rfl rfl (okW_cons (ent_lst (E := TP.E) _ false) (okW_cons (.inl (leV_refl _)) (okW_cons (.inl (leV_refl _)) (okW_cons (.inl (leV_refl _)) (okW_cons (.inl (leV_refl _)) (okW_cons (.inl (leV_refl _)) okW_nil)))))) (okB_cons (okB_cells (cs := [(intA k0_0), (intA k0_1)]) (ty := 24) rfl (show mget _ 0 = _ from (by first | rfl | (simp (disch := first | decide | assumption) only [mpushs_nil, mpushs_cons, mget_hd, mget_tl, mget_appW_o, mget_appW_n, mget_appW_e])))) okB_nil'))
          · exact fun hg => hN0 _ (Option.some.inj hg).symm _ (weak_mem [(0, 0)] rfl rfl rfl (okW_cons (ent_lst (E := TP.E) _ false) (okW_cons (.inl (leV_refl _)) (okW_cons (.inl (leV_refl _)) (okW_cons (.inl (leV_refl _)) (okW_cons (.inl (leV_refl _)) (okW_cons (.inl (leV_refl _)) okW_nil)))))) (okB_cons (okB_cells (cs := [(intA k0_0), (intA k0_1)]) (ty := 24) rfl (show mget _ 0 = _ from (by first | rfl | (simp (disch := first | decide | assumption) only [mpushs_nil, mpushs_cons, mget_hd, mget_tl, mget_appW_o, mget_appW_n, mget_appW_e])))) okB_nil'))
      · exact fun hg => hN0 _ (Option.some.inj hg).symm _ (weak_mem [(0, 0)] rfl rfl rfl (okW_cons (ent_lst (E := TP.E) _ false) (okW_cons (.inl (leV_refl _)) (okW_cons (.inl (leV_refl _)) (okW_cons (.inl (leV_refl _)) (okW_cons (.inl (leV_refl _)) (okW_cons (.inl (leV_refl _)) okW_nil)))))) (okB_cons (okB_cells (cs := [(intA k0_0), (intA k0_1)]) (ty := 24) rfl (show mget _ 0 = _ from (by first | rfl | (simp (disch := first | decide | assumption) only [mpushs_nil, mpushs_cons, mget_hd, mget_tl, mget_appW_o, mget_appW_n, mget_appW_e])))) okB_nil'))
  · exact fun hg => ret1 (hR _ (Option.some.inj hg).symm) (fz_sc _ _)
theorem L43_0_ok (n : Nat) (a0 : List TP) (c4 : Int) (c11 : Int) (k0_0 : Int) (k0_1 : Int) {t : ρ43} (R : AV → Mem → Prop) (hR : ∀ r : ρ43, t = r → ∀ u m, Ans ((intA r)) u m → R u m) (k : Nat) (x : Int × Int) (hx : iterO (fun y : Int × Int => S43_0 n a0 c4 c11 k0_0 k0_1 y.1 y.2) k x = some t) {s : St} (hw : Weak KK 65 0 s (h43_0 (lstA TP.E a0) c4 x.1 c11 x.2 k0_0 k0_1 [])) : Tri Try.prog KK 65 0 (.loop c43_0) s (q43_0 R ) :=
  L43_0 R  (σ := Nat × (Int × Int)) (fun z => iterO (fun y : Int × Int => S43_0 n a0 c4 c11 k0_0 k0_1 y.1 y.2) z.1 z.2 = some t) (fun z => (lstA TP.E a0)) (fun z => c4) (fun z => z.2.1) (fun z => c11) (fun z => z.2.2) (fun z => k0_0) (fun z => k0_1) (fun z => []) (fun z => z.1) (by
    rintro ⟨k, y⟩ h
    cases k with
    | zero => exact (iterO_zero h).elim
    | succ k =>
      obtain ⟨u, h1, h2, h3⟩ := iterO_elim h
      exact B43_0_ok n a0 c4 c11 k0_0 k0_1 y.1 y.2 R  _ (fun r e => hR r (h3 _ e).symm)  (fun y' e s' hw => ⟨(k, y'), h2 _ e, Nat.lt_succ_self k, hw⟩) h1) (k, x) hx hw
theorem g43_ok (n : Nat) (a0 : List TP) (a1 : TP) {t : ρ43} (R : AV → Mem → Prop) (hR : ∀ r : ρ43, t = r → ∀ u m, Ans ((intA r)) u m → R u m) : g43 n a0 a1 = some t → F43 (lstA TP.E a0) a1.X a1.Y R := by
  unfold g43 F43
  refine imp (opP_of (show _ = some ((intA (a0.length : Int)), []) from rfl)) ?_
  refine imp ex_i64_b ?_
  exact fun hg => L43_0_ok n a0 (0) (a0.length : Int) a1.X a1.Y R  hR n _ hg (weak_mem [(0, 0)] rfl rfl rfl (okW_cons (ent_lst (E := TP.E) _ false) (okW_cons (.inl (leV_refl _)) (okW_cons (.inl (leV_refl _)) (okW_cons (.inl (leV_refl _)) (okW_cons (.inl (leV_refl _)) (okW_cons (.inl (leV_refl _)) okW_nil)))))) (okB_cons (okB_cells (cs := [(intA a1.X), (intA a1.Y)]) (ty := 24) rfl (show mget _ 0 = _ from (by first | rfl | (simp (disch := first | decide | assumption) only [mpushs_nil, mpushs_cons, mget_hd, mget_tl, mget_appW_o, mget_appW_n, mget_appW_e])))) okB_nil'))
theorem sg43 {n : Nat} {a0 : List TP} {a1 : TP} {t : ρ43} (h : g43 n a0 a1 = some t) : Says Try.prog KK.gl 43 [(lstA TP.E a0), (AV.agg [(intA a1.X), (intA a1.Y)])] ((intA t)) :=
  says_of_own (by first | rfl | simp [cleans, clean, encs_clean, En.cln]) (by first | rfl | simp [cleans, clean, encs_clean, En.cln]) (F43_own (lstA TP.E a0) a1.X a1.Y _ (g43_ok n a0 a1 (Ans ((intA t))) (fun r e u m h => by rw [e]; exact h) h))
/- skyway/volume.Contains -/
theorem g35_ok (n : Nat) (a0 : TVolume) (a1 : TP) (a2 : Int) {t : ρ35} (R : AV → Mem → Prop) (hR : ∀ r : ρ35, t = r → ∀ u m, Ans ((boolA r)) u m → R u m) : g35 n a0 a1 a2 = some t → F35 (lstA TP.E a0.Area) a0.Low a0.High a1.X a1.Y a2 R := by
  unfold g35 F35
  refine imp (chk_of rfl) ?_
  refine cond_b (fun _ => ?_) (fun _ => ?_)
  · refine cond_b (fun _ => ?_) (fun _ => ?_)
    · refine bind_b fun x19 h19 => ?_
      refine imp (callQ_says (sg43 h19)) ?_
      refine imp ex_i64_b ?_
      exact fun hg => ret1 (hR _ (Option.some.inj hg).symm) (fz_sc _ _)
    · exact fun hg => ret1 (hR _ (Option.some.inj hg).symm) (fz_sc _ _)
  · exact fun hg => ret1 (hR _ (Option.some.inj hg).symm) (fz_sc _ _)
theorem sg35 {n : Nat} {a0 : TVolume} {a1 : TP} {a2 : Int} {t : ρ35} (h : g35 n a0 a1 a2 = some t) : Says Try.prog KK.gl 35 [(AV.agg [(lstA TP.E a0.Area), (intA a0.Low), (intA a0.High)]), (AV.agg [(intA a1.X), (intA a1.Y)]), (intA a2)] ((boolA t)) :=
  says_of_own (by first | rfl | simp [cleans, clean, encs_clean, En.cln]) (by first | rfl | simp [cleans, clean, encs_clean, En.cln]) (F35_own (lstA TP.E a0.Area) a0.Low a0.High a1.X a1.Y a2 _ (g35_ok n a0 a1 a2 (Ans ((boolA t))) (fun r e u m h => by rw [e]; exact h) h))
/- skyway/sector.Place$1$1 -/
theorem g34_ok (n : Nat) (a0 : TVolume) (a1_0 : Int) (a1_1 : Int) (a2_0 : Int) {t : ρ34} (R : AV → Mem → Prop) (hR : ∀ r : ρ34, t = r → ∀ u m, Ans ((boolA r)) u m → R u m) : g34 n a0 a1_0 a1_1 a2_0 = some t → F34 (lstA TP.E a0.Area) a0.Low a0.High (AV.ept [(intA a1_0), (intA a1_1)] 0) (AV.ept [(intA a2_0)] 0) R := by
  unfold g34 F34
  refine imp (chk_of rfl) ?_
  refine imp (opP_of (show _ = some ((AV.agg [(intA a1_0), (intA a1_1)]), []) from rfl)) ?_
  refine imp exA2_b ?_
  refine imp ex_i64_b ?_
  refine imp ex_i64_b ?_
  refine imp (opP_of (show _ = some ((intA a2_0), []) from rfl)) ?_
  refine imp ex_i64_b ?_
  refine bind_b fun x20 h20 => ?_
  refine imp (callQ_says (sg35 h20)) ?_
  refine imp exB_b ?_
  exact fun hg => ret1 (hR _ (Option.some.inj hg).symm) (fz_sc _ _)
theorem sg34 {n : Nat} {a0 : TVolume} {a1_0 : Int} {a1_1 : Int} {a2_0 : Int} {t : ρ34} (h : g34 n a0 a1_0 a1_1 a2_0 = some t) : Says Try.prog KK.gl 34 [(AV.agg [(lstA TP.E a0.Area), (intA a0.Low), (intA a0.High)]), (AV.ept [(intA a1_0), (intA a1_1)] 0), (AV.ept [(intA a2_0)] 0)] ((boolA t)) :=
  says_of_own (by first | rfl | simp [cleans, clean, encs_clean, En.cln]) (by first | rfl | simp [cleans, clean, encs_clean, En.cln]) (F34_own (lstA TP.E a0.Area) a0.Low a0.High (AV.ept [(intA a1_0), (intA a1_1)] 0) (AV.ept [(intA a2_0)] 0) _ (g34_ok n a0 a1_0 a1_1 a2_0 (Ans ((boolA t))) (fun r e u m h => by rw [e]; exact h) h))
/- slices.IndexFunc[[]skyway/api.Volume,skyway/api.Volume] -/
theorem B42_0_ok (n : Nat) (a0 : List TVolume) (a1_0_0 : Int) (a1_0_1 : Int) (a1_1_0 : Int) (c4 : Int) (c7 : Int) (v8 : Int) {t : (Int) ⊕ ρ42} (R : AV → Mem → Prop) (N0 : St → Prop) (hR : ∀ r : ρ42, t = (.inr r) → ∀ u m, Ans ((intA r)) u m → R u m) (hN0 : ∀ y : Int, t = (.inl y) → ∀ s' : St, Weak KK 19 0 s' (h42_0 (lstA TVolume.E a0) (AV.fn 34 [(AV.ept [(intA a1_0_0), (intA a1_0_1)] 0), (AV.ept [(intA a1_1_0)] 0)]) c4 c7 y []) → N0 s') : S42_0 n a0 a1_0_0 a1_0_1 a1_1_0 c4 c7 v8 = some t → B42_0 (lstA TVolume.E a0) (AV.fn 34 [(AV.ept [(intA a1_0_0), (intA a1_0_1)] 0), (AV.ept [(intA a1_1_0)] 0)]) c4 c7 v8 [] R N0 := by
  unfold S42_0 B42_0
  refine cond_b (fun _ => ?_) (fun _ => ?_)
  · refine bind_b fun x7 h7 => ?_
    refine imp (opP_of (show _ = some ((AV.ept [(lstA TP.E x7.Area), (intA x7.Low), (intA x7.High)] 0), []) from (idx_lst (E := TVolume.E) rfl h7))) ?_
    refine imp (opP_of (show _ = some ((AV.agg [(lstA TP.E x7.Area), (intA x7.Low), (intA x7.High)]), []) from rfl)) ?_
    refine imp exA3_b ?_
    refine imp ex_i64_b ?_
    refine imp ex_i64_b ?_
    refine bind_b fun x21 h21 => ?_
    refine imp fnArgs_b ?_
    refine imp (cond_ff rfl) ?_
    refine imp (callW_says (sg34 h21)) ?_
    refine imp exB_b ?_
    refine cond_b (fun _ => ?_) (fun _ => ?_)
    · exact fun hg => ret1 (hR _ (Option.some.inj hg).symm) (fz_sc _ _)
    · exact fun hg => hN0 _ (Option.some.inj hg).symm _ (weak_mem [] rfl rfl rfl (okW_cons (ent_lst (E := TVolume.E) _ false) (okW_cons (ent_clean (leV_refl _) (by simp [clean, cleans, encs_clean])) (okW_cons (.inl (leV_refl _)) (okW_cons (.inl (leV_refl _)) (okW_cons (.inl (leV_refl _)) okW_nil))))) okB_nil')
  · exact fun hg => ret1 (hR _ (Option.some.inj hg).symm) (fz_sc _ _)
theorem L42_0_ok (n : Nat) (a0 : List TVolume) (a1_0_0 : Int) (a1_0_1 : Int) (a1_1_0 : Int) (c4 : Int) (c7 : Int) {t : ρ42} (R : AV → Mem → Prop) (hR : ∀ r : ρ42, t = r → ∀ u m, Ans ((intA r)) u m → R u m) (k : Nat) (x : Int) (hx : iterO (fun y : Int => S42_0 n a0 a1_0_0 a1_0_1 a1_1_0 c4 c7 y) k x = some t) {s : St} (hw : Weak KK 19 0 s (h42_0 (lstA TVolume.E a0) (AV.fn 34 [(AV.ept [(intA a1_0_0), (intA a1_0_1)] 0), (AV.ept [(intA a1_1_0)] 0)]) c4 c7 x [])) : Tri Try.prog KK 19 0 (.loop c42_0) s (q42_0 R ) :=
  L42_0 R  (σ := Nat × (Int)) (fun z => iterO (fun y : Int => S42_0 n a0 a1_0_0 a1_0_1 a1_1_0 c4 c7 y) z.1 z.2 = some t) (fun z => (lstA TVolume.E a0)) (fun z => (AV.fn 34 [(AV.ept [(intA a1_0_0), (intA a1_0_1)] 0), (AV.ept [(intA a1_1_0)] 0)])) (fun z => c4) (fun z => c7) (fun z => z.2) (fun z => []) (fun z => z.1) (by
    rintro ⟨k, y⟩ h
    cases k with
    | zero => exact (iterO_zero h).elim
    | succ k =>
      obtain ⟨u, h1, h2, h3⟩ := iterO_elim h
      exact B42_0_ok n a0 a1_0_0 a1_0_1 a1_1_0 c4 c7 y R  _ (fun r e => hR r (h3 _ e).symm)  (fun y' e s' hw => ⟨(k, y'), h2 _ e, Nat.lt_succ_self k, hw⟩) h1) (k, x) hx hw
theorem g42_ok (n : Nat) (a0 : List TVolume) (a1_0_0 : Int) (a1_0_1 : Int) (a1_1_0 : Int) {t : ρ42} (R : AV → Mem → Prop) (hR : ∀ r : ρ42, t = r → ∀ u m, Ans ((intA r)) u m → R u m) : g42 n a0 a1_0_0 a1_0_1 a1_1_0 = some t → F42 (lstA TVolume.E a0) (AV.fn 34 [(AV.ept [(intA a1_0_0), (intA a1_0_1)] 0), (AV.ept [(intA a1_1_0)] 0)]) R := by
  unfold g42 F42
  refine imp (opP_of (show _ = some ((intA (a0.length : Int)), []) from rfl)) ?_
  refine imp ex_i64_b ?_
  exact fun hg => L42_0_ok n a0 a1_0_0 a1_0_1 a1_1_0 (0) (a0.length : Int) R  hR n _ hg (weak_mem [] rfl rfl rfl (okW_cons (ent_lst (E := TVolume.E) _ false) (okW_cons (ent_clean (leV_refl _) (by simp [clean, cleans, encs_clean])) (okW_cons (.inl (leV_refl _)) (okW_cons (.inl (leV_refl _)) (okW_cons (.inl (leV_refl _)) okW_nil))))) okB_nil')
theorem sg42 {n : Nat} {a0 : List TVolume} {a1_0_0 : Int} {a1_0_1 : Int} {a1_1_0 : Int} {t : ρ42} (h : g42 n a0 a1_0_0 a1_0_1 a1_1_0 = some t) : Says Try.prog KK.gl 42 [(lstA TVolume.E a0), (AV.fn 34 [(AV.ept [(intA a1_0_0), (intA a1_0_1)] 0), (AV.ept [(intA a1_1_0)] 0)])] ((intA t)) :=
  says_of_own (by first | rfl | simp [cleans, clean, encs_clean, En.cln]) (by first | rfl | simp [cleans, clean, encs_clean, En.cln]) (F42_own (lstA TVolume.E a0) (AV.fn 34 [(AV.ept [(intA a1_0_0), (intA a1_0_1)] 0), (AV.ept [(intA a1_1_0)] 0)]) _ (g42_ok n a0 a1_0_0 a1_0_1 a1_1_0 (Ans ((intA t))) (fun r e u m h => by rw [e]; exact h) h))
/- slices.ContainsFunc[[]skyway/api.Volume,skyway/api.Volume] -/
theorem g33_ok (n : Nat) (a0 : List TVolume) (a1_0_0 : Int) (a1_0_1 : Int) (a1_1_0 : Int) {t : ρ33} (R : AV → Mem → Prop) (hR : ∀ r : ρ33, t = r → ∀ u m, Ans ((boolA r)) u m → R u m) : g33 n a0 a1_0_0 a1_0_1 a1_1_0 = some t → F33 (lstA TVolume.E a0) (AV.fn 34 [(AV.ept [(intA a1_0_0), (intA a1_0_1)] 0), (AV.ept [(intA a1_1_0)] 0)]) R := by
  unfold g33 F33
  refine bind_b fun x22 h22 => ?_
  refine imp (callQ_says (sg42 h22)) ?_
  refine imp ex_i64_b ?_
  exact fun hg => ret1 (hR _ (Option.some.inj hg).symm) (fz_sc _ _)
theorem sg33 {n : Nat} {a0 : List TVolume} {a1_0_0 : Int} {a1_0_1 : Int} {a1_1_0 : Int} {t : ρ33} (h : g33 n a0 a1_0_0 a1_0_1 a1_1_0 = some t) : Says Try.prog KK.gl 33 [(lstA TVolume.E a0), (AV.fn 34 [(AV.ept [(intA a1_0_0), (intA a1_0_1)] 0), (AV.ept [(intA a1_1_0)] 0)])] ((boolA t)) :=
  says_of_own (by first | rfl | simp [cleans, clean, encs_clean, En.cln]) (by first | rfl | simp [cleans, clean, encs_clean, En.cln]) (F33_own (lstA TVolume.E a0) (AV.fn 34 [(AV.ept [(intA a1_0_0), (intA a1_0_1)] 0), (AV.ept [(intA a1_1_0)] 0)]) _ (g33_ok n a0 a1_0_0 a1_0_1 a1_1_0 (Ans ((boolA t))) (fun r e u m h => by rw [e]; exact h) h))
/- skyway/sector.Place$1 -/
theorem g32_ok (n : Nat) (a0 : TSector) (a1_0 : Int) (a1_1 : Int) (a2_0 : Int) {t : ρ32} (R : AV → Mem → Prop) (hR : ∀ r : ρ32, t = r → ∀ u m, Ans ((boolA r)) u m → R u m) : g32 n a0 a1_0 a1_1 a2_0 = some t → F32 a0.Name (lstA TVolume.E a0.Room) (AV.ept [(intA a1_0), (intA a1_1)] 0) (AV.ept [(intA a2_0)] 0) R := by
  unfold g32 F32
  refine imp (chk_of rfl) ?_
  refine bind_b fun x23 h23 => ?_
  refine imp (callQ_says (sg33 h23)) ?_
  refine imp exB_b ?_
  exact fun hg => ret1 (hR _ (Option.some.inj hg).symm) (fz_sc _ _)
theorem sg32 {n : Nat} {a0 : TSector} {a1_0 : Int} {a1_1 : Int} {a2_0 : Int} {t : ρ32} (h : g32 n a0 a1_0 a1_1 a2_0 = some t) : Says Try.prog KK.gl 32 [(AV.agg [(strA a0.Name), (lstA TVolume.E a0.Room)]), (AV.ept [(intA a1_0), (intA a1_1)] 0), (AV.ept [(intA a2_0)] 0)] ((boolA t)) :=
  says_of_own (by first | rfl | simp [cleans, clean, encs_clean, En.cln]) (by first | rfl | simp [cleans, clean, encs_clean, En.cln]) (F32_own a0.Name (lstA TVolume.E a0.Room) (AV.ept [(intA a1_0), (intA a1_1)] 0) (AV.ept [(intA a2_0)] 0) _ (g32_ok n a0 a1_0 a1_1 a2_0 (Ans ((boolA t))) (fun r e u m h => by rw [e]; exact h) h))
/- slices.IndexFunc[[]skyway/api.Sector,skyway/api.Sector] -/
theorem B31_0_ok (n : Nat) (a0 : List TSector) (a1_0_0 : Int) (a1_0_1 : Int) (a1_1_0 : Int) (c4 : Int) (c7 : Int) (v8 : Int) {t : (Int) ⊕ ρ31} (R : AV → Mem → Prop) (N0 : St → Prop) (hR : ∀ r : ρ31, t = (.inr r) → ∀ u m, Ans ((intA r)) u m → R u m) (hN0 : ∀ y : Int, t = (.inl y) → ∀ s' : St, Weak KK 19 0 s' (h31_0 (lstA TSector.E a0) (AV.fn 32 [(AV.ept [(intA a1_0_0), (intA a1_0_1)] 0), (AV.ept [(intA a1_1_0)] 0)]) c4 c7 y []) → N0 s') : S31_0 n a0 a1_0_0 a1_0_1 a1_1_0 c4 c7 v8 = some t → B31_0 (lstA TSector.E a0) (AV.fn 32 [(AV.ept [(intA a1_0_0), (intA a1_0_1)] 0), (AV.ept [(intA a1_1_0)] 0)]) c4 c7 v8 [] R N0 := by
  unfold S31_0 B31_0
  refine cond_b (fun _ => ?_) (fun _ => ?_)
  · refine bind_b fun x6 h6 => ?_
    refine imp (opP_of (show _ = some ((AV.ept [(strA x6.Name), (lstA TVolume.E x6.Room)] 0), []) from (idx_lst (E := TSector.E) rfl h6))) ?_
    refine imp (opP_of (show _ = some ((AV.agg [(strA x6.Name), (lstA TVolume.E x6.Room)]), []) from rfl)) ?_
    refine imp exA2_b ?_
    refine imp exStr_b ?_
    refine bind_b fun x24 h24 => ?_
    refine imp fnArgs_b ?_
    refine imp (cond_ff rfl) ?_
    refine imp (callW_says (sg32 h24)) ?_
    refine imp exB_b ?_
    refine cond_b (fun _ => ?_) (fun _ => ?_)
    · exact fun hg => ret1 (hR _ (Option.some.inj hg).symm) (fz_sc _ _)
    · exact fun hg => hN0 _ (Option.some.inj hg).symm _ (weak_mem [] rfl rfl rfl (okW_cons (ent_lst (E := TSector.E) _ false) (okW_cons (ent_clean (leV_refl _) (by simp [clean, cleans, encs_clean])) (okW_cons (.inl (leV_refl _)) (okW_cons (.inl (leV_refl _)) (okW_cons (.inl (leV_refl _)) okW_nil))))) okB_nil')
  · exact fun hg => ret1 (hR _ (Option.some.inj hg).symm) (fz_sc _ _)
theorem L31_0_ok (n : Nat) (a0 : List TSector) (a1_0_0 : Int) (a1_0_1 : Int) (a1_1_0 : Int) (c4 : Int) (c7 : Int) {t : ρ31} (R : AV → Mem → Prop) (hR : ∀ r : ρ31, t = r → ∀ u m, Ans ((intA r)) u m → R u m) (k : Nat) (x : Int) (hx : iterO (fun y : Int => S31_0 n a0 a1_0_0 a1_0_1 a1_1_0 c4 c7 y) k x = some t) {s : St} (hw : Weak KK 19 0 s (h31_0 (lstA TSector.E a0) (AV.fn 32 [(AV.ept [(intA a1_0_0), (intA a1_0_1)] 0), (AV.ept [(intA a1_1_0)] 0)]) c4 c7 x [])) : Tri Try.prog KK 19 0 (.loop c31_0) s (q31_0 R ) :=
  L31_0 R  (σ := Nat × (Int)) (fun z => iterO (fun y : Int => S31_0 n a0 a1_0_0 a1_0_1 a1_1_0 c4 c7 y) z.1 z.2 = some t) (fun z => (lstA TSector.E a0)) (fun z => (AV.fn 32 [(AV.ept [(intA a1_0_0), (intA a1_0_1)] 0), (AV.ept [(intA a1_1_0)] 0)])) (fun z => c4) (fun z => c7) (fun z => z.2) (fun z => []) (fun z => z.1) (by
    rintro ⟨k, y⟩ h
    cases k with
    | zero => exact (iterO_zero h).elim
    | succ k =>
      obtain ⟨u, h1, h2, h3⟩ := iterO_elim h
      exact B31_0_ok n a0 a1_0_0 a1_0_1 a1_1_0 c4 c7 y R  _ (fun r e => hR r (h3 _ e).symm)  (fun y' e s' hw => ⟨(k, y'), h2 _ e, Nat.lt_succ_self k, hw⟩) h1) (k, x) hx hw
theorem g31_ok (n : Nat) (a0 : List TSector) (a1_0_0 : Int) (a1_0_1 : Int) (a1_1_0 : Int) {t : ρ31} (R : AV → Mem → Prop) (hR : ∀ r : ρ31, t = r → ∀ u m, Ans ((intA r)) u m → R u m) : g31 n a0 a1_0_0 a1_0_1 a1_1_0 = some t → F31 (lstA TSector.E a0) (AV.fn 32 [(AV.ept [(intA a1_0_0), (intA a1_0_1)] 0), (AV.ept [(intA a1_1_0)] 0)]) R := by
  unfold g31 F31
  refine imp (opP_of (show _ = some ((intA (a0.length : Int)), []) from rfl)) ?_
  refine imp ex_i64_b ?_
  exact fun hg => L31_0_ok n a0 a1_0_0 a1_0_1 a1_1_0 (0) (a0.length : Int) R  hR n _ hg (weak_mem [] rfl rfl rfl (okW_cons (ent_lst (E := TSector.E) _ false) (okW_cons (ent_clean (leV_refl _) (by simp [clean, cleans, encs_clean])) (okW_cons (.inl (leV_refl _)) (okW_cons (.inl (leV_refl _)) (okW_cons (.inl (leV_refl _)) okW_nil))))) okB_nil')
theorem sg31 {n : Nat} {a0 : List TSector} {a1_0_0 : Int} {a1_0_1 : Int} {a1_1_0 : Int} {t : ρ31} (h : g31 n a0 a1_0_0 a1_0_1 a1_1_0 = some t) : Says Try.prog KK.gl 31 [(lstA TSector.E a0), (AV.fn 32 [(AV.ept [(intA a1_0_0), (intA a1_0_1)] 0), (AV.ept [(intA a1_1_0)] 0)])] ((intA t)) :=
  says_of_own (by first | rfl | simp [cleans, clean, encs_clean, En.cln]) (by first | rfl | simp [cleans, clean, encs_clean, En.cln]) (F31_own (lstA TSector.E a0) (AV.fn 32 [(AV.ept [(intA a1_0_0), (intA a1_0_1)] 0), (AV.ept [(intA a1_1_0)] 0)]) _ (g31_ok n a0 a1_0_0 a1_0_1 a1_1_0 (Ans ((intA t))) (fun r e u m h => by rw [e]; exact h) h))
/- skyway/sector.Place -/
theorem g20_ok (n : Nat) (a0 : List TSector) (a1 : TP) (a2 : Int) {t : ρ20} (R : AV → Mem → Prop) (hR : ∀ r : ρ20, t = r → ∀ u m, Ans ((intA r)) u m → R u m) : g20 n a0 a1 a2 = some t → F20 (lstA TSector.E a0) a1.X a1.Y a2 R := by
  unfold g20 F20
  refine bind_b fun x25 h25 => ?_
  refine imp (callQ_pure (pure_snapN (snL_cons (sn_lst (E := TSector.E) _ _ false) (snL_cons (sn_fn _ _ (snL_cons (sn_ptr _ (ty := 24) (us := [(intA a1.X), (intA a1.Y)]) (by first | rfl | (simp (disch := first | decide | assumption) only [mpushs_nil, mpushs_cons, mget_hd, mget_tl, mget_appW_o, mget_appW_n, mget_appW_e])) (snL_cons (sn_sc _ _) (snL_cons (sn_sc _ _) snL_nil))) (snL_cons (sn_ptr _ (ty := 3) (us := [(intA a2)]) (by first | rfl | (simp (disch := first | decide | assumption) only [mpushs_nil, mpushs_cons, mget_hd, mget_tl, mget_appW_o, mget_appW_n, mget_appW_e])) (snL_cons (sn_sc _ _) snL_nil)) snL_nil))) snL_nil)) (sg31 h25) rfl)) ?_
  refine imp ex_i64_b ?_
  exact fun hg => ret1 (hR _ (Option.some.inj hg).symm) (fz_sc _ _)
theorem sg20 {n : Nat} {a0 : List TSector} {a1 : TP} {a2 : Int} {t : ρ20} (h : g20 n a0 a1 a2 = some t) : Says Try.prog KK.gl 20 [(lstA TSector.E a0), (AV.agg [(intA a1.X), (intA a1.Y)]), (intA a2)] ((intA t)) :=
  says_of_own (by first | rfl | simp [cleans, clean, encs_clean, En.cln]) (by first | rfl | simp [cleans, clean, encs_clean, En.cln]) (F20_own (lstA TSector.E a0) a1.X a1.Y a2 _ (g20_ok n a0 a1 a2 (Ans ((intA t))) (fun r e u m h => by rw [e]; exact h) h))
/- skyway/chart.Name -/
theorem B28_0_ok (n : Nat) (c2 : Bool) (c14 : List UInt8) (c15 : Int) (v16 : Int) {t : (Int) ⊕ ρ28} (R : AV → Mem → Prop) (N0 : St → Prop) (hR : ∀ r : ρ28, t = (.inr r) → ∀ u m, Ans ((boolA r)) u m → R u m) (hN0 : ∀ y : Int, t = (.inl y) → ∀ s' : St, Weak KK 41 0 s' (h28_0 c2 (lstA byteE c14) c15 y []) → N0 s') : S28_0 n c2 c14 c15 v16 = some t → B28_0 c2 (lstA byteE c14) c15 v16 [] R N0 := by
  unfold S28_0 B28_0
  refine cond_b (fun _ => ?_) (fun _ => ?_)
  · refine bind_b fun x28 h28 => ?_
    refine imp (opP_of (show _ = some ((AV.ept [(AV.sc (.int .u8 (x28.toNat : Int)))] 0), []) from (idx_lst (E := byteE) rfl h28))) ?_
    refine imp (opP_of (show _ = some ((AV.sc (.int .u8 (x28.toNat : Int))), []) from rfl)) ?_
    refine imp ex_u8_b ?_
    refine cond_b (fun _ => ?_) (fun _ => ?_)
    · refine cond_b (fun _ => ?_) (fun _ => ?_)
      · exact fun hg => hN0 _ (Option.some.inj hg).symm _ (weak_mem [] rfl rfl rfl (okW_cons (.inl (leV_refl _)) (okW_cons (ent_lst (E := byteE) _ false) (okW_cons (.inl (leV_refl _)) (okW_cons (.inl (leV_refl _)) okW_nil)))) okB_nil')
      · refine cond_b (fun _ => ?_) (fun _ => ?_)
        · refine cond_b (fun _ => ?_) (fun _ => ?_)
          · refine cond_b (fun _ => ?_) (fun _ => ?_)
            · exact fun hg => ret1 (hR _ (Option.some.inj hg).symm) (fz_sc _ _)
            · exact fun hg => hN0 _ (Option.some.inj hg).symm _ (weak_mem [] rfl rfl rfl (okW_cons (.inl (leV_refl _)) (okW_cons (ent_lst (E := byteE) _ false) (okW_cons (.inl (leV_refl _)) (okW_cons (.inl (leV_refl _)) okW_nil)))) okB_nil')
          · exact fun hg => ret1 (hR _ (Option.some.inj hg).symm) (fz_sc _ _)
        · exact fun hg => ret1 (hR _ (Option.some.inj hg).symm) (fz_sc _ _)
    · refine cond_b (fun _ => ?_) (fun _ => ?_)
      · refine cond_b (fun _ => ?_) (fun _ => ?_)
        · refine cond_b (fun _ => ?_) (fun _ => ?_)
          · exact fun hg => ret1 (hR _ (Option.some.inj hg).symm) (fz_sc _ _)
          · exact fun hg => hN0 _ (Option.some.inj hg).symm _ (weak_mem [] rfl rfl rfl (okW_cons (.inl (leV_refl _)) (okW_cons (ent_lst (E := byteE) _ false) (okW_cons (.inl (leV_refl _)) (okW_cons (.inl (leV_refl _)) okW_nil)))) okB_nil')
        · exact fun hg => ret1 (hR _ (Option.some.inj hg).symm) (fz_sc _ _)
      · exact fun hg => ret1 (hR _ (Option.some.inj hg).symm) (fz_sc _ _)
  · exact fun hg => ret1 (hR _ (Option.some.inj hg).symm) (fz_sc _ _)
theorem L28_0_ok (n : Nat) (c2 : Bool) (c14 : List UInt8) (c15 : Int) {t : ρ28} (R : AV → Mem → Prop) (hR : ∀ r : ρ28, t = r → ∀ u m, Ans ((boolA r)) u m → R u m) (k : Nat) (x : Int) (hx : iterO (fun y : Int => S28_0 n c2 c14 c15 y) k x = some t) {s : St} (hw : Weak KK 41 0 s (h28_0 c2 (lstA byteE c14) c15 x [])) : Tri Try.prog KK 41 0 (.loop c28_0) s (q28_0 R ) :=
  L28_0 R  (σ := Nat × (Int)) (fun z => iterO (fun y : Int => S28_0 n c2 c14 c15 y) z.1 z.2 = some t) (fun z => c2) (fun z => (lstA byteE c14)) (fun z => c15) (fun z => z.2) (fun z => []) (fun z => z.1) (by
    rintro ⟨k, y⟩ h
    cases k with
    | zero => exact (iterO_zero h).elim
    | succ k =>
      obtain ⟨u, h1, h2, h3⟩ := iterO_elim h
      exact B28_0_ok n c2 c14 c15 y R  _ (fun r e => hR r (h3 _ e).symm)  (fun y' e s' hw => ⟨(k, y'), h2 _ e, Nat.lt_succ_self k, hw⟩) h1) (k, x) hx hw
theorem g28_ok (n : Nat) (a0 : ByteArray) {t : ρ28} (R : AV → Mem → Prop) (hR : ∀ r : ρ28, t = r → ∀ u m, Ans ((boolA r)) u m → R u m) : g28 n a0 = some t → F28 a0 R := by
  unfold g28 F28
  refine imp (opP_of (show _ = some ((intA (a0.size : Int)), []) from (by kernel_rfl))) ?_
  refine imp ex_i64_b ?_
  refine cond_b (fun _ => ?_) (fun _ => ?_)
  · exact fun hg => ret1 (hR _ (Option.some.inj hg).symm) (fz_sc _ _)
  · refine imp (opP_of (show _ = some ((intA (a0.size : Int)), []) from (by kernel_rfl))) ?_
    refine imp ex_i64_b ?_
    refine cond_b (fun _ => ?_) (fun _ => ?_)
    · exact fun hg => ret1 (hR _ (Option.some.inj hg).symm) (fz_sc _ _)
    · refine bind_b fun x27 h27 => ?_
      refine imp (opP_of (show _ = some ((lstA byteE (a0.data.toList)), []) from (opA_bytes (e := 5) (by kernel_rfl) (by kernel_rfl) (by kernel_rfl) h27))) ?_
      refine imp (opP_of (show _ = some ((intA ((a0.data.toList).length : Int)), []) from rfl)) ?_
      refine imp ex_i64_b ?_
      exact fun hg => L28_0_ok n false (a0.data.toList) ((a0.data.toList).length : Int) R  hR n _ hg (weak_mem [] rfl rfl rfl (okW_cons (.inl (leV_refl _)) (okW_cons (ent_lst (E := byteE) _ false) (okW_cons (.inl (leV_refl _)) (okW_cons (.inl (leV_refl _)) okW_nil)))) okB_nil')
theorem sg28 {n : Nat} {a0 : ByteArray} {t : ρ28} (h : g28 n a0 = some t) : Says Try.prog KK.gl 28 [(strA a0)] ((boolA t)) :=
  says_of_own (by first | rfl | simp [cleans, clean, encs_clean, En.cln]) (by first | rfl | simp [cleans, clean, encs_clean, En.cln]) (F28_own a0 _ (g28_ok n a0 (Ans ((boolA t))) (fun r e u m h => by rw [e]; exact h) h))
/- skyway/sector.Name -/
theorem g16_ok (n : Nat) (a0 : ByteArray) {t : ρ16} (R : AV → Mem → Prop) (hR : ∀ r : ρ16, t = r → ∀ u m, Ans ((boolA r)) u m → R u m) : g16 n a0 = some t → F16 a0 R := by
  unfold g16 F16
  refine bind_b fun x29 h29 => ?_
  refine imp (callQ_says (sg28 h29)) ?_
  refine imp exB_b ?_
  exact fun hg => ret1 (hR _ (Option.some.inj hg).symm) (fz_sc _ _)
theorem sg16 {n : Nat} {a0 : ByteArray} {t : ρ16} (h : g16 n a0 = some t) : Says Try.prog KK.gl 16 [(strA a0)] ((boolA t)) :=
  says_of_own (by first | rfl | simp [cleans, clean, encs_clean, En.cln]) (by first | rfl | simp [cleans, clean, encs_clean, En.cln]) (F16_own a0 _ (g16_ok n a0 (Ans ((boolA t))) (fun r e u m h => by rw [e]; exact h) h))
/- skyway/polygon.crosses -/
theorem g48_ok (n : Nat) (a0 : TP) (a1 : TP) (a2 : TP) (a3 : TP) {t : ρ48} (R : AV → Mem → Prop) (hR : ∀ r : ρ48, t = r → ∀ u m, Ans ((boolA r)) u m → R u m) : g48 n a0 a1 a2 a3 = some t → F48 a0.X a0.Y a1.X a1.Y a2.X a2.Y a3.X a3.Y R := by
  unfold g48 F48
  refine bind_b fun x44 h44 => ?_
  refine imp (callQ_says (sg38 h44)) ?_
  refine imp ex_i64_b ?_
  refine bind_b fun x45 h45 => ?_
  refine imp (callQ_says (sg38 h45)) ?_
  refine imp ex_i64_b ?_
  refine cond_b (fun _ => ?_) (fun _ => ?_)
  · refine bind_b fun x46 h46 => ?_
    refine imp (callQ_says (sg38 h46)) ?_
    refine imp ex_i64_b ?_
    refine bind_b fun x47 h47 => ?_
    refine imp (callQ_says (sg38 h47)) ?_
    refine imp ex_i64_b ?_
    exact fun hg => ret1 (hR _ (Option.some.inj hg).symm) (fz_sc _ _)
  · exact fun hg => ret1 (hR _ (Option.some.inj hg).symm) (fz_sc _ _)
theorem sg48 {n : Nat} {a0 : TP} {a1 : TP} {a2 : TP} {a3 : TP} {t : ρ48} (h : g48 n a0 a1 a2 a3 = some t) : Says Try.prog KK.gl 48 [(AV.agg [(intA a0.X), (intA a0.Y)]), (AV.agg [(intA a1.X), (intA a1.Y)]), (AV.agg [(intA a2.X), (intA a2.Y)]), (AV.agg [(intA a3.X), (intA a3.Y)])] ((boolA t)) :=
  says_of_own (by first | rfl | simp [cleans, clean, encs_clean, En.cln]) (by first | rfl | simp [cleans, clean, encs_clean, En.cln]) (F48_own a0.X a0.Y a1.X a1.Y a2.X a2.Y a3.X a3.Y _ (g48_ok n a0 a1 a2 a3 (Ans ((boolA t))) (fun r e u m h => by rw [e]; exact h) h))
/- skyway/polygon.Common -/
theorem g40_ok (n : Nat) (a0 : TP) (a1 : TP) (a2 : TP) (a3 : TP) {t : ρ40} (R : AV → Mem → Prop) (hR : ∀ r : ρ40, t = r → ∀ u m, Ans ((boolA r)) u m → R u m) : g40 n a0 a1 a2 a3 = some t → F40 a0.X a0.Y a1.X a1.Y a2.X a2.Y a3.X a3.Y R := by
  unfold g40 F40
  refine bind_b fun x48 h48 => ?_
  refine imp (callQ_says (sg48 h48)) ?_
  refine imp exB_b ?_
  refine cond_b (fun _ => ?_) (fun _ => ?_)
  · exact fun hg => ret1 (hR _ (Option.some.inj hg).symm) (fz_sc _ _)
  · refine bind_b fun x49 h49 => ?_
    refine imp (callQ_says (sg52 h49)) ?_
    refine imp exB_b ?_
    refine cond_b (fun _ => ?_) (fun _ => ?_)
    · exact fun hg => ret1 (hR _ (Option.some.inj hg).symm) (fz_sc _ _)
    · refine bind_b fun x50 h50 => ?_
      refine imp (callQ_says (sg52 h50)) ?_
      refine imp exB_b ?_
      refine cond_b (fun _ => ?_) (fun _ => ?_)
      · exact fun hg => ret1 (hR _ (Option.some.inj hg).symm) (fz_sc _ _)
      · refine bind_b fun x51 h51 => ?_
        refine imp (callQ_says (sg52 h51)) ?_
        refine imp exB_b ?_
        refine cond_b (fun _ => ?_) (fun _ => ?_)
        · exact fun hg => ret1 (hR _ (Option.some.inj hg).symm) (fz_sc _ _)
        · refine bind_b fun x52 h52 => ?_
          refine imp (callQ_says (sg52 h52)) ?_
          refine imp exB_b ?_
          exact fun hg => ret1 (hR _ (Option.some.inj hg).symm) (fz_sc _ _)
theorem sg40 {n : Nat} {a0 : TP} {a1 : TP} {a2 : TP} {a3 : TP} {t : ρ40} (h : g40 n a0 a1 a2 a3 = some t) : Says Try.prog KK.gl 40 [(AV.agg [(intA a0.X), (intA a0.Y)]), (AV.agg [(intA a1.X), (intA a1.Y)]), (AV.agg [(intA a2.X), (intA a2.Y)]), (AV.agg [(intA a3.X), (intA a3.Y)])] ((boolA t)) :=
  says_of_own (by first | rfl | simp [cleans, clean, encs_clean, En.cln]) (by first | rfl | simp [cleans, clean, encs_clean, En.cln]) (F40_own a0.X a0.Y a1.X a1.Y a2.X a2.Y a3.X a3.Y _ (g40_ok n a0 a1 a2 a3 (Ans ((boolA t))) (fun r e u m h => by rw [e]; exact h) h))
/- skyway/polygon.twice -/
theorem B30_0_ok (n : Nat) (a0 : List TP) (c2 : Int) (c6 : Int) (v3 : Int) (v7 : Int) {t : (Int × Int) ⊕ ρ30} (R : AV → Mem → Prop) (N0 : St → Prop) (hR : ∀ r : ρ30, t = (.inr r) → ∀ u m, Ans ((intA r)) u m → R u m) (hN0 : ∀ y : Int × Int, t = (.inl y) → ∀ s' : St, Weak KK 22 0 s' (h30_0 (lstA TP.E a0) c2 y.1 c6 y.2 []) → N0 s') : S30_0 n a0 c2 c6 v3 v7 = some t → B30_0 (lstA TP.E a0) c2 v3 c6 v7 [] R N0 := by
  unfold S30_0 B30_0
  refine cond_b (fun _ => ?_) (fun _ => ?_)
  · refine bind_b fun x54 h54 => ?_
    refine imp (opP_of (show _ = some ((AV.ept [(intA x54.X), (intA x54.Y)] 0), []) from (idx_lst (E := TP.E) rfl h54))) ?_
    refine imp (opP_of (show _ = some ((AV.agg [(intA x54.X), (intA x54.Y)]), []) from rfl)) ?_
    refine imp exA2_b ?_
    refine imp ex_i64_b ?_
    refine imp ex_i64_b ?_
    refine bind_b fun x55 h55 => ?_
    refine imp (callQ_says (sg39 h55)) ?_
    refine imp exA2_b ?_
    refine imp ex_i64_b ?_
    refine imp ex_i64_b ?_
    refine bind_b fun x56 h56 => ?_
    refine imp (callQ_says (sg41 h56)) ?_
    refine imp ex_i64_b ?_
    exact fun hg => hN0 _ (Option.some.inj hg).symm _ (weak_mem [] rfl rfl rfl (okW_cons (ent_lst (E := TP.E) _ false) (okW_cons (.inl (leV_refl _)) (okW_cons (.inl (leV_refl _)) (okW_cons (.inl (leV_refl _)) (okW_cons (.inl (leV_refl _)) okW_nil))))) okB_nil')
  · exact fun hg => ret1 (hR _ (Option.some.inj hg).symm) (fz_sc _ _)
theorem L30_0_ok (n : Nat) (a0 : List TP) (c2 : Int) (c6 : Int) {t : ρ30} (R : AV → Mem → Prop) (hR : ∀ r : ρ30, t = r → ∀ u m, Ans ((intA r)) u m → R u m) (k : Nat) (x : Int × Int) (hx : iterO (fun y : Int × Int => S30_0 n a0 c2 c6 y.1 y.2) k x = some t) {s : St} (hw : Weak KK 22 0 s (h30_0 (lstA TP.E a0) c2 x.1 c6 x.2 [])) : Tri Try.prog KK 22 0 (.loop c30_0) s (q30_0 R ) :=
  L30_0 R  (σ := Nat × (Int × Int)) (fun z => iterO (fun y : Int × Int => S30_0 n a0 c2 c6 y.1 y.2) z.1 z.2 = some t) (fun z => (lstA TP.E a0)) (fun z => c2) (fun z => z.2.1) (fun z => c6) (fun z => z.2.2) (fun z => []) (fun z => z.1) (by
    rintro ⟨k, y⟩ h
    cases k with
    | zero => exact (iterO_zero h).elim
    | succ k =>
      obtain ⟨u, h1, h2, h3⟩ := iterO_elim h
      exact B30_0_ok n a0 c2 c6 y.1 y.2 R  _ (fun r e => hR r (h3 _ e).symm)  (fun y' e s' hw => ⟨(k, y'), h2 _ e, Nat.lt_succ_self k, hw⟩) h1) (k, x) hx hw
theorem g30_ok (n : Nat) (a0 : List TP) {t : ρ30} (R : AV → Mem → Prop) (hR : ∀ r : ρ30, t = r → ∀ u m, Ans ((intA r)) u m → R u m) : g30 n a0 = some t → F30 (lstA TP.E a0) R := by
  unfold g30 F30
  refine imp (opP_of (show _ = some ((intA (a0.length : Int)), []) from rfl)) ?_
  refine imp ex_i64_b ?_
  exact fun hg => L30_0_ok n a0 (0) (a0.length : Int) R  hR n _ hg (weak_mem [] rfl rfl rfl (okW_cons (ent_lst (E := TP.E) _ false) (okW_cons (.inl (leV_refl _)) (okW_cons (.inl (leV_refl _)) (okW_cons (.inl (leV_refl _)) (okW_cons (.inl (leV_refl _)) okW_nil))))) okB_nil')
theorem sg30 {n : Nat} {a0 : List TP} {t : ρ30} (h : g30 n a0 = some t) : Says Try.prog KK.gl 30 [(lstA TP.E a0)] ((intA t)) :=
  says_of_own (by first | rfl | simp [cleans, clean, encs_clean, En.cln]) (by first | rfl | simp [cleans, clean, encs_clean, En.cln]) (F30_own (lstA TP.E a0) _ (g30_ok n a0 (Ans ((intA t))) (fun r e u m h => by rw [e]; exact h) h))
/- skyway/polygon.Check -/
theorem B29_1_0_ok (n : Nat) (a0 : List TP) (c2 : Int) (c3 : Int) (v31 : Int) (c30 : Int) (w8 : Int) {t : (Int) ⊕ ((Int) ⊕ ρ29)} (R : AV → Mem → Prop) (N0 : St → Prop) (N1 : St → Prop) (hR : ∀ r : ρ29, t = (.inr (.inr r)) → ∀ u m, Ans ((intA r)) u m → R u m) (hN0 : ∀ y : Int, t = (.inr (.inl y)) → ∀ s' : St, Weak KK 84 0 s' (h29_1 (lstA TP.E a0) c2 c3 c30 y []) → N0 s') (hN1 : ∀ y : Int, t = (.inl y) → ∀ s' : St, Weak KK 84 0 s' (h29_1_0 (lstA TP.E a0) c2 c3 v31 y c30 v31 []) → N1 s') : S29_1_0 n a0 c2 c3 v31 c30 w8 = some t → B29_1_0 (lstA TP.E a0) c2 c3 v31 w8 c30 v31 [] R N0 N1 := by
  unfold S29_1_0 B29_1_0
  refine cond_b (fun _ => ?_) (fun _ => ?_)
  · refine bind_b fun x39 h39 => ?_
    refine imp (opP_of (show _ = some ((intA x39), []) from (opA_rem h39))) ?_
    refine imp ex_i64_b ?_
    refine cond_b (fun _ => ?_) (fun _ => ?_)
    · refine bind_b fun x40 h40 => ?_
      refine imp (opP_of (show _ = some ((AV.ept [(intA x40.X), (intA x40.Y)] 0), []) from (idx_lst (E := TP.E) rfl h40))) ?_
      refine imp (opP_of (show _ = some ((AV.agg [(intA x40.X), (intA x40.Y)]), []) from rfl)) ?_
      refine imp exA2_b ?_
      refine imp ex_i64_b ?_
      refine imp ex_i64_b ?_
      refine bind_b fun x41 h41 => ?_
      refine imp (callQ_says (sg39 h41)) ?_
      refine imp exA2_b ?_
      refine imp ex_i64_b ?_
      refine imp ex_i64_b ?_
      refine bind_b fun x42 h42 => ?_
      refine imp (opP_of (show _ = some ((AV.ept [(intA x42.X), (intA x42.Y)] 0), []) from (idx_lst (E := TP.E) rfl h42))) ?_
      refine imp (opP_of (show _ = some ((AV.agg [(intA x42.X), (intA x42.Y)]), []) from rfl)) ?_
      refine imp exA2_b ?_
      refine imp ex_i64_b ?_
      refine imp ex_i64_b ?_
      refine bind_b fun x43 h43 => ?_
      refine imp (callQ_says (sg39 h43)) ?_
      refine imp exA2_b ?_
      refine imp ex_i64_b ?_
      refine imp ex_i64_b ?_
      refine bind_b fun x53 h53 => ?_
      refine imp (callQ_says (sg40 h53)) ?_
      refine imp exB_b ?_
      refine cond_b (fun _ => ?_) (fun _ => ?_)
      · exact fun hg => ret1 (hR _ (Option.some.inj hg).symm) (fz_sc _ _)
      · exact fun hg => hN1 _ (Option.some.inj hg).symm _ (weak_mem [] rfl rfl rfl (okW_cons (ent_lst (E := TP.E) _ false) (okW_cons (.inl (leV_refl _)) (okW_cons (.inl (leV_refl _)) (okW_cons (.inl (leV_refl _)) (okW_cons (.inl (leV_refl _)) (okW_cons (.inl (leV_refl _)) (okW_cons (.inl (leV_refl _)) okW_nil))))))) okB_nil')
    · exact fun hg => hN1 _ (Option.some.inj hg).symm _ (weak_mem [] rfl rfl rfl (okW_cons (ent_lst (E := TP.E) _ false) (okW_cons (.inl (leV_refl _)) (okW_cons (.inl (leV_refl _)) (okW_cons (.inl (leV_refl _)) (okW_cons (.inl (leV_refl _)) (okW_cons (.inl (leV_refl _)) (okW_cons (.inl (leV_refl _)) okW_nil))))))) okB_nil')
  · exact fun hg => hN0 _ (Option.some.inj hg).symm _ (weak_mem [] rfl rfl rfl (okW_cons (ent_lst (E := TP.E) _ false) (okW_cons (.inl (leV_refl _)) (okW_cons (.inl (leV_refl _)) (okW_cons (.inl (leV_refl _)) (okW_cons (.inl (leV_refl _)) okW_nil))))) okB_nil')
theorem L29_1_0_ok (n : Nat) (a0 : List TP) (c2 : Int) (c3 : Int) (v31 : Int) (c30 : Int) {t : ((Int) ⊕ ρ29)} (R : AV → Mem → Prop) (N0 : St → Prop) (hR : ∀ r : ρ29, t = (.inr r) → ∀ u m, Ans ((intA r)) u m → R u m) (hN0 : ∀ y : Int, t = (.inl y) → ∀ s' : St, Weak KK 84 0 s' (h29_1 (lstA TP.E a0) c2 c3 c30 y []) → N0 s') (k : Nat) (x : Int) (hx : iterO (fun y : Int => S29_1_0 n a0 c2 c3 v31 c30 y) k x = some t) {s : St} (hw : Weak KK 84 0 s (h29_1_0 (lstA TP.E a0) c2 c3 v31 x c30 v31 [])) : Tri Try.prog KK 84 0 (.loop c29_1_0) s (q29_1_0 R N0) :=
  L29_1_0 R N0 (σ := Nat × (Int)) (fun z => iterO (fun y : Int => S29_1_0 n a0 c2 c3 v31 c30 y) z.1 z.2 = some t) (fun z => (lstA TP.E a0)) (fun z => c2) (fun z => c3) (fun z => v31) (fun z => z.2) (fun z => c30) (fun z => v31) (fun z => []) (fun z => z.1) (by
    rintro ⟨k, y⟩ h
    cases k with
    | zero => exact (iterO_zero h).elim
    | succ k =>
      obtain ⟨u, h1, h2, h3⟩ := iterO_elim h
      exact B29_1_0_ok n a0 c2 c3 v31 c30 y R N0 _ (fun r e => hR r (h3 _ e).symm) (fun y' e => hN0 y' (h3 _ e).symm) (fun y' e s' hw => ⟨(k, y'), h2 _ e, Nat.lt_succ_self k, hw⟩) h1) (k, x) hx hw
theorem B29_1_ok (n : Nat) (a0 : List TP) (c2 : Int) (c3 : Int) (c30 : Int) (v31 : Int) {t : (Int) ⊕ ρ29} (R : AV → Mem → Prop) (N0 : St → Prop) (hR : ∀ r : ρ29, t = (.inr r) → ∀ u m, Ans ((intA r)) u m → R u m) (hN0 : ∀ y : Int, t = (.inl y) → ∀ s' : St, Weak KK 84 0 s' (h29_1 (lstA TP.E a0) c2 c3 c30 y []) → N0 s') : S29_1 n a0 c2 c3 c30 v31 = some t → B29_1 (lstA TP.E a0) c2 c3 c30 v31 [] R N0 := by
  unfold S29_1 B29_1
  refine cond_b (fun _ => ?_) (fun _ => ?_)
  · refine bind_b fun x34 h34 => ?_
    refine imp (opP_of (show _ = some ((AV.ept [(intA x34.X), (intA x34.Y)] 0), []) from (idx_lst (E := TP.E) rfl h34))) ?_
    refine imp (opP_of (show _ = some ((AV.agg [(intA x34.X), (intA x34.Y)]), []) from rfl)) ?_
    refine imp exA2_b ?_
    refine imp ex_i64_b ?_
    refine imp ex_i64_b ?_
    refine bind_b fun x35 h35 => ?_
    refine imp (callQ_says (sg39 h35)) ?_
    refine imp exA2_b ?_
    refine imp ex_i64_b ?_
    refine imp ex_i64_b ?_
    refine bind_b fun x36 h36 => ?_
    refine imp (opP_of (show _ = some ((intA x36), []) from (opA_rem h36))) ?_
    refine imp ex_i64_b ?_
    refine bind_b fun x37 h37 => ?_
    refine imp (opP_of (show _ = some ((AV.ept [(intA x37.X), (intA x37.Y)] 0), []) from (idx_lst (E := TP.E) rfl h37))) ?_
    refine imp (opP_of (show _ = some ((AV.agg [(intA x37.X), (intA x37.Y)]), []) from rfl)) ?_
    refine imp exA2_b ?_
    refine imp ex_i64_b ?_
    refine imp ex_i64_b ?_
    refine bind_b fun x38 h38 => ?_
    refine imp (callQ_says (sg38 h38)) ?_
    refine imp ex_i64_b ?_
    refine cond_b (fun _ => ?_) (fun _ => ?_)
    · exact fun hg => ret1 (hR _ (Option.some.inj hg).symm) (fz_sc _ _)
    · exact fun hg => L29_1_0_ok n a0 c2 c3 v31 c30 R N0 hR hN0 n _ hg (weak_mem [] rfl rfl rfl (okW_cons (ent_lst (E := TP.E) _ false) (okW_cons (.inl (leV_refl _)) (okW_cons (.inl (leV_refl _)) (okW_cons (.inl (leV_refl _)) (okW_cons (.inl (leV_refl _)) (okW_cons (.inl (leV_refl _)) (okW_cons (.inl (leV_refl _)) okW_nil))))))) okB_nil')
  · refine bind_b fun x57 h57 => ?_
    refine imp (callQ_says (sg30 h57)) ?_
    refine imp ex_i64_b ?_
    refine cond_b (fun _ => ?_) (fun _ => ?_)
    · exact fun hg => ret1 (hR _ (Option.some.inj hg).symm) (fz_sc _ _)
    · exact fun hg => ret1 (hR _ (Option.some.inj hg).symm) (fz_sc _ _)
theorem L29_1_ok (n : Nat) (a0 : List TP) (c2 : Int) (c3 : Int) (c30 : Int) {t : ρ29} (R : AV → Mem → Prop) (hR : ∀ r : ρ29, t = r → ∀ u m, Ans ((intA r)) u m → R u m) (k : Nat) (x : Int) (hx : iterO (fun y : Int => S29_1 n a0 c2 c3 c30 y) k x = some t) {s : St} (hw : Weak KK 84 0 s (h29_1 (lstA TP.E a0) c2 c3 c30 x [])) : Tri Try.prog KK 84 0 (.loop c29_1) s (q29_1 R ) :=
  L29_1 R  (σ := Nat × (Int)) (fun z => iterO (fun y : Int => S29_1 n a0 c2 c3 c30 y) z.1 z.2 = some t) (fun z => (lstA TP.E a0)) (fun z => c2) (fun z => c3) (fun z => c30) (fun z => z.2) (fun z => []) (fun z => z.1) (by
    rintro ⟨k, y⟩ h
    cases k with
    | zero => exact (iterO_zero h).elim
    | succ k =>
      obtain ⟨u, h1, h2, h3⟩ := iterO_elim h
      exact B29_1_ok n a0 c2 c3 c30 y R  _ (fun r e => hR r (h3 _ e).symm)  (fun y' e s' hw => ⟨(k, y'), h2 _ e, Nat.lt_succ_self k, hw⟩) h1) (k, x) hx hw
theorem B29_0_ok (n : Nat) (a0 : List TP) (c2 : Int) (c3 : Int) (v19 : Int) {t : (Int) ⊕ ρ29} (R : AV → Mem → Prop) (N0 : St → Prop) (hR : ∀ r : ρ29, t = (.inr r) → ∀ u m, Ans ((intA r)) u m → R u m) (hN0 : ∀ y : Int, t = (.inl y) → ∀ s' : St, Weak KK 84 0 s' (h29_0 (lstA TP.E a0) c2 c3 (lstA TP.E a0) c3 y []) → N0 s') : S29_0 n a0 c2 c3 v19 = some t → B29_0 (lstA TP.E a0) c2 c3 (lstA TP.E a0) c3 v19 [] R N0 := by
  unfold S29_0 B29_0
  refine cond_b (fun _ => ?_) (fun _ => ?_)
  · refine bind_b fun x32 h32 => ?_
    refine imp (opP_of (show _ = some ((AV.ept [(intA x32.X), (intA x32.Y)] 0), []) from (idx_lst (E := TP.E) rfl h32))) ?_
    refine imp (opP_of (show _ = some ((AV.agg [(intA x32.X), (intA x32.Y)]), []) from rfl)) ?_
    refine imp exA2_b ?_
    refine imp ex_i64_b ?_
    refine imp ex_i64_b ?_
    refine bind_b fun x33 h33 => ?_
    refine imp (callQ_says (sg19 h33)) ?_
    refine imp ex_i64_b ?_
    refine cond_b (fun _ => ?_) (fun _ => ?_)
    · exact fun hg => ret1 (hR _ (Option.some.inj hg).symm) (fz_sc _ _)
    · exact fun hg => hN0 _ (Option.some.inj hg).symm _ (weak_mem [] rfl rfl rfl (okW_cons (ent_lst (E := TP.E) _ false) (okW_cons (.inl (leV_refl _)) (okW_cons (.inl (leV_refl _)) (okW_cons (ent_lst (E := TP.E) _ false) (okW_cons (.inl (leV_refl _)) (okW_cons (.inl (leV_refl _)) okW_nil)))))) okB_nil')
  · refine imp (opP_of (show _ = some ((intA (a0.length : Int)), []) from rfl)) ?_
    refine imp ex_i64_b ?_
    refine mapInr_b fun t0 e0 => ?_
    exact fun hg => L29_1_ok n a0 c2 c3 (a0.length : Int) R  (fun r e => hR r (e0.trans (congrArg Sum.inr e))) n _ hg (weak_mem [] rfl rfl rfl (okW_cons (ent_lst (E := TP.E) _ false) (okW_cons (.inl (leV_refl _)) (okW_cons (.inl (leV_refl _)) (okW_cons (.inl (leV_refl _)) (okW_cons (.inl (leV_refl _)) okW_nil))))) okB_nil')
theorem L29_0_ok (n : Nat) (a0 : List TP) (c2 : Int) (c3 : Int) {t : ρ29} (R : AV → Mem → Prop) (hR : ∀ r : ρ29, t = r → ∀ u m, Ans ((intA r)) u m → R u m) (k : Nat) (x : Int) (hx : iterO (fun y : Int => S29_0 n a0 c2 c3 y) k x = some t) {s : St} (hw : Weak KK 84 0 s (h29_0 (lstA TP.E a0) c2 c3 (lstA TP.E a0) c3 x [])) : Tri Try.prog KK 84 0 (.loop c29_0) s (q29_0 R ) :=
  L29_0 R  (σ := Nat × (Int)) (fun z => iterO (fun y : Int => S29_0 n a0 c2 c3 y) z.1 z.2 = some t) (fun z => (lstA TP.E a0)) (fun z => c2) (fun z => c3) (fun z => (lstA TP.E a0)) (fun z => c3) (fun z => z.2) (fun z => []) (fun z => z.1) (by
    rintro ⟨k, y⟩ h
    cases k with
    | zero => exact (iterO_zero h).elim
    | succ k =>
      obtain ⟨u, h1, h2, h3⟩ := iterO_elim h
      exact B29_0_ok n a0 c2 c3 y R  _ (fun r e => hR r (h3 _ e).symm)  (fun y' e s' hw => ⟨(k, y'), h2 _ e, Nat.lt_succ_self k, hw⟩) h1) (k, x) hx hw
theorem g29_ok (n : Nat) (a0 : List TP) {t : ρ29} (R : AV → Mem → Prop) (hR : ∀ r : ρ29, t = r → ∀ u m, Ans ((intA r)) u m → R u m) : g29 n a0 = some t → F29 (lstA TP.E a0) R := by
  unfold g29 F29
  refine imp (opP_of (show _ = some ((intA (a0.length : Int)), []) from rfl)) ?_
  refine imp ex_i64_b ?_
  refine cond_b (fun _ => ?_) (fun _ => ?_)
  · exact fun hg => ret1 (hR _ (Option.some.inj hg).symm) (fz_sc _ _)
  · refine cond_b (fun _ => ?_) (fun _ => ?_)
    · exact fun hg => ret1 (hR _ (Option.some.inj hg).symm) (fz_sc _ _)
    · refine imp (opP_of (show _ = some ((intA (a0.length : Int)), []) from rfl)) ?_
      refine imp ex_i64_b ?_
      exact fun hg => L29_0_ok n a0 (0) (a0.length : Int) R  hR n _ hg (weak_mem [] rfl rfl rfl (okW_cons (ent_lst (E := TP.E) _ false) (okW_cons (.inl (leV_refl _)) (okW_cons (.inl (leV_refl _)) (okW_cons (ent_lst (E := TP.E) _ false) (okW_cons (.inl (leV_refl _)) (okW_cons (.inl (leV_refl _)) okW_nil)))))) okB_nil')
theorem sg29 {n : Nat} {a0 : List TP} {t : ρ29} (h : g29 n a0 = some t) : Says Try.prog KK.gl 29 [(lstA TP.E a0)] ((intA t)) :=
  says_of_own (by first | rfl | simp [cleans, clean, encs_clean, En.cln]) (by first | rfl | simp [cleans, clean, encs_clean, En.cln]) (F29_own (lstA TP.E a0) _ (g29_ok n a0 (Ans ((intA t))) (fun r e u m h => by rw [e]; exact h) h))
/- skyway/volume.Check -/
theorem g24_ok (n : Nat) (a0 : TVolume) {t : ρ24} (R : AV → Mem → Prop) (hR : ∀ r : ρ24, t = r → ∀ u m, Ans ((intA r)) u m → R u m) : g24 n a0 = some t → F24 (lstA TP.E a0.Area) a0.Low a0.High R := by
  unfold g24 F24
  refine imp (chk_of rfl) ?_
  refine bind_b fun x58 h58 => ?_
  refine imp (callQ_says (sg29 h58)) ?_
  refine imp ex_i64_b ?_
  refine cond_b (fun _ => ?_) (fun _ => ?_)
  · exact fun hg => ret1 (hR _ (Option.some.inj hg).symm) (fz_sc _ _)
  · refine cond_b (fun _ => ?_) (fun _ => ?_)
    · exact fun hg => ret1 (hR _ (Option.some.inj hg).symm) (fz_sc _ _)
    · refine cond_b (fun _ => ?_) (fun _ => ?_)
      · exact fun hg => ret1 (hR _ (Option.some.inj hg).symm) (fz_sc _ _)
      · refine cond_b (fun _ => ?_) (fun _ => ?_)
        · exact fun hg => ret1 (hR _ (Option.some.inj hg).symm) (fz_sc _ _)
        · exact fun hg => ret1 (hR _ (Option.some.inj hg).symm) (fz_sc _ _)
theorem sg24 {n : Nat} {a0 : TVolume} {t : ρ24} (h : g24 n a0 = some t) : Says Try.prog KK.gl 24 [(AV.agg [(lstA TP.E a0.Area), (intA a0.Low), (intA a0.High)])] ((intA t)) :=
  says_of_own (by first | rfl | simp [cleans, clean, encs_clean, En.cln]) (by first | rfl | simp [cleans, clean, encs_clean, En.cln]) (F24_own (lstA TP.E a0.Area) a0.Low a0.High _ (g24_ok n a0 (Ans ((intA t))) (fun r e u m h => by rw [e]; exact h) h))
/- skyway/sector.Check$1 -/
theorem g26_ok (n : Nat) (a0 : TSector) (a1_0 : ByteArray) (a1_1 : List TVolume) {t : ρ26} (R : AV → Mem → Prop) (hR : ∀ r : ρ26, t = r → ∀ u m, Ans ((boolA r)) u m → R u m) : g26 n a0 a1_0 a1_1 = some t → F26 a0.Name (lstA TVolume.E a0.Room) (AV.ept [(strA a1_0), (lstA TVolume.E a1_1)] 0) R := by
  unfold g26 F26
  refine imp (chk_of rfl) ?_
  refine imp (opP_of (show _ = some ((AV.ept [(strA a1_0), (lstA TVolume.E a1_1)] 0), []) from rfl)) ?_
  refine imp (opP_of (show _ = some ((strA a1_0), []) from rfl)) ?_
  refine imp exStr_b ?_
  exact fun hg => ret1 (hR _ (Option.some.inj hg).symm) (fz_sc _ _)
theorem sg26 {n : Nat} {a0 : TSector} {a1_0 : ByteArray} {a1_1 : List TVolume} {t : ρ26} (h : g26 n a0 a1_0 a1_1 = some t) : Says Try.prog KK.gl 26 [(AV.agg [(strA a0.Name), (lstA TVolume.E a0.Room)]), (AV.ept [(strA a1_0), (lstA TVolume.E a1_1)] 0)] ((boolA t)) :=
  says_of_own (by first | rfl | simp [cleans, clean, encs_clean, En.cln]) (by first | rfl | simp [cleans, clean, encs_clean, En.cln]) (F26_own a0.Name (lstA TVolume.E a0.Room) (AV.ept [(strA a1_0), (lstA TVolume.E a1_1)] 0) _ (g26_ok n a0 a1_0 a1_1 (Ans ((boolA t))) (fun r e u m h => by rw [e]; exact h) h))
/- slices.IndexFunc[[]skyway/api.Sector,skyway/api.Sector] -/
theorem B31_0_x1_ok (n : Nat) (a0 : List TSector) (a1_0_0 : ByteArray) (a1_0_1 : List TVolume) (c4 : Int) (c7 : Int) (v8 : Int) {t : (Int) ⊕ ρ31} (R : AV → Mem → Prop) (N0 : St → Prop) (hR : ∀ r : ρ31, t = (.inr r) → ∀ u m, Ans ((intA r)) u m → R u m) (hN0 : ∀ y : Int, t = (.inl y) → ∀ s' : St, Weak KK 19 0 s' (h31_0 (lstA TSector.E a0) (AV.fn 26 [(AV.ept [(strA a1_0_0), (lstA TVolume.E a1_0_1)] 0)]) c4 c7 y []) → N0 s') : S31_0_x1 n a0 a1_0_0 a1_0_1 c4 c7 v8 = some t → B31_0 (lstA TSector.E a0) (AV.fn 26 [(AV.ept [(strA a1_0_0), (lstA TVolume.E a1_0_1)] 0)]) c4 c7 v8 [] R N0 := by
  unfold S31_0_x1 B31_0
  refine cond_b (fun _ => ?_) (fun _ => ?_)
  · refine bind_b fun x61 h61 => ?_
    refine imp (opP_of (show _ = some ((AV.ept [(strA x61.Name), (lstA TVolume.E x61.Room)] 0), []) from (idx_lst (E := TSector.E) rfl h61))) ?_
    refine imp (opP_of (show _ = some ((AV.agg [(strA x61.Name), (lstA TVolume.E x61.Room)]), []) from rfl)) ?_
    refine imp exA2_b ?_
    refine imp exStr_b ?_
    refine bind_b fun x62 h62 => ?_
    refine imp fnArgs_b ?_
    refine imp (cond_ff rfl) ?_
    refine imp (callW_says (sg26 h62)) ?_
    refine imp exB_b ?_
    refine cond_b (fun _ => ?_) (fun _ => ?_)
    · exact fun hg => ret1 (hR _ (Option.some.inj hg).symm) (fz_sc _ _)
    · exact fun hg => hN0 _ (Option.some.inj hg).symm _ (weak_mem [] rfl rfl rfl (okW_cons (ent_lst (E := TSector.E) _ false) (okW_cons (ent_clean (leV_refl _) (by simp [clean, cleans, encs_clean])) (okW_cons (.inl (leV_refl _)) (okW_cons (.inl (leV_refl _)) (okW_cons (.inl (leV_refl _)) okW_nil))))) okB_nil')
  · exact fun hg => ret1 (hR _ (Option.some.inj hg).symm) (fz_sc _ _)
theorem L31_0_x1_ok (n : Nat) (a0 : List TSector) (a1_0_0 : ByteArray) (a1_0_1 : List TVolume) (c4 : Int) (c7 : Int) {t : ρ31} (R : AV → Mem → Prop) (hR : ∀ r : ρ31, t = r → ∀ u m, Ans ((intA r)) u m → R u m) (k : Nat) (x : Int) (hx : iterO (fun y : Int => S31_0_x1 n a0 a1_0_0 a1_0_1 c4 c7 y) k x = some t) {s : St} (hw : Weak KK 19 0 s (h31_0 (lstA TSector.E a0) (AV.fn 26 [(AV.ept [(strA a1_0_0), (lstA TVolume.E a1_0_1)] 0)]) c4 c7 x [])) : Tri Try.prog KK 19 0 (.loop c31_0) s (q31_0 R ) :=
  L31_0 R  (σ := Nat × (Int)) (fun z => iterO (fun y : Int => S31_0_x1 n a0 a1_0_0 a1_0_1 c4 c7 y) z.1 z.2 = some t) (fun z => (lstA TSector.E a0)) (fun z => (AV.fn 26 [(AV.ept [(strA a1_0_0), (lstA TVolume.E a1_0_1)] 0)])) (fun z => c4) (fun z => c7) (fun z => z.2) (fun z => []) (fun z => z.1) (by
    rintro ⟨k, y⟩ h
    cases k with
    | zero => exact (iterO_zero h).elim
    | succ k =>
      obtain ⟨u, h1, h2, h3⟩ := iterO_elim h
      exact B31_0_x1_ok n a0 a1_0_0 a1_0_1 c4 c7 y R  _ (fun r e => hR r (h3 _ e).symm)  (fun y' e s' hw => ⟨(k, y'), h2 _ e, Nat.lt_succ_self k, hw⟩) h1) (k, x) hx hw
theorem g31_1_ok (n : Nat) (a0 : List TSector) (a1_0_0 : ByteArray) (a1_0_1 : List TVolume) {t : ρ31} (R : AV → Mem → Prop) (hR : ∀ r : ρ31, t = r → ∀ u m, Ans ((intA r)) u m → R u m) : g31_1 n a0 a1_0_0 a1_0_1 = some t → F31 (lstA TSector.E a0) (AV.fn 26 [(AV.ept [(strA a1_0_0), (lstA TVolume.E a1_0_1)] 0)]) R := by
  unfold g31_1 F31
  refine imp (opP_of (show _ = some ((intA (a0.length : Int)), []) from rfl)) ?_
  refine imp ex_i64_b ?_
  exact fun hg => L31_0_x1_ok n a0 a1_0_0 a1_0_1 (0) (a0.length : Int) R  hR n _ hg (weak_mem [] rfl rfl rfl (okW_cons (ent_lst (E := TSector.E) _ false) (okW_cons (ent_clean (leV_refl _) (by simp [clean, cleans, encs_clean])) (okW_cons (.inl (leV_refl _)) (okW_cons (.inl (leV_refl _)) (okW_cons (.inl (leV_refl _)) okW_nil))))) okB_nil')
theorem sg31_1 {n : Nat} {a0 : List TSector} {a1_0_0 : ByteArray} {a1_0_1 : List TVolume} {t : ρ31} (h : g31_1 n a0 a1_0_0 a1_0_1 = some t) : Says Try.prog KK.gl 31 [(lstA TSector.E a0), (AV.fn 26 [(AV.ept [(strA a1_0_0), (lstA TVolume.E a1_0_1)] 0)])] ((intA t)) :=
  says_of_own (by first | rfl | simp [cleans, clean, encs_clean, En.cln]) (by first | rfl | simp [cleans, clean, encs_clean, En.cln]) (F31_own (lstA TSector.E a0) (AV.fn 26 [(AV.ept [(strA a1_0_0), (lstA TVolume.E a1_0_1)] 0)]) _ (g31_1_ok n a0 a1_0_0 a1_0_1 (Ans ((intA t))) (fun r e u m h => by rw [e]; exact h) h))
/- slices.ContainsFunc[[]skyway/api.Sector,skyway/api.Sector] -/
theorem g25_ok (n : Nat) (a0 : List TSector) (a1_0_0 : ByteArray) (a1_0_1 : List TVolume) {t : ρ25} (R : AV → Mem → Prop) (hR : ∀ r : ρ25, t = r → ∀ u m, Ans ((boolA r)) u m → R u m) : g25 n a0 a1_0_0 a1_0_1 = some t → F25 (lstA TSector.E a0) (AV.fn 26 [(AV.ept [(strA a1_0_0), (lstA TVolume.E a1_0_1)] 0)]) R := by
  unfold g25 F25
  refine bind_b fun x63 h63 => ?_
  refine imp (callQ_says (sg31_1 h63)) ?_
  refine imp ex_i64_b ?_
  exact fun hg => ret1 (hR _ (Option.some.inj hg).symm) (fz_sc _ _)
theorem sg25 {n : Nat} {a0 : List TSector} {a1_0_0 : ByteArray} {a1_0_1 : List TVolume} {t : ρ25} (h : g25 n a0 a1_0_0 a1_0_1 = some t) : Says Try.prog KK.gl 25 [(lstA TSector.E a0), (AV.fn 26 [(AV.ept [(strA a1_0_0), (lstA TVolume.E a1_0_1)] 0)])] ((boolA t)) :=
  says_of_own (by first | rfl | simp [cleans, clean, encs_clean, En.cln]) (by first | rfl | simp [cleans, clean, encs_clean, En.cln]) (F25_own (lstA TSector.E a0) (AV.fn 26 [(AV.ept [(strA a1_0_0), (lstA TVolume.E a1_0_1)] 0)]) _ (g25_ok n a0 a1_0_0 a1_0_1 (Ans ((boolA t))) (fun r e u m h => by rw [e]; exact h) h))
/- skyway/polygon.doubled -/
theorem B49_0_ok (n : Nat) (a0 : List TP) (c7 : Int) (v8 : Int) (L90000 : List TP) {t : (Int × List TP) ⊕ ρ49} (R : AV → Mem → Prop) (N0 : St → Prop) (hR : ∀ r : ρ49, t = (.inr r) → ∀ u m, Ans ((lstA TP.E r)) u m → R u m) (hN0 : ∀ y : Int × List TP, t = (.inl y) → ∀ s' : St, Weak KK 24 0 s' (h49_0 AV.nils (ownV TP.E 90000 y.2) (lstA TP.E a0) c7 y.1 [(90000, ownB TP.E 24 y.2)]) → N0 s') : S49_0 n a0 c7 v8 L90000 = some t → B49_0 AV.nils (ownV TP.E 90000 L90000) (lstA TP.E a0) c7 v8 [(90000, ownB TP.E 24 L90000)] R N0 := by
  unfold S49_0 B49_0
  refine cond_b (fun _ => ?_) (fun _ => ?_)
  · refine bind_b fun x79 h79 => ?_
    refine imp (opP_of (show _ = some ((AV.ept [(intA x79.X), (intA x79.Y)] 0), []) from (idx_lst (E := TP.E) rfl h79))) ?_
    refine imp (opP_of (show _ = some ((AV.agg [(intA x79.X), (intA x79.Y)]), []) from rfl)) ?_
    refine imp exA2_b ?_
    refine imp ex_i64_b ?_
    refine imp ex_i64_b ?_
    refine imp (opP_of (show _ = some ((AV.agg [(intA (IntKind.wrap .i64 ((2) * x79.X))), (intA (IntKind.wrap .i64 ((2) * x79.Y)))]), []) from rfl)) ?_
    refine imp (opN_of (show _ = some ((blkV TP.E 100013 ([(⟨(IntKind.wrap .i64 ((2) * x79.X)), (IntKind.wrap .i64 ((2) * x79.Y))⟩ : TP)] : List TP)), [(100013, some ⟨encs TP.E ([(⟨(IntKind.wrap .i64 ((2) * x79.X)), (IntKind.wrap .i64 ((2) * x79.Y))⟩ : TP)] : List TP), 24⟩)]) from rfl)) ?_
    refine bind_b fun x81 h81 => ?_
    refine imp (opN_of (show _ = some ((ownV TP.E 100014 (L90000 ++ ([(⟨(IntKind.wrap .i64 ((2) * x79.X)), (IntKind.wrap .i64 ((2) * x79.Y))⟩ : TP)] : List TP))), (appW TP.E 100014 90000 24 L90000 ([(⟨(IntKind.wrap .i64 ((2) * x79.X)), (IntKind.wrap .i64 ((2) * x79.Y))⟩ : TP)] : List TP))) from (app_own (E := TP.E) (l' := L90000) (xs := ([(⟨(IntKind.wrap .i64 ((2) * x79.X)), (IntKind.wrap .i64 ((2) * x79.Y))⟩ : TP)] : List TP)) rfl rfl (cellsOf_blk (E := TP.E) (ty := 24) rfl rfl (by first | rfl | (simp (disch := first | decide | assumption) only [mpushs_nil, mpushs_cons, mget_hd, mget_tl, mget_appW_o, mget_appW_n, mget_appW_e]))) (by first | assumption | simp) rfl (fun hne => Eq.trans (by first | rfl | (simp (disch := first | decide | assumption) only [mpushs_nil, mpushs_cons, mget_hd, mget_tl, mget_appW_o, mget_appW_n, mget_appW_e])) (ownB_ne hne)) h81))) ?_
    exact fun hg => hN0 _ (Option.some.inj hg).symm _ (weak_mem [(90000, 100014)] rfl rfl rfl (okW_cons (.inl (leV_refl _)) (okW_cons (ent_own (E := TP.E) (id := 100014) (l' := (L90000 ++ ([(⟨(IntKind.wrap .i64 ((2) * x79.X)), (IntKind.wrap .i64 ((2) * x79.Y))⟩ : TP)] : List TP))) rfl rfl) (okW_cons (ent_lst (E := TP.E) _ false) (okW_cons (.inl (leV_refl _)) (okW_cons (.inl (leV_refl _)) okW_nil))))) (okB_cons (okB_own (E := TP.E) (ty := 24) (l' := (L90000 ++ ([(⟨(IntKind.wrap .i64 ((2) * x79.X)), (IntKind.wrap .i64 ((2) * x79.Y))⟩ : TP)] : List TP))) rfl (show mget _ 100014 = _ from (by first | rfl | (simp (disch := first | decide | assumption) only [mpushs_nil, mpushs_cons, mget_hd, mget_tl, mget_appW_o, mget_appW_n, mget_appW_e])))) okB_nil'))
  · exact fun hg => ret1 (hR _ (Option.some.inj hg).symm) (fz_own (E := TP.E) (ty := 24) (l' := L90000) _ rfl (by first | rfl | (simp (disch := first | decide | assumption) only [mpushs_nil, mpushs_cons, mget_hd, mget_tl, mget_appW_o, mget_appW_n, mget_appW_e])))
theorem L49_0_ok (n : Nat) (a0 : List TP) (c7 : Int) {t : ρ49} (R : AV → Mem → Prop) (hR : ∀ r : ρ49, t = r → ∀ u m, Ans ((lstA TP.E r)) u m → R u m) (k : Nat) (x : Int × List TP) (hx : iterO (fun y : Int × List TP => S49_0 n a0 c7 y.1 y.2) k x = some t) {s : St} (hw : Weak KK 24 0 s (h49_0 AV.nils (ownV TP.E 90000 x.2) (lstA TP.E a0) c7 x.1 [(90000, ownB TP.E 24 x.2)])) : Tri Try.prog KK 24 0 (.loop c49_0) s (q49_0 R ) :=
  L49_0 R  (σ := Nat × (Int × List TP)) (fun z => iterO (fun y : Int × List TP => S49_0 n a0 c7 y.1 y.2) z.1 z.2 = some t) (fun z => AV.nils) (fun z => (ownV TP.E 90000 z.2.2)) (fun z => (lstA TP.E a0)) (fun z => c7) (fun z => z.2.1) (fun z => [(90000, ownB TP.E 24 z.2.2)]) (fun z => z.1) (by
    rintro ⟨k, y⟩ h
    cases k with
    | zero => exact (iterO_zero h).elim
    | succ k =>
      obtain ⟨u, h1, h2, h3⟩ := iterO_elim h
      exact B49_0_ok n a0 c7 y.1 y.2 R  _ (fun r e => hR r (h3 _ e).symm)  (fun y' e s' hw => ⟨(k, y'), h2 _ e, Nat.lt_succ_self k, hw⟩) h1) (k, x) hx hw
theorem g49_ok (n : Nat) (a0 : List TP) {t : ρ49} (R : AV → Mem → Prop) (hR : ∀ r : ρ49, t = r → ∀ u m, Ans ((lstA TP.E r)) u m → R u m) : g49 n a0 = some t → F49 (lstA TP.E a0) R := by
  unfold g49 F49
  refine imp (opP_of (show _ = some ((intA (a0.length : Int)), []) from rfl)) ?_
  refine imp ex_i64_b ?_
  exact fun hg => L49_0_ok n a0 (a0.length : Int) R  hR n _ hg (weak_mem [(90000, 89500)] rfl rfl rfl (okW_cons (.inl (leV_refl _)) (okW_cons ent_nils_own (okW_cons (ent_lst (E := TP.E) _ false) (okW_cons (.inl (leV_refl _)) (okW_cons (.inl (leV_refl _)) okW_nil))))) (okB_cons okB_nil okB_nil'))
theorem sg49 {n : Nat} {a0 : List TP} {t : ρ49} (h : g49 n a0 = some t) : Says Try.prog KK.gl 49 [(lstA TP.E a0)] ((lstA TP.E t)) :=
  says_of_own (by first | rfl | simp [cleans, clean, encs_clean, En.cln]) (by first | rfl | simp [cleans, clean, encs_clean, En.cln]) (F49_own (lstA TP.E a0) _ (g49_ok n a0 (Ans ((lstA TP.E t))) (fun r e u m h => by rw [e]; exact h) h))
/- skyway/plane.Dot -/
theorem g61_ok (n : Nat) (a0 : TP) (a1 : TP) {t : ρ61} (R : AV → Mem → Prop) (hR : ∀ r : ρ61, t = r → ∀ u m, Ans ((intA r)) u m → R u m) : g61 n a0 a1 = some t → F61 a0.X a0.Y a1.X a1.Y R := by
  unfold g61 F61
  exact fun hg => ret1 (hR _ (Option.some.inj hg).symm) (fz_sc _ _)
theorem sg61 {n : Nat} {a0 : TP} {a1 : TP} {t : ρ61} (h : g61 n a0 a1 = some t) : Says Try.prog KK.gl 61 [(AV.agg [(intA a0.X), (intA a0.Y)]), (AV.agg [(intA a1.X), (intA a1.Y)])] ((intA t)) :=
  says_of_own (by first | rfl | simp [cleans, clean, encs_clean, En.cln]) (by first | rfl | simp [cleans, clean, encs_clean, En.cln]) (F61_own a0.X a0.Y a1.X a1.Y _ (g61_ok n a0 a1 (Ans ((intA t))) (fun r e u m h => by rw [e]; exact h) h))
/- skyway/plane.Square -/
theorem g60_ok (n : Nat) (a0 : TP) (a1 : TP) {t : ρ60} (R : AV → Mem → Prop) (hR : ∀ r : ρ60, t = r → ∀ u m, Ans ((intA r)) u m → R u m) : g60 n a0 a1 = some t → F60 a0.X a0.Y a1.X a1.Y R := by
  unfold g60 F60
  refine bind_b fun x90 h90 => ?_
  refine imp (callQ_says (sg51 h90)) ?_
  refine imp exA2_b ?_
  refine imp ex_i64_b ?_
  refine imp ex_i64_b ?_
  refine bind_b fun x91 h91 => ?_
  refine imp (callQ_says (sg61 h91)) ?_
  refine imp ex_i64_b ?_
  exact fun hg => ret1 (hR _ (Option.some.inj hg).symm) (fz_sc _ _)
theorem sg60 {n : Nat} {a0 : TP} {a1 : TP} {t : ρ60} (h : g60 n a0 a1 = some t) : Says Try.prog KK.gl 60 [(AV.agg [(intA a0.X), (intA a0.Y)]), (AV.agg [(intA a1.X), (intA a1.Y)])] ((intA t)) :=
  says_of_own (by first | rfl | simp [cleans, clean, encs_clean, En.cln]) (by first | rfl | simp [cleans, clean, encs_clean, En.cln]) (F60_own a0.X a0.Y a1.X a1.Y _ (g60_ok n a0 a1 (Ans ((intA t))) (fun r e u m h => by rw [e]; exact h) h))
/- skyway/polygon.enters$1 -/
theorem g59_ok (n : Nat) (a0 : TP) (a1 : TP) (a2_0 : Int) (a2_1 : Int) {t : ρ59} (R : AV → Mem → Prop) (hR : ∀ r : ρ59, t = r → ∀ u m, Ans ((intA r)) u m → R u m) : g59 n a0 a1 a2_0 a2_1 = some t → F59 a0.X a0.Y a1.X a1.Y (AV.ept [(intA a2_0), (intA a2_1)] 0) R := by
  unfold g59 F59
  refine imp (opP_of (show _ = some ((AV.agg [(intA a2_0), (intA a2_1)]), []) from rfl)) ?_
  refine imp exA2_b ?_
  refine imp ex_i64_b ?_
  refine imp ex_i64_b ?_
  refine bind_b fun x92 h92 => ?_
  refine imp (callQ_says (sg60 h92)) ?_
  refine imp ex_i64_b ?_
  refine imp (opP_of (show _ = some ((AV.agg [(intA a2_0), (intA a2_1)]), []) from rfl)) ?_
  refine imp exA2_b ?_
  refine imp ex_i64_b ?_
  refine imp ex_i64_b ?_
  refine bind_b fun x93 h93 => ?_
  refine imp (callQ_says (sg60 h93)) ?_
  refine imp ex_i64_b ?_
  exact fun hg => ret1 (hR _ (Option.some.inj hg).symm) (fz_sc _ _)
theorem sg59 {n : Nat} {a0 : TP} {a1 : TP} {a2_0 : Int} {a2_1 : Int} {t : ρ59} (h : g59 n a0 a1 a2_0 a2_1 = some t) : Says Try.prog KK.gl 59 [(AV.agg [(intA a0.X), (intA a0.Y)]), (AV.agg [(intA a1.X), (intA a1.Y)]), (AV.ept [(intA a2_0), (intA a2_1)] 0)] ((intA t)) :=
  says_of_own (by first | rfl | simp [cleans, clean, encs_clean, En.cln]) (by first | rfl | simp [cleans, clean, encs_clean, En.cln]) (F59_own a0.X a0.Y a1.X a1.Y (AV.ept [(intA a2_0), (intA a2_1)] 0) _ (g59_ok n a0 a1 a2_0 a2_1 (Ans ((intA t))) (fun r e u m h => by rw [e]; exact h) h))
end Go.Proofs.Ytfncpfnanmoapaa
