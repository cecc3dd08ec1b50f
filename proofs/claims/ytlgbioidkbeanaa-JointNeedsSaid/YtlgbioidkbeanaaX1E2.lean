/- Plain functional programs out of the program's functions, with proofs that the functions compute them; printed by wip/Ext.lean.txt. -/
import Derived.Test.YtlgbioidkbeanaaX1E1
set_option linter.unusedVariables false
set_option linter.unusedSimpArgs false
set_option maxRecDepth 100000
set_option maxHeartbeats 4000000
namespace Go.Proofs.Ytlgbioidkbeanaa
/- skyway/probe.First -/
theorem g42_ok (n : Nat) (a0 : List TTubeNode) (a1 : List TTubeNode) (a2 : TSep) {t : ρ42} (R : AV → Mem → Prop) (hR : ∀ r : ρ42, t = r → ∀ u m, Ans ((AV.tup [(intA r.1), (intA r.2)])) u m → R u m) : g42 n a0 a1 a2 = some t → F42 (lstA TTubeNode.E a0) (lstA TTubeNode.E a1) a2.Lateral a2.Vertical R := by
  unfold g42 F42
  refine bind_b fun x60 h60 => ?_
  refine imp (callQ_says (sg52 h60)) ?_
  refine imp exT2_b ?_
  refine imp ex_i64_b ?_
  refine cond_b (fun _ => ?_) (fun _ => ?_)
  · exact fun hg => retN rfl (hR _ (Option.some.inj hg).symm) (fzL_cons (fz_sc _ _) (fzL_cons (fz_sc _ _) fzL_nil))
  · refine imp (opP_of (show _ = some ((intA (x60.1.length : Int)), []) from rfl)) ?_
    refine imp ex_i64_b ?_
    refine cond_b (fun _ => ?_) (fun _ => ?_)
    · exact fun hg => retN rfl (hR _ (Option.some.inj hg).symm) (fzL_cons (fz_sc _ _) (fzL_cons (fz_sc _ _) fzL_nil))
    · refine bind_b fun x61 h61 => ?_
      refine imp (opP_of (show _ = some ((AV.ept [(intA x61.From), (intA x61.To)] 0), []) from (idx_lst (E := TSpan.E) rfl h61))) ?_
      refine imp (opP_of (show _ = some ((AV.ept [(intA x61.From), (intA x61.To)] 0), []) from rfl)) ?_
      refine imp (opP_of (show _ = some ((intA x61.From), []) from rfl)) ?_
      refine imp ex_i64_b ?_
      exact fun hg => retN rfl (hR _ (Option.some.inj hg).symm) (fzL_cons (fz_sc _ _) (fzL_cons (fz_sc _ _) fzL_nil))
theorem sg42 {n : Nat} {a0 : List TTubeNode} {a1 : List TTubeNode} {a2 : TSep} {t : ρ42} (h : g42 n a0 a1 a2 = some t) : Says Try.prog KK.gl 42 [(lstA TTubeNode.E a0), (lstA TTubeNode.E a1), (AV.agg [(intA a2.Lateral), (intA a2.Vertical)])] ((AV.tup [(intA t.1), (intA t.2)])) :=
  says_of_own (by first | rfl | simp [cleans, clean, encs_clean, En.cln]) (by first | rfl | simp [cleans, clean, encs_clean, En.cln]) (F42_own (lstA TTubeNode.E a0) (lstA TTubeNode.E a1) a2.Lateral a2.Vertical _ (g42_ok n a0 a1 a2 (Ans ((AV.tup [(intA t.1), (intA t.2)]))) (fun r e u m h => by rw [e]; exact h) h))
/- cmp.isNaN[int] -/
theorem g53_ok (n : Nat) (a0 : Int) {t : ρ53} (R : AV → Mem → Prop) (hR : ∀ r : ρ53, t = r → ∀ u m, Ans ((boolA r)) u m → R u m) : g53 n a0 = some t → F53 a0 R := by
  unfold g53 F53
  exact fun hg => ret1 (hR _ (Option.some.inj hg).symm) (fz_sc _ _)
theorem sg53 {n : Nat} {a0 : Int} {t : ρ53} (h : g53 n a0 = some t) : Says Try.prog KK.gl 53 [(intA a0)] ((boolA t)) :=
  says_of_own (by first | rfl | simp [cleans, clean, encs_clean, En.cln]) (by first | rfl | simp [cleans, clean, encs_clean, En.cln]) (F53_own a0 _ (g53_ok n a0 (Ans ((boolA t))) (fun r e u m h => by rw [e]; exact h) h))
/- cmp.Compare[int] -/
theorem g44_ok (n : Nat) (a0 : Int) (a1 : Int) {t : ρ44} (R : AV → Mem → Prop) (hR : ∀ r : ρ44, t = r → ∀ u m, Ans ((intA r)) u m → R u m) : g44 n a0 a1 = some t → F44 a0 a1 R := by
  unfold g44 F44
  refine bind_b fun x64 h64 => ?_
  refine imp (callQ_says (sg53 h64)) ?_
  refine imp exB_b ?_
  refine bind_b fun x65 h65 => ?_
  refine imp (callQ_says (sg53 h65)) ?_
  refine imp exB_b ?_
  refine cond_b (fun _ => ?_) (fun _ => ?_)
  · refine cond_b (fun _ => ?_) (fun _ => ?_)
    · exact fun hg => ret1 (hR _ (Option.some.inj hg).symm) (fz_sc _ _)
    · exact fun hg => ret1 (hR _ (Option.some.inj hg).symm) (fz_sc _ _)
  · refine cond_b (fun _ => ?_) (fun _ => ?_)
    · exact fun hg => ret1 (hR _ (Option.some.inj hg).symm) (fz_sc _ _)
    · refine cond_b (fun _ => ?_) (fun _ => ?_)
      · exact fun hg => ret1 (hR _ (Option.some.inj hg).symm) (fz_sc _ _)
      · refine cond_b (fun _ => ?_) (fun _ => ?_)
        · exact fun hg => ret1 (hR _ (Option.some.inj hg).symm) (fz_sc _ _)
        · exact fun hg => ret1 (hR _ (Option.some.inj hg).symm) (fz_sc _ _)
theorem sg44 {n : Nat} {a0 : Int} {a1 : Int} {t : ρ44} (h : g44 n a0 a1 = some t) : Says Try.prog KK.gl 44 [(intA a0), (intA a1)] ((intA t)) :=
  says_of_own (by first | rfl | simp [cleans, clean, encs_clean, En.cln]) (by first | rfl | simp [cleans, clean, encs_clean, En.cln]) (F44_own a0 a1 _ (g44_ok n a0 a1 (Ans ((intA t))) (fun r e u m h => by rw [e]; exact h) h))
/- slices.Compare[[]int,int] -/
theorem B32_0_ok (n : Nat) (a0 : List Int) (a1 : List Int) (c4 : Int) (c10 : Int) (v11 : Int) {t : (Int) ⊕ ρ32} (R : AV → Mem → Prop) (N0 : St → Prop) (hR : ∀ r : ρ32, t = (.inr r) → ∀ u m, Ans ((intA r)) u m → R u m) (hN0 : ∀ y : Int, t = (.inl y) → ∀ s' : St, Weak KK 36 0 s' (h32_0 (lstA intE a0) (lstA intE a1) c4 (lstA intE a0) c10 y []) → N0 s') : S32_0 n a0 a1 c4 c10 v11 = some t → B32_0 (lstA intE a0) (lstA intE a1) c4 (lstA intE a0) c10 v11 [] R N0 := by
  unfold S32_0 B32_0
  refine cond_b (fun _ => ?_) (fun _ => ?_)
  · refine bind_b fun x62 h62 => ?_
    refine imp (opP_of (show _ = some ((AV.ept [(intA x62)] 0), []) from (idx_lst (E := intE) rfl h62))) ?_
    refine imp (opP_of (show _ = some ((intA x62), []) from rfl)) ?_
    refine imp ex_i64_b ?_
    refine imp (opP_of (show _ = some ((intA (a1.length : Int)), []) from rfl)) ?_
    refine imp ex_i64_b ?_
    refine cond_b (fun _ => ?_) (fun _ => ?_)
    · exact fun hg => ret1 (hR _ (Option.some.inj hg).symm) (fz_sc _ _)
    · refine bind_b fun x63 h63 => ?_
      refine imp (opP_of (show _ = some ((AV.ept [(intA x63)] 0), []) from (idx_lst (E := intE) rfl h63))) ?_
      refine imp (opP_of (show _ = some ((intA x63), []) from rfl)) ?_
      refine imp ex_i64_b ?_
      refine bind_b fun x66 h66 => ?_
      refine imp (callQ_says (sg44 h66)) ?_
      refine imp ex_i64_b ?_
      refine cond_b (fun _ => ?_) (fun _ => ?_)
      · exact fun hg => ret1 (hR _ (Option.some.inj hg).symm) (fz_sc _ _)
      · exact fun hg => hN0 _ (Option.some.inj hg).symm _ (weak_mem [] rfl rfl rfl (okW_cons (ent_lst (E := intE) _ false) (okW_cons (ent_lst (E := intE) _ false) (okW_cons (.inl (leV_refl _)) (okW_cons (ent_lst (E := intE) _ false) (okW_cons (.inl (leV_refl _)) (okW_cons (.inl (leV_refl _)) okW_nil)))))) okB_nil')
  · refine imp (opP_of (show _ = some ((intA (a0.length : Int)), []) from rfl)) ?_
    refine imp ex_i64_b ?_
    refine imp (opP_of (show _ = some ((intA (a1.length : Int)), []) from rfl)) ?_
    refine imp ex_i64_b ?_
    refine cond_b (fun _ => ?_) (fun _ => ?_)
    · exact fun hg => ret1 (hR _ (Option.some.inj hg).symm) (fz_sc _ _)
    · exact fun hg => ret1 (hR _ (Option.some.inj hg).symm) (fz_sc _ _)
theorem L32_0_ok (n : Nat) (a0 : List Int) (a1 : List Int) (c4 : Int) (c10 : Int) {t : ρ32} (R : AV → Mem → Prop) (hR : ∀ r : ρ32, t = r → ∀ u m, Ans ((intA r)) u m → R u m) (k : Nat) (x : Int) (hx : iterO (fun y : Int => S32_0 n a0 a1 c4 c10 y) k x = some t) {s : St} (hw : Weak KK 36 0 s (h32_0 (lstA intE a0) (lstA intE a1) c4 (lstA intE a0) c10 x [])) : Tri Try.prog KK 36 0 (.loop c32_0) s (q32_0 R ) :=
  L32_0 R  (σ := Nat × (Int)) (fun z => iterO (fun y : Int => S32_0 n a0 a1 c4 c10 y) z.1 z.2 = some t) (fun z => (lstA intE a0)) (fun z => (lstA intE a1)) (fun z => c4) (fun z => (lstA intE a0)) (fun z => c10) (fun z => z.2) (fun z => []) (fun z => z.1) (by
    rintro ⟨k, y⟩ h
    cases k with
    | zero => exact (iterO_zero h).elim
    | succ k =>
      obtain ⟨u, h1, h2, h3⟩ := iterO_elim h
      exact B32_0_ok n a0 a1 c4 c10 y R  _ (fun r e => hR r (h3 _ e).symm)  (fun y' e s' hw => ⟨(k, y'), h2 _ e, Nat.lt_succ_self k, hw⟩) h1) (k, x) hx hw
theorem g32_ok (n : Nat) (a0 : List Int) (a1 : List Int) {t : ρ32} (R : AV → Mem → Prop) (hR : ∀ r : ρ32, t = r → ∀ u m, Ans ((intA r)) u m → R u m) : g32 n a0 a1 = some t → F32 (lstA intE a0) (lstA intE a1) R := by
  unfold g32 F32
  refine imp (opP_of (show _ = some ((intA (a0.length : Int)), []) from rfl)) ?_
  refine imp ex_i64_b ?_
  exact fun hg => L32_0_ok n a0 a1 (0) (a0.length : Int) R  hR n _ hg (weak_mem [] rfl rfl rfl (okW_cons (ent_lst (E := intE) _ false) (okW_cons (ent_lst (E := intE) _ false) (okW_cons (.inl (leV_refl _)) (okW_cons (ent_lst (E := intE) _ false) (okW_cons (.inl (leV_refl _)) (okW_cons (.inl (leV_refl _)) okW_nil)))))) okB_nil')
theorem sg32 {n : Nat} {a0 : List Int} {a1 : List Int} {t : ρ32} (h : g32 n a0 a1 = some t) : Says Try.prog KK.gl 32 [(lstA intE a0), (lstA intE a1)] ((intA t)) :=
  says_of_own (by first | rfl | simp [cleans, clean, encs_clean, En.cln]) (by first | rfl | simp [cleans, clean, encs_clean, En.cln]) (F32_own (lstA intE a0) (lstA intE a1) _ (g32_ok n a0 a1 (Ans ((intA t))) (fun r e u m h => by rw [e]; exact h) h))
/- slices.Equal[[]int,int] -/
theorem B22_0_ok (n : Nat) (a0 : List Int) (a1 : List Int) (c4 : Bool) (c12 : Int) (v13 : Int) {t : (Int) ⊕ ρ22} (R : AV → Mem → Prop) (N0 : St → Prop) (hR : ∀ r : ρ22, t = (.inr r) → ∀ u m, Ans ((boolA r)) u m → R u m) (hN0 : ∀ y : Int, t = (.inl y) → ∀ s' : St, Weak KK 26 0 s' (h22_0 (lstA intE a0) (lstA intE a1) c4 c12 y []) → N0 s') : S22_0 n a0 a1 c4 c12 v13 = some t → B22_0 (lstA intE a0) (lstA intE a1) c4 c12 v13 [] R N0 := by
  unfold S22_0 B22_0
  refine cond_b (fun _ => ?_) (fun _ => ?_)
  · refine bind_b fun x67 h67 => ?_
    refine imp (opP_of (show _ = some ((AV.ept [(intA x67)] 0), []) from (idx_lst (E := intE) rfl h67))) ?_
    refine imp (opP_of (show _ = some ((intA x67), []) from rfl)) ?_
    refine imp ex_i64_b ?_
    refine bind_b fun x68 h68 => ?_
    refine imp (opP_of (show _ = some ((AV.ept [(intA x68)] 0), []) from (idx_lst (E := intE) rfl h68))) ?_
    refine imp (opP_of (show _ = some ((intA x68), []) from rfl)) ?_
    refine imp ex_i64_b ?_
    refine cond_b (fun _ => ?_) (fun _ => ?_)
    · exact fun hg => ret1 (hR _ (Option.some.inj hg).symm) (fz_sc _ _)
    · exact fun hg => hN0 _ (Option.some.inj hg).symm _ (weak_mem [] rfl rfl rfl (okW_cons (ent_lst (E := intE) _ false) (okW_cons (ent_lst (E := intE) _ false) (okW_cons (.inl (leV_refl _)) (okW_cons (.inl (leV_refl _)) (okW_cons (.inl (leV_refl _)) okW_nil))))) okB_nil')
  · exact fun hg => ret1 (hR _ (Option.some.inj hg).symm) (fz_sc _ _)
theorem L22_0_ok (n : Nat) (a0 : List Int) (a1 : List Int) (c4 : Bool) (c12 : Int) {t : ρ22} (R : AV → Mem → Prop) (hR : ∀ r : ρ22, t = r → ∀ u m, Ans ((boolA r)) u m → R u m) (k : Nat) (x : Int) (hx : iterO (fun y : Int => S22_0 n a0 a1 c4 c12 y) k x = some t) {s : St} (hw : Weak KK 26 0 s (h22_0 (lstA intE a0) (lstA intE a1) c4 c12 x [])) : Tri Try.prog KK 26 0 (.loop c22_0) s (q22_0 R ) :=
  L22_0 R  (σ := Nat × (Int)) (fun z => iterO (fun y : Int => S22_0 n a0 a1 c4 c12 y) z.1 z.2 = some t) (fun z => (lstA intE a0)) (fun z => (lstA intE a1)) (fun z => c4) (fun z => c12) (fun z => z.2) (fun z => []) (fun z => z.1) (by
    rintro ⟨k, y⟩ h
    cases k with
    | zero => exact (iterO_zero h).elim
    | succ k =>
      obtain ⟨u, h1, h2, h3⟩ := iterO_elim h
      exact B22_0_ok n a0 a1 c4 c12 y R  _ (fun r e => hR r (h3 _ e).symm)  (fun y' e s' hw => ⟨(k, y'), h2 _ e, Nat.lt_succ_self k, hw⟩) h1) (k, x) hx hw
theorem g22_ok (n : Nat) (a0 : List Int) (a1 : List Int) {t : ρ22} (R : AV → Mem → Prop) (hR : ∀ r : ρ22, t = r → ∀ u m, Ans ((boolA r)) u m → R u m) : g22 n a0 a1 = some t → F22 (lstA intE a0) (lstA intE a1) R := by
  unfold g22 F22
  refine imp (opP_of (show _ = some ((intA (a0.length : Int)), []) from rfl)) ?_
  refine imp ex_i64_b ?_
  refine imp (opP_of (show _ = some ((intA (a1.length : Int)), []) from rfl)) ?_
  refine imp ex_i64_b ?_
  refine cond_b (fun _ => ?_) (fun _ => ?_)
  · exact fun hg => ret1 (hR _ (Option.some.inj hg).symm) (fz_sc _ _)
  · refine imp (opP_of (show _ = some ((intA (a0.length : Int)), []) from rfl)) ?_
    refine imp ex_i64_b ?_
    exact fun hg => L22_0_ok n a0 a1 false (a0.length : Int) R  hR n _ hg (weak_mem [] rfl rfl rfl (okW_cons (ent_lst (E := intE) _ false) (okW_cons (ent_lst (E := intE) _ false) (okW_cons (.inl (leV_refl _)) (okW_cons (.inl (leV_refl _)) (okW_cons (.inl (leV_refl _)) okW_nil))))) okB_nil')
theorem sg22 {n : Nat} {a0 : List Int} {a1 : List Int} {t : ρ22} (h : g22 n a0 a1 = some t) : Says Try.prog KK.gl 22 [(lstA intE a0), (lstA intE a1)] ((boolA t)) :=
  says_of_own (by first | rfl | simp [cleans, clean, encs_clean, En.cln]) (by first | rfl | simp [cleans, clean, encs_clean, En.cln]) (F22_own (lstA intE a0) (lstA intE a1) _ (g22_ok n a0 a1 (Ans ((boolA t))) (fun r e u m h => by rw [e]; exact h) h))
/- skyway/skywaykeep3.small -/
theorem B12_0_ok (n : Nat) (a2 : Int) (c6 : Bool) (a0 : List (List TTubeNode)) (c14 : Int) (v15 : Int) {t : (Int) ⊕ ρ12} (R : AV → Mem → Prop) (N0 : St → Prop) (hR : ∀ r : ρ12, t = (.inr r) → ∀ u m, Ans ((boolA r)) u m → R u m) (hN0 : ∀ y : Int, t = (.inl y) → ∀ s' : St, Weak KK 41 0 s' (h12_0 a2 c6 (lstA (lstE TTubeNode.E) a0) c14 y []) → N0 s') : S12_0 n a2 c6 a0 c14 v15 = some t → B12_0 a2 c6 (lstA (lstE TTubeNode.E) a0) c14 v15 [] R N0 := by
  unfold S12_0 B12_0
  refine cond_b (fun _ => ?_) (fun _ => ?_)
  · refine bind_b fun x72 h72 => ?_
    refine imp (opP_of (show _ = some ((AV.ept [(lstA TTubeNode.E x72)] 0), []) from (idx_lst (E := (lstE TTubeNode.E)) rfl h72))) ?_
    refine imp (opP_of (show _ = some ((lstA TTubeNode.E x72), []) from rfl)) ?_
    refine bind_b fun x73 h73 => ?_
    refine imp (callQ_says (sg33 h73)) ?_
    refine imp ex_i64_b ?_
    refine cond_b (fun _ => ?_) (fun _ => ?_)
    · exact fun hg => ret1 (hR _ (Option.some.inj hg).symm) (fz_sc _ _)
    · refine imp (opP_of (show _ = some ((intA (x72.length : Int)), []) from rfl)) ?_
      refine imp ex_i64_b ?_
      refine bind_b fun x74 h74 => ?_
      refine imp (opP_of (show _ = some ((AV.ept [(intA x74.Node_Time), (intA x74.Node_At_X), (intA x74.Node_At_Y), (intA x74.Node_Height), (intA x74.Radius), (intA x74.Band)] 0), []) from (idx_lst (E := TTubeNode.E) rfl h74))) ?_
      refine imp (opP_of (show _ = some ((AV.ept [(intA x74.Node_Time), (intA x74.Node_At_X), (intA x74.Node_At_Y), (intA x74.Node_Height), (intA x74.Radius), (intA x74.Band)] 0), []) from rfl)) ?_
      refine imp (opP_of (show _ = some ((AV.ept [(intA x74.Node_Time), (intA x74.Node_At_X), (intA x74.Node_At_Y), (intA x74.Node_Height), (intA x74.Radius), (intA x74.Band)] 0), []) from rfl)) ?_
      refine imp (opP_of (show _ = some ((intA x74.Node_Time), []) from rfl)) ?_
      refine imp ex_i64_b ?_
      refine bind_b fun x75 h75 => ?_
      refine imp (opP_of (show _ = some ((AV.ept [(intA x75.Node_Time), (intA x75.Node_At_X), (intA x75.Node_At_Y), (intA x75.Node_Height), (intA x75.Radius), (intA x75.Band)] 0), []) from (idx_lst (E := TTubeNode.E) rfl h75))) ?_
      refine imp (opP_of (show _ = some ((AV.ept [(intA x75.Node_Time), (intA x75.Node_At_X), (intA x75.Node_At_Y), (intA x75.Node_Height), (intA x75.Radius), (intA x75.Band)] 0), []) from rfl)) ?_
      refine imp (opP_of (show _ = some ((AV.ept [(intA x75.Node_Time), (intA x75.Node_At_X), (intA x75.Node_At_Y), (intA x75.Node_Height), (intA x75.Radius), (intA x75.Band)] 0), []) from rfl)) ?_
      refine imp (opP_of (show _ = some ((intA x75.Node_Time), []) from rfl)) ?_
      refine imp ex_i64_b ?_
      refine cond_b (fun _ => ?_) (fun _ => ?_)
      · exact fun hg => ret1 (hR _ (Option.some.inj hg).symm) (fz_sc _ _)
      · exact fun hg => hN0 _ (Option.some.inj hg).symm _ (weak_mem [] rfl rfl rfl (okW_cons (.inl (leV_refl _)) (okW_cons (.inl (leV_refl _)) (okW_cons (ent_lst (E := (lstE TTubeNode.E)) _ false) (okW_cons (.inl (leV_refl _)) (okW_cons (.inl (leV_refl _)) okW_nil))))) okB_nil')
  · exact fun hg => ret1 (hR _ (Option.some.inj hg).symm) (fz_sc _ _)
theorem L12_0_ok (n : Nat) (a2 : Int) (c6 : Bool) (a0 : List (List TTubeNode)) (c14 : Int) {t : ρ12} (R : AV → Mem → Prop) (hR : ∀ r : ρ12, t = r → ∀ u m, Ans ((boolA r)) u m → R u m) (k : Nat) (x : Int) (hx : iterO (fun y : Int => S12_0 n a2 c6 a0 c14 y) k x = some t) {s : St} (hw : Weak KK 41 0 s (h12_0 a2 c6 (lstA (lstE TTubeNode.E) a0) c14 x [])) : Tri Try.prog KK 41 0 (.loop c12_0) s (q12_0 R ) :=
  L12_0 R  (σ := Nat × (Int)) (fun z => iterO (fun y : Int => S12_0 n a2 c6 a0 c14 y) z.1 z.2 = some t) (fun z => a2) (fun z => c6) (fun z => (lstA (lstE TTubeNode.E) a0)) (fun z => c14) (fun z => z.2) (fun z => []) (fun z => z.1) (by
    rintro ⟨k, y⟩ h
    cases k with
    | zero => exact (iterO_zero h).elim
    | succ k =>
      obtain ⟨u, h1, h2, h3⟩ := iterO_elim h
      exact B12_0_ok n a2 c6 a0 c14 y R  _ (fun r e => hR r (h3 _ e).symm)  (fun y' e s' hw => ⟨(k, y'), h2 _ e, Nat.lt_succ_self k, hw⟩) h1) (k, x) hx hw
theorem g12_ok (n : Nat) (a0 : List (List TTubeNode)) (a1 : Int) (a2 : Int) {t : ρ12} (R : AV → Mem → Prop) (hR : ∀ r : ρ12, t = r → ∀ u m, Ans ((boolA r)) u m → R u m) : g12 n a0 a1 a2 = some t → F12 (lstA (lstE TTubeNode.E) a0) a1 a2 R := by
  unfold g12 F12
  refine imp (opP_of (show _ = some ((intA (a0.length : Int)), []) from rfl)) ?_
  refine imp ex_i64_b ?_
  refine cond_b (fun _ => ?_) (fun _ => ?_)
  · exact fun hg => ret1 (hR _ (Option.some.inj hg).symm) (fz_sc _ _)
  · refine imp (opP_of (show _ = some ((intA (a0.length : Int)), []) from rfl)) ?_
    refine imp ex_i64_b ?_
    exact fun hg => L12_0_ok n a2 false a0 (a0.length : Int) R  hR n _ hg (weak_mem [] rfl rfl rfl (okW_cons (.inl (leV_refl _)) (okW_cons (.inl (leV_refl _)) (okW_cons (ent_lst (E := (lstE TTubeNode.E)) _ false) (okW_cons (.inl (leV_refl _)) (okW_cons (.inl (leV_refl _)) okW_nil))))) okB_nil')
theorem sg12 {n : Nat} {a0 : List (List TTubeNode)} {a1 : Int} {a2 : Int} {t : ρ12} (h : g12 n a0 a1 a2 = some t) : Says Try.prog KK.gl 12 [(lstA (lstE TTubeNode.E) a0), (intA a1), (intA a2)] ((boolA t)) :=
  says_of_own (by first | rfl | simp [cleans, clean, encs_clean, En.cln]) (by first | rfl | simp [cleans, clean, encs_clean, En.cln]) (F12_own (lstA (lstE TTubeNode.E) a0) a1 a2 _ (g12_ok n a0 a1 a2 (Ans ((boolA t))) (fun r e u m h => by rw [e]; exact h) h))
/- skyway/skywaykeep3.few -/
theorem B8_0_0_ok (n : Nat) (c2 : Bool) (c3 : Int) (a0 : List (List TJointOption)) (c9 : Int) (v10 : Int) (x70 : List TJointOption) (c21 : Int) (w22 : Int) {t : (Int) ⊕ ((Int × Int) ⊕ ρ8)} (R : AV → Mem → Prop) (N0 : St → Prop) (N1 : St → Prop) (hR : ∀ r : ρ8, t = (.inr (.inr r)) → ∀ u m, Ans ((boolA r)) u m → R u m) (hN0 : ∀ y : Int × Int, t = (.inr (.inl y)) → ∀ s' : St, Weak KK 35 0 s' (h8_0 c2 y.1 (lstA (lstE TJointOption.E) a0) c9 y.2 []) → N0 s') (hN1 : ∀ y : Int, t = (.inl y) → ∀ s' : St, Weak KK 35 0 s' (h8_0_0 c2 c3 (lstA (lstE TJointOption.E) a0) c9 v10 (lstA TJointOption.E x70) c21 y []) → N1 s') : S8_0_0 n c2 c3 a0 c9 v10 x70 c21 w22 = some t → B8_0_0 c2 c3 (lstA (lstE TJointOption.E) a0) c9 v10 (lstA TJointOption.E x70) c21 w22 [] R N0 N1 := by
  unfold S8_0_0 B8_0_0
  refine cond_b (fun _ => ?_) (fun _ => ?_)
  · refine bind_b fun x71 h71 => ?_
    refine imp (opP_of (show _ = some ((AV.ept [(intA x71.Cost), (lstA TTubeNode.E x71.Tube)] 0), []) from (idx_lst (E := TJointOption.E) rfl h71))) ?_
    refine imp (opP_of (show _ = some ((AV.agg [(intA x71.Cost), (lstA TTubeNode.E x71.Tube)]), []) from rfl)) ?_
    refine imp exA2_b ?_
    refine imp ex_i64_b ?_
    refine imp (chk_of rfl) ?_
    refine imp (opN_of (show _ = some ((blkV (lstE TTubeNode.E) 200007 ([x71.Tube] : List (List TTubeNode))), [(200007, some ⟨encs (lstE TTubeNode.E) ([x71.Tube] : List (List TTubeNode)), 37⟩)]) from rfl)) ?_
    refine bind_b fun x76 h76 => ?_
    refine imp (callQ_pure (pure_snapN (snL_cons (sn_blk (E := (lstE TTubeNode.E)) (ty := 37) (l' := ([x71.Tube] : List (List TTubeNode))) _ (lstE.nf TTubeNode.E) rfl (by first | rfl | (simp (disch := first | decide | assumption) only [mpushs_nil, mpushs_cons, mget_hd, mget_tl, mget_appW_o, mget_appW_n, mget_appW_e]))) (snL_cons (sn_sc _ _) (snL_cons (sn_sc _ _) snL_nil))) (sg12 h76) rfl)) ?_
    refine imp exB_b ?_
    refine cond_b (fun _ => ?_) (fun _ => ?_)
    · exact fun hg => ret1 (hR _ (Option.some.inj hg).symm) (fz_sc _ _)
    · exact fun hg => hN1 _ (Option.some.inj hg).symm _ (weak_mem [] rfl rfl rfl (okW_cons (.inl (leV_refl _)) (okW_cons (.inl (leV_refl _)) (okW_cons (ent_lst (E := (lstE TJointOption.E)) _ false) (okW_cons (.inl (leV_refl _)) (okW_cons (.inl (leV_refl _)) (okW_cons (ent_lst (E := TJointOption.E) _ false) (okW_cons (.inl (leV_refl _)) (okW_cons (.inl (leV_refl _)) okW_nil)))))))) okB_nil')
  · refine cond_b (fun _ => ?_) (fun _ => ?_)
    · exact fun hg => ret1 (hR _ (Option.some.inj hg).symm) (fz_sc _ _)
    · exact fun hg => hN0 _ (Option.some.inj hg).symm _ (weak_mem [] rfl rfl rfl (okW_cons (.inl (leV_refl _)) (okW_cons (.inl (leV_refl _)) (okW_cons (ent_lst (E := (lstE TJointOption.E)) _ false) (okW_cons (.inl (leV_refl _)) (okW_cons (.inl (leV_refl _)) okW_nil))))) okB_nil')
theorem L8_0_0_ok (n : Nat) (c2 : Bool) (c3 : Int) (a0 : List (List TJointOption)) (c9 : Int) (v10 : Int) (x70 : List TJointOption) (c21 : Int) {t : ((Int × Int) ⊕ ρ8)} (R : AV → Mem → Prop) (N0 : St → Prop) (hR : ∀ r : ρ8, t = (.inr r) → ∀ u m, Ans ((boolA r)) u m → R u m) (hN0 : ∀ y : Int × Int, t = (.inl y) → ∀ s' : St, Weak KK 35 0 s' (h8_0 c2 y.1 (lstA (lstE TJointOption.E) a0) c9 y.2 []) → N0 s') (k : Nat) (x : Int) (hx : iterO (fun y : Int => S8_0_0 n c2 c3 a0 c9 v10 x70 c21 y) k x = some t) {s : St} (hw : Weak KK 35 0 s (h8_0_0 c2 c3 (lstA (lstE TJointOption.E) a0) c9 v10 (lstA TJointOption.E x70) c21 x [])) : Tri Try.prog KK 35 0 (.loop c8_0_0) s (q8_0_0 R N0) :=
  L8_0_0 R N0 (σ := Nat × (Int)) (fun z => iterO (fun y : Int => S8_0_0 n c2 c3 a0 c9 v10 x70 c21 y) z.1 z.2 = some t) (fun z => c2) (fun z => c3) (fun z => (lstA (lstE TJointOption.E) a0)) (fun z => c9) (fun z => v10) (fun z => (lstA TJointOption.E x70)) (fun z => c21) (fun z => z.2) (fun z => []) (fun z => z.1) (by
    rintro ⟨k, y⟩ h
    cases k with
    | zero => exact (iterO_zero h).elim
    | succ k =>
      obtain ⟨u, h1, h2, h3⟩ := iterO_elim h
      exact B8_0_0_ok n c2 c3 a0 c9 v10 x70 c21 y R N0 _ (fun r e => hR r (h3 _ e).symm) (fun y' e => hN0 y' (h3 _ e).symm) (fun y' e s' hw => ⟨(k, y'), h2 _ e, Nat.lt_succ_self k, hw⟩) h1) (k, x) hx hw
theorem B8_0_ok (n : Nat) (c2 : Bool) (a0 : List (List TJointOption)) (c9 : Int) (v3 : Int) (v10 : Int) {t : (Int × Int) ⊕ ρ8} (R : AV → Mem → Prop) (N0 : St → Prop) (hR : ∀ r : ρ8, t = (.inr r) → ∀ u m, Ans ((boolA r)) u m → R u m) (hN0 : ∀ y : Int × Int, t = (.inl y) → ∀ s' : St, Weak KK 35 0 s' (h8_0 c2 y.1 (lstA (lstE TJointOption.E) a0) c9 y.2 []) → N0 s') : S8_0 n c2 a0 c9 v3 v10 = some t → B8_0 c2 v3 (lstA (lstE TJointOption.E) a0) c9 v10 [] R N0 := by
  unfold S8_0 B8_0
  refine cond_b (fun _ => ?_) (fun _ => ?_)
  · refine bind_b fun x70 h70 => ?_
    refine imp (opP_of (show _ = some ((AV.ept [(lstA TJointOption.E x70)] 0), []) from (idx_lst (E := (lstE TJointOption.E)) rfl h70))) ?_
    refine imp (opP_of (show _ = some ((lstA TJointOption.E x70), []) from rfl)) ?_
    refine imp (opP_of (show _ = some ((intA (x70.length : Int)), []) from rfl)) ?_
    refine imp ex_i64_b ?_
    refine imp (opP_of (show _ = some ((intA (if (9) < (x70.length : Int) then (9) else (x70.length : Int))), []) from (by kernel_rfl))) ?_
    refine imp ex_i64_b ?_
    refine imp (opP_of (show _ = some ((intA (if (if (9) < (x70.length : Int) then (9) else (x70.length : Int)) > (1) then (if (9) < (x70.length : Int) then (9) else (x70.length : Int)) else (1))), []) from (by kernel_rfl))) ?_
    refine imp ex_i64_b ?_
    refine imp (opP_of (show _ = some ((intA (x70.length : Int)), []) from rfl)) ?_
    refine imp ex_i64_b ?_
    exact fun hg => L8_0_0_ok n c2 (IntKind.wrap .i64 (v3 * (if (if (9) < (x70.length : Int) then (9) else (x70.length : Int)) > (1) then (if (9) < (x70.length : Int) then (9) else (x70.length : Int)) else (1)))) a0 c9 v10 x70 (x70.length : Int) R N0 hR hN0 n _ hg (weak_mem [] rfl rfl rfl (okW_cons (.inl (leV_refl _)) (okW_cons (.inl (leV_refl _)) (okW_cons (ent_lst (E := (lstE TJointOption.E)) _ false) (okW_cons (.inl (leV_refl _)) (okW_cons (.inl (leV_refl _)) (okW_cons (ent_lst (E := TJointOption.E) _ false) (okW_cons (.inl (leV_refl _)) (okW_cons (.inl (leV_refl _)) okW_nil)))))))) okB_nil')
  · exact fun hg => ret1 (hR _ (Option.some.inj hg).symm) (fz_sc _ _)
theorem L8_0_ok (n : Nat) (c2 : Bool) (a0 : List (List TJointOption)) (c9 : Int) {t : ρ8} (R : AV → Mem → Prop) (hR : ∀ r : ρ8, t = r → ∀ u m, Ans ((boolA r)) u m → R u m) (k : Nat) (x : Int × Int) (hx : iterO (fun y : Int × Int => S8_0 n c2 a0 c9 y.1 y.2) k x = some t) {s : St} (hw : Weak KK 35 0 s (h8_0 c2 x.1 (lstA (lstE TJointOption.E) a0) c9 x.2 [])) : Tri Try.prog KK 35 0 (.loop c8_0) s (q8_0 R ) :=
  L8_0 R  (σ := Nat × (Int × Int)) (fun z => iterO (fun y : Int × Int => S8_0 n c2 a0 c9 y.1 y.2) z.1 z.2 = some t) (fun z => c2) (fun z => z.2.1) (fun z => (lstA (lstE TJointOption.E) a0)) (fun z => c9) (fun z => z.2.2) (fun z => []) (fun z => z.1) (by
    rintro ⟨k, y⟩ h
    cases k with
    | zero => exact (iterO_zero h).elim
    | succ k =>
      obtain ⟨u, h1, h2, h3⟩ := iterO_elim h
      exact B8_0_ok n c2 a0 c9 y.1 y.2 R  _ (fun r e => hR r (h3 _ e).symm)  (fun y' e s' hw => ⟨(k, y'), h2 _ e, Nat.lt_succ_self k, hw⟩) h1) (k, x) hx hw
theorem g8_ok (n : Nat) (a0 : List (List TJointOption)) {t : ρ8} (R : AV → Mem → Prop) (hR : ∀ r : ρ8, t = r → ∀ u m, Ans ((boolA r)) u m → R u m) : g8 n a0 = some t → F8 (lstA (lstE TJointOption.E) a0) R := by
  unfold g8 F8
  refine imp (opP_of (show _ = some ((intA (a0.length : Int)), []) from rfl)) ?_
  refine imp ex_i64_b ?_
  exact fun hg => L8_0_ok n false a0 (a0.length : Int) R  hR n _ hg (weak_mem [] rfl rfl rfl (okW_cons (.inl (leV_refl _)) (okW_cons (.inl (leV_refl _)) (okW_cons (ent_lst (E := (lstE TJointOption.E)) _ false) (okW_cons (.inl (leV_refl _)) (okW_cons (.inl (leV_refl _)) okW_nil))))) okB_nil')
theorem sg8 {n : Nat} {a0 : List (List TJointOption)} {t : ρ8} (h : g8 n a0 = some t) : Says Try.prog KK.gl 8 [(lstA (lstE TJointOption.E) a0)] ((boolA t)) :=
  says_of_own (by first | rfl | simp [cleans, clean, encs_clean, En.cln]) (by first | rfl | simp [cleans, clean, encs_clean, En.cln]) (F8_own (lstA (lstE TJointOption.E) a0) _ (g8_ok n a0 (Ans ((boolA t))) (fun r e u m h => by rw [e]; exact h) h))
end Go.Proofs.Ytlgbioidkbeanaa
