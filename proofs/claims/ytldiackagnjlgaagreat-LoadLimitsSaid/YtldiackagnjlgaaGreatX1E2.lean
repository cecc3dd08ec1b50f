/- Plain functional programs out of the program's functions, with proofs that the functions compute them; printed by wip/Ext.lean.txt. -/
import Derived.Test.YtldiackagnjlgaaGreatX1E1
set_option linter.unusedVariables false
set_option linter.unusedSimpArgs false
set_option maxRecDepth 100000
set_option maxHeartbeats 4000000
namespace Go.Proofs.YtldiackagnjlgaaGreat
/- skyway/polygon.twice -/
theorem B72_0_ok (n : Nat) (a0 : List TP) (c2 : Int) (c6 : Int) (v3 : Int) (v7 : Int) {t : (Int × Int) ⊕ ρ72} (R : AV → Mem → Prop) (N0 : St → Prop) (hR : ∀ r : ρ72, t = (.inr r) → ∀ u m, Ans ((intA r)) u m → R u m) (hN0 : ∀ y : Int × Int, t = (.inl y) → ∀ s' : St, Weak KK 22 0 s' (h72_0 (lstA TP.E a0) c2 y.1 c6 y.2 []) → N0 s') : S72_0 n a0 c2 c6 v3 v7 = some t → B72_0 (lstA TP.E a0) c2 v3 c6 v7 [] R N0 := by
  unfold S72_0 B72_0
  refine cond_b (fun _ => ?_) (fun _ => ?_)
  · refine bind_b fun x81 h81 => ?_
    refine imp (opP_of (show _ = some ((AV.ept [(intA x81.X), (intA x81.Y)] 0), []) from (idx_lst (E := TP.E) rfl h81))) ?_
    refine imp (opP_of (show _ = some ((AV.agg [(intA x81.X), (intA x81.Y)]), []) from rfl)) ?_
    refine imp exA2_b ?_
    refine imp ex_i64_b ?_
    refine imp ex_i64_b ?_
    refine bind_b fun x82 h82 => ?_
    refine imp (callQ_says (sg70 h82)) ?_
    refine imp exA2_b ?_
    refine imp ex_i64_b ?_
    refine imp ex_i64_b ?_
    refine bind_b fun x83 h83 => ?_
    refine imp (callQ_says (sg88 h83)) ?_
    refine imp ex_i64_b ?_
    exact fun hg => hN0 _ (Option.some.inj hg).symm _ (weak_mem [] rfl rfl rfl (okW_cons (ent_lst (E := TP.E) _ false) (okW_cons (.inl (leV_refl _)) (okW_cons (.inl (leV_refl _)) (okW_cons (.inl (leV_refl _)) (okW_cons (.inl (leV_refl _)) okW_nil))))) okB_nil')
  · exact fun hg => ret1 (hR _ (Option.some.inj hg).symm) (fz_sc _ _)
theorem L72_0_ok (n : Nat) (a0 : List TP) (c2 : Int) (c6 : Int) {t : ρ72} (R : AV → Mem → Prop) (hR : ∀ r : ρ72, t = r → ∀ u m, Ans ((intA r)) u m → R u m) (k : Nat) (x : Int × Int) (hx : iterO (fun y : Int × Int => S72_0 n a0 c2 c6 y.1 y.2) k x = some t) {s : St} (hw : Weak KK 22 0 s (h72_0 (lstA TP.E a0) c2 x.1 c6 x.2 [])) : Tri Tryz.prog KK 22 0 (.loop c72_0) s (q72_0 R ) :=
  L72_0 R  (σ := Nat × (Int × Int)) (fun z => iterO (fun y : Int × Int => S72_0 n a0 c2 c6 y.1 y.2) z.1 z.2 = some t) (fun z => (lstA TP.E a0)) (fun z => c2) (fun z => z.2.1) (fun z => c6) (fun z => z.2.2) (fun z => []) (fun z => z.1) (by
    rintro ⟨k, y⟩ h
    cases k with
    | zero => exact (iterO_zero h).elim
    | succ k =>
      obtain ⟨u, h1, h2, h3⟩ := iterO_elim h
      exact B72_0_ok n a0 c2 c6 y.1 y.2 R  _ (fun r e => hR r (h3 _ e).symm)  (fun y' e s' hw => ⟨(k, y'), h2 _ e, Nat.lt_succ_self k, hw⟩) h1) (k, x) hx hw
theorem g72_ok (n : Nat) (a0 : List TP) {t : ρ72} (R : AV → Mem → Prop) (hR : ∀ r : ρ72, t = r → ∀ u m, Ans ((intA r)) u m → R u m) : g72 n a0 = some t → F72 (lstA TP.E a0) R := by
  unfold g72 F72
  refine imp (opP_of (show _ = some ((intA (a0.length : Int)), []) from rfl)) ?_
  refine imp ex_i64_b ?_
  exact fun hg => L72_0_ok n a0 (0) (a0.length : Int) R  hR n _ hg (weak_mem [] rfl rfl rfl (okW_cons (ent_lst (E := TP.E) _ false) (okW_cons (.inl (leV_refl _)) (okW_cons (.inl (leV_refl _)) (okW_cons (.inl (leV_refl _)) (okW_cons (.inl (leV_refl _)) okW_nil))))) okB_nil')
theorem sg72 {n : Nat} {a0 : List TP} {t : ρ72} (h : g72 n a0 = some t) : Says Tryz.prog KK.gl 72 [(lstA TP.E a0)] ((intA t)) :=
  says_of_own (by first | rfl | simp [cleans, clean, encs_clean, En.cln]) (by first | rfl | simp [cleans, clean, encs_clean, En.cln]) (F72_own (lstA TP.E a0) _ (g72_ok n a0 (Ans ((intA t))) (fun r e u m h => by rw [e]; exact h) h))
/- skyway/polygon.Check -/
theorem B46_1_0_ok (n : Nat) (a0 : List TP) (c2 : Int) (c3 : Int) (v31 : Int) (c30 : Int) (w8 : Int) {t : (Int) ⊕ ((Int) ⊕ ρ46)} (R : AV → Mem → Prop) (N0 : St → Prop) (N1 : St → Prop) (hR : ∀ r : ρ46, t = (.inr (.inr r)) → ∀ u m, Ans ((intA r)) u m → R u m) (hN0 : ∀ y : Int, t = (.inr (.inl y)) → ∀ s' : St, Weak KK 84 0 s' (h46_1 (lstA TP.E a0) c2 c3 c30 y []) → N0 s') (hN1 : ∀ y : Int, t = (.inl y) → ∀ s' : St, Weak KK 84 0 s' (h46_1_0 (lstA TP.E a0) c2 c3 v31 y c30 v31 []) → N1 s') : S46_1_0 n a0 c2 c3 v31 c30 w8 = some t → B46_1_0 (lstA TP.E a0) c2 c3 v31 w8 c30 v31 [] R N0 N1 := by
  unfold S46_1_0 B46_1_0
  refine cond_b (fun _ => ?_) (fun _ => ?_)
  · refine bind_b fun x66 h66 => ?_
    refine imp (opP_of (show _ = some ((intA x66), []) from (opA_rem h66))) ?_
    refine imp ex_i64_b ?_
    refine cond_b (fun _ => ?_) (fun _ => ?_)
    · refine bind_b fun x67 h67 => ?_
      refine imp (opP_of (show _ = some ((AV.ept [(intA x67.X), (intA x67.Y)] 0), []) from (idx_lst (E := TP.E) rfl h67))) ?_
      refine imp (opP_of (show _ = some ((AV.agg [(intA x67.X), (intA x67.Y)]), []) from rfl)) ?_
      refine imp exA2_b ?_
      refine imp ex_i64_b ?_
      refine imp ex_i64_b ?_
      refine bind_b fun x68 h68 => ?_
      refine imp (callQ_says (sg70 h68)) ?_
      refine imp exA2_b ?_
      refine imp ex_i64_b ?_
      refine imp ex_i64_b ?_
      refine bind_b fun x69 h69 => ?_
      refine imp (opP_of (show _ = some ((AV.ept [(intA x69.X), (intA x69.Y)] 0), []) from (idx_lst (E := TP.E) rfl h69))) ?_
      refine imp (opP_of (show _ = some ((AV.agg [(intA x69.X), (intA x69.Y)]), []) from rfl)) ?_
      refine imp exA2_b ?_
      refine imp ex_i64_b ?_
      refine imp ex_i64_b ?_
      refine bind_b fun x70 h70 => ?_
      refine imp (callQ_says (sg70 h70)) ?_
      refine imp exA2_b ?_
      refine imp ex_i64_b ?_
      refine imp ex_i64_b ?_
      refine bind_b fun x80 h80 => ?_
      refine imp (callQ_says (sg71 h80)) ?_
      refine imp exB_b ?_
      refine cond_b (fun _ => ?_) (fun _ => ?_)
      · exact fun hg => ret1 (hR _ (Option.some.inj hg).symm) (fz_sc _ _)
      · exact fun hg => hN1 _ (Option.some.inj hg).symm _ (weak_mem [] rfl rfl rfl (okW_cons (ent_lst (E := TP.E) _ false) (okW_cons (.inl (leV_refl _)) (okW_cons (.inl (leV_refl _)) (okW_cons (.inl (leV_refl _)) (okW_cons (.inl (leV_refl _)) (okW_cons (.inl (leV_refl _)) (okW_cons (.inl (leV_refl _)) okW_nil))))))) okB_nil')
    · exact fun hg => hN1 _ (Option.some.inj hg).symm _ (weak_mem [] rfl rfl rfl (okW_cons (ent_lst (E := TP.E) _ false) (okW_cons (.inl (leV_refl _)) (okW_cons (.inl (leV_refl _)) (okW_cons (.inl (leV_refl _)) (okW_cons (.inl (leV_refl _)) (okW_cons (.inl (leV_refl _)) (okW_cons (.inl (leV_refl _)) okW_nil))))))) okB_nil')
  · exact fun hg => hN0 _ (Option.some.inj hg).symm _ (weak_mem [] rfl rfl rfl (okW_cons (ent_lst (E := TP.E) _ false) (okW_cons (.inl (leV_refl _)) (okW_cons (.inl (leV_refl _)) (okW_cons (.inl (leV_refl _)) (okW_cons (.inl (leV_refl _)) okW_nil))))) okB_nil')
theorem L46_1_0_ok (n : Nat) (a0 : List TP) (c2 : Int) (c3 : Int) (v31 : Int) (c30 : Int) {t : ((Int) ⊕ ρ46)} (R : AV → Mem → Prop) (N0 : St → Prop) (hR : ∀ r : ρ46, t = (.inr r) → ∀ u m, Ans ((intA r)) u m → R u m) (hN0 : ∀ y : Int, t = (.inl y) → ∀ s' : St, Weak KK 84 0 s' (h46_1 (lstA TP.E a0) c2 c3 c30 y []) → N0 s') (k : Nat) (x : Int) (hx : iterO (fun y : Int => S46_1_0 n a0 c2 c3 v31 c30 y) k x = some t) {s : St} (hw : Weak KK 84 0 s (h46_1_0 (lstA TP.E a0) c2 c3 v31 x c30 v31 [])) : Tri Tryz.prog KK 84 0 (.loop c46_1_0) s (q46_1_0 R N0) :=
  L46_1_0 R N0 (σ := Nat × (Int)) (fun z => iterO (fun y : Int => S46_1_0 n a0 c2 c3 v31 c30 y) z.1 z.2 = some t) (fun z => (lstA TP.E a0)) (fun z => c2) (fun z => c3) (fun z => v31) (fun z => z.2) (fun z => c30) (fun z => v31) (fun z => []) (fun z => z.1) (by
    rintro ⟨k, y⟩ h
    cases k with
    | zero => exact (iterO_zero h).elim
    | succ k =>
      obtain ⟨u, h1, h2, h3⟩ := iterO_elim h
      exact B46_1_0_ok n a0 c2 c3 v31 c30 y R N0 _ (fun r e => hR r (h3 _ e).symm) (fun y' e => hN0 y' (h3 _ e).symm) (fun y' e s' hw => ⟨(k, y'), h2 _ e, Nat.lt_succ_self k, hw⟩) h1) (k, x) hx hw
theorem B46_1_ok (n : Nat) (a0 : List TP) (c2 : Int) (c3 : Int) (c30 : Int) (v31 : Int) {t : (Int) ⊕ ρ46} (R : AV → Mem → Prop) (N0 : St → Prop) (hR : ∀ r : ρ46, t = (.inr r) → ∀ u m, Ans ((intA r)) u m → R u m) (hN0 : ∀ y : Int, t = (.inl y) → ∀ s' : St, Weak KK 84 0 s' (h46_1 (lstA TP.E a0) c2 c3 c30 y []) → N0 s') : S46_1 n a0 c2 c3 c30 v31 = some t → B46_1 (lstA TP.E a0) c2 c3 c30 v31 [] R N0 := by
  unfold S46_1 B46_1
  refine cond_b (fun _ => ?_) (fun _ => ?_)
  · refine bind_b fun x61 h61 => ?_
    refine imp (opP_of (show _ = some ((AV.ept [(intA x61.X), (intA x61.Y)] 0), []) from (idx_lst (E := TP.E) rfl h61))) ?_
    refine imp (opP_of (show _ = some ((AV.agg [(intA x61.X), (intA x61.Y)]), []) from rfl)) ?_
    refine imp exA2_b ?_
    refine imp ex_i64_b ?_
    refine imp ex_i64_b ?_
    refine bind_b fun x62 h62 => ?_
    refine imp (callQ_says (sg70 h62)) ?_
    refine imp exA2_b ?_
    refine imp ex_i64_b ?_
    refine imp ex_i64_b ?_
    refine bind_b fun x63 h63 => ?_
    refine imp (opP_of (show _ = some ((intA x63), []) from (opA_rem h63))) ?_
    refine imp ex_i64_b ?_
    refine bind_b fun x64 h64 => ?_
    refine imp (opP_of (show _ = some ((AV.ept [(intA x64.X), (intA x64.Y)] 0), []) from (idx_lst (E := TP.E) rfl h64))) ?_
    refine imp (opP_of (show _ = some ((AV.agg [(intA x64.X), (intA x64.Y)]), []) from rfl)) ?_
    refine imp exA2_b ?_
    refine imp ex_i64_b ?_
    refine imp ex_i64_b ?_
    refine bind_b fun x65 h65 => ?_
    refine imp (callQ_says (sg69 h65)) ?_
    refine imp ex_i64_b ?_
    refine cond_b (fun _ => ?_) (fun _ => ?_)
    · exact fun hg => ret1 (hR _ (Option.some.inj hg).symm) (fz_sc _ _)
    · exact fun hg => L46_1_0_ok n a0 c2 c3 v31 c30 R N0 hR hN0 n _ hg (weak_mem [] rfl rfl rfl (okW_cons (ent_lst (E := TP.E) _ false) (okW_cons (.inl (leV_refl _)) (okW_cons (.inl (leV_refl _)) (okW_cons (.inl (leV_refl _)) (okW_cons (.inl (leV_refl _)) (okW_cons (.inl (leV_refl _)) (okW_cons (.inl (leV_refl _)) okW_nil))))))) okB_nil')
  · refine bind_b fun x84 h84 => ?_
    refine imp (callQ_says (sg72 h84)) ?_
    refine imp ex_i64_b ?_
    refine cond_b (fun _ => ?_) (fun _ => ?_)
    · exact fun hg => ret1 (hR _ (Option.some.inj hg).symm) (fz_sc _ _)
    · exact fun hg => ret1 (hR _ (Option.some.inj hg).symm) (fz_sc _ _)
theorem L46_1_ok (n : Nat) (a0 : List TP) (c2 : Int) (c3 : Int) (c30 : Int) {t : ρ46} (R : AV → Mem → Prop) (hR : ∀ r : ρ46, t = r → ∀ u m, Ans ((intA r)) u m → R u m) (k : Nat) (x : Int) (hx : iterO (fun y : Int => S46_1 n a0 c2 c3 c30 y) k x = some t) {s : St} (hw : Weak KK 84 0 s (h46_1 (lstA TP.E a0) c2 c3 c30 x [])) : Tri Tryz.prog KK 84 0 (.loop c46_1) s (q46_1 R ) :=
  L46_1 R  (σ := Nat × (Int)) (fun z => iterO (fun y : Int => S46_1 n a0 c2 c3 c30 y) z.1 z.2 = some t) (fun z => (lstA TP.E a0)) (fun z => c2) (fun z => c3) (fun z => c30) (fun z => z.2) (fun z => []) (fun z => z.1) (by
    rintro ⟨k, y⟩ h
    cases k with
    | zero => exact (iterO_zero h).elim
    | succ k =>
      obtain ⟨u, h1, h2, h3⟩ := iterO_elim h
      exact B46_1_ok n a0 c2 c3 c30 y R  _ (fun r e => hR r (h3 _ e).symm)  (fun y' e s' hw => ⟨(k, y'), h2 _ e, Nat.lt_succ_self k, hw⟩) h1) (k, x) hx hw
theorem B46_0_ok (n : Nat) (a0 : List TP) (c2 : Int) (c3 : Int) (v19 : Int) {t : (Int) ⊕ ρ46} (R : AV → Mem → Prop) (N0 : St → Prop) (hR : ∀ r : ρ46, t = (.inr r) → ∀ u m, Ans ((intA r)) u m → R u m) (hN0 : ∀ y : Int, t = (.inl y) → ∀ s' : St, Weak KK 84 0 s' (h46_0 (lstA TP.E a0) c2 c3 (lstA TP.E a0) c3 y []) → N0 s') : S46_0 n a0 c2 c3 v19 = some t → B46_0 (lstA TP.E a0) c2 c3 (lstA TP.E a0) c3 v19 [] R N0 := by
  unfold S46_0 B46_0
  refine cond_b (fun _ => ?_) (fun _ => ?_)
  · refine bind_b fun x59 h59 => ?_
    refine imp (opP_of (show _ = some ((AV.ept [(intA x59.X), (intA x59.Y)] 0), []) from (idx_lst (E := TP.E) rfl h59))) ?_
    refine imp (opP_of (show _ = some ((AV.agg [(intA x59.X), (intA x59.Y)]), []) from rfl)) ?_
    refine imp exA2_b ?_
    refine imp ex_i64_b ?_
    refine imp ex_i64_b ?_
    refine bind_b fun x60 h60 => ?_
    refine imp (callQ_says (sg33 h60)) ?_
    refine imp ex_i64_b ?_
    refine cond_b (fun _ => ?_) (fun _ => ?_)
    · exact fun hg => ret1 (hR _ (Option.some.inj hg).symm) (fz_sc _ _)
    · exact fun hg => hN0 _ (Option.some.inj hg).symm _ (weak_mem [] rfl rfl rfl (okW_cons (ent_lst (E := TP.E) _ false) (okW_cons (.inl (leV_refl _)) (okW_cons (.inl (leV_refl _)) (okW_cons (ent_lst (E := TP.E) _ false) (okW_cons (.inl (leV_refl _)) (okW_cons (.inl (leV_refl _)) okW_nil)))))) okB_nil')
  · refine imp (opP_of (show _ = some ((intA (a0.length : Int)), []) from rfl)) ?_
    refine imp ex_i64_b ?_
    refine mapInr_b fun t0 e0 => ?_
    exact fun hg => L46_1_ok n a0 c2 c3 (a0.length : Int) R  (fun r e => hR r (e0.trans (congrArg Sum.inr e))) n _ hg (weak_mem [] rfl rfl rfl (okW_cons (ent_lst (E := TP.E) _ false) (okW_cons (.inl (leV_refl _)) (okW_cons (.inl (leV_refl _)) (okW_cons (.inl (leV_refl _)) (okW_cons (.inl (leV_refl _)) okW_nil))))) okB_nil')
theorem L46_0_ok (n : Nat) (a0 : List TP) (c2 : Int) (c3 : Int) {t : ρ46} (R : AV → Mem → Prop) (hR : ∀ r : ρ46, t = r → ∀ u m, Ans ((intA r)) u m → R u m) (k : Nat) (x : Int) (hx : iterO (fun y : Int => S46_0 n a0 c2 c3 y) k x = some t) {s : St} (hw : Weak KK 84 0 s (h46_0 (lstA TP.E a0) c2 c3 (lstA TP.E a0) c3 x [])) : Tri Tryz.prog KK 84 0 (.loop c46_0) s (q46_0 R ) :=
  L46_0 R  (σ := Nat × (Int)) (fun z => iterO (fun y : Int => S46_0 n a0 c2 c3 y) z.1 z.2 = some t) (fun z => (lstA TP.E a0)) (fun z => c2) (fun z => c3) (fun z => (lstA TP.E a0)) (fun z => c3) (fun z => z.2) (fun z => []) (fun z => z.1) (by
    rintro ⟨k, y⟩ h
    cases k with
    | zero => exact (iterO_zero h).elim
    | succ k =>
      obtain ⟨u, h1, h2, h3⟩ := iterO_elim h
      exact B46_0_ok n a0 c2 c3 y R  _ (fun r e => hR r (h3 _ e).symm)  (fun y' e s' hw => ⟨(k, y'), h2 _ e, Nat.lt_succ_self k, hw⟩) h1) (k, x) hx hw
theorem g46_ok (n : Nat) (a0 : List TP) {t : ρ46} (R : AV → Mem → Prop) (hR : ∀ r : ρ46, t = r → ∀ u m, Ans ((intA r)) u m → R u m) : g46 n a0 = some t → F46 (lstA TP.E a0) R := by
  unfold g46 F46
  refine imp (opP_of (show _ = some ((intA (a0.length : Int)), []) from rfl)) ?_
  refine imp ex_i64_b ?_
  refine cond_b (fun _ => ?_) (fun _ => ?_)
  · exact fun hg => ret1 (hR _ (Option.some.inj hg).symm) (fz_sc _ _)
  · refine cond_b (fun _ => ?_) (fun _ => ?_)
    · exact fun hg => ret1 (hR _ (Option.some.inj hg).symm) (fz_sc _ _)
    · refine imp (opP_of (show _ = some ((intA (a0.length : Int)), []) from rfl)) ?_
      refine imp ex_i64_b ?_
      exact fun hg => L46_0_ok n a0 (0) (a0.length : Int) R  hR n _ hg (weak_mem [] rfl rfl rfl (okW_cons (ent_lst (E := TP.E) _ false) (okW_cons (.inl (leV_refl _)) (okW_cons (.inl (leV_refl _)) (okW_cons (ent_lst (E := TP.E) _ false) (okW_cons (.inl (leV_refl _)) (okW_cons (.inl (leV_refl _)) okW_nil)))))) okB_nil')
theorem sg46 {n : Nat} {a0 : List TP} {t : ρ46} (h : g46 n a0 = some t) : Says Tryz.prog KK.gl 46 [(lstA TP.E a0)] ((intA t)) :=
  says_of_own (by first | rfl | simp [cleans, clean, encs_clean, En.cln]) (by first | rfl | simp [cleans, clean, encs_clean, En.cln]) (F46_own (lstA TP.E a0) _ (g46_ok n a0 (Ans ((intA t))) (fun r e u m h => by rw [e]; exact h) h))
/- skyway/volume.Check -/
theorem g35_ok (n : Nat) (a0 : TVolume) {t : ρ35} (R : AV → Mem → Prop) (hR : ∀ r : ρ35, t = r → ∀ u m, Ans ((intA r)) u m → R u m) : g35 n a0 = some t → F35 (lstA TP.E a0.Area) a0.Low a0.High R := by
  unfold g35 F35
  refine imp (chk_of rfl) ?_
  refine bind_b fun x85 h85 => ?_
  refine imp (callQ_says (sg46 h85)) ?_
  refine imp ex_i64_b ?_
  refine cond_b (fun _ => ?_) (fun _ => ?_)
  · exact fun hg => ret1 (hR _ (Option.some.inj hg).symm) (fz_sc _ _)
  · refine cond_b (fun _ => ?_) (fun _ => ?_)
    · exact fun hg => ret1 (hR _ (Option.some.inj hg).symm) (fz_sc _ _)
    · refine cond_b (fun _ => ?_) (fun _ => ?_)
      · exact fun hg => ret1 (hR _ (Option.some.inj hg).symm) (fz_sc _ _)
      · refine cond_b (fun _ => ?_) (fun _ => ?_)
        · exact fun hg => ret1 (hR _ (Option.some.inj hg).symm) (fz_sc _ _)
        · exact fun hg => ret1 (hR _ (Option.some.inj hg).symm) (fz_sc _ _)
theorem sg35 {n : Nat} {a0 : TVolume} {t : ρ35} (h : g35 n a0 = some t) : Says Tryz.prog KK.gl 35 [(AV.agg [(lstA TP.E a0.Area), (intA a0.Low), (intA a0.High)])] ((intA t)) :=
  says_of_own (by first | rfl | simp [cleans, clean, encs_clean, En.cln]) (by first | rfl | simp [cleans, clean, encs_clean, En.cln]) (F35_own (lstA TP.E a0.Area) a0.Low a0.High _ (g35_ok n a0 (Ans ((intA t))) (fun r e u m h => by rw [e]; exact h) h))
/- skyway/sector.Check$1 -/
theorem g37_ok (n : Nat) (a0 : TSector) (a1_0 : ByteArray) (a1_1 : List TVolume) {t : ρ37} (R : AV → Mem → Prop) (hR : ∀ r : ρ37, t = r → ∀ u m, Ans ((boolA r)) u m → R u m) : g37 n a0 a1_0 a1_1 = some t → F37 a0.Name (lstA TVolume.E a0.Room) (AV.ept [(strA a1_0), (lstA TVolume.E a1_1)] 0) R := by
  unfold g37 F37
  refine imp (chk_of rfl) ?_
  refine imp (opP_of (show _ = some ((AV.ept [(strA a1_0), (lstA TVolume.E a1_1)] 0), []) from rfl)) ?_
  refine imp (opP_of (show _ = some ((strA a1_0), []) from rfl)) ?_
  refine imp exStr_b ?_
  exact fun hg => ret1 (hR _ (Option.some.inj hg).symm) (fz_sc _ _)
theorem sg37 {n : Nat} {a0 : TSector} {a1_0 : ByteArray} {a1_1 : List TVolume} {t : ρ37} (h : g37 n a0 a1_0 a1_1 = some t) : Says Tryz.prog KK.gl 37 [(AV.agg [(strA a0.Name), (lstA TVolume.E a0.Room)]), (AV.ept [(strA a1_0), (lstA TVolume.E a1_1)] 0)] ((boolA t)) :=
  says_of_own (by first | rfl | simp [cleans, clean, encs_clean, En.cln]) (by first | rfl | simp [cleans, clean, encs_clean, En.cln]) (F37_own a0.Name (lstA TVolume.E a0.Room) (AV.ept [(strA a1_0), (lstA TVolume.E a1_1)] 0) _ (g37_ok n a0 a1_0 a1_1 (Ans ((boolA t))) (fun r e u m h => by rw [e]; exact h) h))
/- slices.IndexFunc[[]skyway/api.Sector,skyway/api.Sector] -/
theorem B47_0_x1_ok (n : Nat) (a0 : List TSector) (a1_0_0 : ByteArray) (a1_0_1 : List TVolume) (c4 : Int) (c7 : Int) (v8 : Int) {t : (Int) ⊕ ρ47} (R : AV → Mem → Prop) (N0 : St → Prop) (hR : ∀ r : ρ47, t = (.inr r) → ∀ u m, Ans ((intA r)) u m → R u m) (hN0 : ∀ y : Int, t = (.inl y) → ∀ s' : St, Weak KK 19 0 s' (h47_0 (lstA TSector.E a0) (AV.fn 37 [(AV.ept [(strA a1_0_0), (lstA TVolume.E a1_0_1)] 0)]) c4 c7 y []) → N0 s') : S47_0_x1 n a0 a1_0_0 a1_0_1 c4 c7 v8 = some t → B47_0 (lstA TSector.E a0) (AV.fn 37 [(AV.ept [(strA a1_0_0), (lstA TVolume.E a1_0_1)] 0)]) c4 c7 v8 [] R N0 := by
  unfold S47_0_x1 B47_0
  refine cond_b (fun _ => ?_) (fun _ => ?_)
  · refine bind_b fun x88 h88 => ?_
    refine imp (opP_of (show _ = some ((AV.ept [(strA x88.Name), (lstA TVolume.E x88.Room)] 0), []) from (idx_lst (E := TSector.E) rfl h88))) ?_
    refine imp (opP_of (show _ = some ((AV.agg [(strA x88.Name), (lstA TVolume.E x88.Room)]), []) from rfl)) ?_
    refine imp exA2_b ?_
    refine imp exStr_b ?_
    refine bind_b fun x89 h89 => ?_
    refine imp fnArgs_b ?_
    refine imp (cond_ff rfl) ?_
    refine imp (callW_says (sg37 h89)) ?_
    refine imp exB_b ?_
    refine cond_b (fun _ => ?_) (fun _ => ?_)
    · exact fun hg => ret1 (hR _ (Option.some.inj hg).symm) (fz_sc _ _)
    · exact fun hg => hN0 _ (Option.some.inj hg).symm _ (weak_mem [] rfl rfl rfl (okW_cons (ent_lst (E := TSector.E) _ false) (okW_cons (ent_clean (leV_refl _) (by simp [clean, cleans, encs_clean])) (okW_cons (.inl (leV_refl _)) (okW_cons (.inl (leV_refl _)) (okW_cons (.inl (leV_refl _)) okW_nil))))) okB_nil')
  · exact fun hg => ret1 (hR _ (Option.some.inj hg).symm) (fz_sc _ _)
theorem L47_0_x1_ok (n : Nat) (a0 : List TSector) (a1_0_0 : ByteArray) (a1_0_1 : List TVolume) (c4 : Int) (c7 : Int) {t : ρ47} (R : AV → Mem → Prop) (hR : ∀ r : ρ47, t = r → ∀ u m, Ans ((intA r)) u m → R u m) (k : Nat) (x : Int) (hx : iterO (fun y : Int => S47_0_x1 n a0 a1_0_0 a1_0_1 c4 c7 y) k x = some t) {s : St} (hw : Weak KK 19 0 s (h47_0 (lstA TSector.E a0) (AV.fn 37 [(AV.ept [(strA a1_0_0), (lstA TVolume.E a1_0_1)] 0)]) c4 c7 x [])) : Tri Tryz.prog KK 19 0 (.loop c47_0) s (q47_0 R ) :=
  L47_0 R  (σ := Nat × (Int)) (fun z => iterO (fun y : Int => S47_0_x1 n a0 a1_0_0 a1_0_1 c4 c7 y) z.1 z.2 = some t) (fun z => (lstA TSector.E a0)) (fun z => (AV.fn 37 [(AV.ept [(strA a1_0_0), (lstA TVolume.E a1_0_1)] 0)])) (fun z => c4) (fun z => c7) (fun z => z.2) (fun z => []) (fun z => z.1) (by
    rintro ⟨k, y⟩ h
    cases k with
    | zero => exact (iterO_zero h).elim
    | succ k =>
      obtain ⟨u, h1, h2, h3⟩ := iterO_elim h
      exact B47_0_x1_ok n a0 a1_0_0 a1_0_1 c4 c7 y R  _ (fun r e => hR r (h3 _ e).symm)  (fun y' e s' hw => ⟨(k, y'), h2 _ e, Nat.lt_succ_self k, hw⟩) h1) (k, x) hx hw
theorem g47_1_ok (n : Nat) (a0 : List TSector) (a1_0_0 : ByteArray) (a1_0_1 : List TVolume) {t : ρ47} (R : AV → Mem → Prop) (hR : ∀ r : ρ47, t = r → ∀ u m, Ans ((intA r)) u m → R u m) : g47_1 n a0 a1_0_0 a1_0_1 = some t → F47 (lstA TSector.E a0) (AV.fn 37 [(AV.ept [(strA a1_0_0), (lstA TVolume.E a1_0_1)] 0)]) R := by
  unfold g47_1 F47
  refine imp (opP_of (show _ = some ((intA (a0.length : Int)), []) from rfl)) ?_
  refine imp ex_i64_b ?_
  exact fun hg => L47_0_x1_ok n a0 a1_0_0 a1_0_1 (0) (a0.length : Int) R  hR n _ hg (weak_mem [] rfl rfl rfl (okW_cons (ent_lst (E := TSector.E) _ false) (okW_cons (ent_clean (leV_refl _) (by simp [clean, cleans, encs_clean])) (okW_cons (.inl (leV_refl _)) (okW_cons (.inl (leV_refl _)) (okW_cons (.inl (leV_refl _)) okW_nil))))) okB_nil')
theorem sg47_1 {n : Nat} {a0 : List TSector} {a1_0_0 : ByteArray} {a1_0_1 : List TVolume} {t : ρ47} (h : g47_1 n a0 a1_0_0 a1_0_1 = some t) : Says Tryz.prog KK.gl 47 [(lstA TSector.E a0), (AV.fn 37 [(AV.ept [(strA a1_0_0), (lstA TVolume.E a1_0_1)] 0)])] ((intA t)) :=
  says_of_own (by first | rfl | simp [cleans, clean, encs_clean, En.cln]) (by first | rfl | simp [cleans, clean, encs_clean, En.cln]) (F47_own (lstA TSector.E a0) (AV.fn 37 [(AV.ept [(strA a1_0_0), (lstA TVolume.E a1_0_1)] 0)]) _ (g47_1_ok n a0 a1_0_0 a1_0_1 (Ans ((intA t))) (fun r e u m h => by rw [e]; exact h) h))
/- slices.ContainsFunc[[]skyway/api.Sector,skyway/api.Sector] -/
theorem g36_ok (n : Nat) (a0 : List TSector) (a1_0_0 : ByteArray) (a1_0_1 : List TVolume) {t : ρ36} (R : AV → Mem → Prop) (hR : ∀ r : ρ36, t = r → ∀ u m, Ans ((boolA r)) u m → R u m) : g36 n a0 a1_0_0 a1_0_1 = some t → F36 (lstA TSector.E a0) (AV.fn 37 [(AV.ept [(strA a1_0_0), (lstA TVolume.E a1_0_1)] 0)]) R := by
  unfold g36 F36
  refine bind_b fun x90 h90 => ?_
  refine imp (callQ_says (sg47_1 h90)) ?_
  refine imp ex_i64_b ?_
  exact fun hg => ret1 (hR _ (Option.some.inj hg).symm) (fz_sc _ _)
theorem sg36 {n : Nat} {a0 : List TSector} {a1_0_0 : ByteArray} {a1_0_1 : List TVolume} {t : ρ36} (h : g36 n a0 a1_0_0 a1_0_1 = some t) : Says Tryz.prog KK.gl 36 [(lstA TSector.E a0), (AV.fn 37 [(AV.ept [(strA a1_0_0), (lstA TVolume.E a1_0_1)] 0)])] ((boolA t)) :=
  says_of_own (by first | rfl | simp [cleans, clean, encs_clean, En.cln]) (by first | rfl | simp [cleans, clean, encs_clean, En.cln]) (F36_own (lstA TSector.E a0) (AV.fn 37 [(AV.ept [(strA a1_0_0), (lstA TVolume.E a1_0_1)] 0)]) _ (g36_ok n a0 a1_0_0 a1_0_1 (Ans ((boolA t))) (fun r e u m h => by rw [e]; exact h) h))
/- skyway/polygon.doubled -/
theorem B74_0_ok (n : Nat) (a0 : List TP) (c7 : Int) (v8 : Int) (L90000 : List TP) {t : (Int × List TP) ⊕ ρ74} (R : AV → Mem → Prop) (N0 : St → Prop) (hR : ∀ r : ρ74, t = (.inr r) → ∀ u m, Ans ((lstA TP.E r)) u m → R u m) (hN0 : ∀ y : Int × List TP, t = (.inl y) → ∀ s' : St, Weak KK 24 0 s' (h74_0 AV.nils (ownV TP.E 90000 y.2) (lstA TP.E a0) c7 y.1 [(90000, ownB TP.E 60 y.2)]) → N0 s') : S74_0 n a0 c7 v8 L90000 = some t → B74_0 AV.nils (ownV TP.E 90000 L90000) (lstA TP.E a0) c7 v8 [(90000, ownB TP.E 60 L90000)] R N0 := by
  unfold S74_0 B74_0
  refine cond_b (fun _ => ?_) (fun _ => ?_)
  · refine bind_b fun x106 h106 => ?_
    refine imp (opP_of (show _ = some ((AV.ept [(intA x106.X), (intA x106.Y)] 0), []) from (idx_lst (E := TP.E) rfl h106))) ?_
    refine imp (opP_of (show _ = some ((AV.agg [(intA x106.X), (intA x106.Y)]), []) from rfl)) ?_
    refine imp exA2_b ?_
    refine imp ex_i64_b ?_
    refine imp ex_i64_b ?_
    refine imp (opP_of (show _ = some ((AV.agg [(intA (IntKind.wrap .i64 ((2) * x106.X))), (intA (IntKind.wrap .i64 ((2) * x106.Y)))]), []) from rfl)) ?_
    refine imp (opN_of (show _ = some ((blkV TP.E 100013 ([(⟨(IntKind.wrap .i64 ((2) * x106.X)), (IntKind.wrap .i64 ((2) * x106.Y))⟩ : TP)] : List TP)), [(100013, some ⟨encs TP.E ([(⟨(IntKind.wrap .i64 ((2) * x106.X)), (IntKind.wrap .i64 ((2) * x106.Y))⟩ : TP)] : List TP), 60⟩)]) from rfl)) ?_
    refine bind_b fun x108 h108 => ?_
    refine imp (opN_of (show _ = some ((ownV TP.E 100014 (L90000 ++ ([(⟨(IntKind.wrap .i64 ((2) * x106.X)), (IntKind.wrap .i64 ((2) * x106.Y))⟩ : TP)] : List TP))), (appW TP.E 100014 90000 60 L90000 ([(⟨(IntKind.wrap .i64 ((2) * x106.X)), (IntKind.wrap .i64 ((2) * x106.Y))⟩ : TP)] : List TP))) from (app_own (E := TP.E) (l' := L90000) (xs := ([(⟨(IntKind.wrap .i64 ((2) * x106.X)), (IntKind.wrap .i64 ((2) * x106.Y))⟩ : TP)] : List TP)) rfl rfl (cellsOf_blk (E := TP.E) (ty := 60) rfl rfl (by first | rfl | (simp (disch := first | decide | assumption) only [mpushs_nil, mpushs_cons, mget_hd, mget_tl, mget_appW_o, mget_appW_n, mget_appW_e]))) (by first | assumption | simp) rfl (fun hne => Eq.trans (by first | rfl | (simp (disch := first | decide | assumption) only [mpushs_nil, mpushs_cons, mget_hd, mget_tl, mget_appW_o, mget_appW_n, mget_appW_e])) (ownB_ne hne)) h108))) ?_
    exact fun hg => hN0 _ (Option.some.inj hg).symm _ (weak_mem [(90000, 100014)] rfl rfl rfl (okW_cons (.inl (leV_refl _)) (okW_cons (ent_own (E := TP.E) (id := 100014) (l' := (L90000 ++ ([(⟨(IntKind.wrap .i64 ((2) * x106.X)), (IntKind.wrap .i64 ((2) * x106.Y))⟩ : TP)] : List TP))) rfl rfl) (okW_cons (ent_lst (E := TP.E) _ false) (okW_cons (.inl (leV_refl _)) (okW_cons (.inl (leV_refl _)) okW_nil))))) (okB_cons (okB_own (E := TP.E) (ty := 60) (l' := (L90000 ++ ([(⟨(IntKind.wrap .i64 ((2) * x106.X)), (IntKind.wrap .i64 ((2) * x106.Y))⟩ : TP)] : List TP))) rfl (show mget _ 100014 = _ from (by first | rfl | (simp (disch := first | decide | assumption) only [mpushs_nil, mpushs_cons, mget_hd, mget_tl, mget_appW_o, mget_appW_n, mget_appW_e])))) okB_nil'))
  · exact fun hg => ret1 (hR _ (Option.some.inj hg).symm) (fz_own (E := TP.E) (ty := 60) (l' := L90000) _ rfl (by first | rfl | (simp (disch := first | decide | assumption) only [mpushs_nil, mpushs_cons, mget_hd, mget_tl, mget_appW_o, mget_appW_n, mget_appW_e])))
theorem L74_0_ok (n : Nat) (a0 : List TP) (c7 : Int) {t : ρ74} (R : AV → Mem → Prop) (hR : ∀ r : ρ74, t = r → ∀ u m, Ans ((lstA TP.E r)) u m → R u m) (k : Nat) (x : Int × List TP) (hx : iterO (fun y : Int × List TP => S74_0 n a0 c7 y.1 y.2) k x = some t) {s : St} (hw : Weak KK 24 0 s (h74_0 AV.nils (ownV TP.E 90000 x.2) (lstA TP.E a0) c7 x.1 [(90000, ownB TP.E 60 x.2)])) : Tri Tryz.prog KK 24 0 (.loop c74_0) s (q74_0 R ) :=
  L74_0 R  (σ := Nat × (Int × List TP)) (fun z => iterO (fun y : Int × List TP => S74_0 n a0 c7 y.1 y.2) z.1 z.2 = some t) (fun z => AV.nils) (fun z => (ownV TP.E 90000 z.2.2)) (fun z => (lstA TP.E a0)) (fun z => c7) (fun z => z.2.1) (fun z => [(90000, ownB TP.E 60 z.2.2)]) (fun z => z.1) (by
    rintro ⟨k, y⟩ h
    cases k with
    | zero => exact (iterO_zero h).elim
    | succ k =>
      obtain ⟨u, h1, h2, h3⟩ := iterO_elim h
      exact B74_0_ok n a0 c7 y.1 y.2 R  _ (fun r e => hR r (h3 _ e).symm)  (fun y' e s' hw => ⟨(k, y'), h2 _ e, Nat.lt_succ_self k, hw⟩) h1) (k, x) hx hw
theorem g74_ok (n : Nat) (a0 : List TP) {t : ρ74} (R : AV → Mem → Prop) (hR : ∀ r : ρ74, t = r → ∀ u m, Ans ((lstA TP.E r)) u m → R u m) : g74 n a0 = some t → F74 (lstA TP.E a0) R := by
  unfold g74 F74
  refine imp (opP_of (show _ = some ((intA (a0.length : Int)), []) from rfl)) ?_
  refine imp ex_i64_b ?_
  exact fun hg => L74_0_ok n a0 (a0.length : Int) R  hR n _ hg (weak_mem [(90000, 89500)] rfl rfl rfl (okW_cons (.inl (leV_refl _)) (okW_cons ent_nils_own (okW_cons (ent_lst (E := TP.E) _ false) (okW_cons (.inl (leV_refl _)) (okW_cons (.inl (leV_refl _)) okW_nil))))) (okB_cons okB_nil okB_nil'))
theorem sg74 {n : Nat} {a0 : List TP} {t : ρ74} (h : g74 n a0 = some t) : Says Tryz.prog KK.gl 74 [(lstA TP.E a0)] ((lstA TP.E t)) :=
  says_of_own (by first | rfl | simp [cleans, clean, encs_clean, En.cln]) (by first | rfl | simp [cleans, clean, encs_clean, En.cln]) (F74_own (lstA TP.E a0) _ (g74_ok n a0 (Ans ((lstA TP.E t))) (fun r e u m h => by rw [e]; exact h) h))
/- skyway/plane.Dot -/
theorem g94_ok (n : Nat) (a0 : TP) (a1 : TP) {t : ρ94} (R : AV → Mem → Prop) (hR : ∀ r : ρ94, t = r → ∀ u m, Ans ((intA r)) u m → R u m) : g94 n a0 a1 = some t → F94 a0.X a0.Y a1.X a1.Y R := by
  unfold g94 F94
  exact fun hg => ret1 (hR _ (Option.some.inj hg).symm) (fz_sc _ _)
theorem sg94 {n : Nat} {a0 : TP} {a1 : TP} {t : ρ94} (h : g94 n a0 a1 = some t) : Says Tryz.prog KK.gl 94 [(AV.agg [(intA a0.X), (intA a0.Y)]), (AV.agg [(intA a1.X), (intA a1.Y)])] ((intA t)) :=
  says_of_own (by first | rfl | simp [cleans, clean, encs_clean, En.cln]) (by first | rfl | simp [cleans, clean, encs_clean, En.cln]) (F94_own a0.X a0.Y a1.X a1.Y _ (g94_ok n a0 a1 (Ans ((intA t))) (fun r e u m h => by rw [e]; exact h) h))
/- skyway/plane.Square -/
theorem g93_ok (n : Nat) (a0 : TP) (a1 : TP) {t : ρ93} (R : AV → Mem → Prop) (hR : ∀ r : ρ93, t = r → ∀ u m, Ans ((intA r)) u m → R u m) : g93 n a0 a1 = some t → F93 a0.X a0.Y a1.X a1.Y R := by
  unfold g93 F93
  refine bind_b fun x117 h117 => ?_
  refine imp (callQ_says (sg89 h117)) ?_
  refine imp exA2_b ?_
  refine imp ex_i64_b ?_
  refine imp ex_i64_b ?_
  refine bind_b fun x118 h118 => ?_
  refine imp (callQ_says (sg94 h118)) ?_
  refine imp ex_i64_b ?_
  exact fun hg => ret1 (hR _ (Option.some.inj hg).symm) (fz_sc _ _)
theorem sg93 {n : Nat} {a0 : TP} {a1 : TP} {t : ρ93} (h : g93 n a0 a1 = some t) : Says Tryz.prog KK.gl 93 [(AV.agg [(intA a0.X), (intA a0.Y)]), (AV.agg [(intA a1.X), (intA a1.Y)])] ((intA t)) :=
  says_of_own (by first | rfl | simp [cleans, clean, encs_clean, En.cln]) (by first | rfl | simp [cleans, clean, encs_clean, En.cln]) (F93_own a0.X a0.Y a1.X a1.Y _ (g93_ok n a0 a1 (Ans ((intA t))) (fun r e u m h => by rw [e]; exact h) h))
/- skyway/polygon.enters$1 -/
theorem g92_ok (n : Nat) (a0 : TP) (a1 : TP) (a2_0 : Int) (a2_1 : Int) {t : ρ92} (R : AV → Mem → Prop) (hR : ∀ r : ρ92, t = r → ∀ u m, Ans ((intA r)) u m → R u m) : g92 n a0 a1 a2_0 a2_1 = some t → F92 a0.X a0.Y a1.X a1.Y (AV.ept [(intA a2_0), (intA a2_1)] 0) R := by
  unfold g92 F92
  refine imp (opP_of (show _ = some ((AV.agg [(intA a2_0), (intA a2_1)]), []) from rfl)) ?_
  refine imp exA2_b ?_
  refine imp ex_i64_b ?_
  refine imp ex_i64_b ?_
  refine bind_b fun x119 h119 => ?_
  refine imp (callQ_says (sg93 h119)) ?_
  refine imp ex_i64_b ?_
  refine imp (opP_of (show _ = some ((AV.agg [(intA a2_0), (intA a2_1)]), []) from rfl)) ?_
  refine imp exA2_b ?_
  refine imp ex_i64_b ?_
  refine imp ex_i64_b ?_
  refine bind_b fun x120 h120 => ?_
  refine imp (callQ_says (sg93 h120)) ?_
  refine imp ex_i64_b ?_
  exact fun hg => ret1 (hR _ (Option.some.inj hg).symm) (fz_sc _ _)
theorem sg92 {n : Nat} {a0 : TP} {a1 : TP} {a2_0 : Int} {a2_1 : Int} {t : ρ92} (h : g92 n a0 a1 a2_0 a2_1 = some t) : Says Tryz.prog KK.gl 92 [(AV.agg [(intA a0.X), (intA a0.Y)]), (AV.agg [(intA a1.X), (intA a1.Y)]), (AV.ept [(intA a2_0), (intA a2_1)] 0)] ((intA t)) :=
  says_of_own (by first | rfl | simp [cleans, clean, encs_clean, En.cln]) (by first | rfl | simp [cleans, clean, encs_clean, En.cln]) (F92_own a0.X a0.Y a1.X a1.Y (AV.ept [(intA a2_0), (intA a2_1)] 0) _ (g92_ok n a0 a1 a2_0 a2_1 (Ans ((intA t))) (fun r e u m h => by rw [e]; exact h) h))
/- skyway/polygon.enters -/
theorem B75_0_1_0_ok (n : Nat) (a0 : List TP) (a1 : List TP) (c4 : Bool) (w11 : Int) (c17 : Int) (v18 : Int) (c100 : Int) (k100010_0 : Int) (k100010_1 : Int) (k100011_0 : Int) (k100011_1 : Int) (k300041_0 : Int) (k300041_1 : Int) (u101 : Int) (L90000 : List TP) {t : (Int × List TP) ⊕ ((Int × List TP) ⊕ ((Int) ⊕ ρ75))} (R : AV → Mem → Prop) (N0 : St → Prop) (N1 : St → Prop) (N2 : St → Prop) (hR : ∀ r : ρ75, t = (.inr (.inr (.inr r))) → ∀ u m, Ans ((boolA r)) u m → R u m) (hN0 : ∀ y : Int, t = (.inr (.inr (.inl y))) → ∀ s' : St, Weak KK 127 0 s' (h75_0 (lstA TP.E a0) (lstA TP.E a1) c4 c17 y []) → N0 s') (hN1 : ∀ y : Int × List TP, t = (.inr (.inl y)) → ∀ s' : St, Weak KK 127 0 s' (h75_0_1 (lstA TP.E a0) (lstA TP.E a1) c4 (ownV TP.E 90000 y.2) y.1 c17 v18 [(90000, ownB TP.E 60 y.2), (100010, some ⟨[(intA k100010_0), (intA k100010_1)], 60⟩), (100011, some ⟨[(intA k100011_0), (intA k100011_1)], 60⟩)]) → N1 s') (hN2 : ∀ y : Int × List TP, t = (.inl y) → ∀ s' : St, Weak KK 127 0 s' (h75_0_1_0 (lstA TP.E a0) (lstA TP.E a1) c4 (ownV TP.E 90000 y.2) w11 c17 v18 c100 y.1 [(90000, ownB TP.E 60 y.2), (100010, some ⟨[(intA k100010_0), (intA k100010_1)], 60⟩), (100011, some ⟨[(intA k100011_0), (intA k100011_1)], 60⟩), (300041, some ⟨[(intA k300041_0), (intA k300041_1)], 60⟩)]) → N2 s') : S75_0_1_0 n a0 a1 c4 w11 c17 v18 c100 k100010_0 k100010_1 k100011_0 k100011_1 k300041_0 k300041_1 u101 L90000 = some t → B75_0_1_0 (lstA TP.E a0) (lstA TP.E a1) c4 (ownV TP.E 90000 L90000) w11 c17 v18 c100 u101 [(90000, ownB TP.E 60 L90000), (100010, some ⟨[(intA k100010_0), (intA k100010_1)], 60⟩), (100011, some ⟨[(intA k100011_0), (intA k100011_1)], 60⟩), (300041, some ⟨[(intA k300041_0), (intA k300041_1)], 60⟩)] R N0 N1 N2 := by
  unfold S75_0_1_0 B75_0_1_0
  refine cond_b (fun _ => ?_) (fun _ => ?_)
  · refine bind_b fun x129 h129 => ?_
    refine imp (opM_of (show _ = some ((AV.ept [(intA x129.X), (intA x129.Y)] 0), []) from (idx_lst (E := TP.E) rfl h129))) ?_
    refine imp (opM_of (show _ = some ((AV.agg [(intA x129.X), (intA x129.Y)]), []) from rfl)) ?_
    refine imp exA2_b ?_
    refine imp ex_i64_b ?_
    refine imp ex_i64_b ?_
    refine bind_b fun x130 h130 => ?_
    refine imp (callF_says (sg70 h130)) ?_
    refine imp exA2_b ?_
    refine imp ex_i64_b ?_
    refine imp ex_i64_b ?_
    refine imp (storeW_cells (sz := 2) (by kernel_rfl) (by kernel_rfl) rfl rfl (cs := [(intA (0)), (intA (0))]) (cs' := [(intA x129.X), (intA x129.Y)]) (ty := 60) (by first | rfl | (rw [look'_mem (by first | rfl | simp [topId_blk] | simp [topId])]; first | rfl | (simp (disch := first | decide | assumption) only [mpushs_nil, mpushs_cons, mget_hd, mget_tl, mget_appW_o, mget_appW_n, mget_appW_e]))) rfl rfl) ?_
    refine imp (storeW_cells (sz := 2) (by kernel_rfl) (by kernel_rfl) rfl rfl (cs := [(intA (0)), (intA (0))]) (cs' := [(intA x130.X), (intA x130.Y)]) (ty := 60) (by first | rfl | (rw [look'_mem (by first | rfl | simp [topId_blk] | simp [topId])]; first | rfl | (simp (disch := first | decide | assumption) only [mpushs_nil, mpushs_cons, mget_hd, mget_tl, mget_appW_o, mget_appW_n, mget_appW_e]))) rfl rfl) ?_
    refine imp (chk_of (by kernel_rfl)) ?_
    refine imp (opP_of (show _ = some ((AV.agg [(intA x129.X), (intA x129.Y)]), []) from (ldA_ptr (b := ⟨[(intA x129.X), (intA x129.Y)], 60⟩) (by first | rfl | (simp (disch := first | decide | assumption) only [mpushs_nil, mpushs_cons, mget_hd, mget_tl, mget_appW_o, mget_appW_n, mget_appW_e])) rfl))) ?_
    refine imp exA2_b ?_
    refine imp ex_i64_b ?_
    refine imp ex_i64_b ?_
    refine imp (opP_of (show _ = some ((AV.agg [(intA x130.X), (intA x130.Y)]), []) from (ldA_ptr (b := ⟨[(intA x130.X), (intA x130.Y)], 60⟩) (by first | rfl | (simp (disch := first | decide | assumption) only [mpushs_nil, mpushs_cons, mget_hd, mget_tl, mget_appW_o, mget_appW_n, mget_appW_e])) rfl))) ?_
    refine imp exA2_b ?_
    refine imp ex_i64_b ?_
    refine imp ex_i64_b ?_
    refine imp (opP_of (show _ = some ((AV.agg [(intA k300041_0), (intA k300041_1)]), []) from (ldA_ptr (b := ⟨[(intA k300041_0), (intA k300041_1)], 60⟩) (by first | rfl | (simp (disch := first | decide | assumption) only [mpushs_nil, mpushs_cons, mget_hd, mget_tl, mget_appW_o, mget_appW_n, mget_appW_e])) rfl))) ?_
    refine imp exA2_b ?_
    refine imp ex_i64_b ?_
    refine imp ex_i64_b ?_
    refine bind_b fun x131 h131 => ?_
    refine imp (callQ_says (sg90 h131)) ?_
    refine imp exB_b ?_
    refine cond_b (fun _ => ?_) (fun _ => ?_)
    · refine imp (opP_of (show _ = some ((AV.agg [(intA k100011_0), (intA k100011_1)]), []) from (ldA_ptr (b := ⟨[(intA k100011_0), (intA k100011_1)], 60⟩) (by first | rfl | (simp (disch := first | decide | assumption) only [mpushs_nil, mpushs_cons, mget_hd, mget_tl, mget_appW_o, mget_appW_n, mget_appW_e])) rfl))) ?_
      refine imp exA2_b ?_
      refine imp ex_i64_b ?_
      refine imp ex_i64_b ?_
      refine imp (opP_of (show _ = some ((AV.agg [(intA k100010_0), (intA k100010_1)]), []) from (ldA_ptr (b := ⟨[(intA k100010_0), (intA k100010_1)], 60⟩) (by first | rfl | (simp (disch := first | decide | assumption) only [mpushs_nil, mpushs_cons, mget_hd, mget_tl, mget_appW_o, mget_appW_n, mget_appW_e])) rfl))) ?_
      refine imp exA2_b ?_
      refine imp ex_i64_b ?_
      refine imp ex_i64_b ?_
      refine bind_b fun x132 h132 => ?_
      refine imp (callQ_says (sg89 h132)) ?_
      refine imp exA2_b ?_
      refine imp ex_i64_b ?_
      refine imp ex_i64_b ?_
      refine imp (opP_of (show _ = some ((AV.agg [(intA x130.X), (intA x130.Y)]), []) from (ldA_ptr (b := ⟨[(intA x130.X), (intA x130.Y)], 60⟩) (by first | rfl | (simp (disch := first | decide | assumption) only [mpushs_nil, mpushs_cons, mget_hd, mget_tl, mget_appW_o, mget_appW_n, mget_appW_e])) rfl))) ?_
      refine imp exA2_b ?_
      refine imp ex_i64_b ?_
      refine imp ex_i64_b ?_
      refine imp (opP_of (show _ = some ((AV.agg [(intA x129.X), (intA x129.Y)]), []) from (ldA_ptr (b := ⟨[(intA x129.X), (intA x129.Y)], 60⟩) (by first | rfl | (simp (disch := first | decide | assumption) only [mpushs_nil, mpushs_cons, mget_hd, mget_tl, mget_appW_o, mget_appW_n, mget_appW_e])) rfl))) ?_
      refine imp exA2_b ?_
      refine imp ex_i64_b ?_
      refine imp ex_i64_b ?_
      refine bind_b fun x133 h133 => ?_
      refine imp (callQ_says (sg89 h133)) ?_
      refine imp exA2_b ?_
      refine imp ex_i64_b ?_
      refine imp ex_i64_b ?_
      refine bind_b fun x134 h134 => ?_
      refine imp (callQ_says (sg94 h134)) ?_
      refine imp ex_i64_b ?_
      refine cond_b (fun _ => ?_) (fun _ => ?_)
      · exact fun hg => ret1 (hR _ (Option.some.inj hg).symm) (fz_sc _ _)
      · exact fun hg => hN2 _ (Option.some.inj hg).symm _ (weak_mem [(90000, 90000), (100010, 100010), (100011, 100011), (300041, 300041)] rfl rfl rfl (okW_cons (ent_lst (E := TP.E) _ false) (okW_cons (ent_lst (E := TP.E) _ false) (okW_cons (.inl (leV_refl _)) (okW_cons (.inl (leV_refl _)) (okW_cons (.inl (leV_refl _)) (okW_cons (ent_own (E := TP.E) (id := 90000) (l' := L90000) rfl rfl) (okW_cons (.inl (leV_refl _)) (okW_cons (.inl (leV_refl _)) (okW_cons (.inl (leV_refl _)) (okW_cons (.inl (leV_refl _)) (okW_cons (.inl (leV_refl _)) (okW_cons (.inl (leV_refl _)) okW_nil)))))))))))) (okB_cons (okB_own (E := TP.E) (ty := 60) (l' := L90000) rfl (show mget _ 90000 = _ from (by first | rfl | (simp (disch := first | decide | assumption) only [mpushs_nil, mpushs_cons, mget_hd, mget_tl, mget_appW_o, mget_appW_n, mget_appW_e])))) (okB_cons (okB_cells (cs := [(intA k100010_0), (intA k100010_1)]) (ty := 60) rfl (show mget _ 100010 = _ from (by first | rfl | (simp (disch := first | decide | assumption) only [mpushs_nil, mpushs_cons, mget_hd, mget_tl, mget_appW_o, mget_appW_n, mget_appW_e])))) (okB_cons (okB_cells (cs := [(intA k100011_0), (intA k100011_1)]) (ty := 60) rfl (show mget _ 100011 = _ from (by first | rfl | (simp (disch := first | decide | assumption) only [mpushs_nil, mpushs_cons, mget_hd, mget_tl, mget_appW_o, mget_appW_n, mget_appW_e])))) (okB_cons (okB_cells (cs := [(intA k300041_0), (intA k300041_1)]) (ty := 60) rfl (show mget _ 300041 = _ from (by first | rfl | (simp (disch := first | decide | assumption) only [mpushs_nil, mpushs_cons, mget_hd, mget_tl, mget_appW_o, mget_appW_n, mget_appW_e])))) okB_nil')))))
    · exact fun hg => hN2 _ (Option.some.inj hg).symm _ (weak_mem [(90000, 90000), (100010, 100010), (100011, 100011), (300041, 300041)] rfl rfl rfl (okW_cons (ent_lst (E := TP.E) _ false) (okW_cons (ent_lst (E := TP.E) _ false) (okW_cons (.inl (leV_refl _)) (okW_cons (.inl (leV_refl _)) (okW_cons (.inl (leV_refl _)) (okW_cons (ent_own (E := TP.E) (id := 90000) (l' := L90000) rfl rfl) (okW_cons (.inl (leV_refl _)) (okW_cons (.inl (leV_refl _)) (okW_cons (.inl (leV_refl _)) (okW_cons (.inl (leV_refl _)) (okW_cons (.inl (leV_refl _)) (okW_cons (.inl (leV_refl _)) okW_nil)))))))))))) (okB_cons (okB_own (E := TP.E) (ty := 60) (l' := L90000) rfl (show mget _ 90000 = _ from (by first | rfl | (simp (disch := first | decide | assumption) only [mpushs_nil, mpushs_cons, mget_hd, mget_tl, mget_appW_o, mget_appW_n, mget_appW_e])))) (okB_cons (okB_cells (cs := [(intA k100010_0), (intA k100010_1)]) (ty := 60) rfl (show mget _ 100010 = _ from (by first | rfl | (simp (disch := first | decide | assumption) only [mpushs_nil, mpushs_cons, mget_hd, mget_tl, mget_appW_o, mget_appW_n, mget_appW_e])))) (okB_cons (okB_cells (cs := [(intA k100011_0), (intA k100011_1)]) (ty := 60) rfl (show mget _ 100011 = _ from (by first | rfl | (simp (disch := first | decide | assumption) only [mpushs_nil, mpushs_cons, mget_hd, mget_tl, mget_appW_o, mget_appW_n, mget_appW_e])))) (okB_cons (okB_cells (cs := [(intA k300041_0), (intA k300041_1)]) (ty := 60) rfl (show mget _ 300041 = _ from (by first | rfl | (simp (disch := first | decide | assumption) only [mpushs_nil, mpushs_cons, mget_hd, mget_tl, mget_appW_o, mget_appW_n, mget_appW_e])))) okB_nil')))))
  · exact fun hg => hN1 _ (Option.some.inj hg).symm _ (weak_mem [(90000, 90000), (100010, 100010), (100011, 100011)] rfl rfl rfl (okW_cons (ent_lst (E := TP.E) _ false) (okW_cons (ent_lst (E := TP.E) _ false) (okW_cons (.inl (leV_refl _)) (okW_cons (.inl (leV_refl _)) (okW_cons (.inl (leV_refl _)) (okW_cons (ent_own (E := TP.E) (id := 90000) (l' := L90000) rfl rfl) (okW_cons (.inl (leV_refl _)) (okW_cons (.inl (leV_refl _)) (okW_cons (.inl (leV_refl _)) okW_nil))))))))) (okB_cons (okB_own (E := TP.E) (ty := 60) (l' := L90000) rfl (show mget _ 90000 = _ from (by first | rfl | (simp (disch := first | decide | assumption) only [mpushs_nil, mpushs_cons, mget_hd, mget_tl, mget_appW_o, mget_appW_n, mget_appW_e])))) (okB_cons (okB_cells (cs := [(intA k100010_0), (intA k100010_1)]) (ty := 60) rfl (show mget _ 100010 = _ from (by first | rfl | (simp (disch := first | decide | assumption) only [mpushs_nil, mpushs_cons, mget_hd, mget_tl, mget_appW_o, mget_appW_n, mget_appW_e])))) (okB_cons (okB_cells (cs := [(intA k100011_0), (intA k100011_1)]) (ty := 60) rfl (show mget _ 100011 = _ from (by first | rfl | (simp (disch := first | decide | assumption) only [mpushs_nil, mpushs_cons, mget_hd, mget_tl, mget_appW_o, mget_appW_n, mget_appW_e])))) okB_nil'))))
theorem L75_0_1_0_ok (n : Nat) (a0 : List TP) (a1 : List TP) (c4 : Bool) (w11 : Int) (c17 : Int) (v18 : Int) (c100 : Int) (k100010_0 : Int) (k100010_1 : Int) (k100011_0 : Int) (k100011_1 : Int) (k300041_0 : Int) (k300041_1 : Int) {t : ((Int × List TP) ⊕ ((Int) ⊕ ρ75))} (R : AV → Mem → Prop) (N0 : St → Prop) (N1 : St → Prop) (hR : ∀ r : ρ75, t = (.inr (.inr r)) → ∀ u m, Ans ((boolA r)) u m → R u m) (hN0 : ∀ y : Int, t = (.inr (.inl y)) → ∀ s' : St, Weak KK 127 0 s' (h75_0 (lstA TP.E a0) (lstA TP.E a1) c4 c17 y []) → N0 s') (hN1 : ∀ y : Int × List TP, t = (.inl y) → ∀ s' : St, Weak KK 127 0 s' (h75_0_1 (lstA TP.E a0) (lstA TP.E a1) c4 (ownV TP.E 90000 y.2) y.1 c17 v18 [(90000, ownB TP.E 60 y.2), (100010, some ⟨[(intA k100010_0), (intA k100010_1)], 60⟩), (100011, some ⟨[(intA k100011_0), (intA k100011_1)], 60⟩)]) → N1 s') (k : Nat) (x : Int × List TP) (hx : iterO (fun y : Int × List TP => S75_0_1_0 n a0 a1 c4 w11 c17 v18 c100 k100010_0 k100010_1 k100011_0 k100011_1 k300041_0 k300041_1 y.1 y.2) k x = some t) {s : St} (hw : Weak KK 127 0 s (h75_0_1_0 (lstA TP.E a0) (lstA TP.E a1) c4 (ownV TP.E 90000 x.2) w11 c17 v18 c100 x.1 [(90000, ownB TP.E 60 x.2), (100010, some ⟨[(intA k100010_0), (intA k100010_1)], 60⟩), (100011, some ⟨[(intA k100011_0), (intA k100011_1)], 60⟩), (300041, some ⟨[(intA k300041_0), (intA k300041_1)], 60⟩)])) : Tri Tryz.prog KK 127 0 (.loop c75_0_1_0) s (q75_0_1_0 R N0 N1) :=
  L75_0_1_0 R N0 N1 (σ := Nat × (Int × List TP)) (fun z => iterO (fun y : Int × List TP => S75_0_1_0 n a0 a1 c4 w11 c17 v18 c100 k100010_0 k100010_1 k100011_0 k100011_1 k300041_0 k300041_1 y.1 y.2) z.1 z.2 = some t) (fun z => (lstA TP.E a0)) (fun z => (lstA TP.E a1)) (fun z => c4) (fun z => (ownV TP.E 90000 z.2.2)) (fun z => w11) (fun z => c17) (fun z => v18) (fun z => c100) (fun z => z.2.1) (fun z => [(90000, ownB TP.E 60 z.2.2), (100010, some ⟨[(intA k100010_0), (intA k100010_1)], 60⟩), (100011, some ⟨[(intA k100011_0), (intA k100011_1)], 60⟩), (300041, some ⟨[(intA k300041_0), (intA k300041_1)], 60⟩)]) (fun z => z.1) (by
    rintro ⟨k, y⟩ h
    cases k with
    | zero => exact (iterO_zero h).elim
    | succ k =>
      obtain ⟨u, h1, h2, h3⟩ := iterO_elim h
      exact B75_0_1_0_ok n a0 a1 c4 w11 c17 v18 c100 k100010_0 k100010_1 k100011_0 k100011_1 k300041_0 k300041_1 y.1 y.2 R N0 N1 _ (fun r e => hR r (h3 _ e).symm) (fun y' e => hN0 y' (h3 _ e).symm) (fun y' e => hN1 y' (h3 _ e).symm) (fun y' e s' hw => ⟨(k, y'), h2 _ e, Nat.lt_succ_self k, hw⟩) h1) (k, x) hx hw
theorem B75_0_1_ok (n : Nat) (a0 : List TP) (a1 : List TP) (c4 : Bool) (c17 : Int) (v18 : Int) (k100010_0 : Int) (k100010_1 : Int) (k100011_0 : Int) (k100011_1 : Int) (w11 : Int) (L90000 : List TP) {t : (Int × List TP) ⊕ ((Int) ⊕ ρ75)} (R : AV → Mem → Prop) (N0 : St → Prop) (N1 : St → Prop) (hR : ∀ r : ρ75, t = (.inr (.inr r)) → ∀ u m, Ans ((boolA r)) u m → R u m) (hN0 : ∀ y : Int, t = (.inr (.inl y)) → ∀ s' : St, Weak KK 127 0 s' (h75_0 (lstA TP.E a0) (lstA TP.E a1) c4 c17 y []) → N0 s') (hN1 : ∀ y : Int × List TP, t = (.inl y) → ∀ s' : St, Weak KK 127 0 s' (h75_0_1 (lstA TP.E a0) (lstA TP.E a1) c4 (ownV TP.E 90000 y.2) y.1 c17 v18 [(90000, ownB TP.E 60 y.2), (100010, some ⟨[(intA k100010_0), (intA k100010_1)], 60⟩), (100011, some ⟨[(intA k100011_0), (intA k100011_1)], 60⟩)]) → N1 s') : S75_0_1 n a0 a1 c4 c17 v18 k100010_0 k100010_1 k100011_0 k100011_1 w11 L90000 = some t → B75_0_1 (lstA TP.E a0) (lstA TP.E a1) c4 (ownV TP.E 90000 L90000) w11 c17 v18 [(90000, ownB TP.E 60 L90000), (100010, some ⟨[(intA k100010_0), (intA k100010_1)], 60⟩), (100011, some ⟨[(intA k100011_0), (intA k100011_1)], 60⟩)] R N0 N1 := by
  unfold S75_0_1 B75_0_1
  refine imp (opP_of (show _ = some ((intA (L90000.length : Int)), []) from len_own)) ?_
  refine imp ex_i64_b ?_
  refine cond_b (fun _ => ?_) (fun _ => ?_)
  · refine bind_b fun x122 h122 => ?_
    refine imp (opP_of (show _ = some ((AV.ptr 90000 (((w11 : Int).toNat) * 2 + 0)), []) from (idx_own (E := TP.E) rfl h122))) ?_
    refine imp (opP_of (show _ = some ((AV.agg [(intA x122.X), (intA x122.Y)]), []) from (ldA_blk (E := TP.E) (l := L90000) (ty := 60) rfl (own_some (ty := 60) (by first | rfl | (simp (disch := first | decide | assumption) only [mpushs_nil, mpushs_cons, mget_hd, mget_tl, mget_appW_o, mget_appW_n, mget_appW_e])) (getI_some h122).2) (getI_some h122).2 rfl))) ?_
    refine imp exA2_b ?_
    refine imp ex_i64_b ?_
    refine imp ex_i64_b ?_
    refine bind_b fun x123 h123 => ?_
    refine imp (opP_of (show _ = some ((AV.ptr 90000 ((((IntKind.wrap .i64 (w11 - (1))) : Int).toNat) * 2 + 0)), []) from (idx_own (E := TP.E) rfl h123))) ?_
    refine imp (opP_of (show _ = some ((AV.agg [(intA x123.X), (intA x123.Y)]), []) from (ldA_blk (E := TP.E) (l := L90000) (ty := 60) rfl (own_some (ty := 60) (by first | rfl | (simp (disch := first | decide | assumption) only [mpushs_nil, mpushs_cons, mget_hd, mget_tl, mget_appW_o, mget_appW_n, mget_appW_e])) (getI_some h123).2) (getI_some h123).2 rfl))) ?_
    refine imp exA2_b ?_
    refine imp ex_i64_b ?_
    refine imp ex_i64_b ?_
    refine imp (opP_of (show _ = some ((boolA (decide (x122 = x123))), []) from (TP.eql60 (x122) (x123)))) ?_
    refine imp exB_b ?_
    refine cond_b (fun _ => ?_) (fun _ => ?_)
    · exact fun hg => hN1 _ (Option.some.inj hg).symm _ (weak_mem [(90000, 90000), (100010, 100010), (100011, 100011)] rfl rfl rfl (okW_cons (ent_lst (E := TP.E) _ false) (okW_cons (ent_lst (E := TP.E) _ false) (okW_cons (.inl (leV_refl _)) (okW_cons (.inl (leV_refl _)) (okW_cons (.inl (leV_refl _)) (okW_cons (ent_own (E := TP.E) (id := 90000) (l' := L90000) rfl rfl) (okW_cons (.inl (leV_refl _)) (okW_cons (.inl (leV_refl _)) (okW_cons (.inl (leV_refl _)) okW_nil))))))))) (okB_cons (okB_own (E := TP.E) (ty := 60) (l' := L90000) rfl (show mget _ 90000 = _ from (by first | rfl | (simp (disch := first | decide | assumption) only [mpushs_nil, mpushs_cons, mget_hd, mget_tl, mget_appW_o, mget_appW_n, mget_appW_e])))) (okB_cons (okB_cells (cs := [(intA k100010_0), (intA k100010_1)]) (ty := 60) rfl (show mget _ 100010 = _ from (by first | rfl | (simp (disch := first | decide | assumption) only [mpushs_nil, mpushs_cons, mget_hd, mget_tl, mget_appW_o, mget_appW_n, mget_appW_e])))) (okB_cons (okB_cells (cs := [(intA k100011_0), (intA k100011_1)]) (ty := 60) rfl (show mget _ 100011 = _ from (by first | rfl | (simp (disch := first | decide | assumption) only [mpushs_nil, mpushs_cons, mget_hd, mget_tl, mget_appW_o, mget_appW_n, mget_appW_e])))) okB_nil'))))
    · refine bind_b fun x124 h124 => ?_
      refine imp (opM_of (show _ = some ((AV.ptr 90000 (((w11 : Int).toNat) * 2 + 0)), []) from (idx_own (E := TP.E) rfl h124))) ?_
      refine imp (opM_of (show _ = some ((AV.ptr 90000 (((w11 : Int).toNat) * 2 + 0)), []) from rfl)) ?_
      refine imp (opM_of (show _ = some ((intA x124.X), []) from (ldS_blk (E := TP.E) (l := L90000) (ty := 60) (o := 0) (own_some (ty := 60) (by first | rfl | (rw [look'_mem (by first | rfl | simp [topId_blk] | simp [topId])]; first | rfl | (simp (disch := first | decide | assumption) only [mpushs_nil, mpushs_cons, mget_hd, mget_tl, mget_appW_o, mget_appW_n, mget_appW_e]))) (getI_some h124).2) (getI_some h124).2 rfl (by decide) rfl))) ?_
      refine imp ex_i64_b ?_
      refine bind_b fun x125 h125 => ?_
      refine imp (opM_of (show _ = some ((AV.ptr 90000 ((((IntKind.wrap .i64 (w11 - (1))) : Int).toNat) * 2 + 0)), []) from (idx_own (E := TP.E) rfl h125))) ?_
      refine imp (opM_of (show _ = some ((AV.ptr 90000 ((((IntKind.wrap .i64 (w11 - (1))) : Int).toNat) * 2 + 0)), []) from rfl)) ?_
      refine imp (opM_of (show _ = some ((intA x125.X), []) from (ldS_blk (E := TP.E) (l := L90000) (ty := 60) (o := 0) (own_some (ty := 60) (by first | rfl | (rw [look'_mem (by first | rfl | simp [topId_blk] | simp [topId])]; first | rfl | (simp (disch := first | decide | assumption) only [mpushs_nil, mpushs_cons, mget_hd, mget_tl, mget_appW_o, mget_appW_n, mget_appW_e]))) (getI_some h125).2) (getI_some h125).2 rfl (by decide) rfl))) ?_
      refine imp ex_i64_b ?_
      refine bind_b fun x126 h126 => ?_
      refine imp (opM_of (show _ = some ((AV.ptr 90000 (((w11 : Int).toNat) * 2 + 0)), []) from (idx_own (E := TP.E) rfl h126))) ?_
      refine imp (opM_of (show _ = some ((AV.ptr 90000 (((w11 : Int).toNat) * 2 + 1)), []) from rfl)) ?_
      refine imp (opM_of (show _ = some ((intA x126.Y), []) from (ldS_blk (E := TP.E) (l := L90000) (ty := 60) (o := 1) (own_some (ty := 60) (by first | rfl | (rw [look'_mem (by first | rfl | simp [topId_blk] | simp [topId])]; first | rfl | (simp (disch := first | decide | assumption) only [mpushs_nil, mpushs_cons, mget_hd, mget_tl, mget_appW_o, mget_appW_n, mget_appW_e]))) (getI_some h126).2) (getI_some h126).2 rfl (by decide) rfl))) ?_
      refine imp ex_i64_b ?_
      refine bind_b fun x127 h127 => ?_
      refine imp (opM_of (show _ = some ((AV.ptr 90000 ((((IntKind.wrap .i64 (w11 - (1))) : Int).toNat) * 2 + 0)), []) from (idx_own (E := TP.E) rfl h127))) ?_
      refine imp (opM_of (show _ = some ((AV.ptr 90000 ((((IntKind.wrap .i64 (w11 - (1))) : Int).toNat) * 2 + 1)), []) from rfl)) ?_
      refine imp (opM_of (show _ = some ((intA x127.Y), []) from (ldS_blk (E := TP.E) (l := L90000) (ty := 60) (o := 1) (own_some (ty := 60) (by first | rfl | (rw [look'_mem (by first | rfl | simp [topId_blk] | simp [topId])]; first | rfl | (simp (disch := first | decide | assumption) only [mpushs_nil, mpushs_cons, mget_hd, mget_tl, mget_appW_o, mget_appW_n, mget_appW_e]))) (getI_some h127).2) (getI_some h127).2 rfl (by decide) rfl))) ?_
      refine imp ex_i64_b ?_
      refine imp (opM_of (show _ = some ((AV.agg [(intA (IntKind.wrap .i64 (Int.tdiv (IntKind.wrap .i64 (x124.X + x125.X)) (2)))), (intA (IntKind.wrap .i64 (Int.tdiv (IntKind.wrap .i64 (x126.Y + x127.Y)) (2))))]), []) from rfl)) ?_
      refine imp (storeW_cells (sz := 2) (by kernel_rfl) (by kernel_rfl) rfl rfl (cs := [(intA (0)), (intA (0))]) (cs' := [(intA (IntKind.wrap .i64 (Int.tdiv (IntKind.wrap .i64 (x124.X + x125.X)) (2)))), (intA (IntKind.wrap .i64 (Int.tdiv (IntKind.wrap .i64 (x126.Y + x127.Y)) (2))))]) (ty := 60) (by first | rfl | (rw [look'_mem (by first | rfl | simp [topId_blk] | simp [topId])]; first | rfl | (simp (disch := first | decide | assumption) only [mpushs_nil, mpushs_cons, mget_hd, mget_tl, mget_appW_o, mget_appW_n, mget_appW_e]))) rfl rfl) ?_
      refine imp (chk_of (by kernel_rfl)) ?_
      refine imp (opP_of (show _ = some ((AV.agg [(intA (IntKind.wrap .i64 (Int.tdiv (IntKind.wrap .i64 (x124.X + x125.X)) (2)))), (intA (IntKind.wrap .i64 (Int.tdiv (IntKind.wrap .i64 (x126.Y + x127.Y)) (2))))]), []) from (ldA_ptr (b := ⟨[(intA (IntKind.wrap .i64 (Int.tdiv (IntKind.wrap .i64 (x124.X + x125.X)) (2)))), (intA (IntKind.wrap .i64 (Int.tdiv (IntKind.wrap .i64 (x126.Y + x127.Y)) (2))))], 60⟩) (by first | rfl | (simp (disch := first | decide | assumption) only [mpushs_nil, mpushs_cons, mget_hd, mget_tl, mget_appW_o, mget_appW_n, mget_appW_e])) rfl))) ?_
      refine imp exA2_b ?_
      refine imp ex_i64_b ?_
      refine imp ex_i64_b ?_
      refine bind_b fun x128 h128 => ?_
      refine imp (callQ_says (sg82 h128)) ?_
      refine imp ex_i64_b ?_
      refine cond_b (fun _ => ?_) (fun _ => ?_)
      · exact fun hg => ret1 (hR _ (Option.some.inj hg).symm) (fz_sc _ _)
      · refine cond_b (fun _ => ?_) (fun _ => ?_)
        · refine imp (opP_of (show _ = some ((intA (a1.length : Int)), []) from rfl)) ?_
          refine imp ex_i64_b ?_
          exact fun hg => L75_0_1_0_ok n a0 a1 c4 w11 c17 v18 (a1.length : Int) k100010_0 k100010_1 k100011_0 k100011_1 (IntKind.wrap .i64 (Int.tdiv (IntKind.wrap .i64 (x124.X + x125.X)) (2))) (IntKind.wrap .i64 (Int.tdiv (IntKind.wrap .i64 (x126.Y + x127.Y)) (2))) R N0 N1 hR hN0 hN1 n _ hg (weak_mem [(90000, 90000), (100010, 100010), (100011, 100011), (300041, 300041)] rfl rfl rfl (okW_cons (ent_lst (E := TP.E) _ false) (okW_cons (ent_lst (E := TP.E) _ false) (okW_cons (.inl (leV_refl _)) (okW_cons (.inl (leV_refl _)) (okW_cons (.inl (leV_refl _)) (okW_cons (ent_own (E := TP.E) (id := 90000) (l' := L90000) rfl rfl) (okW_cons (.inl (leV_refl _)) (okW_cons (.inl (leV_refl _)) (okW_cons (.inl (leV_refl _)) (okW_cons (.inl (leV_refl _)) (okW_cons (.inl (leV_refl _)) (okW_cons (.inl (leV_refl _)) okW_nil)))))))))))) (okB_cons (okB_own (E := TP.E) (ty := 60) (l' := L90000) rfl (show mget _ 90000 = _ from (by first | rfl | (simp (disch := first | decide | assumption) only [mpushs_nil, mpushs_cons, mget_hd, mget_tl, mget_appW_o, mget_appW_n, mget_appW_e])))) (okB_cons (okB_cells (cs := [(intA k100010_0), (intA k100010_1)]) (ty := 60) rfl (show mget _ 100010 = _ from (by first | rfl | (simp (disch := first | decide | assumption) only [mpushs_nil, mpushs_cons, mget_hd, mget_tl, mget_appW_o, mget_appW_n, mget_appW_e])))) (okB_cons (okB_cells (cs := [(intA k100011_0), (intA k100011_1)]) (ty := 60) rfl (show mget _ 100011 = _ from (by first | rfl | (simp (disch := first | decide | assumption) only [mpushs_nil, mpushs_cons, mget_hd, mget_tl, mget_appW_o, mget_appW_n, mget_appW_e])))) (okB_cons (okB_cells (cs := [(intA (IntKind.wrap .i64 (Int.tdiv (IntKind.wrap .i64 (x124.X + x125.X)) (2)))), (intA (IntKind.wrap .i64 (Int.tdiv (IntKind.wrap .i64 (x126.Y + x127.Y)) (2))))]) (ty := 60) rfl (show mget _ 300041 = _ from (by first | rfl | (simp (disch := first | decide | assumption) only [mpushs_nil, mpushs_cons, mget_hd, mget_tl, mget_appW_o, mget_appW_n, mget_appW_e])))) okB_nil')))))
        · exact fun hg => hN1 _ (Option.some.inj hg).symm _ (weak_mem [(90000, 90000), (100010, 100010), (100011, 100011)] rfl rfl rfl (okW_cons (ent_lst (E := TP.E) _ false) (okW_cons (ent_lst (E := TP.E) _ false) (okW_cons (.inl (leV_refl _)) (okW_cons (.inl (leV_refl _)) (okW_cons (.inl (leV_refl _)) (okW_cons (ent_own (E := TP.E) (id := 90000) (l' := L90000) rfl rfl) (okW_cons (.inl (leV_refl _)) (okW_cons (.inl (leV_refl _)) (okW_cons (.inl (leV_refl _)) okW_nil))))))))) (okB_cons (okB_own (E := TP.E) (ty := 60) (l' := L90000) rfl (show mget _ 90000 = _ from (by first | rfl | (simp (disch := first | decide | assumption) only [mpushs_nil, mpushs_cons, mget_hd, mget_tl, mget_appW_o, mget_appW_n, mget_appW_e])))) (okB_cons (okB_cells (cs := [(intA k100010_0), (intA k100010_1)]) (ty := 60) rfl (show mget _ 100010 = _ from (by first | rfl | (simp (disch := first | decide | assumption) only [mpushs_nil, mpushs_cons, mget_hd, mget_tl, mget_appW_o, mget_appW_n, mget_appW_e])))) (okB_cons (okB_cells (cs := [(intA k100011_0), (intA k100011_1)]) (ty := 60) rfl (show mget _ 100011 = _ from (by first | rfl | (simp (disch := first | decide | assumption) only [mpushs_nil, mpushs_cons, mget_hd, mget_tl, mget_appW_o, mget_appW_n, mget_appW_e])))) okB_nil'))))
  · exact fun hg => hN0 _ (Option.some.inj hg).symm _ (weak_mem [] rfl rfl rfl (okW_cons (ent_lst (E := TP.E) _ false) (okW_cons (ent_lst (E := TP.E) _ false) (okW_cons (.inl (leV_refl _)) (okW_cons (.inl (leV_refl _)) (okW_cons (.inl (leV_refl _)) okW_nil))))) okB_nil')
theorem L75_0_1_ok (n : Nat) (a0 : List TP) (a1 : List TP) (c4 : Bool) (c17 : Int) (v18 : Int) (k100010_0 : Int) (k100010_1 : Int) (k100011_0 : Int) (k100011_1 : Int) {t : ((Int) ⊕ ρ75)} (R : AV → Mem → Prop) (N0 : St → Prop) (hR : ∀ r : ρ75, t = (.inr r) → ∀ u m, Ans ((boolA r)) u m → R u m) (hN0 : ∀ y : Int, t = (.inl y) → ∀ s' : St, Weak KK 127 0 s' (h75_0 (lstA TP.E a0) (lstA TP.E a1) c4 c17 y []) → N0 s') (k : Nat) (x : Int × List TP) (hx : iterO (fun y : Int × List TP => S75_0_1 n a0 a1 c4 c17 v18 k100010_0 k100010_1 k100011_0 k100011_1 y.1 y.2) k x = some t) {s : St} (hw : Weak KK 127 0 s (h75_0_1 (lstA TP.E a0) (lstA TP.E a1) c4 (ownV TP.E 90000 x.2) x.1 c17 v18 [(90000, ownB TP.E 60 x.2), (100010, some ⟨[(intA k100010_0), (intA k100010_1)], 60⟩), (100011, some ⟨[(intA k100011_0), (intA k100011_1)], 60⟩)])) : Tri Tryz.prog KK 127 0 (.loop c75_0_1) s (q75_0_1 R N0) :=
  L75_0_1 R N0 (σ := Nat × (Int × List TP)) (fun z => iterO (fun y : Int × List TP => S75_0_1 n a0 a1 c4 c17 v18 k100010_0 k100010_1 k100011_0 k100011_1 y.1 y.2) z.1 z.2 = some t) (fun z => (lstA TP.E a0)) (fun z => (lstA TP.E a1)) (fun z => c4) (fun z => (ownV TP.E 90000 z.2.2)) (fun z => z.2.1) (fun z => c17) (fun z => v18) (fun z => [(90000, ownB TP.E 60 z.2.2), (100010, some ⟨[(intA k100010_0), (intA k100010_1)], 60⟩), (100011, some ⟨[(intA k100011_0), (intA k100011_1)], 60⟩)]) (fun z => z.1) (by
    rintro ⟨k, y⟩ h
    cases k with
    | zero => exact (iterO_zero h).elim
    | succ k =>
      obtain ⟨u, h1, h2, h3⟩ := iterO_elim h
      exact B75_0_1_ok n a0 a1 c4 c17 v18 k100010_0 k100010_1 k100011_0 k100011_1 y.1 y.2 R N0 _ (fun r e => hR r (h3 _ e).symm) (fun y' e => hN0 y' (h3 _ e).symm) (fun y' e s' hw => ⟨(k, y'), h2 _ e, Nat.lt_succ_self k, hw⟩) h1) (k, x) hx hw
theorem B75_0_0_ok (n : Nat) (a0 : List TP) (a1 : List TP) (c4 : Bool) (c17 : Int) (v18 : Int) (c32 : Int) (k100010_0 : Int) (k100010_1 : Int) (k100011_0 : Int) (k100011_1 : Int) (w33 : Int) (L90000 : List TP) {t : (Int × List TP) ⊕ ((Int) ⊕ ρ75)} (R : AV → Mem → Prop) (N0 : St → Prop) (N1 : St → Prop) (hR : ∀ r : ρ75, t = (.inr (.inr r)) → ∀ u m, Ans ((boolA r)) u m → R u m) (hN0 : ∀ y : Int, t = (.inr (.inl y)) → ∀ s' : St, Weak KK 127 0 s' (h75_0 (lstA TP.E a0) (lstA TP.E a1) c4 c17 y []) → N0 s') (hN1 : ∀ y : Int × List TP, t = (.inl y) → ∀ s' : St, Weak KK 127 0 s' (h75_0_0 (lstA TP.E a0) (lstA TP.E a1) c4 (ownV TP.E 90000 y.2) c17 v18 (lstA TP.E a1) c32 y.1 [(90000, ownB TP.E 60 y.2), (100010, some ⟨[(intA k100010_0), (intA k100010_1)], 60⟩), (100011, some ⟨[(intA k100011_0), (intA k100011_1)], 60⟩)]) → N1 s') : S75_0_0 n a0 a1 c4 c17 v18 c32 k100010_0 k100010_1 k100011_0 k100011_1 w33 L90000 = some t → B75_0_0 (lstA TP.E a0) (lstA TP.E a1) c4 (ownV TP.E 90000 L90000) c17 v18 (lstA TP.E a1) c32 w33 [(90000, ownB TP.E 60 L90000), (100010, some ⟨[(intA k100010_0), (intA k100010_1)], 60⟩), (100011, some ⟨[(intA k100011_0), (intA k100011_1)], 60⟩)] R N0 N1 := by
  unfold S75_0_0 B75_0_0
  refine cond_b (fun _ => ?_) (fun _ => ?_)
  · refine bind_b fun x113 h113 => ?_
    refine imp (opP_of (show _ = some ((AV.ept [(intA x113.X), (intA x113.Y)] 0), []) from (idx_lst (E := TP.E) rfl h113))) ?_
    refine imp (opP_of (show _ = some ((AV.agg [(intA x113.X), (intA x113.Y)]), []) from rfl)) ?_
    refine imp exA2_b ?_
    refine imp ex_i64_b ?_
    refine imp ex_i64_b ?_
    refine imp (opP_of (show _ = some ((AV.agg [(intA k100010_0), (intA k100010_1)]), []) from (ldA_ptr (b := ⟨[(intA k100010_0), (intA k100010_1)], 60⟩) (by first | rfl | (simp (disch := first | decide | assumption) only [mpushs_nil, mpushs_cons, mget_hd, mget_tl, mget_appW_o, mget_appW_n, mget_appW_e])) rfl))) ?_
    refine imp exA2_b ?_
    refine imp ex_i64_b ?_
    refine imp ex_i64_b ?_
    refine imp (opP_of (show _ = some ((AV.agg [(intA k100011_0), (intA k100011_1)]), []) from (ldA_ptr (b := ⟨[(intA k100011_0), (intA k100011_1)], 60⟩) (by first | rfl | (simp (disch := first | decide | assumption) only [mpushs_nil, mpushs_cons, mget_hd, mget_tl, mget_appW_o, mget_appW_n, mget_appW_e])) rfl))) ?_
    refine imp exA2_b ?_
    refine imp ex_i64_b ?_
    refine imp ex_i64_b ?_
    refine bind_b fun x114 h114 => ?_
    refine imp (callQ_says (sg90 h114)) ?_
    refine imp exB_b ?_
    refine cond_b (fun _ => ?_) (fun _ => ?_)
    · refine imp (opN_of (show _ = some ((blkV TP.E 200074 ([x113] : List TP)), [(200074, some ⟨encs TP.E ([x113] : List TP), 60⟩)]) from rfl)) ?_
      refine bind_b fun x116 h116 => ?_
      refine imp (opN_of (show _ = some ((ownV TP.E 200075 (L90000 ++ ([x113] : List TP))), (appW TP.E 200075 90000 60 L90000 ([x113] : List TP))) from (app_own (E := TP.E) (l' := L90000) (xs := ([x113] : List TP)) rfl rfl (cellsOf_blk (E := TP.E) (ty := 60) rfl rfl (by first | rfl | (simp (disch := first | decide | assumption) only [mpushs_nil, mpushs_cons, mget_hd, mget_tl, mget_appW_o, mget_appW_n, mget_appW_e]))) (by first | assumption | simp) rfl (fun hne => Eq.trans (by first | rfl | (simp (disch := first | decide | assumption) only [mpushs_nil, mpushs_cons, mget_hd, mget_tl, mget_appW_o, mget_appW_n, mget_appW_e])) (ownB_ne hne)) h116))) ?_
      exact fun hg => hN1 _ (Option.some.inj hg).symm _ (weak_mem [(90000, 200075), (100010, 100010), (100011, 100011)] rfl rfl rfl (okW_cons (ent_lst (E := TP.E) _ false) (okW_cons (ent_lst (E := TP.E) _ false) (okW_cons (.inl (leV_refl _)) (okW_cons (.inl (leV_refl _)) (okW_cons (.inl (leV_refl _)) (okW_cons (ent_own (E := TP.E) (id := 200075) (l' := (L90000 ++ ([x113] : List TP))) rfl rfl) (okW_cons (.inl (leV_refl _)) (okW_cons (.inl (leV_refl _)) (okW_cons (ent_lst (E := TP.E) _ false) (okW_cons (.inl (leV_refl _)) (okW_cons (.inl (leV_refl _)) okW_nil))))))))))) (okB_cons (okB_own (E := TP.E) (ty := 60) (l' := (L90000 ++ ([x113] : List TP))) rfl (show mget _ 200075 = _ from (by first | rfl | (simp (disch := first | decide | assumption) only [mpushs_nil, mpushs_cons, mget_hd, mget_tl, mget_appW_o, mget_appW_n, mget_appW_e])))) (okB_cons (okB_cells (cs := [(intA k100010_0), (intA k100010_1)]) (ty := 60) rfl (show mget _ 100010 = _ from (by first | rfl | (simp (disch := first | decide | assumption) only [mpushs_nil, mpushs_cons, mget_hd, mget_tl, mget_appW_o, mget_appW_n, mget_appW_e])))) (okB_cons (okB_cells (cs := [(intA k100011_0), (intA k100011_1)]) (ty := 60) rfl (show mget _ 100011 = _ from (by first | rfl | (simp (disch := first | decide | assumption) only [mpushs_nil, mpushs_cons, mget_hd, mget_tl, mget_appW_o, mget_appW_n, mget_appW_e])))) okB_nil'))))
    · exact fun hg => hN1 _ (Option.some.inj hg).symm _ (weak_mem [(90000, 90000), (100010, 100010), (100011, 100011)] rfl rfl rfl (okW_cons (ent_lst (E := TP.E) _ false) (okW_cons (ent_lst (E := TP.E) _ false) (okW_cons (.inl (leV_refl _)) (okW_cons (.inl (leV_refl _)) (okW_cons (.inl (leV_refl _)) (okW_cons (ent_own (E := TP.E) (id := 90000) (l' := L90000) rfl rfl) (okW_cons (.inl (leV_refl _)) (okW_cons (.inl (leV_refl _)) (okW_cons (ent_lst (E := TP.E) _ false) (okW_cons (.inl (leV_refl _)) (okW_cons (.inl (leV_refl _)) okW_nil))))))))))) (okB_cons (okB_own (E := TP.E) (ty := 60) (l' := L90000) rfl (show mget _ 90000 = _ from (by first | rfl | (simp (disch := first | decide | assumption) only [mpushs_nil, mpushs_cons, mget_hd, mget_tl, mget_appW_o, mget_appW_n, mget_appW_e])))) (okB_cons (okB_cells (cs := [(intA k100010_0), (intA k100010_1)]) (ty := 60) rfl (show mget _ 100010 = _ from (by first | rfl | (simp (disch := first | decide | assumption) only [mpushs_nil, mpushs_cons, mget_hd, mget_tl, mget_appW_o, mget_appW_n, mget_appW_e])))) (okB_cons (okB_cells (cs := [(intA k100011_0), (intA k100011_1)]) (ty := 60) rfl (show mget _ 100011 = _ from (by first | rfl | (simp (disch := first | decide | assumption) only [mpushs_nil, mpushs_cons, mget_hd, mget_tl, mget_appW_o, mget_appW_n, mget_appW_e])))) okB_nil'))))
  · refine bind_b fun x121 h121 => ?_
    have lh121 := sortO_len h121
    refine imp (callW_sortV (hx := rfl) (E := TP.E) (ty := 60) (l := L90000) (cmp := (fun x y => g92 n x y k100010_0 k100010_1)) rfl TP.ok sorts91 none91 plain91 rfl (by first | rfl | (simp (disch := first | decide | assumption) only [mpushs_nil, mpushs_cons, mget_hd, mget_tl, mget_appW_o, mget_appW_n, mget_appW_e])) (capsOk_cons (.inr ⟨_, _, _, _, rfl, by decide, (by first | rfl | (simp (disch := first | decide | assumption) only [mpushs_nil, mpushs_cons, mget_hd, mget_tl, mget_appW_o, mget_appW_n, mget_appW_e])), by first | rfl | simp [cleans, clean, encs_clean], rfl⟩) capsOk_nil) (fun x y z h => sg92 h) h121) ?_
    refine imp exT0_b ?_
    refine mapInr_b fun t0 e0 => ?_
    exact fun hg => L75_0_1_ok n a0 a1 c4 c17 v18 k100010_0 k100010_1 k100011_0 k100011_1 R N0 (fun r e => hR r (e0.trans (congrArg Sum.inr e))) (fun y e => hN0 y (e0.trans (congrArg Sum.inr e))) n _ hg (weak_mem [(90000, 90000), (100010, 100010), (100011, 100011)] rfl rfl rfl (okW_cons (ent_lst (E := TP.E) _ false) (okW_cons (ent_lst (E := TP.E) _ false) (okW_cons (.inl (leV_refl _)) (okW_cons (.inl (leV_refl _)) (okW_cons (.inl (leV_refl _)) (okW_cons (ent_own (E := TP.E) (id := 90000) (l' := x121) (by first | rfl | omega | (simp; done) | (simp; omega)) rfl) (okW_cons (.inl (leV_refl _)) (okW_cons (.inl (leV_refl _)) (okW_cons (.inl (leV_refl _)) okW_nil))))))))) (okB_cons (okB_own (E := TP.E) (ty := 60) (l' := x121) rfl (show mget _ 90000 = _ from (by first | rfl | (simp (disch := first | decide | assumption) only [mpushs_nil, mpushs_cons, mget_hd, mget_tl, mget_appW_o, mget_appW_n, mget_appW_e])))) (okB_cons (okB_cells (cs := [(intA k100010_0), (intA k100010_1)]) (ty := 60) rfl (show mget _ 100010 = _ from (by first | rfl | (simp (disch := first | decide | assumption) only [mpushs_nil, mpushs_cons, mget_hd, mget_tl, mget_appW_o, mget_appW_n, mget_appW_e])))) (okB_cons (okB_cells (cs := [(intA k100011_0), (intA k100011_1)]) (ty := 60) rfl (show mget _ 100011 = _ from (by first | rfl | (simp (disch := first | decide | assumption) only [mpushs_nil, mpushs_cons, mget_hd, mget_tl, mget_appW_o, mget_appW_n, mget_appW_e])))) okB_nil'))))
theorem L75_0_0_ok (n : Nat) (a0 : List TP) (a1 : List TP) (c4 : Bool) (c17 : Int) (v18 : Int) (c32 : Int) (k100010_0 : Int) (k100010_1 : Int) (k100011_0 : Int) (k100011_1 : Int) {t : ((Int) ⊕ ρ75)} (R : AV → Mem → Prop) (N0 : St → Prop) (hR : ∀ r : ρ75, t = (.inr r) → ∀ u m, Ans ((boolA r)) u m → R u m) (hN0 : ∀ y : Int, t = (.inl y) → ∀ s' : St, Weak KK 127 0 s' (h75_0 (lstA TP.E a0) (lstA TP.E a1) c4 c17 y []) → N0 s') (k : Nat) (x : Int × List TP) (hx : iterO (fun y : Int × List TP => S75_0_0 n a0 a1 c4 c17 v18 c32 k100010_0 k100010_1 k100011_0 k100011_1 y.1 y.2) k x = some t) {s : St} (hw : Weak KK 127 0 s (h75_0_0 (lstA TP.E a0) (lstA TP.E a1) c4 (ownV TP.E 90000 x.2) c17 v18 (lstA TP.E a1) c32 x.1 [(90000, ownB TP.E 60 x.2), (100010, some ⟨[(intA k100010_0), (intA k100010_1)], 60⟩), (100011, some ⟨[(intA k100011_0), (intA k100011_1)], 60⟩)])) : Tri Tryz.prog KK 127 0 (.loop c75_0_0) s (q75_0_0 R N0) :=
  L75_0_0 R N0 (σ := Nat × (Int × List TP)) (fun z => iterO (fun y : Int × List TP => S75_0_0 n a0 a1 c4 c17 v18 c32 k100010_0 k100010_1 k100011_0 k100011_1 y.1 y.2) z.1 z.2 = some t) (fun z => (lstA TP.E a0)) (fun z => (lstA TP.E a1)) (fun z => c4) (fun z => (ownV TP.E 90000 z.2.2)) (fun z => c17) (fun z => v18) (fun z => (lstA TP.E a1)) (fun z => c32) (fun z => z.2.1) (fun z => [(90000, ownB TP.E 60 z.2.2), (100010, some ⟨[(intA k100010_0), (intA k100010_1)], 60⟩), (100011, some ⟨[(intA k100011_0), (intA k100011_1)], 60⟩)]) (fun z => z.1) (by
    rintro ⟨k, y⟩ h
    cases k with
    | zero => exact (iterO_zero h).elim
    | succ k =>
      obtain ⟨u, h1, h2, h3⟩ := iterO_elim h
      exact B75_0_0_ok n a0 a1 c4 c17 v18 c32 k100010_0 k100010_1 k100011_0 k100011_1 y.1 y.2 R N0 _ (fun r e => hR r (h3 _ e).symm) (fun y' e => hN0 y' (h3 _ e).symm) (fun y' e s' hw => ⟨(k, y'), h2 _ e, Nat.lt_succ_self k, hw⟩) h1) (k, x) hx hw
theorem B75_0_ok (n : Nat) (a0 : List TP) (a1 : List TP) (c4 : Bool) (c17 : Int) (v18 : Int) {t : (Int) ⊕ ρ75} (R : AV → Mem → Prop) (N0 : St → Prop) (hR : ∀ r : ρ75, t = (.inr r) → ∀ u m, Ans ((boolA r)) u m → R u m) (hN0 : ∀ y : Int, t = (.inl y) → ∀ s' : St, Weak KK 127 0 s' (h75_0 (lstA TP.E a0) (lstA TP.E a1) c4 c17 y []) → N0 s') : S75_0 n a0 a1 c4 c17 v18 = some t → B75_0 (lstA TP.E a0) (lstA TP.E a1) c4 c17 v18 [] R N0 := by
  unfold S75_0 B75_0
  refine cond_b (fun _ => ?_) (fun _ => ?_)
  · refine bind_b fun x111 h111 => ?_
    refine imp (opM_of (show _ = some ((AV.ept [(intA x111.X), (intA x111.Y)] 0), []) from (idx_lst (E := TP.E) rfl h111))) ?_
    refine imp (opM_of (show _ = some ((AV.agg [(intA x111.X), (intA x111.Y)]), []) from rfl)) ?_
    refine imp exA2_b ?_
    refine imp ex_i64_b ?_
    refine imp ex_i64_b ?_
    refine bind_b fun x112 h112 => ?_
    refine imp (callF_says (sg70 h112)) ?_
    refine imp exA2_b ?_
    refine imp ex_i64_b ?_
    refine imp ex_i64_b ?_
    refine imp (storeW_cells (sz := 2) (by kernel_rfl) (by kernel_rfl) rfl rfl (cs := [(intA (0)), (intA (0))]) (cs' := [(intA x111.X), (intA x111.Y)]) (ty := 60) (by first | rfl | (rw [look'_mem (by first | rfl | simp [topId_blk] | simp [topId])]; first | rfl | (simp (disch := first | decide | assumption) only [mpushs_nil, mpushs_cons, mget_hd, mget_tl, mget_appW_o, mget_appW_n, mget_appW_e]))) rfl rfl) ?_
    refine imp (storeW_cells (sz := 2) (by kernel_rfl) (by kernel_rfl) rfl rfl (cs := [(intA (0)), (intA (0))]) (cs' := [(intA x112.X), (intA x112.Y)]) (ty := 60) (by first | rfl | (rw [look'_mem (by first | rfl | simp [topId_blk] | simp [topId])]; first | rfl | (simp (disch := first | decide | assumption) only [mpushs_nil, mpushs_cons, mget_hd, mget_tl, mget_appW_o, mget_appW_n, mget_appW_e]))) rfl rfl) ?_
    refine imp (chk_of (by kernel_rfl)) ?_
    refine imp (opP_of (show _ = some ((AV.agg [(intA x111.X), (intA x111.Y)]), []) from (ldA_ptr (b := ⟨[(intA x111.X), (intA x111.Y)], 60⟩) (by first | rfl | (simp (disch := first | decide | assumption) only [mpushs_nil, mpushs_cons, mget_hd, mget_tl, mget_appW_o, mget_appW_n, mget_appW_e])) rfl))) ?_
    refine imp exA2_b ?_
    refine imp ex_i64_b ?_
    refine imp ex_i64_b ?_
    refine imp (opP_of (show _ = some ((AV.agg [(intA x112.X), (intA x112.Y)]), []) from (ldA_ptr (b := ⟨[(intA x112.X), (intA x112.Y)], 60⟩) (by first | rfl | (simp (disch := first | decide | assumption) only [mpushs_nil, mpushs_cons, mget_hd, mget_tl, mget_appW_o, mget_appW_n, mget_appW_e])) rfl))) ?_
    refine imp exA2_b ?_
    refine imp ex_i64_b ?_
    refine imp ex_i64_b ?_
    refine imp (opN_of (show _ = some ((blkV TP.E 100016 ([x111, x112] : List TP)), [(100016, some ⟨encs TP.E ([x111, x112] : List TP), 60⟩)]) from rfl)) ?_
    refine imp (opP_of (show _ = some ((intA (a1.length : Int)), []) from rfl)) ?_
    refine imp ex_i64_b ?_
    exact fun hg => L75_0_0_ok n a0 a1 c4 c17 v18 (a1.length : Int) x111.X x111.Y x112.X x112.Y R N0 hR hN0 n _ hg (weak_mem [(90000, 100016), (100010, 100010), (100011, 100011)] rfl rfl rfl (okW_cons (ent_lst (E := TP.E) _ false) (okW_cons (ent_lst (E := TP.E) _ false) (okW_cons (.inl (leV_refl _)) (okW_cons (.inl (leV_refl _)) (okW_cons (.inl (leV_refl _)) (okW_cons (ent_blk_own (E := TP.E) (id := 100016) (l' := ([x111, x112] : List TP)) (by simp) rfl rfl) (okW_cons (.inl (leV_refl _)) (okW_cons (.inl (leV_refl _)) (okW_cons (ent_lst (E := TP.E) _ false) (okW_cons (.inl (leV_refl _)) (okW_cons (.inl (leV_refl _)) okW_nil))))))))))) (okB_cons (okB_own (E := TP.E) (ty := 60) (l' := ([x111, x112] : List TP)) rfl (Eq.trans (show mget _ 100016 = _ from (by first | rfl | (simp (disch := first | decide | assumption) only [mpushs_nil, mpushs_cons, mget_hd, mget_tl, mget_appW_o, mget_appW_n, mget_appW_e]))) (Eq.symm (ownB_ne (by simp))))) (okB_cons (okB_cells (cs := [(intA x111.X), (intA x111.Y)]) (ty := 60) rfl (show mget _ 100010 = _ from (by first | rfl | (simp (disch := first | decide | assumption) only [mpushs_nil, mpushs_cons, mget_hd, mget_tl, mget_appW_o, mget_appW_n, mget_appW_e])))) (okB_cons (okB_cells (cs := [(intA x112.X), (intA x112.Y)]) (ty := 60) rfl (show mget _ 100011 = _ from (by first | rfl | (simp (disch := first | decide | assumption) only [mpushs_nil, mpushs_cons, mget_hd, mget_tl, mget_appW_o, mget_appW_n, mget_appW_e])))) okB_nil'))))
  · exact fun hg => ret1 (hR _ (Option.some.inj hg).symm) (fz_sc _ _)
theorem L75_0_ok (n : Nat) (a0 : List TP) (a1 : List TP) (c4 : Bool) (c17 : Int) {t : ρ75} (R : AV → Mem → Prop) (hR : ∀ r : ρ75, t = r → ∀ u m, Ans ((boolA r)) u m → R u m) (k : Nat) (x : Int) (hx : iterO (fun y : Int => S75_0 n a0 a1 c4 c17 y) k x = some t) {s : St} (hw : Weak KK 127 0 s (h75_0 (lstA TP.E a0) (lstA TP.E a1) c4 c17 x [])) : Tri Tryz.prog KK 127 0 (.loop c75_0) s (q75_0 R ) :=
  L75_0 R  (σ := Nat × (Int)) (fun z => iterO (fun y : Int => S75_0 n a0 a1 c4 c17 y) z.1 z.2 = some t) (fun z => (lstA TP.E a0)) (fun z => (lstA TP.E a1)) (fun z => c4) (fun z => c17) (fun z => z.2) (fun z => []) (fun z => z.1) (by
    rintro ⟨k, y⟩ h
    cases k with
    | zero => exact (iterO_zero h).elim
    | succ k =>
      obtain ⟨u, h1, h2, h3⟩ := iterO_elim h
      exact B75_0_ok n a0 a1 c4 c17 y R  _ (fun r e => hR r (h3 _ e).symm)  (fun y' e s' hw => ⟨(k, y'), h2 _ e, Nat.lt_succ_self k, hw⟩) h1) (k, x) hx hw
theorem g75_ok (n : Nat) (a0 : List TP) (a1 : List TP) {t : ρ75} (R : AV → Mem → Prop) (hR : ∀ r : ρ75, t = r → ∀ u m, Ans ((boolA r)) u m → R u m) : g75 n a0 a1 = some t → F75 (lstA TP.E a0) (lstA TP.E a1) R := by
  unfold g75 F75
  refine imp (opP_of (show _ = some ((intA (a0.length : Int)), []) from rfl)) ?_
  refine imp ex_i64_b ?_
  exact fun hg => L75_0_ok n a0 a1 false (a0.length : Int) R  hR n _ hg (weak_mem [] rfl rfl rfl (okW_cons (ent_lst (E := TP.E) _ false) (okW_cons (ent_lst (E := TP.E) _ false) (okW_cons (.inl (leV_refl _)) (okW_cons (.inl (leV_refl _)) (okW_cons (.inl (leV_refl _)) okW_nil))))) okB_nil')
theorem sg75 {n : Nat} {a0 : List TP} {a1 : List TP} {t : ρ75} (h : g75 n a0 a1 = some t) : Says Tryz.prog KK.gl 75 [(lstA TP.E a0), (lstA TP.E a1)] ((boolA t)) :=
  says_of_own (by first | rfl | simp [cleans, clean, encs_clean, En.cln]) (by first | rfl | simp [cleans, clean, encs_clean, En.cln]) (F75_own (lstA TP.E a0) (lstA TP.E a1) _ (g75_ok n a0 a1 (Ans ((boolA t))) (fun r e u m h => by rw [e]; exact h) h))
/- skyway/polygon.Overlap -/
theorem B48_1_0_ok (n : Nat) (a0 : List TP) (a1 : List TP) (c4 : Bool) (c5 : Int) (v27 : Int) (c26 : Int) (c31 : Int) (w32 : Int) {t : (Int) ⊕ ((Int) ⊕ ρ48)} (R : AV → Mem → Prop) (N0 : St → Prop) (N1 : St → Prop) (hR : ∀ r : ρ48, t = (.inr (.inr r)) → ∀ u m, Ans ((AV.tup [(boolA r.1), (intA r.2)])) u m → R u m) (hN0 : ∀ y : Int, t = (.inr (.inl y)) → ∀ s' : St, Weak KK 64 0 s' (h48_1 (lstA TP.E a0) (lstA TP.E a1) c4 c5 c26 y []) → N0 s') (hN1 : ∀ y : Int, t = (.inl y) → ∀ s' : St, Weak KK 64 0 s' (h48_1_0 (lstA TP.E a0) (lstA TP.E a1) c4 c5 v27 c26 v27 c31 y []) → N1 s') : S48_1_0 n a0 a1 c4 c5 v27 c26 c31 w32 = some t → B48_1_0 (lstA TP.E a0) (lstA TP.E a1) c4 c5 v27 c26 v27 c31 w32 [] R N0 N1 := by
  unfold S48_1_0 B48_1_0
  refine cond_b (fun _ => ?_) (fun _ => ?_)
  · refine bind_b fun x101 h101 => ?_
    refine imp (opP_of (show _ = some ((AV.ept [(intA x101.X), (intA x101.Y)] 0), []) from (idx_lst (E := TP.E) rfl h101))) ?_
    refine imp (opP_of (show _ = some ((AV.agg [(intA x101.X), (intA x101.Y)]), []) from rfl)) ?_
    refine imp exA2_b ?_
    refine imp ex_i64_b ?_
    refine imp ex_i64_b ?_
    refine bind_b fun x102 h102 => ?_
    refine imp (callQ_says (sg70 h102)) ?_
    refine imp exA2_b ?_
    refine imp ex_i64_b ?_
    refine imp ex_i64_b ?_
    refine bind_b fun x103 h103 => ?_
    refine imp (opP_of (show _ = some ((AV.ept [(intA x103.X), (intA x103.Y)] 0), []) from (idx_lst (E := TP.E) rfl h103))) ?_
    refine imp (opP_of (show _ = some ((AV.agg [(intA x103.X), (intA x103.Y)]), []) from rfl)) ?_
    refine imp exA2_b ?_
    refine imp ex_i64_b ?_
    refine imp ex_i64_b ?_
    refine bind_b fun x104 h104 => ?_
    refine imp (callQ_says (sg70 h104)) ?_
    refine imp exA2_b ?_
    refine imp ex_i64_b ?_
    refine imp ex_i64_b ?_
    refine bind_b fun x105 h105 => ?_
    refine imp (callQ_says (sg73 h105)) ?_
    refine imp exB_b ?_
    refine cond_b (fun _ => ?_) (fun _ => ?_)
    · exact fun hg => retN rfl (hR _ (Option.some.inj hg).symm) (fzL_cons (fz_sc _ _) (fzL_cons (fz_sc _ _) fzL_nil))
    · exact fun hg => hN1 _ (Option.some.inj hg).symm _ (weak_mem [] rfl rfl rfl (okW_cons (ent_lst (E := TP.E) _ false) (okW_cons (ent_lst (E := TP.E) _ false) (okW_cons (.inl (leV_refl _)) (okW_cons (.inl (leV_refl _)) (okW_cons (.inl (leV_refl _)) (okW_cons (.inl (leV_refl _)) (okW_cons (.inl (leV_refl _)) (okW_cons (.inl (leV_refl _)) (okW_cons (.inl (leV_refl _)) okW_nil))))))))) okB_nil')
  · exact fun hg => hN0 _ (Option.some.inj hg).symm _ (weak_mem [] rfl rfl rfl (okW_cons (ent_lst (E := TP.E) _ false) (okW_cons (ent_lst (E := TP.E) _ false) (okW_cons (.inl (leV_refl _)) (okW_cons (.inl (leV_refl _)) (okW_cons (.inl (leV_refl _)) (okW_cons (.inl (leV_refl _)) okW_nil)))))) okB_nil')
theorem L48_1_0_ok (n : Nat) (a0 : List TP) (a1 : List TP) (c4 : Bool) (c5 : Int) (v27 : Int) (c26 : Int) (c31 : Int) {t : ((Int) ⊕ ρ48)} (R : AV → Mem → Prop) (N0 : St → Prop) (hR : ∀ r : ρ48, t = (.inr r) → ∀ u m, Ans ((AV.tup [(boolA r.1), (intA r.2)])) u m → R u m) (hN0 : ∀ y : Int, t = (.inl y) → ∀ s' : St, Weak KK 64 0 s' (h48_1 (lstA TP.E a0) (lstA TP.E a1) c4 c5 c26 y []) → N0 s') (k : Nat) (x : Int) (hx : iterO (fun y : Int => S48_1_0 n a0 a1 c4 c5 v27 c26 c31 y) k x = some t) {s : St} (hw : Weak KK 64 0 s (h48_1_0 (lstA TP.E a0) (lstA TP.E a1) c4 c5 v27 c26 v27 c31 x [])) : Tri Tryz.prog KK 64 0 (.loop c48_1_0) s (q48_1_0 R N0) :=
  L48_1_0 R N0 (σ := Nat × (Int)) (fun z => iterO (fun y : Int => S48_1_0 n a0 a1 c4 c5 v27 c26 c31 y) z.1 z.2 = some t) (fun z => (lstA TP.E a0)) (fun z => (lstA TP.E a1)) (fun z => c4) (fun z => c5) (fun z => v27) (fun z => c26) (fun z => v27) (fun z => c31) (fun z => z.2) (fun z => []) (fun z => z.1) (by
    rintro ⟨k, y⟩ h
    cases k with
    | zero => exact (iterO_zero h).elim
    | succ k =>
      obtain ⟨u, h1, h2, h3⟩ := iterO_elim h
      exact B48_1_0_ok n a0 a1 c4 c5 v27 c26 c31 y R N0 _ (fun r e => hR r (h3 _ e).symm) (fun y' e => hN0 y' (h3 _ e).symm) (fun y' e s' hw => ⟨(k, y'), h2 _ e, Nat.lt_succ_self k, hw⟩) h1) (k, x) hx hw
theorem B48_1_ok (n : Nat) (a0 : List TP) (a1 : List TP) (c4 : Bool) (c5 : Int) (c26 : Int) (v27 : Int) {t : (Int) ⊕ ρ48} (R : AV → Mem → Prop) (N0 : St → Prop) (hR : ∀ r : ρ48, t = (.inr r) → ∀ u m, Ans ((AV.tup [(boolA r.1), (intA r.2)])) u m → R u m) (hN0 : ∀ y : Int, t = (.inl y) → ∀ s' : St, Weak KK 64 0 s' (h48_1 (lstA TP.E a0) (lstA TP.E a1) c4 c5 c26 y []) → N0 s') : S48_1 n a0 a1 c4 c5 c26 v27 = some t → B48_1 (lstA TP.E a0) (lstA TP.E a1) c4 c5 c26 v27 [] R N0 := by
  unfold S48_1 B48_1
  refine cond_b (fun _ => ?_) (fun _ => ?_)
  · refine imp (opP_of (show _ = some ((intA (a1.length : Int)), []) from rfl)) ?_
    refine imp ex_i64_b ?_
    exact fun hg => L48_1_0_ok n a0 a1 c4 c5 v27 c26 (a1.length : Int) R N0 hR hN0 n _ hg (weak_mem [] rfl rfl rfl (okW_cons (ent_lst (E := TP.E) _ false) (okW_cons (ent_lst (E := TP.E) _ false) (okW_cons (.inl (leV_refl _)) (okW_cons (.inl (leV_refl _)) (okW_cons (.inl (leV_refl _)) (okW_cons (.inl (leV_refl _)) (okW_cons (.inl (leV_refl _)) (okW_cons (.inl (leV_refl _)) (okW_cons (.inl (leV_refl _)) okW_nil))))))))) okB_nil')
  · refine bind_b fun x109 h109 => ?_
    refine imp (callQ_says (sg74 h109)) ?_
    refine bind_b fun x110 h110 => ?_
    refine imp (callQ_says (sg74 h110)) ?_
    refine bind_b fun x135 h135 => ?_
    refine imp (callQ_says (sg75 h135)) ?_
    refine imp exB_b ?_
    refine cond_b (fun _ => ?_) (fun _ => ?_)
    · exact fun hg => retN rfl (hR _ (Option.some.inj hg).symm) (fzL_cons (fz_sc _ _) (fzL_cons (fz_sc _ _) fzL_nil))
    · refine bind_b fun x136 h136 => ?_
      refine imp (callQ_says (sg75 h136)) ?_
      refine imp exB_b ?_
      exact fun hg => retN rfl (hR _ (Option.some.inj hg).symm) (fzL_cons (fz_sc _ _) (fzL_cons (fz_sc _ _) fzL_nil))
theorem L48_1_ok (n : Nat) (a0 : List TP) (a1 : List TP) (c4 : Bool) (c5 : Int) (c26 : Int) {t : ρ48} (R : AV → Mem → Prop) (hR : ∀ r : ρ48, t = r → ∀ u m, Ans ((AV.tup [(boolA r.1), (intA r.2)])) u m → R u m) (k : Nat) (x : Int) (hx : iterO (fun y : Int => S48_1 n a0 a1 c4 c5 c26 y) k x = some t) {s : St} (hw : Weak KK 64 0 s (h48_1 (lstA TP.E a0) (lstA TP.E a1) c4 c5 c26 x [])) : Tri Tryz.prog KK 64 0 (.loop c48_1) s (q48_1 R ) :=
  L48_1 R  (σ := Nat × (Int)) (fun z => iterO (fun y : Int => S48_1 n a0 a1 c4 c5 c26 y) z.1 z.2 = some t) (fun z => (lstA TP.E a0)) (fun z => (lstA TP.E a1)) (fun z => c4) (fun z => c5) (fun z => c26) (fun z => z.2) (fun z => []) (fun z => z.1) (by
    rintro ⟨k, y⟩ h
    cases k with
    | zero => exact (iterO_zero h).elim
    | succ k =>
      obtain ⟨u, h1, h2, h3⟩ := iterO_elim h
      exact B48_1_ok n a0 a1 c4 c5 c26 y R  _ (fun r e => hR r (h3 _ e).symm)  (fun y' e s' hw => ⟨(k, y'), h2 _ e, Nat.lt_succ_self k, hw⟩) h1) (k, x) hx hw
theorem B48_0_ok (n : Nat) (a0 : List TP) (a1 : List TP) (c4 : Bool) (c5 : Int) (c13 : List (List TP)) (c14 : Int) (v15 : Int) {t : (Int) ⊕ ρ48} (R : AV → Mem → Prop) (N0 : St → Prop) (hR : ∀ r : ρ48, t = (.inr r) → ∀ u m, Ans ((AV.tup [(boolA r.1), (intA r.2)])) u m → R u m) (hN0 : ∀ y : Int, t = (.inl y) → ∀ s' : St, Weak KK 64 0 s' (h48_0 (lstA TP.E a0) (lstA TP.E a1) c4 c5 (lstA (lstE TP.E) c13) c14 y []) → N0 s') : S48_0 n a0 a1 c4 c5 c13 c14 v15 = some t → B48_0 (lstA TP.E a0) (lstA TP.E a1) c4 c5 (lstA (lstE TP.E) c13) c14 v15 [] R N0 := by
  unfold S48_0 B48_0
  refine cond_b (fun _ => ?_) (fun _ => ?_)
  · refine bind_b fun x99 h99 => ?_
    refine imp (opP_of (show _ = some ((AV.ept [(lstA TP.E x99)] 0), []) from (idx_lst (E := (lstE TP.E)) rfl h99))) ?_
    refine imp (opP_of (show _ = some ((lstA TP.E x99), []) from rfl)) ?_
    refine bind_b fun x100 h100 => ?_
    refine imp (callQ_says (sg46 h100)) ?_
    refine imp ex_i64_b ?_
    refine cond_b (fun _ => ?_) (fun _ => ?_)
    · exact fun hg => retN rfl (hR _ (Option.some.inj hg).symm) (fzL_cons (fz_sc _ _) (fzL_cons (fz_sc _ _) fzL_nil))
    · exact fun hg => hN0 _ (Option.some.inj hg).symm _ (weak_mem [] rfl rfl rfl (okW_cons (ent_lst (E := TP.E) _ false) (okW_cons (ent_lst (E := TP.E) _ false) (okW_cons (.inl (leV_refl _)) (okW_cons (.inl (leV_refl _)) (okW_cons (ent_lst (E := (lstE TP.E)) _ false) (okW_cons (.inl (leV_refl _)) (okW_cons (.inl (leV_refl _)) okW_nil))))))) okB_nil')
  · refine imp (opP_of (show _ = some ((intA (a0.length : Int)), []) from rfl)) ?_
    refine imp ex_i64_b ?_
    refine mapInr_b fun t0 e0 => ?_
    exact fun hg => L48_1_ok n a0 a1 c4 c5 (a0.length : Int) R  (fun r e => hR r (e0.trans (congrArg Sum.inr e))) n _ hg (weak_mem [] rfl rfl rfl (okW_cons (ent_lst (E := TP.E) _ false) (okW_cons (ent_lst (E := TP.E) _ false) (okW_cons (.inl (leV_refl _)) (okW_cons (.inl (leV_refl _)) (okW_cons (.inl (leV_refl _)) (okW_cons (.inl (leV_refl _)) okW_nil)))))) okB_nil')
theorem L48_0_ok (n : Nat) (a0 : List TP) (a1 : List TP) (c4 : Bool) (c5 : Int) (c13 : List (List TP)) (c14 : Int) {t : ρ48} (R : AV → Mem → Prop) (hR : ∀ r : ρ48, t = r → ∀ u m, Ans ((AV.tup [(boolA r.1), (intA r.2)])) u m → R u m) (k : Nat) (x : Int) (hx : iterO (fun y : Int => S48_0 n a0 a1 c4 c5 c13 c14 y) k x = some t) {s : St} (hw : Weak KK 64 0 s (h48_0 (lstA TP.E a0) (lstA TP.E a1) c4 c5 (lstA (lstE TP.E) c13) c14 x [])) : Tri Tryz.prog KK 64 0 (.loop c48_0) s (q48_0 R ) :=
  L48_0 R  (σ := Nat × (Int)) (fun z => iterO (fun y : Int => S48_0 n a0 a1 c4 c5 c13 c14 y) z.1 z.2 = some t) (fun z => (lstA TP.E a0)) (fun z => (lstA TP.E a1)) (fun z => c4) (fun z => c5) (fun z => (lstA (lstE TP.E) c13)) (fun z => c14) (fun z => z.2) (fun z => []) (fun z => z.1) (by
    rintro ⟨k, y⟩ h
    cases k with
    | zero => exact (iterO_zero h).elim
    | succ k =>
      obtain ⟨u, h1, h2, h3⟩ := iterO_elim h
      exact B48_0_ok n a0 a1 c4 c5 c13 c14 y R  _ (fun r e => hR r (h3 _ e).symm)  (fun y' e s' hw => ⟨(k, y'), h2 _ e, Nat.lt_succ_self k, hw⟩) h1) (k, x) hx hw
theorem g48_ok (n : Nat) (a0 : List TP) (a1 : List TP) {t : ρ48} (R : AV → Mem → Prop) (hR : ∀ r : ρ48, t = r → ∀ u m, Ans ((AV.tup [(boolA r.1), (intA r.2)])) u m → R u m) : g48 n a0 a1 = some t → F48 (lstA TP.E a0) (lstA TP.E a1) R := by
  unfold g48 F48
  refine imp (opN_of (show _ = some ((blkV (lstE TP.E) 4 ([a0, a1] : List (List TP))), [(4, some ⟨encs (lstE TP.E) ([a0, a1] : List (List TP)), 77⟩)]) from rfl)) ?_
  refine imp (opP_of (show _ = some ((intA (([a0, a1] : List (List TP)).length : Int)), []) from len_blk)) ?_
  refine imp ex_i64_b ?_
  exact fun hg => L48_0_ok n a0 a1 false (0) ([a0, a1] : List (List TP)) (([a0, a1] : List (List TP)).length : Int) R  hR n _ hg (weak_mem [] rfl rfl rfl (okW_cons (ent_lst (E := TP.E) _ false) (okW_cons (ent_lst (E := TP.E) _ false) (okW_cons (.inl (leV_refl _)) (okW_cons (.inl (leV_refl _)) (okW_cons (ent_blk_frz (E := (lstE TP.E)) (ty := 77) (l' := ([a0, a1] : List (List TP))) rfl (by first | rfl | (simp (disch := first | decide | assumption) only [mpushs_nil, mpushs_cons, mget_hd, mget_tl, mget_appW_o, mget_appW_n, mget_appW_e])) rfl) (okW_cons (.inl (leV_refl _)) (okW_cons (.inl (leV_refl _)) okW_nil))))))) okB_nil')
theorem sg48 {n : Nat} {a0 : List TP} {a1 : List TP} {t : ρ48} (h : g48 n a0 a1 = some t) : Says Tryz.prog KK.gl 48 [(lstA TP.E a0), (lstA TP.E a1)] ((AV.tup [(boolA t.1), (intA t.2)])) :=
  says_of_own (by first | rfl | simp [cleans, clean, encs_clean, En.cln]) (by first | rfl | simp [cleans, clean, encs_clean, En.cln]) (F48_own (lstA TP.E a0) (lstA TP.E a1) _ (g48_ok n a0 a1 (Ans ((AV.tup [(boolA t.1), (intA t.2)]))) (fun r e u m h => by rw [e]; exact h) h))
/- skyway/volume.Overlap -/
theorem B38_0_ok (n : Nat) (c4 : Bool) (c5 : Int) (c13 : List TVolume) (c14 : Int) (k0_0 : List TP) (k0_1 : Int) (k0_2 : Int) (k1_0 : List TP) (k1_1 : Int) (k1_2 : Int) (v15 : Int) {t : (Int) ⊕ ρ38} (R : AV → Mem → Prop) (N0 : St → Prop) (hR : ∀ r : ρ38, t = (.inr r) → ∀ u m, Ans ((AV.tup [(boolA r.1), (intA r.2)])) u m → R u m) (hN0 : ∀ y : Int, t = (.inl y) → ∀ s' : St, Weak KK 52 0 s' (h38_0 c4 c5 (lstA TVolume.E c13) c14 y [(0, some ⟨[(lstA TP.E k0_0), (intA k0_1), (intA k0_2)], 79⟩), (1, some ⟨[(lstA TP.E k1_0), (intA k1_1), (intA k1_2)], 79⟩)]) → N0 s') : S38_0 n c4 c5 c13 c14 k0_0 k0_1 k0_2 k1_0 k1_1 k1_2 v15 = some t → B38_0 c4 c5 (lstA TVolume.E c13) c14 v15 [(0, some ⟨[(lstA TP.E k0_0), (intA k0_1), (intA k0_2)], 79⟩), (1, some ⟨[(lstA TP.E k1_0), (intA k1_1), (intA k1_2)], 79⟩)] R N0 := by
  unfold S38_0 B38_0
  refine cond_b (fun _ => ?_) (fun _ => ?_)
  · refine bind_b fun x97 h97 => ?_
    refine imp (opP_of (show _ = some ((AV.ept [(lstA TP.E x97.Area), (intA x97.Low), (intA x97.High)] 0), []) from (idx_lst (E := TVolume.E) rfl h97))) ?_
    refine imp (opP_of (show _ = some ((AV.agg [(lstA TP.E x97.Area), (intA x97.Low), (intA x97.High)]), []) from rfl)) ?_
    refine imp exA3_b ?_
    refine imp ex_i64_b ?_
    refine imp ex_i64_b ?_
    refine imp (chk_of rfl) ?_
    refine bind_b fun x98 h98 => ?_
    refine imp (callQ_says (sg35 h98)) ?_
    refine imp ex_i64_b ?_
    refine cond_b (fun _ => ?_) (fun _ => ?_)
    · exact fun hg => retN rfl (hR _ (Option.some.inj hg).symm) (fzL_cons (fz_sc _ _) (fzL_cons (fz_sc _ _) fzL_nil))
    · exact fun hg => hN0 _ (Option.some.inj hg).symm _ (weak_mem [(0, 0), (1, 1)] rfl rfl rfl (okW_cons (.inl (leV_refl _)) (okW_cons (.inl (leV_refl _)) (okW_cons (.inl (leV_refl _)) (okW_cons (.inl (leV_refl _)) (okW_cons (ent_lst (E := TVolume.E) _ false) (okW_cons (.inl (leV_refl _)) (okW_cons (.inl (leV_refl _)) okW_nil))))))) (okB_cons (okB_cells (cs := [(lstA TP.E k0_0), (intA k0_1), (intA k0_2)]) (ty := 79) (by simp [clean, cleans, encs_clean]) (show mget _ 0 = _ from (by first | rfl | (simp (disch := first | decide | assumption) only [mpushs_nil, mpushs_cons, mget_hd, mget_tl, mget_appW_o, mget_appW_n, mget_appW_e])))) (okB_cons (okB_cells (cs := [(lstA TP.E k1_0), (intA k1_1), (intA k1_2)]) (ty := 79) (by simp [clean, cleans, encs_clean]) (show mget _ 1 = _ from (by first | rfl | (simp (disch := first | decide | assumption) only [mpushs_nil, mpushs_cons, mget_hd, mget_tl, mget_appW_o, mget_appW_n, mget_appW_e])))) okB_nil')))
  · refine imp (opP_of (show _ = some ((lstA TP.E k0_0), []) from (ldS_ptr (b := ⟨[(lstA TP.E k0_0), (intA k0_1), (intA k0_2)], 79⟩) (by first | rfl | (simp (disch := first | decide | assumption) only [mpushs_nil, mpushs_cons, mget_hd, mget_tl, mget_appW_o, mget_appW_n, mget_appW_e])) rfl))) ?_
    refine imp (opP_of (show _ = some ((lstA TP.E k1_0), []) from (ldS_ptr (b := ⟨[(lstA TP.E k1_0), (intA k1_1), (intA k1_2)], 79⟩) (by first | rfl | (simp (disch := first | decide | assumption) only [mpushs_nil, mpushs_cons, mget_hd, mget_tl, mget_appW_o, mget_appW_n, mget_appW_e])) rfl))) ?_
    refine bind_b fun x137 h137 => ?_
    refine imp (callQ_says (sg48 h137)) ?_
    refine imp exT2_b ?_
    refine imp exB_b ?_
    refine imp ex_i64_b ?_
    refine cond_b (fun _ => ?_) (fun _ => ?_)
    · refine cond_b (fun _ => ?_) (fun _ => ?_)
      · refine imp (opP_of (show _ = some ((intA k0_1), []) from (ldS_ptr (b := ⟨[(lstA TP.E k0_0), (intA k0_1), (intA k0_2)], 79⟩) (by first | rfl | (simp (disch := first | decide | assumption) only [mpushs_nil, mpushs_cons, mget_hd, mget_tl, mget_appW_o, mget_appW_n, mget_appW_e])) rfl))) ?_
        refine imp ex_i64_b ?_
        refine imp (opP_of (show _ = some ((intA k1_1), []) from (ldS_ptr (b := ⟨[(lstA TP.E k1_0), (intA k1_1), (intA k1_2)], 79⟩) (by first | rfl | (simp (disch := first | decide | assumption) only [mpushs_nil, mpushs_cons, mget_hd, mget_tl, mget_appW_o, mget_appW_n, mget_appW_e])) rfl))) ?_
        refine imp ex_i64_b ?_
        refine imp (opP_of (show _ = some ((intA (if k1_1 > k0_1 then k1_1 else k0_1)), []) from (by kernel_rfl))) ?_
        refine imp ex_i64_b ?_
        refine imp (opP_of (show _ = some ((intA k0_2), []) from (ldS_ptr (b := ⟨[(lstA TP.E k0_0), (intA k0_1), (intA k0_2)], 79⟩) (by first | rfl | (simp (disch := first | decide | assumption) only [mpushs_nil, mpushs_cons, mget_hd, mget_tl, mget_appW_o, mget_appW_n, mget_appW_e])) rfl))) ?_
        refine imp ex_i64_b ?_
        refine imp (opP_of (show _ = some ((intA k1_2), []) from (ldS_ptr (b := ⟨[(lstA TP.E k1_0), (intA k1_1), (intA k1_2)], 79⟩) (by first | rfl | (simp (disch := first | decide | assumption) only [mpushs_nil, mpushs_cons, mget_hd, mget_tl, mget_appW_o, mget_appW_n, mget_appW_e])) rfl))) ?_
        refine imp ex_i64_b ?_
        refine imp (opP_of (show _ = some ((intA (if k1_2 < k0_2 then k1_2 else k0_2)), []) from (by kernel_rfl))) ?_
        refine imp ex_i64_b ?_
        exact fun hg => retN rfl (hR _ (Option.some.inj hg).symm) (fzL_cons (fz_sc _ _) (fzL_cons (fz_sc _ _) fzL_nil))
      · exact fun hg => retN rfl (hR _ (Option.some.inj hg).symm) (fzL_cons (fz_sc _ _) (fzL_cons (fz_sc _ _) fzL_nil))
    · exact fun hg => retN rfl (hR _ (Option.some.inj hg).symm) (fzL_cons (fz_sc _ _) (fzL_cons (fz_sc _ _) fzL_nil))
theorem L38_0_ok (n : Nat) (c4 : Bool) (c5 : Int) (c13 : List TVolume) (c14 : Int) (k0_0 : List TP) (k0_1 : Int) (k0_2 : Int) (k1_0 : List TP) (k1_1 : Int) (k1_2 : Int) {t : ρ38} (R : AV → Mem → Prop) (hR : ∀ r : ρ38, t = r → ∀ u m, Ans ((AV.tup [(boolA r.1), (intA r.2)])) u m → R u m) (k : Nat) (x : Int) (hx : iterO (fun y : Int => S38_0 n c4 c5 c13 c14 k0_0 k0_1 k0_2 k1_0 k1_1 k1_2 y) k x = some t) {s : St} (hw : Weak KK 52 0 s (h38_0 c4 c5 (lstA TVolume.E c13) c14 x [(0, some ⟨[(lstA TP.E k0_0), (intA k0_1), (intA k0_2)], 79⟩), (1, some ⟨[(lstA TP.E k1_0), (intA k1_1), (intA k1_2)], 79⟩)])) : Tri Tryz.prog KK 52 0 (.loop c38_0) s (q38_0 R ) :=
  L38_0 R  (σ := Nat × (Int)) (fun z => iterO (fun y : Int => S38_0 n c4 c5 c13 c14 k0_0 k0_1 k0_2 k1_0 k1_1 k1_2 y) z.1 z.2 = some t) (fun z => c4) (fun z => c5) (fun z => (lstA TVolume.E c13)) (fun z => c14) (fun z => z.2) (fun z => [(0, some ⟨[(lstA TP.E k0_0), (intA k0_1), (intA k0_2)], 79⟩), (1, some ⟨[(lstA TP.E k1_0), (intA k1_1), (intA k1_2)], 79⟩)]) (fun z => z.1) (by
    rintro ⟨k, y⟩ h
    cases k with
    | zero => exact (iterO_zero h).elim
    | succ k =>
      obtain ⟨u, h1, h2, h3⟩ := iterO_elim h
      exact B38_0_ok n c4 c5 c13 c14 k0_0 k0_1 k0_2 k1_0 k1_1 k1_2 y R  _ (fun r e => hR r (h3 _ e).symm)  (fun y' e s' hw => ⟨(k, y'), h2 _ e, Nat.lt_succ_self k, hw⟩) h1) (k, x) hx hw
theorem g38_ok (n : Nat) (a0 : TVolume) (a1 : TVolume) {t : ρ38} (R : AV → Mem → Prop) (hR : ∀ r : ρ38, t = r → ∀ u m, Ans ((AV.tup [(boolA r.1), (intA r.2)])) u m → R u m) : g38 n a0 a1 = some t → F38 (lstA TP.E a0.Area) a0.Low a0.High (lstA TP.E a1.Area) a1.Low a1.High R := by
  unfold g38 F38
  refine imp (chk_of rfl) ?_
  refine imp (chk_of rfl) ?_
  refine imp (opN_of (show _ = some ((blkV TVolume.E 6 ([a0, a1] : List TVolume)), [(6, some ⟨encs TVolume.E ([a0, a1] : List TVolume), 79⟩)]) from rfl)) ?_
  refine imp (opP_of (show _ = some ((intA (([a0, a1] : List TVolume).length : Int)), []) from len_blk)) ?_
  refine imp ex_i64_b ?_
  exact fun hg => L38_0_ok n false (0) ([a0, a1] : List TVolume) (([a0, a1] : List TVolume).length : Int) a0.Area a0.Low a0.High a1.Area a1.Low a1.High R  hR n _ hg (weak_mem [(0, 0), (1, 1)] rfl rfl rfl (okW_cons (.inl (leV_refl _)) (okW_cons (.inl (leV_refl _)) (okW_cons (.inl (leV_refl _)) (okW_cons (.inl (leV_refl _)) (okW_cons (ent_blk_frz (E := TVolume.E) (ty := 79) (l' := ([a0, a1] : List TVolume)) rfl (by first | rfl | (simp (disch := first | decide | assumption) only [mpushs_nil, mpushs_cons, mget_hd, mget_tl, mget_appW_o, mget_appW_n, mget_appW_e])) rfl) (okW_cons (.inl (leV_refl _)) (okW_cons (.inl (leV_refl _)) okW_nil))))))) (okB_cons (okB_cells (cs := [(lstA TP.E a0.Area), (intA a0.Low), (intA a0.High)]) (ty := 79) (by simp [clean, cleans, encs_clean]) (show mget _ 0 = _ from (by first | rfl | (simp (disch := first | decide | assumption) only [mpushs_nil, mpushs_cons, mget_hd, mget_tl, mget_appW_o, mget_appW_n, mget_appW_e])))) (okB_cons (okB_cells (cs := [(lstA TP.E a1.Area), (intA a1.Low), (intA a1.High)]) (ty := 79) (by simp [clean, cleans, encs_clean]) (show mget _ 1 = _ from (by first | rfl | (simp (disch := first | decide | assumption) only [mpushs_nil, mpushs_cons, mget_hd, mget_tl, mget_appW_o, mget_appW_n, mget_appW_e])))) okB_nil')))
theorem sg38 {n : Nat} {a0 : TVolume} {a1 : TVolume} {t : ρ38} (h : g38 n a0 a1 = some t) : Says Tryz.prog KK.gl 38 [(AV.agg [(lstA TP.E a0.Area), (intA a0.Low), (intA a0.High)]), (AV.agg [(lstA TP.E a1.Area), (intA a1.Low), (intA a1.High)])] ((AV.tup [(boolA t.1), (intA t.2)])) :=
  says_of_own (by first | rfl | simp [cleans, clean, encs_clean, En.cln]) (by first | rfl | simp [cleans, clean, encs_clean, En.cln]) (F38_own (lstA TP.E a0.Area) a0.Low a0.High (lstA TP.E a1.Area) a1.Low a1.High _ (g38_ok n a0 a1 (Ans ((AV.tup [(boolA t.1), (intA t.2)]))) (fun r e u m h => by rw [e]; exact h) h))
end Go.Proofs.YtldiackagnjlgaaGreat
