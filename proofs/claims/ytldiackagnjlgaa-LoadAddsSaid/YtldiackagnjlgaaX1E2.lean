/- Plain functional programs out of the program's functions, with proofs that the functions compute them; printed by wip/Ext.lean.txt. -/
import Derived.Test.YtldiackagnjlgaaX1E1
set_option linter.unusedVariables false
set_option linter.unusedSimpArgs false
set_option maxRecDepth 100000
set_option maxHeartbeats 4000000
namespace Go.Proofs.Ytldiackagnjlgaa
/- skyway/polygon.crosses -/
theorem g80_ok (n : Nat) (a0 : TP) (a1 : TP) (a2 : TP) (a3 : TP) {t : ρ80} (R : AV → Mem → Prop) (hR : ∀ r : ρ80, t = r → ∀ u m, Ans ((boolA r)) u m → R u m) : g80 n a0 a1 a2 a3 = some t → F80 a0.X a0.Y a1.X a1.Y a2.X a2.Y a3.X a3.Y R := by
  unfold g80 F80
  refine bind_b fun x71 h71 => ?_
  refine imp (callQ_says (sg71 h71)) ?_
  refine imp ex_i64_b ?_
  refine bind_b fun x72 h72 => ?_
  refine imp (callQ_says (sg71 h72)) ?_
  refine imp ex_i64_b ?_
  refine cond_b (fun _ => ?_) (fun _ => ?_)
  · refine bind_b fun x73 h73 => ?_
    refine imp (callQ_says (sg71 h73)) ?_
    refine imp ex_i64_b ?_
    refine bind_b fun x74 h74 => ?_
    refine imp (callQ_says (sg71 h74)) ?_
    refine imp ex_i64_b ?_
    exact fun hg => ret1 (hR _ (Option.some.inj hg).symm) (fz_sc _ _)
  · exact fun hg => ret1 (hR _ (Option.some.inj hg).symm) (fz_sc _ _)
theorem sg80 {n : Nat} {a0 : TP} {a1 : TP} {a2 : TP} {a3 : TP} {t : ρ80} (h : g80 n a0 a1 a2 a3 = some t) : Says Try.prog KK.gl 80 [(AV.agg [(intA a0.X), (intA a0.Y)]), (AV.agg [(intA a1.X), (intA a1.Y)]), (AV.agg [(intA a2.X), (intA a2.Y)]), (AV.agg [(intA a3.X), (intA a3.Y)])] ((boolA t)) :=
  says_of_own (by first | rfl | simp [cleans, clean, encs_clean, En.cln]) (by first | rfl | simp [cleans, clean, encs_clean, En.cln]) (F80_own a0.X a0.Y a1.X a1.Y a2.X a2.Y a3.X a3.Y _ (g80_ok n a0 a1 a2 a3 (Ans ((boolA t))) (fun r e u m h => by rw [e]; exact h) h))
/- skyway/polygon.Common -/
theorem g73_ok (n : Nat) (a0 : TP) (a1 : TP) (a2 : TP) (a3 : TP) {t : ρ73} (R : AV → Mem → Prop) (hR : ∀ r : ρ73, t = r → ∀ u m, Ans ((boolA r)) u m → R u m) : g73 n a0 a1 a2 a3 = some t → F73 a0.X a0.Y a1.X a1.Y a2.X a2.Y a3.X a3.Y R := by
  unfold g73 F73
  refine bind_b fun x75 h75 => ?_
  refine imp (callQ_says (sg80 h75)) ?_
  refine imp exB_b ?_
  refine cond_b (fun _ => ?_) (fun _ => ?_)
  · exact fun hg => ret1 (hR _ (Option.some.inj hg).symm) (fz_sc _ _)
  · refine bind_b fun x76 h76 => ?_
    refine imp (callQ_says (sg84 h76)) ?_
    refine imp exB_b ?_
    refine cond_b (fun _ => ?_) (fun _ => ?_)
    · exact fun hg => ret1 (hR _ (Option.some.inj hg).symm) (fz_sc _ _)
    · refine bind_b fun x77 h77 => ?_
      refine imp (callQ_says (sg84 h77)) ?_
      refine imp exB_b ?_
      refine cond_b (fun _ => ?_) (fun _ => ?_)
      · exact fun hg => ret1 (hR _ (Option.some.inj hg).symm) (fz_sc _ _)
      · refine bind_b fun x78 h78 => ?_
        refine imp (callQ_says (sg84 h78)) ?_
        refine imp exB_b ?_
        refine cond_b (fun _ => ?_) (fun _ => ?_)
        · exact fun hg => ret1 (hR _ (Option.some.inj hg).symm) (fz_sc _ _)
        · refine bind_b fun x79 h79 => ?_
          refine imp (callQ_says (sg84 h79)) ?_
          refine imp exB_b ?_
          exact fun hg => ret1 (hR _ (Option.some.inj hg).symm) (fz_sc _ _)
theorem sg73 {n : Nat} {a0 : TP} {a1 : TP} {a2 : TP} {a3 : TP} {t : ρ73} (h : g73 n a0 a1 a2 a3 = some t) : Says Try.prog KK.gl 73 [(AV.agg [(intA a0.X), (intA a0.Y)]), (AV.agg [(intA a1.X), (intA a1.Y)]), (AV.agg [(intA a2.X), (intA a2.Y)]), (AV.agg [(intA a3.X), (intA a3.Y)])] ((boolA t)) :=
  says_of_own (by first | rfl | simp [cleans, clean, encs_clean, En.cln]) (by first | rfl | simp [cleans, clean, encs_clean, En.cln]) (F73_own a0.X a0.Y a1.X a1.Y a2.X a2.Y a3.X a3.Y _ (g73_ok n a0 a1 a2 a3 (Ans ((boolA t))) (fun r e u m h => by rw [e]; exact h) h))
/- skyway/polygon.twice -/
theorem B53_0_ok (n : Nat) (a0 : List TP) (c2 : Int) (c6 : Int) (v3 : Int) (v7 : Int) {t : (Int × Int) ⊕ ρ53} (R : AV → Mem → Prop) (N0 : St → Prop) (hR : ∀ r : ρ53, t = (.inr r) → ∀ u m, Ans ((intA r)) u m → R u m) (hN0 : ∀ y : Int × Int, t = (.inl y) → ∀ s' : St, Weak KK 22 0 s' (h53_0 (lstA TP.E a0) c2 y.1 c6 y.2 []) → N0 s') : S53_0 n a0 c2 c6 v3 v7 = some t → B53_0 (lstA TP.E a0) c2 v3 c6 v7 [] R N0 := by
  unfold S53_0 B53_0
  refine cond_b (fun _ => ?_) (fun _ => ?_)
  · refine bind_b fun x81 h81 => ?_
    refine imp (opP_of (show _ = some ((AV.ept [(intA x81.X), (intA x81.Y)] 0), []) from (idx_lst (E := TP.E) rfl h81))) ?_
    refine imp (opP_of (show _ = some ((AV.agg [(intA x81.X), (intA x81.Y)]), []) from rfl)) ?_
    refine imp exA2_b ?_
    refine imp ex_i64_b ?_
    refine imp ex_i64_b ?_
    refine bind_b fun x82 h82 => ?_
    refine imp (callQ_says (sg72 h82)) ?_
    refine imp exA2_b ?_
    refine imp ex_i64_b ?_
    refine imp ex_i64_b ?_
    refine bind_b fun x83 h83 => ?_
    refine imp (callQ_says (sg74 h83)) ?_
    refine imp ex_i64_b ?_
    exact fun hg => hN0 _ (Option.some.inj hg).symm _ (weak_mem [] rfl rfl rfl (okW_cons (ent_lst (E := TP.E) _ false) (okW_cons (.inl (leV_refl _)) (okW_cons (.inl (leV_refl _)) (okW_cons (.inl (leV_refl _)) (okW_cons (.inl (leV_refl _)) okW_nil))))) okB_nil')
  · exact fun hg => ret1 (hR _ (Option.some.inj hg).symm) (fz_sc _ _)
theorem L53_0_ok (n : Nat) (a0 : List TP) (c2 : Int) (c6 : Int) {t : ρ53} (R : AV → Mem → Prop) (hR : ∀ r : ρ53, t = r → ∀ u m, Ans ((intA r)) u m → R u m) (k : Nat) (x : Int × Int) (hx : iterO (fun y : Int × Int => S53_0 n a0 c2 c6 y.1 y.2) k x = some t) {s : St} (hw : Weak KK 22 0 s (h53_0 (lstA TP.E a0) c2 x.1 c6 x.2 [])) : Tri Try.prog KK 22 0 (.loop c53_0) s (q53_0 R ) :=
  L53_0 R  (σ := Nat × (Int × Int)) (fun z => iterO (fun y : Int × Int => S53_0 n a0 c2 c6 y.1 y.2) z.1 z.2 = some t) (fun z => (lstA TP.E a0)) (fun z => c2) (fun z => z.2.1) (fun z => c6) (fun z => z.2.2) (fun z => []) (fun z => z.1) (by
    rintro ⟨k, y⟩ h
    cases k with
    | zero => exact (iterO_zero h).elim
    | succ k =>
      obtain ⟨u, h1, h2, h3⟩ := iterO_elim h
      exact B53_0_ok n a0 c2 c6 y.1 y.2 R  _ (fun r e => hR r (h3 _ e).symm)  (fun y' e s' hw => ⟨(k, y'), h2 _ e, Nat.lt_succ_self k, hw⟩) h1) (k, x) hx hw
theorem g53_ok (n : Nat) (a0 : List TP) {t : ρ53} (R : AV → Mem → Prop) (hR : ∀ r : ρ53, t = r → ∀ u m, Ans ((intA r)) u m → R u m) : g53 n a0 = some t → F53 (lstA TP.E a0) R := by
  unfold g53 F53
  refine imp (opP_of (show _ = some ((intA (a0.length : Int)), []) from rfl)) ?_
  refine imp ex_i64_b ?_
  exact fun hg => L53_0_ok n a0 (0) (a0.length : Int) R  hR n _ hg (weak_mem [] rfl rfl rfl (okW_cons (ent_lst (E := TP.E) _ false) (okW_cons (.inl (leV_refl _)) (okW_cons (.inl (leV_refl _)) (okW_cons (.inl (leV_refl _)) (okW_cons (.inl (leV_refl _)) okW_nil))))) okB_nil')
theorem sg53 {n : Nat} {a0 : List TP} {t : ρ53} (h : g53 n a0 = some t) : Says Try.prog KK.gl 53 [(lstA TP.E a0)] ((intA t)) :=
  says_of_own (by first | rfl | simp [cleans, clean, encs_clean, En.cln]) (by first | rfl | simp [cleans, clean, encs_clean, En.cln]) (F53_own (lstA TP.E a0) _ (g53_ok n a0 (Ans ((intA t))) (fun r e u m h => by rw [e]; exact h) h))
/- skyway/polygon.Check -/
theorem B52_1_0_ok (n : Nat) (a0 : List TP) (c2 : Int) (c3 : Int) (v31 : Int) (c30 : Int) (w8 : Int) {t : (Int) ⊕ ((Int) ⊕ ρ52)} (R : AV → Mem → Prop) (N0 : St → Prop) (N1 : St → Prop) (hR : ∀ r : ρ52, t = (.inr (.inr r)) → ∀ u m, Ans ((intA r)) u m → R u m) (hN0 : ∀ y : Int, t = (.inr (.inl y)) → ∀ s' : St, Weak KK 84 0 s' (h52_1 (lstA TP.E a0) c2 c3 c30 y []) → N0 s') (hN1 : ∀ y : Int, t = (.inl y) → ∀ s' : St, Weak KK 84 0 s' (h52_1_0 (lstA TP.E a0) c2 c3 v31 y c30 v31 []) → N1 s') : S52_1_0 n a0 c2 c3 v31 c30 w8 = some t → B52_1_0 (lstA TP.E a0) c2 c3 v31 w8 c30 v31 [] R N0 N1 := by
  unfold S52_1_0 B52_1_0
  refine cond_b (fun _ => ?_) (fun _ => ?_)
  · refine bind_b fun x66 h66 => ?_
    refine imp (opP_of (show _ = some ((intA x66), []) from (opA_rem h66))) ?_
    refine imp ex_i64_b ?_
    refine cond_b (fun _ => ?_) (fun _ => ?_)
    · refine bind_b fun x67 h67 => ?_
      refine imp (opP_of (show _ = some ((AV.ept [(intA x67.X), (intA x67.Y)] 0), []) from (idx_lst (E := TP.E) rfl h67))) ?_
      refine imp (opP_of (show _ = some ((AV.agg [(intA x67.X), (intA x67.Y)]), []) from rfl)) ?_
      refine imp exA2_b ?_
      refine imp ex_i64_b ?_
      refine imp ex_i64_b ?_
      refine bind_b fun x68 h68 => ?_
      refine imp (callQ_says (sg72 h68)) ?_
      refine imp exA2_b ?_
      refine imp ex_i64_b ?_
      refine imp ex_i64_b ?_
      refine bind_b fun x69 h69 => ?_
      refine imp (opP_of (show _ = some ((AV.ept [(intA x69.X), (intA x69.Y)] 0), []) from (idx_lst (E := TP.E) rfl h69))) ?_
      refine imp (opP_of (show _ = some ((AV.agg [(intA x69.X), (intA x69.Y)]), []) from rfl)) ?_
      refine imp exA2_b ?_
      refine imp ex_i64_b ?_
      refine imp ex_i64_b ?_
      refine bind_b fun x70 h70 => ?_
      refine imp (callQ_says (sg72 h70)) ?_
      refine imp exA2_b ?_
      refine imp ex_i64_b ?_
      refine imp ex_i64_b ?_
      refine bind_b fun x80 h80 => ?_
      refine imp (callQ_says (sg73 h80)) ?_
      refine imp exB_b ?_
      refine cond_b (fun _ => ?_) (fun _ => ?_)
      · exact fun hg => ret1 (hR _ (Option.some.inj hg).symm) (fz_sc _ _)
      · exact fun hg => hN1 _ (Option.some.inj hg).symm _ (weak_mem [] rfl rfl rfl (okW_cons (ent_lst (E := TP.E) _ false) (okW_cons (.inl (leV_refl _)) (okW_cons (.inl (leV_refl _)) (okW_cons (.inl (leV_refl _)) (okW_cons (.inl (leV_refl _)) (okW_cons (.inl (leV_refl _)) (okW_cons (.inl (leV_refl _)) okW_nil))))))) okB_nil')
    · exact fun hg => hN1 _ (Option.some.inj hg).symm _ (weak_mem [] rfl rfl rfl (okW_cons (ent_lst (E := TP.E) _ false) (okW_cons (.inl (leV_refl _)) (okW_cons (.inl (leV_refl _)) (okW_cons (.inl (leV_refl _)) (okW_cons (.inl (leV_refl _)) (okW_cons (.inl (leV_refl _)) (okW_cons (.inl (leV_refl _)) okW_nil))))))) okB_nil')
  · exact fun hg => hN0 _ (Option.some.inj hg).symm _ (weak_mem [] rfl rfl rfl (okW_cons (ent_lst (E := TP.E) _ false) (okW_cons (.inl (leV_refl _)) (okW_cons (.inl (leV_refl _)) (okW_cons (.inl (leV_refl _)) (okW_cons (.inl (leV_refl _)) okW_nil))))) okB_nil')
theorem L52_1_0_ok (n : Nat) (a0 : List TP) (c2 : Int) (c3 : Int) (v31 : Int) (c30 : Int) {t : ((Int) ⊕ ρ52)} (R : AV → Mem → Prop) (N0 : St → Prop) (hR : ∀ r : ρ52, t = (.inr r) → ∀ u m, Ans ((intA r)) u m → R u m) (hN0 : ∀ y : Int, t = (.inl y) → ∀ s' : St, Weak KK 84 0 s' (h52_1 (lstA TP.E a0) c2 c3 c30 y []) → N0 s') (k : Nat) (x : Int) (hx : iterO (fun y : Int => S52_1_0 n a0 c2 c3 v31 c30 y) k x = some t) {s : St} (hw : Weak KK 84 0 s (h52_1_0 (lstA TP.E a0) c2 c3 v31 x c30 v31 [])) : Tri Try.prog KK 84 0 (.loop c52_1_0) s (q52_1_0 R N0) :=
  L52_1_0 R N0 (σ := Nat × (Int)) (fun z => iterO (fun y : Int => S52_1_0 n a0 c2 c3 v31 c30 y) z.1 z.2 = some t) (fun z => (lstA TP.E a0)) (fun z => c2) (fun z => c3) (fun z => v31) (fun z => z.2) (fun z => c30) (fun z => v31) (fun z => []) (fun z => z.1) (by
    rintro ⟨k, y⟩ h
    cases k with
    | zero => exact (iterO_zero h).elim
    | succ k =>
      obtain ⟨u, h1, h2, h3⟩ := iterO_elim h
      exact B52_1_0_ok n a0 c2 c3 v31 c30 y R N0 _ (fun r e => hR r (h3 _ e).symm) (fun y' e => hN0 y' (h3 _ e).symm) (fun y' e s' hw => ⟨(k, y'), h2 _ e, Nat.lt_succ_self k, hw⟩) h1) (k, x) hx hw
theorem B52_1_ok (n : Nat) (a0 : List TP) (c2 : Int) (c3 : Int) (c30 : Int) (v31 : Int) {t : (Int) ⊕ ρ52} (R : AV → Mem → Prop) (N0 : St → Prop) (hR : ∀ r : ρ52, t = (.inr r) → ∀ u m, Ans ((intA r)) u m → R u m) (hN0 : ∀ y : Int, t = (.inl y) → ∀ s' : St, Weak KK 84 0 s' (h52_1 (lstA TP.E a0) c2 c3 c30 y []) → N0 s') : S52_1 n a0 c2 c3 c30 v31 = some t → B52_1 (lstA TP.E a0) c2 c3 c30 v31 [] R N0 := by
  unfold S52_1 B52_1
  refine cond_b (fun _ => ?_) (fun _ => ?_)
  · refine bind_b fun x61 h61 => ?_
    refine imp (opP_of (show _ = some ((AV.ept [(intA x61.X), (intA x61.Y)] 0), []) from (idx_lst (E := TP.E) rfl h61))) ?_
    refine imp (opP_of (show _ = some ((AV.agg [(intA x61.X), (intA x61.Y)]), []) from rfl)) ?_
    refine imp exA2_b ?_
    refine imp ex_i64_b ?_
    refine imp ex_i64_b ?_
    refine bind_b fun x62 h62 => ?_
    refine imp (callQ_says (sg72 h62)) ?_
    refine imp exA2_b ?_
    refine imp ex_i64_b ?_
    refine imp ex_i64_b ?_
    refine bind_b fun x63 h63 => ?_
    refine imp (opP_of (show _ = some ((intA x63), []) from (opA_rem h63))) ?_
    refine imp ex_i64_b ?_
    refine bind_b fun x64 h64 => ?_
    refine imp (opP_of (show _ = some ((AV.ept [(intA x64.X), (intA x64.Y)] 0), []) from (idx_lst (E := TP.E) rfl h64))) ?_
    refine imp (opP_of (show _ = some ((AV.agg [(intA x64.X), (intA x64.Y)]), []) from rfl)) ?_
    refine imp exA2_b ?_
    refine imp ex_i64_b ?_
    refine imp ex_i64_b ?_
    refine bind_b fun x65 h65 => ?_
    refine imp (callQ_says (sg71 h65)) ?_
    refine imp ex_i64_b ?_
    refine cond_b (fun _ => ?_) (fun _ => ?_)
    · exact fun hg => ret1 (hR _ (Option.some.inj hg).symm) (fz_sc _ _)
    · exact fun hg => L52_1_0_ok n a0 c2 c3 v31 c30 R N0 hR hN0 n _ hg (weak_mem [] rfl rfl rfl (okW_cons (ent_lst (E := TP.E) _ false) (okW_cons (.inl (leV_refl _)) (okW_cons (.inl (leV_refl _)) (okW_cons (.inl (leV_refl _)) (okW_cons (.inl (leV_refl _)) (okW_cons (.inl (leV_refl _)) (okW_cons (.inl (leV_refl _)) okW_nil))))))) okB_nil')
  · refine bind_b fun x84 h84 => ?_
    refine imp (callQ_says (sg53 h84)) ?_
    refine imp ex_i64_b ?_
    refine cond_b (fun _ => ?_) (fun _ => ?_)
    · exact fun hg => ret1 (hR _ (Option.some.inj hg).symm) (fz_sc _ _)
    · exact fun hg => ret1 (hR _ (Option.some.inj hg).symm) (fz_sc _ _)
theorem L52_1_ok (n : Nat) (a0 : List TP) (c2 : Int) (c3 : Int) (c30 : Int) {t : ρ52} (R : AV → Mem → Prop) (hR : ∀ r : ρ52, t = r → ∀ u m, Ans ((intA r)) u m → R u m) (k : Nat) (x : Int) (hx : iterO (fun y : Int => S52_1 n a0 c2 c3 c30 y) k x = some t) {s : St} (hw : Weak KK 84 0 s (h52_1 (lstA TP.E a0) c2 c3 c30 x [])) : Tri Try.prog KK 84 0 (.loop c52_1) s (q52_1 R ) :=
  L52_1 R  (σ := Nat × (Int)) (fun z => iterO (fun y : Int => S52_1 n a0 c2 c3 c30 y) z.1 z.2 = some t) (fun z => (lstA TP.E a0)) (fun z => c2) (fun z => c3) (fun z => c30) (fun z => z.2) (fun z => []) (fun z => z.1) (by
    rintro ⟨k, y⟩ h
    cases k with
    | zero => exact (iterO_zero h).elim
    | succ k =>
      obtain ⟨u, h1, h2, h3⟩ := iterO_elim h
      exact B52_1_ok n a0 c2 c3 c30 y R  _ (fun r e => hR r (h3 _ e).symm)  (fun y' e s' hw => ⟨(k, y'), h2 _ e, Nat.lt_succ_self k, hw⟩) h1) (k, x) hx hw
theorem B52_0_ok (n : Nat) (a0 : List TP) (c2 : Int) (c3 : Int) (v19 : Int) {t : (Int) ⊕ ρ52} (R : AV → Mem → Prop) (N0 : St → Prop) (hR : ∀ r : ρ52, t = (.inr r) → ∀ u m, Ans ((intA r)) u m → R u m) (hN0 : ∀ y : Int, t = (.inl y) → ∀ s' : St, Weak KK 84 0 s' (h52_0 (lstA TP.E a0) c2 c3 (lstA TP.E a0) c3 y []) → N0 s') : S52_0 n a0 c2 c3 v19 = some t → B52_0 (lstA TP.E a0) c2 c3 (lstA TP.E a0) c3 v19 [] R N0 := by
  unfold S52_0 B52_0
  refine cond_b (fun _ => ?_) (fun _ => ?_)
  · refine bind_b fun x59 h59 => ?_
    refine imp (opP_of (show _ = some ((AV.ept [(intA x59.X), (intA x59.Y)] 0), []) from (idx_lst (E := TP.E) rfl h59))) ?_
    refine imp (opP_of (show _ = some ((AV.agg [(intA x59.X), (intA x59.Y)]), []) from rfl)) ?_
    refine imp exA2_b ?_
    refine imp ex_i64_b ?_
    refine imp ex_i64_b ?_
    refine bind_b fun x60 h60 => ?_
    refine imp (callQ_says (sg31 h60)) ?_
    refine imp ex_i64_b ?_
    refine cond_b (fun _ => ?_) (fun _ => ?_)
    · exact fun hg => ret1 (hR _ (Option.some.inj hg).symm) (fz_sc _ _)
    · exact fun hg => hN0 _ (Option.some.inj hg).symm _ (weak_mem [] rfl rfl rfl (okW_cons (ent_lst (E := TP.E) _ false) (okW_cons (.inl (leV_refl _)) (okW_cons (.inl (leV_refl _)) (okW_cons (ent_lst (E := TP.E) _ false) (okW_cons (.inl (leV_refl _)) (okW_cons (.inl (leV_refl _)) okW_nil)))))) okB_nil')
  · refine imp (opP_of (show _ = some ((intA (a0.length : Int)), []) from rfl)) ?_
    refine imp ex_i64_b ?_
    refine mapInr_b fun t0 e0 => ?_
    exact fun hg => L52_1_ok n a0 c2 c3 (a0.length : Int) R  (fun r e => hR r (e0.trans (congrArg Sum.inr e))) n _ hg (weak_mem [] rfl rfl rfl (okW_cons (ent_lst (E := TP.E) _ false) (okW_cons (.inl (leV_refl _)) (okW_cons (.inl (leV_refl _)) (okW_cons (.inl (leV_refl _)) (okW_cons (.inl (leV_refl _)) okW_nil))))) okB_nil')
theorem L52_0_ok (n : Nat) (a0 : List TP) (c2 : Int) (c3 : Int) {t : ρ52} (R : AV → Mem → Prop) (hR : ∀ r : ρ52, t = r → ∀ u m, Ans ((intA r)) u m → R u m) (k : Nat) (x : Int) (hx : iterO (fun y : Int => S52_0 n a0 c2 c3 y) k x = some t) {s : St} (hw : Weak KK 84 0 s (h52_0 (lstA TP.E a0) c2 c3 (lstA TP.E a0) c3 x [])) : Tri Try.prog KK 84 0 (.loop c52_0) s (q52_0 R ) :=
  L52_0 R  (σ := Nat × (Int)) (fun z => iterO (fun y : Int => S52_0 n a0 c2 c3 y) z.1 z.2 = some t) (fun z => (lstA TP.E a0)) (fun z => c2) (fun z => c3) (fun z => (lstA TP.E a0)) (fun z => c3) (fun z => z.2) (fun z => []) (fun z => z.1) (by
    rintro ⟨k, y⟩ h
    cases k with
    | zero => exact (iterO_zero h).elim
    | succ k =>
      obtain ⟨u, h1, h2, h3⟩ := iterO_elim h
      exact B52_0_ok n a0 c2 c3 y R  _ (fun r e => hR r (h3 _ e).symm)  (fun y' e s' hw => ⟨(k, y'), h2 _ e, Nat.lt_succ_self k, hw⟩) h1) (k, x) hx hw
theorem g52_ok (n : Nat) (a0 : List TP) {t : ρ52} (R : AV → Mem → Prop) (hR : ∀ r : ρ52, t = r → ∀ u m, Ans ((intA r)) u m → R u m) : g52 n a0 = some t → F52 (lstA TP.E a0) R := by
  unfold g52 F52
  refine imp (opP_of (show _ = some ((intA (a0.length : Int)), []) from rfl)) ?_
  refine imp ex_i64_b ?_
  refine cond_b (fun _ => ?_) (fun _ => ?_)
  · exact fun hg => ret1 (hR _ (Option.some.inj hg).symm) (fz_sc _ _)
  · refine cond_b (fun _ => ?_) (fun _ => ?_)
    · exact fun hg => ret1 (hR _ (Option.some.inj hg).symm) (fz_sc _ _)
    · refine imp (opP_of (show _ = some ((intA (a0.length : Int)), []) from rfl)) ?_
      refine imp ex_i64_b ?_
      exact fun hg => L52_0_ok n a0 (0) (a0.length : Int) R  hR n _ hg (weak_mem [] rfl rfl rfl (okW_cons (ent_lst (E := TP.E) _ false) (okW_cons (.inl (leV_refl _)) (okW_cons (.inl (leV_refl _)) (okW_cons (ent_lst (E := TP.E) _ false) (okW_cons (.inl (leV_refl _)) (okW_cons (.inl (leV_refl _)) okW_nil)))))) okB_nil')
theorem sg52 {n : Nat} {a0 : List TP} {t : ρ52} (h : g52 n a0 = some t) : Says Try.prog KK.gl 52 [(lstA TP.E a0)] ((intA t)) :=
  says_of_own (by first | rfl | simp [cleans, clean, encs_clean, En.cln]) (by first | rfl | simp [cleans, clean, encs_clean, En.cln]) (F52_own (lstA TP.E a0) _ (g52_ok n a0 (Ans ((intA t))) (fun r e u m h => by rw [e]; exact h) h))
/- skyway/volume.Check -/
theorem g46_ok (n : Nat) (a0 : TVolume) {t : ρ46} (R : AV → Mem → Prop) (hR : ∀ r : ρ46, t = r → ∀ u m, Ans ((intA r)) u m → R u m) : g46 n a0 = some t → F46 (lstA TP.E a0.Area) a0.Low a0.High R := by
  unfold g46 F46
  refine imp (chk_of rfl) ?_
  refine bind_b fun x85 h85 => ?_
  refine imp (callQ_says (sg52 h85)) ?_
  refine imp ex_i64_b ?_
  refine cond_b (fun _ => ?_) (fun _ => ?_)
  · exact fun hg => ret1 (hR _ (Option.some.inj hg).symm) (fz_sc _ _)
  · refine cond_b (fun _ => ?_) (fun _ => ?_)
    · exact fun hg => ret1 (hR _ (Option.some.inj hg).symm) (fz_sc _ _)
    · refine cond_b (fun _ => ?_) (fun _ => ?_)
      · exact fun hg => ret1 (hR _ (Option.some.inj hg).symm) (fz_sc _ _)
      · refine cond_b (fun _ => ?_) (fun _ => ?_)
        · exact fun hg => ret1 (hR _ (Option.some.inj hg).symm) (fz_sc _ _)
        · exact fun hg => ret1 (hR _ (Option.some.inj hg).symm) (fz_sc _ _)
theorem sg46 {n : Nat} {a0 : TVolume} {t : ρ46} (h : g46 n a0 = some t) : Says Try.prog KK.gl 46 [(AV.agg [(lstA TP.E a0.Area), (intA a0.Low), (intA a0.High)])] ((intA t)) :=
  says_of_own (by first | rfl | simp [cleans, clean, encs_clean, En.cln]) (by first | rfl | simp [cleans, clean, encs_clean, En.cln]) (F46_own (lstA TP.E a0.Area) a0.Low a0.High _ (g46_ok n a0 (Ans ((intA t))) (fun r e u m h => by rw [e]; exact h) h))
/- skyway/sector.Check$1 -/
theorem g48_ok (n : Nat) (a0 : TSector) (a1_0 : ByteArray) (a1_1 : List TVolume) {t : ρ48} (R : AV → Mem → Prop) (hR : ∀ r : ρ48, t = r → ∀ u m, Ans ((boolA r)) u m → R u m) : g48 n a0 a1_0 a1_1 = some t → F48 a0.Name (lstA TVolume.E a0.Room) (AV.ept [(strA a1_0), (lstA TVolume.E a1_1)] 0) R := by
  unfold g48 F48
  refine imp (chk_of rfl) ?_
  refine imp (opP_of (show _ = some ((AV.ept [(strA a1_0), (lstA TVolume.E a1_1)] 0), []) from rfl)) ?_
  refine imp (opP_of (show _ = some ((strA a1_0), []) from rfl)) ?_
  refine imp exStr_b ?_
  exact fun hg => ret1 (hR _ (Option.some.inj hg).symm) (fz_sc _ _)
theorem sg48 {n : Nat} {a0 : TSector} {a1_0 : ByteArray} {a1_1 : List TVolume} {t : ρ48} (h : g48 n a0 a1_0 a1_1 = some t) : Says Try.prog KK.gl 48 [(AV.agg [(strA a0.Name), (lstA TVolume.E a0.Room)]), (AV.ept [(strA a1_0), (lstA TVolume.E a1_1)] 0)] ((boolA t)) :=
  says_of_own (by first | rfl | simp [cleans, clean, encs_clean, En.cln]) (by first | rfl | simp [cleans, clean, encs_clean, En.cln]) (F48_own a0.Name (lstA TVolume.E a0.Room) (AV.ept [(strA a1_0), (lstA TVolume.E a1_1)] 0) _ (g48_ok n a0 a1_0 a1_1 (Ans ((boolA t))) (fun r e u m h => by rw [e]; exact h) h))
/- slices.IndexFunc[[]skyway/api.Sector,skyway/api.Sector] -/
theorem B54_0_x1_ok (n : Nat) (a0 : List TSector) (a1_0_0 : ByteArray) (a1_0_1 : List TVolume) (c4 : Int) (c7 : Int) (v8 : Int) {t : (Int) ⊕ ρ54} (R : AV → Mem → Prop) (N0 : St → Prop) (hR : ∀ r : ρ54, t = (.inr r) → ∀ u m, Ans ((intA r)) u m → R u m) (hN0 : ∀ y : Int, t = (.inl y) → ∀ s' : St, Weak KK 19 0 s' (h54_0 (lstA TSector.E a0) (AV.fn 48 [(AV.ept [(strA a1_0_0), (lstA TVolume.E a1_0_1)] 0)]) c4 c7 y []) → N0 s') : S54_0_x1 n a0 a1_0_0 a1_0_1 c4 c7 v8 = some t → B54_0 (lstA TSector.E a0) (AV.fn 48 [(AV.ept [(strA a1_0_0), (lstA TVolume.E a1_0_1)] 0)]) c4 c7 v8 [] R N0 := by
  unfold S54_0_x1 B54_0
  refine cond_b (fun _ => ?_) (fun _ => ?_)
  · refine bind_b fun x88 h88 => ?_
    refine imp (opP_of (show _ = some ((AV.ept [(strA x88.Name), (lstA TVolume.E x88.Room)] 0), []) from (idx_lst (E := TSector.E) rfl h88))) ?_
    refine imp (opP_of (show _ = some ((AV.agg [(strA x88.Name), (lstA TVolume.E x88.Room)]), []) from rfl)) ?_
    refine imp exA2_b ?_
    refine imp exStr_b ?_
    refine bind_b fun x89 h89 => ?_
    refine imp fnArgs_b ?_
    refine imp (cond_ff rfl) ?_
    refine imp (callW_says (sg48 h89)) ?_
    refine imp exB_b ?_
    refine cond_b (fun _ => ?_) (fun _ => ?_)
    · exact fun hg => ret1 (hR _ (Option.some.inj hg).symm) (fz_sc _ _)
    · exact fun hg => hN0 _ (Option.some.inj hg).symm _ (weak_mem [] rfl rfl rfl (okW_cons (ent_lst (E := TSector.E) _ false) (okW_cons (ent_clean (leV_refl _) (by simp [clean, cleans, encs_clean])) (okW_cons (.inl (leV_refl _)) (okW_cons (.inl (leV_refl _)) (okW_cons (.inl (leV_refl _)) okW_nil))))) okB_nil')
  · exact fun hg => ret1 (hR _ (Option.some.inj hg).symm) (fz_sc _ _)
theorem L54_0_x1_ok (n : Nat) (a0 : List TSector) (a1_0_0 : ByteArray) (a1_0_1 : List TVolume) (c4 : Int) (c7 : Int) {t : ρ54} (R : AV → Mem → Prop) (hR : ∀ r : ρ54, t = r → ∀ u m, Ans ((intA r)) u m → R u m) (k : Nat) (x : Int) (hx : iterO (fun y : Int => S54_0_x1 n a0 a1_0_0 a1_0_1 c4 c7 y) k x = some t) {s : St} (hw : Weak KK 19 0 s (h54_0 (lstA TSector.E a0) (AV.fn 48 [(AV.ept [(strA a1_0_0), (lstA TVolume.E a1_0_1)] 0)]) c4 c7 x [])) : Tri Try.prog KK 19 0 (.loop c54_0) s (q54_0 R ) :=
  L54_0 R  (σ := Nat × (Int)) (fun z => iterO (fun y : Int => S54_0_x1 n a0 a1_0_0 a1_0_1 c4 c7 y) z.1 z.2 = some t) (fun z => (lstA TSector.E a0)) (fun z => (AV.fn 48 [(AV.ept [(strA a1_0_0), (lstA TVolume.E a1_0_1)] 0)])) (fun z => c4) (fun z => c7) (fun z => z.2) (fun z => []) (fun z => z.1) (by
    rintro ⟨k, y⟩ h
    cases k with
    | zero => exact (iterO_zero h).elim
    | succ k =>
      obtain ⟨u, h1, h2, h3⟩ := iterO_elim h
      exact B54_0_x1_ok n a0 a1_0_0 a1_0_1 c4 c7 y R  _ (fun r e => hR r (h3 _ e).symm)  (fun y' e s' hw => ⟨(k, y'), h2 _ e, Nat.lt_succ_self k, hw⟩) h1) (k, x) hx hw
theorem g54_1_ok (n : Nat) (a0 : List TSector) (a1_0_0 : ByteArray) (a1_0_1 : List TVolume) {t : ρ54} (R : AV → Mem → Prop) (hR : ∀ r : ρ54, t = r → ∀ u m, Ans ((intA r)) u m → R u m) : g54_1 n a0 a1_0_0 a1_0_1 = some t → F54 (lstA TSector.E a0) (AV.fn 48 [(AV.ept [(strA a1_0_0), (lstA TVolume.E a1_0_1)] 0)]) R := by
  unfold g54_1 F54
  refine imp (opP_of (show _ = some ((intA (a0.length : Int)), []) from rfl)) ?_
  refine imp ex_i64_b ?_
  exact fun hg => L54_0_x1_ok n a0 a1_0_0 a1_0_1 (0) (a0.length : Int) R  hR n _ hg (weak_mem [] rfl rfl rfl (okW_cons (ent_lst (E := TSector.E) _ false) (okW_cons (ent_clean (leV_refl _) (by simp [clean, cleans, encs_clean])) (okW_cons (.inl (leV_refl _)) (okW_cons (.inl (leV_refl _)) (okW_cons (.inl (leV_refl _)) okW_nil))))) okB_nil')
theorem sg54_1 {n : Nat} {a0 : List TSector} {a1_0_0 : ByteArray} {a1_0_1 : List TVolume} {t : ρ54} (h : g54_1 n a0 a1_0_0 a1_0_1 = some t) : Says Try.prog KK.gl 54 [(lstA TSector.E a0), (AV.fn 48 [(AV.ept [(strA a1_0_0), (lstA TVolume.E a1_0_1)] 0)])] ((intA t)) :=
  says_of_own (by first | rfl | simp [cleans, clean, encs_clean, En.cln]) (by first | rfl | simp [cleans, clean, encs_clean, En.cln]) (F54_own (lstA TSector.E a0) (AV.fn 48 [(AV.ept [(strA a1_0_0), (lstA TVolume.E a1_0_1)] 0)]) _ (g54_1_ok n a0 a1_0_0 a1_0_1 (Ans ((intA t))) (fun r e u m h => by rw [e]; exact h) h))
/- slices.ContainsFunc[[]skyway/api.Sector,skyway/api.Sector] -/
theorem g47_ok (n : Nat) (a0 : List TSector) (a1_0_0 : ByteArray) (a1_0_1 : List TVolume) {t : ρ47} (R : AV → Mem → Prop) (hR : ∀ r : ρ47, t = r → ∀ u m, Ans ((boolA r)) u m → R u m) : g47 n a0 a1_0_0 a1_0_1 = some t → F47 (lstA TSector.E a0) (AV.fn 48 [(AV.ept [(strA a1_0_0), (lstA TVolume.E a1_0_1)] 0)]) R := by
  unfold g47 F47
  refine bind_b fun x90 h90 => ?_
  refine imp (callQ_says (sg54_1 h90)) ?_
  refine imp ex_i64_b ?_
  exact fun hg => ret1 (hR _ (Option.some.inj hg).symm) (fz_sc _ _)
theorem sg47 {n : Nat} {a0 : List TSector} {a1_0_0 : ByteArray} {a1_0_1 : List TVolume} {t : ρ47} (h : g47 n a0 a1_0_0 a1_0_1 = some t) : Says Try.prog KK.gl 47 [(lstA TSector.E a0), (AV.fn 48 [(AV.ept [(strA a1_0_0), (lstA TVolume.E a1_0_1)] 0)])] ((boolA t)) :=
  says_of_own (by first | rfl | simp [cleans, clean, encs_clean, En.cln]) (by first | rfl | simp [cleans, clean, encs_clean, En.cln]) (F47_own (lstA TSector.E a0) (AV.fn 48 [(AV.ept [(strA a1_0_0), (lstA TVolume.E a1_0_1)] 0)]) _ (g47_ok n a0 a1_0_0 a1_0_1 (Ans ((boolA t))) (fun r e u m h => by rw [e]; exact h) h))
/- skyway/polygon.doubled -/
theorem B81_0_ok (n : Nat) (a0 : List TP) (c7 : Int) (v8 : Int) (L90000 : List TP) {t : (Int × List TP) ⊕ ρ81} (R : AV → Mem → Prop) (N0 : St → Prop) (hR : ∀ r : ρ81, t = (.inr r) → ∀ u m, Ans ((lstA TP.E r)) u m → R u m) (hN0 : ∀ y : Int × List TP, t = (.inl y) → ∀ s' : St, Weak KK 24 0 s' (h81_0 AV.nils (ownV TP.E 90000 y.2) (lstA TP.E a0) c7 y.1 [(90000, ownB TP.E 35 y.2)]) → N0 s') : S81_0 n a0 c7 v8 L90000 = some t → B81_0 AV.nils (ownV TP.E 90000 L90000) (lstA TP.E a0) c7 v8 [(90000, ownB TP.E 35 L90000)] R N0 := by
  unfold S81_0 B81_0
  refine cond_b (fun _ => ?_) (fun _ => ?_)
  · refine bind_b fun x106 h106 => ?_
    refine imp (opP_of (show _ = some ((AV.ept [(intA x106.X), (intA x106.Y)] 0), []) from (idx_lst (E := TP.E) rfl h106))) ?_
    refine imp (opP_of (show _ = some ((AV.agg [(intA x106.X), (intA x106.Y)]), []) from rfl)) ?_
    refine imp exA2_b ?_
    refine imp ex_i64_b ?_
    refine imp ex_i64_b ?_
    refine imp (opP_of (show _ = some ((AV.agg [(intA (IntKind.wrap .i64 ((2) * x106.X))), (intA (IntKind.wrap .i64 ((2) * x106.Y)))]), []) from rfl)) ?_
    refine imp (opN_of (show _ = some ((blkV TP.E 100013 ([(⟨(IntKind.wrap .i64 ((2) * x106.X)), (IntKind.wrap .i64 ((2) * x106.Y))⟩ : TP)] : List TP)), [(100013, some ⟨encs TP.E ([(⟨(IntKind.wrap .i64 ((2) * x106.X)), (IntKind.wrap .i64 ((2) * x106.Y))⟩ : TP)] : List TP), 35⟩)]) from rfl)) ?_
    refine bind_b fun x108 h108 => ?_
    refine imp (opN_of (show _ = some ((ownV TP.E 100014 (L90000 ++ ([(⟨(IntKind.wrap .i64 ((2) * x106.X)), (IntKind.wrap .i64 ((2) * x106.Y))⟩ : TP)] : List TP))), (appW TP.E 100014 90000 35 L90000 ([(⟨(IntKind.wrap .i64 ((2) * x106.X)), (IntKind.wrap .i64 ((2) * x106.Y))⟩ : TP)] : List TP))) from (app_own (E := TP.E) (l' := L90000) (xs := ([(⟨(IntKind.wrap .i64 ((2) * x106.X)), (IntKind.wrap .i64 ((2) * x106.Y))⟩ : TP)] : List TP)) rfl rfl (cellsOf_blk (E := TP.E) (ty := 35) rfl rfl (by first | rfl | (simp (disch := first | decide | assumption) only [mpushs_nil, mpushs_cons, mget_hd, mget_tl, mget_appW_o, mget_appW_n, mget_appW_e]))) (by first | assumption | simp) rfl (fun hne => Eq.trans (by first | rfl | (simp (disch := first | decide | assumption) only [mpushs_nil, mpushs_cons, mget_hd, mget_tl, mget_appW_o, mget_appW_n, mget_appW_e])) (ownB_ne hne)) h108))) ?_
    exact fun hg => hN0 _ (Option.some.inj hg).symm _ (weak_mem [(90000, 100014)] rfl rfl rfl (okW_cons (.inl (leV_refl _)) (okW_cons (ent_own (E := TP.E) (id := 100014) (l' := (L90000 ++ ([(⟨(IntKind.wrap .i64 ((2) * x106.X)), (IntKind.wrap .i64 ((2) * x106.Y))⟩ : TP)] : List TP))) rfl rfl) (okW_cons (ent_lst (E := TP.E) _ false) (okW_cons (.inl (leV_refl _)) (okW_cons (.inl (leV_refl _)) okW_nil))))) (okB_cons (okB_own (E := TP.E) (ty := 35) (l' := (L90000 ++ ([(⟨(IntKind.wrap .i64 ((2) * x106.X)), (IntKind.wrap .i64 ((2) * x106.Y))⟩ : TP)] : List TP))) rfl (show mget _ 100014 = _ from (by first | rfl | (simp (disch := first | decide | assumption) only [mpushs_nil, mpushs_cons, mget_hd, mget_tl, mget_appW_o, mget_appW_n, mget_appW_e])))) okB_nil'))
  · exact fun hg => ret1 (hR _ (Option.some.inj hg).symm) (fz_own (E := TP.E) (ty := 35) (l' := L90000) _ rfl (by first | rfl | (simp (disch := first | decide | assumption) only [mpushs_nil, mpushs_cons, mget_hd, mget_tl, mget_appW_o, mget_appW_n, mget_appW_e])))
theorem L81_0_ok (n : Nat) (a0 : List TP) (c7 : Int) {t : ρ81} (R : AV → Mem → Prop) (hR : ∀ r : ρ81, t = r → ∀ u m, Ans ((lstA TP.E r)) u m → R u m) (k : Nat) (x : Int × List TP) (hx : iterO (fun y : Int × List TP => S81_0 n a0 c7 y.1 y.2) k x = some t) {s : St} (hw : Weak KK 24 0 s (h81_0 AV.nils (ownV TP.E 90000 x.2) (lstA TP.E a0) c7 x.1 [(90000, ownB TP.E 35 x.2)])) : Tri Try.prog KK 24 0 (.loop c81_0) s (q81_0 R ) :=
  L81_0 R  (σ := Nat × (Int × List TP)) (fun z => iterO (fun y : Int × List TP => S81_0 n a0 c7 y.1 y.2) z.1 z.2 = some t) (fun z => AV.nils) (fun z => (ownV TP.E 90000 z.2.2)) (fun z => (lstA TP.E a0)) (fun z => c7) (fun z => z.2.1) (fun z => [(90000, ownB TP.E 35 z.2.2)]) (fun z => z.1) (by
    rintro ⟨k, y⟩ h
    cases k with
    | zero => exact (iterO_zero h).elim
    | succ k =>
      obtain ⟨u, h1, h2, h3⟩ := iterO_elim h
      exact B81_0_ok n a0 c7 y.1 y.2 R  _ (fun r e => hR r (h3 _ e).symm)  (fun y' e s' hw => ⟨(k, y'), h2 _ e, Nat.lt_succ_self k, hw⟩) h1) (k, x) hx hw
theorem g81_ok (n : Nat) (a0 : List TP) {t : ρ81} (R : AV → Mem → Prop) (hR : ∀ r : ρ81, t = r → ∀ u m, Ans ((lstA TP.E r)) u m → R u m) : g81 n a0 = some t → F81 (lstA TP.E a0) R := by
  unfold g81 F81
  refine imp (opP_of (show _ = some ((intA (a0.length : Int)), []) from rfl)) ?_
  refine imp ex_i64_b ?_
  exact fun hg => L81_0_ok n a0 (a0.length : Int) R  hR n _ hg (weak_mem [(90000, 89500)] rfl rfl rfl (okW_cons (.inl (leV_refl _)) (okW_cons ent_nils_own (okW_cons (ent_lst (E := TP.E) _ false) (okW_cons (.inl (leV_refl _)) (okW_cons (.inl (leV_refl _)) okW_nil))))) (okB_cons okB_nil okB_nil'))
theorem sg81 {n : Nat} {a0 : List TP} {t : ρ81} (h : g81 n a0 = some t) : Says Try.prog KK.gl 81 [(lstA TP.E a0)] ((lstA TP.E t)) :=
  says_of_own (by first | rfl | simp [cleans, clean, encs_clean, En.cln]) (by first | rfl | simp [cleans, clean, encs_clean, En.cln]) (F81_own (lstA TP.E a0) _ (g81_ok n a0 (Ans ((lstA TP.E t))) (fun r e u m h => by rw [e]; exact h) h))
/- skyway/plane.Dot -/
theorem g100_ok (n : Nat) (a0 : TP) (a1 : TP) {t : ρ100} (R : AV → Mem → Prop) (hR : ∀ r : ρ100, t = r → ∀ u m, Ans ((intA r)) u m → R u m) : g100 n a0 a1 = some t → F100 a0.X a0.Y a1.X a1.Y R := by
  unfold g100 F100
  exact fun hg => ret1 (hR _ (Option.some.inj hg).symm) (fz_sc _ _)
theorem sg100 {n : Nat} {a0 : TP} {a1 : TP} {t : ρ100} (h : g100 n a0 a1 = some t) : Says Try.prog KK.gl 100 [(AV.agg [(intA a0.X), (intA a0.Y)]), (AV.agg [(intA a1.X), (intA a1.Y)])] ((intA t)) :=
  says_of_own (by first | rfl | simp [cleans, clean, encs_clean, En.cln]) (by first | rfl | simp [cleans, clean, encs_clean, En.cln]) (F100_own a0.X a0.Y a1.X a1.Y _ (g100_ok n a0 a1 (Ans ((intA t))) (fun r e u m h => by rw [e]; exact h) h))
/- skyway/plane.Square -/
theorem g99_ok (n : Nat) (a0 : TP) (a1 : TP) {t : ρ99} (R : AV → Mem → Prop) (hR : ∀ r : ρ99, t = r → ∀ u m, Ans ((intA r)) u m → R u m) : g99 n a0 a1 = some t → F99 a0.X a0.Y a1.X a1.Y R := by
  unfold g99 F99
  refine bind_b fun x117 h117 => ?_
  refine imp (callQ_says (sg83 h117)) ?_
  refine imp exA2_b ?_
  refine imp ex_i64_b ?_
  refine imp ex_i64_b ?_
  refine bind_b fun x118 h118 => ?_
  refine imp (callQ_says (sg100 h118)) ?_
  refine imp ex_i64_b ?_
  exact fun hg => ret1 (hR _ (Option.some.inj hg).symm) (fz_sc _ _)
theorem sg99 {n : Nat} {a0 : TP} {a1 : TP} {t : ρ99} (h : g99 n a0 a1 = some t) : Says Try.prog KK.gl 99 [(AV.agg [(intA a0.X), (intA a0.Y)]), (AV.agg [(intA a1.X), (intA a1.Y)])] ((intA t)) :=
  says_of_own (by first | rfl | simp [cleans, clean, encs_clean, En.cln]) (by first | rfl | simp [cleans, clean, encs_clean, En.cln]) (F99_own a0.X a0.Y a1.X a1.Y _ (g99_ok n a0 a1 (Ans ((intA t))) (fun r e u m h => by rw [e]; exact h) h))
/- skyway/polygon.enters$1 -/
theorem g98_ok (n : Nat) (a0 : TP) (a1 : TP) (a2_0 : Int) (a2_1 : Int) {t : ρ98} (R : AV → Mem → Prop) (hR : ∀ r : ρ98, t = r → ∀ u m, Ans ((intA r)) u m → R u m) : g98 n a0 a1 a2_0 a2_1 = some t → F98 a0.X a0.Y a1.X a1.Y (AV.ept [(intA a2_0), (intA a2_1)] 0) R := by
  unfold g98 F98
  refine imp (opP_of (show _ = some ((AV.agg [(intA a2_0), (intA a2_1)]), []) from rfl)) ?_
  refine imp exA2_b ?_
  refine imp ex_i64_b ?_
  refine imp ex_i64_b ?_
  refine bind_b fun x119 h119 => ?_
  refine imp (callQ_says (sg99 h119)) ?_
  refine imp ex_i64_b ?_
  refine imp (opP_of (show _ = some ((AV.agg [(intA a2_0), (intA a2_1)]), []) from rfl)) ?_
  refine imp exA2_b ?_
  refine imp ex_i64_b ?_
  refine imp ex_i64_b ?_
  refine bind_b fun x120 h120 => ?_
  refine imp (callQ_says (sg99 h120)) ?_
  refine imp ex_i64_b ?_
  exact fun hg => ret1 (hR _ (Option.some.inj hg).symm) (fz_sc _ _)
theorem sg98 {n : Nat} {a0 : TP} {a1 : TP} {a2_0 : Int} {a2_1 : Int} {t : ρ98} (h : g98 n a0 a1 a2_0 a2_1 = some t) : Says Try.prog KK.gl 98 [(AV.agg [(intA a0.X), (intA a0.Y)]), (AV.agg [(intA a1.X), (intA a1.Y)]), (AV.ept [(intA a2_0), (intA a2_1)] 0)] ((intA t)) :=
  says_of_own (by first | rfl | simp [cleans, clean, encs_clean, En.cln]) (by first | rfl | simp [cleans, clean, encs_clean, En.cln]) (F98_own a0.X a0.Y a1.X a1.Y (AV.ept [(intA a2_0), (intA a2_1)] 0) _ (g98_ok n a0 a1 a2_0 a2_1 (Ans ((intA t))) (fun r e u m h => by rw [e]; exact h) h))
/- skyway/polygon.enters -/
theorem B82_0_1_0_ok (n : Nat) (a0 : List TP) (a1 : List TP) (c4 : Bool) (w11 : Int) (c17 : Int) (v18 : Int) (c100 : Int) (k100010_0 : Int) (k100010_1 : Int) (k100011_0 : Int) (k100011_1 : Int) (k300041_0 : Int) (k300041_1 : Int) (u101 : Int) (L90000 : List TP) {t : (Int × List TP) ⊕ ((Int × List TP) ⊕ ((Int) ⊕ ρ82))} (R : AV → Mem → Prop) (N0 : St → Prop) (N1 : St → Prop) (N2 : St → Prop) (hR : ∀ r : ρ82, t = (.inr (.inr (.inr r))) → ∀ u m, Ans ((boolA r)) u m → R u m) (hN0 : ∀ y : Int, t = (.inr (.inr (.inl y))) → ∀ s' : St, Weak KK 127 0 s' (h82_0 (lstA TP.E a0) (lstA TP.E a1) c4 c17 y []) → N0 s') (hN1 : ∀ y : Int × List TP, t = (.inr (.inl y)) → ∀ s' : St, Weak KK 127 0 s' (h82_0_1 (lstA TP.E a0) (lstA TP.E a1) c4 (ownV TP.E 90000 y.2) y.1 c17 v18 [(90000, ownB TP.E 35 y.2), (100010, some ⟨[(intA k100010_0), (intA k100010_1)], 35⟩), (100011, some ⟨[(intA k100011_0), (intA k100011_1)], 35⟩)]) → N1 s') (hN2 : ∀ y : Int × List TP, t = (.inl y) → ∀ s' : St, Weak KK 127 0 s' (h82_0_1_0 (lstA TP.E a0) (lstA TP.E a1) c4 (ownV TP.E 90000 y.2) w11 c17 v18 c100 y.1 [(90000, ownB TP.E 35 y.2), (100010, some ⟨[(intA k100010_0), (intA k100010_1)], 35⟩), (100011, some ⟨[(intA k100011_0), (intA k100011_1)], 35⟩), (300041, some ⟨[(intA k300041_0), (intA k300041_1)], 35⟩)]) → N2 s') : S82_0_1_0 n a0 a1 c4 w11 c17 v18 c100 k100010_0 k100010_1 k100011_0 k100011_1 k300041_0 k300041_1 u101 L90000 = some t → B82_0_1_0 (lstA TP.E a0) (lstA TP.E a1) c4 (ownV TP.E 90000 L90000) w11 c17 v18 c100 u101 [(90000, ownB TP.E 35 L90000), (100010, some ⟨[(intA k100010_0), (intA k100010_1)], 35⟩), (100011, some ⟨[(intA k100011_0), (intA k100011_1)], 35⟩), (300041, some ⟨[(intA k300041_0), (intA k300041_1)], 35⟩)] R N0 N1 N2 := by
  unfold S82_0_1_0 B82_0_1_0
  refine cond_b (fun _ => ?_) (fun _ => ?_)
  · refine bind_b fun x129 h129 => ?_
    refine imp (opM_of (show _ = some ((AV.ept [(intA x129.X), (intA x129.Y)] 0), []) from (idx_lst (E := TP.E) rfl h129))) ?_
    refine imp (opM_of (show _ = some ((AV.agg [(intA x129.X), (intA x129.Y)]), []) from rfl)) ?_
    refine imp exA2_b ?_
    refine imp ex_i64_b ?_
    refine imp ex_i64_b ?_
    refine bind_b fun x130 h130 => ?_
    refine imp (callF_says (sg72 h130)) ?_
    refine imp exA2_b ?_
    refine imp ex_i64_b ?_
    refine imp ex_i64_b ?_
    refine imp (storeW_cells (sz := 2) (by kernel_rfl) (by kernel_rfl) rfl rfl (cs := [(intA (0)), (intA (0))]) (cs' := [(intA x129.X), (intA x129.Y)]) (ty := 35) (by first | rfl | (rw [look'_mem (by first | rfl | simp [topId_blk] | simp [topId])]; first | rfl | (simp (disch := first | decide | assumption) only [mpushs_nil, mpushs_cons, mget_hd, mget_tl, mget_appW_o, mget_appW_n, mget_appW_e]))) rfl rfl) ?_
    refine imp (storeW_cells (sz := 2) (by kernel_rfl) (by kernel_rfl) rfl rfl (cs := [(intA (0)), (intA (0))]) (cs' := [(intA x130.X), (intA x130.Y)]) (ty := 35) (by first | rfl | (rw [look'_mem (by first | rfl | simp [topId_blk] | simp [topId])]; first | rfl | (simp (disch := first | decide | assumption) only [mpushs_nil, mpushs_cons, mget_hd, mget_tl, mget_appW_o, mget_appW_n, mget_appW_e]))) rfl rfl) ?_
    refine imp (chk_of (by kernel_rfl)) ?_
    refine imp (opP_of (show _ = some ((AV.agg [(intA x129.X), (intA x129.Y)]), []) from (ldA_ptr (b := ⟨[(intA x129.X), (intA x129.Y)], 35⟩) (by first | rfl | (simp (disch := first | decide | assumption) only [mpushs_nil, mpushs_cons, mget_hd, mget_tl, mget_appW_o, mget_appW_n, mget_appW_e])) rfl))) ?_
    refine imp exA2_b ?_
    refine imp ex_i64_b ?_
    refine imp ex_i64_b ?_
    refine imp (opP_of (show _ = some ((AV.agg [(intA x130.X), (intA x130.Y)]), []) from (ldA_ptr (b := ⟨[(intA x130.X), (intA x130.Y)], 35⟩) (by first | rfl | (simp (disch := first | decide | assumption) only [mpushs_nil, mpushs_cons, mget_hd, mget_tl, mget_appW_o, mget_appW_n, mget_appW_e])) rfl))) ?_
    refine imp exA2_b ?_
    refine imp ex_i64_b ?_
    refine imp ex_i64_b ?_
    refine imp (opP_of (show _ = some ((AV.agg [(intA k300041_0), (intA k300041_1)]), []) from (ldA_ptr (b := ⟨[(intA k300041_0), (intA k300041_1)], 35⟩) (by first | rfl | (simp (disch := first | decide | assumption) only [mpushs_nil, mpushs_cons, mget_hd, mget_tl, mget_appW_o, mget_appW_n, mget_appW_e])) rfl))) ?_
    refine imp exA2_b ?_
    refine imp ex_i64_b ?_
    refine imp ex_i64_b ?_
    refine bind_b fun x131 h131 => ?_
    refine imp (callQ_says (sg84 h131)) ?_
    refine imp exB_b ?_
    refine cond_b (fun _ => ?_) (fun _ => ?_)
    · refine imp (opP_of (show _ = some ((AV.agg [(intA k100011_0), (intA k100011_1)]), []) from (ldA_ptr (b := ⟨[(intA k100011_0), (intA k100011_1)], 35⟩) (by first | rfl | (simp (disch := first | decide | assumption) only [mpushs_nil, mpushs_cons, mget_hd, mget_tl, mget_appW_o, mget_appW_n, mget_appW_e])) rfl))) ?_
      refine imp exA2_b ?_
      refine imp ex_i64_b ?_
      refine imp ex_i64_b ?_
      refine imp (opP_of (show _ = some ((AV.agg [(intA k100010_0), (intA k100010_1)]), []) from (ldA_ptr (b := ⟨[(intA k100010_0), (intA k100010_1)], 35⟩) (by first | rfl | (simp (disch := first | decide | assumption) only [mpushs_nil, mpushs_cons, mget_hd, mget_tl, mget_appW_o, mget_appW_n, mget_appW_e])) rfl))) ?_
      refine imp exA2_b ?_
      refine imp ex_i64_b ?_
      refine imp ex_i64_b ?_
      refine bind_b fun x132 h132 => ?_
      refine imp (callQ_says (sg83 h132)) ?_
      refine imp exA2_b ?_
      refine imp ex_i64_b ?_
      refine imp ex_i64_b ?_
      refine imp (opP_of (show _ = some ((AV.agg [(intA x130.X), (intA x130.Y)]), []) from (ldA_ptr (b := ⟨[(intA x130.X), (intA x130.Y)], 35⟩) (by first | rfl | (simp (disch := first | decide | assumption) only [mpushs_nil, mpushs_cons, mget_hd, mget_tl, mget_appW_o, mget_appW_n, mget_appW_e])) rfl))) ?_
      refine imp exA2_b ?_
      refine imp ex_i64_b ?_
      refine imp ex_i64_b ?_
      refine imp (opP_of (show _ = some ((AV.agg [(intA x129.X), (intA x129.Y)]), []) from (ldA_ptr (b := ⟨[(intA x129.X), (intA x129.Y)], 35⟩) (by first | rfl | (simp (disch := first | decide | assumption) only [mpushs_nil, mpushs_cons, mget_hd, mget_tl, mget_appW_o, mget_appW_n, mget_appW_e])) rfl))) ?_
      refine imp exA2_b ?_
      refine imp ex_i64_b ?_
      refine imp ex_i64_b ?_
      refine bind_b fun x133 h133 => ?_
      refine imp (callQ_says (sg83 h133)) ?_
      refine imp exA2_b ?_
      refine imp ex_i64_b ?_
      refine imp ex_i64_b ?_
      refine bind_b fun x134 h134 => ?_
      refine imp (callQ_says (sg100 h134)) ?_
      refine imp ex_i64_b ?_
      refine cond_b (fun _ => ?_) (fun _ => ?_)
      · exact fun hg => ret1 (hR _ (Option.some.inj hg).symm) (fz_sc _ _)
      · exact fun hg => hN2 _ (Option.some.inj hg).symm _ (weak_mem [(90000, 90000), (100010, 100010), (100011, 100011), (300041, 300041)] rfl rfl rfl (okW_cons (ent_lst (E := TP.E) _ false) (okW_cons (ent_lst (E := TP.E) _ false) (okW_cons (.inl (leV_refl _)) (okW_cons (.inl (leV_refl _)) (okW_cons (.inl (leV_refl _)) (okW_cons (ent_own (E := TP.E) (id := 90000) (l' := L90000) rfl rfl) (okW_cons (.inl (leV_refl _)) (okW_cons (.inl (leV_refl _)) (okW_cons (.inl (leV_refl _)) (okW_cons (.inl (leV_refl _)) (okW_cons (.inl (leV_refl _)) (okW_cons (.inl (leV_refl _)) okW_nil)))))))))))) (okB_cons (okB_own (E := TP.E) (ty := 35) (l' := L90000) rfl (show mget _ 90000 = _ from (by first | rfl | (simp (disch := first | decide | assumption) only [mpushs_nil, mpushs_cons, mget_hd, mget_tl, mget_appW_o, mget_appW_n, mget_appW_e])))) (okB_cons (okB_cells (cs := [(intA k100010_0), (intA k100010_1)]) (ty := 35) rfl (show mget _ 100010 = _ from (by first | rfl | (simp (disch := first | decide | assumption) only [mpushs_nil, mpushs_cons, mget_hd, mget_tl, mget_appW_o, mget_appW_n, mget_appW_e])))) (okB_cons (okB_cells (cs := [(intA k100011_0), (intA k100011_1)]) (ty := 35) rfl (show mget _ 100011 = _ from (by first | rfl | (simp (disch := first | decide | assumption) only [mpushs_nil, mpushs_cons, mget_hd, mget_tl, mget_appW_o, mget_appW_n, mget_appW_e])))) (okB_cons (okB_cells (cs := [(intA k300041_0), (intA k300041_1)]) (ty := 35) rfl (show mget _ 300041 = _ from (by first | rfl | (simp (disch := first | decide | assumption) only [mpushs_nil, mpushs_cons, mget_hd, mget_tl, mget_appW_o, mget_appW_n, mget_appW_e])))) okB_nil')))))
    · exact fun hg => hN2 _ (Option.some.inj hg).symm _ (weak_mem [(90000, 90000), (100010, 100010), (100011, 100011), (300041, 300041)] rfl rfl rfl (okW_cons (ent_lst (E := TP.E) _ false) (okW_cons (ent_lst (E := TP.E) _ false) (okW_cons (.inl (leV_refl _)) (okW_cons (.inl (leV_refl _)) (okW_cons (.inl (leV_refl _)) (okW_cons (ent_own (E := TP.E) (id := 90000) (l' := L90000) rfl rfl) (okW_cons (.inl (leV_refl _)) (okW_cons (.inl (leV_refl _)) (okW_cons (.inl (leV_refl _)) (okW_cons (.inl (leV_refl _)) (okW_cons (.inl (leV_refl _)) (okW_cons (.inl (leV_refl _)) okW_nil)))))))))))) (okB_cons (okB_own (E := TP.E) (ty := 35) (l' := L90000) rfl (show mget _ 90000 = _ from (by first | rfl | (simp (disch := first | decide | assumption) only [mpushs_nil, mpushs_cons, mget_hd, mget_tl, mget_appW_o, mget_appW_n, mget_appW_e])))) (okB_cons (okB_cells (cs := [(intA k100010_0), (intA k100010_1)]) (ty := 35) rfl (show mget _ 100010 = _ from (by first | rfl | (simp (disch := first | decide | assumption) only [mpushs_nil, mpushs_cons, mget_hd, mget_tl, mget_appW_o, mget_appW_n, mget_appW_e])))) (okB_cons (okB_cells (cs := [(intA k100011_0), (intA k100011_1)]) (ty := 35) rfl (show mget _ 100011 = _ from (by first | rfl | (simp (disch := first | decide | assumption) only [mpushs_nil, mpushs_cons, mget_hd, mget_tl, mget_appW_o, mget_appW_n, mget_appW_e])))) (okB_cons (okB_cells (cs := [(intA k300041_0), (intA k300041_1)]) (ty := 35) rfl (show mget _ 300041 = _ from (by first | rfl | (simp (disch := first | decide | assumption) only [mpushs_nil, mpushs_cons, mget_hd, mget_tl, mget_appW_o, mget_appW_n, mget_appW_e])))) okB_nil')))))
  · exact fun hg => hN1 _ (Option.some.inj hg).symm _ (weak_mem [(90000, 90000), (100010, 100010), (100011, 100011)] rfl rfl rfl (okW_cons (ent_lst (E := TP.E) _ false) (okW_cons (ent_lst (E := TP.E) _ false) (okW_cons (.inl (leV_refl _)) (okW_cons (.inl (leV_refl _)) (okW_cons (.inl (leV_refl _)) (okW_cons (ent_own (E := TP.E) (id := 90000) (l' := L90000) rfl rfl) (okW_cons (.inl (leV_refl _)) (okW_cons (.inl (leV_refl _)) (okW_cons (.inl (leV_refl _)) okW_nil))))))))) (okB_cons (okB_own (E := TP.E) (ty := 35) (l' := L90000) rfl (show mget _ 90000 = _ from (by first | rfl | (simp (disch := first | decide | assumption) only [mpushs_nil, mpushs_cons, mget_hd, mget_tl, mget_appW_o, mget_appW_n, mget_appW_e])))) (okB_cons (okB_cells (cs := [(intA k100010_0), (intA k100010_1)]) (ty := 35) rfl (show mget _ 100010 = _ from (by first | rfl | (simp (disch := first | decide | assumption) only [mpushs_nil, mpushs_cons, mget_hd, mget_tl, mget_appW_o, mget_appW_n, mget_appW_e])))) (okB_cons (okB_cells (cs := [(intA k100011_0), (intA k100011_1)]) (ty := 35) rfl (show mget _ 100011 = _ from (by first | rfl | (simp (disch := first | decide | assumption) only [mpushs_nil, mpushs_cons, mget_hd, mget_tl, mget_appW_o, mget_appW_n, mget_appW_e])))) okB_nil'))))
theorem L82_0_1_0_ok (n : Nat) (a0 : List TP) (a1 : List TP) (c4 : Bool) (w11 : Int) (c17 : Int) (v18 : Int) (c100 : Int) (k100010_0 : Int) (k100010_1 : Int) (k100011_0 : Int) (k100011_1 : Int) (k300041_0 : Int) (k300041_1 : Int) {t : ((Int × List TP) ⊕ ((Int) ⊕ ρ82))} (R : AV → Mem → Prop) (N0 : St → Prop) (N1 : St → Prop) (hR : ∀ r : ρ82, t = (.inr (.inr r)) → ∀ u m, Ans ((boolA r)) u m → R u m) (hN0 : ∀ y : Int, t = (.inr (.inl y)) → ∀ s' : St, Weak KK 127 0 s' (h82_0 (lstA TP.E a0) (lstA TP.E a1) c4 c17 y []) → N0 s') (hN1 : ∀ y : Int × List TP, t = (.inl y) → ∀ s' : St, Weak KK 127 0 s' (h82_0_1 (lstA TP.E a0) (lstA TP.E a1) c4 (ownV TP.E 90000 y.2) y.1 c17 v18 [(90000, ownB TP.E 35 y.2), (100010, some ⟨[(intA k100010_0), (intA k100010_1)], 35⟩), (100011, some ⟨[(intA k100011_0), (intA k100011_1)], 35⟩)]) → N1 s') (k : Nat) (x : Int × List TP) (hx : iterO (fun y : Int × List TP => S82_0_1_0 n a0 a1 c4 w11 c17 v18 c100 k100010_0 k100010_1 k100011_0 k100011_1 k300041_0 k300041_1 y.1 y.2) k x = some t) {s : St} (hw : Weak KK 127 0 s (h82_0_1_0 (lstA TP.E a0) (lstA TP.E a1) c4 (ownV TP.E 90000 x.2) w11 c17 v18 c100 x.1 [(90000, ownB TP.E 35 x.2), (100010, some ⟨[(intA k100010_0), (intA k100010_1)], 35⟩), (100011, some ⟨[(intA k100011_0), (intA k100011_1)], 35⟩), (300041, some ⟨[(intA k300041_0), (intA k300041_1)], 35⟩)])) : Tri Try.prog KK 127 0 (.loop c82_0_1_0) s (q82_0_1_0 R N0 N1) :=
  L82_0_1_0 R N0 N1 (σ := Nat × (Int × List TP)) (fun z => iterO (fun y : Int × List TP => S82_0_1_0 n a0 a1 c4 w11 c17 v18 c100 k100010_0 k100010_1 k100011_0 k100011_1 k300041_0 k300041_1 y.1 y.2) z.1 z.2 = some t) (fun z => (lstA TP.E a0)) (fun z => (lstA TP.E a1)) (fun z => c4) (fun z => (ownV TP.E 90000 z.2.2)) (fun z => w11) (fun z => c17) (fun z => v18) (fun z => c100) (fun z => z.2.1) (fun z => [(90000, ownB TP.E 35 z.2.2), (100010, some ⟨[(intA k100010_0), (intA k100010_1)], 35⟩), (100011, some ⟨[(intA k100011_0), (intA k100011_1)], 35⟩), (300041, some ⟨[(intA k300041_0), (intA k300041_1)], 35⟩)]) (fun z => z.1) (by
    rintro ⟨k, y⟩ h
    cases k with
    | zero => exact (iterO_zero h).elim
    | succ k =>
      obtain ⟨u, h1, h2, h3⟩ := iterO_elim h
      exact B82_0_1_0_ok n a0 a1 c4 w11 c17 v18 c100 k100010_0 k100010_1 k100011_0 k100011_1 k300041_0 k300041_1 y.1 y.2 R N0 N1 _ (fun r e => hR r (h3 _ e).symm) (fun y' e => hN0 y' (h3 _ e).symm) (fun y' e => hN1 y' (h3 _ e).symm) (fun y' e s' hw => ⟨(k, y'), h2 _ e, Nat.lt_succ_self k, hw⟩) h1) (k, x) hx hw
theorem B82_0_1_ok (n : Nat) (a0 : List TP) (a1 : List TP) (c4 : Bool) (c17 : Int) (v18 : Int) (k100010_0 : Int) (k100010_1 : Int) (k100011_0 : Int) (k100011_1 : Int) (w11 : Int) (L90000 : List TP) {t : (Int × List TP) ⊕ ((Int) ⊕ ρ82)} (R : AV → Mem → Prop) (N0 : St → Prop) (N1 : St → Prop) (hR : ∀ r : ρ82, t = (.inr (.inr r)) → ∀ u m, Ans ((boolA r)) u m → R u m) (hN0 : ∀ y : Int, t = (.inr (.inl y)) → ∀ s' : St, Weak KK 127 0 s' (h82_0 (lstA TP.E a0) (lstA TP.E a1) c4 c17 y []) → N0 s') (hN1 : ∀ y : Int × List TP, t = (.inl y) → ∀ s' : St, Weak KK 127 0 s' (h82_0_1 (lstA TP.E a0) (lstA TP.E a1) c4 (ownV TP.E 90000 y.2) y.1 c17 v18 [(90000, ownB TP.E 35 y.2), (100010, some ⟨[(intA k100010_0), (intA k100010_1)], 35⟩), (100011, some ⟨[(intA k100011_0), (intA k100011_1)], 35⟩)]) → N1 s') : S82_0_1 n a0 a1 c4 c17 v18 k100010_0 k100010_1 k100011_0 k100011_1 w11 L90000 = some t → B82_0_1 (lstA TP.E a0) (lstA TP.E a1) c4 (ownV TP.E 90000 L90000) w11 c17 v18 [(90000, ownB TP.E 35 L90000), (100010, some ⟨[(intA k100010_0), (intA k100010_1)], 35⟩), (100011, some ⟨[(intA k100011_0), (intA k100011_1)], 35⟩)] R N0 N1 := by
  unfold S82_0_1 B82_0_1
  refine imp (opP_of (show _ = some ((intA (L90000.length : Int)), []) from len_own)) ?_
  refine imp ex_i64_b ?_
  refine cond_b (fun _ => ?_) (fun _ => ?_)
  · refine bind_b fun x122 h122 => ?_
    refine imp (opP_of (show _ = some ((AV.ptr 90000 (((w11 : Int).toNat) * 2 + 0)), []) from (idx_own (E := TP.E) rfl h122))) ?_
    refine imp (opP_of (show _ = some ((AV.agg [(intA x122.X), (intA x122.Y)]), []) from (ldA_blk (E := TP.E) (l := L90000) (ty := 35) rfl (own_some (ty := 35) (by first | rfl | (simp (disch := first | decide | assumption) only [mpushs_nil, mpushs_cons, mget_hd, mget_tl, mget_appW_o, mget_appW_n, mget_appW_e])) (getI_some h122).2) (getI_some h122).2 rfl))) ?_
    refine imp exA2_b ?_
    refine imp ex_i64_b ?_
    refine imp ex_i64_b ?_
    refine bind_b fun x123 h123 => ?_
    refine imp (opP_of (show _ = some ((AV.ptr 90000 ((((IntKind.wrap .i64 (w11 - (1))) : Int).toNat) * 2 + 0)), []) from (idx_own (E := TP.E) rfl h123))) ?_
    refine imp (opP_of (show _ = some ((AV.agg [(intA x123.X), (intA x123.Y)]), []) from (ldA_blk (E := TP.E) (l := L90000) (ty := 35) rfl (own_some (ty := 35) (by first | rfl | (simp (disch := first | decide | assumption) only [mpushs_nil, mpushs_cons, mget_hd, mget_tl, mget_appW_o, mget_appW_n, mget_appW_e])) (getI_some h123).2) (getI_some h123).2 rfl))) ?_
    refine imp exA2_b ?_
    refine imp ex_i64_b ?_
    refine imp ex_i64_b ?_
    refine imp (opP_of (show _ = some ((boolA (decide (x122 = x123))), []) from (TP.eql35 (x122) (x123)))) ?_
    refine imp exB_b ?_
    refine cond_b (fun _ => ?_) (fun _ => ?_)
    · exact fun hg => hN1 _ (Option.some.inj hg).symm _ (weak_mem [(90000, 90000), (100010, 100010), (100011, 100011)] rfl rfl rfl (okW_cons (ent_lst (E := TP.E) _ false) (okW_cons (ent_lst (E := TP.E) _ false) (okW_cons (.inl (leV_refl _)) (okW_cons (.inl (leV_refl _)) (okW_cons (.inl (leV_refl _)) (okW_cons (ent_own (E := TP.E) (id := 90000) (l' := L90000) rfl rfl) (okW_cons (.inl (leV_refl _)) (okW_cons (.inl (leV_refl _)) (okW_cons (.inl (leV_refl _)) okW_nil))))))))) (okB_cons (okB_own (E := TP.E) (ty := 35) (l' := L90000) rfl (show mget _ 90000 = _ from (by first | rfl | (simp (disch := first | decide | assumption) only [mpushs_nil, mpushs_cons, mget_hd, mget_tl, mget_appW_o, mget_appW_n, mget_appW_e])))) (okB_cons (okB_cells (cs := [(intA k100010_0), (intA k100010_1)]) (ty := 35) rfl (show mget _ 100010 = _ from (by first | rfl | (simp (disch := first | decide | assumption) only [mpushs_nil, mpushs_cons, mget_hd, mget_tl, mget_appW_o, mget_appW_n, mget_appW_e])))) (okB_cons (okB_cells (cs := [(intA k100011_0), (intA k100011_1)]) (ty := 35) rfl (show mget _ 100011 = _ from (by first | rfl | (simp (disch := first | decide | assumption) only [mpushs_nil, mpushs_cons, mget_hd, mget_tl, mget_appW_o, mget_appW_n, mget_appW_e])))) okB_nil'))))
    · refine bind_b fun x124 h124 => ?_
      refine imp (opM_of (show _ = some ((AV.ptr 90000 (((w11 : Int).toNat) * 2 + 0)), []) from (idx_own (E := TP.E) rfl h124))) ?_
      refine imp (opM_of (show _ = some ((AV.ptr 90000 (((w11 : Int).toNat) * 2 + 0)), []) from rfl)) ?_
      refine imp (opM_of (show _ = some ((intA x124.X), []) from (ldS_blk (E := TP.E) (l := L90000) (ty := 35) (o := 0) (own_some (ty := 35) (by first | rfl | (rw [look'_mem (by first | rfl | simp [topId_blk] | simp [topId])]; first | rfl | (simp (disch := first | decide | assumption) only [mpushs_nil, mpushs_cons, mget_hd, mget_tl, mget_appW_o, mget_appW_n, mget_appW_e]))) (getI_some h124).2) (getI_some h124).2 rfl (by decide) rfl))) ?_
      refine imp ex_i64_b ?_
      refine bind_b fun x125 h125 => ?_
      refine imp (opM_of (show _ = some ((AV.ptr 90000 ((((IntKind.wrap .i64 (w11 - (1))) : Int).toNat) * 2 + 0)), []) from (idx_own (E := TP.E) rfl h125))) ?_
      refine imp (opM_of (show _ = some ((AV.ptr 90000 ((((IntKind.wrap .i64 (w11 - (1))) : Int).toNat) * 2 + 0)), []) from rfl)) ?_
      refine imp (opM_of (show _ = some ((intA x125.X), []) from (ldS_blk (E := TP.E) (l := L90000) (ty := 35) (o := 0) (own_some (ty := 35) (by first | rfl | (rw [look'_mem (by first | rfl | simp [topId_blk] | simp [topId])]; first | rfl | (simp (disch := first | decide | assumption) only [mpushs_nil, mpushs_cons, mget_hd, mget_tl, mget_appW_o, mget_appW_n, mget_appW_e]))) (getI_some h125).2) (getI_some h125).2 rfl (by decide) rfl))) ?_
      refine imp ex_i64_b ?_
      refine bind_b fun x126 h126 => ?_
      refine imp (opM_of (show _ = some ((AV.ptr 90000 (((w11 : Int).toNat) * 2 + 0)), []) from (idx_own (E := TP.E) rfl h126))) ?_
      refine imp (opM_of (show _ = some ((AV.ptr 90000 (((w11 : Int).toNat) * 2 + 1)), []) from rfl)) ?_
      refine imp (opM_of (show _ = some ((intA x126.Y), []) from (ldS_blk (E := TP.E) (l := L90000) (ty := 35) (o := 1) (own_some (ty := 35) (by first | rfl | (rw [look'_mem (by first | rfl | simp [topId_blk] | simp [topId])]; first | rfl | (simp (disch := first | decide | assumption) only [mpushs_nil, mpushs_cons, mget_hd, mget_tl, mget_appW_o, mget_appW_n, mget_appW_e]))) (getI_some h126).2) (getI_some h126).2 rfl (by decide) rfl))) ?_
      refine imp ex_i64_b ?_
      refine bind_b fun x127 h127 => ?_
      refine imp (opM_of (show _ = some ((AV.ptr 90000 ((((IntKind.wrap .i64 (w11 - (1))) : Int).toNat) * 2 + 0)), []) from (idx_own (E := TP.E) rfl h127))) ?_
      refine imp (opM_of (show _ = some ((AV.ptr 90000 ((((IntKind.wrap .i64 (w11 - (1))) : Int).toNat) * 2 + 1)), []) from rfl)) ?_
      refine imp (opM_of (show _ = some ((intA x127.Y), []) from (ldS_blk (E := TP.E) (l := L90000) (ty := 35) (o := 1) (own_some (ty := 35) (by first | rfl | (rw [look'_mem (by first | rfl | simp [topId_blk] | simp [topId])]; first | rfl | (simp (disch := first | decide | assumption) only [mpushs_nil, mpushs_cons, mget_hd, mget_tl, mget_appW_o, mget_appW_n, mget_appW_e]))) (getI_some h127).2) (getI_some h127).2 rfl (by decide) rfl))) ?_
      refine imp ex_i64_b ?_
      refine imp (opM_of (show _ = some ((AV.agg [(intA (IntKind.wrap .i64 (Int.tdiv (IntKind.wrap .i64 (x124.X + x125.X)) (2)))), (intA (IntKind.wrap .i64 (Int.tdiv (IntKind.wrap .i64 (x126.Y + x127.Y)) (2))))]), []) from rfl)) ?_
      refine imp (storeW_cells (sz := 2) (by kernel_rfl) (by kernel_rfl) rfl rfl (cs := [(intA (0)), (intA (0))]) (cs' := [(intA (IntKind.wrap .i64 (Int.tdiv (IntKind.wrap .i64 (x124.X + x125.X)) (2)))), (intA (IntKind.wrap .i64 (Int.tdiv (IntKind.wrap .i64 (x126.Y + x127.Y)) (2))))]) (ty := 35) (by first | rfl | (rw [look'_mem (by first | rfl | simp [topId_blk] | simp [topId])]; first | rfl | (simp (disch := first | decide | assumption) only [mpushs_nil, mpushs_cons, mget_hd, mget_tl, mget_appW_o, mget_appW_n, mget_appW_e]))) rfl rfl) ?_
      refine imp (chk_of (by kernel_rfl)) ?_
      refine imp (opP_of (show _ = some ((AV.agg [(intA (IntKind.wrap .i64 (Int.tdiv (IntKind.wrap .i64 (x124.X + x125.X)) (2)))), (intA (IntKind.wrap .i64 (Int.tdiv (IntKind.wrap .i64 (x126.Y + x127.Y)) (2))))]), []) from (ldA_ptr (b := ⟨[(intA (IntKind.wrap .i64 (Int.tdiv (IntKind.wrap .i64 (x124.X + x125.X)) (2)))), (intA (IntKind.wrap .i64 (Int.tdiv (IntKind.wrap .i64 (x126.Y + x127.Y)) (2))))], 35⟩) (by first | rfl | (simp (disch := first | decide | assumption) only [mpushs_nil, mpushs_cons, mget_hd, mget_tl, mget_appW_o, mget_appW_n, mget_appW_e])) rfl))) ?_
      refine imp exA2_b ?_
      refine imp ex_i64_b ?_
      refine imp ex_i64_b ?_
      refine bind_b fun x128 h128 => ?_
      refine imp (callQ_says (sg76 h128)) ?_
      refine imp ex_i64_b ?_
      refine cond_b (fun _ => ?_) (fun _ => ?_)
      · exact fun hg => ret1 (hR _ (Option.some.inj hg).symm) (fz_sc _ _)
      · refine cond_b (fun _ => ?_) (fun _ => ?_)
        · refine imp (opP_of (show _ = some ((intA (a1.length : Int)), []) from rfl)) ?_
          refine imp ex_i64_b ?_
          exact fun hg => L82_0_1_0_ok n a0 a1 c4 w11 c17 v18 (a1.length : Int) k100010_0 k100010_1 k100011_0 k100011_1 (IntKind.wrap .i64 (Int.tdiv (IntKind.wrap .i64 (x124.X + x125.X)) (2))) (IntKind.wrap .i64 (Int.tdiv (IntKind.wrap .i64 (x126.Y + x127.Y)) (2))) R N0 N1 hR hN0 hN1 n _ hg (weak_mem [(90000, 90000), (100010, 100010), (100011, 100011), (300041, 300041)] rfl rfl rfl (okW_cons (ent_lst (E := TP.E) _ false) (okW_cons (ent_lst (E := TP.E) _ false) (okW_cons (.inl (leV_refl _)) (okW_cons (.inl (leV_refl _)) (okW_cons (.inl (leV_refl _)) (okW_cons (ent_own (E := TP.E) (id := 90000) (l' := L90000) rfl rfl) (okW_cons (.inl (leV_refl _)) (okW_cons (.inl (leV_refl _)) (okW_cons (.inl (leV_refl _)) (okW_cons (.inl (leV_refl _)) (okW_cons (.inl (leV_refl _)) (okW_cons (.inl (leV_refl _)) okW_nil)))))))))))) (okB_cons (okB_own (E := TP.E) (ty := 35) (l' := L90000) rfl (show mget _ 90000 = _ from (by first | rfl | (simp (disch := first | decide | assumption) only [mpushs_nil, mpushs_cons, mget_hd, mget_tl, mget_appW_o, mget_appW_n, mget_appW_e])))) (okB_cons (okB_cells (cs := [(intA k100010_0), (intA k100010_1)]) (ty := 35) rfl (show mget _ 100010 = _ from (by first | rfl | (simp (disch := first | decide | assumption) only [mpushs_nil, mpushs_cons, mget_hd, mget_tl, mget_appW_o, mget_appW_n, mget_appW_e])))) (okB_cons (okB_cells (cs := [(intA k100011_0), (intA k100011_1)]) (ty := 35) rfl (show mget _ 100011 = _ from (by first | rfl | (simp (disch := first | decide | assumption) only [mpushs_nil, mpushs_cons, mget_hd, mget_tl, mget_appW_o, mget_appW_n, mget_appW_e])))) (okB_cons (okB_cells (cs := [(intA (IntKind.wrap .i64 (Int.tdiv (IntKind.wrap .i64 (x124.X + x125.X)) (2)))), (intA (IntKind.wrap .i64 (Int.tdiv (IntKind.wrap .i64 (x126.Y + x127.Y)) (2))))]) (ty := 35) rfl (show mget _ 300041 = _ from (by first | rfl | (simp (disch := first | decide | assumption) only [mpushs_nil, mpushs_cons, mget_hd, mget_tl, mget_appW_o, mget_appW_n, mget_appW_e])))) okB_nil')))))
        · exact fun hg => hN1 _ (Option.some.inj hg).symm _ (weak_mem [(90000, 90000), (100010, 100010), (100011, 100011)] rfl rfl rfl (okW_cons (ent_lst (E := TP.E) _ false) (okW_cons (ent_lst (E := TP.E) _ false) (okW_cons (.inl (leV_refl _)) (okW_cons (.inl (leV_refl _)) (okW_cons (.inl (leV_refl _)) (okW_cons (ent_own (E := TP.E) (id := 90000) (l' := L90000) rfl rfl) (okW_cons (.inl (leV_refl _)) (okW_cons (.inl (leV_refl _)) (okW_cons (.inl (leV_refl _)) okW_nil))))))))) (okB_cons (okB_own (E := TP.E) (ty := 35) (l' := L90000) rfl (show mget _ 90000 = _ from (by first | rfl | (simp (disch := first | decide | assumption) only [mpushs_nil, mpushs_cons, mget_hd, mget_tl, mget_appW_o, mget_appW_n, mget_appW_e])))) (okB_cons (okB_cells (cs := [(intA k100010_0), (intA k100010_1)]) (ty := 35) rfl (show mget _ 100010 = _ from (by first | rfl | (simp (disch := first | decide | assumption) only [mpushs_nil, mpushs_cons, mget_hd, mget_tl, mget_appW_o, mget_appW_n, mget_appW_e])))) (okB_cons (okB_cells (cs := [(intA k100011_0), (intA k100011_1)]) (ty := 35) rfl (show mget _ 100011 = _ from (by first | rfl | (simp (disch := first | decide | assumption) only [mpushs_nil, mpushs_cons, mget_hd, mget_tl, mget_appW_o, mget_appW_n, mget_appW_e])))) okB_nil'))))
  · exact fun hg => hN0 _ (Option.some.inj hg).symm _ (weak_mem [] rfl rfl rfl (okW_cons (ent_lst (E := TP.E) _ false) (okW_cons (ent_lst (E := TP.E) _ false) (okW_cons (.inl (leV_refl _)) (okW_cons (.inl (leV_refl _)) (okW_cons (.inl (leV_refl _)) okW_nil))))) okB_nil')
theorem L82_0_1_ok (n : Nat) (a0 : List TP) (a1 : List TP) (c4 : Bool) (c17 : Int) (v18 : Int) (k100010_0 : Int) (k100010_1 : Int) (k100011_0 : Int) (k100011_1 : Int) {t : ((Int) ⊕ ρ82)} (R : AV → Mem → Prop) (N0 : St → Prop) (hR : ∀ r : ρ82, t = (.inr r) → ∀ u m, Ans ((boolA r)) u m → R u m) (hN0 : ∀ y : Int, t = (.inl y) → ∀ s' : St, Weak KK 127 0 s' (h82_0 (lstA TP.E a0) (lstA TP.E a1) c4 c17 y []) → N0 s') (k : Nat) (x : Int × List TP) (hx : iterO (fun y : Int × List TP => S82_0_1 n a0 a1 c4 c17 v18 k100010_0 k100010_1 k100011_0 k100011_1 y.1 y.2) k x = some t) {s : St} (hw : Weak KK 127 0 s (h82_0_1 (lstA TP.E a0) (lstA TP.E a1) c4 (ownV TP.E 90000 x.2) x.1 c17 v18 [(90000, ownB TP.E 35 x.2), (100010, some ⟨[(intA k100010_0), (intA k100010_1)], 35⟩), (100011, some ⟨[(intA k100011_0), (intA k100011_1)], 35⟩)])) : Tri Try.prog KK 127 0 (.loop c82_0_1) s (q82_0_1 R N0) :=
  L82_0_1 R N0 (σ := Nat × (Int × List TP)) (fun z => iterO (fun y : Int × List TP => S82_0_1 n a0 a1 c4 c17 v18 k100010_0 k100010_1 k100011_0 k100011_1 y.1 y.2) z.1 z.2 = some t) (fun z => (lstA TP.E a0)) (fun z => (lstA TP.E a1)) (fun z => c4) (fun z => (ownV TP.E 90000 z.2.2)) (fun z => z.2.1) (fun z => c17) (fun z => v18) (fun z => [(90000, ownB TP.E 35 z.2.2), (100010, some ⟨[(intA k100010_0), (intA k100010_1)], 35⟩), (100011, some ⟨[(intA k100011_0), (intA k100011_1)], 35⟩)]) (fun z => z.1) (by
    rintro ⟨k, y⟩ h
    cases k with
    | zero => exact (iterO_zero h).elim
    | succ k =>
      obtain ⟨u, h1, h2, h3⟩ := iterO_elim h
      exact B82_0_1_ok n a0 a1 c4 c17 v18 k100010_0 k100010_1 k100011_0 k100011_1 y.1 y.2 R N0 _ (fun r e => hR r (h3 _ e).symm) (fun y' e => hN0 y' (h3 _ e).symm) (fun y' e s' hw => ⟨(k, y'), h2 _ e, Nat.lt_succ_self k, hw⟩) h1) (k, x) hx hw
theorem B82_0_0_ok (n : Nat) (a0 : List TP) (a1 : List TP) (c4 : Bool) (c17 : Int) (v18 : Int) (c32 : Int) (k100010_0 : Int) (k100010_1 : Int) (k100011_0 : Int) (k100011_1 : Int) (w33 : Int) (L90000 : List TP) {t : (Int × List TP) ⊕ ((Int) ⊕ ρ82)} (R : AV → Mem → Prop) (N0 : St → Prop) (N1 : St → Prop) (hR : ∀ r : ρ82, t = (.inr (.inr r)) → ∀ u m, Ans ((boolA r)) u m → R u m) (hN0 : ∀ y : Int, t = (.inr (.inl y)) → ∀ s' : St, Weak KK 127 0 s' (h82_0 (lstA TP.E a0) (lstA TP.E a1) c4 c17 y []) → N0 s') (hN1 : ∀ y : Int × List TP, t = (.inl y) → ∀ s' : St, Weak KK 127 0 s' (h82_0_0 (lstA TP.E a0) (lstA TP.E a1) c4 (ownV TP.E 90000 y.2) c17 v18 (lstA TP.E a1) c32 y.1 [(90000, ownB TP.E 35 y.2), (100010, some ⟨[(intA k100010_0), (intA k100010_1)], 35⟩), (100011, some ⟨[(intA k100011_0), (intA k100011_1)], 35⟩)]) → N1 s') : S82_0_0 n a0 a1 c4 c17 v18 c32 k100010_0 k100010_1 k100011_0 k100011_1 w33 L90000 = some t → B82_0_0 (lstA TP.E a0) (lstA TP.E a1) c4 (ownV TP.E 90000 L90000) c17 v18 (lstA TP.E a1) c32 w33 [(90000, ownB TP.E 35 L90000), (100010, some ⟨[(intA k100010_0), (intA k100010_1)], 35⟩), (100011, some ⟨[(intA k100011_0), (intA k100011_1)], 35⟩)] R N0 N1 := by
  unfold S82_0_0 B82_0_0
  refine cond_b (fun _ => ?_) (fun _ => ?_)
  · refine bind_b fun x113 h113 => ?_
    refine imp (opP_of (show _ = some ((AV.ept [(intA x113.X), (intA x113.Y)] 0), []) from (idx_lst (E := TP.E) rfl h113))) ?_
    refine imp (opP_of (show _ = some ((AV.agg [(intA x113.X), (intA x113.Y)]), []) from rfl)) ?_
    refine imp exA2_b ?_
    refine imp ex_i64_b ?_
    refine imp ex_i64_b ?_
    refine imp (opP_of (show _ = some ((AV.agg [(intA k100010_0), (intA k100010_1)]), []) from (ldA_ptr (b := ⟨[(intA k100010_0), (intA k100010_1)], 35⟩) (by first | rfl | (simp (disch := first | decide | assumption) only [mpushs_nil, mpushs_cons, mget_hd, mget_tl, mget_appW_o, mget_appW_n, mget_appW_e])) rfl))) ?_
    refine imp exA2_b ?_
    refine imp ex_i64_b ?_
    refine imp ex_i64_b ?_
    refine imp (opP_of (show _ = some ((AV.agg [(intA k100011_0), (intA k100011_1)]), []) from (ldA_ptr (b := ⟨[(intA k100011_0), (intA k100011_1)], 35⟩) (by first | rfl | (simp (disch := first | decide | assumption) only [mpushs_nil, mpushs_cons, mget_hd, mget_tl, mget_appW_o, mget_appW_n, mget_appW_e])) rfl))) ?_
    refine imp exA2_b ?_
    refine imp ex_i64_b ?_
    refine imp ex_i64_b ?_
    refine bind_b fun x114 h114 => ?_
    refine imp (callQ_says (sg84 h114)) ?_
    refine imp exB_b ?_
    refine cond_b (fun _ => ?_) (fun _ => ?_)
    · refine imp (opN_of (show _ = some ((blkV TP.E 200074 ([x113] : List TP)), [(200074, some ⟨encs TP.E ([x113] : List TP), 35⟩)]) from rfl)) ?_
      refine bind_b fun x116 h116 => ?_
      refine imp (opN_of (show _ = some ((ownV TP.E 200075 (L90000 ++ ([x113] : List TP))), (appW TP.E 200075 90000 35 L90000 ([x113] : List TP))) from (app_own (E := TP.E) (l' := L90000) (xs := ([x113] : List TP)) rfl rfl (cellsOf_blk (E := TP.E) (ty := 35) rfl rfl (by first | rfl | (simp (disch := first | decide | assumption) only [mpushs_nil, mpushs_cons, mget_hd, mget_tl, mget_appW_o, mget_appW_n, mget_appW_e]))) (by first | assumption | simp) rfl (fun hne => Eq.trans (by first | rfl | (simp (disch := first | decide | assumption) only [mpushs_nil, mpushs_cons, mget_hd, mget_tl, mget_appW_o, mget_appW_n, mget_appW_e])) (ownB_ne hne)) h116))) ?_
      exact fun hg => hN1 _ (Option.some.inj hg).symm _ (weak_mem [(90000, 200075), (100010, 100010), (100011, 100011)] rfl rfl rfl (okW_cons (ent_lst (E := TP.E) _ false) (okW_cons (ent_lst (E := TP.E) _ false) (okW_cons (.inl (leV_refl _)) (okW_cons (.inl (leV_refl _)) (okW_cons (.inl (leV_refl _)) (okW_cons (ent_own (E := TP.E) (id := 200075) (l' := (L90000 ++ ([x113] : List TP))) rfl rfl) (okW_cons (.inl (leV_refl _)) (okW_cons (.inl (leV_refl _)) (okW_cons (ent_lst (E := TP.E) _ false) (okW_cons (.inl (leV_refl _)) (okW_cons (.inl (leV_refl _)) okW_nil))))))))))) (okB_cons (okB_own (E := TP.E) (ty := 35) (l' := (L90000 ++ ([x113] : List TP))) rfl (show mget _ 200075 = _ from (by first | rfl | (simp (disch := first | decide | assumption) only [mpushs_nil, mpushs_cons, mget_hd, mget_tl, mget_appW_o, mget_appW_n, mget_appW_e])))) (okB_cons (okB_cells (cs := [(intA k100010_0), (intA k100010_1)]) (ty := 35) rfl (show mget _ 100010 = _ from (by first | rfl | (simp (disch := first | decide | assumption) only [mpushs_nil, mpushs_cons, mget_hd, mget_tl, mget_appW_o, mget_appW_n, mget_appW_e])))) (okB_cons (okB_cells (cs := [(intA k100011_0), (intA k100011_1)]) (ty := 35) rfl (show mget _ 100011 = _ from (by first | rfl | (simp (disch := first | decide | assumption) only [mpushs_nil, mpushs_cons, mget_hd, mget_tl, mget_appW_o, mget_appW_n, mget_appW_e])))) okB_nil'))))
    · exact fun hg => hN1 _ (Option.some.inj hg).symm _ (weak_mem [(90000, 90000), (100010, 100010), (100011, 100011)] rfl rfl rfl (okW_cons (ent_lst (E := TP.E) _ false) (okW_cons (ent_lst (E := TP.E) _ false) (okW_cons (.inl (leV_refl _)) (okW_cons (.inl (leV_refl _)) (okW_cons (.inl (leV_refl _)) (okW_cons (ent_own (E := TP.E) (id := 90000) (l' := L90000) rfl rfl) (okW_cons (.inl (leV_refl _)) (okW_cons (.inl (leV_refl _)) (okW_cons (ent_lst (E := TP.E) _ false) (okW_cons (.inl (leV_refl _)) (okW_cons (.inl (leV_refl _)) okW_nil))))))))))) (okB_cons (okB_own (E := TP.E) (ty := 35) (l' := L90000) rfl (show mget _ 90000 = _ from (by first | rfl | (simp (disch := first | decide | assumption) only [mpushs_nil, mpushs_cons, mget_hd, mget_tl, mget_appW_o, mget_appW_n, mget_appW_e])))) (okB_cons (okB_cells (cs := [(intA k100010_0), (intA k100010_1)]) (ty := 35) rfl (show mget _ 100010 = _ from (by first | rfl | (simp (disch := first | decide | assumption) only [mpushs_nil, mpushs_cons, mget_hd, mget_tl, mget_appW_o, mget_appW_n, mget_appW_e])))) (okB_cons (okB_cells (cs := [(intA k100011_0), (intA k100011_1)]) (ty := 35) rfl (show mget _ 100011 = _ from (by first | rfl | (simp (disch := first | decide | assumption) only [mpushs_nil, mpushs_cons, mget_hd, mget_tl, mget_appW_o, mget_appW_n, mget_appW_e])))) okB_nil'))))
  · refine bind_b fun x121 h121 => ?_
    have lh121 := sortO_len h121
    refine imp (callW_sortV (hx := rfl) (E := TP.E) (ty := 35) (l := L90000) (cmp := (fun x y => g98 n x y k100010_0 k100010_1)) rfl TP.ok sorts97 none97 plain97 rfl (by first | rfl | (simp (disch := first | decide | assumption) only [mpushs_nil, mpushs_cons, mget_hd, mget_tl, mget_appW_o, mget_appW_n, mget_appW_e])) (capsOk_cons (.inr ⟨_, _, _, _, rfl, by decide, (by first | rfl | (simp (disch := first | decide | assumption) only [mpushs_nil, mpushs_cons, mget_hd, mget_tl, mget_appW_o, mget_appW_n, mget_appW_e])), by first | rfl | simp [cleans, clean, encs_clean], rfl⟩) capsOk_nil) (fun x y z h => sg98 h) h121) ?_
    refine imp exT0_b ?_
    refine mapInr_b fun t0 e0 => ?_
    exact fun hg => L82_0_1_ok n a0 a1 c4 c17 v18 k100010_0 k100010_1 k100011_0 k100011_1 R N0 (fun r e => hR r (e0.trans (congrArg Sum.inr e))) (fun y e => hN0 y (e0.trans (congrArg Sum.inr e))) n _ hg (weak_mem [(90000, 90000), (100010, 100010), (100011, 100011)] rfl rfl rfl (okW_cons (ent_lst (E := TP.E) _ false) (okW_cons (ent_lst (E := TP.E) _ false) (okW_cons (.inl (leV_refl _)) (okW_cons (.inl (leV_refl _)) (okW_cons (.inl (leV_refl _)) (okW_cons (ent_own (E := TP.E) (id := 90000) (l' := x121) (by first | rfl | omega | (simp; done) | (simp; omega)) rfl) (okW_cons (.inl (leV_refl _)) (okW_cons (.inl (leV_refl _)) (okW_cons (.inl (leV_refl _)) okW_nil))))))))) (okB_cons (okB_own (E := TP.E) (ty := 35) (l' := x121) rfl (show mget _ 90000 = _ from (by first | rfl | (simp (disch := first | decide | assumption) only [mpushs_nil, mpushs_cons, mget_hd, mget_tl, mget_appW_o, mget_appW_n, mget_appW_e])))) (okB_cons (okB_cells (cs := [(intA k100010_0), (intA k100010_1)]) (ty := 35) rfl (show mget _ 100010 = _ from (by first | rfl | (simp (disch := first | decide | assumption) only [mpushs_nil, mpushs_cons, mget_hd, mget_tl, mget_appW_o, mget_appW_n, mget_appW_e])))) (okB_cons (okB_cells (cs := [(intA k100011_0), (intA k100011_1)]) (ty := 35) rfl (show mget _ 100011 = _ from (by first | rfl | (simp (disch := first | decide | assumption) only [mpushs_nil, mpushs_cons, mget_hd, mget_tl, mget_appW_o, mget_appW_n, mget_appW_e])))) okB_nil'))))
theorem L82_0_0_ok (n : Nat) (a0 : List TP) (a1 : List TP) (c4 : Bool) (c17 : Int) (v18 : Int) (c32 : Int) (k100010_0 : Int) (k100010_1 : Int) (k100011_0 : Int) (k100011_1 : Int) {t : ((Int) ⊕ ρ82)} (R : AV → Mem → Prop) (N0 : St → Prop) (hR : ∀ r : ρ82, t = (.inr r) → ∀ u m, Ans ((boolA r)) u m → R u m) (hN0 : ∀ y : Int, t = (.inl y) → ∀ s' : St, Weak KK 127 0 s' (h82_0 (lstA TP.E a0) (lstA TP.E a1) c4 c17 y []) → N0 s') (k : Nat) (x : Int × List TP) (hx : iterO (fun y : Int × List TP => S82_0_0 n a0 a1 c4 c17 v18 c32 k100010_0 k100010_1 k100011_0 k100011_1 y.1 y.2) k x = some t) {s : St} (hw : Weak KK 127 0 s (h82_0_0 (lstA TP.E a0) (lstA TP.E a1) c4 (ownV TP.E 90000 x.2) c17 v18 (lstA TP.E a1) c32 x.1 [(90000, ownB TP.E 35 x.2), (100010, some ⟨[(intA k100010_0), (intA k100010_1)], 35⟩), (100011, some ⟨[(intA k100011_0), (intA k100011_1)], 35⟩)])) : Tri Try.prog KK 127 0 (.loop c82_0_0) s (q82_0_0 R N0) :=
  L82_0_0 R N0 (σ := Nat × (Int × List TP)) (fun z => iterO (fun y : Int × List TP => S82_0_0 n a0 a1 c4 c17 v18 c32 k100010_0 k100010_1 k100011_0 k100011_1 y.1 y.2) z.1 z.2 = some t) (fun z => (lstA TP.E a0)) (fun z => (lstA TP.E a1)) (fun z => c4) (fun z => (ownV TP.E 90000 z.2.2)) (fun z => c17) (fun z => v18) (fun z => (lstA TP.E a1)) (fun z => c32) (fun z => z.2.1) (fun z => [(90000, ownB TP.E 35 z.2.2), (100010, some ⟨[(intA k100010_0), (intA k100010_1)], 35⟩), (100011, some ⟨[(intA k100011_0), (intA k100011_1)], 35⟩)]) (fun z => z.1) (by
    rintro ⟨k, y⟩ h
    cases k with
    | zero => exact (iterO_zero h).elim
    | succ k =>
      obtain ⟨u, h1, h2, h3⟩ := iterO_elim h
      exact B82_0_0_ok n a0 a1 c4 c17 v18 c32 k100010_0 k100010_1 k100011_0 k100011_1 y.1 y.2 R N0 _ (fun r e => hR r (h3 _ e).symm) (fun y' e => hN0 y' (h3 _ e).symm) (fun y' e s' hw => ⟨(k, y'), h2 _ e, Nat.lt_succ_self k, hw⟩) h1) (k, x) hx hw
theorem B82_0_ok (n : Nat) (a0 : List TP) (a1 : List TP) (c4 : Bool) (c17 : Int) (v18 : Int) {t : (Int) ⊕ ρ82} (R : AV → Mem → Prop) (N0 : St → Prop) (hR : ∀ r : ρ82, t = (.inr r) → ∀ u m, Ans ((boolA r)) u m → R u m) (hN0 : ∀ y : Int, t = (.inl y) → ∀ s' : St, Weak KK 127 0 s' (h82_0 (lstA TP.E a0) (lstA TP.E a1) c4 c17 y []) → N0 s') : S82_0 n a0 a1 c4 c17 v18 = some t → B82_0 (lstA TP.E a0) (lstA TP.E a1) c4 c17 v18 [] R N0 := by
  unfold S82_0 B82_0
  refine cond_b (fun _ => ?_) (fun _ => ?_)
  · refine bind_b fun x111 h111 => ?_
    refine imp (opM_of (show _ = some ((AV.ept [(intA x111.X), (intA x111.Y)] 0), []) from (idx_lst (E := TP.E) rfl h111))) ?_
    refine imp (opM_of (show _ = some ((AV.agg [(intA x111.X), (intA x111.Y)]), []) from rfl)) ?_
    refine imp exA2_b ?_
    refine imp ex_i64_b ?_
    refine imp ex_i64_b ?_
    refine bind_b fun x112 h112 => ?_
    refine imp (callF_says (sg72 h112)) ?_
    refine imp exA2_b ?_
    refine imp ex_i64_b ?_
    refine imp ex_i64_b ?_
    refine imp (storeW_cells (sz := 2) (by kernel_rfl) (by kernel_rfl) rfl rfl (cs := [(intA (0)), (intA (0))]) (cs' := [(intA x111.X), (intA x111.Y)]) (ty := 35) (by first | rfl | (rw [look'_mem (by first | rfl | simp [topId_blk] | simp [topId])]; first | rfl | (simp (disch := first | decide | assumption) only [mpushs_nil, mpushs_cons, mget_hd, mget_tl, mget_appW_o, mget_appW_n, mget_appW_e]))) rfl rfl) ?_
    refine imp (storeW_cells (sz := 2) (by kernel_rfl) (by kernel_rfl) rfl rfl (cs := [(intA (0)), (intA (0))]) (cs' := [(intA x112.X), (intA x112.Y)]) (ty := 35) (by first | rfl | (rw [look'_mem (by first | rfl | simp [topId_blk] | simp [topId])]; first | rfl | (simp (disch := first | decide | assumption) only [mpushs_nil, mpushs_cons, mget_hd, mget_tl, mget_appW_o, mget_appW_n, mget_appW_e]))) rfl rfl) ?_
    refine imp (chk_of (by kernel_rfl)) ?_
    refine imp (opP_of (show _ = some ((AV.agg [(intA x111.X), (intA x111.Y)]), []) from (ldA_ptr (b := ⟨[(intA x111.X), (intA x111.Y)], 35⟩) (by first | rfl | (simp (disch := first | decide | assumption) only [mpushs_nil, mpushs_cons, mget_hd, mget_tl, mget_appW_o, mget_appW_n, mget_appW_e])) rfl))) ?_
    refine imp exA2_b ?_
    refine imp ex_i64_b ?_
    refine imp ex_i64_b ?_
    refine imp (opP_of (show _ = some ((AV.agg [(intA x112.X), (intA x112.Y)]), []) from (ldA_ptr (b := ⟨[(intA x112.X), (intA x112.Y)], 35⟩) (by first | rfl | (simp (disch := first | decide | assumption) only [mpushs_nil, mpushs_cons, mget_hd, mget_tl, mget_appW_o, mget_appW_n, mget_appW_e])) rfl))) ?_
    refine imp exA2_b ?_
    refine imp ex_i64_b ?_
    refine imp ex_i64_b ?_
    refine imp (opN_of (show _ = some ((blkV TP.E 100016 ([x111, x112] : List TP)), [(100016, some ⟨encs TP.E ([x111, x112] : List TP), 35⟩)]) from rfl)) ?_
    refine imp (opP_of (show _ = some ((intA (a1.length : Int)), []) from rfl)) ?_
    refine imp ex_i64_b ?_
    exact fun hg => L82_0_0_ok n a0 a1 c4 c17 v18 (a1.length : Int) x111.X x111.Y x112.X x112.Y R N0 hR hN0 n _ hg (weak_mem [(90000, 100016), (100010, 100010), (100011, 100011)] rfl rfl rfl (okW_cons (ent_lst (E := TP.E) _ false) (okW_cons (ent_lst (E := TP.E) _ false) (okW_cons (.inl (leV_refl _)) (okW_cons (.inl (leV_refl _)) (okW_cons (.inl (leV_refl _)) (okW_cons (ent_blk_own (E := TP.E) (id := 100016) (l' := ([x111, x112] : List TP)) (by simp) rfl rfl) (okW_cons (.inl (leV_refl _)) (okW_cons (.inl (leV_refl _)) (okW_cons (ent_lst (E := TP.E) _ false) (okW_cons (.inl (leV_refl _)) (okW_cons (.inl (leV_refl _)) okW_nil))))))))))) (okB_cons (okB_own (E := TP.E) (ty := 35) (l' := ([x111, x112] : List TP)) rfl (Eq.trans (show mget _ 100016 = _ from (by first | rfl | (simp (disch := first | decide | assumption) only [mpushs_nil, mpushs_cons, mget_hd, mget_tl, mget_appW_o, mget_appW_n, mget_appW_e]))) (Eq.symm (ownB_ne (by simp))))) (okB_cons (okB_cells (cs := [(intA x111.X), (intA x111.Y)]) (ty := 35) rfl (show mget _ 100010 = _ from (by first | rfl | (simp (disch := first | decide | assumption) only [mpushs_nil, mpushs_cons, mget_hd, mget_tl, mget_appW_o, mget_appW_n, mget_appW_e])))) (okB_cons (okB_cells (cs := [(intA x112.X), (intA x112.Y)]) (ty := 35) rfl (show mget _ 100011 = _ from (by first | rfl | (simp (disch := first | decide | assumption) only [mpushs_nil, mpushs_cons, mget_hd, mget_tl, mget_appW_o, mget_appW_n, mget_appW_e])))) okB_nil'))))
  · exact fun hg => ret1 (hR _ (Option.some.inj hg).symm) (fz_sc _ _)
theorem L82_0_ok (n : Nat) (a0 : List TP) (a1 : List TP) (c4 : Bool) (c17 : Int) {t : ρ82} (R : AV → Mem → Prop) (hR : ∀ r : ρ82, t = r → ∀ u m, Ans ((boolA r)) u m → R u m) (k : Nat) (x : Int) (hx : iterO (fun y : Int => S82_0 n a0 a1 c4 c17 y) k x = some t) {s : St} (hw : Weak KK 127 0 s (h82_0 (lstA TP.E a0) (lstA TP.E a1) c4 c17 x [])) : Tri Try.prog KK 127 0 (.loop c82_0) s (q82_0 R ) :=
  L82_0 R  (σ := Nat × (Int)) (fun z => iterO (fun y : Int => S82_0 n a0 a1 c4 c17 y) z.1 z.2 = some t) (fun z => (lstA TP.E a0)) (fun z => (lstA TP.E a1)) (fun z => c4) (fun z => c17) (fun z => z.2) (fun z => []) (fun z => z.1) (by
    rintro ⟨k, y⟩ h
    cases k with
    | zero => exact (iterO_zero h).elim
    | succ k =>
      obtain ⟨u, h1, h2, h3⟩ := iterO_elim h
      exact B82_0_ok n a0 a1 c4 c17 y R  _ (fun r e => hR r (h3 _ e).symm)  (fun y' e s' hw => ⟨(k, y'), h2 _ e, Nat.lt_succ_self k, hw⟩) h1) (k, x) hx hw
theorem g82_ok (n : Nat) (a0 : List TP) (a1 : List TP) {t : ρ82} (R : AV → Mem → Prop) (hR : ∀ r : ρ82, t = r → ∀ u m, Ans ((boolA r)) u m → R u m) : g82 n a0 a1 = some t → F82 (lstA TP.E a0) (lstA TP.E a1) R := by
  unfold g82 F82
  refine imp (opP_of (show _ = some ((intA (a0.length : Int)), []) from rfl)) ?_
  refine imp ex_i64_b ?_
  exact fun hg => L82_0_ok n a0 a1 false (a0.length : Int) R  hR n _ hg (weak_mem [] rfl rfl rfl (okW_cons (ent_lst (E := TP.E) _ false) (okW_cons (ent_lst (E := TP.E) _ false) (okW_cons (.inl (leV_refl _)) (okW_cons (.inl (leV_refl _)) (okW_cons (.inl (leV_refl _)) okW_nil))))) okB_nil')
theorem sg82 {n : Nat} {a0 : List TP} {a1 : List TP} {t : ρ82} (h : g82 n a0 a1 = some t) : Says Try.prog KK.gl 82 [(lstA TP.E a0), (lstA TP.E a1)] ((boolA t)) :=
  says_of_own (by first | rfl | simp [cleans, clean, encs_clean, En.cln]) (by first | rfl | simp [cleans, clean, encs_clean, En.cln]) (F82_own (lstA TP.E a0) (lstA TP.E a1) _ (g82_ok n a0 a1 (Ans ((boolA t))) (fun r e u m h => by rw [e]; exact h) h))
/- skyway/polygon.Overlap -/
theorem B69_1_0_ok (n : Nat) (a0 : List TP) (a1 : List TP) (c4 : Bool) (c5 : Int) (v27 : Int) (c26 : Int) (c31 : Int) (w32 : Int) {t : (Int) ⊕ ((Int) ⊕ ρ69)} (R : AV → Mem → Prop) (N0 : St → Prop) (N1 : St → Prop) (hR : ∀ r : ρ69, t = (.inr (.inr r)) → ∀ u m, Ans ((AV.tup [(boolA r.1), (intA r.2)])) u m → R u m) (hN0 : ∀ y : Int, t = (.inr (.inl y)) → ∀ s' : St, Weak KK 64 0 s' (h69_1 (lstA TP.E a0) (lstA TP.E a1) c4 c5 c26 y []) → N0 s') (hN1 : ∀ y : Int, t = (.inl y) → ∀ s' : St, Weak KK 64 0 s' (h69_1_0 (lstA TP.E a0) (lstA TP.E a1) c4 c5 v27 c26 v27 c31 y []) → N1 s') : S69_1_0 n a0 a1 c4 c5 v27 c26 c31 w32 = some t → B69_1_0 (lstA TP.E a0) (lstA TP.E a1) c4 c5 v27 c26 v27 c31 w32 [] R N0 N1 := by
  unfold S69_1_0 B69_1_0
  refine cond_b (fun _ => ?_) (fun _ => ?_)
  · refine bind_b fun x101 h101 => ?_
    refine imp (opP_of (show _ = some ((AV.ept [(intA x101.X), (intA x101.Y)] 0), []) from (idx_lst (E := TP.E) rfl h101))) ?_
    refine imp (opP_of (show _ = some ((AV.agg [(intA x101.X), (intA x101.Y)]), []) from rfl)) ?_
    refine imp exA2_b ?_
    refine imp ex_i64_b ?_
    refine imp ex_i64_b ?_
    refine bind_b fun x102 h102 => ?_
    refine imp (callQ_says (sg72 h102)) ?_
    refine imp exA2_b ?_
    refine imp ex_i64_b ?_
    refine imp ex_i64_b ?_
    refine bind_b fun x103 h103 => ?_
    refine imp (opP_of (show _ = some ((AV.ept [(intA x103.X), (intA x103.Y)] 0), []) from (idx_lst (E := TP.E) rfl h103))) ?_
    refine imp (opP_of (show _ = some ((AV.agg [(intA x103.X), (intA x103.Y)]), []) from rfl)) ?_
    refine imp exA2_b ?_
    refine imp ex_i64_b ?_
    refine imp ex_i64_b ?_
    refine bind_b fun x104 h104 => ?_
    refine imp (callQ_says (sg72 h104)) ?_
    refine imp exA2_b ?_
    refine imp ex_i64_b ?_
    refine imp ex_i64_b ?_
    refine bind_b fun x105 h105 => ?_
    refine imp (callQ_says (sg80 h105)) ?_
    refine imp exB_b ?_
    refine cond_b (fun _ => ?_) (fun _ => ?_)
    · exact fun hg => retN rfl (hR _ (Option.some.inj hg).symm) (fzL_cons (fz_sc _ _) (fzL_cons (fz_sc _ _) fzL_nil))
    · exact fun hg => hN1 _ (Option.some.inj hg).symm _ (weak_mem [] rfl rfl rfl (okW_cons (ent_lst (E := TP.E) _ false) (okW_cons (ent_lst (E := TP.E) _ false) (okW_cons (.inl (leV_refl _)) (okW_cons (.inl (leV_refl _)) (okW_cons (.inl (leV_refl _)) (okW_cons (.inl (leV_refl _)) (okW_cons (.inl (leV_refl _)) (okW_cons (.inl (leV_refl _)) (okW_cons (.inl (leV_refl _)) okW_nil))))))))) okB_nil')
  · exact fun hg => hN0 _ (Option.some.inj hg).symm _ (weak_mem [] rfl rfl rfl (okW_cons (ent_lst (E := TP.E) _ false) (okW_cons (ent_lst (E := TP.E) _ false) (okW_cons (.inl (leV_refl _)) (okW_cons (.inl (leV_refl _)) (okW_cons (.inl (leV_refl _)) (okW_cons (.inl (leV_refl _)) okW_nil)))))) okB_nil')
theorem L69_1_0_ok (n : Nat) (a0 : List TP) (a1 : List TP) (c4 : Bool) (c5 : Int) (v27 : Int) (c26 : Int) (c31 : Int) {t : ((Int) ⊕ ρ69)} (R : AV → Mem → Prop) (N0 : St → Prop) (hR : ∀ r : ρ69, t = (.inr r) → ∀ u m, Ans ((AV.tup [(boolA r.1), (intA r.2)])) u m → R u m) (hN0 : ∀ y : Int, t = (.inl y) → ∀ s' : St, Weak KK 64 0 s' (h69_1 (lstA TP.E a0) (lstA TP.E a1) c4 c5 c26 y []) → N0 s') (k : Nat) (x : Int) (hx : iterO (fun y : Int => S69_1_0 n a0 a1 c4 c5 v27 c26 c31 y) k x = some t) {s : St} (hw : Weak KK 64 0 s (h69_1_0 (lstA TP.E a0) (lstA TP.E a1) c4 c5 v27 c26 v27 c31 x [])) : Tri Try.prog KK 64 0 (.loop c69_1_0) s (q69_1_0 R N0) :=
  L69_1_0 R N0 (σ := Nat × (Int)) (fun z => iterO (fun y : Int => S69_1_0 n a0 a1 c4 c5 v27 c26 c31 y) z.1 z.2 = some t) (fun z => (lstA TP.E a0)) (fun z => (lstA TP.E a1)) (fun z => c4) (fun z => c5) (fun z => v27) (fun z => c26) (fun z => v27) (fun z => c31) (fun z => z.2) (fun z => []) (fun z => z.1) (by
    rintro ⟨k, y⟩ h
    cases k with
    | zero => exact (iterO_zero h).elim
    | succ k =>
      obtain ⟨u, h1, h2, h3⟩ := iterO_elim h
      exact B69_1_0_ok n a0 a1 c4 c5 v27 c26 c31 y R N0 _ (fun r e => hR r (h3 _ e).symm) (fun y' e => hN0 y' (h3 _ e).symm) (fun y' e s' hw => ⟨(k, y'), h2 _ e, Nat.lt_succ_self k, hw⟩) h1) (k, x) hx hw
theorem B69_1_ok (n : Nat) (a0 : List TP) (a1 : List TP) (c4 : Bool) (c5 : Int) (c26 : Int) (v27 : Int) {t : (Int) ⊕ ρ69} (R : AV → Mem → Prop) (N0 : St → Prop) (hR : ∀ r : ρ69, t = (.inr r) → ∀ u m, Ans ((AV.tup [(boolA r.1), (intA r.2)])) u m → R u m) (hN0 : ∀ y : Int, t = (.inl y) → ∀ s' : St, Weak KK 64 0 s' (h69_1 (lstA TP.E a0) (lstA TP.E a1) c4 c5 c26 y []) → N0 s') : S69_1 n a0 a1 c4 c5 c26 v27 = some t → B69_1 (lstA TP.E a0) (lstA TP.E a1) c4 c5 c26 v27 [] R N0 := by
  unfold S69_1 B69_1
  refine cond_b (fun _ => ?_) (fun _ => ?_)
  · refine imp (opP_of (show _ = some ((intA (a1.length : Int)), []) from rfl)) ?_
    refine imp ex_i64_b ?_
    exact fun hg => L69_1_0_ok n a0 a1 c4 c5 v27 c26 (a1.length : Int) R N0 hR hN0 n _ hg (weak_mem [] rfl rfl rfl (okW_cons (ent_lst (E := TP.E) _ false) (okW_cons (ent_lst (E := TP.E) _ false) (okW_cons (.inl (leV_refl _)) (okW_cons (.inl (leV_refl _)) (okW_cons (.inl (leV_refl _)) (okW_cons (.inl (leV_refl _)) (okW_cons (.inl (leV_refl _)) (okW_cons (.inl (leV_refl _)) (okW_cons (.inl (leV_refl _)) okW_nil))))))))) okB_nil')
  · refine bind_b fun x109 h109 => ?_
    refine imp (callQ_says (sg81 h109)) ?_
    refine bind_b fun x110 h110 => ?_
    refine imp (callQ_says (sg81 h110)) ?_
    refine bind_b fun x135 h135 => ?_
    refine imp (callQ_says (sg82 h135)) ?_
    refine imp exB_b ?_
    refine cond_b (fun _ => ?_) (fun _ => ?_)
    · exact fun hg => retN rfl (hR _ (Option.some.inj hg).symm) (fzL_cons (fz_sc _ _) (fzL_cons (fz_sc _ _) fzL_nil))
    · refine bind_b fun x136 h136 => ?_
      refine imp (callQ_says (sg82 h136)) ?_
      refine imp exB_b ?_
      exact fun hg => retN rfl (hR _ (Option.some.inj hg).symm) (fzL_cons (fz_sc _ _) (fzL_cons (fz_sc _ _) fzL_nil))
theorem L69_1_ok (n : Nat) (a0 : List TP) (a1 : List TP) (c4 : Bool) (c5 : Int) (c26 : Int) {t : ρ69} (R : AV → Mem → Prop) (hR : ∀ r : ρ69, t = r → ∀ u m, Ans ((AV.tup [(boolA r.1), (intA r.2)])) u m → R u m) (k : Nat) (x : Int) (hx : iterO (fun y : Int => S69_1 n a0 a1 c4 c5 c26 y) k x = some t) {s : St} (hw : Weak KK 64 0 s (h69_1 (lstA TP.E a0) (lstA TP.E a1) c4 c5 c26 x [])) : Tri Try.prog KK 64 0 (.loop c69_1) s (q69_1 R ) :=
  L69_1 R  (σ := Nat × (Int)) (fun z => iterO (fun y : Int => S69_1 n a0 a1 c4 c5 c26 y) z.1 z.2 = some t) (fun z => (lstA TP.E a0)) (fun z => (lstA TP.E a1)) (fun z => c4) (fun z => c5) (fun z => c26) (fun z => z.2) (fun z => []) (fun z => z.1) (by
    rintro ⟨k, y⟩ h
    cases k with
    | zero => exact (iterO_zero h).elim
    | succ k =>
      obtain ⟨u, h1, h2, h3⟩ := iterO_elim h
      exact B69_1_ok n a0 a1 c4 c5 c26 y R  _ (fun r e => hR r (h3 _ e).symm)  (fun y' e s' hw => ⟨(k, y'), h2 _ e, Nat.lt_succ_self k, hw⟩) h1) (k, x) hx hw
theorem B69_0_ok (n : Nat) (a0 : List TP) (a1 : List TP) (c4 : Bool) (c5 : Int) (c13 : List (List TP)) (c14 : Int) (v15 : Int) {t : (Int) ⊕ ρ69} (R : AV → Mem → Prop) (N0 : St → Prop) (hR : ∀ r : ρ69, t = (.inr r) → ∀ u m, Ans ((AV.tup [(boolA r.1), (intA r.2)])) u m → R u m) (hN0 : ∀ y : Int, t = (.inl y) → ∀ s' : St, Weak KK 64 0 s' (h69_0 (lstA TP.E a0) (lstA TP.E a1) c4 c5 (lstA (lstE TP.E) c13) c14 y []) → N0 s') : S69_0 n a0 a1 c4 c5 c13 c14 v15 = some t → B69_0 (lstA TP.E a0) (lstA TP.E a1) c4 c5 (lstA (lstE TP.E) c13) c14 v15 [] R N0 := by
  unfold S69_0 B69_0
  refine cond_b (fun _ => ?_) (fun _ => ?_)
  · refine bind_b fun x99 h99 => ?_
    refine imp (opP_of (show _ = some ((AV.ept [(lstA TP.E x99)] 0), []) from (idx_lst (E := (lstE TP.E)) rfl h99))) ?_
    refine imp (opP_of (show _ = some ((lstA TP.E x99), []) from rfl)) ?_
    refine bind_b fun x100 h100 => ?_
    refine imp (callQ_says (sg52 h100)) ?_
    refine imp ex_i64_b ?_
    refine cond_b (fun _ => ?_) (fun _ => ?_)
    · exact fun hg => retN rfl (hR _ (Option.some.inj hg).symm) (fzL_cons (fz_sc _ _) (fzL_cons (fz_sc _ _) fzL_nil))
    · exact fun hg => hN0 _ (Option.some.inj hg).symm _ (weak_mem [] rfl rfl rfl (okW_cons (ent_lst (E := TP.E) _ false) (okW_cons (ent_lst (E := TP.E) _ false) (okW_cons (.inl (leV_refl _)) (okW_cons (.inl (leV_refl _)) (okW_cons (ent_lst (E := (lstE TP.E)) _ false) (okW_cons (.inl (leV_refl _)) (okW_cons (.inl (leV_refl _)) okW_nil))))))) okB_nil')
  · refine imp (opP_of (show _ = some ((intA (a0.length : Int)), []) from rfl)) ?_
    refine imp ex_i64_b ?_
    refine mapInr_b fun t0 e0 => ?_
    exact fun hg => L69_1_ok n a0 a1 c4 c5 (a0.length : Int) R  (fun r e => hR r (e0.trans (congrArg Sum.inr e))) n _ hg (weak_mem [] rfl rfl rfl (okW_cons (ent_lst (E := TP.E) _ false) (okW_cons (ent_lst (E := TP.E) _ false) (okW_cons (.inl (leV_refl _)) (okW_cons (.inl (leV_refl _)) (okW_cons (.inl (leV_refl _)) (okW_cons (.inl (leV_refl _)) okW_nil)))))) okB_nil')
theorem L69_0_ok (n : Nat) (a0 : List TP) (a1 : List TP) (c4 : Bool) (c5 : Int) (c13 : List (List TP)) (c14 : Int) {t : ρ69} (R : AV → Mem → Prop) (hR : ∀ r : ρ69, t = r → ∀ u m, Ans ((AV.tup [(boolA r.1), (intA r.2)])) u m → R u m) (k : Nat) (x : Int) (hx : iterO (fun y : Int => S69_0 n a0 a1 c4 c5 c13 c14 y) k x = some t) {s : St} (hw : Weak KK 64 0 s (h69_0 (lstA TP.E a0) (lstA TP.E a1) c4 c5 (lstA (lstE TP.E) c13) c14 x [])) : Tri Try.prog KK 64 0 (.loop c69_0) s (q69_0 R ) :=
  L69_0 R  (σ := Nat × (Int)) (fun z => iterO (fun y : Int => S69_0 n a0 a1 c4 c5 c13 c14 y) z.1 z.2 = some t) (fun z => (lstA TP.E a0)) (fun z => (lstA TP.E a1)) (fun z => c4) (fun z => c5) (fun z => (lstA (lstE TP.E) c13)) (fun z => c14) (fun z => z.2) (fun z => []) (fun z => z.1) (by
    rintro ⟨k, y⟩ h
    cases k with
    | zero => exact (iterO_zero h).elim
    | succ k =>
      obtain ⟨u, h1, h2, h3⟩ := iterO_elim h
      exact B69_0_ok n a0 a1 c4 c5 c13 c14 y R  _ (fun r e => hR r (h3 _ e).symm)  (fun y' e s' hw => ⟨(k, y'), h2 _ e, Nat.lt_succ_self k, hw⟩) h1) (k, x) hx hw
theorem g69_ok (n : Nat) (a0 : List TP) (a1 : List TP) {t : ρ69} (R : AV → Mem → Prop) (hR : ∀ r : ρ69, t = r → ∀ u m, Ans ((AV.tup [(boolA r.1), (intA r.2)])) u m → R u m) : g69 n a0 a1 = some t → F69 (lstA TP.E a0) (lstA TP.E a1) R := by
  unfold g69 F69
  refine imp (opN_of (show _ = some ((blkV (lstE TP.E) 4 ([a0, a1] : List (List TP))), [(4, some ⟨encs (lstE TP.E) ([a0, a1] : List (List TP)), 74⟩)]) from rfl)) ?_
  refine imp (opP_of (show _ = some ((intA (([a0, a1] : List (List TP)).length : Int)), []) from len_blk)) ?_
  refine imp ex_i64_b ?_
  exact fun hg => L69_0_ok n a0 a1 false (0) ([a0, a1] : List (List TP)) (([a0, a1] : List (List TP)).length : Int) R  hR n _ hg (weak_mem [] rfl rfl rfl (okW_cons (ent_lst (E := TP.E) _ false) (okW_cons (ent_lst (E := TP.E) _ false) (okW_cons (.inl (leV_refl _)) (okW_cons (.inl (leV_refl _)) (okW_cons (ent_blk_frz (E := (lstE TP.E)) (ty := 74) (l' := ([a0, a1] : List (List TP))) rfl (by first | rfl | (simp (disch := first | decide | assumption) only [mpushs_nil, mpushs_cons, mget_hd, mget_tl, mget_appW_o, mget_appW_n, mget_appW_e])) rfl) (okW_cons (.inl (leV_refl _)) (okW_cons (.inl (leV_refl _)) okW_nil))))))) okB_nil')
theorem sg69 {n : Nat} {a0 : List TP} {a1 : List TP} {t : ρ69} (h : g69 n a0 a1 = some t) : Says Try.prog KK.gl 69 [(lstA TP.E a0), (lstA TP.E a1)] ((AV.tup [(boolA t.1), (intA t.2)])) :=
  says_of_own (by first | rfl | simp [cleans, clean, encs_clean, En.cln]) (by first | rfl | simp [cleans, clean, encs_clean, En.cln]) (F69_own (lstA TP.E a0) (lstA TP.E a1) _ (g69_ok n a0 a1 (Ans ((AV.tup [(boolA t.1), (intA t.2)]))) (fun r e u m h => by rw [e]; exact h) h))
/- skyway/volume.Overlap -/
theorem B49_0_ok (n : Nat) (c4 : Bool) (c5 : Int) (c13 : List TVolume) (c14 : Int) (k0_0 : List TP) (k0_1 : Int) (k0_2 : Int) (k1_0 : List TP) (k1_1 : Int) (k1_2 : Int) (v15 : Int) {t : (Int) ⊕ ρ49} (R : AV → Mem → Prop) (N0 : St → Prop) (hR : ∀ r : ρ49, t = (.inr r) → ∀ u m, Ans ((AV.tup [(boolA r.1), (intA r.2)])) u m → R u m) (hN0 : ∀ y : Int, t = (.inl y) → ∀ s' : St, Weak KK 52 0 s' (h49_0 c4 c5 (lstA TVolume.E c13) c14 y [(0, some ⟨[(lstA TP.E k0_0), (intA k0_1), (intA k0_2)], 76⟩), (1, some ⟨[(lstA TP.E k1_0), (intA k1_1), (intA k1_2)], 76⟩)]) → N0 s') : S49_0 n c4 c5 c13 c14 k0_0 k0_1 k0_2 k1_0 k1_1 k1_2 v15 = some t → B49_0 c4 c5 (lstA TVolume.E c13) c14 v15 [(0, some ⟨[(lstA TP.E k0_0), (intA k0_1), (intA k0_2)], 76⟩), (1, some ⟨[(lstA TP.E k1_0), (intA k1_1), (intA k1_2)], 76⟩)] R N0 := by
  unfold S49_0 B49_0
  refine cond_b (fun _ => ?_) (fun _ => ?_)
  · refine bind_b fun x97 h97 => ?_
    refine imp (opP_of (show _ = some ((AV.ept [(lstA TP.E x97.Area), (intA x97.Low), (intA x97.High)] 0), []) from (idx_lst (E := TVolume.E) rfl h97))) ?_
    refine imp (opP_of (show _ = some ((AV.agg [(lstA TP.E x97.Area), (intA x97.Low), (intA x97.High)]), []) from rfl)) ?_
    refine imp exA3_b ?_
    refine imp ex_i64_b ?_
    refine imp ex_i64_b ?_
    refine imp (chk_of rfl) ?_
    refine bind_b fun x98 h98 => ?_
    refine imp (callQ_says (sg46 h98)) ?_
    refine imp ex_i64_b ?_
    refine cond_b (fun _ => ?_) (fun _ => ?_)
    · exact fun hg => retN rfl (hR _ (Option.some.inj hg).symm) (fzL_cons (fz_sc _ _) (fzL_cons (fz_sc _ _) fzL_nil))
    · exact fun hg => hN0 _ (Option.some.inj hg).symm _ (weak_mem [(0, 0), (1, 1)] rfl rfl rfl (okW_cons (.inl (leV_refl _)) (okW_cons (.inl (leV_refl _)) (okW_cons (.inl (leV_refl _)) (okW_cons (.inl (leV_refl _)) (okW_cons (ent_lst (E := TVolume.E) _ false) (okW_cons (.inl (leV_refl _)) (okW_cons (.inl (leV_refl _)) okW_nil))))))) (okB_cons (okB_cells (cs := [(lstA TP.E k0_0), (intA k0_1), (intA k0_2)]) (ty := 76) (by simp [clean, cleans, encs_clean]) (show mget _ 0 = _ from (by first | rfl | (simp (disch := first | decide | assumption) only [mpushs_nil, mpushs_cons, mget_hd, mget_tl, mget_appW_o, mget_appW_n, mget_appW_e])))) (okB_cons (okB_cells (cs := [(lstA TP.E k1_0), (intA k1_1), (intA k1_2)]) (ty := 76) (by simp [clean, cleans, encs_clean]) (show mget _ 1 = _ from (by first | rfl | (simp (disch := first | decide | assumption) only [mpushs_nil, mpushs_cons, mget_hd, mget_tl, mget_appW_o, mget_appW_n, mget_appW_e])))) okB_nil')))
  · refine imp (opP_of (show _ = some ((lstA TP.E k0_0), []) from (ldS_ptr (b := ⟨[(lstA TP.E k0_0), (intA k0_1), (intA k0_2)], 76⟩) (by first | rfl | (simp (disch := first | decide | assumption) only [mpushs_nil, mpushs_cons, mget_hd, mget_tl, mget_appW_o, mget_appW_n, mget_appW_e])) rfl))) ?_
    refine imp (opP_of (show _ = some ((lstA TP.E k1_0), []) from (ldS_ptr (b := ⟨[(lstA TP.E k1_0), (intA k1_1), (intA k1_2)], 76⟩) (by first | rfl | (simp (disch := first | decide | assumption) only [mpushs_nil, mpushs_cons, mget_hd, mget_tl, mget_appW_o, mget_appW_n, mget_appW_e])) rfl))) ?_
    refine bind_b fun x137 h137 => ?_
    refine imp (callQ_says (sg69 h137)) ?_
    refine imp exT2_b ?_
    refine imp exB_b ?_
    refine imp ex_i64_b ?_
    refine cond_b (fun _ => ?_) (fun _ => ?_)
    · refine cond_b (fun _ => ?_) (fun _ => ?_)
      · refine imp (opP_of (show _ = some ((intA k0_1), []) from (ldS_ptr (b := ⟨[(lstA TP.E k0_0), (intA k0_1), (intA k0_2)], 76⟩) (by first | rfl | (simp (disch := first | decide | assumption) only [mpushs_nil, mpushs_cons, mget_hd, mget_tl, mget_appW_o, mget_appW_n, mget_appW_e])) rfl))) ?_
        refine imp ex_i64_b ?_
        refine imp (opP_of (show _ = some ((intA k1_1), []) from (ldS_ptr (b := ⟨[(lstA TP.E k1_0), (intA k1_1), (intA k1_2)], 76⟩) (by first | rfl | (simp (disch := first | decide | assumption) only [mpushs_nil, mpushs_cons, mget_hd, mget_tl, mget_appW_o, mget_appW_n, mget_appW_e])) rfl))) ?_
        refine imp ex_i64_b ?_
        refine imp (opP_of (show _ = some ((intA (if k1_1 > k0_1 then k1_1 else k0_1)), []) from (by kernel_rfl))) ?_
        refine imp ex_i64_b ?_
        refine imp (opP_of (show _ = some ((intA k0_2), []) from (ldS_ptr (b := ⟨[(lstA TP.E k0_0), (intA k0_1), (intA k0_2)], 76⟩) (by first | rfl | (simp (disch := first | decide | assumption) only [mpushs_nil, mpushs_cons, mget_hd, mget_tl, mget_appW_o, mget_appW_n, mget_appW_e])) rfl))) ?_
        refine imp ex_i64_b ?_
        refine imp (opP_of (show _ = some ((intA k1_2), []) from (ldS_ptr (b := ⟨[(lstA TP.E k1_0), (intA k1_1), (intA k1_2)], 76⟩) (by first | rfl | (simp (disch := first | decide | assumption) only [mpushs_nil, mpushs_cons, mget_hd, mget_tl, mget_appW_o, mget_appW_n, mget_appW_e])) rfl))) ?_
        refine imp ex_i64_b ?_
        refine imp (opP_of (show _ = some ((intA (if k1_2 < k0_2 then k1_2 else k0_2)), []) from (by kernel_rfl))) ?_
        refine imp ex_i64_b ?_
        exact fun hg => retN rfl (hR _ (Option.some.inj hg).symm) (fzL_cons (fz_sc _ _) (fzL_cons (fz_sc _ _) fzL_nil))
      · exact fun hg => retN rfl (hR _ (Option.some.inj hg).symm) (fzL_cons (fz_sc _ _) (fzL_cons (fz_sc _ _) fzL_nil))
    · exact fun hg => retN rfl (hR _ (Option.some.inj hg).symm) (fzL_cons (fz_sc _ _) (fzL_cons (fz_sc _ _) fzL_nil))
theorem L49_0_ok (n : Nat) (c4 : Bool) (c5 : Int) (c13 : List TVolume) (c14 : Int) (k0_0 : List TP) (k0_1 : Int) (k0_2 : Int) (k1_0 : List TP) (k1_1 : Int) (k1_2 : Int) {t : ρ49} (R : AV → Mem → Prop) (hR : ∀ r : ρ49, t = r → ∀ u m, Ans ((AV.tup [(boolA r.1), (intA r.2)])) u m → R u m) (k : Nat) (x : Int) (hx : iterO (fun y : Int => S49_0 n c4 c5 c13 c14 k0_0 k0_1 k0_2 k1_0 k1_1 k1_2 y) k x = some t) {s : St} (hw : Weak KK 52 0 s (h49_0 c4 c5 (lstA TVolume.E c13) c14 x [(0, some ⟨[(lstA TP.E k0_0), (intA k0_1), (intA k0_2)], 76⟩), (1, some ⟨[(lstA TP.E k1_0), (intA k1_1), (intA k1_2)], 76⟩)])) : Tri Try.prog KK 52 0 (.loop c49_0) s (q49_0 R ) :=
  L49_0 R  (σ := Nat × (Int)) (fun z => iterO (fun y : Int => S49_0 n c4 c5 c13 c14 k0_0 k0_1 k0_2 k1_0 k1_1 k1_2 y) z.1 z.2 = some t) (fun z => c4) (fun z => c5) (fun z => (lstA TVolume.E c13)) (fun z => c14) (fun z => z.2) (fun z => [(0, some ⟨[(lstA TP.E k0_0), (intA k0_1), (intA k0_2)], 76⟩), (1, some ⟨[(lstA TP.E k1_0), (intA k1_1), (intA k1_2)], 76⟩)]) (fun z => z.1) (by
    rintro ⟨k, y⟩ h
    cases k with
    | zero => exact (iterO_zero h).elim
    | succ k =>
      obtain ⟨u, h1, h2, h3⟩ := iterO_elim h
      exact B49_0_ok n c4 c5 c13 c14 k0_0 k0_1 k0_2 k1_0 k1_1 k1_2 y R  _ (fun r e => hR r (h3 _ e).symm)  (fun y' e s' hw => ⟨(k, y'), h2 _ e, Nat.lt_succ_self k, hw⟩) h1) (k, x) hx hw
theorem g49_ok (n : Nat) (a0 : TVolume) (a1 : TVolume) {t : ρ49} (R : AV → Mem → Prop) (hR : ∀ r : ρ49, t = r → ∀ u m, Ans ((AV.tup [(boolA r.1), (intA r.2)])) u m → R u m) : g49 n a0 a1 = some t → F49 (lstA TP.E a0.Area) a0.Low a0.High (lstA TP.E a1.Area) a1.Low a1.High R := by
  unfold g49 F49
  refine imp (chk_of rfl) ?_
  refine imp (chk_of rfl) ?_
  refine imp (opN_of (show _ = some ((blkV TVolume.E 6 ([a0, a1] : List TVolume)), [(6, some ⟨encs TVolume.E ([a0, a1] : List TVolume), 76⟩)]) from rfl)) ?_
  refine imp (opP_of (show _ = some ((intA (([a0, a1] : List TVolume).length : Int)), []) from len_blk)) ?_
  refine imp ex_i64_b ?_
  exact fun hg => L49_0_ok n false (0) ([a0, a1] : List TVolume) (([a0, a1] : List TVolume).length : Int) a0.Area a0.Low a0.High a1.Area a1.Low a1.High R  hR n _ hg (weak_mem [(0, 0), (1, 1)] rfl rfl rfl (okW_cons (.inl (leV_refl _)) (okW_cons (.inl (leV_refl _)) (okW_cons (.inl (leV_refl _)) (okW_cons (.inl (leV_refl _)) (okW_cons (ent_blk_frz (E := TVolume.E) (ty := 76) (l' := ([a0, a1] : List TVolume)) rfl (by first | rfl | (simp (disch := first | decide | assumption) only [mpushs_nil, mpushs_cons, mget_hd, mget_tl, mget_appW_o, mget_appW_n, mget_appW_e])) rfl) (okW_cons (.inl (leV_refl _)) (okW_cons (.inl (leV_refl _)) okW_nil))))))) (okB_cons (okB_cells (cs := [(lstA TP.E a0.Area), (intA a0.Low), (intA a0.High)]) (ty := 76) (by simp [clean, cleans, encs_clean]) (show mget _ 0 = _ from (by first | rfl | (simp (disch := first | decide | assumption) only [mpushs_nil, mpushs_cons, mget_hd, mget_tl, mget_appW_o, mget_appW_n, mget_appW_e])))) (okB_cons (okB_cells (cs := [(lstA TP.E a1.Area), (intA a1.Low), (intA a1.High)]) (ty := 76) (by simp [clean, cleans, encs_clean]) (show mget _ 1 = _ from (by first | rfl | (simp (disch := first | decide | assumption) only [mpushs_nil, mpushs_cons, mget_hd, mget_tl, mget_appW_o, mget_appW_n, mget_appW_e])))) okB_nil')))
theorem sg49 {n : Nat} {a0 : TVolume} {a1 : TVolume} {t : ρ49} (h : g49 n a0 a1 = some t) : Says Try.prog KK.gl 49 [(AV.agg [(lstA TP.E a0.Area), (intA a0.Low), (intA a0.High)]), (AV.agg [(lstA TP.E a1.Area), (intA a1.Low), (intA a1.High)])] ((AV.tup [(boolA t.1), (intA t.2)])) :=
  says_of_own (by first | rfl | simp [cleans, clean, encs_clean, En.cln]) (by first | rfl | simp [cleans, clean, encs_clean, En.cln]) (F49_own (lstA TP.E a0.Area) a0.Low a0.High (lstA TP.E a1.Area) a1.Low a1.High _ (g49_ok n a0 a1 (Ans ((AV.tup [(boolA t.1), (intA t.2)]))) (fun r e u m h => by rw [e]; exact h) h))
end Go.Proofs.Ytldiackagnjlgaa
