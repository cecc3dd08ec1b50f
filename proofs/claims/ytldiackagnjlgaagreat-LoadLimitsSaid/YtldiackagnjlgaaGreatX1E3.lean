/- Plain functional programs out of the program's functions, with proofs that the functions compute them; printed by wip/Ext.lean.txt. -/
import Derived.Test.YtldiackagnjlgaaGreatX1E2
set_option linter.unusedVariables false
set_option linter.unusedSimpArgs false
set_option maxRecDepth 100000
set_option maxHeartbeats 4000000
namespace Go.Proofs.YtldiackagnjlgaaGreat
/- skyway/sector.Check -/
theorem B23_0_0_ok (n : Nat) (a0 : List TSector) (c2 : Int) (v20 : Int) (c19 : Int) (c41 : List TVolume) (c42 : Int) (k100004_0 : ByteArray) (w43 : Int) (L90000 : List TVolume) {t : (Int × List TVolume) ⊕ ((Int × List TVolume) ⊕ ρ23)} (R : AV → Mem → Prop) (N0 : St → Prop) (N1 : St → Prop) (hR : ∀ r : ρ23, t = (.inr (.inr r)) → ∀ u m, Ans ((intA r)) u m → R u m) (hN0 : ∀ y : Int × List TVolume, t = (.inr (.inl y)) → ∀ s' : St, Weak KK 87 0 s' (h23_0 (lstA TSector.E a0) c2 (ownV TVolume.E 90000 y.2) (lstA TSector.E a0) c19 y.1 [(90000, ownB TVolume.E 79 y.2)]) → N0 s') (hN1 : ∀ y : Int × List TVolume, t = (.inl y) → ∀ s' : St, Weak KK 87 0 s' (h23_0_0 (lstA TSector.E a0) c2 (ownV TVolume.E 90000 y.2) v20 (lstA TSector.E a0) c19 v20 (lstA TVolume.E c41) c42 y.1 k100004_0 (lstA TVolume.E c41) [(90000, ownB TVolume.E 79 y.2)]) → N1 s') : S23_0_0 n a0 c2 v20 c19 c41 c42 k100004_0 w43 L90000 = some t → B23_0_0 (lstA TSector.E a0) c2 (ownV TVolume.E 90000 L90000) v20 (lstA TSector.E a0) c19 v20 (lstA TVolume.E c41) c42 w43 k100004_0 (lstA TVolume.E c41) [(90000, ownB TVolume.E 79 L90000)] R N0 N1 := by
  unfold S23_0_0 B23_0_0
  refine cond_b (fun _ => ?_) (fun _ => ?_)
  · refine bind_b fun x58 h58 => ?_
    refine imp (opP_of (show _ = some ((AV.ept [(lstA TP.E x58.Area), (intA x58.Low), (intA x58.High)] 0), []) from (idx_lst (E := TVolume.E) rfl h58))) ?_
    refine imp (opP_of (show _ = some ((AV.agg [(lstA TP.E x58.Area), (intA x58.Low), (intA x58.High)]), []) from rfl)) ?_
    refine imp exA3_b ?_
    refine imp ex_i64_b ?_
    refine imp ex_i64_b ?_
    refine imp (chk_of rfl) ?_
    refine bind_b fun x86 h86 => ?_
    refine imp (callQ_says (sg35 h86)) ?_
    refine imp ex_i64_b ?_
    refine cond_b (fun _ => ?_) (fun _ => ?_)
    · exact fun hg => ret1 (hR _ (Option.some.inj hg).symm) (fz_sc _ _)
    · exact fun hg => hN1 _ (Option.some.inj hg).symm _ (weak_mem [(90000, 90000), (100004, 100004)] rfl rfl rfl (okW_cons (ent_lst (E := TSector.E) _ false) (okW_cons (.inl (leV_refl _)) (okW_cons (ent_own (E := TVolume.E) (id := 90000) (l' := L90000) rfl rfl) (okW_cons (.inl (leV_refl _)) (okW_cons (.inl (leV_refl _)) (okW_cons (ent_lst (E := TSector.E) _ false) (okW_cons (.inl (leV_refl _)) (okW_cons (.inl (leV_refl _)) (okW_cons (ent_lst (E := TVolume.E) _ false) (okW_cons (.inl (leV_refl _)) (okW_cons (.inl (leV_refl _)) okW_nil))))))))))) (okB_cons (okB_cells (cs := [(strA k100004_0), (lstA TVolume.E c41)]) (ty := 83) (by simp [clean, cleans, encs_clean]) (show mget _ 100004 = _ from (by first | rfl | (simp (disch := first | decide | assumption) only [mpushs_nil, mpushs_cons, mget_hd, mget_tl, mget_appW_o, mget_appW_n, mget_appW_e])))) (okB_cons (okB_own (E := TVolume.E) (ty := 79) (l' := L90000) rfl (show mget _ 90000 = _ from (by first | rfl | (simp (disch := first | decide | assumption) only [mpushs_nil, mpushs_cons, mget_hd, mget_tl, mget_appW_o, mget_appW_n, mget_appW_e])))) okB_nil')))
  · refine bind_b fun x87 h87 => ?_
    refine imp (opP_of (show _ = some ((lstA TSector.E x87), []) from (slc_hi (E := TSector.E) (e := 83) (by kernel_rfl) (by kernel_rfl) rfl h87))) ?_
    refine bind_b fun x91 h91 => ?_
    refine imp (callQ_pure (pure_snapN (snL_cons (sn_lst (E := TSector.E) _ _ false) (snL_cons (sn_fn _ _ (snL_cons (sn_ptr _ (ty := 83) (us := [(strA k100004_0), (lstA TVolume.E c41)]) (by first | rfl | (simp (disch := first | decide | assumption) only [mpushs_nil, mpushs_cons, mget_hd, mget_tl, mget_appW_o, mget_appW_n, mget_appW_e])) (snL_cons (sn_sc _ _) (snL_cons (sn_lst (E := TVolume.E) _ _ false) snL_nil))) snL_nil)) snL_nil)) (sg36 h91) rfl)) ?_
    refine imp exB_b ?_
    refine cond_b (fun _ => ?_) (fun _ => ?_)
    · exact fun hg => ret1 (hR _ (Option.some.inj hg).symm) (fz_sc _ _)
    · refine bind_b fun x92 h92 => ?_
      have neh92 := neO_some h92
      refine bind_b fun x93 h93 => ?_
      refine imp (opN_of (show _ = some ((ownV TVolume.E 200072 (L90000 ++ c41)), (appW TVolume.E 200072 90000 79 L90000 c41)) from (app_own (E := TVolume.E) (l' := L90000) (xs := c41) rfl rfl (cellsOf_lst (E := TVolume.E) rfl c41 false) (by first | assumption | simp) rfl (fun hne => Eq.trans (by first | rfl | (simp (disch := first | decide | assumption) only [mpushs_nil, mpushs_cons, mget_hd, mget_tl, mget_appW_o, mget_appW_n, mget_appW_e])) (ownB_ne hne)) h93))) ?_
      exact fun hg => hN0 _ (Option.some.inj hg).symm _ (weak_mem [(90000, 200072)] rfl rfl rfl (okW_cons (ent_lst (E := TSector.E) _ false) (okW_cons (.inl (leV_refl _)) (okW_cons (ent_own (E := TVolume.E) (id := 200072) (l' := (L90000 ++ c41)) rfl rfl) (okW_cons (ent_lst (E := TSector.E) _ false) (okW_cons (.inl (leV_refl _)) (okW_cons (.inl (leV_refl _)) okW_nil)))))) (okB_cons (okB_own (E := TVolume.E) (ty := 79) (l' := (L90000 ++ c41)) rfl (show mget _ 200072 = _ from (by first | rfl | (simp (disch := first | decide | assumption) only [mpushs_nil, mpushs_cons, mget_hd, mget_tl, mget_appW_o, mget_appW_n, mget_appW_e])))) okB_nil'))
theorem L23_0_0_ok (n : Nat) (a0 : List TSector) (c2 : Int) (v20 : Int) (c19 : Int) (c41 : List TVolume) (c42 : Int) (k100004_0 : ByteArray) {t : ((Int × List TVolume) ⊕ ρ23)} (R : AV → Mem → Prop) (N0 : St → Prop) (hR : ∀ r : ρ23, t = (.inr r) → ∀ u m, Ans ((intA r)) u m → R u m) (hN0 : ∀ y : Int × List TVolume, t = (.inl y) → ∀ s' : St, Weak KK 87 0 s' (h23_0 (lstA TSector.E a0) c2 (ownV TVolume.E 90000 y.2) (lstA TSector.E a0) c19 y.1 [(90000, ownB TVolume.E 79 y.2)]) → N0 s') (k : Nat) (x : Int × List TVolume) (hx : iterO (fun y : Int × List TVolume => S23_0_0 n a0 c2 v20 c19 c41 c42 k100004_0 y.1 y.2) k x = some t) {s : St} (hw : Weak KK 87 0 s (h23_0_0 (lstA TSector.E a0) c2 (ownV TVolume.E 90000 x.2) v20 (lstA TSector.E a0) c19 v20 (lstA TVolume.E c41) c42 x.1 k100004_0 (lstA TVolume.E c41) [(90000, ownB TVolume.E 79 x.2)])) : Tri Tryz.prog KK 87 0 (.loop c23_0_0) s (q23_0_0 R N0) :=
  L23_0_0 R N0 (σ := Nat × (Int × List TVolume)) (fun z => iterO (fun y : Int × List TVolume => S23_0_0 n a0 c2 v20 c19 c41 c42 k100004_0 y.1 y.2) z.1 z.2 = some t) (fun z => (lstA TSector.E a0)) (fun z => c2) (fun z => (ownV TVolume.E 90000 z.2.2)) (fun z => v20) (fun z => (lstA TSector.E a0)) (fun z => c19) (fun z => v20) (fun z => (lstA TVolume.E c41)) (fun z => c42) (fun z => z.2.1) (fun z => k100004_0) (fun z => (lstA TVolume.E c41)) (fun z => [(90000, ownB TVolume.E 79 z.2.2)]) (fun z => z.1) (by
    rintro ⟨k, y⟩ h
    cases k with
    | zero => exact (iterO_zero h).elim
    | succ k =>
      obtain ⟨u, h1, h2, h3⟩ := iterO_elim h
      exact B23_0_0_ok n a0 c2 v20 c19 c41 c42 k100004_0 y.1 y.2 R N0 _ (fun r e => hR r (h3 _ e).symm) (fun y' e => hN0 y' (h3 _ e).symm) (fun y' e s' hw => ⟨(k, y'), h2 _ e, Nat.lt_succ_self k, hw⟩) h1) (k, x) hx hw
theorem B23_1_0_ok (n : Nat) (c2 : Int) (L90000 : List TVolume) (c64 : Int) (v65 : Int) (x95 : List TVolume) (c73 : Int) (k200004_0 : List TP) (k200004_1 : Int) (k200004_2 : Int) (w74 : Int) {t : (Int) ⊕ ((Int) ⊕ ρ23)} (R : AV → Mem → Prop) (N0 : St → Prop) (N1 : St → Prop) (hR : ∀ r : ρ23, t = (.inr (.inr r)) → ∀ u m, Ans ((intA r)) u m → R u m) (hN0 : ∀ y : Int, t = (.inr (.inl y)) → ∀ s' : St, Weak KK 87 0 s' (h23_1 c2 (lstA TVolume.E L90000) (lstA TVolume.E L90000) c64 y []) → N0 s') (hN1 : ∀ y : Int, t = (.inl y) → ∀ s' : St, Weak KK 87 0 s' (h23_1_0 c2 (lstA TVolume.E L90000) (lstA TVolume.E L90000) c64 v65 (lstA TVolume.E x95) c73 y (lstA TP.E k200004_0) k200004_1 k200004_2 []) → N1 s') : S23_1_0 n c2 L90000 c64 v65 x95 c73 k200004_0 k200004_1 k200004_2 w74 = some t → B23_1_0 c2 (lstA TVolume.E L90000) (lstA TVolume.E L90000) c64 v65 (lstA TVolume.E x95) c73 w74 (lstA TP.E k200004_0) k200004_1 k200004_2 [] R N0 N1 := by
  unfold S23_1_0 B23_1_0
  refine cond_b (fun _ => ?_) (fun _ => ?_)
  · refine bind_b fun x96 h96 => ?_
    refine imp (opP_of (show _ = some ((AV.ept [(lstA TP.E x96.Area), (intA x96.Low), (intA x96.High)] 0), []) from (idx_lst (E := TVolume.E) rfl h96))) ?_
    refine imp (opP_of (show _ = some ((AV.agg [(lstA TP.E x96.Area), (intA x96.Low), (intA x96.High)]), []) from rfl)) ?_
    refine imp exA3_b ?_
    refine imp ex_i64_b ?_
    refine imp ex_i64_b ?_
    refine imp (chk_of rfl) ?_
    refine bind_b fun x138 h138 => ?_
    refine imp (callQ_says (sg38 h138)) ?_
    refine imp exT2_b ?_
    refine imp exB_b ?_
    refine imp ex_i64_b ?_
    refine cond_b (fun _ => ?_) (fun _ => ?_)
    · exact fun hg => ret1 (hR _ (Option.some.inj hg).symm) (fz_sc _ _)
    · exact fun hg => hN1 _ (Option.some.inj hg).symm _ (weak_mem [(200004, 200004)] rfl rfl rfl (okW_cons (.inl (leV_refl _)) (okW_cons (ent_lst (E := TVolume.E) _ false) (okW_cons (.inl (leV_refl _)) (okW_cons (ent_lst (E := TVolume.E) _ false) (okW_cons (.inl (leV_refl _)) (okW_cons (.inl (leV_refl _)) (okW_cons (ent_lst (E := TVolume.E) _ false) (okW_cons (.inl (leV_refl _)) (okW_cons (.inl (leV_refl _)) okW_nil))))))))) (okB_cons (okB_cells (cs := [(lstA TP.E k200004_0), (intA k200004_1), (intA k200004_2)]) (ty := 79) (by simp [clean, cleans, encs_clean]) (show mget _ 200004 = _ from (by first | rfl | (simp (disch := first | decide | assumption) only [mpushs_nil, mpushs_cons, mget_hd, mget_tl, mget_appW_o, mget_appW_n, mget_appW_e])))) okB_nil'))
  · exact fun hg => hN0 _ (Option.some.inj hg).symm _ (weak_mem [] rfl rfl rfl (okW_cons (.inl (leV_refl _)) (okW_cons (ent_lst (E := TVolume.E) _ false) (okW_cons (ent_lst (E := TVolume.E) _ false) (okW_cons (.inl (leV_refl _)) (okW_cons (.inl (leV_refl _)) okW_nil))))) okB_nil')
theorem L23_1_0_ok (n : Nat) (c2 : Int) (L90000 : List TVolume) (c64 : Int) (v65 : Int) (x95 : List TVolume) (c73 : Int) (k200004_0 : List TP) (k200004_1 : Int) (k200004_2 : Int) {t : ((Int) ⊕ ρ23)} (R : AV → Mem → Prop) (N0 : St → Prop) (hR : ∀ r : ρ23, t = (.inr r) → ∀ u m, Ans ((intA r)) u m → R u m) (hN0 : ∀ y : Int, t = (.inl y) → ∀ s' : St, Weak KK 87 0 s' (h23_1 c2 (lstA TVolume.E L90000) (lstA TVolume.E L90000) c64 y []) → N0 s') (k : Nat) (x : Int) (hx : iterO (fun y : Int => S23_1_0 n c2 L90000 c64 v65 x95 c73 k200004_0 k200004_1 k200004_2 y) k x = some t) {s : St} (hw : Weak KK 87 0 s (h23_1_0 c2 (lstA TVolume.E L90000) (lstA TVolume.E L90000) c64 v65 (lstA TVolume.E x95) c73 x (lstA TP.E k200004_0) k200004_1 k200004_2 [])) : Tri Tryz.prog KK 87 0 (.loop c23_1_0) s (q23_1_0 R N0) :=
  L23_1_0 R N0 (σ := Nat × (Int)) (fun z => iterO (fun y : Int => S23_1_0 n c2 L90000 c64 v65 x95 c73 k200004_0 k200004_1 k200004_2 y) z.1 z.2 = some t) (fun z => c2) (fun z => (lstA TVolume.E L90000)) (fun z => (lstA TVolume.E L90000)) (fun z => c64) (fun z => v65) (fun z => (lstA TVolume.E x95)) (fun z => c73) (fun z => z.2) (fun z => (lstA TP.E k200004_0)) (fun z => k200004_1) (fun z => k200004_2) (fun z => []) (fun z => z.1) (by
    rintro ⟨k, y⟩ h
    cases k with
    | zero => exact (iterO_zero h).elim
    | succ k =>
      obtain ⟨u, h1, h2, h3⟩ := iterO_elim h
      exact B23_1_0_ok n c2 L90000 c64 v65 x95 c73 k200004_0 k200004_1 k200004_2 y R N0 _ (fun r e => hR r (h3 _ e).symm) (fun y' e => hN0 y' (h3 _ e).symm) (fun y' e s' hw => ⟨(k, y'), h2 _ e, Nat.lt_succ_self k, hw⟩) h1) (k, x) hx hw
theorem B23_1_ok (n : Nat) (c2 : Int) (L90000 : List TVolume) (c64 : Int) (v65 : Int) {t : (Int) ⊕ ρ23} (R : AV → Mem → Prop) (N0 : St → Prop) (hR : ∀ r : ρ23, t = (.inr r) → ∀ u m, Ans ((intA r)) u m → R u m) (hN0 : ∀ y : Int, t = (.inl y) → ∀ s' : St, Weak KK 87 0 s' (h23_1 c2 (lstA TVolume.E L90000) (lstA TVolume.E L90000) c64 y []) → N0 s') : S23_1 n c2 L90000 c64 v65 = some t → B23_1 c2 (lstA TVolume.E L90000) (lstA TVolume.E L90000) c64 v65 [] R N0 := by
  unfold S23_1 B23_1
  refine cond_b (fun _ => ?_) (fun _ => ?_)
  · refine bind_b fun x94 h94 => ?_
    refine imp (opP_of (show _ = some ((AV.ept [(lstA TP.E x94.Area), (intA x94.Low), (intA x94.High)] 0), []) from (idx_lst (E := TVolume.E) rfl h94))) ?_
    refine imp (opP_of (show _ = some ((AV.agg [(lstA TP.E x94.Area), (intA x94.Low), (intA x94.High)]), []) from rfl)) ?_
    refine imp exA3_b ?_
    refine imp ex_i64_b ?_
    refine imp ex_i64_b ?_
    refine imp (chk_of rfl) ?_
    refine bind_b fun x95 h95 => ?_
    refine imp (opP_of (show _ = some ((lstA TVolume.E x95), []) from (slc_hi (E := TVolume.E) (e := 79) (by kernel_rfl) (by kernel_rfl) rfl h95))) ?_
    refine imp (opP_of (show _ = some ((intA (x95.length : Int)), []) from rfl)) ?_
    refine imp ex_i64_b ?_
    exact fun hg => L23_1_0_ok n c2 L90000 c64 v65 x95 (x95.length : Int) x94.Area x94.Low x94.High R N0 hR hN0 n _ hg (weak_mem [(200004, 200004)] rfl rfl rfl (okW_cons (.inl (leV_refl _)) (okW_cons (ent_lst (E := TVolume.E) _ false) (okW_cons (.inl (leV_refl _)) (okW_cons (ent_lst (E := TVolume.E) _ false) (okW_cons (.inl (leV_refl _)) (okW_cons (.inl (leV_refl _)) (okW_cons (ent_lst (E := TVolume.E) _ false) (okW_cons (.inl (leV_refl _)) (okW_cons (.inl (leV_refl _)) okW_nil))))))))) (okB_cons (okB_cells (cs := [(lstA TP.E x94.Area), (intA x94.Low), (intA x94.High)]) (ty := 79) (by simp [clean, cleans, encs_clean]) (show mget _ 200004 = _ from (by first | rfl | (simp (disch := first | decide | assumption) only [mpushs_nil, mpushs_cons, mget_hd, mget_tl, mget_appW_o, mget_appW_n, mget_appW_e])))) okB_nil'))
  · exact fun hg => ret1 (hR _ (Option.some.inj hg).symm) (fz_sc _ _)
theorem L23_1_ok (n : Nat) (c2 : Int) (L90000 : List TVolume) (c64 : Int) {t : ρ23} (R : AV → Mem → Prop) (hR : ∀ r : ρ23, t = r → ∀ u m, Ans ((intA r)) u m → R u m) (k : Nat) (x : Int) (hx : iterO (fun y : Int => S23_1 n c2 L90000 c64 y) k x = some t) {s : St} (hw : Weak KK 87 0 s (h23_1 c2 (lstA TVolume.E L90000) (lstA TVolume.E L90000) c64 x [])) : Tri Tryz.prog KK 87 0 (.loop c23_1) s (q23_1 R ) :=
  L23_1 R  (σ := Nat × (Int)) (fun z => iterO (fun y : Int => S23_1 n c2 L90000 c64 y) z.1 z.2 = some t) (fun z => c2) (fun z => (lstA TVolume.E L90000)) (fun z => (lstA TVolume.E L90000)) (fun z => c64) (fun z => z.2) (fun z => []) (fun z => z.1) (by
    rintro ⟨k, y⟩ h
    cases k with
    | zero => exact (iterO_zero h).elim
    | succ k =>
      obtain ⟨u, h1, h2, h3⟩ := iterO_elim h
      exact B23_1_ok n c2 L90000 c64 y R  _ (fun r e => hR r (h3 _ e).symm)  (fun y' e s' hw => ⟨(k, y'), h2 _ e, Nat.lt_succ_self k, hw⟩) h1) (k, x) hx hw
theorem B23_0_ok (n : Nat) (a0 : List TSector) (c2 : Int) (c19 : Int) (v20 : Int) (L90000 : List TVolume) {t : (Int × List TVolume) ⊕ ρ23} (R : AV → Mem → Prop) (N0 : St → Prop) (hR : ∀ r : ρ23, t = (.inr r) → ∀ u m, Ans ((intA r)) u m → R u m) (hN0 : ∀ y : Int × List TVolume, t = (.inl y) → ∀ s' : St, Weak KK 87 0 s' (h23_0 (lstA TSector.E a0) c2 (ownV TVolume.E 90000 y.2) (lstA TSector.E a0) c19 y.1 [(90000, ownB TVolume.E 79 y.2)]) → N0 s') : S23_0 n a0 c2 c19 v20 L90000 = some t → B23_0 (lstA TSector.E a0) c2 (ownV TVolume.E 90000 L90000) (lstA TSector.E a0) c19 v20 [(90000, ownB TVolume.E 79 L90000)] R N0 := by
  unfold S23_0 B23_0
  refine cond_b (fun _ => ?_) (fun _ => ?_)
  · refine bind_b fun x53 h53 => ?_
    refine imp (opP_of (show _ = some ((AV.ept [(strA x53.Name), (lstA TVolume.E x53.Room)] 0), []) from (idx_lst (E := TSector.E) rfl h53))) ?_
    refine imp (opP_of (show _ = some ((AV.agg [(strA x53.Name), (lstA TVolume.E x53.Room)]), []) from rfl)) ?_
    refine imp exA2_b ?_
    refine imp exStr_b ?_
    refine imp (chk_of rfl) ?_
    refine bind_b fun x57 h57 => ?_
    refine imp (callQ_says (sg34 h57)) ?_
    refine imp exB_b ?_
    refine cond_b (fun _ => ?_) (fun _ => ?_)
    · exact fun hg => ret1 (hR _ (Option.some.inj hg).symm) (fz_sc _ _)
    · refine imp (opP_of (show _ = some ((intA (x53.Room.length : Int)), []) from rfl)) ?_
      refine imp ex_i64_b ?_
      refine cond_b (fun _ => ?_) (fun _ => ?_)
      · exact fun hg => ret1 (hR _ (Option.some.inj hg).symm) (fz_sc _ _)
      · refine imp (opP_of (show _ = some ((intA (x53.Room.length : Int)), []) from rfl)) ?_
        refine imp ex_i64_b ?_
        refine cond_b (fun _ => ?_) (fun _ => ?_)
        · exact fun hg => ret1 (hR _ (Option.some.inj hg).symm) (fz_sc _ _)
        · refine imp (opP_of (show _ = some ((intA (x53.Room.length : Int)), []) from rfl)) ?_
          refine imp ex_i64_b ?_
          exact fun hg => L23_0_0_ok n a0 c2 v20 c19 x53.Room (x53.Room.length : Int) x53.Name R N0 hR hN0 n _ hg (weak_mem [(90000, 90000), (100004, 100004)] rfl rfl rfl (okW_cons (ent_lst (E := TSector.E) _ false) (okW_cons (.inl (leV_refl _)) (okW_cons (ent_own (E := TVolume.E) (id := 90000) (l' := L90000) rfl rfl) (okW_cons (.inl (leV_refl _)) (okW_cons (.inl (leV_refl _)) (okW_cons (ent_lst (E := TSector.E) _ false) (okW_cons (.inl (leV_refl _)) (okW_cons (.inl (leV_refl _)) (okW_cons (ent_lst (E := TVolume.E) _ false) (okW_cons (.inl (leV_refl _)) (okW_cons (.inl (leV_refl _)) okW_nil))))))))))) (okB_cons (okB_cells (cs := [(strA x53.Name), (lstA TVolume.E x53.Room)]) (ty := 83) (by simp [clean, cleans, encs_clean]) (show mget _ 100004 = _ from (by first | rfl | (simp (disch := first | decide | assumption) only [mpushs_nil, mpushs_cons, mget_hd, mget_tl, mget_appW_o, mget_appW_n, mget_appW_e])))) (okB_cons (okB_own (E := TVolume.E) (ty := 79) (l' := L90000) rfl (show mget _ 90000 = _ from (by first | rfl | (simp (disch := first | decide | assumption) only [mpushs_nil, mpushs_cons, mget_hd, mget_tl, mget_appW_o, mget_appW_n, mget_appW_e])))) okB_nil')))
  · refine imp (opP_of (show _ = some ((intA (L90000.length : Int)), []) from len_own)) ?_
    refine imp ex_i64_b ?_
    refine mapInr_b fun t0 e0 => ?_
    exact fun hg => L23_1_ok n c2 L90000 (L90000.length : Int) R  (fun r e => hR r (e0.trans (congrArg Sum.inr e))) n _ hg (weak_mem [] rfl rfl rfl (okW_cons (.inl (leV_refl _)) (okW_cons (ent_own_frz (E := TVolume.E) (ty := 79) (l' := L90000) rfl (by first | rfl | (simp (disch := first | decide | assumption) only [mpushs_nil, mpushs_cons, mget_hd, mget_tl, mget_appW_o, mget_appW_n, mget_appW_e])) rfl) (okW_cons (ent_own_frz (E := TVolume.E) (ty := 79) (l' := L90000) rfl (by first | rfl | (simp (disch := first | decide | assumption) only [mpushs_nil, mpushs_cons, mget_hd, mget_tl, mget_appW_o, mget_appW_n, mget_appW_e])) rfl) (okW_cons (.inl (leV_refl _)) (okW_cons (.inl (leV_refl _)) okW_nil))))) okB_nil')
theorem L23_0_ok (n : Nat) (a0 : List TSector) (c2 : Int) (c19 : Int) {t : ρ23} (R : AV → Mem → Prop) (hR : ∀ r : ρ23, t = r → ∀ u m, Ans ((intA r)) u m → R u m) (k : Nat) (x : Int × List TVolume) (hx : iterO (fun y : Int × List TVolume => S23_0 n a0 c2 c19 y.1 y.2) k x = some t) {s : St} (hw : Weak KK 87 0 s (h23_0 (lstA TSector.E a0) c2 (ownV TVolume.E 90000 x.2) (lstA TSector.E a0) c19 x.1 [(90000, ownB TVolume.E 79 x.2)])) : Tri Tryz.prog KK 87 0 (.loop c23_0) s (q23_0 R ) :=
  L23_0 R  (σ := Nat × (Int × List TVolume)) (fun z => iterO (fun y : Int × List TVolume => S23_0 n a0 c2 c19 y.1 y.2) z.1 z.2 = some t) (fun z => (lstA TSector.E a0)) (fun z => c2) (fun z => (ownV TVolume.E 90000 z.2.2)) (fun z => (lstA TSector.E a0)) (fun z => c19) (fun z => z.2.1) (fun z => [(90000, ownB TVolume.E 79 z.2.2)]) (fun z => z.1) (by
    rintro ⟨k, y⟩ h
    cases k with
    | zero => exact (iterO_zero h).elim
    | succ k =>
      obtain ⟨u, h1, h2, h3⟩ := iterO_elim h
      exact B23_0_ok n a0 c2 c19 y.1 y.2 R  _ (fun r e => hR r (h3 _ e).symm)  (fun y' e s' hw => ⟨(k, y'), h2 _ e, Nat.lt_succ_self k, hw⟩) h1) (k, x) hx hw
theorem g23_ok (n : Nat) (a0 : List TSector) {t : ρ23} (R : AV → Mem → Prop) (hR : ∀ r : ρ23, t = r → ∀ u m, Ans ((intA r)) u m → R u m) : g23 n a0 = some t → F23 (lstA TSector.E a0) R := by
  unfold g23 F23
  refine imp (opP_of (show _ = some ((intA (a0.length : Int)), []) from rfl)) ?_
  refine imp ex_i64_b ?_
  refine cond_b (fun _ => ?_) (fun _ => ?_)
  · exact fun hg => ret1 (hR _ (Option.some.inj hg).symm) (fz_sc _ _)
  · refine imp (opP_of (show _ = some ((intA (a0.length : Int)), []) from rfl)) ?_
    refine imp ex_i64_b ?_
    exact fun hg => L23_0_ok n a0 (0) (a0.length : Int) R  hR n _ hg (weak_mem [(90000, 89500)] rfl rfl rfl (okW_cons (ent_lst (E := TSector.E) _ false) (okW_cons (.inl (leV_refl _)) (okW_cons ent_nils_own (okW_cons (ent_lst (E := TSector.E) _ false) (okW_cons (.inl (leV_refl _)) (okW_cons (.inl (leV_refl _)) okW_nil)))))) (okB_cons okB_nil okB_nil'))
theorem sg23 {n : Nat} {a0 : List TSector} {t : ρ23} (h : g23 n a0 = some t) : Says Tryz.prog KK.gl 23 [(lstA TSector.E a0)] ((intA t)) :=
  says_of_own (by first | rfl | simp [cleans, clean, encs_clean, En.cln]) (by first | rfl | simp [cleans, clean, encs_clean, En.cln]) (F23_own (lstA TSector.E a0) _ (g23_ok n a0 (Ans ((intA t))) (fun r e u m h => by rw [e]; exact h) h))
end Go.Proofs.YtldiackagnjlgaaGreat
