/- Plain functional programs out of the program's functions, with proofs that the functions compute them; printed by wip/Ext.lean.txt. -/
import Derived.Test.YtbnnndfcaehlpaaGreatDoorX1E1
set_option linter.unusedVariables false
set_option linter.unusedSimpArgs false
set_option maxRecDepth 100000
set_option maxHeartbeats 4000000
namespace Go.Proofs.YtbnnndfcaehlpaaGreatDoor
/- skyway/wake.Standard -/
theorem g7_ok (n : Nat) {t : ρ7} (R : AV → Mem → Prop) (hR : ∀ r : ρ7, t = r → ∀ u m, Ans ((AV.agg (TWakeTable.E.enc r))) u m → R u m) : g7 n  = some t → F7  R := by
  unfold g7 F7
  refine iq (AV.agg [(intA (60)), (intA (60)), (intA (60)), (intA (60))]) (by kernel_rfl) ?_
  refine iq (AV.agg [(intA (120)), (intA (60)), (intA (60)), (intA (60))]) (by kernel_rfl) ?_
  refine iq (AV.agg [(intA (180)), (intA (120)), (intA (90)), (intA (60))]) (by kernel_rfl) ?_
  refine iq (AV.agg [(intA (240)), (intA (180)), (intA (120)), (intA (120))]) (by kernel_rfl) ?_
  refine iq (AV.agg [(intA (60)), (intA (60)), (intA (60)), (intA (60)), (intA (120)), (intA (60)), (intA (60)), (intA (60)), (intA (180)), (intA (120)), (intA (90)), (intA (60)), (intA (240)), (intA (180)), (intA (120)), (intA (120))]) (by kernel_rfl) ?_
  refine imp (storeW_cells (sz := 16) (by kernel_rfl) (by kernel_rfl) rfl rfl (cs := [(intA (0)), (intA (0)), (intA (0)), (intA (0)), (intA (0)), (intA (0)), (intA (0)), (intA (0)), (intA (0)), (intA (0)), (intA (0)), (intA (0)), (intA (0)), (intA (0)), (intA (0)), (intA (0))]) (cs' := [(intA (60)), (intA (60)), (intA (60)), (intA (60)), (intA (120)), (intA (60)), (intA (60)), (intA (60)), (intA (180)), (intA (120)), (intA (90)), (intA (60)), (intA (240)), (intA (180)), (intA (120)), (intA (120))]) (ty := 31) (by first | rfl | (simp (disch := first | decide | assumption) only [mpushs_nil, mpushs_cons, mget_hd, mget_tl, mget_appW_o, mget_appW_n, mget_appW_e])) rfl rfl) ?_
  exact fun hg => ret1 (hR _ (Option.some.inj hg).symm) (fz_el (E := TWakeTable.E) _ (⟨(60), (60), (60), (60), (120), (60), (60), (60), (180), (120), (90), (60), (240), (180), (120), (120)⟩ : TWakeTable))
theorem sg7 {n : Nat} {t : ρ7} (h : g7 n  = some t) : Says pg KK.gl 7 [] ((AV.agg (TWakeTable.E.enc t))) :=
  says_of_own (by first | rfl | simp [cleans, clean, encs_clean, En.cln]) (by first | rfl | simp [cleans, clean, encs_clean, En.cln]) (F7_own  _ (g7_ok n  (Ans ((AV.agg (TWakeTable.E.enc t)))) (fun r e u m h => by rw [e]; exact h) h))
/- skyway/wake.Check -/
theorem B89_0_0_ok (n : Nat) (c2 : Int) (c10_0 : Int) (c10_1 : Int) (c10_2 : Int) (c10_3 : Int) (c10_4 : Int) (c10_5 : Int) (c10_6 : Int) (c10_7 : Int) (c10_8 : Int) (c10_9 : Int) (c10_10 : Int) (c10_11 : Int) (c10_12 : Int) (c10_13 : Int) (c10_14 : Int) (c10_15 : Int) (v11 : Int) (c14_0 : Int) (c14_1 : Int) (c14_2 : Int) (c14_3 : Int) (w15 : Int) {t : (Int) ⊕ ((Int) ⊕ ρ89)} (R : AV → Mem → Prop) (N0 : St → Prop) (N1 : St → Prop) (hR : ∀ r : ρ89, t = (.inr (.inr r)) → ∀ u m, Ans ((intA r)) u m → R u m) (hN0 : ∀ y : Int, t = (.inr (.inl y)) → ∀ s' : St, Weak KK 55 0 s' (h89_0 c2 c10_0 c10_1 c10_2 c10_3 c10_4 c10_5 c10_6 c10_7 c10_8 c10_9 c10_10 c10_11 c10_12 c10_13 c10_14 c10_15 y c10_0 c10_1 c10_2 c10_3 c10_4 c10_5 c10_6 c10_7 c10_8 c10_9 c10_10 c10_11 c10_12 c10_13 c10_14 c10_15 []) → N0 s') (hN1 : ∀ y : Int, t = (.inl y) → ∀ s' : St, Weak KK 55 0 s' (h89_0_0 c2 c10_0 c10_1 c10_2 c10_3 c10_4 c10_5 c10_6 c10_7 c10_8 c10_9 c10_10 c10_11 c10_12 c10_13 c10_14 c10_15 v11 c14_0 c14_1 c14_2 c14_3 y c10_0 c10_1 c10_2 c10_3 c10_4 c10_5 c10_6 c10_7 c10_8 c10_9 c10_10 c10_11 c10_12 c10_13 c10_14 c10_15 []) → N1 s') : S89_0_0 n c2 c10_0 c10_1 c10_2 c10_3 c10_4 c10_5 c10_6 c10_7 c10_8 c10_9 c10_10 c10_11 c10_12 c10_13 c10_14 c10_15 v11 c14_0 c14_1 c14_2 c14_3 w15 = some t → B89_0_0 c2 c10_0 c10_1 c10_2 c10_3 c10_4 c10_5 c10_6 c10_7 c10_8 c10_9 c10_10 c10_11 c10_12 c10_13 c10_14 c10_15 v11 c14_0 c14_1 c14_2 c14_3 w15 c10_0 c10_1 c10_2 c10_3 c10_4 c10_5 c10_6 c10_7 c10_8 c10_9 c10_10 c10_11 c10_12 c10_13 c10_14 c10_15 [] R N0 N1 := by
  unfold S89_0_0 B89_0_0
  refine cond_b (fun _ => ?_) (fun _ => ?_)
  · refine bind_b fun x65 h65 => ?_
    refine iq (intA x65) (opA_index_sc (E := intE) (l := ([c14_0, c14_1, c14_2, c14_3] : List Int)) (len := 4) (e := 3) (by kernel_rfl) (by kernel_rfl) (by kernel_rfl) rfl ⟨rfl, rfl⟩ h65 rfl) ?_
    refine imp ex_i64_b ?_
    refine cond_b (fun _ => ?_) (fun _ => ?_)
    · exact fun hg => ret1 (hR _ (Option.some.inj hg).symm) (fz_sc _ _)
    · refine cond_b (fun _ => ?_) (fun _ => ?_)
      · exact fun hg => ret1 (hR _ (Option.some.inj hg).symm) (fz_sc _ _)
      · exact fun hg => hN1 _ (Option.some.inj hg).symm _ (weak_mem [(0, 0)] rfl rfl rfl (okW_cons (.inl (leV_refl _)) (okW_cons (.inl (leV_refl _)) (okW_cons (.inl (leV_refl _)) (okW_cons (.inl (leV_refl _)) (okW_cons (.inl (leV_refl _)) (okW_cons (.inl (leV_refl _)) okW_nil)))))) (okB_cons (okB_cells (cs := [(intA c10_0), (intA c10_1), (intA c10_2), (intA c10_3), (intA c10_4), (intA c10_5), (intA c10_6), (intA c10_7), (intA c10_8), (intA c10_9), (intA c10_10), (intA c10_11), (intA c10_12), (intA c10_13), (intA c10_14), (intA c10_15)]) (ty := 31) rfl (show mget _ 0 = _ from (by first | rfl | (simp (disch := first | decide | assumption) only [mpushs_nil, mpushs_cons, mget_hd, mget_tl, mget_appW_o, mget_appW_n, mget_appW_e])))) okB_nil'))
  · exact fun hg => hN0 _ (Option.some.inj hg).symm _ (weak_mem [(0, 0)] rfl rfl rfl (okW_cons (.inl (leV_refl _)) (okW_cons (.inl (leV_refl _)) (okW_cons (.inl (leV_refl _)) (okW_cons (.inl (leV_refl _)) okW_nil)))) (okB_cons (okB_cells (cs := [(intA c10_0), (intA c10_1), (intA c10_2), (intA c10_3), (intA c10_4), (intA c10_5), (intA c10_6), (intA c10_7), (intA c10_8), (intA c10_9), (intA c10_10), (intA c10_11), (intA c10_12), (intA c10_13), (intA c10_14), (intA c10_15)]) (ty := 31) rfl (show mget _ 0 = _ from (by first | rfl | (simp (disch := first | decide | assumption) only [mpushs_nil, mpushs_cons, mget_hd, mget_tl, mget_appW_o, mget_appW_n, mget_appW_e])))) okB_nil'))
theorem L89_0_0_ok (n : Nat) (c2 : Int) (c10_0 : Int) (c10_1 : Int) (c10_2 : Int) (c10_3 : Int) (c10_4 : Int) (c10_5 : Int) (c10_6 : Int) (c10_7 : Int) (c10_8 : Int) (c10_9 : Int) (c10_10 : Int) (c10_11 : Int) (c10_12 : Int) (c10_13 : Int) (c10_14 : Int) (c10_15 : Int) (v11 : Int) (c14_0 : Int) (c14_1 : Int) (c14_2 : Int) (c14_3 : Int) {t : ((Int) ⊕ ρ89)} (R : AV → Mem → Prop) (N0 : St → Prop) (hR : ∀ r : ρ89, t = (.inr r) → ∀ u m, Ans ((intA r)) u m → R u m) (hN0 : ∀ y : Int, t = (.inl y) → ∀ s' : St, Weak KK 55 0 s' (h89_0 c2 c10_0 c10_1 c10_2 c10_3 c10_4 c10_5 c10_6 c10_7 c10_8 c10_9 c10_10 c10_11 c10_12 c10_13 c10_14 c10_15 y c10_0 c10_1 c10_2 c10_3 c10_4 c10_5 c10_6 c10_7 c10_8 c10_9 c10_10 c10_11 c10_12 c10_13 c10_14 c10_15 []) → N0 s') (k : Nat) (x : Int) (hx : iterO (fun y : Int => S89_0_0 n c2 c10_0 c10_1 c10_2 c10_3 c10_4 c10_5 c10_6 c10_7 c10_8 c10_9 c10_10 c10_11 c10_12 c10_13 c10_14 c10_15 v11 c14_0 c14_1 c14_2 c14_3 y) k x = some t) {s : St} (hw : Weak KK 55 0 s (h89_0_0 c2 c10_0 c10_1 c10_2 c10_3 c10_4 c10_5 c10_6 c10_7 c10_8 c10_9 c10_10 c10_11 c10_12 c10_13 c10_14 c10_15 v11 c14_0 c14_1 c14_2 c14_3 x c10_0 c10_1 c10_2 c10_3 c10_4 c10_5 c10_6 c10_7 c10_8 c10_9 c10_10 c10_11 c10_12 c10_13 c10_14 c10_15 [])) : Tri pg KK 55 0 (.loop c89_0_0) s (q89_0_0 R N0) :=
  L89_0_0 R N0 (σ := Nat × (Int)) (fun z => iterO (fun y : Int => S89_0_0 n c2 c10_0 c10_1 c10_2 c10_3 c10_4 c10_5 c10_6 c10_7 c10_8 c10_9 c10_10 c10_11 c10_12 c10_13 c10_14 c10_15 v11 c14_0 c14_1 c14_2 c14_3 y) z.1 z.2 = some t) (fun z => c2) (fun z => c10_0) (fun z => c10_1) (fun z => c10_2) (fun z => c10_3) (fun z => c10_4) (fun z => c10_5) (fun z => c10_6) (fun z => c10_7) (fun z => c10_8) (fun z => c10_9) (fun z => c10_10) (fun z => c10_11) (fun z => c10_12) (fun z => c10_13) (fun z => c10_14) (fun z => c10_15) (fun z => v11) (fun z => c14_0) (fun z => c14_1) (fun z => c14_2) (fun z => c14_3) (fun z => z.2) (fun z => c10_0) (fun z => c10_1) (fun z => c10_2) (fun z => c10_3) (fun z => c10_4) (fun z => c10_5) (fun z => c10_6) (fun z => c10_7) (fun z => c10_8) (fun z => c10_9) (fun z => c10_10) (fun z => c10_11) (fun z => c10_12) (fun z => c10_13) (fun z => c10_14) (fun z => c10_15) (fun z => []) (fun z => z.1) (by
    rintro ⟨k, y⟩ h
    cases k with
    | zero => exact (iterO_zero h).elim
    | succ k =>
      obtain ⟨u, h1, h2, h3⟩ := iterO_elim h
      exact B89_0_0_ok n c2 c10_0 c10_1 c10_2 c10_3 c10_4 c10_5 c10_6 c10_7 c10_8 c10_9 c10_10 c10_11 c10_12 c10_13 c10_14 c10_15 v11 c14_0 c14_1 c14_2 c14_3 y R N0 _ (fun r e => hR r (h3 _ e).symm) (fun y' e => hN0 y' (h3 _ e).symm) (fun y' e s' hw => ⟨(k, y'), h2 _ e, Nat.lt_succ_self k, hw⟩) h1) (k, x) hx hw
theorem B89_1_0_0_ok (n : Nat) (c2 : Int) (v26 : Int) (w29 : Int) (c10_0 : Int) (c10_1 : Int) (c10_2 : Int) (c10_3 : Int) (c10_4 : Int) (c10_5 : Int) (c10_6 : Int) (c10_7 : Int) (c10_8 : Int) (c10_9 : Int) (c10_10 : Int) (c10_11 : Int) (c10_12 : Int) (c10_13 : Int) (c10_14 : Int) (c10_15 : Int) (u32 : Int) {t : (Int) ⊕ ((Int) ⊕ ((Int) ⊕ ρ89))} (R : AV → Mem → Prop) (N0 : St → Prop) (N1 : St → Prop) (N2 : St → Prop) (hR : ∀ r : ρ89, t = (.inr (.inr (.inr r))) → ∀ u m, Ans ((intA r)) u m → R u m) (hN0 : ∀ y : Int, t = (.inr (.inr (.inl y))) → ∀ s' : St, Weak KK 55 0 s' (h89_1 c2 y c10_0 c10_1 c10_2 c10_3 c10_4 c10_5 c10_6 c10_7 c10_8 c10_9 c10_10 c10_11 c10_12 c10_13 c10_14 c10_15 []) → N0 s') (hN1 : ∀ y : Int, t = (.inr (.inl y)) → ∀ s' : St, Weak KK 55 0 s' (h89_1_0 c2 v26 v26 y c10_0 c10_1 c10_2 c10_3 c10_4 c10_5 c10_6 c10_7 c10_8 c10_9 c10_10 c10_11 c10_12 c10_13 c10_14 c10_15 []) → N1 s') (hN2 : ∀ y : Int, t = (.inl y) → ∀ s' : St, Weak KK 55 0 s' (h89_1_0_0 c2 v26 w29 v26 w29 y c10_0 c10_1 c10_2 c10_3 c10_4 c10_5 c10_6 c10_7 c10_8 c10_9 c10_10 c10_11 c10_12 c10_13 c10_14 c10_15 []) → N2 s') : S89_1_0_0 n c2 v26 w29 c10_0 c10_1 c10_2 c10_3 c10_4 c10_5 c10_6 c10_7 c10_8 c10_9 c10_10 c10_11 c10_12 c10_13 c10_14 c10_15 u32 = some t → B89_1_0_0 c2 v26 w29 v26 w29 u32 c10_0 c10_1 c10_2 c10_3 c10_4 c10_5 c10_6 c10_7 c10_8 c10_9 c10_10 c10_11 c10_12 c10_13 c10_14 c10_15 [] R N0 N1 N2 := by
  unfold S89_1_0_0 B89_1_0_0
  refine cond_b (fun _ => ?_) (fun _ => ?_)
  · refine bind_b fun x66 h66 => ?_
    refine iq (AV.ptr 0 (((v26 : Int).toNat) * 4 + 0)) (idxA_ok0 (l := ([(⟨c10_0, c10_1, c10_2, c10_3⟩ : T29), (⟨c10_4, c10_5, c10_6, c10_7⟩ : T29), (⟨c10_8, c10_9, c10_10, c10_11⟩ : T29), (⟨c10_12, c10_13, c10_14, c10_15⟩ : T29)] : List T29)) (len := 4) rfl h66) ?_
    refine bind_b fun x67 h67 => ?_
    refine iq (AV.ptr 0 _) (idxA_ok (l := ([x66.c0, x66.c1, x66.c2, x66.c3] : List Int)) (len := 4) rfl h67) ?_
    refine iq (intA x67) (ldS_row (E := T29.E) (E2 := intE) (l := ([(⟨c10_0, c10_1, c10_2, c10_3⟩ : T29), (⟨c10_4, c10_5, c10_6, c10_7⟩ : T29), (⟨c10_8, c10_9, c10_10, c10_11⟩ : T29), (⟨c10_12, c10_13, c10_14, c10_15⟩ : T29)] : List T29)) (l2 := ([x66.c0, x66.c1, x66.c2, x66.c3] : List Int)) (ty := 31) (by first | rfl | (simp (disch := first | decide | assumption) only [mpushs_nil, mpushs_cons, mget_hd, mget_tl, mget_appW_o, mget_appW_n, mget_appW_e])) (getI_some h66).2 rfl rfl (getI_some h67).2 rfl) ?_
    refine imp ex_i64_b ?_
    refine bind_b fun x68 h68 => ?_
    refine iq (AV.ptr 0 (((v26 : Int).toNat) * 4 + 0)) (idxA_ok0 (l := ([(⟨c10_0, c10_1, c10_2, c10_3⟩ : T29), (⟨c10_4, c10_5, c10_6, c10_7⟩ : T29), (⟨c10_8, c10_9, c10_10, c10_11⟩ : T29), (⟨c10_12, c10_13, c10_14, c10_15⟩ : T29)] : List T29)) (len := 4) rfl h68) ?_
    refine bind_b fun x69 h69 => ?_
    refine iq (AV.ptr 0 _) (idxA_ok (l := ([x68.c0, x68.c1, x68.c2, x68.c3] : List Int)) (len := 4) rfl h69) ?_
    refine iq (intA x69) (ldS_row (E := T29.E) (E2 := intE) (l := ([(⟨c10_0, c10_1, c10_2, c10_3⟩ : T29), (⟨c10_4, c10_5, c10_6, c10_7⟩ : T29), (⟨c10_8, c10_9, c10_10, c10_11⟩ : T29), (⟨c10_12, c10_13, c10_14, c10_15⟩ : T29)] : List T29)) (l2 := ([x68.c0, x68.c1, x68.c2, x68.c3] : List Int)) (ty := 31) (by first | rfl | (simp (disch := first | decide | assumption) only [mpushs_nil, mpushs_cons, mget_hd, mget_tl, mget_appW_o, mget_appW_n, mget_appW_e])) (getI_some h68).2 rfl rfl (getI_some h69).2 rfl) ?_
    refine imp ex_i64_b ?_
    refine bind_b fun x70 h70 => ?_
    refine iq (AV.ptr 0 (((w29 : Int).toNat) * 4 + 0)) (idxA_ok0 (l := ([(⟨c10_0, c10_1, c10_2, c10_3⟩ : T29), (⟨c10_4, c10_5, c10_6, c10_7⟩ : T29), (⟨c10_8, c10_9, c10_10, c10_11⟩ : T29), (⟨c10_12, c10_13, c10_14, c10_15⟩ : T29)] : List T29)) (len := 4) rfl h70) ?_
    refine bind_b fun x71 h71 => ?_
    refine iq (AV.ptr 0 _) (idxA_ok (l := ([x70.c0, x70.c1, x70.c2, x70.c3] : List Int)) (len := 4) rfl h71) ?_
    refine iq (intA x71) (ldS_row (E := T29.E) (E2 := intE) (l := ([(⟨c10_0, c10_1, c10_2, c10_3⟩ : T29), (⟨c10_4, c10_5, c10_6, c10_7⟩ : T29), (⟨c10_8, c10_9, c10_10, c10_11⟩ : T29), (⟨c10_12, c10_13, c10_14, c10_15⟩ : T29)] : List T29)) (l2 := ([x70.c0, x70.c1, x70.c2, x70.c3] : List Int)) (ty := 31) (by first | rfl | (simp (disch := first | decide | assumption) only [mpushs_nil, mpushs_cons, mget_hd, mget_tl, mget_appW_o, mget_appW_n, mget_appW_e])) (getI_some h70).2 rfl rfl (getI_some h71).2 rfl) ?_
    refine imp ex_i64_b ?_
    refine cond_b (fun _ => ?_) (fun _ => ?_)
    · exact fun hg => ret1 (hR _ (Option.some.inj hg).symm) (fz_sc _ _)
    · exact fun hg => hN2 _ (Option.some.inj hg).symm _ (weak_mem [(0, 0)] rfl rfl rfl (okW_cons (.inl (leV_refl _)) (okW_cons (.inl (leV_refl _)) (okW_cons (.inl (leV_refl _)) (okW_cons (.inl (leV_refl _)) (okW_cons (.inl (leV_refl _)) (okW_cons (.inl (leV_refl _)) (okW_cons (.inl (leV_refl _)) okW_nil))))))) (okB_cons (okB_cells (cs := [(intA c10_0), (intA c10_1), (intA c10_2), (intA c10_3), (intA c10_4), (intA c10_5), (intA c10_6), (intA c10_7), (intA c10_8), (intA c10_9), (intA c10_10), (intA c10_11), (intA c10_12), (intA c10_13), (intA c10_14), (intA c10_15)]) (ty := 31) rfl (show mget _ 0 = _ from (by first | rfl | (simp (disch := first | decide | assumption) only [mpushs_nil, mpushs_cons, mget_hd, mget_tl, mget_appW_o, mget_appW_n, mget_appW_e])))) okB_nil'))
  · exact fun hg => hN1 _ (Option.some.inj hg).symm _ (weak_mem [(0, 0)] rfl rfl rfl (okW_cons (.inl (leV_refl _)) (okW_cons (.inl (leV_refl _)) (okW_cons (.inl (leV_refl _)) (okW_cons (.inl (leV_refl _)) (okW_cons (.inl (leV_refl _)) okW_nil))))) (okB_cons (okB_cells (cs := [(intA c10_0), (intA c10_1), (intA c10_2), (intA c10_3), (intA c10_4), (intA c10_5), (intA c10_6), (intA c10_7), (intA c10_8), (intA c10_9), (intA c10_10), (intA c10_11), (intA c10_12), (intA c10_13), (intA c10_14), (intA c10_15)]) (ty := 31) rfl (show mget _ 0 = _ from (by first | rfl | (simp (disch := first | decide | assumption) only [mpushs_nil, mpushs_cons, mget_hd, mget_tl, mget_appW_o, mget_appW_n, mget_appW_e])))) okB_nil'))
theorem L89_1_0_0_ok (n : Nat) (c2 : Int) (v26 : Int) (w29 : Int) (c10_0 : Int) (c10_1 : Int) (c10_2 : Int) (c10_3 : Int) (c10_4 : Int) (c10_5 : Int) (c10_6 : Int) (c10_7 : Int) (c10_8 : Int) (c10_9 : Int) (c10_10 : Int) (c10_11 : Int) (c10_12 : Int) (c10_13 : Int) (c10_14 : Int) (c10_15 : Int) {t : ((Int) ⊕ ((Int) ⊕ ρ89))} (R : AV → Mem → Prop) (N0 : St → Prop) (N1 : St → Prop) (hR : ∀ r : ρ89, t = (.inr (.inr r)) → ∀ u m, Ans ((intA r)) u m → R u m) (hN0 : ∀ y : Int, t = (.inr (.inl y)) → ∀ s' : St, Weak KK 55 0 s' (h89_1 c2 y c10_0 c10_1 c10_2 c10_3 c10_4 c10_5 c10_6 c10_7 c10_8 c10_9 c10_10 c10_11 c10_12 c10_13 c10_14 c10_15 []) → N0 s') (hN1 : ∀ y : Int, t = (.inl y) → ∀ s' : St, Weak KK 55 0 s' (h89_1_0 c2 v26 v26 y c10_0 c10_1 c10_2 c10_3 c10_4 c10_5 c10_6 c10_7 c10_8 c10_9 c10_10 c10_11 c10_12 c10_13 c10_14 c10_15 []) → N1 s') (k : Nat) (x : Int) (hx : iterO (fun y : Int => S89_1_0_0 n c2 v26 w29 c10_0 c10_1 c10_2 c10_3 c10_4 c10_5 c10_6 c10_7 c10_8 c10_9 c10_10 c10_11 c10_12 c10_13 c10_14 c10_15 y) k x = some t) {s : St} (hw : Weak KK 55 0 s (h89_1_0_0 c2 v26 w29 v26 w29 x c10_0 c10_1 c10_2 c10_3 c10_4 c10_5 c10_6 c10_7 c10_8 c10_9 c10_10 c10_11 c10_12 c10_13 c10_14 c10_15 [])) : Tri pg KK 55 0 (.loop c89_1_0_0) s (q89_1_0_0 R N0 N1) :=
  L89_1_0_0 R N0 N1 (σ := Nat × (Int)) (fun z => iterO (fun y : Int => S89_1_0_0 n c2 v26 w29 c10_0 c10_1 c10_2 c10_3 c10_4 c10_5 c10_6 c10_7 c10_8 c10_9 c10_10 c10_11 c10_12 c10_13 c10_14 c10_15 y) z.1 z.2 = some t) (fun z => c2) (fun z => v26) (fun z => w29) (fun z => v26) (fun z => w29) (fun z => z.2) (fun z => c10_0) (fun z => c10_1) (fun z => c10_2) (fun z => c10_3) (fun z => c10_4) (fun z => c10_5) (fun z => c10_6) (fun z => c10_7) (fun z => c10_8) (fun z => c10_9) (fun z => c10_10) (fun z => c10_11) (fun z => c10_12) (fun z => c10_13) (fun z => c10_14) (fun z => c10_15) (fun z => []) (fun z => z.1) (by
    rintro ⟨k, y⟩ h
    cases k with
    | zero => exact (iterO_zero h).elim
    | succ k =>
      obtain ⟨u, h1, h2, h3⟩ := iterO_elim h
      exact B89_1_0_0_ok n c2 v26 w29 c10_0 c10_1 c10_2 c10_3 c10_4 c10_5 c10_6 c10_7 c10_8 c10_9 c10_10 c10_11 c10_12 c10_13 c10_14 c10_15 y R N0 N1 _ (fun r e => hR r (h3 _ e).symm) (fun y' e => hN0 y' (h3 _ e).symm) (fun y' e => hN1 y' (h3 _ e).symm) (fun y' e s' hw => ⟨(k, y'), h2 _ e, Nat.lt_succ_self k, hw⟩) h1) (k, x) hx hw
theorem B89_1_0_ok (n : Nat) (c2 : Int) (v26 : Int) (c10_0 : Int) (c10_1 : Int) (c10_2 : Int) (c10_3 : Int) (c10_4 : Int) (c10_5 : Int) (c10_6 : Int) (c10_7 : Int) (c10_8 : Int) (c10_9 : Int) (c10_10 : Int) (c10_11 : Int) (c10_12 : Int) (c10_13 : Int) (c10_14 : Int) (c10_15 : Int) (w29 : Int) {t : (Int) ⊕ ((Int) ⊕ ρ89)} (R : AV → Mem → Prop) (N0 : St → Prop) (N1 : St → Prop) (hR : ∀ r : ρ89, t = (.inr (.inr r)) → ∀ u m, Ans ((intA r)) u m → R u m) (hN0 : ∀ y : Int, t = (.inr (.inl y)) → ∀ s' : St, Weak KK 55 0 s' (h89_1 c2 y c10_0 c10_1 c10_2 c10_3 c10_4 c10_5 c10_6 c10_7 c10_8 c10_9 c10_10 c10_11 c10_12 c10_13 c10_14 c10_15 []) → N0 s') (hN1 : ∀ y : Int, t = (.inl y) → ∀ s' : St, Weak KK 55 0 s' (h89_1_0 c2 v26 v26 y c10_0 c10_1 c10_2 c10_3 c10_4 c10_5 c10_6 c10_7 c10_8 c10_9 c10_10 c10_11 c10_12 c10_13 c10_14 c10_15 []) → N1 s') : S89_1_0 n c2 v26 c10_0 c10_1 c10_2 c10_3 c10_4 c10_5 c10_6 c10_7 c10_8 c10_9 c10_10 c10_11 c10_12 c10_13 c10_14 c10_15 w29 = some t → B89_1_0 c2 v26 v26 w29 c10_0 c10_1 c10_2 c10_3 c10_4 c10_5 c10_6 c10_7 c10_8 c10_9 c10_10 c10_11 c10_12 c10_13 c10_14 c10_15 [] R N0 N1 := by
  unfold S89_1_0 B89_1_0
  refine cond_b (fun _ => ?_) (fun _ => ?_)
  · exact fun hg => L89_1_0_0_ok n c2 v26 w29 c10_0 c10_1 c10_2 c10_3 c10_4 c10_5 c10_6 c10_7 c10_8 c10_9 c10_10 c10_11 c10_12 c10_13 c10_14 c10_15 R N0 N1 hR hN0 hN1 n _ hg (weak_mem [(0, 0)] rfl rfl rfl (okW_cons (.inl (leV_refl _)) (okW_cons (.inl (leV_refl _)) (okW_cons (.inl (leV_refl _)) (okW_cons (.inl (leV_refl _)) (okW_cons (.inl (leV_refl _)) (okW_cons (.inl (leV_refl _)) (okW_cons (.inl (leV_refl _)) okW_nil))))))) (okB_cons (okB_cells (cs := [(intA c10_0), (intA c10_1), (intA c10_2), (intA c10_3), (intA c10_4), (intA c10_5), (intA c10_6), (intA c10_7), (intA c10_8), (intA c10_9), (intA c10_10), (intA c10_11), (intA c10_12), (intA c10_13), (intA c10_14), (intA c10_15)]) (ty := 31) rfl (show mget _ 0 = _ from (by first | rfl | (simp (disch := first | decide | assumption) only [mpushs_nil, mpushs_cons, mget_hd, mget_tl, mget_appW_o, mget_appW_n, mget_appW_e])))) okB_nil'))
  · exact fun hg => hN0 _ (Option.some.inj hg).symm _ (weak_mem [(0, 0)] rfl rfl rfl (okW_cons (.inl (leV_refl _)) (okW_cons (.inl (leV_refl _)) (okW_cons (.inl (leV_refl _)) okW_nil))) (okB_cons (okB_cells (cs := [(intA c10_0), (intA c10_1), (intA c10_2), (intA c10_3), (intA c10_4), (intA c10_5), (intA c10_6), (intA c10_7), (intA c10_8), (intA c10_9), (intA c10_10), (intA c10_11), (intA c10_12), (intA c10_13), (intA c10_14), (intA c10_15)]) (ty := 31) rfl (show mget _ 0 = _ from (by first | rfl | (simp (disch := first | decide | assumption) only [mpushs_nil, mpushs_cons, mget_hd, mget_tl, mget_appW_o, mget_appW_n, mget_appW_e])))) okB_nil'))
theorem L89_1_0_ok (n : Nat) (c2 : Int) (v26 : Int) (c10_0 : Int) (c10_1 : Int) (c10_2 : Int) (c10_3 : Int) (c10_4 : Int) (c10_5 : Int) (c10_6 : Int) (c10_7 : Int) (c10_8 : Int) (c10_9 : Int) (c10_10 : Int) (c10_11 : Int) (c10_12 : Int) (c10_13 : Int) (c10_14 : Int) (c10_15 : Int) {t : ((Int) ⊕ ρ89)} (R : AV → Mem → Prop) (N0 : St → Prop) (hR : ∀ r : ρ89, t = (.inr r) → ∀ u m, Ans ((intA r)) u m → R u m) (hN0 : ∀ y : Int, t = (.inl y) → ∀ s' : St, Weak KK 55 0 s' (h89_1 c2 y c10_0 c10_1 c10_2 c10_3 c10_4 c10_5 c10_6 c10_7 c10_8 c10_9 c10_10 c10_11 c10_12 c10_13 c10_14 c10_15 []) → N0 s') (k : Nat) (x : Int) (hx : iterO (fun y : Int => S89_1_0 n c2 v26 c10_0 c10_1 c10_2 c10_3 c10_4 c10_5 c10_6 c10_7 c10_8 c10_9 c10_10 c10_11 c10_12 c10_13 c10_14 c10_15 y) k x = some t) {s : St} (hw : Weak KK 55 0 s (h89_1_0 c2 v26 v26 x c10_0 c10_1 c10_2 c10_3 c10_4 c10_5 c10_6 c10_7 c10_8 c10_9 c10_10 c10_11 c10_12 c10_13 c10_14 c10_15 [])) : Tri pg KK 55 0 (.loop c89_1_0) s (q89_1_0 R N0) :=
  L89_1_0 R N0 (σ := Nat × (Int)) (fun z => iterO (fun y : Int => S89_1_0 n c2 v26 c10_0 c10_1 c10_2 c10_3 c10_4 c10_5 c10_6 c10_7 c10_8 c10_9 c10_10 c10_11 c10_12 c10_13 c10_14 c10_15 y) z.1 z.2 = some t) (fun z => c2) (fun z => v26) (fun z => v26) (fun z => z.2) (fun z => c10_0) (fun z => c10_1) (fun z => c10_2) (fun z => c10_3) (fun z => c10_4) (fun z => c10_5) (fun z => c10_6) (fun z => c10_7) (fun z => c10_8) (fun z => c10_9) (fun z => c10_10) (fun z => c10_11) (fun z => c10_12) (fun z => c10_13) (fun z => c10_14) (fun z => c10_15) (fun z => []) (fun z => z.1) (by
    rintro ⟨k, y⟩ h
    cases k with
    | zero => exact (iterO_zero h).elim
    | succ k =>
      obtain ⟨u, h1, h2, h3⟩ := iterO_elim h
      exact B89_1_0_ok n c2 v26 c10_0 c10_1 c10_2 c10_3 c10_4 c10_5 c10_6 c10_7 c10_8 c10_9 c10_10 c10_11 c10_12 c10_13 c10_14 c10_15 y R N0 _ (fun r e => hR r (h3 _ e).symm) (fun y' e => hN0 y' (h3 _ e).symm) (fun y' e s' hw => ⟨(k, y'), h2 _ e, Nat.lt_succ_self k, hw⟩) h1) (k, x) hx hw
theorem B89_1_ok (n : Nat) (c2 : Int) (c10_0 : Int) (c10_1 : Int) (c10_2 : Int) (c10_3 : Int) (c10_4 : Int) (c10_5 : Int) (c10_6 : Int) (c10_7 : Int) (c10_8 : Int) (c10_9 : Int) (c10_10 : Int) (c10_11 : Int) (c10_12 : Int) (c10_13 : Int) (c10_14 : Int) (c10_15 : Int) (v26 : Int) {t : (Int) ⊕ ρ89} (R : AV → Mem → Prop) (N0 : St → Prop) (hR : ∀ r : ρ89, t = (.inr r) → ∀ u m, Ans ((intA r)) u m → R u m) (hN0 : ∀ y : Int, t = (.inl y) → ∀ s' : St, Weak KK 55 0 s' (h89_1 c2 y c10_0 c10_1 c10_2 c10_3 c10_4 c10_5 c10_6 c10_7 c10_8 c10_9 c10_10 c10_11 c10_12 c10_13 c10_14 c10_15 []) → N0 s') : S89_1 n c2 c10_0 c10_1 c10_2 c10_3 c10_4 c10_5 c10_6 c10_7 c10_8 c10_9 c10_10 c10_11 c10_12 c10_13 c10_14 c10_15 v26 = some t → B89_1 c2 v26 c10_0 c10_1 c10_2 c10_3 c10_4 c10_5 c10_6 c10_7 c10_8 c10_9 c10_10 c10_11 c10_12 c10_13 c10_14 c10_15 [] R N0 := by
  unfold S89_1 B89_1
  refine cond_b (fun _ => ?_) (fun _ => ?_)
  · exact fun hg => L89_1_0_ok n c2 v26 c10_0 c10_1 c10_2 c10_3 c10_4 c10_5 c10_6 c10_7 c10_8 c10_9 c10_10 c10_11 c10_12 c10_13 c10_14 c10_15 R N0 hR hN0 n _ hg (weak_mem [(0, 0)] rfl rfl rfl (okW_cons (.inl (leV_refl _)) (okW_cons (.inl (leV_refl _)) (okW_cons (.inl (leV_refl _)) (okW_cons (.inl (leV_refl _)) (okW_cons (.inl (leV_refl _)) okW_nil))))) (okB_cons (okB_cells (cs := [(intA c10_0), (intA c10_1), (intA c10_2), (intA c10_3), (intA c10_4), (intA c10_5), (intA c10_6), (intA c10_7), (intA c10_8), (intA c10_9), (intA c10_10), (intA c10_11), (intA c10_12), (intA c10_13), (intA c10_14), (intA c10_15)]) (ty := 31) rfl (show mget _ 0 = _ from (by first | rfl | (simp (disch := first | decide | assumption) only [mpushs_nil, mpushs_cons, mget_hd, mget_tl, mget_appW_o, mget_appW_n, mget_appW_e])))) okB_nil'))
  · exact fun hg => ret1 (hR _ (Option.some.inj hg).symm) (fz_sc _ _)
theorem L89_1_ok (n : Nat) (c2 : Int) (c10_0 : Int) (c10_1 : Int) (c10_2 : Int) (c10_3 : Int) (c10_4 : Int) (c10_5 : Int) (c10_6 : Int) (c10_7 : Int) (c10_8 : Int) (c10_9 : Int) (c10_10 : Int) (c10_11 : Int) (c10_12 : Int) (c10_13 : Int) (c10_14 : Int) (c10_15 : Int) {t : ρ89} (R : AV → Mem → Prop) (hR : ∀ r : ρ89, t = r → ∀ u m, Ans ((intA r)) u m → R u m) (k : Nat) (x : Int) (hx : iterO (fun y : Int => S89_1 n c2 c10_0 c10_1 c10_2 c10_3 c10_4 c10_5 c10_6 c10_7 c10_8 c10_9 c10_10 c10_11 c10_12 c10_13 c10_14 c10_15 y) k x = some t) {s : St} (hw : Weak KK 55 0 s (h89_1 c2 x c10_0 c10_1 c10_2 c10_3 c10_4 c10_5 c10_6 c10_7 c10_8 c10_9 c10_10 c10_11 c10_12 c10_13 c10_14 c10_15 [])) : Tri pg KK 55 0 (.loop c89_1) s (q89_1 R ) :=
  L89_1 R  (σ := Nat × (Int)) (fun z => iterO (fun y : Int => S89_1 n c2 c10_0 c10_1 c10_2 c10_3 c10_4 c10_5 c10_6 c10_7 c10_8 c10_9 c10_10 c10_11 c10_12 c10_13 c10_14 c10_15 y) z.1 z.2 = some t) (fun z => c2) (fun z => z.2) (fun z => c10_0) (fun z => c10_1) (fun z => c10_2) (fun z => c10_3) (fun z => c10_4) (fun z => c10_5) (fun z => c10_6) (fun z => c10_7) (fun z => c10_8) (fun z => c10_9) (fun z => c10_10) (fun z => c10_11) (fun z => c10_12) (fun z => c10_13) (fun z => c10_14) (fun z => c10_15) (fun z => []) (fun z => z.1) (by
    rintro ⟨k, y⟩ h
    cases k with
    | zero => exact (iterO_zero h).elim
    | succ k =>
      obtain ⟨u, h1, h2, h3⟩ := iterO_elim h
      exact B89_1_ok n c2 c10_0 c10_1 c10_2 c10_3 c10_4 c10_5 c10_6 c10_7 c10_8 c10_9 c10_10 c10_11 c10_12 c10_13 c10_14 c10_15 y R  _ (fun r e => hR r (h3 _ e).symm)  (fun y' e s' hw => ⟨(k, y'), h2 _ e, Nat.lt_succ_self k, hw⟩) h1) (k, x) hx hw
theorem B89_0_ok (n : Nat) (c2 : Int) (c10_0 : Int) (c10_1 : Int) (c10_2 : Int) (c10_3 : Int) (c10_4 : Int) (c10_5 : Int) (c10_6 : Int) (c10_7 : Int) (c10_8 : Int) (c10_9 : Int) (c10_10 : Int) (c10_11 : Int) (c10_12 : Int) (c10_13 : Int) (c10_14 : Int) (c10_15 : Int) (v11 : Int) {t : (Int) ⊕ ρ89} (R : AV → Mem → Prop) (N0 : St → Prop) (hR : ∀ r : ρ89, t = (.inr r) → ∀ u m, Ans ((intA r)) u m → R u m) (hN0 : ∀ y : Int, t = (.inl y) → ∀ s' : St, Weak KK 55 0 s' (h89_0 c2 c10_0 c10_1 c10_2 c10_3 c10_4 c10_5 c10_6 c10_7 c10_8 c10_9 c10_10 c10_11 c10_12 c10_13 c10_14 c10_15 y c10_0 c10_1 c10_2 c10_3 c10_4 c10_5 c10_6 c10_7 c10_8 c10_9 c10_10 c10_11 c10_12 c10_13 c10_14 c10_15 []) → N0 s') : S89_0 n c2 c10_0 c10_1 c10_2 c10_3 c10_4 c10_5 c10_6 c10_7 c10_8 c10_9 c10_10 c10_11 c10_12 c10_13 c10_14 c10_15 v11 = some t → B89_0 c2 c10_0 c10_1 c10_2 c10_3 c10_4 c10_5 c10_6 c10_7 c10_8 c10_9 c10_10 c10_11 c10_12 c10_13 c10_14 c10_15 v11 c10_0 c10_1 c10_2 c10_3 c10_4 c10_5 c10_6 c10_7 c10_8 c10_9 c10_10 c10_11 c10_12 c10_13 c10_14 c10_15 [] R N0 := by
  unfold S89_0 B89_0
  refine cond_b (fun _ => ?_) (fun _ => ?_)
  · refine bind_b fun x64 h64 => ?_
    refine iq (AV.agg [(intA x64.c0), (intA x64.c1), (intA x64.c2), (intA x64.c3)]) (opA_index_agg (E := T29.E) (l := ([(⟨c10_0, c10_1, c10_2, c10_3⟩ : T29), (⟨c10_4, c10_5, c10_6, c10_7⟩ : T29), (⟨c10_8, c10_9, c10_10, c10_11⟩ : T29), (⟨c10_12, c10_13, c10_14, c10_15⟩ : T29)] : List T29)) (len := 4) (e := 29) (by kernel_rfl) (by kernel_rfl) (by kernel_rfl) rfl ⟨rfl, rfl⟩ h64) ?_
    refine imp exA4_b ?_
    iterate 4 refine imp ex_i64_b ?_
    exact fun hg => L89_0_0_ok n c2 c10_0 c10_1 c10_2 c10_3 c10_4 c10_5 c10_6 c10_7 c10_8 c10_9 c10_10 c10_11 c10_12 c10_13 c10_14 c10_15 v11 x64.c0 x64.c1 x64.c2 x64.c3 R N0 hR hN0 n _ hg (weak_mem [(0, 0)] rfl rfl rfl (okW_cons (.inl (leV_refl _)) (okW_cons (.inl (leV_refl _)) (okW_cons (.inl (leV_refl _)) (okW_cons (.inl (leV_refl _)) (okW_cons (.inl (leV_refl _)) (okW_cons (.inl (leV_refl _)) okW_nil)))))) (okB_cons (okB_cells (cs := [(intA c10_0), (intA c10_1), (intA c10_2), (intA c10_3), (intA c10_4), (intA c10_5), (intA c10_6), (intA c10_7), (intA c10_8), (intA c10_9), (intA c10_10), (intA c10_11), (intA c10_12), (intA c10_13), (intA c10_14), (intA c10_15)]) (ty := 31) rfl (show mget _ 0 = _ from (by first | rfl | (simp (disch := first | decide | assumption) only [mpushs_nil, mpushs_cons, mget_hd, mget_tl, mget_appW_o, mget_appW_n, mget_appW_e])))) okB_nil'))
  · refine mapInr_b fun t0 e0 => ?_
    exact fun hg => L89_1_ok n c2 c10_0 c10_1 c10_2 c10_3 c10_4 c10_5 c10_6 c10_7 c10_8 c10_9 c10_10 c10_11 c10_12 c10_13 c10_14 c10_15 R  (fun r e => hR r (e0.trans (congrArg Sum.inr e))) n _ hg (weak_mem [(0, 0)] rfl rfl rfl (okW_cons (.inl (leV_refl _)) (okW_cons (.inl (leV_refl _)) (okW_cons (.inl (leV_refl _)) okW_nil))) (okB_cons (okB_cells (cs := [(intA c10_0), (intA c10_1), (intA c10_2), (intA c10_3), (intA c10_4), (intA c10_5), (intA c10_6), (intA c10_7), (intA c10_8), (intA c10_9), (intA c10_10), (intA c10_11), (intA c10_12), (intA c10_13), (intA c10_14), (intA c10_15)]) (ty := 31) rfl (show mget _ 0 = _ from (by first | rfl | (simp (disch := first | decide | assumption) only [mpushs_nil, mpushs_cons, mget_hd, mget_tl, mget_appW_o, mget_appW_n, mget_appW_e])))) okB_nil'))
theorem L89_0_ok (n : Nat) (c2 : Int) (c10_0 : Int) (c10_1 : Int) (c10_2 : Int) (c10_3 : Int) (c10_4 : Int) (c10_5 : Int) (c10_6 : Int) (c10_7 : Int) (c10_8 : Int) (c10_9 : Int) (c10_10 : Int) (c10_11 : Int) (c10_12 : Int) (c10_13 : Int) (c10_14 : Int) (c10_15 : Int) {t : ρ89} (R : AV → Mem → Prop) (hR : ∀ r : ρ89, t = r → ∀ u m, Ans ((intA r)) u m → R u m) (k : Nat) (x : Int) (hx : iterO (fun y : Int => S89_0 n c2 c10_0 c10_1 c10_2 c10_3 c10_4 c10_5 c10_6 c10_7 c10_8 c10_9 c10_10 c10_11 c10_12 c10_13 c10_14 c10_15 y) k x = some t) {s : St} (hw : Weak KK 55 0 s (h89_0 c2 c10_0 c10_1 c10_2 c10_3 c10_4 c10_5 c10_6 c10_7 c10_8 c10_9 c10_10 c10_11 c10_12 c10_13 c10_14 c10_15 x c10_0 c10_1 c10_2 c10_3 c10_4 c10_5 c10_6 c10_7 c10_8 c10_9 c10_10 c10_11 c10_12 c10_13 c10_14 c10_15 [])) : Tri pg KK 55 0 (.loop c89_0) s (q89_0 R ) :=
  L89_0 R  (σ := Nat × (Int)) (fun z => iterO (fun y : Int => S89_0 n c2 c10_0 c10_1 c10_2 c10_3 c10_4 c10_5 c10_6 c10_7 c10_8 c10_9 c10_10 c10_11 c10_12 c10_13 c10_14 c10_15 y) z.1 z.2 = some t) (fun z => c2) (fun z => c10_0) (fun z => c10_1) (fun z => c10_2) (fun z => c10_3) (fun z => c10_4) (fun z => c10_5) (fun z => c10_6) (fun z => c10_7) (fun z => c10_8) (fun z => c10_9) (fun z => c10_10) (fun z => c10_11) (fun z => c10_12) (fun z => c10_13) (fun z => c10_14) (fun z => c10_15) (fun z => z.2) (fun z => c10_0) (fun z => c10_1) (fun z => c10_2) (fun z => c10_3) (fun z => c10_4) (fun z => c10_5) (fun z => c10_6) (fun z => c10_7) (fun z => c10_8) (fun z => c10_9) (fun z => c10_10) (fun z => c10_11) (fun z => c10_12) (fun z => c10_13) (fun z => c10_14) (fun z => c10_15) (fun z => []) (fun z => z.1) (by
    rintro ⟨k, y⟩ h
    cases k with
    | zero => exact (iterO_zero h).elim
    | succ k =>
      obtain ⟨u, h1, h2, h3⟩ := iterO_elim h
      exact B89_0_ok n c2 c10_0 c10_1 c10_2 c10_3 c10_4 c10_5 c10_6 c10_7 c10_8 c10_9 c10_10 c10_11 c10_12 c10_13 c10_14 c10_15 y R  _ (fun r e => hR r (h3 _ e).symm)  (fun y' e s' hw => ⟨(k, y'), h2 _ e, Nat.lt_succ_self k, hw⟩) h1) (k, x) hx hw
theorem g89_ok (n : Nat) (a0 : TWakeTable) {t : ρ89} (R : AV → Mem → Prop) (hR : ∀ r : ρ89, t = r → ∀ u m, Ans ((intA r)) u m → R u m) : g89 n a0 = some t → F89 a0.c0_0 a0.c0_1 a0.c0_2 a0.c0_3 a0.c1_0 a0.c1_1 a0.c1_2 a0.c1_3 a0.c2_0 a0.c2_1 a0.c2_2 a0.c2_3 a0.c3_0 a0.c3_1 a0.c3_2 a0.c3_3 R := by
  unfold g89 F89
  exact fun hg => L89_0_ok n (0) a0.c0_0 a0.c0_1 a0.c0_2 a0.c0_3 a0.c1_0 a0.c1_1 a0.c1_2 a0.c1_3 a0.c2_0 a0.c2_1 a0.c2_2 a0.c2_3 a0.c3_0 a0.c3_1 a0.c3_2 a0.c3_3 R  hR n _ hg (weak_mem [(0, 0)] rfl rfl rfl (okW_cons (.inl (leV_refl _)) (okW_cons (.inl (leV_refl _)) (okW_cons (.inl (leV_refl _)) (okW_cons (.inl (leV_refl _)) okW_nil)))) (okB_cons (okB_cells (cs := [(intA a0.c0_0), (intA a0.c0_1), (intA a0.c0_2), (intA a0.c0_3), (intA a0.c1_0), (intA a0.c1_1), (intA a0.c1_2), (intA a0.c1_3), (intA a0.c2_0), (intA a0.c2_1), (intA a0.c2_2), (intA a0.c2_3), (intA a0.c3_0), (intA a0.c3_1), (intA a0.c3_2), (intA a0.c3_3)]) (ty := 31) rfl (show mget _ 0 = _ from (by first | rfl | (simp (disch := first | decide | assumption) only [mpushs_nil, mpushs_cons, mget_hd, mget_tl, mget_appW_o, mget_appW_n, mget_appW_e])))) okB_nil'))
theorem sg89 {n : Nat} {a0 : TWakeTable} {t : ρ89} (h : g89 n a0 = some t) : Says pg KK.gl 89 [(AV.agg [(intA a0.c0_0), (intA a0.c0_1), (intA a0.c0_2), (intA a0.c0_3), (intA a0.c1_0), (intA a0.c1_1), (intA a0.c1_2), (intA a0.c1_3), (intA a0.c2_0), (intA a0.c2_1), (intA a0.c2_2), (intA a0.c2_3), (intA a0.c3_0), (intA a0.c3_1), (intA a0.c3_2), (intA a0.c3_3)])] ((intA t)) :=
  says_of_own (by first | rfl | simp [cleans, clean, encs_clean, En.cln]) (by first | rfl | simp [cleans, clean, encs_clean, En.cln]) (F89_own a0.c0_0 a0.c0_1 a0.c0_2 a0.c0_3 a0.c1_0 a0.c1_1 a0.c1_2 a0.c1_3 a0.c2_0 a0.c2_1 a0.c2_2 a0.c2_3 a0.c3_0 a0.c3_1 a0.c3_2 a0.c3_3 _ (g89_ok n a0 (Ans ((intA t))) (fun r e u m h => by rw [e]; exact h) h))
/- skyway/wake.Class -/
theorem g38_ok (n : Nat) (a0 : Int) {t : ρ38} (R : AV → Mem → Prop) (hR : ∀ r : ρ38, t = r → ∀ u m, Ans ((intA r)) u m → R u m) : g38 n a0 = some t → F38 a0 R := by
  unfold g38 F38
  refine cond_b (fun _ => ?_) (fun _ => ?_)
  · exact fun hg => ret1 (hR _ (Option.some.inj hg).symm) (fz_sc _ _)
  · refine cond_b (fun _ => ?_) (fun _ => ?_)
    · exact fun hg => ret1 (hR _ (Option.some.inj hg).symm) (fz_sc _ _)
    · exact fun hg => ret1 (hR _ (Option.some.inj hg).symm) (fz_sc _ _)
theorem sg38 {n : Nat} {a0 : Int} {t : ρ38} (h : g38 n a0 = some t) : Says pg KK.gl 38 [(intA a0)] ((intA t)) :=
  says_of_own (by first | rfl | simp [cleans, clean, encs_clean, En.cln]) (by first | rfl | simp [cleans, clean, encs_clean, En.cln]) (F38_own a0 _ (g38_ok n a0 (Ans ((intA t))) (fun r e u m h => by rw [e]; exact h) h))
/- skyway/wake.classes -/
theorem B34_0_ok (n : Nat) (c4 : Int) (a1 : List Int) (c18 : Int) (v19 : Int) {t : (Int) ⊕ ρ34} (R : AV → Mem → Prop) (N0 : St → Prop) (hR : ∀ r : ρ34, t = (.inr r) → ∀ u m, Ans ((intA r)) u m → R u m) (hN0 : ∀ y : Int, t = (.inl y) → ∀ s' : St, Weak KK 29 0 s' (h34_0 c4 (lstA intE a1) c18 y []) → N0 s') : S34_0 n c4 a1 c18 v19 = some t → B34_0 c4 (lstA intE a1) c18 v19 [] R N0 := by
  unfold S34_0 B34_0
  refine cond_b (fun _ => ?_) (fun _ => ?_)
  · refine bind_b fun x73 h73 => ?_
    refine iq (AV.ept [(intA x73)] 0) (idx_lst (E := intE) rfl h73) ?_
    refine iq (intA x73) rfl ?_
    refine imp ex_i64_b ?_
    refine bind_b fun x74 h74 => ?_
    refine imp (callQ_says (sg38 h74)) ?_
    refine imp ex_i64_b ?_
    refine cond_b (fun _ => ?_) (fun _ => ?_)
    · exact fun hg => ret1 (hR _ (Option.some.inj hg).symm) (fz_sc _ _)
    · exact fun hg => hN0 _ (Option.some.inj hg).symm _ (weak_mem [] rfl rfl rfl (okW_cons (.inl (leV_refl _)) (okW_cons (ent_lst (E := intE) _ false) (okW_cons (.inl (leV_refl _)) (okW_cons (.inl (leV_refl _)) okW_nil)))) okB_nil')
  · exact fun hg => ret1 (hR _ (Option.some.inj hg).symm) (fz_sc _ _)
theorem L34_0_ok (n : Nat) (c4 : Int) (a1 : List Int) (c18 : Int) {t : ρ34} (R : AV → Mem → Prop) (hR : ∀ r : ρ34, t = r → ∀ u m, Ans ((intA r)) u m → R u m) (k : Nat) (x : Int) (hx : iterO (fun y : Int => S34_0 n c4 a1 c18 y) k x = some t) {s : St} (hw : Weak KK 29 0 s (h34_0 c4 (lstA intE a1) c18 x [])) : Tri pg KK 29 0 (.loop c34_0) s (q34_0 R ) :=
  L34_0 R  (σ := Nat × (Int)) (fun z => iterO (fun y : Int => S34_0 n c4 a1 c18 y) z.1 z.2 = some t) (fun z => c4) (fun z => (lstA intE a1)) (fun z => c18) (fun z => z.2) (fun z => []) (fun z => z.1) (by
    rintro ⟨k, y⟩ h
    cases k with
    | zero => exact (iterO_zero h).elim
    | succ k =>
      obtain ⟨u, h1, h2, h3⟩ := iterO_elim h
      exact B34_0_ok n c4 a1 c18 y R  _ (fun r e => hR r (h3 _ e).symm)  (fun y' e s' hw => ⟨(k, y'), h2 _ e, Nat.lt_succ_self k, hw⟩) h1) (k, x) hx hw
theorem g34_ok (n : Nat) (a0 : TWakeTable) (a1 : List Int) {t : ρ34} (R : AV → Mem → Prop) (hR : ∀ r : ρ34, t = r → ∀ u m, Ans ((intA r)) u m → R u m) : g34 n a0 a1 = some t → F34 a0.c0_0 a0.c0_1 a0.c0_2 a0.c0_3 a0.c1_0 a0.c1_1 a0.c1_2 a0.c1_3 a0.c2_0 a0.c2_1 a0.c2_2 a0.c2_3 a0.c3_0 a0.c3_1 a0.c3_2 a0.c3_3 (lstA intE a1) R := by
  unfold g34 F34
  refine bind_b fun x72 h72 => ?_
  refine imp (callQ_says (sg89 h72)) ?_
  refine imp ex_i64_b ?_
  refine cond_b (fun _ => ?_) (fun _ => ?_)
  · exact fun hg => ret1 (hR _ (Option.some.inj hg).symm) (fz_sc _ _)
  · refine iq (intA (a1.length : Int)) rfl ?_
    refine imp ex_i64_b ?_
    refine cond_b (fun _ => ?_) (fun _ => ?_)
    · exact fun hg => ret1 (hR _ (Option.some.inj hg).symm) (fz_sc _ _)
    · refine iq (intA (a1.length : Int)) rfl ?_
      refine imp ex_i64_b ?_
      exact fun hg => L34_0_ok n (0) a1 (a1.length : Int) R  hR n _ hg (weak_mem [] rfl rfl rfl (okW_cons (.inl (leV_refl _)) (okW_cons (ent_lst (E := intE) _ false) (okW_cons (.inl (leV_refl _)) (okW_cons (.inl (leV_refl _)) okW_nil)))) okB_nil')
theorem sg34 {n : Nat} {a0 : TWakeTable} {a1 : List Int} {t : ρ34} (h : g34 n a0 a1 = some t) : Says pg KK.gl 34 [(AV.agg [(intA a0.c0_0), (intA a0.c0_1), (intA a0.c0_2), (intA a0.c0_3), (intA a0.c1_0), (intA a0.c1_1), (intA a0.c1_2), (intA a0.c1_3), (intA a0.c2_0), (intA a0.c2_1), (intA a0.c2_2), (intA a0.c2_3), (intA a0.c3_0), (intA a0.c3_1), (intA a0.c3_2), (intA a0.c3_3)]), (lstA intE a1)] ((intA t)) :=
  says_of_own (by first | rfl | simp [cleans, clean, encs_clean, En.cln]) (by first | rfl | simp [cleans, clean, encs_clean, En.cln]) (F34_own a0.c0_0 a0.c0_1 a0.c0_2 a0.c0_3 a0.c1_0 a0.c1_1 a0.c1_2 a0.c1_3 a0.c2_0 a0.c2_1 a0.c2_2 a0.c2_3 a0.c3_0 a0.c3_1 a0.c3_2 a0.c3_3 (lstA intE a1) _ (g34_ok n a0 a1 (Ans ((intA t))) (fun r e u m h => by rw [e]; exact h) h))
/- skyway/wake.Gap -/
theorem g6_ok (n : Nat) (a0 : TWakeTable) (a1 : Int) (a2 : Int) {t : ρ6} (R : AV → Mem → Prop) (hR : ∀ r : ρ6, t = r → ∀ u m, Ans ((AV.tup [(intA r.1), (intA r.2)])) u m → R u m) : g6 n a0 a1 a2 = some t → F6 a0.c0_0 a0.c0_1 a0.c0_2 a0.c0_3 a0.c1_0 a0.c1_1 a0.c1_2 a0.c1_3 a0.c2_0 a0.c2_1 a0.c2_2 a0.c2_3 a0.c3_0 a0.c3_1 a0.c3_2 a0.c3_3 a1 a2 R := by
  unfold g6 F6
  refine imp (opN_of (show _ = some ((blkV intE 6 ([a1, a2] : List Int)), [(6, some ⟨encs intE ([a1, a2] : List Int), 3⟩)]) from rfl)) ?_
  refine bind_b fun x75 h75 => ?_
  refine imp (callQ_pure (pure_snapN (snL_cons (sn_agg _ (snL_cons (sn_sc _ _) (snL_cons (sn_sc _ _) (snL_cons (sn_sc _ _) (snL_cons (sn_sc _ _) (snL_cons (sn_sc _ _) (snL_cons (sn_sc _ _) (snL_cons (sn_sc _ _) (snL_cons (sn_sc _ _) (snL_cons (sn_sc _ _) (snL_cons (sn_sc _ _) (snL_cons (sn_sc _ _) (snL_cons (sn_sc _ _) (snL_cons (sn_sc _ _) (snL_cons (sn_sc _ _) (snL_cons (sn_sc _ _) (snL_cons (sn_sc _ _) snL_nil))))))))))))))))) (snL_cons (sn_blk (E := intE) (ty := 3) (l' := ([a1, a2] : List Int)) _ intE.nf rfl (by first | rfl | (simp (disch := first | decide | assumption) only [mpushs_nil, mpushs_cons, mget_hd, mget_tl, mget_appW_o, mget_appW_n, mget_appW_e]))) snL_nil)) (sg34 h75) rfl)) ?_
  refine imp ex_i64_b ?_
  refine cond_b (fun _ => ?_) (fun _ => ?_)
  · exact fun hg => retN rfl (hR _ (Option.some.inj hg).symm) (fzL_cons (fz_sc _ _) (fzL_cons (fz_sc _ _) fzL_nil))
  · refine bind_b fun x76 h76 => ?_
    refine iq (AV.ptr 0 (((a1 : Int).toNat) * 4 + 0)) (idxA_ok0 (l := ([(⟨a0.c0_0, a0.c0_1, a0.c0_2, a0.c0_3⟩ : T29), (⟨a0.c1_0, a0.c1_1, a0.c1_2, a0.c1_3⟩ : T29), (⟨a0.c2_0, a0.c2_1, a0.c2_2, a0.c2_3⟩ : T29), (⟨a0.c3_0, a0.c3_1, a0.c3_2, a0.c3_3⟩ : T29)] : List T29)) (len := 4) rfl h76) ?_
    refine bind_b fun x77 h77 => ?_
    refine iq (AV.ptr 0 _) (idxA_ok (l := ([x76.c0, x76.c1, x76.c2, x76.c3] : List Int)) (len := 4) rfl h77) ?_
    refine iq (intA x77) (ldS_row (E := T29.E) (E2 := intE) (l := ([(⟨a0.c0_0, a0.c0_1, a0.c0_2, a0.c0_3⟩ : T29), (⟨a0.c1_0, a0.c1_1, a0.c1_2, a0.c1_3⟩ : T29), (⟨a0.c2_0, a0.c2_1, a0.c2_2, a0.c2_3⟩ : T29), (⟨a0.c3_0, a0.c3_1, a0.c3_2, a0.c3_3⟩ : T29)] : List T29)) (l2 := ([x76.c0, x76.c1, x76.c2, x76.c3] : List Int)) (ty := 31) (by first | rfl | (simp (disch := first | decide | assumption) only [mpushs_nil, mpushs_cons, mget_hd, mget_tl, mget_appW_o, mget_appW_n, mget_appW_e])) (getI_some h76).2 rfl rfl (getI_some h77).2 rfl) ?_
    refine imp ex_i64_b ?_
    exact fun hg => retN rfl (hR _ (Option.some.inj hg).symm) (fzL_cons (fz_sc _ _) (fzL_cons (fz_sc _ _) fzL_nil))
theorem sg6 {n : Nat} {a0 : TWakeTable} {a1 : Int} {a2 : Int} {t : ρ6} (h : g6 n a0 a1 a2 = some t) : Says pg KK.gl 6 [(AV.agg [(intA a0.c0_0), (intA a0.c0_1), (intA a0.c0_2), (intA a0.c0_3), (intA a0.c1_0), (intA a0.c1_1), (intA a0.c1_2), (intA a0.c1_3), (intA a0.c2_0), (intA a0.c2_1), (intA a0.c2_2), (intA a0.c2_3), (intA a0.c3_0), (intA a0.c3_1), (intA a0.c3_2), (intA a0.c3_3)]), (intA a1), (intA a2)] ((AV.tup [(intA t.1), (intA t.2)])) :=
  says_of_own (by first | rfl | simp [cleans, clean, encs_clean, En.cln]) (by first | rfl | simp [cleans, clean, encs_clean, En.cln]) (F6_own a0.c0_0 a0.c0_1 a0.c0_2 a0.c0_3 a0.c1_0 a0.c1_1 a0.c1_2 a0.c1_3 a0.c2_0 a0.c2_1 a0.c2_2 a0.c2_3 a0.c3_0 a0.c3_1 a0.c3_2 a0.c3_3 a1 a2 _ (g6_ok n a0 a1 a2 (Ans ((AV.tup [(intA t.1), (intA t.2)]))) (fun r e u m h => by rw [e]; exact h) h))
/- skyway/chart.Name -/
theorem B50_0_ok (n : Nat) (c2 : Bool) (c14 : List UInt8) (c15 : Int) (v16 : Int) {t : (Int) ⊕ ρ50} (R : AV → Mem → Prop) (N0 : St → Prop) (hR : ∀ r : ρ50, t = (.inr r) → ∀ u m, Ans ((boolA r)) u m → R u m) (hN0 : ∀ y : Int, t = (.inl y) → ∀ s' : St, Weak KK 41 0 s' (h50_0 c2 (lstA byteE c14) c15 y []) → N0 s') : S50_0 n c2 c14 c15 v16 = some t → B50_0 c2 (lstA byteE c14) c15 v16 [] R N0 := by
  unfold S50_0 B50_0
  refine cond_b (fun _ => ?_) (fun _ => ?_)
  · refine bind_b fun x81 h81 => ?_
    refine iq (AV.ept [(AV.sc (.int .u8 (x81.toNat : Int)))] 0) (idx_lst (E := byteE) rfl h81) ?_
    refine iq (AV.sc (.int .u8 (x81.toNat : Int))) rfl ?_
    refine imp ex_u8_b ?_
    refine cond_b (fun _ => ?_) (fun _ => ?_)
    · refine cond_b (fun _ => ?_) (fun _ => ?_)
      · exact fun hg => hN0 _ (Option.some.inj hg).symm _ (weak_mem [] rfl rfl rfl (okW_cons (.inl (leV_refl _)) (okW_cons (ent_lst (E := byteE) _ false) (okW_cons (.inl (leV_refl _)) (okW_cons (.inl (leV_refl _)) okW_nil)))) okB_nil')
      · refine cond_b (fun _ => ?_) (fun _ => ?_)
        · refine cond_b (fun _ => ?_) (fun _ => ?_)
          · refine cond_b (fun _ => ?_) (fun _ => ?_)
            · exact fun hg => ret1 (hR _ (Option.some.inj hg).symm) (fz_sc _ _)
            · exact fun hg => hN0 _ (Option.some.inj hg).symm _ (weak_mem [] rfl rfl rfl (okW_cons (.inl (leV_refl _)) (okW_cons (ent_lst (E := byteE) _ false) (okW_cons (.inl (leV_refl _)) (okW_cons (.inl (leV_refl _)) okW_nil)))) okB_nil')
          · exact fun hg => ret1 (hR _ (Option.some.inj hg).symm) (fz_sc _ _)
        · exact fun hg => ret1 (hR _ (Option.some.inj hg).symm) (fz_sc _ _)
    · refine cond_b (fun _ => ?_) (fun _ => ?_)
      · refine cond_b (fun _ => ?_) (fun _ => ?_)
        · refine cond_b (fun _ => ?_) (fun _ => ?_)
          · exact fun hg => ret1 (hR _ (Option.some.inj hg).symm) (fz_sc _ _)
          · exact fun hg => hN0 _ (Option.some.inj hg).symm _ (weak_mem [] rfl rfl rfl (okW_cons (.inl (leV_refl _)) (okW_cons (ent_lst (E := byteE) _ false) (okW_cons (.inl (leV_refl _)) (okW_cons (.inl (leV_refl _)) okW_nil)))) okB_nil')
        · exact fun hg => ret1 (hR _ (Option.some.inj hg).symm) (fz_sc _ _)
      · exact fun hg => ret1 (hR _ (Option.some.inj hg).symm) (fz_sc _ _)
  · exact fun hg => ret1 (hR _ (Option.some.inj hg).symm) (fz_sc _ _)
theorem L50_0_ok (n : Nat) (c2 : Bool) (c14 : List UInt8) (c15 : Int) {t : ρ50} (R : AV → Mem → Prop) (hR : ∀ r : ρ50, t = r → ∀ u m, Ans ((boolA r)) u m → R u m) (k : Nat) (x : Int) (hx : iterO (fun y : Int => S50_0 n c2 c14 c15 y) k x = some t) {s : St} (hw : Weak KK 41 0 s (h50_0 c2 (lstA byteE c14) c15 x [])) : Tri pg KK 41 0 (.loop c50_0) s (q50_0 R ) :=
  L50_0 R  (σ := Nat × (Int)) (fun z => iterO (fun y : Int => S50_0 n c2 c14 c15 y) z.1 z.2 = some t) (fun z => c2) (fun z => (lstA byteE c14)) (fun z => c15) (fun z => z.2) (fun z => []) (fun z => z.1) (by
    rintro ⟨k, y⟩ h
    cases k with
    | zero => exact (iterO_zero h).elim
    | succ k =>
      obtain ⟨u, h1, h2, h3⟩ := iterO_elim h
      exact B50_0_ok n c2 c14 c15 y R  _ (fun r e => hR r (h3 _ e).symm)  (fun y' e s' hw => ⟨(k, y'), h2 _ e, Nat.lt_succ_self k, hw⟩) h1) (k, x) hx hw
theorem g50_ok (n : Nat) (a0 : ByteArray) {t : ρ50} (R : AV → Mem → Prop) (hR : ∀ r : ρ50, t = r → ∀ u m, Ans ((boolA r)) u m → R u m) : g50 n a0 = some t → F50 a0 R := by
  unfold g50 F50
  refine iq (intA (a0.size : Int)) (by kernel_rfl) ?_
  refine imp ex_i64_b ?_
  refine cond_b (fun _ => ?_) (fun _ => ?_)
  · exact fun hg => ret1 (hR _ (Option.some.inj hg).symm) (fz_sc _ _)
  · refine iq (intA (a0.size : Int)) (by kernel_rfl) ?_
    refine imp ex_i64_b ?_
    refine cond_b (fun _ => ?_) (fun _ => ?_)
    · exact fun hg => ret1 (hR _ (Option.some.inj hg).symm) (fz_sc _ _)
    · refine bind_b fun x80 h80 => ?_
      refine iq (lstA byteE (a0.data.toList)) (opA_bytes (e := 5) (by kernel_rfl) (by kernel_rfl) (by kernel_rfl) h80) ?_
      refine iq (intA ((a0.data.toList).length : Int)) rfl ?_
      refine imp ex_i64_b ?_
      exact fun hg => L50_0_ok n false (a0.data.toList) ((a0.data.toList).length : Int) R  hR n _ hg (weak_mem [] rfl rfl rfl (okW_cons (.inl (leV_refl _)) (okW_cons (ent_lst (E := byteE) _ false) (okW_cons (.inl (leV_refl _)) (okW_cons (.inl (leV_refl _)) okW_nil)))) okB_nil')
theorem sg50 {n : Nat} {a0 : ByteArray} {t : ρ50} (h : g50 n a0 = some t) : Says pg KK.gl 50 [(strA a0)] ((boolA t)) :=
  says_of_own (by first | rfl | simp [cleans, clean, encs_clean, En.cln]) (by first | rfl | simp [cleans, clean, encs_clean, En.cln]) (F50_own a0 _ (g50_ok n a0 (Ans ((boolA t))) (fun r e u m h => by rw [e]; exact h) h))
/- skyway/taxi.stand$1 -/
theorem g156_ok (n : Nat) (a0 : TTaxiStand) (a1_0 : ByteArray) {t : ρ156} (R : AV → Mem → Prop) (hR : ∀ r : ρ156, t = r → ∀ u m, Ans ((boolA r)) u m → R u m) : g156 n a0 a1_0 = some t → F156 a0.Name a0.Time (AV.ept [(strA a1_0)] 0) R := by
  unfold g156 F156
  refine iq (strA a1_0) rfl ?_
  refine imp exStr_b ?_
  exact fun hg => ret1 (hR _ (Option.some.inj hg).symm) (fz_sc _ _)
theorem sg156 {n : Nat} {a0 : TTaxiStand} {a1_0 : ByteArray} {t : ρ156} (h : g156 n a0 a1_0 = some t) : Says pg KK.gl 156 [(AV.agg [(strA a0.Name), (intA a0.Time)]), (AV.ept [(strA a1_0)] 0)] ((boolA t)) :=
  says_of_own (by first | rfl | simp [cleans, clean, encs_clean, En.cln]) (by first | rfl | simp [cleans, clean, encs_clean, En.cln]) (F156_own a0.Name a0.Time (AV.ept [(strA a1_0)] 0) _ (g156_ok n a0 a1_0 (Ans ((boolA t))) (fun r e u m h => by rw [e]; exact h) h))
/- slices.IndexFunc[[]skyway/api.TaxiStand,skyway/api.TaxiStand] -/
theorem B155_0_ok (n : Nat) (a0 : List TTaxiStand) (a1_0_0 : ByteArray) (c4 : Int) (c7 : Int) (v8 : Int) {t : (Int) ⊕ ρ155} (R : AV → Mem → Prop) (N0 : St → Prop) (hR : ∀ r : ρ155, t = (.inr r) → ∀ u m, Ans ((intA r)) u m → R u m) (hN0 : ∀ y : Int, t = (.inl y) → ∀ s' : St, Weak KK 19 0 s' (h155_0 (lstA TTaxiStand.E a0) (AV.fn 156 [(AV.ept [(strA a1_0_0)] 0)]) c4 c7 y []) → N0 s') : S155_0 n a0 a1_0_0 c4 c7 v8 = some t → B155_0 (lstA TTaxiStand.E a0) (AV.fn 156 [(AV.ept [(strA a1_0_0)] 0)]) c4 c7 v8 [] R N0 := by
  unfold S155_0 B155_0
  refine cond_b (fun _ => ?_) (fun _ => ?_)
  · refine bind_b fun x84 h84 => ?_
    refine iq (AV.ept [(strA x84.Name), (intA x84.Time)] 0) (idx_lst (E := TTaxiStand.E) rfl h84) ?_
    refine iq (AV.agg [(strA x84.Name), (intA x84.Time)]) rfl ?_
    refine imp exA2_b ?_
    refine imp exStr_b ?_
    refine imp ex_i64_b ?_
    refine bind_b fun x85 h85 => ?_
    refine imp fnArgs_b ?_
    refine imp (cond_ff rfl) ?_
    refine imp (callW_says (sg156 h85)) ?_
    refine imp exB_b ?_
    refine cond_b (fun _ => ?_) (fun _ => ?_)
    · exact fun hg => ret1 (hR _ (Option.some.inj hg).symm) (fz_sc _ _)
    · exact fun hg => hN0 _ (Option.some.inj hg).symm _ (weak_mem [] rfl rfl rfl (okW_cons (ent_lst (E := TTaxiStand.E) _ false) (okW_cons (ent_clean (leV_refl _) (by simp [clean, cleans, encs_clean])) (okW_cons (.inl (leV_refl _)) (okW_cons (.inl (leV_refl _)) (okW_cons (.inl (leV_refl _)) okW_nil))))) okB_nil')
  · exact fun hg => ret1 (hR _ (Option.some.inj hg).symm) (fz_sc _ _)
theorem L155_0_ok (n : Nat) (a0 : List TTaxiStand) (a1_0_0 : ByteArray) (c4 : Int) (c7 : Int) {t : ρ155} (R : AV → Mem → Prop) (hR : ∀ r : ρ155, t = r → ∀ u m, Ans ((intA r)) u m → R u m) (k : Nat) (x : Int) (hx : iterO (fun y : Int => S155_0 n a0 a1_0_0 c4 c7 y) k x = some t) {s : St} (hw : Weak KK 19 0 s (h155_0 (lstA TTaxiStand.E a0) (AV.fn 156 [(AV.ept [(strA a1_0_0)] 0)]) c4 c7 x [])) : Tri pg KK 19 0 (.loop c155_0) s (q155_0 R ) :=
  L155_0 R  (σ := Nat × (Int)) (fun z => iterO (fun y : Int => S155_0 n a0 a1_0_0 c4 c7 y) z.1 z.2 = some t) (fun z => (lstA TTaxiStand.E a0)) (fun z => (AV.fn 156 [(AV.ept [(strA a1_0_0)] 0)])) (fun z => c4) (fun z => c7) (fun z => z.2) (fun z => []) (fun z => z.1) (by
    rintro ⟨k, y⟩ h
    cases k with
    | zero => exact (iterO_zero h).elim
    | succ k =>
      obtain ⟨u, h1, h2, h3⟩ := iterO_elim h
      exact B155_0_ok n a0 a1_0_0 c4 c7 y R  _ (fun r e => hR r (h3 _ e).symm)  (fun y' e s' hw => ⟨(k, y'), h2 _ e, Nat.lt_succ_self k, hw⟩) h1) (k, x) hx hw
theorem g155_ok (n : Nat) (a0 : List TTaxiStand) (a1_0_0 : ByteArray) {t : ρ155} (R : AV → Mem → Prop) (hR : ∀ r : ρ155, t = r → ∀ u m, Ans ((intA r)) u m → R u m) : g155 n a0 a1_0_0 = some t → F155 (lstA TTaxiStand.E a0) (AV.fn 156 [(AV.ept [(strA a1_0_0)] 0)]) R := by
  unfold g155 F155
  refine iq (intA (a0.length : Int)) rfl ?_
  refine imp ex_i64_b ?_
  exact fun hg => L155_0_ok n a0 a1_0_0 (0) (a0.length : Int) R  hR n _ hg (weak_mem [] rfl rfl rfl (okW_cons (ent_lst (E := TTaxiStand.E) _ false) (okW_cons (ent_clean (leV_refl _) (by simp [clean, cleans, encs_clean])) (okW_cons (.inl (leV_refl _)) (okW_cons (.inl (leV_refl _)) (okW_cons (.inl (leV_refl _)) okW_nil))))) okB_nil')
theorem sg155 {n : Nat} {a0 : List TTaxiStand} {a1_0_0 : ByteArray} {t : ρ155} (h : g155 n a0 a1_0_0 = some t) : Says pg KK.gl 155 [(lstA TTaxiStand.E a0), (AV.fn 156 [(AV.ept [(strA a1_0_0)] 0)])] ((intA t)) :=
  says_of_own (by first | rfl | simp [cleans, clean, encs_clean, En.cln]) (by first | rfl | simp [cleans, clean, encs_clean, En.cln]) (F155_own (lstA TTaxiStand.E a0) (AV.fn 156 [(AV.ept [(strA a1_0_0)] 0)]) _ (g155_ok n a0 a1_0_0 (Ans ((intA t))) (fun r e u m h => by rw [e]; exact h) h))
/- skyway/taxi.stand -/
theorem g95_ok (n : Nat) (a0 : List TTaxiStand) (a1 : ByteArray) {t : ρ95} (R : AV → Mem → Prop) (hR : ∀ r : ρ95, t = r → ∀ u m, Ans ((intA r)) u m → R u m) : g95 n a0 a1 = some t → F95 (lstA TTaxiStand.E a0) a1 R := by
  unfold g95 F95
  refine bind_b fun x86 h86 => ?_
  refine imp (callQ_pure (pure_snapN (snL_cons (sn_lst (E := TTaxiStand.E) _ _ false) (snL_cons (sn_fn _ _ (snL_cons (sn_ptr _ (ty := 9) (us := [(strA a1)]) (by first | rfl | (simp (disch := first | decide | assumption) only [mpushs_nil, mpushs_cons, mget_hd, mget_tl, mget_appW_o, mget_appW_n, mget_appW_e])) (snL_cons (sn_sc _ _) snL_nil)) snL_nil)) snL_nil)) (sg155 h86) rfl)) ?_
  refine imp ex_i64_b ?_
  exact fun hg => ret1 (hR _ (Option.some.inj hg).symm) (fz_sc _ _)
theorem sg95 {n : Nat} {a0 : List TTaxiStand} {a1 : ByteArray} {t : ρ95} (h : g95 n a0 a1 = some t) : Says pg KK.gl 95 [(lstA TTaxiStand.E a0), (strA a1)] ((intA t)) :=
  says_of_own (by first | rfl | simp [cleans, clean, encs_clean, En.cln]) (by first | rfl | simp [cleans, clean, encs_clean, En.cln]) (F95_own (lstA TTaxiStand.E a0) a1 _ (g95_ok n a0 a1 (Ans ((intA t))) (fun r e u m h => by rw [e]; exact h) h))
/- skyway/taxi.Stands -/
theorem B152_0_ok (n : Nat) (a0 : List TTaxiStand) (c2 : Int) (c9 : Int) (v10 : Int) {t : (Int) ⊕ ρ152} (R : AV → Mem → Prop) (N0 : St → Prop) (hR : ∀ r : ρ152, t = (.inr r) → ∀ u m, Ans ((intA r)) u m → R u m) (hN0 : ∀ y : Int, t = (.inl y) → ∀ s' : St, Weak KK 38 0 s' (h152_0 (lstA TTaxiStand.E a0) c2 (lstA TTaxiStand.E a0) c9 y []) → N0 s') : S152_0 n a0 c2 c9 v10 = some t → B152_0 (lstA TTaxiStand.E a0) c2 (lstA TTaxiStand.E a0) c9 v10 [] R N0 := by
  unfold S152_0 B152_0
  refine cond_b (fun _ => ?_) (fun _ => ?_)
  · refine bind_b fun x79 h79 => ?_
    refine iq (AV.ept [(strA x79.Name), (intA x79.Time)] 0) (idx_lst (E := TTaxiStand.E) rfl h79) ?_
    refine iq (AV.agg [(strA x79.Name), (intA x79.Time)]) rfl ?_
    refine imp exA2_b ?_
    refine imp exStr_b ?_
    refine imp ex_i64_b ?_
    refine bind_b fun x82 h82 => ?_
    refine imp (callQ_says (sg50 h82)) ?_
    refine imp exB_b ?_
    refine cond_b (fun _ => ?_) (fun _ => ?_)
    · exact fun hg => ret1 (hR _ (Option.some.inj hg).symm) (fz_sc _ _)
    · refine cond_b (fun _ => ?_) (fun _ => ?_)
      · exact fun hg => ret1 (hR _ (Option.some.inj hg).symm) (fz_sc _ _)
      · refine cond_b (fun _ => ?_) (fun _ => ?_)
        · exact fun hg => ret1 (hR _ (Option.some.inj hg).symm) (fz_sc _ _)
        · refine bind_b fun x83 h83 => ?_
          refine iq (lstA TTaxiStand.E x83) (slc_hi (E := TTaxiStand.E) (e := 111) (by kernel_rfl) (by kernel_rfl) rfl h83) ?_
          refine bind_b fun x87 h87 => ?_
          refine imp (callQ_says (sg95 h87)) ?_
          refine imp ex_i64_b ?_
          refine cond_b (fun _ => ?_) (fun _ => ?_)
          · exact fun hg => ret1 (hR _ (Option.some.inj hg).symm) (fz_sc _ _)
          · exact fun hg => hN0 _ (Option.some.inj hg).symm _ (weak_mem [] rfl rfl rfl (okW_cons (ent_lst (E := TTaxiStand.E) _ false) (okW_cons (.inl (leV_refl _)) (okW_cons (ent_lst (E := TTaxiStand.E) _ false) (okW_cons (.inl (leV_refl _)) (okW_cons (.inl (leV_refl _)) okW_nil))))) okB_nil')
  · exact fun hg => ret1 (hR _ (Option.some.inj hg).symm) (fz_sc _ _)
theorem L152_0_ok (n : Nat) (a0 : List TTaxiStand) (c2 : Int) (c9 : Int) {t : ρ152} (R : AV → Mem → Prop) (hR : ∀ r : ρ152, t = r → ∀ u m, Ans ((intA r)) u m → R u m) (k : Nat) (x : Int) (hx : iterO (fun y : Int => S152_0 n a0 c2 c9 y) k x = some t) {s : St} (hw : Weak KK 38 0 s (h152_0 (lstA TTaxiStand.E a0) c2 (lstA TTaxiStand.E a0) c9 x [])) : Tri pg KK 38 0 (.loop c152_0) s (q152_0 R ) :=
  L152_0 R  (σ := Nat × (Int)) (fun z => iterO (fun y : Int => S152_0 n a0 c2 c9 y) z.1 z.2 = some t) (fun z => (lstA TTaxiStand.E a0)) (fun z => c2) (fun z => (lstA TTaxiStand.E a0)) (fun z => c9) (fun z => z.2) (fun z => []) (fun z => z.1) (by
    rintro ⟨k, y⟩ h
    cases k with
    | zero => exact (iterO_zero h).elim
    | succ k =>
      obtain ⟨u, h1, h2, h3⟩ := iterO_elim h
      exact B152_0_ok n a0 c2 c9 y R  _ (fun r e => hR r (h3 _ e).symm)  (fun y' e s' hw => ⟨(k, y'), h2 _ e, Nat.lt_succ_self k, hw⟩) h1) (k, x) hx hw
theorem g152_ok (n : Nat) (a0 : List TTaxiStand) {t : ρ152} (R : AV → Mem → Prop) (hR : ∀ r : ρ152, t = r → ∀ u m, Ans ((intA r)) u m → R u m) : g152 n a0 = some t → F152 (lstA TTaxiStand.E a0) R := by
  unfold g152 F152
  refine iq (intA (a0.length : Int)) rfl ?_
  refine imp ex_i64_b ?_
  refine cond_b (fun _ => ?_) (fun _ => ?_)
  · exact fun hg => ret1 (hR _ (Option.some.inj hg).symm) (fz_sc _ _)
  · refine iq (intA (a0.length : Int)) rfl ?_
    refine imp ex_i64_b ?_
    exact fun hg => L152_0_ok n a0 (0) (a0.length : Int) R  hR n _ hg (weak_mem [] rfl rfl rfl (okW_cons (ent_lst (E := TTaxiStand.E) _ false) (okW_cons (.inl (leV_refl _)) (okW_cons (ent_lst (E := TTaxiStand.E) _ false) (okW_cons (.inl (leV_refl _)) (okW_cons (.inl (leV_refl _)) okW_nil))))) okB_nil')
theorem sg152 {n : Nat} {a0 : List TTaxiStand} {t : ρ152} (h : g152 n a0 = some t) : Says pg KK.gl 152 [(lstA TTaxiStand.E a0)] ((intA t)) :=
  says_of_own (by first | rfl | simp [cleans, clean, encs_clean, En.cln]) (by first | rfl | simp [cleans, clean, encs_clean, En.cln]) (F152_own (lstA TTaxiStand.E a0) _ (g152_ok n a0 (Ans ((intA t))) (fun r e u m h => by rw [e]; exact h) h))
/- skyway/taxi.Check$1 -/
theorem g154_ok (n : Nat) (a0 : TTaxiAsk) (a1_0 : ByteArray) (a1_1 : ByteArray) (a1_2 : Int) {t : ρ154} (R : AV → Mem → Prop) (hR : ∀ r : ρ154, t = r → ∀ u m, Ans ((boolA r)) u m → R u m) : g154 n a0 a1_0 a1_1 a1_2 = some t → F154 a0.Call a0.Stand a0.Ready (AV.ept [(strA a1_0), (strA a1_1), (intA a1_2)] 0) R := by
  unfold g154 F154
  refine iq (AV.ept [(strA a1_0), (strA a1_1), (intA a1_2)] 0) rfl ?_
  refine iq (strA a1_0) rfl ?_
  refine imp exStr_b ?_
  exact fun hg => ret1 (hR _ (Option.some.inj hg).symm) (fz_sc _ _)
theorem sg154 {n : Nat} {a0 : TTaxiAsk} {a1_0 : ByteArray} {a1_1 : ByteArray} {a1_2 : Int} {t : ρ154} (h : g154 n a0 a1_0 a1_1 a1_2 = some t) : Says pg KK.gl 154 [(AV.agg [(strA a0.Call), (strA a0.Stand), (intA a0.Ready)]), (AV.ept [(strA a1_0), (strA a1_1), (intA a1_2)] 0)] ((boolA t)) :=
  says_of_own (by first | rfl | simp [cleans, clean, encs_clean, En.cln]) (by first | rfl | simp [cleans, clean, encs_clean, En.cln]) (F154_own a0.Call a0.Stand a0.Ready (AV.ept [(strA a1_0), (strA a1_1), (intA a1_2)] 0) _ (g154_ok n a0 a1_0 a1_1 a1_2 (Ans ((boolA t))) (fun r e u m h => by rw [e]; exact h) h))
/- slices.IndexFunc[[]skyway/api.TaxiAsk,skyway/api.TaxiAsk] -/
theorem B210_0_ok (n : Nat) (a0 : List TTaxiAsk) (a1_0_0 : ByteArray) (a1_0_1 : ByteArray) (a1_0_2 : Int) (c4 : Int) (c7 : Int) (v8 : Int) {t : (Int) ⊕ ρ210} (R : AV → Mem → Prop) (N0 : St → Prop) (hR : ∀ r : ρ210, t = (.inr r) → ∀ u m, Ans ((intA r)) u m → R u m) (hN0 : ∀ y : Int, t = (.inl y) → ∀ s' : St, Weak KK 19 0 s' (h210_0 (lstA TTaxiAsk.E a0) (AV.fn 154 [(AV.ept [(strA a1_0_0), (strA a1_0_1), (intA a1_0_2)] 0)]) c4 c7 y []) → N0 s') : S210_0 n a0 a1_0_0 a1_0_1 a1_0_2 c4 c7 v8 = some t → B210_0 (lstA TTaxiAsk.E a0) (AV.fn 154 [(AV.ept [(strA a1_0_0), (strA a1_0_1), (intA a1_0_2)] 0)]) c4 c7 v8 [] R N0 := by
  unfold S210_0 B210_0
  refine cond_b (fun _ => ?_) (fun _ => ?_)
  · refine bind_b fun x93 h93 => ?_
    refine iq (AV.ept [(strA x93.Call), (strA x93.Stand), (intA x93.Ready)] 0) (idx_lst (E := TTaxiAsk.E) rfl h93) ?_
    refine iq (AV.agg [(strA x93.Call), (strA x93.Stand), (intA x93.Ready)]) rfl ?_
    refine imp exA3_b ?_
    refine imp exStr_b ?_
    refine imp exStr_b ?_
    refine imp ex_i64_b ?_
    refine bind_b fun x94 h94 => ?_
    refine imp fnArgs_b ?_
    refine imp (cond_ff rfl) ?_
    refine imp (callW_says (sg154 h94)) ?_
    refine imp exB_b ?_
    refine cond_b (fun _ => ?_) (fun _ => ?_)
    · exact fun hg => ret1 (hR _ (Option.some.inj hg).symm) (fz_sc _ _)
    · exact fun hg => hN0 _ (Option.some.inj hg).symm _ (weak_mem [] rfl rfl rfl (okW_cons (ent_lst (E := TTaxiAsk.E) _ false) (okW_cons (ent_clean (leV_refl _) (by simp [clean, cleans, encs_clean])) (okW_cons (.inl (leV_refl _)) (okW_cons (.inl (leV_refl _)) (okW_cons (.inl (leV_refl _)) okW_nil))))) okB_nil')
  · exact fun hg => ret1 (hR _ (Option.some.inj hg).symm) (fz_sc _ _)
theorem L210_0_ok (n : Nat) (a0 : List TTaxiAsk) (a1_0_0 : ByteArray) (a1_0_1 : ByteArray) (a1_0_2 : Int) (c4 : Int) (c7 : Int) {t : ρ210} (R : AV → Mem → Prop) (hR : ∀ r : ρ210, t = r → ∀ u m, Ans ((intA r)) u m → R u m) (k : Nat) (x : Int) (hx : iterO (fun y : Int => S210_0 n a0 a1_0_0 a1_0_1 a1_0_2 c4 c7 y) k x = some t) {s : St} (hw : Weak KK 19 0 s (h210_0 (lstA TTaxiAsk.E a0) (AV.fn 154 [(AV.ept [(strA a1_0_0), (strA a1_0_1), (intA a1_0_2)] 0)]) c4 c7 x [])) : Tri pg KK 19 0 (.loop c210_0) s (q210_0 R ) :=
  L210_0 R  (σ := Nat × (Int)) (fun z => iterO (fun y : Int => S210_0 n a0 a1_0_0 a1_0_1 a1_0_2 c4 c7 y) z.1 z.2 = some t) (fun z => (lstA TTaxiAsk.E a0)) (fun z => (AV.fn 154 [(AV.ept [(strA a1_0_0), (strA a1_0_1), (intA a1_0_2)] 0)])) (fun z => c4) (fun z => c7) (fun z => z.2) (fun z => []) (fun z => z.1) (by
    rintro ⟨k, y⟩ h
    cases k with
    | zero => exact (iterO_zero h).elim
    | succ k =>
      obtain ⟨u, h1, h2, h3⟩ := iterO_elim h
      exact B210_0_ok n a0 a1_0_0 a1_0_1 a1_0_2 c4 c7 y R  _ (fun r e => hR r (h3 _ e).symm)  (fun y' e s' hw => ⟨(k, y'), h2 _ e, Nat.lt_succ_self k, hw⟩) h1) (k, x) hx hw
theorem g210_ok (n : Nat) (a0 : List TTaxiAsk) (a1_0_0 : ByteArray) (a1_0_1 : ByteArray) (a1_0_2 : Int) {t : ρ210} (R : AV → Mem → Prop) (hR : ∀ r : ρ210, t = r → ∀ u m, Ans ((intA r)) u m → R u m) : g210 n a0 a1_0_0 a1_0_1 a1_0_2 = some t → F210 (lstA TTaxiAsk.E a0) (AV.fn 154 [(AV.ept [(strA a1_0_0), (strA a1_0_1), (intA a1_0_2)] 0)]) R := by
  unfold g210 F210
  refine iq (intA (a0.length : Int)) rfl ?_
  refine imp ex_i64_b ?_
  exact fun hg => L210_0_ok n a0 a1_0_0 a1_0_1 a1_0_2 (0) (a0.length : Int) R  hR n _ hg (weak_mem [] rfl rfl rfl (okW_cons (ent_lst (E := TTaxiAsk.E) _ false) (okW_cons (ent_clean (leV_refl _) (by simp [clean, cleans, encs_clean])) (okW_cons (.inl (leV_refl _)) (okW_cons (.inl (leV_refl _)) (okW_cons (.inl (leV_refl _)) okW_nil))))) okB_nil')
theorem sg210 {n : Nat} {a0 : List TTaxiAsk} {a1_0_0 : ByteArray} {a1_0_1 : ByteArray} {a1_0_2 : Int} {t : ρ210} (h : g210 n a0 a1_0_0 a1_0_1 a1_0_2 = some t) : Says pg KK.gl 210 [(lstA TTaxiAsk.E a0), (AV.fn 154 [(AV.ept [(strA a1_0_0), (strA a1_0_1), (intA a1_0_2)] 0)])] ((intA t)) :=
  says_of_own (by first | rfl | simp [cleans, clean, encs_clean, En.cln]) (by first | rfl | simp [cleans, clean, encs_clean, En.cln]) (F210_own (lstA TTaxiAsk.E a0) (AV.fn 154 [(AV.ept [(strA a1_0_0), (strA a1_0_1), (intA a1_0_2)] 0)]) _ (g210_ok n a0 a1_0_0 a1_0_1 a1_0_2 (Ans ((intA t))) (fun r e u m h => by rw [e]; exact h) h))
/- slices.ContainsFunc[[]skyway/api.TaxiAsk,skyway/api.TaxiAsk] -/
theorem g153_ok (n : Nat) (a0 : List TTaxiAsk) (a1_0_0 : ByteArray) (a1_0_1 : ByteArray) (a1_0_2 : Int) {t : ρ153} (R : AV → Mem → Prop) (hR : ∀ r : ρ153, t = r → ∀ u m, Ans ((boolA r)) u m → R u m) : g153 n a0 a1_0_0 a1_0_1 a1_0_2 = some t → F153 (lstA TTaxiAsk.E a0) (AV.fn 154 [(AV.ept [(strA a1_0_0), (strA a1_0_1), (intA a1_0_2)] 0)]) R := by
  unfold g153 F153
  refine bind_b fun x95 h95 => ?_
  refine imp (callQ_says (sg210 h95)) ?_
  refine imp ex_i64_b ?_
  exact fun hg => ret1 (hR _ (Option.some.inj hg).symm) (fz_sc _ _)
theorem sg153 {n : Nat} {a0 : List TTaxiAsk} {a1_0_0 : ByteArray} {a1_0_1 : ByteArray} {a1_0_2 : Int} {t : ρ153} (h : g153 n a0 a1_0_0 a1_0_1 a1_0_2 = some t) : Says pg KK.gl 153 [(lstA TTaxiAsk.E a0), (AV.fn 154 [(AV.ept [(strA a1_0_0), (strA a1_0_1), (intA a1_0_2)] 0)])] ((boolA t)) :=
  says_of_own (by first | rfl | simp [cleans, clean, encs_clean, En.cln]) (by first | rfl | simp [cleans, clean, encs_clean, En.cln]) (F153_own (lstA TTaxiAsk.E a0) (AV.fn 154 [(AV.ept [(strA a1_0_0), (strA a1_0_1), (intA a1_0_2)] 0)]) _ (g153_ok n a0 a1_0_0 a1_0_1 a1_0_2 (Ans ((boolA t))) (fun r e u m h => by rw [e]; exact h) h))
/- skyway/taxi.Check -/
theorem B94_0_ok (n : Nat) (a0 : List TTaxiStand) (a1 : List TTaxiAsk) (c4 : Int) (c17 : Int) (v18 : Int) {t : (Int) ⊕ ρ94} (R : AV → Mem → Prop) (N0 : St → Prop) (hR : ∀ r : ρ94, t = (.inr r) → ∀ u m, Ans ((intA r)) u m → R u m) (hN0 : ∀ y : Int, t = (.inl y) → ∀ s' : St, Weak KK 50 0 s' (h94_0 (lstA TTaxiStand.E a0) (lstA TTaxiAsk.E a1) c4 (lstA TTaxiAsk.E a1) c17 y []) → N0 s') : S94_0 n a0 a1 c4 c17 v18 = some t → B94_0 (lstA TTaxiStand.E a0) (lstA TTaxiAsk.E a1) c4 (lstA TTaxiAsk.E a1) c17 v18 [] R N0 := by
  unfold S94_0 B94_0
  refine cond_b (fun _ => ?_) (fun _ => ?_)
  · refine bind_b fun x89 h89 => ?_
    refine iq (AV.ept [(strA x89.Call), (strA x89.Stand), (intA x89.Ready)] 0) (idx_lst (E := TTaxiAsk.E) rfl h89) ?_
    refine iq (AV.agg [(strA x89.Call), (strA x89.Stand), (intA x89.Ready)]) rfl ?_
    refine imp exA3_b ?_
    refine imp exStr_b ?_
    refine imp exStr_b ?_
    refine imp ex_i64_b ?_
    refine bind_b fun x90 h90 => ?_
    refine imp (callQ_says (sg50 h90)) ?_
    refine imp exB_b ?_
    refine cond_b (fun _ => ?_) (fun _ => ?_)
    · exact fun hg => ret1 (hR _ (Option.some.inj hg).symm) (fz_sc _ _)
    · refine bind_b fun x91 h91 => ?_
      refine imp (callQ_says (sg95 h91)) ?_
      refine imp ex_i64_b ?_
      refine cond_b (fun _ => ?_) (fun _ => ?_)
      · exact fun hg => ret1 (hR _ (Option.some.inj hg).symm) (fz_sc _ _)
      · refine cond_b (fun _ => ?_) (fun _ => ?_)
        · exact fun hg => ret1 (hR _ (Option.some.inj hg).symm) (fz_sc _ _)
        · refine cond_b (fun _ => ?_) (fun _ => ?_)
          · exact fun hg => ret1 (hR _ (Option.some.inj hg).symm) (fz_sc _ _)
          · refine bind_b fun x92 h92 => ?_
            refine iq (lstA TTaxiAsk.E x92) (slc_hi (E := TTaxiAsk.E) (e := 113) (by kernel_rfl) (by kernel_rfl) rfl h92) ?_
            refine bind_b fun x96 h96 => ?_
            refine imp (callQ_pure (pure_snapN (snL_cons (sn_lst (E := TTaxiAsk.E) _ _ false) (snL_cons (sn_fn _ _ (snL_cons (sn_ptr _ (ty := 113) (us := [(strA x89.Call), (strA x89.Stand), (intA x89.Ready)]) (by first | rfl | (simp (disch := first | decide | assumption) only [mpushs_nil, mpushs_cons, mget_hd, mget_tl, mget_appW_o, mget_appW_n, mget_appW_e])) (snL_cons (sn_sc _ _) (snL_cons (sn_sc _ _) (snL_cons (sn_sc _ _) snL_nil)))) snL_nil)) snL_nil)) (sg153 h96) rfl)) ?_
            refine imp exB_b ?_
            refine cond_b (fun _ => ?_) (fun _ => ?_)
            · exact fun hg => ret1 (hR _ (Option.some.inj hg).symm) (fz_sc _ _)
            · exact fun hg => hN0 _ (Option.some.inj hg).symm _ (weak_mem [] rfl rfl rfl (okW_cons (ent_lst (E := TTaxiStand.E) _ false) (okW_cons (ent_lst (E := TTaxiAsk.E) _ false) (okW_cons (.inl (leV_refl _)) (okW_cons (ent_lst (E := TTaxiAsk.E) _ false) (okW_cons (.inl (leV_refl _)) (okW_cons (.inl (leV_refl _)) okW_nil)))))) okB_nil')
  · exact fun hg => ret1 (hR _ (Option.some.inj hg).symm) (fz_sc _ _)
theorem L94_0_ok (n : Nat) (a0 : List TTaxiStand) (a1 : List TTaxiAsk) (c4 : Int) (c17 : Int) {t : ρ94} (R : AV → Mem → Prop) (hR : ∀ r : ρ94, t = r → ∀ u m, Ans ((intA r)) u m → R u m) (k : Nat) (x : Int) (hx : iterO (fun y : Int => S94_0 n a0 a1 c4 c17 y) k x = some t) {s : St} (hw : Weak KK 50 0 s (h94_0 (lstA TTaxiStand.E a0) (lstA TTaxiAsk.E a1) c4 (lstA TTaxiAsk.E a1) c17 x [])) : Tri pg KK 50 0 (.loop c94_0) s (q94_0 R ) :=
  L94_0 R  (σ := Nat × (Int)) (fun z => iterO (fun y : Int => S94_0 n a0 a1 c4 c17 y) z.1 z.2 = some t) (fun z => (lstA TTaxiStand.E a0)) (fun z => (lstA TTaxiAsk.E a1)) (fun z => c4) (fun z => (lstA TTaxiAsk.E a1)) (fun z => c17) (fun z => z.2) (fun z => []) (fun z => z.1) (by
    rintro ⟨k, y⟩ h
    cases k with
    | zero => exact (iterO_zero h).elim
    | succ k =>
      obtain ⟨u, h1, h2, h3⟩ := iterO_elim h
      exact B94_0_ok n a0 a1 c4 c17 y R  _ (fun r e => hR r (h3 _ e).symm)  (fun y' e s' hw => ⟨(k, y'), h2 _ e, Nat.lt_succ_self k, hw⟩) h1) (k, x) hx hw
theorem g94_ok (n : Nat) (a0 : List TTaxiStand) (a1 : List TTaxiAsk) {t : ρ94} (R : AV → Mem → Prop) (hR : ∀ r : ρ94, t = r → ∀ u m, Ans ((intA r)) u m → R u m) : g94 n a0 a1 = some t → F94 (lstA TTaxiStand.E a0) (lstA TTaxiAsk.E a1) R := by
  unfold g94 F94
  refine bind_b fun x88 h88 => ?_
  refine imp (callQ_says (sg152 h88)) ?_
  refine imp ex_i64_b ?_
  refine cond_b (fun _ => ?_) (fun _ => ?_)
  · exact fun hg => ret1 (hR _ (Option.some.inj hg).symm) (fz_sc _ _)
  · refine iq (intA (a1.length : Int)) rfl ?_
    refine imp ex_i64_b ?_
    refine cond_b (fun _ => ?_) (fun _ => ?_)
    · exact fun hg => ret1 (hR _ (Option.some.inj hg).symm) (fz_sc _ _)
    · refine iq (intA (a1.length : Int)) rfl ?_
      refine imp ex_i64_b ?_
      exact fun hg => L94_0_ok n a0 a1 (0) (a1.length : Int) R  hR n _ hg (weak_mem [] rfl rfl rfl (okW_cons (ent_lst (E := TTaxiStand.E) _ false) (okW_cons (ent_lst (E := TTaxiAsk.E) _ false) (okW_cons (.inl (leV_refl _)) (okW_cons (ent_lst (E := TTaxiAsk.E) _ false) (okW_cons (.inl (leV_refl _)) (okW_cons (.inl (leV_refl _)) okW_nil)))))) okB_nil')
theorem sg94 {n : Nat} {a0 : List TTaxiStand} {a1 : List TTaxiAsk} {t : ρ94} (h : g94 n a0 a1 = some t) : Says pg KK.gl 94 [(lstA TTaxiStand.E a0), (lstA TTaxiAsk.E a1)] ((intA t)) :=
  says_of_own (by first | rfl | simp [cleans, clean, encs_clean, En.cln]) (by first | rfl | simp [cleans, clean, encs_clean, En.cln]) (F94_own (lstA TTaxiStand.E a0) (lstA TTaxiAsk.E a1) _ (g94_ok n a0 a1 (Ans ((intA t))) (fun r e u m h => by rw [e]; exact h) h))
/- cmp.isNaN[string] -/
theorem g145_ok (n : Nat) (a0 : ByteArray) {t : ρ145} (R : AV → Mem → Prop) (hR : ∀ r : ρ145, t = r → ∀ u m, Ans ((boolA r)) u m → R u m) : g145 n a0 = some t → F145 a0 R := by
  unfold g145 F145
  exact fun hg => ret1 (hR _ (Option.some.inj hg).symm) (fz_sc _ _)
theorem sg145 {n : Nat} {a0 : ByteArray} {t : ρ145} (h : g145 n a0 = some t) : Says pg KK.gl 145 [(strA a0)] ((boolA t)) :=
  says_of_own (by first | rfl | simp [cleans, clean, encs_clean, En.cln]) (by first | rfl | simp [cleans, clean, encs_clean, En.cln]) (F145_own a0 _ (g145_ok n a0 (Ans ((boolA t))) (fun r e u m h => by rw [e]; exact h) h))
/- cmp.Compare[string] -/
theorem g85_ok (n : Nat) (a0 : ByteArray) (a1 : ByteArray) {t : ρ85} (R : AV → Mem → Prop) (hR : ∀ r : ρ85, t = r → ∀ u m, Ans ((intA r)) u m → R u m) : g85 n a0 a1 = some t → F85 a0 a1 R := by
  unfold g85 F85
  refine bind_b fun x103 h103 => ?_
  refine imp (callQ_says (sg145 h103)) ?_
  refine imp exB_b ?_
  refine bind_b fun x104 h104 => ?_
  refine imp (callQ_says (sg145 h104)) ?_
  refine imp exB_b ?_
  refine cond_b (fun _ => ?_) (fun _ => ?_)
  · refine cond_b (fun _ => ?_) (fun _ => ?_)
    · exact fun hg => ret1 (hR _ (Option.some.inj hg).symm) (fz_sc _ _)
    · exact fun hg => ret1 (hR _ (Option.some.inj hg).symm) (fz_sc _ _)
  · refine cond_b (fun _ => ?_) (fun _ => ?_)
    · exact fun hg => ret1 (hR _ (Option.some.inj hg).symm) (fz_sc _ _)
    · refine cond_b (fun _ => ?_) (fun _ => ?_)
      · exact fun hg => ret1 (hR _ (Option.some.inj hg).symm) (fz_sc _ _)
      · refine cond_b (fun _ => ?_) (fun _ => ?_)
        · exact fun hg => ret1 (hR _ (Option.some.inj hg).symm) (fz_sc _ _)
        · exact fun hg => ret1 (hR _ (Option.some.inj hg).symm) (fz_sc _ _)
theorem sg85 {n : Nat} {a0 : ByteArray} {a1 : ByteArray} {t : ρ85} (h : g85 n a0 a1 = some t) : Says pg KK.gl 85 [(strA a0), (strA a1)] ((intA t)) :=
  says_of_own (by first | rfl | simp [cleans, clean, encs_clean, En.cln]) (by first | rfl | simp [cleans, clean, encs_clean, En.cln]) (F85_own a0 a1 _ (g85_ok n a0 a1 (Ans ((intA t))) (fun r e u m h => by rw [e]; exact h) h))
/- cmp.Or[int] -/
theorem B84_0_ok (n : Nat) (c2 : Int) (a0 : List Int) (c7 : Int) (v8 : Int) {t : (Int) ⊕ ρ84} (R : AV → Mem → Prop) (N0 : St → Prop) (hR : ∀ r : ρ84, t = (.inr r) → ∀ u m, Ans ((intA r)) u m → R u m) (hN0 : ∀ y : Int, t = (.inl y) → ∀ s' : St, Weak KK 18 0 s' (h84_0 c2 c2 (lstA intE a0) c7 y []) → N0 s') : S84_0 n c2 a0 c7 v8 = some t → B84_0 c2 c2 (lstA intE a0) c7 v8 [] R N0 := by
  unfold S84_0 B84_0
  refine cond_b (fun _ => ?_) (fun _ => ?_)
  · refine bind_b fun x106 h106 => ?_
    refine iq (AV.ept [(intA x106)] 0) (idx_lst (E := intE) rfl h106) ?_
    refine iq (intA x106) rfl ?_
    refine imp ex_i64_b ?_
    refine cond_b (fun _ => ?_) (fun _ => ?_)
    · exact fun hg => ret1 (hR _ (Option.some.inj hg).symm) (fz_sc _ _)
    · exact fun hg => hN0 _ (Option.some.inj hg).symm _ (weak_mem [] rfl rfl rfl (okW_cons (.inl (leV_refl _)) (okW_cons (.inl (leV_refl _)) (okW_cons (ent_lst (E := intE) _ false) (okW_cons (.inl (leV_refl _)) (okW_cons (.inl (leV_refl _)) okW_nil))))) okB_nil')
  · exact fun hg => ret1 (hR _ (Option.some.inj hg).symm) (fz_sc _ _)
theorem L84_0_ok (n : Nat) (c2 : Int) (a0 : List Int) (c7 : Int) {t : ρ84} (R : AV → Mem → Prop) (hR : ∀ r : ρ84, t = r → ∀ u m, Ans ((intA r)) u m → R u m) (k : Nat) (x : Int) (hx : iterO (fun y : Int => S84_0 n c2 a0 c7 y) k x = some t) {s : St} (hw : Weak KK 18 0 s (h84_0 c2 c2 (lstA intE a0) c7 x [])) : Tri pg KK 18 0 (.loop c84_0) s (q84_0 R ) :=
  L84_0 R  (σ := Nat × (Int)) (fun z => iterO (fun y : Int => S84_0 n c2 a0 c7 y) z.1 z.2 = some t) (fun z => c2) (fun z => c2) (fun z => (lstA intE a0)) (fun z => c7) (fun z => z.2) (fun z => []) (fun z => z.1) (by
    rintro ⟨k, y⟩ h
    cases k with
    | zero => exact (iterO_zero h).elim
    | succ k =>
      obtain ⟨u, h1, h2, h3⟩ := iterO_elim h
      exact B84_0_ok n c2 a0 c7 y R  _ (fun r e => hR r (h3 _ e).symm)  (fun y' e s' hw => ⟨(k, y'), h2 _ e, Nat.lt_succ_self k, hw⟩) h1) (k, x) hx hw
theorem g84_ok (n : Nat) (a0 : List Int) {t : ρ84} (R : AV → Mem → Prop) (hR : ∀ r : ρ84, t = r → ∀ u m, Ans ((intA r)) u m → R u m) : g84 n a0 = some t → F84 (lstA intE a0) R := by
  unfold g84 F84
  refine iq (intA (a0.length : Int)) rfl ?_
  refine imp ex_i64_b ?_
  exact fun hg => L84_0_ok n (0) a0 (a0.length : Int) R  hR n _ hg (weak_mem [] rfl rfl rfl (okW_cons (.inl (leV_refl _)) (okW_cons (.inl (leV_refl _)) (okW_cons (ent_lst (E := intE) _ false) (okW_cons (.inl (leV_refl _)) (okW_cons (.inl (leV_refl _)) okW_nil))))) okB_nil')
theorem sg84 {n : Nat} {a0 : List Int} {t : ρ84} (h : g84 n a0 = some t) : Says pg KK.gl 84 [(lstA intE a0)] ((intA t)) :=
  says_of_own (by first | rfl | simp [cleans, clean, encs_clean, En.cln]) (by first | rfl | simp [cleans, clean, encs_clean, En.cln]) (F84_own (lstA intE a0) _ (g84_ok n a0 (Ans ((intA t))) (fun r e u m h => by rw [e]; exact h) h))
/- skyway/taxi.Queue$1 -/
theorem g97_ok (n : Nat) (a0 : TTaxiMove) (a1 : TTaxiMove) {t : ρ97} (R : AV → Mem → Prop) (hR : ∀ r : ρ97, t = r → ∀ u m, Ans ((intA r)) u m → R u m) : g97 n a0 a1 = some t → F97 a0.Call a0.Push a0.Hold a0.Leave a1.Call a1.Push a1.Hold a1.Leave R := by
  unfold g97 F97
  refine imp (opM_of (show _ = some ((intA a0.Hold), []) from (ldS_ptr (b := ⟨[(strA a0.Call), (intA a0.Push), (intA a0.Hold), (intA a0.Leave)], 38⟩) (by first | rfl | (rw [look'_mem (by first | rfl | simp [topId_blk] | simp [topId])]; first | rfl | (simp (disch := first | decide | assumption) only [mpushs_nil, mpushs_cons, mget_hd, mget_tl, mget_appW_o, mget_appW_n, mget_appW_e]))) rfl))) ?_
  refine imp ex_i64_b ?_
  refine imp (opM_of (show _ = some ((intA a1.Hold), []) from (ldS_ptr (b := ⟨[(strA a1.Call), (intA a1.Push), (intA a1.Hold), (intA a1.Leave)], 38⟩) (by first | rfl | (rw [look'_mem (by first | rfl | simp [topId_blk] | simp [topId])]; first | rfl | (simp (disch := first | decide | assumption) only [mpushs_nil, mpushs_cons, mget_hd, mget_tl, mget_appW_o, mget_appW_n, mget_appW_e]))) rfl))) ?_
  refine imp ex_i64_b ?_
  refine imp (opM_of (show _ = some ((strA a0.Call), []) from (ldS_ptr (b := ⟨[(strA a0.Call), (intA a0.Push), (intA a0.Hold), (intA a0.Leave)], 38⟩) (by first | rfl | (rw [look'_mem (by first | rfl | simp [topId_blk] | simp [topId])]; first | rfl | (simp (disch := first | decide | assumption) only [mpushs_nil, mpushs_cons, mget_hd, mget_tl, mget_appW_o, mget_appW_n, mget_appW_e]))) rfl))) ?_
  refine imp exStr_b ?_
  refine imp (opM_of (show _ = some ((strA a1.Call), []) from (ldS_ptr (b := ⟨[(strA a1.Call), (intA a1.Push), (intA a1.Hold), (intA a1.Leave)], 38⟩) (by first | rfl | (rw [look'_mem (by first | rfl | simp [topId_blk] | simp [topId])]; first | rfl | (simp (disch := first | decide | assumption) only [mpushs_nil, mpushs_cons, mget_hd, mget_tl, mget_appW_o, mget_appW_n, mget_appW_e]))) rfl))) ?_
  refine imp exStr_b ?_
  refine bind_b fun x105 h105 => ?_
  refine imp (callF_says (sg85 h105)) ?_
  refine imp ex_i64_b ?_
  refine imp (opM_of (show _ = some ((blkV intE 13 ([(IntKind.wrap .i64 (a0.Hold - a1.Hold)), x105] : List Int)), [(13, some ⟨encs intE ([(IntKind.wrap .i64 (a0.Hold - a1.Hold)), x105] : List Int), 3⟩)]) from rfl)) ?_
  refine bind_b fun x107 h107 => ?_
  refine imp (callF_pure [13] (pure_snapN (snL_cons (sn_blk (E := intE) (ty := 3) (l' := ([(IntKind.wrap .i64 (a0.Hold - a1.Hold)), x105] : List Int)) _ intE.nf rfl (by first | rfl | (simp (disch := first | decide | assumption) only [mpushs_nil, mpushs_cons, mget_hd, mget_tl, mget_appW_o, mget_appW_n, mget_appW_e]))) snL_nil) (sg84 h107) rfl)) ?_
  refine imp ex_i64_b ?_
  refine imp (chk_of (by kernel_rfl)) ?_
  exact fun hg => ret1 (hR _ (Option.some.inj hg).symm) (fz_sc _ _)
theorem sg97 {n : Nat} {a0 : TTaxiMove} {a1 : TTaxiMove} {t : ρ97} (h : g97 n a0 a1 = some t) : Says pg KK.gl 97 [(AV.agg [(strA a0.Call), (intA a0.Push), (intA a0.Hold), (intA a0.Leave)]), (AV.agg [(strA a1.Call), (intA a1.Push), (intA a1.Hold), (intA a1.Leave)])] ((intA t)) :=
  says_of_own (by first | rfl | simp [cleans, clean, encs_clean, En.cln]) (by first | rfl | simp [cleans, clean, encs_clean, En.cln]) (F97_own a0.Call a0.Push a0.Hold a0.Leave a1.Call a1.Push a1.Hold a1.Leave _ (g97_ok n a0 a1 (Ans ((intA t))) (fun r e u m h => by rw [e]; exact h) h))
/- skyway/taxi.Queue -/
end Go.Proofs.YtbnnndfcaehlpaaGreatDoor
