/- Plain functional programs out of the program's functions, with proofs that the functions compute them; printed by wip/Ext.lean.txt. -/
import Derived.Test.YtfncpfnanmoapaaX1E3
import Derived.Test.YtfncpfnanmoapaaSvH
set_option linter.unusedVariables false
set_option linter.unusedSimpArgs false
set_option maxRecDepth 100000
set_option maxHeartbeats 4000000
namespace Go.Proofs.Ytfncpfnanmoapaa
/- skyway/sector.Path -/
/- skyway/sector.Box -/
theorem B17_0_ok (n : Nat) (c2 : Int) (c10_0 : Int) (c10_1 : Int) (c10_2 : Int) (c10_3 : Int) (k0_4 : Int) (k0_5 : Int) (v11 : Int) {t : (Int) ⊕ ρ17} (R : AV → Mem → Prop) (N0 : St → Prop) (hR : ∀ r : ρ17, t = (.inr r) → ∀ u m, Ans ((intA r)) u m → R u m) (hN0 : ∀ y : Int, t = (.inl y) → ∀ s' : St, Weak KK 53 0 s' (h17_0 c2 (AV.agg [(intA c10_0), (intA c10_1), (intA c10_2), (intA c10_3)]) y c10_0 c10_1 c10_2 c10_3 k0_4 k0_5 []) → N0 s') : S17_0 n c2 c10_0 c10_1 c10_2 c10_3 k0_4 k0_5 v11 = some t → B17_0 c2 (AV.agg [(intA c10_0), (intA c10_1), (intA c10_2), (intA c10_3)]) v11 c10_0 c10_1 c10_2 c10_3 k0_4 k0_5 [] R N0 := by
  unfold S17_0 B17_0
  refine cond_b (fun _ => ?_) (fun _ => ?_)
  · refine bind_b fun x143 h143 => ?_
    refine imp (opP_of (show _ = some ((AV.agg [(intA x143.X), (intA x143.Y)]), []) from (opA_index_agg (E := TP.E) (l := ([(⟨c10_0, c10_1⟩ : TP), (⟨c10_2, c10_3⟩ : TP)] : List TP)) (len := 2) (e := 24) (by kernel_rfl) (by kernel_rfl) (by kernel_rfl) rfl ⟨rfl, rfl⟩ h143))) ?_
    refine imp exA2_b ?_
    refine imp ex_i64_b ?_
    refine imp ex_i64_b ?_
    refine bind_b fun x144 h144 => ?_
    refine imp (callQ_says (sg19 h144)) ?_
    refine imp ex_i64_b ?_
    refine cond_b (fun _ => ?_) (fun _ => ?_)
    · exact fun hg => ret1 (hR _ (Option.some.inj hg).symm) (fz_sc _ _)
    · exact fun hg => hN0 _ (Option.some.inj hg).symm _ (weak_mem [(0, 0)] rfl rfl rfl (okW_cons (.inl (leV_refl _)) (okW_cons (.inl (leV_refl _)) (okW_cons (.inl (leV_refl _)) (okW_cons (.inl (leV_refl _)) okW_nil)))) (okB_cons (okB_cells (cs := [(intA c10_0), (intA c10_1), (intA c10_2), (intA c10_3), (intA k0_4), (intA k0_5)]) (ty := 26) rfl (show mget _ 0 = _ from (by first | rfl | (simp (disch := first | decide | assumption) only [mpushs_nil, mpushs_cons, mget_hd, mget_tl, mget_appW_o, mget_appW_n, mget_appW_e])))) okB_nil'))
  · refine cond_b (fun _ => ?_) (fun _ => ?_)
    · exact fun hg => ret1 (hR _ (Option.some.inj hg).symm) (fz_sc _ _)
    · refine cond_b (fun _ => ?_) (fun _ => ?_)
      · exact fun hg => ret1 (hR _ (Option.some.inj hg).symm) (fz_sc _ _)
      · refine cond_b (fun _ => ?_) (fun _ => ?_)
        · exact fun hg => ret1 (hR _ (Option.some.inj hg).symm) (fz_sc _ _)
        · refine cond_b (fun _ => ?_) (fun _ => ?_)
          · exact fun hg => ret1 (hR _ (Option.some.inj hg).symm) (fz_sc _ _)
          · refine cond_b (fun _ => ?_) (fun _ => ?_)
            · exact fun hg => ret1 (hR _ (Option.some.inj hg).symm) (fz_sc _ _)
            · exact fun hg => ret1 (hR _ (Option.some.inj hg).symm) (fz_sc _ _)
theorem L17_0_ok (n : Nat) (c2 : Int) (c10_0 : Int) (c10_1 : Int) (c10_2 : Int) (c10_3 : Int) (k0_4 : Int) (k0_5 : Int) {t : ρ17} (R : AV → Mem → Prop) (hR : ∀ r : ρ17, t = r → ∀ u m, Ans ((intA r)) u m → R u m) (k : Nat) (x : Int) (hx : iterO (fun y : Int => S17_0 n c2 c10_0 c10_1 c10_2 c10_3 k0_4 k0_5 y) k x = some t) {s : St} (hw : Weak KK 53 0 s (h17_0 c2 (AV.agg [(intA c10_0), (intA c10_1), (intA c10_2), (intA c10_3)]) x c10_0 c10_1 c10_2 c10_3 k0_4 k0_5 [])) : Tri Try.prog KK 53 0 (.loop c17_0) s (q17_0 R ) :=
  L17_0 R  (σ := Nat × (Int)) (fun z => iterO (fun y : Int => S17_0 n c2 c10_0 c10_1 c10_2 c10_3 k0_4 k0_5 y) z.1 z.2 = some t) (fun z => c2) (fun z => (AV.agg [(intA c10_0), (intA c10_1), (intA c10_2), (intA c10_3)])) (fun z => z.2) (fun z => c10_0) (fun z => c10_1) (fun z => c10_2) (fun z => c10_3) (fun z => k0_4) (fun z => k0_5) (fun z => []) (fun z => z.1) (by
    rintro ⟨k, y⟩ h
    cases k with
    | zero => exact (iterO_zero h).elim
    | succ k =>
      obtain ⟨u, h1, h2, h3⟩ := iterO_elim h
      exact B17_0_ok n c2 c10_0 c10_1 c10_2 c10_3 k0_4 k0_5 y R  _ (fun r e => hR r (h3 _ e).symm)  (fun y' e s' hw => ⟨(k, y'), h2 _ e, Nat.lt_succ_self k, hw⟩) h1) (k, x) hx hw
theorem g17_ok (n : Nat) (a0 : TSectorBox) {t : ρ17} (R : AV → Mem → Prop) (hR : ∀ r : ρ17, t = r → ∀ u m, Ans ((intA r)) u m → R u m) : g17 n a0 = some t → F17 a0.From_X a0.From_Y a0.To_X a0.To_Y a0.Low a0.High R := by
  unfold g17 F17
  refine imp (opP_of (show _ = some ((AV.agg [(intA a0.From_X), (intA a0.From_Y), (intA a0.To_X), (intA a0.To_Y)]), []) from (by kernel_rfl))) ?_
  exact fun hg => L17_0_ok n (0) a0.From_X a0.From_Y a0.To_X a0.To_Y a0.Low a0.High R  hR n _ hg (weak_mem [(0, 0)] rfl rfl rfl (okW_cons (.inl (leV_refl _)) (okW_cons (.inl (leV_refl _)) (okW_cons (.inl (leV_refl _)) (okW_cons (.inl (leV_refl _)) okW_nil)))) (okB_cons (okB_cells (cs := [(intA a0.From_X), (intA a0.From_Y), (intA a0.To_X), (intA a0.To_Y), (intA a0.Low), (intA a0.High)]) (ty := 26) rfl (show mget _ 0 = _ from (by first | rfl | (simp (disch := first | decide | assumption) only [mpushs_nil, mpushs_cons, mget_hd, mget_tl, mget_appW_o, mget_appW_n, mget_appW_e])))) okB_nil'))
theorem sg17 {n : Nat} {a0 : TSectorBox} {t : ρ17} (h : g17 n a0 = some t) : Says Try.prog KK.gl 17 [(AV.agg [(intA a0.From_X), (intA a0.From_Y), (intA a0.To_X), (intA a0.To_Y), (intA a0.Low), (intA a0.High)])] ((intA t)) :=
  says_of_own (by first | rfl | simp [cleans, clean, encs_clean, En.cln]) (by first | rfl | simp [cleans, clean, encs_clean, En.cln]) (F17_own a0.From_X a0.From_Y a0.To_X a0.To_Y a0.Low a0.High _ (g17_ok n a0 (Ans ((intA t))) (fun r e u m h => by rw [e]; exact h) h))
/- skyway/polygon.Area -/
theorem g18_ok (n : Nat) (a0 : List TP) {t : ρ18} (R : AV → Mem → Prop) (hR : ∀ r : ρ18, t = r → ∀ u m, Ans ((AV.tup [(intA r.1), (intA r.2)])) u m → R u m) : g18 n a0 = some t → F18 (lstA TP.E a0) R := by
  unfold g18 F18
  refine bind_b fun x149 h149 => ?_
  refine imp (callQ_says (sg29 h149)) ?_
  refine imp ex_i64_b ?_
  refine cond_b (fun _ => ?_) (fun _ => ?_)
  · exact fun hg => retN rfl (hR _ (Option.some.inj hg).symm) (fzL_cons (fz_sc _ _) (fzL_cons (fz_sc _ _) fzL_nil))
  · refine bind_b fun x150 h150 => ?_
    refine imp (callQ_says (sg30 h150)) ?_
    refine imp ex_i64_b ?_
    exact fun hg => retN rfl (hR _ (Option.some.inj hg).symm) (fzL_cons (fz_sc _ _) (fzL_cons (fz_sc _ _) fzL_nil))
theorem sg18 {n : Nat} {a0 : List TP} {t : ρ18} (h : g18 n a0 = some t) : Says Try.prog KK.gl 18 [(lstA TP.E a0)] ((AV.tup [(intA t.1), (intA t.2)])) :=
  says_of_own (by first | rfl | simp [cleans, clean, encs_clean, En.cln]) (by first | rfl | simp [cleans, clean, encs_clean, En.cln]) (F18_own (lstA TP.E a0) _ (g18_ok n a0 (Ans ((AV.tup [(intA t.1), (intA t.2)]))) (fun r e u m h => by rw [e]; exact h) h))
/- skyway/sector.Left -/
theorem B6_0_0_0_ok (n : Nat) (c4 : Int) (w8 : Int) (a0 : List TSector) (c50 : Int) (v51 : Int) (c56 : List TVolume) (c57 : Int) (w58 : Int) (c75 : List TP) (c76 : Int) (k0_0 : Int) (k0_1 : Int) (k0_2 : Int) (k0_3 : Int) (k0_4 : Int) (k0_5 : Int) (k200003_1 : Int) (k200003_2 : Int) (u77 : Int) {t : (Int) ⊕ ((Int × Int) ⊕ ((Int × Int) ⊕ ρ6))} (R : AV → Mem → Prop) (N0 : St → Prop) (N1 : St → Prop) (N2 : St → Prop) (hR : ∀ r : ρ6, t = (.inr (.inr (.inr r))) → ∀ u m, Ans ((AV.tup [(intA r.1), (intA r.2)])) u m → R u m) (hN0 : ∀ y : Int × Int, t = (.inr (.inr (.inl y))) → ∀ s' : St, Weak KK 130 0 s' (h6_0 c4 c4 y.1 (lstA TSector.E a0) c50 y.2 k0_0 k0_1 k0_2 k0_3 k0_4 k0_5 []) → N0 s') (hN1 : ∀ y : Int × Int, t = (.inr (.inl y)) → ∀ s' : St, Weak KK 130 0 s' (h6_0_0 c4 c4 y.1 (lstA TSector.E a0) c50 v51 (lstA TVolume.E c56) c57 y.2 k0_0 k0_1 k0_2 k0_3 k0_4 k0_5 []) → N1 s') (hN2 : ∀ y : Int, t = (.inl y) → ∀ s' : St, Weak KK 130 0 s' (h6_0_0_0 c4 c4 w8 (lstA TSector.E a0) c50 v51 (lstA TVolume.E c56) c57 w58 (lstA TP.E c75) c76 y k0_0 k0_1 k0_2 k0_3 k0_4 k0_5 (lstA TP.E c75) k200003_1 k200003_2 []) → N2 s') : S6_0_0_0 n c4 w8 a0 c50 v51 c56 c57 w58 c75 c76 k0_0 k0_1 k0_2 k0_3 k0_4 k0_5 k200003_1 k200003_2 u77 = some t → B6_0_0_0 c4 c4 w8 (lstA TSector.E a0) c50 v51 (lstA TVolume.E c56) c57 w58 (lstA TP.E c75) c76 u77 k0_0 k0_1 k0_2 k0_3 k0_4 k0_5 (lstA TP.E c75) k200003_1 k200003_2 [] R N0 N1 N2 := by
  unfold S6_0_0_0 B6_0_0_0
  refine cond_b (fun _ => ?_) (fun _ => ?_)
  · refine bind_b fun x148 h148 => ?_
    refine imp (opP_of (show _ = some ((AV.ept [(intA x148.X), (intA x148.Y)] 0), []) from (idx_lst (E := TP.E) rfl h148))) ?_
    refine imp (opP_of (show _ = some ((AV.agg [(intA x148.X), (intA x148.Y)]), []) from rfl)) ?_
    refine imp exA2_b ?_
    refine imp ex_i64_b ?_
    refine imp ex_i64_b ?_
    refine cond_b (fun _ => ?_) (fun _ => ?_)
    · exact fun hg => retN rfl (hR _ (Option.some.inj hg).symm) (fzL_cons (fz_sc _ _) (fzL_cons (fz_sc _ _) fzL_nil))
    · refine cond_b (fun _ => ?_) (fun _ => ?_)
      · exact fun hg => retN rfl (hR _ (Option.some.inj hg).symm) (fzL_cons (fz_sc _ _) (fzL_cons (fz_sc _ _) fzL_nil))
      · refine cond_b (fun _ => ?_) (fun _ => ?_)
        · exact fun hg => retN rfl (hR _ (Option.some.inj hg).symm) (fzL_cons (fz_sc _ _) (fzL_cons (fz_sc _ _) fzL_nil))
        · refine cond_b (fun _ => ?_) (fun _ => ?_)
          · exact fun hg => retN rfl (hR _ (Option.some.inj hg).symm) (fzL_cons (fz_sc _ _) (fzL_cons (fz_sc _ _) fzL_nil))
          · exact fun hg => hN2 _ (Option.some.inj hg).symm _ (weak_mem [(0, 0), (200003, 200003)] rfl rfl rfl (okW_cons (.inl (leV_refl _)) (okW_cons (.inl (leV_refl _)) (okW_cons (.inl (leV_refl _)) (okW_cons (.inl (leV_refl _)) (okW_cons (.inl (leV_refl _)) (okW_cons (ent_lst (E := TSector.E) _ false) (okW_cons (.inl (leV_refl _)) (okW_cons (.inl (leV_refl _)) (okW_cons (ent_lst (E := TVolume.E) _ false) (okW_cons (.inl (leV_refl _)) (okW_cons (.inl (leV_refl _)) (okW_cons (ent_lst (E := TP.E) _ false) (okW_cons (.inl (leV_refl _)) (okW_cons (.inl (leV_refl _)) okW_nil)))))))))))))) (okB_cons (okB_cells (cs := [(intA k0_0), (intA k0_1), (intA k0_2), (intA k0_3), (intA k0_4), (intA k0_5)]) (ty := 26) rfl (show mget _ 0 = _ from (by first | rfl | (simp (disch := first | decide | assumption) only [mpushs_nil, mpushs_cons, mget_hd, mget_tl, mget_appW_o, mget_appW_n, mget_appW_e])))) (okB_cons (okB_cells (cs := [(lstA TP.E c75), (intA k200003_1), (intA k200003_2)]) (ty := 56) (by simp [clean, cleans, encs_clean]) (show mget _ 200003 = _ from (by first | rfl | (simp (disch := first | decide | assumption) only [mpushs_nil, mpushs_cons, mget_hd, mget_tl, mget_appW_o, mget_appW_n, mget_appW_e])))) okB_nil')))
  · refine bind_b fun x151 h151 => ?_
    refine imp (callQ_says (sg18 h151)) ?_
    refine imp exT2_b ?_
    refine imp ex_i64_b ?_
    refine imp ex_i64_b ?_
    exact fun hg => hN1 _ (Option.some.inj hg).symm _ (weak_mem [(0, 0)] rfl rfl rfl (okW_cons (.inl (leV_refl _)) (okW_cons (.inl (leV_refl _)) (okW_cons (.inl (leV_refl _)) (okW_cons (.inl (leV_refl _)) (okW_cons (ent_lst (E := TSector.E) _ false) (okW_cons (.inl (leV_refl _)) (okW_cons (.inl (leV_refl _)) (okW_cons (ent_lst (E := TVolume.E) _ false) (okW_cons (.inl (leV_refl _)) (okW_cons (.inl (leV_refl _)) okW_nil)))))))))) (okB_cons (okB_cells (cs := [(intA k0_0), (intA k0_1), (intA k0_2), (intA k0_3), (intA k0_4), (intA k0_5)]) (ty := 26) rfl (show mget _ 0 = _ from (by first | rfl | (simp (disch := first | decide | assumption) only [mpushs_nil, mpushs_cons, mget_hd, mget_tl, mget_appW_o, mget_appW_n, mget_appW_e])))) okB_nil'))
theorem L6_0_0_0_ok (n : Nat) (c4 : Int) (w8 : Int) (a0 : List TSector) (c50 : Int) (v51 : Int) (c56 : List TVolume) (c57 : Int) (w58 : Int) (c75 : List TP) (c76 : Int) (k0_0 : Int) (k0_1 : Int) (k0_2 : Int) (k0_3 : Int) (k0_4 : Int) (k0_5 : Int) (k200003_1 : Int) (k200003_2 : Int) {t : ((Int × Int) ⊕ ((Int × Int) ⊕ ρ6))} (R : AV → Mem → Prop) (N0 : St → Prop) (N1 : St → Prop) (hR : ∀ r : ρ6, t = (.inr (.inr r)) → ∀ u m, Ans ((AV.tup [(intA r.1), (intA r.2)])) u m → R u m) (hN0 : ∀ y : Int × Int, t = (.inr (.inl y)) → ∀ s' : St, Weak KK 130 0 s' (h6_0 c4 c4 y.1 (lstA TSector.E a0) c50 y.2 k0_0 k0_1 k0_2 k0_3 k0_4 k0_5 []) → N0 s') (hN1 : ∀ y : Int × Int, t = (.inl y) → ∀ s' : St, Weak KK 130 0 s' (h6_0_0 c4 c4 y.1 (lstA TSector.E a0) c50 v51 (lstA TVolume.E c56) c57 y.2 k0_0 k0_1 k0_2 k0_3 k0_4 k0_5 []) → N1 s') (k : Nat) (x : Int) (hx : iterO (fun y : Int => S6_0_0_0 n c4 w8 a0 c50 v51 c56 c57 w58 c75 c76 k0_0 k0_1 k0_2 k0_3 k0_4 k0_5 k200003_1 k200003_2 y) k x = some t) {s : St} (hw : Weak KK 130 0 s (h6_0_0_0 c4 c4 w8 (lstA TSector.E a0) c50 v51 (lstA TVolume.E c56) c57 w58 (lstA TP.E c75) c76 x k0_0 k0_1 k0_2 k0_3 k0_4 k0_5 (lstA TP.E c75) k200003_1 k200003_2 [])) : Tri Try.prog KK 130 0 (.loop c6_0_0_0) s (q6_0_0_0 R N0 N1) :=
  L6_0_0_0 R N0 N1 (σ := Nat × (Int)) (fun z => iterO (fun y : Int => S6_0_0_0 n c4 w8 a0 c50 v51 c56 c57 w58 c75 c76 k0_0 k0_1 k0_2 k0_3 k0_4 k0_5 k200003_1 k200003_2 y) z.1 z.2 = some t) (fun z => c4) (fun z => c4) (fun z => w8) (fun z => (lstA TSector.E a0)) (fun z => c50) (fun z => v51) (fun z => (lstA TVolume.E c56)) (fun z => c57) (fun z => w58) (fun z => (lstA TP.E c75)) (fun z => c76) (fun z => z.2) (fun z => k0_0) (fun z => k0_1) (fun z => k0_2) (fun z => k0_3) (fun z => k0_4) (fun z => k0_5) (fun z => (lstA TP.E c75)) (fun z => k200003_1) (fun z => k200003_2) (fun z => []) (fun z => z.1) (by
    rintro ⟨k, y⟩ h
    cases k with
    | zero => exact (iterO_zero h).elim
    | succ k =>
      obtain ⟨u, h1, h2, h3⟩ := iterO_elim h
      exact B6_0_0_0_ok n c4 w8 a0 c50 v51 c56 c57 w58 c75 c76 k0_0 k0_1 k0_2 k0_3 k0_4 k0_5 k200003_1 k200003_2 y R N0 N1 _ (fun r e => hR r (h3 _ e).symm) (fun y' e => hN0 y' (h3 _ e).symm) (fun y' e => hN1 y' (h3 _ e).symm) (fun y' e s' hw => ⟨(k, y'), h2 _ e, Nat.lt_succ_self k, hw⟩) h1) (k, x) hx hw
theorem B6_0_0_ok (n : Nat) (c4 : Int) (a0 : List TSector) (c50 : Int) (v51 : Int) (c56 : List TVolume) (c57 : Int) (k0_0 : Int) (k0_1 : Int) (k0_2 : Int) (k0_3 : Int) (k0_4 : Int) (k0_5 : Int) (w8 : Int) (w58 : Int) {t : (Int × Int) ⊕ ((Int × Int) ⊕ ρ6)} (R : AV → Mem → Prop) (N0 : St → Prop) (N1 : St → Prop) (hR : ∀ r : ρ6, t = (.inr (.inr r)) → ∀ u m, Ans ((AV.tup [(intA r.1), (intA r.2)])) u m → R u m) (hN0 : ∀ y : Int × Int, t = (.inr (.inl y)) → ∀ s' : St, Weak KK 130 0 s' (h6_0 c4 c4 y.1 (lstA TSector.E a0) c50 y.2 k0_0 k0_1 k0_2 k0_3 k0_4 k0_5 []) → N0 s') (hN1 : ∀ y : Int × Int, t = (.inl y) → ∀ s' : St, Weak KK 130 0 s' (h6_0_0 c4 c4 y.1 (lstA TSector.E a0) c50 v51 (lstA TVolume.E c56) c57 y.2 k0_0 k0_1 k0_2 k0_3 k0_4 k0_5 []) → N1 s') : S6_0_0 n c4 a0 c50 v51 c56 c57 k0_0 k0_1 k0_2 k0_3 k0_4 k0_5 w8 w58 = some t → B6_0_0 c4 c4 w8 (lstA TSector.E a0) c50 v51 (lstA TVolume.E c56) c57 w58 k0_0 k0_1 k0_2 k0_3 k0_4 k0_5 [] R N0 N1 := by
  unfold S6_0_0 B6_0_0
  refine cond_b (fun _ => ?_) (fun _ => ?_)
  · refine bind_b fun x147 h147 => ?_
    refine imp (opP_of (show _ = some ((AV.ept [(lstA TP.E x147.Area), (intA x147.Low), (intA x147.High)] 0), []) from (idx_lst (E := TVolume.E) rfl h147))) ?_
    refine imp (opP_of (show _ = some ((AV.agg [(lstA TP.E x147.Area), (intA x147.Low), (intA x147.High)]), []) from rfl)) ?_
    refine imp exA3_b ?_
    refine imp ex_i64_b ?_
    refine imp ex_i64_b ?_
    refine imp (chk_of rfl) ?_
    refine cond_b (fun _ => ?_) (fun _ => ?_)
    · exact fun hg => retN rfl (hR _ (Option.some.inj hg).symm) (fzL_cons (fz_sc _ _) (fzL_cons (fz_sc _ _) fzL_nil))
    · refine cond_b (fun _ => ?_) (fun _ => ?_)
      · exact fun hg => retN rfl (hR _ (Option.some.inj hg).symm) (fzL_cons (fz_sc _ _) (fzL_cons (fz_sc _ _) fzL_nil))
      · refine imp (opP_of (show _ = some ((intA (x147.Area.length : Int)), []) from rfl)) ?_
        refine imp ex_i64_b ?_
        exact fun hg => L6_0_0_0_ok n c4 w8 a0 c50 v51 c56 c57 w58 x147.Area (x147.Area.length : Int) k0_0 k0_1 k0_2 k0_3 k0_4 k0_5 x147.Low x147.High R N0 N1 hR hN0 hN1 n _ hg (weak_mem [(0, 0), (200003, 200003)] rfl rfl rfl (okW_cons (.inl (leV_refl _)) (okW_cons (.inl (leV_refl _)) (okW_cons (.inl (leV_refl _)) (okW_cons (.inl (leV_refl _)) (okW_cons (.inl (leV_refl _)) (okW_cons (ent_lst (E := TSector.E) _ false) (okW_cons (.inl (leV_refl _)) (okW_cons (.inl (leV_refl _)) (okW_cons (ent_lst (E := TVolume.E) _ false) (okW_cons (.inl (leV_refl _)) (okW_cons (.inl (leV_refl _)) (okW_cons (ent_lst (E := TP.E) _ false) (okW_cons (.inl (leV_refl _)) (okW_cons (.inl (leV_refl _)) okW_nil)))))))))))))) (okB_cons (okB_cells (cs := [(intA k0_0), (intA k0_1), (intA k0_2), (intA k0_3), (intA k0_4), (intA k0_5)]) (ty := 26) rfl (show mget _ 0 = _ from (by first | rfl | (simp (disch := first | decide | assumption) only [mpushs_nil, mpushs_cons, mget_hd, mget_tl, mget_appW_o, mget_appW_n, mget_appW_e])))) (okB_cons (okB_cells (cs := [(lstA TP.E x147.Area), (intA x147.Low), (intA x147.High)]) (ty := 56) (by simp [clean, cleans, encs_clean]) (show mget _ 200003 = _ from (by first | rfl | (simp (disch := first | decide | assumption) only [mpushs_nil, mpushs_cons, mget_hd, mget_tl, mget_appW_o, mget_appW_n, mget_appW_e])))) okB_nil')))
  · exact fun hg => hN0 _ (Option.some.inj hg).symm _ (weak_mem [(0, 0)] rfl rfl rfl (okW_cons (.inl (leV_refl _)) (okW_cons (.inl (leV_refl _)) (okW_cons (.inl (leV_refl _)) (okW_cons (.inl (leV_refl _)) (okW_cons (ent_lst (E := TSector.E) _ false) (okW_cons (.inl (leV_refl _)) (okW_cons (.inl (leV_refl _)) okW_nil))))))) (okB_cons (okB_cells (cs := [(intA k0_0), (intA k0_1), (intA k0_2), (intA k0_3), (intA k0_4), (intA k0_5)]) (ty := 26) rfl (show mget _ 0 = _ from (by first | rfl | (simp (disch := first | decide | assumption) only [mpushs_nil, mpushs_cons, mget_hd, mget_tl, mget_appW_o, mget_appW_n, mget_appW_e])))) okB_nil'))
theorem L6_0_0_ok (n : Nat) (c4 : Int) (a0 : List TSector) (c50 : Int) (v51 : Int) (c56 : List TVolume) (c57 : Int) (k0_0 : Int) (k0_1 : Int) (k0_2 : Int) (k0_3 : Int) (k0_4 : Int) (k0_5 : Int) {t : ((Int × Int) ⊕ ρ6)} (R : AV → Mem → Prop) (N0 : St → Prop) (hR : ∀ r : ρ6, t = (.inr r) → ∀ u m, Ans ((AV.tup [(intA r.1), (intA r.2)])) u m → R u m) (hN0 : ∀ y : Int × Int, t = (.inl y) → ∀ s' : St, Weak KK 130 0 s' (h6_0 c4 c4 y.1 (lstA TSector.E a0) c50 y.2 k0_0 k0_1 k0_2 k0_3 k0_4 k0_5 []) → N0 s') (k : Nat) (x : Int × Int) (hx : iterO (fun y : Int × Int => S6_0_0 n c4 a0 c50 v51 c56 c57 k0_0 k0_1 k0_2 k0_3 k0_4 k0_5 y.1 y.2) k x = some t) {s : St} (hw : Weak KK 130 0 s (h6_0_0 c4 c4 x.1 (lstA TSector.E a0) c50 v51 (lstA TVolume.E c56) c57 x.2 k0_0 k0_1 k0_2 k0_3 k0_4 k0_5 [])) : Tri Try.prog KK 130 0 (.loop c6_0_0) s (q6_0_0 R N0) :=
  L6_0_0 R N0 (σ := Nat × (Int × Int)) (fun z => iterO (fun y : Int × Int => S6_0_0 n c4 a0 c50 v51 c56 c57 k0_0 k0_1 k0_2 k0_3 k0_4 k0_5 y.1 y.2) z.1 z.2 = some t) (fun z => c4) (fun z => c4) (fun z => z.2.1) (fun z => (lstA TSector.E a0)) (fun z => c50) (fun z => v51) (fun z => (lstA TVolume.E c56)) (fun z => c57) (fun z => z.2.2) (fun z => k0_0) (fun z => k0_1) (fun z => k0_2) (fun z => k0_3) (fun z => k0_4) (fun z => k0_5) (fun z => []) (fun z => z.1) (by
    rintro ⟨k, y⟩ h
    cases k with
    | zero => exact (iterO_zero h).elim
    | succ k =>
      obtain ⟨u, h1, h2, h3⟩ := iterO_elim h
      exact B6_0_0_ok n c4 a0 c50 v51 c56 c57 k0_0 k0_1 k0_2 k0_3 k0_4 k0_5 y.1 y.2 R N0 _ (fun r e => hR r (h3 _ e).symm) (fun y' e => hN0 y' (h3 _ e).symm) (fun y' e s' hw => ⟨(k, y'), h2 _ e, Nat.lt_succ_self k, hw⟩) h1) (k, x) hx hw
theorem B6_0_ok (n : Nat) (c4 : Int) (a0 : List TSector) (c50 : Int) (k0_0 : Int) (k0_1 : Int) (k0_2 : Int) (k0_3 : Int) (k0_4 : Int) (k0_5 : Int) (v8 : Int) (v51 : Int) {t : (Int × Int) ⊕ ρ6} (R : AV → Mem → Prop) (N0 : St → Prop) (hR : ∀ r : ρ6, t = (.inr r) → ∀ u m, Ans ((AV.tup [(intA r.1), (intA r.2)])) u m → R u m) (hN0 : ∀ y : Int × Int, t = (.inl y) → ∀ s' : St, Weak KK 130 0 s' (h6_0 c4 c4 y.1 (lstA TSector.E a0) c50 y.2 k0_0 k0_1 k0_2 k0_3 k0_4 k0_5 []) → N0 s') : S6_0 n c4 a0 c50 k0_0 k0_1 k0_2 k0_3 k0_4 k0_5 v8 v51 = some t → B6_0 c4 c4 v8 (lstA TSector.E a0) c50 v51 k0_0 k0_1 k0_2 k0_3 k0_4 k0_5 [] R N0 := by
  unfold S6_0 B6_0
  refine cond_b (fun _ => ?_) (fun _ => ?_)
  · refine bind_b fun x146 h146 => ?_
    refine imp (opP_of (show _ = some ((AV.ept [(strA x146.Name), (lstA TVolume.E x146.Room)] 0), []) from (idx_lst (E := TSector.E) rfl h146))) ?_
    refine imp (opP_of (show _ = some ((AV.agg [(strA x146.Name), (lstA TVolume.E x146.Room)]), []) from rfl)) ?_
    refine imp exA2_b ?_
    refine imp exStr_b ?_
    refine imp (chk_of rfl) ?_
    refine imp (opP_of (show _ = some ((intA (x146.Room.length : Int)), []) from rfl)) ?_
    refine imp ex_i64_b ?_
    exact fun hg => L6_0_0_ok n c4 a0 c50 v51 x146.Room (x146.Room.length : Int) k0_0 k0_1 k0_2 k0_3 k0_4 k0_5 R N0 hR hN0 n _ hg (weak_mem [(0, 0)] rfl rfl rfl (okW_cons (.inl (leV_refl _)) (okW_cons (.inl (leV_refl _)) (okW_cons (.inl (leV_refl _)) (okW_cons (.inl (leV_refl _)) (okW_cons (ent_lst (E := TSector.E) _ false) (okW_cons (.inl (leV_refl _)) (okW_cons (.inl (leV_refl _)) (okW_cons (ent_lst (E := TVolume.E) _ false) (okW_cons (.inl (leV_refl _)) (okW_cons (.inl (leV_refl _)) okW_nil)))))))))) (okB_cons (okB_cells (cs := [(intA k0_0), (intA k0_1), (intA k0_2), (intA k0_3), (intA k0_4), (intA k0_5)]) (ty := 26) rfl (show mget _ 0 = _ from (by first | rfl | (simp (disch := first | decide | assumption) only [mpushs_nil, mpushs_cons, mget_hd, mget_tl, mget_appW_o, mget_appW_n, mget_appW_e])))) okB_nil'))
  · exact fun hg => retN rfl (hR _ (Option.some.inj hg).symm) (fzL_cons (fz_sc _ _) (fzL_cons (fz_sc _ _) fzL_nil))
theorem L6_0_ok (n : Nat) (c4 : Int) (a0 : List TSector) (c50 : Int) (k0_0 : Int) (k0_1 : Int) (k0_2 : Int) (k0_3 : Int) (k0_4 : Int) (k0_5 : Int) {t : ρ6} (R : AV → Mem → Prop) (hR : ∀ r : ρ6, t = r → ∀ u m, Ans ((AV.tup [(intA r.1), (intA r.2)])) u m → R u m) (k : Nat) (x : Int × Int) (hx : iterO (fun y : Int × Int => S6_0 n c4 a0 c50 k0_0 k0_1 k0_2 k0_3 k0_4 k0_5 y.1 y.2) k x = some t) {s : St} (hw : Weak KK 130 0 s (h6_0 c4 c4 x.1 (lstA TSector.E a0) c50 x.2 k0_0 k0_1 k0_2 k0_3 k0_4 k0_5 [])) : Tri Try.prog KK 130 0 (.loop c6_0) s (q6_0 R ) :=
  L6_0 R  (σ := Nat × (Int × Int)) (fun z => iterO (fun y : Int × Int => S6_0 n c4 a0 c50 k0_0 k0_1 k0_2 k0_3 k0_4 k0_5 y.1 y.2) z.1 z.2 = some t) (fun z => c4) (fun z => c4) (fun z => z.2.1) (fun z => (lstA TSector.E a0)) (fun z => c50) (fun z => z.2.2) (fun z => k0_0) (fun z => k0_1) (fun z => k0_2) (fun z => k0_3) (fun z => k0_4) (fun z => k0_5) (fun z => []) (fun z => z.1) (by
    rintro ⟨k, y⟩ h
    cases k with
    | zero => exact (iterO_zero h).elim
    | succ k =>
      obtain ⟨u, h1, h2, h3⟩ := iterO_elim h
      exact B6_0_ok n c4 a0 c50 k0_0 k0_1 k0_2 k0_3 k0_4 k0_5 y.1 y.2 R  _ (fun r e => hR r (h3 _ e).symm)  (fun y' e s' hw => ⟨(k, y'), h2 _ e, Nat.lt_succ_self k, hw⟩) h1) (k, x) hx hw
theorem g6_ok (n : Nat) (a0 : List TSector) (a1 : TSectorBox) {t : ρ6} (R : AV → Mem → Prop) (hR : ∀ r : ρ6, t = r → ∀ u m, Ans ((AV.tup [(intA r.1), (intA r.2)])) u m → R u m) : g6 n a0 a1 = some t → F6 (lstA TSector.E a0) a1.From_X a1.From_Y a1.To_X a1.To_Y a1.Low a1.High R := by
  unfold g6 F6
  refine bind_b fun x142 h142 => ?_
  refine imp (callQ_says (sg14 h142)) ?_
  refine imp ex_i64_b ?_
  refine cond_b (fun _ => ?_) (fun _ => ?_)
  · exact fun hg => retN rfl (hR _ (Option.some.inj hg).symm) (fzL_cons (fz_sc _ _) (fzL_cons (fz_sc _ _) fzL_nil))
  · refine bind_b fun x145 h145 => ?_
    refine imp (callQ_says (sg17 h145)) ?_
    refine imp ex_i64_b ?_
    refine cond_b (fun _ => ?_) (fun _ => ?_)
    · exact fun hg => retN rfl (hR _ (Option.some.inj hg).symm) (fzL_cons (fz_sc _ _) (fzL_cons (fz_sc _ _) fzL_nil))
    · refine imp (opP_of (show _ = some ((intA (a0.length : Int)), []) from rfl)) ?_
      refine imp ex_i64_b ?_
      exact fun hg => L6_0_ok n (0) a0 (a0.length : Int) a1.From_X a1.From_Y a1.To_X a1.To_Y a1.Low a1.High R  hR n _ hg (weak_mem [(0, 0)] rfl rfl rfl (okW_cons (.inl (leV_refl _)) (okW_cons (.inl (leV_refl _)) (okW_cons (.inl (leV_refl _)) (okW_cons (.inl (leV_refl _)) (okW_cons (ent_lst (E := TSector.E) _ false) (okW_cons (.inl (leV_refl _)) (okW_cons (.inl (leV_refl _)) okW_nil))))))) (okB_cons (okB_cells (cs := [(intA a1.From_X), (intA a1.From_Y), (intA a1.To_X), (intA a1.To_Y), (intA a1.Low), (intA a1.High)]) (ty := 26) rfl (show mget _ 0 = _ from (by first | rfl | (simp (disch := first | decide | assumption) only [mpushs_nil, mpushs_cons, mget_hd, mget_tl, mget_appW_o, mget_appW_n, mget_appW_e])))) okB_nil'))
theorem sg6 {n : Nat} {a0 : List TSector} {a1 : TSectorBox} {t : ρ6} (h : g6 n a0 a1 = some t) : Says Try.prog KK.gl 6 [(lstA TSector.E a0), (AV.agg [(intA a1.From_X), (intA a1.From_Y), (intA a1.To_X), (intA a1.To_Y), (intA a1.Low), (intA a1.High)])] ((AV.tup [(intA t.1), (intA t.2)])) :=
  says_of_own (by first | rfl | simp [cleans, clean, encs_clean, En.cln]) (by first | rfl | simp [cleans, clean, encs_clean, En.cln]) (F6_own (lstA TSector.E a0) a1.From_X a1.From_Y a1.To_X a1.To_Y a1.Low a1.High _ (g6_ok n a0 a1 (Ans ((AV.tup [(intA t.1), (intA t.2)]))) (fun r e u m h => by rw [e]; exact h) h))
/- skyway/skywaykeep3.pick -/
theorem g7_ok (n : Nat) (a0 : Int) (a1 : Int) {t : ρ7} (R : AV → Mem → Prop) (hR : ∀ r : ρ7, t = r → ∀ u m, Ans ((intA r)) u m → R u m) : g7 n a0 a1 = some t → F7 a0 a1 R := by
  unfold g7 F7
  refine imp (opP_of (show _ = some ((AV.sc (.int .u64 (IntKind.wrap .u64 a0))), []) from (by kernel_rfl))) ?_
  refine imp ex_u64_b ?_
  refine imp (opP_of (show _ = some ((AV.sc (.int .u64 (IntKind.wrap .u64 a1))), []) from (by kernel_rfl))) ?_
  refine imp ex_u64_b ?_
  refine bind_b fun x153 h153 => ?_
  refine imp (opP_of (show _ = some ((AV.sc (.int .u64 x153)), []) from (opA_rem h153))) ?_
  refine imp ex_u64_b ?_
  refine imp (opP_of (show _ = some ((intA (IntKind.wrap .i64 x153)), []) from (by kernel_rfl))) ?_
  refine imp ex_i64_b ?_
  exact fun hg => ret1 (hR _ (Option.some.inj hg).symm) (fz_sc _ _)
theorem sg7 {n : Nat} {a0 : Int} {a1 : Int} {t : ρ7} (h : g7 n a0 a1 = some t) : Says Try.prog KK.gl 7 [(intA a0), (intA a1)] ((intA t)) :=
  says_of_own (by first | rfl | simp [cleans, clean, encs_clean, En.cln]) (by first | rfl | simp [cleans, clean, encs_clean, En.cln]) (F7_own a0 a1 _ (g7_ok n a0 a1 (Ans ((intA t))) (fun r e u m h => by rw [e]; exact h) h))
end Go.Proofs.Ytfncpfnanmoapaa
