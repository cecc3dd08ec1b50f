/- Plain functional programs out of the program's functions, with proofs that the functions compute them; printed by wip/Ext.lean.txt. -/
import Derived.Test.YtfhcciepaangiaaX1E2
set_option linter.unusedVariables false
set_option linter.unusedSimpArgs false
set_option maxRecDepth 100000
namespace Go.Proofs.Ytfhcciepaangiaa
/- slices.IndexFunc[[]skyway/api.FlowCap,skyway/api.FlowCap] -/
theorem B40_0_x1_ok (n : Nat) (a0 : List TFlowCap) (a1_0_0 : Int) (c4 : Int) (c7 : Int) (v8 : Int) {t : (Int) ⊕ ρ40} (R : AV → Mem → Prop) (N0 : St → Prop) (hR : ∀ r : ρ40, t = (.inr r) → ∀ u m, Ans ((intA r)) u m → R u m) (hN0 : ∀ y : Int, t = (.inl y) → ∀ s' : St, Weak KK 19 0 s' (h40_0 (lstA TFlowCap.E a0) (AV.fn 47 [(AV.ept [(intA a1_0_0)] 0)]) c4 c7 y []) → N0 s') : S40_0_x1 n a0 a1_0_0 c4 c7 v8 = some t → B40_0 (lstA TFlowCap.E a0) (AV.fn 47 [(AV.ept [(intA a1_0_0)] 0)]) c4 c7 v8 [] R N0 := by
  unfold S40_0_x1 B40_0
  refine cond_b (fun _ => ?_) (fun _ => ?_)
  · refine bind_b fun x133 h133 => ?_
    refine imp (opP_of (show _ = some ((AV.ept [(intA x133.Span_From), (intA x133.Span_To), (intA x133.Many)] 0), []) from (idx_lst (E := TFlowCap.E) rfl h133))) ?_
    refine imp (opP_of (show _ = some ((AV.agg [(intA x133.Span_From), (intA x133.Span_To), (intA x133.Many)]), []) from rfl)) ?_
    refine imp exA3_b ?_
    refine imp ex_i64_b ?_
    refine imp ex_i64_b ?_
    refine imp ex_i64_b ?_
    refine bind_b fun x134 h134 => ?_
    refine imp fnArgs_b ?_
    refine imp (cond_ff rfl) ?_
    refine imp (callW_says (sg47 h134)) ?_
    refine imp exB_b ?_
    refine cond_b (fun _ => ?_) (fun _ => ?_)
    · exact fun hg => ret1 (hR _ (Option.some.inj hg).symm) (fz_sc _ _)
    · exact fun hg => hN0 _ (Option.some.inj hg).symm _ (weak_mem [] rfl rfl rfl (okW_cons (ent_lst (E := TFlowCap.E) _ false) (okW_cons (ent_clean (leV_refl _) (by simp [clean, cleans, encs_clean])) (okW_cons (.inl (leV_refl _)) (okW_cons (.inl (leV_refl _)) (okW_cons (.inl (leV_refl _)) okW_nil))))) okB_nil')
  · exact fun hg => ret1 (hR _ (Option.some.inj hg).symm) (fz_sc _ _)
theorem L40_0_x1_ok (n : Nat) (a0 : List TFlowCap) (a1_0_0 : Int) (c4 : Int) (c7 : Int) {t : ρ40} (R : AV → Mem → Prop) (hR : ∀ r : ρ40, t = r → ∀ u m, Ans ((intA r)) u m → R u m) (k : Nat) (x : Int) (hx : iterO (fun y : Int => S40_0_x1 n a0 a1_0_0 c4 c7 y) k x = some t) {s : St} (hw : Weak KK 19 0 s (h40_0 (lstA TFlowCap.E a0) (AV.fn 47 [(AV.ept [(intA a1_0_0)] 0)]) c4 c7 x [])) : Tri Try.prog KK 19 0 (.loop c40_0) s (q40_0 R ) :=
  L40_0 R  (σ := Nat × (Int)) (fun z => iterO (fun y : Int => S40_0_x1 n a0 a1_0_0 c4 c7 y) z.1 z.2 = some t) (fun z => (lstA TFlowCap.E a0)) (fun z => (AV.fn 47 [(AV.ept [(intA a1_0_0)] 0)])) (fun z => c4) (fun z => c7) (fun z => z.2) (fun z => []) (fun z => z.1) (by
    rintro ⟨k, y⟩ h
    cases k with
    | zero => exact (iterO_zero h).elim
    | succ k =>
      obtain ⟨u, h1, h2, h3⟩ := iterO_elim h
      exact B40_0_x1_ok n a0 a1_0_0 c4 c7 y R  _ (fun r e => hR r (h3 _ e).symm)  (fun y' e s' hw => ⟨(k, y'), h2 _ e, Nat.lt_succ_self k, hw⟩) h1) (k, x) hx hw
theorem g40_1_ok (n : Nat) (a0 : List TFlowCap) (a1_0_0 : Int) {t : ρ40} (R : AV → Mem → Prop) (hR : ∀ r : ρ40, t = r → ∀ u m, Ans ((intA r)) u m → R u m) : g40_1 n a0 a1_0_0 = some t → F40 (lstA TFlowCap.E a0) (AV.fn 47 [(AV.ept [(intA a1_0_0)] 0)]) R := by
  unfold g40_1 F40
  refine imp (opP_of (show _ = some ((intA (a0.length : Int)), []) from rfl)) ?_
  refine imp ex_i64_b ?_
  exact fun hg => L40_0_x1_ok n a0 a1_0_0 (0) (a0.length : Int) R  hR n _ hg (weak_mem [] rfl rfl rfl (okW_cons (ent_lst (E := TFlowCap.E) _ false) (okW_cons (ent_clean (leV_refl _) (by simp [clean, cleans, encs_clean])) (okW_cons (.inl (leV_refl _)) (okW_cons (.inl (leV_refl _)) (okW_cons (.inl (leV_refl _)) okW_nil))))) okB_nil')
theorem sg40_1 {n : Nat} {a0 : List TFlowCap} {a1_0_0 : Int} {t : ρ40} (h : g40_1 n a0 a1_0_0 = some t) : Says Try.prog KK.gl 40 [(lstA TFlowCap.E a0), (AV.fn 47 [(AV.ept [(intA a1_0_0)] 0)])] ((intA t)) :=
  says_of_own (by first | rfl | simp [cleans, clean, encs_clean, En.cln]) (by first | rfl | simp [cleans, clean, encs_clean, En.cln]) (F40_own (lstA TFlowCap.E a0) (AV.fn 47 [(AV.ept [(intA a1_0_0)] 0)]) _ (g40_1_ok n a0 a1_0_0 (Ans ((intA t))) (fun r e u m h => by rw [e]; exact h) h))
/- skyway/flow.index -/
theorem g33_ok (n : Nat) (a0 : List TFlowCap) (a1 : Int) {t : ρ33} (R : AV → Mem → Prop) (hR : ∀ r : ρ33, t = r → ∀ u m, Ans ((intA r)) u m → R u m) : g33 n a0 a1 = some t → F33 (lstA TFlowCap.E a0) a1 R := by
  unfold g33 F33
  refine bind_b fun x135 h135 => ?_
  refine imp (callQ_pure (pure_snapN (snL_cons (sn_lst (E := TFlowCap.E) _ _ false) (snL_cons (sn_fn _ _ (snL_cons (sn_ptr _ (ty := 3) (us := [(intA a1)]) (by first | rfl | (simp (disch := decide) only [mpushs_nil, mpushs_cons, mget_hd, mget_tl, mget_appW_o, mget_appW_n])) (snL_cons (sn_sc _ _) snL_nil)) snL_nil)) snL_nil)) (sg40_1 h135) rfl)) ?_
  refine imp ex_i64_b ?_
  exact fun hg => ret1 (hR _ (Option.some.inj hg).symm) (fz_sc _ _)
theorem sg33 {n : Nat} {a0 : List TFlowCap} {a1 : Int} {t : ρ33} (h : g33 n a0 a1 = some t) : Says Try.prog KK.gl 33 [(lstA TFlowCap.E a0), (intA a1)] ((intA t)) :=
  says_of_own (by first | rfl | simp [cleans, clean, encs_clean, En.cln]) (by first | rfl | simp [cleans, clean, encs_clean, En.cln]) (F33_own (lstA TFlowCap.E a0) a1 _ (g33_ok n a0 a1 (Ans ((intA t))) (fun r e u m h => by rw [e]; exact h) h))
/- skyway/flow.Demand -/
theorem B16_0_ok (n : Nat) (a0 : List TFlowCap) (c5 : Int) (a1 : List Int) (c25 : Int) (v9 : Int) (v26 : Int) (L90000 : List Int) {t : (Int × Int × List Int) ⊕ ρ16} (R : AV → Mem → Prop) (N0 : St → Prop) (hR : ∀ r : ρ16, t = (.inr r) → ∀ u m, Ans ((AV.tup [(lstA intE r.1), (intA r.2.1), (intA r.2.2)])) u m → R u m) (hN0 : ∀ y : Int × Int × List Int, t = (.inl y) → ∀ s' : St, Weak KK 52 0 s' (h16_0 (lstA TFlowCap.E a0) AV.nils c5 c5 (blkV intE 90000 y.2.2) y.1 (lstA intE a1) c25 y.2.1 [(90000, some ⟨encs intE y.2.2, 3⟩)]) → N0 s') : S16_0 n a0 c5 a1 c25 v9 v26 L90000 = some t → B16_0 (lstA TFlowCap.E a0) AV.nils c5 c5 (blkV intE 90000 L90000) v9 (lstA intE a1) c25 v26 [(90000, some ⟨encs intE L90000, 3⟩)] R N0 := by
  unfold S16_0 B16_0
  refine cond_b (fun _ => ?_) (fun _ => ?_)
  · refine bind_b fun x132 h132 => ?_
    refine imp (opP_of (show _ = some ((AV.ept [(intA x132)] 0), []) from (idx_lst (E := intE) rfl h132))) ?_
    refine imp (opP_of (show _ = some ((intA x132), []) from rfl)) ?_
    refine imp ex_i64_b ?_
    refine cond_b (fun _ => ?_) (fun _ => ?_)
    · exact fun hg => retN rfl (hR _ (Option.some.inj hg).symm) (fzL_cons (fz_nils (E := intE) _) (fzL_cons (fz_sc _ _) (fzL_cons (fz_sc _ _) fzL_nil)))
    · refine cond_b (fun _ => ?_) (fun _ => ?_)
      · exact fun hg => retN rfl (hR _ (Option.some.inj hg).symm) (fzL_cons (fz_nils (E := intE) _) (fzL_cons (fz_sc _ _) (fzL_cons (fz_sc _ _) fzL_nil)))
      · refine bind_b fun x136 h136 => ?_
        refine imp (callQ_says (sg33 h136)) ?_
        refine imp ex_i64_b ?_
        refine cond_b (fun _ => ?_) (fun _ => ?_)
        · refine bind_b fun x137 h137 => ?_
          refine imp (opP_of (show _ = some ((AV.ptr 90000 (((x136 : Int).toNat) * 1 + 0)), []) from (idx_blk (E := intE) rfl h137))) ?_
          refine imp (opP_of (show _ = some ((intA x137), []) from (ldS_blk (E := intE) (l := L90000) (ty := 3) (o := 0) (by first | rfl | (simp (disch := decide) only [mpushs_nil, mpushs_cons, mget_hd, mget_tl, mget_appW_o, mget_appW_n])) (getI_some h137).2 rfl (by decide) rfl))) ?_
          refine imp ex_i64_b ?_
          refine bind_b fun x138 h138 => ?_
          refine imp (opP_of (show _ = some ((AV.ptr 90000 (((x136 : Int).toNat) * 1 + 0)), []) from (idx_blk (E := intE) rfl h138))) ?_
          refine imp (storeW_el (E := intE) (l := L90000) (i := ((x136 : Int).toNat)) (o := 0) (y := (IntKind.wrap .i64 (x137 + (1)))) (ty := 3) (by kernel_rfl) (by kernel_rfl) rfl (by first | rfl | (simp (disch := decide) only [mpushs_nil, mpushs_cons, mget_hd, mget_tl, mget_appW_o, mget_appW_n])) (getI_some h138).2 rfl (by decide) rfl) ?_
          exact fun hg => hN0 _ (Option.some.inj hg).symm _ (weak_mem [(90000, 90000)] rfl rfl rfl (okW_cons (ent_lst (E := TFlowCap.E) _ false) (okW_cons (.inl (leV_refl _)) (okW_cons (.inl (leV_refl _)) (okW_cons (.inl (leV_refl _)) (okW_cons (ent_blk (E := intE) (id := 90000) (l' := (L90000.set ((x136 : Int).toNat) (IntKind.wrap .i64 (x137 + (1))))) (by first | rfl | omega | (simp; done) | (simp; omega)) rfl) (okW_cons (.inl (leV_refl _)) (okW_cons (ent_lst (E := intE) _ false) (okW_cons (.inl (leV_refl _)) (okW_cons (.inl (leV_refl _)) okW_nil))))))))) (okB_cons (okB_cells (cs := encs intE (L90000.set ((x136 : Int).toNat) (IntKind.wrap .i64 (x137 + (1))))) (ty := 3) (encs_clean _) (show mget _ 90000 = _ from (by first | rfl | (simp (disch := decide) only [mpushs_nil, mpushs_cons, mget_hd, mget_tl, mget_appW_o, mget_appW_n])))) okB_nil'))
        · exact fun hg => hN0 _ (Option.some.inj hg).symm _ (weak_mem [(90000, 90000)] rfl rfl rfl (okW_cons (ent_lst (E := TFlowCap.E) _ false) (okW_cons (.inl (leV_refl _)) (okW_cons (.inl (leV_refl _)) (okW_cons (.inl (leV_refl _)) (okW_cons (ent_blk (E := intE) (id := 90000) (l' := L90000) rfl rfl) (okW_cons (.inl (leV_refl _)) (okW_cons (ent_lst (E := intE) _ false) (okW_cons (.inl (leV_refl _)) (okW_cons (.inl (leV_refl _)) okW_nil))))))))) (okB_cons (okB_cells (cs := encs intE L90000) (ty := 3) (encs_clean _) (show mget _ 90000 = _ from (by first | rfl | (simp (disch := decide) only [mpushs_nil, mpushs_cons, mget_hd, mget_tl, mget_appW_o, mget_appW_n])))) okB_nil'))
  · exact fun hg => retN rfl (hR _ (Option.some.inj hg).symm) (fzL_cons (fz_blk (E := intE) (ty := 3) (l' := L90000) _ rfl (by first | rfl | (simp (disch := decide) only [mpushs_nil, mpushs_cons, mget_hd, mget_tl, mget_appW_o, mget_appW_n]))) (fzL_cons (fz_sc _ _) (fzL_cons (fz_sc _ _) fzL_nil)))
theorem L16_0_ok (n : Nat) (a0 : List TFlowCap) (c5 : Int) (a1 : List Int) (c25 : Int) {t : ρ16} (R : AV → Mem → Prop) (hR : ∀ r : ρ16, t = r → ∀ u m, Ans ((AV.tup [(lstA intE r.1), (intA r.2.1), (intA r.2.2)])) u m → R u m) (k : Nat) (x : Int × Int × List Int) (hx : iterO (fun y : Int × Int × List Int => S16_0 n a0 c5 a1 c25 y.1 y.2.1 y.2.2) k x = some t) {s : St} (hw : Weak KK 52 0 s (h16_0 (lstA TFlowCap.E a0) AV.nils c5 c5 (blkV intE 90000 x.2.2) x.1 (lstA intE a1) c25 x.2.1 [(90000, some ⟨encs intE x.2.2, 3⟩)])) : Tri Try.prog KK 52 0 (.loop c16_0) s (q16_0 R ) :=
  L16_0 R  (σ := Nat × (Int × Int × List Int)) (fun z => iterO (fun y : Int × Int × List Int => S16_0 n a0 c5 a1 c25 y.1 y.2.1 y.2.2) z.1 z.2 = some t) (fun z => (lstA TFlowCap.E a0)) (fun z => AV.nils) (fun z => c5) (fun z => c5) (fun z => (blkV intE 90000 z.2.2.2)) (fun z => z.2.1) (fun z => (lstA intE a1)) (fun z => c25) (fun z => z.2.2.1) (fun z => [(90000, some ⟨encs intE z.2.2.2, 3⟩)]) (fun z => z.1) (by
    rintro ⟨k, y⟩ h
    cases k with
    | zero => exact (iterO_zero h).elim
    | succ k =>
      obtain ⟨u, h1, h2, h3⟩ := iterO_elim h
      exact B16_0_ok n a0 c5 a1 c25 y.1 y.2.1 y.2.2 R  _ (fun r e => hR r (h3 _ e).symm)  (fun y' e s' hw => ⟨(k, y'), h2 _ e, Nat.lt_succ_self k, hw⟩) h1) (k, x) hx hw
theorem g16_ok (n : Nat) (a0 : List TFlowCap) (a1 : List Int) {t : ρ16} (R : AV → Mem → Prop) (hR : ∀ r : ρ16, t = r → ∀ u m, Ans ((AV.tup [(lstA intE r.1), (intA r.2.1), (intA r.2.2)])) u m → R u m) : g16 n a0 a1 = some t → F16 (lstA TFlowCap.E a0) (lstA intE a1) R := by
  unfold g16 F16
  refine bind_b fun x130 h130 => ?_
  refine imp (callQ_says (sg10 h130)) ?_
  refine imp ex_i64_b ?_
  refine cond_b (fun _ => ?_) (fun _ => ?_)
  · exact fun hg => retN rfl (hR _ (Option.some.inj hg).symm) (fzL_cons (fz_nils (E := intE) _) (fzL_cons (fz_sc _ _) (fzL_cons (fz_sc _ _) fzL_nil)))
  · refine imp (opP_of (show _ = some ((intA (a1.length : Int)), []) from rfl)) ?_
    refine imp ex_i64_b ?_
    refine cond_b (fun _ => ?_) (fun _ => ?_)
    · exact fun hg => retN rfl (hR _ (Option.some.inj hg).symm) (fzL_cons (fz_nils (E := intE) _) (fzL_cons (fz_sc _ _) (fzL_cons (fz_sc _ _) fzL_nil)))
    · refine imp (opP_of (show _ = some ((intA (a0.length : Int)), []) from rfl)) ?_
      refine imp ex_i64_b ?_
      refine bind_b fun x131 h131 => ?_
      refine imp (opN_of (show _ = some ((blkV intE 76 (List.replicate x131 (0))), [(76, some ⟨encs intE (List.replicate x131 (0)), 3⟩)]) from (mks_ok (E := intE) (z := (0)) rfl rfl h131))) ?_
      refine imp (opP_of (show _ = some ((intA (a1.length : Int)), []) from rfl)) ?_
      refine imp ex_i64_b ?_
      exact fun hg => L16_0_ok n a0 (0) a1 (a1.length : Int) R  hR n _ hg (weak_mem [(90000, 76)] rfl rfl rfl (okW_cons (ent_lst (E := TFlowCap.E) _ false) (okW_cons (.inl (leV_refl _)) (okW_cons (.inl (leV_refl _)) (okW_cons (.inl (leV_refl _)) (okW_cons (ent_blk (E := intE) (id := 76) (l' := (List.replicate x131 (0))) rfl rfl) (okW_cons (.inl (leV_refl _)) (okW_cons (ent_lst (E := intE) _ false) (okW_cons (.inl (leV_refl _)) (okW_cons (.inl (leV_refl _)) okW_nil))))))))) (okB_cons (okB_cells (cs := encs intE (List.replicate x131 (0))) (ty := 3) (encs_clean _) (show mget _ 76 = _ from (by first | rfl | (simp (disch := decide) only [mpushs_nil, mpushs_cons, mget_hd, mget_tl, mget_appW_o, mget_appW_n])))) okB_nil'))
theorem sg16 {n : Nat} {a0 : List TFlowCap} {a1 : List Int} {t : ρ16} (h : g16 n a0 a1 = some t) : Says Try.prog KK.gl 16 [(lstA TFlowCap.E a0), (lstA intE a1)] ((AV.tup [(lstA intE t.1), (intA t.2.1), (intA t.2.2)])) :=
  says_of_own (by first | rfl | simp [cleans, clean, encs_clean, En.cln]) (by first | rfl | simp [cleans, clean, encs_clean, En.cln]) (F16_own (lstA TFlowCap.E a0) (lstA intE a1) _ (g16_ok n a0 a1 (Ans ((AV.tup [(lstA intE t.1), (intA t.2.1), (intA t.2.2)]))) (fun r e u m h => by rw [e]; exact h) h))
/- skyway/flow.Demand -/
theorem B16_0_okM (n : Nat) (a0 : List TFlowCap) (c5 : Int) (a1 : List Int) (c25 : Int) (v9 : Int) (v26 : Int) (L90000 : List Int) {t : (Int × Int × List Int) ⊕ ρ16} (R : AV → Mem → Prop) (N0 : St → Prop) (hR : ∀ r : ρ16, t = (.inr r) → ∀ u m, MadeT intE 3 r.1 [Value.int .i64 r.2.1, Value.int .i64 r.2.2] u m → R u m) (hN0 : ∀ y : Int × Int × List Int, t = (.inl y) → ∀ s' : St, Weak KK 52 0 s' (h16_0 (lstA TFlowCap.E a0) AV.nils c5 c5 (blkV intE 90000 y.2.2) y.1 (lstA intE a1) c25 y.2.1 [(90000, some ⟨encs intE y.2.2, 3⟩)]) → N0 s') : S16_0 n a0 c5 a1 c25 v9 v26 L90000 = some t → B16_0 (lstA TFlowCap.E a0) AV.nils c5 c5 (blkV intE 90000 L90000) v9 (lstA intE a1) c25 v26 [(90000, some ⟨encs intE L90000, 3⟩)] R N0 := by
  unfold S16_0 B16_0
  refine cond_b (fun _ => ?_) (fun _ => ?_)
  · refine bind_b fun x142 h142 => ?_
    refine imp (opP_of (show _ = some ((AV.ept [(intA x142)] 0), []) from (idx_lst (E := intE) rfl h142))) ?_
    refine imp (opP_of (show _ = some ((intA x142), []) from rfl)) ?_
    refine imp ex_i64_b ?_
    refine cond_b (fun _ => ?_) (fun _ => ?_)
    · exact fun hg => hR _ (Option.some.inj hg).symm _ _ ⟨_, rfl, made_nils_pf⟩
    · refine cond_b (fun _ => ?_) (fun _ => ?_)
      · exact fun hg => hR _ (Option.some.inj hg).symm _ _ ⟨_, rfl, made_nils_pf⟩
      · refine bind_b fun x143 h143 => ?_
        refine imp (callQ_says (sg33 h143)) ?_
        refine imp ex_i64_b ?_
        refine cond_b (fun _ => ?_) (fun _ => ?_)
        · refine bind_b fun x144 h144 => ?_
          refine imp (opP_of (show _ = some ((AV.ptr 90000 (((x143 : Int).toNat) * 1 + 0)), []) from (idx_blk (E := intE) rfl h144))) ?_
          refine imp (opP_of (show _ = some ((intA x144), []) from (ldS_blk (E := intE) (l := L90000) (ty := 3) (o := 0) (by first | rfl | (simp (disch := decide) only [mpushs_nil, mpushs_cons, mget_hd, mget_tl, mget_appW_o, mget_appW_n])) (getI_some h144).2 rfl (by decide) rfl))) ?_
          refine imp ex_i64_b ?_
          refine bind_b fun x145 h145 => ?_
          refine imp (opP_of (show _ = some ((AV.ptr 90000 (((x143 : Int).toNat) * 1 + 0)), []) from (idx_blk (E := intE) rfl h145))) ?_
          refine imp (storeW_el (E := intE) (l := L90000) (i := ((x143 : Int).toNat)) (o := 0) (y := (IntKind.wrap .i64 (x144 + (1)))) (ty := 3) (by kernel_rfl) (by kernel_rfl) rfl (by first | rfl | (simp (disch := decide) only [mpushs_nil, mpushs_cons, mget_hd, mget_tl, mget_appW_o, mget_appW_n])) (getI_some h145).2 rfl (by decide) rfl) ?_
          exact fun hg => hN0 _ (Option.some.inj hg).symm _ (weak_mem [(90000, 90000)] rfl rfl rfl (okW_cons (ent_lst (E := TFlowCap.E) _ false) (okW_cons (.inl (leV_refl _)) (okW_cons (.inl (leV_refl _)) (okW_cons (.inl (leV_refl _)) (okW_cons (ent_blk (E := intE) (id := 90000) (l' := (L90000.set ((x143 : Int).toNat) (IntKind.wrap .i64 (x144 + (1))))) (by first | rfl | omega | (simp; done) | (simp; omega)) rfl) (okW_cons (.inl (leV_refl _)) (okW_cons (ent_lst (E := intE) _ false) (okW_cons (.inl (leV_refl _)) (okW_cons (.inl (leV_refl _)) okW_nil))))))))) (okB_cons (okB_cells (cs := encs intE (L90000.set ((x143 : Int).toNat) (IntKind.wrap .i64 (x144 + (1))))) (ty := 3) (encs_clean _) (show mget _ 90000 = _ from (by first | rfl | (simp (disch := decide) only [mpushs_nil, mpushs_cons, mget_hd, mget_tl, mget_appW_o, mget_appW_n])))) okB_nil'))
        · exact fun hg => hN0 _ (Option.some.inj hg).symm _ (weak_mem [(90000, 90000)] rfl rfl rfl (okW_cons (ent_lst (E := TFlowCap.E) _ false) (okW_cons (.inl (leV_refl _)) (okW_cons (.inl (leV_refl _)) (okW_cons (.inl (leV_refl _)) (okW_cons (ent_blk (E := intE) (id := 90000) (l' := L90000) rfl rfl) (okW_cons (.inl (leV_refl _)) (okW_cons (ent_lst (E := intE) _ false) (okW_cons (.inl (leV_refl _)) (okW_cons (.inl (leV_refl _)) okW_nil))))))))) (okB_cons (okB_cells (cs := encs intE L90000) (ty := 3) (encs_clean _) (show mget _ 90000 = _ from (by first | rfl | (simp (disch := decide) only [mpushs_nil, mpushs_cons, mget_hd, mget_tl, mget_appW_o, mget_appW_n])))) okB_nil'))
  · exact fun hg => hR _ (Option.some.inj hg).symm _ _ ⟨_, rfl, (made_blk_pf (E := intE) (ty := 3) (l := L90000) rfl (by first | rfl | (simp (disch := decide) only [mpushs_nil, mpushs_cons, mget_hd, mget_tl, mget_appW_o, mget_appW_n])))⟩
theorem L16_0_okM (n : Nat) (a0 : List TFlowCap) (c5 : Int) (a1 : List Int) (c25 : Int) {t : ρ16} (R : AV → Mem → Prop) (hR : ∀ r : ρ16, t = r → ∀ u m, MadeT intE 3 r.1 [Value.int .i64 r.2.1, Value.int .i64 r.2.2] u m → R u m) (k : Nat) (x : Int × Int × List Int) (hx : iterO (fun y : Int × Int × List Int => S16_0 n a0 c5 a1 c25 y.1 y.2.1 y.2.2) k x = some t) {s : St} (hw : Weak KK 52 0 s (h16_0 (lstA TFlowCap.E a0) AV.nils c5 c5 (blkV intE 90000 x.2.2) x.1 (lstA intE a1) c25 x.2.1 [(90000, some ⟨encs intE x.2.2, 3⟩)])) : Tri Try.prog KK 52 0 (.loop c16_0) s (q16_0 R ) :=
  L16_0 R  (σ := Nat × (Int × Int × List Int)) (fun z => iterO (fun y : Int × Int × List Int => S16_0 n a0 c5 a1 c25 y.1 y.2.1 y.2.2) z.1 z.2 = some t) (fun z => (lstA TFlowCap.E a0)) (fun z => AV.nils) (fun z => c5) (fun z => c5) (fun z => (blkV intE 90000 z.2.2.2)) (fun z => z.2.1) (fun z => (lstA intE a1)) (fun z => c25) (fun z => z.2.2.1) (fun z => [(90000, some ⟨encs intE z.2.2.2, 3⟩)]) (fun z => z.1) (by
    rintro ⟨k, y⟩ h
    cases k with
    | zero => exact (iterO_zero h).elim
    | succ k =>
      obtain ⟨u, h1, h2, h3⟩ := iterO_elim h
      exact B16_0_okM n a0 c5 a1 c25 y.1 y.2.1 y.2.2 R  _ (fun r e => hR r (h3 _ e).symm)  (fun y' e s' hw => ⟨(k, y'), h2 _ e, Nat.lt_succ_self k, hw⟩) h1) (k, x) hx hw
theorem g16_okM (n : Nat) (a0 : List TFlowCap) (a1 : List Int) {t : ρ16} (R : AV → Mem → Prop) (hR : ∀ r : ρ16, t = r → ∀ u m, MadeT intE 3 r.1 [Value.int .i64 r.2.1, Value.int .i64 r.2.2] u m → R u m) : g16 n a0 a1 = some t → F16 (lstA TFlowCap.E a0) (lstA intE a1) R := by
  unfold g16 F16
  refine bind_b fun x140 h140 => ?_
  refine imp (callQ_says (sg10 h140)) ?_
  refine imp ex_i64_b ?_
  refine cond_b (fun _ => ?_) (fun _ => ?_)
  · exact fun hg => hR _ (Option.some.inj hg).symm _ _ ⟨_, rfl, made_nils_pf⟩
  · refine imp (opP_of (show _ = some ((intA (a1.length : Int)), []) from rfl)) ?_
    refine imp ex_i64_b ?_
    refine cond_b (fun _ => ?_) (fun _ => ?_)
    · exact fun hg => hR _ (Option.some.inj hg).symm _ _ ⟨_, rfl, made_nils_pf⟩
    · refine imp (opP_of (show _ = some ((intA (a0.length : Int)), []) from rfl)) ?_
      refine imp ex_i64_b ?_
      refine bind_b fun x141 h141 => ?_
      refine imp (opN_of (show _ = some ((blkV intE 76 (List.replicate x141 (0))), [(76, some ⟨encs intE (List.replicate x141 (0)), 3⟩)]) from (mks_ok (E := intE) (z := (0)) rfl rfl h141))) ?_
      refine imp (opP_of (show _ = some ((intA (a1.length : Int)), []) from rfl)) ?_
      refine imp ex_i64_b ?_
      exact fun hg => L16_0_okM n a0 (0) a1 (a1.length : Int) R  hR n _ hg (weak_mem [(90000, 76)] rfl rfl rfl (okW_cons (ent_lst (E := TFlowCap.E) _ false) (okW_cons (.inl (leV_refl _)) (okW_cons (.inl (leV_refl _)) (okW_cons (.inl (leV_refl _)) (okW_cons (ent_blk (E := intE) (id := 76) (l' := (List.replicate x141 (0))) rfl rfl) (okW_cons (.inl (leV_refl _)) (okW_cons (ent_lst (E := intE) _ false) (okW_cons (.inl (leV_refl _)) (okW_cons (.inl (leV_refl _)) okW_nil))))))))) (okB_cons (okB_cells (cs := encs intE (List.replicate x141 (0))) (ty := 3) (encs_clean _) (show mget _ 76 = _ from (by first | rfl | (simp (disch := decide) only [mpushs_nil, mpushs_cons, mget_hd, mget_tl, mget_appW_o, mget_appW_n])))) okB_nil'))
theorem mg16C {n k : Nat} {look : Nat → Option ABlk} {a0 : List TFlowCap} {a1 : List Int} {t : ρ16} (h : g16 n a0 a1 = some t) : PureD Try.prog KK.gl look k 16 [(lstA TFlowCap.E a0), (lstA intE a1)] (.tup (ownV intE k t.1 :: ([Value.int .i64 t.2.1, Value.int .i64 t.2.2] : List Value).map AV.sc)) [(k, ownB intE 3 t.1)] :=
  made_tupC (by first | rfl | simp [cleans, clean, encs_clean, En.cln]) (F16_own (lstA TFlowCap.E a0) (lstA intE a1) _ (g16_okM n a0 a1 (MadeT intE 3 t.1 [Value.int .i64 t.2.1, Value.int .i64 t.2.2]) (fun r e u m h => by rw [e]; exact h) h))
theorem mg16S {n k : Nat} {look : Nat → Option ABlk} {args : List AV} {a0 : List TFlowCap} {a1 : List Int} {t : ρ16} (h : g16 n a0 a1 = some t) (hs : SnL look 6 args [(lstA TFlowCap.E a0), (lstA intE a1)]) : PureD Try.prog KK.gl look k 16 args (.tup (ownV intE k t.1 :: ([Value.int .i64 t.2.1, Value.int .i64 t.2.2] : List Value).map AV.sc)) [(k, ownB intE 3 t.1)] :=
  made_tupS (fun _ => rfl) hs (F16_own (lstA TFlowCap.E a0) (lstA intE a1) _ (g16_okM n a0 a1 (MadeT intE 3 t.1 [Value.int .i64 t.2.1, Value.int .i64 t.2.2]) (fun r e u m h => by rw [e]; exact h) h))
/- skyway/flow.Over -/
theorem B12_0_ok (n : Nat) (c5 : Int) (c6 : List Int) (a0 : List TFlowCap) (c23 : Int) (v24 : Int) (L90000 : List Int) {t : (Int × List Int) ⊕ ρ12} (R : AV → Mem → Prop) (N0 : St → Prop) (hR : ∀ r : ρ12, t = (.inr r) → ∀ u m, Ans ((AV.tup [(lstA intE r.1), (intA r.2)])) u m → R u m) (hN0 : ∀ y : Int × List Int, t = (.inl y) → ∀ s' : St, Weak KK 42 0 s' (h12_0 AV.nils c5 (lstA intE c6) (ownV intE 90000 y.2) (lstA TFlowCap.E a0) c23 y.1 [(90000, ownB intE 3 y.2)]) → N0 s') : S12_0 n c5 c6 a0 c23 v24 L90000 = some t → B12_0 AV.nils c5 (lstA intE c6) (ownV intE 90000 L90000) (lstA TFlowCap.E a0) c23 v24 [(90000, ownB intE 3 L90000)] R N0 := by
  unfold S12_0 B12_0
  refine cond_b (fun _ => ?_) (fun _ => ?_)
  · refine bind_b fun x146 h146 => ?_
    refine imp (opP_of (show _ = some ((AV.ept [(intA x146.Span_From), (intA x146.Span_To), (intA x146.Many)] 0), []) from (idx_lst (E := TFlowCap.E) rfl h146))) ?_
    refine imp (opP_of (show _ = some ((AV.agg [(intA x146.Span_From), (intA x146.Span_To), (intA x146.Many)]), []) from rfl)) ?_
    refine imp exA3_b ?_
    refine imp ex_i64_b ?_
    refine imp ex_i64_b ?_
    refine imp ex_i64_b ?_
    refine bind_b fun x147 h147 => ?_
    refine imp (opP_of (show _ = some ((AV.ept [(intA x147)] 0), []) from (idx_lst (E := intE) rfl h147))) ?_
    refine imp (opP_of (show _ = some ((intA x147), []) from rfl)) ?_
    refine imp ex_i64_b ?_
    refine cond_b (fun _ => ?_) (fun _ => ?_)
    · refine imp (opN_of (show _ = some ((blkV intE 100016 ([v24] : List Int)), [(100016, some ⟨encs intE ([v24] : List Int), 3⟩)]) from rfl)) ?_
      refine bind_b fun x148 h148 => ?_
      refine imp (opN_of (show _ = some ((ownV intE 100017 (L90000 ++ ([v24] : List Int))), (appW intE 100017 90000 3 L90000 ([v24] : List Int))) from (app_own (E := intE) (l' := L90000) (xs := ([v24] : List Int)) rfl rfl (cellsOf_blk (E := intE) (ty := 3) rfl rfl (by first | rfl | (simp (disch := decide) only [mpushs_nil, mpushs_cons, mget_hd, mget_tl, mget_appW_o, mget_appW_n]))) (by simp) rfl (fun hne => Eq.trans (by first | rfl | (simp (disch := decide) only [mpushs_nil, mpushs_cons, mget_hd, mget_tl, mget_appW_o, mget_appW_n])) (ownB_ne hne)) h148))) ?_
      exact fun hg => hN0 _ (Option.some.inj hg).symm _ (weak_mem [(90000, 100017)] rfl rfl rfl (okW_cons (.inl (leV_refl _)) (okW_cons (.inl (leV_refl _)) (okW_cons (ent_lst (E := intE) _ false) (okW_cons (ent_own (E := intE) (id := 100017) (l' := (L90000 ++ ([v24] : List Int))) rfl rfl) (okW_cons (ent_lst (E := TFlowCap.E) _ false) (okW_cons (.inl (leV_refl _)) (okW_cons (.inl (leV_refl _)) okW_nil))))))) (okB_cons (okB_own (E := intE) (ty := 3) (l' := (L90000 ++ ([v24] : List Int))) rfl (show mget _ 100017 = _ from (by first | rfl | (simp (disch := decide) only [mpushs_nil, mpushs_cons, mget_hd, mget_tl, mget_appW_o, mget_appW_n])))) okB_nil'))
    · exact fun hg => hN0 _ (Option.some.inj hg).symm _ (weak_mem [(90000, 90000)] rfl rfl rfl (okW_cons (.inl (leV_refl _)) (okW_cons (.inl (leV_refl _)) (okW_cons (ent_lst (E := intE) _ false) (okW_cons (ent_own (E := intE) (id := 90000) (l' := L90000) rfl rfl) (okW_cons (ent_lst (E := TFlowCap.E) _ false) (okW_cons (.inl (leV_refl _)) (okW_cons (.inl (leV_refl _)) okW_nil))))))) (okB_cons (okB_own (E := intE) (ty := 3) (l' := L90000) rfl (show mget _ 90000 = _ from (by first | rfl | (simp (disch := decide) only [mpushs_nil, mpushs_cons, mget_hd, mget_tl, mget_appW_o, mget_appW_n])))) okB_nil'))
  · exact fun hg => retN rfl (hR _ (Option.some.inj hg).symm) (fzL_cons (fz_own (E := intE) (ty := 3) (l' := L90000) _ rfl (by first | rfl | (simp (disch := decide) only [mpushs_nil, mpushs_cons, mget_hd, mget_tl, mget_appW_o, mget_appW_n]))) (fzL_cons (fz_sc _ _) fzL_nil))
theorem L12_0_ok (n : Nat) (c5 : Int) (c6 : List Int) (a0 : List TFlowCap) (c23 : Int) {t : ρ12} (R : AV → Mem → Prop) (hR : ∀ r : ρ12, t = r → ∀ u m, Ans ((AV.tup [(lstA intE r.1), (intA r.2)])) u m → R u m) (k : Nat) (x : Int × List Int) (hx : iterO (fun y : Int × List Int => S12_0 n c5 c6 a0 c23 y.1 y.2) k x = some t) {s : St} (hw : Weak KK 42 0 s (h12_0 AV.nils c5 (lstA intE c6) (ownV intE 90000 x.2) (lstA TFlowCap.E a0) c23 x.1 [(90000, ownB intE 3 x.2)])) : Tri Try.prog KK 42 0 (.loop c12_0) s (q12_0 R ) :=
  L12_0 R  (σ := Nat × (Int × List Int)) (fun z => iterO (fun y : Int × List Int => S12_0 n c5 c6 a0 c23 y.1 y.2) z.1 z.2 = some t) (fun z => AV.nils) (fun z => c5) (fun z => (lstA intE c6)) (fun z => (ownV intE 90000 z.2.2)) (fun z => (lstA TFlowCap.E a0)) (fun z => c23) (fun z => z.2.1) (fun z => [(90000, ownB intE 3 z.2.2)]) (fun z => z.1) (by
    rintro ⟨k, y⟩ h
    cases k with
    | zero => exact (iterO_zero h).elim
    | succ k =>
      obtain ⟨u, h1, h2, h3⟩ := iterO_elim h
      exact B12_0_ok n c5 c6 a0 c23 y.1 y.2 R  _ (fun r e => hR r (h3 _ e).symm)  (fun y' e s' hw => ⟨(k, y'), h2 _ e, Nat.lt_succ_self k, hw⟩) h1) (k, x) hx hw
theorem g12_ok (n : Nat) (a0 : List TFlowCap) (a1 : List Int) {t : ρ12} (R : AV → Mem → Prop) (hR : ∀ r : ρ12, t = r → ∀ u m, Ans ((AV.tup [(lstA intE r.1), (intA r.2)])) u m → R u m) : g12 n a0 a1 = some t → F12 (lstA TFlowCap.E a0) (lstA intE a1) R := by
  unfold g12 F12
  refine bind_b fun x139 h139 => ?_
  refine imp (callW_D (show PureD _ _ _ _ _ _ (AV.tup [(ownV intE 4 x139.1), (intA x139.2.1), (intA x139.2.2)]) [(4, ownB intE 3 x139.1)] from mg16C h139)) ?_
  refine imp exT3_b ?_
  refine imp ex_i64_b ?_
  refine imp ex_i64_b ?_
  refine cond_b (fun _ => ?_) (fun _ => ?_)
  · exact fun hg => retN rfl (hR _ (Option.some.inj hg).symm) (fzL_cons (fz_nils (E := intE) _) (fzL_cons (fz_sc _ _) fzL_nil))
  · refine imp (opP_of (show _ = some ((intA (a0.length : Int)), []) from rfl)) ?_
    refine imp ex_i64_b ?_
    exact fun hg => L12_0_ok n (0) x139.1 a0 (a0.length : Int) R  hR n _ hg (weak_mem [(90000, 89500)] rfl rfl rfl (okW_cons (.inl (leV_refl _)) (okW_cons (.inl (leV_refl _)) (okW_cons (ent_own_frz (E := intE) (ty := 3) (l' := x139.1) rfl (by first | rfl | (simp (disch := decide) only [mpushs_nil, mpushs_cons, mget_hd, mget_tl, mget_appW_o, mget_appW_n])) rfl) (okW_cons ent_nils_own (okW_cons (ent_lst (E := TFlowCap.E) _ false) (okW_cons (.inl (leV_refl _)) (okW_cons (.inl (leV_refl _)) okW_nil))))))) (okB_cons okB_nil okB_nil'))
theorem sg12 {n : Nat} {a0 : List TFlowCap} {a1 : List Int} {t : ρ12} (h : g12 n a0 a1 = some t) : Says Try.prog KK.gl 12 [(lstA TFlowCap.E a0), (lstA intE a1)] ((AV.tup [(lstA intE t.1), (intA t.2)])) :=
  says_of_own (by first | rfl | simp [cleans, clean, encs_clean, En.cln]) (by first | rfl | simp [cleans, clean, encs_clean, En.cln]) (F12_own (lstA TFlowCap.E a0) (lstA intE a1) _ (g12_ok n a0 a1 (Ans ((AV.tup [(lstA intE t.1), (intA t.2)]))) (fun r e u m h => by rw [e]; exact h) h))
/- skyway/flow.Over -/
theorem B12_0_okM (n : Nat) (c5 : Int) (c6 : List Int) (a0 : List TFlowCap) (c23 : Int) (v24 : Int) (L90000 : List Int) {t : (Int × List Int) ⊕ ρ12} (R : AV → Mem → Prop) (N0 : St → Prop) (hR : ∀ r : ρ12, t = (.inr r) → ∀ u m, MadeT intE 3 r.1 [Value.int .i64 r.2] u m → R u m) (hN0 : ∀ y : Int × List Int, t = (.inl y) → ∀ s' : St, Weak KK 42 0 s' (h12_0 AV.nils c5 (lstA intE c6) (ownV intE 90000 y.2) (lstA TFlowCap.E a0) c23 y.1 [(90000, ownB intE 3 y.2)]) → N0 s') : S12_0 n c5 c6 a0 c23 v24 L90000 = some t → B12_0 AV.nils c5 (lstA intE c6) (ownV intE 90000 L90000) (lstA TFlowCap.E a0) c23 v24 [(90000, ownB intE 3 L90000)] R N0 := by
  unfold S12_0 B12_0
  refine cond_b (fun _ => ?_) (fun _ => ?_)
  · refine bind_b fun x151 h151 => ?_
    refine imp (opP_of (show _ = some ((AV.ept [(intA x151.Span_From), (intA x151.Span_To), (intA x151.Many)] 0), []) from (idx_lst (E := TFlowCap.E) rfl h151))) ?_
    refine imp (opP_of (show _ = some ((AV.agg [(intA x151.Span_From), (intA x151.Span_To), (intA x151.Many)]), []) from rfl)) ?_
    refine imp exA3_b ?_
    refine imp ex_i64_b ?_
    refine imp ex_i64_b ?_
    refine imp ex_i64_b ?_
    refine bind_b fun x152 h152 => ?_
    refine imp (opP_of (show _ = some ((AV.ept [(intA x152)] 0), []) from (idx_lst (E := intE) rfl h152))) ?_
    refine imp (opP_of (show _ = some ((intA x152), []) from rfl)) ?_
    refine imp ex_i64_b ?_
    refine cond_b (fun _ => ?_) (fun _ => ?_)
    · refine imp (opN_of (show _ = some ((blkV intE 100016 ([v24] : List Int)), [(100016, some ⟨encs intE ([v24] : List Int), 3⟩)]) from rfl)) ?_
      refine bind_b fun x153 h153 => ?_
      refine imp (opN_of (show _ = some ((ownV intE 100017 (L90000 ++ ([v24] : List Int))), (appW intE 100017 90000 3 L90000 ([v24] : List Int))) from (app_own (E := intE) (l' := L90000) (xs := ([v24] : List Int)) rfl rfl (cellsOf_blk (E := intE) (ty := 3) rfl rfl (by first | rfl | (simp (disch := decide) only [mpushs_nil, mpushs_cons, mget_hd, mget_tl, mget_appW_o, mget_appW_n]))) (by simp) rfl (fun hne => Eq.trans (by first | rfl | (simp (disch := decide) only [mpushs_nil, mpushs_cons, mget_hd, mget_tl, mget_appW_o, mget_appW_n])) (ownB_ne hne)) h153))) ?_
      exact fun hg => hN0 _ (Option.some.inj hg).symm _ (weak_mem [(90000, 100017)] rfl rfl rfl (okW_cons (.inl (leV_refl _)) (okW_cons (.inl (leV_refl _)) (okW_cons (ent_lst (E := intE) _ false) (okW_cons (ent_own (E := intE) (id := 100017) (l' := (L90000 ++ ([v24] : List Int))) rfl rfl) (okW_cons (ent_lst (E := TFlowCap.E) _ false) (okW_cons (.inl (leV_refl _)) (okW_cons (.inl (leV_refl _)) okW_nil))))))) (okB_cons (okB_own (E := intE) (ty := 3) (l' := (L90000 ++ ([v24] : List Int))) rfl (show mget _ 100017 = _ from (by first | rfl | (simp (disch := decide) only [mpushs_nil, mpushs_cons, mget_hd, mget_tl, mget_appW_o, mget_appW_n])))) okB_nil'))
    · exact fun hg => hN0 _ (Option.some.inj hg).symm _ (weak_mem [(90000, 90000)] rfl rfl rfl (okW_cons (.inl (leV_refl _)) (okW_cons (.inl (leV_refl _)) (okW_cons (ent_lst (E := intE) _ false) (okW_cons (ent_own (E := intE) (id := 90000) (l' := L90000) rfl rfl) (okW_cons (ent_lst (E := TFlowCap.E) _ false) (okW_cons (.inl (leV_refl _)) (okW_cons (.inl (leV_refl _)) okW_nil))))))) (okB_cons (okB_own (E := intE) (ty := 3) (l' := L90000) rfl (show mget _ 90000 = _ from (by first | rfl | (simp (disch := decide) only [mpushs_nil, mpushs_cons, mget_hd, mget_tl, mget_appW_o, mget_appW_n])))) okB_nil'))
  · exact fun hg => hR _ (Option.some.inj hg).symm _ _ ⟨_, rfl, (made_own_pf (E := intE) (ty := 3) (l := L90000) rfl (by first | rfl | (simp (disch := decide) only [mpushs_nil, mpushs_cons, mget_hd, mget_tl, mget_appW_o, mget_appW_n])))⟩
theorem L12_0_okM (n : Nat) (c5 : Int) (c6 : List Int) (a0 : List TFlowCap) (c23 : Int) {t : ρ12} (R : AV → Mem → Prop) (hR : ∀ r : ρ12, t = r → ∀ u m, MadeT intE 3 r.1 [Value.int .i64 r.2] u m → R u m) (k : Nat) (x : Int × List Int) (hx : iterO (fun y : Int × List Int => S12_0 n c5 c6 a0 c23 y.1 y.2) k x = some t) {s : St} (hw : Weak KK 42 0 s (h12_0 AV.nils c5 (lstA intE c6) (ownV intE 90000 x.2) (lstA TFlowCap.E a0) c23 x.1 [(90000, ownB intE 3 x.2)])) : Tri Try.prog KK 42 0 (.loop c12_0) s (q12_0 R ) :=
  L12_0 R  (σ := Nat × (Int × List Int)) (fun z => iterO (fun y : Int × List Int => S12_0 n c5 c6 a0 c23 y.1 y.2) z.1 z.2 = some t) (fun z => AV.nils) (fun z => c5) (fun z => (lstA intE c6)) (fun z => (ownV intE 90000 z.2.2)) (fun z => (lstA TFlowCap.E a0)) (fun z => c23) (fun z => z.2.1) (fun z => [(90000, ownB intE 3 z.2.2)]) (fun z => z.1) (by
    rintro ⟨k, y⟩ h
    cases k with
    | zero => exact (iterO_zero h).elim
    | succ k =>
      obtain ⟨u, h1, h2, h3⟩ := iterO_elim h
      exact B12_0_okM n c5 c6 a0 c23 y.1 y.2 R  _ (fun r e => hR r (h3 _ e).symm)  (fun y' e s' hw => ⟨(k, y'), h2 _ e, Nat.lt_succ_self k, hw⟩) h1) (k, x) hx hw
theorem g12_okM (n : Nat) (a0 : List TFlowCap) (a1 : List Int) {t : ρ12} (R : AV → Mem → Prop) (hR : ∀ r : ρ12, t = r → ∀ u m, MadeT intE 3 r.1 [Value.int .i64 r.2] u m → R u m) : g12 n a0 a1 = some t → F12 (lstA TFlowCap.E a0) (lstA intE a1) R := by
  unfold g12 F12
  refine bind_b fun x150 h150 => ?_
  refine imp (callW_D (show PureD _ _ _ _ _ _ (AV.tup [(ownV intE 4 x150.1), (intA x150.2.1), (intA x150.2.2)]) [(4, ownB intE 3 x150.1)] from mg16C h150)) ?_
  refine imp exT3_b ?_
  refine imp ex_i64_b ?_
  refine imp ex_i64_b ?_
  refine cond_b (fun _ => ?_) (fun _ => ?_)
  · exact fun hg => hR _ (Option.some.inj hg).symm _ _ ⟨_, rfl, made_nils_pf⟩
  · refine imp (opP_of (show _ = some ((intA (a0.length : Int)), []) from rfl)) ?_
    refine imp ex_i64_b ?_
    exact fun hg => L12_0_okM n (0) x150.1 a0 (a0.length : Int) R  hR n _ hg (weak_mem [(90000, 89500)] rfl rfl rfl (okW_cons (.inl (leV_refl _)) (okW_cons (.inl (leV_refl _)) (okW_cons (ent_own_frz (E := intE) (ty := 3) (l' := x150.1) rfl (by first | rfl | (simp (disch := decide) only [mpushs_nil, mpushs_cons, mget_hd, mget_tl, mget_appW_o, mget_appW_n])) rfl) (okW_cons ent_nils_own (okW_cons (ent_lst (E := TFlowCap.E) _ false) (okW_cons (.inl (leV_refl _)) (okW_cons (.inl (leV_refl _)) okW_nil))))))) (okB_cons okB_nil okB_nil'))
theorem mg12C {n k : Nat} {look : Nat → Option ABlk} {a0 : List TFlowCap} {a1 : List Int} {t : ρ12} (h : g12 n a0 a1 = some t) : PureD Try.prog KK.gl look k 12 [(lstA TFlowCap.E a0), (lstA intE a1)] (.tup (ownV intE k t.1 :: ([Value.int .i64 t.2] : List Value).map AV.sc)) [(k, ownB intE 3 t.1)] :=
  made_tupC (by first | rfl | simp [cleans, clean, encs_clean, En.cln]) (F12_own (lstA TFlowCap.E a0) (lstA intE a1) _ (g12_okM n a0 a1 (MadeT intE 3 t.1 [Value.int .i64 t.2]) (fun r e u m h => by rw [e]; exact h) h))
theorem mg12S {n k : Nat} {look : Nat → Option ABlk} {args : List AV} {a0 : List TFlowCap} {a1 : List Int} {t : ρ12} (h : g12 n a0 a1 = some t) (hs : SnL look 6 args [(lstA TFlowCap.E a0), (lstA intE a1)]) : PureD Try.prog KK.gl look k 12 args (.tup (ownV intE k t.1 :: ([Value.int .i64 t.2] : List Value).map AV.sc)) [(k, ownB intE 3 t.1)] :=
  made_tupS (fun _ => rfl) hs (F12_own (lstA TFlowCap.E a0) (lstA intE a1) _ (g12_okM n a0 a1 (MadeT intE 3 t.1 [Value.int .i64 t.2]) (fun r e u m h => by rw [e]; exact h) h))
/- skyway/skywaykeep3.SlotFits$1 -/
theorem g29_ok (n : Nat) (a0 : Int) {t : ρ29} (R : AV → Mem → Prop) (hR : ∀ r : ρ29, t = r → ∀ u m, Ans ((boolA r)) u m → R u m) : g29 n a0 = some t → F29 a0 R := by
  unfold g29 F29
  exact fun hg => ret1 (hR _ (Option.some.inj hg).symm) (fz_sc _ _)
theorem sg29 {n : Nat} {a0 : Int} {t : ρ29} (h : g29 n a0 = some t) : Says Try.prog KK.gl 29 [(intA a0)] ((boolA t)) :=
  says_of_own (by first | rfl | simp [cleans, clean, encs_clean, En.cln]) (by first | rfl | simp [cleans, clean, encs_clean, En.cln]) (F29_own a0 _ (g29_ok n a0 (Ans ((boolA t))) (fun r e u m h => by rw [e]; exact h) h))
/- slices.IndexFunc[[]int,int] -/
theorem B46_0_ok (n : Nat) (a0 : List Int) (c4 : Int) (c7 : Int) (v8 : Int) {t : (Int) ⊕ ρ46} (R : AV → Mem → Prop) (N0 : St → Prop) (hR : ∀ r : ρ46, t = (.inr r) → ∀ u m, Ans ((intA r)) u m → R u m) (hN0 : ∀ y : Int, t = (.inl y) → ∀ s' : St, Weak KK 19 0 s' (h46_0 (lstA intE a0) (AV.fn 29 []) c4 c7 y []) → N0 s') : S46_0 n a0 c4 c7 v8 = some t → B46_0 (lstA intE a0) (AV.fn 29 []) c4 c7 v8 [] R N0 := by
  unfold S46_0 B46_0
  refine cond_b (fun _ => ?_) (fun _ => ?_)
  · refine bind_b fun x155 h155 => ?_
    refine imp (opP_of (show _ = some ((AV.ept [(intA x155)] 0), []) from (idx_lst (E := intE) rfl h155))) ?_
    refine imp (opP_of (show _ = some ((intA x155), []) from rfl)) ?_
    refine imp ex_i64_b ?_
    refine bind_b fun x156 h156 => ?_
    refine imp fnArgs_b ?_
    refine imp (cond_tt rfl) ?_
    refine imp (callQ_says (sg29 h156)) ?_
    refine imp exB_b ?_
    refine cond_b (fun _ => ?_) (fun _ => ?_)
    · exact fun hg => ret1 (hR _ (Option.some.inj hg).symm) (fz_sc _ _)
    · exact fun hg => hN0 _ (Option.some.inj hg).symm _ (weak_mem [] rfl rfl rfl (okW_cons (ent_lst (E := intE) _ false) (okW_cons (.inl (leV_refl _)) (okW_cons (.inl (leV_refl _)) (okW_cons (.inl (leV_refl _)) (okW_cons (.inl (leV_refl _)) okW_nil))))) okB_nil')
  · exact fun hg => ret1 (hR _ (Option.some.inj hg).symm) (fz_sc _ _)
theorem L46_0_ok (n : Nat) (a0 : List Int) (c4 : Int) (c7 : Int) {t : ρ46} (R : AV → Mem → Prop) (hR : ∀ r : ρ46, t = r → ∀ u m, Ans ((intA r)) u m → R u m) (k : Nat) (x : Int) (hx : iterO (fun y : Int => S46_0 n a0 c4 c7 y) k x = some t) {s : St} (hw : Weak KK 19 0 s (h46_0 (lstA intE a0) (AV.fn 29 []) c4 c7 x [])) : Tri Try.prog KK 19 0 (.loop c46_0) s (q46_0 R ) :=
  L46_0 R  (σ := Nat × (Int)) (fun z => iterO (fun y : Int => S46_0 n a0 c4 c7 y) z.1 z.2 = some t) (fun z => (lstA intE a0)) (fun z => (AV.fn 29 [])) (fun z => c4) (fun z => c7) (fun z => z.2) (fun z => []) (fun z => z.1) (by
    rintro ⟨k, y⟩ h
    cases k with
    | zero => exact (iterO_zero h).elim
    | succ k =>
      obtain ⟨u, h1, h2, h3⟩ := iterO_elim h
      exact B46_0_ok n a0 c4 c7 y R  _ (fun r e => hR r (h3 _ e).symm)  (fun y' e s' hw => ⟨(k, y'), h2 _ e, Nat.lt_succ_self k, hw⟩) h1) (k, x) hx hw
theorem g46_ok (n : Nat) (a0 : List Int) {t : ρ46} (R : AV → Mem → Prop) (hR : ∀ r : ρ46, t = r → ∀ u m, Ans ((intA r)) u m → R u m) : g46 n a0 = some t → F46 (lstA intE a0) (AV.fn 29 []) R := by
  unfold g46 F46
  refine imp (opP_of (show _ = some ((intA (a0.length : Int)), []) from rfl)) ?_
  refine imp ex_i64_b ?_
  exact fun hg => L46_0_ok n a0 (0) (a0.length : Int) R  hR n _ hg (weak_mem [] rfl rfl rfl (okW_cons (ent_lst (E := intE) _ false) (okW_cons (.inl (leV_refl _)) (okW_cons (.inl (leV_refl _)) (okW_cons (.inl (leV_refl _)) (okW_cons (.inl (leV_refl _)) okW_nil))))) okB_nil')
theorem sg46 {n : Nat} {a0 : List Int} {t : ρ46} (h : g46 n a0 = some t) : Says Try.prog KK.gl 46 [(lstA intE a0), (AV.fn 29 [])] ((intA t)) :=
  says_of_own (by first | rfl | simp [cleans, clean, encs_clean, En.cln]) (by first | rfl | simp [cleans, clean, encs_clean, En.cln]) (F46_own (lstA intE a0) (AV.fn 29 []) _ (g46_ok n a0 (Ans ((intA t))) (fun r e u m h => by rw [e]; exact h) h))
/- slices.ContainsFunc[[]int,int] -/
theorem g28_ok (n : Nat) (a0 : List Int) {t : ρ28} (R : AV → Mem → Prop) (hR : ∀ r : ρ28, t = r → ∀ u m, Ans ((boolA r)) u m → R u m) : g28 n a0 = some t → F28 (lstA intE a0) (AV.fn 29 []) R := by
  unfold g28 F28
  refine bind_b fun x157 h157 => ?_
  refine imp (callQ_says (sg46 h157)) ?_
  refine imp ex_i64_b ?_
  exact fun hg => ret1 (hR _ (Option.some.inj hg).symm) (fz_sc _ _)
theorem sg28 {n : Nat} {a0 : List Int} {t : ρ28} (h : g28 n a0 = some t) : Says Try.prog KK.gl 28 [(lstA intE a0), (AV.fn 29 [])] ((boolA t)) :=
  says_of_own (by first | rfl | simp [cleans, clean, encs_clean, En.cln]) (by first | rfl | simp [cleans, clean, encs_clean, En.cln]) (F28_own (lstA intE a0) (AV.fn 29 []) _ (g28_ok n a0 (Ans ((boolA t))) (fun r e u m h => by rw [e]; exact h) h))
/- skyway/skywaykeep3.SlotFits -/
theorem B8_0_ok (n : Nat) (a0 : List TSlotDemand) (a1 : List TFlowCap) (c4 : Bool) (c5 : List TSlot) (c6 : Int) (c7 : List Int) (c36 : Int) (v37 : Int) (L90000 : List Int) {t : (Int × List Int) ⊕ ρ8} (R : AV → Mem → Prop) (N0 : St → Prop) (hR : ∀ r : ρ8, t = (.inr r) → ∀ u m, Ans ((boolA r)) u m → R u m) (hN0 : ∀ y : Int × List Int, t = (.inl y) → ∀ s' : St, Weak KK 91 0 s' (h8_0 (lstA TSlotDemand.E a0) (lstA TFlowCap.E a1) c4 (lstA TSlot.E c5) c6 (lstA intE c7) (ownV intE 90000 y.2) (lstA TSlot.E c5) c36 y.1 [(90000, ownB intE 3 y.2)]) → N0 s') : S8_0 n a0 a1 c4 c5 c6 c7 c36 v37 L90000 = some t → B8_0 (lstA TSlotDemand.E a0) (lstA TFlowCap.E a1) c4 (lstA TSlot.E c5) c6 (lstA intE c7) (ownV intE 90000 L90000) (lstA TSlot.E c5) c36 v37 [(90000, ownB intE 3 L90000)] R N0 := by
  unfold S8_0 B8_0
  refine cond_b (fun _ => ?_) (fun _ => ?_)
  · refine bind_b fun x128 h128 => ?_
    refine imp (opP_of (show _ = some ((AV.ept [(strA x128.Call), (strA x128.Place), (intA x128.Time)] 0), []) from (idx_lst (E := TSlot.E) rfl h128))) ?_
    refine imp (opP_of (show _ = some ((AV.agg [(strA x128.Call), (strA x128.Place), (intA x128.Time)]), []) from rfl)) ?_
    refine imp exA3_b ?_
    refine imp exStr_b ?_
    refine imp exStr_b ?_
    refine imp ex_i64_b ?_
    refine imp (opN_of (show _ = some ((blkV intE 100008 ([x128.Time] : List Int)), [(100008, some ⟨encs intE ([x128.Time] : List Int), 3⟩)]) from rfl)) ?_
    refine bind_b fun x129 h129 => ?_
    refine imp (opN_of (show _ = some ((ownV intE 100009 (L90000 ++ ([x128.Time] : List Int))), (appW intE 100009 90000 3 L90000 ([x128.Time] : List Int))) from (app_own (E := intE) (l' := L90000) (xs := ([x128.Time] : List Int)) rfl rfl (cellsOf_blk (E := intE) (ty := 3) rfl rfl (by first | rfl | (simp (disch := decide) only [mpushs_nil, mpushs_cons, mget_hd, mget_tl, mget_appW_o, mget_appW_n]))) (by simp) rfl (fun hne => Eq.trans (by first | rfl | (simp (disch := decide) only [mpushs_nil, mpushs_cons, mget_hd, mget_tl, mget_appW_o, mget_appW_n])) (ownB_ne hne)) h129))) ?_
    exact fun hg => hN0 _ (Option.some.inj hg).symm _ (weak_mem [(90000, 100009)] rfl rfl rfl (okW_cons (ent_lst (E := TSlotDemand.E) _ false) (okW_cons (ent_lst (E := TFlowCap.E) _ false) (okW_cons (.inl (leV_refl _)) (okW_cons (ent_lst (E := TSlot.E) _ false) (okW_cons (.inl (leV_refl _)) (okW_cons (ent_lst (E := intE) _ false) (okW_cons (ent_own (E := intE) (id := 100009) (l' := (L90000 ++ ([x128.Time] : List Int))) rfl rfl) (okW_cons (ent_lst (E := TSlot.E) _ false) (okW_cons (.inl (leV_refl _)) (okW_cons (.inl (leV_refl _)) okW_nil)))))))))) (okB_cons (okB_own (E := intE) (ty := 3) (l' := (L90000 ++ ([x128.Time] : List Int))) rfl (show mget _ 100009 = _ from (by first | rfl | (simp (disch := decide) only [mpushs_nil, mpushs_cons, mget_hd, mget_tl, mget_appW_o, mget_appW_n])))) okB_nil'))
  · refine bind_b fun x149 h149 => ?_
    refine imp (callW_D (show PureD _ _ _ _ _ _ (AV.tup [(ownV intE 100003 x149.1), (intA x149.2)]) [(100003, ownB intE 3 x149.1)] from mg12S h149 (snL_cons (sn_lst (E := TFlowCap.E) _ _ false) (snL_cons (sn_own (E := intE) (ty := 3) (l' := L90000) _ intE.nf rfl (by first | rfl | (simp (disch := decide) only [mpushs_nil, mpushs_cons, mget_hd, mget_tl, mget_appW_o, mget_appW_n]))) snL_nil)))) ?_
    refine imp exT2_b ?_
    refine imp ex_i64_b ?_
    refine bind_b fun x154 h154 => ?_
    refine imp (callW_D (show PureD _ _ _ _ _ _ (AV.tup [(ownV intE 100074 x154.1), (intA x154.2.1), (intA x154.2.2)]) [(100074, ownB intE 3 x154.1)] from mg16S h154 (snL_cons (sn_lst (E := TFlowCap.E) _ _ false) (snL_cons (sn_own (E := intE) (ty := 3) (l' := L90000) _ intE.nf rfl (by first | rfl | (simp (disch := decide) only [mpushs_nil, mpushs_cons, mget_hd, mget_tl, mget_appW_o, mget_appW_n]))) snL_nil)))) ?_
    refine imp exT3_b ?_
    refine imp ex_i64_b ?_
    refine imp ex_i64_b ?_
    refine cond_b (fun _ => ?_) (fun _ => ?_)
    · refine cond_b (fun _ => ?_) (fun _ => ?_)
      · refine cond_b (fun _ => ?_) (fun _ => ?_)
        · refine imp (opP_of (show _ = some ((intA (x149.1.length : Int)), []) from len_own)) ?_
          refine imp ex_i64_b ?_
          refine cond_b (fun _ => ?_) (fun _ => ?_)
          · refine cond_b (fun _ => ?_) (fun _ => ?_)
            · refine imp (opP_of (show _ = some ((intA (c5.length : Int)), []) from rfl)) ?_
              refine imp ex_i64_b ?_
              refine imp (opP_of (show _ = some ((intA (a0.length : Int)), []) from rfl)) ?_
              refine imp ex_i64_b ?_
              refine cond_b (fun _ => ?_) (fun _ => ?_)
              · refine bind_b fun x158 h158 => ?_
                refine imp (callQ_says (sg28 h158)) ?_
                refine imp exB_b ?_
                exact fun hg => ret1 (hR _ (Option.some.inj hg).symm) (fz_sc _ _)
              · exact fun hg => ret1 (hR _ (Option.some.inj hg).symm) (fz_sc _ _)
            · exact fun hg => ret1 (hR _ (Option.some.inj hg).symm) (fz_sc _ _)
          · exact fun hg => ret1 (hR _ (Option.some.inj hg).symm) (fz_sc _ _)
        · exact fun hg => ret1 (hR _ (Option.some.inj hg).symm) (fz_sc _ _)
      · exact fun hg => ret1 (hR _ (Option.some.inj hg).symm) (fz_sc _ _)
    · exact fun hg => ret1 (hR _ (Option.some.inj hg).symm) (fz_sc _ _)
theorem L8_0_ok (n : Nat) (a0 : List TSlotDemand) (a1 : List TFlowCap) (c4 : Bool) (c5 : List TSlot) (c6 : Int) (c7 : List Int) (c36 : Int) {t : ρ8} (R : AV → Mem → Prop) (hR : ∀ r : ρ8, t = r → ∀ u m, Ans ((boolA r)) u m → R u m) (k : Nat) (x : Int × List Int) (hx : iterO (fun y : Int × List Int => S8_0 n a0 a1 c4 c5 c6 c7 c36 y.1 y.2) k x = some t) {s : St} (hw : Weak KK 91 0 s (h8_0 (lstA TSlotDemand.E a0) (lstA TFlowCap.E a1) c4 (lstA TSlot.E c5) c6 (lstA intE c7) (ownV intE 90000 x.2) (lstA TSlot.E c5) c36 x.1 [(90000, ownB intE 3 x.2)])) : Tri Try.prog KK 91 0 (.loop c8_0) s (q8_0 R ) :=
  L8_0 R  (σ := Nat × (Int × List Int)) (fun z => iterO (fun y : Int × List Int => S8_0 n a0 a1 c4 c5 c6 c7 c36 y.1 y.2) z.1 z.2 = some t) (fun z => (lstA TSlotDemand.E a0)) (fun z => (lstA TFlowCap.E a1)) (fun z => c4) (fun z => (lstA TSlot.E c5)) (fun z => c6) (fun z => (lstA intE c7)) (fun z => (ownV intE 90000 z.2.2)) (fun z => (lstA TSlot.E c5)) (fun z => c36) (fun z => z.2.1) (fun z => [(90000, ownB intE 3 z.2.2)]) (fun z => z.1) (by
    rintro ⟨k, y⟩ h
    cases k with
    | zero => exact (iterO_zero h).elim
    | succ k =>
      obtain ⟨u, h1, h2, h3⟩ := iterO_elim h
      exact B8_0_ok n a0 a1 c4 c5 c6 c7 c36 y.1 y.2 R  _ (fun r e => hR r (h3 _ e).symm)  (fun y' e s' hw => ⟨(k, y'), h2 _ e, Nat.lt_succ_self k, hw⟩) h1) (k, x) hx hw
theorem g8_ok (n : Nat) (a0 : List TSlotDemand) (a1 : List TFlowCap) {t : ρ8} (R : AV → Mem → Prop) (hR : ∀ r : ρ8, t = r → ∀ u m, Ans ((boolA r)) u m → R u m) : g8 n a0 a1 = some t → F8 (lstA TSlotDemand.E a0) (lstA TFlowCap.E a1) R := by
  unfold g8 F8
  refine bind_b fun x125 h125 => ?_
  refine imp (callQ_says (sg18 h125)) ?_
  refine imp exB_b ?_
  refine cond_b (fun _ => ?_) (fun _ => ?_)
  · exact fun hg => ret1 (hR _ (Option.some.inj hg).symm) (fz_sc _ _)
  · refine bind_b fun x126 h126 => ?_
    refine imp (callW_D (show PureD _ _ _ _ _ _ (AV.tup [(ownV TSlot.E 68 x126.1), (intA x126.2)]) [(68, ownB TSlot.E 49 x126.1)] from mg19C h126)) ?_
    refine imp exT2_b ?_
    refine imp ex_i64_b ?_
    refine cond_b (fun _ => ?_) (fun _ => ?_)
    · refine imp (opP_of (show _ = some ((intA (x126.1.length : Int)), []) from len_own)) ?_
      refine imp ex_i64_b ?_
      exact fun hg => ret1 (hR _ (Option.some.inj hg).symm) (fz_sc _ _)
    · refine bind_b fun x127 h127 => ?_
      refine imp (callW_D (show PureD _ _ _ _ _ _ (AV.tup [(ownV intE 141 x127.1), (intA x127.2)]) [(141, ownB intE 3 x127.1)] from mg27S h127 (snL_cons (sn_lst (E := TSlotDemand.E) _ _ false) (snL_cons (sn_own (E := TSlot.E) (ty := 49) (l' := x126.1) _ TSlot.nf rfl (by first | rfl | (simp (disch := decide) only [mpushs_nil, mpushs_cons, mget_hd, mget_tl, mget_appW_o, mget_appW_n]))) snL_nil)))) ?_
      refine imp exT2_b ?_
      refine imp ex_i64_b ?_
      refine imp (opP_of (show _ = some ((intA (x126.1.length : Int)), []) from len_own)) ?_
      refine imp ex_i64_b ?_
      exact fun hg => L8_0_ok n a0 a1 false x126.1 x127.2 x127.1 (x126.1.length : Int) R  hR n _ hg (weak_mem [(90000, 89500)] rfl rfl rfl (okW_cons (ent_lst (E := TSlotDemand.E) _ false) (okW_cons (ent_lst (E := TFlowCap.E) _ false) (okW_cons (.inl (leV_refl _)) (okW_cons (ent_own_frz (E := TSlot.E) (ty := 49) (l' := x126.1) rfl (by first | rfl | (simp (disch := decide) only [mpushs_nil, mpushs_cons, mget_hd, mget_tl, mget_appW_o, mget_appW_n])) rfl) (okW_cons (.inl (leV_refl _)) (okW_cons (ent_own_frz (E := intE) (ty := 3) (l' := x127.1) rfl (by first | rfl | (simp (disch := decide) only [mpushs_nil, mpushs_cons, mget_hd, mget_tl, mget_appW_o, mget_appW_n])) rfl) (okW_cons ent_nils_own (okW_cons (ent_own_frz (E := TSlot.E) (ty := 49) (l' := x126.1) rfl (by first | rfl | (simp (disch := decide) only [mpushs_nil, mpushs_cons, mget_hd, mget_tl, mget_appW_o, mget_appW_n])) rfl) (okW_cons (.inl (leV_refl _)) (okW_cons (.inl (leV_refl _)) okW_nil)))))))))) (okB_cons okB_nil okB_nil'))
theorem sg8 {n : Nat} {a0 : List TSlotDemand} {a1 : List TFlowCap} {t : ρ8} (h : g8 n a0 a1 = some t) : Says Try.prog KK.gl 8 [(lstA TSlotDemand.E a0), (lstA TFlowCap.E a1)] ((boolA t)) :=
  says_of_own (by first | rfl | simp [cleans, clean, encs_clean, En.cln]) (by first | rfl | simp [cleans, clean, encs_clean, En.cln]) (F8_own (lstA TSlotDemand.E a0) (lstA TFlowCap.E a1) _ (g8_ok n a0 a1 (Ans ((boolA t))) (fun r e u m h => by rw [e]; exact h) h))
end Go.Proofs.Ytfhcciepaangiaa
