/- Plain functional programs out of the program's functions, with proofs that the functions compute them; printed by wip/Ext.lean.txt. -/
import Derived.Test.YtfmodgffhbljoaaX1E1
set_option linter.unusedVariables false
set_option linter.unusedSimpArgs false
set_option maxRecDepth 100000
namespace Go.Proofs.Ytfmodgffhbljoaa
/- skyway/skywaykeep3.SequenceValid -/
theorem B10_1_ok (n : Nat) (a0 : List TSequenceArrival) (c6 : Bool) (c7 : List Int) (a1 : List Int) (c67 : Int) (v68 : Int) {t : (Int) ⊕ ρ10} (R : AV → Mem → Prop) (N0 : St → Prop) (hR : ∀ r : ρ10, t = (.inr r) → ∀ u m, Ans ((boolA r)) u m → R u m) (hN0 : ∀ y : Int, t = (.inl y) → ∀ s' : St, Weak KK 96 0 s' (h10_1 (lstA TSequenceArrival.E a0) c6 (lstA intE c7) (lstA intE a1) c67 y []) → N0 s') : S10_1 n a0 c6 c7 a1 c67 v68 = some t → B10_1 (lstA TSequenceArrival.E a0) c6 (lstA intE c7) (lstA intE a1) c67 v68 [] R N0 := by
  unfold S10_1 B10_1
  refine cond_b (fun _ => ?_) (fun _ => ?_)
  · refine bind_b fun x55 h55 => ?_
    refine imp (opP_of (show _ = some ((AV.ept [(intA x55)] 0), []) from (idx_lst (E := intE) rfl h55))) ?_
    refine imp (opP_of (show _ = some ((intA x55), []) from rfl)) ?_
    refine imp ex_i64_b ?_
    refine bind_b fun x56 h56 => ?_
    refine imp (opP_of (show _ = some ((AV.ept [(intA x56)] 0), []) from (idx_lst (E := intE) rfl h56))) ?_
    refine imp (opP_of (show _ = some ((intA x56), []) from rfl)) ?_
    refine imp ex_i64_b ?_
    refine bind_b fun x57 h57 => ?_
    refine imp (opP_of (show _ = some ((AV.ept [(strA x57.Call), (intA x57.Wake), (intA x57.Time), (intA x57.Latest)] 0), []) from (idx_lst (E := TSequenceArrival.E) rfl h57))) ?_
    refine imp (opP_of (show _ = some ((AV.ept [(strA x57.Call), (intA x57.Wake), (intA x57.Time), (intA x57.Latest)] 2), []) from rfl)) ?_
    refine imp (opP_of (show _ = some ((intA x57.Time), []) from rfl)) ?_
    refine imp ex_i64_b ?_
    refine cond_b (fun _ => ?_) (fun _ => ?_)
    · exact fun hg => ret1 (hR _ (Option.some.inj hg).symm) (fz_sc _ _)
    · refine bind_b fun x58 h58 => ?_
      refine imp (opP_of (show _ = some ((AV.ept [(intA x58)] 0), []) from (idx_lst (E := intE) rfl h58))) ?_
      refine imp (opP_of (show _ = some ((intA x58), []) from rfl)) ?_
      refine imp ex_i64_b ?_
      refine bind_b fun x59 h59 => ?_
      refine imp (opP_of (show _ = some ((AV.ept [(strA x59.Call), (intA x59.Wake), (intA x59.Time), (intA x59.Latest)] 0), []) from (idx_lst (E := TSequenceArrival.E) rfl h59))) ?_
      refine imp (opP_of (show _ = some ((AV.ept [(strA x59.Call), (intA x59.Wake), (intA x59.Time), (intA x59.Latest)] 3), []) from rfl)) ?_
      refine imp (opP_of (show _ = some ((intA x59.Latest), []) from rfl)) ?_
      refine imp ex_i64_b ?_
      refine cond_b (fun _ => ?_) (fun _ => ?_)
      · exact fun hg => ret1 (hR _ (Option.some.inj hg).symm) (fz_sc _ _)
      · exact fun hg => hN0 _ (Option.some.inj hg).symm _ (weak_mem [] rfl rfl rfl (okW_cons (ent_lst (E := TSequenceArrival.E) _ false) (okW_cons (.inl (leV_refl _)) (okW_cons (ent_lst (E := intE) _ false) (okW_cons (ent_lst (E := intE) _ false) (okW_cons (.inl (leV_refl _)) (okW_cons (.inl (leV_refl _)) okW_nil)))))) okB_nil')
  · exact fun hg => ret1 (hR _ (Option.some.inj hg).symm) (fz_sc _ _)
theorem L10_1_ok (n : Nat) (a0 : List TSequenceArrival) (c6 : Bool) (c7 : List Int) (a1 : List Int) (c67 : Int) {t : ρ10} (R : AV → Mem → Prop) (hR : ∀ r : ρ10, t = r → ∀ u m, Ans ((boolA r)) u m → R u m) (k : Nat) (x : Int) (hx : iterO (fun y : Int => S10_1 n a0 c6 c7 a1 c67 y) k x = some t) {s : St} (hw : Weak KK 96 0 s (h10_1 (lstA TSequenceArrival.E a0) c6 (lstA intE c7) (lstA intE a1) c67 x [])) : Tri Try.prog KK 96 0 (.loop c10_1) s (q10_1 R ) :=
  L10_1 R  (σ := Nat × (Int)) (fun z => iterO (fun y : Int => S10_1 n a0 c6 c7 a1 c67 y) z.1 z.2 = some t) (fun z => (lstA TSequenceArrival.E a0)) (fun z => c6) (fun z => (lstA intE c7)) (fun z => (lstA intE a1)) (fun z => c67) (fun z => z.2) (fun z => []) (fun z => z.1) (by
    rintro ⟨k, y⟩ h
    cases k with
    | zero => exact (iterO_zero h).elim
    | succ k =>
      obtain ⟨u, h1, h2, h3⟩ := iterO_elim h
      exact B10_1_ok n a0 c6 c7 a1 c67 y R  _ (fun r e => hR r (h3 _ e).symm)  (fun y' e s' hw => ⟨(k, y'), h2 _ e, Nat.lt_succ_self k, hw⟩) h1) (k, x) hx hw
theorem B10_0_ok (n : Nat) (a0 : List TSequenceArrival) (a1 : List Int) (c6 : Bool) (c7 : List Int) (c31 : Int) (k0_0 : Int) (k0_1 : Int) (k0_2 : Int) (k0_3 : Int) (k0_4 : Int) (k0_5 : Int) (k0_6 : Int) (k0_7 : Int) (k0_8 : Int) (k0_9 : Int) (k0_10 : Int) (k0_11 : Int) (k0_12 : Int) (k0_13 : Int) (k0_14 : Int) (k0_15 : Int) (v32 : Int) (L90000 : List Int) {t : (Int × List Int) ⊕ ρ10} (R : AV → Mem → Prop) (N0 : St → Prop) (hR : ∀ r : ρ10, t = (.inr r) → ∀ u m, Ans ((boolA r)) u m → R u m) (hN0 : ∀ y : Int × List Int, t = (.inl y) → ∀ s' : St, Weak KK 96 0 s' (h10_0 (lstA TSequenceArrival.E a0) (lstA intE a1) c6 (lstA intE c7) (ownV intE 90000 y.2) (lstA intE a1) c31 y.1 k0_0 k0_1 k0_2 k0_3 k0_4 k0_5 k0_6 k0_7 k0_8 k0_9 k0_10 k0_11 k0_12 k0_13 k0_14 k0_15 [(90000, ownB intE 3 y.2)]) → N0 s') : S10_0 n a0 a1 c6 c7 c31 k0_0 k0_1 k0_2 k0_3 k0_4 k0_5 k0_6 k0_7 k0_8 k0_9 k0_10 k0_11 k0_12 k0_13 k0_14 k0_15 v32 L90000 = some t → B10_0 (lstA TSequenceArrival.E a0) (lstA intE a1) c6 (lstA intE c7) (ownV intE 90000 L90000) (lstA intE a1) c31 v32 k0_0 k0_1 k0_2 k0_3 k0_4 k0_5 k0_6 k0_7 k0_8 k0_9 k0_10 k0_11 k0_12 k0_13 k0_14 k0_15 [(90000, ownB intE 3 L90000)] R N0 := by
  unfold S10_0 B10_0
  refine cond_b (fun _ => ?_) (fun _ => ?_)
  · refine bind_b fun x40 h40 => ?_
    refine imp (opP_of (show _ = some ((AV.ept [(intA x40)] 0), []) from (idx_lst (E := intE) rfl h40))) ?_
    refine imp (opP_of (show _ = some ((intA x40), []) from rfl)) ?_
    refine imp ex_i64_b ?_
    refine cond_b (fun _ => ?_) (fun _ => ?_)
    · exact fun hg => ret1 (hR _ (Option.some.inj hg).symm) (fz_sc _ _)
    · refine imp (opP_of (show _ = some ((intA (a0.length : Int)), []) from rfl)) ?_
      refine imp ex_i64_b ?_
      refine cond_b (fun _ => ?_) (fun _ => ?_)
      · exact fun hg => ret1 (hR _ (Option.some.inj hg).symm) (fz_sc _ _)
      · refine bind_b fun x41 h41 => ?_
        refine imp (opP_of (show _ = some ((AV.ept [(strA x41.Call), (intA x41.Wake), (intA x41.Time), (intA x41.Latest)] 0), []) from (idx_lst (E := TSequenceArrival.E) rfl h41))) ?_
        refine imp (opP_of (show _ = some ((AV.ept [(strA x41.Call), (intA x41.Wake), (intA x41.Time), (intA x41.Latest)] 1), []) from rfl)) ?_
        refine imp (opP_of (show _ = some ((intA x41.Wake), []) from rfl)) ?_
        refine imp ex_i64_b ?_
        refine imp (opN_of (show _ = some ((blkV intE 100018 ([x41.Wake] : List Int)), [(100018, some ⟨encs intE ([x41.Wake] : List Int), 3⟩)]) from rfl)) ?_
        refine bind_b fun x42 h42 => ?_
        refine imp (opN_of (show _ = some ((ownV intE 100019 (L90000 ++ ([x41.Wake] : List Int))), (appW intE 100019 90000 3 L90000 ([x41.Wake] : List Int))) from (app_own (E := intE) (l' := L90000) (xs := ([x41.Wake] : List Int)) rfl rfl (cellsOf_blk (E := intE) (ty := 3) rfl rfl (by first | rfl | (simp (disch := decide) only [mpushs_nil, mpushs_cons, mget_hd, mget_tl, mget_appW_o, mget_appW_n]))) (by simp) rfl (fun hne => Eq.trans (by first | rfl | (simp (disch := decide) only [mpushs_nil, mpushs_cons, mget_hd, mget_tl, mget_appW_o, mget_appW_n])) (ownB_ne hne)) h42))) ?_
        exact fun hg => hN0 _ (Option.some.inj hg).symm _ (weak_mem [(90000, 100019), (0, 0)] rfl rfl rfl (okW_cons (ent_lst (E := TSequenceArrival.E) _ false) (okW_cons (ent_lst (E := intE) _ false) (okW_cons (.inl (leV_refl _)) (okW_cons (.inl (leV_refl _)) (okW_cons (ent_lst (E := intE) _ false) (okW_cons (ent_own (E := intE) (id := 100019) (l' := (L90000 ++ ([x41.Wake] : List Int))) rfl rfl) (okW_cons (ent_lst (E := intE) _ false) (okW_cons (.inl (leV_refl _)) (okW_cons (.inl (leV_refl _)) okW_nil))))))))) (okB_cons (okB_cells (cs := [(intA k0_0), (intA k0_1), (intA k0_2), (intA k0_3), (intA k0_4), (intA k0_5), (intA k0_6), (intA k0_7), (intA k0_8), (intA k0_9), (intA k0_10), (intA k0_11), (intA k0_12), (intA k0_13), (intA k0_14), (intA k0_15)]) (ty := 24) rfl (show mget _ 0 = _ from (by first | rfl | (simp (disch := decide) only [mpushs_nil, mpushs_cons, mget_hd, mget_tl, mget_appW_o, mget_appW_n])))) (okB_cons (okB_own (E := intE) (ty := 3) (l' := (L90000 ++ ([x41.Wake] : List Int))) rfl (show mget _ 100019 = _ from (by first | rfl | (simp (disch := decide) only [mpushs_nil, mpushs_cons, mget_hd, mget_tl, mget_appW_o, mget_appW_n])))) okB_nil')))
  · refine bind_b fun x54 h54 => ?_
    refine imp (callQ_pure (pure_snapN (snL_cons (sn_agg _ (snL_cons (sn_sc _ _) (snL_cons (sn_sc _ _) (snL_cons (sn_sc _ _) (snL_cons (sn_sc _ _) (snL_cons (sn_sc _ _) (snL_cons (sn_sc _ _) (snL_cons (sn_sc _ _) (snL_cons (sn_sc _ _) (snL_cons (sn_sc _ _) (snL_cons (sn_sc _ _) (snL_cons (sn_sc _ _) (snL_cons (sn_sc _ _) (snL_cons (sn_sc _ _) (snL_cons (sn_sc _ _) (snL_cons (sn_sc _ _) (snL_cons (sn_sc _ _) snL_nil))))))))))))))))) (snL_cons (sn_own (E := intE) (ty := 3) (l' := L90000) _ intE.nf rfl (by first | rfl | (simp (disch := decide) only [mpushs_nil, mpushs_cons, mget_hd, mget_tl, mget_appW_o, mget_appW_n]))) (snL_cons (sn_lst (E := intE) _ _ false) snL_nil))) (sg16 h54) rfl)) ?_
    refine imp exT2_b ?_
    refine imp exB_b ?_
    refine imp ex_i64_b ?_
    refine cond_b (fun _ => ?_) (fun _ => ?_)
    · exact fun hg => ret1 (hR _ (Option.some.inj hg).symm) (fz_sc _ _)
    · refine cond_b (fun _ => ?_) (fun _ => ?_)
      · exact fun hg => ret1 (hR _ (Option.some.inj hg).symm) (fz_sc _ _)
      · refine imp (opP_of (show _ = some ((intA (a1.length : Int)), []) from rfl)) ?_
        refine imp ex_i64_b ?_
        refine mapInr_b fun t0 e0 => ?_
        exact fun hg => L10_1_ok n a0 c6 c7 a1 (a1.length : Int) R  (fun r e => hR r (e0.trans (congrArg Sum.inr e))) n _ hg (weak_mem [] rfl rfl rfl (okW_cons (ent_lst (E := TSequenceArrival.E) _ false) (okW_cons (.inl (leV_refl _)) (okW_cons (ent_lst (E := intE) _ false) (okW_cons (ent_lst (E := intE) _ false) (okW_cons (.inl (leV_refl _)) (okW_cons (.inl (leV_refl _)) okW_nil)))))) okB_nil')
theorem L10_0_ok (n : Nat) (a0 : List TSequenceArrival) (a1 : List Int) (c6 : Bool) (c7 : List Int) (c31 : Int) (k0_0 : Int) (k0_1 : Int) (k0_2 : Int) (k0_3 : Int) (k0_4 : Int) (k0_5 : Int) (k0_6 : Int) (k0_7 : Int) (k0_8 : Int) (k0_9 : Int) (k0_10 : Int) (k0_11 : Int) (k0_12 : Int) (k0_13 : Int) (k0_14 : Int) (k0_15 : Int) {t : ρ10} (R : AV → Mem → Prop) (hR : ∀ r : ρ10, t = r → ∀ u m, Ans ((boolA r)) u m → R u m) (k : Nat) (x : Int × List Int) (hx : iterO (fun y : Int × List Int => S10_0 n a0 a1 c6 c7 c31 k0_0 k0_1 k0_2 k0_3 k0_4 k0_5 k0_6 k0_7 k0_8 k0_9 k0_10 k0_11 k0_12 k0_13 k0_14 k0_15 y.1 y.2) k x = some t) {s : St} (hw : Weak KK 96 0 s (h10_0 (lstA TSequenceArrival.E a0) (lstA intE a1) c6 (lstA intE c7) (ownV intE 90000 x.2) (lstA intE a1) c31 x.1 k0_0 k0_1 k0_2 k0_3 k0_4 k0_5 k0_6 k0_7 k0_8 k0_9 k0_10 k0_11 k0_12 k0_13 k0_14 k0_15 [(90000, ownB intE 3 x.2)])) : Tri Try.prog KK 96 0 (.loop c10_0) s (q10_0 R ) :=
  L10_0 R  (σ := Nat × (Int × List Int)) (fun z => iterO (fun y : Int × List Int => S10_0 n a0 a1 c6 c7 c31 k0_0 k0_1 k0_2 k0_3 k0_4 k0_5 k0_6 k0_7 k0_8 k0_9 k0_10 k0_11 k0_12 k0_13 k0_14 k0_15 y.1 y.2) z.1 z.2 = some t) (fun z => (lstA TSequenceArrival.E a0)) (fun z => (lstA intE a1)) (fun z => c6) (fun z => (lstA intE c7)) (fun z => (ownV intE 90000 z.2.2)) (fun z => (lstA intE a1)) (fun z => c31) (fun z => z.2.1) (fun z => k0_0) (fun z => k0_1) (fun z => k0_2) (fun z => k0_3) (fun z => k0_4) (fun z => k0_5) (fun z => k0_6) (fun z => k0_7) (fun z => k0_8) (fun z => k0_9) (fun z => k0_10) (fun z => k0_11) (fun z => k0_12) (fun z => k0_13) (fun z => k0_14) (fun z => k0_15) (fun z => [(90000, ownB intE 3 z.2.2)]) (fun z => z.1) (by
    rintro ⟨k, y⟩ h
    cases k with
    | zero => exact (iterO_zero h).elim
    | succ k =>
      obtain ⟨u, h1, h2, h3⟩ := iterO_elim h
      exact B10_0_ok n a0 a1 c6 c7 c31 k0_0 k0_1 k0_2 k0_3 k0_4 k0_5 k0_6 k0_7 k0_8 k0_9 k0_10 k0_11 k0_12 k0_13 k0_14 k0_15 y.1 y.2 R  _ (fun r e => hR r (h3 _ e).symm)  (fun y' e s' hw => ⟨(k, y'), h2 _ e, Nat.lt_succ_self k, hw⟩) h1) (k, x) hx hw
theorem g10_ok (n : Nat) (a0 : List TSequenceArrival) (a1 : List Int) (a2 : TWakeTable) {t : ρ10} (R : AV → Mem → Prop) (hR : ∀ r : ρ10, t = r → ∀ u m, Ans ((boolA r)) u m → R u m) : g10 n a0 a1 a2 = some t → F10 (lstA TSequenceArrival.E a0) (lstA intE a1) a2.c0_0 a2.c0_1 a2.c0_2 a2.c0_3 a2.c1_0 a2.c1_1 a2.c1_2 a2.c1_3 a2.c2_0 a2.c2_1 a2.c2_2 a2.c2_3 a2.c3_0 a2.c3_1 a2.c3_2 a2.c3_3 R := by
  unfold g10 F10
  refine bind_b fun x0 h0 => ?_
  refine imp (callQ_says (sg28 h0)) ?_
  refine imp exB_b ?_
  refine cond_b (fun _ => ?_) (fun _ => ?_)
  · exact fun hg => ret1 (hR _ (Option.some.inj hg).symm) (fz_sc _ _)
  · refine bind_b fun x39 h39 => ?_
    refine imp (callQ_says (sg32 h39)) ?_
    refine imp exT2_b ?_
    refine imp ex_i64_b ?_
    refine cond_b (fun _ => ?_) (fun _ => ?_)
    · refine imp (opP_of (show _ = some ((intA (x39.1.length : Int)), []) from rfl)) ?_
      refine imp ex_i64_b ?_
      exact fun hg => ret1 (hR _ (Option.some.inj hg).symm) (fz_sc _ _)
    · refine imp (opP_of (show _ = some ((intA (a1.length : Int)), []) from rfl)) ?_
      refine imp ex_i64_b ?_
      exact fun hg => L10_0_ok n a0 a1 false x39.1 (a1.length : Int) a2.c0_0 a2.c0_1 a2.c0_2 a2.c0_3 a2.c1_0 a2.c1_1 a2.c1_2 a2.c1_3 a2.c2_0 a2.c2_1 a2.c2_2 a2.c2_3 a2.c3_0 a2.c3_1 a2.c3_2 a2.c3_3 R  hR n _ hg (weak_mem [(90000, 89500), (0, 0)] rfl rfl rfl (okW_cons (ent_lst (E := TSequenceArrival.E) _ false) (okW_cons (ent_lst (E := intE) _ false) (okW_cons (.inl (leV_refl _)) (okW_cons (.inl (leV_refl _)) (okW_cons (ent_lst (E := intE) _ false) (okW_cons ent_nils_own (okW_cons (ent_lst (E := intE) _ false) (okW_cons (.inl (leV_refl _)) (okW_cons (.inl (leV_refl _)) okW_nil))))))))) (okB_cons (okB_cells (cs := [(intA a2.c0_0), (intA a2.c0_1), (intA a2.c0_2), (intA a2.c0_3), (intA a2.c1_0), (intA a2.c1_1), (intA a2.c1_2), (intA a2.c1_3), (intA a2.c2_0), (intA a2.c2_1), (intA a2.c2_2), (intA a2.c2_3), (intA a2.c3_0), (intA a2.c3_1), (intA a2.c3_2), (intA a2.c3_3)]) (ty := 24) rfl (show mget _ 0 = _ from (by first | rfl | (simp (disch := decide) only [mpushs_nil, mpushs_cons, mget_hd, mget_tl, mget_appW_o, mget_appW_n])))) (okB_cons okB_nil okB_nil')))
theorem sg10 {n : Nat} {a0 : List TSequenceArrival} {a1 : List Int} {a2 : TWakeTable} {t : ρ10} (h : g10 n a0 a1 a2 = some t) : Says Try.prog KK.gl 10 [(lstA TSequenceArrival.E a0), (lstA intE a1), (AV.agg [(intA a2.c0_0), (intA a2.c0_1), (intA a2.c0_2), (intA a2.c0_3), (intA a2.c1_0), (intA a2.c1_1), (intA a2.c1_2), (intA a2.c1_3), (intA a2.c2_0), (intA a2.c2_1), (intA a2.c2_2), (intA a2.c2_3), (intA a2.c3_0), (intA a2.c3_1), (intA a2.c3_2), (intA a2.c3_3)])] ((boolA t)) :=
  says_of_own (by first | rfl | simp [cleans, clean, encs_clean, En.cln]) (by first | rfl | simp [cleans, clean, encs_clean, En.cln]) (F10_own (lstA TSequenceArrival.E a0) (lstA intE a1) a2.c0_0 a2.c0_1 a2.c0_2 a2.c0_3 a2.c1_0 a2.c1_1 a2.c1_2 a2.c1_3 a2.c2_0 a2.c2_1 a2.c2_2 a2.c2_3 a2.c3_0 a2.c3_1 a2.c3_2 a2.c3_3 _ (g10_ok n a0 a1 a2 (Ans ((boolA t))) (fun r e u m h => by rw [e]; exact h) h))
end Go.Proofs.Ytfmodgffhbljoaa
