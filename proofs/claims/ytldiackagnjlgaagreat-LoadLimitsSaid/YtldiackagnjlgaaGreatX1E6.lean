/- Plain functional programs out of the program's functions, with proofs that the functions compute them; printed by wip/Ext.lean.txt. -/
import Derived.Test.YtldiackagnjlgaaGreatX1E5
import Derived.Test.YtldiackagnjlgaaGreatLfH
set_option linter.unusedVariables false
set_option linter.unusedSimpArgs false
set_option maxRecDepth 100000
set_option maxHeartbeats 4000000
namespace Go.Proofs.YtldiackagnjlgaaGreat
/- skyway/skywaykeep3.LoadLimits -/
theorem B4_1_ok (n : Nat) (c6 : Bool) (c8 : List Int) (c14 : List TLoadOver) (c93 : Int) (v94 : Int) {t : (Int) ⊕ ρ4} (R : AV → Mem → Prop) (N0 : St → Prop) (hR : ∀ r : ρ4, t = (.inr r) → ∀ u m, Ans ((boolA r)) u m → R u m) (hN0 : ∀ y : Int, t = (.inl y) → ∀ s' : St, Weak KK 115 0 s' (h4_1 c6 (lstA intE c8) (lstA TLoadOver.E c14) c93 y []) → N0 s') : S4_1 n c6 c8 c14 c93 v94 = some t → B4_1 c6 (lstA intE c8) (lstA TLoadOver.E c14) c93 v94 [] R N0 := by
  unfold S4_1 B4_1
  refine cond_b (fun _ => ?_) (fun _ => ?_)
  · refine bind_b fun x207 h207 => ?_
    refine imp (callQ_pure (pure_snapN (snL_cons (sn_lst (E := TLoadOver.E) _ _ false) (snL_cons (sn_fn _ _ (snL_cons (sn_ptr _ (ty := 3) (us := [(intA v94)]) (by first | rfl | (simp (disch := first | decide | assumption) only [mpushs_nil, mpushs_cons, mget_hd, mget_tl, mget_appW_o, mget_appW_n, mget_appW_e])) (snL_cons (sn_sc _ _) snL_nil)) snL_nil)) snL_nil)) (sg14 h207) rfl)) ?_
    refine imp ex_i64_b ?_
    refine cond_b (fun _ => ?_) (fun _ => ?_)
    · exact fun hg => ret1 (hR _ (Option.some.inj hg).symm) (fz_sc _ _)
    · refine bind_b fun x208 h208 => ?_
      refine imp (opP_of (show _ = some ((AV.ept [(intA x208.Sector), (intA x208.From), (intA x208.To)] 0), []) from (idx_lst (E := TLoadOver.E) rfl h208))) ?_
      refine imp (opP_of (show _ = some ((AV.ept [(intA x208.Sector), (intA x208.From), (intA x208.To)] 1), []) from rfl)) ?_
      refine imp (opP_of (show _ = some ((intA x208.From), []) from rfl)) ?_
      refine imp ex_i64_b ?_
      refine bind_b fun x209 h209 => ?_
      refine imp (opP_of (show _ = some ((AV.ept [(intA x209)] 0), []) from (idx_lst (E := intE) rfl h209))) ?_
      refine imp (opP_of (show _ = some ((intA x209), []) from rfl)) ?_
      refine imp ex_i64_b ?_
      refine cond_b (fun _ => ?_) (fun _ => ?_)
      · exact fun hg => ret1 (hR _ (Option.some.inj hg).symm) (fz_sc _ _)
      · exact fun hg => hN0 _ (Option.some.inj hg).symm _ (weak_mem [] rfl rfl rfl (okW_cons (.inl (leV_refl _)) (okW_cons (ent_lst (E := intE) _ false) (okW_cons (ent_lst (E := TLoadOver.E) _ false) (okW_cons (.inl (leV_refl _)) (okW_cons (.inl (leV_refl _)) okW_nil))))) okB_nil')
  · exact fun hg => ret1 (hR _ (Option.some.inj hg).symm) (fz_sc _ _)
theorem L4_1_ok (n : Nat) (c6 : Bool) (c8 : List Int) (c14 : List TLoadOver) (c93 : Int) {t : ρ4} (R : AV → Mem → Prop) (hR : ∀ r : ρ4, t = r → ∀ u m, Ans ((boolA r)) u m → R u m) (k : Nat) (x : Int) (hx : iterO (fun y : Int => S4_1 n c6 c8 c14 c93 y) k x = some t) {s : St} (hw : Weak KK 115 0 s (h4_1 c6 (lstA intE c8) (lstA TLoadOver.E c14) c93 x [])) : Tri Tryz.prog KK 115 0 (.loop c4_1) s (q4_1 R ) :=
  L4_1 R  (σ := Nat × (Int)) (fun z => iterO (fun y : Int => S4_1 n c6 c8 c14 c93 y) z.1 z.2 = some t) (fun z => c6) (fun z => (lstA intE c8)) (fun z => (lstA TLoadOver.E c14)) (fun z => c93) (fun z => z.2) (fun z => []) (fun z => z.1) (by
    rintro ⟨k, y⟩ h
    cases k with
    | zero => exact (iterO_zero h).elim
    | succ k =>
      obtain ⟨u, h1, h2, h3⟩ := iterO_elim h
      exact B4_1_ok n c6 c8 c14 c93 y R  _ (fun r e => hR r (h3 _ e).symm)  (fun y' e s' hw => ⟨(k, y'), h2 _ e, Nat.lt_succ_self k, hw⟩) h1) (k, x) hx hw
theorem B4_0_ok (n : Nat) (a0 : List TSector) (a1 : List (List TTubeNode)) (c6 : Bool) (c7 : List Int) (c8 : List Int) (c10 : List TLoadOver) (c11 : Int) (c55 : Int) (k0_0 : Int) (k0_1 : Int) (v56 : Int) (L90000 : List Int) {t : (Int × List Int) ⊕ ρ4} (R : AV → Mem → Prop) (N0 : St → Prop) (hR : ∀ r : ρ4, t = (.inr r) → ∀ u m, Ans ((boolA r)) u m → R u m) (hN0 : ∀ y : Int × List Int, t = (.inl y) → ∀ s' : St, Weak KK 115 0 s' (h4_0 (lstA TSector.E a0) (lstA (lstE TTubeNode.E) a1) c6 (lstA intE c7) (lstA intE c8) (lstA TLoadOver.E c10) c11 (ownV intE 90000 y.2) c55 y.1 [(90000, ownB intE 3 y.2), (0, some ⟨[(intA k0_0), (intA k0_1)], 41⟩)]) → N0 s') : S4_0 n a0 a1 c6 c7 c8 c10 c11 c55 k0_0 k0_1 v56 L90000 = some t → B4_0 (lstA TSector.E a0) (lstA (lstE TTubeNode.E) a1) c6 (lstA intE c7) (lstA intE c8) (lstA TLoadOver.E c10) c11 (ownV intE 90000 L90000) c55 v56 [(90000, ownB intE 3 L90000), (0, some ⟨[(intA k0_0), (intA k0_1)], 41⟩)] R N0 := by
  unfold S4_0 B4_0
  refine cond_b (fun _ => ?_) (fun _ => ?_)
  · refine bind_b fun x188 h188 => ?_
    refine imp (opP_of (show _ = some ((AV.ptr 90000 (((v56 : Int).toNat) * 1 + 0)), []) from (idx_own (E := intE) rfl h188))) ?_
    refine imp (opP_of (show _ = some ((intA x188), []) from (ldS_blk (E := intE) (l := L90000) (ty := 3) (o := 0) (own_some (ty := 3) (by first | rfl | (simp (disch := first | decide | assumption) only [mpushs_nil, mpushs_cons, mget_hd, mget_tl, mget_appW_o, mget_appW_n, mget_appW_e])) (getI_some h188).2) (getI_some h188).2 rfl (by decide) rfl))) ?_
    refine imp ex_i64_b ?_
    refine bind_b fun x189 h189 => ?_
    refine imp (opP_of (show _ = some ((AV.ptr 90000 (((v56 : Int).toNat) * 1 + 0)), []) from (idx_own (E := intE) rfl h189))) ?_
    refine imp (storeW_elO (E := intE) (l := L90000) (i := ((v56 : Int).toNat)) (o := 0) (y := (IntKind.wrap .i64 (x188 - (1)))) (ty := 3) (by kernel_rfl) (by kernel_rfl) rfl (by first | rfl | (simp (disch := first | decide | assumption) only [mpushs_nil, mpushs_cons, mget_hd, mget_tl, mget_appW_o, mget_appW_n, mget_appW_e])) (getI_some h189).2 rfl (by decide) rfl) ?_
    exact fun hg => hN0 _ (Option.some.inj hg).symm _ (weak_mem [(90000, 90000), (0, 0)] rfl rfl rfl (okW_cons (ent_lst (E := TSector.E) _ false) (okW_cons (ent_lst (E := (lstE TTubeNode.E)) _ false) (okW_cons (.inl (leV_refl _)) (okW_cons (.inl (leV_refl _)) (okW_cons (ent_lst (E := intE) _ false) (okW_cons (ent_lst (E := intE) _ false) (okW_cons (ent_lst (E := TLoadOver.E) _ false) (okW_cons (.inl (leV_refl _)) (okW_cons (ent_own (E := intE) (id := 90000) (l' := (L90000.set ((v56 : Int).toNat) (IntKind.wrap .i64 (x188 - (1))))) (by first | rfl | omega | (simp; done) | (simp; omega)) rfl) (okW_cons (.inl (leV_refl _)) (okW_cons (.inl (leV_refl _)) okW_nil))))))))))) (okB_cons (okB_own (E := intE) (ty := 3) (l' := (L90000.set ((v56 : Int).toNat) (IntKind.wrap .i64 (x188 - (1))))) rfl (show mget _ 90000 = _ from (by first | rfl | (simp (disch := first | decide | assumption) only [mpushs_nil, mpushs_cons, mget_hd, mget_tl, mget_appW_o, mget_appW_n, mget_appW_e])))) (okB_cons (okB_cells (cs := [(intA k0_0), (intA k0_1)]) (ty := 41) rfl (show mget _ 0 = _ from (by first | rfl | (simp (disch := first | decide | assumption) only [mpushs_nil, mpushs_cons, mget_hd, mget_tl, mget_appW_o, mget_appW_n, mget_appW_e])))) okB_nil')))
  · refine imp (opP_of (show _ = some ((AV.agg [(intA k0_0), (intA k0_1)]), []) from (ldA_ptr (b := ⟨[(intA k0_0), (intA k0_1)], 41⟩) (by first | rfl | (simp (disch := first | decide | assumption) only [mpushs_nil, mpushs_cons, mget_hd, mget_tl, mget_appW_o, mget_appW_n, mget_appW_e])) rfl))) ?_
    refine imp exA2_b ?_
    refine imp ex_i64_b ?_
    refine imp ex_i64_b ?_
    refine bind_b fun x190 h190 => ?_
    refine imp (callW_D (show PureD _ _ _ _ _ _ (AV.tup [(ownV TLoadOver.E 100005 x190.1), (intA x190.2)]) [(100005, ownB TLoadOver.E 49 x190.1)] from mg12S h190 (snL_cons (sn_lst (E := TSector.E) _ _ false) (snL_cons (sn_lst (E := (lstE TTubeNode.E)) _ _ false) (snL_cons (sn_own (E := intE) (ty := 3) (l' := L90000) _ intE.nf rfl (by first | rfl | (simp (disch := first | decide | assumption) only [mpushs_nil, mpushs_cons, mget_hd, mget_tl, mget_appW_o, mget_appW_n, mget_appW_e]))) (snL_cons (sn_agg _ (snL_cons (sn_sc _ _) (snL_cons (sn_sc _ _) snL_nil))) snL_nil)))))) ?_
    refine imp exT2_b ?_
    refine imp ex_i64_b ?_
    refine cond_b (fun _ => ?_) (fun _ => ?_)
    · exact fun hg => ret1 (hR _ (Option.some.inj hg).symm) (fz_sc _ _)
    · refine cond_b (fun _ => ?_) (fun _ => ?_)
      · exact fun hg => ret1 (hR _ (Option.some.inj hg).symm) (fz_sc _ _)
      · refine imp (opP_of (show _ = some ((intA (c10.length : Int)), []) from rfl)) ?_
        refine imp ex_i64_b ?_
        refine cond_b (fun _ => ?_) (fun _ => ?_)
        · exact fun hg => ret1 (hR _ (Option.some.inj hg).symm) (fz_sc _ _)
        · refine imp (opP_of (show _ = some ((intA (c8.length : Int)), []) from rfl)) ?_
          refine imp ex_i64_b ?_
          refine imp (opP_of (show _ = some ((intA (c7.length : Int)), []) from rfl)) ?_
          refine imp ex_i64_b ?_
          refine cond_b (fun _ => ?_) (fun _ => ?_)
          · exact fun hg => ret1 (hR _ (Option.some.inj hg).symm) (fz_sc _ _)
          · refine imp (opP_of (show _ = some ((intA (c7.length : Int)), []) from rfl)) ?_
            refine imp ex_i64_b ?_
            refine mapInr_b fun t0 e0 => ?_
            exact fun hg => L4_1_ok n c6 c8 x190.1 (c7.length : Int) R  (fun r e => hR r (e0.trans (congrArg Sum.inr e))) n _ hg (weak_mem [] rfl rfl rfl (okW_cons (.inl (leV_refl _)) (okW_cons (ent_lst (E := intE) _ false) (okW_cons (ent_own_frz (E := TLoadOver.E) (ty := 49) (l' := x190.1) rfl (by first | rfl | (simp (disch := first | decide | assumption) only [mpushs_nil, mpushs_cons, mget_hd, mget_tl, mget_appW_o, mget_appW_n, mget_appW_e])) rfl) (okW_cons (.inl (leV_refl _)) (okW_cons (.inl (leV_refl _)) okW_nil))))) okB_nil')
theorem L4_0_ok (n : Nat) (a0 : List TSector) (a1 : List (List TTubeNode)) (c6 : Bool) (c7 : List Int) (c8 : List Int) (c10 : List TLoadOver) (c11 : Int) (c55 : Int) (k0_0 : Int) (k0_1 : Int) {t : ρ4} (R : AV → Mem → Prop) (hR : ∀ r : ρ4, t = r → ∀ u m, Ans ((boolA r)) u m → R u m) (k : Nat) (x : Int × List Int) (hx : iterO (fun y : Int × List Int => S4_0 n a0 a1 c6 c7 c8 c10 c11 c55 k0_0 k0_1 y.1 y.2) k x = some t) {s : St} (hw : Weak KK 115 0 s (h4_0 (lstA TSector.E a0) (lstA (lstE TTubeNode.E) a1) c6 (lstA intE c7) (lstA intE c8) (lstA TLoadOver.E c10) c11 (ownV intE 90000 x.2) c55 x.1 [(90000, ownB intE 3 x.2), (0, some ⟨[(intA k0_0), (intA k0_1)], 41⟩)])) : Tri Tryz.prog KK 115 0 (.loop c4_0) s (q4_0 R ) :=
  L4_0 R  (σ := Nat × (Int × List Int)) (fun z => iterO (fun y : Int × List Int => S4_0 n a0 a1 c6 c7 c8 c10 c11 c55 k0_0 k0_1 y.1 y.2) z.1 z.2 = some t) (fun z => (lstA TSector.E a0)) (fun z => (lstA (lstE TTubeNode.E) a1)) (fun z => c6) (fun z => (lstA intE c7)) (fun z => (lstA intE c8)) (fun z => (lstA TLoadOver.E c10)) (fun z => c11) (fun z => (ownV intE 90000 z.2.2)) (fun z => c55) (fun z => z.2.1) (fun z => [(90000, ownB intE 3 z.2.2), (0, some ⟨[(intA k0_0), (intA k0_1)], 41⟩)]) (fun z => z.1) (by
    rintro ⟨k, y⟩ h
    cases k with
    | zero => exact (iterO_zero h).elim
    | succ k =>
      obtain ⟨u, h1, h2, h3⟩ := iterO_elim h
      exact B4_0_ok n a0 a1 c6 c7 c8 c10 c11 c55 k0_0 k0_1 y.1 y.2 R  _ (fun r e => hR r (h3 _ e).symm)  (fun y' e s' hw => ⟨(k, y'), h2 _ e, Nat.lt_succ_self k, hw⟩) h1) (k, x) hx hw
theorem g4_ok (n : Nat) (a0 : List TSector) (a1 : List (List TTubeNode)) (a2 : TSpan) {t : ρ4} (R : AV → Mem → Prop) (hR : ∀ r : ρ4, t = r → ∀ u m, Ans ((boolA r)) u m → R u m) : g4 n a0 a1 a2 = some t → F4 (lstA TSector.E a0) (lstA (lstE TTubeNode.E) a1) a2.From a2.To R := by
  unfold g4 F4
  refine bind_b fun x144 h144 => ?_
  refine imp (callQ_says (sg5 h144)) ?_
  refine imp exB_b ?_
  refine cond_b (fun _ => ?_) (fun _ => ?_)
  · exact fun hg => ret1 (hR _ (Option.some.inj hg).symm) (fz_sc _ _)
  · refine bind_b fun x149 h149 => ?_
    refine imp (callQ_says (sg6 h149)) ?_
    refine imp exB_b ?_
    refine cond_b (fun _ => ?_) (fun _ => ?_)
    · exact fun hg => ret1 (hR _ (Option.some.inj hg).symm) (fz_sc _ _)
    · refine bind_b fun x169 h169 => ?_
      refine imp (callQ_says (sg11 h169)) ?_
      refine imp exT3_b ?_
      refine imp ex_i64_b ?_
      refine cond_b (fun _ => ?_) (fun _ => ?_)
      · refine imp (opP_of (show _ = some ((intA (x169.1.length : Int)), []) from rfl)) ?_
        refine imp ex_i64_b ?_
        refine imp (opP_of (show _ = some ((intA (x169.2.1.length : Int)), []) from rfl)) ?_
        refine imp ex_i64_b ?_
        exact fun hg => ret1 (hR _ (Option.some.inj hg).symm) (fz_sc _ _)
      · refine imp (opP_of (show _ = some ((intA (x169.1.length : Int)), []) from rfl)) ?_
        refine imp ex_i64_b ?_
        refine cond_b (fun _ => ?_) (fun _ => ?_)
        · refine imp (opP_of (show _ = some ((intA (x169.1.length : Int)), []) from rfl)) ?_
          refine imp ex_i64_b ?_
          refine imp (opP_of (show _ = some ((intA (x169.2.1.length : Int)), []) from rfl)) ?_
          refine imp ex_i64_b ?_
          exact fun hg => ret1 (hR _ (Option.some.inj hg).symm) (fz_sc _ _)
        · refine bind_b fun x186 h186 => ?_
          refine imp (callW_says (sg12 h186)) ?_
          refine imp exT2_b ?_
          refine imp ex_i64_b ?_
          refine bind_b fun x187 h187 => ?_
          refine imp (callW_D (show PureD _ _ _ _ _ _ (ownV intE 288 x169.1) [(288, ownB intE 3 x169.1)] from cloneC13 h187)) ?_
          refine imp (opP_of (show _ = some ((intA (x169.1.length : Int)), []) from len_own)) ?_
          refine imp ex_i64_b ?_
          exact fun hg => L4_0_ok n a0 a1 false x169.1 x169.2.1 x186.1 x186.2 (x169.1.length : Int) a2.From a2.To R  hR n _ hg (weak_mem [(90000, 288), (0, 0)] rfl rfl rfl (okW_cons (ent_lst (E := TSector.E) _ false) (okW_cons (ent_lst (E := (lstE TTubeNode.E)) _ false) (okW_cons (.inl (leV_refl _)) (okW_cons (.inl (leV_refl _)) (okW_cons (ent_lst (E := intE) _ false) (okW_cons (ent_lst (E := intE) _ false) (okW_cons (ent_lst (E := TLoadOver.E) _ false) (okW_cons (.inl (leV_refl _)) (okW_cons (ent_own (E := intE) (id := 288) (l' := x169.1) rfl rfl) (okW_cons (.inl (leV_refl _)) (okW_cons (.inl (leV_refl _)) okW_nil))))))))))) (okB_cons (okB_own (E := intE) (ty := 3) (l' := x169.1) rfl (show mget _ 288 = _ from (by first | rfl | (simp (disch := first | decide | assumption) only [mpushs_nil, mpushs_cons, mget_hd, mget_tl, mget_appW_o, mget_appW_n, mget_appW_e])))) (okB_cons (okB_cells (cs := [(intA a2.From), (intA a2.To)]) (ty := 41) rfl (show mget _ 0 = _ from (by first | rfl | (simp (disch := first | decide | assumption) only [mpushs_nil, mpushs_cons, mget_hd, mget_tl, mget_appW_o, mget_appW_n, mget_appW_e])))) okB_nil')))
theorem sg4 {n : Nat} {a0 : List TSector} {a1 : List (List TTubeNode)} {a2 : TSpan} {t : ρ4} (h : g4 n a0 a1 a2 = some t) : Says Tryz.prog KK.gl 4 [(lstA TSector.E a0), (lstA (lstE TTubeNode.E) a1), (AV.agg [(intA a2.From), (intA a2.To)])] ((boolA t)) :=
  says_of_own (by first | rfl | simp [cleans, clean, encs_clean, En.cln]) (by first | rfl | simp [cleans, clean, encs_clean, En.cln]) (F4_own (lstA TSector.E a0) (lstA (lstE TTubeNode.E) a1) a2.From a2.To _ (g4_ok n a0 a1 a2 (Ans ((boolA t))) (fun r e u m h => by rw [e]; exact h) h))
end Go.Proofs.YtldiackagnjlgaaGreat
