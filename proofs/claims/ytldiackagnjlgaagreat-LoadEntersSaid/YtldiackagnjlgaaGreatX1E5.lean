/- Plain functional programs out of the program's functions, with proofs that the functions compute them; printed by wip/Ext.lean.txt. -/
import Derived.Test.YtldiackagnjlgaaGreatX1E4
import Derived.Test.YtldiackagnjlgaaGreatLfH
set_option linter.unusedVariables false
set_option linter.unusedSimpArgs false
set_option maxRecDepth 100000
set_option maxHeartbeats 4000000
namespace Go.Proofs.YtldiackagnjlgaaGreat
/- skyway/skywaykeep3.LoadEnters -/
theorem B3_0_0_ok (n : Nat) (a0 : List TSector) (c4 : Bool) (a1 : List (List TTubeNode)) (c35 : Int) (v36 : Int) (c48 : List TSectorVisit) (c49 : Int) (w50 : Int) (L90000 : List Int) {t : (Int × List Int) ⊕ ((Int × List Int) ⊕ ρ3)} (R : AV → Mem → Prop) (N0 : St → Prop) (N1 : St → Prop) (hR : ∀ r : ρ3, t = (.inr (.inr r)) → ∀ u m, Ans ((boolA r)) u m → R u m) (hN0 : ∀ y : Int × List Int, t = (.inr (.inl y)) → ∀ s' : St, Weak KK 74 0 s' (h3_0 (lstA TSector.E a0) c4 (ownV intE 90000 y.2) (lstA (lstE TTubeNode.E) a1) c35 y.1 [(90000, ownB intE 3 y.2)]) → N0 s') (hN1 : ∀ y : Int × List Int, t = (.inl y) → ∀ s' : St, Weak KK 74 0 s' (h3_0_0 (lstA TSector.E a0) c4 (ownV intE 90000 y.2) (lstA (lstE TTubeNode.E) a1) c35 v36 (lstA TSectorVisit.E c48) c49 y.1 [(90000, ownB intE 3 y.2)]) → N1 s') : S3_0_0 n a0 c4 a1 c35 v36 c48 c49 w50 L90000 = some t → B3_0_0 (lstA TSector.E a0) c4 (ownV intE 90000 L90000) (lstA (lstE TTubeNode.E) a1) c35 v36 (lstA TSectorVisit.E c48) c49 w50 [(90000, ownB intE 3 L90000)] R N0 N1 := by
  unfold S3_0_0 B3_0_0
  refine cond_b (fun _ => ?_) (fun _ => ?_)
  · refine bind_b fun x170 h170 => ?_
    refine imp (opP_of (show _ = some ((AV.ept [(intA x170.Sector), (intA x170.From), (intA x170.To)] 0), []) from (idx_lst (E := TSectorVisit.E) rfl h170))) ?_
    refine imp (opP_of (show _ = some ((AV.agg [(intA x170.Sector), (intA x170.From), (intA x170.To)]), []) from rfl)) ?_
    refine imp exA3_b ?_
    refine imp ex_i64_b ?_
    refine imp ex_i64_b ?_
    refine imp ex_i64_b ?_
    refine cond_b (fun _ => ?_) (fun _ => ?_)
    · exact fun hg => hN1 _ (Option.some.inj hg).symm _ (weak_mem [(90000, 90000)] rfl rfl rfl (okW_cons (ent_lst (E := TSector.E) _ false) (okW_cons (.inl (leV_refl _)) (okW_cons (ent_own (E := intE) (id := 90000) (l' := L90000) rfl rfl) (okW_cons (ent_lst (E := (lstE TTubeNode.E)) _ false) (okW_cons (.inl (leV_refl _)) (okW_cons (.inl (leV_refl _)) (okW_cons (ent_lst (E := TSectorVisit.E) _ false) (okW_cons (.inl (leV_refl _)) (okW_cons (.inl (leV_refl _)) okW_nil))))))))) (okB_cons (okB_own (E := intE) (ty := 3) (l' := L90000) rfl (show mget _ 90000 = _ from (by first | rfl | (simp (disch := first | decide | assumption) only [mpushs_nil, mpushs_cons, mget_hd, mget_tl, mget_appW_o, mget_appW_n, mget_appW_e])))) okB_nil'))
    · refine imp (opP_of (show _ = some ((intA (L90000.length : Int)), []) from len_own)) ?_
      refine imp ex_i64_b ?_
      refine cond_b (fun _ => ?_) (fun _ => ?_)
      · exact fun hg => ret1 (hR _ (Option.some.inj hg).symm) (fz_sc _ _)
      · refine bind_b fun x171 h171 => ?_
        refine imp (opP_of (show _ = some ((AV.ptr 90000 (((x170.Sector : Int).toNat) * 1 + 0)), []) from (idx_own (E := intE) rfl h171))) ?_
        refine imp (opP_of (show _ = some ((intA x171), []) from (ldS_blk (E := intE) (l := L90000) (ty := 3) (o := 0) (own_some (ty := 3) (by first | rfl | (simp (disch := first | decide | assumption) only [mpushs_nil, mpushs_cons, mget_hd, mget_tl, mget_appW_o, mget_appW_n, mget_appW_e])) (getI_some h171).2) (getI_some h171).2 rfl (by decide) rfl))) ?_
        refine imp ex_i64_b ?_
        refine bind_b fun x172 h172 => ?_
        refine imp (opP_of (show _ = some ((AV.ptr 90000 (((x170.Sector : Int).toNat) * 1 + 0)), []) from (idx_own (E := intE) rfl h172))) ?_
        refine imp (storeW_elO (E := intE) (l := L90000) (i := ((x170.Sector : Int).toNat)) (o := 0) (y := (IntKind.wrap .i64 (x171 - (1)))) (ty := 3) (by kernel_rfl) (by kernel_rfl) rfl (by first | rfl | (simp (disch := first | decide | assumption) only [mpushs_nil, mpushs_cons, mget_hd, mget_tl, mget_appW_o, mget_appW_n, mget_appW_e])) (getI_some h172).2 rfl (by decide) rfl) ?_
        exact fun hg => hN1 _ (Option.some.inj hg).symm _ (weak_mem [(90000, 90000)] rfl rfl rfl (okW_cons (ent_lst (E := TSector.E) _ false) (okW_cons (.inl (leV_refl _)) (okW_cons (ent_own (E := intE) (id := 90000) (l' := (L90000.set ((x170.Sector : Int).toNat) (IntKind.wrap .i64 (x171 - (1))))) (by first | rfl | omega | (simp; done) | (simp; omega)) rfl) (okW_cons (ent_lst (E := (lstE TTubeNode.E)) _ false) (okW_cons (.inl (leV_refl _)) (okW_cons (.inl (leV_refl _)) (okW_cons (ent_lst (E := TSectorVisit.E) _ false) (okW_cons (.inl (leV_refl _)) (okW_cons (.inl (leV_refl _)) okW_nil))))))))) (okB_cons (okB_own (E := intE) (ty := 3) (l' := (L90000.set ((x170.Sector : Int).toNat) (IntKind.wrap .i64 (x171 - (1))))) rfl (show mget _ 90000 = _ from (by first | rfl | (simp (disch := first | decide | assumption) only [mpushs_nil, mpushs_cons, mget_hd, mget_tl, mget_appW_o, mget_appW_n, mget_appW_e])))) okB_nil'))
  · exact fun hg => hN0 _ (Option.some.inj hg).symm _ (weak_mem [(90000, 90000)] rfl rfl rfl (okW_cons (ent_lst (E := TSector.E) _ false) (okW_cons (.inl (leV_refl _)) (okW_cons (ent_own (E := intE) (id := 90000) (l' := L90000) rfl rfl) (okW_cons (ent_lst (E := (lstE TTubeNode.E)) _ false) (okW_cons (.inl (leV_refl _)) (okW_cons (.inl (leV_refl _)) okW_nil)))))) (okB_cons (okB_own (E := intE) (ty := 3) (l' := L90000) rfl (show mget _ 90000 = _ from (by first | rfl | (simp (disch := first | decide | assumption) only [mpushs_nil, mpushs_cons, mget_hd, mget_tl, mget_appW_o, mget_appW_n, mget_appW_e])))) okB_nil'))
theorem L3_0_0_ok (n : Nat) (a0 : List TSector) (c4 : Bool) (a1 : List (List TTubeNode)) (c35 : Int) (v36 : Int) (c48 : List TSectorVisit) (c49 : Int) {t : ((Int × List Int) ⊕ ρ3)} (R : AV → Mem → Prop) (N0 : St → Prop) (hR : ∀ r : ρ3, t = (.inr r) → ∀ u m, Ans ((boolA r)) u m → R u m) (hN0 : ∀ y : Int × List Int, t = (.inl y) → ∀ s' : St, Weak KK 74 0 s' (h3_0 (lstA TSector.E a0) c4 (ownV intE 90000 y.2) (lstA (lstE TTubeNode.E) a1) c35 y.1 [(90000, ownB intE 3 y.2)]) → N0 s') (k : Nat) (x : Int × List Int) (hx : iterO (fun y : Int × List Int => S3_0_0 n a0 c4 a1 c35 v36 c48 c49 y.1 y.2) k x = some t) {s : St} (hw : Weak KK 74 0 s (h3_0_0 (lstA TSector.E a0) c4 (ownV intE 90000 x.2) (lstA (lstE TTubeNode.E) a1) c35 v36 (lstA TSectorVisit.E c48) c49 x.1 [(90000, ownB intE 3 x.2)])) : Tri Tryz.prog KK 74 0 (.loop c3_0_0) s (q3_0_0 R N0) :=
  L3_0_0 R N0 (σ := Nat × (Int × List Int)) (fun z => iterO (fun y : Int × List Int => S3_0_0 n a0 c4 a1 c35 v36 c48 c49 y.1 y.2) z.1 z.2 = some t) (fun z => (lstA TSector.E a0)) (fun z => c4) (fun z => (ownV intE 90000 z.2.2)) (fun z => (lstA (lstE TTubeNode.E) a1)) (fun z => c35) (fun z => v36) (fun z => (lstA TSectorVisit.E c48)) (fun z => c49) (fun z => z.2.1) (fun z => [(90000, ownB intE 3 z.2.2)]) (fun z => z.1) (by
    rintro ⟨k, y⟩ h
    cases k with
    | zero => exact (iterO_zero h).elim
    | succ k =>
      obtain ⟨u, h1, h2, h3⟩ := iterO_elim h
      exact B3_0_0_ok n a0 c4 a1 c35 v36 c48 c49 y.1 y.2 R N0 _ (fun r e => hR r (h3 _ e).symm) (fun y' e => hN0 y' (h3 _ e).symm) (fun y' e s' hw => ⟨(k, y'), h2 _ e, Nat.lt_succ_self k, hw⟩) h1) (k, x) hx hw
theorem B3_0_ok (n : Nat) (a0 : List TSector) (c4 : Bool) (a1 : List (List TTubeNode)) (c35 : Int) (v36 : Int) (L90000 : List Int) {t : (Int × List Int) ⊕ ρ3} (R : AV → Mem → Prop) (N0 : St → Prop) (hR : ∀ r : ρ3, t = (.inr r) → ∀ u m, Ans ((boolA r)) u m → R u m) (hN0 : ∀ y : Int × List Int, t = (.inl y) → ∀ s' : St, Weak KK 74 0 s' (h3_0 (lstA TSector.E a0) c4 (ownV intE 90000 y.2) (lstA (lstE TTubeNode.E) a1) c35 y.1 [(90000, ownB intE 3 y.2)]) → N0 s') : S3_0 n a0 c4 a1 c35 v36 L90000 = some t → B3_0 (lstA TSector.E a0) c4 (ownV intE 90000 L90000) (lstA (lstE TTubeNode.E) a1) c35 v36 [(90000, ownB intE 3 L90000)] R N0 := by
  unfold S3_0 B3_0
  refine cond_b (fun _ => ?_) (fun _ => ?_)
  · refine bind_b fun x168 h168 => ?_
    refine imp (opP_of (show _ = some ((AV.ept [(lstA TTubeNode.E x168)] 0), []) from (idx_lst (E := (lstE TTubeNode.E)) rfl h168))) ?_
    refine imp (opP_of (show _ = some ((lstA TTubeNode.E x168), []) from rfl)) ?_
    refine bind_b fun x169 h169 => ?_
    refine imp (callQ_says (sg8 h169)) ?_
    refine imp exT2_b ?_
    refine imp ex_i64_b ?_
    refine cond_b (fun _ => ?_) (fun _ => ?_)
    · exact fun hg => ret1 (hR _ (Option.some.inj hg).symm) (fz_sc _ _)
    · refine imp (opP_of (show _ = some ((intA (x169.1.length : Int)), []) from rfl)) ?_
      refine imp ex_i64_b ?_
      exact fun hg => L3_0_0_ok n a0 c4 a1 c35 v36 x169.1 (x169.1.length : Int) R N0 hR hN0 n _ hg (weak_mem [(90000, 90000)] rfl rfl rfl (okW_cons (ent_lst (E := TSector.E) _ false) (okW_cons (.inl (leV_refl _)) (okW_cons (ent_own (E := intE) (id := 90000) (l' := L90000) rfl rfl) (okW_cons (ent_lst (E := (lstE TTubeNode.E)) _ false) (okW_cons (.inl (leV_refl _)) (okW_cons (.inl (leV_refl _)) (okW_cons (ent_lst (E := TSectorVisit.E) _ false) (okW_cons (.inl (leV_refl _)) (okW_cons (.inl (leV_refl _)) okW_nil))))))))) (okB_cons (okB_own (E := intE) (ty := 3) (l' := L90000) rfl (show mget _ 90000 = _ from (by first | rfl | (simp (disch := first | decide | assumption) only [mpushs_nil, mpushs_cons, mget_hd, mget_tl, mget_appW_o, mget_appW_n, mget_appW_e])))) okB_nil'))
  · refine bind_b fun x176 h176 => ?_
    refine imp (callQ_pure (pure_snapN (snL_cons (sn_own (E := intE) (ty := 3) (l' := L90000) _ intE.nf rfl (by first | rfl | (simp (disch := first | decide | assumption) only [mpushs_nil, mpushs_cons, mget_hd, mget_tl, mget_appW_o, mget_appW_n, mget_appW_e]))) (snL_cons (sn_fn _ _ snL_nil) snL_nil)) (sg9 h176) rfl)) ?_
    refine imp exB_b ?_
    exact fun hg => ret1 (hR _ (Option.some.inj hg).symm) (fz_sc _ _)
theorem L3_0_ok (n : Nat) (a0 : List TSector) (c4 : Bool) (a1 : List (List TTubeNode)) (c35 : Int) {t : ρ3} (R : AV → Mem → Prop) (hR : ∀ r : ρ3, t = r → ∀ u m, Ans ((boolA r)) u m → R u m) (k : Nat) (x : Int × List Int) (hx : iterO (fun y : Int × List Int => S3_0 n a0 c4 a1 c35 y.1 y.2) k x = some t) {s : St} (hw : Weak KK 74 0 s (h3_0 (lstA TSector.E a0) c4 (ownV intE 90000 x.2) (lstA (lstE TTubeNode.E) a1) c35 x.1 [(90000, ownB intE 3 x.2)])) : Tri Tryz.prog KK 74 0 (.loop c3_0) s (q3_0 R ) :=
  L3_0 R  (σ := Nat × (Int × List Int)) (fun z => iterO (fun y : Int × List Int => S3_0 n a0 c4 a1 c35 y.1 y.2) z.1 z.2 = some t) (fun z => (lstA TSector.E a0)) (fun z => c4) (fun z => (ownV intE 90000 z.2.2)) (fun z => (lstA (lstE TTubeNode.E) a1)) (fun z => c35) (fun z => z.2.1) (fun z => [(90000, ownB intE 3 z.2.2)]) (fun z => z.1) (by
    rintro ⟨k, y⟩ h
    cases k with
    | zero => exact (iterO_zero h).elim
    | succ k =>
      obtain ⟨u, h1, h2, h3⟩ := iterO_elim h
      exact B3_0_ok n a0 c4 a1 c35 y.1 y.2 R  _ (fun r e => hR r (h3 _ e).symm)  (fun y' e s' hw => ⟨(k, y'), h2 _ e, Nat.lt_succ_self k, hw⟩) h1) (k, x) hx hw
theorem g3_ok (n : Nat) (a0 : List TSector) (a1 : List (List TTubeNode)) {t : ρ3} (R : AV → Mem → Prop) (hR : ∀ r : ρ3, t = r → ∀ u m, Ans ((boolA r)) u m → R u m) : g3 n a0 a1 = some t → F3 (lstA TSector.E a0) (lstA (lstE TTubeNode.E) a1) R := by
  unfold g3 F3
  refine bind_b fun x139 h139 => ?_
  refine imp (callQ_says (sg5 h139)) ?_
  refine imp exB_b ?_
  refine cond_b (fun _ => ?_) (fun _ => ?_)
  · exact fun hg => ret1 (hR _ (Option.some.inj hg).symm) (fz_sc _ _)
  · refine bind_b fun x144 h144 => ?_
    refine imp (callQ_says (sg6 h144)) ?_
    refine imp exB_b ?_
    refine cond_b (fun _ => ?_) (fun _ => ?_)
    · exact fun hg => ret1 (hR _ (Option.some.inj hg).symm) (fz_sc _ _)
    · refine bind_b fun x160 h160 => ?_
      refine imp (callW_D (show PureD _ _ _ _ _ _ (AV.tup [(ownV intE 134 x160.1), (intA x160.2)]) [(134, ownB intE 3 x160.1)] from mg7C h160)) ?_
      refine imp exT2_b ?_
      refine imp ex_i64_b ?_
      refine cond_b (fun _ => ?_) (fun _ => ?_)
      · refine imp (opP_of (show _ = some ((intA (x160.1.length : Int)), []) from len_own)) ?_
        refine imp ex_i64_b ?_
        exact fun hg => ret1 (hR _ (Option.some.inj hg).symm) (fz_sc _ _)
      · refine imp (opP_of (show _ = some ((intA (x160.1.length : Int)), []) from len_own)) ?_
        refine imp ex_i64_b ?_
        refine imp (opP_of (show _ = some ((intA (a0.length : Int)), []) from rfl)) ?_
        refine imp ex_i64_b ?_
        refine cond_b (fun _ => ?_) (fun _ => ?_)
        · exact fun hg => ret1 (hR _ (Option.some.inj hg).symm) (fz_sc _ _)
        · refine imp (opP_of (show _ = some ((intA (a1.length : Int)), []) from rfl)) ?_
          refine imp ex_i64_b ?_
          exact fun hg => L3_0_ok n a0 false a1 (a1.length : Int) R  hR n _ hg (weak_mem [(90000, 134)] rfl rfl rfl (okW_cons (ent_lst (E := TSector.E) _ false) (okW_cons (.inl (leV_refl _)) (okW_cons (ent_own (E := intE) (id := 134) (l' := x160.1) rfl rfl) (okW_cons (ent_lst (E := (lstE TTubeNode.E)) _ false) (okW_cons (.inl (leV_refl _)) (okW_cons (.inl (leV_refl _)) okW_nil)))))) (okB_cons (okB_own (E := intE) (ty := 3) (l' := x160.1) rfl (show mget _ 134 = _ from (by first | rfl | (simp (disch := first | decide | assumption) only [mpushs_nil, mpushs_cons, mget_hd, mget_tl, mget_appW_o, mget_appW_n, mget_appW_e])))) okB_nil'))
theorem sg3 {n : Nat} {a0 : List TSector} {a1 : List (List TTubeNode)} {t : ρ3} (h : g3 n a0 a1 = some t) : Says Tryz.prog KK.gl 3 [(lstA TSector.E a0), (lstA (lstE TTubeNode.E) a1)] ((boolA t)) :=
  says_of_own (by first | rfl | simp [cleans, clean, encs_clean, En.cln]) (by first | rfl | simp [cleans, clean, encs_clean, En.cln]) (F3_own (lstA TSector.E a0) (lstA (lstE TTubeNode.E) a1) _ (g3_ok n a0 a1 (Ans ((boolA t))) (fun r e u m h => by rw [e]; exact h) h))
end Go.Proofs.YtldiackagnjlgaaGreat
