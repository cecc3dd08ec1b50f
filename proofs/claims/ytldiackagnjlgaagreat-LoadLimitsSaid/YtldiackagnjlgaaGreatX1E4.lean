/- Plain functional programs out of the program's functions, with proofs that the functions compute them; printed by wip/Ext.lean.txt. -/
import Derived.Test.YtldiackagnjlgaaGreatX1E3
import Derived.Test.YtldiackagnjlgaaGreatSvH
set_option linter.unusedVariables false
set_option linter.unusedSimpArgs false
set_option maxRecDepth 100000
set_option maxHeartbeats 4000000
namespace Go.Proofs.YtldiackagnjlgaaGreat
/- skyway/sector.Path -/
/- skyway/skywaykeep3.small -/
theorem B6_0_ok (n : Nat) (a2 : Int) (c6 : Bool) (a0 : List (List TTubeNode)) (c14 : Int) (v15 : Int) {t : (Int) ⊕ ρ6} (R : AV → Mem → Prop) (N0 : St → Prop) (hR : ∀ r : ρ6, t = (.inr r) → ∀ u m, Ans ((boolA r)) u m → R u m) (hN0 : ∀ y : Int, t = (.inl y) → ∀ s' : St, Weak KK 41 0 s' (h6_0 a2 c6 (lstA (lstE TTubeNode.E) a0) c14 y []) → N0 s') : S6_0 n a2 c6 a0 c14 v15 = some t → B6_0 a2 c6 (lstA (lstE TTubeNode.E) a0) c14 v15 [] R N0 := by
  unfold S6_0 B6_0
  refine cond_b (fun _ => ?_) (fun _ => ?_)
  · refine bind_b fun x145 h145 => ?_
    refine imp (opP_of (show _ = some ((AV.ept [(lstA TTubeNode.E x145)] 0), []) from (idx_lst (E := (lstE TTubeNode.E)) rfl h145))) ?_
    refine imp (opP_of (show _ = some ((lstA TTubeNode.E x145), []) from rfl)) ?_
    refine bind_b fun x146 h146 => ?_
    refine imp (callQ_says (sg21 h146)) ?_
    refine imp ex_i64_b ?_
    refine cond_b (fun _ => ?_) (fun _ => ?_)
    · exact fun hg => ret1 (hR _ (Option.some.inj hg).symm) (fz_sc _ _)
    · refine imp (opP_of (show _ = some ((intA (x145.length : Int)), []) from rfl)) ?_
      refine imp ex_i64_b ?_
      refine bind_b fun x147 h147 => ?_
      refine imp (opP_of (show _ = some ((AV.ept [(intA x147.Node_Time), (intA x147.Node_At_X), (intA x147.Node_At_Y), (intA x147.Node_Height), (intA x147.Radius), (intA x147.Band)] 0), []) from (idx_lst (E := TTubeNode.E) rfl h147))) ?_
      refine imp (opP_of (show _ = some ((AV.ept [(intA x147.Node_Time), (intA x147.Node_At_X), (intA x147.Node_At_Y), (intA x147.Node_Height), (intA x147.Radius), (intA x147.Band)] 0), []) from rfl)) ?_
      refine imp (opP_of (show _ = some ((AV.ept [(intA x147.Node_Time), (intA x147.Node_At_X), (intA x147.Node_At_Y), (intA x147.Node_Height), (intA x147.Radius), (intA x147.Band)] 0), []) from rfl)) ?_
      refine imp (opP_of (show _ = some ((intA x147.Node_Time), []) from rfl)) ?_
      refine imp ex_i64_b ?_
      refine bind_b fun x148 h148 => ?_
      refine imp (opP_of (show _ = some ((AV.ept [(intA x148.Node_Time), (intA x148.Node_At_X), (intA x148.Node_At_Y), (intA x148.Node_Height), (intA x148.Radius), (intA x148.Band)] 0), []) from (idx_lst (E := TTubeNode.E) rfl h148))) ?_
      refine imp (opP_of (show _ = some ((AV.ept [(intA x148.Node_Time), (intA x148.Node_At_X), (intA x148.Node_At_Y), (intA x148.Node_Height), (intA x148.Radius), (intA x148.Band)] 0), []) from rfl)) ?_
      refine imp (opP_of (show _ = some ((AV.ept [(intA x148.Node_Time), (intA x148.Node_At_X), (intA x148.Node_At_Y), (intA x148.Node_Height), (intA x148.Radius), (intA x148.Band)] 0), []) from rfl)) ?_
      refine imp (opP_of (show _ = some ((intA x148.Node_Time), []) from rfl)) ?_
      refine imp ex_i64_b ?_
      refine cond_b (fun _ => ?_) (fun _ => ?_)
      · exact fun hg => ret1 (hR _ (Option.some.inj hg).symm) (fz_sc _ _)
      · exact fun hg => hN0 _ (Option.some.inj hg).symm _ (weak_mem [] rfl rfl rfl (okW_cons (.inl (leV_refl _)) (okW_cons (.inl (leV_refl _)) (okW_cons (ent_lst (E := (lstE TTubeNode.E)) _ false) (okW_cons (.inl (leV_refl _)) (okW_cons (.inl (leV_refl _)) okW_nil))))) okB_nil')
  · exact fun hg => ret1 (hR _ (Option.some.inj hg).symm) (fz_sc _ _)
theorem L6_0_ok (n : Nat) (a2 : Int) (c6 : Bool) (a0 : List (List TTubeNode)) (c14 : Int) {t : ρ6} (R : AV → Mem → Prop) (hR : ∀ r : ρ6, t = r → ∀ u m, Ans ((boolA r)) u m → R u m) (k : Nat) (x : Int) (hx : iterO (fun y : Int => S6_0 n a2 c6 a0 c14 y) k x = some t) {s : St} (hw : Weak KK 41 0 s (h6_0 a2 c6 (lstA (lstE TTubeNode.E) a0) c14 x [])) : Tri Tryz.prog KK 41 0 (.loop c6_0) s (q6_0 R ) :=
  L6_0 R  (σ := Nat × (Int)) (fun z => iterO (fun y : Int => S6_0 n a2 c6 a0 c14 y) z.1 z.2 = some t) (fun z => a2) (fun z => c6) (fun z => (lstA (lstE TTubeNode.E) a0)) (fun z => c14) (fun z => z.2) (fun z => []) (fun z => z.1) (by
    rintro ⟨k, y⟩ h
    cases k with
    | zero => exact (iterO_zero h).elim
    | succ k =>
      obtain ⟨u, h1, h2, h3⟩ := iterO_elim h
      exact B6_0_ok n a2 c6 a0 c14 y R  _ (fun r e => hR r (h3 _ e).symm)  (fun y' e s' hw => ⟨(k, y'), h2 _ e, Nat.lt_succ_self k, hw⟩) h1) (k, x) hx hw
theorem g6_ok (n : Nat) (a0 : List (List TTubeNode)) (a1 : Int) (a2 : Int) {t : ρ6} (R : AV → Mem → Prop) (hR : ∀ r : ρ6, t = r → ∀ u m, Ans ((boolA r)) u m → R u m) : g6 n a0 a1 a2 = some t → F6 (lstA (lstE TTubeNode.E) a0) a1 a2 R := by
  unfold g6 F6
  refine imp (opP_of (show _ = some ((intA (a0.length : Int)), []) from rfl)) ?_
  refine imp ex_i64_b ?_
  refine cond_b (fun _ => ?_) (fun _ => ?_)
  · exact fun hg => ret1 (hR _ (Option.some.inj hg).symm) (fz_sc _ _)
  · refine imp (opP_of (show _ = some ((intA (a0.length : Int)), []) from rfl)) ?_
    refine imp ex_i64_b ?_
    exact fun hg => L6_0_ok n a2 false a0 (a0.length : Int) R  hR n _ hg (weak_mem [] rfl rfl rfl (okW_cons (.inl (leV_refl _)) (okW_cons (.inl (leV_refl _)) (okW_cons (ent_lst (E := (lstE TTubeNode.E)) _ false) (okW_cons (.inl (leV_refl _)) (okW_cons (.inl (leV_refl _)) okW_nil))))) okB_nil')
theorem sg6 {n : Nat} {a0 : List (List TTubeNode)} {a1 : Int} {a2 : Int} {t : ρ6} (h : g6 n a0 a1 a2 = some t) : Says Tryz.prog KK.gl 6 [(lstA (lstE TTubeNode.E) a0), (intA a1), (intA a2)] ((boolA t)) :=
  says_of_own (by first | rfl | simp [cleans, clean, encs_clean, En.cln]) (by first | rfl | simp [cleans, clean, encs_clean, En.cln]) (F6_own (lstA (lstE TTubeNode.E) a0) a1 a2 _ (g6_ok n a0 a1 a2 (Ans ((boolA t))) (fun r e u m h => by rw [e]; exact h) h))
/- skyway/load.check -/
theorem B22_0_ok (n : Nat) (c4 : Int) (a1 : List (List TTubeNode)) (c18 : Int) (v19 : Int) {t : (Int) ⊕ ρ22} (R : AV → Mem → Prop) (N0 : St → Prop) (hR : ∀ r : ρ22, t = (.inr r) → ∀ u m, Ans ((intA r)) u m → R u m) (hN0 : ∀ y : Int, t = (.inl y) → ∀ s' : St, Weak KK 29 0 s' (h22_0 c4 (lstA (lstE TTubeNode.E) a1) c18 y []) → N0 s') : S22_0 n c4 a1 c18 v19 = some t → B22_0 c4 (lstA (lstE TTubeNode.E) a1) c18 v19 [] R N0 := by
  unfold S22_0 B22_0
  refine cond_b (fun _ => ?_) (fun _ => ?_)
  · refine bind_b fun x151 h151 => ?_
    refine imp (opP_of (show _ = some ((AV.ept [(lstA TTubeNode.E x151)] 0), []) from (idx_lst (E := (lstE TTubeNode.E)) rfl h151))) ?_
    refine imp (opP_of (show _ = some ((lstA TTubeNode.E x151), []) from rfl)) ?_
    refine bind_b fun x152 h152 => ?_
    refine imp (callQ_says (sg21 h152)) ?_
    refine imp ex_i64_b ?_
    refine cond_b (fun _ => ?_) (fun _ => ?_)
    · exact fun hg => ret1 (hR _ (Option.some.inj hg).symm) (fz_sc _ _)
    · exact fun hg => hN0 _ (Option.some.inj hg).symm _ (weak_mem [] rfl rfl rfl (okW_cons (.inl (leV_refl _)) (okW_cons (ent_lst (E := (lstE TTubeNode.E)) _ false) (okW_cons (.inl (leV_refl _)) (okW_cons (.inl (leV_refl _)) okW_nil)))) okB_nil')
  · exact fun hg => ret1 (hR _ (Option.some.inj hg).symm) (fz_sc _ _)
theorem L22_0_ok (n : Nat) (c4 : Int) (a1 : List (List TTubeNode)) (c18 : Int) {t : ρ22} (R : AV → Mem → Prop) (hR : ∀ r : ρ22, t = r → ∀ u m, Ans ((intA r)) u m → R u m) (k : Nat) (x : Int) (hx : iterO (fun y : Int => S22_0 n c4 a1 c18 y) k x = some t) {s : St} (hw : Weak KK 29 0 s (h22_0 c4 (lstA (lstE TTubeNode.E) a1) c18 x [])) : Tri Tryz.prog KK 29 0 (.loop c22_0) s (q22_0 R ) :=
  L22_0 R  (σ := Nat × (Int)) (fun z => iterO (fun y : Int => S22_0 n c4 a1 c18 y) z.1 z.2 = some t) (fun z => c4) (fun z => (lstA (lstE TTubeNode.E) a1)) (fun z => c18) (fun z => z.2) (fun z => []) (fun z => z.1) (by
    rintro ⟨k, y⟩ h
    cases k with
    | zero => exact (iterO_zero h).elim
    | succ k =>
      obtain ⟨u, h1, h2, h3⟩ := iterO_elim h
      exact B22_0_ok n c4 a1 c18 y R  _ (fun r e => hR r (h3 _ e).symm)  (fun y' e s' hw => ⟨(k, y'), h2 _ e, Nat.lt_succ_self k, hw⟩) h1) (k, x) hx hw
theorem g22_ok (n : Nat) (a0 : List TSector) (a1 : List (List TTubeNode)) {t : ρ22} (R : AV → Mem → Prop) (hR : ∀ r : ρ22, t = r → ∀ u m, Ans ((intA r)) u m → R u m) : g22 n a0 a1 = some t → F22 (lstA TSector.E a0) (lstA (lstE TTubeNode.E) a1) R := by
  unfold g22 F22
  refine bind_b fun x150 h150 => ?_
  refine imp (callQ_says (sg23 h150)) ?_
  refine imp ex_i64_b ?_
  refine cond_b (fun _ => ?_) (fun _ => ?_)
  · exact fun hg => ret1 (hR _ (Option.some.inj hg).symm) (fz_sc _ _)
  · refine imp (opP_of (show _ = some ((intA (a1.length : Int)), []) from rfl)) ?_
    refine imp ex_i64_b ?_
    refine cond_b (fun _ => ?_) (fun _ => ?_)
    · exact fun hg => ret1 (hR _ (Option.some.inj hg).symm) (fz_sc _ _)
    · refine imp (opP_of (show _ = some ((intA (a1.length : Int)), []) from rfl)) ?_
      refine imp ex_i64_b ?_
      exact fun hg => L22_0_ok n (0) a1 (a1.length : Int) R  hR n _ hg (weak_mem [] rfl rfl rfl (okW_cons (.inl (leV_refl _)) (okW_cons (ent_lst (E := (lstE TTubeNode.E)) _ false) (okW_cons (.inl (leV_refl _)) (okW_cons (.inl (leV_refl _)) okW_nil)))) okB_nil')
theorem sg22 {n : Nat} {a0 : List TSector} {a1 : List (List TTubeNode)} {t : ρ22} (h : g22 n a0 a1 = some t) : Says Tryz.prog KK.gl 22 [(lstA TSector.E a0), (lstA (lstE TTubeNode.E) a1)] ((intA t)) :=
  says_of_own (by first | rfl | simp [cleans, clean, encs_clean, En.cln]) (by first | rfl | simp [cleans, clean, encs_clean, En.cln]) (F22_own (lstA TSector.E a0) (lstA (lstE TTubeNode.E) a1) _ (g22_ok n a0 a1 (Ans ((intA t))) (fun r e u m h => by rw [e]; exact h) h))
/- skyway/load.checkSpan -/
theorem g26_ok (n : Nat) (a0 : TSpan) {t : ρ26} (R : AV → Mem → Prop) (hR : ∀ r : ρ26, t = r → ∀ u m, Ans ((intA r)) u m → R u m) : g26 n a0 = some t → F26 a0.From a0.To R := by
  unfold g26 F26
  refine cond_b (fun _ => ?_) (fun _ => ?_)
  · exact fun hg => ret1 (hR _ (Option.some.inj hg).symm) (fz_sc _ _)
  · refine cond_b (fun _ => ?_) (fun _ => ?_)
    · exact fun hg => ret1 (hR _ (Option.some.inj hg).symm) (fz_sc _ _)
    · refine cond_b (fun _ => ?_) (fun _ => ?_)
      · exact fun hg => ret1 (hR _ (Option.some.inj hg).symm) (fz_sc _ _)
      · refine cond_b (fun _ => ?_) (fun _ => ?_)
        · exact fun hg => ret1 (hR _ (Option.some.inj hg).symm) (fz_sc _ _)
        · exact fun hg => ret1 (hR _ (Option.some.inj hg).symm) (fz_sc _ _)
theorem sg26 {n : Nat} {a0 : TSpan} {t : ρ26} (h : g26 n a0 = some t) : Says Tryz.prog KK.gl 26 [(AV.agg [(intA a0.From), (intA a0.To)])] ((intA t)) :=
  says_of_own (by first | rfl | simp [cleans, clean, encs_clean, En.cln]) (by first | rfl | simp [cleans, clean, encs_clean, En.cln]) (F26_own a0.From a0.To _ (g26_ok n a0 (Ans ((intA t))) (fun r e u m h => by rw [e]; exact h) h))
/- skyway/load.count -/
theorem B28_0_ok (n : Nat) (a0 : List TSector) (a2 : Int) (c7 : Int) (a1 : List (List TTubeNode)) (c19 : Int) (v9 : Int) (v20 : Int) (L90000 : List Int) {t : (Int × Int × List Int) ⊕ ρ28} (R : AV → Mem → Prop) (N0 : St → Prop) (hR : ∀ r : ρ28, t = (.inr r) → ∀ u m, Ans ((AV.tup [(lstA intE r.1), (intA r.2)])) u m → R u m) (hN0 : ∀ y : Int × Int × List Int, t = (.inl y) → ∀ s' : St, Weak KK 53 0 s' (h28_0 (lstA TSector.E a0) a2 AV.nils c7 (blkV intE 90000 y.2.2) y.1 (lstA (lstE TTubeNode.E) a1) c19 y.2.1 [(90000, some ⟨encs intE y.2.2, 3⟩)]) → N0 s') : S28_0 n a0 a2 c7 a1 c19 v9 v20 L90000 = some t → B28_0 (lstA TSector.E a0) a2 AV.nils c7 (blkV intE 90000 L90000) v9 (lstA (lstE TTubeNode.E) a1) c19 v20 [(90000, some ⟨encs intE L90000, 3⟩)] R N0 := by
  unfold S28_0 B28_0
  refine cond_b (fun _ => ?_) (fun _ => ?_)
  · refine bind_b fun x158 h158 => ?_
    refine imp (opP_of (show _ = some ((AV.ept [(lstA TTubeNode.E x158)] 0), []) from (idx_lst (E := (lstE TTubeNode.E)) rfl h158))) ?_
    refine imp (opP_of (show _ = some ((lstA TTubeNode.E x158), []) from rfl)) ?_
    refine bind_b fun x159 h159 => ?_
    refine imp (callQ_says (sg42 h159)) ?_
    refine imp exT2_b ?_
    refine imp exA6_b ?_
    refine imp ex_i64_b ?_
    refine imp ex_i64_b ?_
    refine imp ex_i64_b ?_
    refine imp ex_i64_b ?_
    refine imp ex_i64_b ?_
    refine imp ex_i64_b ?_
    refine imp ex_i64_b ?_
    refine cond_b (fun _ => ?_) (fun _ => ?_)
    · exact fun hg => hN0 _ (Option.some.inj hg).symm _ (weak_mem [(90000, 90000)] rfl rfl rfl (okW_cons (ent_lst (E := TSector.E) _ false) (okW_cons (.inl (leV_refl _)) (okW_cons (.inl (leV_refl _)) (okW_cons (.inl (leV_refl _)) (okW_cons (ent_blk (E := intE) (id := 90000) (l' := L90000) rfl rfl) (okW_cons (.inl (leV_refl _)) (okW_cons (ent_lst (E := (lstE TTubeNode.E)) _ false) (okW_cons (.inl (leV_refl _)) (okW_cons (.inl (leV_refl _)) okW_nil))))))))) (okB_cons (okB_cells (cs := encs intE L90000) (ty := 3) (encs_clean _) (show mget _ 90000 = _ from (by first | rfl | (simp (disch := first | decide | assumption) only [mpushs_nil, mpushs_cons, mget_hd, mget_tl, mget_appW_o, mget_appW_n, mget_appW_e])))) okB_nil'))
    · refine bind_b fun x160 h160 => ?_
      refine imp (callQ_says (sg40 h160)) ?_
      refine imp ex_i64_b ?_
      refine cond_b (fun _ => ?_) (fun _ => ?_)
      · refine bind_b fun x161 h161 => ?_
        refine imp (opP_of (show _ = some ((AV.ptr 90000 (((x160 : Int).toNat) * 1 + 0)), []) from (idx_blk (E := intE) rfl h161))) ?_
        refine imp (opP_of (show _ = some ((intA x161), []) from (ldS_blk (E := intE) (l := L90000) (ty := 3) (o := 0) (by first | rfl | (simp (disch := first | decide | assumption) only [mpushs_nil, mpushs_cons, mget_hd, mget_tl, mget_appW_o, mget_appW_n, mget_appW_e])) (getI_some h161).2 rfl (by decide) rfl))) ?_
        refine imp ex_i64_b ?_
        refine bind_b fun x162 h162 => ?_
        refine imp (opP_of (show _ = some ((AV.ptr 90000 (((x160 : Int).toNat) * 1 + 0)), []) from (idx_blk (E := intE) rfl h162))) ?_
        refine imp (storeW_el (E := intE) (l := L90000) (i := ((x160 : Int).toNat)) (o := 0) (y := (IntKind.wrap .i64 (x161 + (1)))) (ty := 3) (by kernel_rfl) (by kernel_rfl) rfl (by first | rfl | (simp (disch := first | decide | assumption) only [mpushs_nil, mpushs_cons, mget_hd, mget_tl, mget_appW_o, mget_appW_n, mget_appW_e])) (getI_some h162).2 rfl (by decide) rfl) ?_
        exact fun hg => hN0 _ (Option.some.inj hg).symm _ (weak_mem [(90000, 90000)] rfl rfl rfl (okW_cons (ent_lst (E := TSector.E) _ false) (okW_cons (.inl (leV_refl _)) (okW_cons (.inl (leV_refl _)) (okW_cons (.inl (leV_refl _)) (okW_cons (ent_blk (E := intE) (id := 90000) (l' := (L90000.set ((x160 : Int).toNat) (IntKind.wrap .i64 (x161 + (1))))) (by first | rfl | omega | (simp; done) | (simp; omega)) rfl) (okW_cons (.inl (leV_refl _)) (okW_cons (ent_lst (E := (lstE TTubeNode.E)) _ false) (okW_cons (.inl (leV_refl _)) (okW_cons (.inl (leV_refl _)) okW_nil))))))))) (okB_cons (okB_cells (cs := encs intE (L90000.set ((x160 : Int).toNat) (IntKind.wrap .i64 (x161 + (1))))) (ty := 3) (encs_clean _) (show mget _ 90000 = _ from (by first | rfl | (simp (disch := first | decide | assumption) only [mpushs_nil, mpushs_cons, mget_hd, mget_tl, mget_appW_o, mget_appW_n, mget_appW_e])))) okB_nil'))
      · exact fun hg => hN0 _ (Option.some.inj hg).symm _ (weak_mem [(90000, 90000)] rfl rfl rfl (okW_cons (ent_lst (E := TSector.E) _ false) (okW_cons (.inl (leV_refl _)) (okW_cons (.inl (leV_refl _)) (okW_cons (.inl (leV_refl _)) (okW_cons (ent_blk (E := intE) (id := 90000) (l' := L90000) rfl rfl) (okW_cons (.inl (leV_refl _)) (okW_cons (ent_lst (E := (lstE TTubeNode.E)) _ false) (okW_cons (.inl (leV_refl _)) (okW_cons (.inl (leV_refl _)) okW_nil))))))))) (okB_cons (okB_cells (cs := encs intE L90000) (ty := 3) (encs_clean _) (show mget _ 90000 = _ from (by first | rfl | (simp (disch := first | decide | assumption) only [mpushs_nil, mpushs_cons, mget_hd, mget_tl, mget_appW_o, mget_appW_n, mget_appW_e])))) okB_nil'))
  · exact fun hg => retN rfl (hR _ (Option.some.inj hg).symm) (fzL_cons (fz_blk (E := intE) (ty := 3) (l' := L90000) _ rfl (by first | rfl | (simp (disch := first | decide | assumption) only [mpushs_nil, mpushs_cons, mget_hd, mget_tl, mget_appW_o, mget_appW_n, mget_appW_e]))) (fzL_cons (fz_sc _ _) fzL_nil))
theorem L28_0_ok (n : Nat) (a0 : List TSector) (a2 : Int) (c7 : Int) (a1 : List (List TTubeNode)) (c19 : Int) {t : ρ28} (R : AV → Mem → Prop) (hR : ∀ r : ρ28, t = r → ∀ u m, Ans ((AV.tup [(lstA intE r.1), (intA r.2)])) u m → R u m) (k : Nat) (x : Int × Int × List Int) (hx : iterO (fun y : Int × Int × List Int => S28_0 n a0 a2 c7 a1 c19 y.1 y.2.1 y.2.2) k x = some t) {s : St} (hw : Weak KK 53 0 s (h28_0 (lstA TSector.E a0) a2 AV.nils c7 (blkV intE 90000 x.2.2) x.1 (lstA (lstE TTubeNode.E) a1) c19 x.2.1 [(90000, some ⟨encs intE x.2.2, 3⟩)])) : Tri Tryz.prog KK 53 0 (.loop c28_0) s (q28_0 R ) :=
  L28_0 R  (σ := Nat × (Int × Int × List Int)) (fun z => iterO (fun y : Int × Int × List Int => S28_0 n a0 a2 c7 a1 c19 y.1 y.2.1 y.2.2) z.1 z.2 = some t) (fun z => (lstA TSector.E a0)) (fun z => a2) (fun z => AV.nils) (fun z => c7) (fun z => (blkV intE 90000 z.2.2.2)) (fun z => z.2.1) (fun z => (lstA (lstE TTubeNode.E) a1)) (fun z => c19) (fun z => z.2.2.1) (fun z => [(90000, some ⟨encs intE z.2.2.2, 3⟩)]) (fun z => z.1) (by
    rintro ⟨k, y⟩ h
    cases k with
    | zero => exact (iterO_zero h).elim
    | succ k =>
      obtain ⟨u, h1, h2, h3⟩ := iterO_elim h
      exact B28_0_ok n a0 a2 c7 a1 c19 y.1 y.2.1 y.2.2 R  _ (fun r e => hR r (h3 _ e).symm)  (fun y' e s' hw => ⟨(k, y'), h2 _ e, Nat.lt_succ_self k, hw⟩) h1) (k, x) hx hw
theorem g28_ok (n : Nat) (a0 : List TSector) (a1 : List (List TTubeNode)) (a2 : Int) {t : ρ28} (R : AV → Mem → Prop) (hR : ∀ r : ρ28, t = r → ∀ u m, Ans ((AV.tup [(lstA intE r.1), (intA r.2)])) u m → R u m) : g28 n a0 a1 a2 = some t → F28 (lstA TSector.E a0) (lstA (lstE TTubeNode.E) a1) a2 R := by
  unfold g28 F28
  refine imp (opP_of (show _ = some ((intA (a0.length : Int)), []) from rfl)) ?_
  refine imp ex_i64_b ?_
  refine bind_b fun x157 h157 => ?_
  refine imp (opN_of (show _ = some ((blkV intE 4 (List.replicate x157 (0))), [(4, some ⟨encs intE (List.replicate x157 (0)), 3⟩)]) from (mks_ok (E := intE) (z := (0)) rfl rfl h157))) ?_
  refine imp (opP_of (show _ = some ((intA (a1.length : Int)), []) from rfl)) ?_
  refine imp ex_i64_b ?_
  exact fun hg => L28_0_ok n a0 a2 (0) a1 (a1.length : Int) R  hR n _ hg (weak_mem [(90000, 4)] rfl rfl rfl (okW_cons (ent_lst (E := TSector.E) _ false) (okW_cons (.inl (leV_refl _)) (okW_cons (.inl (leV_refl _)) (okW_cons (.inl (leV_refl _)) (okW_cons (ent_blk (E := intE) (id := 4) (l' := (List.replicate x157 (0))) rfl rfl) (okW_cons (.inl (leV_refl _)) (okW_cons (ent_lst (E := (lstE TTubeNode.E)) _ false) (okW_cons (.inl (leV_refl _)) (okW_cons (.inl (leV_refl _)) okW_nil))))))))) (okB_cons (okB_cells (cs := encs intE (List.replicate x157 (0))) (ty := 3) (encs_clean _) (show mget _ 4 = _ from (by first | rfl | (simp (disch := first | decide | assumption) only [mpushs_nil, mpushs_cons, mget_hd, mget_tl, mget_appW_o, mget_appW_n, mget_appW_e])))) okB_nil'))
theorem sg28 {n : Nat} {a0 : List TSector} {a1 : List (List TTubeNode)} {a2 : Int} {t : ρ28} (h : g28 n a0 a1 a2 = some t) : Says Tryz.prog KK.gl 28 [(lstA TSector.E a0), (lstA (lstE TTubeNode.E) a1), (intA a2)] ((AV.tup [(lstA intE t.1), (intA t.2)])) :=
  says_of_own (by first | rfl | simp [cleans, clean, encs_clean, En.cln]) (by first | rfl | simp [cleans, clean, encs_clean, En.cln]) (F28_own (lstA TSector.E a0) (lstA (lstE TTubeNode.E) a1) a2 _ (g28_ok n a0 a1 a2 (Ans ((AV.tup [(lstA intE t.1), (intA t.2)]))) (fun r e u m h => by rw [e]; exact h) h))
/- skyway/load.Peaks -/
theorem B11_0_0_ok (n : Nat) (a0 : List TSector) (a1 : List (List TTubeNode)) (c8 : Int) (v13 : Int) (c14 : List Int) (c53 : Int) (k0_0 : Int) (k0_1 : Int) (w54 : Int) (L90000 : List Int) (L90001 : List Int) {t : (Int × List Int × List Int) ⊕ ((Int × List Int × List Int) ⊕ ρ11)} (R : AV → Mem → Prop) (N0 : St → Prop) (N1 : St → Prop) (hR : ∀ r : ρ11, t = (.inr (.inr r)) → ∀ u m, Ans ((AV.tup [(lstA intE r.1), (lstA intE r.2.1), (intA r.2.2)])) u m → R u m) (hN0 : ∀ y : Int × List Int × List Int, t = (.inr (.inl y)) → ∀ s' : St, Weak KK 80 0 s' (h11_0 (lstA TSector.E a0) (lstA (lstE TTubeNode.E) a1) AV.nils AV.nils c8 (blkV intE 90000 y.2.1) (ownV intE 90001 y.2.2) y.1 [(90000, some ⟨encs intE y.2.1, 3⟩), (90001, ownB intE 3 y.2.2), (0, some ⟨[(intA k0_0), (intA k0_1)], 41⟩)]) → N0 s') (hN1 : ∀ y : Int × List Int × List Int, t = (.inl y) → ∀ s' : St, Weak KK 80 0 s' (h11_0_0 (lstA TSector.E a0) (lstA (lstE TTubeNode.E) a1) AV.nils AV.nils c8 (blkV intE 90000 y.2.1) (ownV intE 90001 y.2.2) v13 (lstA intE c14) c53 y.1 [(90000, some ⟨encs intE y.2.1, 3⟩), (90001, ownB intE 3 y.2.2), (0, some ⟨[(intA k0_0), (intA k0_1)], 41⟩)]) → N1 s') : S11_0_0 n a0 a1 c8 v13 c14 c53 k0_0 k0_1 w54 L90000 L90001 = some t → B11_0_0 (lstA TSector.E a0) (lstA (lstE TTubeNode.E) a1) AV.nils AV.nils c8 (blkV intE 90000 L90000) (ownV intE 90001 L90001) v13 (lstA intE c14) c53 w54 [(90000, some ⟨encs intE L90000, 3⟩), (90001, ownB intE 3 L90001), (0, some ⟨[(intA k0_0), (intA k0_1)], 41⟩)] R N0 N1 := by
  unfold S11_0_0 B11_0_0
  refine cond_b (fun _ => ?_) (fun _ => ?_)
  · refine bind_b fun x164 h164 => ?_
    refine imp (opP_of (show _ = some ((AV.ept [(intA x164)] 0), []) from (idx_lst (E := intE) rfl h164))) ?_
    refine imp (opP_of (show _ = some ((intA x164), []) from rfl)) ?_
    refine imp ex_i64_b ?_
    refine bind_b fun x165 h165 => ?_
    refine imp (opP_of (show _ = some ((AV.ptr 90000 (((w54 : Int).toNat) * 1 + 0)), []) from (idx_blk (E := intE) rfl h165))) ?_
    refine imp (opP_of (show _ = some ((intA x165), []) from (ldS_blk (E := intE) (l := L90000) (ty := 3) (o := 0) (by first | rfl | (simp (disch := first | decide | assumption) only [mpushs_nil, mpushs_cons, mget_hd, mget_tl, mget_appW_o, mget_appW_n, mget_appW_e])) (getI_some h165).2 rfl (by decide) rfl))) ?_
    refine imp ex_i64_b ?_
    refine cond_b (fun _ => ?_) (fun _ => ?_)
    · refine bind_b fun x166 h166 => ?_
      refine imp (opP_of (show _ = some ((AV.ept [(intA x166)] 0), []) from (idx_lst (E := intE) rfl h166))) ?_
      refine imp (opP_of (show _ = some ((intA x166), []) from rfl)) ?_
      refine imp ex_i64_b ?_
      refine bind_b fun x167 h167 => ?_
      refine imp (opP_of (show _ = some ((AV.ptr 90000 (((w54 : Int).toNat) * 1 + 0)), []) from (idx_blk (E := intE) rfl h167))) ?_
      refine imp (storeW_el (E := intE) (l := L90000) (i := ((w54 : Int).toNat)) (o := 0) (y := x166) (ty := 3) (by kernel_rfl) (by kernel_rfl) rfl (by first | rfl | (simp (disch := first | decide | assumption) only [mpushs_nil, mpushs_cons, mget_hd, mget_tl, mget_appW_o, mget_appW_n, mget_appW_e])) (getI_some h167).2 rfl (by decide) rfl) ?_
      refine bind_b fun x168 h168 => ?_
      refine imp (opP_of (show _ = some ((AV.ptr 90001 (((w54 : Int).toNat) * 1 + 0)), []) from (idx_own (E := intE) rfl h168))) ?_
      refine imp (storeW_elO (E := intE) (l := L90001) (i := ((w54 : Int).toNat)) (o := 0) (y := v13) (ty := 3) (by kernel_rfl) (by kernel_rfl) rfl (by first | rfl | (simp (disch := first | decide | assumption) only [mpushs_nil, mpushs_cons, mget_hd, mget_tl, mget_appW_o, mget_appW_n, mget_appW_e])) (getI_some h168).2 rfl (by decide) rfl) ?_
      exact fun hg => hN1 _ (Option.some.inj hg).symm _ (weak_mem [(90000, 90000), (90001, 90001), (0, 0)] rfl rfl rfl (okW_cons (ent_lst (E := TSector.E) _ false) (okW_cons (ent_lst (E := (lstE TTubeNode.E)) _ false) (okW_cons (.inl (leV_refl _)) (okW_cons (.inl (leV_refl _)) (okW_cons (.inl (leV_refl _)) (okW_cons (.inl (leV_refl _)) (okW_cons (ent_blk (E := intE) (id := 90000) (l' := (L90000.set ((w54 : Int).toNat) x166)) (by first | rfl | omega | (simp; done) | (simp; omega)) rfl) (okW_cons (ent_own (E := intE) (id := 90001) (l' := (L90001.set ((w54 : Int).toNat) v13)) (by first | rfl | omega | (simp; done) | (simp; omega)) rfl) (okW_cons (.inl (leV_refl _)) (okW_cons (ent_lst (E := intE) _ false) (okW_cons (.inl (leV_refl _)) (okW_cons (.inl (leV_refl _)) okW_nil)))))))))))) (okB_cons (okB_cells (cs := encs intE (L90000.set ((w54 : Int).toNat) x166)) (ty := 3) (encs_clean _) (show mget _ 90000 = _ from (by first | rfl | (simp (disch := first | decide | assumption) only [mpushs_nil, mpushs_cons, mget_hd, mget_tl, mget_appW_o, mget_appW_n, mget_appW_e])))) (okB_cons (okB_own (E := intE) (ty := 3) (l' := (L90001.set ((w54 : Int).toNat) v13)) rfl (show mget _ 90001 = _ from (by first | rfl | (simp (disch := first | decide | assumption) only [mpushs_nil, mpushs_cons, mget_hd, mget_tl, mget_appW_o, mget_appW_n, mget_appW_e])))) (okB_cons (okB_cells (cs := [(intA k0_0), (intA k0_1)]) (ty := 41) rfl (show mget _ 0 = _ from (by first | rfl | (simp (disch := first | decide | assumption) only [mpushs_nil, mpushs_cons, mget_hd, mget_tl, mget_appW_o, mget_appW_n, mget_appW_e])))) okB_nil'))))
    · exact fun hg => hN1 _ (Option.some.inj hg).symm _ (weak_mem [(90000, 90000), (90001, 90001), (0, 0)] rfl rfl rfl (okW_cons (ent_lst (E := TSector.E) _ false) (okW_cons (ent_lst (E := (lstE TTubeNode.E)) _ false) (okW_cons (.inl (leV_refl _)) (okW_cons (.inl (leV_refl _)) (okW_cons (.inl (leV_refl _)) (okW_cons (.inl (leV_refl _)) (okW_cons (ent_blk (E := intE) (id := 90000) (l' := L90000) rfl rfl) (okW_cons (ent_own (E := intE) (id := 90001) (l' := L90001) rfl rfl) (okW_cons (.inl (leV_refl _)) (okW_cons (ent_lst (E := intE) _ false) (okW_cons (.inl (leV_refl _)) (okW_cons (.inl (leV_refl _)) okW_nil)))))))))))) (okB_cons (okB_cells (cs := encs intE L90000) (ty := 3) (encs_clean _) (show mget _ 90000 = _ from (by first | rfl | (simp (disch := first | decide | assumption) only [mpushs_nil, mpushs_cons, mget_hd, mget_tl, mget_appW_o, mget_appW_n, mget_appW_e])))) (okB_cons (okB_own (E := intE) (ty := 3) (l' := L90001) rfl (show mget _ 90001 = _ from (by first | rfl | (simp (disch := first | decide | assumption) only [mpushs_nil, mpushs_cons, mget_hd, mget_tl, mget_appW_o, mget_appW_n, mget_appW_e])))) (okB_cons (okB_cells (cs := [(intA k0_0), (intA k0_1)]) (ty := 41) rfl (show mget _ 0 = _ from (by first | rfl | (simp (disch := first | decide | assumption) only [mpushs_nil, mpushs_cons, mget_hd, mget_tl, mget_appW_o, mget_appW_n, mget_appW_e])))) okB_nil'))))
  · exact fun hg => hN0 _ (Option.some.inj hg).symm _ (weak_mem [(90000, 90000), (90001, 90001), (0, 0)] rfl rfl rfl (okW_cons (ent_lst (E := TSector.E) _ false) (okW_cons (ent_lst (E := (lstE TTubeNode.E)) _ false) (okW_cons (.inl (leV_refl _)) (okW_cons (.inl (leV_refl _)) (okW_cons (.inl (leV_refl _)) (okW_cons (.inl (leV_refl _)) (okW_cons (ent_blk (E := intE) (id := 90000) (l' := L90000) rfl rfl) (okW_cons (ent_own (E := intE) (id := 90001) (l' := L90001) rfl rfl) (okW_cons (.inl (leV_refl _)) okW_nil))))))))) (okB_cons (okB_cells (cs := encs intE L90000) (ty := 3) (encs_clean _) (show mget _ 90000 = _ from (by first | rfl | (simp (disch := first | decide | assumption) only [mpushs_nil, mpushs_cons, mget_hd, mget_tl, mget_appW_o, mget_appW_n, mget_appW_e])))) (okB_cons (okB_own (E := intE) (ty := 3) (l' := L90001) rfl (show mget _ 90001 = _ from (by first | rfl | (simp (disch := first | decide | assumption) only [mpushs_nil, mpushs_cons, mget_hd, mget_tl, mget_appW_o, mget_appW_n, mget_appW_e])))) (okB_cons (okB_cells (cs := [(intA k0_0), (intA k0_1)]) (ty := 41) rfl (show mget _ 0 = _ from (by first | rfl | (simp (disch := first | decide | assumption) only [mpushs_nil, mpushs_cons, mget_hd, mget_tl, mget_appW_o, mget_appW_n, mget_appW_e])))) okB_nil'))))
theorem L11_0_0_ok (n : Nat) (a0 : List TSector) (a1 : List (List TTubeNode)) (c8 : Int) (v13 : Int) (c14 : List Int) (c53 : Int) (k0_0 : Int) (k0_1 : Int) {t : ((Int × List Int × List Int) ⊕ ρ11)} (R : AV → Mem → Prop) (N0 : St → Prop) (hR : ∀ r : ρ11, t = (.inr r) → ∀ u m, Ans ((AV.tup [(lstA intE r.1), (lstA intE r.2.1), (intA r.2.2)])) u m → R u m) (hN0 : ∀ y : Int × List Int × List Int, t = (.inl y) → ∀ s' : St, Weak KK 80 0 s' (h11_0 (lstA TSector.E a0) (lstA (lstE TTubeNode.E) a1) AV.nils AV.nils c8 (blkV intE 90000 y.2.1) (ownV intE 90001 y.2.2) y.1 [(90000, some ⟨encs intE y.2.1, 3⟩), (90001, ownB intE 3 y.2.2), (0, some ⟨[(intA k0_0), (intA k0_1)], 41⟩)]) → N0 s') (k : Nat) (x : Int × List Int × List Int) (hx : iterO (fun y : Int × List Int × List Int => S11_0_0 n a0 a1 c8 v13 c14 c53 k0_0 k0_1 y.1 y.2.1 y.2.2) k x = some t) {s : St} (hw : Weak KK 80 0 s (h11_0_0 (lstA TSector.E a0) (lstA (lstE TTubeNode.E) a1) AV.nils AV.nils c8 (blkV intE 90000 x.2.1) (ownV intE 90001 x.2.2) v13 (lstA intE c14) c53 x.1 [(90000, some ⟨encs intE x.2.1, 3⟩), (90001, ownB intE 3 x.2.2), (0, some ⟨[(intA k0_0), (intA k0_1)], 41⟩)])) : Tri Tryz.prog KK 80 0 (.loop c11_0_0) s (q11_0_0 R N0) :=
  L11_0_0 R N0 (σ := Nat × (Int × List Int × List Int)) (fun z => iterO (fun y : Int × List Int × List Int => S11_0_0 n a0 a1 c8 v13 c14 c53 k0_0 k0_1 y.1 y.2.1 y.2.2) z.1 z.2 = some t) (fun z => (lstA TSector.E a0)) (fun z => (lstA (lstE TTubeNode.E) a1)) (fun z => AV.nils) (fun z => AV.nils) (fun z => c8) (fun z => (blkV intE 90000 z.2.2.1)) (fun z => (ownV intE 90001 z.2.2.2)) (fun z => v13) (fun z => (lstA intE c14)) (fun z => c53) (fun z => z.2.1) (fun z => [(90000, some ⟨encs intE z.2.2.1, 3⟩), (90001, ownB intE 3 z.2.2.2), (0, some ⟨[(intA k0_0), (intA k0_1)], 41⟩)]) (fun z => z.1) (by
    rintro ⟨k, y⟩ h
    cases k with
    | zero => exact (iterO_zero h).elim
    | succ k =>
      obtain ⟨u, h1, h2, h3⟩ := iterO_elim h
      exact B11_0_0_ok n a0 a1 c8 v13 c14 c53 k0_0 k0_1 y.1 y.2.1 y.2.2 R N0 _ (fun r e => hR r (h3 _ e).symm) (fun y' e => hN0 y' (h3 _ e).symm) (fun y' e s' hw => ⟨(k, y'), h2 _ e, Nat.lt_succ_self k, hw⟩) h1) (k, x) hx hw
theorem B11_0_ok (n : Nat) (a0 : List TSector) (a1 : List (List TTubeNode)) (c8 : Int) (k0_0 : Int) (k0_1 : Int) (v13 : Int) (L90000 : List Int) (L90001 : List Int) {t : (Int × List Int × List Int) ⊕ ρ11} (R : AV → Mem → Prop) (N0 : St → Prop) (hR : ∀ r : ρ11, t = (.inr r) → ∀ u m, Ans ((AV.tup [(lstA intE r.1), (lstA intE r.2.1), (intA r.2.2)])) u m → R u m) (hN0 : ∀ y : Int × List Int × List Int, t = (.inl y) → ∀ s' : St, Weak KK 80 0 s' (h11_0 (lstA TSector.E a0) (lstA (lstE TTubeNode.E) a1) AV.nils AV.nils c8 (blkV intE 90000 y.2.1) (ownV intE 90001 y.2.2) y.1 [(90000, some ⟨encs intE y.2.1, 3⟩), (90001, ownB intE 3 y.2.2), (0, some ⟨[(intA k0_0), (intA k0_1)], 41⟩)]) → N0 s') : S11_0 n a0 a1 c8 k0_0 k0_1 v13 L90000 L90001 = some t → B11_0 (lstA TSector.E a0) (lstA (lstE TTubeNode.E) a1) AV.nils AV.nils c8 (blkV intE 90000 L90000) (ownV intE 90001 L90001) v13 [(90000, some ⟨encs intE L90000, 3⟩), (90001, ownB intE 3 L90001), (0, some ⟨[(intA k0_0), (intA k0_1)], 41⟩)] R N0 := by
  unfold S11_0 B11_0
  refine imp (opP_of (show _ = some ((intA k0_1), []) from (ldS_ptr (b := ⟨[(intA k0_0), (intA k0_1)], 41⟩) (by first | rfl | (simp (disch := first | decide | assumption) only [mpushs_nil, mpushs_cons, mget_hd, mget_tl, mget_appW_o, mget_appW_n, mget_appW_e])) rfl))) ?_
  refine imp ex_i64_b ?_
  refine cond_b (fun _ => ?_) (fun _ => ?_)
  · refine bind_b fun x163 h163 => ?_
    refine imp (callW_says (sg28 h163)) ?_
    refine imp exT2_b ?_
    refine imp ex_i64_b ?_
    refine imp (opP_of (show _ = some ((intA (x163.1.length : Int)), []) from rfl)) ?_
    refine imp ex_i64_b ?_
    exact fun hg => L11_0_0_ok n a0 a1 c8 v13 x163.1 (x163.1.length : Int) k0_0 k0_1 R N0 hR hN0 n _ hg (weak_mem [(90000, 90000), (90001, 90001), (0, 0)] rfl rfl rfl (okW_cons (ent_lst (E := TSector.E) _ false) (okW_cons (ent_lst (E := (lstE TTubeNode.E)) _ false) (okW_cons (.inl (leV_refl _)) (okW_cons (.inl (leV_refl _)) (okW_cons (.inl (leV_refl _)) (okW_cons (.inl (leV_refl _)) (okW_cons (ent_blk (E := intE) (id := 90000) (l' := L90000) rfl rfl) (okW_cons (ent_own (E := intE) (id := 90001) (l' := L90001) rfl rfl) (okW_cons (.inl (leV_refl _)) (okW_cons (ent_lst (E := intE) _ false) (okW_cons (.inl (leV_refl _)) (okW_cons (.inl (leV_refl _)) okW_nil)))))))))))) (okB_cons (okB_cells (cs := encs intE L90000) (ty := 3) (encs_clean _) (show mget _ 90000 = _ from (by first | rfl | (simp (disch := first | decide | assumption) only [mpushs_nil, mpushs_cons, mget_hd, mget_tl, mget_appW_o, mget_appW_n, mget_appW_e])))) (okB_cons (okB_own (E := intE) (ty := 3) (l' := L90001) rfl (show mget _ 90001 = _ from (by first | rfl | (simp (disch := first | decide | assumption) only [mpushs_nil, mpushs_cons, mget_hd, mget_tl, mget_appW_o, mget_appW_n, mget_appW_e])))) (okB_cons (okB_cells (cs := [(intA k0_0), (intA k0_1)]) (ty := 41) rfl (show mget _ 0 = _ from (by first | rfl | (simp (disch := first | decide | assumption) only [mpushs_nil, mpushs_cons, mget_hd, mget_tl, mget_appW_o, mget_appW_n, mget_appW_e])))) okB_nil'))))
  · exact fun hg => retN rfl (hR _ (Option.some.inj hg).symm) (fzL_cons (fz_blk (E := intE) (ty := 3) (l' := L90000) _ rfl (by first | rfl | (simp (disch := first | decide | assumption) only [mpushs_nil, mpushs_cons, mget_hd, mget_tl, mget_appW_o, mget_appW_n, mget_appW_e]))) (fzL_cons (fz_own (E := intE) (ty := 3) (l' := L90001) _ rfl (by first | rfl | (simp (disch := first | decide | assumption) only [mpushs_nil, mpushs_cons, mget_hd, mget_tl, mget_appW_o, mget_appW_n, mget_appW_e]))) (fzL_cons (fz_sc _ _) fzL_nil)))
theorem L11_0_ok (n : Nat) (a0 : List TSector) (a1 : List (List TTubeNode)) (c8 : Int) (k0_0 : Int) (k0_1 : Int) {t : ρ11} (R : AV → Mem → Prop) (hR : ∀ r : ρ11, t = r → ∀ u m, Ans ((AV.tup [(lstA intE r.1), (lstA intE r.2.1), (intA r.2.2)])) u m → R u m) (k : Nat) (x : Int × List Int × List Int) (hx : iterO (fun y : Int × List Int × List Int => S11_0 n a0 a1 c8 k0_0 k0_1 y.1 y.2.1 y.2.2) k x = some t) {s : St} (hw : Weak KK 80 0 s (h11_0 (lstA TSector.E a0) (lstA (lstE TTubeNode.E) a1) AV.nils AV.nils c8 (blkV intE 90000 x.2.1) (ownV intE 90001 x.2.2) x.1 [(90000, some ⟨encs intE x.2.1, 3⟩), (90001, ownB intE 3 x.2.2), (0, some ⟨[(intA k0_0), (intA k0_1)], 41⟩)])) : Tri Tryz.prog KK 80 0 (.loop c11_0) s (q11_0 R ) :=
  L11_0 R  (σ := Nat × (Int × List Int × List Int)) (fun z => iterO (fun y : Int × List Int × List Int => S11_0 n a0 a1 c8 k0_0 k0_1 y.1 y.2.1 y.2.2) z.1 z.2 = some t) (fun z => (lstA TSector.E a0)) (fun z => (lstA (lstE TTubeNode.E) a1)) (fun z => AV.nils) (fun z => AV.nils) (fun z => c8) (fun z => (blkV intE 90000 z.2.2.1)) (fun z => (ownV intE 90001 z.2.2.2)) (fun z => z.2.1) (fun z => [(90000, some ⟨encs intE z.2.2.1, 3⟩), (90001, ownB intE 3 z.2.2.2), (0, some ⟨[(intA k0_0), (intA k0_1)], 41⟩)]) (fun z => z.1) (by
    rintro ⟨k, y⟩ h
    cases k with
    | zero => exact (iterO_zero h).elim
    | succ k =>
      obtain ⟨u, h1, h2, h3⟩ := iterO_elim h
      exact B11_0_ok n a0 a1 c8 k0_0 k0_1 y.1 y.2.1 y.2.2 R  _ (fun r e => hR r (h3 _ e).symm)  (fun y' e s' hw => ⟨(k, y'), h2 _ e, Nat.lt_succ_self k, hw⟩) h1) (k, x) hx hw
theorem g11_ok (n : Nat) (a0 : List TSector) (a1 : List (List TTubeNode)) (a2 : TSpan) {t : ρ11} (R : AV → Mem → Prop) (hR : ∀ r : ρ11, t = r → ∀ u m, Ans ((AV.tup [(lstA intE r.1), (lstA intE r.2.1), (intA r.2.2)])) u m → R u m) : g11 n a0 a1 a2 = some t → F11 (lstA TSector.E a0) (lstA (lstE TTubeNode.E) a1) a2.From a2.To R := by
  unfold g11 F11
  refine bind_b fun x153 h153 => ?_
  refine imp (callQ_says (sg22 h153)) ?_
  refine imp ex_i64_b ?_
  refine cond_b (fun _ => ?_) (fun _ => ?_)
  · exact fun hg => retN rfl (hR _ (Option.some.inj hg).symm) (fzL_cons (fz_nils (E := intE) _) (fzL_cons (fz_nils (E := intE) _) (fzL_cons (fz_sc _ _) fzL_nil)))
  · refine bind_b fun x154 h154 => ?_
    refine imp (callQ_says (sg26 h154)) ?_
    refine imp ex_i64_b ?_
    refine cond_b (fun _ => ?_) (fun _ => ?_)
    · exact fun hg => retN rfl (hR _ (Option.some.inj hg).symm) (fzL_cons (fz_nils (E := intE) _) (fzL_cons (fz_nils (E := intE) _) (fzL_cons (fz_sc _ _) fzL_nil)))
    · refine imp (opM_of (show _ = some ((intA (a0.length : Int)), []) from rfl)) ?_
      refine imp ex_i64_b ?_
      refine bind_b fun x155 h155 => ?_
      refine imp (opM_of (show _ = some ((blkV intE 143 (List.replicate x155 (0))), [(143, some ⟨encs intE (List.replicate x155 (0)), 3⟩)]) from (mks_ok (E := intE) (z := (0)) rfl rfl h155))) ?_
      refine imp (opM_of (show _ = some ((intA a2.From), []) from (ldS_ptr (b := ⟨[(intA a2.From), (intA a2.To)], 41⟩) (by first | rfl | (rw [look'_mem (by first | rfl | simp [topId_blk] | simp [topId])]; first | rfl | (simp (disch := first | decide | assumption) only [mpushs_nil, mpushs_cons, mget_hd, mget_tl, mget_appW_o, mget_appW_n, mget_appW_e]))) rfl))) ?_
      refine imp ex_i64_b ?_
      refine imp (opM_of (show _ = some ((blkV intE 146 ([a2.From] : List Int)), [(146, some ⟨encs intE ([a2.From] : List Int), 3⟩)]) from rfl)) ?_
      refine imp (opM_of (show _ = some ((intA (a0.length : Int)), []) from rfl)) ?_
      refine imp ex_i64_b ?_
      refine bind_b fun x156 h156 => ?_
      refine imp (callF_D [146] (show PureD _ _ _ _ _ _ (ownV intE 149 x156) [(146, none), (149, ownB intE 3 x156)] from pureD_frz2 rfl (by first | rfl | (rw [look'_mem (by first | rfl | simp [topId_blk] | simp [topId])]; first | rfl | (simp (disch := first | decide | assumption) only [mpushs_nil, mpushs_cons, mget_hd, mget_tl, mget_appW_o, mget_appW_n, mget_appW_e]))) (fun _ => rep27 h156))) ?_
      refine imp (chk_of (by kernel_rfl)) ?_
      refine imp (opP_of (show _ = some ((intA a2.From), []) from (ldS_ptr (b := ⟨[(intA a2.From), (intA a2.To)], 41⟩) (by first | rfl | (simp (disch := first | decide | assumption) only [mpushs_nil, mpushs_cons, mget_hd, mget_tl, mget_appW_o, mget_appW_n, mget_appW_e])) rfl))) ?_
      refine imp ex_i64_b ?_
      exact fun hg => L11_0_ok n a0 a1 (0) a2.From a2.To R  hR n _ hg (weak_mem [(90000, 143), (90001, 149), (0, 0)] rfl rfl rfl (okW_cons (ent_lst (E := TSector.E) _ false) (okW_cons (ent_lst (E := (lstE TTubeNode.E)) _ false) (okW_cons (.inl (leV_refl _)) (okW_cons (.inl (leV_refl _)) (okW_cons (.inl (leV_refl _)) (okW_cons (.inl (leV_refl _)) (okW_cons (ent_blk (E := intE) (id := 143) (l' := (List.replicate x155 (0))) rfl rfl) (okW_cons (ent_own (E := intE) (id := 149) (l' := x156) rfl rfl) (okW_cons (.inl (leV_refl _)) okW_nil))))))))) (okB_cons (okB_cells (cs := encs intE (List.replicate x155 (0))) (ty := 3) (encs_clean _) (show mget _ 143 = _ from (by first | rfl | (simp (disch := first | decide | assumption) only [mpushs_nil, mpushs_cons, mget_hd, mget_tl, mget_appW_o, mget_appW_n, mget_appW_e])))) (okB_cons (okB_own (E := intE) (ty := 3) (l' := x156) rfl (show mget _ 149 = _ from (by first | rfl | (simp (disch := first | decide | assumption) only [mpushs_nil, mpushs_cons, mget_hd, mget_tl, mget_appW_o, mget_appW_n, mget_appW_e])))) (okB_cons (okB_cells (cs := [(intA a2.From), (intA a2.To)]) (ty := 41) rfl (show mget _ 0 = _ from (by first | rfl | (simp (disch := first | decide | assumption) only [mpushs_nil, mpushs_cons, mget_hd, mget_tl, mget_appW_o, mget_appW_n, mget_appW_e])))) okB_nil'))))
theorem sg11 {n : Nat} {a0 : List TSector} {a1 : List (List TTubeNode)} {a2 : TSpan} {t : ρ11} (h : g11 n a0 a1 a2 = some t) : Says Tryz.prog KK.gl 11 [(lstA TSector.E a0), (lstA (lstE TTubeNode.E) a1), (AV.agg [(intA a2.From), (intA a2.To)])] ((AV.tup [(lstA intE t.1), (lstA intE t.2.1), (intA t.2.2)])) :=
  says_of_own (by first | rfl | simp [cleans, clean, encs_clean, En.cln]) (by first | rfl | simp [cleans, clean, encs_clean, En.cln]) (F11_own (lstA TSector.E a0) (lstA (lstE TTubeNode.E) a1) a2.From a2.To _ (g11_ok n a0 a1 a2 (Ans ((AV.tup [(lstA intE t.1), (lstA intE t.2.1), (intA t.2.2)]))) (fun r e u m h => by rw [e]; exact h) h))
/- cmp.Or[int] -/
theorem B31_0_ok (n : Nat) (c2 : Int) (a0 : List Int) (c7 : Int) (v8 : Int) {t : (Int) ⊕ ρ31} (R : AV → Mem → Prop) (N0 : St → Prop) (hR : ∀ r : ρ31, t = (.inr r) → ∀ u m, Ans ((intA r)) u m → R u m) (hN0 : ∀ y : Int, t = (.inl y) → ∀ s' : St, Weak KK 18 0 s' (h31_0 c2 c2 (lstA intE a0) c7 y []) → N0 s') : S31_0 n c2 a0 c7 v8 = some t → B31_0 c2 c2 (lstA intE a0) c7 v8 [] R N0 := by
  unfold S31_0 B31_0
  refine cond_b (fun _ => ?_) (fun _ => ?_)
  · refine bind_b fun x183 h183 => ?_
    refine imp (opP_of (show _ = some ((AV.ept [(intA x183)] 0), []) from (idx_lst (E := intE) rfl h183))) ?_
    refine imp (opP_of (show _ = some ((intA x183), []) from rfl)) ?_
    refine imp ex_i64_b ?_
    refine cond_b (fun _ => ?_) (fun _ => ?_)
    · exact fun hg => ret1 (hR _ (Option.some.inj hg).symm) (fz_sc _ _)
    · exact fun hg => hN0 _ (Option.some.inj hg).symm _ (weak_mem [] rfl rfl rfl (okW_cons (.inl (leV_refl _)) (okW_cons (.inl (leV_refl _)) (okW_cons (ent_lst (E := intE) _ false) (okW_cons (.inl (leV_refl _)) (okW_cons (.inl (leV_refl _)) okW_nil))))) okB_nil')
  · exact fun hg => ret1 (hR _ (Option.some.inj hg).symm) (fz_sc _ _)
theorem L31_0_ok (n : Nat) (c2 : Int) (a0 : List Int) (c7 : Int) {t : ρ31} (R : AV → Mem → Prop) (hR : ∀ r : ρ31, t = r → ∀ u m, Ans ((intA r)) u m → R u m) (k : Nat) (x : Int) (hx : iterO (fun y : Int => S31_0 n c2 a0 c7 y) k x = some t) {s : St} (hw : Weak KK 18 0 s (h31_0 c2 c2 (lstA intE a0) c7 x [])) : Tri Tryz.prog KK 18 0 (.loop c31_0) s (q31_0 R ) :=
  L31_0 R  (σ := Nat × (Int)) (fun z => iterO (fun y : Int => S31_0 n c2 a0 c7 y) z.1 z.2 = some t) (fun z => c2) (fun z => c2) (fun z => (lstA intE a0)) (fun z => c7) (fun z => z.2) (fun z => []) (fun z => z.1) (by
    rintro ⟨k, y⟩ h
    cases k with
    | zero => exact (iterO_zero h).elim
    | succ k =>
      obtain ⟨u, h1, h2, h3⟩ := iterO_elim h
      exact B31_0_ok n c2 a0 c7 y R  _ (fun r e => hR r (h3 _ e).symm)  (fun y' e s' hw => ⟨(k, y'), h2 _ e, Nat.lt_succ_self k, hw⟩) h1) (k, x) hx hw
theorem g31_ok (n : Nat) (a0 : List Int) {t : ρ31} (R : AV → Mem → Prop) (hR : ∀ r : ρ31, t = r → ∀ u m, Ans ((intA r)) u m → R u m) : g31 n a0 = some t → F31 (lstA intE a0) R := by
  unfold g31 F31
  refine imp (opP_of (show _ = some ((intA (a0.length : Int)), []) from rfl)) ?_
  refine imp ex_i64_b ?_
  exact fun hg => L31_0_ok n (0) a0 (a0.length : Int) R  hR n _ hg (weak_mem [] rfl rfl rfl (okW_cons (.inl (leV_refl _)) (okW_cons (.inl (leV_refl _)) (okW_cons (ent_lst (E := intE) _ false) (okW_cons (.inl (leV_refl _)) (okW_cons (.inl (leV_refl _)) okW_nil))))) okB_nil')
theorem sg31 {n : Nat} {a0 : List Int} {t : ρ31} (h : g31 n a0 = some t) : Says Tryz.prog KK.gl 31 [(lstA intE a0)] ((intA t)) :=
  says_of_own (by first | rfl | simp [cleans, clean, encs_clean, En.cln]) (by first | rfl | simp [cleans, clean, encs_clean, En.cln]) (F31_own (lstA intE a0) _ (g31_ok n a0 (Ans ((intA t))) (fun r e u m h => by rw [e]; exact h) h))
/- skyway/load.Over$1 -/
theorem g30_ok (n : Nat) (a0 : TLoadOver) (a1 : TLoadOver) {t : ρ30} (R : AV → Mem → Prop) (hR : ∀ r : ρ30, t = r → ∀ u m, Ans ((intA r)) u m → R u m) : g30 n a0 a1 = some t → F30 a0.Sector a0.From a0.To a1.Sector a1.From a1.To R := by
  unfold g30 F30
  refine imp (opN_of (show _ = some ((blkV intE 13 ([(IntKind.wrap .i64 (a0.From - a1.From)), (IntKind.wrap .i64 (a0.Sector - a1.Sector))] : List Int)), [(13, some ⟨encs intE ([(IntKind.wrap .i64 (a0.From - a1.From)), (IntKind.wrap .i64 (a0.Sector - a1.Sector))] : List Int), 3⟩)]) from rfl)) ?_
  refine bind_b fun x184 h184 => ?_
  refine imp (callQ_pure (pure_snapN (snL_cons (sn_blk (E := intE) (ty := 3) (l' := ([(IntKind.wrap .i64 (a0.From - a1.From)), (IntKind.wrap .i64 (a0.Sector - a1.Sector))] : List Int)) _ intE.nf rfl (by first | rfl | (simp (disch := first | decide | assumption) only [mpushs_nil, mpushs_cons, mget_hd, mget_tl, mget_appW_o, mget_appW_n, mget_appW_e]))) snL_nil) (sg31 h184) rfl)) ?_
  refine imp ex_i64_b ?_
  exact fun hg => ret1 (hR _ (Option.some.inj hg).symm) (fz_sc _ _)
theorem sg30 {n : Nat} {a0 : TLoadOver} {a1 : TLoadOver} {t : ρ30} (h : g30 n a0 a1 = some t) : Says Tryz.prog KK.gl 30 [(AV.agg [(intA a0.Sector), (intA a0.From), (intA a0.To)]), (AV.agg [(intA a1.Sector), (intA a1.From), (intA a1.To)])] ((intA t)) :=
  says_of_own (by first | rfl | simp [cleans, clean, encs_clean, En.cln]) (by first | rfl | simp [cleans, clean, encs_clean, En.cln]) (F30_own a0.Sector a0.From a0.To a1.Sector a1.From a1.To _ (g30_ok n a0 a1 (Ans ((intA t))) (fun r e u m h => by rw [e]; exact h) h))
/- skyway/load.Over -/
theorem B12_0_0_ok (n : Nat) (a0 : List TSector) (a1 : List (List TTubeNode)) (a2 : List Int) (c9 : Int) (v14 : Int) (c15 : List Int) (c54 : Int) (k0_0 : Int) (k0_1 : Int) (w55 : Int) (L90000 : List TLoadOver) (L90001 : List Int) {t : (Int × List TLoadOver × List Int) ⊕ ((Int × List TLoadOver × List Int) ⊕ ρ12)} (R : AV → Mem → Prop) (N0 : St → Prop) (N1 : St → Prop) (hR : ∀ r : ρ12, t = (.inr (.inr r)) → ∀ u m, Ans ((AV.tup [(lstA TLoadOver.E r.1), (intA r.2)])) u m → R u m) (hN0 : ∀ y : Int × List TLoadOver × List Int, t = (.inr (.inl y)) → ∀ s' : St, Weak KK 101 0 s' (h12_0 (lstA TSector.E a0) (lstA (lstE TTubeNode.E) a1) (lstA intE a2) AV.nils c9 (ownV TLoadOver.E 90000 y.2.1) (ownV intE 90001 y.2.2) y.1 [(90000, ownB TLoadOver.E 49 y.2.1), (90001, ownB intE 3 y.2.2), (0, some ⟨[(intA k0_0), (intA k0_1)], 41⟩)]) → N0 s') (hN1 : ∀ y : Int × List TLoadOver × List Int, t = (.inl y) → ∀ s' : St, Weak KK 101 0 s' (h12_0_0 (lstA TSector.E a0) (lstA (lstE TTubeNode.E) a1) (lstA intE a2) AV.nils c9 (ownV TLoadOver.E 90000 y.2.1) (ownV intE 90001 y.2.2) v14 (lstA intE c15) c54 y.1 [(90000, ownB TLoadOver.E 49 y.2.1), (90001, ownB intE 3 y.2.2), (0, some ⟨[(intA k0_0), (intA k0_1)], 41⟩)]) → N1 s') : S12_0_0 n a0 a1 a2 c9 v14 c15 c54 k0_0 k0_1 w55 L90000 L90001 = some t → B12_0_0 (lstA TSector.E a0) (lstA (lstE TTubeNode.E) a1) (lstA intE a2) AV.nils c9 (ownV TLoadOver.E 90000 L90000) (ownV intE 90001 L90001) v14 (lstA intE c15) c54 w55 [(90000, ownB TLoadOver.E 49 L90000), (90001, ownB intE 3 L90001), (0, some ⟨[(intA k0_0), (intA k0_1)], 41⟩)] R N0 N1 := by
  unfold S12_0_0 B12_0_0
  refine cond_b (fun _ => ?_) (fun _ => ?_)
  · refine bind_b fun x174 h174 => ?_
    refine imp (opP_of (show _ = some ((AV.ept [(intA x174)] 0), []) from (idx_lst (E := intE) rfl h174))) ?_
    refine imp (opP_of (show _ = some ((intA x174), []) from rfl)) ?_
    refine imp ex_i64_b ?_
    refine bind_b fun x175 h175 => ?_
    refine imp (opP_of (show _ = some ((AV.ept [(intA x175)] 0), []) from (idx_lst (E := intE) rfl h175))) ?_
    refine imp (opP_of (show _ = some ((intA x175), []) from rfl)) ?_
    refine imp ex_i64_b ?_
    refine cond_b (fun _ => ?_) (fun _ => ?_)
    · refine bind_b fun x176 h176 => ?_
      refine imp (opP_of (show _ = some ((AV.ptr 90001 (((w55 : Int).toNat) * 1 + 0)), []) from (idx_own (E := intE) rfl h176))) ?_
      refine imp (storeW_elO (E := intE) (l := L90001) (i := ((w55 : Int).toNat)) (o := 0) (y := (-1)) (ty := 3) (by kernel_rfl) (by kernel_rfl) rfl (by first | rfl | (simp (disch := first | decide | assumption) only [mpushs_nil, mpushs_cons, mget_hd, mget_tl, mget_appW_o, mget_appW_n, mget_appW_e])) (getI_some h176).2 rfl (by decide) rfl) ?_
      exact fun hg => hN1 _ (Option.some.inj hg).symm _ (weak_mem [(90000, 90000), (90001, 90001), (0, 0)] rfl rfl rfl (okW_cons (ent_lst (E := TSector.E) _ false) (okW_cons (ent_lst (E := (lstE TTubeNode.E)) _ false) (okW_cons (ent_lst (E := intE) _ false) (okW_cons (.inl (leV_refl _)) (okW_cons (.inl (leV_refl _)) (okW_cons (.inl (leV_refl _)) (okW_cons (ent_own (E := TLoadOver.E) (id := 90000) (l' := L90000) rfl rfl) (okW_cons (ent_own (E := intE) (id := 90001) (l' := (L90001.set ((w55 : Int).toNat) (-1))) (by first | rfl | omega | (simp; done) | (simp; omega)) rfl) (okW_cons (.inl (leV_refl _)) (okW_cons (ent_lst (E := intE) _ false) (okW_cons (.inl (leV_refl _)) (okW_cons (.inl (leV_refl _)) okW_nil)))))))))))) (okB_cons (okB_own (E := TLoadOver.E) (ty := 49) (l' := L90000) rfl (show mget _ 90000 = _ from (by first | rfl | (simp (disch := first | decide | assumption) only [mpushs_nil, mpushs_cons, mget_hd, mget_tl, mget_appW_o, mget_appW_n, mget_appW_e])))) (okB_cons (okB_own (E := intE) (ty := 3) (l' := (L90001.set ((w55 : Int).toNat) (-1))) rfl (show mget _ 90001 = _ from (by first | rfl | (simp (disch := first | decide | assumption) only [mpushs_nil, mpushs_cons, mget_hd, mget_tl, mget_appW_o, mget_appW_n, mget_appW_e])))) (okB_cons (okB_cells (cs := [(intA k0_0), (intA k0_1)]) (ty := 41) rfl (show mget _ 0 = _ from (by first | rfl | (simp (disch := first | decide | assumption) only [mpushs_nil, mpushs_cons, mget_hd, mget_tl, mget_appW_o, mget_appW_n, mget_appW_e])))) okB_nil'))))
    · refine bind_b fun x177 h177 => ?_
      refine imp (opP_of (show _ = some ((AV.ptr 90001 (((w55 : Int).toNat) * 1 + 0)), []) from (idx_own (E := intE) rfl h177))) ?_
      refine imp (opP_of (show _ = some ((intA x177), []) from (ldS_blk (E := intE) (l := L90001) (ty := 3) (o := 0) (own_some (ty := 3) (by first | rfl | (simp (disch := first | decide | assumption) only [mpushs_nil, mpushs_cons, mget_hd, mget_tl, mget_appW_o, mget_appW_n, mget_appW_e])) (getI_some h177).2) (getI_some h177).2 rfl (by decide) rfl))) ?_
      refine imp ex_i64_b ?_
      refine cond_b (fun _ => ?_) (fun _ => ?_)
      · refine bind_b fun x178 h178 => ?_
        refine imp (opP_of (show _ = some ((AV.ptr 90001 (((w55 : Int).toNat) * 1 + 0)), []) from (idx_own (E := intE) rfl h178))) ?_
        refine imp (opP_of (show _ = some ((intA x178), []) from (ldS_blk (E := intE) (l := L90001) (ty := 3) (o := 0) (own_some (ty := 3) (by first | rfl | (simp (disch := first | decide | assumption) only [mpushs_nil, mpushs_cons, mget_hd, mget_tl, mget_appW_o, mget_appW_n, mget_appW_e])) (getI_some h178).2) (getI_some h178).2 rfl (by decide) rfl))) ?_
        refine imp ex_i64_b ?_
        refine bind_b fun x179 h179 => ?_
        refine imp (opP_of (show _ = some ((AV.ptr 90000 (((x178 : Int).toNat) * 3 + 0)), []) from (idx_own (E := TLoadOver.E) rfl h179))) ?_
        refine imp (opP_of (show _ = some ((AV.ptr 90000 (((x178 : Int).toNat) * 3 + 2)), []) from rfl)) ?_
        refine imp (storeW_elO (E := TLoadOver.E) (l := L90000) (i := ((x178 : Int).toNat)) (o := 2) (y := (⟨x179.Sector, x179.From, v14⟩ : TLoadOver)) (ty := 49) (by kernel_rfl) (by kernel_rfl) rfl (by first | rfl | (simp (disch := first | decide | assumption) only [mpushs_nil, mpushs_cons, mget_hd, mget_tl, mget_appW_o, mget_appW_n, mget_appW_e])) (getI_some h179).2 rfl (by decide) rfl) ?_
        exact fun hg => hN1 _ (Option.some.inj hg).symm _ (weak_mem [(90000, 90000), (90001, 90001), (0, 0)] rfl rfl rfl (okW_cons (ent_lst (E := TSector.E) _ false) (okW_cons (ent_lst (E := (lstE TTubeNode.E)) _ false) (okW_cons (ent_lst (E := intE) _ false) (okW_cons (.inl (leV_refl _)) (okW_cons (.inl (leV_refl _)) (okW_cons (.inl (leV_refl _)) (okW_cons (ent_own (E := TLoadOver.E) (id := 90000) (l' := (L90000.set ((x178 : Int).toNat) (⟨x179.Sector, x179.From, v14⟩ : TLoadOver))) (by first | rfl | omega | (simp; done) | (simp; omega)) rfl) (okW_cons (ent_own (E := intE) (id := 90001) (l' := L90001) rfl rfl) (okW_cons (.inl (leV_refl _)) (okW_cons (ent_lst (E := intE) _ false) (okW_cons (.inl (leV_refl _)) (okW_cons (.inl (leV_refl _)) okW_nil)))))))))))) (okB_cons (okB_own (E := TLoadOver.E) (ty := 49) (l' := (L90000.set ((x178 : Int).toNat) (⟨x179.Sector, x179.From, v14⟩ : TLoadOver))) rfl (show mget _ 90000 = _ from (by first | rfl | (simp (disch := first | decide | assumption) only [mpushs_nil, mpushs_cons, mget_hd, mget_tl, mget_appW_o, mget_appW_n, mget_appW_e])))) (okB_cons (okB_own (E := intE) (ty := 3) (l' := L90001) rfl (show mget _ 90001 = _ from (by first | rfl | (simp (disch := first | decide | assumption) only [mpushs_nil, mpushs_cons, mget_hd, mget_tl, mget_appW_o, mget_appW_n, mget_appW_e])))) (okB_cons (okB_cells (cs := [(intA k0_0), (intA k0_1)]) (ty := 41) rfl (show mget _ 0 = _ from (by first | rfl | (simp (disch := first | decide | assumption) only [mpushs_nil, mpushs_cons, mget_hd, mget_tl, mget_appW_o, mget_appW_n, mget_appW_e])))) okB_nil'))))
      · refine imp (opP_of (show _ = some ((intA (L90000.length : Int)), []) from len_own)) ?_
        refine imp ex_i64_b ?_
        refine bind_b fun x180 h180 => ?_
        refine imp (opP_of (show _ = some ((AV.ptr 90001 (((w55 : Int).toNat) * 1 + 0)), []) from (idx_own (E := intE) rfl h180))) ?_
        refine imp (storeW_elO (E := intE) (l := L90001) (i := ((w55 : Int).toNat)) (o := 0) (y := (L90000.length : Int)) (ty := 3) (by kernel_rfl) (by kernel_rfl) rfl (by first | rfl | (simp (disch := first | decide | assumption) only [mpushs_nil, mpushs_cons, mget_hd, mget_tl, mget_appW_o, mget_appW_n, mget_appW_e])) (getI_some h180).2 rfl (by decide) rfl) ?_
        refine imp (opP_of (show _ = some ((AV.agg [(intA w55), (intA v14), (intA v14)]), []) from rfl)) ?_
        refine imp (opN_of (show _ = some ((blkV TLoadOver.E 200030 ([(⟨w55, v14, v14⟩ : TLoadOver)] : List TLoadOver)), [(200030, some ⟨encs TLoadOver.E ([(⟨w55, v14, v14⟩ : TLoadOver)] : List TLoadOver), 49⟩)]) from rfl)) ?_
        refine bind_b fun x182 h182 => ?_
        refine imp (opN_of (show _ = some ((ownV TLoadOver.E 200031 (L90000 ++ ([(⟨w55, v14, v14⟩ : TLoadOver)] : List TLoadOver))), (appW TLoadOver.E 200031 90000 49 L90000 ([(⟨w55, v14, v14⟩ : TLoadOver)] : List TLoadOver))) from (app_own (E := TLoadOver.E) (l' := L90000) (xs := ([(⟨w55, v14, v14⟩ : TLoadOver)] : List TLoadOver)) rfl rfl (cellsOf_blk (E := TLoadOver.E) (ty := 49) rfl rfl (by first | rfl | (simp (disch := first | decide | assumption) only [mpushs_nil, mpushs_cons, mget_hd, mget_tl, mget_appW_o, mget_appW_n, mget_appW_e]))) (by first | assumption | simp) rfl (fun hne => Eq.trans (by first | rfl | (simp (disch := first | decide | assumption) only [mpushs_nil, mpushs_cons, mget_hd, mget_tl, mget_appW_o, mget_appW_n, mget_appW_e])) (ownB_ne hne)) h182))) ?_
        exact fun hg => hN1 _ (Option.some.inj hg).symm _ (weak_mem [(90000, 200031), (90001, 90001), (0, 0)] rfl rfl rfl (okW_cons (ent_lst (E := TSector.E) _ false) (okW_cons (ent_lst (E := (lstE TTubeNode.E)) _ false) (okW_cons (ent_lst (E := intE) _ false) (okW_cons (.inl (leV_refl _)) (okW_cons (.inl (leV_refl _)) (okW_cons (.inl (leV_refl _)) (okW_cons (ent_own (E := TLoadOver.E) (id := 200031) (l' := (L90000 ++ ([(⟨w55, v14, v14⟩ : TLoadOver)] : List TLoadOver))) rfl rfl) (okW_cons (ent_own (E := intE) (id := 90001) (l' := (L90001.set ((w55 : Int).toNat) (L90000.length : Int))) (by first | rfl | omega | (simp; done) | (simp; omega)) rfl) (okW_cons (.inl (leV_refl _)) (okW_cons (ent_lst (E := intE) _ false) (okW_cons (.inl (leV_refl _)) (okW_cons (.inl (leV_refl _)) okW_nil)))))))))))) (okB_cons (okB_own (E := TLoadOver.E) (ty := 49) (l' := (L90000 ++ ([(⟨w55, v14, v14⟩ : TLoadOver)] : List TLoadOver))) rfl (show mget _ 200031 = _ from (by first | rfl | (simp (disch := first | decide | assumption) only [mpushs_nil, mpushs_cons, mget_hd, mget_tl, mget_appW_o, mget_appW_n, mget_appW_e])))) (okB_cons (okB_own (E := intE) (ty := 3) (l' := (L90001.set ((w55 : Int).toNat) (L90000.length : Int))) rfl (show mget _ 90001 = _ from (by first | rfl | (simp (disch := first | decide | assumption) only [mpushs_nil, mpushs_cons, mget_hd, mget_tl, mget_appW_o, mget_appW_n, mget_appW_e])))) (okB_cons (okB_cells (cs := [(intA k0_0), (intA k0_1)]) (ty := 41) rfl (show mget _ 0 = _ from (by first | rfl | (simp (disch := first | decide | assumption) only [mpushs_nil, mpushs_cons, mget_hd, mget_tl, mget_appW_o, mget_appW_n, mget_appW_e])))) okB_nil'))))
  · exact fun hg => hN0 _ (Option.some.inj hg).symm _ (weak_mem [(90000, 90000), (90001, 90001), (0, 0)] rfl rfl rfl (okW_cons (ent_lst (E := TSector.E) _ false) (okW_cons (ent_lst (E := (lstE TTubeNode.E)) _ false) (okW_cons (ent_lst (E := intE) _ false) (okW_cons (.inl (leV_refl _)) (okW_cons (.inl (leV_refl _)) (okW_cons (.inl (leV_refl _)) (okW_cons (ent_own (E := TLoadOver.E) (id := 90000) (l' := L90000) rfl rfl) (okW_cons (ent_own (E := intE) (id := 90001) (l' := L90001) rfl rfl) (okW_cons (.inl (leV_refl _)) okW_nil))))))))) (okB_cons (okB_own (E := TLoadOver.E) (ty := 49) (l' := L90000) rfl (show mget _ 90000 = _ from (by first | rfl | (simp (disch := first | decide | assumption) only [mpushs_nil, mpushs_cons, mget_hd, mget_tl, mget_appW_o, mget_appW_n, mget_appW_e])))) (okB_cons (okB_own (E := intE) (ty := 3) (l' := L90001) rfl (show mget _ 90001 = _ from (by first | rfl | (simp (disch := first | decide | assumption) only [mpushs_nil, mpushs_cons, mget_hd, mget_tl, mget_appW_o, mget_appW_n, mget_appW_e])))) (okB_cons (okB_cells (cs := [(intA k0_0), (intA k0_1)]) (ty := 41) rfl (show mget _ 0 = _ from (by first | rfl | (simp (disch := first | decide | assumption) only [mpushs_nil, mpushs_cons, mget_hd, mget_tl, mget_appW_o, mget_appW_n, mget_appW_e])))) okB_nil'))))
theorem L12_0_0_ok (n : Nat) (a0 : List TSector) (a1 : List (List TTubeNode)) (a2 : List Int) (c9 : Int) (v14 : Int) (c15 : List Int) (c54 : Int) (k0_0 : Int) (k0_1 : Int) {t : ((Int × List TLoadOver × List Int) ⊕ ρ12)} (R : AV → Mem → Prop) (N0 : St → Prop) (hR : ∀ r : ρ12, t = (.inr r) → ∀ u m, Ans ((AV.tup [(lstA TLoadOver.E r.1), (intA r.2)])) u m → R u m) (hN0 : ∀ y : Int × List TLoadOver × List Int, t = (.inl y) → ∀ s' : St, Weak KK 101 0 s' (h12_0 (lstA TSector.E a0) (lstA (lstE TTubeNode.E) a1) (lstA intE a2) AV.nils c9 (ownV TLoadOver.E 90000 y.2.1) (ownV intE 90001 y.2.2) y.1 [(90000, ownB TLoadOver.E 49 y.2.1), (90001, ownB intE 3 y.2.2), (0, some ⟨[(intA k0_0), (intA k0_1)], 41⟩)]) → N0 s') (k : Nat) (x : Int × List TLoadOver × List Int) (hx : iterO (fun y : Int × List TLoadOver × List Int => S12_0_0 n a0 a1 a2 c9 v14 c15 c54 k0_0 k0_1 y.1 y.2.1 y.2.2) k x = some t) {s : St} (hw : Weak KK 101 0 s (h12_0_0 (lstA TSector.E a0) (lstA (lstE TTubeNode.E) a1) (lstA intE a2) AV.nils c9 (ownV TLoadOver.E 90000 x.2.1) (ownV intE 90001 x.2.2) v14 (lstA intE c15) c54 x.1 [(90000, ownB TLoadOver.E 49 x.2.1), (90001, ownB intE 3 x.2.2), (0, some ⟨[(intA k0_0), (intA k0_1)], 41⟩)])) : Tri Tryz.prog KK 101 0 (.loop c12_0_0) s (q12_0_0 R N0) :=
  L12_0_0 R N0 (σ := Nat × (Int × List TLoadOver × List Int)) (fun z => iterO (fun y : Int × List TLoadOver × List Int => S12_0_0 n a0 a1 a2 c9 v14 c15 c54 k0_0 k0_1 y.1 y.2.1 y.2.2) z.1 z.2 = some t) (fun z => (lstA TSector.E a0)) (fun z => (lstA (lstE TTubeNode.E) a1)) (fun z => (lstA intE a2)) (fun z => AV.nils) (fun z => c9) (fun z => (ownV TLoadOver.E 90000 z.2.2.1)) (fun z => (ownV intE 90001 z.2.2.2)) (fun z => v14) (fun z => (lstA intE c15)) (fun z => c54) (fun z => z.2.1) (fun z => [(90000, ownB TLoadOver.E 49 z.2.2.1), (90001, ownB intE 3 z.2.2.2), (0, some ⟨[(intA k0_0), (intA k0_1)], 41⟩)]) (fun z => z.1) (by
    rintro ⟨k, y⟩ h
    cases k with
    | zero => exact (iterO_zero h).elim
    | succ k =>
      obtain ⟨u, h1, h2, h3⟩ := iterO_elim h
      exact B12_0_0_ok n a0 a1 a2 c9 v14 c15 c54 k0_0 k0_1 y.1 y.2.1 y.2.2 R N0 _ (fun r e => hR r (h3 _ e).symm) (fun y' e => hN0 y' (h3 _ e).symm) (fun y' e s' hw => ⟨(k, y'), h2 _ e, Nat.lt_succ_self k, hw⟩) h1) (k, x) hx hw
theorem B12_0_ok (n : Nat) (a0 : List TSector) (a1 : List (List TTubeNode)) (a2 : List Int) (c9 : Int) (k0_0 : Int) (k0_1 : Int) (v14 : Int) (L90000 : List TLoadOver) (L90001 : List Int) {t : (Int × List TLoadOver × List Int) ⊕ ρ12} (R : AV → Mem → Prop) (N0 : St → Prop) (hR : ∀ r : ρ12, t = (.inr r) → ∀ u m, Ans ((AV.tup [(lstA TLoadOver.E r.1), (intA r.2)])) u m → R u m) (hN0 : ∀ y : Int × List TLoadOver × List Int, t = (.inl y) → ∀ s' : St, Weak KK 101 0 s' (h12_0 (lstA TSector.E a0) (lstA (lstE TTubeNode.E) a1) (lstA intE a2) AV.nils c9 (ownV TLoadOver.E 90000 y.2.1) (ownV intE 90001 y.2.2) y.1 [(90000, ownB TLoadOver.E 49 y.2.1), (90001, ownB intE 3 y.2.2), (0, some ⟨[(intA k0_0), (intA k0_1)], 41⟩)]) → N0 s') : S12_0 n a0 a1 a2 c9 k0_0 k0_1 v14 L90000 L90001 = some t → B12_0 (lstA TSector.E a0) (lstA (lstE TTubeNode.E) a1) (lstA intE a2) AV.nils c9 (ownV TLoadOver.E 90000 L90000) (ownV intE 90001 L90001) v14 [(90000, ownB TLoadOver.E 49 L90000), (90001, ownB intE 3 L90001), (0, some ⟨[(intA k0_0), (intA k0_1)], 41⟩)] R N0 := by
  unfold S12_0 B12_0
  refine imp (opP_of (show _ = some ((intA k0_1), []) from (ldS_ptr (b := ⟨[(intA k0_0), (intA k0_1)], 41⟩) (by first | rfl | (simp (disch := first | decide | assumption) only [mpushs_nil, mpushs_cons, mget_hd, mget_tl, mget_appW_o, mget_appW_n, mget_appW_e])) rfl))) ?_
  refine imp ex_i64_b ?_
  refine cond_b (fun _ => ?_) (fun _ => ?_)
  · refine bind_b fun x173 h173 => ?_
    refine imp (callW_says (sg28 h173)) ?_
    refine imp exT2_b ?_
    refine imp ex_i64_b ?_
    refine imp (opP_of (show _ = some ((intA (x173.1.length : Int)), []) from rfl)) ?_
    refine imp ex_i64_b ?_
    exact fun hg => L12_0_0_ok n a0 a1 a2 c9 v14 x173.1 (x173.1.length : Int) k0_0 k0_1 R N0 hR hN0 n _ hg (weak_mem [(90000, 90000), (90001, 90001), (0, 0)] rfl rfl rfl (okW_cons (ent_lst (E := TSector.E) _ false) (okW_cons (ent_lst (E := (lstE TTubeNode.E)) _ false) (okW_cons (ent_lst (E := intE) _ false) (okW_cons (.inl (leV_refl _)) (okW_cons (.inl (leV_refl _)) (okW_cons (.inl (leV_refl _)) (okW_cons (ent_own (E := TLoadOver.E) (id := 90000) (l' := L90000) rfl rfl) (okW_cons (ent_own (E := intE) (id := 90001) (l' := L90001) rfl rfl) (okW_cons (.inl (leV_refl _)) (okW_cons (ent_lst (E := intE) _ false) (okW_cons (.inl (leV_refl _)) (okW_cons (.inl (leV_refl _)) okW_nil)))))))))))) (okB_cons (okB_own (E := TLoadOver.E) (ty := 49) (l' := L90000) rfl (show mget _ 90000 = _ from (by first | rfl | (simp (disch := first | decide | assumption) only [mpushs_nil, mpushs_cons, mget_hd, mget_tl, mget_appW_o, mget_appW_n, mget_appW_e])))) (okB_cons (okB_own (E := intE) (ty := 3) (l' := L90001) rfl (show mget _ 90001 = _ from (by first | rfl | (simp (disch := first | decide | assumption) only [mpushs_nil, mpushs_cons, mget_hd, mget_tl, mget_appW_o, mget_appW_n, mget_appW_e])))) (okB_cons (okB_cells (cs := [(intA k0_0), (intA k0_1)]) (ty := 41) rfl (show mget _ 0 = _ from (by first | rfl | (simp (disch := first | decide | assumption) only [mpushs_nil, mpushs_cons, mget_hd, mget_tl, mget_appW_o, mget_appW_n, mget_appW_e])))) okB_nil'))))
  · refine bind_b fun x185 h185 => ?_
    have lh185 := sortO_len h185
    refine imp (callW_sortV (hx := rfl) (E := TLoadOver.E) (ty := 49) (l := L90000) (cmp := (fun x y => g30 n x y)) rfl TLoadOver.ok sorts29 none29 plain29 rfl (by first | rfl | (simp (disch := first | decide | assumption) only [mpushs_nil, mpushs_cons, mget_hd, mget_tl, mget_appW_o, mget_appW_n, mget_appW_e])) capsOk_nil (fun x y z h => sg30 h) h185) ?_
    refine imp exT0_b ?_
    exact fun hg => retN rfl (hR _ (Option.some.inj hg).symm) (fzL_cons (fz_own (E := TLoadOver.E) (ty := 49) (l' := x185) _ (by first | rfl | omega | (simp; done) | (simp; omega)) (by first | rfl | (simp (disch := first | decide | assumption) only [mpushs_nil, mpushs_cons, mget_hd, mget_tl, mget_appW_o, mget_appW_n, mget_appW_e]))) (fzL_cons (fz_sc _ _) fzL_nil))
theorem L12_0_ok (n : Nat) (a0 : List TSector) (a1 : List (List TTubeNode)) (a2 : List Int) (c9 : Int) (k0_0 : Int) (k0_1 : Int) {t : ρ12} (R : AV → Mem → Prop) (hR : ∀ r : ρ12, t = r → ∀ u m, Ans ((AV.tup [(lstA TLoadOver.E r.1), (intA r.2)])) u m → R u m) (k : Nat) (x : Int × List TLoadOver × List Int) (hx : iterO (fun y : Int × List TLoadOver × List Int => S12_0 n a0 a1 a2 c9 k0_0 k0_1 y.1 y.2.1 y.2.2) k x = some t) {s : St} (hw : Weak KK 101 0 s (h12_0 (lstA TSector.E a0) (lstA (lstE TTubeNode.E) a1) (lstA intE a2) AV.nils c9 (ownV TLoadOver.E 90000 x.2.1) (ownV intE 90001 x.2.2) x.1 [(90000, ownB TLoadOver.E 49 x.2.1), (90001, ownB intE 3 x.2.2), (0, some ⟨[(intA k0_0), (intA k0_1)], 41⟩)])) : Tri Tryz.prog KK 101 0 (.loop c12_0) s (q12_0 R ) :=
  L12_0 R  (σ := Nat × (Int × List TLoadOver × List Int)) (fun z => iterO (fun y : Int × List TLoadOver × List Int => S12_0 n a0 a1 a2 c9 k0_0 k0_1 y.1 y.2.1 y.2.2) z.1 z.2 = some t) (fun z => (lstA TSector.E a0)) (fun z => (lstA (lstE TTubeNode.E) a1)) (fun z => (lstA intE a2)) (fun z => AV.nils) (fun z => c9) (fun z => (ownV TLoadOver.E 90000 z.2.2.1)) (fun z => (ownV intE 90001 z.2.2.2)) (fun z => z.2.1) (fun z => [(90000, ownB TLoadOver.E 49 z.2.2.1), (90001, ownB intE 3 z.2.2.2), (0, some ⟨[(intA k0_0), (intA k0_1)], 41⟩)]) (fun z => z.1) (by
    rintro ⟨k, y⟩ h
    cases k with
    | zero => exact (iterO_zero h).elim
    | succ k =>
      obtain ⟨u, h1, h2, h3⟩ := iterO_elim h
      exact B12_0_ok n a0 a1 a2 c9 k0_0 k0_1 y.1 y.2.1 y.2.2 R  _ (fun r e => hR r (h3 _ e).symm)  (fun y' e s' hw => ⟨(k, y'), h2 _ e, Nat.lt_succ_self k, hw⟩) h1) (k, x) hx hw
theorem g12_ok (n : Nat) (a0 : List TSector) (a1 : List (List TTubeNode)) (a2 : List Int) (a3 : TSpan) {t : ρ12} (R : AV → Mem → Prop) (hR : ∀ r : ρ12, t = r → ∀ u m, Ans ((AV.tup [(lstA TLoadOver.E r.1), (intA r.2)])) u m → R u m) : g12 n a0 a1 a2 a3 = some t → F12 (lstA TSector.E a0) (lstA (lstE TTubeNode.E) a1) (lstA intE a2) a3.From a3.To R := by
  unfold g12 F12
  refine bind_b fun x170 h170 => ?_
  refine imp (callQ_says (sg22 h170)) ?_
  refine imp ex_i64_b ?_
  refine cond_b (fun _ => ?_) (fun _ => ?_)
  · exact fun hg => retN rfl (hR _ (Option.some.inj hg).symm) (fzL_cons (fz_nils (E := TLoadOver.E) _) (fzL_cons (fz_sc _ _) fzL_nil))
  · refine imp (opP_of (show _ = some ((intA (a2.length : Int)), []) from rfl)) ?_
    refine imp ex_i64_b ?_
    refine imp (opP_of (show _ = some ((intA (a0.length : Int)), []) from rfl)) ?_
    refine imp ex_i64_b ?_
    refine cond_b (fun _ => ?_) (fun _ => ?_)
    · exact fun hg => retN rfl (hR _ (Option.some.inj hg).symm) (fzL_cons (fz_nils (E := TLoadOver.E) _) (fzL_cons (fz_sc _ _) fzL_nil))
    · refine bind_b fun x171 h171 => ?_
      refine imp (callQ_says (sg26 h171)) ?_
      refine imp ex_i64_b ?_
      refine cond_b (fun _ => ?_) (fun _ => ?_)
      · exact fun hg => retN rfl (hR _ (Option.some.inj hg).symm) (fzL_cons (fz_nils (E := TLoadOver.E) _) (fzL_cons (fz_sc _ _) fzL_nil))
      · refine imp (opN_of (show _ = some ((blkV intE 146 ([(-1)] : List Int)), [(146, some ⟨encs intE ([(-1)] : List Int), 3⟩)]) from rfl)) ?_
        refine imp (opP_of (show _ = some ((intA (a0.length : Int)), []) from rfl)) ?_
        refine imp ex_i64_b ?_
        refine bind_b fun x172 h172 => ?_
        refine imp (callW_D (show PureD _ _ _ _ _ _ (ownV intE 149 x172) [(146, none), (149, ownB intE 3 x172)] from pureD_frz2 rfl (by first | rfl | (simp (disch := first | decide | assumption) only [mpushs_nil, mpushs_cons, mget_hd, mget_tl, mget_appW_o, mget_appW_n, mget_appW_e])) (fun _ => rep27 h172))) ?_
        refine imp (opP_of (show _ = some ((intA a3.From), []) from (ldS_ptr (b := ⟨[(intA a3.From), (intA a3.To)], 41⟩) (by first | rfl | (simp (disch := first | decide | assumption) only [mpushs_nil, mpushs_cons, mget_hd, mget_tl, mget_appW_o, mget_appW_n, mget_appW_e])) rfl))) ?_
        refine imp ex_i64_b ?_
        exact fun hg => L12_0_ok n a0 a1 a2 (0) a3.From a3.To R  hR n _ hg (weak_mem [(90000, 89500), (90001, 149), (0, 0)] rfl rfl rfl (okW_cons (ent_lst (E := TSector.E) _ false) (okW_cons (ent_lst (E := (lstE TTubeNode.E)) _ false) (okW_cons (ent_lst (E := intE) _ false) (okW_cons (.inl (leV_refl _)) (okW_cons (.inl (leV_refl _)) (okW_cons (.inl (leV_refl _)) (okW_cons ent_nils_own (okW_cons (ent_own (E := intE) (id := 149) (l' := x172) rfl rfl) (okW_cons (.inl (leV_refl _)) okW_nil))))))))) (okB_cons okB_nil (okB_cons (okB_own (E := intE) (ty := 3) (l' := x172) rfl (show mget _ 149 = _ from (by first | rfl | (simp (disch := first | decide | assumption) only [mpushs_nil, mpushs_cons, mget_hd, mget_tl, mget_appW_o, mget_appW_n, mget_appW_e])))) (okB_cons (okB_cells (cs := [(intA a3.From), (intA a3.To)]) (ty := 41) rfl (show mget _ 0 = _ from (by first | rfl | (simp (disch := first | decide | assumption) only [mpushs_nil, mpushs_cons, mget_hd, mget_tl, mget_appW_o, mget_appW_n, mget_appW_e])))) okB_nil'))))
theorem sg12 {n : Nat} {a0 : List TSector} {a1 : List (List TTubeNode)} {a2 : List Int} {a3 : TSpan} {t : ρ12} (h : g12 n a0 a1 a2 a3 = some t) : Says Tryz.prog KK.gl 12 [(lstA TSector.E a0), (lstA (lstE TTubeNode.E) a1), (lstA intE a2), (AV.agg [(intA a3.From), (intA a3.To)])] ((AV.tup [(lstA TLoadOver.E t.1), (intA t.2)])) :=
  says_of_own (by first | rfl | simp [cleans, clean, encs_clean, En.cln]) (by first | rfl | simp [cleans, clean, encs_clean, En.cln]) (F12_own (lstA TSector.E a0) (lstA (lstE TTubeNode.E) a1) (lstA intE a2) a3.From a3.To _ (g12_ok n a0 a1 a2 a3 (Ans ((AV.tup [(lstA TLoadOver.E t.1), (intA t.2)]))) (fun r e u m h => by rw [e]; exact h) h))
/- skyway/load.Over -/
theorem B12_0_0_okM (n : Nat) (a0 : List TSector) (a1 : List (List TTubeNode)) (a2 : List Int) (c9 : Int) (v14 : Int) (c15 : List Int) (c54 : Int) (k0_0 : Int) (k0_1 : Int) (w55 : Int) (L90000 : List TLoadOver) (L90001 : List Int) {t : (Int × List TLoadOver × List Int) ⊕ ((Int × List TLoadOver × List Int) ⊕ ρ12)} (R : AV → Mem → Prop) (N0 : St → Prop) (N1 : St → Prop) (hR : ∀ r : ρ12, t = (.inr (.inr r)) → ∀ u m, MadeT TLoadOver.E 49 r.1 [Value.int .i64 r.2] u m → R u m) (hN0 : ∀ y : Int × List TLoadOver × List Int, t = (.inr (.inl y)) → ∀ s' : St, Weak KK 101 0 s' (h12_0 (lstA TSector.E a0) (lstA (lstE TTubeNode.E) a1) (lstA intE a2) AV.nils c9 (ownV TLoadOver.E 90000 y.2.1) (ownV intE 90001 y.2.2) y.1 [(90000, ownB TLoadOver.E 49 y.2.1), (90001, ownB intE 3 y.2.2), (0, some ⟨[(intA k0_0), (intA k0_1)], 41⟩)]) → N0 s') (hN1 : ∀ y : Int × List TLoadOver × List Int, t = (.inl y) → ∀ s' : St, Weak KK 101 0 s' (h12_0_0 (lstA TSector.E a0) (lstA (lstE TTubeNode.E) a1) (lstA intE a2) AV.nils c9 (ownV TLoadOver.E 90000 y.2.1) (ownV intE 90001 y.2.2) v14 (lstA intE c15) c54 y.1 [(90000, ownB TLoadOver.E 49 y.2.1), (90001, ownB intE 3 y.2.2), (0, some ⟨[(intA k0_0), (intA k0_1)], 41⟩)]) → N1 s') : S12_0_0 n a0 a1 a2 c9 v14 c15 c54 k0_0 k0_1 w55 L90000 L90001 = some t → B12_0_0 (lstA TSector.E a0) (lstA (lstE TTubeNode.E) a1) (lstA intE a2) AV.nils c9 (ownV TLoadOver.E 90000 L90000) (ownV intE 90001 L90001) v14 (lstA intE c15) c54 w55 [(90000, ownB TLoadOver.E 49 L90000), (90001, ownB intE 3 L90001), (0, some ⟨[(intA k0_0), (intA k0_1)], 41⟩)] R N0 N1 := by
  unfold S12_0_0 B12_0_0
  refine cond_b (fun _ => ?_) (fun _ => ?_)
  · refine bind_b fun x195 h195 => ?_
    refine imp (opP_of (show _ = some ((AV.ept [(intA x195)] 0), []) from (idx_lst (E := intE) rfl h195))) ?_
    refine imp (opP_of (show _ = some ((intA x195), []) from rfl)) ?_
    refine imp ex_i64_b ?_
    refine bind_b fun x196 h196 => ?_
    refine imp (opP_of (show _ = some ((AV.ept [(intA x196)] 0), []) from (idx_lst (E := intE) rfl h196))) ?_
    refine imp (opP_of (show _ = some ((intA x196), []) from rfl)) ?_
    refine imp ex_i64_b ?_
    refine cond_b (fun _ => ?_) (fun _ => ?_)
    · refine bind_b fun x197 h197 => ?_
      refine imp (opP_of (show _ = some ((AV.ptr 90001 (((w55 : Int).toNat) * 1 + 0)), []) from (idx_own (E := intE) rfl h197))) ?_
      refine imp (storeW_elO (E := intE) (l := L90001) (i := ((w55 : Int).toNat)) (o := 0) (y := (-1)) (ty := 3) (by kernel_rfl) (by kernel_rfl) rfl (by first | rfl | (simp (disch := first | decide | assumption) only [mpushs_nil, mpushs_cons, mget_hd, mget_tl, mget_appW_o, mget_appW_n, mget_appW_e])) (getI_some h197).2 rfl (by decide) rfl) ?_
      exact fun hg => hN1 _ (Option.some.inj hg).symm _ (weak_mem [(90000, 90000), (90001, 90001), (0, 0)] rfl rfl rfl (okW_cons (ent_lst (E := TSector.E) _ false) (okW_cons (ent_lst (E := (lstE TTubeNode.E)) _ false) (okW_cons (ent_lst (E := intE) _ false) (okW_cons (.inl (leV_refl _)) (okW_cons (.inl (leV_refl _)) (okW_cons (.inl (leV_refl _)) (okW_cons (ent_own (E := TLoadOver.E) (id := 90000) (l' := L90000) rfl rfl) (okW_cons (ent_own (E := intE) (id := 90001) (l' := (L90001.set ((w55 : Int).toNat) (-1))) (by first | rfl | omega | (simp; done) | (simp; omega)) rfl) (okW_cons (.inl (leV_refl _)) (okW_cons (ent_lst (E := intE) _ false) (okW_cons (.inl (leV_refl _)) (okW_cons (.inl (leV_refl _)) okW_nil)))))))))))) (okB_cons (okB_own (E := TLoadOver.E) (ty := 49) (l' := L90000) rfl (show mget _ 90000 = _ from (by first | rfl | (simp (disch := first | decide | assumption) only [mpushs_nil, mpushs_cons, mget_hd, mget_tl, mget_appW_o, mget_appW_n, mget_appW_e])))) (okB_cons (okB_own (E := intE) (ty := 3) (l' := (L90001.set ((w55 : Int).toNat) (-1))) rfl (show mget _ 90001 = _ from (by first | rfl | (simp (disch := first | decide | assumption) only [mpushs_nil, mpushs_cons, mget_hd, mget_tl, mget_appW_o, mget_appW_n, mget_appW_e])))) (okB_cons (okB_cells (cs := [(intA k0_0), (intA k0_1)]) (ty := 41) rfl (show mget _ 0 = _ from (by first | rfl | (simp (disch := first | decide | assumption) only [mpushs_nil, mpushs_cons, mget_hd, mget_tl, mget_appW_o, mget_appW_n, mget_appW_e])))) okB_nil'))))
    · refine bind_b fun x198 h198 => ?_
      refine imp (opP_of (show _ = some ((AV.ptr 90001 (((w55 : Int).toNat) * 1 + 0)), []) from (idx_own (E := intE) rfl h198))) ?_
      refine imp (opP_of (show _ = some ((intA x198), []) from (ldS_blk (E := intE) (l := L90001) (ty := 3) (o := 0) (own_some (ty := 3) (by first | rfl | (simp (disch := first | decide | assumption) only [mpushs_nil, mpushs_cons, mget_hd, mget_tl, mget_appW_o, mget_appW_n, mget_appW_e])) (getI_some h198).2) (getI_some h198).2 rfl (by decide) rfl))) ?_
      refine imp ex_i64_b ?_
      refine cond_b (fun _ => ?_) (fun _ => ?_)
      · refine bind_b fun x199 h199 => ?_
        refine imp (opP_of (show _ = some ((AV.ptr 90001 (((w55 : Int).toNat) * 1 + 0)), []) from (idx_own (E := intE) rfl h199))) ?_
        refine imp (opP_of (show _ = some ((intA x199), []) from (ldS_blk (E := intE) (l := L90001) (ty := 3) (o := 0) (own_some (ty := 3) (by first | rfl | (simp (disch := first | decide | assumption) only [mpushs_nil, mpushs_cons, mget_hd, mget_tl, mget_appW_o, mget_appW_n, mget_appW_e])) (getI_some h199).2) (getI_some h199).2 rfl (by decide) rfl))) ?_
        refine imp ex_i64_b ?_
        refine bind_b fun x200 h200 => ?_
        refine imp (opP_of (show _ = some ((AV.ptr 90000 (((x199 : Int).toNat) * 3 + 0)), []) from (idx_own (E := TLoadOver.E) rfl h200))) ?_
        refine imp (opP_of (show _ = some ((AV.ptr 90000 (((x199 : Int).toNat) * 3 + 2)), []) from rfl)) ?_
        refine imp (storeW_elO (E := TLoadOver.E) (l := L90000) (i := ((x199 : Int).toNat)) (o := 2) (y := (⟨x200.Sector, x200.From, v14⟩ : TLoadOver)) (ty := 49) (by kernel_rfl) (by kernel_rfl) rfl (by first | rfl | (simp (disch := first | decide | assumption) only [mpushs_nil, mpushs_cons, mget_hd, mget_tl, mget_appW_o, mget_appW_n, mget_appW_e])) (getI_some h200).2 rfl (by decide) rfl) ?_
        exact fun hg => hN1 _ (Option.some.inj hg).symm _ (weak_mem [(90000, 90000), (90001, 90001), (0, 0)] rfl rfl rfl (okW_cons (ent_lst (E := TSector.E) _ false) (okW_cons (ent_lst (E := (lstE TTubeNode.E)) _ false) (okW_cons (ent_lst (E := intE) _ false) (okW_cons (.inl (leV_refl _)) (okW_cons (.inl (leV_refl _)) (okW_cons (.inl (leV_refl _)) (okW_cons (ent_own (E := TLoadOver.E) (id := 90000) (l' := (L90000.set ((x199 : Int).toNat) (⟨x200.Sector, x200.From, v14⟩ : TLoadOver))) (by first | rfl | omega | (simp; done) | (simp; omega)) rfl) (okW_cons (ent_own (E := intE) (id := 90001) (l' := L90001) rfl rfl) (okW_cons (.inl (leV_refl _)) (okW_cons (ent_lst (E := intE) _ false) (okW_cons (.inl (leV_refl _)) (okW_cons (.inl (leV_refl _)) okW_nil)))))))))))) (okB_cons (okB_own (E := TLoadOver.E) (ty := 49) (l' := (L90000.set ((x199 : Int).toNat) (⟨x200.Sector, x200.From, v14⟩ : TLoadOver))) rfl (show mget _ 90000 = _ from (by first | rfl | (simp (disch := first | decide | assumption) only [mpushs_nil, mpushs_cons, mget_hd, mget_tl, mget_appW_o, mget_appW_n, mget_appW_e])))) (okB_cons (okB_own (E := intE) (ty := 3) (l' := L90001) rfl (show mget _ 90001 = _ from (by first | rfl | (simp (disch := first | decide | assumption) only [mpushs_nil, mpushs_cons, mget_hd, mget_tl, mget_appW_o, mget_appW_n, mget_appW_e])))) (okB_cons (okB_cells (cs := [(intA k0_0), (intA k0_1)]) (ty := 41) rfl (show mget _ 0 = _ from (by first | rfl | (simp (disch := first | decide | assumption) only [mpushs_nil, mpushs_cons, mget_hd, mget_tl, mget_appW_o, mget_appW_n, mget_appW_e])))) okB_nil'))))
      · refine imp (opP_of (show _ = some ((intA (L90000.length : Int)), []) from len_own)) ?_
        refine imp ex_i64_b ?_
        refine bind_b fun x201 h201 => ?_
        refine imp (opP_of (show _ = some ((AV.ptr 90001 (((w55 : Int).toNat) * 1 + 0)), []) from (idx_own (E := intE) rfl h201))) ?_
        refine imp (storeW_elO (E := intE) (l := L90001) (i := ((w55 : Int).toNat)) (o := 0) (y := (L90000.length : Int)) (ty := 3) (by kernel_rfl) (by kernel_rfl) rfl (by first | rfl | (simp (disch := first | decide | assumption) only [mpushs_nil, mpushs_cons, mget_hd, mget_tl, mget_appW_o, mget_appW_n, mget_appW_e])) (getI_some h201).2 rfl (by decide) rfl) ?_
        refine imp (opP_of (show _ = some ((AV.agg [(intA w55), (intA v14), (intA v14)]), []) from rfl)) ?_
        refine imp (opN_of (show _ = some ((blkV TLoadOver.E 200030 ([(⟨w55, v14, v14⟩ : TLoadOver)] : List TLoadOver)), [(200030, some ⟨encs TLoadOver.E ([(⟨w55, v14, v14⟩ : TLoadOver)] : List TLoadOver), 49⟩)]) from rfl)) ?_
        refine bind_b fun x203 h203 => ?_
        refine imp (opN_of (show _ = some ((ownV TLoadOver.E 200031 (L90000 ++ ([(⟨w55, v14, v14⟩ : TLoadOver)] : List TLoadOver))), (appW TLoadOver.E 200031 90000 49 L90000 ([(⟨w55, v14, v14⟩ : TLoadOver)] : List TLoadOver))) from (app_own (E := TLoadOver.E) (l' := L90000) (xs := ([(⟨w55, v14, v14⟩ : TLoadOver)] : List TLoadOver)) rfl rfl (cellsOf_blk (E := TLoadOver.E) (ty := 49) rfl rfl (by first | rfl | (simp (disch := first | decide | assumption) only [mpushs_nil, mpushs_cons, mget_hd, mget_tl, mget_appW_o, mget_appW_n, mget_appW_e]))) (by first | assumption | simp) rfl (fun hne => Eq.trans (by first | rfl | (simp (disch := first | decide | assumption) only [mpushs_nil, mpushs_cons, mget_hd, mget_tl, mget_appW_o, mget_appW_n, mget_appW_e])) (ownB_ne hne)) h203))) ?_
        exact fun hg => hN1 _ (Option.some.inj hg).symm _ (weak_mem [(90000, 200031), (90001, 90001), (0, 0)] rfl rfl rfl (okW_cons (ent_lst (E := TSector.E) _ false) (okW_cons (ent_lst (E := (lstE TTubeNode.E)) _ false) (okW_cons (ent_lst (E := intE) _ false) (okW_cons (.inl (leV_refl _)) (okW_cons (.inl (leV_refl _)) (okW_cons (.inl (leV_refl _)) (okW_cons (ent_own (E := TLoadOver.E) (id := 200031) (l' := (L90000 ++ ([(⟨w55, v14, v14⟩ : TLoadOver)] : List TLoadOver))) rfl rfl) (okW_cons (ent_own (E := intE) (id := 90001) (l' := (L90001.set ((w55 : Int).toNat) (L90000.length : Int))) (by first | rfl | omega | (simp; done) | (simp; omega)) rfl) (okW_cons (.inl (leV_refl _)) (okW_cons (ent_lst (E := intE) _ false) (okW_cons (.inl (leV_refl _)) (okW_cons (.inl (leV_refl _)) okW_nil)))))))))))) (okB_cons (okB_own (E := TLoadOver.E) (ty := 49) (l' := (L90000 ++ ([(⟨w55, v14, v14⟩ : TLoadOver)] : List TLoadOver))) rfl (show mget _ 200031 = _ from (by first | rfl | (simp (disch := first | decide | assumption) only [mpushs_nil, mpushs_cons, mget_hd, mget_tl, mget_appW_o, mget_appW_n, mget_appW_e])))) (okB_cons (okB_own (E := intE) (ty := 3) (l' := (L90001.set ((w55 : Int).toNat) (L90000.length : Int))) rfl (show mget _ 90001 = _ from (by first | rfl | (simp (disch := first | decide | assumption) only [mpushs_nil, mpushs_cons, mget_hd, mget_tl, mget_appW_o, mget_appW_n, mget_appW_e])))) (okB_cons (okB_cells (cs := [(intA k0_0), (intA k0_1)]) (ty := 41) rfl (show mget _ 0 = _ from (by first | rfl | (simp (disch := first | decide | assumption) only [mpushs_nil, mpushs_cons, mget_hd, mget_tl, mget_appW_o, mget_appW_n, mget_appW_e])))) okB_nil'))))
  · exact fun hg => hN0 _ (Option.some.inj hg).symm _ (weak_mem [(90000, 90000), (90001, 90001), (0, 0)] rfl rfl rfl (okW_cons (ent_lst (E := TSector.E) _ false) (okW_cons (ent_lst (E := (lstE TTubeNode.E)) _ false) (okW_cons (ent_lst (E := intE) _ false) (okW_cons (.inl (leV_refl _)) (okW_cons (.inl (leV_refl _)) (okW_cons (.inl (leV_refl _)) (okW_cons (ent_own (E := TLoadOver.E) (id := 90000) (l' := L90000) rfl rfl) (okW_cons (ent_own (E := intE) (id := 90001) (l' := L90001) rfl rfl) (okW_cons (.inl (leV_refl _)) okW_nil))))))))) (okB_cons (okB_own (E := TLoadOver.E) (ty := 49) (l' := L90000) rfl (show mget _ 90000 = _ from (by first | rfl | (simp (disch := first | decide | assumption) only [mpushs_nil, mpushs_cons, mget_hd, mget_tl, mget_appW_o, mget_appW_n, mget_appW_e])))) (okB_cons (okB_own (E := intE) (ty := 3) (l' := L90001) rfl (show mget _ 90001 = _ from (by first | rfl | (simp (disch := first | decide | assumption) only [mpushs_nil, mpushs_cons, mget_hd, mget_tl, mget_appW_o, mget_appW_n, mget_appW_e])))) (okB_cons (okB_cells (cs := [(intA k0_0), (intA k0_1)]) (ty := 41) rfl (show mget _ 0 = _ from (by first | rfl | (simp (disch := first | decide | assumption) only [mpushs_nil, mpushs_cons, mget_hd, mget_tl, mget_appW_o, mget_appW_n, mget_appW_e])))) okB_nil'))))
theorem L12_0_0_okM (n : Nat) (a0 : List TSector) (a1 : List (List TTubeNode)) (a2 : List Int) (c9 : Int) (v14 : Int) (c15 : List Int) (c54 : Int) (k0_0 : Int) (k0_1 : Int) {t : ((Int × List TLoadOver × List Int) ⊕ ρ12)} (R : AV → Mem → Prop) (N0 : St → Prop) (hR : ∀ r : ρ12, t = (.inr r) → ∀ u m, MadeT TLoadOver.E 49 r.1 [Value.int .i64 r.2] u m → R u m) (hN0 : ∀ y : Int × List TLoadOver × List Int, t = (.inl y) → ∀ s' : St, Weak KK 101 0 s' (h12_0 (lstA TSector.E a0) (lstA (lstE TTubeNode.E) a1) (lstA intE a2) AV.nils c9 (ownV TLoadOver.E 90000 y.2.1) (ownV intE 90001 y.2.2) y.1 [(90000, ownB TLoadOver.E 49 y.2.1), (90001, ownB intE 3 y.2.2), (0, some ⟨[(intA k0_0), (intA k0_1)], 41⟩)]) → N0 s') (k : Nat) (x : Int × List TLoadOver × List Int) (hx : iterO (fun y : Int × List TLoadOver × List Int => S12_0_0 n a0 a1 a2 c9 v14 c15 c54 k0_0 k0_1 y.1 y.2.1 y.2.2) k x = some t) {s : St} (hw : Weak KK 101 0 s (h12_0_0 (lstA TSector.E a0) (lstA (lstE TTubeNode.E) a1) (lstA intE a2) AV.nils c9 (ownV TLoadOver.E 90000 x.2.1) (ownV intE 90001 x.2.2) v14 (lstA intE c15) c54 x.1 [(90000, ownB TLoadOver.E 49 x.2.1), (90001, ownB intE 3 x.2.2), (0, some ⟨[(intA k0_0), (intA k0_1)], 41⟩)])) : Tri Tryz.prog KK 101 0 (.loop c12_0_0) s (q12_0_0 R N0) :=
  L12_0_0 R N0 (σ := Nat × (Int × List TLoadOver × List Int)) (fun z => iterO (fun y : Int × List TLoadOver × List Int => S12_0_0 n a0 a1 a2 c9 v14 c15 c54 k0_0 k0_1 y.1 y.2.1 y.2.2) z.1 z.2 = some t) (fun z => (lstA TSector.E a0)) (fun z => (lstA (lstE TTubeNode.E) a1)) (fun z => (lstA intE a2)) (fun z => AV.nils) (fun z => c9) (fun z => (ownV TLoadOver.E 90000 z.2.2.1)) (fun z => (ownV intE 90001 z.2.2.2)) (fun z => v14) (fun z => (lstA intE c15)) (fun z => c54) (fun z => z.2.1) (fun z => [(90000, ownB TLoadOver.E 49 z.2.2.1), (90001, ownB intE 3 z.2.2.2), (0, some ⟨[(intA k0_0), (intA k0_1)], 41⟩)]) (fun z => z.1) (by
    rintro ⟨k, y⟩ h
    cases k with
    | zero => exact (iterO_zero h).elim
    | succ k =>
      obtain ⟨u, h1, h2, h3⟩ := iterO_elim h
      exact B12_0_0_okM n a0 a1 a2 c9 v14 c15 c54 k0_0 k0_1 y.1 y.2.1 y.2.2 R N0 _ (fun r e => hR r (h3 _ e).symm) (fun y' e => hN0 y' (h3 _ e).symm) (fun y' e s' hw => ⟨(k, y'), h2 _ e, Nat.lt_succ_self k, hw⟩) h1) (k, x) hx hw
theorem B12_0_okM (n : Nat) (a0 : List TSector) (a1 : List (List TTubeNode)) (a2 : List Int) (c9 : Int) (k0_0 : Int) (k0_1 : Int) (v14 : Int) (L90000 : List TLoadOver) (L90001 : List Int) {t : (Int × List TLoadOver × List Int) ⊕ ρ12} (R : AV → Mem → Prop) (N0 : St → Prop) (hR : ∀ r : ρ12, t = (.inr r) → ∀ u m, MadeT TLoadOver.E 49 r.1 [Value.int .i64 r.2] u m → R u m) (hN0 : ∀ y : Int × List TLoadOver × List Int, t = (.inl y) → ∀ s' : St, Weak KK 101 0 s' (h12_0 (lstA TSector.E a0) (lstA (lstE TTubeNode.E) a1) (lstA intE a2) AV.nils c9 (ownV TLoadOver.E 90000 y.2.1) (ownV intE 90001 y.2.2) y.1 [(90000, ownB TLoadOver.E 49 y.2.1), (90001, ownB intE 3 y.2.2), (0, some ⟨[(intA k0_0), (intA k0_1)], 41⟩)]) → N0 s') : S12_0 n a0 a1 a2 c9 k0_0 k0_1 v14 L90000 L90001 = some t → B12_0 (lstA TSector.E a0) (lstA (lstE TTubeNode.E) a1) (lstA intE a2) AV.nils c9 (ownV TLoadOver.E 90000 L90000) (ownV intE 90001 L90001) v14 [(90000, ownB TLoadOver.E 49 L90000), (90001, ownB intE 3 L90001), (0, some ⟨[(intA k0_0), (intA k0_1)], 41⟩)] R N0 := by
  unfold S12_0 B12_0
  refine imp (opP_of (show _ = some ((intA k0_1), []) from (ldS_ptr (b := ⟨[(intA k0_0), (intA k0_1)], 41⟩) (by first | rfl | (simp (disch := first | decide | assumption) only [mpushs_nil, mpushs_cons, mget_hd, mget_tl, mget_appW_o, mget_appW_n, mget_appW_e])) rfl))) ?_
  refine imp ex_i64_b ?_
  refine cond_b (fun _ => ?_) (fun _ => ?_)
  · refine bind_b fun x194 h194 => ?_
    refine imp (callW_says (sg28 h194)) ?_
    refine imp exT2_b ?_
    refine imp ex_i64_b ?_
    refine imp (opP_of (show _ = some ((intA (x194.1.length : Int)), []) from rfl)) ?_
    refine imp ex_i64_b ?_
    exact fun hg => L12_0_0_okM n a0 a1 a2 c9 v14 x194.1 (x194.1.length : Int) k0_0 k0_1 R N0 hR hN0 n _ hg (weak_mem [(90000, 90000), (90001, 90001), (0, 0)] rfl rfl rfl (okW_cons (ent_lst (E := TSector.E) _ false) (okW_cons (ent_lst (E := (lstE TTubeNode.E)) _ false) (okW_cons (ent_lst (E := intE) _ false) (okW_cons (.inl (leV_refl _)) (okW_cons (.inl (leV_refl _)) (okW_cons (.inl (leV_refl _)) (okW_cons (ent_own (E := TLoadOver.E) (id := 90000) (l' := L90000) rfl rfl) (okW_cons (ent_own (E := intE) (id := 90001) (l' := L90001) rfl rfl) (okW_cons (.inl (leV_refl _)) (okW_cons (ent_lst (E := intE) _ false) (okW_cons (.inl (leV_refl _)) (okW_cons (.inl (leV_refl _)) okW_nil)))))))))))) (okB_cons (okB_own (E := TLoadOver.E) (ty := 49) (l' := L90000) rfl (show mget _ 90000 = _ from (by first | rfl | (simp (disch := first | decide | assumption) only [mpushs_nil, mpushs_cons, mget_hd, mget_tl, mget_appW_o, mget_appW_n, mget_appW_e])))) (okB_cons (okB_own (E := intE) (ty := 3) (l' := L90001) rfl (show mget _ 90001 = _ from (by first | rfl | (simp (disch := first | decide | assumption) only [mpushs_nil, mpushs_cons, mget_hd, mget_tl, mget_appW_o, mget_appW_n, mget_appW_e])))) (okB_cons (okB_cells (cs := [(intA k0_0), (intA k0_1)]) (ty := 41) rfl (show mget _ 0 = _ from (by first | rfl | (simp (disch := first | decide | assumption) only [mpushs_nil, mpushs_cons, mget_hd, mget_tl, mget_appW_o, mget_appW_n, mget_appW_e])))) okB_nil'))))
  · refine bind_b fun x204 h204 => ?_
    have lh204 := sortO_len h204
    refine imp (callW_sortV (hx := rfl) (E := TLoadOver.E) (ty := 49) (l := L90000) (cmp := (fun x y => g30 n x y)) rfl TLoadOver.ok sorts29 none29 plain29 rfl (by first | rfl | (simp (disch := first | decide | assumption) only [mpushs_nil, mpushs_cons, mget_hd, mget_tl, mget_appW_o, mget_appW_n, mget_appW_e])) capsOk_nil (fun x y z h => sg30 h) h204) ?_
    refine imp exT0_b ?_
    exact fun hg => hR _ (Option.some.inj hg).symm _ _ ⟨_, rfl, (made_own_pf (E := TLoadOver.E) (ty := 49) (l := x204) (by first | rfl | omega | (simp; done) | (simp; omega)) (by first | rfl | (simp (disch := first | decide | assumption) only [mpushs_nil, mpushs_cons, mget_hd, mget_tl, mget_appW_o, mget_appW_n, mget_appW_e])))⟩
theorem L12_0_okM (n : Nat) (a0 : List TSector) (a1 : List (List TTubeNode)) (a2 : List Int) (c9 : Int) (k0_0 : Int) (k0_1 : Int) {t : ρ12} (R : AV → Mem → Prop) (hR : ∀ r : ρ12, t = r → ∀ u m, MadeT TLoadOver.E 49 r.1 [Value.int .i64 r.2] u m → R u m) (k : Nat) (x : Int × List TLoadOver × List Int) (hx : iterO (fun y : Int × List TLoadOver × List Int => S12_0 n a0 a1 a2 c9 k0_0 k0_1 y.1 y.2.1 y.2.2) k x = some t) {s : St} (hw : Weak KK 101 0 s (h12_0 (lstA TSector.E a0) (lstA (lstE TTubeNode.E) a1) (lstA intE a2) AV.nils c9 (ownV TLoadOver.E 90000 x.2.1) (ownV intE 90001 x.2.2) x.1 [(90000, ownB TLoadOver.E 49 x.2.1), (90001, ownB intE 3 x.2.2), (0, some ⟨[(intA k0_0), (intA k0_1)], 41⟩)])) : Tri Tryz.prog KK 101 0 (.loop c12_0) s (q12_0 R ) :=
  L12_0 R  (σ := Nat × (Int × List TLoadOver × List Int)) (fun z => iterO (fun y : Int × List TLoadOver × List Int => S12_0 n a0 a1 a2 c9 k0_0 k0_1 y.1 y.2.1 y.2.2) z.1 z.2 = some t) (fun z => (lstA TSector.E a0)) (fun z => (lstA (lstE TTubeNode.E) a1)) (fun z => (lstA intE a2)) (fun z => AV.nils) (fun z => c9) (fun z => (ownV TLoadOver.E 90000 z.2.2.1)) (fun z => (ownV intE 90001 z.2.2.2)) (fun z => z.2.1) (fun z => [(90000, ownB TLoadOver.E 49 z.2.2.1), (90001, ownB intE 3 z.2.2.2), (0, some ⟨[(intA k0_0), (intA k0_1)], 41⟩)]) (fun z => z.1) (by
    rintro ⟨k, y⟩ h
    cases k with
    | zero => exact (iterO_zero h).elim
    | succ k =>
      obtain ⟨u, h1, h2, h3⟩ := iterO_elim h
      exact B12_0_okM n a0 a1 a2 c9 k0_0 k0_1 y.1 y.2.1 y.2.2 R  _ (fun r e => hR r (h3 _ e).symm)  (fun y' e s' hw => ⟨(k, y'), h2 _ e, Nat.lt_succ_self k, hw⟩) h1) (k, x) hx hw
theorem g12_okM (n : Nat) (a0 : List TSector) (a1 : List (List TTubeNode)) (a2 : List Int) (a3 : TSpan) {t : ρ12} (R : AV → Mem → Prop) (hR : ∀ r : ρ12, t = r → ∀ u m, MadeT TLoadOver.E 49 r.1 [Value.int .i64 r.2] u m → R u m) : g12 n a0 a1 a2 a3 = some t → F12 (lstA TSector.E a0) (lstA (lstE TTubeNode.E) a1) (lstA intE a2) a3.From a3.To R := by
  unfold g12 F12
  refine bind_b fun x191 h191 => ?_
  refine imp (callQ_says (sg22 h191)) ?_
  refine imp ex_i64_b ?_
  refine cond_b (fun _ => ?_) (fun _ => ?_)
  · exact fun hg => hR _ (Option.some.inj hg).symm _ _ ⟨_, rfl, made_nils_pf⟩
  · refine imp (opP_of (show _ = some ((intA (a2.length : Int)), []) from rfl)) ?_
    refine imp ex_i64_b ?_
    refine imp (opP_of (show _ = some ((intA (a0.length : Int)), []) from rfl)) ?_
    refine imp ex_i64_b ?_
    refine cond_b (fun _ => ?_) (fun _ => ?_)
    · exact fun hg => hR _ (Option.some.inj hg).symm _ _ ⟨_, rfl, made_nils_pf⟩
    · refine bind_b fun x192 h192 => ?_
      refine imp (callQ_says (sg26 h192)) ?_
      refine imp ex_i64_b ?_
      refine cond_b (fun _ => ?_) (fun _ => ?_)
      · exact fun hg => hR _ (Option.some.inj hg).symm _ _ ⟨_, rfl, made_nils_pf⟩
      · refine imp (opN_of (show _ = some ((blkV intE 146 ([(-1)] : List Int)), [(146, some ⟨encs intE ([(-1)] : List Int), 3⟩)]) from rfl)) ?_
        refine imp (opP_of (show _ = some ((intA (a0.length : Int)), []) from rfl)) ?_
        refine imp ex_i64_b ?_
        refine bind_b fun x193 h193 => ?_
        refine imp (callW_D (show PureD _ _ _ _ _ _ (ownV intE 149 x193) [(146, none), (149, ownB intE 3 x193)] from pureD_frz2 rfl (by first | rfl | (simp (disch := first | decide | assumption) only [mpushs_nil, mpushs_cons, mget_hd, mget_tl, mget_appW_o, mget_appW_n, mget_appW_e])) (fun _ => rep27 h193))) ?_
        refine imp (opP_of (show _ = some ((intA a3.From), []) from (ldS_ptr (b := ⟨[(intA a3.From), (intA a3.To)], 41⟩) (by first | rfl | (simp (disch := first | decide | assumption) only [mpushs_nil, mpushs_cons, mget_hd, mget_tl, mget_appW_o, mget_appW_n, mget_appW_e])) rfl))) ?_
        refine imp ex_i64_b ?_
        exact fun hg => L12_0_okM n a0 a1 a2 (0) a3.From a3.To R  hR n _ hg (weak_mem [(90000, 89500), (90001, 149), (0, 0)] rfl rfl rfl (okW_cons (ent_lst (E := TSector.E) _ false) (okW_cons (ent_lst (E := (lstE TTubeNode.E)) _ false) (okW_cons (ent_lst (E := intE) _ false) (okW_cons (.inl (leV_refl _)) (okW_cons (.inl (leV_refl _)) (okW_cons (.inl (leV_refl _)) (okW_cons ent_nils_own (okW_cons (ent_own (E := intE) (id := 149) (l' := x193) rfl rfl) (okW_cons (.inl (leV_refl _)) okW_nil))))))))) (okB_cons okB_nil (okB_cons (okB_own (E := intE) (ty := 3) (l' := x193) rfl (show mget _ 149 = _ from (by first | rfl | (simp (disch := first | decide | assumption) only [mpushs_nil, mpushs_cons, mget_hd, mget_tl, mget_appW_o, mget_appW_n, mget_appW_e])))) (okB_cons (okB_cells (cs := [(intA a3.From), (intA a3.To)]) (ty := 41) rfl (show mget _ 0 = _ from (by first | rfl | (simp (disch := first | decide | assumption) only [mpushs_nil, mpushs_cons, mget_hd, mget_tl, mget_appW_o, mget_appW_n, mget_appW_e])))) okB_nil'))))
theorem mg12S {n k : Nat} {look : Nat → Option ABlk} {args : List AV} {a0 : List TSector} {a1 : List (List TTubeNode)} {a2 : List Int} {a3 : TSpan} {t : ρ12} (h : g12 n a0 a1 a2 a3 = some t) (hs : SnL look 6 args [(lstA TSector.E a0), (lstA (lstE TTubeNode.E) a1), (lstA intE a2), (AV.agg [(intA a3.From), (intA a3.To)])]) : PureD Tryz.prog KK.gl look k 12 args (.tup (ownV TLoadOver.E k t.1 :: ([Value.int .i64 t.2] : List Value).map AV.sc)) [(k, ownB TLoadOver.E 49 t.1)] :=
  made_tupS (fun _ => rfl) hs (F12_own (lstA TSector.E a0) (lstA (lstE TTubeNode.E) a1) (lstA intE a2) a3.From a3.To _ (g12_okM n a0 a1 a2 a3 (MadeT TLoadOver.E 49 t.1 [Value.int .i64 t.2]) (fun r e u m h => by rw [e]; exact h) h))
/- skyway/skywaykeep3.LoadLimits$1 -/
theorem g15_ok (n : Nat) (a0 : TLoadOver) (a1_0 : Int) {t : ρ15} (R : AV → Mem → Prop) (hR : ∀ r : ρ15, t = r → ∀ u m, Ans ((boolA r)) u m → R u m) : g15 n a0 a1_0 = some t → F15 a0.Sector a0.From a0.To (AV.ept [(intA a1_0)] 0) R := by
  unfold g15 F15
  refine imp (opP_of (show _ = some ((intA a1_0), []) from rfl)) ?_
  refine imp ex_i64_b ?_
  exact fun hg => ret1 (hR _ (Option.some.inj hg).symm) (fz_sc _ _)
theorem sg15 {n : Nat} {a0 : TLoadOver} {a1_0 : Int} {t : ρ15} (h : g15 n a0 a1_0 = some t) : Says Tryz.prog KK.gl 15 [(AV.agg [(intA a0.Sector), (intA a0.From), (intA a0.To)]), (AV.ept [(intA a1_0)] 0)] ((boolA t)) :=
  says_of_own (by first | rfl | simp [cleans, clean, encs_clean, En.cln]) (by first | rfl | simp [cleans, clean, encs_clean, En.cln]) (F15_own a0.Sector a0.From a0.To (AV.ept [(intA a1_0)] 0) _ (g15_ok n a0 a1_0 (Ans ((boolA t))) (fun r e u m h => by rw [e]; exact h) h))
end Go.Proofs.YtldiackagnjlgaaGreat
