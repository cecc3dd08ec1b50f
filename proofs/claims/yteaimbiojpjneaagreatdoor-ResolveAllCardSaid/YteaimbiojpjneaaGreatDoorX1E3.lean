/- Plain functional programs out of the program's functions, with proofs that the functions compute them; printed by wip/Ext.lean.txt. -/
import Derived.Test.YteaimbiojpjneaaGreatDoorX1E2
import Derived.Test.YteaimbiojpjneaaGreatDoorRfH
set_option linter.unusedVariables false
set_option linter.unusedSimpArgs false
set_option maxRecDepth 100000
set_option maxHeartbeats 4000000
namespace Go.Proofs.YteaimbiojpjneaaGreatDoor
/- skyway/skywaykeep3.ResolveAll -/
theorem B5_0_ok (n : Nat) (a0 : List (List TTubeNode)) (c4 : Bool) (c5 : List TClash) (c26 : Int) (k0_0 : Int) (k0_1 : Int) (v7 : Int) (v27 : Int) {t : (Int × Int) ⊕ ρ5} (R : AV → Mem → Prop) (N0 : St → Prop) (hR : ∀ r : ρ5, t = (.inr r) → ∀ u m, Ans ((boolA r)) u m → R u m) (hN0 : ∀ y : Int × Int, t = (.inl y) → ∀ s' : St, Weak KK 57 0 s' (h5_0 (lstA (lstE TTubeNode.E) a0) c4 (lstA TClash.E c5) y.1 c26 y.2 [(0, some ⟨[(intA k0_0), (intA k0_1)], 38⟩)]) → N0 s') : S5_0 n a0 c4 c5 c26 k0_0 k0_1 v7 v27 = some t → B5_0 (lstA (lstE TTubeNode.E) a0) c4 (lstA TClash.E c5) v7 c26 v27 [(0, some ⟨[(intA k0_0), (intA k0_1)], 38⟩)] R N0 := by
  unfold S5_0 B5_0
  refine cond_b (fun _ => ?_) (fun _ => ?_)
  · refine imp (opP_of (show _ = some ((AV.agg [(intA k0_0), (intA k0_1)]), []) from (ldA_ptr (b := ⟨[(intA k0_0), (intA k0_1)], 38⟩) (by first | rfl | (simp (disch := first | decide | assumption) only [mpushs_nil, mpushs_cons, mget_hd, mget_tl, mget_appW_o, mget_appW_n, mget_appW_e])) rfl))) ?_
    refine imp exA2_b ?_
    refine imp ex_i64_b ?_
    refine imp ex_i64_b ?_
    refine bind_b fun x85 h85 => ?_
    refine imp (callQ_says (sg16 h85)) ?_
    refine imp exT2_b ?_
    refine imp exB_b ?_
    refine imp ex_i64_b ?_
    refine cond_b (fun _ => ?_) (fun _ => ?_)
    · exact fun hg => ret1 (hR _ (Option.some.inj hg).symm) (fz_sc _ _)
    · refine bind_b fun x89 h89 => ?_
      refine imp (callQ_pure (pure_snapN (snL_cons (sn_lst (E := TClash.E) _ _ false) (snL_cons (sn_fn _ _ (snL_cons (sn_ptr _ (ty := 3) (us := [(intA v27)]) (by first | rfl | (simp (disch := first | decide | assumption) only [mpushs_nil, mpushs_cons, mget_hd, mget_tl, mget_appW_o, mget_appW_n, mget_appW_e])) (snL_cons (sn_sc _ _) snL_nil)) snL_nil)) snL_nil)) (sg17 h89) rfl)) ?_
      refine imp exB_b ?_
      refine imp (opP_of (show _ = some ((boolA (x85.1 == x89)), []) from (by kernel_rfl))) ?_
      refine imp exB_b ?_
      refine cond_b (fun _ => ?_) (fun _ => ?_)
      · exact fun hg => ret1 (hR _ (Option.some.inj hg).symm) (fz_sc _ _)
      · refine cond_b (fun _ => ?_) (fun _ => ?_)
        · exact fun hg => hN0 _ (Option.some.inj hg).symm _ (weak_mem [(0, 0)] rfl rfl rfl (okW_cons (ent_lst (E := (lstE TTubeNode.E)) _ false) (okW_cons (.inl (leV_refl _)) (okW_cons (.inl (leV_refl _)) (okW_cons (ent_lst (E := TClash.E) _ false) (okW_cons (.inl (leV_refl _)) (okW_cons (.inl (leV_refl _)) (okW_cons (.inl (leV_refl _)) okW_nil))))))) (okB_cons (okB_cells (cs := [(intA k0_0), (intA k0_1)]) (ty := 38) rfl (show mget _ 0 = _ from (by first | rfl | (simp (disch := first | decide | assumption) only [mpushs_nil, mpushs_cons, mget_hd, mget_tl, mget_appW_o, mget_appW_n, mget_appW_e])))) okB_nil'))
        · exact fun hg => hN0 _ (Option.some.inj hg).symm _ (weak_mem [(0, 0)] rfl rfl rfl (okW_cons (ent_lst (E := (lstE TTubeNode.E)) _ false) (okW_cons (.inl (leV_refl _)) (okW_cons (.inl (leV_refl _)) (okW_cons (ent_lst (E := TClash.E) _ false) (okW_cons (.inl (leV_refl _)) (okW_cons (.inl (leV_refl _)) (okW_cons (.inl (leV_refl _)) okW_nil))))))) (okB_cons (okB_cells (cs := [(intA k0_0), (intA k0_1)]) (ty := 38) rfl (show mget _ 0 = _ from (by first | rfl | (simp (disch := first | decide | assumption) only [mpushs_nil, mpushs_cons, mget_hd, mget_tl, mget_appW_o, mget_appW_n, mget_appW_e])))) okB_nil'))
  · refine imp (opP_of (show _ = some ((intA (a0.length : Int)), []) from rfl)) ?_
    refine imp ex_i64_b ?_
    refine imp (opP_of (show _ = some ((intA (c5.length : Int)), []) from rfl)) ?_
    refine imp ex_i64_b ?_
    refine imp (opP_of (show _ = some ((boolA ((v7 == (a0.length : Int)) == ((c5.length : Int) == (0)))), []) from (by kernel_rfl))) ?_
    refine imp exB_b ?_
    exact fun hg => ret1 (hR _ (Option.some.inj hg).symm) (fz_sc _ _)
theorem L5_0_ok (n : Nat) (a0 : List (List TTubeNode)) (c4 : Bool) (c5 : List TClash) (c26 : Int) (k0_0 : Int) (k0_1 : Int) {t : ρ5} (R : AV → Mem → Prop) (hR : ∀ r : ρ5, t = r → ∀ u m, Ans ((boolA r)) u m → R u m) (k : Nat) (x : Int × Int) (hx : iterO (fun y : Int × Int => S5_0 n a0 c4 c5 c26 k0_0 k0_1 y.1 y.2) k x = some t) {s : St} (hw : Weak KK 57 0 s (h5_0 (lstA (lstE TTubeNode.E) a0) c4 (lstA TClash.E c5) x.1 c26 x.2 [(0, some ⟨[(intA k0_0), (intA k0_1)], 38⟩)])) : Tri Tryz.prog KK 57 0 (.loop c5_0) s (q5_0 R ) :=
  L5_0 R  (σ := Nat × (Int × Int)) (fun z => iterO (fun y : Int × Int => S5_0 n a0 c4 c5 c26 k0_0 k0_1 y.1 y.2) z.1 z.2 = some t) (fun z => (lstA (lstE TTubeNode.E) a0)) (fun z => c4) (fun z => (lstA TClash.E c5)) (fun z => z.2.1) (fun z => c26) (fun z => z.2.2) (fun z => [(0, some ⟨[(intA k0_0), (intA k0_1)], 38⟩)]) (fun z => z.1) (by
    rintro ⟨k, y⟩ h
    cases k with
    | zero => exact (iterO_zero h).elim
    | succ k =>
      obtain ⟨u, h1, h2, h3⟩ := iterO_elim h
      exact B5_0_ok n a0 c4 c5 c26 k0_0 k0_1 y.1 y.2 R  _ (fun r e => hR r (h3 _ e).symm)  (fun y' e s' hw => ⟨(k, y'), h2 _ e, Nat.lt_succ_self k, hw⟩) h1) (k, x) hx hw
theorem g5_ok (n : Nat) (a0 : List (List TTubeNode)) (a1 : TSep) {t : ρ5} (R : AV → Mem → Prop) (hR : ∀ r : ρ5, t = r → ∀ u m, Ans ((boolA r)) u m → R u m) : g5 n a0 a1 = some t → F5 (lstA (lstE TTubeNode.E) a0) a1.Lateral a1.Vertical R := by
  unfold g5 F5
  refine bind_b fun x59 h59 => ?_
  refine imp (callQ_says (sg6 h59)) ?_
  refine imp exB_b ?_
  refine cond_b (fun _ => ?_) (fun _ => ?_)
  · exact fun hg => ret1 (hR _ (Option.some.inj hg).symm) (fz_sc _ _)
  · refine bind_b fun x64 h64 => ?_
    refine imp (callQ_says (sg10 h64)) ?_
    refine imp exB_b ?_
    refine cond_b (fun _ => ?_) (fun _ => ?_)
    · exact fun hg => ret1 (hR _ (Option.some.inj hg).symm) (fz_sc _ _)
    · refine bind_b fun x76 h76 => ?_
      refine imp (callW_says (sg15 h76)) ?_
      refine imp exT2_b ?_
      refine imp ex_i64_b ?_
      refine cond_b (fun _ => ?_) (fun _ => ?_)
      · exact fun hg => ret1 (hR _ (Option.some.inj hg).symm) (fz_sc _ _)
      · refine imp (opP_of (show _ = some ((intA (a0.length : Int)), []) from rfl)) ?_
        refine imp ex_i64_b ?_
        exact fun hg => L5_0_ok n a0 false x76.1 (a0.length : Int) a1.Lateral a1.Vertical R  hR n _ hg (weak_mem [(0, 0)] rfl rfl rfl (okW_cons (ent_lst (E := (lstE TTubeNode.E)) _ false) (okW_cons (.inl (leV_refl _)) (okW_cons (.inl (leV_refl _)) (okW_cons (ent_lst (E := TClash.E) _ false) (okW_cons (.inl (leV_refl _)) (okW_cons (.inl (leV_refl _)) (okW_cons (.inl (leV_refl _)) okW_nil))))))) (okB_cons (okB_cells (cs := [(intA a1.Lateral), (intA a1.Vertical)]) (ty := 38) rfl (show mget _ 0 = _ from (by first | rfl | (simp (disch := first | decide | assumption) only [mpushs_nil, mpushs_cons, mget_hd, mget_tl, mget_appW_o, mget_appW_n, mget_appW_e])))) okB_nil'))
theorem sg5 {n : Nat} {a0 : List (List TTubeNode)} {a1 : TSep} {t : ρ5} (h : g5 n a0 a1 = some t) : Says Tryz.prog KK.gl 5 [(lstA (lstE TTubeNode.E) a0), (AV.agg [(intA a1.Lateral), (intA a1.Vertical)])] ((boolA t)) :=
  says_of_own (by first | rfl | simp [cleans, clean, encs_clean, En.cln]) (by first | rfl | simp [cleans, clean, encs_clean, En.cln]) (F5_own (lstA (lstE TTubeNode.E) a0) a1.Lateral a1.Vertical _ (g5_ok n a0 a1 (Ans ((boolA t))) (fun r e u m h => by rw [e]; exact h) h))
end Go.Proofs.YteaimbiojpjneaaGreatDoor
