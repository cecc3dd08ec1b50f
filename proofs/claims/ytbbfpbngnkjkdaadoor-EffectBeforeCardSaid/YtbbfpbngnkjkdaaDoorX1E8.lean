/- Plain functional programs out of the program's functions, with proofs that the functions compute them; printed by wip/Ext.lean.txt. -/
import Derived.Test.YtbbfpbngnkjkdaaDoorX1E7
set_option linter.unusedVariables false
set_option linter.unusedSimpArgs false
set_option maxRecDepth 100000
set_option maxHeartbeats 4000000
namespace Go.Proofs.YtbbfpbngnkjkdaaDoor
/- skyway/skywaykeep3.EffectBefore -/
theorem B3_0_ok (n : Nat) (a0 : List TTubeNode) (a2 : Int) (c10 : Bool) (c11 : List TTubeNode) (v13 : Int) {t : (Int) ⊕ ρ3} (R : AV → Mem → Prop) (N0 : St → Prop) (hR : ∀ r : ρ3, t = (.inr r) → ∀ u m, Ans ((boolA r)) u m → R u m) (hN0 : ∀ y : Int, t = (.inl y) → ∀ s' : St, Weak KK 128 0 s' (h3_0 (lstA TTubeNode.E a0) a2 c10 (lstA TTubeNode.E c11) y []) → N0 s') : S3_0 n a0 a2 c10 c11 v13 = some t → B3_0 (lstA TTubeNode.E a0) a2 c10 (lstA TTubeNode.E c11) v13 [] R N0 := by
  unfold S3_0 B3_0
  refine cond_b (fun _ => ?_) (fun _ => ?_)
  · refine bind_b fun x757 h757 => ?_
    refine imp (callQ_says (sg8 h757)) ?_
    refine imp exT2_b ?_
    refine imp exA6_b ?_
    iterate 7 refine imp ex_i64_b ?_
    refine bind_b fun x758 h758 => ?_
    refine imp (callQ_says (sg8 h758)) ?_
    refine imp exT2_b ?_
    refine imp exA6_b ?_
    iterate 7 refine imp ex_i64_b ?_
    refine cond_b (fun _ => ?_) (fun _ => ?_)
    · exact fun hg => ret1 (hR _ (Option.some.inj hg).symm) (fz_sc _ _)
    · refine cond_b (fun _ => ?_) (fun _ => ?_)
      · exact fun hg => ret1 (hR _ (Option.some.inj hg).symm) (fz_sc _ _)
      · refine bind_b fun x759 h759 => ?_
        refine imp (callQ_says (sg9 h759)) ?_
        refine imp exA2_b ?_
        iterate 2 refine imp ex_i64_b ?_
        refine iq (intA (IntKind.wrap .i64 (0 - x759.X))) (by kernel_rfl) ?_
        refine imp ex_i64_b ?_
        refine iq (intA (IntKind.wrap .i64 (0 - x759.Y))) (by kernel_rfl) ?_
        refine imp ex_i64_b ?_
        refine iq (intA (if (IntKind.wrap .i64 (x758.1.Node_Height - x757.1.Node_Height)) > (if (IntKind.wrap .i64 (x757.1.Node_Height - x758.1.Node_Height)) > (if (IntKind.wrap .i64 (0 - x759.Y)) > (if x759.Y > (if (IntKind.wrap .i64 (0 - x759.X)) > x759.X then (IntKind.wrap .i64 (0 - x759.X)) else x759.X) then x759.Y else (if (IntKind.wrap .i64 (0 - x759.X)) > x759.X then (IntKind.wrap .i64 (0 - x759.X)) else x759.X)) then (IntKind.wrap .i64 (0 - x759.Y)) else (if x759.Y > (if (IntKind.wrap .i64 (0 - x759.X)) > x759.X then (IntKind.wrap .i64 (0 - x759.X)) else x759.X) then x759.Y else (if (IntKind.wrap .i64 (0 - x759.X)) > x759.X then (IntKind.wrap .i64 (0 - x759.X)) else x759.X))) then (IntKind.wrap .i64 (x757.1.Node_Height - x758.1.Node_Height)) else (if (IntKind.wrap .i64 (0 - x759.Y)) > (if x759.Y > (if (IntKind.wrap .i64 (0 - x759.X)) > x759.X then (IntKind.wrap .i64 (0 - x759.X)) else x759.X) then x759.Y else (if (IntKind.wrap .i64 (0 - x759.X)) > x759.X then (IntKind.wrap .i64 (0 - x759.X)) else x759.X)) then (IntKind.wrap .i64 (0 - x759.Y)) else (if x759.Y > (if (IntKind.wrap .i64 (0 - x759.X)) > x759.X then (IntKind.wrap .i64 (0 - x759.X)) else x759.X) then x759.Y else (if (IntKind.wrap .i64 (0 - x759.X)) > x759.X then (IntKind.wrap .i64 (0 - x759.X)) else x759.X)))) then (IntKind.wrap .i64 (x758.1.Node_Height - x757.1.Node_Height)) else (if (IntKind.wrap .i64 (x757.1.Node_Height - x758.1.Node_Height)) > (if (IntKind.wrap .i64 (0 - x759.Y)) > (if x759.Y > (if (IntKind.wrap .i64 (0 - x759.X)) > x759.X then (IntKind.wrap .i64 (0 - x759.X)) else x759.X) then x759.Y else (if (IntKind.wrap .i64 (0 - x759.X)) > x759.X then (IntKind.wrap .i64 (0 - x759.X)) else x759.X)) then (IntKind.wrap .i64 (0 - x759.Y)) else (if x759.Y > (if (IntKind.wrap .i64 (0 - x759.X)) > x759.X then (IntKind.wrap .i64 (0 - x759.X)) else x759.X) then x759.Y else (if (IntKind.wrap .i64 (0 - x759.X)) > x759.X then (IntKind.wrap .i64 (0 - x759.X)) else x759.X))) then (IntKind.wrap .i64 (x757.1.Node_Height - x758.1.Node_Height)) else (if (IntKind.wrap .i64 (0 - x759.Y)) > (if x759.Y > (if (IntKind.wrap .i64 (0 - x759.X)) > x759.X then (IntKind.wrap .i64 (0 - x759.X)) else x759.X) then x759.Y else (if (IntKind.wrap .i64 (0 - x759.X)) > x759.X then (IntKind.wrap .i64 (0 - x759.X)) else x759.X)) then (IntKind.wrap .i64 (0 - x759.Y)) else (if x759.Y > (if (IntKind.wrap .i64 (0 - x759.X)) > x759.X then (IntKind.wrap .i64 (0 - x759.X)) else x759.X) then x759.Y else (if (IntKind.wrap .i64 (0 - x759.X)) > x759.X then (IntKind.wrap .i64 (0 - x759.X)) else x759.X)))))) (by kernel_rfl) ?_
        refine imp ex_i64_b ?_
        refine cond_b (fun _ => ?_) (fun _ => ?_)
        · exact fun hg => ret1 (hR _ (Option.some.inj hg).symm) (fz_sc _ _)
        · refine cond_b (fun _ => ?_) (fun _ => ?_)
          · refine iq (boolA (!(decide ((⟨x757.1.Node_Time, x757.1.Node_At_X, x757.1.Node_At_Y, x757.1.Node_Height⟩ : TNode) = (⟨x758.1.Node_Time, x758.1.Node_At_X, x758.1.Node_At_Y, x758.1.Node_Height⟩ : TNode))))) (TNode.neq38 ((⟨x757.1.Node_Time, x757.1.Node_At_X, x757.1.Node_At_Y, x757.1.Node_Height⟩ : TNode)) ((⟨x758.1.Node_Time, x758.1.Node_At_X, x758.1.Node_At_Y, x758.1.Node_Height⟩ : TNode))) ?_
            refine imp exB_b ?_
            refine cond_b (fun _ => ?_) (fun _ => ?_)
            · exact fun hg => ret1 (hR _ (Option.some.inj hg).symm) (fz_sc _ _)
            · exact fun hg => hN0 _ (Option.some.inj hg).symm _ (weak_mem [] rfl rfl rfl (okW_cons (ent_lst (E := TTubeNode.E) _ false) (okW_cons (.inl (leV_refl _)) (okW_cons (.inl (leV_refl _)) (okW_cons (ent_lst (E := TTubeNode.E) _ false) (okW_cons (.inl (leV_refl _)) okW_nil))))) okB_nil')
          · exact fun hg => hN0 _ (Option.some.inj hg).symm _ (weak_mem [] rfl rfl rfl (okW_cons (ent_lst (E := TTubeNode.E) _ false) (okW_cons (.inl (leV_refl _)) (okW_cons (.inl (leV_refl _)) (okW_cons (ent_lst (E := TTubeNode.E) _ false) (okW_cons (.inl (leV_refl _)) okW_nil))))) okB_nil')
  · exact fun hg => ret1 (hR _ (Option.some.inj hg).symm) (fz_sc _ _)
theorem L3_0_ok (n : Nat) (a0 : List TTubeNode) (a2 : Int) (c10 : Bool) (c11 : List TTubeNode) {t : ρ3} (R : AV → Mem → Prop) (hR : ∀ r : ρ3, t = r → ∀ u m, Ans ((boolA r)) u m → R u m) (k : Nat) (x : Int) (hx : iterO (fun y : Int => S3_0 n a0 a2 c10 c11 y) k x = some t) {s : St} (hw : Weak KK 128 0 s (h3_0 (lstA TTubeNode.E a0) a2 c10 (lstA TTubeNode.E c11) x [])) : Tri pg KK 128 0 (.loop c3_0) s (q3_0 R ) :=
  L3_0 R  (σ := Nat × (Int)) (fun z => iterO (fun y : Int => S3_0 n a0 a2 c10 c11 y) z.1 z.2 = some t) (fun z => (lstA TTubeNode.E a0)) (fun z => a2) (fun z => c10) (fun z => (lstA TTubeNode.E c11)) (fun z => z.2) (fun z => []) (fun z => z.1) (by
    rintro ⟨k, y⟩ h
    cases k with
    | zero => exact (iterO_zero h).elim
    | succ k =>
      obtain ⟨u, h1, h2, h3⟩ := iterO_elim h
      exact B3_0_ok n a0 a2 c10 c11 y R  _ (fun r e => hR r (h3 _ e).symm)  (fun y' e s' hw => ⟨(k, y'), h2 _ e, Nat.lt_succ_self k, hw⟩) h1) (k, x) hx hw
theorem g3_ok (n : Nat) (a0 : List TTubeNode) (a1 : TClearance) (a2 : Int) (a3 : TKind) (a4 : TP) {t : ρ3} (R : AV → Mem → Prop) (hR : ∀ r : ρ3, t = r → ∀ u m, Ans ((boolA r)) u m → R u m) : g3 n a0 a1 a2 a3 a4 = some t → F3 (lstA TTubeNode.E a0) a1.Call a1.Kind a1.Value a1.Fix a2 a3.Name a3.Wake a3.Ceiling a3.Climb a3.Descent a3.Slow a3.Fast a4.X a4.Y R := by
  unfold g3 F3
  refine bind_b fun x746 h746 => ?_
  refine imp (callQ_says (sg4 h746)) ?_
  refine imp exB_b ?_
  refine cond_b (fun _ => ?_) (fun _ => ?_)
  · exact fun hg => ret1 (hR _ (Option.some.inj hg).symm) (fz_sc _ _)
  · refine imp (opN_of (show _ = some ((blkV (lstE TTubeNode.E) 70 ([a0] : List (List TTubeNode))), [(70, some ⟨encs (lstE TTubeNode.E) ([a0] : List (List TTubeNode)), 23⟩)]) from rfl)) ?_
    refine bind_b fun x751 h751 => ?_
    refine imp (callQ_pure (pure_snapN (snL_cons (sn_blk (E := (lstE TTubeNode.E)) (ty := 23) (l' := ([a0] : List (List TTubeNode))) _ (lstE.nf TTubeNode.E) rfl (by first | rfl | (simp (disch := first | decide | assumption) only [mpushs_nil, mpushs_cons, mget_hd, mget_tl, mget_appW_o, mget_appW_n, mget_appW_e]))) (snL_cons (sn_sc _ _) (snL_cons (sn_sc _ _) snL_nil))) (sg5 h751) rfl)) ?_
    refine imp exB_b ?_
    refine cond_b (fun _ => ?_) (fun _ => ?_)
    · exact fun hg => ret1 (hR _ (Option.some.inj hg).symm) (fz_sc _ _)
    · refine iq (AV.agg [(strA a1.Call), (intA a1.Kind), (intA a1.Value), (strA a1.Fix)]) (ldA_ptr (b := ⟨[(strA a1.Call), (intA a1.Kind), (intA a1.Value), (strA a1.Fix)], 25⟩) (by first | rfl | (simp (disch := first | decide | assumption) only [mpushs_nil, mpushs_cons, mget_hd, mget_tl, mget_appW_o, mget_appW_n, mget_appW_e])) rfl) ?_
      refine imp exA4_b ?_
      refine imp exStr_b ?_
      iterate 2 refine imp ex_i64_b ?_
      refine imp exStr_b ?_
      refine iq (AV.agg [(strA a3.Name), (intA a3.Wake), (intA a3.Ceiling), (intA a3.Climb), (intA a3.Descent), (intA a3.Slow), (intA a3.Fast)]) (ldA_ptr (b := ⟨[(strA a3.Name), (intA a3.Wake), (intA a3.Ceiling), (intA a3.Climb), (intA a3.Descent), (intA a3.Slow), (intA a3.Fast)], 27⟩) (by first | rfl | (simp (disch := first | decide | assumption) only [mpushs_nil, mpushs_cons, mget_hd, mget_tl, mget_appW_o, mget_appW_n, mget_appW_e])) rfl) ?_
      refine imp exA7_b ?_
      refine imp exStr_b ?_
      iterate 6 refine imp ex_i64_b ?_
      refine iq (AV.agg [(intA a4.X), (intA a4.Y)]) (ldA_ptr (b := ⟨[(intA a4.X), (intA a4.Y)], 29⟩) (by first | rfl | (simp (disch := first | decide | assumption) only [mpushs_nil, mpushs_cons, mget_hd, mget_tl, mget_appW_o, mget_appW_n, mget_appW_e])) rfl) ?_
      refine imp exA2_b ?_
      iterate 2 refine imp ex_i64_b ?_
      refine bind_b fun x752 h752 => ?_
      refine imp (callQ_says (sg6 h752)) ?_
      refine imp exT2_b ?_
      refine imp ex_i64_b ?_
      refine cond_b (fun _ => ?_) (fun _ => ?_)
      · refine iq (intA (x752.1.length : Int)) rfl ?_
        refine imp ex_i64_b ?_
        exact fun hg => ret1 (hR _ (Option.some.inj hg).symm) (fz_sc _ _)
      · refine bind_b fun x753 h753 => ?_
        refine imp (callQ_says (sg7 h753)) ?_
        refine imp ex_i64_b ?_
        refine cond_b (fun _ => ?_) (fun _ => ?_)
        · exact fun hg => ret1 (hR _ (Option.some.inj hg).symm) (fz_sc _ _)
        · refine bind_b fun x754 h754 => ?_
          refine iq (AV.ept [(intA x754.Node_Time), (intA x754.Node_At_X), (intA x754.Node_At_Y), (intA x754.Node_Height), (intA x754.Radius), (intA x754.Band)] 0) (idx_lst (E := TTubeNode.E) rfl h754) ?_
          refine iq (AV.ept [(intA x754.Node_Time), (intA x754.Node_At_X), (intA x754.Node_At_Y), (intA x754.Node_Height), (intA x754.Radius), (intA x754.Band)] 0) rfl ?_
          refine iq (AV.ept [(intA x754.Node_Time), (intA x754.Node_At_X), (intA x754.Node_At_Y), (intA x754.Node_Height), (intA x754.Radius), (intA x754.Band)] 0) rfl ?_
          refine iq (intA x754.Node_Time) rfl ?_
          refine imp ex_i64_b ?_
          refine bind_b fun x755 h755 => ?_
          refine iq (AV.ept [(intA x755.Node_Time), (intA x755.Node_At_X), (intA x755.Node_At_Y), (intA x755.Node_Height), (intA x755.Radius), (intA x755.Band)] 0) (idx_lst (E := TTubeNode.E) rfl h755) ?_
          refine iq (AV.ept [(intA x755.Node_Time), (intA x755.Node_At_X), (intA x755.Node_At_Y), (intA x755.Node_Height), (intA x755.Radius), (intA x755.Band)] 0) rfl ?_
          refine iq (AV.ept [(intA x755.Node_Time), (intA x755.Node_At_X), (intA x755.Node_At_Y), (intA x755.Node_Height), (intA x755.Radius), (intA x755.Band)] 0) rfl ?_
          refine iq (intA x755.Node_Time) rfl ?_
          refine imp ex_i64_b ?_
          refine cond_b (fun _ => ?_) (fun _ => ?_)
          · exact fun hg => ret1 (hR _ (Option.some.inj hg).symm) (fz_sc _ _)
          · refine bind_b fun x756 h756 => ?_
            refine iq (AV.ept [(intA x756.Node_Time), (intA x756.Node_At_X), (intA x756.Node_At_Y), (intA x756.Node_Height), (intA x756.Radius), (intA x756.Band)] 0) (idx_lst (E := TTubeNode.E) rfl h756) ?_
            refine iq (AV.ept [(intA x756.Node_Time), (intA x756.Node_At_X), (intA x756.Node_At_Y), (intA x756.Node_Height), (intA x756.Radius), (intA x756.Band)] 0) rfl ?_
            refine iq (AV.ept [(intA x756.Node_Time), (intA x756.Node_At_X), (intA x756.Node_At_Y), (intA x756.Node_Height), (intA x756.Radius), (intA x756.Band)] 0) rfl ?_
            refine iq (intA x756.Node_Time) rfl ?_
            refine imp ex_i64_b ?_
            exact fun hg => L3_0_ok n a0 a2 false x752.1 R  hR n _ hg (weak_mem [] rfl rfl rfl (okW_cons (ent_lst (E := TTubeNode.E) _ false) (okW_cons (.inl (leV_refl _)) (okW_cons (.inl (leV_refl _)) (okW_cons (ent_lst (E := TTubeNode.E) _ false) (okW_cons (.inl (leV_refl _)) okW_nil))))) okB_nil')
theorem sg3 {n : Nat} {a0 : List TTubeNode} {a1 : TClearance} {a2 : Int} {a3 : TKind} {a4 : TP} {t : ρ3} (h : g3 n a0 a1 a2 a3 a4 = some t) : Says pg KK.gl 3 [(lstA TTubeNode.E a0), (AV.agg [(strA a1.Call), (intA a1.Kind), (intA a1.Value), (strA a1.Fix)]), (intA a2), (AV.agg [(strA a3.Name), (intA a3.Wake), (intA a3.Ceiling), (intA a3.Climb), (intA a3.Descent), (intA a3.Slow), (intA a3.Fast)]), (AV.agg [(intA a4.X), (intA a4.Y)])] ((boolA t)) :=
  says_of_own (by first | rfl | simp [cleans, clean, encs_clean, En.cln]) (by first | rfl | simp [cleans, clean, encs_clean, En.cln]) (F3_own (lstA TTubeNode.E a0) a1.Call a1.Kind a1.Value a1.Fix a2 a3.Name a3.Wake a3.Ceiling a3.Climb a3.Descent a3.Slow a3.Fast a4.X a4.Y _ (g3_ok n a0 a1 a2 a3 a4 (Ans ((boolA t))) (fun r e u m h => by rw [e]; exact h) h))
end Go.Proofs.YtbbfpbngnkjkdaaDoor
