/- Plain functional programs out of the program's functions, with proofs that the functions compute them; printed by wip/Ext.lean.txt. -/
import Derived.Test.YtpjepkldnnfncaaDoorX3E3
set_option linter.unusedVariables false
set_option linter.unusedSimpArgs false
set_option maxRecDepth 100000
set_option maxHeartbeats 4000000
namespace Go.Proofs.YtpjepkldnnfncaaDoor
/- skyway/skywaykeep3.EffectReaches -/
theorem B4_0_ok (n : Nat) (a2 : Int) (a3 : Int) (c10 : Bool) (c11 : List TTubeNode) (c14 : Int) (k281_0 : Int) (k281_1 : Int) (k281_2 : Int) (k281_3 : Int) (k281_4 : Int) (k281_5 : Int) (k0_0 : ByteArray) (k0_1 : Int) (k0_2 : Int) (k0_3 : Int) (k0_4 : Int) (k0_5 : Int) (k0_6 : Int) (v15 : Int) {t : (Int) ⊕ ρ4} (R : AV → Mem → Prop) (N0 : St → Prop) (hR : ∀ r : ρ4, t = (.inr r) → ∀ u m, Ans ((boolA r)) u m → R u m) (hN0 : ∀ y : Int, t = (.inl y) → ∀ s' : St, Weak KK 150 0 s' (h4_0 a2 a3 c10 (lstA TTubeNode.E c11) c14 y k281_0 k281_1 k281_2 k281_3 k281_4 k281_5 [(0, some ⟨[(strA k0_0), (intA k0_1), (intA k0_2), (intA k0_3), (intA k0_4), (intA k0_5), (intA k0_6)], 27⟩)]) → N0 s') : S4_0 n a2 a3 c10 c11 c14 k281_0 k281_1 k281_2 k281_3 k281_4 k281_5 k0_0 k0_1 k0_2 k0_3 k0_4 k0_5 k0_6 v15 = some t → B4_0 a2 a3 c10 (lstA TTubeNode.E c11) c14 v15 k281_0 k281_1 k281_2 k281_3 k281_4 k281_5 [(0, some ⟨[(strA k0_0), (intA k0_1), (intA k0_2), (intA k0_3), (intA k0_4), (intA k0_5), (intA k0_6)], 27⟩)] R N0 := by
  unfold S4_0 B4_0
  refine imp (opP_of (show _ = some ((intA (c11.length : Int)), []) from rfl)) ?_
  refine imp ex_i64_b ?_
  refine bind_b fun x130 h130 => ?_
  refine imp (opP_of (show _ = some ((AV.ept [(intA x130.Node_Time), (intA x130.Node_At_X), (intA x130.Node_At_Y), (intA x130.Node_Height), (intA x130.Radius), (intA x130.Band)] 0), []) from (idx_lst (E := TTubeNode.E) rfl h130))) ?_
  refine imp (opP_of (show _ = some ((AV.ept [(intA x130.Node_Time), (intA x130.Node_At_X), (intA x130.Node_At_Y), (intA x130.Node_Height), (intA x130.Radius), (intA x130.Band)] 0), []) from rfl)) ?_
  refine imp (opP_of (show _ = some ((AV.ept [(intA x130.Node_Time), (intA x130.Node_At_X), (intA x130.Node_At_Y), (intA x130.Node_Height), (intA x130.Radius), (intA x130.Band)] 0), []) from rfl)) ?_
  refine imp (opP_of (show _ = some ((intA x130.Node_Time), []) from rfl)) ?_
  refine imp ex_i64_b ?_
  refine cond_b (fun _ => ?_) (fun _ => ?_)
  · refine bind_b fun x131 h131 => ?_
    refine imp (callQ_says (sg13 h131)) ?_
    refine imp exT2_b ?_
    refine imp exA6_b ?_
    refine imp ex_i64_b ?_
    refine imp ex_i64_b ?_
    refine imp ex_i64_b ?_
    refine imp ex_i64_b ?_
    refine imp ex_i64_b ?_
    refine imp ex_i64_b ?_
    refine imp ex_i64_b ?_
    refine cond_b (fun _ => ?_) (fun _ => ?_)
    · exact fun hg => ret1 (hR _ (Option.some.inj hg).symm) (fz_sc _ _)
    · refine imp (opP_of (show _ = some ((intA (if a2 < k281_3 then a2 else k281_3)), []) from (by kernel_rfl))) ?_
      refine imp ex_i64_b ?_
      refine cond_b (fun _ => ?_) (fun _ => ?_)
      · exact fun hg => ret1 (hR _ (Option.some.inj hg).symm) (fz_sc _ _)
      · refine imp (opP_of (show _ = some ((intA (if a2 > k281_3 then a2 else k281_3)), []) from (by kernel_rfl))) ?_
        refine imp ex_i64_b ?_
        refine cond_b (fun _ => ?_) (fun _ => ?_)
        · exact fun hg => ret1 (hR _ (Option.some.inj hg).symm) (fz_sc _ _)
        · refine cond_b (fun _ => ?_) (fun _ => ?_)
          · refine cond_b (fun _ => ?_) (fun _ => ?_)
            · exact fun hg => ret1 (hR _ (Option.some.inj hg).symm) (fz_sc _ _)
            · refine imp (opP_of (show _ = some ((intA k0_3), []) from (ldS_ptr (b := ⟨[(strA k0_0), (intA k0_1), (intA k0_2), (intA k0_3), (intA k0_4), (intA k0_5), (intA k0_6)], 27⟩) (by first | rfl | (simp (disch := first | decide | assumption) only [mpushs_nil, mpushs_cons, mget_hd, mget_tl, mget_appW_o, mget_appW_n, mget_appW_e])) rfl))) ?_
              refine imp ex_i64_b ?_
              refine cond_b (fun _ => ?_) (fun _ => ?_)
              · exact fun hg => ret1 (hR _ (Option.some.inj hg).symm) (fz_sc _ _)
              · refine imp (opP_of (show _ = some ((intA (IntKind.wrap .i64 (0 - (IntKind.wrap .i64 (x131.1.Node_Height - k281_3))))), []) from (by kernel_rfl))) ?_
                refine imp ex_i64_b ?_
                refine imp (opP_of (show _ = some ((intA k0_4), []) from (ldS_ptr (b := ⟨[(strA k0_0), (intA k0_1), (intA k0_2), (intA k0_3), (intA k0_4), (intA k0_5), (intA k0_6)], 27⟩) (by first | rfl | (simp (disch := first | decide | assumption) only [mpushs_nil, mpushs_cons, mget_hd, mget_tl, mget_appW_o, mget_appW_n, mget_appW_e])) rfl))) ?_
                refine imp ex_i64_b ?_
                refine cond_b (fun _ => ?_) (fun _ => ?_)
                · exact fun hg => ret1 (hR _ (Option.some.inj hg).symm) (fz_sc _ _)
                · exact fun hg => hN0 _ (Option.some.inj hg).symm _ (weak_mem [(281, 281), (0, 0)] rfl rfl rfl (okW_cons (.inl (leV_refl _)) (okW_cons (.inl (leV_refl _)) (okW_cons (.inl (leV_refl _)) (okW_cons (.inl (leV_refl _)) (okW_cons (ent_lst (E := TTubeNode.E) _ false) (okW_cons (.inl (leV_refl _)) (okW_cons (.inl (leV_refl _)) (okW_cons (.inl (leV_refl _)) okW_nil)))))))) (okB_cons (okB_cells (cs := [(intA k281_0), (intA k281_1), (intA k281_2), (intA k281_3), (intA k281_4), (intA k281_5)]) (ty := 40) rfl (show mget _ 281 = _ from (by first | rfl | (simp (disch := first | decide | assumption) only [mpushs_nil, mpushs_cons, mget_hd, mget_tl, mget_appW_o, mget_appW_n, mget_appW_e])))) (okB_cons (okB_cells (cs := [(strA k0_0), (intA k0_1), (intA k0_2), (intA k0_3), (intA k0_4), (intA k0_5), (intA k0_6)]) (ty := 27) rfl (show mget _ 0 = _ from (by first | rfl | (simp (disch := first | decide | assumption) only [mpushs_nil, mpushs_cons, mget_hd, mget_tl, mget_appW_o, mget_appW_n, mget_appW_e])))) okB_nil')))
          · refine imp (opP_of (show _ = some ((intA k0_3), []) from (ldS_ptr (b := ⟨[(strA k0_0), (intA k0_1), (intA k0_2), (intA k0_3), (intA k0_4), (intA k0_5), (intA k0_6)], 27⟩) (by first | rfl | (simp (disch := first | decide | assumption) only [mpushs_nil, mpushs_cons, mget_hd, mget_tl, mget_appW_o, mget_appW_n, mget_appW_e])) rfl))) ?_
            refine imp ex_i64_b ?_
            refine cond_b (fun _ => ?_) (fun _ => ?_)
            · exact fun hg => ret1 (hR _ (Option.some.inj hg).symm) (fz_sc _ _)
            · refine imp (opP_of (show _ = some ((intA (IntKind.wrap .i64 (0 - (IntKind.wrap .i64 (x131.1.Node_Height - k281_3))))), []) from (by kernel_rfl))) ?_
              refine imp ex_i64_b ?_
              refine imp (opP_of (show _ = some ((intA k0_4), []) from (ldS_ptr (b := ⟨[(strA k0_0), (intA k0_1), (intA k0_2), (intA k0_3), (intA k0_4), (intA k0_5), (intA k0_6)], 27⟩) (by first | rfl | (simp (disch := first | decide | assumption) only [mpushs_nil, mpushs_cons, mget_hd, mget_tl, mget_appW_o, mget_appW_n, mget_appW_e])) rfl))) ?_
              refine imp ex_i64_b ?_
              refine cond_b (fun _ => ?_) (fun _ => ?_)
              · exact fun hg => ret1 (hR _ (Option.some.inj hg).symm) (fz_sc _ _)
              · exact fun hg => hN0 _ (Option.some.inj hg).symm _ (weak_mem [(281, 281), (0, 0)] rfl rfl rfl (okW_cons (.inl (leV_refl _)) (okW_cons (.inl (leV_refl _)) (okW_cons (.inl (leV_refl _)) (okW_cons (.inl (leV_refl _)) (okW_cons (ent_lst (E := TTubeNode.E) _ false) (okW_cons (.inl (leV_refl _)) (okW_cons (.inl (leV_refl _)) (okW_cons (.inl (leV_refl _)) okW_nil)))))))) (okB_cons (okB_cells (cs := [(intA k281_0), (intA k281_1), (intA k281_2), (intA k281_3), (intA k281_4), (intA k281_5)]) (ty := 40) rfl (show mget _ 281 = _ from (by first | rfl | (simp (disch := first | decide | assumption) only [mpushs_nil, mpushs_cons, mget_hd, mget_tl, mget_appW_o, mget_appW_n, mget_appW_e])))) (okB_cons (okB_cells (cs := [(strA k0_0), (intA k0_1), (intA k0_2), (intA k0_3), (intA k0_4), (intA k0_5), (intA k0_6)]) (ty := 27) rfl (show mget _ 0 = _ from (by first | rfl | (simp (disch := first | decide | assumption) only [mpushs_nil, mpushs_cons, mget_hd, mget_tl, mget_appW_o, mget_appW_n, mget_appW_e])))) okB_nil')))
  · exact fun hg => ret1 (hR _ (Option.some.inj hg).symm) (fz_sc _ _)
theorem L4_0_ok (n : Nat) (a2 : Int) (a3 : Int) (c10 : Bool) (c11 : List TTubeNode) (c14 : Int) (k281_0 : Int) (k281_1 : Int) (k281_2 : Int) (k281_3 : Int) (k281_4 : Int) (k281_5 : Int) (k0_0 : ByteArray) (k0_1 : Int) (k0_2 : Int) (k0_3 : Int) (k0_4 : Int) (k0_5 : Int) (k0_6 : Int) {t : ρ4} (R : AV → Mem → Prop) (hR : ∀ r : ρ4, t = r → ∀ u m, Ans ((boolA r)) u m → R u m) (k : Nat) (x : Int) (hx : iterO (fun y : Int => S4_0 n a2 a3 c10 c11 c14 k281_0 k281_1 k281_2 k281_3 k281_4 k281_5 k0_0 k0_1 k0_2 k0_3 k0_4 k0_5 k0_6 y) k x = some t) {s : St} (hw : Weak KK 150 0 s (h4_0 a2 a3 c10 (lstA TTubeNode.E c11) c14 x k281_0 k281_1 k281_2 k281_3 k281_4 k281_5 [(0, some ⟨[(strA k0_0), (intA k0_1), (intA k0_2), (intA k0_3), (intA k0_4), (intA k0_5), (intA k0_6)], 27⟩)])) : Tri Tryd.prog KK 150 0 (.loop c4_0) s (q4_0 R ) :=
  L4_0 R  (σ := Nat × (Int)) (fun z => iterO (fun y : Int => S4_0 n a2 a3 c10 c11 c14 k281_0 k281_1 k281_2 k281_3 k281_4 k281_5 k0_0 k0_1 k0_2 k0_3 k0_4 k0_5 k0_6 y) z.1 z.2 = some t) (fun z => a2) (fun z => a3) (fun z => c10) (fun z => (lstA TTubeNode.E c11)) (fun z => c14) (fun z => z.2) (fun z => k281_0) (fun z => k281_1) (fun z => k281_2) (fun z => k281_3) (fun z => k281_4) (fun z => k281_5) (fun z => [(0, some ⟨[(strA k0_0), (intA k0_1), (intA k0_2), (intA k0_3), (intA k0_4), (intA k0_5), (intA k0_6)], 27⟩)]) (fun z => z.1) (by
    rintro ⟨k, y⟩ h
    cases k with
    | zero => exact (iterO_zero h).elim
    | succ k =>
      obtain ⟨u, h1, h2, h3⟩ := iterO_elim h
      exact B4_0_ok n a2 a3 c10 c11 c14 k281_0 k281_1 k281_2 k281_3 k281_4 k281_5 k0_0 k0_1 k0_2 k0_3 k0_4 k0_5 k0_6 y R  _ (fun r e => hR r (h3 _ e).symm)  (fun y' e s' hw => ⟨(k, y'), h2 _ e, Nat.lt_succ_self k, hw⟩) h1) (k, x) hx hw
theorem g4_ok (n : Nat) (a0 : List TTubeNode) (a1 : ByteArray) (a2 : Int) (a3 : Int) (a4 : TKind) {t : ρ4} (R : AV → Mem → Prop) (hR : ∀ r : ρ4, t = r → ∀ u m, Ans ((boolA r)) u m → R u m) : g4 n a0 a1 a2 a3 a4 = some t → F4 (lstA TTubeNode.E a0) a1 a2 a3 a4.Name a4.Wake a4.Ceiling a4.Climb a4.Descent a4.Slow a4.Fast R := by
  unfold g4 F4
  refine bind_b fun x121 h121 => ?_
  refine imp (callQ_says (sg9 h121)) ?_
  refine imp exB_b ?_
  refine cond_b (fun _ => ?_) (fun _ => ?_)
  · exact fun hg => ret1 (hR _ (Option.some.inj hg).symm) (fz_sc _ _)
  · refine imp (opN_of (show _ = some ((blkV (lstE TTubeNode.E) 68 ([a0] : List (List TTubeNode))), [(68, some ⟨encs (lstE TTubeNode.E) ([a0] : List (List TTubeNode)), 23⟩)]) from rfl)) ?_
    refine bind_b fun x126 h126 => ?_
    refine imp (callQ_pure (pure_snapN (snL_cons (sn_blk (E := (lstE TTubeNode.E)) (ty := 23) (l' := ([a0] : List (List TTubeNode))) _ (lstE.nf TTubeNode.E) rfl (by first | rfl | (simp (disch := first | decide | assumption) only [mpushs_nil, mpushs_cons, mget_hd, mget_tl, mget_appW_o, mget_appW_n, mget_appW_e]))) (snL_cons (sn_sc _ _) (snL_cons (sn_sc _ _) snL_nil))) (sg10 h126) rfl)) ?_
    refine imp exB_b ?_
    refine cond_b (fun _ => ?_) (fun _ => ?_)
    · exact fun hg => ret1 (hR _ (Option.some.inj hg).symm) (fz_sc _ _)
    · refine imp (opP_of (show _ = some ((AV.agg [(strA a1), (intA (0)), (intA a2), (strA (⟨#[]⟩ : ByteArray))]), []) from rfl)) ?_
      refine imp (opP_of (show _ = some ((AV.agg [(strA a4.Name), (intA a4.Wake), (intA a4.Ceiling), (intA a4.Climb), (intA a4.Descent), (intA a4.Slow), (intA a4.Fast)]), []) from (ldA_ptr (b := ⟨[(strA a4.Name), (intA a4.Wake), (intA a4.Ceiling), (intA a4.Climb), (intA a4.Descent), (intA a4.Slow), (intA a4.Fast)], 27⟩) (by first | rfl | (simp (disch := first | decide | assumption) only [mpushs_nil, mpushs_cons, mget_hd, mget_tl, mget_appW_o, mget_appW_n, mget_appW_e])) rfl))) ?_
      refine imp exA7_b ?_
      refine imp exStr_b ?_
      refine imp ex_i64_b ?_
      refine imp ex_i64_b ?_
      refine imp ex_i64_b ?_
      refine imp ex_i64_b ?_
      refine imp ex_i64_b ?_
      refine imp ex_i64_b ?_
      refine imp (opP_of (show _ = some ((AV.agg [(intA (0)), (intA (0))]), []) from rfl)) ?_
      refine bind_b fun x127 h127 => ?_
      refine imp (callQ_says (sg11 h127)) ?_
      refine imp exT2_b ?_
      refine imp ex_i64_b ?_
      refine cond_b (fun _ => ?_) (fun _ => ?_)
      · refine imp (opP_of (show _ = some ((intA (x127.1.length : Int)), []) from rfl)) ?_
        refine imp ex_i64_b ?_
        exact fun hg => ret1 (hR _ (Option.some.inj hg).symm) (fz_sc _ _)
      · refine bind_b fun x128 h128 => ?_
        refine imp (callQ_says (sg13 h128)) ?_
        refine imp exT2_b ?_
        refine imp exA6_b ?_
        refine imp ex_i64_b ?_
        refine imp ex_i64_b ?_
        refine imp ex_i64_b ?_
        refine imp ex_i64_b ?_
        refine imp ex_i64_b ?_
        refine imp ex_i64_b ?_
        refine imp ex_i64_b ?_
        refine cond_b (fun _ => ?_) (fun _ => ?_)
        · exact fun hg => ret1 (hR _ (Option.some.inj hg).symm) (fz_sc _ _)
        · refine imp (opP_of (show _ = some ((AV.agg [(strA a4.Name), (intA a4.Wake), (intA a4.Ceiling), (intA a4.Climb), (intA a4.Descent), (intA a4.Slow), (intA a4.Fast)]), []) from (ldA_ptr (b := ⟨[(strA a4.Name), (intA a4.Wake), (intA a4.Ceiling), (intA a4.Climb), (intA a4.Descent), (intA a4.Slow), (intA a4.Fast)], 27⟩) (by first | rfl | (simp (disch := first | decide | assumption) only [mpushs_nil, mpushs_cons, mget_hd, mget_tl, mget_appW_o, mget_appW_n, mget_appW_e])) rfl))) ?_
          refine imp exA7_b ?_
          refine imp exStr_b ?_
          refine imp ex_i64_b ?_
          refine imp ex_i64_b ?_
          refine imp ex_i64_b ?_
          refine imp ex_i64_b ?_
          refine imp ex_i64_b ?_
          refine imp ex_i64_b ?_
          refine bind_b fun x129 h129 => ?_
          refine imp (callQ_says (sg15 h129)) ?_
          refine imp exT2_b ?_
          refine imp ex_i64_b ?_
          refine imp ex_i64_b ?_
          refine cond_b (fun _ => ?_) (fun _ => ?_)
          · exact fun hg => ret1 (hR _ (Option.some.inj hg).symm) (fz_sc _ _)
          · refine imp (opP_of (show _ = some ((intA (x127.1.length : Int)), []) from rfl)) ?_
            refine imp ex_i64_b ?_
            refine cond_b (fun _ => ?_) (fun _ => ?_)
            · exact fun hg => ret1 (hR _ (Option.some.inj hg).symm) (fz_sc _ _)
            · exact fun hg => L4_0_ok n a2 a3 false x127.1 x129.1 x128.1.Node_Time x128.1.Node_At_X x128.1.Node_At_Y x128.1.Node_Height x128.1.Radius x128.1.Band a4.Name a4.Wake a4.Ceiling a4.Climb a4.Descent a4.Slow a4.Fast R  hR n _ hg (weak_mem [(281, 281), (0, 0)] rfl rfl rfl (okW_cons (.inl (leV_refl _)) (okW_cons (.inl (leV_refl _)) (okW_cons (.inl (leV_refl _)) (okW_cons (.inl (leV_refl _)) (okW_cons (ent_lst (E := TTubeNode.E) _ false) (okW_cons (.inl (leV_refl _)) (okW_cons (.inl (leV_refl _)) (okW_cons (.inl (leV_refl _)) okW_nil)))))))) (okB_cons (okB_cells (cs := [(intA x128.1.Node_Time), (intA x128.1.Node_At_X), (intA x128.1.Node_At_Y), (intA x128.1.Node_Height), (intA x128.1.Radius), (intA x128.1.Band)]) (ty := 40) rfl (show mget _ 281 = _ from (by first | rfl | (simp (disch := first | decide | assumption) only [mpushs_nil, mpushs_cons, mget_hd, mget_tl, mget_appW_o, mget_appW_n, mget_appW_e])))) (okB_cons (okB_cells (cs := [(strA a4.Name), (intA a4.Wake), (intA a4.Ceiling), (intA a4.Climb), (intA a4.Descent), (intA a4.Slow), (intA a4.Fast)]) (ty := 27) rfl (show mget _ 0 = _ from (by first | rfl | (simp (disch := first | decide | assumption) only [mpushs_nil, mpushs_cons, mget_hd, mget_tl, mget_appW_o, mget_appW_n, mget_appW_e])))) okB_nil')))
theorem sg4 {n : Nat} {a0 : List TTubeNode} {a1 : ByteArray} {a2 : Int} {a3 : Int} {a4 : TKind} {t : ρ4} (h : g4 n a0 a1 a2 a3 a4 = some t) : Says Tryd.prog KK.gl 4 [(lstA TTubeNode.E a0), (strA a1), (intA a2), (intA a3), (AV.agg [(strA a4.Name), (intA a4.Wake), (intA a4.Ceiling), (intA a4.Climb), (intA a4.Descent), (intA a4.Slow), (intA a4.Fast)])] ((boolA t)) :=
  says_of_own (by first | rfl | simp [cleans, clean, encs_clean, En.cln]) (by first | rfl | simp [cleans, clean, encs_clean, En.cln]) (F4_own (lstA TTubeNode.E a0) a1 a2 a3 a4.Name a4.Wake a4.Ceiling a4.Climb a4.Descent a4.Slow a4.Fast _ (g4_ok n a0 a1 a2 a3 a4 (Ans ((boolA t))) (fun r e u m h => by rw [e]; exact h) h))
end Go.Proofs.YtpjepkldnnfncaaDoor
