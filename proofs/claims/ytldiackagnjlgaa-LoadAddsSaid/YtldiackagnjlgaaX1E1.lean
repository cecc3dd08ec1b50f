/- Plain functional programs out of the program's functions, with proofs that the functions compute them; printed by wip/Ext.lean.txt. -/
import Derived.Test.YtldiackagnjlgaaX1G
import Derived.Test.YtldiackagnjlgaaX1F1
import Derived.Test.YtldiackagnjlgaaX1F2
import Derived.Test.YtldiackagnjlgaaX1S
set_option linter.unusedVariables false
set_option linter.unusedSimpArgs false
set_option maxRecDepth 100000
set_option maxHeartbeats 4000000
namespace Go.Proofs.Ytldiackagnjlgaa
theorem cloneC33 {n : Nat} {look : Nat → Option ABlk} {l : List TTubeNode} {u : Unit} (h : roomO l.length 48 = some u) : PureD Try.prog KK.gl look n 33 [lstA TTubeNode.E l] (ownV TTubeNode.E n l) [(n, ownB TTubeNode.E 39 l)] :=
  made_ownC (by simp [cleans, clean, encs_clean]) (F33_own _ _ (by
    unfold F33
    exact clone_ok (E := TTubeNode.E) rfl rfl h))
theorem cloneS33 {n : Nat} {look : Nat → Option ABlk} {args : List AV} {l : List TTubeNode} {u : Unit} (h : roomO l.length 48 = some u) (hs : SnL look 6 args [lstA TTubeNode.E l]) : PureD Try.prog KK.gl look n 33 args (ownV TTubeNode.E n l) [(n, ownB TTubeNode.E 39 l)] :=
  made_ownS (fun _ => rfl) hs (F33_own _ _ (by
    unfold F33
    exact clone_ok (E := TTubeNode.E) rfl rfl h))
theorem gro21 {S : Nat} (h1 : 0 < S) (hr : S * 24 ≤ 281474976710656) (hr2 : S ≤ 4611686018427387904) : F44 AV.nils (S : Int) (MadeSl 0 1 0 S false ⟨rep [AV.nils] S, 24⟩) := by
  unfold F44
  have h0 : decide ((S : Int) < 0) = false := decide_eq_false (by omega)
  rw [h0, cond_false]
  refine opP_of (v := intA 0) (by kernel_rfl) ?_
  refine ex_i64_b ?_
  refine opP_of (v := intA 0) rfl ?_
  refine ex_i64_b ?_
  have w1 : IntKind.wrap .i64 ((0 : Int) - 0) = 0 := by decide
  have w2 : IntKind.wrap .i64 ((S : Int) - IntKind.wrap .i64 ((0 : Int) - 0)) = (S : Int) := by rw [w1, wrap64 (by omega) (by omega)]; omega
  rw [w2]
  have h2 : decide ((S : Int) > 0) = true := decide_eq_true (by omega)
  rw [h2, cond_true]
  refine opP_of (v := intA 0) (by kernel_rfl) ?_
  refine ex_i64_b ?_
  refine opP_of (v := .nils) (by kernel_rfl) ?_
  refine opN_of (v := .sl 18 0 1 S S false) (d := [(18, some ⟨rep [AV.nils] S, 24⟩)]) ?_ ?_
  · exact opA_append.trans <| growA_ok (e := 24) (sz := 1) (by_ := 24) (zs := [AV.nils]) (k := .i64) (by kernel_rfl) (by kernel_rfl) (by kernel_rfl) (by kernel_rfl) (by kernel_rfl) rfl rfl h1 hr hr2
  refine opP_of (v := intA 0) rfl ?_
  refine ex_i64_b ?_
  refine opP_of (v := .sl 18 0 1 0 S false) ?_ ?_
  · exact (opA_slice3 (e := 24) (sz := 1) (yt := 0) (y := .und) (z := .und) (by kernel_rfl) (by kernel_rfl)).2.1.trans (slcS_z h1)
  exact ⟨18, rfl, rfl⟩
theorem gro21z : F44 AV.nils 0 (fun u m => freeze (mget m) 6 u = some .nils) := by
  unfold F44
  have h0 : decide ((0 : Int) < 0) = false := by decide
  rw [h0, cond_false]
  refine opP_of (v := intA 0) (by kernel_rfl) ?_
  refine ex_i64_b ?_
  refine opP_of (v := intA 0) rfl ?_
  refine ex_i64_b ?_
  have h2 : decide (IntKind.wrap .i64 ((0 : Int) - IntKind.wrap .i64 ((0 : Int) - 0)) > 0) = false := by decide
  rw [h2, cond_false]
  exact (rfl : freeze (mget []) 6 AV.nils = some AV.nils)
theorem catF21 {L : List (List (List TTubeNode))} {y : List (List TTubeNode)} (h : catO 24 L = some y) : F21 (lstA (lstE (lstE TTubeNode.E)) L) (MadeO (lstE TTubeNode.E) 24 y) := by
  obtain ⟨rfl, hL, hr, hr2⟩ := catO_some h
  have hz : ([AV.nils] : List AV).length = (lstE TTubeNode.E).size := rfl
  unfold F21
  refine opP_of (v := intA L.length) rfl ?_
  refine ex_i64_b ?_
  have hcl : clean (lstA (lstE (lstE TTubeNode.E)) L) = true := lstA_clean _ _
  refine L21_0 _ (σ := Nat) (fun k => k ≤ L.length) (fun _ => lstA (lstE (lstE TTubeNode.E)) L) (fun _ => AV.nils) (fun k => ((L.take k).flatten.length : Int)) (fun _ => lstA (lstE (lstE TTubeNode.E)) L) (fun _ => (L.length : Int)) (fun k => (k : Int)) (fun _ => []) (fun k => L.length - k) ?_ 0 (Nat.zero_le _)
    (weak_of rfl (okE_cons rfl hcl (okE_cons rfl rfl (okE_cons rfl rfl (okE_cons rfl hcl (okE_cons rfl rfl (okE_cons rfl rfl trivial)))))))
  intro k hk
  show B21_0 (lstA (lstE (lstE TTubeNode.E)) L) AV.nils ((L.take k).flatten.length : Int) (lstA (lstE (lstE TTubeNode.E)) L) (L.length : Int) (k : Int) [] _ _
  have hfk := flat_le (L := L) k
  unfold B21_0
  refine cond_of (fun hc => ?_) (fun hc => ?_)
  · have hlt : k < L.length := by have := of_decide_eq_true hc; omega
    have hfk1 := flat_le (L := L) (k + 1)
    have hsn := flat_snoc hlt
    have hln : (L.take (k + 1)).flatten.length = (L.take k).flatten.length + (L[k]).length := by rw [hsn, List.length_append]
    refine opP_of (idxS_lst (E := lstE (lstE TTubeNode.E)) rfl L false k hlt) ?_
    refine opP_of (ldS_ept (x := lstA (lstE TTubeNode.E) L[k]) rfl) ?_
    refine opP_of (v := intA (L[k]).length) rfl ?_
    refine ex_i64_b ?_
    have w1 : IntKind.wrap .i64 (((L.take k).flatten.length : Int) + ((L[k]).length : Int)) = ((L.take (k + 1)).flatten.length : Int) := by rw [wrap64 (by omega) (by omega)]; omega
    have w2 : IntKind.wrap .i64 ((k : Int) + 1) = ((k + 1 : Nat) : Int) := by rw [wrap64 (by omega) (by omega)]; omega
    rw [w1, w2]
    refine cond_of (fun hc => by have := of_decide_eq_true hc; omega) (fun _ => ?_)
    exact ⟨k + 1, hlt, by omega, weak_of rfl (okE_cons rfl hcl (okE_cons rfl rfl (okE_cons rfl rfl (okE_cons rfl hcl (okE_cons rfl rfl (okE_cons rfl rfl trivial))))))⟩
  · have hkk : k = L.length := by have := of_decide_eq_false hc; omega
    subst hkk
    rw [List.take_length]
    generalize hS : L.flatten.length = S at *
    have hlenS : lenS (lstA (lstE (lstE TTubeNode.E)) L) = some (intA L.length, []) := rfl
    by_cases h0 : S = 0
    · subst h0
      have hFl : L.flatten = [] := List.eq_nil_of_length_eq_zero hS
      have hel : ∀ (k : Nat) (h : k < L.length), L[k] = [] := fun k h => by
        have := List.flatten_eq_nil_iff.1 hFl L[k] (List.getElem_mem h); exact this
      refine callW_says (v := .nils) (says_of_same rfl rfl (F44_own _ _ _ gro21z)) ?_
      refine opP_of hlenS ?_
      refine ex_i64_b ?_
      refine L21_1 _ (σ := Nat) (fun k => k ≤ L.length) (fun _ => AV.nils) (fun _ => AV.nils) (fun _ => lstA (lstE (lstE TTubeNode.E)) L) (fun _ => (L.length : Int)) (fun k => (k : Int)) (fun _ => []) (fun k => L.length - k) ?_ 0 (Nat.zero_le _)
        (weak_of rfl (okE_cons rfl rfl (okE_cons rfl rfl (okE_cons rfl hcl (okE_cons rfl rfl (okE_cons rfl rfl trivial))))))
      intro k hk
      show B21_1 AV.nils AV.nils (lstA (lstE (lstE TTubeNode.E)) L) (L.length : Int) (k : Int) [] _ _
      unfold B21_1
      refine cond_of (fun hc => ?_) (fun hc => ?_)
      · have hlt : k < L.length := by have := of_decide_eq_true hc; omega
        refine opP_of (idxS_lst (E := lstE (lstE TTubeNode.E)) rfl L false k hlt) ?_
        refine opP_of (ldS_ept (x := lstA (lstE TTubeNode.E) L[k]) rfl) ?_
        rw [hel k hlt]
        refine opN_of (app_zeroN (E := (lstE TTubeNode.E))) ?_
        have w2 : IntKind.wrap .i64 ((k : Int) + 1) = ((k + 1 : Nat) : Int) := by rw [wrap64 (by omega) (by omega)]; omega
        rw [w2]
        exact ⟨k + 1, hlt, by omega, weak_of rfl (okE_cons rfl rfl (okE_cons rfl rfl (okE_cons rfl hcl (okE_cons rfl rfl (okE_cons rfl rfl trivial)))))⟩
      · rw [hFl]; exact made_nils_pf
    · refine callW_D (made_of_own (n := 100002) (b := ⟨rep [AV.nils] S, 24⟩) rfl (rep_clean rfl S) (F44_own _ _ _ (gro21 (by omega) hr hr2))) ?_
      refine opP_of hlenS ?_
      refine ex_i64_b ?_
      have hbc : ∀ k, cleans (encs (lstE TTubeNode.E) (L.take k).flatten ++ rep [AV.nils] (S - (L.take k).flatten.length)) = true := fun k => by rw [cleans_append, encs_clean, rep_clean rfl]; rfl
      refine L21_1 _ (σ := Nat) (fun k => k ≤ L.length) (fun _ => AV.nils) (fun k => .sl 90000 0 (lstE TTubeNode.E).size (L.take k).flatten.length S false) (fun _ => lstA (lstE (lstE TTubeNode.E)) L) (fun _ => (L.length : Int)) (fun k => (k : Int)) (fun k => [(90000, some ⟨encs (lstE TTubeNode.E) (L.take k).flatten ++ rep [AV.nils] (S - (L.take k).flatten.length), 24⟩)]) (fun k => L.length - k) ?_ 0 (Nat.zero_le _)
        (weak_mem [(90000, 100002)] rfl rfl rfl (okW_cons (.inl (leV_refl _)) (okW_cons (.inl (leV_refl _)) (okW_cons (ent_lst _ _) (okW_cons (.inl (leV_refl _)) (okW_cons (.inl (leV_refl _)) okW_nil))))) (okB_cons (okB_cells (hbc 0) rfl) okB_nil'))
      intro k hk
      show B21_1 AV.nils (.sl 90000 0 (lstE TTubeNode.E).size (L.take k).flatten.length S false) (lstA (lstE (lstE TTubeNode.E)) L) (L.length : Int) (k : Int) [(90000, some ⟨encs (lstE TTubeNode.E) (L.take k).flatten ++ rep [AV.nils] (S - (L.take k).flatten.length), 24⟩)] _ _
      unfold B21_1
      refine cond_of (fun hc => ?_) (fun hc => ?_)
      · have hlt : k < L.length := by have := of_decide_eq_true hc; omega
        have hfk1 := flat_le (L := L) (k + 1)
        have hsn := flat_snoc hlt
        have hln : (L.take (k + 1)).flatten.length = (L.take k).flatten.length + (L[k]).length := by rw [hsn, List.length_append]
        refine opP_of (idxS_lst (E := lstE (lstE TTubeNode.E)) rfl L false k hlt) ?_
        refine opP_of (ldS_ept (x := lstA (lstE TTubeNode.E) L[k]) rfl) ?_
        have w2 : IntKind.wrap .i64 ((k : Int) + 1) = ((k + 1 : Nat) : Int) := by rw [wrap64 (by omega) (by omega)]; omega
        rw [w2]
        obtain ⟨d, hd1, hd2⟩ := app_cap (E := (lstE TTubeNode.E)) (look := mget [(90000, some ⟨encs (lstE TTubeNode.E) (L.take k).flatten ++ rep [AV.nils] (S - (L.take k).flatten.length), 24⟩)]) (e := 24) (by_ := 24) (n := 200006) (id := 90000) (ty := 24) (S := S) (xs := L[k]) hz rfl (by omega) hr hr2
        refine opN_of hd1 ?_
        have hb : mget (mpushs [(90000, some ⟨encs (lstE TTubeNode.E) (L.take k).flatten ++ rep [AV.nils] (S - (L.take k).flatten.length), 24⟩)] d) 90000 = some ⟨encs (lstE TTubeNode.E) (L.take (k + 1)).flatten ++ rep [AV.nils] (S - (L.take (k + 1)).flatten.length), 24⟩ := by
          rcases hd2 with rfl | ⟨rfl, he⟩
          · rw [hsn, List.length_append]; rfl
          · rw [hsn, he, List.append_nil]; rfl
        exact ⟨k + 1, hlt, by omega, weak_mem [(90000, 90000)] rfl rfl rfl (okW_cons (.inl (leV_refl _)) (okW_cons (.inl (by rw [hln]; exact leV_refl _)) (okW_cons (ent_lst _ _) (okW_cons (.inl (leV_refl _)) (okW_cons (.inl (leV_refl _)) okW_nil))))) (okB_cons (okB_cells (hbc (k + 1)) hb) okB_nil')⟩
      · have hkk : k = L.length := by have := of_decide_eq_false hc; omega
        subst hkk
        rw [List.take_length, hS, Nat.sub_self]
        refine .inr ⟨by rintro e; rw [e] at hS; exact h0 hS.symm, 90000, S, false, by rw [hS], ?_⟩
        simp [mget, rep]
theorem catC21 {n : Nat} {look : Nat → Option ABlk} {L : List (List (List TTubeNode))} {y : List (List TTubeNode)} (h : catO 24 L = some y) : PureD Try.prog KK.gl look n 21 [lstA (lstE (lstE TTubeNode.E)) L] (ownV (lstE TTubeNode.E) n y) [(n, ownB (lstE TTubeNode.E) 24 y)] := made_ownC (by simp [cleans, clean, encs_clean]) (F21_own _ _ (catF21 h))
/- skyway/plane.Check -/
theorem g31_ok (n : Nat) (a0 : TP) {t : ρ31} (R : AV → Mem → Prop) (hR : ∀ r : ρ31, t = r → ∀ u m, Ans ((intA r)) u m → R u m) : g31 n a0 = some t → F31 a0.X a0.Y R := by
  unfold g31 F31
  refine cond_b (fun _ => ?_) (fun _ => ?_)
  · exact fun hg => ret1 (hR _ (Option.some.inj hg).symm) (fz_sc _ _)
  · refine cond_b (fun _ => ?_) (fun _ => ?_)
    · exact fun hg => ret1 (hR _ (Option.some.inj hg).symm) (fz_sc _ _)
    · refine cond_b (fun _ => ?_) (fun _ => ?_)
      · exact fun hg => ret1 (hR _ (Option.some.inj hg).symm) (fz_sc _ _)
      · refine cond_b (fun _ => ?_) (fun _ => ?_)
        · exact fun hg => ret1 (hR _ (Option.some.inj hg).symm) (fz_sc _ _)
        · exact fun hg => ret1 (hR _ (Option.some.inj hg).symm) (fz_sc _ _)
theorem sg31 {n : Nat} {a0 : TP} {t : ρ31} (h : g31 n a0 = some t) : Says Try.prog KK.gl 31 [(AV.agg [(intA a0.X), (intA a0.Y)])] ((intA t)) :=
  says_of_own (by first | rfl | simp [cleans, clean, encs_clean, En.cln]) (by first | rfl | simp [cleans, clean, encs_clean, En.cln]) (F31_own a0.X a0.Y _ (g31_ok n a0 (Ans ((intA t))) (fun r e u m h => by rw [e]; exact h) h))
/- skyway/tube.Check -/
theorem B28_0_ok (n : Nat) (a0 : List TTubeNode) (c2 : Int) (c15 : Int) (v16 : Int) {t : (Int) ⊕ ρ28} (R : AV → Mem → Prop) (N0 : St → Prop) (hR : ∀ r : ρ28, t = (.inr r) → ∀ u m, Ans ((intA r)) u m → R u m) (hN0 : ∀ y : Int, t = (.inl y) → ∀ s' : St, Weak KK 86 0 s' (h28_0 (lstA TTubeNode.E a0) c2 (lstA TTubeNode.E a0) c15 y []) → N0 s') : S28_0 n a0 c2 c15 v16 = some t → B28_0 (lstA TTubeNode.E a0) c2 (lstA TTubeNode.E a0) c15 v16 [] R N0 := by
  unfold S28_0 B28_0
  refine cond_b (fun _ => ?_) (fun _ => ?_)
  · refine bind_b fun x0 h0 => ?_
    refine imp (opP_of (show _ = some ((AV.ept [(intA x0.Node_Time), (intA x0.Node_At_X), (intA x0.Node_At_Y), (intA x0.Node_Height), (intA x0.Radius), (intA x0.Band)] 0), []) from (idx_lst (E := TTubeNode.E) rfl h0))) ?_
    refine imp (opP_of (show _ = some ((AV.agg [(intA x0.Node_Time), (intA x0.Node_At_X), (intA x0.Node_At_Y), (intA x0.Node_Height), (intA x0.Radius), (intA x0.Band)]), []) from rfl)) ?_
    refine imp exA6_b ?_
    refine imp ex_i64_b ?_
    refine imp ex_i64_b ?_
    refine imp ex_i64_b ?_
    refine imp ex_i64_b ?_
    refine imp ex_i64_b ?_
    refine imp ex_i64_b ?_
    refine cond_b (fun _ => ?_) (fun _ => ?_)
    · exact fun hg => ret1 (hR _ (Option.some.inj hg).symm) (fz_sc _ _)
    · refine cond_b (fun _ => ?_) (fun _ => ?_)
      · exact fun hg => ret1 (hR _ (Option.some.inj hg).symm) (fz_sc _ _)
      · refine cond_b (fun _ => ?_) (fun _ => ?_)
        · refine bind_b fun x1 h1 => ?_
          refine imp (opP_of (show _ = some ((AV.ept [(intA x1.Node_Time), (intA x1.Node_At_X), (intA x1.Node_At_Y), (intA x1.Node_Height), (intA x1.Radius), (intA x1.Band)] 0), []) from (idx_lst (E := TTubeNode.E) rfl h1))) ?_
          refine imp (opP_of (show _ = some ((AV.ept [(intA x1.Node_Time), (intA x1.Node_At_X), (intA x1.Node_At_Y), (intA x1.Node_Height), (intA x1.Radius), (intA x1.Band)] 0), []) from rfl)) ?_
          refine imp (opP_of (show _ = some ((AV.ept [(intA x1.Node_Time), (intA x1.Node_At_X), (intA x1.Node_At_Y), (intA x1.Node_Height), (intA x1.Radius), (intA x1.Band)] 0), []) from rfl)) ?_
          refine imp (opP_of (show _ = some ((intA x1.Node_Time), []) from rfl)) ?_
          refine imp ex_i64_b ?_
          refine cond_b (fun _ => ?_) (fun _ => ?_)
          · exact fun hg => ret1 (hR _ (Option.some.inj hg).symm) (fz_sc _ _)
          · refine bind_b fun x2 h2 => ?_
            refine imp (callQ_says (sg31 h2)) ?_
            refine imp ex_i64_b ?_
            refine cond_b (fun _ => ?_) (fun _ => ?_)
            · exact fun hg => ret1 (hR _ (Option.some.inj hg).symm) (fz_sc _ _)
            · refine cond_b (fun _ => ?_) (fun _ => ?_)
              · exact fun hg => ret1 (hR _ (Option.some.inj hg).symm) (fz_sc _ _)
              · refine cond_b (fun _ => ?_) (fun _ => ?_)
                · exact fun hg => ret1 (hR _ (Option.some.inj hg).symm) (fz_sc _ _)
                · refine cond_b (fun _ => ?_) (fun _ => ?_)
                  · exact fun hg => ret1 (hR _ (Option.some.inj hg).symm) (fz_sc _ _)
                  · refine cond_b (fun _ => ?_) (fun _ => ?_)
                    · exact fun hg => ret1 (hR _ (Option.some.inj hg).symm) (fz_sc _ _)
                    · refine cond_b (fun _ => ?_) (fun _ => ?_)
                      · exact fun hg => ret1 (hR _ (Option.some.inj hg).symm) (fz_sc _ _)
                      · refine cond_b (fun _ => ?_) (fun _ => ?_)
                        · exact fun hg => ret1 (hR _ (Option.some.inj hg).symm) (fz_sc _ _)
                        · exact fun hg => hN0 _ (Option.some.inj hg).symm _ (weak_mem [] rfl rfl rfl (okW_cons (ent_lst (E := TTubeNode.E) _ false) (okW_cons (.inl (leV_refl _)) (okW_cons (ent_lst (E := TTubeNode.E) _ false) (okW_cons (.inl (leV_refl _)) (okW_cons (.inl (leV_refl _)) okW_nil))))) okB_nil')
        · refine bind_b fun x3 h3 => ?_
          refine imp (callQ_says (sg31 h3)) ?_
          refine imp ex_i64_b ?_
          refine cond_b (fun _ => ?_) (fun _ => ?_)
          · exact fun hg => ret1 (hR _ (Option.some.inj hg).symm) (fz_sc _ _)
          · refine cond_b (fun _ => ?_) (fun _ => ?_)
            · exact fun hg => ret1 (hR _ (Option.some.inj hg).symm) (fz_sc _ _)
            · refine cond_b (fun _ => ?_) (fun _ => ?_)
              · exact fun hg => ret1 (hR _ (Option.some.inj hg).symm) (fz_sc _ _)
              · refine cond_b (fun _ => ?_) (fun _ => ?_)
                · exact fun hg => ret1 (hR _ (Option.some.inj hg).symm) (fz_sc _ _)
                · refine cond_b (fun _ => ?_) (fun _ => ?_)
                  · exact fun hg => ret1 (hR _ (Option.some.inj hg).symm) (fz_sc _ _)
                  · refine cond_b (fun _ => ?_) (fun _ => ?_)
                    · exact fun hg => ret1 (hR _ (Option.some.inj hg).symm) (fz_sc _ _)
                    · refine cond_b (fun _ => ?_) (fun _ => ?_)
                      · exact fun hg => ret1 (hR _ (Option.some.inj hg).symm) (fz_sc _ _)
                      · exact fun hg => hN0 _ (Option.some.inj hg).symm _ (weak_mem [] rfl rfl rfl (okW_cons (ent_lst (E := TTubeNode.E) _ false) (okW_cons (.inl (leV_refl _)) (okW_cons (ent_lst (E := TTubeNode.E) _ false) (okW_cons (.inl (leV_refl _)) (okW_cons (.inl (leV_refl _)) okW_nil))))) okB_nil')
  · exact fun hg => ret1 (hR _ (Option.some.inj hg).symm) (fz_sc _ _)
theorem L28_0_ok (n : Nat) (a0 : List TTubeNode) (c2 : Int) (c15 : Int) {t : ρ28} (R : AV → Mem → Prop) (hR : ∀ r : ρ28, t = r → ∀ u m, Ans ((intA r)) u m → R u m) (k : Nat) (x : Int) (hx : iterO (fun y : Int => S28_0 n a0 c2 c15 y) k x = some t) {s : St} (hw : Weak KK 86 0 s (h28_0 (lstA TTubeNode.E a0) c2 (lstA TTubeNode.E a0) c15 x [])) : Tri Try.prog KK 86 0 (.loop c28_0) s (q28_0 R ) :=
  L28_0 R  (σ := Nat × (Int)) (fun z => iterO (fun y : Int => S28_0 n a0 c2 c15 y) z.1 z.2 = some t) (fun z => (lstA TTubeNode.E a0)) (fun z => c2) (fun z => (lstA TTubeNode.E a0)) (fun z => c15) (fun z => z.2) (fun z => []) (fun z => z.1) (by
    rintro ⟨k, y⟩ h
    cases k with
    | zero => exact (iterO_zero h).elim
    | succ k =>
      obtain ⟨u, h1, h2, h3⟩ := iterO_elim h
      exact B28_0_ok n a0 c2 c15 y R  _ (fun r e => hR r (h3 _ e).symm)  (fun y' e s' hw => ⟨(k, y'), h2 _ e, Nat.lt_succ_self k, hw⟩) h1) (k, x) hx hw
theorem g28_ok (n : Nat) (a0 : List TTubeNode) {t : ρ28} (R : AV → Mem → Prop) (hR : ∀ r : ρ28, t = r → ∀ u m, Ans ((intA r)) u m → R u m) : g28 n a0 = some t → F28 (lstA TTubeNode.E a0) R := by
  unfold g28 F28
  refine imp (opP_of (show _ = some ((intA (a0.length : Int)), []) from rfl)) ?_
  refine imp ex_i64_b ?_
  refine cond_b (fun _ => ?_) (fun _ => ?_)
  · exact fun hg => ret1 (hR _ (Option.some.inj hg).symm) (fz_sc _ _)
  · refine imp (opP_of (show _ = some ((intA (a0.length : Int)), []) from rfl)) ?_
    refine imp ex_i64_b ?_
    refine cond_b (fun _ => ?_) (fun _ => ?_)
    · exact fun hg => ret1 (hR _ (Option.some.inj hg).symm) (fz_sc _ _)
    · refine imp (opP_of (show _ = some ((intA (a0.length : Int)), []) from rfl)) ?_
      refine imp ex_i64_b ?_
      exact fun hg => L28_0_ok n a0 (0) (a0.length : Int) R  hR n _ hg (weak_mem [] rfl rfl rfl (okW_cons (ent_lst (E := TTubeNode.E) _ false) (okW_cons (.inl (leV_refl _)) (okW_cons (ent_lst (E := TTubeNode.E) _ false) (okW_cons (.inl (leV_refl _)) (okW_cons (.inl (leV_refl _)) okW_nil))))) okB_nil')
theorem sg28 {n : Nat} {a0 : List TTubeNode} {t : ρ28} (h : g28 n a0 = some t) : Says Try.prog KK.gl 28 [(lstA TTubeNode.E a0)] ((intA t)) :=
  says_of_own (by first | rfl | simp [cleans, clean, encs_clean, En.cln]) (by first | rfl | simp [cleans, clean, encs_clean, En.cln]) (F28_own (lstA TTubeNode.E a0) _ (g28_ok n a0 (Ans ((intA t))) (fun r e u m h => by rw [e]; exact h) h))
/- skyway/tube.ends -/
theorem g42_ok (n : Nat) (a0 : List TTubeNode) {t : ρ42} (R : AV → Mem → Prop) (hR : ∀ r : ρ42, t = r → ∀ u m, Ans ((AV.tup [(intA r.1), (intA r.2)])) u m → R u m) : g42 n a0 = some t → F42 (lstA TTubeNode.E a0) R := by
  unfold g42 F42
  refine bind_b fun x4 h4 => ?_
  refine imp (opP_of (show _ = some ((AV.ept [(intA x4.Node_Time), (intA x4.Node_At_X), (intA x4.Node_At_Y), (intA x4.Node_Height), (intA x4.Radius), (intA x4.Band)] 0), []) from (idx_lst (E := TTubeNode.E) rfl h4))) ?_
  refine imp (opP_of (show _ = some ((AV.ept [(intA x4.Node_Time), (intA x4.Node_At_X), (intA x4.Node_At_Y), (intA x4.Node_Height), (intA x4.Radius), (intA x4.Band)] 0), []) from rfl)) ?_
  refine imp (opP_of (show _ = some ((AV.ept [(intA x4.Node_Time), (intA x4.Node_At_X), (intA x4.Node_At_Y), (intA x4.Node_Height), (intA x4.Radius), (intA x4.Band)] 0), []) from rfl)) ?_
  refine imp (opP_of (show _ = some ((intA x4.Node_Time), []) from rfl)) ?_
  refine imp ex_i64_b ?_
  refine imp (opP_of (show _ = some ((intA (a0.length : Int)), []) from rfl)) ?_
  refine imp ex_i64_b ?_
  refine bind_b fun x5 h5 => ?_
  refine imp (opP_of (show _ = some ((AV.ept [(intA x5.Node_Time), (intA x5.Node_At_X), (intA x5.Node_At_Y), (intA x5.Node_Height), (intA x5.Radius), (intA x5.Band)] 0), []) from (idx_lst (E := TTubeNode.E) rfl h5))) ?_
  refine imp (opP_of (show _ = some ((AV.ept [(intA x5.Node_Time), (intA x5.Node_At_X), (intA x5.Node_At_Y), (intA x5.Node_Height), (intA x5.Radius), (intA x5.Band)] 0), []) from rfl)) ?_
  refine imp (opP_of (show _ = some ((AV.ept [(intA x5.Node_Time), (intA x5.Node_At_X), (intA x5.Node_At_Y), (intA x5.Node_Height), (intA x5.Radius), (intA x5.Band)] 0), []) from rfl)) ?_
  refine imp (opP_of (show _ = some ((intA x5.Node_Time), []) from rfl)) ?_
  refine imp ex_i64_b ?_
  exact fun hg => retN rfl (hR _ (Option.some.inj hg).symm) (fzL_cons (fz_sc _ _) (fzL_cons (fz_sc _ _) fzL_nil))
theorem sg42 {n : Nat} {a0 : List TTubeNode} {t : ρ42} (h : g42 n a0 = some t) : Says Try.prog KK.gl 42 [(lstA TTubeNode.E a0)] ((AV.tup [(intA t.1), (intA t.2)])) :=
  says_of_own (by first | rfl | simp [cleans, clean, encs_clean, En.cln]) (by first | rfl | simp [cleans, clean, encs_clean, En.cln]) (F42_own (lstA TTubeNode.E a0) _ (g42_ok n a0 (Ans ((AV.tup [(intA t.1), (intA t.2)]))) (fun r e u m h => by rw [e]; exact h) h))
/- skyway/tube.at$1 -/
theorem g65_ok (n : Nat) (a0 : TTubeNode) (a1 : Int) {t : ρ65} (R : AV → Mem → Prop) (hR : ∀ r : ρ65, t = r → ∀ u m, Ans ((intA r)) u m → R u m) : g65 n a0 a1 = some t → F65 a0.Node_Time a0.Node_At_X a0.Node_At_Y a0.Node_Height a0.Radius a0.Band a1 R := by
  unfold g65 F65
  exact fun hg => ret1 (hR _ (Option.some.inj hg).symm) (fz_sc _ _)
theorem sg65 {n : Nat} {a0 : TTubeNode} {a1 : Int} {t : ρ65} (h : g65 n a0 a1 = some t) : Says Try.prog KK.gl 65 [(AV.agg [(intA a0.Node_Time), (intA a0.Node_At_X), (intA a0.Node_At_Y), (intA a0.Node_Height), (intA a0.Radius), (intA a0.Band)]), (intA a1)] ((intA t)) :=
  says_of_own (by first | rfl | simp [cleans, clean, encs_clean, En.cln]) (by first | rfl | simp [cleans, clean, encs_clean, En.cln]) (F65_own a0.Node_Time a0.Node_At_X a0.Node_At_Y a0.Node_Height a0.Radius a0.Band a1 _ (g65_ok n a0 a1 (Ans ((intA t))) (fun r e u m h => by rw [e]; exact h) h))
/- slices.BinarySearchFunc[skyway/api.Tube,skyway/api.TubeNode,int] -/
theorem B64_0_ok (n : Nat) (a0 : List TTubeNode) (a1 : Int) (c6 : Int) (c7 : Bool) (c8 : Int) (v9 : Int) (v10 : Int) {t : (Int × Int) ⊕ ρ64} (R : AV → Mem → Prop) (N0 : St → Prop) (hR : ∀ r : ρ64, t = (.inr r) → ∀ u m, Ans ((AV.tup [(intA r.1), (boolA r.2)])) u m → R u m) (hN0 : ∀ y : Int × Int, t = (.inl y) → ∀ s' : St, Weak KK 49 0 s' (h64_0 (lstA TTubeNode.E a0) a1 (AV.fn 65 []) c6 c7 c8 y.1 y.2 []) → N0 s') : S64_0 n a0 a1 c6 c7 c8 v9 v10 = some t → B64_0 (lstA TTubeNode.E a0) a1 (AV.fn 65 []) c6 c7 c8 v9 v10 [] R N0 := by
  unfold S64_0 B64_0
  refine cond_b (fun _ => ?_) (fun _ => ?_)
  · refine imp (opP_of (show _ = some ((AV.sc (.int .u64 (IntKind.wrap .u64 (IntKind.wrap .i64 (v9 + v10))))), []) from (by kernel_rfl))) ?_
    refine imp ex_u64_b ?_
    refine imp (opP_of (show _ = some ((AV.sc (.int .u64 (Int.fdiv (IntKind.wrap .u64 (IntKind.wrap .i64 (v9 + v10))) 2))), []) from opA_shr1)) ?_
    refine imp ex_u64_b ?_
    refine imp (opP_of (show _ = some ((intA (IntKind.wrap .i64 (Int.fdiv (IntKind.wrap .u64 (IntKind.wrap .i64 (v9 + v10))) 2))), []) from (by kernel_rfl))) ?_
    refine imp ex_i64_b ?_
    refine bind_b fun x8 h8 => ?_
    refine imp (opP_of (show _ = some ((AV.ept [(intA x8.Node_Time), (intA x8.Node_At_X), (intA x8.Node_At_Y), (intA x8.Node_Height), (intA x8.Radius), (intA x8.Band)] 0), []) from (idx_lst (E := TTubeNode.E) rfl h8))) ?_
    refine imp (opP_of (show _ = some ((AV.agg [(intA x8.Node_Time), (intA x8.Node_At_X), (intA x8.Node_At_Y), (intA x8.Node_Height), (intA x8.Radius), (intA x8.Band)]), []) from rfl)) ?_
    refine imp exA6_b ?_
    refine imp ex_i64_b ?_
    refine imp ex_i64_b ?_
    refine imp ex_i64_b ?_
    refine imp ex_i64_b ?_
    refine imp ex_i64_b ?_
    refine imp ex_i64_b ?_
    refine bind_b fun x9 h9 => ?_
    refine imp fnArgs_b ?_
    refine imp (cond_tt rfl) ?_
    refine imp (callQ_says (sg65 h9)) ?_
    refine imp ex_i64_b ?_
    refine cond_b (fun _ => ?_) (fun _ => ?_)
    · exact fun hg => hN0 _ (Option.some.inj hg).symm _ (weak_mem [] rfl rfl rfl (okW_cons (ent_lst (E := TTubeNode.E) _ false) (okW_cons (.inl (leV_refl _)) (okW_cons (.inl (leV_refl _)) (okW_cons (.inl (leV_refl _)) (okW_cons (.inl (leV_refl _)) (okW_cons (.inl (leV_refl _)) (okW_cons (.inl (leV_refl _)) (okW_cons (.inl (leV_refl _)) okW_nil)))))))) okB_nil')
    · exact fun hg => hN0 _ (Option.some.inj hg).symm _ (weak_mem [] rfl rfl rfl (okW_cons (ent_lst (E := TTubeNode.E) _ false) (okW_cons (.inl (leV_refl _)) (okW_cons (.inl (leV_refl _)) (okW_cons (.inl (leV_refl _)) (okW_cons (.inl (leV_refl _)) (okW_cons (.inl (leV_refl _)) (okW_cons (.inl (leV_refl _)) (okW_cons (.inl (leV_refl _)) okW_nil)))))))) okB_nil')
  · refine cond_b (fun _ => ?_) (fun _ => ?_)
    · refine bind_b fun x10 h10 => ?_
      refine imp (opP_of (show _ = some ((AV.ept [(intA x10.Node_Time), (intA x10.Node_At_X), (intA x10.Node_At_Y), (intA x10.Node_Height), (intA x10.Radius), (intA x10.Band)] 0), []) from (idx_lst (E := TTubeNode.E) rfl h10))) ?_
      refine imp (opP_of (show _ = some ((AV.agg [(intA x10.Node_Time), (intA x10.Node_At_X), (intA x10.Node_At_Y), (intA x10.Node_Height), (intA x10.Radius), (intA x10.Band)]), []) from rfl)) ?_
      refine imp exA6_b ?_
      refine imp ex_i64_b ?_
      refine imp ex_i64_b ?_
      refine imp ex_i64_b ?_
      refine imp ex_i64_b ?_
      refine imp ex_i64_b ?_
      refine imp ex_i64_b ?_
      refine bind_b fun x11 h11 => ?_
      refine imp fnArgs_b ?_
      refine imp (cond_tt rfl) ?_
      refine imp (callQ_says (sg65 h11)) ?_
      refine imp ex_i64_b ?_
      exact fun hg => retN rfl (hR _ (Option.some.inj hg).symm) (fzL_cons (fz_sc _ _) (fzL_cons (fz_sc _ _) fzL_nil))
    · exact fun hg => retN rfl (hR _ (Option.some.inj hg).symm) (fzL_cons (fz_sc _ _) (fzL_cons (fz_sc _ _) fzL_nil))
theorem L64_0_ok (n : Nat) (a0 : List TTubeNode) (a1 : Int) (c6 : Int) (c7 : Bool) (c8 : Int) {t : ρ64} (R : AV → Mem → Prop) (hR : ∀ r : ρ64, t = r → ∀ u m, Ans ((AV.tup [(intA r.1), (boolA r.2)])) u m → R u m) (k : Nat) (x : Int × Int) (hx : iterO (fun y : Int × Int => S64_0 n a0 a1 c6 c7 c8 y.1 y.2) k x = some t) {s : St} (hw : Weak KK 49 0 s (h64_0 (lstA TTubeNode.E a0) a1 (AV.fn 65 []) c6 c7 c8 x.1 x.2 [])) : Tri Try.prog KK 49 0 (.loop c64_0) s (q64_0 R ) :=
  L64_0 R  (σ := Nat × (Int × Int)) (fun z => iterO (fun y : Int × Int => S64_0 n a0 a1 c6 c7 c8 y.1 y.2) z.1 z.2 = some t) (fun z => (lstA TTubeNode.E a0)) (fun z => a1) (fun z => (AV.fn 65 [])) (fun z => c6) (fun z => c7) (fun z => c8) (fun z => z.2.1) (fun z => z.2.2) (fun z => []) (fun z => z.1) (by
    rintro ⟨k, y⟩ h
    cases k with
    | zero => exact (iterO_zero h).elim
    | succ k =>
      obtain ⟨u, h1, h2, h3⟩ := iterO_elim h
      exact B64_0_ok n a0 a1 c6 c7 c8 y.1 y.2 R  _ (fun r e => hR r (h3 _ e).symm)  (fun y' e s' hw => ⟨(k, y'), h2 _ e, Nat.lt_succ_self k, hw⟩) h1) (k, x) hx hw
theorem g64_ok (n : Nat) (a0 : List TTubeNode) (a1 : Int) {t : ρ64} (R : AV → Mem → Prop) (hR : ∀ r : ρ64, t = r → ∀ u m, Ans ((AV.tup [(intA r.1), (boolA r.2)])) u m → R u m) : g64 n a0 a1 = some t → F64 (lstA TTubeNode.E a0) a1 (AV.fn 65 []) R := by
  unfold g64 F64
  refine imp (opP_of (show _ = some ((intA (a0.length : Int)), []) from rfl)) ?_
  refine imp ex_i64_b ?_
  exact fun hg => L64_0_ok n a0 a1 (0) false (a0.length : Int) R  hR n _ hg (weak_mem [] rfl rfl rfl (okW_cons (ent_lst (E := TTubeNode.E) _ false) (okW_cons (.inl (leV_refl _)) (okW_cons (.inl (leV_refl _)) (okW_cons (.inl (leV_refl _)) (okW_cons (.inl (leV_refl _)) (okW_cons (.inl (leV_refl _)) (okW_cons (.inl (leV_refl _)) (okW_cons (.inl (leV_refl _)) okW_nil)))))))) okB_nil')
theorem sg64 {n : Nat} {a0 : List TTubeNode} {a1 : Int} {t : ρ64} (h : g64 n a0 a1 = some t) : Says Try.prog KK.gl 64 [(lstA TTubeNode.E a0), (intA a1), (AV.fn 65 [])] ((AV.tup [(intA t.1), (boolA t.2)])) :=
  says_of_own (by first | rfl | simp [cleans, clean, encs_clean, En.cln]) (by first | rfl | simp [cleans, clean, encs_clean, En.cln]) (F64_own (lstA TTubeNode.E a0) a1 (AV.fn 65 []) _ (g64_ok n a0 a1 (Ans ((AV.tup [(intA t.1), (boolA t.2)]))) (fun r e u m h => by rw [e]; exact h) h))
/- skyway/num.DivDown -/
theorem g67_ok (n : Nat) (a0 : Int) (a1 : Int) {t : ρ67} (R : AV → Mem → Prop) (hR : ∀ r : ρ67, t = r → ∀ u m, Ans ((AV.tup [(intA r.1), (intA r.2)])) u m → R u m) : g67 n a0 a1 = some t → F67 a0 a1 R := by
  unfold g67 F67
  refine cond_b (fun _ => ?_) (fun _ => ?_)
  · exact fun hg => retN rfl (hR _ (Option.some.inj hg).symm) (fzL_cons (fz_sc _ _) (fzL_cons (fz_sc _ _) fzL_nil))
  · refine cond_b (fun _ => ?_) (fun _ => ?_)
    · refine cond_b (fun _ => ?_) (fun _ => ?_)
      · exact fun hg => retN rfl (hR _ (Option.some.inj hg).symm) (fzL_cons (fz_sc _ _) (fzL_cons (fz_sc _ _) fzL_nil))
      · refine bind_b fun x20 h20 => ?_
        refine imp (opP_of (show _ = some ((intA (IntKind.wrap .i64 x20)), []) from (opA_quo h20))) ?_
        refine imp ex_i64_b ?_
        refine bind_b fun x21 h21 => ?_
        refine imp (opP_of (show _ = some ((intA x21), []) from (opA_rem h21))) ?_
        refine imp ex_i64_b ?_
        refine cond_b (fun _ => ?_) (fun _ => ?_)
        · refine imp (opP_of (show _ = some ((boolA (!((decide (a0 < (0))) == (decide (a1 < (0)))))), []) from (by kernel_rfl))) ?_
          refine imp exB_b ?_
          refine cond_b (fun _ => ?_) (fun _ => ?_)
          · exact fun hg => retN rfl (hR _ (Option.some.inj hg).symm) (fzL_cons (fz_sc _ _) (fzL_cons (fz_sc _ _) fzL_nil))
          · exact fun hg => retN rfl (hR _ (Option.some.inj hg).symm) (fzL_cons (fz_sc _ _) (fzL_cons (fz_sc _ _) fzL_nil))
        · exact fun hg => retN rfl (hR _ (Option.some.inj hg).symm) (fzL_cons (fz_sc _ _) (fzL_cons (fz_sc _ _) fzL_nil))
    · refine bind_b fun x22 h22 => ?_
      refine imp (opP_of (show _ = some ((intA (IntKind.wrap .i64 x22)), []) from (opA_quo h22))) ?_
      refine imp ex_i64_b ?_
      refine bind_b fun x23 h23 => ?_
      refine imp (opP_of (show _ = some ((intA x23), []) from (opA_rem h23))) ?_
      refine imp ex_i64_b ?_
      refine cond_b (fun _ => ?_) (fun _ => ?_)
      · refine imp (opP_of (show _ = some ((boolA (!((decide (a0 < (0))) == (decide (a1 < (0)))))), []) from (by kernel_rfl))) ?_
        refine imp exB_b ?_
        refine cond_b (fun _ => ?_) (fun _ => ?_)
        · exact fun hg => retN rfl (hR _ (Option.some.inj hg).symm) (fzL_cons (fz_sc _ _) (fzL_cons (fz_sc _ _) fzL_nil))
        · exact fun hg => retN rfl (hR _ (Option.some.inj hg).symm) (fzL_cons (fz_sc _ _) (fzL_cons (fz_sc _ _) fzL_nil))
      · exact fun hg => retN rfl (hR _ (Option.some.inj hg).symm) (fzL_cons (fz_sc _ _) (fzL_cons (fz_sc _ _) fzL_nil))
theorem sg67 {n : Nat} {a0 : Int} {a1 : Int} {t : ρ67} (h : g67 n a0 a1 = some t) : Says Try.prog KK.gl 67 [(intA a0), (intA a1)] ((AV.tup [(intA t.1), (intA t.2)])) :=
  says_of_own (by first | rfl | simp [cleans, clean, encs_clean, En.cln]) (by first | rfl | simp [cleans, clean, encs_clean, En.cln]) (F67_own a0 a1 _ (g67_ok n a0 a1 (Ans ((AV.tup [(intA t.1), (intA t.2)]))) (fun r e u m h => by rw [e]; exact h) h))
/- skyway/plane.Toward -/
theorem g66_ok (n : Nat) (a0 : TP) (a1 : TP) (a2 : Int) (a3 : Int) {t : ρ66} (R : AV → Mem → Prop) (hR : ∀ r : ρ66, t = r → ∀ u m, Ans ((AV.tup [(AV.agg (TP.E.enc r.1)), (intA r.2)])) u m → R u m) : g66 n a0 a1 a2 a3 = some t → F66 a0.X a0.Y a1.X a1.Y a2 a3 R := by
  unfold g66 F66
  refine cond_b (fun _ => ?_) (fun _ => ?_)
  · refine imp (opP_of (show _ = some ((AV.agg [(intA (0)), (intA (0))]), []) from rfl)) ?_
    refine imp (storeW_cells (sz := 2) (by kernel_rfl) (by kernel_rfl) rfl rfl (cs := [(intA (0)), (intA (0))]) (cs' := [(intA (0)), (intA (0))]) (ty := 35) (by first | rfl | (simp (disch := first | decide | assumption) only [mpushs_nil, mpushs_cons, mget_hd, mget_tl, mget_appW_o, mget_appW_n, mget_appW_e])) rfl rfl) ?_
    exact fun hg => retN rfl (hR _ (Option.some.inj hg).symm) (fzL_cons (fz_el (E := TP.E) _ (⟨(0), (0)⟩ : TP)) (fzL_cons (fz_sc _ _) fzL_nil))
  · refine cond_b (fun _ => ?_) (fun _ => ?_)
    · refine imp (opP_of (show _ = some ((AV.agg [(intA (0)), (intA (0))]), []) from rfl)) ?_
      refine imp (storeW_cells (sz := 2) (by kernel_rfl) (by kernel_rfl) rfl rfl (cs := [(intA (0)), (intA (0))]) (cs' := [(intA (0)), (intA (0))]) (ty := 35) (by first | rfl | (simp (disch := first | decide | assumption) only [mpushs_nil, mpushs_cons, mget_hd, mget_tl, mget_appW_o, mget_appW_n, mget_appW_e])) rfl rfl) ?_
      exact fun hg => retN rfl (hR _ (Option.some.inj hg).symm) (fzL_cons (fz_el (E := TP.E) _ (⟨(0), (0)⟩ : TP)) (fzL_cons (fz_sc _ _) fzL_nil))
    · refine cond_b (fun _ => ?_) (fun _ => ?_)
      · refine imp (opP_of (show _ = some ((AV.agg [(intA (0)), (intA (0))]), []) from rfl)) ?_
        refine imp (storeW_cells (sz := 2) (by kernel_rfl) (by kernel_rfl) rfl rfl (cs := [(intA (0)), (intA (0))]) (cs' := [(intA (0)), (intA (0))]) (ty := 35) (by first | rfl | (simp (disch := first | decide | assumption) only [mpushs_nil, mpushs_cons, mget_hd, mget_tl, mget_appW_o, mget_appW_n, mget_appW_e])) rfl rfl) ?_
        exact fun hg => retN rfl (hR _ (Option.some.inj hg).symm) (fzL_cons (fz_el (E := TP.E) _ (⟨(0), (0)⟩ : TP)) (fzL_cons (fz_sc _ _) fzL_nil))
      · refine cond_b (fun _ => ?_) (fun _ => ?_)
        · refine imp (opP_of (show _ = some ((AV.agg [(intA (0)), (intA (0))]), []) from rfl)) ?_
          refine imp (storeW_cells (sz := 2) (by kernel_rfl) (by kernel_rfl) rfl rfl (cs := [(intA (0)), (intA (0))]) (cs' := [(intA (0)), (intA (0))]) (ty := 35) (by first | rfl | (simp (disch := first | decide | assumption) only [mpushs_nil, mpushs_cons, mget_hd, mget_tl, mget_appW_o, mget_appW_n, mget_appW_e])) rfl rfl) ?_
          exact fun hg => retN rfl (hR _ (Option.some.inj hg).symm) (fzL_cons (fz_el (E := TP.E) _ (⟨(0), (0)⟩ : TP)) (fzL_cons (fz_sc _ _) fzL_nil))
        · refine bind_b fun x16 h16 => ?_
          refine imp (callQ_says (sg31 h16)) ?_
          refine imp ex_i64_b ?_
          refine cond_b (fun _ => ?_) (fun _ => ?_)
          · refine imp (opP_of (show _ = some ((AV.agg [(intA (0)), (intA (0))]), []) from rfl)) ?_
            refine bind_b fun x17 h17 => ?_
            refine imp (callQ_says (sg31 h17)) ?_
            refine imp ex_i64_b ?_
            refine imp (storeW_cells (sz := 2) (by kernel_rfl) (by kernel_rfl) rfl rfl (cs := [(intA (0)), (intA (0))]) (cs' := [(intA (0)), (intA (0))]) (ty := 35) (by first | rfl | (simp (disch := first | decide | assumption) only [mpushs_nil, mpushs_cons, mget_hd, mget_tl, mget_appW_o, mget_appW_n, mget_appW_e])) rfl rfl) ?_
            exact fun hg => retN rfl (hR _ (Option.some.inj hg).symm) (fzL_cons (fz_el (E := TP.E) _ (⟨(0), (0)⟩ : TP)) (fzL_cons (fz_sc _ _) fzL_nil))
          · refine bind_b fun x18 h18 => ?_
            refine imp (callQ_says (sg31 h18)) ?_
            refine imp ex_i64_b ?_
            refine cond_b (fun _ => ?_) (fun _ => ?_)
            · refine imp (opP_of (show _ = some ((AV.agg [(intA (0)), (intA (0))]), []) from rfl)) ?_
              refine bind_b fun x19 h19 => ?_
              refine imp (callQ_says (sg31 h19)) ?_
              refine imp ex_i64_b ?_
              refine imp (storeW_cells (sz := 2) (by kernel_rfl) (by kernel_rfl) rfl rfl (cs := [(intA (0)), (intA (0))]) (cs' := [(intA (0)), (intA (0))]) (ty := 35) (by first | rfl | (simp (disch := first | decide | assumption) only [mpushs_nil, mpushs_cons, mget_hd, mget_tl, mget_appW_o, mget_appW_n, mget_appW_e])) rfl rfl) ?_
              exact fun hg => retN rfl (hR _ (Option.some.inj hg).symm) (fzL_cons (fz_el (E := TP.E) _ (⟨(0), (0)⟩ : TP)) (fzL_cons (fz_sc _ _) fzL_nil))
            · refine bind_b fun x24 h24 => ?_
              refine imp (callQ_says (sg67 h24)) ?_
              refine imp exT2_b ?_
              refine imp ex_i64_b ?_
              refine imp ex_i64_b ?_
              refine bind_b fun x25 h25 => ?_
              refine imp (callQ_says (sg67 h25)) ?_
              refine imp exT2_b ?_
              refine imp ex_i64_b ?_
              refine imp ex_i64_b ?_
              refine imp (opP_of (show _ = some ((AV.agg [(intA (IntKind.wrap .i64 (a0.X + x24.1))), (intA (IntKind.wrap .i64 (a0.Y + x25.1)))]), []) from rfl)) ?_
              refine imp (storeW_cells (sz := 2) (by kernel_rfl) (by kernel_rfl) rfl rfl (cs := [(intA (0)), (intA (0))]) (cs' := [(intA (IntKind.wrap .i64 (a0.X + x24.1))), (intA (IntKind.wrap .i64 (a0.Y + x25.1)))]) (ty := 35) (by first | rfl | (simp (disch := first | decide | assumption) only [mpushs_nil, mpushs_cons, mget_hd, mget_tl, mget_appW_o, mget_appW_n, mget_appW_e])) rfl rfl) ?_
              exact fun hg => retN rfl (hR _ (Option.some.inj hg).symm) (fzL_cons (fz_el (E := TP.E) _ (⟨(IntKind.wrap .i64 (a0.X + x24.1)), (IntKind.wrap .i64 (a0.Y + x25.1))⟩ : TP)) (fzL_cons (fz_sc _ _) fzL_nil))
theorem sg66 {n : Nat} {a0 : TP} {a1 : TP} {a2 : Int} {a3 : Int} {t : ρ66} (h : g66 n a0 a1 a2 a3 = some t) : Says Try.prog KK.gl 66 [(AV.agg [(intA a0.X), (intA a0.Y)]), (AV.agg [(intA a1.X), (intA a1.Y)]), (intA a2), (intA a3)] ((AV.tup [(AV.agg (TP.E.enc t.1)), (intA t.2)])) :=
  says_of_own (by first | rfl | simp [cleans, clean, encs_clean, En.cln]) (by first | rfl | simp [cleans, clean, encs_clean, En.cln]) (F66_own a0.X a0.Y a1.X a1.Y a2 a3 _ (g66_ok n a0 a1 a2 a3 (Ans ((AV.tup [(AV.agg (TP.E.enc t.1)), (intA t.2)]))) (fun r e u m h => by rw [e]; exact h) h))
/- skyway/num.DivUp -/
theorem g68_ok (n : Nat) (a0 : Int) (a1 : Int) {t : ρ68} (R : AV → Mem → Prop) (hR : ∀ r : ρ68, t = r → ∀ u m, Ans ((AV.tup [(intA r.1), (intA r.2)])) u m → R u m) : g68 n a0 a1 = some t → F68 a0 a1 R := by
  unfold g68 F68
  refine bind_b fun x28 h28 => ?_
  refine imp (callQ_says (sg67 h28)) ?_
  refine imp exT2_b ?_
  refine imp ex_i64_b ?_
  refine imp ex_i64_b ?_
  refine cond_b (fun _ => ?_) (fun _ => ?_)
  · refine bind_b fun x29 h29 => ?_
    refine imp (opP_of (show _ = some ((intA x29), []) from (opA_rem h29))) ?_
    refine imp ex_i64_b ?_
    refine cond_b (fun _ => ?_) (fun _ => ?_)
    · exact fun hg => retN rfl (hR _ (Option.some.inj hg).symm) (fzL_cons (fz_sc _ _) (fzL_cons (fz_sc _ _) fzL_nil))
    · exact fun hg => retN rfl (hR _ (Option.some.inj hg).symm) (fzL_cons (fz_sc _ _) (fzL_cons (fz_sc _ _) fzL_nil))
  · exact fun hg => retN rfl (hR _ (Option.some.inj hg).symm) (fzL_cons (fz_sc _ _) (fzL_cons (fz_sc _ _) fzL_nil))
theorem sg68 {n : Nat} {a0 : Int} {a1 : Int} {t : ρ68} (h : g68 n a0 a1 = some t) : Says Try.prog KK.gl 68 [(intA a0), (intA a1)] ((AV.tup [(intA t.1), (intA t.2)])) :=
  says_of_own (by first | rfl | simp [cleans, clean, encs_clean, En.cln]) (by first | rfl | simp [cleans, clean, encs_clean, En.cln]) (F68_own a0 a1 _ (g68_ok n a0 a1 (Ans ((AV.tup [(intA t.1), (intA t.2)]))) (fun r e u m h => by rw [e]; exact h) h))
/- skyway/tube.at -/
theorem g43_ok (n : Nat) (a0 : List TTubeNode) (a1 : Int) {t : ρ43} (R : AV → Mem → Prop) (hR : ∀ r : ρ43, t = r → ∀ u m, Ans ((AV.agg (TTubeNode.E.enc r))) u m → R u m) : g43 n a0 a1 = some t → F43 (lstA TTubeNode.E a0) a1 R := by
  unfold g43 F43
  refine bind_b fun x12 h12 => ?_
  refine imp (callW_says (sg64 h12)) ?_
  refine imp exT2_b ?_
  refine imp ex_i64_b ?_
  refine imp exB_b ?_
  refine cond_b (fun _ => ?_) (fun _ => ?_)
  · refine bind_b fun x13 h13 => ?_
    refine imp (opP_of (show _ = some ((AV.ept [(intA x13.Node_Time), (intA x13.Node_At_X), (intA x13.Node_At_Y), (intA x13.Node_Height), (intA x13.Radius), (intA x13.Band)] 0), []) from (idx_lst (E := TTubeNode.E) rfl h13))) ?_
    refine imp (opP_of (show _ = some ((AV.agg [(intA x13.Node_Time), (intA x13.Node_At_X), (intA x13.Node_At_Y), (intA x13.Node_Height), (intA x13.Radius), (intA x13.Band)]), []) from rfl)) ?_
    refine imp exA6_b ?_
    refine imp ex_i64_b ?_
    refine imp ex_i64_b ?_
    refine imp ex_i64_b ?_
    refine imp ex_i64_b ?_
    refine imp ex_i64_b ?_
    refine imp ex_i64_b ?_
    refine imp (storeW_cells (sz := 6) (by kernel_rfl) (by kernel_rfl) rfl rfl (cs := [(intA (0)), (intA (0)), (intA (0)), (intA (0)), (intA (0)), (intA (0))]) (cs' := [(intA x13.Node_Time), (intA x13.Node_At_X), (intA x13.Node_At_Y), (intA x13.Node_Height), (intA x13.Radius), (intA x13.Band)]) (ty := 39) (by first | rfl | (simp (disch := first | decide | assumption) only [mpushs_nil, mpushs_cons, mget_hd, mget_tl, mget_appW_o, mget_appW_n, mget_appW_e])) rfl rfl) ?_
    exact fun hg => ret1 (hR _ (Option.some.inj hg).symm) (fz_el (E := TTubeNode.E) _ x13)
  · refine bind_b fun x14 h14 => ?_
    refine imp (opM_of (show _ = some ((AV.ept [(intA x14.Node_Time), (intA x14.Node_At_X), (intA x14.Node_At_Y), (intA x14.Node_Height), (intA x14.Radius), (intA x14.Band)] 0), []) from (idx_lst (E := TTubeNode.E) rfl h14))) ?_
    refine imp (opM_of (show _ = some ((AV.agg [(intA x14.Node_Time), (intA x14.Node_At_X), (intA x14.Node_At_Y), (intA x14.Node_Height), (intA x14.Radius), (intA x14.Band)]), []) from rfl)) ?_
    refine imp exA6_b ?_
    refine imp ex_i64_b ?_
    refine imp ex_i64_b ?_
    refine imp ex_i64_b ?_
    refine imp ex_i64_b ?_
    refine imp ex_i64_b ?_
    refine imp ex_i64_b ?_
    refine bind_b fun x15 h15 => ?_
    refine imp (opM_of (show _ = some ((AV.ept [(intA x15.Node_Time), (intA x15.Node_At_X), (intA x15.Node_At_Y), (intA x15.Node_Height), (intA x15.Radius), (intA x15.Band)] 0), []) from (idx_lst (E := TTubeNode.E) rfl h15))) ?_
    refine imp (opM_of (show _ = some ((AV.agg [(intA x15.Node_Time), (intA x15.Node_At_X), (intA x15.Node_At_Y), (intA x15.Node_Height), (intA x15.Radius), (intA x15.Band)]), []) from rfl)) ?_
    refine imp exA6_b ?_
    refine imp ex_i64_b ?_
    refine imp ex_i64_b ?_
    refine imp ex_i64_b ?_
    refine imp ex_i64_b ?_
    refine imp ex_i64_b ?_
    refine imp ex_i64_b ?_
    refine imp (storeW_cells (sz := 6) (by kernel_rfl) (by kernel_rfl) rfl rfl (cs := [(intA (0)), (intA (0)), (intA (0)), (intA (0)), (intA (0)), (intA (0))]) (cs' := [(intA x14.Node_Time), (intA x14.Node_At_X), (intA x14.Node_At_Y), (intA x14.Node_Height), (intA x14.Radius), (intA x14.Band)]) (ty := 39) (by first | rfl | (rw [look'_mem (by first | rfl | simp [topId_blk] | simp [topId])]; first | rfl | (simp (disch := first | decide | assumption) only [mpushs_nil, mpushs_cons, mget_hd, mget_tl, mget_appW_o, mget_appW_n, mget_appW_e]))) rfl rfl) ?_
    refine imp (storeW_cells (sz := 6) (by kernel_rfl) (by kernel_rfl) rfl rfl (cs := [(intA (0)), (intA (0)), (intA (0)), (intA (0)), (intA (0)), (intA (0))]) (cs' := [(intA x15.Node_Time), (intA x15.Node_At_X), (intA x15.Node_At_Y), (intA x15.Node_Height), (intA x15.Radius), (intA x15.Band)]) (ty := 39) (by first | rfl | (rw [look'_mem (by first | rfl | simp [topId_blk] | simp [topId])]; first | rfl | (simp (disch := first | decide | assumption) only [mpushs_nil, mpushs_cons, mget_hd, mget_tl, mget_appW_o, mget_appW_n, mget_appW_e]))) rfl rfl) ?_
    refine imp (chk_of (by kernel_rfl)) ?_
    refine imp (opP_of (show _ = some ((intA x14.Node_Time), []) from (ldS_ptr (b := ⟨[(intA x14.Node_Time), (intA x14.Node_At_X), (intA x14.Node_At_Y), (intA x14.Node_Height), (intA x14.Radius), (intA x14.Band)], 39⟩) (by first | rfl | (simp (disch := first | decide | assumption) only [mpushs_nil, mpushs_cons, mget_hd, mget_tl, mget_appW_o, mget_appW_n, mget_appW_e])) rfl))) ?_
    refine imp ex_i64_b ?_
    refine imp (opP_of (show _ = some ((intA x15.Node_Time), []) from (ldS_ptr (b := ⟨[(intA x15.Node_Time), (intA x15.Node_At_X), (intA x15.Node_At_Y), (intA x15.Node_Height), (intA x15.Radius), (intA x15.Band)], 39⟩) (by first | rfl | (simp (disch := first | decide | assumption) only [mpushs_nil, mpushs_cons, mget_hd, mget_tl, mget_appW_o, mget_appW_n, mget_appW_e])) rfl))) ?_
    refine imp ex_i64_b ?_
    refine imp (opP_of (show _ = some ((intA x14.Node_Time), []) from (ldS_ptr (b := ⟨[(intA x14.Node_Time), (intA x14.Node_At_X), (intA x14.Node_At_Y), (intA x14.Node_Height), (intA x14.Radius), (intA x14.Band)], 39⟩) (by first | rfl | (simp (disch := first | decide | assumption) only [mpushs_nil, mpushs_cons, mget_hd, mget_tl, mget_appW_o, mget_appW_n, mget_appW_e])) rfl))) ?_
    refine imp ex_i64_b ?_
    refine imp (opP_of (show _ = some ((AV.agg [(intA x14.Node_At_X), (intA x14.Node_At_Y)]), []) from (ldA_ptr (b := ⟨[(intA x14.Node_Time), (intA x14.Node_At_X), (intA x14.Node_At_Y), (intA x14.Node_Height), (intA x14.Radius), (intA x14.Band)], 39⟩) (by first | rfl | (simp (disch := first | decide | assumption) only [mpushs_nil, mpushs_cons, mget_hd, mget_tl, mget_appW_o, mget_appW_n, mget_appW_e])) rfl))) ?_
    refine imp exA2_b ?_
    refine imp ex_i64_b ?_
    refine imp ex_i64_b ?_
    refine imp (opP_of (show _ = some ((AV.agg [(intA x15.Node_At_X), (intA x15.Node_At_Y)]), []) from (ldA_ptr (b := ⟨[(intA x15.Node_Time), (intA x15.Node_At_X), (intA x15.Node_At_Y), (intA x15.Node_Height), (intA x15.Radius), (intA x15.Band)], 39⟩) (by first | rfl | (simp (disch := first | decide | assumption) only [mpushs_nil, mpushs_cons, mget_hd, mget_tl, mget_appW_o, mget_appW_n, mget_appW_e])) rfl))) ?_
    refine imp exA2_b ?_
    refine imp ex_i64_b ?_
    refine imp ex_i64_b ?_
    refine bind_b fun x26 h26 => ?_
    refine imp (callQ_says (sg66 h26)) ?_
    refine imp exT2_b ?_
    refine imp exA2_b ?_
    refine imp ex_i64_b ?_
    refine imp ex_i64_b ?_
    refine imp ex_i64_b ?_
    refine imp (opP_of (show _ = some ((intA x15.Node_Height), []) from (ldS_ptr (b := ⟨[(intA x15.Node_Time), (intA x15.Node_At_X), (intA x15.Node_At_Y), (intA x15.Node_Height), (intA x15.Radius), (intA x15.Band)], 39⟩) (by first | rfl | (simp (disch := first | decide | assumption) only [mpushs_nil, mpushs_cons, mget_hd, mget_tl, mget_appW_o, mget_appW_n, mget_appW_e])) rfl))) ?_
    refine imp ex_i64_b ?_
    refine imp (opP_of (show _ = some ((intA x14.Node_Height), []) from (ldS_ptr (b := ⟨[(intA x14.Node_Time), (intA x14.Node_At_X), (intA x14.Node_At_Y), (intA x14.Node_Height), (intA x14.Radius), (intA x14.Band)], 39⟩) (by first | rfl | (simp (disch := first | decide | assumption) only [mpushs_nil, mpushs_cons, mget_hd, mget_tl, mget_appW_o, mget_appW_n, mget_appW_e])) rfl))) ?_
    refine imp ex_i64_b ?_
    refine bind_b fun x27 h27 => ?_
    refine imp (callQ_says (sg67 h27)) ?_
    refine imp exT2_b ?_
    refine imp ex_i64_b ?_
    refine imp ex_i64_b ?_
    refine imp (opP_of (show _ = some ((intA x15.Radius), []) from (ldS_ptr (b := ⟨[(intA x15.Node_Time), (intA x15.Node_At_X), (intA x15.Node_At_Y), (intA x15.Node_Height), (intA x15.Radius), (intA x15.Band)], 39⟩) (by first | rfl | (simp (disch := first | decide | assumption) only [mpushs_nil, mpushs_cons, mget_hd, mget_tl, mget_appW_o, mget_appW_n, mget_appW_e])) rfl))) ?_
    refine imp ex_i64_b ?_
    refine imp (opP_of (show _ = some ((intA x14.Radius), []) from (ldS_ptr (b := ⟨[(intA x14.Node_Time), (intA x14.Node_At_X), (intA x14.Node_At_Y), (intA x14.Node_Height), (intA x14.Radius), (intA x14.Band)], 39⟩) (by first | rfl | (simp (disch := first | decide | assumption) only [mpushs_nil, mpushs_cons, mget_hd, mget_tl, mget_appW_o, mget_appW_n, mget_appW_e])) rfl))) ?_
    refine imp ex_i64_b ?_
    refine bind_b fun x30 h30 => ?_
    refine imp (callQ_says (sg68 h30)) ?_
    refine imp exT2_b ?_
    refine imp ex_i64_b ?_
    refine imp ex_i64_b ?_
    refine imp (opP_of (show _ = some ((intA x15.Band), []) from (ldS_ptr (b := ⟨[(intA x15.Node_Time), (intA x15.Node_At_X), (intA x15.Node_At_Y), (intA x15.Node_Height), (intA x15.Radius), (intA x15.Band)], 39⟩) (by first | rfl | (simp (disch := first | decide | assumption) only [mpushs_nil, mpushs_cons, mget_hd, mget_tl, mget_appW_o, mget_appW_n, mget_appW_e])) rfl))) ?_
    refine imp ex_i64_b ?_
    refine imp (opP_of (show _ = some ((intA x14.Band), []) from (ldS_ptr (b := ⟨[(intA x14.Node_Time), (intA x14.Node_At_X), (intA x14.Node_At_Y), (intA x14.Node_Height), (intA x14.Radius), (intA x14.Band)], 39⟩) (by first | rfl | (simp (disch := first | decide | assumption) only [mpushs_nil, mpushs_cons, mget_hd, mget_tl, mget_appW_o, mget_appW_n, mget_appW_e])) rfl))) ?_
    refine imp ex_i64_b ?_
    refine bind_b fun x31 h31 => ?_
    refine imp (callQ_says (sg68 h31)) ?_
    refine imp exT2_b ?_
    refine imp ex_i64_b ?_
    refine imp ex_i64_b ?_
    refine imp (opP_of (show _ = some ((intA x14.Node_Height), []) from (ldS_ptr (b := ⟨[(intA x14.Node_Time), (intA x14.Node_At_X), (intA x14.Node_At_Y), (intA x14.Node_Height), (intA x14.Radius), (intA x14.Band)], 39⟩) (by first | rfl | (simp (disch := first | decide | assumption) only [mpushs_nil, mpushs_cons, mget_hd, mget_tl, mget_appW_o, mget_appW_n, mget_appW_e])) rfl))) ?_
    refine imp ex_i64_b ?_
    refine imp (opP_of (show _ = some ((AV.agg [(intA a1), (intA x26.1.X), (intA x26.1.Y), (intA (IntKind.wrap .i64 (x14.Node_Height + x27.1)))]), []) from rfl)) ?_
    refine imp (opP_of (show _ = some ((intA x14.Radius), []) from (ldS_ptr (b := ⟨[(intA x14.Node_Time), (intA x14.Node_At_X), (intA x14.Node_At_Y), (intA x14.Node_Height), (intA x14.Radius), (intA x14.Band)], 39⟩) (by first | rfl | (simp (disch := first | decide | assumption) only [mpushs_nil, mpushs_cons, mget_hd, mget_tl, mget_appW_o, mget_appW_n, mget_appW_e])) rfl))) ?_
    refine imp ex_i64_b ?_
    refine imp (opP_of (show _ = some ((intA x14.Band), []) from (ldS_ptr (b := ⟨[(intA x14.Node_Time), (intA x14.Node_At_X), (intA x14.Node_At_Y), (intA x14.Node_Height), (intA x14.Radius), (intA x14.Band)], 39⟩) (by first | rfl | (simp (disch := first | decide | assumption) only [mpushs_nil, mpushs_cons, mget_hd, mget_tl, mget_appW_o, mget_appW_n, mget_appW_e])) rfl))) ?_
    refine imp ex_i64_b ?_
    refine imp (opP_of (show _ = some ((AV.agg [(intA a1), (intA x26.1.X), (intA x26.1.Y), (intA (IntKind.wrap .i64 (x14.Node_Height + x27.1))), (intA (IntKind.wrap .i64 (x14.Radius + x30.1))), (intA (IntKind.wrap .i64 (x14.Band + x31.1)))]), []) from rfl)) ?_
    refine imp (storeW_cells (sz := 6) (by kernel_rfl) (by kernel_rfl) rfl rfl (cs := [(intA (0)), (intA (0)), (intA (0)), (intA (0)), (intA (0)), (intA (0))]) (cs' := [(intA a1), (intA x26.1.X), (intA x26.1.Y), (intA (IntKind.wrap .i64 (x14.Node_Height + x27.1))), (intA (IntKind.wrap .i64 (x14.Radius + x30.1))), (intA (IntKind.wrap .i64 (x14.Band + x31.1)))]) (ty := 39) (by first | rfl | (simp (disch := first | decide | assumption) only [mpushs_nil, mpushs_cons, mget_hd, mget_tl, mget_appW_o, mget_appW_n, mget_appW_e])) rfl rfl) ?_
    exact fun hg => ret1 (hR _ (Option.some.inj hg).symm) (fz_el (E := TTubeNode.E) _ (⟨a1, x26.1.X, x26.1.Y, (IntKind.wrap .i64 (x14.Node_Height + x27.1)), (IntKind.wrap .i64 (x14.Radius + x30.1)), (IntKind.wrap .i64 (x14.Band + x31.1))⟩ : TTubeNode))
theorem sg43 {n : Nat} {a0 : List TTubeNode} {a1 : Int} {t : ρ43} (h : g43 n a0 a1 = some t) : Says Try.prog KK.gl 43 [(lstA TTubeNode.E a0), (intA a1)] ((AV.agg (TTubeNode.E.enc t))) :=
  says_of_own (by first | rfl | simp [cleans, clean, encs_clean, En.cln]) (by first | rfl | simp [cleans, clean, encs_clean, En.cln]) (F43_own (lstA TTubeNode.E a0) a1 _ (g43_ok n a0 a1 (Ans ((AV.agg (TTubeNode.E.enc t)))) (fun r e u m h => by rw [e]; exact h) h))
/- skyway/tube.At -/
theorem g20_ok (n : Nat) (a0 : List TTubeNode) (a1 : Int) {t : ρ20} (R : AV → Mem → Prop) (hR : ∀ r : ρ20, t = r → ∀ u m, Ans ((AV.tup [(AV.agg (TTubeNode.E.enc r.1)), (intA r.2)])) u m → R u m) : g20 n a0 a1 = some t → F20 (lstA TTubeNode.E a0) a1 R := by
  unfold g20 F20
  refine bind_b fun x6 h6 => ?_
  refine imp (callQ_says (sg28 h6)) ?_
  refine imp ex_i64_b ?_
  refine cond_b (fun _ => ?_) (fun _ => ?_)
  · refine imp (opP_of (show _ = some ((AV.agg [(intA (0)), (intA (0)), (intA (0)), (intA (0)), (intA (0)), (intA (0))]), []) from rfl)) ?_
    refine imp (storeW_cells (sz := 6) (by kernel_rfl) (by kernel_rfl) rfl rfl (cs := [(intA (0)), (intA (0)), (intA (0)), (intA (0)), (intA (0)), (intA (0))]) (cs' := [(intA (0)), (intA (0)), (intA (0)), (intA (0)), (intA (0)), (intA (0))]) (ty := 39) (by first | rfl | (simp (disch := first | decide | assumption) only [mpushs_nil, mpushs_cons, mget_hd, mget_tl, mget_appW_o, mget_appW_n, mget_appW_e])) rfl rfl) ?_
    exact fun hg => retN rfl (hR _ (Option.some.inj hg).symm) (fzL_cons (fz_el (E := TTubeNode.E) _ (⟨(0), (0), (0), (0), (0), (0)⟩ : TTubeNode)) (fzL_cons (fz_sc _ _) fzL_nil))
  · refine bind_b fun x7 h7 => ?_
    refine imp (callQ_says (sg42 h7)) ?_
    refine imp exT2_b ?_
    refine imp ex_i64_b ?_
    refine imp ex_i64_b ?_
    refine cond_b (fun _ => ?_) (fun _ => ?_)
    · refine imp (opP_of (show _ = some ((AV.agg [(intA (0)), (intA (0)), (intA (0)), (intA (0)), (intA (0)), (intA (0))]), []) from rfl)) ?_
      refine imp (storeW_cells (sz := 6) (by kernel_rfl) (by kernel_rfl) rfl rfl (cs := [(intA (0)), (intA (0)), (intA (0)), (intA (0)), (intA (0)), (intA (0))]) (cs' := [(intA (0)), (intA (0)), (intA (0)), (intA (0)), (intA (0)), (intA (0))]) (ty := 39) (by first | rfl | (simp (disch := first | decide | assumption) only [mpushs_nil, mpushs_cons, mget_hd, mget_tl, mget_appW_o, mget_appW_n, mget_appW_e])) rfl rfl) ?_
      exact fun hg => retN rfl (hR _ (Option.some.inj hg).symm) (fzL_cons (fz_el (E := TTubeNode.E) _ (⟨(0), (0), (0), (0), (0), (0)⟩ : TTubeNode)) (fzL_cons (fz_sc _ _) fzL_nil))
    · refine cond_b (fun _ => ?_) (fun _ => ?_)
      · refine imp (opP_of (show _ = some ((AV.agg [(intA (0)), (intA (0)), (intA (0)), (intA (0)), (intA (0)), (intA (0))]), []) from rfl)) ?_
        refine imp (storeW_cells (sz := 6) (by kernel_rfl) (by kernel_rfl) rfl rfl (cs := [(intA (0)), (intA (0)), (intA (0)), (intA (0)), (intA (0)), (intA (0))]) (cs' := [(intA (0)), (intA (0)), (intA (0)), (intA (0)), (intA (0)), (intA (0))]) (ty := 39) (by first | rfl | (simp (disch := first | decide | assumption) only [mpushs_nil, mpushs_cons, mget_hd, mget_tl, mget_appW_o, mget_appW_n, mget_appW_e])) rfl rfl) ?_
        exact fun hg => retN rfl (hR _ (Option.some.inj hg).symm) (fzL_cons (fz_el (E := TTubeNode.E) _ (⟨(0), (0), (0), (0), (0), (0)⟩ : TTubeNode)) (fzL_cons (fz_sc _ _) fzL_nil))
      · refine bind_b fun x32 h32 => ?_
        refine imp (callQ_says (sg43 h32)) ?_
        refine imp exA6_b ?_
        refine imp ex_i64_b ?_
        refine imp ex_i64_b ?_
        refine imp ex_i64_b ?_
        refine imp ex_i64_b ?_
        refine imp ex_i64_b ?_
        refine imp ex_i64_b ?_
        exact fun hg => retN rfl (hR _ (Option.some.inj hg).symm) (fzL_cons (fz_el (E := TTubeNode.E) _ x32) (fzL_cons (fz_sc _ _) fzL_nil))
theorem sg20 {n : Nat} {a0 : List TTubeNode} {a1 : Int} {t : ρ20} (h : g20 n a0 a1 = some t) : Says Try.prog KK.gl 20 [(lstA TTubeNode.E a0), (intA a1)] ((AV.tup [(AV.agg (TTubeNode.E.enc t.1)), (intA t.2)])) :=
  says_of_own (by first | rfl | simp [cleans, clean, encs_clean, En.cln]) (by first | rfl | simp [cleans, clean, encs_clean, En.cln]) (F20_own (lstA TTubeNode.E a0) a1 _ (g20_ok n a0 a1 (Ans ((AV.tup [(AV.agg (TTubeNode.E.enc t.1)), (intA t.2)]))) (fun r e u m h => by rw [e]; exact h) h))
/- skyway/polygon.next -/
theorem g72_ok (n : Nat) (a0 : List TP) (a1 : Int) {t : ρ72} (R : AV → Mem → Prop) (hR : ∀ r : ρ72, t = r → ∀ u m, Ans ((AV.agg (TP.E.enc r))) u m → R u m) : g72 n a0 a1 = some t → F72 (lstA TP.E a0) a1 R := by
  unfold g72 F72
  refine imp (opP_of (show _ = some ((intA (a0.length : Int)), []) from rfl)) ?_
  refine imp ex_i64_b ?_
  refine bind_b fun x36 h36 => ?_
  refine imp (opP_of (show _ = some ((intA x36), []) from (opA_rem h36))) ?_
  refine imp ex_i64_b ?_
  refine bind_b fun x37 h37 => ?_
  refine imp (opP_of (show _ = some ((AV.ept [(intA x37.X), (intA x37.Y)] 0), []) from (idx_lst (E := TP.E) rfl h37))) ?_
  refine imp (opP_of (show _ = some ((AV.agg [(intA x37.X), (intA x37.Y)]), []) from rfl)) ?_
  refine imp exA2_b ?_
  refine imp ex_i64_b ?_
  refine imp ex_i64_b ?_
  exact fun hg => ret1 (hR _ (Option.some.inj hg).symm) (fz_el (E := TP.E) _ x37)
theorem sg72 {n : Nat} {a0 : List TP} {a1 : Int} {t : ρ72} (h : g72 n a0 a1 = some t) : Says Try.prog KK.gl 72 [(lstA TP.E a0), (intA a1)] ((AV.agg (TP.E.enc t))) :=
  says_of_own (by first | rfl | simp [cleans, clean, encs_clean, En.cln]) (by first | rfl | simp [cleans, clean, encs_clean, En.cln]) (F72_own (lstA TP.E a0) a1 _ (g72_ok n a0 a1 (Ans ((AV.agg (TP.E.enc t)))) (fun r e u m h => by rw [e]; exact h) h))
/- skyway/plane.Sub -/
theorem g83_ok (n : Nat) (a0 : TP) (a1 : TP) {t : ρ83} (R : AV → Mem → Prop) (hR : ∀ r : ρ83, t = r → ∀ u m, Ans ((AV.agg (TP.E.enc r))) u m → R u m) : g83 n a0 a1 = some t → F83 a0.X a0.Y a1.X a1.Y R := by
  unfold g83 F83
  refine imp (opP_of (show _ = some ((AV.agg [(intA (IntKind.wrap .i64 (a0.X - a1.X))), (intA (IntKind.wrap .i64 (a0.Y - a1.Y)))]), []) from rfl)) ?_
  refine imp (storeW_cells (sz := 2) (by kernel_rfl) (by kernel_rfl) rfl rfl (cs := [(intA (0)), (intA (0))]) (cs' := [(intA (IntKind.wrap .i64 (a0.X - a1.X))), (intA (IntKind.wrap .i64 (a0.Y - a1.Y)))]) (ty := 35) (by first | rfl | (simp (disch := first | decide | assumption) only [mpushs_nil, mpushs_cons, mget_hd, mget_tl, mget_appW_o, mget_appW_n, mget_appW_e])) rfl rfl) ?_
  exact fun hg => ret1 (hR _ (Option.some.inj hg).symm) (fz_el (E := TP.E) _ (⟨(IntKind.wrap .i64 (a0.X - a1.X)), (IntKind.wrap .i64 (a0.Y - a1.Y))⟩ : TP))
theorem sg83 {n : Nat} {a0 : TP} {a1 : TP} {t : ρ83} (h : g83 n a0 a1 = some t) : Says Try.prog KK.gl 83 [(AV.agg [(intA a0.X), (intA a0.Y)]), (AV.agg [(intA a1.X), (intA a1.Y)])] ((AV.agg (TP.E.enc t))) :=
  says_of_own (by first | rfl | simp [cleans, clean, encs_clean, En.cln]) (by first | rfl | simp [cleans, clean, encs_clean, En.cln]) (F83_own a0.X a0.Y a1.X a1.Y _ (g83_ok n a0 a1 (Ans ((AV.agg (TP.E.enc t)))) (fun r e u m h => by rw [e]; exact h) h))
/- skyway/plane.Cross -/
theorem g74_ok (n : Nat) (a0 : TP) (a1 : TP) {t : ρ74} (R : AV → Mem → Prop) (hR : ∀ r : ρ74, t = r → ∀ u m, Ans ((intA r)) u m → R u m) : g74 n a0 a1 = some t → F74 a0.X a0.Y a1.X a1.Y R := by
  unfold g74 F74
  exact fun hg => ret1 (hR _ (Option.some.inj hg).symm) (fz_sc _ _)
theorem sg74 {n : Nat} {a0 : TP} {a1 : TP} {t : ρ74} (h : g74 n a0 a1 = some t) : Says Try.prog KK.gl 74 [(AV.agg [(intA a0.X), (intA a0.Y)]), (AV.agg [(intA a1.X), (intA a1.Y)])] ((intA t)) :=
  says_of_own (by first | rfl | simp [cleans, clean, encs_clean, En.cln]) (by first | rfl | simp [cleans, clean, encs_clean, En.cln]) (F74_own a0.X a0.Y a1.X a1.Y _ (g74_ok n a0 a1 (Ans ((intA t))) (fun r e u m h => by rw [e]; exact h) h))
/- skyway/plane.Turn -/
theorem g71_ok (n : Nat) (a0 : TP) (a1 : TP) (a2 : TP) {t : ρ71} (R : AV → Mem → Prop) (hR : ∀ r : ρ71, t = r → ∀ u m, Ans ((intA r)) u m → R u m) : g71 n a0 a1 a2 = some t → F71 a0.X a0.Y a1.X a1.Y a2.X a2.Y R := by
  unfold g71 F71
  refine bind_b fun x39 h39 => ?_
  refine imp (callQ_says (sg83 h39)) ?_
  refine imp exA2_b ?_
  refine imp ex_i64_b ?_
  refine imp ex_i64_b ?_
  refine bind_b fun x40 h40 => ?_
  refine imp (callQ_says (sg83 h40)) ?_
  refine imp exA2_b ?_
  refine imp ex_i64_b ?_
  refine imp ex_i64_b ?_
  refine bind_b fun x41 h41 => ?_
  refine imp (callQ_says (sg74 h41)) ?_
  refine imp ex_i64_b ?_
  refine cond_b (fun _ => ?_) (fun _ => ?_)
  · exact fun hg => ret1 (hR _ (Option.some.inj hg).symm) (fz_sc _ _)
  · refine cond_b (fun _ => ?_) (fun _ => ?_)
    · exact fun hg => ret1 (hR _ (Option.some.inj hg).symm) (fz_sc _ _)
    · exact fun hg => ret1 (hR _ (Option.some.inj hg).symm) (fz_sc _ _)
theorem sg71 {n : Nat} {a0 : TP} {a1 : TP} {a2 : TP} {t : ρ71} (h : g71 n a0 a1 a2 = some t) : Says Try.prog KK.gl 71 [(AV.agg [(intA a0.X), (intA a0.Y)]), (AV.agg [(intA a1.X), (intA a1.Y)]), (AV.agg [(intA a2.X), (intA a2.Y)])] ((intA t)) :=
  says_of_own (by first | rfl | simp [cleans, clean, encs_clean, En.cln]) (by first | rfl | simp [cleans, clean, encs_clean, En.cln]) (F71_own a0.X a0.Y a1.X a1.Y a2.X a2.Y _ (g71_ok n a0 a1 a2 (Ans ((intA t))) (fun r e u m h => by rw [e]; exact h) h))
/- skyway/polygon.between -/
theorem g101_ok (n : Nat) (a0 : TP) (a1 : TP) (a2 : TP) {t : ρ101} (R : AV → Mem → Prop) (hR : ∀ r : ρ101, t = r → ∀ u m, Ans ((boolA r)) u m → R u m) : g101 n a0 a1 a2 = some t → F101 a0.X a0.Y a1.X a1.Y a2.X a2.Y R := by
  unfold g101 F101
  refine imp (opP_of (show _ = some ((intA (if a1.X < a0.X then a1.X else a0.X)), []) from (by kernel_rfl))) ?_
  refine imp ex_i64_b ?_
  refine cond_b (fun _ => ?_) (fun _ => ?_)
  · refine imp (opP_of (show _ = some ((intA (if a1.X > a0.X then a1.X else a0.X)), []) from (by kernel_rfl))) ?_
    refine imp ex_i64_b ?_
    refine cond_b (fun _ => ?_) (fun _ => ?_)
    · refine imp (opP_of (show _ = some ((intA (if a1.Y < a0.Y then a1.Y else a0.Y)), []) from (by kernel_rfl))) ?_
      refine imp ex_i64_b ?_
      refine cond_b (fun _ => ?_) (fun _ => ?_)
      · refine imp (opP_of (show _ = some ((intA (if a1.Y > a0.Y then a1.Y else a0.Y)), []) from (by kernel_rfl))) ?_
        refine imp ex_i64_b ?_
        exact fun hg => ret1 (hR _ (Option.some.inj hg).symm) (fz_sc _ _)
      · exact fun hg => ret1 (hR _ (Option.some.inj hg).symm) (fz_sc _ _)
    · exact fun hg => ret1 (hR _ (Option.some.inj hg).symm) (fz_sc _ _)
  · exact fun hg => ret1 (hR _ (Option.some.inj hg).symm) (fz_sc _ _)
theorem sg101 {n : Nat} {a0 : TP} {a1 : TP} {a2 : TP} {t : ρ101} (h : g101 n a0 a1 a2 = some t) : Says Try.prog KK.gl 101 [(AV.agg [(intA a0.X), (intA a0.Y)]), (AV.agg [(intA a1.X), (intA a1.Y)]), (AV.agg [(intA a2.X), (intA a2.Y)])] ((boolA t)) :=
  says_of_own (by first | rfl | simp [cleans, clean, encs_clean, En.cln]) (by first | rfl | simp [cleans, clean, encs_clean, En.cln]) (F101_own a0.X a0.Y a1.X a1.Y a2.X a2.Y _ (g101_ok n a0 a1 a2 (Ans ((boolA t))) (fun r e u m h => by rw [e]; exact h) h))
/- skyway/polygon.on -/
theorem g84_ok (n : Nat) (a0 : TP) (a1 : TP) (a2 : TP) {t : ρ84} (R : AV → Mem → Prop) (hR : ∀ r : ρ84, t = r → ∀ u m, Ans ((boolA r)) u m → R u m) : g84 n a0 a1 a2 = some t → F84 a0.X a0.Y a1.X a1.Y a2.X a2.Y R := by
  unfold g84 F84
  refine bind_b fun x42 h42 => ?_
  refine imp (callQ_says (sg71 h42)) ?_
  refine imp ex_i64_b ?_
  refine cond_b (fun _ => ?_) (fun _ => ?_)
  · refine bind_b fun x43 h43 => ?_
    refine imp (callQ_says (sg101 h43)) ?_
    refine imp exB_b ?_
    exact fun hg => ret1 (hR _ (Option.some.inj hg).symm) (fz_sc _ _)
  · exact fun hg => ret1 (hR _ (Option.some.inj hg).symm) (fz_sc _ _)
theorem sg84 {n : Nat} {a0 : TP} {a1 : TP} {a2 : TP} {t : ρ84} (h : g84 n a0 a1 a2 = some t) : Says Try.prog KK.gl 84 [(AV.agg [(intA a0.X), (intA a0.Y)]), (AV.agg [(intA a1.X), (intA a1.Y)]), (AV.agg [(intA a2.X), (intA a2.Y)])] ((boolA t)) :=
  says_of_own (by first | rfl | simp [cleans, clean, encs_clean, En.cln]) (by first | rfl | simp [cleans, clean, encs_clean, En.cln]) (F84_own a0.X a0.Y a1.X a1.Y a2.X a2.Y _ (g84_ok n a0 a1 a2 (Ans ((boolA t))) (fun r e u m h => by rw [e]; exact h) h))
/- skyway/polygon.Place -/
theorem B76_0_ok (n : Nat) (a0 : List TP) (c4 : Int) (c11 : Int) (k0_0 : Int) (k0_1 : Int) (v5 : Int) (v12 : Int) {t : (Int × Int) ⊕ ρ76} (R : AV → Mem → Prop) (N0 : St → Prop) (hR : ∀ r : ρ76, t = (.inr r) → ∀ u m, Ans ((intA r)) u m → R u m) (hN0 : ∀ y : Int × Int, t = (.inl y) → ∀ s' : St, Weak KK 65 0 s' (h76_0 (lstA TP.E a0) c4 y.1 c11 y.2 k0_0 k0_1 []) → N0 s') : S76_0 n a0 c4 c11 k0_0 k0_1 v5 v12 = some t → B76_0 (lstA TP.E a0) c4 v5 c11 v12 k0_0 k0_1 [] R N0 := by
  unfold S76_0 B76_0
  refine cond_b (fun _ => ?_) (fun _ => ?_)
  · refine bind_b fun x35 h35 => ?_
    refine imp (opM_of (show _ = some ((AV.ept [(intA x35.X), (intA x35.Y)] 0), []) from (idx_lst (E := TP.E) rfl h35))) ?_
    refine imp (opM_of (show _ = some ((AV.agg [(intA x35.X), (intA x35.Y)]), []) from rfl)) ?_
    refine imp exA2_b ?_
    refine imp ex_i64_b ?_
    refine imp ex_i64_b ?_
    refine bind_b fun x38 h38 => ?_
    refine imp (callF_says (sg72 h38)) ?_
    refine imp exA2_b ?_
    refine imp ex_i64_b ?_
    refine imp ex_i64_b ?_
    refine imp (storeW_cells (sz := 2) (by kernel_rfl) (by kernel_rfl) rfl rfl (cs := [(intA (0)), (intA (0))]) (cs' := [(intA x35.X), (intA x35.Y)]) (ty := 35) (by first | rfl | (rw [look'_mem (by first | rfl | simp [topId_blk] | simp [topId])]; first | rfl | (simp (disch := first | decide | assumption) only [mpushs_nil, mpushs_cons, mget_hd, mget_tl, mget_appW_o, mget_appW_n, mget_appW_e]))) rfl rfl) ?_
    refine imp (storeW_cells (sz := 2) (by kernel_rfl) (by kernel_rfl) rfl rfl (cs := [(intA (0)), (intA (0))]) (cs' := [(intA x38.X), (intA x38.Y)]) (ty := 35) (by first | rfl | (rw [look'_mem (by first | rfl | simp [topId_blk] | simp [topId])]; first | rfl | (simp (disch := first | decide | assumption) only [mpushs_nil, mpushs_cons, mget_hd, mget_tl, mget_appW_o, mget_appW_n, mget_appW_e]))) rfl rfl) ?_
    refine imp (chk_of (by kernel_rfl)) ?_
    refine imp (opP_of (show _ = some ((AV.agg [(intA x35.X), (intA x35.Y)]), []) from (ldA_ptr (b := ⟨[(intA x35.X), (intA x35.Y)], 35⟩) (by first | rfl | (simp (disch := first | decide | assumption) only [mpushs_nil, mpushs_cons, mget_hd, mget_tl, mget_appW_o, mget_appW_n, mget_appW_e])) rfl))) ?_
    refine imp exA2_b ?_
    refine imp ex_i64_b ?_
    refine imp ex_i64_b ?_
    refine imp (opP_of (show _ = some ((AV.agg [(intA x38.X), (intA x38.Y)]), []) from (ldA_ptr (b := ⟨[(intA x38.X), (intA x38.Y)], 35⟩) (by first | rfl | (simp (disch := first | decide | assumption) only [mpushs_nil, mpushs_cons, mget_hd, mget_tl, mget_appW_o, mget_appW_n, mget_appW_e])) rfl))) ?_
    refine imp exA2_b ?_
    refine imp ex_i64_b ?_
    refine imp ex_i64_b ?_
    refine imp (opP_of (show _ = some ((AV.agg [(intA k0_0), (intA k0_1)]), []) from (ldA_ptr (b := ⟨[(intA k0_0), (intA k0_1)], 35⟩) (by first | rfl | (simp (disch := first | decide | assumption) only [mpushs_nil, mpushs_cons, mget_hd, mget_tl, mget_appW_o, mget_appW_n, mget_appW_e])) rfl))) ?_
    refine imp exA2_b ?_
    refine imp ex_i64_b ?_
    refine imp ex_i64_b ?_
    refine bind_b fun x44 h44 => ?_
    refine imp (callQ_says (sg84 h44)) ?_
    refine imp exB_b ?_
    refine cond_b (fun _ => ?_) (fun _ => ?_)
    · exact fun hg => ret1 (hR _ (Option.some.inj hg).symm) (fz_sc _ _)
    · refine imp (opP_of (show _ = some ((intA x35.Y), []) from (ldS_ptr (b := ⟨[(intA x35.X), (intA x35.Y)], 35⟩) (by first | rfl | (simp (disch := first | decide | assumption) only [mpushs_nil, mpushs_cons, mget_hd, mget_tl, mget_appW_o, mget_appW_n, mget_appW_e])) rfl))) ?_
      refine imp ex_i64_b ?_
      refine imp (opP_of (show _ = some ((intA k0_1), []) from (ldS_ptr (b := ⟨[(intA k0_0), (intA k0_1)], 35⟩) (by first | rfl | (simp (disch := first | decide | assumption) only [mpushs_nil, mpushs_cons, mget_hd, mget_tl, mget_appW_o, mget_appW_n, mget_appW_e])) rfl))) ?_
      refine imp ex_i64_b ?_
      refine imp (opP_of (show _ = some ((intA x38.Y), []) from (ldS_ptr (b := ⟨[(intA x38.X), (intA x38.Y)], 35⟩) (by first | rfl | (simp (disch := first | decide | assumption) only [mpushs_nil, mpushs_cons, mget_hd, mget_tl, mget_appW_o, mget_appW_n, mget_appW_e])) rfl))) ?_
      refine imp ex_i64_b ?_
      refine imp (opP_of (show _ = some ((intA k0_1), []) from (ldS_ptr (b := ⟨[(intA k0_0), (intA k0_1)], 35⟩) (by first | rfl | (simp (disch := first | decide | assumption) only [mpushs_nil, mpushs_cons, mget_hd, mget_tl, mget_appW_o, mget_appW_n, mget_appW_e])) rfl))) ?_
      refine imp ex_i64_b ?_
      refine imp (opP_of (show _ = some ((boolA (!((decide (x35.Y > k0_1)) == (decide (x38.Y > k0_1))))), []) from (by kernel_rfl))) ?_
      refine imp exB_b ?_
      refine cond_b (fun _ => ?_) (fun _ => ?_)
      · refine imp (opP_of (show _ = some ((AV.agg [(intA x35.X), (intA x35.Y)]), []) from (ldA_ptr (b := ⟨[(intA x35.X), (intA x35.Y)], 35⟩) (by first | rfl | (simp (disch := first | decide | assumption) only [mpushs_nil, mpushs_cons, mget_hd, mget_tl, mget_appW_o, mget_appW_n, mget_appW_e])) rfl))) ?_
        refine imp exA2_b ?_
        refine imp ex_i64_b ?_
        refine imp ex_i64_b ?_
        refine imp (opP_of (show _ = some ((AV.agg [(intA x38.X), (intA x38.Y)]), []) from (ldA_ptr (b := ⟨[(intA x38.X), (intA x38.Y)], 35⟩) (by first | rfl | (simp (disch := first | decide | assumption) only [mpushs_nil, mpushs_cons, mget_hd, mget_tl, mget_appW_o, mget_appW_n, mget_appW_e])) rfl))) ?_
        refine imp exA2_b ?_
        refine imp ex_i64_b ?_
        refine imp ex_i64_b ?_
        refine imp (opP_of (show _ = some ((AV.agg [(intA k0_0), (intA k0_1)]), []) from (ldA_ptr (b := ⟨[(intA k0_0), (intA k0_1)], 35⟩) (by first | rfl | (simp (disch := first | decide | assumption) only [mpushs_nil, mpushs_cons, mget_hd, mget_tl, mget_appW_o, mget_appW_n, mget_appW_e])) rfl))) ?_
        refine imp exA2_b ?_
        refine imp ex_i64_b ?_
        refine imp ex_i64_b ?_
        refine bind_b fun x45 h45 => ?_
        refine imp (callQ_says (sg71 h45)) ?_
        refine imp ex_i64_b ?_
        refine imp (opP_of (show _ = some ((intA x38.Y), []) from (ldS_ptr (b := ⟨[(intA x38.X), (intA x38.Y)], 35⟩) (by first | rfl | (simp (disch := first | decide | assumption) only [mpushs_nil, mpushs_cons, mget_hd, mget_tl, mget_appW_o, mget_appW_n, mget_appW_e])) rfl))) ?_
        refine imp ex_i64_b ?_
        refine imp (opP_of (show _ = some ((intA x35.Y), []) from (ldS_ptr (b := ⟨[(intA x35.X), (intA x35.Y)], 35⟩) (by first | rfl | (simp (disch := first | decide | assumption) only [mpushs_nil, mpushs_cons, mget_hd, mget_tl, mget_appW_o, mget_appW_n, mget_appW_e])) rfl))) ?_
        refine imp ex_i64_b ?_
        refine cond_b (fun _ => ?_) (fun _ => ?_)
        · refine cond_b (fun _ => ?_) (fun _ => ?_)
          · refine imp (opP_of (show _ = some ((intA (IntKind.wrap .i64 (0 - v5))), []) from (by kernel_rfl))) ?_
            refine imp ex_i64_b ?_
            exact fun hg => hN0 _ (Option.some.inj hg).symm _ (weak_mem [(0, 0)] rfl rfl rfl (okW_cons (ent_lst (E := TP.E) _ false) (okW_cons (.inl (leV_refl _)) (okW_cons (.inl (leV_refl _)) (okW_cons (.inl (leV_refl _)) (okW_cons (.inl (leV_refl _)) (okW_cons (.inl (leV_refl _)) okW_nil)))))) (okB_cons (okB_cells (cs := [(intA k0_0), (intA k0_1)]) (ty := 35) rfl (show mget _ 0 = _ from (by first | rfl | (simp (disch := first | decide | assumption) only [mpushs_nil, mpushs_cons, mget_hd, mget_tl, mget_appW_o, mget_appW_n, mget_appW_e])))) okB_nil'))
          · refine imp (opP_of (show _ = some ((intA x38.Y), []) from (ldS_ptr (b := ⟨[(intA x38.X), (intA x38.Y)], 35⟩) (by first | rfl | (simp (disch := first | decide | assumption) only [mpushs_nil, mpushs_cons, mget_hd, mget_tl, mget_appW_o, mget_appW_n, mget_appW_e])) rfl))) ?_
            refine imp ex_i64_b ?_
            refine imp (opP_of (show _ = some ((intA x35.Y), []) from (ldS_ptr (b := ⟨[(intA x35.X), (intA x35.Y)], 35⟩) (by first | rfl | (simp (disch := first | decide | assumption) only [mpushs_nil, mpushs_cons, mget_hd, mget_tl, mget_appW_o, mget_appW_n, mget_appW_e])) rfl))) ?_
            refine imp ex_i64_b ?_
            refine cond_b (fun _ => ?_) (fun _ => ?_)
            · refine cond_b (fun _ => ?_) (fun _ => ?_)
              · refine imp (opP_of (show _ = some ((intA (IntKind.wrap .i64 (0 - v5))), []) from (by kernel_rfl))) ?_
                refine imp ex_i64_b ?_
                exact fun hg => hN0 _ (Option.some.inj hg).symm _ (weak_mem [(0, 0)] rfl rfl rfl (okW_cons (ent_lst (E := TP.E) _ false) (okW_cons (.inl (leV_refl _)) (okW_cons (.inl (leV_refl _)) (okW_cons (.inl (leV_refl _)) (okW_cons (.inl (leV_refl _)) (okW_cons (.inl (leV_refl _)) okW_nil)))))) (okB_cons (okB_cells (cs := [(intA k0_0), (intA k0_1)]) (ty := 35) rfl (show mget _ 0 = _ from (by first | rfl | (simp (disch := first | decide | assumption) only [mpushs_nil, mpushs_cons, mget_hd, mget_tl, mget_appW_o, mget_appW_n, mget_appW_e])))) okB_nil'))
              · exact fun hg => hN0 _ (Option.some.inj hg).symm _ (weak_mem [(0, 0)] rfl rfl rfl (okW_cons (ent_lst (E := TP.E) _ false) (okW_cons (.inl (leV_refl _)) (okW_cons (.inl (leV_refl _)) (okW_cons (.inl (leV_refl _)) (okW_cons (.inl (leV_refl _)) (okW_cons (.inl (leV_refl _)) okW_nil)))))) (okB_cons (okB_cells (cs := [(intA k0_0), (intA k0_1)]) (ty := 35) rfl (show mget _ 0 = _ from (by first | rfl | (simp (disch := first | decide | assumption) only [mpushs_nil, mpushs_cons, mget_hd, mget_tl, mget_appW_o, mget_appW_n, mget_appW_e])))) okB_nil'))
            · exact fun hg => hN0 _ (Option.some.inj hg).symm _ (weak_mem [(0, 0)] rfl rfl rfl (okW_cons (ent_lst (E := TP.E) _ false) (okW_cons (.inl (leV_refl _)) (okW_cons (.inl (leV_refl _)) (okW_cons (.inl (leV_refl _)) (okW_cons (.inl (leV_refl _)) (okW_cons (.inl (leV_refl _)) okW_nil)))))) (okB_cons (okB_cells (cs := [(intA k0_0), (intA k0_1)]) (ty := 35) rfl (show mget _ 0 = _ from (by first | rfl | (simp (disch := first | decide | assumption) only [mpushs_nil, mpushs_cons, mget_hd, mget_tl, mget_appW_o, mget_appW_n, mget_appW_e])))) okB_nil'))
        · refine imp (opP_of (show _ = some ((intA x38.Y), []) from (ldS_ptr (b := ⟨[(intA x38.X), (intA x38.Y)], 35⟩) (by first | rfl | (simp (disch := first | decide | assumption) only [mpushs_nil, mpushs_cons, mget_hd, mget_tl, mget_appW_o, mget_appW_n, mget_appW_e])) rfl))) ?_
          refine imp ex_i64_b ?_
          refine imp (opP_of (show _ = some ((intA x35.Y), []) from (ldS_ptr (b := ⟨[(intA x35.X), (intA x35.Y)], 35⟩) (by first | rfl | (simp (disch := first | decide | assumption) only [mpushs_nil, mpushs_cons, mget_hd, mget_tl, mget_appW_o, mget_appW_n, mget_appW_e])) rfl))) ?_
          refine imp ex_i64_b ?_
          refine cond_b (fun _ => ?_) (fun _ => ?_)
          · refine cond_b (fun _ => ?_) (fun _ => ?_)
            · refine imp (opP_of (show _ = some ((intA (IntKind.wrap .i64 (0 - v5))), []) from (by kernel_rfl))) ?_
              refine imp ex_i64_b ?_
              exact fun hg => hN0 _ (Option.some.inj hg).symm _ (weak_mem [(0, 0)] rfl rfl rfl (okW_cons (ent_lst (E := TP.E) _ false) (okW_cons (.inl (leV_refl _)) (okW_cons (.inl (leV_refl _)) (okW_cons (.inl (leV_refl _)) (okW_cons (.inl (leV_refl _)) (okW_cons (.inl (leV_refl _)) okW_nil)))))) (okB_cons (okB_cells (cs := [(intA k0_0), (intA k0_1)]) (ty := 35) rfl (show mget _ 0 = _ from (by first | rfl | (simp (disch := first | decide | assumption) only [mpushs_nil, mpushs_cons, mget_hd, mget_tl, mget_appW_o, mget_appW_n, mget_appW_e])))) okB_nil'))
            · exact fun hg => hN0 _ (Option.some.inj hg).symm _ (weak_mem [(0, 0)] rfl rfl rfl (okW_cons (ent_lst (E := TP.E) _ false) (okW_cons (.inl (leV_refl _)) (okW_cons (.inl (leV_refl _)) (okW_cons (.inl (leV_refl _)) (okW_cons (.inl (leV_refl _)) (okW_cons (.inl (leV_refl _)) okW_nil)))))) (okB_cons (okB_cells (cs := [(intA k0_0), (intA k0_1)]) (ty := 35) rfl (show mget _ 0 = _ from (by first | rfl | (simp (disch := first | decide | assumption) only [mpushs_nil, mpushs_cons, mget_hd, mget_tl, mget_appW_o, mget_appW_n, mget_appW_e])))) okB_nil'))
          · exact fun hg => hN0 _ (Option.some.inj hg).symm _ (weak_mem [(0, 0)] rfl rfl rfl (okW_cons (ent_lst (E := TP.E) _ false) (okW_cons (.inl (leV_refl _)) (okW_cons (.inl (leV_refl _)) (okW_cons (.inl (leV_refl _)) (okW_cons (.inl (leV_refl _)) (okW_cons (.inl (leV_refl _)) okW_nil)))))) (okB_cons (okB_cells (cs := [(intA k0_0), (intA k0_1)]) (ty := 35) rfl (show mget _ 0 = _ from (by first | rfl | (simp (disch := first | decide | assumption) only [mpushs_nil, mpushs_cons, mget_hd, mget_tl, mget_appW_o, mget_appW_n, mget_appW_e])))) okB_nil'))
      · exact fun hg => hN0 _ (Option.some.inj hg).symm _ (weak_mem [(0, 0)] rfl rfl rfl (okW_cons (ent_lst (E := TP.E) _ false) (okW_cons (.inl (leV_refl _)) (okW_cons (.inl (leV_refl _)) (okW_cons (.inl (leV_refl _)) (okW_cons (.inl (leV_refl _)) (okW_cons (.inl (leV_refl _)) okW_nil)))))) (okB_cons (okB_cells (cs := [(intA k0_0), (intA k0_1)]) (ty := 35) rfl (show mget _ 0 = _ from (by first | rfl | (simp (disch := first | decide | assumption) only [mpushs_nil, mpushs_cons, mget_hd, mget_tl, mget_appW_o, mget_appW_n, mget_appW_e])))) okB_nil'))
  · exact fun hg => ret1 (hR _ (Option.some.inj hg).symm) (fz_sc _ _)
theorem L76_0_ok (n : Nat) (a0 : List TP) (c4 : Int) (c11 : Int) (k0_0 : Int) (k0_1 : Int) {t : ρ76} (R : AV → Mem → Prop) (hR : ∀ r : ρ76, t = r → ∀ u m, Ans ((intA r)) u m → R u m) (k : Nat) (x : Int × Int) (hx : iterO (fun y : Int × Int => S76_0 n a0 c4 c11 k0_0 k0_1 y.1 y.2) k x = some t) {s : St} (hw : Weak KK 65 0 s (h76_0 (lstA TP.E a0) c4 x.1 c11 x.2 k0_0 k0_1 [])) : Tri Try.prog KK 65 0 (.loop c76_0) s (q76_0 R ) :=
  L76_0 R  (σ := Nat × (Int × Int)) (fun z => iterO (fun y : Int × Int => S76_0 n a0 c4 c11 k0_0 k0_1 y.1 y.2) z.1 z.2 = some t) (fun z => (lstA TP.E a0)) (fun z => c4) (fun z => z.2.1) (fun z => c11) (fun z => z.2.2) (fun z => k0_0) (fun z => k0_1) (fun z => []) (fun z => z.1) (by
    rintro ⟨k, y⟩ h
    cases k with
    | zero => exact (iterO_zero h).elim
    | succ k =>
      obtain ⟨u, h1, h2, h3⟩ := iterO_elim h
      exact B76_0_ok n a0 c4 c11 k0_0 k0_1 y.1 y.2 R  _ (fun r e => hR r (h3 _ e).symm)  (fun y' e s' hw => ⟨(k, y'), h2 _ e, Nat.lt_succ_self k, hw⟩) h1) (k, x) hx hw
theorem g76_ok (n : Nat) (a0 : List TP) (a1 : TP) {t : ρ76} (R : AV → Mem → Prop) (hR : ∀ r : ρ76, t = r → ∀ u m, Ans ((intA r)) u m → R u m) : g76 n a0 a1 = some t → F76 (lstA TP.E a0) a1.X a1.Y R := by
  unfold g76 F76
  refine imp (opP_of (show _ = some ((intA (a0.length : Int)), []) from rfl)) ?_
  refine imp ex_i64_b ?_
  exact fun hg => L76_0_ok n a0 (0) (a0.length : Int) a1.X a1.Y R  hR n _ hg (weak_mem [(0, 0)] rfl rfl rfl (okW_cons (ent_lst (E := TP.E) _ false) (okW_cons (.inl (leV_refl _)) (okW_cons (.inl (leV_refl _)) (okW_cons (.inl (leV_refl _)) (okW_cons (.inl (leV_refl _)) (okW_cons (.inl (leV_refl _)) okW_nil)))))) (okB_cons (okB_cells (cs := [(intA a1.X), (intA a1.Y)]) (ty := 35) rfl (show mget _ 0 = _ from (by first | rfl | (simp (disch := first | decide | assumption) only [mpushs_nil, mpushs_cons, mget_hd, mget_tl, mget_appW_o, mget_appW_n, mget_appW_e])))) okB_nil'))
theorem sg76 {n : Nat} {a0 : List TP} {a1 : TP} {t : ρ76} (h : g76 n a0 a1 = some t) : Says Try.prog KK.gl 76 [(lstA TP.E a0), (AV.agg [(intA a1.X), (intA a1.Y)])] ((intA t)) :=
  says_of_own (by first | rfl | simp [cleans, clean, encs_clean, En.cln]) (by first | rfl | simp [cleans, clean, encs_clean, En.cln]) (F76_own (lstA TP.E a0) a1.X a1.Y _ (g76_ok n a0 a1 (Ans ((intA t))) (fun r e u m h => by rw [e]; exact h) h))
/- skyway/volume.Contains -/
theorem g58_ok (n : Nat) (a0 : TVolume) (a1 : TP) (a2 : Int) {t : ρ58} (R : AV → Mem → Prop) (hR : ∀ r : ρ58, t = r → ∀ u m, Ans ((boolA r)) u m → R u m) : g58 n a0 a1 a2 = some t → F58 (lstA TP.E a0.Area) a0.Low a0.High a1.X a1.Y a2 R := by
  unfold g58 F58
  refine imp (chk_of rfl) ?_
  refine cond_b (fun _ => ?_) (fun _ => ?_)
  · refine cond_b (fun _ => ?_) (fun _ => ?_)
    · refine bind_b fun x46 h46 => ?_
      refine imp (callQ_says (sg76 h46)) ?_
      refine imp ex_i64_b ?_
      exact fun hg => ret1 (hR _ (Option.some.inj hg).symm) (fz_sc _ _)
    · exact fun hg => ret1 (hR _ (Option.some.inj hg).symm) (fz_sc _ _)
  · exact fun hg => ret1 (hR _ (Option.some.inj hg).symm) (fz_sc _ _)
theorem sg58 {n : Nat} {a0 : TVolume} {a1 : TP} {a2 : Int} {t : ρ58} (h : g58 n a0 a1 a2 = some t) : Says Try.prog KK.gl 58 [(AV.agg [(lstA TP.E a0.Area), (intA a0.Low), (intA a0.High)]), (AV.agg [(intA a1.X), (intA a1.Y)]), (intA a2)] ((boolA t)) :=
  says_of_own (by first | rfl | simp [cleans, clean, encs_clean, En.cln]) (by first | rfl | simp [cleans, clean, encs_clean, En.cln]) (F58_own (lstA TP.E a0.Area) a0.Low a0.High a1.X a1.Y a2 _ (g58_ok n a0 a1 a2 (Ans ((boolA t))) (fun r e u m h => by rw [e]; exact h) h))
/- skyway/sector.Place$1$1 -/
theorem g57_ok (n : Nat) (a0 : TVolume) (a1_0 : Int) (a1_1 : Int) (a2_0 : Int) {t : ρ57} (R : AV → Mem → Prop) (hR : ∀ r : ρ57, t = r → ∀ u m, Ans ((boolA r)) u m → R u m) : g57 n a0 a1_0 a1_1 a2_0 = some t → F57 (lstA TP.E a0.Area) a0.Low a0.High (AV.ept [(intA a1_0), (intA a1_1)] 0) (AV.ept [(intA a2_0)] 0) R := by
  unfold g57 F57
  refine imp (chk_of rfl) ?_
  refine imp (opP_of (show _ = some ((AV.agg [(intA a1_0), (intA a1_1)]), []) from rfl)) ?_
  refine imp exA2_b ?_
  refine imp ex_i64_b ?_
  refine imp ex_i64_b ?_
  refine imp (opP_of (show _ = some ((intA a2_0), []) from rfl)) ?_
  refine imp ex_i64_b ?_
  refine bind_b fun x47 h47 => ?_
  refine imp (callQ_says (sg58 h47)) ?_
  refine imp exB_b ?_
  exact fun hg => ret1 (hR _ (Option.some.inj hg).symm) (fz_sc _ _)
theorem sg57 {n : Nat} {a0 : TVolume} {a1_0 : Int} {a1_1 : Int} {a2_0 : Int} {t : ρ57} (h : g57 n a0 a1_0 a1_1 a2_0 = some t) : Says Try.prog KK.gl 57 [(AV.agg [(lstA TP.E a0.Area), (intA a0.Low), (intA a0.High)]), (AV.ept [(intA a1_0), (intA a1_1)] 0), (AV.ept [(intA a2_0)] 0)] ((boolA t)) :=
  says_of_own (by first | rfl | simp [cleans, clean, encs_clean, En.cln]) (by first | rfl | simp [cleans, clean, encs_clean, En.cln]) (F57_own (lstA TP.E a0.Area) a0.Low a0.High (AV.ept [(intA a1_0), (intA a1_1)] 0) (AV.ept [(intA a2_0)] 0) _ (g57_ok n a0 a1_0 a1_1 a2_0 (Ans ((boolA t))) (fun r e u m h => by rw [e]; exact h) h))
/- slices.IndexFunc[[]skyway/api.Volume,skyway/api.Volume] -/
theorem B75_0_ok (n : Nat) (a0 : List TVolume) (a1_0_0 : Int) (a1_0_1 : Int) (a1_1_0 : Int) (c4 : Int) (c7 : Int) (v8 : Int) {t : (Int) ⊕ ρ75} (R : AV → Mem → Prop) (N0 : St → Prop) (hR : ∀ r : ρ75, t = (.inr r) → ∀ u m, Ans ((intA r)) u m → R u m) (hN0 : ∀ y : Int, t = (.inl y) → ∀ s' : St, Weak KK 19 0 s' (h75_0 (lstA TVolume.E a0) (AV.fn 57 [(AV.ept [(intA a1_0_0), (intA a1_0_1)] 0), (AV.ept [(intA a1_1_0)] 0)]) c4 c7 y []) → N0 s') : S75_0 n a0 a1_0_0 a1_0_1 a1_1_0 c4 c7 v8 = some t → B75_0 (lstA TVolume.E a0) (AV.fn 57 [(AV.ept [(intA a1_0_0), (intA a1_0_1)] 0), (AV.ept [(intA a1_1_0)] 0)]) c4 c7 v8 [] R N0 := by
  unfold S75_0 B75_0
  refine cond_b (fun _ => ?_) (fun _ => ?_)
  · refine bind_b fun x34 h34 => ?_
    refine imp (opP_of (show _ = some ((AV.ept [(lstA TP.E x34.Area), (intA x34.Low), (intA x34.High)] 0), []) from (idx_lst (E := TVolume.E) rfl h34))) ?_
    refine imp (opP_of (show _ = some ((AV.agg [(lstA TP.E x34.Area), (intA x34.Low), (intA x34.High)]), []) from rfl)) ?_
    refine imp exA3_b ?_
    refine imp ex_i64_b ?_
    refine imp ex_i64_b ?_
    refine bind_b fun x48 h48 => ?_
    refine imp fnArgs_b ?_
    refine imp (cond_ff rfl) ?_
    refine imp (callW_says (sg57 h48)) ?_
    refine imp exB_b ?_
    refine cond_b (fun _ => ?_) (fun _ => ?_)
    · exact fun hg => ret1 (hR _ (Option.some.inj hg).symm) (fz_sc _ _)
    · exact fun hg => hN0 _ (Option.some.inj hg).symm _ (weak_mem [] rfl rfl rfl (okW_cons (ent_lst (E := TVolume.E) _ false) (okW_cons (ent_clean (leV_refl _) (by simp [clean, cleans, encs_clean])) (okW_cons (.inl (leV_refl _)) (okW_cons (.inl (leV_refl _)) (okW_cons (.inl (leV_refl _)) okW_nil))))) okB_nil')
  · exact fun hg => ret1 (hR _ (Option.some.inj hg).symm) (fz_sc _ _)
theorem L75_0_ok (n : Nat) (a0 : List TVolume) (a1_0_0 : Int) (a1_0_1 : Int) (a1_1_0 : Int) (c4 : Int) (c7 : Int) {t : ρ75} (R : AV → Mem → Prop) (hR : ∀ r : ρ75, t = r → ∀ u m, Ans ((intA r)) u m → R u m) (k : Nat) (x : Int) (hx : iterO (fun y : Int => S75_0 n a0 a1_0_0 a1_0_1 a1_1_0 c4 c7 y) k x = some t) {s : St} (hw : Weak KK 19 0 s (h75_0 (lstA TVolume.E a0) (AV.fn 57 [(AV.ept [(intA a1_0_0), (intA a1_0_1)] 0), (AV.ept [(intA a1_1_0)] 0)]) c4 c7 x [])) : Tri Try.prog KK 19 0 (.loop c75_0) s (q75_0 R ) :=
  L75_0 R  (σ := Nat × (Int)) (fun z => iterO (fun y : Int => S75_0 n a0 a1_0_0 a1_0_1 a1_1_0 c4 c7 y) z.1 z.2 = some t) (fun z => (lstA TVolume.E a0)) (fun z => (AV.fn 57 [(AV.ept [(intA a1_0_0), (intA a1_0_1)] 0), (AV.ept [(intA a1_1_0)] 0)])) (fun z => c4) (fun z => c7) (fun z => z.2) (fun z => []) (fun z => z.1) (by
    rintro ⟨k, y⟩ h
    cases k with
    | zero => exact (iterO_zero h).elim
    | succ k =>
      obtain ⟨u, h1, h2, h3⟩ := iterO_elim h
      exact B75_0_ok n a0 a1_0_0 a1_0_1 a1_1_0 c4 c7 y R  _ (fun r e => hR r (h3 _ e).symm)  (fun y' e s' hw => ⟨(k, y'), h2 _ e, Nat.lt_succ_self k, hw⟩) h1) (k, x) hx hw
theorem g75_ok (n : Nat) (a0 : List TVolume) (a1_0_0 : Int) (a1_0_1 : Int) (a1_1_0 : Int) {t : ρ75} (R : AV → Mem → Prop) (hR : ∀ r : ρ75, t = r → ∀ u m, Ans ((intA r)) u m → R u m) : g75 n a0 a1_0_0 a1_0_1 a1_1_0 = some t → F75 (lstA TVolume.E a0) (AV.fn 57 [(AV.ept [(intA a1_0_0), (intA a1_0_1)] 0), (AV.ept [(intA a1_1_0)] 0)]) R := by
  unfold g75 F75
  refine imp (opP_of (show _ = some ((intA (a0.length : Int)), []) from rfl)) ?_
  refine imp ex_i64_b ?_
  exact fun hg => L75_0_ok n a0 a1_0_0 a1_0_1 a1_1_0 (0) (a0.length : Int) R  hR n _ hg (weak_mem [] rfl rfl rfl (okW_cons (ent_lst (E := TVolume.E) _ false) (okW_cons (ent_clean (leV_refl _) (by simp [clean, cleans, encs_clean])) (okW_cons (.inl (leV_refl _)) (okW_cons (.inl (leV_refl _)) (okW_cons (.inl (leV_refl _)) okW_nil))))) okB_nil')
theorem sg75 {n : Nat} {a0 : List TVolume} {a1_0_0 : Int} {a1_0_1 : Int} {a1_1_0 : Int} {t : ρ75} (h : g75 n a0 a1_0_0 a1_0_1 a1_1_0 = some t) : Says Try.prog KK.gl 75 [(lstA TVolume.E a0), (AV.fn 57 [(AV.ept [(intA a1_0_0), (intA a1_0_1)] 0), (AV.ept [(intA a1_1_0)] 0)])] ((intA t)) :=
  says_of_own (by first | rfl | simp [cleans, clean, encs_clean, En.cln]) (by first | rfl | simp [cleans, clean, encs_clean, En.cln]) (F75_own (lstA TVolume.E a0) (AV.fn 57 [(AV.ept [(intA a1_0_0), (intA a1_0_1)] 0), (AV.ept [(intA a1_1_0)] 0)]) _ (g75_ok n a0 a1_0_0 a1_0_1 a1_1_0 (Ans ((intA t))) (fun r e u m h => by rw [e]; exact h) h))
/- slices.ContainsFunc[[]skyway/api.Volume,skyway/api.Volume] -/
theorem g56_ok (n : Nat) (a0 : List TVolume) (a1_0_0 : Int) (a1_0_1 : Int) (a1_1_0 : Int) {t : ρ56} (R : AV → Mem → Prop) (hR : ∀ r : ρ56, t = r → ∀ u m, Ans ((boolA r)) u m → R u m) : g56 n a0 a1_0_0 a1_0_1 a1_1_0 = some t → F56 (lstA TVolume.E a0) (AV.fn 57 [(AV.ept [(intA a1_0_0), (intA a1_0_1)] 0), (AV.ept [(intA a1_1_0)] 0)]) R := by
  unfold g56 F56
  refine bind_b fun x49 h49 => ?_
  refine imp (callQ_says (sg75 h49)) ?_
  refine imp ex_i64_b ?_
  exact fun hg => ret1 (hR _ (Option.some.inj hg).symm) (fz_sc _ _)
theorem sg56 {n : Nat} {a0 : List TVolume} {a1_0_0 : Int} {a1_0_1 : Int} {a1_1_0 : Int} {t : ρ56} (h : g56 n a0 a1_0_0 a1_0_1 a1_1_0 = some t) : Says Try.prog KK.gl 56 [(lstA TVolume.E a0), (AV.fn 57 [(AV.ept [(intA a1_0_0), (intA a1_0_1)] 0), (AV.ept [(intA a1_1_0)] 0)])] ((boolA t)) :=
  says_of_own (by first | rfl | simp [cleans, clean, encs_clean, En.cln]) (by first | rfl | simp [cleans, clean, encs_clean, En.cln]) (F56_own (lstA TVolume.E a0) (AV.fn 57 [(AV.ept [(intA a1_0_0), (intA a1_0_1)] 0), (AV.ept [(intA a1_1_0)] 0)]) _ (g56_ok n a0 a1_0_0 a1_0_1 a1_1_0 (Ans ((boolA t))) (fun r e u m h => by rw [e]; exact h) h))
/- skyway/sector.Place$1 -/
theorem g55_ok (n : Nat) (a0 : TSector) (a1_0 : Int) (a1_1 : Int) (a2_0 : Int) {t : ρ55} (R : AV → Mem → Prop) (hR : ∀ r : ρ55, t = r → ∀ u m, Ans ((boolA r)) u m → R u m) : g55 n a0 a1_0 a1_1 a2_0 = some t → F55 a0.Name (lstA TVolume.E a0.Room) (AV.ept [(intA a1_0), (intA a1_1)] 0) (AV.ept [(intA a2_0)] 0) R := by
  unfold g55 F55
  refine imp (chk_of rfl) ?_
  refine bind_b fun x50 h50 => ?_
  refine imp (callQ_says (sg56 h50)) ?_
  refine imp exB_b ?_
  exact fun hg => ret1 (hR _ (Option.some.inj hg).symm) (fz_sc _ _)
theorem sg55 {n : Nat} {a0 : TSector} {a1_0 : Int} {a1_1 : Int} {a2_0 : Int} {t : ρ55} (h : g55 n a0 a1_0 a1_1 a2_0 = some t) : Says Try.prog KK.gl 55 [(AV.agg [(strA a0.Name), (lstA TVolume.E a0.Room)]), (AV.ept [(intA a1_0), (intA a1_1)] 0), (AV.ept [(intA a2_0)] 0)] ((boolA t)) :=
  says_of_own (by first | rfl | simp [cleans, clean, encs_clean, En.cln]) (by first | rfl | simp [cleans, clean, encs_clean, En.cln]) (F55_own a0.Name (lstA TVolume.E a0.Room) (AV.ept [(intA a1_0), (intA a1_1)] 0) (AV.ept [(intA a2_0)] 0) _ (g55_ok n a0 a1_0 a1_1 a2_0 (Ans ((boolA t))) (fun r e u m h => by rw [e]; exact h) h))
/- slices.IndexFunc[[]skyway/api.Sector,skyway/api.Sector] -/
theorem B54_0_ok (n : Nat) (a0 : List TSector) (a1_0_0 : Int) (a1_0_1 : Int) (a1_1_0 : Int) (c4 : Int) (c7 : Int) (v8 : Int) {t : (Int) ⊕ ρ54} (R : AV → Mem → Prop) (N0 : St → Prop) (hR : ∀ r : ρ54, t = (.inr r) → ∀ u m, Ans ((intA r)) u m → R u m) (hN0 : ∀ y : Int, t = (.inl y) → ∀ s' : St, Weak KK 19 0 s' (h54_0 (lstA TSector.E a0) (AV.fn 55 [(AV.ept [(intA a1_0_0), (intA a1_0_1)] 0), (AV.ept [(intA a1_1_0)] 0)]) c4 c7 y []) → N0 s') : S54_0 n a0 a1_0_0 a1_0_1 a1_1_0 c4 c7 v8 = some t → B54_0 (lstA TSector.E a0) (AV.fn 55 [(AV.ept [(intA a1_0_0), (intA a1_0_1)] 0), (AV.ept [(intA a1_1_0)] 0)]) c4 c7 v8 [] R N0 := by
  unfold S54_0 B54_0
  refine cond_b (fun _ => ?_) (fun _ => ?_)
  · refine bind_b fun x33 h33 => ?_
    refine imp (opP_of (show _ = some ((AV.ept [(strA x33.Name), (lstA TVolume.E x33.Room)] 0), []) from (idx_lst (E := TSector.E) rfl h33))) ?_
    refine imp (opP_of (show _ = some ((AV.agg [(strA x33.Name), (lstA TVolume.E x33.Room)]), []) from rfl)) ?_
    refine imp exA2_b ?_
    refine imp exStr_b ?_
    refine bind_b fun x51 h51 => ?_
    refine imp fnArgs_b ?_
    refine imp (cond_ff rfl) ?_
    refine imp (callW_says (sg55 h51)) ?_
    refine imp exB_b ?_
    refine cond_b (fun _ => ?_) (fun _ => ?_)
    · exact fun hg => ret1 (hR _ (Option.some.inj hg).symm) (fz_sc _ _)
    · exact fun hg => hN0 _ (Option.some.inj hg).symm _ (weak_mem [] rfl rfl rfl (okW_cons (ent_lst (E := TSector.E) _ false) (okW_cons (ent_clean (leV_refl _) (by simp [clean, cleans, encs_clean])) (okW_cons (.inl (leV_refl _)) (okW_cons (.inl (leV_refl _)) (okW_cons (.inl (leV_refl _)) okW_nil))))) okB_nil')
  · exact fun hg => ret1 (hR _ (Option.some.inj hg).symm) (fz_sc _ _)
theorem L54_0_ok (n : Nat) (a0 : List TSector) (a1_0_0 : Int) (a1_0_1 : Int) (a1_1_0 : Int) (c4 : Int) (c7 : Int) {t : ρ54} (R : AV → Mem → Prop) (hR : ∀ r : ρ54, t = r → ∀ u m, Ans ((intA r)) u m → R u m) (k : Nat) (x : Int) (hx : iterO (fun y : Int => S54_0 n a0 a1_0_0 a1_0_1 a1_1_0 c4 c7 y) k x = some t) {s : St} (hw : Weak KK 19 0 s (h54_0 (lstA TSector.E a0) (AV.fn 55 [(AV.ept [(intA a1_0_0), (intA a1_0_1)] 0), (AV.ept [(intA a1_1_0)] 0)]) c4 c7 x [])) : Tri Try.prog KK 19 0 (.loop c54_0) s (q54_0 R ) :=
  L54_0 R  (σ := Nat × (Int)) (fun z => iterO (fun y : Int => S54_0 n a0 a1_0_0 a1_0_1 a1_1_0 c4 c7 y) z.1 z.2 = some t) (fun z => (lstA TSector.E a0)) (fun z => (AV.fn 55 [(AV.ept [(intA a1_0_0), (intA a1_0_1)] 0), (AV.ept [(intA a1_1_0)] 0)])) (fun z => c4) (fun z => c7) (fun z => z.2) (fun z => []) (fun z => z.1) (by
    rintro ⟨k, y⟩ h
    cases k with
    | zero => exact (iterO_zero h).elim
    | succ k =>
      obtain ⟨u, h1, h2, h3⟩ := iterO_elim h
      exact B54_0_ok n a0 a1_0_0 a1_0_1 a1_1_0 c4 c7 y R  _ (fun r e => hR r (h3 _ e).symm)  (fun y' e s' hw => ⟨(k, y'), h2 _ e, Nat.lt_succ_self k, hw⟩) h1) (k, x) hx hw
theorem g54_ok (n : Nat) (a0 : List TSector) (a1_0_0 : Int) (a1_0_1 : Int) (a1_1_0 : Int) {t : ρ54} (R : AV → Mem → Prop) (hR : ∀ r : ρ54, t = r → ∀ u m, Ans ((intA r)) u m → R u m) : g54 n a0 a1_0_0 a1_0_1 a1_1_0 = some t → F54 (lstA TSector.E a0) (AV.fn 55 [(AV.ept [(intA a1_0_0), (intA a1_0_1)] 0), (AV.ept [(intA a1_1_0)] 0)]) R := by
  unfold g54 F54
  refine imp (opP_of (show _ = some ((intA (a0.length : Int)), []) from rfl)) ?_
  refine imp ex_i64_b ?_
  exact fun hg => L54_0_ok n a0 a1_0_0 a1_0_1 a1_1_0 (0) (a0.length : Int) R  hR n _ hg (weak_mem [] rfl rfl rfl (okW_cons (ent_lst (E := TSector.E) _ false) (okW_cons (ent_clean (leV_refl _) (by simp [clean, cleans, encs_clean])) (okW_cons (.inl (leV_refl _)) (okW_cons (.inl (leV_refl _)) (okW_cons (.inl (leV_refl _)) okW_nil))))) okB_nil')
theorem sg54 {n : Nat} {a0 : List TSector} {a1_0_0 : Int} {a1_0_1 : Int} {a1_1_0 : Int} {t : ρ54} (h : g54 n a0 a1_0_0 a1_0_1 a1_1_0 = some t) : Says Try.prog KK.gl 54 [(lstA TSector.E a0), (AV.fn 55 [(AV.ept [(intA a1_0_0), (intA a1_0_1)] 0), (AV.ept [(intA a1_1_0)] 0)])] ((intA t)) :=
  says_of_own (by first | rfl | simp [cleans, clean, encs_clean, En.cln]) (by first | rfl | simp [cleans, clean, encs_clean, En.cln]) (F54_own (lstA TSector.E a0) (AV.fn 55 [(AV.ept [(intA a1_0_0), (intA a1_0_1)] 0), (AV.ept [(intA a1_1_0)] 0)]) _ (g54_ok n a0 a1_0_0 a1_0_1 a1_1_0 (Ans ((intA t))) (fun r e u m h => by rw [e]; exact h) h))
/- skyway/sector.Place -/
theorem g32_ok (n : Nat) (a0 : List TSector) (a1 : TP) (a2 : Int) {t : ρ32} (R : AV → Mem → Prop) (hR : ∀ r : ρ32, t = r → ∀ u m, Ans ((intA r)) u m → R u m) : g32 n a0 a1 a2 = some t → F32 (lstA TSector.E a0) a1.X a1.Y a2 R := by
  unfold g32 F32
  refine bind_b fun x52 h52 => ?_
  refine imp (callQ_pure (pure_snapN (snL_cons (sn_lst (E := TSector.E) _ _ false) (snL_cons (sn_fn _ _ (snL_cons (sn_ptr _ (ty := 35) (us := [(intA a1.X), (intA a1.Y)]) (by first | rfl | (simp (disch := first | decide | assumption) only [mpushs_nil, mpushs_cons, mget_hd, mget_tl, mget_appW_o, mget_appW_n, mget_appW_e])) (snL_cons (sn_sc _ _) (snL_cons (sn_sc _ _) snL_nil))) (snL_cons (sn_ptr _ (ty := 3) (us := [(intA a2)]) (by first | rfl | (simp (disch := first | decide | assumption) only [mpushs_nil, mpushs_cons, mget_hd, mget_tl, mget_appW_o, mget_appW_n, mget_appW_e])) (snL_cons (sn_sc _ _) snL_nil)) snL_nil))) snL_nil)) (sg54 h52) rfl)) ?_
  refine imp ex_i64_b ?_
  exact fun hg => ret1 (hR _ (Option.some.inj hg).symm) (fz_sc _ _)
theorem sg32 {n : Nat} {a0 : List TSector} {a1 : TP} {a2 : Int} {t : ρ32} (h : g32 n a0 a1 a2 = some t) : Says Try.prog KK.gl 32 [(lstA TSector.E a0), (AV.agg [(intA a1.X), (intA a1.Y)]), (intA a2)] ((intA t)) :=
  says_of_own (by first | rfl | simp [cleans, clean, encs_clean, En.cln]) (by first | rfl | simp [cleans, clean, encs_clean, En.cln]) (F32_own (lstA TSector.E a0) a1.X a1.Y a2 _ (g32_ok n a0 a1 a2 (Ans ((intA t))) (fun r e u m h => by rw [e]; exact h) h))
/- skyway/chart.Name -/
theorem B50_0_ok (n : Nat) (c2 : Bool) (c14 : List UInt8) (c15 : Int) (v16 : Int) {t : (Int) ⊕ ρ50} (R : AV → Mem → Prop) (N0 : St → Prop) (hR : ∀ r : ρ50, t = (.inr r) → ∀ u m, Ans ((boolA r)) u m → R u m) (hN0 : ∀ y : Int, t = (.inl y) → ∀ s' : St, Weak KK 41 0 s' (h50_0 c2 (lstA byteE c14) c15 y []) → N0 s') : S50_0 n c2 c14 c15 v16 = some t → B50_0 c2 (lstA byteE c14) c15 v16 [] R N0 := by
  unfold S50_0 B50_0
  refine cond_b (fun _ => ?_) (fun _ => ?_)
  · refine bind_b fun x55 h55 => ?_
    refine imp (opP_of (show _ = some ((AV.ept [(AV.sc (.int .u8 (x55.toNat : Int)))] 0), []) from (idx_lst (E := byteE) rfl h55))) ?_
    refine imp (opP_of (show _ = some ((AV.sc (.int .u8 (x55.toNat : Int))), []) from rfl)) ?_
    refine imp ex_u8_b ?_
    refine cond_b (fun _ => ?_) (fun _ => ?_)
    · refine cond_b (fun _ => ?_) (fun _ => ?_)
      · exact fun hg => hN0 _ (Option.some.inj hg).symm _ (weak_mem [] rfl rfl rfl (okW_cons (.inl (leV_refl _)) (okW_cons (ent_lst (E := byteE) _ false) (okW_cons (.inl (leV_refl _)) (okW_cons (.inl (leV_refl _)) okW_nil)))) okB_nil')
      · refine cond_b (fun _ => ?_) (fun _ => ?_)
        · refine cond_b (fun _ => ?_) (fun _ => ?_)
          · refine cond_b (fun _ => ?_) (fun _ => ?_)
            · exact fun hg => ret1 (hR _ (Option.some.inj hg).symm) (fz_sc _ _)
            · exact fun hg => hN0 _ (Option.some.inj hg).symm _ (weak_mem [] rfl rfl rfl (okW_cons (.inl (leV_refl _)) (okW_cons (ent_lst (E := byteE) _ false) (okW_cons (.inl (leV_refl _)) (okW_cons (.inl (leV_refl _)) okW_nil)))) okB_nil')
          · exact fun hg => ret1 (hR _ (Option.some.inj hg).symm) (fz_sc _ _)
        · exact fun hg => ret1 (hR _ (Option.some.inj hg).symm) (fz_sc _ _)
    · refine cond_b (fun _ => ?_) (fun _ => ?_)
      · refine cond_b (fun _ => ?_) (fun _ => ?_)
        · refine cond_b (fun _ => ?_) (fun _ => ?_)
          · exact fun hg => ret1 (hR _ (Option.some.inj hg).symm) (fz_sc _ _)
          · exact fun hg => hN0 _ (Option.some.inj hg).symm _ (weak_mem [] rfl rfl rfl (okW_cons (.inl (leV_refl _)) (okW_cons (ent_lst (E := byteE) _ false) (okW_cons (.inl (leV_refl _)) (okW_cons (.inl (leV_refl _)) okW_nil)))) okB_nil')
        · exact fun hg => ret1 (hR _ (Option.some.inj hg).symm) (fz_sc _ _)
      · exact fun hg => ret1 (hR _ (Option.some.inj hg).symm) (fz_sc _ _)
  · exact fun hg => ret1 (hR _ (Option.some.inj hg).symm) (fz_sc _ _)
theorem L50_0_ok (n : Nat) (c2 : Bool) (c14 : List UInt8) (c15 : Int) {t : ρ50} (R : AV → Mem → Prop) (hR : ∀ r : ρ50, t = r → ∀ u m, Ans ((boolA r)) u m → R u m) (k : Nat) (x : Int) (hx : iterO (fun y : Int => S50_0 n c2 c14 c15 y) k x = some t) {s : St} (hw : Weak KK 41 0 s (h50_0 c2 (lstA byteE c14) c15 x [])) : Tri Try.prog KK 41 0 (.loop c50_0) s (q50_0 R ) :=
  L50_0 R  (σ := Nat × (Int)) (fun z => iterO (fun y : Int => S50_0 n c2 c14 c15 y) z.1 z.2 = some t) (fun z => c2) (fun z => (lstA byteE c14)) (fun z => c15) (fun z => z.2) (fun z => []) (fun z => z.1) (by
    rintro ⟨k, y⟩ h
    cases k with
    | zero => exact (iterO_zero h).elim
    | succ k =>
      obtain ⟨u, h1, h2, h3⟩ := iterO_elim h
      exact B50_0_ok n c2 c14 c15 y R  _ (fun r e => hR r (h3 _ e).symm)  (fun y' e s' hw => ⟨(k, y'), h2 _ e, Nat.lt_succ_self k, hw⟩) h1) (k, x) hx hw
theorem g50_ok (n : Nat) (a0 : ByteArray) {t : ρ50} (R : AV → Mem → Prop) (hR : ∀ r : ρ50, t = r → ∀ u m, Ans ((boolA r)) u m → R u m) : g50 n a0 = some t → F50 a0 R := by
  unfold g50 F50
  refine imp (opP_of (show _ = some ((intA (a0.size : Int)), []) from (by kernel_rfl))) ?_
  refine imp ex_i64_b ?_
  refine cond_b (fun _ => ?_) (fun _ => ?_)
  · exact fun hg => ret1 (hR _ (Option.some.inj hg).symm) (fz_sc _ _)
  · refine imp (opP_of (show _ = some ((intA (a0.size : Int)), []) from (by kernel_rfl))) ?_
    refine imp ex_i64_b ?_
    refine cond_b (fun _ => ?_) (fun _ => ?_)
    · exact fun hg => ret1 (hR _ (Option.some.inj hg).symm) (fz_sc _ _)
    · refine bind_b fun x54 h54 => ?_
      refine imp (opP_of (show _ = some ((lstA byteE (a0.data.toList)), []) from (opA_bytes (e := 5) (by kernel_rfl) (by kernel_rfl) (by kernel_rfl) h54))) ?_
      refine imp (opP_of (show _ = some ((intA ((a0.data.toList).length : Int)), []) from rfl)) ?_
      refine imp ex_i64_b ?_
      exact fun hg => L50_0_ok n false (a0.data.toList) ((a0.data.toList).length : Int) R  hR n _ hg (weak_mem [] rfl rfl rfl (okW_cons (.inl (leV_refl _)) (okW_cons (ent_lst (E := byteE) _ false) (okW_cons (.inl (leV_refl _)) (okW_cons (.inl (leV_refl _)) okW_nil)))) okB_nil')
theorem sg50 {n : Nat} {a0 : ByteArray} {t : ρ50} (h : g50 n a0 = some t) : Says Try.prog KK.gl 50 [(strA a0)] ((boolA t)) :=
  says_of_own (by first | rfl | simp [cleans, clean, encs_clean, En.cln]) (by first | rfl | simp [cleans, clean, encs_clean, En.cln]) (F50_own a0 _ (g50_ok n a0 (Ans ((boolA t))) (fun r e u m h => by rw [e]; exact h) h))
/- skyway/sector.Name -/
theorem g26_ok (n : Nat) (a0 : ByteArray) {t : ρ26} (R : AV → Mem → Prop) (hR : ∀ r : ρ26, t = r → ∀ u m, Ans ((boolA r)) u m → R u m) : g26 n a0 = some t → F26 a0 R := by
  unfold g26 F26
  refine bind_b fun x56 h56 => ?_
  refine imp (callQ_says (sg50 h56)) ?_
  refine imp exB_b ?_
  exact fun hg => ret1 (hR _ (Option.some.inj hg).symm) (fz_sc _ _)
theorem sg26 {n : Nat} {a0 : ByteArray} {t : ρ26} (h : g26 n a0 = some t) : Says Try.prog KK.gl 26 [(strA a0)] ((boolA t)) :=
  says_of_own (by first | rfl | simp [cleans, clean, encs_clean, En.cln]) (by first | rfl | simp [cleans, clean, encs_clean, En.cln]) (F26_own a0 _ (g26_ok n a0 (Ans ((boolA t))) (fun r e u m h => by rw [e]; exact h) h))
end Go.Proofs.Ytldiackagnjlgaa
