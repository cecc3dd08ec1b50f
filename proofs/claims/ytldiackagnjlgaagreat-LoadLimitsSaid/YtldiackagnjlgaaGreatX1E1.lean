/- Plain functional programs out of the program's functions, with proofs that the functions compute them; printed by wip/Ext.lean.txt. -/
import Derived.Test.YtldiackagnjlgaaGreatX1G
import Derived.Test.YtldiackagnjlgaaGreatX1F1
import Derived.Test.YtldiackagnjlgaaGreatX1F2
import Derived.Test.YtldiackagnjlgaaGreatX1S
set_option linter.unusedVariables false
set_option linter.unusedSimpArgs false
set_option maxRecDepth 100000
set_option maxHeartbeats 4000000
namespace Go.Proofs.YtldiackagnjlgaaGreat
theorem cloneC13 {n : Nat} {look : Nat → Option ABlk} {l : List Int} {u : Unit} (h : roomO l.length 8 = some u) : PureD Tryz.prog KK.gl look n 13 [lstA intE l] (ownV intE n l) [(n, ownB intE 3 l)] :=
  made_ownC (by simp [cleans, clean, encs_clean]) (F13_own _ _ (by
    unfold F13
    exact clone_ok (E := intE) rfl rfl h))
theorem cloneC49 {n : Nat} {look : Nat → Option ABlk} {l : List TTubeNode} {u : Unit} (h : roomO l.length 48 = some u) : PureD Tryz.prog KK.gl look n 49 [lstA TTubeNode.E l] (ownV TTubeNode.E n l) [(n, ownB TTubeNode.E 64 l)] :=
  made_ownC (by simp [cleans, clean, encs_clean]) (F49_own _ _ (by
    unfold F49
    exact clone_ok (E := TTubeNode.E) rfl rfl h))
theorem repC27_0 (v : Int) : repV Tryz.prog KK 60 27 [lstA intE [v], intA ((0 : Nat) : Int)] = some (true, 0, 1, 0, 0, encs intE (List.replicate 0 v), 3) := by kernel_rfl
theorem repC27_1 (v : Int) : repV Tryz.prog KK 60 27 [lstA intE [v], intA ((1 : Nat) : Int)] = some (true, 0, 1, 1, 1, encs intE (List.replicate 1 v), 3) := by kernel_rfl
theorem repC27_2 (v : Int) : repV Tryz.prog KK 60 27 [lstA intE [v], intA ((2 : Nat) : Int)] = some (true, 0, 1, 2, 2, encs intE (List.replicate 2 v), 3) := by kernel_rfl
theorem repC27_3 (v : Int) : repV Tryz.prog KK 60 27 [lstA intE [v], intA ((3 : Nat) : Int)] = some (true, 0, 1, 3, 3, encs intE (List.replicate 3 v), 3) := by kernel_rfl
theorem repC27_4 (v : Int) : repV Tryz.prog KK 60 27 [lstA intE [v], intA ((4 : Nat) : Int)] = some (true, 0, 1, 4, 4, encs intE (List.replicate 4 v), 3) := by kernel_rfl
theorem repC27_5 (v : Int) : repV Tryz.prog KK 60 27 [lstA intE [v], intA ((5 : Nat) : Int)] = some (true, 0, 1, 5, 5, encs intE (List.replicate 5 v), 3) := by kernel_rfl
theorem repC27_6 (v : Int) : repV Tryz.prog KK 60 27 [lstA intE [v], intA ((6 : Nat) : Int)] = some (true, 0, 1, 6, 6, encs intE (List.replicate 6 v), 3) := by kernel_rfl
theorem repC27_7 (v : Int) : repV Tryz.prog KK 60 27 [lstA intE [v], intA ((7 : Nat) : Int)] = some (true, 0, 1, 7, 7, encs intE (List.replicate 7 v), 3) := by kernel_rfl
theorem repC27_8 (v : Int) : repV Tryz.prog KK 60 27 [lstA intE [v], intA ((8 : Nat) : Int)] = some (true, 0, 1, 8, 8, encs intE (List.replicate 8 v), 3) := by kernel_rfl
theorem repC27_9 (v : Int) : repV Tryz.prog KK 60 27 [lstA intE [v], intA ((9 : Nat) : Int)] = some (true, 0, 1, 9, 9, encs intE (List.replicate 9 v), 3) := by kernel_rfl
theorem repC27_10 (v : Int) : repV Tryz.prog KK 60 27 [lstA intE [v], intA ((10 : Nat) : Int)] = some (true, 0, 1, 10, 10, encs intE (List.replicate 10 v), 3) := by kernel_rfl
theorem repC27_11 (v : Int) : repV Tryz.prog KK 60 27 [lstA intE [v], intA ((11 : Nat) : Int)] = some (true, 0, 1, 11, 11, encs intE (List.replicate 11 v), 3) := by kernel_rfl
theorem repC27_12 (v : Int) : repV Tryz.prog KK 60 27 [lstA intE [v], intA ((12 : Nat) : Int)] = some (true, 0, 1, 12, 12, encs intE (List.replicate 12 v), 3) := by kernel_rfl
theorem repC27 : ∀ (k : Nat), k ≤ 12 → ∀ v : Int, repV Tryz.prog KK 60 27 [lstA intE [v], intA (k : Int)] = some (true, 0, 1, k, k, encs intE (List.replicate k v), 3)
  | 0, _, v => repC27_0 v
  | 1, _, v => repC27_1 v
  | 2, _, v => repC27_2 v
  | 3, _, v => repC27_3 v
  | 4, _, v => repC27_4 v
  | 5, _, v => repC27_5 v
  | 6, _, v => repC27_6 v
  | 7, _, v => repC27_7 v
  | 8, _, v => repC27_8 v
  | 9, _, v => repC27_9 v
  | 10, _, v => repC27_10 v
  | 11, _, v => repC27_11 v
  | 12, _, v => repC27_12 v
  | k + 13, h, _ => absurd h (by omega)
theorem rep27 {n : Nat} {look : Nat → Option ABlk} {x y : List Int} {k : Int} (h : repO x k = some y) : PureD Tryz.prog KK.gl look n 27 [lstA intE x, intA k] (ownV intE n y) [(n, ownB intE 3 y)] := by
  obtain ⟨v, j, rfl, rfl, hj, rfl⟩ := repO_some h
  refine made_ownC (by simp [cleans, clean, encs_clean]) (rep_own fol (repC27 j hj v) (by simp) fun h => ?_)
  have : j = 0 := by simpa using h
  exact ⟨this, rfl⟩
/- skyway/plane.Check -/
theorem g33_ok (n : Nat) (a0 : TP) {t : ρ33} (R : AV → Mem → Prop) (hR : ∀ r : ρ33, t = r → ∀ u m, Ans ((intA r)) u m → R u m) : g33 n a0 = some t → F33 a0.X a0.Y R := by
  unfold g33 F33
  refine cond_b (fun _ => ?_) (fun _ => ?_)
  · exact fun hg => ret1 (hR _ (Option.some.inj hg).symm) (fz_sc _ _)
  · refine cond_b (fun _ => ?_) (fun _ => ?_)
    · exact fun hg => ret1 (hR _ (Option.some.inj hg).symm) (fz_sc _ _)
    · refine cond_b (fun _ => ?_) (fun _ => ?_)
      · exact fun hg => ret1 (hR _ (Option.some.inj hg).symm) (fz_sc _ _)
      · refine cond_b (fun _ => ?_) (fun _ => ?_)
        · exact fun hg => ret1 (hR _ (Option.some.inj hg).symm) (fz_sc _ _)
        · exact fun hg => ret1 (hR _ (Option.some.inj hg).symm) (fz_sc _ _)
theorem sg33 {n : Nat} {a0 : TP} {t : ρ33} (h : g33 n a0 = some t) : Says Tryz.prog KK.gl 33 [(AV.agg [(intA a0.X), (intA a0.Y)])] ((intA t)) :=
  says_of_own (by first | rfl | simp [cleans, clean, encs_clean, En.cln]) (by first | rfl | simp [cleans, clean, encs_clean, En.cln]) (F33_own a0.X a0.Y _ (g33_ok n a0 (Ans ((intA t))) (fun r e u m h => by rw [e]; exact h) h))
/- skyway/tube.Check -/
theorem B21_0_ok (n : Nat) (a0 : List TTubeNode) (c2 : Int) (c15 : Int) (v16 : Int) {t : (Int) ⊕ ρ21} (R : AV → Mem → Prop) (N0 : St → Prop) (hR : ∀ r : ρ21, t = (.inr r) → ∀ u m, Ans ((intA r)) u m → R u m) (hN0 : ∀ y : Int, t = (.inl y) → ∀ s' : St, Weak KK 86 0 s' (h21_0 (lstA TTubeNode.E a0) c2 (lstA TTubeNode.E a0) c15 y []) → N0 s') : S21_0 n a0 c2 c15 v16 = some t → B21_0 (lstA TTubeNode.E a0) c2 (lstA TTubeNode.E a0) c15 v16 [] R N0 := by
  unfold S21_0 B21_0
  refine cond_b (fun _ => ?_) (fun _ => ?_)
  · refine bind_b fun x0 h0 => ?_
    refine imp (opP_of (show _ = some ((AV.ept [(intA x0.Node_Time), (intA x0.Node_At_X), (intA x0.Node_At_Y), (intA x0.Node_Height), (intA x0.Radius), (intA x0.Band)] 0), []) from (idx_lst (E := TTubeNode.E) rfl h0))) ?_
    refine imp (opP_of (show _ = some ((AV.agg [(intA x0.Node_Time), (intA x0.Node_At_X), (intA x0.Node_At_Y), (intA x0.Node_Height), (intA x0.Radius), (intA x0.Band)]), []) from rfl)) ?_
    refine imp exA6_b ?_
    refine imp ex_i64_b ?_
    refine imp ex_i64_b ?_
    refine imp ex_i64_b ?_
    refine imp ex_i64_b ?_
    refine imp ex_i64_b ?_
    refine imp ex_i64_b ?_
    refine cond_b (fun _ => ?_) (fun _ => ?_)
    · exact fun hg => ret1 (hR _ (Option.some.inj hg).symm) (fz_sc _ _)
    · refine cond_b (fun _ => ?_) (fun _ => ?_)
      · exact fun hg => ret1 (hR _ (Option.some.inj hg).symm) (fz_sc _ _)
      · refine cond_b (fun _ => ?_) (fun _ => ?_)
        · refine bind_b fun x1 h1 => ?_
          refine imp (opP_of (show _ = some ((AV.ept [(intA x1.Node_Time), (intA x1.Node_At_X), (intA x1.Node_At_Y), (intA x1.Node_Height), (intA x1.Radius), (intA x1.Band)] 0), []) from (idx_lst (E := TTubeNode.E) rfl h1))) ?_
          refine imp (opP_of (show _ = some ((AV.ept [(intA x1.Node_Time), (intA x1.Node_At_X), (intA x1.Node_At_Y), (intA x1.Node_Height), (intA x1.Radius), (intA x1.Band)] 0), []) from rfl)) ?_
          refine imp (opP_of (show _ = some ((AV.ept [(intA x1.Node_Time), (intA x1.Node_At_X), (intA x1.Node_At_Y), (intA x1.Node_Height), (intA x1.Radius), (intA x1.Band)] 0), []) from rfl)) ?_
          refine imp (opP_of (show _ = some ((intA x1.Node_Time), []) from rfl)) ?_
          refine imp ex_i64_b ?_
          refine cond_b (fun _ => ?_) (fun _ => ?_)
          · exact fun hg => ret1 (hR _ (Option.some.inj hg).symm) (fz_sc _ _)
          · refine bind_b fun x2 h2 => ?_
            refine imp (callQ_says (sg33 h2)) ?_
            refine imp ex_i64_b ?_
            refine cond_b (fun _ => ?_) (fun _ => ?_)
            · exact fun hg => ret1 (hR _ (Option.some.inj hg).symm) (fz_sc _ _)
            · refine cond_b (fun _ => ?_) (fun _ => ?_)
              · exact fun hg => ret1 (hR _ (Option.some.inj hg).symm) (fz_sc _ _)
              · refine cond_b (fun _ => ?_) (fun _ => ?_)
                · exact fun hg => ret1 (hR _ (Option.some.inj hg).symm) (fz_sc _ _)
                · refine cond_b (fun _ => ?_) (fun _ => ?_)
                  · exact fun hg => ret1 (hR _ (Option.some.inj hg).symm) (fz_sc _ _)
                  · refine cond_b (fun _ => ?_) (fun _ => ?_)
                    · exact fun hg => ret1 (hR _ (Option.some.inj hg).symm) (fz_sc _ _)
                    · refine cond_b (fun _ => ?_) (fun _ => ?_)
                      · exact fun hg => ret1 (hR _ (Option.some.inj hg).symm) (fz_sc _ _)
                      · refine cond_b (fun _ => ?_) (fun _ => ?_)
                        · exact fun hg => ret1 (hR _ (Option.some.inj hg).symm) (fz_sc _ _)
                        · exact fun hg => hN0 _ (Option.some.inj hg).symm _ (weak_mem [] rfl rfl rfl (okW_cons (ent_lst (E := TTubeNode.E) _ false) (okW_cons (.inl (leV_refl _)) (okW_cons (ent_lst (E := TTubeNode.E) _ false) (okW_cons (.inl (leV_refl _)) (okW_cons (.inl (leV_refl _)) okW_nil))))) okB_nil')
        · refine bind_b fun x3 h3 => ?_
          refine imp (callQ_says (sg33 h3)) ?_
          refine imp ex_i64_b ?_
          refine cond_b (fun _ => ?_) (fun _ => ?_)
          · exact fun hg => ret1 (hR _ (Option.some.inj hg).symm) (fz_sc _ _)
          · refine cond_b (fun _ => ?_) (fun _ => ?_)
            · exact fun hg => ret1 (hR _ (Option.some.inj hg).symm) (fz_sc _ _)
            · refine cond_b (fun _ => ?_) (fun _ => ?_)
              · exact fun hg => ret1 (hR _ (Option.some.inj hg).symm) (fz_sc _ _)
              · refine cond_b (fun _ => ?_) (fun _ => ?_)
                · exact fun hg => ret1 (hR _ (Option.some.inj hg).symm) (fz_sc _ _)
                · refine cond_b (fun _ => ?_) (fun _ => ?_)
                  · exact fun hg => ret1 (hR _ (Option.some.inj hg).symm) (fz_sc _ _)
                  · refine cond_b (fun _ => ?_) (fun _ => ?_)
                    · exact fun hg => ret1 (hR _ (Option.some.inj hg).symm) (fz_sc _ _)
                    · refine cond_b (fun _ => ?_) (fun _ => ?_)
                      · exact fun hg => ret1 (hR _ (Option.some.inj hg).symm) (fz_sc _ _)
                      · exact fun hg => hN0 _ (Option.some.inj hg).symm _ (weak_mem [] rfl rfl rfl (okW_cons (ent_lst (E := TTubeNode.E) _ false) (okW_cons (.inl (leV_refl _)) (okW_cons (ent_lst (E := TTubeNode.E) _ false) (okW_cons (.inl (leV_refl _)) (okW_cons (.inl (leV_refl _)) okW_nil))))) okB_nil')
  · exact fun hg => ret1 (hR _ (Option.some.inj hg).symm) (fz_sc _ _)
theorem L21_0_ok (n : Nat) (a0 : List TTubeNode) (c2 : Int) (c15 : Int) {t : ρ21} (R : AV → Mem → Prop) (hR : ∀ r : ρ21, t = r → ∀ u m, Ans ((intA r)) u m → R u m) (k : Nat) (x : Int) (hx : iterO (fun y : Int => S21_0 n a0 c2 c15 y) k x = some t) {s : St} (hw : Weak KK 86 0 s (h21_0 (lstA TTubeNode.E a0) c2 (lstA TTubeNode.E a0) c15 x [])) : Tri Tryz.prog KK 86 0 (.loop c21_0) s (q21_0 R ) :=
  L21_0 R  (σ := Nat × (Int)) (fun z => iterO (fun y : Int => S21_0 n a0 c2 c15 y) z.1 z.2 = some t) (fun z => (lstA TTubeNode.E a0)) (fun z => c2) (fun z => (lstA TTubeNode.E a0)) (fun z => c15) (fun z => z.2) (fun z => []) (fun z => z.1) (by
    rintro ⟨k, y⟩ h
    cases k with
    | zero => exact (iterO_zero h).elim
    | succ k =>
      obtain ⟨u, h1, h2, h3⟩ := iterO_elim h
      exact B21_0_ok n a0 c2 c15 y R  _ (fun r e => hR r (h3 _ e).symm)  (fun y' e s' hw => ⟨(k, y'), h2 _ e, Nat.lt_succ_self k, hw⟩) h1) (k, x) hx hw
theorem g21_ok (n : Nat) (a0 : List TTubeNode) {t : ρ21} (R : AV → Mem → Prop) (hR : ∀ r : ρ21, t = r → ∀ u m, Ans ((intA r)) u m → R u m) : g21 n a0 = some t → F21 (lstA TTubeNode.E a0) R := by
  unfold g21 F21
  refine imp (opP_of (show _ = some ((intA (a0.length : Int)), []) from rfl)) ?_
  refine imp ex_i64_b ?_
  refine cond_b (fun _ => ?_) (fun _ => ?_)
  · exact fun hg => ret1 (hR _ (Option.some.inj hg).symm) (fz_sc _ _)
  · refine imp (opP_of (show _ = some ((intA (a0.length : Int)), []) from rfl)) ?_
    refine imp ex_i64_b ?_
    refine cond_b (fun _ => ?_) (fun _ => ?_)
    · exact fun hg => ret1 (hR _ (Option.some.inj hg).symm) (fz_sc _ _)
    · refine imp (opP_of (show _ = some ((intA (a0.length : Int)), []) from rfl)) ?_
      refine imp ex_i64_b ?_
      exact fun hg => L21_0_ok n a0 (0) (a0.length : Int) R  hR n _ hg (weak_mem [] rfl rfl rfl (okW_cons (ent_lst (E := TTubeNode.E) _ false) (okW_cons (.inl (leV_refl _)) (okW_cons (ent_lst (E := TTubeNode.E) _ false) (okW_cons (.inl (leV_refl _)) (okW_cons (.inl (leV_refl _)) okW_nil))))) okB_nil')
theorem sg21 {n : Nat} {a0 : List TTubeNode} {t : ρ21} (h : g21 n a0 = some t) : Says Tryz.prog KK.gl 21 [(lstA TTubeNode.E a0)] ((intA t)) :=
  says_of_own (by first | rfl | simp [cleans, clean, encs_clean, En.cln]) (by first | rfl | simp [cleans, clean, encs_clean, En.cln]) (F21_own (lstA TTubeNode.E a0) _ (g21_ok n a0 (Ans ((intA t))) (fun r e u m h => by rw [e]; exact h) h))
/- skyway/tube.ends -/
theorem g51_ok (n : Nat) (a0 : List TTubeNode) {t : ρ51} (R : AV → Mem → Prop) (hR : ∀ r : ρ51, t = r → ∀ u m, Ans ((AV.tup [(intA r.1), (intA r.2)])) u m → R u m) : g51 n a0 = some t → F51 (lstA TTubeNode.E a0) R := by
  unfold g51 F51
  refine bind_b fun x4 h4 => ?_
  refine imp (opP_of (show _ = some ((AV.ept [(intA x4.Node_Time), (intA x4.Node_At_X), (intA x4.Node_At_Y), (intA x4.Node_Height), (intA x4.Radius), (intA x4.Band)] 0), []) from (idx_lst (E := TTubeNode.E) rfl h4))) ?_
  refine imp (opP_of (show _ = some ((AV.ept [(intA x4.Node_Time), (intA x4.Node_At_X), (intA x4.Node_At_Y), (intA x4.Node_Height), (intA x4.Radius), (intA x4.Band)] 0), []) from rfl)) ?_
  refine imp (opP_of (show _ = some ((AV.ept [(intA x4.Node_Time), (intA x4.Node_At_X), (intA x4.Node_At_Y), (intA x4.Node_Height), (intA x4.Radius), (intA x4.Band)] 0), []) from rfl)) ?_
  refine imp (opP_of (show _ = some ((intA x4.Node_Time), []) from rfl)) ?_
  refine imp ex_i64_b ?_
  refine imp (opP_of (show _ = some ((intA (a0.length : Int)), []) from rfl)) ?_
  refine imp ex_i64_b ?_
  refine bind_b fun x5 h5 => ?_
  refine imp (opP_of (show _ = some ((AV.ept [(intA x5.Node_Time), (intA x5.Node_At_X), (intA x5.Node_At_Y), (intA x5.Node_Height), (intA x5.Radius), (intA x5.Band)] 0), []) from (idx_lst (E := TTubeNode.E) rfl h5))) ?_
  refine imp (opP_of (show _ = some ((AV.ept [(intA x5.Node_Time), (intA x5.Node_At_X), (intA x5.Node_At_Y), (intA x5.Node_Height), (intA x5.Radius), (intA x5.Band)] 0), []) from rfl)) ?_
  refine imp (opP_of (show _ = some ((AV.ept [(intA x5.Node_Time), (intA x5.Node_At_X), (intA x5.Node_At_Y), (intA x5.Node_Height), (intA x5.Radius), (intA x5.Band)] 0), []) from rfl)) ?_
  refine imp (opP_of (show _ = some ((intA x5.Node_Time), []) from rfl)) ?_
  refine imp ex_i64_b ?_
  exact fun hg => retN rfl (hR _ (Option.some.inj hg).symm) (fzL_cons (fz_sc _ _) (fzL_cons (fz_sc _ _) fzL_nil))
theorem sg51 {n : Nat} {a0 : List TTubeNode} {t : ρ51} (h : g51 n a0 = some t) : Says Tryz.prog KK.gl 51 [(lstA TTubeNode.E a0)] ((AV.tup [(intA t.1), (intA t.2)])) :=
  says_of_own (by first | rfl | simp [cleans, clean, encs_clean, En.cln]) (by first | rfl | simp [cleans, clean, encs_clean, En.cln]) (F51_own (lstA TTubeNode.E a0) _ (g51_ok n a0 (Ans ((AV.tup [(intA t.1), (intA t.2)]))) (fun r e u m h => by rw [e]; exact h) h))
/- skyway/tube.at$1 -/
theorem g77_ok (n : Nat) (a0 : TTubeNode) (a1 : Int) {t : ρ77} (R : AV → Mem → Prop) (hR : ∀ r : ρ77, t = r → ∀ u m, Ans ((intA r)) u m → R u m) : g77 n a0 a1 = some t → F77 a0.Node_Time a0.Node_At_X a0.Node_At_Y a0.Node_Height a0.Radius a0.Band a1 R := by
  unfold g77 F77
  exact fun hg => ret1 (hR _ (Option.some.inj hg).symm) (fz_sc _ _)
theorem sg77 {n : Nat} {a0 : TTubeNode} {a1 : Int} {t : ρ77} (h : g77 n a0 a1 = some t) : Says Tryz.prog KK.gl 77 [(AV.agg [(intA a0.Node_Time), (intA a0.Node_At_X), (intA a0.Node_At_Y), (intA a0.Node_Height), (intA a0.Radius), (intA a0.Band)]), (intA a1)] ((intA t)) :=
  says_of_own (by first | rfl | simp [cleans, clean, encs_clean, En.cln]) (by first | rfl | simp [cleans, clean, encs_clean, En.cln]) (F77_own a0.Node_Time a0.Node_At_X a0.Node_At_Y a0.Node_Height a0.Radius a0.Band a1 _ (g77_ok n a0 a1 (Ans ((intA t))) (fun r e u m h => by rw [e]; exact h) h))
/- slices.BinarySearchFunc[skyway/api.Tube,skyway/api.TubeNode,int] -/
theorem B76_0_ok (n : Nat) (a0 : List TTubeNode) (a1 : Int) (c6 : Int) (c7 : Bool) (c8 : Int) (v9 : Int) (v10 : Int) {t : (Int × Int) ⊕ ρ76} (R : AV → Mem → Prop) (N0 : St → Prop) (hR : ∀ r : ρ76, t = (.inr r) → ∀ u m, Ans ((AV.tup [(intA r.1), (boolA r.2)])) u m → R u m) (hN0 : ∀ y : Int × Int, t = (.inl y) → ∀ s' : St, Weak KK 49 0 s' (h76_0 (lstA TTubeNode.E a0) a1 (AV.fn 77 []) c6 c7 c8 y.1 y.2 []) → N0 s') : S76_0 n a0 a1 c6 c7 c8 v9 v10 = some t → B76_0 (lstA TTubeNode.E a0) a1 (AV.fn 77 []) c6 c7 c8 v9 v10 [] R N0 := by
  unfold S76_0 B76_0
  refine cond_b (fun _ => ?_) (fun _ => ?_)
  · refine imp (opP_of (show _ = some ((AV.sc (.int .u64 (IntKind.wrap .u64 (IntKind.wrap .i64 (v9 + v10))))), []) from (by kernel_rfl))) ?_
    refine imp ex_u64_b ?_
    refine imp (opP_of (show _ = some ((AV.sc (.int .u64 (Int.fdiv (IntKind.wrap .u64 (IntKind.wrap .i64 (v9 + v10))) 2))), []) from opA_shr1)) ?_
    refine imp ex_u64_b ?_
    refine imp (opP_of (show _ = some ((intA (IntKind.wrap .i64 (Int.fdiv (IntKind.wrap .u64 (IntKind.wrap .i64 (v9 + v10))) 2))), []) from (by kernel_rfl))) ?_
    refine imp ex_i64_b ?_
    refine bind_b fun x8 h8 => ?_
    refine imp (opP_of (show _ = some ((AV.ept [(intA x8.Node_Time), (intA x8.Node_At_X), (intA x8.Node_At_Y), (intA x8.Node_Height), (intA x8.Radius), (intA x8.Band)] 0), []) from (idx_lst (E := TTubeNode.E) rfl h8))) ?_
    refine imp (opP_of (show _ = some ((AV.agg [(intA x8.Node_Time), (intA x8.Node_At_X), (intA x8.Node_At_Y), (intA x8.Node_Height), (intA x8.Radius), (intA x8.Band)]), []) from rfl)) ?_
    refine imp exA6_b ?_
    refine imp ex_i64_b ?_
    refine imp ex_i64_b ?_
    refine imp ex_i64_b ?_
    refine imp ex_i64_b ?_
    refine imp ex_i64_b ?_
    refine imp ex_i64_b ?_
    refine bind_b fun x9 h9 => ?_
    refine imp fnArgs_b ?_
    refine imp (cond_tt rfl) ?_
    refine imp (callQ_says (sg77 h9)) ?_
    refine imp ex_i64_b ?_
    refine cond_b (fun _ => ?_) (fun _ => ?_)
    · exact fun hg => hN0 _ (Option.some.inj hg).symm _ (weak_mem [] rfl rfl rfl (okW_cons (ent_lst (E := TTubeNode.E) _ false) (okW_cons (.inl (leV_refl _)) (okW_cons (.inl (leV_refl _)) (okW_cons (.inl (leV_refl _)) (okW_cons (.inl (leV_refl _)) (okW_cons (.inl (leV_refl _)) (okW_cons (.inl (leV_refl _)) (okW_cons (.inl (leV_refl _)) okW_nil)))))))) okB_nil')
    · exact fun hg => hN0 _ (Option.some.inj hg).symm _ (weak_mem [] rfl rfl rfl (okW_cons (ent_lst (E := TTubeNode.E) _ false) (okW_cons (.inl (leV_refl _)) (okW_cons (.inl (leV_refl _)) (okW_cons (.inl (leV_refl _)) (okW_cons (.inl (leV_refl _)) (okW_cons (.inl (leV_refl _)) (okW_cons (.inl (leV_refl _)) (okW_cons (.inl (leV_refl _)) okW_nil)))))))) okB_nil')
  · refine cond_b (fun _ => ?_) (fun _ => ?_)
    · refine bind_b fun x10 h10 => ?_
      refine imp (opP_of (show _ = some ((AV.ept [(intA x10.Node_Time), (intA x10.Node_At_X), (intA x10.Node_At_Y), (intA x10.Node_Height), (intA x10.Radius), (intA x10.Band)] 0), []) from (idx_lst (E := TTubeNode.E) rfl h10))) ?_
      refine imp (opP_of (show _ = some ((AV.agg [(intA x10.Node_Time), (intA x10.Node_At_X), (intA x10.Node_At_Y), (intA x10.Node_Height), (intA x10.Radius), (intA x10.Band)]), []) from rfl)) ?_
      refine imp exA6_b ?_
      refine imp ex_i64_b ?_
      refine imp ex_i64_b ?_
      refine imp ex_i64_b ?_
      refine imp ex_i64_b ?_
      refine imp ex_i64_b ?_
      refine imp ex_i64_b ?_
      refine bind_b fun x11 h11 => ?_
      refine imp fnArgs_b ?_
      refine imp (cond_tt rfl) ?_
      refine imp (callQ_says (sg77 h11)) ?_
      refine imp ex_i64_b ?_
      exact fun hg => retN rfl (hR _ (Option.some.inj hg).symm) (fzL_cons (fz_sc _ _) (fzL_cons (fz_sc _ _) fzL_nil))
    · exact fun hg => retN rfl (hR _ (Option.some.inj hg).symm) (fzL_cons (fz_sc _ _) (fzL_cons (fz_sc _ _) fzL_nil))
theorem L76_0_ok (n : Nat) (a0 : List TTubeNode) (a1 : Int) (c6 : Int) (c7 : Bool) (c8 : Int) {t : ρ76} (R : AV → Mem → Prop) (hR : ∀ r : ρ76, t = r → ∀ u m, Ans ((AV.tup [(intA r.1), (boolA r.2)])) u m → R u m) (k : Nat) (x : Int × Int) (hx : iterO (fun y : Int × Int => S76_0 n a0 a1 c6 c7 c8 y.1 y.2) k x = some t) {s : St} (hw : Weak KK 49 0 s (h76_0 (lstA TTubeNode.E a0) a1 (AV.fn 77 []) c6 c7 c8 x.1 x.2 [])) : Tri Tryz.prog KK 49 0 (.loop c76_0) s (q76_0 R ) :=
  L76_0 R  (σ := Nat × (Int × Int)) (fun z => iterO (fun y : Int × Int => S76_0 n a0 a1 c6 c7 c8 y.1 y.2) z.1 z.2 = some t) (fun z => (lstA TTubeNode.E a0)) (fun z => a1) (fun z => (AV.fn 77 [])) (fun z => c6) (fun z => c7) (fun z => c8) (fun z => z.2.1) (fun z => z.2.2) (fun z => []) (fun z => z.1) (by
    rintro ⟨k, y⟩ h
    cases k with
    | zero => exact (iterO_zero h).elim
    | succ k =>
      obtain ⟨u, h1, h2, h3⟩ := iterO_elim h
      exact B76_0_ok n a0 a1 c6 c7 c8 y.1 y.2 R  _ (fun r e => hR r (h3 _ e).symm)  (fun y' e s' hw => ⟨(k, y'), h2 _ e, Nat.lt_succ_self k, hw⟩) h1) (k, x) hx hw
theorem g76_ok (n : Nat) (a0 : List TTubeNode) (a1 : Int) {t : ρ76} (R : AV → Mem → Prop) (hR : ∀ r : ρ76, t = r → ∀ u m, Ans ((AV.tup [(intA r.1), (boolA r.2)])) u m → R u m) : g76 n a0 a1 = some t → F76 (lstA TTubeNode.E a0) a1 (AV.fn 77 []) R := by
  unfold g76 F76
  refine imp (opP_of (show _ = some ((intA (a0.length : Int)), []) from rfl)) ?_
  refine imp ex_i64_b ?_
  exact fun hg => L76_0_ok n a0 a1 (0) false (a0.length : Int) R  hR n _ hg (weak_mem [] rfl rfl rfl (okW_cons (ent_lst (E := TTubeNode.E) _ false) (okW_cons (.inl (leV_refl _)) (okW_cons (.inl (leV_refl _)) (okW_cons (.inl (leV_refl _)) (okW_cons (.inl (leV_refl _)) (okW_cons (.inl (leV_refl _)) (okW_cons (.inl (leV_refl _)) (okW_cons (.inl (leV_refl _)) okW_nil)))))))) okB_nil')
theorem sg76 {n : Nat} {a0 : List TTubeNode} {a1 : Int} {t : ρ76} (h : g76 n a0 a1 = some t) : Says Tryz.prog KK.gl 76 [(lstA TTubeNode.E a0), (intA a1), (AV.fn 77 [])] ((AV.tup [(intA t.1), (boolA t.2)])) :=
  says_of_own (by first | rfl | simp [cleans, clean, encs_clean, En.cln]) (by first | rfl | simp [cleans, clean, encs_clean, En.cln]) (F76_own (lstA TTubeNode.E a0) a1 (AV.fn 77 []) _ (g76_ok n a0 a1 (Ans ((AV.tup [(intA t.1), (boolA t.2)]))) (fun r e u m h => by rw [e]; exact h) h))
/- skyway/num.DivDown -/
theorem g79_ok (n : Nat) (a0 : Int) (a1 : Int) {t : ρ79} (R : AV → Mem → Prop) (hR : ∀ r : ρ79, t = r → ∀ u m, Ans ((AV.tup [(intA r.1), (intA r.2)])) u m → R u m) : g79 n a0 a1 = some t → F79 a0 a1 R := by
  unfold g79 F79
  refine cond_b (fun _ => ?_) (fun _ => ?_)
  · exact fun hg => retN rfl (hR _ (Option.some.inj hg).symm) (fzL_cons (fz_sc _ _) (fzL_cons (fz_sc _ _) fzL_nil))
  · refine cond_b (fun _ => ?_) (fun _ => ?_)
    · refine cond_b (fun _ => ?_) (fun _ => ?_)
      · exact fun hg => retN rfl (hR _ (Option.some.inj hg).symm) (fzL_cons (fz_sc _ _) (fzL_cons (fz_sc _ _) fzL_nil))
      · refine bind_b fun x20 h20 => ?_
        refine imp (opP_of (show _ = some ((intA (IntKind.wrap .i64 x20)), []) from (opA_quo h20))) ?_
        refine imp ex_i64_b ?_
        refine bind_b fun x21 h21 => ?_
        refine imp (opP_of (show _ = some ((intA x21), []) from (opA_rem h21))) ?_
        refine imp ex_i64_b ?_
        refine cond_b (fun _ => ?_) (fun _ => ?_)
        · refine imp (opP_of (show _ = some ((boolA (!((decide (a0 < (0))) == (decide (a1 < (0)))))), []) from (by kernel_rfl))) ?_
          refine imp exB_b ?_
          refine cond_b (fun _ => ?_) (fun _ => ?_)
          · exact fun hg => retN rfl (hR _ (Option.some.inj hg).symm) (fzL_cons (fz_sc _ _) (fzL_cons (fz_sc _ _) fzL_nil))
          · exact fun hg => retN rfl (hR _ (Option.some.inj hg).symm) (fzL_cons (fz_sc _ _) (fzL_cons (fz_sc _ _) fzL_nil))
        · exact fun hg => retN rfl (hR _ (Option.some.inj hg).symm) (fzL_cons (fz_sc _ _) (fzL_cons (fz_sc _ _) fzL_nil))
    · refine bind_b fun x22 h22 => ?_
      refine imp (opP_of (show _ = some ((intA (IntKind.wrap .i64 x22)), []) from (opA_quo h22))) ?_
      refine imp ex_i64_b ?_
      refine bind_b fun x23 h23 => ?_
      refine imp (opP_of (show _ = some ((intA x23), []) from (opA_rem h23))) ?_
      refine imp ex_i64_b ?_
      refine cond_b (fun _ => ?_) (fun _ => ?_)
      · refine imp (opP_of (show _ = some ((boolA (!((decide (a0 < (0))) == (decide (a1 < (0)))))), []) from (by kernel_rfl))) ?_
        refine imp exB_b ?_
        refine cond_b (fun _ => ?_) (fun _ => ?_)
        · exact fun hg => retN rfl (hR _ (Option.some.inj hg).symm) (fzL_cons (fz_sc _ _) (fzL_cons (fz_sc _ _) fzL_nil))
        · exact fun hg => retN rfl (hR _ (Option.some.inj hg).symm) (fzL_cons (fz_sc _ _) (fzL_cons (fz_sc _ _) fzL_nil))
      · exact fun hg => retN rfl (hR _ (Option.some.inj hg).symm) (fzL_cons (fz_sc _ _) (fzL_cons (fz_sc _ _) fzL_nil))
theorem sg79 {n : Nat} {a0 : Int} {a1 : Int} {t : ρ79} (h : g79 n a0 a1 = some t) : Says Tryz.prog KK.gl 79 [(intA a0), (intA a1)] ((AV.tup [(intA t.1), (intA t.2)])) :=
  says_of_own (by first | rfl | simp [cleans, clean, encs_clean, En.cln]) (by first | rfl | simp [cleans, clean, encs_clean, En.cln]) (F79_own a0 a1 _ (g79_ok n a0 a1 (Ans ((AV.tup [(intA t.1), (intA t.2)]))) (fun r e u m h => by rw [e]; exact h) h))
/- skyway/plane.Toward -/
theorem g78_ok (n : Nat) (a0 : TP) (a1 : TP) (a2 : Int) (a3 : Int) {t : ρ78} (R : AV → Mem → Prop) (hR : ∀ r : ρ78, t = r → ∀ u m, Ans ((AV.tup [(AV.agg (TP.E.enc r.1)), (intA r.2)])) u m → R u m) : g78 n a0 a1 a2 a3 = some t → F78 a0.X a0.Y a1.X a1.Y a2 a3 R := by
  unfold g78 F78
  refine cond_b (fun _ => ?_) (fun _ => ?_)
  · refine imp (opP_of (show _ = some ((AV.agg [(intA (0)), (intA (0))]), []) from rfl)) ?_
    refine imp (storeW_cells (sz := 2) (by kernel_rfl) (by kernel_rfl) rfl rfl (cs := [(intA (0)), (intA (0))]) (cs' := [(intA (0)), (intA (0))]) (ty := 60) (by first | rfl | (simp (disch := first | decide | assumption) only [mpushs_nil, mpushs_cons, mget_hd, mget_tl, mget_appW_o, mget_appW_n, mget_appW_e])) rfl rfl) ?_
    exact fun hg => retN rfl (hR _ (Option.some.inj hg).symm) (fzL_cons (fz_el (E := TP.E) _ (⟨(0), (0)⟩ : TP)) (fzL_cons (fz_sc _ _) fzL_nil))
  · refine cond_b (fun _ => ?_) (fun _ => ?_)
    · refine imp (opP_of (show _ = some ((AV.agg [(intA (0)), (intA (0))]), []) from rfl)) ?_
      refine imp (storeW_cells (sz := 2) (by kernel_rfl) (by kernel_rfl) rfl rfl (cs := [(intA (0)), (intA (0))]) (cs' := [(intA (0)), (intA (0))]) (ty := 60) (by first | rfl | (simp (disch := first | decide | assumption) only [mpushs_nil, mpushs_cons, mget_hd, mget_tl, mget_appW_o, mget_appW_n, mget_appW_e])) rfl rfl) ?_
      exact fun hg => retN rfl (hR _ (Option.some.inj hg).symm) (fzL_cons (fz_el (E := TP.E) _ (⟨(0), (0)⟩ : TP)) (fzL_cons (fz_sc _ _) fzL_nil))
    · refine cond_b (fun _ => ?_) (fun _ => ?_)
      · refine imp (opP_of (show _ = some ((AV.agg [(intA (0)), (intA (0))]), []) from rfl)) ?_
        refine imp (storeW_cells (sz := 2) (by kernel_rfl) (by kernel_rfl) rfl rfl (cs := [(intA (0)), (intA (0))]) (cs' := [(intA (0)), (intA (0))]) (ty := 60) (by first | rfl | (simp (disch := first | decide | assumption) only [mpushs_nil, mpushs_cons, mget_hd, mget_tl, mget_appW_o, mget_appW_n, mget_appW_e])) rfl rfl) ?_
        exact fun hg => retN rfl (hR _ (Option.some.inj hg).symm) (fzL_cons (fz_el (E := TP.E) _ (⟨(0), (0)⟩ : TP)) (fzL_cons (fz_sc _ _) fzL_nil))
      · refine cond_b (fun _ => ?_) (fun _ => ?_)
        · refine imp (opP_of (show _ = some ((AV.agg [(intA (0)), (intA (0))]), []) from rfl)) ?_
          refine imp (storeW_cells (sz := 2) (by kernel_rfl) (by kernel_rfl) rfl rfl (cs := [(intA (0)), (intA (0))]) (cs' := [(intA (0)), (intA (0))]) (ty := 60) (by first | rfl | (simp (disch := first | decide | assumption) only [mpushs_nil, mpushs_cons, mget_hd, mget_tl, mget_appW_o, mget_appW_n, mget_appW_e])) rfl rfl) ?_
          exact fun hg => retN rfl (hR _ (Option.some.inj hg).symm) (fzL_cons (fz_el (E := TP.E) _ (⟨(0), (0)⟩ : TP)) (fzL_cons (fz_sc _ _) fzL_nil))
        · refine bind_b fun x16 h16 => ?_
          refine imp (callQ_says (sg33 h16)) ?_
          refine imp ex_i64_b ?_
          refine cond_b (fun _ => ?_) (fun _ => ?_)
          · refine imp (opP_of (show _ = some ((AV.agg [(intA (0)), (intA (0))]), []) from rfl)) ?_
            refine bind_b fun x17 h17 => ?_
            refine imp (callQ_says (sg33 h17)) ?_
            refine imp ex_i64_b ?_
            refine imp (storeW_cells (sz := 2) (by kernel_rfl) (by kernel_rfl) rfl rfl (cs := [(intA (0)), (intA (0))]) (cs' := [(intA (0)), (intA (0))]) (ty := 60) (by first | rfl | (simp (disch := first | decide | assumption) only [mpushs_nil, mpushs_cons, mget_hd, mget_tl, mget_appW_o, mget_appW_n, mget_appW_e])) rfl rfl) ?_
            exact fun hg => retN rfl (hR _ (Option.some.inj hg).symm) (fzL_cons (fz_el (E := TP.E) _ (⟨(0), (0)⟩ : TP)) (fzL_cons (fz_sc _ _) fzL_nil))
          · refine bind_b fun x18 h18 => ?_
            refine imp (callQ_says (sg33 h18)) ?_
            refine imp ex_i64_b ?_
            refine cond_b (fun _ => ?_) (fun _ => ?_)
            · refine imp (opP_of (show _ = some ((AV.agg [(intA (0)), (intA (0))]), []) from rfl)) ?_
              refine bind_b fun x19 h19 => ?_
              refine imp (callQ_says (sg33 h19)) ?_
              refine imp ex_i64_b ?_
              refine imp (storeW_cells (sz := 2) (by kernel_rfl) (by kernel_rfl) rfl rfl (cs := [(intA (0)), (intA (0))]) (cs' := [(intA (0)), (intA (0))]) (ty := 60) (by first | rfl | (simp (disch := first | decide | assumption) only [mpushs_nil, mpushs_cons, mget_hd, mget_tl, mget_appW_o, mget_appW_n, mget_appW_e])) rfl rfl) ?_
              exact fun hg => retN rfl (hR _ (Option.some.inj hg).symm) (fzL_cons (fz_el (E := TP.E) _ (⟨(0), (0)⟩ : TP)) (fzL_cons (fz_sc _ _) fzL_nil))
            · refine bind_b fun x24 h24 => ?_
              refine imp (callQ_says (sg79 h24)) ?_
              refine imp exT2_b ?_
              refine imp ex_i64_b ?_
              refine imp ex_i64_b ?_
              refine bind_b fun x25 h25 => ?_
              refine imp (callQ_says (sg79 h25)) ?_
              refine imp exT2_b ?_
              refine imp ex_i64_b ?_
              refine imp ex_i64_b ?_
              refine imp (opP_of (show _ = some ((AV.agg [(intA (IntKind.wrap .i64 (a0.X + x24.1))), (intA (IntKind.wrap .i64 (a0.Y + x25.1)))]), []) from rfl)) ?_
              refine imp (storeW_cells (sz := 2) (by kernel_rfl) (by kernel_rfl) rfl rfl (cs := [(intA (0)), (intA (0))]) (cs' := [(intA (IntKind.wrap .i64 (a0.X + x24.1))), (intA (IntKind.wrap .i64 (a0.Y + x25.1)))]) (ty := 60) (by first | rfl | (simp (disch := first | decide | assumption) only [mpushs_nil, mpushs_cons, mget_hd, mget_tl, mget_appW_o, mget_appW_n, mget_appW_e])) rfl rfl) ?_
              exact fun hg => retN rfl (hR _ (Option.some.inj hg).symm) (fzL_cons (fz_el (E := TP.E) _ (⟨(IntKind.wrap .i64 (a0.X + x24.1)), (IntKind.wrap .i64 (a0.Y + x25.1))⟩ : TP)) (fzL_cons (fz_sc _ _) fzL_nil))
theorem sg78 {n : Nat} {a0 : TP} {a1 : TP} {a2 : Int} {a3 : Int} {t : ρ78} (h : g78 n a0 a1 a2 a3 = some t) : Says Tryz.prog KK.gl 78 [(AV.agg [(intA a0.X), (intA a0.Y)]), (AV.agg [(intA a1.X), (intA a1.Y)]), (intA a2), (intA a3)] ((AV.tup [(AV.agg (TP.E.enc t.1)), (intA t.2)])) :=
  says_of_own (by first | rfl | simp [cleans, clean, encs_clean, En.cln]) (by first | rfl | simp [cleans, clean, encs_clean, En.cln]) (F78_own a0.X a0.Y a1.X a1.Y a2 a3 _ (g78_ok n a0 a1 a2 a3 (Ans ((AV.tup [(AV.agg (TP.E.enc t.1)), (intA t.2)]))) (fun r e u m h => by rw [e]; exact h) h))
/- skyway/num.DivUp -/
theorem g80_ok (n : Nat) (a0 : Int) (a1 : Int) {t : ρ80} (R : AV → Mem → Prop) (hR : ∀ r : ρ80, t = r → ∀ u m, Ans ((AV.tup [(intA r.1), (intA r.2)])) u m → R u m) : g80 n a0 a1 = some t → F80 a0 a1 R := by
  unfold g80 F80
  refine bind_b fun x28 h28 => ?_
  refine imp (callQ_says (sg79 h28)) ?_
  refine imp exT2_b ?_
  refine imp ex_i64_b ?_
  refine imp ex_i64_b ?_
  refine cond_b (fun _ => ?_) (fun _ => ?_)
  · refine bind_b fun x29 h29 => ?_
    refine imp (opP_of (show _ = some ((intA x29), []) from (opA_rem h29))) ?_
    refine imp ex_i64_b ?_
    refine cond_b (fun _ => ?_) (fun _ => ?_)
    · exact fun hg => retN rfl (hR _ (Option.some.inj hg).symm) (fzL_cons (fz_sc _ _) (fzL_cons (fz_sc _ _) fzL_nil))
    · exact fun hg => retN rfl (hR _ (Option.some.inj hg).symm) (fzL_cons (fz_sc _ _) (fzL_cons (fz_sc _ _) fzL_nil))
  · exact fun hg => retN rfl (hR _ (Option.some.inj hg).symm) (fzL_cons (fz_sc _ _) (fzL_cons (fz_sc _ _) fzL_nil))
theorem sg80 {n : Nat} {a0 : Int} {a1 : Int} {t : ρ80} (h : g80 n a0 a1 = some t) : Says Tryz.prog KK.gl 80 [(intA a0), (intA a1)] ((AV.tup [(intA t.1), (intA t.2)])) :=
  says_of_own (by first | rfl | simp [cleans, clean, encs_clean, En.cln]) (by first | rfl | simp [cleans, clean, encs_clean, En.cln]) (F80_own a0 a1 _ (g80_ok n a0 a1 (Ans ((AV.tup [(intA t.1), (intA t.2)]))) (fun r e u m h => by rw [e]; exact h) h))
/- skyway/tube.at -/
theorem g52_ok (n : Nat) (a0 : List TTubeNode) (a1 : Int) {t : ρ52} (R : AV → Mem → Prop) (hR : ∀ r : ρ52, t = r → ∀ u m, Ans ((AV.agg (TTubeNode.E.enc r))) u m → R u m) : g52 n a0 a1 = some t → F52 (lstA TTubeNode.E a0) a1 R := by
  unfold g52 F52
  refine bind_b fun x12 h12 => ?_
  refine imp (callW_says (sg76 h12)) ?_
  refine imp exT2_b ?_
  refine imp ex_i64_b ?_
  refine imp exB_b ?_
  refine cond_b (fun _ => ?_) (fun _ => ?_)
  · refine bind_b fun x13 h13 => ?_
    refine imp (opP_of (show _ = some ((AV.ept [(intA x13.Node_Time), (intA x13.Node_At_X), (intA x13.Node_At_Y), (intA x13.Node_Height), (intA x13.Radius), (intA x13.Band)] 0), []) from (idx_lst (E := TTubeNode.E) rfl h13))) ?_
    refine imp (opP_of (show _ = some ((AV.agg [(intA x13.Node_Time), (intA x13.Node_At_X), (intA x13.Node_At_Y), (intA x13.Node_Height), (intA x13.Radius), (intA x13.Band)]), []) from rfl)) ?_
    refine imp exA6_b ?_
    refine imp ex_i64_b ?_
    refine imp ex_i64_b ?_
    refine imp ex_i64_b ?_
    refine imp ex_i64_b ?_
    refine imp ex_i64_b ?_
    refine imp ex_i64_b ?_
    refine imp (storeW_cells (sz := 6) (by kernel_rfl) (by kernel_rfl) rfl rfl (cs := [(intA (0)), (intA (0)), (intA (0)), (intA (0)), (intA (0)), (intA (0))]) (cs' := [(intA x13.Node_Time), (intA x13.Node_At_X), (intA x13.Node_At_Y), (intA x13.Node_Height), (intA x13.Radius), (intA x13.Band)]) (ty := 64) (by first | rfl | (simp (disch := first | decide | assumption) only [mpushs_nil, mpushs_cons, mget_hd, mget_tl, mget_appW_o, mget_appW_n, mget_appW_e])) rfl rfl) ?_
    exact fun hg => ret1 (hR _ (Option.some.inj hg).symm) (fz_el (E := TTubeNode.E) _ x13)
  · refine bind_b fun x14 h14 => ?_
    refine imp (opM_of (show _ = some ((AV.ept [(intA x14.Node_Time), (intA x14.Node_At_X), (intA x14.Node_At_Y), (intA x14.Node_Height), (intA x14.Radius), (intA x14.Band)] 0), []) from (idx_lst (E := TTubeNode.E) rfl h14))) ?_
    refine imp (opM_of (show _ = some ((AV.agg [(intA x14.Node_Time), (intA x14.Node_At_X), (intA x14.Node_At_Y), (intA x14.Node_Height), (intA x14.Radius), (intA x14.Band)]), []) from rfl)) ?_
    refine imp exA6_b ?_
    refine imp ex_i64_b ?_
    refine imp ex_i64_b ?_
    refine imp ex_i64_b ?_
    refine imp ex_i64_b ?_
    refine imp ex_i64_b ?_
    refine imp ex_i64_b ?_
    refine bind_b fun x15 h15 => ?_
    refine imp (opM_of (show _ = some ((AV.ept [(intA x15.Node_Time), (intA x15.Node_At_X), (intA x15.Node_At_Y), (intA x15.Node_Height), (intA x15.Radius), (intA x15.Band)] 0), []) from (idx_lst (E := TTubeNode.E) rfl h15))) ?_
    refine imp (opM_of (show _ = some ((AV.agg [(intA x15.Node_Time), (intA x15.Node_At_X), (intA x15.Node_At_Y), (intA x15.Node_Height), (intA x15.Radius), (intA x15.Band)]), []) from rfl)) ?_
    refine imp exA6_b ?_
    refine imp ex_i64_b ?_
    refine imp ex_i64_b ?_
    refine imp ex_i64_b ?_
    refine imp ex_i64_b ?_
    refine imp ex_i64_b ?_
    refine imp ex_i64_b ?_
    refine imp (storeW_cells (sz := 6) (by kernel_rfl) (by kernel_rfl) rfl rfl (cs := [(intA (0)), (intA (0)), (intA (0)), (intA (0)), (intA (0)), (intA (0))]) (cs' := [(intA x14.Node_Time), (intA x14.Node_At_X), (intA x14.Node_At_Y), (intA x14.Node_Height), (intA x14.Radius), (intA x14.Band)]) (ty := 64) (by first | rfl | (rw [look'_mem (by first | rfl | simp [topId_blk] | simp [topId])]; first | rfl | (simp (disch := first | decide | assumption) only [mpushs_nil, mpushs_cons, mget_hd, mget_tl, mget_appW_o, mget_appW_n, mget_appW_e]))) rfl rfl) ?_
    refine imp (storeW_cells (sz := 6) (by kernel_rfl) (by kernel_rfl) rfl rfl (cs := [(intA (0)), (intA (0)), (intA (0)), (intA (0)), (intA (0)), (intA (0))]) (cs' := [(intA x15.Node_Time), (intA x15.Node_At_X), (intA x15.Node_At_Y), (intA x15.Node_Height), (intA x15.Radius), (intA x15.Band)]) (ty := 64) (by first | rfl | (rw [look'_mem (by first | rfl | simp [topId_blk] | simp [topId])]; first | rfl | (simp (disch := first | decide | assumption) only [mpushs_nil, mpushs_cons, mget_hd, mget_tl, mget_appW_o, mget_appW_n, mget_appW_e]))) rfl rfl) ?_
    refine imp (chk_of (by kernel_rfl)) ?_
    refine imp (opP_of (show _ = some ((intA x14.Node_Time), []) from (ldS_ptr (b := ⟨[(intA x14.Node_Time), (intA x14.Node_At_X), (intA x14.Node_At_Y), (intA x14.Node_Height), (intA x14.Radius), (intA x14.Band)], 64⟩) (by first | rfl | (simp (disch := first | decide | assumption) only [mpushs_nil, mpushs_cons, mget_hd, mget_tl, mget_appW_o, mget_appW_n, mget_appW_e])) rfl))) ?_
    refine imp ex_i64_b ?_
    refine imp (opP_of (show _ = some ((intA x15.Node_Time), []) from (ldS_ptr (b := ⟨[(intA x15.Node_Time), (intA x15.Node_At_X), (intA x15.Node_At_Y), (intA x15.Node_Height), (intA x15.Radius), (intA x15.Band)], 64⟩) (by first | rfl | (simp (disch := first | decide | assumption) only [mpushs_nil, mpushs_cons, mget_hd, mget_tl, mget_appW_o, mget_appW_n, mget_appW_e])) rfl))) ?_
    refine imp ex_i64_b ?_
    refine imp (opP_of (show _ = some ((intA x14.Node_Time), []) from (ldS_ptr (b := ⟨[(intA x14.Node_Time), (intA x14.Node_At_X), (intA x14.Node_At_Y), (intA x14.Node_Height), (intA x14.Radius), (intA x14.Band)], 64⟩) (by first | rfl | (simp (disch := first | decide | assumption) only [mpushs_nil, mpushs_cons, mget_hd, mget_tl, mget_appW_o, mget_appW_n, mget_appW_e])) rfl))) ?_
    refine imp ex_i64_b ?_
    refine imp (opP_of (show _ = some ((AV.agg [(intA x14.Node_At_X), (intA x14.Node_At_Y)]), []) from (ldA_ptr (b := ⟨[(intA x14.Node_Time), (intA x14.Node_At_X), (intA x14.Node_At_Y), (intA x14.Node_Height), (intA x14.Radius), (intA x14.Band)], 64⟩) (by first | rfl | (simp (disch := first | decide | assumption) only [mpushs_nil, mpushs_cons, mget_hd, mget_tl, mget_appW_o, mget_appW_n, mget_appW_e])) rfl))) ?_
    refine imp exA2_b ?_
    refine imp ex_i64_b ?_
    refine imp ex_i64_b ?_
    refine imp (opP_of (show _ = some ((AV.agg [(intA x15.Node_At_X), (intA x15.Node_At_Y)]), []) from (ldA_ptr (b := ⟨[(intA x15.Node_Time), (intA x15.Node_At_X), (intA x15.Node_At_Y), (intA x15.Node_Height), (intA x15.Radius), (intA x15.Band)], 64⟩) (by first | rfl | (simp (disch := first | decide | assumption) only [mpushs_nil, mpushs_cons, mget_hd, mget_tl, mget_appW_o, mget_appW_n, mget_appW_e])) rfl))) ?_
    refine imp exA2_b ?_
    refine imp ex_i64_b ?_
    refine imp ex_i64_b ?_
    refine bind_b fun x26 h26 => ?_
    refine imp (callQ_says (sg78 h26)) ?_
    refine imp exT2_b ?_
    refine imp exA2_b ?_
    refine imp ex_i64_b ?_
    refine imp ex_i64_b ?_
    refine imp ex_i64_b ?_
    refine imp (opP_of (show _ = some ((intA x15.Node_Height), []) from (ldS_ptr (b := ⟨[(intA x15.Node_Time), (intA x15.Node_At_X), (intA x15.Node_At_Y), (intA x15.Node_Height), (intA x15.Radius), (intA x15.Band)], 64⟩) (by first | rfl | (simp (disch := first | decide | assumption) only [mpushs_nil, mpushs_cons, mget_hd, mget_tl, mget_appW_o, mget_appW_n, mget_appW_e])) rfl))) ?_
    refine imp ex_i64_b ?_
    refine imp (opP_of (show _ = some ((intA x14.Node_Height), []) from (ldS_ptr (b := ⟨[(intA x14.Node_Time), (intA x14.Node_At_X), (intA x14.Node_At_Y), (intA x14.Node_Height), (intA x14.Radius), (intA x14.Band)], 64⟩) (by first | rfl | (simp (disch := first | decide | assumption) only [mpushs_nil, mpushs_cons, mget_hd, mget_tl, mget_appW_o, mget_appW_n, mget_appW_e])) rfl))) ?_
    refine imp ex_i64_b ?_
    refine bind_b fun x27 h27 => ?_
    refine imp (callQ_says (sg79 h27)) ?_
    refine imp exT2_b ?_
    refine imp ex_i64_b ?_
    refine imp ex_i64_b ?_
    refine imp (opP_of (show _ = some ((intA x15.Radius), []) from (ldS_ptr (b := ⟨[(intA x15.Node_Time), (intA x15.Node_At_X), (intA x15.Node_At_Y), (intA x15.Node_Height), (intA x15.Radius), (intA x15.Band)], 64⟩) (by first | rfl | (simp (disch := first | decide | assumption) only [mpushs_nil, mpushs_cons, mget_hd, mget_tl, mget_appW_o, mget_appW_n, mget_appW_e])) rfl))) ?_
    refine imp ex_i64_b ?_
    refine imp (opP_of (show _ = some ((intA x14.Radius), []) from (ldS_ptr (b := ⟨[(intA x14.Node_Time), (intA x14.Node_At_X), (intA x14.Node_At_Y), (intA x14.Node_Height), (intA x14.Radius), (intA x14.Band)], 64⟩) (by first | rfl | (simp (disch := first | decide | assumption) only [mpushs_nil, mpushs_cons, mget_hd, mget_tl, mget_appW_o, mget_appW_n, mget_appW_e])) rfl))) ?_
    refine imp ex_i64_b ?_
    refine bind_b fun x30 h30 => ?_
    refine imp (callQ_says (sg80 h30)) ?_
    refine imp exT2_b ?_
    refine imp ex_i64_b ?_
    refine imp ex_i64_b ?_
    refine imp (opP_of (show _ = some ((intA x15.Band), []) from (ldS_ptr (b := ⟨[(intA x15.Node_Time), (intA x15.Node_At_X), (intA x15.Node_At_Y), (intA x15.Node_Height), (intA x15.Radius), (intA x15.Band)], 64⟩) (by first | rfl | (simp (disch := first | decide | assumption) only [mpushs_nil, mpushs_cons, mget_hd, mget_tl, mget_appW_o, mget_appW_n, mget_appW_e])) rfl))) ?_
    refine imp ex_i64_b ?_
    refine imp (opP_of (show _ = some ((intA x14.Band), []) from (ldS_ptr (b := ⟨[(intA x14.Node_Time), (intA x14.Node_At_X), (intA x14.Node_At_Y), (intA x14.Node_Height), (intA x14.Radius), (intA x14.Band)], 64⟩) (by first | rfl | (simp (disch := first | decide | assumption) only [mpushs_nil, mpushs_cons, mget_hd, mget_tl, mget_appW_o, mget_appW_n, mget_appW_e])) rfl))) ?_
    refine imp ex_i64_b ?_
    refine bind_b fun x31 h31 => ?_
    refine imp (callQ_says (sg80 h31)) ?_
    refine imp exT2_b ?_
    refine imp ex_i64_b ?_
    refine imp ex_i64_b ?_
    refine imp (opP_of (show _ = some ((intA x14.Node_Height), []) from (ldS_ptr (b := ⟨[(intA x14.Node_Time), (intA x14.Node_At_X), (intA x14.Node_At_Y), (intA x14.Node_Height), (intA x14.Radius), (intA x14.Band)], 64⟩) (by first | rfl | (simp (disch := first | decide | assumption) only [mpushs_nil, mpushs_cons, mget_hd, mget_tl, mget_appW_o, mget_appW_n, mget_appW_e])) rfl))) ?_
    refine imp ex_i64_b ?_
    refine imp (opP_of (show _ = some ((AV.agg [(intA a1), (intA x26.1.X), (intA x26.1.Y), (intA (IntKind.wrap .i64 (x14.Node_Height + x27.1)))]), []) from rfl)) ?_
    refine imp (opP_of (show _ = some ((intA x14.Radius), []) from (ldS_ptr (b := ⟨[(intA x14.Node_Time), (intA x14.Node_At_X), (intA x14.Node_At_Y), (intA x14.Node_Height), (intA x14.Radius), (intA x14.Band)], 64⟩) (by first | rfl | (simp (disch := first | decide | assumption) only [mpushs_nil, mpushs_cons, mget_hd, mget_tl, mget_appW_o, mget_appW_n, mget_appW_e])) rfl))) ?_
    refine imp ex_i64_b ?_
    refine imp (opP_of (show _ = some ((intA x14.Band), []) from (ldS_ptr (b := ⟨[(intA x14.Node_Time), (intA x14.Node_At_X), (intA x14.Node_At_Y), (intA x14.Node_Height), (intA x14.Radius), (intA x14.Band)], 64⟩) (by first | rfl | (simp (disch := first | decide | assumption) only [mpushs_nil, mpushs_cons, mget_hd, mget_tl, mget_appW_o, mget_appW_n, mget_appW_e])) rfl))) ?_
    refine imp ex_i64_b ?_
    refine imp (opP_of (show _ = some ((AV.agg [(intA a1), (intA x26.1.X), (intA x26.1.Y), (intA (IntKind.wrap .i64 (x14.Node_Height + x27.1))), (intA (IntKind.wrap .i64 (x14.Radius + x30.1))), (intA (IntKind.wrap .i64 (x14.Band + x31.1)))]), []) from rfl)) ?_
    refine imp (storeW_cells (sz := 6) (by kernel_rfl) (by kernel_rfl) rfl rfl (cs := [(intA (0)), (intA (0)), (intA (0)), (intA (0)), (intA (0)), (intA (0))]) (cs' := [(intA a1), (intA x26.1.X), (intA x26.1.Y), (intA (IntKind.wrap .i64 (x14.Node_Height + x27.1))), (intA (IntKind.wrap .i64 (x14.Radius + x30.1))), (intA (IntKind.wrap .i64 (x14.Band + x31.1)))]) (ty := 64) (by first | rfl | (simp (disch := first | decide | assumption) only [mpushs_nil, mpushs_cons, mget_hd, mget_tl, mget_appW_o, mget_appW_n, mget_appW_e])) rfl rfl) ?_
    exact fun hg => ret1 (hR _ (Option.some.inj hg).symm) (fz_el (E := TTubeNode.E) _ (⟨a1, x26.1.X, x26.1.Y, (IntKind.wrap .i64 (x14.Node_Height + x27.1)), (IntKind.wrap .i64 (x14.Radius + x30.1)), (IntKind.wrap .i64 (x14.Band + x31.1))⟩ : TTubeNode))
theorem sg52 {n : Nat} {a0 : List TTubeNode} {a1 : Int} {t : ρ52} (h : g52 n a0 a1 = some t) : Says Tryz.prog KK.gl 52 [(lstA TTubeNode.E a0), (intA a1)] ((AV.agg (TTubeNode.E.enc t))) :=
  says_of_own (by first | rfl | simp [cleans, clean, encs_clean, En.cln]) (by first | rfl | simp [cleans, clean, encs_clean, En.cln]) (F52_own (lstA TTubeNode.E a0) a1 _ (g52_ok n a0 a1 (Ans ((AV.agg (TTubeNode.E.enc t)))) (fun r e u m h => by rw [e]; exact h) h))
/- skyway/tube.At -/
theorem g42_ok (n : Nat) (a0 : List TTubeNode) (a1 : Int) {t : ρ42} (R : AV → Mem → Prop) (hR : ∀ r : ρ42, t = r → ∀ u m, Ans ((AV.tup [(AV.agg (TTubeNode.E.enc r.1)), (intA r.2)])) u m → R u m) : g42 n a0 a1 = some t → F42 (lstA TTubeNode.E a0) a1 R := by
  unfold g42 F42
  refine bind_b fun x6 h6 => ?_
  refine imp (callQ_says (sg21 h6)) ?_
  refine imp ex_i64_b ?_
  refine cond_b (fun _ => ?_) (fun _ => ?_)
  · refine imp (opP_of (show _ = some ((AV.agg [(intA (0)), (intA (0)), (intA (0)), (intA (0)), (intA (0)), (intA (0))]), []) from rfl)) ?_
    refine imp (storeW_cells (sz := 6) (by kernel_rfl) (by kernel_rfl) rfl rfl (cs := [(intA (0)), (intA (0)), (intA (0)), (intA (0)), (intA (0)), (intA (0))]) (cs' := [(intA (0)), (intA (0)), (intA (0)), (intA (0)), (intA (0)), (intA (0))]) (ty := 64) (by first | rfl | (simp (disch := first | decide | assumption) only [mpushs_nil, mpushs_cons, mget_hd, mget_tl, mget_appW_o, mget_appW_n, mget_appW_e])) rfl rfl) ?_
    exact fun hg => retN rfl (hR _ (Option.some.inj hg).symm) (fzL_cons (fz_el (E := TTubeNode.E) _ (⟨(0), (0), (0), (0), (0), (0)⟩ : TTubeNode)) (fzL_cons (fz_sc _ _) fzL_nil))
  · refine bind_b fun x7 h7 => ?_
    refine imp (callQ_says (sg51 h7)) ?_
    refine imp exT2_b ?_
    refine imp ex_i64_b ?_
    refine imp ex_i64_b ?_
    refine cond_b (fun _ => ?_) (fun _ => ?_)
    · refine imp (opP_of (show _ = some ((AV.agg [(intA (0)), (intA (0)), (intA (0)), (intA (0)), (intA (0)), (intA (0))]), []) from rfl)) ?_
      refine imp (storeW_cells (sz := 6) (by kernel_rfl) (by kernel_rfl) rfl rfl (cs := [(intA (0)), (intA (0)), (intA (0)), (intA (0)), (intA (0)), (intA (0))]) (cs' := [(intA (0)), (intA (0)), (intA (0)), (intA (0)), (intA (0)), (intA (0))]) (ty := 64) (by first | rfl | (simp (disch := first | decide | assumption) only [mpushs_nil, mpushs_cons, mget_hd, mget_tl, mget_appW_o, mget_appW_n, mget_appW_e])) rfl rfl) ?_
      exact fun hg => retN rfl (hR _ (Option.some.inj hg).symm) (fzL_cons (fz_el (E := TTubeNode.E) _ (⟨(0), (0), (0), (0), (0), (0)⟩ : TTubeNode)) (fzL_cons (fz_sc _ _) fzL_nil))
    · refine cond_b (fun _ => ?_) (fun _ => ?_)
      · refine imp (opP_of (show _ = some ((AV.agg [(intA (0)), (intA (0)), (intA (0)), (intA (0)), (intA (0)), (intA (0))]), []) from rfl)) ?_
        refine imp (storeW_cells (sz := 6) (by kernel_rfl) (by kernel_rfl) rfl rfl (cs := [(intA (0)), (intA (0)), (intA (0)), (intA (0)), (intA (0)), (intA (0))]) (cs' := [(intA (0)), (intA (0)), (intA (0)), (intA (0)), (intA (0)), (intA (0))]) (ty := 64) (by first | rfl | (simp (disch := first | decide | assumption) only [mpushs_nil, mpushs_cons, mget_hd, mget_tl, mget_appW_o, mget_appW_n, mget_appW_e])) rfl rfl) ?_
        exact fun hg => retN rfl (hR _ (Option.some.inj hg).symm) (fzL_cons (fz_el (E := TTubeNode.E) _ (⟨(0), (0), (0), (0), (0), (0)⟩ : TTubeNode)) (fzL_cons (fz_sc _ _) fzL_nil))
      · refine bind_b fun x32 h32 => ?_
        refine imp (callQ_says (sg52 h32)) ?_
        refine imp exA6_b ?_
        refine imp ex_i64_b ?_
        refine imp ex_i64_b ?_
        refine imp ex_i64_b ?_
        refine imp ex_i64_b ?_
        refine imp ex_i64_b ?_
        refine imp ex_i64_b ?_
        exact fun hg => retN rfl (hR _ (Option.some.inj hg).symm) (fzL_cons (fz_el (E := TTubeNode.E) _ x32) (fzL_cons (fz_sc _ _) fzL_nil))
theorem sg42 {n : Nat} {a0 : List TTubeNode} {a1 : Int} {t : ρ42} (h : g42 n a0 a1 = some t) : Says Tryz.prog KK.gl 42 [(lstA TTubeNode.E a0), (intA a1)] ((AV.tup [(AV.agg (TTubeNode.E.enc t.1)), (intA t.2)])) :=
  says_of_own (by first | rfl | simp [cleans, clean, encs_clean, En.cln]) (by first | rfl | simp [cleans, clean, encs_clean, En.cln]) (F42_own (lstA TTubeNode.E a0) a1 _ (g42_ok n a0 a1 (Ans ((AV.tup [(AV.agg (TTubeNode.E.enc t.1)), (intA t.2)]))) (fun r e u m h => by rw [e]; exact h) h))
/- skyway/polygon.next -/
theorem g70_ok (n : Nat) (a0 : List TP) (a1 : Int) {t : ρ70} (R : AV → Mem → Prop) (hR : ∀ r : ρ70, t = r → ∀ u m, Ans ((AV.agg (TP.E.enc r))) u m → R u m) : g70 n a0 a1 = some t → F70 (lstA TP.E a0) a1 R := by
  unfold g70 F70
  refine imp (opP_of (show _ = some ((intA (a0.length : Int)), []) from rfl)) ?_
  refine imp ex_i64_b ?_
  refine bind_b fun x36 h36 => ?_
  refine imp (opP_of (show _ = some ((intA x36), []) from (opA_rem h36))) ?_
  refine imp ex_i64_b ?_
  refine bind_b fun x37 h37 => ?_
  refine imp (opP_of (show _ = some ((AV.ept [(intA x37.X), (intA x37.Y)] 0), []) from (idx_lst (E := TP.E) rfl h37))) ?_
  refine imp (opP_of (show _ = some ((AV.agg [(intA x37.X), (intA x37.Y)]), []) from rfl)) ?_
  refine imp exA2_b ?_
  refine imp ex_i64_b ?_
  refine imp ex_i64_b ?_
  exact fun hg => ret1 (hR _ (Option.some.inj hg).symm) (fz_el (E := TP.E) _ x37)
theorem sg70 {n : Nat} {a0 : List TP} {a1 : Int} {t : ρ70} (h : g70 n a0 a1 = some t) : Says Tryz.prog KK.gl 70 [(lstA TP.E a0), (intA a1)] ((AV.agg (TP.E.enc t))) :=
  says_of_own (by first | rfl | simp [cleans, clean, encs_clean, En.cln]) (by first | rfl | simp [cleans, clean, encs_clean, En.cln]) (F70_own (lstA TP.E a0) a1 _ (g70_ok n a0 a1 (Ans ((AV.agg (TP.E.enc t)))) (fun r e u m h => by rw [e]; exact h) h))
/- skyway/plane.Sub -/
theorem g89_ok (n : Nat) (a0 : TP) (a1 : TP) {t : ρ89} (R : AV → Mem → Prop) (hR : ∀ r : ρ89, t = r → ∀ u m, Ans ((AV.agg (TP.E.enc r))) u m → R u m) : g89 n a0 a1 = some t → F89 a0.X a0.Y a1.X a1.Y R := by
  unfold g89 F89
  refine imp (opP_of (show _ = some ((AV.agg [(intA (IntKind.wrap .i64 (a0.X - a1.X))), (intA (IntKind.wrap .i64 (a0.Y - a1.Y)))]), []) from rfl)) ?_
  refine imp (storeW_cells (sz := 2) (by kernel_rfl) (by kernel_rfl) rfl rfl (cs := [(intA (0)), (intA (0))]) (cs' := [(intA (IntKind.wrap .i64 (a0.X - a1.X))), (intA (IntKind.wrap .i64 (a0.Y - a1.Y)))]) (ty := 60) (by first | rfl | (simp (disch := first | decide | assumption) only [mpushs_nil, mpushs_cons, mget_hd, mget_tl, mget_appW_o, mget_appW_n, mget_appW_e])) rfl rfl) ?_
  exact fun hg => ret1 (hR _ (Option.some.inj hg).symm) (fz_el (E := TP.E) _ (⟨(IntKind.wrap .i64 (a0.X - a1.X)), (IntKind.wrap .i64 (a0.Y - a1.Y))⟩ : TP))
theorem sg89 {n : Nat} {a0 : TP} {a1 : TP} {t : ρ89} (h : g89 n a0 a1 = some t) : Says Tryz.prog KK.gl 89 [(AV.agg [(intA a0.X), (intA a0.Y)]), (AV.agg [(intA a1.X), (intA a1.Y)])] ((AV.agg (TP.E.enc t))) :=
  says_of_own (by first | rfl | simp [cleans, clean, encs_clean, En.cln]) (by first | rfl | simp [cleans, clean, encs_clean, En.cln]) (F89_own a0.X a0.Y a1.X a1.Y _ (g89_ok n a0 a1 (Ans ((AV.agg (TP.E.enc t)))) (fun r e u m h => by rw [e]; exact h) h))
/- skyway/plane.Cross -/
theorem g88_ok (n : Nat) (a0 : TP) (a1 : TP) {t : ρ88} (R : AV → Mem → Prop) (hR : ∀ r : ρ88, t = r → ∀ u m, Ans ((intA r)) u m → R u m) : g88 n a0 a1 = some t → F88 a0.X a0.Y a1.X a1.Y R := by
  unfold g88 F88
  exact fun hg => ret1 (hR _ (Option.some.inj hg).symm) (fz_sc _ _)
theorem sg88 {n : Nat} {a0 : TP} {a1 : TP} {t : ρ88} (h : g88 n a0 a1 = some t) : Says Tryz.prog KK.gl 88 [(AV.agg [(intA a0.X), (intA a0.Y)]), (AV.agg [(intA a1.X), (intA a1.Y)])] ((intA t)) :=
  says_of_own (by first | rfl | simp [cleans, clean, encs_clean, En.cln]) (by first | rfl | simp [cleans, clean, encs_clean, En.cln]) (F88_own a0.X a0.Y a1.X a1.Y _ (g88_ok n a0 a1 (Ans ((intA t))) (fun r e u m h => by rw [e]; exact h) h))
/- skyway/plane.Turn -/
theorem g69_ok (n : Nat) (a0 : TP) (a1 : TP) (a2 : TP) {t : ρ69} (R : AV → Mem → Prop) (hR : ∀ r : ρ69, t = r → ∀ u m, Ans ((intA r)) u m → R u m) : g69 n a0 a1 a2 = some t → F69 a0.X a0.Y a1.X a1.Y a2.X a2.Y R := by
  unfold g69 F69
  refine bind_b fun x39 h39 => ?_
  refine imp (callQ_says (sg89 h39)) ?_
  refine imp exA2_b ?_
  refine imp ex_i64_b ?_
  refine imp ex_i64_b ?_
  refine bind_b fun x40 h40 => ?_
  refine imp (callQ_says (sg89 h40)) ?_
  refine imp exA2_b ?_
  refine imp ex_i64_b ?_
  refine imp ex_i64_b ?_
  refine bind_b fun x41 h41 => ?_
  refine imp (callQ_says (sg88 h41)) ?_
  refine imp ex_i64_b ?_
  refine cond_b (fun _ => ?_) (fun _ => ?_)
  · exact fun hg => ret1 (hR _ (Option.some.inj hg).symm) (fz_sc _ _)
  · refine cond_b (fun _ => ?_) (fun _ => ?_)
    · exact fun hg => ret1 (hR _ (Option.some.inj hg).symm) (fz_sc _ _)
    · exact fun hg => ret1 (hR _ (Option.some.inj hg).symm) (fz_sc _ _)
theorem sg69 {n : Nat} {a0 : TP} {a1 : TP} {a2 : TP} {t : ρ69} (h : g69 n a0 a1 a2 = some t) : Says Tryz.prog KK.gl 69 [(AV.agg [(intA a0.X), (intA a0.Y)]), (AV.agg [(intA a1.X), (intA a1.Y)]), (AV.agg [(intA a2.X), (intA a2.Y)])] ((intA t)) :=
  says_of_own (by first | rfl | simp [cleans, clean, encs_clean, En.cln]) (by first | rfl | simp [cleans, clean, encs_clean, En.cln]) (F69_own a0.X a0.Y a1.X a1.Y a2.X a2.Y _ (g69_ok n a0 a1 a2 (Ans ((intA t))) (fun r e u m h => by rw [e]; exact h) h))
/- skyway/polygon.between -/
theorem g96_ok (n : Nat) (a0 : TP) (a1 : TP) (a2 : TP) {t : ρ96} (R : AV → Mem → Prop) (hR : ∀ r : ρ96, t = r → ∀ u m, Ans ((boolA r)) u m → R u m) : g96 n a0 a1 a2 = some t → F96 a0.X a0.Y a1.X a1.Y a2.X a2.Y R := by
  unfold g96 F96
  refine imp (opP_of (show _ = some ((intA (if a1.X < a0.X then a1.X else a0.X)), []) from (by kernel_rfl))) ?_
  refine imp ex_i64_b ?_
  refine cond_b (fun _ => ?_) (fun _ => ?_)
  · refine imp (opP_of (show _ = some ((intA (if a1.X > a0.X then a1.X else a0.X)), []) from (by kernel_rfl))) ?_
    refine imp ex_i64_b ?_
    refine cond_b (fun _ => ?_) (fun _ => ?_)
    · refine imp (opP_of (show _ = some ((intA (if a1.Y < a0.Y then a1.Y else a0.Y)), []) from (by kernel_rfl))) ?_
      refine imp ex_i64_b ?_
      refine cond_b (fun _ => ?_) (fun _ => ?_)
      · refine imp (opP_of (show _ = some ((intA (if a1.Y > a0.Y then a1.Y else a0.Y)), []) from (by kernel_rfl))) ?_
        refine imp ex_i64_b ?_
        exact fun hg => ret1 (hR _ (Option.some.inj hg).symm) (fz_sc _ _)
      · exact fun hg => ret1 (hR _ (Option.some.inj hg).symm) (fz_sc _ _)
    · exact fun hg => ret1 (hR _ (Option.some.inj hg).symm) (fz_sc _ _)
  · exact fun hg => ret1 (hR _ (Option.some.inj hg).symm) (fz_sc _ _)
theorem sg96 {n : Nat} {a0 : TP} {a1 : TP} {a2 : TP} {t : ρ96} (h : g96 n a0 a1 a2 = some t) : Says Tryz.prog KK.gl 96 [(AV.agg [(intA a0.X), (intA a0.Y)]), (AV.agg [(intA a1.X), (intA a1.Y)]), (AV.agg [(intA a2.X), (intA a2.Y)])] ((boolA t)) :=
  says_of_own (by first | rfl | simp [cleans, clean, encs_clean, En.cln]) (by first | rfl | simp [cleans, clean, encs_clean, En.cln]) (F96_own a0.X a0.Y a1.X a1.Y a2.X a2.Y _ (g96_ok n a0 a1 a2 (Ans ((boolA t))) (fun r e u m h => by rw [e]; exact h) h))
/- skyway/polygon.on -/
theorem g90_ok (n : Nat) (a0 : TP) (a1 : TP) (a2 : TP) {t : ρ90} (R : AV → Mem → Prop) (hR : ∀ r : ρ90, t = r → ∀ u m, Ans ((boolA r)) u m → R u m) : g90 n a0 a1 a2 = some t → F90 a0.X a0.Y a1.X a1.Y a2.X a2.Y R := by
  unfold g90 F90
  refine bind_b fun x42 h42 => ?_
  refine imp (callQ_says (sg69 h42)) ?_
  refine imp ex_i64_b ?_
  refine cond_b (fun _ => ?_) (fun _ => ?_)
  · refine bind_b fun x43 h43 => ?_
    refine imp (callQ_says (sg96 h43)) ?_
    refine imp exB_b ?_
    exact fun hg => ret1 (hR _ (Option.some.inj hg).symm) (fz_sc _ _)
  · exact fun hg => ret1 (hR _ (Option.some.inj hg).symm) (fz_sc _ _)
theorem sg90 {n : Nat} {a0 : TP} {a1 : TP} {a2 : TP} {t : ρ90} (h : g90 n a0 a1 a2 = some t) : Says Tryz.prog KK.gl 90 [(AV.agg [(intA a0.X), (intA a0.Y)]), (AV.agg [(intA a1.X), (intA a1.Y)]), (AV.agg [(intA a2.X), (intA a2.Y)])] ((boolA t)) :=
  says_of_own (by first | rfl | simp [cleans, clean, encs_clean, En.cln]) (by first | rfl | simp [cleans, clean, encs_clean, En.cln]) (F90_own a0.X a0.Y a1.X a1.Y a2.X a2.Y _ (g90_ok n a0 a1 a2 (Ans ((boolA t))) (fun r e u m h => by rw [e]; exact h) h))
/- skyway/polygon.Place -/
theorem B82_0_ok (n : Nat) (a0 : List TP) (c4 : Int) (c11 : Int) (k0_0 : Int) (k0_1 : Int) (v5 : Int) (v12 : Int) {t : (Int × Int) ⊕ ρ82} (R : AV → Mem → Prop) (N0 : St → Prop) (hR : ∀ r : ρ82, t = (.inr r) → ∀ u m, Ans ((intA r)) u m → R u m) (hN0 : ∀ y : Int × Int, t = (.inl y) → ∀ s' : St, Weak KK 65 0 s' (h82_0 (lstA TP.E a0) c4 y.1 c11 y.2 k0_0 k0_1 []) → N0 s') : S82_0 n a0 c4 c11 k0_0 k0_1 v5 v12 = some t → B82_0 (lstA TP.E a0) c4 v5 c11 v12 k0_0 k0_1 [] R N0 := by
  unfold S82_0 B82_0
  refine cond_b (fun _ => ?_) (fun _ => ?_)
  · refine bind_b fun x35 h35 => ?_
    refine imp (opM_of (show _ = some ((AV.ept [(intA x35.X), (intA x35.Y)] 0), []) from (idx_lst (E := TP.E) rfl h35))) ?_
    refine imp (opM_of (show _ = some ((AV.agg [(intA x35.X), (intA x35.Y)]), []) from rfl)) ?_
    refine imp exA2_b ?_
    refine imp ex_i64_b ?_
    refine imp ex_i64_b ?_
    refine bind_b fun x38 h38 => ?_
    refine imp (callF_says (sg70 h38)) ?_
    refine imp exA2_b ?_
    refine imp ex_i64_b ?_
    refine imp ex_i64_b ?_
    refine imp (storeW_cells (sz := 2) (by kernel_rfl) (by kernel_rfl) rfl rfl (cs := [(intA (0)), (intA (0))]) (cs' := [(intA x35.X), (intA x35.Y)]) (ty := 60) (by first | rfl | (rw [look'_mem (by first | rfl | simp [topId_blk] | simp [topId])]; first | rfl | (simp (disch := first | decide | assumption) only [mpushs_nil, mpushs_cons, mget_hd, mget_tl, mget_appW_o, mget_appW_n, mget_appW_e]))) rfl rfl) ?_
    refine imp (storeW_cells (sz := 2) (by kernel_rfl) (by kernel_rfl) rfl rfl (cs := [(intA (0)), (intA (0))]) (cs' := [(intA x38.X), (intA x38.Y)]) (ty := 60) (by first | rfl | (rw [look'_mem (by first | rfl | simp [topId_blk] | simp [topId])]; first | rfl | (simp (disch := first | decide | assumption) only [mpushs_nil, mpushs_cons, mget_hd, mget_tl, mget_appW_o, mget_appW_n, mget_appW_e]))) rfl rfl) ?_
    refine imp (chk_of (by kernel_rfl)) ?_
    refine imp (opP_of (show _ = some ((AV.agg [(intA x35.X), (intA x35.Y)]), []) from (ldA_ptr (b := ⟨[(intA x35.X), (intA x35.Y)], 60⟩) (by first | rfl | (simp (disch := first | decide | assumption) only [mpushs_nil, mpushs_cons, mget_hd, mget_tl, mget_appW_o, mget_appW_n, mget_appW_e])) rfl))) ?_
    refine imp exA2_b ?_
    refine imp ex_i64_b ?_
    refine imp ex_i64_b ?_
    refine imp (opP_of (show _ = some ((AV.agg [(intA x38.X), (intA x38.Y)]), []) from (ldA_ptr (b := ⟨[(intA x38.X), (intA x38.Y)], 60⟩) (by first | rfl | (simp (disch := first | decide | assumption) only [mpushs_nil, mpushs_cons, mget_hd, mget_tl, mget_appW_o, mget_appW_n, mget_appW_e])) rfl))) ?_
    refine imp exA2_b ?_
    refine imp ex_i64_b ?_
    refine imp ex_i64_b ?_
    refine imp (opP_of (show _ = some ((AV.agg [(intA k0_0), (intA k0_1)]), []) from (ldA_ptr (b := ⟨[(intA k0_0), (intA k0_1)], 60⟩) (by first | rfl | (simp (disch := first | decide | assumption) only [mpushs_nil, mpushs_cons, mget_hd, mget_tl, mget_appW_o, mget_appW_n, mget_appW_e])) rfl))) ?_
    refine imp exA2_b ?_
    refine imp ex_i64_b ?_
    refine imp ex_i64_b ?_
    refine bind_b fun x44 h44 => ?_
    refine imp (callQ_says (sg90 h44)) ?_
    refine imp exB_b ?_
    refine cond_b (fun _ => ?_) (fun _ => ?_)
    · exact fun hg => ret1 (hR _ (Option.some.inj hg).symm) (fz_sc _ _)
    · refine imp (opP_of (show _ = some ((intA x35.Y), []) from (ldS_ptr (b := ⟨[(intA x35.X), (intA x35.Y)], 60⟩) (by first | rfl | (simp (disch := first | decide | assumption) only [mpushs_nil, mpushs_cons, mget_hd, mget_tl, mget_appW_o, mget_appW_n, mget_appW_e])) rfl))) ?_
      refine imp ex_i64_b ?_
      refine imp (opP_of (show _ = some ((intA k0_1), []) from (ldS_ptr (b := ⟨[(intA k0_0), (intA k0_1)], 60⟩) (by first | rfl | (simp (disch := first | decide | assumption) only [mpushs_nil, mpushs_cons, mget_hd, mget_tl, mget_appW_o, mget_appW_n, mget_appW_e])) rfl))) ?_
      refine imp ex_i64_b ?_
      refine imp (opP_of (show _ = some ((intA x38.Y), []) from (ldS_ptr (b := ⟨[(intA x38.X), (intA x38.Y)], 60⟩) (by first | rfl | (simp (disch := first | decide | assumption) only [mpushs_nil, mpushs_cons, mget_hd, mget_tl, mget_appW_o, mget_appW_n, mget_appW_e])) rfl))) ?_
      refine imp ex_i64_b ?_
      refine imp (opP_of (show _ = some ((intA k0_1), []) from (ldS_ptr (b := ⟨[(intA k0_0), (intA k0_1)], 60⟩) (by first | rfl | (simp (disch := first | decide | assumption) only [mpushs_nil, mpushs_cons, mget_hd, mget_tl, mget_appW_o, mget_appW_n, mget_appW_e])) rfl))) ?_
      refine imp ex_i64_b ?_
      refine imp (opP_of (show _ = some ((boolA (!((decide (x35.Y > k0_1)) == (decide (x38.Y > k0_1))))), []) from (by kernel_rfl))) ?_
      refine imp exB_b ?_
      refine cond_b (fun _ => ?_) (fun _ => ?_)
      · refine imp (opP_of (show _ = some ((AV.agg [(intA x35.X), (intA x35.Y)]), []) from (ldA_ptr (b := ⟨[(intA x35.X), (intA x35.Y)], 60⟩) (by first | rfl | (simp (disch := first | decide | assumption) only [mpushs_nil, mpushs_cons, mget_hd, mget_tl, mget_appW_o, mget_appW_n, mget_appW_e])) rfl))) ?_
        refine imp exA2_b ?_
        refine imp ex_i64_b ?_
        refine imp ex_i64_b ?_
        refine imp (opP_of (show _ = some ((AV.agg [(intA x38.X), (intA x38.Y)]), []) from (ldA_ptr (b := ⟨[(intA x38.X), (intA x38.Y)], 60⟩) (by first | rfl | (simp (disch := first | decide | assumption) only [mpushs_nil, mpushs_cons, mget_hd, mget_tl, mget_appW_o, mget_appW_n, mget_appW_e])) rfl))) ?_
        refine imp exA2_b ?_
        refine imp ex_i64_b ?_
        refine imp ex_i64_b ?_
        refine imp (opP_of (show _ = some ((AV.agg [(intA k0_0), (intA k0_1)]), []) from (ldA_ptr (b := ⟨[(intA k0_0), (intA k0_1)], 60⟩) (by first | rfl | (simp (disch := first | decide | assumption) only [mpushs_nil, mpushs_cons, mget_hd, mget_tl, mget_appW_o, mget_appW_n, mget_appW_e])) rfl))) ?_
        refine imp exA2_b ?_
        refine imp ex_i64_b ?_
        refine imp ex_i64_b ?_
        refine bind_b fun x45 h45 => ?_
        refine imp (callQ_says (sg69 h45)) ?_
        refine imp ex_i64_b ?_
        refine imp (opP_of (show _ = some ((intA x38.Y), []) from (ldS_ptr (b := ⟨[(intA x38.X), (intA x38.Y)], 60⟩) (by first | rfl | (simp (disch := first | decide | assumption) only [mpushs_nil, mpushs_cons, mget_hd, mget_tl, mget_appW_o, mget_appW_n, mget_appW_e])) rfl))) ?_
        refine imp ex_i64_b ?_
        refine imp (opP_of (show _ = some ((intA x35.Y), []) from (ldS_ptr (b := ⟨[(intA x35.X), (intA x35.Y)], 60⟩) (by first | rfl | (simp (disch := first | decide | assumption) only [mpushs_nil, mpushs_cons, mget_hd, mget_tl, mget_appW_o, mget_appW_n, mget_appW_e])) rfl))) ?_
        refine imp ex_i64_b ?_
        refine cond_b (fun _ => ?_) (fun _ => ?_)
        · refine cond_b (fun _ => ?_) (fun _ => ?_)
          · refine imp (opP_of (show _ = some ((intA (IntKind.wrap .i64 (0 - v5))), []) from (by kernel_rfl))) ?_
            refine imp ex_i64_b ?_
            exact fun hg => hN0 _ (Option.some.inj hg).symm _ (weak_mem [(0, 0)] rfl rfl rfl (okW_cons (ent_lst (E := TP.E) _ false) (okW_cons (.inl (leV_refl _)) (okW_cons (.inl (leV_refl _)) (okW_cons (.inl (leV_refl _)) (okW_cons (.inl (leV_refl _)) (okW_cons (.inl (leV_refl _)) okW_nil)))))) (okB_cons (okB_cells (cs := [(intA k0_0), (intA k0_1)]) (ty := 60) rfl (show mget _ 0 = _ from (by first | rfl | (simp (disch := first | decide | assumption) only [mpushs_nil, mpushs_cons, mget_hd, mget_tl, mget_appW_o, mget_appW_n, mget_appW_e])))) okB_nil'))
          · refine imp (opP_of (show _ = some ((intA x38.Y), []) from (ldS_ptr (b := ⟨[(intA x38.X), (intA x38.Y)], 60⟩) (by first | rfl | (simp (disch := first | decide | assumption) only [mpushs_nil, mpushs_cons, mget_hd, mget_tl, mget_appW_o, mget_appW_n, mget_appW_e])) rfl))) ?_
            refine imp ex_i64_b ?_
            refine imp (opP_of (show _ = some ((intA x35.Y), []) from (ldS_ptr (b := ⟨[(intA x35.X), (intA x35.Y)], 60⟩) (by first | rfl | (simp (disch := first | decide | assumption) only [mpushs_nil, mpushs_cons, mget_hd, mget_tl, mget_appW_o, mget_appW_n, mget_appW_e])) rfl))) ?_
            refine imp ex_i64_b ?_
            refine cond_b (fun _ => ?_) (fun _ => ?_)
            · refine cond_b (fun _ => ?_) (fun _ => ?_)
              · refine imp (opP_of (show _ = some ((intA (IntKind.wrap .i64 (0 - v5))), []) from (by kernel_rfl))) ?_
                refine imp ex_i64_b ?_
                exact fun hg => hN0 _ (Option.some.inj hg).symm _ (weak_mem [(0, 0)] rfl rfl rfl (okW_cons (ent_lst (E := TP.E) _ false) (okW_cons (.inl (leV_refl _)) (okW_cons (.inl (leV_refl _)) (okW_cons (.inl (leV_refl _)) (okW_cons (.inl (leV_refl _)) (okW_cons (.inl (leV_refl _)) okW_nil)))))) (okB_cons (okB_cells (cs := [(intA k0_0), (intA k0_1)]) (ty := 60) rfl (show mget _ 0 = _ from (by first | rfl | (simp (disch := first | decide | assumption) only [mpushs_nil, mpushs_cons, mget_hd, mget_tl, mget_appW_o, mget_appW_n, mget_appW_e])))) okB_nil'))
              · exact fun hg => hN0 _ (Option.some.inj hg).symm _ (weak_mem [(0, 0)] rfl rfl rfl (okW_cons (ent_lst (E := TP.E) _ false) (okW_cons (.inl (leV_refl _)) (okW_cons (.inl (leV_refl _)) (okW_cons (.inl (leV_refl _)) (okW_cons (.inl (leV_refl _)) (okW_cons (.inl (leV_refl _)) okW_nil)))))) (okB_cons (okB_cells (cs := [(intA k0_0), (intA k0_1)]) (ty := 60) rfl (show mget _ 0 = _ from (by first | rfl | (simp (disch := first | decide | assumption) only [mpushs_nil, mpushs_cons, mget_hd, mget_tl, mget_appW_o, mget_appW_n, mget_appW_e])))) okB_nil'))
            · exact fun hg => hN0 _ (Option.some.inj hg).symm _ (weak_mem [(0, 0)] rfl rfl rfl (okW_cons (ent_lst (E := TP.E) _ false) (okW_cons (.inl (leV_refl _)) (okW_cons (.inl (leV_refl _)) (okW_cons (.inl (leV_refl _)) (okW_cons (.inl (leV_refl _)) (okW_cons (.inl (leV_refl _)) okW_nil)))))) (okB_cons (okB_cells (cs := [(intA k0_0), (intA k0_1)]) (ty := 60) rfl (show mget _ 0 = _ from (by first | rfl | (simp (disch := first | decide | assumption) only [mpushs_nil, mpushs_cons, mget_hd, mget_tl, mget_appW_o, mget_appW_n, mget_appW_e])))) okB_nil'))
        · refine imp (opP_of (show _ = some ((intA x38.Y), []) from (ldS_ptr (b := ⟨[(intA x38.X), (intA x38.Y)], 60⟩) (by first | rfl | (simp (disch := first | decide | assumption) only [mpushs_nil, mpushs_cons, mget_hd, mget_tl, mget_appW_o, mget_appW_n, mget_appW_e])) rfl))) ?_
          refine imp ex_i64_b ?_
          refine imp (opP_of (show _ = some ((intA x35.Y), []) from (ldS_ptr (b := ⟨[(intA x35.X), (intA x35.Y)], 60⟩) (by first | rfl | (simp (disch := first | decide | assumption) only [mpushs_nil, mpushs_cons, mget_hd, mget_tl, mget_appW_o, mget_appW_n, mget_appW_e])) rfl))) ?_
          refine imp ex_i64_b ?_
          refine cond_b (fun _ => ?_) (fun _ => ?_)
          · refine cond_b (fun _ => ?_) (fun _ => ?_)
            · refine imp (opP_of (show _ = some ((intA (IntKind.wrap .i64 (0 - v5))), []) from (by kernel_rfl))) ?_
              refine imp ex_i64_b ?_
              exact fun hg => hN0 _ (Option.some.inj hg).symm _ (weak_mem [(0, 0)] rfl rfl rfl (okW_cons (ent_lst (E := TP.E) _ false) (okW_cons (.inl (leV_refl _)) (okW_cons (.inl (leV_refl _)) (okW_cons (.inl (leV_refl _)) (okW_cons (.inl (leV_refl _)) (okW_cons (.inl (leV_refl _)) okW_nil)))))) (okB_cons (okB_cells (cs := [(intA k0_0), (intA k0_1)]) (ty := 60) rfl (show mget _ 0 = _ from (by first | rfl | (simp (disch := first | decide | assumption) only [mpushs_nil, mpushs_cons, mget_hd, mget_tl, mget_appW_o, mget_appW_n, mget_appW_e])))) okB_nil'))
            · exact fun hg => hN0 _ (Option.some.inj hg).symm _ (weak_mem [(0, 0)] rfl rfl rfl (okW_cons (ent_lst (E := TP.E) _ false) (okW_cons (.inl (leV_refl _)) (okW_cons (.inl (leV_refl _)) (okW_cons (.inl (leV_refl _)) (okW_cons (.inl (leV_refl _)) (okW_cons (.inl (leV_refl _)) okW_nil)))))) (okB_cons (okB_cells (cs := [(intA k0_0), (intA k0_1)]) (ty := 60) rfl (show mget _ 0 = _ from (by first | rfl | (simp (disch := first | decide | assumption) only [mpushs_nil, mpushs_cons, mget_hd, mget_tl, mget_appW_o, mget_appW_n, mget_appW_e])))) okB_nil'))
          · exact fun hg => hN0 _ (Option.some.inj hg).symm _ (weak_mem [(0, 0)] rfl rfl rfl (okW_cons (ent_lst (E := TP.E) _ false) (okW_cons (.inl (leV_refl _)) (okW_cons (.inl (leV_refl _)) (okW_cons (.inl (leV_refl _)) (okW_cons (.inl (leV_refl _)) (okW_cons (.inl (leV_refl _)) okW_nil)))))) (okB_cons (okB_cells (cs := [(intA k0_0), (intA k0_1)]) (ty := 60) rfl (show mget _ 0 = _ from (by first | rfl | (simp (disch := first | decide | assumption) only [mpushs_nil, mpushs_cons, mget_hd, mget_tl, mget_appW_o, mget_appW_n, mget_appW_e])))) okB_nil'))
      · exact fun hg => hN0 _ (Option.some.inj hg).symm _ (weak_mem [(0, 0)] rfl rfl rfl (okW_cons (ent_lst (E := TP.E) _ false) (okW_cons (.inl (leV_refl _)) (okW_cons (.inl (leV_refl _)) (okW_cons (.inl (leV_refl _)) (okW_cons (.inl (leV_refl _)) (okW_cons (.inl (leV_refl _)) okW_nil)))))) (okB_cons (okB_cells (cs := [(intA k0_0), (intA k0_1)]) (ty := 60) rfl (show mget _ 0 = _ from (by first | rfl | (simp (disch := first | decide | assumption) only [mpushs_nil, mpushs_cons, mget_hd, mget_tl, mget_appW_o, mget_appW_n, mget_appW_e])))) okB_nil'))
  · exact fun hg => ret1 (hR _ (Option.some.inj hg).symm) (fz_sc _ _)
theorem L82_0_ok (n : Nat) (a0 : List TP) (c4 : Int) (c11 : Int) (k0_0 : Int) (k0_1 : Int) {t : ρ82} (R : AV → Mem → Prop) (hR : ∀ r : ρ82, t = r → ∀ u m, Ans ((intA r)) u m → R u m) (k : Nat) (x : Int × Int) (hx : iterO (fun y : Int × Int => S82_0 n a0 c4 c11 k0_0 k0_1 y.1 y.2) k x = some t) {s : St} (hw : Weak KK 65 0 s (h82_0 (lstA TP.E a0) c4 x.1 c11 x.2 k0_0 k0_1 [])) : Tri Tryz.prog KK 65 0 (.loop c82_0) s (q82_0 R ) :=
  L82_0 R  (σ := Nat × (Int × Int)) (fun z => iterO (fun y : Int × Int => S82_0 n a0 c4 c11 k0_0 k0_1 y.1 y.2) z.1 z.2 = some t) (fun z => (lstA TP.E a0)) (fun z => c4) (fun z => z.2.1) (fun z => c11) (fun z => z.2.2) (fun z => k0_0) (fun z => k0_1) (fun z => []) (fun z => z.1) (by
    rintro ⟨k, y⟩ h
    cases k with
    | zero => exact (iterO_zero h).elim
    | succ k =>
      obtain ⟨u, h1, h2, h3⟩ := iterO_elim h
      exact B82_0_ok n a0 c4 c11 k0_0 k0_1 y.1 y.2 R  _ (fun r e => hR r (h3 _ e).symm)  (fun y' e s' hw => ⟨(k, y'), h2 _ e, Nat.lt_succ_self k, hw⟩) h1) (k, x) hx hw
theorem g82_ok (n : Nat) (a0 : List TP) (a1 : TP) {t : ρ82} (R : AV → Mem → Prop) (hR : ∀ r : ρ82, t = r → ∀ u m, Ans ((intA r)) u m → R u m) : g82 n a0 a1 = some t → F82 (lstA TP.E a0) a1.X a1.Y R := by
  unfold g82 F82
  refine imp (opP_of (show _ = some ((intA (a0.length : Int)), []) from rfl)) ?_
  refine imp ex_i64_b ?_
  exact fun hg => L82_0_ok n a0 (0) (a0.length : Int) a1.X a1.Y R  hR n _ hg (weak_mem [(0, 0)] rfl rfl rfl (okW_cons (ent_lst (E := TP.E) _ false) (okW_cons (.inl (leV_refl _)) (okW_cons (.inl (leV_refl _)) (okW_cons (.inl (leV_refl _)) (okW_cons (.inl (leV_refl _)) (okW_cons (.inl (leV_refl _)) okW_nil)))))) (okB_cons (okB_cells (cs := [(intA a1.X), (intA a1.Y)]) (ty := 60) rfl (show mget _ 0 = _ from (by first | rfl | (simp (disch := first | decide | assumption) only [mpushs_nil, mpushs_cons, mget_hd, mget_tl, mget_appW_o, mget_appW_n, mget_appW_e])))) okB_nil'))
theorem sg82 {n : Nat} {a0 : List TP} {a1 : TP} {t : ρ82} (h : g82 n a0 a1 = some t) : Says Tryz.prog KK.gl 82 [(lstA TP.E a0), (AV.agg [(intA a1.X), (intA a1.Y)])] ((intA t)) :=
  says_of_own (by first | rfl | simp [cleans, clean, encs_clean, En.cln]) (by first | rfl | simp [cleans, clean, encs_clean, En.cln]) (F82_own (lstA TP.E a0) a1.X a1.Y _ (g82_ok n a0 a1 (Ans ((intA t))) (fun r e u m h => by rw [e]; exact h) h))
/- skyway/volume.Contains -/
theorem g56_ok (n : Nat) (a0 : TVolume) (a1 : TP) (a2 : Int) {t : ρ56} (R : AV → Mem → Prop) (hR : ∀ r : ρ56, t = r → ∀ u m, Ans ((boolA r)) u m → R u m) : g56 n a0 a1 a2 = some t → F56 (lstA TP.E a0.Area) a0.Low a0.High a1.X a1.Y a2 R := by
  unfold g56 F56
  refine imp (chk_of rfl) ?_
  refine cond_b (fun _ => ?_) (fun _ => ?_)
  · refine cond_b (fun _ => ?_) (fun _ => ?_)
    · refine bind_b fun x46 h46 => ?_
      refine imp (callQ_says (sg82 h46)) ?_
      refine imp ex_i64_b ?_
      exact fun hg => ret1 (hR _ (Option.some.inj hg).symm) (fz_sc _ _)
    · exact fun hg => ret1 (hR _ (Option.some.inj hg).symm) (fz_sc _ _)
  · exact fun hg => ret1 (hR _ (Option.some.inj hg).symm) (fz_sc _ _)
theorem sg56 {n : Nat} {a0 : TVolume} {a1 : TP} {a2 : Int} {t : ρ56} (h : g56 n a0 a1 a2 = some t) : Says Tryz.prog KK.gl 56 [(AV.agg [(lstA TP.E a0.Area), (intA a0.Low), (intA a0.High)]), (AV.agg [(intA a1.X), (intA a1.Y)]), (intA a2)] ((boolA t)) :=
  says_of_own (by first | rfl | simp [cleans, clean, encs_clean, En.cln]) (by first | rfl | simp [cleans, clean, encs_clean, En.cln]) (F56_own (lstA TP.E a0.Area) a0.Low a0.High a1.X a1.Y a2 _ (g56_ok n a0 a1 a2 (Ans ((boolA t))) (fun r e u m h => by rw [e]; exact h) h))
/- skyway/sector.Place$1$1 -/
theorem g55_ok (n : Nat) (a0 : TVolume) (a1_0 : Int) (a1_1 : Int) (a2_0 : Int) {t : ρ55} (R : AV → Mem → Prop) (hR : ∀ r : ρ55, t = r → ∀ u m, Ans ((boolA r)) u m → R u m) : g55 n a0 a1_0 a1_1 a2_0 = some t → F55 (lstA TP.E a0.Area) a0.Low a0.High (AV.ept [(intA a1_0), (intA a1_1)] 0) (AV.ept [(intA a2_0)] 0) R := by
  unfold g55 F55
  refine imp (chk_of rfl) ?_
  refine imp (opP_of (show _ = some ((AV.agg [(intA a1_0), (intA a1_1)]), []) from rfl)) ?_
  refine imp exA2_b ?_
  refine imp ex_i64_b ?_
  refine imp ex_i64_b ?_
  refine imp (opP_of (show _ = some ((intA a2_0), []) from rfl)) ?_
  refine imp ex_i64_b ?_
  refine bind_b fun x47 h47 => ?_
  refine imp (callQ_says (sg56 h47)) ?_
  refine imp exB_b ?_
  exact fun hg => ret1 (hR _ (Option.some.inj hg).symm) (fz_sc _ _)
theorem sg55 {n : Nat} {a0 : TVolume} {a1_0 : Int} {a1_1 : Int} {a2_0 : Int} {t : ρ55} (h : g55 n a0 a1_0 a1_1 a2_0 = some t) : Says Tryz.prog KK.gl 55 [(AV.agg [(lstA TP.E a0.Area), (intA a0.Low), (intA a0.High)]), (AV.ept [(intA a1_0), (intA a1_1)] 0), (AV.ept [(intA a2_0)] 0)] ((boolA t)) :=
  says_of_own (by first | rfl | simp [cleans, clean, encs_clean, En.cln]) (by first | rfl | simp [cleans, clean, encs_clean, En.cln]) (F55_own (lstA TP.E a0.Area) a0.Low a0.High (AV.ept [(intA a1_0), (intA a1_1)] 0) (AV.ept [(intA a2_0)] 0) _ (g55_ok n a0 a1_0 a1_1 a2_0 (Ans ((boolA t))) (fun r e u m h => by rw [e]; exact h) h))
/- slices.IndexFunc[[]skyway/api.Volume,skyway/api.Volume] -/
theorem B81_0_ok (n : Nat) (a0 : List TVolume) (a1_0_0 : Int) (a1_0_1 : Int) (a1_1_0 : Int) (c4 : Int) (c7 : Int) (v8 : Int) {t : (Int) ⊕ ρ81} (R : AV → Mem → Prop) (N0 : St → Prop) (hR : ∀ r : ρ81, t = (.inr r) → ∀ u m, Ans ((intA r)) u m → R u m) (hN0 : ∀ y : Int, t = (.inl y) → ∀ s' : St, Weak KK 19 0 s' (h81_0 (lstA TVolume.E a0) (AV.fn 55 [(AV.ept [(intA a1_0_0), (intA a1_0_1)] 0), (AV.ept [(intA a1_1_0)] 0)]) c4 c7 y []) → N0 s') : S81_0 n a0 a1_0_0 a1_0_1 a1_1_0 c4 c7 v8 = some t → B81_0 (lstA TVolume.E a0) (AV.fn 55 [(AV.ept [(intA a1_0_0), (intA a1_0_1)] 0), (AV.ept [(intA a1_1_0)] 0)]) c4 c7 v8 [] R N0 := by
  unfold S81_0 B81_0
  refine cond_b (fun _ => ?_) (fun _ => ?_)
  · refine bind_b fun x34 h34 => ?_
    refine imp (opP_of (show _ = some ((AV.ept [(lstA TP.E x34.Area), (intA x34.Low), (intA x34.High)] 0), []) from (idx_lst (E := TVolume.E) rfl h34))) ?_
    refine imp (opP_of (show _ = some ((AV.agg [(lstA TP.E x34.Area), (intA x34.Low), (intA x34.High)]), []) from rfl)) ?_
    refine imp exA3_b ?_
    refine imp ex_i64_b ?_
    refine imp ex_i64_b ?_
    refine bind_b fun x48 h48 => ?_
    refine imp fnArgs_b ?_
    refine imp (cond_ff rfl) ?_
    refine imp (callW_says (sg55 h48)) ?_
    refine imp exB_b ?_
    refine cond_b (fun _ => ?_) (fun _ => ?_)
    · exact fun hg => ret1 (hR _ (Option.some.inj hg).symm) (fz_sc _ _)
    · exact fun hg => hN0 _ (Option.some.inj hg).symm _ (weak_mem [] rfl rfl rfl (okW_cons (ent_lst (E := TVolume.E) _ false) (okW_cons (ent_clean (leV_refl _) (by simp [clean, cleans, encs_clean])) (okW_cons (.inl (leV_refl _)) (okW_cons (.inl (leV_refl _)) (okW_cons (.inl (leV_refl _)) okW_nil))))) okB_nil')
  · exact fun hg => ret1 (hR _ (Option.some.inj hg).symm) (fz_sc _ _)
theorem L81_0_ok (n : Nat) (a0 : List TVolume) (a1_0_0 : Int) (a1_0_1 : Int) (a1_1_0 : Int) (c4 : Int) (c7 : Int) {t : ρ81} (R : AV → Mem → Prop) (hR : ∀ r : ρ81, t = r → ∀ u m, Ans ((intA r)) u m → R u m) (k : Nat) (x : Int) (hx : iterO (fun y : Int => S81_0 n a0 a1_0_0 a1_0_1 a1_1_0 c4 c7 y) k x = some t) {s : St} (hw : Weak KK 19 0 s (h81_0 (lstA TVolume.E a0) (AV.fn 55 [(AV.ept [(intA a1_0_0), (intA a1_0_1)] 0), (AV.ept [(intA a1_1_0)] 0)]) c4 c7 x [])) : Tri Tryz.prog KK 19 0 (.loop c81_0) s (q81_0 R ) :=
  L81_0 R  (σ := Nat × (Int)) (fun z => iterO (fun y : Int => S81_0 n a0 a1_0_0 a1_0_1 a1_1_0 c4 c7 y) z.1 z.2 = some t) (fun z => (lstA TVolume.E a0)) (fun z => (AV.fn 55 [(AV.ept [(intA a1_0_0), (intA a1_0_1)] 0), (AV.ept [(intA a1_1_0)] 0)])) (fun z => c4) (fun z => c7) (fun z => z.2) (fun z => []) (fun z => z.1) (by
    rintro ⟨k, y⟩ h
    cases k with
    | zero => exact (iterO_zero h).elim
    | succ k =>
      obtain ⟨u, h1, h2, h3⟩ := iterO_elim h
      exact B81_0_ok n a0 a1_0_0 a1_0_1 a1_1_0 c4 c7 y R  _ (fun r e => hR r (h3 _ e).symm)  (fun y' e s' hw => ⟨(k, y'), h2 _ e, Nat.lt_succ_self k, hw⟩) h1) (k, x) hx hw
theorem g81_ok (n : Nat) (a0 : List TVolume) (a1_0_0 : Int) (a1_0_1 : Int) (a1_1_0 : Int) {t : ρ81} (R : AV → Mem → Prop) (hR : ∀ r : ρ81, t = r → ∀ u m, Ans ((intA r)) u m → R u m) : g81 n a0 a1_0_0 a1_0_1 a1_1_0 = some t → F81 (lstA TVolume.E a0) (AV.fn 55 [(AV.ept [(intA a1_0_0), (intA a1_0_1)] 0), (AV.ept [(intA a1_1_0)] 0)]) R := by
  unfold g81 F81
  refine imp (opP_of (show _ = some ((intA (a0.length : Int)), []) from rfl)) ?_
  refine imp ex_i64_b ?_
  exact fun hg => L81_0_ok n a0 a1_0_0 a1_0_1 a1_1_0 (0) (a0.length : Int) R  hR n _ hg (weak_mem [] rfl rfl rfl (okW_cons (ent_lst (E := TVolume.E) _ false) (okW_cons (ent_clean (leV_refl _) (by simp [clean, cleans, encs_clean])) (okW_cons (.inl (leV_refl _)) (okW_cons (.inl (leV_refl _)) (okW_cons (.inl (leV_refl _)) okW_nil))))) okB_nil')
theorem sg81 {n : Nat} {a0 : List TVolume} {a1_0_0 : Int} {a1_0_1 : Int} {a1_1_0 : Int} {t : ρ81} (h : g81 n a0 a1_0_0 a1_0_1 a1_1_0 = some t) : Says Tryz.prog KK.gl 81 [(lstA TVolume.E a0), (AV.fn 55 [(AV.ept [(intA a1_0_0), (intA a1_0_1)] 0), (AV.ept [(intA a1_1_0)] 0)])] ((intA t)) :=
  says_of_own (by first | rfl | simp [cleans, clean, encs_clean, En.cln]) (by first | rfl | simp [cleans, clean, encs_clean, En.cln]) (F81_own (lstA TVolume.E a0) (AV.fn 55 [(AV.ept [(intA a1_0_0), (intA a1_0_1)] 0), (AV.ept [(intA a1_1_0)] 0)]) _ (g81_ok n a0 a1_0_0 a1_0_1 a1_1_0 (Ans ((intA t))) (fun r e u m h => by rw [e]; exact h) h))
/- slices.ContainsFunc[[]skyway/api.Volume,skyway/api.Volume] -/
theorem g54_ok (n : Nat) (a0 : List TVolume) (a1_0_0 : Int) (a1_0_1 : Int) (a1_1_0 : Int) {t : ρ54} (R : AV → Mem → Prop) (hR : ∀ r : ρ54, t = r → ∀ u m, Ans ((boolA r)) u m → R u m) : g54 n a0 a1_0_0 a1_0_1 a1_1_0 = some t → F54 (lstA TVolume.E a0) (AV.fn 55 [(AV.ept [(intA a1_0_0), (intA a1_0_1)] 0), (AV.ept [(intA a1_1_0)] 0)]) R := by
  unfold g54 F54
  refine bind_b fun x49 h49 => ?_
  refine imp (callQ_says (sg81 h49)) ?_
  refine imp ex_i64_b ?_
  exact fun hg => ret1 (hR _ (Option.some.inj hg).symm) (fz_sc _ _)
theorem sg54 {n : Nat} {a0 : List TVolume} {a1_0_0 : Int} {a1_0_1 : Int} {a1_1_0 : Int} {t : ρ54} (h : g54 n a0 a1_0_0 a1_0_1 a1_1_0 = some t) : Says Tryz.prog KK.gl 54 [(lstA TVolume.E a0), (AV.fn 55 [(AV.ept [(intA a1_0_0), (intA a1_0_1)] 0), (AV.ept [(intA a1_1_0)] 0)])] ((boolA t)) :=
  says_of_own (by first | rfl | simp [cleans, clean, encs_clean, En.cln]) (by first | rfl | simp [cleans, clean, encs_clean, En.cln]) (F54_own (lstA TVolume.E a0) (AV.fn 55 [(AV.ept [(intA a1_0_0), (intA a1_0_1)] 0), (AV.ept [(intA a1_1_0)] 0)]) _ (g54_ok n a0 a1_0_0 a1_0_1 a1_1_0 (Ans ((boolA t))) (fun r e u m h => by rw [e]; exact h) h))
/- skyway/sector.Place$1 -/
theorem g53_ok (n : Nat) (a0 : TSector) (a1_0 : Int) (a1_1 : Int) (a2_0 : Int) {t : ρ53} (R : AV → Mem → Prop) (hR : ∀ r : ρ53, t = r → ∀ u m, Ans ((boolA r)) u m → R u m) : g53 n a0 a1_0 a1_1 a2_0 = some t → F53 a0.Name (lstA TVolume.E a0.Room) (AV.ept [(intA a1_0), (intA a1_1)] 0) (AV.ept [(intA a2_0)] 0) R := by
  unfold g53 F53
  refine imp (chk_of rfl) ?_
  refine bind_b fun x50 h50 => ?_
  refine imp (callQ_says (sg54 h50)) ?_
  refine imp exB_b ?_
  exact fun hg => ret1 (hR _ (Option.some.inj hg).symm) (fz_sc _ _)
theorem sg53 {n : Nat} {a0 : TSector} {a1_0 : Int} {a1_1 : Int} {a2_0 : Int} {t : ρ53} (h : g53 n a0 a1_0 a1_1 a2_0 = some t) : Says Tryz.prog KK.gl 53 [(AV.agg [(strA a0.Name), (lstA TVolume.E a0.Room)]), (AV.ept [(intA a1_0), (intA a1_1)] 0), (AV.ept [(intA a2_0)] 0)] ((boolA t)) :=
  says_of_own (by first | rfl | simp [cleans, clean, encs_clean, En.cln]) (by first | rfl | simp [cleans, clean, encs_clean, En.cln]) (F53_own a0.Name (lstA TVolume.E a0.Room) (AV.ept [(intA a1_0), (intA a1_1)] 0) (AV.ept [(intA a2_0)] 0) _ (g53_ok n a0 a1_0 a1_1 a2_0 (Ans ((boolA t))) (fun r e u m h => by rw [e]; exact h) h))
/- slices.IndexFunc[[]skyway/api.Sector,skyway/api.Sector] -/
theorem B47_0_ok (n : Nat) (a0 : List TSector) (a1_0_0 : Int) (a1_0_1 : Int) (a1_1_0 : Int) (c4 : Int) (c7 : Int) (v8 : Int) {t : (Int) ⊕ ρ47} (R : AV → Mem → Prop) (N0 : St → Prop) (hR : ∀ r : ρ47, t = (.inr r) → ∀ u m, Ans ((intA r)) u m → R u m) (hN0 : ∀ y : Int, t = (.inl y) → ∀ s' : St, Weak KK 19 0 s' (h47_0 (lstA TSector.E a0) (AV.fn 53 [(AV.ept [(intA a1_0_0), (intA a1_0_1)] 0), (AV.ept [(intA a1_1_0)] 0)]) c4 c7 y []) → N0 s') : S47_0 n a0 a1_0_0 a1_0_1 a1_1_0 c4 c7 v8 = some t → B47_0 (lstA TSector.E a0) (AV.fn 53 [(AV.ept [(intA a1_0_0), (intA a1_0_1)] 0), (AV.ept [(intA a1_1_0)] 0)]) c4 c7 v8 [] R N0 := by
  unfold S47_0 B47_0
  refine cond_b (fun _ => ?_) (fun _ => ?_)
  · refine bind_b fun x33 h33 => ?_
    refine imp (opP_of (show _ = some ((AV.ept [(strA x33.Name), (lstA TVolume.E x33.Room)] 0), []) from (idx_lst (E := TSector.E) rfl h33))) ?_
    refine imp (opP_of (show _ = some ((AV.agg [(strA x33.Name), (lstA TVolume.E x33.Room)]), []) from rfl)) ?_
    refine imp exA2_b ?_
    refine imp exStr_b ?_
    refine bind_b fun x51 h51 => ?_
    refine imp fnArgs_b ?_
    refine imp (cond_ff rfl) ?_
    refine imp (callW_says (sg53 h51)) ?_
    refine imp exB_b ?_
    refine cond_b (fun _ => ?_) (fun _ => ?_)
    · exact fun hg => ret1 (hR _ (Option.some.inj hg).symm) (fz_sc _ _)
    · exact fun hg => hN0 _ (Option.some.inj hg).symm _ (weak_mem [] rfl rfl rfl (okW_cons (ent_lst (E := TSector.E) _ false) (okW_cons (ent_clean (leV_refl _) (by simp [clean, cleans, encs_clean])) (okW_cons (.inl (leV_refl _)) (okW_cons (.inl (leV_refl _)) (okW_cons (.inl (leV_refl _)) okW_nil))))) okB_nil')
  · exact fun hg => ret1 (hR _ (Option.some.inj hg).symm) (fz_sc _ _)
theorem L47_0_ok (n : Nat) (a0 : List TSector) (a1_0_0 : Int) (a1_0_1 : Int) (a1_1_0 : Int) (c4 : Int) (c7 : Int) {t : ρ47} (R : AV → Mem → Prop) (hR : ∀ r : ρ47, t = r → ∀ u m, Ans ((intA r)) u m → R u m) (k : Nat) (x : Int) (hx : iterO (fun y : Int => S47_0 n a0 a1_0_0 a1_0_1 a1_1_0 c4 c7 y) k x = some t) {s : St} (hw : Weak KK 19 0 s (h47_0 (lstA TSector.E a0) (AV.fn 53 [(AV.ept [(intA a1_0_0), (intA a1_0_1)] 0), (AV.ept [(intA a1_1_0)] 0)]) c4 c7 x [])) : Tri Tryz.prog KK 19 0 (.loop c47_0) s (q47_0 R ) :=
  L47_0 R  (σ := Nat × (Int)) (fun z => iterO (fun y : Int => S47_0 n a0 a1_0_0 a1_0_1 a1_1_0 c4 c7 y) z.1 z.2 = some t) (fun z => (lstA TSector.E a0)) (fun z => (AV.fn 53 [(AV.ept [(intA a1_0_0), (intA a1_0_1)] 0), (AV.ept [(intA a1_1_0)] 0)])) (fun z => c4) (fun z => c7) (fun z => z.2) (fun z => []) (fun z => z.1) (by
    rintro ⟨k, y⟩ h
    cases k with
    | zero => exact (iterO_zero h).elim
    | succ k =>
      obtain ⟨u, h1, h2, h3⟩ := iterO_elim h
      exact B47_0_ok n a0 a1_0_0 a1_0_1 a1_1_0 c4 c7 y R  _ (fun r e => hR r (h3 _ e).symm)  (fun y' e s' hw => ⟨(k, y'), h2 _ e, Nat.lt_succ_self k, hw⟩) h1) (k, x) hx hw
theorem g47_ok (n : Nat) (a0 : List TSector) (a1_0_0 : Int) (a1_0_1 : Int) (a1_1_0 : Int) {t : ρ47} (R : AV → Mem → Prop) (hR : ∀ r : ρ47, t = r → ∀ u m, Ans ((intA r)) u m → R u m) : g47 n a0 a1_0_0 a1_0_1 a1_1_0 = some t → F47 (lstA TSector.E a0) (AV.fn 53 [(AV.ept [(intA a1_0_0), (intA a1_0_1)] 0), (AV.ept [(intA a1_1_0)] 0)]) R := by
  unfold g47 F47
  refine imp (opP_of (show _ = some ((intA (a0.length : Int)), []) from rfl)) ?_
  refine imp ex_i64_b ?_
  exact fun hg => L47_0_ok n a0 a1_0_0 a1_0_1 a1_1_0 (0) (a0.length : Int) R  hR n _ hg (weak_mem [] rfl rfl rfl (okW_cons (ent_lst (E := TSector.E) _ false) (okW_cons (ent_clean (leV_refl _) (by simp [clean, cleans, encs_clean])) (okW_cons (.inl (leV_refl _)) (okW_cons (.inl (leV_refl _)) (okW_cons (.inl (leV_refl _)) okW_nil))))) okB_nil')
theorem sg47 {n : Nat} {a0 : List TSector} {a1_0_0 : Int} {a1_0_1 : Int} {a1_1_0 : Int} {t : ρ47} (h : g47 n a0 a1_0_0 a1_0_1 a1_1_0 = some t) : Says Tryz.prog KK.gl 47 [(lstA TSector.E a0), (AV.fn 53 [(AV.ept [(intA a1_0_0), (intA a1_0_1)] 0), (AV.ept [(intA a1_1_0)] 0)])] ((intA t)) :=
  says_of_own (by first | rfl | simp [cleans, clean, encs_clean, En.cln]) (by first | rfl | simp [cleans, clean, encs_clean, En.cln]) (F47_own (lstA TSector.E a0) (AV.fn 53 [(AV.ept [(intA a1_0_0), (intA a1_0_1)] 0), (AV.ept [(intA a1_1_0)] 0)]) _ (g47_ok n a0 a1_0_0 a1_0_1 a1_1_0 (Ans ((intA t))) (fun r e u m h => by rw [e]; exact h) h))
/- skyway/sector.Place -/
theorem g40_ok (n : Nat) (a0 : List TSector) (a1 : TP) (a2 : Int) {t : ρ40} (R : AV → Mem → Prop) (hR : ∀ r : ρ40, t = r → ∀ u m, Ans ((intA r)) u m → R u m) : g40 n a0 a1 a2 = some t → F40 (lstA TSector.E a0) a1.X a1.Y a2 R := by
  unfold g40 F40
  refine bind_b fun x52 h52 => ?_
  refine imp (callQ_pure (pure_snapN (snL_cons (sn_lst (E := TSector.E) _ _ false) (snL_cons (sn_fn _ _ (snL_cons (sn_ptr _ (ty := 60) (us := [(intA a1.X), (intA a1.Y)]) (by first | rfl | (simp (disch := first | decide | assumption) only [mpushs_nil, mpushs_cons, mget_hd, mget_tl, mget_appW_o, mget_appW_n, mget_appW_e])) (snL_cons (sn_sc _ _) (snL_cons (sn_sc _ _) snL_nil))) (snL_cons (sn_ptr _ (ty := 3) (us := [(intA a2)]) (by first | rfl | (simp (disch := first | decide | assumption) only [mpushs_nil, mpushs_cons, mget_hd, mget_tl, mget_appW_o, mget_appW_n, mget_appW_e])) (snL_cons (sn_sc _ _) snL_nil)) snL_nil))) snL_nil)) (sg47 h52) rfl)) ?_
  refine imp ex_i64_b ?_
  exact fun hg => ret1 (hR _ (Option.some.inj hg).symm) (fz_sc _ _)
theorem sg40 {n : Nat} {a0 : List TSector} {a1 : TP} {a2 : Int} {t : ρ40} (h : g40 n a0 a1 a2 = some t) : Says Tryz.prog KK.gl 40 [(lstA TSector.E a0), (AV.agg [(intA a1.X), (intA a1.Y)]), (intA a2)] ((intA t)) :=
  says_of_own (by first | rfl | simp [cleans, clean, encs_clean, En.cln]) (by first | rfl | simp [cleans, clean, encs_clean, En.cln]) (F40_own (lstA TSector.E a0) a1.X a1.Y a2 _ (g40_ok n a0 a1 a2 (Ans ((intA t))) (fun r e u m h => by rw [e]; exact h) h))
/- skyway/chart.Name -/
theorem B45_0_ok (n : Nat) (c2 : Bool) (c14 : List UInt8) (c15 : Int) (v16 : Int) {t : (Int) ⊕ ρ45} (R : AV → Mem → Prop) (N0 : St → Prop) (hR : ∀ r : ρ45, t = (.inr r) → ∀ u m, Ans ((boolA r)) u m → R u m) (hN0 : ∀ y : Int, t = (.inl y) → ∀ s' : St, Weak KK 41 0 s' (h45_0 c2 (lstA byteE c14) c15 y []) → N0 s') : S45_0 n c2 c14 c15 v16 = some t → B45_0 c2 (lstA byteE c14) c15 v16 [] R N0 := by
  unfold S45_0 B45_0
  refine cond_b (fun _ => ?_) (fun _ => ?_)
  · refine bind_b fun x55 h55 => ?_
    refine imp (opP_of (show _ = some ((AV.ept [(AV.sc (.int .u8 (x55.toNat : Int)))] 0), []) from (idx_lst (E := byteE) rfl h55))) ?_
    refine imp (opP_of (show _ = some ((AV.sc (.int .u8 (x55.toNat : Int))), []) from rfl)) ?_
    refine imp ex_u8_b ?_
    refine cond_b (fun _ => ?_) (fun _ => ?_)
    · refine cond_b (fun _ => ?_) (fun _ => ?_)
      · exact fun hg => hN0 _ (Option.some.inj hg).symm _ (weak_mem [] rfl rfl rfl (okW_cons (.inl (leV_refl _)) (okW_cons (ent_lst (E := byteE) _ false) (okW_cons (.inl (leV_refl _)) (okW_cons (.inl (leV_refl _)) okW_nil)))) okB_nil')
      · refine cond_b (fun _ => ?_) (fun _ => ?_)
        · refine cond_b (fun _ => ?_) (fun _ => ?_)
          · refine cond_b (fun _ => ?_) (fun _ => ?_)
            · exact fun hg => ret1 (hR _ (Option.some.inj hg).symm) (fz_sc _ _)
            · exact fun hg => hN0 _ (Option.some.inj hg).symm _ (weak_mem [] rfl rfl rfl (okW_cons (.inl (leV_refl _)) (okW_cons (ent_lst (E := byteE) _ false) (okW_cons (.inl (leV_refl _)) (okW_cons (.inl (leV_refl _)) okW_nil)))) okB_nil')
          · exact fun hg => ret1 (hR _ (Option.some.inj hg).symm) (fz_sc _ _)
        · exact fun hg => ret1 (hR _ (Option.some.inj hg).symm) (fz_sc _ _)
    · refine cond_b (fun _ => ?_) (fun _ => ?_)
      · refine cond_b (fun _ => ?_) (fun _ => ?_)
        · refine cond_b (fun _ => ?_) (fun _ => ?_)
          · exact fun hg => ret1 (hR _ (Option.some.inj hg).symm) (fz_sc _ _)
          · exact fun hg => hN0 _ (Option.some.inj hg).symm _ (weak_mem [] rfl rfl rfl (okW_cons (.inl (leV_refl _)) (okW_cons (ent_lst (E := byteE) _ false) (okW_cons (.inl (leV_refl _)) (okW_cons (.inl (leV_refl _)) okW_nil)))) okB_nil')
        · exact fun hg => ret1 (hR _ (Option.some.inj hg).symm) (fz_sc _ _)
      · exact fun hg => ret1 (hR _ (Option.some.inj hg).symm) (fz_sc _ _)
  · exact fun hg => ret1 (hR _ (Option.some.inj hg).symm) (fz_sc _ _)
theorem L45_0_ok (n : Nat) (c2 : Bool) (c14 : List UInt8) (c15 : Int) {t : ρ45} (R : AV → Mem → Prop) (hR : ∀ r : ρ45, t = r → ∀ u m, Ans ((boolA r)) u m → R u m) (k : Nat) (x : Int) (hx : iterO (fun y : Int => S45_0 n c2 c14 c15 y) k x = some t) {s : St} (hw : Weak KK 41 0 s (h45_0 c2 (lstA byteE c14) c15 x [])) : Tri Tryz.prog KK 41 0 (.loop c45_0) s (q45_0 R ) :=
  L45_0 R  (σ := Nat × (Int)) (fun z => iterO (fun y : Int => S45_0 n c2 c14 c15 y) z.1 z.2 = some t) (fun z => c2) (fun z => (lstA byteE c14)) (fun z => c15) (fun z => z.2) (fun z => []) (fun z => z.1) (by
    rintro ⟨k, y⟩ h
    cases k with
    | zero => exact (iterO_zero h).elim
    | succ k =>
      obtain ⟨u, h1, h2, h3⟩ := iterO_elim h
      exact B45_0_ok n c2 c14 c15 y R  _ (fun r e => hR r (h3 _ e).symm)  (fun y' e s' hw => ⟨(k, y'), h2 _ e, Nat.lt_succ_self k, hw⟩) h1) (k, x) hx hw
theorem g45_ok (n : Nat) (a0 : ByteArray) {t : ρ45} (R : AV → Mem → Prop) (hR : ∀ r : ρ45, t = r → ∀ u m, Ans ((boolA r)) u m → R u m) : g45 n a0 = some t → F45 a0 R := by
  unfold g45 F45
  refine imp (opP_of (show _ = some ((intA (a0.size : Int)), []) from (by kernel_rfl))) ?_
  refine imp ex_i64_b ?_
  refine cond_b (fun _ => ?_) (fun _ => ?_)
  · exact fun hg => ret1 (hR _ (Option.some.inj hg).symm) (fz_sc _ _)
  · refine imp (opP_of (show _ = some ((intA (a0.size : Int)), []) from (by kernel_rfl))) ?_
    refine imp ex_i64_b ?_
    refine cond_b (fun _ => ?_) (fun _ => ?_)
    · exact fun hg => ret1 (hR _ (Option.some.inj hg).symm) (fz_sc _ _)
    · refine bind_b fun x54 h54 => ?_
      refine imp (opP_of (show _ = some ((lstA byteE (a0.data.toList)), []) from (opA_bytes (e := 5) (by kernel_rfl) (by kernel_rfl) (by kernel_rfl) h54))) ?_
      refine imp (opP_of (show _ = some ((intA ((a0.data.toList).length : Int)), []) from rfl)) ?_
      refine imp ex_i64_b ?_
      exact fun hg => L45_0_ok n false (a0.data.toList) ((a0.data.toList).length : Int) R  hR n _ hg (weak_mem [] rfl rfl rfl (okW_cons (.inl (leV_refl _)) (okW_cons (ent_lst (E := byteE) _ false) (okW_cons (.inl (leV_refl _)) (okW_cons (.inl (leV_refl _)) okW_nil)))) okB_nil')
theorem sg45 {n : Nat} {a0 : ByteArray} {t : ρ45} (h : g45 n a0 = some t) : Says Tryz.prog KK.gl 45 [(strA a0)] ((boolA t)) :=
  says_of_own (by first | rfl | simp [cleans, clean, encs_clean, En.cln]) (by first | rfl | simp [cleans, clean, encs_clean, En.cln]) (F45_own a0 _ (g45_ok n a0 (Ans ((boolA t))) (fun r e u m h => by rw [e]; exact h) h))
/- skyway/sector.Name -/
theorem g34_ok (n : Nat) (a0 : ByteArray) {t : ρ34} (R : AV → Mem → Prop) (hR : ∀ r : ρ34, t = r → ∀ u m, Ans ((boolA r)) u m → R u m) : g34 n a0 = some t → F34 a0 R := by
  unfold g34 F34
  refine bind_b fun x56 h56 => ?_
  refine imp (callQ_says (sg45 h56)) ?_
  refine imp exB_b ?_
  exact fun hg => ret1 (hR _ (Option.some.inj hg).symm) (fz_sc _ _)
theorem sg34 {n : Nat} {a0 : ByteArray} {t : ρ34} (h : g34 n a0 = some t) : Says Tryz.prog KK.gl 34 [(strA a0)] ((boolA t)) :=
  says_of_own (by first | rfl | simp [cleans, clean, encs_clean, En.cln]) (by first | rfl | simp [cleans, clean, encs_clean, En.cln]) (F34_own a0 _ (g34_ok n a0 (Ans ((boolA t))) (fun r e u m h => by rw [e]; exact h) h))
/- skyway/polygon.crosses -/
theorem g73_ok (n : Nat) (a0 : TP) (a1 : TP) (a2 : TP) (a3 : TP) {t : ρ73} (R : AV → Mem → Prop) (hR : ∀ r : ρ73, t = r → ∀ u m, Ans ((boolA r)) u m → R u m) : g73 n a0 a1 a2 a3 = some t → F73 a0.X a0.Y a1.X a1.Y a2.X a2.Y a3.X a3.Y R := by
  unfold g73 F73
  refine bind_b fun x71 h71 => ?_
  refine imp (callQ_says (sg69 h71)) ?_
  refine imp ex_i64_b ?_
  refine bind_b fun x72 h72 => ?_
  refine imp (callQ_says (sg69 h72)) ?_
  refine imp ex_i64_b ?_
  refine cond_b (fun _ => ?_) (fun _ => ?_)
  · refine bind_b fun x73 h73 => ?_
    refine imp (callQ_says (sg69 h73)) ?_
    refine imp ex_i64_b ?_
    refine bind_b fun x74 h74 => ?_
    refine imp (callQ_says (sg69 h74)) ?_
    refine imp ex_i64_b ?_
    exact fun hg => ret1 (hR _ (Option.some.inj hg).symm) (fz_sc _ _)
  · exact fun hg => ret1 (hR _ (Option.some.inj hg).symm) (fz_sc _ _)
theorem sg73 {n : Nat} {a0 : TP} {a1 : TP} {a2 : TP} {a3 : TP} {t : ρ73} (h : g73 n a0 a1 a2 a3 = some t) : Says Tryz.prog KK.gl 73 [(AV.agg [(intA a0.X), (intA a0.Y)]), (AV.agg [(intA a1.X), (intA a1.Y)]), (AV.agg [(intA a2.X), (intA a2.Y)]), (AV.agg [(intA a3.X), (intA a3.Y)])] ((boolA t)) :=
  says_of_own (by first | rfl | simp [cleans, clean, encs_clean, En.cln]) (by first | rfl | simp [cleans, clean, encs_clean, En.cln]) (F73_own a0.X a0.Y a1.X a1.Y a2.X a2.Y a3.X a3.Y _ (g73_ok n a0 a1 a2 a3 (Ans ((boolA t))) (fun r e u m h => by rw [e]; exact h) h))
/- skyway/polygon.Common -/
theorem g71_ok (n : Nat) (a0 : TP) (a1 : TP) (a2 : TP) (a3 : TP) {t : ρ71} (R : AV → Mem → Prop) (hR : ∀ r : ρ71, t = r → ∀ u m, Ans ((boolA r)) u m → R u m) : g71 n a0 a1 a2 a3 = some t → F71 a0.X a0.Y a1.X a1.Y a2.X a2.Y a3.X a3.Y R := by
  unfold g71 F71
  refine bind_b fun x75 h75 => ?_
  refine imp (callQ_says (sg73 h75)) ?_
  refine imp exB_b ?_
  refine cond_b (fun _ => ?_) (fun _ => ?_)
  · exact fun hg => ret1 (hR _ (Option.some.inj hg).symm) (fz_sc _ _)
  · refine bind_b fun x76 h76 => ?_
    refine imp (callQ_says (sg90 h76)) ?_
    refine imp exB_b ?_
    refine cond_b (fun _ => ?_) (fun _ => ?_)
    · exact fun hg => ret1 (hR _ (Option.some.inj hg).symm) (fz_sc _ _)
    · refine bind_b fun x77 h77 => ?_
      refine imp (callQ_says (sg90 h77)) ?_
      refine imp exB_b ?_
      refine cond_b (fun _ => ?_) (fun _ => ?_)
      · exact fun hg => ret1 (hR _ (Option.some.inj hg).symm) (fz_sc _ _)
      · refine bind_b fun x78 h78 => ?_
        refine imp (callQ_says (sg90 h78)) ?_
        refine imp exB_b ?_
        refine cond_b (fun _ => ?_) (fun _ => ?_)
        · exact fun hg => ret1 (hR _ (Option.some.inj hg).symm) (fz_sc _ _)
        · refine bind_b fun x79 h79 => ?_
          refine imp (callQ_says (sg90 h79)) ?_
          refine imp exB_b ?_
          exact fun hg => ret1 (hR _ (Option.some.inj hg).symm) (fz_sc _ _)
theorem sg71 {n : Nat} {a0 : TP} {a1 : TP} {a2 : TP} {a3 : TP} {t : ρ71} (h : g71 n a0 a1 a2 a3 = some t) : Says Tryz.prog KK.gl 71 [(AV.agg [(intA a0.X), (intA a0.Y)]), (AV.agg [(intA a1.X), (intA a1.Y)]), (AV.agg [(intA a2.X), (intA a2.Y)]), (AV.agg [(intA a3.X), (intA a3.Y)])] ((boolA t)) :=
  says_of_own (by first | rfl | simp [cleans, clean, encs_clean, En.cln]) (by first | rfl | simp [cleans, clean, encs_clean, En.cln]) (F71_own a0.X a0.Y a1.X a1.Y a2.X a2.Y a3.X a3.Y _ (g71_ok n a0 a1 a2 a3 (Ans ((boolA t))) (fun r e u m h => by rw [e]; exact h) h))
end Go.Proofs.YtldiackagnjlgaaGreat
