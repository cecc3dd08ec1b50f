/- Plain functional programs out of the program's functions, with proofs that the functions compute them; printed by wip/Ext.lean.txt. -/
import Derived.Test.YtfmodgffhbljoaaX1E1
set_option linter.unusedVariables false
set_option linter.unusedSimpArgs false
set_option maxRecDepth 100000
namespace Go.Proofs.Ytfmodgffhbljoaa
/- slices.IndexFunc[[]skyway/api.RunwayMove,skyway/api.RunwayMove] -/
theorem B47_0_ok (n : Nat) (a0 : List TRunwayMove) (a1_0_0 : Int) (a1_0_1 : Int) (a1_0_2 : Bool) (a1_0_3 : Int) (c4 : Int) (c7 : Int) (v8 : Int) {t : (Int) ⊕ ρ47} (R : AV → Mem → Prop) (N0 : St → Prop) (hR : ∀ r : ρ47, t = (.inr r) → ∀ u m, Ans ((intA r)) u m → R u m) (hN0 : ∀ y : Int, t = (.inl y) → ∀ s' : St, Weak KK 19 0 s' (h47_0 (lstA TRunwayMove.E a0) (AV.fn 48 [(AV.ept [(intA a1_0_0), (intA a1_0_1), (boolA a1_0_2), (intA a1_0_3)] 0)]) c4 c7 y []) → N0 s') : S47_0 n a0 a1_0_0 a1_0_1 a1_0_2 a1_0_3 c4 c7 v8 = some t → B47_0 (lstA TRunwayMove.E a0) (AV.fn 48 [(AV.ept [(intA a1_0_0), (intA a1_0_1), (boolA a1_0_2), (intA a1_0_3)] 0)]) c4 c7 v8 [] R N0 := by
  unfold S47_0 B47_0
  refine cond_b (fun _ => ?_) (fun _ => ?_)
  · refine bind_b fun x49 h49 => ?_
    refine imp (opP_of (show _ = some ((AV.ept [(intA x49.Time), (intA x49.Wake), (boolA x49.Departs), (intA x49.End)] 0), []) from (idx_lst (E := TRunwayMove.E) rfl h49))) ?_
    refine imp (opP_of (show _ = some ((AV.agg [(intA x49.Time), (intA x49.Wake), (boolA x49.Departs), (intA x49.End)]), []) from rfl)) ?_
    refine imp exA4_b ?_
    refine imp ex_i64_b ?_
    refine imp ex_i64_b ?_
    refine imp exB_b ?_
    refine imp ex_i64_b ?_
    refine bind_b fun x50 h50 => ?_
    refine imp fnArgs_b ?_
    refine imp (cond_ff rfl) ?_
    refine imp (callW_says (sg48 h50)) ?_
    refine imp exB_b ?_
    refine cond_b (fun _ => ?_) (fun _ => ?_)
    · exact fun hg => ret1 (hR _ (Option.some.inj hg).symm) (fz_sc _ _)
    · exact fun hg => hN0 _ (Option.some.inj hg).symm _ (weak_mem [] rfl rfl rfl (okW_cons (ent_lst (E := TRunwayMove.E) _ false) (okW_cons (ent_clean (leV_refl _) (by simp [clean, cleans, encs_clean])) (okW_cons (.inl (leV_refl _)) (okW_cons (.inl (leV_refl _)) (okW_cons (.inl (leV_refl _)) okW_nil))))) okB_nil')
  · exact fun hg => ret1 (hR _ (Option.some.inj hg).symm) (fz_sc _ _)
theorem L47_0_ok (n : Nat) (a0 : List TRunwayMove) (a1_0_0 : Int) (a1_0_1 : Int) (a1_0_2 : Bool) (a1_0_3 : Int) (c4 : Int) (c7 : Int) {t : ρ47} (R : AV → Mem → Prop) (hR : ∀ r : ρ47, t = r → ∀ u m, Ans ((intA r)) u m → R u m) (k : Nat) (x : Int) (hx : iterO (fun y : Int => S47_0 n a0 a1_0_0 a1_0_1 a1_0_2 a1_0_3 c4 c7 y) k x = some t) {s : St} (hw : Weak KK 19 0 s (h47_0 (lstA TRunwayMove.E a0) (AV.fn 48 [(AV.ept [(intA a1_0_0), (intA a1_0_1), (boolA a1_0_2), (intA a1_0_3)] 0)]) c4 c7 x [])) : Tri Try.prog KK 19 0 (.loop c47_0) s (q47_0 R ) :=
  L47_0 R  (σ := Nat × (Int)) (fun z => iterO (fun y : Int => S47_0 n a0 a1_0_0 a1_0_1 a1_0_2 a1_0_3 c4 c7 y) z.1 z.2 = some t) (fun z => (lstA TRunwayMove.E a0)) (fun z => (AV.fn 48 [(AV.ept [(intA a1_0_0), (intA a1_0_1), (boolA a1_0_2), (intA a1_0_3)] 0)])) (fun z => c4) (fun z => c7) (fun z => z.2) (fun z => []) (fun z => z.1) (by
    rintro ⟨k, y⟩ h
    cases k with
    | zero => exact (iterO_zero h).elim
    | succ k =>
      obtain ⟨u, h1, h2, h3⟩ := iterO_elim h
      exact B47_0_ok n a0 a1_0_0 a1_0_1 a1_0_2 a1_0_3 c4 c7 y R  _ (fun r e => hR r (h3 _ e).symm)  (fun y' e s' hw => ⟨(k, y'), h2 _ e, Nat.lt_succ_self k, hw⟩) h1) (k, x) hx hw
theorem g47_ok (n : Nat) (a0 : List TRunwayMove) (a1_0_0 : Int) (a1_0_1 : Int) (a1_0_2 : Bool) (a1_0_3 : Int) {t : ρ47} (R : AV → Mem → Prop) (hR : ∀ r : ρ47, t = r → ∀ u m, Ans ((intA r)) u m → R u m) : g47 n a0 a1_0_0 a1_0_1 a1_0_2 a1_0_3 = some t → F47 (lstA TRunwayMove.E a0) (AV.fn 48 [(AV.ept [(intA a1_0_0), (intA a1_0_1), (boolA a1_0_2), (intA a1_0_3)] 0)]) R := by
  unfold g47 F47
  refine imp (opP_of (show _ = some ((intA (a0.length : Int)), []) from rfl)) ?_
  refine imp ex_i64_b ?_
  exact fun hg => L47_0_ok n a0 a1_0_0 a1_0_1 a1_0_2 a1_0_3 (0) (a0.length : Int) R  hR n _ hg (weak_mem [] rfl rfl rfl (okW_cons (ent_lst (E := TRunwayMove.E) _ false) (okW_cons (ent_clean (leV_refl _) (by simp [clean, cleans, encs_clean])) (okW_cons (.inl (leV_refl _)) (okW_cons (.inl (leV_refl _)) (okW_cons (.inl (leV_refl _)) okW_nil))))) okB_nil')
theorem sg47 {n : Nat} {a0 : List TRunwayMove} {a1_0_0 : Int} {a1_0_1 : Int} {a1_0_2 : Bool} {a1_0_3 : Int} {t : ρ47} (h : g47 n a0 a1_0_0 a1_0_1 a1_0_2 a1_0_3 = some t) : Says Try.prog KK.gl 47 [(lstA TRunwayMove.E a0), (AV.fn 48 [(AV.ept [(intA a1_0_0), (intA a1_0_1), (boolA a1_0_2), (intA a1_0_3)] 0)])] ((intA t)) :=
  says_of_own (by first | rfl | simp [cleans, clean, encs_clean, En.cln]) (by first | rfl | simp [cleans, clean, encs_clean, En.cln]) (F47_own (lstA TRunwayMove.E a0) (AV.fn 48 [(AV.ept [(intA a1_0_0), (intA a1_0_1), (boolA a1_0_2), (intA a1_0_3)] 0)]) _ (g47_ok n a0 a1_0_0 a1_0_1 a1_0_2 a1_0_3 (Ans ((intA t))) (fun r e u m h => by rw [e]; exact h) h))
/- slices.Insert[[]skyway/api.RunwayMove,skyway/api.RunwayMove] -/
theorem g49_okU (n : Nat) (a0 : List TRunwayMove) (a1 : Int) (a2 : List TRunwayMove) {t : ρ49} (h0 : a0 ≠ []) (R : AV → Mem → Prop) (hR : ∀ r : ρ49, t = r → ∀ u m, MutO TRunwayMove.E 52 r u m → R u m) : g49 n a0 a1 a2 = some t → F49m (ownV TRunwayMove.E 0 a0) a1 (lstA TRunwayMove.E a2) [(0, ownB TRunwayMove.E 52 a0)] R := by
  unfold g49 F49m
  refine bind_b fun x52 h52 => ?_
  refine imp (opP_of (show _ = some ((subV TRunwayMove.E 0 a0.length (a1 : Int).toNat x52.length), []) from (slo_lo (E := TRunwayMove.E) (e := 52) (by kernel_rfl) (by kernel_rfl) rfl h52))) ?_
  refine imp (opP_of (show _ = some ((intA (a2.length : Int)), []) from rfl)) ?_
  refine imp ex_i64_b ?_
  refine cond_b (fun _ => ?_) (fun _ => ?_)
  · exact fun hg => hR _ (Option.some.inj hg).symm _ _ (mut_own_leaf (E := TRunwayMove.E) (ty := 52) (l := a0) h0 rfl (by first | rfl | (simp (disch := first | decide | assumption) only [mpushs_nil, mpushs_cons, mget_hd, mget_tl, mget_appW_o, mget_appW_n, mget_appW_e])))
  · refine imp (opP_of (show _ = some ((intA (a0.length : Int)), []) from len_own)) ?_
    refine imp ex_i64_b ?_
    refine cond_b (fun _ => ?_) (fun _ => ?_)
    · refine bind_b fun x53 h53 => ?_
      have neh53 := neO_some h53
      refine bind_b fun x54 h54 => ?_
      refine imp (opN_of (show _ = some ((ownV TRunwayMove.E 18 (a0 ++ a2)), (appW TRunwayMove.E 18 0 52 a0 a2)) from (app_own (E := TRunwayMove.E) (l' := a0) (xs := a2) rfl rfl (cellsOf_lst (E := TRunwayMove.E) rfl a2 false) (by first | assumption | simp) rfl (fun hne => Eq.trans (by first | rfl | (simp (disch := first | decide | assumption) only [mpushs_nil, mpushs_cons, mget_hd, mget_tl, mget_appW_o, mget_appW_n, mget_appW_e])) (ownB_ne hne)) h54))) ?_
      exact fun hg => hR _ (Option.some.inj hg).symm _ _ (mut_own_leaf (E := TRunwayMove.E) (ty := 52) (l := (a0 ++ a2)) (by simp [h0]) rfl (by first | rfl | (simp (disch := first | decide | assumption) only [mpushs_nil, mpushs_cons, mget_hd, mget_tl, mget_appW_o, mget_appW_n, mget_appW_e])))
    · exact fun h => by cases h
theorem ug49 {n k id : Nat} {look : Nat → Option ABlk} {args : List AV} {l0 : List TRunwayMove} {a0 : List TRunwayMove} {a1 : Int} {a2 : List TRunwayMove} {t : ρ49} (h0 : a0 ≠ []) (hl : l0.length = a0.length) (hb : look id = ownB TRunwayMove.E 52 a0) (h : g49 n a0 a1 a2 = some t) (ha : SnL (less look id) 6 args [(intA a1), (lstA TRunwayMove.E a2)]) : PureD Try.prog KK.gl look k 49 (ownV TRunwayMove.E id l0 :: args) (blkW TRunwayMove.E k t) [(k, some ⟨encs TRunwayMove.E t, 52⟩), (id, none)] :=
  mut_own (fun _ => rfl) hl h0 hb ha (by
    have := F49m_call (ownV TRunwayMove.E 0 a0) a1 (lstA TRunwayMove.E a2) _ _ (g49_okU n a0 a1 a2 h0 (MutO TRunwayMove.E 52 t) (fun r e u m h => by rw [e]; exact h) h)
    rw [ownV_ne h0, ownB_ne h0] at this
    exact this)
/- skyway/runway.Insert -/
theorem B21_0_0_ok (n : Nat) (a1 : List TRunwaySpan) (c9 : Int) (a3 : List TRunwayReady) (c41 : Int) (v42 : Int) (k0_0 : Int) (k0_1 : Int) (k0_2 : Int) (k0_3 : Int) (k0_4 : Int) (k0_5 : Int) (k0_6 : Int) (k0_7 : Int) (k0_8 : Int) (k0_9 : Int) (k0_10 : Int) (k0_11 : Int) (k0_12 : Int) (k0_13 : Int) (k0_14 : Int) (k0_15 : Int) (L90000 : List TRunwayMove) (bw100145_0 : Int) (bw100145_1 : Int) (bw100145_2 : Bool) (bw100145_3 : Int) {t : (List TRunwayMove × Int × Int × Bool × Int) ⊕ ((Int × List TRunwayMove) ⊕ ρ21)} (R : AV → Mem → Prop) (N0 : St → Prop) (N1 : St → Prop) (hR : ∀ r : ρ21, t = (.inr (.inr r)) → ∀ u m, Ans ((AV.tup [(lstA TRunwayMove.E r.1), (intA r.2)])) u m → R u m) (hN0 : ∀ y : Int × List TRunwayMove, t = (.inr (.inl y)) → ∀ s' : St, Weak KK 100 0 s' (h21_0 (lstA TRunwaySpan.E a1) AV.nils c9 (ownV TRunwayMove.E 90000 y.2) (lstA TRunwayReady.E a3) c41 y.1 [(90000, ownB TRunwayMove.E 52 y.2), (0, some ⟨[(intA k0_0), (intA k0_1), (intA k0_2), (intA k0_3), (intA k0_4), (intA k0_5), (intA k0_6), (intA k0_7), (intA k0_8), (intA k0_9), (intA k0_10), (intA k0_11), (intA k0_12), (intA k0_13), (intA k0_14), (intA k0_15)], 24⟩)]) → N0 s') (hN1 : ∀ y : List TRunwayMove × Int × Int × Bool × Int, t = (.inl y) → ∀ s' : St, Weak KK 100 0 s' (h21_0_0 (lstA TRunwaySpan.E a1) AV.nils c9 (ownV TRunwayMove.E 90000 y.1) (lstA TRunwayReady.E a3) c41 v42 [(90000, ownB TRunwayMove.E 52 y.1), (0, some ⟨[(intA k0_0), (intA k0_1), (intA k0_2), (intA k0_3), (intA k0_4), (intA k0_5), (intA k0_6), (intA k0_7), (intA k0_8), (intA k0_9), (intA k0_10), (intA k0_11), (intA k0_12), (intA k0_13), (intA k0_14), (intA k0_15)], 24⟩), (100145, some ⟨[(intA y.2.1), (intA y.2.2.1), (boolA y.2.2.2.1), (intA y.2.2.2.2)], 52⟩)]) → N1 s') : S21_0_0 n a1 c9 a3 c41 v42 k0_0 k0_1 k0_2 k0_3 k0_4 k0_5 k0_6 k0_7 k0_8 k0_9 k0_10 k0_11 k0_12 k0_13 k0_14 k0_15 L90000 bw100145_0 bw100145_1 bw100145_2 bw100145_3 = some t → B21_0_0 (lstA TRunwaySpan.E a1) AV.nils c9 (ownV TRunwayMove.E 90000 L90000) (lstA TRunwayReady.E a3) c41 v42 [(90000, ownB TRunwayMove.E 52 L90000), (0, some ⟨[(intA k0_0), (intA k0_1), (intA k0_2), (intA k0_3), (intA k0_4), (intA k0_5), (intA k0_6), (intA k0_7), (intA k0_8), (intA k0_9), (intA k0_10), (intA k0_11), (intA k0_12), (intA k0_13), (intA k0_14), (intA k0_15)], 24⟩), (100145, some ⟨[(intA bw100145_0), (intA bw100145_1), (boolA bw100145_2), (intA bw100145_3)], 52⟩)] R N0 N1 := by
  unfold S21_0_0 B21_0_0
  refine imp (opP_of (show _ = some ((intA bw100145_0), []) from (ldS_ptr (b := ⟨[(intA bw100145_0), (intA bw100145_1), (boolA bw100145_2), (intA bw100145_3)], 52⟩) (by first | rfl | (simp (disch := first | decide | assumption) only [mpushs_nil, mpushs_cons, mget_hd, mget_tl, mget_appW_o, mget_appW_n, mget_appW_e])) rfl))) ?_
  refine imp ex_i64_b ?_
  refine cond_b (fun _ => ?_) (fun _ => ?_)
  · refine imp (opP_of (show _ = some ((intA bw100145_0), []) from (ldS_ptr (b := ⟨[(intA bw100145_0), (intA bw100145_1), (boolA bw100145_2), (intA bw100145_3)], 52⟩) (by first | rfl | (simp (disch := first | decide | assumption) only [mpushs_nil, mpushs_cons, mget_hd, mget_tl, mget_appW_o, mget_appW_n, mget_appW_e])) rfl))) ?_
    refine imp ex_i64_b ?_
    refine bind_b fun x43 h43 => ?_
    refine imp (callQ_says (sg44 h43)) ?_
    refine imp exT2_b ?_
    refine imp ex_i64_b ?_
    refine imp exB_b ?_
    refine cond_b (fun _ => ?_) (fun _ => ?_)
    · refine imp (opP_of (show _ = some ((AV.agg [(intA bw100145_0), (intA bw100145_1), (boolA bw100145_2), (intA bw100145_3)]), []) from (ldA_ptr (b := ⟨[(intA bw100145_0), (intA bw100145_1), (boolA bw100145_2), (intA bw100145_3)], 52⟩) (by first | rfl | (simp (disch := first | decide | assumption) only [mpushs_nil, mpushs_cons, mget_hd, mget_tl, mget_appW_o, mget_appW_n, mget_appW_e])) rfl))) ?_
      refine imp exA4_b ?_
      refine imp ex_i64_b ?_
      refine imp ex_i64_b ?_
      refine imp exB_b ?_
      refine imp ex_i64_b ?_
      refine imp (opP_of (show _ = some ((AV.agg [(intA k0_0), (intA k0_1), (intA k0_2), (intA k0_3), (intA k0_4), (intA k0_5), (intA k0_6), (intA k0_7), (intA k0_8), (intA k0_9), (intA k0_10), (intA k0_11), (intA k0_12), (intA k0_13), (intA k0_14), (intA k0_15)]), []) from (ldA_ptr (b := ⟨[(intA k0_0), (intA k0_1), (intA k0_2), (intA k0_3), (intA k0_4), (intA k0_5), (intA k0_6), (intA k0_7), (intA k0_8), (intA k0_9), (intA k0_10), (intA k0_11), (intA k0_12), (intA k0_13), (intA k0_14), (intA k0_15)], 24⟩) (by first | rfl | (simp (disch := first | decide | assumption) only [mpushs_nil, mpushs_cons, mget_hd, mget_tl, mget_appW_o, mget_appW_n, mget_appW_e])) rfl))) ?_
      refine imp exA16_b ?_
      refine imp ex_i64_b ?_
      refine imp ex_i64_b ?_
      refine imp ex_i64_b ?_
      refine imp ex_i64_b ?_
      refine imp ex_i64_b ?_
      refine imp ex_i64_b ?_
      refine imp ex_i64_b ?_
      refine imp ex_i64_b ?_
      refine imp ex_i64_b ?_
      refine imp ex_i64_b ?_
      refine imp ex_i64_b ?_
      refine imp ex_i64_b ?_
      refine imp ex_i64_b ?_
      refine imp ex_i64_b ?_
      refine imp ex_i64_b ?_
      refine imp ex_i64_b ?_
      refine bind_b fun x48 h48 => ?_
      refine imp (callQ_pure (pure_snapN (snL_cons (sn_own (E := TRunwayMove.E) (ty := 52) (l' := L90000) _ TRunwayMove.nf rfl (by first | rfl | (simp (disch := first | decide | assumption) only [mpushs_nil, mpushs_cons, mget_hd, mget_tl, mget_appW_o, mget_appW_n, mget_appW_e]))) (snL_cons (sn_agg _ (snL_cons (sn_sc _ _) (snL_cons (sn_sc _ _) (snL_cons (sn_sc _ _) (snL_cons (sn_sc _ _) snL_nil))))) (snL_cons (sn_agg _ (snL_cons (sn_sc _ _) (snL_cons (sn_sc _ _) (snL_cons (sn_sc _ _) (snL_cons (sn_sc _ _) (snL_cons (sn_sc _ _) (snL_cons (sn_sc _ _) (snL_cons (sn_sc _ _) (snL_cons (sn_sc _ _) (snL_cons (sn_sc _ _) (snL_cons (sn_sc _ _) (snL_cons (sn_sc _ _) (snL_cons (sn_sc _ _) (snL_cons (sn_sc _ _) (snL_cons (sn_sc _ _) (snL_cons (sn_sc _ _) (snL_cons (sn_sc _ _) snL_nil))))))))))))))))) snL_nil))) (sg46 h48) rfl)) ?_
      refine imp exB_b ?_
      refine cond_b (fun _ => ?_) (fun _ => ?_)
      · refine imp (storeW_cell (by kernel_rfl) (by kernel_rfl) rfl (cs := [(intA bw100145_0), (intA bw100145_1), (boolA bw100145_2), (intA bw100145_3)]) (cs' := [(intA bw100145_0), (intA bw100145_1), (boolA bw100145_2), (intA x43.1)]) (ty := 52) (by first | rfl | (simp (disch := first | decide | assumption) only [mpushs_nil, mpushs_cons, mget_hd, mget_tl, mget_appW_o, mget_appW_n, mget_appW_e])) rfl rfl) ?_
        refine imp (opP_of (show _ = some ((intA bw100145_0), []) from (ldS_ptr (b := ⟨[(intA bw100145_0), (intA bw100145_1), (boolA bw100145_2), (intA x43.1)], 52⟩) (by first | rfl | (simp (disch := first | decide | assumption) only [mpushs_nil, mpushs_cons, mget_hd, mget_tl, mget_appW_o, mget_appW_n, mget_appW_e])) rfl))) ?_
        refine imp ex_i64_b ?_
        refine cond_b (fun _ => ?_) (fun _ => ?_)
        · exact fun hg => retN rfl (hR _ (Option.some.inj hg).symm) (fzL_cons (fz_nils (E := TRunwayMove.E) _) (fzL_cons (fz_sc _ _) fzL_nil))
        · refine bind_b fun x51 h51 => ?_
          refine imp (callQ_pure (pure_snapN (snL_cons (sn_own (E := TRunwayMove.E) (ty := 52) (l' := L90000) _ TRunwayMove.nf rfl (by first | rfl | (simp (disch := first | decide | assumption) only [mpushs_nil, mpushs_cons, mget_hd, mget_tl, mget_appW_o, mget_appW_n, mget_appW_e]))) (snL_cons (sn_fn _ _ (snL_cons (sn_ptr _ (ty := 52) (us := [(intA bw100145_0), (intA bw100145_1), (boolA bw100145_2), (intA x43.1)]) (by first | rfl | (simp (disch := first | decide | assumption) only [mpushs_nil, mpushs_cons, mget_hd, mget_tl, mget_appW_o, mget_appW_n, mget_appW_e])) (snL_cons (sn_sc _ _) (snL_cons (sn_sc _ _) (snL_cons (sn_sc _ _) (snL_cons (sn_sc _ _) snL_nil))))) snL_nil)) snL_nil)) (sg47 h51) rfl)) ?_
          refine imp ex_i64_b ?_
          refine cond_b (fun _ => ?_) (fun _ => ?_)
          · refine imp (opP_of (show _ = some ((intA (L90000.length : Int)), []) from len_own)) ?_
            refine imp ex_i64_b ?_
            refine imp (opP_of (show _ = some ((AV.agg [(intA bw100145_0), (intA bw100145_1), (boolA bw100145_2), (intA x43.1)]), []) from (ldA_ptr (b := ⟨[(intA bw100145_0), (intA bw100145_1), (boolA bw100145_2), (intA x43.1)], 52⟩) (by first | rfl | (simp (disch := first | decide | assumption) only [mpushs_nil, mpushs_cons, mget_hd, mget_tl, mget_appW_o, mget_appW_n, mget_appW_e])) rfl))) ?_
            refine imp exA4_b ?_
            refine imp ex_i64_b ?_
            refine imp ex_i64_b ?_
            refine imp exB_b ?_
            refine imp ex_i64_b ?_
            refine imp (opN_of (show _ = some ((blkV TRunwayMove.E 200226 ([(⟨bw100145_0, bw100145_1, bw100145_2, x43.1⟩ : TRunwayMove)] : List TRunwayMove)), [(200226, some ⟨encs TRunwayMove.E ([(⟨bw100145_0, bw100145_1, bw100145_2, x43.1⟩ : TRunwayMove)] : List TRunwayMove), 52⟩)]) from rfl)) ?_
            refine bind_b fun x55 h55 => ?_
            refine bind_b fun x56 h56 => ?_
            refine bind_b fun x57 h57 => ?_
            refine imp (callW_D (show PureD _ _ _ _ _ _ (ownV TRunwayMove.E 200227 x56) [(200227, ownB TRunwayMove.E 52 x56), (90000, none)] from own_of_bw h57 (ug49 (neO_some h55) rfl (by first | rfl | (simp (disch := first | decide | assumption) only [mpushs_nil, mpushs_cons, mget_hd, mget_tl, mget_appW_o, mget_appW_n, mget_appW_e])) h56 (snL_cons (sn_sc _ _) (snL_cons (sn_blk (E := TRunwayMove.E) (ty := 52) (l' := ([(⟨bw100145_0, bw100145_1, bw100145_2, x43.1⟩ : TRunwayMove)] : List TRunwayMove)) _ TRunwayMove.nf rfl (by rw [less_ne (by rfl)]; exact (by first | rfl | (simp (disch := first | decide | assumption) only [mpushs_nil, mpushs_cons, mget_hd, mget_tl, mget_appW_o, mget_appW_n, mget_appW_e])))) snL_nil))))) ?_
            exact fun hg => hN0 _ (Option.some.inj hg).symm _ (weak_mem [(90000, 200227), (0, 0)] rfl rfl rfl (okW_cons (ent_lst (E := TRunwaySpan.E) _ false) (okW_cons (.inl (leV_refl _)) (okW_cons (.inl (leV_refl _)) (okW_cons (.inl (leV_refl _)) (okW_cons (ent_own (E := TRunwayMove.E) (id := 200227) (l' := x56) rfl rfl) (okW_cons (ent_lst (E := TRunwayReady.E) _ false) (okW_cons (.inl (leV_refl _)) (okW_cons (.inl (leV_refl _)) okW_nil)))))))) (okB_cons (okB_own (E := TRunwayMove.E) (ty := 52) (l' := x56) rfl (show mget _ 200227 = _ from (by first | rfl | (simp (disch := first | decide | assumption) only [mpushs_nil, mpushs_cons, mget_hd, mget_tl, mget_appW_o, mget_appW_n, mget_appW_e])))) (okB_cons (okB_cells (cs := [(intA k0_0), (intA k0_1), (intA k0_2), (intA k0_3), (intA k0_4), (intA k0_5), (intA k0_6), (intA k0_7), (intA k0_8), (intA k0_9), (intA k0_10), (intA k0_11), (intA k0_12), (intA k0_13), (intA k0_14), (intA k0_15)]) (ty := 24) rfl (show mget _ 0 = _ from (by first | rfl | (simp (disch := first | decide | assumption) only [mpushs_nil, mpushs_cons, mget_hd, mget_tl, mget_appW_o, mget_appW_n, mget_appW_e])))) okB_nil')))
          · refine imp (opP_of (show _ = some ((AV.agg [(intA bw100145_0), (intA bw100145_1), (boolA bw100145_2), (intA x43.1)]), []) from (ldA_ptr (b := ⟨[(intA bw100145_0), (intA bw100145_1), (boolA bw100145_2), (intA x43.1)], 52⟩) (by first | rfl | (simp (disch := first | decide | assumption) only [mpushs_nil, mpushs_cons, mget_hd, mget_tl, mget_appW_o, mget_appW_n, mget_appW_e])) rfl))) ?_
            refine imp exA4_b ?_
            refine imp ex_i64_b ?_
            refine imp ex_i64_b ?_
            refine imp exB_b ?_
            refine imp ex_i64_b ?_
            refine imp (opN_of (show _ = some ((blkV TRunwayMove.E 200223 ([(⟨bw100145_0, bw100145_1, bw100145_2, x43.1⟩ : TRunwayMove)] : List TRunwayMove)), [(200223, some ⟨encs TRunwayMove.E ([(⟨bw100145_0, bw100145_1, bw100145_2, x43.1⟩ : TRunwayMove)] : List TRunwayMove), 52⟩)]) from rfl)) ?_
            refine bind_b fun x58 h58 => ?_
            refine bind_b fun x59 h59 => ?_
            refine bind_b fun x60 h60 => ?_
            refine imp (callW_D (show PureD _ _ _ _ _ _ (ownV TRunwayMove.E 200224 x59) [(200224, ownB TRunwayMove.E 52 x59), (90000, none)] from own_of_bw h60 (ug49 (neO_some h58) rfl (by first | rfl | (simp (disch := first | decide | assumption) only [mpushs_nil, mpushs_cons, mget_hd, mget_tl, mget_appW_o, mget_appW_n, mget_appW_e])) h59 (snL_cons (sn_sc _ _) (snL_cons (sn_blk (E := TRunwayMove.E) (ty := 52) (l' := ([(⟨bw100145_0, bw100145_1, bw100145_2, x43.1⟩ : TRunwayMove)] : List TRunwayMove)) _ TRunwayMove.nf rfl (by rw [less_ne (by rfl)]; exact (by first | rfl | (simp (disch := first | decide | assumption) only [mpushs_nil, mpushs_cons, mget_hd, mget_tl, mget_appW_o, mget_appW_n, mget_appW_e])))) snL_nil))))) ?_
            exact fun hg => hN0 _ (Option.some.inj hg).symm _ (weak_mem [(90000, 200224), (0, 0)] rfl rfl rfl (okW_cons (ent_lst (E := TRunwaySpan.E) _ false) (okW_cons (.inl (leV_refl _)) (okW_cons (.inl (leV_refl _)) (okW_cons (.inl (leV_refl _)) (okW_cons (ent_own (E := TRunwayMove.E) (id := 200224) (l' := x59) rfl rfl) (okW_cons (ent_lst (E := TRunwayReady.E) _ false) (okW_cons (.inl (leV_refl _)) (okW_cons (.inl (leV_refl _)) okW_nil)))))))) (okB_cons (okB_own (E := TRunwayMove.E) (ty := 52) (l' := x59) rfl (show mget _ 200224 = _ from (by first | rfl | (simp (disch := first | decide | assumption) only [mpushs_nil, mpushs_cons, mget_hd, mget_tl, mget_appW_o, mget_appW_n, mget_appW_e])))) (okB_cons (okB_cells (cs := [(intA k0_0), (intA k0_1), (intA k0_2), (intA k0_3), (intA k0_4), (intA k0_5), (intA k0_6), (intA k0_7), (intA k0_8), (intA k0_9), (intA k0_10), (intA k0_11), (intA k0_12), (intA k0_13), (intA k0_14), (intA k0_15)]) (ty := 24) rfl (show mget _ 0 = _ from (by first | rfl | (simp (disch := first | decide | assumption) only [mpushs_nil, mpushs_cons, mget_hd, mget_tl, mget_appW_o, mget_appW_n, mget_appW_e])))) okB_nil')))
      · refine imp (opP_of (show _ = some ((intA bw100145_0), []) from (ldS_ptr (b := ⟨[(intA bw100145_0), (intA bw100145_1), (boolA bw100145_2), (intA bw100145_3)], 52⟩) (by first | rfl | (simp (disch := first | decide | assumption) only [mpushs_nil, mpushs_cons, mget_hd, mget_tl, mget_appW_o, mget_appW_n, mget_appW_e])) rfl))) ?_
        refine imp ex_i64_b ?_
        refine imp (storeW_cell (by kernel_rfl) (by kernel_rfl) rfl (cs := [(intA bw100145_0), (intA bw100145_1), (boolA bw100145_2), (intA bw100145_3)]) (cs' := [(intA (IntKind.wrap .i64 (bw100145_0 + (1)))), (intA bw100145_1), (boolA bw100145_2), (intA bw100145_3)]) (ty := 52) (by first | rfl | (simp (disch := first | decide | assumption) only [mpushs_nil, mpushs_cons, mget_hd, mget_tl, mget_appW_o, mget_appW_n, mget_appW_e])) rfl rfl) ?_
        exact fun hg => hN1 _ (Option.some.inj hg).symm _ (weak_mem [(90000, 90000), (0, 0), (100145, 100145)] rfl rfl rfl (okW_cons (ent_lst (E := TRunwaySpan.E) _ false) (okW_cons (.inl (leV_refl _)) (okW_cons (.inl (leV_refl _)) (okW_cons (.inl (leV_refl _)) (okW_cons (ent_own (E := TRunwayMove.E) (id := 90000) (l' := L90000) rfl rfl) (okW_cons (.inl (leV_refl _)) (okW_cons (ent_lst (E := TRunwayReady.E) _ false) (okW_cons (.inl (leV_refl _)) (okW_cons (.inl (leV_refl _)) okW_nil))))))))) (okB_cons (okB_own (E := TRunwayMove.E) (ty := 52) (l' := L90000) rfl (show mget _ 90000 = _ from (by first | rfl | (simp (disch := first | decide | assumption) only [mpushs_nil, mpushs_cons, mget_hd, mget_tl, mget_appW_o, mget_appW_n, mget_appW_e])))) (okB_cons (okB_cells (cs := [(intA k0_0), (intA k0_1), (intA k0_2), (intA k0_3), (intA k0_4), (intA k0_5), (intA k0_6), (intA k0_7), (intA k0_8), (intA k0_9), (intA k0_10), (intA k0_11), (intA k0_12), (intA k0_13), (intA k0_14), (intA k0_15)]) (ty := 24) rfl (show mget _ 0 = _ from (by first | rfl | (simp (disch := first | decide | assumption) only [mpushs_nil, mpushs_cons, mget_hd, mget_tl, mget_appW_o, mget_appW_n, mget_appW_e])))) (okB_cons (okB_cells (cs := [(intA (IntKind.wrap .i64 (bw100145_0 + (1)))), (intA bw100145_1), (boolA bw100145_2), (intA bw100145_3)]) (ty := 52) rfl (show mget _ 100145 = _ from (by first | rfl | (simp (disch := first | decide | assumption) only [mpushs_nil, mpushs_cons, mget_hd, mget_tl, mget_appW_o, mget_appW_n, mget_appW_e])))) okB_nil'))))
    · refine imp (opP_of (show _ = some ((intA bw100145_0), []) from (ldS_ptr (b := ⟨[(intA bw100145_0), (intA bw100145_1), (boolA bw100145_2), (intA bw100145_3)], 52⟩) (by first | rfl | (simp (disch := first | decide | assumption) only [mpushs_nil, mpushs_cons, mget_hd, mget_tl, mget_appW_o, mget_appW_n, mget_appW_e])) rfl))) ?_
      refine imp ex_i64_b ?_
      refine imp (storeW_cell (by kernel_rfl) (by kernel_rfl) rfl (cs := [(intA bw100145_0), (intA bw100145_1), (boolA bw100145_2), (intA bw100145_3)]) (cs' := [(intA (IntKind.wrap .i64 (bw100145_0 + (1)))), (intA bw100145_1), (boolA bw100145_2), (intA bw100145_3)]) (ty := 52) (by first | rfl | (simp (disch := first | decide | assumption) only [mpushs_nil, mpushs_cons, mget_hd, mget_tl, mget_appW_o, mget_appW_n, mget_appW_e])) rfl rfl) ?_
      exact fun hg => hN1 _ (Option.some.inj hg).symm _ (weak_mem [(90000, 90000), (0, 0), (100145, 100145)] rfl rfl rfl (okW_cons (ent_lst (E := TRunwaySpan.E) _ false) (okW_cons (.inl (leV_refl _)) (okW_cons (.inl (leV_refl _)) (okW_cons (.inl (leV_refl _)) (okW_cons (ent_own (E := TRunwayMove.E) (id := 90000) (l' := L90000) rfl rfl) (okW_cons (.inl (leV_refl _)) (okW_cons (ent_lst (E := TRunwayReady.E) _ false) (okW_cons (.inl (leV_refl _)) (okW_cons (.inl (leV_refl _)) okW_nil))))))))) (okB_cons (okB_own (E := TRunwayMove.E) (ty := 52) (l' := L90000) rfl (show mget _ 90000 = _ from (by first | rfl | (simp (disch := first | decide | assumption) only [mpushs_nil, mpushs_cons, mget_hd, mget_tl, mget_appW_o, mget_appW_n, mget_appW_e])))) (okB_cons (okB_cells (cs := [(intA k0_0), (intA k0_1), (intA k0_2), (intA k0_3), (intA k0_4), (intA k0_5), (intA k0_6), (intA k0_7), (intA k0_8), (intA k0_9), (intA k0_10), (intA k0_11), (intA k0_12), (intA k0_13), (intA k0_14), (intA k0_15)]) (ty := 24) rfl (show mget _ 0 = _ from (by first | rfl | (simp (disch := first | decide | assumption) only [mpushs_nil, mpushs_cons, mget_hd, mget_tl, mget_appW_o, mget_appW_n, mget_appW_e])))) (okB_cons (okB_cells (cs := [(intA (IntKind.wrap .i64 (bw100145_0 + (1)))), (intA bw100145_1), (boolA bw100145_2), (intA bw100145_3)]) (ty := 52) rfl (show mget _ 100145 = _ from (by first | rfl | (simp (disch := first | decide | assumption) only [mpushs_nil, mpushs_cons, mget_hd, mget_tl, mget_appW_o, mget_appW_n, mget_appW_e])))) okB_nil'))))
  · refine imp (opP_of (show _ = some ((intA bw100145_0), []) from (ldS_ptr (b := ⟨[(intA bw100145_0), (intA bw100145_1), (boolA bw100145_2), (intA bw100145_3)], 52⟩) (by first | rfl | (simp (disch := first | decide | assumption) only [mpushs_nil, mpushs_cons, mget_hd, mget_tl, mget_appW_o, mget_appW_n, mget_appW_e])) rfl))) ?_
    refine imp ex_i64_b ?_
    refine cond_b (fun _ => ?_) (fun _ => ?_)
    · exact fun hg => retN rfl (hR _ (Option.some.inj hg).symm) (fzL_cons (fz_nils (E := TRunwayMove.E) _) (fzL_cons (fz_sc _ _) fzL_nil))
    · refine bind_b fun x61 h61 => ?_
      refine imp (callQ_pure (pure_snapN (snL_cons (sn_own (E := TRunwayMove.E) (ty := 52) (l' := L90000) _ TRunwayMove.nf rfl (by first | rfl | (simp (disch := first | decide | assumption) only [mpushs_nil, mpushs_cons, mget_hd, mget_tl, mget_appW_o, mget_appW_n, mget_appW_e]))) (snL_cons (sn_fn _ _ (snL_cons (sn_ptr _ (ty := 52) (us := [(intA bw100145_0), (intA bw100145_1), (boolA bw100145_2), (intA bw100145_3)]) (by first | rfl | (simp (disch := first | decide | assumption) only [mpushs_nil, mpushs_cons, mget_hd, mget_tl, mget_appW_o, mget_appW_n, mget_appW_e])) (snL_cons (sn_sc _ _) (snL_cons (sn_sc _ _) (snL_cons (sn_sc _ _) (snL_cons (sn_sc _ _) snL_nil))))) snL_nil)) snL_nil)) (sg47 h61) rfl)) ?_
      refine imp ex_i64_b ?_
      refine cond_b (fun _ => ?_) (fun _ => ?_)
      · refine imp (opP_of (show _ = some ((intA (L90000.length : Int)), []) from len_own)) ?_
        refine imp ex_i64_b ?_
        refine imp (opP_of (show _ = some ((AV.agg [(intA bw100145_0), (intA bw100145_1), (boolA bw100145_2), (intA bw100145_3)]), []) from (ldA_ptr (b := ⟨[(intA bw100145_0), (intA bw100145_1), (boolA bw100145_2), (intA bw100145_3)], 52⟩) (by first | rfl | (simp (disch := first | decide | assumption) only [mpushs_nil, mpushs_cons, mget_hd, mget_tl, mget_appW_o, mget_appW_n, mget_appW_e])) rfl))) ?_
        refine imp exA4_b ?_
        refine imp ex_i64_b ?_
        refine imp ex_i64_b ?_
        refine imp exB_b ?_
        refine imp ex_i64_b ?_
        refine imp (opN_of (show _ = some ((blkV TRunwayMove.E 200081 ([(⟨bw100145_0, bw100145_1, bw100145_2, bw100145_3⟩ : TRunwayMove)] : List TRunwayMove)), [(200081, some ⟨encs TRunwayMove.E ([(⟨bw100145_0, bw100145_1, bw100145_2, bw100145_3⟩ : TRunwayMove)] : List TRunwayMove), 52⟩)]) from rfl)) ?_
        refine bind_b fun x62 h62 => ?_
        refine bind_b fun x63 h63 => ?_
        refine bind_b fun x64 h64 => ?_
        refine imp (callW_D (show PureD _ _ _ _ _ _ (ownV TRunwayMove.E 200082 x63) [(200082, ownB TRunwayMove.E 52 x63), (90000, none)] from own_of_bw h64 (ug49 (neO_some h62) rfl (by first | rfl | (simp (disch := first | decide | assumption) only [mpushs_nil, mpushs_cons, mget_hd, mget_tl, mget_appW_o, mget_appW_n, mget_appW_e])) h63 (snL_cons (sn_sc _ _) (snL_cons (sn_blk (E := TRunwayMove.E) (ty := 52) (l' := ([(⟨bw100145_0, bw100145_1, bw100145_2, bw100145_3⟩ : TRunwayMove)] : List TRunwayMove)) _ TRunwayMove.nf rfl (by rw [less_ne (by rfl)]; exact (by first | rfl | (simp (disch := first | decide | assumption) only [mpushs_nil, mpushs_cons, mget_hd, mget_tl, mget_appW_o, mget_appW_n, mget_appW_e])))) snL_nil))))) ?_
        exact fun hg => hN0 _ (Option.some.inj hg).symm _ (weak_mem [(90000, 200082), (0, 0)] rfl rfl rfl (okW_cons (ent_lst (E := TRunwaySpan.E) _ false) (okW_cons (.inl (leV_refl _)) (okW_cons (.inl (leV_refl _)) (okW_cons (.inl (leV_refl _)) (okW_cons (ent_own (E := TRunwayMove.E) (id := 200082) (l' := x63) rfl rfl) (okW_cons (ent_lst (E := TRunwayReady.E) _ false) (okW_cons (.inl (leV_refl _)) (okW_cons (.inl (leV_refl _)) okW_nil)))))))) (okB_cons (okB_own (E := TRunwayMove.E) (ty := 52) (l' := x63) rfl (show mget _ 200082 = _ from (by first | rfl | (simp (disch := first | decide | assumption) only [mpushs_nil, mpushs_cons, mget_hd, mget_tl, mget_appW_o, mget_appW_n, mget_appW_e])))) (okB_cons (okB_cells (cs := [(intA k0_0), (intA k0_1), (intA k0_2), (intA k0_3), (intA k0_4), (intA k0_5), (intA k0_6), (intA k0_7), (intA k0_8), (intA k0_9), (intA k0_10), (intA k0_11), (intA k0_12), (intA k0_13), (intA k0_14), (intA k0_15)]) (ty := 24) rfl (show mget _ 0 = _ from (by first | rfl | (simp (disch := first | decide | assumption) only [mpushs_nil, mpushs_cons, mget_hd, mget_tl, mget_appW_o, mget_appW_n, mget_appW_e])))) okB_nil')))
      · refine imp (opP_of (show _ = some ((AV.agg [(intA bw100145_0), (intA bw100145_1), (boolA bw100145_2), (intA bw100145_3)]), []) from (ldA_ptr (b := ⟨[(intA bw100145_0), (intA bw100145_1), (boolA bw100145_2), (intA bw100145_3)], 52⟩) (by first | rfl | (simp (disch := first | decide | assumption) only [mpushs_nil, mpushs_cons, mget_hd, mget_tl, mget_appW_o, mget_appW_n, mget_appW_e])) rfl))) ?_
        refine imp exA4_b ?_
        refine imp ex_i64_b ?_
        refine imp ex_i64_b ?_
        refine imp exB_b ?_
        refine imp ex_i64_b ?_
        refine imp (opN_of (show _ = some ((blkV TRunwayMove.E 200078 ([(⟨bw100145_0, bw100145_1, bw100145_2, bw100145_3⟩ : TRunwayMove)] : List TRunwayMove)), [(200078, some ⟨encs TRunwayMove.E ([(⟨bw100145_0, bw100145_1, bw100145_2, bw100145_3⟩ : TRunwayMove)] : List TRunwayMove), 52⟩)]) from rfl)) ?_
        refine bind_b fun x65 h65 => ?_
        refine bind_b fun x66 h66 => ?_
        refine bind_b fun x67 h67 => ?_
        refine imp (callW_D (show PureD _ _ _ _ _ _ (ownV TRunwayMove.E 200079 x66) [(200079, ownB TRunwayMove.E 52 x66), (90000, none)] from own_of_bw h67 (ug49 (neO_some h65) rfl (by first | rfl | (simp (disch := first | decide | assumption) only [mpushs_nil, mpushs_cons, mget_hd, mget_tl, mget_appW_o, mget_appW_n, mget_appW_e])) h66 (snL_cons (sn_sc _ _) (snL_cons (sn_blk (E := TRunwayMove.E) (ty := 52) (l' := ([(⟨bw100145_0, bw100145_1, bw100145_2, bw100145_3⟩ : TRunwayMove)] : List TRunwayMove)) _ TRunwayMove.nf rfl (by rw [less_ne (by rfl)]; exact (by first | rfl | (simp (disch := first | decide | assumption) only [mpushs_nil, mpushs_cons, mget_hd, mget_tl, mget_appW_o, mget_appW_n, mget_appW_e])))) snL_nil))))) ?_
        exact fun hg => hN0 _ (Option.some.inj hg).symm _ (weak_mem [(90000, 200079), (0, 0)] rfl rfl rfl (okW_cons (ent_lst (E := TRunwaySpan.E) _ false) (okW_cons (.inl (leV_refl _)) (okW_cons (.inl (leV_refl _)) (okW_cons (.inl (leV_refl _)) (okW_cons (ent_own (E := TRunwayMove.E) (id := 200079) (l' := x66) rfl rfl) (okW_cons (ent_lst (E := TRunwayReady.E) _ false) (okW_cons (.inl (leV_refl _)) (okW_cons (.inl (leV_refl _)) okW_nil)))))))) (okB_cons (okB_own (E := TRunwayMove.E) (ty := 52) (l' := x66) rfl (show mget _ 200079 = _ from (by first | rfl | (simp (disch := first | decide | assumption) only [mpushs_nil, mpushs_cons, mget_hd, mget_tl, mget_appW_o, mget_appW_n, mget_appW_e])))) (okB_cons (okB_cells (cs := [(intA k0_0), (intA k0_1), (intA k0_2), (intA k0_3), (intA k0_4), (intA k0_5), (intA k0_6), (intA k0_7), (intA k0_8), (intA k0_9), (intA k0_10), (intA k0_11), (intA k0_12), (intA k0_13), (intA k0_14), (intA k0_15)]) (ty := 24) rfl (show mget _ 0 = _ from (by first | rfl | (simp (disch := first | decide | assumption) only [mpushs_nil, mpushs_cons, mget_hd, mget_tl, mget_appW_o, mget_appW_n, mget_appW_e])))) okB_nil')))
theorem L21_0_0_ok (n : Nat) (a1 : List TRunwaySpan) (c9 : Int) (a3 : List TRunwayReady) (c41 : Int) (v42 : Int) (k0_0 : Int) (k0_1 : Int) (k0_2 : Int) (k0_3 : Int) (k0_4 : Int) (k0_5 : Int) (k0_6 : Int) (k0_7 : Int) (k0_8 : Int) (k0_9 : Int) (k0_10 : Int) (k0_11 : Int) (k0_12 : Int) (k0_13 : Int) (k0_14 : Int) (k0_15 : Int) {t : ((Int × List TRunwayMove) ⊕ ρ21)} (R : AV → Mem → Prop) (N0 : St → Prop) (hR : ∀ r : ρ21, t = (.inr r) → ∀ u m, Ans ((AV.tup [(lstA TRunwayMove.E r.1), (intA r.2)])) u m → R u m) (hN0 : ∀ y : Int × List TRunwayMove, t = (.inl y) → ∀ s' : St, Weak KK 100 0 s' (h21_0 (lstA TRunwaySpan.E a1) AV.nils c9 (ownV TRunwayMove.E 90000 y.2) (lstA TRunwayReady.E a3) c41 y.1 [(90000, ownB TRunwayMove.E 52 y.2), (0, some ⟨[(intA k0_0), (intA k0_1), (intA k0_2), (intA k0_3), (intA k0_4), (intA k0_5), (intA k0_6), (intA k0_7), (intA k0_8), (intA k0_9), (intA k0_10), (intA k0_11), (intA k0_12), (intA k0_13), (intA k0_14), (intA k0_15)], 24⟩)]) → N0 s') (k : Nat) (x : List TRunwayMove × Int × Int × Bool × Int) (hx : iterO (fun y : List TRunwayMove × Int × Int × Bool × Int => S21_0_0 n a1 c9 a3 c41 v42 k0_0 k0_1 k0_2 k0_3 k0_4 k0_5 k0_6 k0_7 k0_8 k0_9 k0_10 k0_11 k0_12 k0_13 k0_14 k0_15 y.1 y.2.1 y.2.2.1 y.2.2.2.1 y.2.2.2.2) k x = some t) {s : St} (hw : Weak KK 100 0 s (h21_0_0 (lstA TRunwaySpan.E a1) AV.nils c9 (ownV TRunwayMove.E 90000 x.1) (lstA TRunwayReady.E a3) c41 v42 [(90000, ownB TRunwayMove.E 52 x.1), (0, some ⟨[(intA k0_0), (intA k0_1), (intA k0_2), (intA k0_3), (intA k0_4), (intA k0_5), (intA k0_6), (intA k0_7), (intA k0_8), (intA k0_9), (intA k0_10), (intA k0_11), (intA k0_12), (intA k0_13), (intA k0_14), (intA k0_15)], 24⟩), (100145, some ⟨[(intA x.2.1), (intA x.2.2.1), (boolA x.2.2.2.1), (intA x.2.2.2.2)], 52⟩)])) : Tri Try.prog KK 100 0 (.loop c21_0_0) s (q21_0_0 R N0) :=
  L21_0_0 R N0 (σ := Nat × (List TRunwayMove × Int × Int × Bool × Int)) (fun z => iterO (fun y : List TRunwayMove × Int × Int × Bool × Int => S21_0_0 n a1 c9 a3 c41 v42 k0_0 k0_1 k0_2 k0_3 k0_4 k0_5 k0_6 k0_7 k0_8 k0_9 k0_10 k0_11 k0_12 k0_13 k0_14 k0_15 y.1 y.2.1 y.2.2.1 y.2.2.2.1 y.2.2.2.2) z.1 z.2 = some t) (fun z => (lstA TRunwaySpan.E a1)) (fun z => AV.nils) (fun z => c9) (fun z => (ownV TRunwayMove.E 90000 z.2.1)) (fun z => (lstA TRunwayReady.E a3)) (fun z => c41) (fun z => v42) (fun z => [(90000, ownB TRunwayMove.E 52 z.2.1), (0, some ⟨[(intA k0_0), (intA k0_1), (intA k0_2), (intA k0_3), (intA k0_4), (intA k0_5), (intA k0_6), (intA k0_7), (intA k0_8), (intA k0_9), (intA k0_10), (intA k0_11), (intA k0_12), (intA k0_13), (intA k0_14), (intA k0_15)], 24⟩), (100145, some ⟨[(intA z.2.2.1), (intA z.2.2.2.1), (boolA z.2.2.2.2.1), (intA z.2.2.2.2.2)], 52⟩)]) (fun z => z.1) (by
    rintro ⟨k, y⟩ h
    cases k with
    | zero => exact (iterO_zero h).elim
    | succ k =>
      obtain ⟨u, h1, h2, h3⟩ := iterO_elim h
      exact B21_0_0_ok n a1 c9 a3 c41 v42 k0_0 k0_1 k0_2 k0_3 k0_4 k0_5 k0_6 k0_7 k0_8 k0_9 k0_10 k0_11 k0_12 k0_13 k0_14 k0_15 y.1 y.2.1 y.2.2.1 y.2.2.2.1 y.2.2.2.2 R N0 _ (fun r e => hR r (h3 _ e).symm) (fun y' e => hN0 y' (h3 _ e).symm) (fun y' e s' hw => ⟨(k, y'), h2 _ e, Nat.lt_succ_self k, hw⟩) h1) (k, x) hx hw
theorem B21_0_ok (n : Nat) (a1 : List TRunwaySpan) (c9 : Int) (a3 : List TRunwayReady) (c41 : Int) (k0_0 : Int) (k0_1 : Int) (k0_2 : Int) (k0_3 : Int) (k0_4 : Int) (k0_5 : Int) (k0_6 : Int) (k0_7 : Int) (k0_8 : Int) (k0_9 : Int) (k0_10 : Int) (k0_11 : Int) (k0_12 : Int) (k0_13 : Int) (k0_14 : Int) (k0_15 : Int) (v42 : Int) (L90000 : List TRunwayMove) {t : (Int × List TRunwayMove) ⊕ ρ21} (R : AV → Mem → Prop) (N0 : St → Prop) (hR : ∀ r : ρ21, t = (.inr r) → ∀ u m, Ans ((AV.tup [(lstA TRunwayMove.E r.1), (intA r.2)])) u m → R u m) (hN0 : ∀ y : Int × List TRunwayMove, t = (.inl y) → ∀ s' : St, Weak KK 100 0 s' (h21_0 (lstA TRunwaySpan.E a1) AV.nils c9 (ownV TRunwayMove.E 90000 y.2) (lstA TRunwayReady.E a3) c41 y.1 [(90000, ownB TRunwayMove.E 52 y.2), (0, some ⟨[(intA k0_0), (intA k0_1), (intA k0_2), (intA k0_3), (intA k0_4), (intA k0_5), (intA k0_6), (intA k0_7), (intA k0_8), (intA k0_9), (intA k0_10), (intA k0_11), (intA k0_12), (intA k0_13), (intA k0_14), (intA k0_15)], 24⟩)]) → N0 s') : S21_0 n a1 c9 a3 c41 k0_0 k0_1 k0_2 k0_3 k0_4 k0_5 k0_6 k0_7 k0_8 k0_9 k0_10 k0_11 k0_12 k0_13 k0_14 k0_15 v42 L90000 = some t → B21_0 (lstA TRunwaySpan.E a1) AV.nils c9 (ownV TRunwayMove.E 90000 L90000) (lstA TRunwayReady.E a3) c41 v42 [(90000, ownB TRunwayMove.E 52 L90000), (0, some ⟨[(intA k0_0), (intA k0_1), (intA k0_2), (intA k0_3), (intA k0_4), (intA k0_5), (intA k0_6), (intA k0_7), (intA k0_8), (intA k0_9), (intA k0_10), (intA k0_11), (intA k0_12), (intA k0_13), (intA k0_14), (intA k0_15)], 24⟩)] R N0 := by
  unfold S21_0 B21_0
  refine cond_b (fun _ => ?_) (fun _ => ?_)
  · refine bind_b fun x40 h40 => ?_
    refine imp (opP_of (show _ = some ((AV.ept [(intA x40.Time), (intA x40.Wake)] 0), []) from (idx_lst (E := TRunwayReady.E) rfl h40))) ?_
    refine imp (opP_of (show _ = some ((AV.agg [(intA x40.Time), (intA x40.Wake)]), []) from rfl)) ?_
    refine imp exA2_b ?_
    refine imp ex_i64_b ?_
    refine imp ex_i64_b ?_
    refine bind_b fun x41 h41 => ?_
    refine imp (callQ_says (sg42 h41)) ?_
    refine imp exB_b ?_
    refine cond_b (fun _ => ?_) (fun _ => ?_)
    · exact fun hg => retN rfl (hR _ (Option.some.inj hg).symm) (fzL_cons (fz_nils (E := TRunwayMove.E) _) (fzL_cons (fz_sc _ _) fzL_nil))
    · refine bind_b fun x42 h42 => ?_
      refine imp (callQ_says (sg37 h42)) ?_
      refine imp ex_i64_b ?_
      refine cond_b (fun _ => ?_) (fun _ => ?_)
      · exact fun hg => retN rfl (hR _ (Option.some.inj hg).symm) (fzL_cons (fz_nils (E := TRunwayMove.E) _) (fzL_cons (fz_sc _ _) fzL_nil))
      · refine imp (opP_of (show _ = some ((AV.agg [(intA x40.Time), (intA x40.Wake), (boolA true), (intA (0))]), []) from rfl)) ?_
        refine imp (storeW_cells (sz := 4) (by kernel_rfl) (by kernel_rfl) rfl rfl (cs := [(intA (0)), (intA (0)), (boolA false), (intA (0))]) (cs' := [(intA x40.Time), (intA x40.Wake), (boolA true), (intA (0))]) (ty := 52) (by first | rfl | (simp (disch := first | decide | assumption) only [mpushs_nil, mpushs_cons, mget_hd, mget_tl, mget_appW_o, mget_appW_n, mget_appW_e])) rfl rfl) ?_
        exact fun hg => L21_0_0_ok n a1 c9 a3 c41 v42 k0_0 k0_1 k0_2 k0_3 k0_4 k0_5 k0_6 k0_7 k0_8 k0_9 k0_10 k0_11 k0_12 k0_13 k0_14 k0_15 R N0 hR hN0 n _ hg (weak_mem [(90000, 90000), (0, 0), (100145, 100145)] rfl rfl rfl (okW_cons (ent_lst (E := TRunwaySpan.E) _ false) (okW_cons (.inl (leV_refl _)) (okW_cons (.inl (leV_refl _)) (okW_cons (.inl (leV_refl _)) (okW_cons (ent_own (E := TRunwayMove.E) (id := 90000) (l' := L90000) rfl rfl) (okW_cons (.inl (leV_refl _)) (okW_cons (ent_lst (E := TRunwayReady.E) _ false) (okW_cons (.inl (leV_refl _)) (okW_cons (.inl (leV_refl _)) okW_nil))))))))) (okB_cons (okB_own (E := TRunwayMove.E) (ty := 52) (l' := L90000) rfl (show mget _ 90000 = _ from (by first | rfl | (simp (disch := first | decide | assumption) only [mpushs_nil, mpushs_cons, mget_hd, mget_tl, mget_appW_o, mget_appW_n, mget_appW_e])))) (okB_cons (okB_cells (cs := [(intA k0_0), (intA k0_1), (intA k0_2), (intA k0_3), (intA k0_4), (intA k0_5), (intA k0_6), (intA k0_7), (intA k0_8), (intA k0_9), (intA k0_10), (intA k0_11), (intA k0_12), (intA k0_13), (intA k0_14), (intA k0_15)]) (ty := 24) rfl (show mget _ 0 = _ from (by first | rfl | (simp (disch := first | decide | assumption) only [mpushs_nil, mpushs_cons, mget_hd, mget_tl, mget_appW_o, mget_appW_n, mget_appW_e])))) (okB_cons (okB_cells (cs := [(intA x40.Time), (intA x40.Wake), (boolA true), (intA (0))]) (ty := 52) rfl (show mget _ 100145 = _ from (by first | rfl | (simp (disch := first | decide | assumption) only [mpushs_nil, mpushs_cons, mget_hd, mget_tl, mget_appW_o, mget_appW_n, mget_appW_e])))) okB_nil'))))
  · exact fun hg => retN rfl (hR _ (Option.some.inj hg).symm) (fzL_cons (fz_own (E := TRunwayMove.E) (ty := 52) (l' := L90000) _ rfl (by first | rfl | (simp (disch := first | decide | assumption) only [mpushs_nil, mpushs_cons, mget_hd, mget_tl, mget_appW_o, mget_appW_n, mget_appW_e]))) (fzL_cons (fz_sc _ _) fzL_nil))
theorem L21_0_ok (n : Nat) (a1 : List TRunwaySpan) (c9 : Int) (a3 : List TRunwayReady) (c41 : Int) (k0_0 : Int) (k0_1 : Int) (k0_2 : Int) (k0_3 : Int) (k0_4 : Int) (k0_5 : Int) (k0_6 : Int) (k0_7 : Int) (k0_8 : Int) (k0_9 : Int) (k0_10 : Int) (k0_11 : Int) (k0_12 : Int) (k0_13 : Int) (k0_14 : Int) (k0_15 : Int) {t : ρ21} (R : AV → Mem → Prop) (hR : ∀ r : ρ21, t = r → ∀ u m, Ans ((AV.tup [(lstA TRunwayMove.E r.1), (intA r.2)])) u m → R u m) (k : Nat) (x : Int × List TRunwayMove) (hx : iterO (fun y : Int × List TRunwayMove => S21_0 n a1 c9 a3 c41 k0_0 k0_1 k0_2 k0_3 k0_4 k0_5 k0_6 k0_7 k0_8 k0_9 k0_10 k0_11 k0_12 k0_13 k0_14 k0_15 y.1 y.2) k x = some t) {s : St} (hw : Weak KK 100 0 s (h21_0 (lstA TRunwaySpan.E a1) AV.nils c9 (ownV TRunwayMove.E 90000 x.2) (lstA TRunwayReady.E a3) c41 x.1 [(90000, ownB TRunwayMove.E 52 x.2), (0, some ⟨[(intA k0_0), (intA k0_1), (intA k0_2), (intA k0_3), (intA k0_4), (intA k0_5), (intA k0_6), (intA k0_7), (intA k0_8), (intA k0_9), (intA k0_10), (intA k0_11), (intA k0_12), (intA k0_13), (intA k0_14), (intA k0_15)], 24⟩)])) : Tri Try.prog KK 100 0 (.loop c21_0) s (q21_0 R ) :=
  L21_0 R  (σ := Nat × (Int × List TRunwayMove)) (fun z => iterO (fun y : Int × List TRunwayMove => S21_0 n a1 c9 a3 c41 k0_0 k0_1 k0_2 k0_3 k0_4 k0_5 k0_6 k0_7 k0_8 k0_9 k0_10 k0_11 k0_12 k0_13 k0_14 k0_15 y.1 y.2) z.1 z.2 = some t) (fun z => (lstA TRunwaySpan.E a1)) (fun z => AV.nils) (fun z => c9) (fun z => (ownV TRunwayMove.E 90000 z.2.2)) (fun z => (lstA TRunwayReady.E a3)) (fun z => c41) (fun z => z.2.1) (fun z => [(90000, ownB TRunwayMove.E 52 z.2.2), (0, some ⟨[(intA k0_0), (intA k0_1), (intA k0_2), (intA k0_3), (intA k0_4), (intA k0_5), (intA k0_6), (intA k0_7), (intA k0_8), (intA k0_9), (intA k0_10), (intA k0_11), (intA k0_12), (intA k0_13), (intA k0_14), (intA k0_15)], 24⟩)]) (fun z => z.1) (by
    rintro ⟨k, y⟩ h
    cases k with
    | zero => exact (iterO_zero h).elim
    | succ k =>
      obtain ⟨u, h1, h2, h3⟩ := iterO_elim h
      exact B21_0_ok n a1 c9 a3 c41 k0_0 k0_1 k0_2 k0_3 k0_4 k0_5 k0_6 k0_7 k0_8 k0_9 k0_10 k0_11 k0_12 k0_13 k0_14 k0_15 y.1 y.2 R  _ (fun r e => hR r (h3 _ e).symm)  (fun y' e s' hw => ⟨(k, y'), h2 _ e, Nat.lt_succ_self k, hw⟩) h1) (k, x) hx hw
theorem g21_ok (n : Nat) (a0 : List TRunwayMove) (a1 : List TRunwaySpan) (a2 : TWakeTable) (a3 : List TRunwayReady) {t : ρ21} (R : AV → Mem → Prop) (hR : ∀ r : ρ21, t = r → ∀ u m, Ans ((AV.tup [(lstA TRunwayMove.E r.1), (intA r.2)])) u m → R u m) : g21 n a0 a1 a2 a3 = some t → F21 (lstA TRunwayMove.E a0) (lstA TRunwaySpan.E a1) a2.c0_0 a2.c0_1 a2.c0_2 a2.c0_3 a2.c1_0 a2.c1_1 a2.c1_2 a2.c1_3 a2.c2_0 a2.c2_1 a2.c2_2 a2.c2_3 a2.c3_0 a2.c3_1 a2.c3_2 a2.c3_3 (lstA TRunwayReady.E a3) R := by
  unfold g21 F21
  refine bind_b fun x38 h38 => ?_
  refine imp (callQ_says (sg19 h38)) ?_
  refine imp exT3_b ?_
  refine imp ex_i64_b ?_
  refine imp ex_i64_b ?_
  refine imp ex_i64_b ?_
  refine cond_b (fun _ => ?_) (fun _ => ?_)
  · exact fun hg => retN rfl (hR _ (Option.some.inj hg).symm) (fzL_cons (fz_nils (E := TRunwayMove.E) _) (fzL_cons (fz_sc _ _) fzL_nil))
  · refine imp (opP_of (show _ = some ((intA (a0.length : Int)), []) from rfl)) ?_
    refine imp ex_i64_b ?_
    refine imp (opP_of (show _ = some ((intA (a3.length : Int)), []) from rfl)) ?_
    refine imp ex_i64_b ?_
    refine cond_b (fun _ => ?_) (fun _ => ?_)
    · exact fun hg => retN rfl (hR _ (Option.some.inj hg).symm) (fzL_cons (fz_nils (E := TRunwayMove.E) _) (fzL_cons (fz_sc _ _) fzL_nil))
    · refine bind_b fun x39 h39 => ?_
      refine imp (callW_D (show PureD _ _ _ _ _ _ (ownV TRunwayMove.E 86 a0) [(86, ownB TRunwayMove.E 52 a0)] from cloneC23 h39)) ?_
      refine imp (opP_of (show _ = some ((intA (a3.length : Int)), []) from rfl)) ?_
      refine imp ex_i64_b ?_
      exact fun hg => L21_0_ok n a1 (0) a3 (a3.length : Int) a2.c0_0 a2.c0_1 a2.c0_2 a2.c0_3 a2.c1_0 a2.c1_1 a2.c1_2 a2.c1_3 a2.c2_0 a2.c2_1 a2.c2_2 a2.c2_3 a2.c3_0 a2.c3_1 a2.c3_2 a2.c3_3 R  hR n _ hg (weak_mem [(90000, 86), (0, 0)] rfl rfl rfl (okW_cons (ent_lst (E := TRunwaySpan.E) _ false) (okW_cons (.inl (leV_refl _)) (okW_cons (.inl (leV_refl _)) (okW_cons (.inl (leV_refl _)) (okW_cons (ent_own (E := TRunwayMove.E) (id := 86) (l' := a0) rfl rfl) (okW_cons (ent_lst (E := TRunwayReady.E) _ false) (okW_cons (.inl (leV_refl _)) (okW_cons (.inl (leV_refl _)) okW_nil)))))))) (okB_cons (okB_own (E := TRunwayMove.E) (ty := 52) (l' := a0) rfl (show mget _ 86 = _ from (by first | rfl | (simp (disch := first | decide | assumption) only [mpushs_nil, mpushs_cons, mget_hd, mget_tl, mget_appW_o, mget_appW_n, mget_appW_e])))) (okB_cons (okB_cells (cs := [(intA a2.c0_0), (intA a2.c0_1), (intA a2.c0_2), (intA a2.c0_3), (intA a2.c1_0), (intA a2.c1_1), (intA a2.c1_2), (intA a2.c1_3), (intA a2.c2_0), (intA a2.c2_1), (intA a2.c2_2), (intA a2.c2_3), (intA a2.c3_0), (intA a2.c3_1), (intA a2.c3_2), (intA a2.c3_3)]) (ty := 24) rfl (show mget _ 0 = _ from (by first | rfl | (simp (disch := first | decide | assumption) only [mpushs_nil, mpushs_cons, mget_hd, mget_tl, mget_appW_o, mget_appW_n, mget_appW_e])))) okB_nil')))
theorem sg21 {n : Nat} {a0 : List TRunwayMove} {a1 : List TRunwaySpan} {a2 : TWakeTable} {a3 : List TRunwayReady} {t : ρ21} (h : g21 n a0 a1 a2 a3 = some t) : Says Try.prog KK.gl 21 [(lstA TRunwayMove.E a0), (lstA TRunwaySpan.E a1), (AV.agg [(intA a2.c0_0), (intA a2.c0_1), (intA a2.c0_2), (intA a2.c0_3), (intA a2.c1_0), (intA a2.c1_1), (intA a2.c1_2), (intA a2.c1_3), (intA a2.c2_0), (intA a2.c2_1), (intA a2.c2_2), (intA a2.c2_3), (intA a2.c3_0), (intA a2.c3_1), (intA a2.c3_2), (intA a2.c3_3)]), (lstA TRunwayReady.E a3)] ((AV.tup [(lstA TRunwayMove.E t.1), (intA t.2)])) :=
  says_of_own (by first | rfl | simp [cleans, clean, encs_clean, En.cln]) (by first | rfl | simp [cleans, clean, encs_clean, En.cln]) (F21_own (lstA TRunwayMove.E a0) (lstA TRunwaySpan.E a1) a2.c0_0 a2.c0_1 a2.c0_2 a2.c0_3 a2.c1_0 a2.c1_1 a2.c1_2 a2.c1_3 a2.c2_0 a2.c2_1 a2.c2_2 a2.c2_3 a2.c3_0 a2.c3_1 a2.c3_2 a2.c3_3 (lstA TRunwayReady.E a3) _ (g21_ok n a0 a1 a2 a3 (Ans ((AV.tup [(lstA TRunwayMove.E t.1), (intA t.2)]))) (fun r e u m h => by rw [e]; exact h) h))
/- skyway/runway.Insert -/
theorem B21_0_0_okM (n : Nat) (a1 : List TRunwaySpan) (c9 : Int) (a3 : List TRunwayReady) (c41 : Int) (v42 : Int) (k0_0 : Int) (k0_1 : Int) (k0_2 : Int) (k0_3 : Int) (k0_4 : Int) (k0_5 : Int) (k0_6 : Int) (k0_7 : Int) (k0_8 : Int) (k0_9 : Int) (k0_10 : Int) (k0_11 : Int) (k0_12 : Int) (k0_13 : Int) (k0_14 : Int) (k0_15 : Int) (L90000 : List TRunwayMove) (bw100145_0 : Int) (bw100145_1 : Int) (bw100145_2 : Bool) (bw100145_3 : Int) {t : (List TRunwayMove × Int × Int × Bool × Int) ⊕ ((Int × List TRunwayMove) ⊕ ρ21)} (R : AV → Mem → Prop) (N0 : St → Prop) (N1 : St → Prop) (hR : ∀ r : ρ21, t = (.inr (.inr r)) → ∀ u m, MadeT TRunwayMove.E 52 r.1 [Value.int .i64 r.2] u m → R u m) (hN0 : ∀ y : Int × List TRunwayMove, t = (.inr (.inl y)) → ∀ s' : St, Weak KK 100 0 s' (h21_0 (lstA TRunwaySpan.E a1) AV.nils c9 (ownV TRunwayMove.E 90000 y.2) (lstA TRunwayReady.E a3) c41 y.1 [(90000, ownB TRunwayMove.E 52 y.2), (0, some ⟨[(intA k0_0), (intA k0_1), (intA k0_2), (intA k0_3), (intA k0_4), (intA k0_5), (intA k0_6), (intA k0_7), (intA k0_8), (intA k0_9), (intA k0_10), (intA k0_11), (intA k0_12), (intA k0_13), (intA k0_14), (intA k0_15)], 24⟩)]) → N0 s') (hN1 : ∀ y : List TRunwayMove × Int × Int × Bool × Int, t = (.inl y) → ∀ s' : St, Weak KK 100 0 s' (h21_0_0 (lstA TRunwaySpan.E a1) AV.nils c9 (ownV TRunwayMove.E 90000 y.1) (lstA TRunwayReady.E a3) c41 v42 [(90000, ownB TRunwayMove.E 52 y.1), (0, some ⟨[(intA k0_0), (intA k0_1), (intA k0_2), (intA k0_3), (intA k0_4), (intA k0_5), (intA k0_6), (intA k0_7), (intA k0_8), (intA k0_9), (intA k0_10), (intA k0_11), (intA k0_12), (intA k0_13), (intA k0_14), (intA k0_15)], 24⟩), (100145, some ⟨[(intA y.2.1), (intA y.2.2.1), (boolA y.2.2.2.1), (intA y.2.2.2.2)], 52⟩)]) → N1 s') : S21_0_0 n a1 c9 a3 c41 v42 k0_0 k0_1 k0_2 k0_3 k0_4 k0_5 k0_6 k0_7 k0_8 k0_9 k0_10 k0_11 k0_12 k0_13 k0_14 k0_15 L90000 bw100145_0 bw100145_1 bw100145_2 bw100145_3 = some t → B21_0_0 (lstA TRunwaySpan.E a1) AV.nils c9 (ownV TRunwayMove.E 90000 L90000) (lstA TRunwayReady.E a3) c41 v42 [(90000, ownB TRunwayMove.E 52 L90000), (0, some ⟨[(intA k0_0), (intA k0_1), (intA k0_2), (intA k0_3), (intA k0_4), (intA k0_5), (intA k0_6), (intA k0_7), (intA k0_8), (intA k0_9), (intA k0_10), (intA k0_11), (intA k0_12), (intA k0_13), (intA k0_14), (intA k0_15)], 24⟩), (100145, some ⟨[(intA bw100145_0), (intA bw100145_1), (boolA bw100145_2), (intA bw100145_3)], 52⟩)] R N0 N1 := by
  unfold S21_0_0 B21_0_0
  refine imp (opP_of (show _ = some ((intA bw100145_0), []) from (ldS_ptr (b := ⟨[(intA bw100145_0), (intA bw100145_1), (boolA bw100145_2), (intA bw100145_3)], 52⟩) (by first | rfl | (simp (disch := first | decide | assumption) only [mpushs_nil, mpushs_cons, mget_hd, mget_tl, mget_appW_o, mget_appW_n, mget_appW_e])) rfl))) ?_
  refine imp ex_i64_b ?_
  refine cond_b (fun _ => ?_) (fun _ => ?_)
  · refine imp (opP_of (show _ = some ((intA bw100145_0), []) from (ldS_ptr (b := ⟨[(intA bw100145_0), (intA bw100145_1), (boolA bw100145_2), (intA bw100145_3)], 52⟩) (by first | rfl | (simp (disch := first | decide | assumption) only [mpushs_nil, mpushs_cons, mget_hd, mget_tl, mget_appW_o, mget_appW_n, mget_appW_e])) rfl))) ?_
    refine imp ex_i64_b ?_
    refine bind_b fun x74 h74 => ?_
    refine imp (callQ_says (sg44 h74)) ?_
    refine imp exT2_b ?_
    refine imp ex_i64_b ?_
    refine imp exB_b ?_
    refine cond_b (fun _ => ?_) (fun _ => ?_)
    · refine imp (opP_of (show _ = some ((AV.agg [(intA bw100145_0), (intA bw100145_1), (boolA bw100145_2), (intA bw100145_3)]), []) from (ldA_ptr (b := ⟨[(intA bw100145_0), (intA bw100145_1), (boolA bw100145_2), (intA bw100145_3)], 52⟩) (by first | rfl | (simp (disch := first | decide | assumption) only [mpushs_nil, mpushs_cons, mget_hd, mget_tl, mget_appW_o, mget_appW_n, mget_appW_e])) rfl))) ?_
      refine imp exA4_b ?_
      refine imp ex_i64_b ?_
      refine imp ex_i64_b ?_
      refine imp exB_b ?_
      refine imp ex_i64_b ?_
      refine imp (opP_of (show _ = some ((AV.agg [(intA k0_0), (intA k0_1), (intA k0_2), (intA k0_3), (intA k0_4), (intA k0_5), (intA k0_6), (intA k0_7), (intA k0_8), (intA k0_9), (intA k0_10), (intA k0_11), (intA k0_12), (intA k0_13), (intA k0_14), (intA k0_15)]), []) from (ldA_ptr (b := ⟨[(intA k0_0), (intA k0_1), (intA k0_2), (intA k0_3), (intA k0_4), (intA k0_5), (intA k0_6), (intA k0_7), (intA k0_8), (intA k0_9), (intA k0_10), (intA k0_11), (intA k0_12), (intA k0_13), (intA k0_14), (intA k0_15)], 24⟩) (by first | rfl | (simp (disch := first | decide | assumption) only [mpushs_nil, mpushs_cons, mget_hd, mget_tl, mget_appW_o, mget_appW_n, mget_appW_e])) rfl))) ?_
      refine imp exA16_b ?_
      refine imp ex_i64_b ?_
      refine imp ex_i64_b ?_
      refine imp ex_i64_b ?_
      refine imp ex_i64_b ?_
      refine imp ex_i64_b ?_
      refine imp ex_i64_b ?_
      refine imp ex_i64_b ?_
      refine imp ex_i64_b ?_
      refine imp ex_i64_b ?_
      refine imp ex_i64_b ?_
      refine imp ex_i64_b ?_
      refine imp ex_i64_b ?_
      refine imp ex_i64_b ?_
      refine imp ex_i64_b ?_
      refine imp ex_i64_b ?_
      refine imp ex_i64_b ?_
      refine bind_b fun x75 h75 => ?_
      refine imp (callQ_pure (pure_snapN (snL_cons (sn_own (E := TRunwayMove.E) (ty := 52) (l' := L90000) _ TRunwayMove.nf rfl (by first | rfl | (simp (disch := first | decide | assumption) only [mpushs_nil, mpushs_cons, mget_hd, mget_tl, mget_appW_o, mget_appW_n, mget_appW_e]))) (snL_cons (sn_agg _ (snL_cons (sn_sc _ _) (snL_cons (sn_sc _ _) (snL_cons (sn_sc _ _) (snL_cons (sn_sc _ _) snL_nil))))) (snL_cons (sn_agg _ (snL_cons (sn_sc _ _) (snL_cons (sn_sc _ _) (snL_cons (sn_sc _ _) (snL_cons (sn_sc _ _) (snL_cons (sn_sc _ _) (snL_cons (sn_sc _ _) (snL_cons (sn_sc _ _) (snL_cons (sn_sc _ _) (snL_cons (sn_sc _ _) (snL_cons (sn_sc _ _) (snL_cons (sn_sc _ _) (snL_cons (sn_sc _ _) (snL_cons (sn_sc _ _) (snL_cons (sn_sc _ _) (snL_cons (sn_sc _ _) (snL_cons (sn_sc _ _) snL_nil))))))))))))))))) snL_nil))) (sg46 h75) rfl)) ?_
      refine imp exB_b ?_
      refine cond_b (fun _ => ?_) (fun _ => ?_)
      · refine imp (storeW_cell (by kernel_rfl) (by kernel_rfl) rfl (cs := [(intA bw100145_0), (intA bw100145_1), (boolA bw100145_2), (intA bw100145_3)]) (cs' := [(intA bw100145_0), (intA bw100145_1), (boolA bw100145_2), (intA x74.1)]) (ty := 52) (by first | rfl | (simp (disch := first | decide | assumption) only [mpushs_nil, mpushs_cons, mget_hd, mget_tl, mget_appW_o, mget_appW_n, mget_appW_e])) rfl rfl) ?_
        refine imp (opP_of (show _ = some ((intA bw100145_0), []) from (ldS_ptr (b := ⟨[(intA bw100145_0), (intA bw100145_1), (boolA bw100145_2), (intA x74.1)], 52⟩) (by first | rfl | (simp (disch := first | decide | assumption) only [mpushs_nil, mpushs_cons, mget_hd, mget_tl, mget_appW_o, mget_appW_n, mget_appW_e])) rfl))) ?_
        refine imp ex_i64_b ?_
        refine cond_b (fun _ => ?_) (fun _ => ?_)
        · exact fun hg => hR _ (Option.some.inj hg).symm _ _ ⟨_, rfl, made_nils_pf⟩
        · refine bind_b fun x76 h76 => ?_
          refine imp (callQ_pure (pure_snapN (snL_cons (sn_own (E := TRunwayMove.E) (ty := 52) (l' := L90000) _ TRunwayMove.nf rfl (by first | rfl | (simp (disch := first | decide | assumption) only [mpushs_nil, mpushs_cons, mget_hd, mget_tl, mget_appW_o, mget_appW_n, mget_appW_e]))) (snL_cons (sn_fn _ _ (snL_cons (sn_ptr _ (ty := 52) (us := [(intA bw100145_0), (intA bw100145_1), (boolA bw100145_2), (intA x74.1)]) (by first | rfl | (simp (disch := first | decide | assumption) only [mpushs_nil, mpushs_cons, mget_hd, mget_tl, mget_appW_o, mget_appW_n, mget_appW_e])) (snL_cons (sn_sc _ _) (snL_cons (sn_sc _ _) (snL_cons (sn_sc _ _) (snL_cons (sn_sc _ _) snL_nil))))) snL_nil)) snL_nil)) (sg47 h76) rfl)) ?_
          refine imp ex_i64_b ?_
          refine cond_b (fun _ => ?_) (fun _ => ?_)
          · refine imp (opP_of (show _ = some ((intA (L90000.length : Int)), []) from len_own)) ?_
            refine imp ex_i64_b ?_
            refine imp (opP_of (show _ = some ((AV.agg [(intA bw100145_0), (intA bw100145_1), (boolA bw100145_2), (intA x74.1)]), []) from (ldA_ptr (b := ⟨[(intA bw100145_0), (intA bw100145_1), (boolA bw100145_2), (intA x74.1)], 52⟩) (by first | rfl | (simp (disch := first | decide | assumption) only [mpushs_nil, mpushs_cons, mget_hd, mget_tl, mget_appW_o, mget_appW_n, mget_appW_e])) rfl))) ?_
            refine imp exA4_b ?_
            refine imp ex_i64_b ?_
            refine imp ex_i64_b ?_
            refine imp exB_b ?_
            refine imp ex_i64_b ?_
            refine imp (opN_of (show _ = some ((blkV TRunwayMove.E 200226 ([(⟨bw100145_0, bw100145_1, bw100145_2, x74.1⟩ : TRunwayMove)] : List TRunwayMove)), [(200226, some ⟨encs TRunwayMove.E ([(⟨bw100145_0, bw100145_1, bw100145_2, x74.1⟩ : TRunwayMove)] : List TRunwayMove), 52⟩)]) from rfl)) ?_
            refine bind_b fun x77 h77 => ?_
            refine bind_b fun x78 h78 => ?_
            refine bind_b fun x79 h79 => ?_
            refine imp (callW_D (show PureD _ _ _ _ _ _ (ownV TRunwayMove.E 200227 x78) [(200227, ownB TRunwayMove.E 52 x78), (90000, none)] from own_of_bw h79 (ug49 (neO_some h77) rfl (by first | rfl | (simp (disch := first | decide | assumption) only [mpushs_nil, mpushs_cons, mget_hd, mget_tl, mget_appW_o, mget_appW_n, mget_appW_e])) h78 (snL_cons (sn_sc _ _) (snL_cons (sn_blk (E := TRunwayMove.E) (ty := 52) (l' := ([(⟨bw100145_0, bw100145_1, bw100145_2, x74.1⟩ : TRunwayMove)] : List TRunwayMove)) _ TRunwayMove.nf rfl (by rw [less_ne (by rfl)]; exact (by first | rfl | (simp (disch := first | decide | assumption) only [mpushs_nil, mpushs_cons, mget_hd, mget_tl, mget_appW_o, mget_appW_n, mget_appW_e])))) snL_nil))))) ?_
            exact fun hg => hN0 _ (Option.some.inj hg).symm _ (weak_mem [(90000, 200227), (0, 0)] rfl rfl rfl (okW_cons (ent_lst (E := TRunwaySpan.E) _ false) (okW_cons (.inl (leV_refl _)) (okW_cons (.inl (leV_refl _)) (okW_cons (.inl (leV_refl _)) (okW_cons (ent_own (E := TRunwayMove.E) (id := 200227) (l' := x78) rfl rfl) (okW_cons (ent_lst (E := TRunwayReady.E) _ false) (okW_cons (.inl (leV_refl _)) (okW_cons (.inl (leV_refl _)) okW_nil)))))))) (okB_cons (okB_own (E := TRunwayMove.E) (ty := 52) (l' := x78) rfl (show mget _ 200227 = _ from (by first | rfl | (simp (disch := first | decide | assumption) only [mpushs_nil, mpushs_cons, mget_hd, mget_tl, mget_appW_o, mget_appW_n, mget_appW_e])))) (okB_cons (okB_cells (cs := [(intA k0_0), (intA k0_1), (intA k0_2), (intA k0_3), (intA k0_4), (intA k0_5), (intA k0_6), (intA k0_7), (intA k0_8), (intA k0_9), (intA k0_10), (intA k0_11), (intA k0_12), (intA k0_13), (intA k0_14), (intA k0_15)]) (ty := 24) rfl (show mget _ 0 = _ from (by first | rfl | (simp (disch := first | decide | assumption) only [mpushs_nil, mpushs_cons, mget_hd, mget_tl, mget_appW_o, mget_appW_n, mget_appW_e])))) okB_nil')))
          · refine imp (opP_of (show _ = some ((AV.agg [(intA bw100145_0), (intA bw100145_1), (boolA bw100145_2), (intA x74.1)]), []) from (ldA_ptr (b := ⟨[(intA bw100145_0), (intA bw100145_1), (boolA bw100145_2), (intA x74.1)], 52⟩) (by first | rfl | (simp (disch := first | decide | assumption) only [mpushs_nil, mpushs_cons, mget_hd, mget_tl, mget_appW_o, mget_appW_n, mget_appW_e])) rfl))) ?_
            refine imp exA4_b ?_
            refine imp ex_i64_b ?_
            refine imp ex_i64_b ?_
            refine imp exB_b ?_
            refine imp ex_i64_b ?_
            refine imp (opN_of (show _ = some ((blkV TRunwayMove.E 200223 ([(⟨bw100145_0, bw100145_1, bw100145_2, x74.1⟩ : TRunwayMove)] : List TRunwayMove)), [(200223, some ⟨encs TRunwayMove.E ([(⟨bw100145_0, bw100145_1, bw100145_2, x74.1⟩ : TRunwayMove)] : List TRunwayMove), 52⟩)]) from rfl)) ?_
            refine bind_b fun x80 h80 => ?_
            refine bind_b fun x81 h81 => ?_
            refine bind_b fun x82 h82 => ?_
            refine imp (callW_D (show PureD _ _ _ _ _ _ (ownV TRunwayMove.E 200224 x81) [(200224, ownB TRunwayMove.E 52 x81), (90000, none)] from own_of_bw h82 (ug49 (neO_some h80) rfl (by first | rfl | (simp (disch := first | decide | assumption) only [mpushs_nil, mpushs_cons, mget_hd, mget_tl, mget_appW_o, mget_appW_n, mget_appW_e])) h81 (snL_cons (sn_sc _ _) (snL_cons (sn_blk (E := TRunwayMove.E) (ty := 52) (l' := ([(⟨bw100145_0, bw100145_1, bw100145_2, x74.1⟩ : TRunwayMove)] : List TRunwayMove)) _ TRunwayMove.nf rfl (by rw [less_ne (by rfl)]; exact (by first | rfl | (simp (disch := first | decide | assumption) only [mpushs_nil, mpushs_cons, mget_hd, mget_tl, mget_appW_o, mget_appW_n, mget_appW_e])))) snL_nil))))) ?_
            exact fun hg => hN0 _ (Option.some.inj hg).symm _ (weak_mem [(90000, 200224), (0, 0)] rfl rfl rfl (okW_cons (ent_lst (E := TRunwaySpan.E) _ false) (okW_cons (.inl (leV_refl _)) (okW_cons (.inl (leV_refl _)) (okW_cons (.inl (leV_refl _)) (okW_cons (ent_own (E := TRunwayMove.E) (id := 200224) (l' := x81) rfl rfl) (okW_cons (ent_lst (E := TRunwayReady.E) _ false) (okW_cons (.inl (leV_refl _)) (okW_cons (.inl (leV_refl _)) okW_nil)))))))) (okB_cons (okB_own (E := TRunwayMove.E) (ty := 52) (l' := x81) rfl (show mget _ 200224 = _ from (by first | rfl | (simp (disch := first | decide | assumption) only [mpushs_nil, mpushs_cons, mget_hd, mget_tl, mget_appW_o, mget_appW_n, mget_appW_e])))) (okB_cons (okB_cells (cs := [(intA k0_0), (intA k0_1), (intA k0_2), (intA k0_3), (intA k0_4), (intA k0_5), (intA k0_6), (intA k0_7), (intA k0_8), (intA k0_9), (intA k0_10), (intA k0_11), (intA k0_12), (intA k0_13), (intA k0_14), (intA k0_15)]) (ty := 24) rfl (show mget _ 0 = _ from (by first | rfl | (simp (disch := first | decide | assumption) only [mpushs_nil, mpushs_cons, mget_hd, mget_tl, mget_appW_o, mget_appW_n, mget_appW_e])))) okB_nil')))
      · refine imp (opP_of (show _ = some ((intA bw100145_0), []) from (ldS_ptr (b := ⟨[(intA bw100145_0), (intA bw100145_1), (boolA bw100145_2), (intA bw100145_3)], 52⟩) (by first | rfl | (simp (disch := first | decide | assumption) only [mpushs_nil, mpushs_cons, mget_hd, mget_tl, mget_appW_o, mget_appW_n, mget_appW_e])) rfl))) ?_
        refine imp ex_i64_b ?_
        refine imp (storeW_cell (by kernel_rfl) (by kernel_rfl) rfl (cs := [(intA bw100145_0), (intA bw100145_1), (boolA bw100145_2), (intA bw100145_3)]) (cs' := [(intA (IntKind.wrap .i64 (bw100145_0 + (1)))), (intA bw100145_1), (boolA bw100145_2), (intA bw100145_3)]) (ty := 52) (by first | rfl | (simp (disch := first | decide | assumption) only [mpushs_nil, mpushs_cons, mget_hd, mget_tl, mget_appW_o, mget_appW_n, mget_appW_e])) rfl rfl) ?_
        exact fun hg => hN1 _ (Option.some.inj hg).symm _ (weak_mem [(90000, 90000), (0, 0), (100145, 100145)] rfl rfl rfl (okW_cons (ent_lst (E := TRunwaySpan.E) _ false) (okW_cons (.inl (leV_refl _)) (okW_cons (.inl (leV_refl _)) (okW_cons (.inl (leV_refl _)) (okW_cons (ent_own (E := TRunwayMove.E) (id := 90000) (l' := L90000) rfl rfl) (okW_cons (.inl (leV_refl _)) (okW_cons (ent_lst (E := TRunwayReady.E) _ false) (okW_cons (.inl (leV_refl _)) (okW_cons (.inl (leV_refl _)) okW_nil))))))))) (okB_cons (okB_own (E := TRunwayMove.E) (ty := 52) (l' := L90000) rfl (show mget _ 90000 = _ from (by first | rfl | (simp (disch := first | decide | assumption) only [mpushs_nil, mpushs_cons, mget_hd, mget_tl, mget_appW_o, mget_appW_n, mget_appW_e])))) (okB_cons (okB_cells (cs := [(intA k0_0), (intA k0_1), (intA k0_2), (intA k0_3), (intA k0_4), (intA k0_5), (intA k0_6), (intA k0_7), (intA k0_8), (intA k0_9), (intA k0_10), (intA k0_11), (intA k0_12), (intA k0_13), (intA k0_14), (intA k0_15)]) (ty := 24) rfl (show mget _ 0 = _ from (by first | rfl | (simp (disch := first | decide | assumption) only [mpushs_nil, mpushs_cons, mget_hd, mget_tl, mget_appW_o, mget_appW_n, mget_appW_e])))) (okB_cons (okB_cells (cs := [(intA (IntKind.wrap .i64 (bw100145_0 + (1)))), (intA bw100145_1), (boolA bw100145_2), (intA bw100145_3)]) (ty := 52) rfl (show mget _ 100145 = _ from (by first | rfl | (simp (disch := first | decide | assumption) only [mpushs_nil, mpushs_cons, mget_hd, mget_tl, mget_appW_o, mget_appW_n, mget_appW_e])))) okB_nil'))))
    · refine imp (opP_of (show _ = some ((intA bw100145_0), []) from (ldS_ptr (b := ⟨[(intA bw100145_0), (intA bw100145_1), (boolA bw100145_2), (intA bw100145_3)], 52⟩) (by first | rfl | (simp (disch := first | decide | assumption) only [mpushs_nil, mpushs_cons, mget_hd, mget_tl, mget_appW_o, mget_appW_n, mget_appW_e])) rfl))) ?_
      refine imp ex_i64_b ?_
      refine imp (storeW_cell (by kernel_rfl) (by kernel_rfl) rfl (cs := [(intA bw100145_0), (intA bw100145_1), (boolA bw100145_2), (intA bw100145_3)]) (cs' := [(intA (IntKind.wrap .i64 (bw100145_0 + (1)))), (intA bw100145_1), (boolA bw100145_2), (intA bw100145_3)]) (ty := 52) (by first | rfl | (simp (disch := first | decide | assumption) only [mpushs_nil, mpushs_cons, mget_hd, mget_tl, mget_appW_o, mget_appW_n, mget_appW_e])) rfl rfl) ?_
      exact fun hg => hN1 _ (Option.some.inj hg).symm _ (weak_mem [(90000, 90000), (0, 0), (100145, 100145)] rfl rfl rfl (okW_cons (ent_lst (E := TRunwaySpan.E) _ false) (okW_cons (.inl (leV_refl _)) (okW_cons (.inl (leV_refl _)) (okW_cons (.inl (leV_refl _)) (okW_cons (ent_own (E := TRunwayMove.E) (id := 90000) (l' := L90000) rfl rfl) (okW_cons (.inl (leV_refl _)) (okW_cons (ent_lst (E := TRunwayReady.E) _ false) (okW_cons (.inl (leV_refl _)) (okW_cons (.inl (leV_refl _)) okW_nil))))))))) (okB_cons (okB_own (E := TRunwayMove.E) (ty := 52) (l' := L90000) rfl (show mget _ 90000 = _ from (by first | rfl | (simp (disch := first | decide | assumption) only [mpushs_nil, mpushs_cons, mget_hd, mget_tl, mget_appW_o, mget_appW_n, mget_appW_e])))) (okB_cons (okB_cells (cs := [(intA k0_0), (intA k0_1), (intA k0_2), (intA k0_3), (intA k0_4), (intA k0_5), (intA k0_6), (intA k0_7), (intA k0_8), (intA k0_9), (intA k0_10), (intA k0_11), (intA k0_12), (intA k0_13), (intA k0_14), (intA k0_15)]) (ty := 24) rfl (show mget _ 0 = _ from (by first | rfl | (simp (disch := first | decide | assumption) only [mpushs_nil, mpushs_cons, mget_hd, mget_tl, mget_appW_o, mget_appW_n, mget_appW_e])))) (okB_cons (okB_cells (cs := [(intA (IntKind.wrap .i64 (bw100145_0 + (1)))), (intA bw100145_1), (boolA bw100145_2), (intA bw100145_3)]) (ty := 52) rfl (show mget _ 100145 = _ from (by first | rfl | (simp (disch := first | decide | assumption) only [mpushs_nil, mpushs_cons, mget_hd, mget_tl, mget_appW_o, mget_appW_n, mget_appW_e])))) okB_nil'))))
  · refine imp (opP_of (show _ = some ((intA bw100145_0), []) from (ldS_ptr (b := ⟨[(intA bw100145_0), (intA bw100145_1), (boolA bw100145_2), (intA bw100145_3)], 52⟩) (by first | rfl | (simp (disch := first | decide | assumption) only [mpushs_nil, mpushs_cons, mget_hd, mget_tl, mget_appW_o, mget_appW_n, mget_appW_e])) rfl))) ?_
    refine imp ex_i64_b ?_
    refine cond_b (fun _ => ?_) (fun _ => ?_)
    · exact fun hg => hR _ (Option.some.inj hg).symm _ _ ⟨_, rfl, made_nils_pf⟩
    · refine bind_b fun x83 h83 => ?_
      refine imp (callQ_pure (pure_snapN (snL_cons (sn_own (E := TRunwayMove.E) (ty := 52) (l' := L90000) _ TRunwayMove.nf rfl (by first | rfl | (simp (disch := first | decide | assumption) only [mpushs_nil, mpushs_cons, mget_hd, mget_tl, mget_appW_o, mget_appW_n, mget_appW_e]))) (snL_cons (sn_fn _ _ (snL_cons (sn_ptr _ (ty := 52) (us := [(intA bw100145_0), (intA bw100145_1), (boolA bw100145_2), (intA bw100145_3)]) (by first | rfl | (simp (disch := first | decide | assumption) only [mpushs_nil, mpushs_cons, mget_hd, mget_tl, mget_appW_o, mget_appW_n, mget_appW_e])) (snL_cons (sn_sc _ _) (snL_cons (sn_sc _ _) (snL_cons (sn_sc _ _) (snL_cons (sn_sc _ _) snL_nil))))) snL_nil)) snL_nil)) (sg47 h83) rfl)) ?_
      refine imp ex_i64_b ?_
      refine cond_b (fun _ => ?_) (fun _ => ?_)
      · refine imp (opP_of (show _ = some ((intA (L90000.length : Int)), []) from len_own)) ?_
        refine imp ex_i64_b ?_
        refine imp (opP_of (show _ = some ((AV.agg [(intA bw100145_0), (intA bw100145_1), (boolA bw100145_2), (intA bw100145_3)]), []) from (ldA_ptr (b := ⟨[(intA bw100145_0), (intA bw100145_1), (boolA bw100145_2), (intA bw100145_3)], 52⟩) (by first | rfl | (simp (disch := first | decide | assumption) only [mpushs_nil, mpushs_cons, mget_hd, mget_tl, mget_appW_o, mget_appW_n, mget_appW_e])) rfl))) ?_
        refine imp exA4_b ?_
        refine imp ex_i64_b ?_
        refine imp ex_i64_b ?_
        refine imp exB_b ?_
        refine imp ex_i64_b ?_
        refine imp (opN_of (show _ = some ((blkV TRunwayMove.E 200081 ([(⟨bw100145_0, bw100145_1, bw100145_2, bw100145_3⟩ : TRunwayMove)] : List TRunwayMove)), [(200081, some ⟨encs TRunwayMove.E ([(⟨bw100145_0, bw100145_1, bw100145_2, bw100145_3⟩ : TRunwayMove)] : List TRunwayMove), 52⟩)]) from rfl)) ?_
        refine bind_b fun x84 h84 => ?_
        refine bind_b fun x85 h85 => ?_
        refine bind_b fun x86 h86 => ?_
        refine imp (callW_D (show PureD _ _ _ _ _ _ (ownV TRunwayMove.E 200082 x85) [(200082, ownB TRunwayMove.E 52 x85), (90000, none)] from own_of_bw h86 (ug49 (neO_some h84) rfl (by first | rfl | (simp (disch := first | decide | assumption) only [mpushs_nil, mpushs_cons, mget_hd, mget_tl, mget_appW_o, mget_appW_n, mget_appW_e])) h85 (snL_cons (sn_sc _ _) (snL_cons (sn_blk (E := TRunwayMove.E) (ty := 52) (l' := ([(⟨bw100145_0, bw100145_1, bw100145_2, bw100145_3⟩ : TRunwayMove)] : List TRunwayMove)) _ TRunwayMove.nf rfl (by rw [less_ne (by rfl)]; exact (by first | rfl | (simp (disch := first | decide | assumption) only [mpushs_nil, mpushs_cons, mget_hd, mget_tl, mget_appW_o, mget_appW_n, mget_appW_e])))) snL_nil))))) ?_
        exact fun hg => hN0 _ (Option.some.inj hg).symm _ (weak_mem [(90000, 200082), (0, 0)] rfl rfl rfl (okW_cons (ent_lst (E := TRunwaySpan.E) _ false) (okW_cons (.inl (leV_refl _)) (okW_cons (.inl (leV_refl _)) (okW_cons (.inl (leV_refl _)) (okW_cons (ent_own (E := TRunwayMove.E) (id := 200082) (l' := x85) rfl rfl) (okW_cons (ent_lst (E := TRunwayReady.E) _ false) (okW_cons (.inl (leV_refl _)) (okW_cons (.inl (leV_refl _)) okW_nil)))))))) (okB_cons (okB_own (E := TRunwayMove.E) (ty := 52) (l' := x85) rfl (show mget _ 200082 = _ from (by first | rfl | (simp (disch := first | decide | assumption) only [mpushs_nil, mpushs_cons, mget_hd, mget_tl, mget_appW_o, mget_appW_n, mget_appW_e])))) (okB_cons (okB_cells (cs := [(intA k0_0), (intA k0_1), (intA k0_2), (intA k0_3), (intA k0_4), (intA k0_5), (intA k0_6), (intA k0_7), (intA k0_8), (intA k0_9), (intA k0_10), (intA k0_11), (intA k0_12), (intA k0_13), (intA k0_14), (intA k0_15)]) (ty := 24) rfl (show mget _ 0 = _ from (by first | rfl | (simp (disch := first | decide | assumption) only [mpushs_nil, mpushs_cons, mget_hd, mget_tl, mget_appW_o, mget_appW_n, mget_appW_e])))) okB_nil')))
      · refine imp (opP_of (show _ = some ((AV.agg [(intA bw100145_0), (intA bw100145_1), (boolA bw100145_2), (intA bw100145_3)]), []) from (ldA_ptr (b := ⟨[(intA bw100145_0), (intA bw100145_1), (boolA bw100145_2), (intA bw100145_3)], 52⟩) (by first | rfl | (simp (disch := first | decide | assumption) only [mpushs_nil, mpushs_cons, mget_hd, mget_tl, mget_appW_o, mget_appW_n, mget_appW_e])) rfl))) ?_
        refine imp exA4_b ?_
        refine imp ex_i64_b ?_
        refine imp ex_i64_b ?_
        refine imp exB_b ?_
        refine imp ex_i64_b ?_
        refine imp (opN_of (show _ = some ((blkV TRunwayMove.E 200078 ([(⟨bw100145_0, bw100145_1, bw100145_2, bw100145_3⟩ : TRunwayMove)] : List TRunwayMove)), [(200078, some ⟨encs TRunwayMove.E ([(⟨bw100145_0, bw100145_1, bw100145_2, bw100145_3⟩ : TRunwayMove)] : List TRunwayMove), 52⟩)]) from rfl)) ?_
        refine bind_b fun x87 h87 => ?_
        refine bind_b fun x88 h88 => ?_
        refine bind_b fun x89 h89 => ?_
        refine imp (callW_D (show PureD _ _ _ _ _ _ (ownV TRunwayMove.E 200079 x88) [(200079, ownB TRunwayMove.E 52 x88), (90000, none)] from own_of_bw h89 (ug49 (neO_some h87) rfl (by first | rfl | (simp (disch := first | decide | assumption) only [mpushs_nil, mpushs_cons, mget_hd, mget_tl, mget_appW_o, mget_appW_n, mget_appW_e])) h88 (snL_cons (sn_sc _ _) (snL_cons (sn_blk (E := TRunwayMove.E) (ty := 52) (l' := ([(⟨bw100145_0, bw100145_1, bw100145_2, bw100145_3⟩ : TRunwayMove)] : List TRunwayMove)) _ TRunwayMove.nf rfl (by rw [less_ne (by rfl)]; exact (by first | rfl | (simp (disch := first | decide | assumption) only [mpushs_nil, mpushs_cons, mget_hd, mget_tl, mget_appW_o, mget_appW_n, mget_appW_e])))) snL_nil))))) ?_
        exact fun hg => hN0 _ (Option.some.inj hg).symm _ (weak_mem [(90000, 200079), (0, 0)] rfl rfl rfl (okW_cons (ent_lst (E := TRunwaySpan.E) _ false) (okW_cons (.inl (leV_refl _)) (okW_cons (.inl (leV_refl _)) (okW_cons (.inl (leV_refl _)) (okW_cons (ent_own (E := TRunwayMove.E) (id := 200079) (l' := x88) rfl rfl) (okW_cons (ent_lst (E := TRunwayReady.E) _ false) (okW_cons (.inl (leV_refl _)) (okW_cons (.inl (leV_refl _)) okW_nil)))))))) (okB_cons (okB_own (E := TRunwayMove.E) (ty := 52) (l' := x88) rfl (show mget _ 200079 = _ from (by first | rfl | (simp (disch := first | decide | assumption) only [mpushs_nil, mpushs_cons, mget_hd, mget_tl, mget_appW_o, mget_appW_n, mget_appW_e])))) (okB_cons (okB_cells (cs := [(intA k0_0), (intA k0_1), (intA k0_2), (intA k0_3), (intA k0_4), (intA k0_5), (intA k0_6), (intA k0_7), (intA k0_8), (intA k0_9), (intA k0_10), (intA k0_11), (intA k0_12), (intA k0_13), (intA k0_14), (intA k0_15)]) (ty := 24) rfl (show mget _ 0 = _ from (by first | rfl | (simp (disch := first | decide | assumption) only [mpushs_nil, mpushs_cons, mget_hd, mget_tl, mget_appW_o, mget_appW_n, mget_appW_e])))) okB_nil')))
theorem L21_0_0_okM (n : Nat) (a1 : List TRunwaySpan) (c9 : Int) (a3 : List TRunwayReady) (c41 : Int) (v42 : Int) (k0_0 : Int) (k0_1 : Int) (k0_2 : Int) (k0_3 : Int) (k0_4 : Int) (k0_5 : Int) (k0_6 : Int) (k0_7 : Int) (k0_8 : Int) (k0_9 : Int) (k0_10 : Int) (k0_11 : Int) (k0_12 : Int) (k0_13 : Int) (k0_14 : Int) (k0_15 : Int) {t : ((Int × List TRunwayMove) ⊕ ρ21)} (R : AV → Mem → Prop) (N0 : St → Prop) (hR : ∀ r : ρ21, t = (.inr r) → ∀ u m, MadeT TRunwayMove.E 52 r.1 [Value.int .i64 r.2] u m → R u m) (hN0 : ∀ y : Int × List TRunwayMove, t = (.inl y) → ∀ s' : St, Weak KK 100 0 s' (h21_0 (lstA TRunwaySpan.E a1) AV.nils c9 (ownV TRunwayMove.E 90000 y.2) (lstA TRunwayReady.E a3) c41 y.1 [(90000, ownB TRunwayMove.E 52 y.2), (0, some ⟨[(intA k0_0), (intA k0_1), (intA k0_2), (intA k0_3), (intA k0_4), (intA k0_5), (intA k0_6), (intA k0_7), (intA k0_8), (intA k0_9), (intA k0_10), (intA k0_11), (intA k0_12), (intA k0_13), (intA k0_14), (intA k0_15)], 24⟩)]) → N0 s') (k : Nat) (x : List TRunwayMove × Int × Int × Bool × Int) (hx : iterO (fun y : List TRunwayMove × Int × Int × Bool × Int => S21_0_0 n a1 c9 a3 c41 v42 k0_0 k0_1 k0_2 k0_3 k0_4 k0_5 k0_6 k0_7 k0_8 k0_9 k0_10 k0_11 k0_12 k0_13 k0_14 k0_15 y.1 y.2.1 y.2.2.1 y.2.2.2.1 y.2.2.2.2) k x = some t) {s : St} (hw : Weak KK 100 0 s (h21_0_0 (lstA TRunwaySpan.E a1) AV.nils c9 (ownV TRunwayMove.E 90000 x.1) (lstA TRunwayReady.E a3) c41 v42 [(90000, ownB TRunwayMove.E 52 x.1), (0, some ⟨[(intA k0_0), (intA k0_1), (intA k0_2), (intA k0_3), (intA k0_4), (intA k0_5), (intA k0_6), (intA k0_7), (intA k0_8), (intA k0_9), (intA k0_10), (intA k0_11), (intA k0_12), (intA k0_13), (intA k0_14), (intA k0_15)], 24⟩), (100145, some ⟨[(intA x.2.1), (intA x.2.2.1), (boolA x.2.2.2.1), (intA x.2.2.2.2)], 52⟩)])) : Tri Try.prog KK 100 0 (.loop c21_0_0) s (q21_0_0 R N0) :=
  L21_0_0 R N0 (σ := Nat × (List TRunwayMove × Int × Int × Bool × Int)) (fun z => iterO (fun y : List TRunwayMove × Int × Int × Bool × Int => S21_0_0 n a1 c9 a3 c41 v42 k0_0 k0_1 k0_2 k0_3 k0_4 k0_5 k0_6 k0_7 k0_8 k0_9 k0_10 k0_11 k0_12 k0_13 k0_14 k0_15 y.1 y.2.1 y.2.2.1 y.2.2.2.1 y.2.2.2.2) z.1 z.2 = some t) (fun z => (lstA TRunwaySpan.E a1)) (fun z => AV.nils) (fun z => c9) (fun z => (ownV TRunwayMove.E 90000 z.2.1)) (fun z => (lstA TRunwayReady.E a3)) (fun z => c41) (fun z => v42) (fun z => [(90000, ownB TRunwayMove.E 52 z.2.1), (0, some ⟨[(intA k0_0), (intA k0_1), (intA k0_2), (intA k0_3), (intA k0_4), (intA k0_5), (intA k0_6), (intA k0_7), (intA k0_8), (intA k0_9), (intA k0_10), (intA k0_11), (intA k0_12), (intA k0_13), (intA k0_14), (intA k0_15)], 24⟩), (100145, some ⟨[(intA z.2.2.1), (intA z.2.2.2.1), (boolA z.2.2.2.2.1), (intA z.2.2.2.2.2)], 52⟩)]) (fun z => z.1) (by
    rintro ⟨k, y⟩ h
    cases k with
    | zero => exact (iterO_zero h).elim
    | succ k =>
      obtain ⟨u, h1, h2, h3⟩ := iterO_elim h
      exact B21_0_0_okM n a1 c9 a3 c41 v42 k0_0 k0_1 k0_2 k0_3 k0_4 k0_5 k0_6 k0_7 k0_8 k0_9 k0_10 k0_11 k0_12 k0_13 k0_14 k0_15 y.1 y.2.1 y.2.2.1 y.2.2.2.1 y.2.2.2.2 R N0 _ (fun r e => hR r (h3 _ e).symm) (fun y' e => hN0 y' (h3 _ e).symm) (fun y' e s' hw => ⟨(k, y'), h2 _ e, Nat.lt_succ_self k, hw⟩) h1) (k, x) hx hw
theorem B21_0_okM (n : Nat) (a1 : List TRunwaySpan) (c9 : Int) (a3 : List TRunwayReady) (c41 : Int) (k0_0 : Int) (k0_1 : Int) (k0_2 : Int) (k0_3 : Int) (k0_4 : Int) (k0_5 : Int) (k0_6 : Int) (k0_7 : Int) (k0_8 : Int) (k0_9 : Int) (k0_10 : Int) (k0_11 : Int) (k0_12 : Int) (k0_13 : Int) (k0_14 : Int) (k0_15 : Int) (v42 : Int) (L90000 : List TRunwayMove) {t : (Int × List TRunwayMove) ⊕ ρ21} (R : AV → Mem → Prop) (N0 : St → Prop) (hR : ∀ r : ρ21, t = (.inr r) → ∀ u m, MadeT TRunwayMove.E 52 r.1 [Value.int .i64 r.2] u m → R u m) (hN0 : ∀ y : Int × List TRunwayMove, t = (.inl y) → ∀ s' : St, Weak KK 100 0 s' (h21_0 (lstA TRunwaySpan.E a1) AV.nils c9 (ownV TRunwayMove.E 90000 y.2) (lstA TRunwayReady.E a3) c41 y.1 [(90000, ownB TRunwayMove.E 52 y.2), (0, some ⟨[(intA k0_0), (intA k0_1), (intA k0_2), (intA k0_3), (intA k0_4), (intA k0_5), (intA k0_6), (intA k0_7), (intA k0_8), (intA k0_9), (intA k0_10), (intA k0_11), (intA k0_12), (intA k0_13), (intA k0_14), (intA k0_15)], 24⟩)]) → N0 s') : S21_0 n a1 c9 a3 c41 k0_0 k0_1 k0_2 k0_3 k0_4 k0_5 k0_6 k0_7 k0_8 k0_9 k0_10 k0_11 k0_12 k0_13 k0_14 k0_15 v42 L90000 = some t → B21_0 (lstA TRunwaySpan.E a1) AV.nils c9 (ownV TRunwayMove.E 90000 L90000) (lstA TRunwayReady.E a3) c41 v42 [(90000, ownB TRunwayMove.E 52 L90000), (0, some ⟨[(intA k0_0), (intA k0_1), (intA k0_2), (intA k0_3), (intA k0_4), (intA k0_5), (intA k0_6), (intA k0_7), (intA k0_8), (intA k0_9), (intA k0_10), (intA k0_11), (intA k0_12), (intA k0_13), (intA k0_14), (intA k0_15)], 24⟩)] R N0 := by
  unfold S21_0 B21_0
  refine cond_b (fun _ => ?_) (fun _ => ?_)
  · refine bind_b fun x71 h71 => ?_
    refine imp (opP_of (show _ = some ((AV.ept [(intA x71.Time), (intA x71.Wake)] 0), []) from (idx_lst (E := TRunwayReady.E) rfl h71))) ?_
    refine imp (opP_of (show _ = some ((AV.agg [(intA x71.Time), (intA x71.Wake)]), []) from rfl)) ?_
    refine imp exA2_b ?_
    refine imp ex_i64_b ?_
    refine imp ex_i64_b ?_
    refine bind_b fun x72 h72 => ?_
    refine imp (callQ_says (sg42 h72)) ?_
    refine imp exB_b ?_
    refine cond_b (fun _ => ?_) (fun _ => ?_)
    · exact fun hg => hR _ (Option.some.inj hg).symm _ _ ⟨_, rfl, made_nils_pf⟩
    · refine bind_b fun x73 h73 => ?_
      refine imp (callQ_says (sg37 h73)) ?_
      refine imp ex_i64_b ?_
      refine cond_b (fun _ => ?_) (fun _ => ?_)
      · exact fun hg => hR _ (Option.some.inj hg).symm _ _ ⟨_, rfl, made_nils_pf⟩
      · refine imp (opP_of (show _ = some ((AV.agg [(intA x71.Time), (intA x71.Wake), (boolA true), (intA (0))]), []) from rfl)) ?_
        refine imp (storeW_cells (sz := 4) (by kernel_rfl) (by kernel_rfl) rfl rfl (cs := [(intA (0)), (intA (0)), (boolA false), (intA (0))]) (cs' := [(intA x71.Time), (intA x71.Wake), (boolA true), (intA (0))]) (ty := 52) (by first | rfl | (simp (disch := first | decide | assumption) only [mpushs_nil, mpushs_cons, mget_hd, mget_tl, mget_appW_o, mget_appW_n, mget_appW_e])) rfl rfl) ?_
        exact fun hg => L21_0_0_okM n a1 c9 a3 c41 v42 k0_0 k0_1 k0_2 k0_3 k0_4 k0_5 k0_6 k0_7 k0_8 k0_9 k0_10 k0_11 k0_12 k0_13 k0_14 k0_15 R N0 hR hN0 n _ hg (weak_mem [(90000, 90000), (0, 0), (100145, 100145)] rfl rfl rfl (okW_cons (ent_lst (E := TRunwaySpan.E) _ false) (okW_cons (.inl (leV_refl _)) (okW_cons (.inl (leV_refl _)) (okW_cons (.inl (leV_refl _)) (okW_cons (ent_own (E := TRunwayMove.E) (id := 90000) (l' := L90000) rfl rfl) (okW_cons (.inl (leV_refl _)) (okW_cons (ent_lst (E := TRunwayReady.E) _ false) (okW_cons (.inl (leV_refl _)) (okW_cons (.inl (leV_refl _)) okW_nil))))))))) (okB_cons (okB_own (E := TRunwayMove.E) (ty := 52) (l' := L90000) rfl (show mget _ 90000 = _ from (by first | rfl | (simp (disch := first | decide | assumption) only [mpushs_nil, mpushs_cons, mget_hd, mget_tl, mget_appW_o, mget_appW_n, mget_appW_e])))) (okB_cons (okB_cells (cs := [(intA k0_0), (intA k0_1), (intA k0_2), (intA k0_3), (intA k0_4), (intA k0_5), (intA k0_6), (intA k0_7), (intA k0_8), (intA k0_9), (intA k0_10), (intA k0_11), (intA k0_12), (intA k0_13), (intA k0_14), (intA k0_15)]) (ty := 24) rfl (show mget _ 0 = _ from (by first | rfl | (simp (disch := first | decide | assumption) only [mpushs_nil, mpushs_cons, mget_hd, mget_tl, mget_appW_o, mget_appW_n, mget_appW_e])))) (okB_cons (okB_cells (cs := [(intA x71.Time), (intA x71.Wake), (boolA true), (intA (0))]) (ty := 52) rfl (show mget _ 100145 = _ from (by first | rfl | (simp (disch := first | decide | assumption) only [mpushs_nil, mpushs_cons, mget_hd, mget_tl, mget_appW_o, mget_appW_n, mget_appW_e])))) okB_nil'))))
  · exact fun hg => hR _ (Option.some.inj hg).symm _ _ ⟨_, rfl, (made_own_pf (E := TRunwayMove.E) (ty := 52) (l := L90000) rfl (by first | rfl | (simp (disch := first | decide | assumption) only [mpushs_nil, mpushs_cons, mget_hd, mget_tl, mget_appW_o, mget_appW_n, mget_appW_e])))⟩
theorem L21_0_okM (n : Nat) (a1 : List TRunwaySpan) (c9 : Int) (a3 : List TRunwayReady) (c41 : Int) (k0_0 : Int) (k0_1 : Int) (k0_2 : Int) (k0_3 : Int) (k0_4 : Int) (k0_5 : Int) (k0_6 : Int) (k0_7 : Int) (k0_8 : Int) (k0_9 : Int) (k0_10 : Int) (k0_11 : Int) (k0_12 : Int) (k0_13 : Int) (k0_14 : Int) (k0_15 : Int) {t : ρ21} (R : AV → Mem → Prop) (hR : ∀ r : ρ21, t = r → ∀ u m, MadeT TRunwayMove.E 52 r.1 [Value.int .i64 r.2] u m → R u m) (k : Nat) (x : Int × List TRunwayMove) (hx : iterO (fun y : Int × List TRunwayMove => S21_0 n a1 c9 a3 c41 k0_0 k0_1 k0_2 k0_3 k0_4 k0_5 k0_6 k0_7 k0_8 k0_9 k0_10 k0_11 k0_12 k0_13 k0_14 k0_15 y.1 y.2) k x = some t) {s : St} (hw : Weak KK 100 0 s (h21_0 (lstA TRunwaySpan.E a1) AV.nils c9 (ownV TRunwayMove.E 90000 x.2) (lstA TRunwayReady.E a3) c41 x.1 [(90000, ownB TRunwayMove.E 52 x.2), (0, some ⟨[(intA k0_0), (intA k0_1), (intA k0_2), (intA k0_3), (intA k0_4), (intA k0_5), (intA k0_6), (intA k0_7), (intA k0_8), (intA k0_9), (intA k0_10), (intA k0_11), (intA k0_12), (intA k0_13), (intA k0_14), (intA k0_15)], 24⟩)])) : Tri Try.prog KK 100 0 (.loop c21_0) s (q21_0 R ) :=
  L21_0 R  (σ := Nat × (Int × List TRunwayMove)) (fun z => iterO (fun y : Int × List TRunwayMove => S21_0 n a1 c9 a3 c41 k0_0 k0_1 k0_2 k0_3 k0_4 k0_5 k0_6 k0_7 k0_8 k0_9 k0_10 k0_11 k0_12 k0_13 k0_14 k0_15 y.1 y.2) z.1 z.2 = some t) (fun z => (lstA TRunwaySpan.E a1)) (fun z => AV.nils) (fun z => c9) (fun z => (ownV TRunwayMove.E 90000 z.2.2)) (fun z => (lstA TRunwayReady.E a3)) (fun z => c41) (fun z => z.2.1) (fun z => [(90000, ownB TRunwayMove.E 52 z.2.2), (0, some ⟨[(intA k0_0), (intA k0_1), (intA k0_2), (intA k0_3), (intA k0_4), (intA k0_5), (intA k0_6), (intA k0_7), (intA k0_8), (intA k0_9), (intA k0_10), (intA k0_11), (intA k0_12), (intA k0_13), (intA k0_14), (intA k0_15)], 24⟩)]) (fun z => z.1) (by
    rintro ⟨k, y⟩ h
    cases k with
    | zero => exact (iterO_zero h).elim
    | succ k =>
      obtain ⟨u, h1, h2, h3⟩ := iterO_elim h
      exact B21_0_okM n a1 c9 a3 c41 k0_0 k0_1 k0_2 k0_3 k0_4 k0_5 k0_6 k0_7 k0_8 k0_9 k0_10 k0_11 k0_12 k0_13 k0_14 k0_15 y.1 y.2 R  _ (fun r e => hR r (h3 _ e).symm)  (fun y' e s' hw => ⟨(k, y'), h2 _ e, Nat.lt_succ_self k, hw⟩) h1) (k, x) hx hw
theorem g21_okM (n : Nat) (a0 : List TRunwayMove) (a1 : List TRunwaySpan) (a2 : TWakeTable) (a3 : List TRunwayReady) {t : ρ21} (R : AV → Mem → Prop) (hR : ∀ r : ρ21, t = r → ∀ u m, MadeT TRunwayMove.E 52 r.1 [Value.int .i64 r.2] u m → R u m) : g21 n a0 a1 a2 a3 = some t → F21 (lstA TRunwayMove.E a0) (lstA TRunwaySpan.E a1) a2.c0_0 a2.c0_1 a2.c0_2 a2.c0_3 a2.c1_0 a2.c1_1 a2.c1_2 a2.c1_3 a2.c2_0 a2.c2_1 a2.c2_2 a2.c2_3 a2.c3_0 a2.c3_1 a2.c3_2 a2.c3_3 (lstA TRunwayReady.E a3) R := by
  unfold g21 F21
  refine bind_b fun x69 h69 => ?_
  refine imp (callQ_says (sg19 h69)) ?_
  refine imp exT3_b ?_
  refine imp ex_i64_b ?_
  refine imp ex_i64_b ?_
  refine imp ex_i64_b ?_
  refine cond_b (fun _ => ?_) (fun _ => ?_)
  · exact fun hg => hR _ (Option.some.inj hg).symm _ _ ⟨_, rfl, made_nils_pf⟩
  · refine imp (opP_of (show _ = some ((intA (a0.length : Int)), []) from rfl)) ?_
    refine imp ex_i64_b ?_
    refine imp (opP_of (show _ = some ((intA (a3.length : Int)), []) from rfl)) ?_
    refine imp ex_i64_b ?_
    refine cond_b (fun _ => ?_) (fun _ => ?_)
    · exact fun hg => hR _ (Option.some.inj hg).symm _ _ ⟨_, rfl, made_nils_pf⟩
    · refine bind_b fun x70 h70 => ?_
      refine imp (callW_D (show PureD _ _ _ _ _ _ (ownV TRunwayMove.E 86 a0) [(86, ownB TRunwayMove.E 52 a0)] from cloneC23 h70)) ?_
      refine imp (opP_of (show _ = some ((intA (a3.length : Int)), []) from rfl)) ?_
      refine imp ex_i64_b ?_
      exact fun hg => L21_0_okM n a1 (0) a3 (a3.length : Int) a2.c0_0 a2.c0_1 a2.c0_2 a2.c0_3 a2.c1_0 a2.c1_1 a2.c1_2 a2.c1_3 a2.c2_0 a2.c2_1 a2.c2_2 a2.c2_3 a2.c3_0 a2.c3_1 a2.c3_2 a2.c3_3 R  hR n _ hg (weak_mem [(90000, 86), (0, 0)] rfl rfl rfl (okW_cons (ent_lst (E := TRunwaySpan.E) _ false) (okW_cons (.inl (leV_refl _)) (okW_cons (.inl (leV_refl _)) (okW_cons (.inl (leV_refl _)) (okW_cons (ent_own (E := TRunwayMove.E) (id := 86) (l' := a0) rfl rfl) (okW_cons (ent_lst (E := TRunwayReady.E) _ false) (okW_cons (.inl (leV_refl _)) (okW_cons (.inl (leV_refl _)) okW_nil)))))))) (okB_cons (okB_own (E := TRunwayMove.E) (ty := 52) (l' := a0) rfl (show mget _ 86 = _ from (by first | rfl | (simp (disch := first | decide | assumption) only [mpushs_nil, mpushs_cons, mget_hd, mget_tl, mget_appW_o, mget_appW_n, mget_appW_e])))) (okB_cons (okB_cells (cs := [(intA a2.c0_0), (intA a2.c0_1), (intA a2.c0_2), (intA a2.c0_3), (intA a2.c1_0), (intA a2.c1_1), (intA a2.c1_2), (intA a2.c1_3), (intA a2.c2_0), (intA a2.c2_1), (intA a2.c2_2), (intA a2.c2_3), (intA a2.c3_0), (intA a2.c3_1), (intA a2.c3_2), (intA a2.c3_3)]) (ty := 24) rfl (show mget _ 0 = _ from (by first | rfl | (simp (disch := first | decide | assumption) only [mpushs_nil, mpushs_cons, mget_hd, mget_tl, mget_appW_o, mget_appW_n, mget_appW_e])))) okB_nil')))
theorem mg21C {n k : Nat} {look : Nat → Option ABlk} {a0 : List TRunwayMove} {a1 : List TRunwaySpan} {a2 : TWakeTable} {a3 : List TRunwayReady} {t : ρ21} (h : g21 n a0 a1 a2 a3 = some t) : PureD Try.prog KK.gl look k 21 [(lstA TRunwayMove.E a0), (lstA TRunwaySpan.E a1), (AV.agg [(intA a2.c0_0), (intA a2.c0_1), (intA a2.c0_2), (intA a2.c0_3), (intA a2.c1_0), (intA a2.c1_1), (intA a2.c1_2), (intA a2.c1_3), (intA a2.c2_0), (intA a2.c2_1), (intA a2.c2_2), (intA a2.c2_3), (intA a2.c3_0), (intA a2.c3_1), (intA a2.c3_2), (intA a2.c3_3)]), (lstA TRunwayReady.E a3)] (.tup (ownV TRunwayMove.E k t.1 :: ([Value.int .i64 t.2] : List Value).map AV.sc)) [(k, ownB TRunwayMove.E 52 t.1)] :=
  made_tupC (by first | rfl | simp [cleans, clean, encs_clean, En.cln]) (F21_own (lstA TRunwayMove.E a0) (lstA TRunwaySpan.E a1) a2.c0_0 a2.c0_1 a2.c0_2 a2.c0_3 a2.c1_0 a2.c1_1 a2.c1_2 a2.c1_3 a2.c2_0 a2.c2_1 a2.c2_2 a2.c2_3 a2.c3_0 a2.c3_1 a2.c3_2 a2.c3_3 (lstA TRunwayReady.E a3) _ (g21_okM n a0 a1 a2 a3 (MadeT TRunwayMove.E 52 t.1 [Value.int .i64 t.2]) (fun r e u m h => by rw [e]; exact h) h))
theorem mg21S {n k : Nat} {look : Nat → Option ABlk} {args : List AV} {a0 : List TRunwayMove} {a1 : List TRunwaySpan} {a2 : TWakeTable} {a3 : List TRunwayReady} {t : ρ21} (h : g21 n a0 a1 a2 a3 = some t) (hs : SnL look 6 args [(lstA TRunwayMove.E a0), (lstA TRunwaySpan.E a1), (AV.agg [(intA a2.c0_0), (intA a2.c0_1), (intA a2.c0_2), (intA a2.c0_3), (intA a2.c1_0), (intA a2.c1_1), (intA a2.c1_2), (intA a2.c1_3), (intA a2.c2_0), (intA a2.c2_1), (intA a2.c2_2), (intA a2.c2_3), (intA a2.c3_0), (intA a2.c3_1), (intA a2.c3_2), (intA a2.c3_3)]), (lstA TRunwayReady.E a3)]) : PureD Try.prog KK.gl look k 21 args (.tup (ownV TRunwayMove.E k t.1 :: ([Value.int .i64 t.2] : List Value).map AV.sc)) [(k, ownB TRunwayMove.E 52 t.1)] :=
  made_tupS (fun _ => rfl) hs (F21_own (lstA TRunwayMove.E a0) (lstA TRunwaySpan.E a1) a2.c0_0 a2.c0_1 a2.c0_2 a2.c0_3 a2.c1_0 a2.c1_1 a2.c1_2 a2.c1_3 a2.c2_0 a2.c2_1 a2.c2_2 a2.c2_3 a2.c3_0 a2.c3_1 a2.c3_2 a2.c3_3 (lstA TRunwayReady.E a3) _ (g21_okM n a0 a1 a2 a3 (MadeT TRunwayMove.E 52 t.1 [Value.int .i64 t.2]) (fun r e u m h => by rw [e]; exact h) h))
/- skyway/runway.Change -/
theorem g18_ok (n : Nat) (a0 : List TRunwayMove) (a1 : List TRunwaySpan) (a2 : Int) {t : ρ18} (R : AV → Mem → Prop) (hR : ∀ r : ρ18, t = r → ∀ u m, Ans ((AV.tup [(lstA TRunwaySpan.E r.1), (intA r.2)])) u m → R u m) : g18 n a0 a1 a2 = some t → F18 (lstA TRunwayMove.E a0) (lstA TRunwaySpan.E a1) a2 R := by
  unfold g18 F18
  refine bind_b fun x91 h91 => ?_
  refine imp (callQ_says (sg40 h91)) ?_
  refine imp ex_i64_b ?_
  refine cond_b (fun _ => ?_) (fun _ => ?_)
  · exact fun hg => retN rfl (hR _ (Option.some.inj hg).symm) (fzL_cons (fz_nils (E := TRunwaySpan.E) _) (fzL_cons (fz_sc _ _) fzL_nil))
  · refine bind_b fun x92 h92 => ?_
    refine imp (callQ_says (sg41 h92)) ?_
    refine imp ex_i64_b ?_
    refine cond_b (fun _ => ?_) (fun _ => ?_)
    · exact fun hg => retN rfl (hR _ (Option.some.inj hg).symm) (fzL_cons (fz_nils (E := TRunwaySpan.E) _) (fzL_cons (fz_sc _ _) fzL_nil))
    · refine imp (opP_of (show _ = some ((intA (a1.length : Int)), []) from rfl)) ?_
      refine imp ex_i64_b ?_
      refine bind_b fun x93 h93 => ?_
      refine imp (opP_of (show _ = some ((AV.ept [(intA x93.From), (intA x93.End)] 0), []) from (idx_lst (E := TRunwaySpan.E) rfl h93))) ?_
      refine imp (opP_of (show _ = some ((AV.agg [(intA x93.From), (intA x93.End)]), []) from rfl)) ?_
      refine imp exA2_b ?_
      refine imp ex_i64_b ?_
      refine imp ex_i64_b ?_
      refine imp (opP_of (show _ = some ((intA (a1.length : Int)), []) from rfl)) ?_
      refine imp ex_i64_b ?_
      refine cond_b (fun _ => ?_) (fun _ => ?_)
      · exact fun hg => retN rfl (hR _ (Option.some.inj hg).symm) (fzL_cons (fz_nils (E := TRunwaySpan.E) _) (fzL_cons (fz_sc _ _) fzL_nil))
      · refine bind_b fun x94 h94 => ?_
        refine imp (callQ_says (sg42 h94)) ?_
        refine imp exB_b ?_
        refine cond_b (fun _ => ?_) (fun _ => ?_)
        · exact fun hg => retN rfl (hR _ (Option.some.inj hg).symm) (fzL_cons (fz_nils (E := TRunwaySpan.E) _) (fzL_cons (fz_sc _ _) fzL_nil))
        · refine cond_b (fun _ => ?_) (fun _ => ?_)
          · exact fun hg => retN rfl (hR _ (Option.some.inj hg).symm) (fzL_cons (fz_nils (E := TRunwaySpan.E) _) (fzL_cons (fz_sc _ _) fzL_nil))
          · refine imp (opP_of (show _ = some ((intA (a0.length : Int)), []) from rfl)) ?_
            refine imp ex_i64_b ?_
            refine cond_b (fun _ => ?_) (fun _ => ?_)
            · refine imp (opP_of (show _ = some ((intA (a0.length : Int)), []) from rfl)) ?_
              refine imp ex_i64_b ?_
              refine bind_b fun x95 h95 => ?_
              refine imp (opP_of (show _ = some ((AV.ept [(intA x95.Time), (intA x95.Wake), (boolA x95.Departs), (intA x95.End)] 0), []) from (idx_lst (E := TRunwayMove.E) rfl h95))) ?_
              refine imp (opP_of (show _ = some ((AV.ept [(intA x95.Time), (intA x95.Wake), (boolA x95.Departs), (intA x95.End)] 0), []) from rfl)) ?_
              refine imp (opP_of (show _ = some ((intA x95.Time), []) from rfl)) ?_
              refine imp ex_i64_b ?_
              refine cond_b (fun _ => ?_) (fun _ => ?_)
              · exact fun hg => retN rfl (hR _ (Option.some.inj hg).symm) (fzL_cons (fz_nils (E := TRunwaySpan.E) _) (fzL_cons (fz_sc _ _) fzL_nil))
              · refine bind_b fun x96 h96 => ?_
                refine imp (callF_D [] (show PureD _ _ _ _ _ _ (ownV TRunwaySpan.E 240 a1) [(240, ownB TRunwaySpan.E 45 a1)] from cloneC43 h96)) ?_
                refine imp (opM_of (show _ = some ((intA x93.End), []) from (ldS_ptr (b := ⟨[(intA x93.From), (intA x93.End)], 45⟩) (by first | rfl | (rw [look'_mem (by first | rfl | simp [topId_blk] | simp [topId])]; first | rfl | (simp (disch := first | decide | assumption) only [mpushs_nil, mpushs_cons, mget_hd, mget_tl, mget_appW_o, mget_appW_n, mget_appW_e]))) rfl))) ?_
                refine imp ex_i64_b ?_
                refine imp (opM_of (show _ = some ((AV.agg [(intA a2), (intA (IntKind.wrap .i64 ((1) - x93.End)))]), []) from rfl)) ?_
                refine imp (opM_of (show _ = some ((blkV TRunwaySpan.E 246 ([(⟨a2, (IntKind.wrap .i64 ((1) - x93.End))⟩ : TRunwaySpan)] : List TRunwaySpan)), [(246, some ⟨encs TRunwaySpan.E ([(⟨a2, (IntKind.wrap .i64 ((1) - x93.End))⟩ : TRunwaySpan)] : List TRunwaySpan), 45⟩)]) from rfl)) ?_
                refine bind_b fun x98 h98 => ?_
                refine imp (opM_of (show _ = some ((ownV TRunwaySpan.E 247 (a1 ++ ([(⟨a2, (IntKind.wrap .i64 ((1) - x93.End))⟩ : TRunwaySpan)] : List TRunwaySpan))), (appW TRunwaySpan.E 247 240 45 a1 ([(⟨a2, (IntKind.wrap .i64 ((1) - x93.End))⟩ : TRunwaySpan)] : List TRunwaySpan))) from (app_own (E := TRunwaySpan.E) (l' := a1) (xs := ([(⟨a2, (IntKind.wrap .i64 ((1) - x93.End))⟩ : TRunwaySpan)] : List TRunwaySpan)) rfl rfl (cellsOf_blk (E := TRunwaySpan.E) (ty := 45) rfl rfl (by first | rfl | (rw [look'_mem (by first | rfl | simp [topId_blk] | simp [topId])]; first | rfl | (simp (disch := first | decide | assumption) only [mpushs_nil, mpushs_cons, mget_hd, mget_tl, mget_appW_o, mget_appW_n, mget_appW_e])))) (by first | assumption | simp) rfl (fun hne => look'_own hne rfl (by first | rfl | (simp (disch := first | decide | assumption) only [mpushs_nil, mpushs_cons, mget_hd, mget_tl, mget_appW_o, mget_appW_n, mget_appW_e]))) h98))) ?_
                refine imp (chk_of (by rcases (a1) with _ | ⟨_, _⟩ <;> kernel_rfl)) ?_
                exact fun hg => retN rfl (hR _ (Option.some.inj hg).symm) (fzL_cons (fz_own (E := TRunwaySpan.E) (ty := 45) (l' := (a1 ++ ([(⟨a2, (IntKind.wrap .i64 ((1) - x93.End))⟩ : TRunwaySpan)] : List TRunwaySpan))) _ rfl (by first | rfl | (simp (disch := first | decide | assumption) only [mpushs_nil, mpushs_cons, mget_hd, mget_tl, mget_appW_o, mget_appW_n, mget_appW_e]))) (fzL_cons (fz_sc _ _) fzL_nil))
            · refine bind_b fun x99 h99 => ?_
              refine imp (callF_D [] (show PureD _ _ _ _ _ _ (ownV TRunwaySpan.E 230 a1) [(230, ownB TRunwaySpan.E 45 a1)] from cloneC43 h99)) ?_
              refine imp (opM_of (show _ = some ((intA x93.End), []) from (ldS_ptr (b := ⟨[(intA x93.From), (intA x93.End)], 45⟩) (by first | rfl | (rw [look'_mem (by first | rfl | simp [topId_blk] | simp [topId])]; first | rfl | (simp (disch := first | decide | assumption) only [mpushs_nil, mpushs_cons, mget_hd, mget_tl, mget_appW_o, mget_appW_n, mget_appW_e]))) rfl))) ?_
              refine imp ex_i64_b ?_
              refine imp (opM_of (show _ = some ((AV.agg [(intA a2), (intA (IntKind.wrap .i64 ((1) - x93.End)))]), []) from rfl)) ?_
              refine imp (opM_of (show _ = some ((blkV TRunwaySpan.E 236 ([(⟨a2, (IntKind.wrap .i64 ((1) - x93.End))⟩ : TRunwaySpan)] : List TRunwaySpan)), [(236, some ⟨encs TRunwaySpan.E ([(⟨a2, (IntKind.wrap .i64 ((1) - x93.End))⟩ : TRunwaySpan)] : List TRunwaySpan), 45⟩)]) from rfl)) ?_
              refine bind_b fun x101 h101 => ?_
              refine imp (opM_of (show _ = some ((ownV TRunwaySpan.E 237 (a1 ++ ([(⟨a2, (IntKind.wrap .i64 ((1) - x93.End))⟩ : TRunwaySpan)] : List TRunwaySpan))), (appW TRunwaySpan.E 237 230 45 a1 ([(⟨a2, (IntKind.wrap .i64 ((1) - x93.End))⟩ : TRunwaySpan)] : List TRunwaySpan))) from (app_own (E := TRunwaySpan.E) (l' := a1) (xs := ([(⟨a2, (IntKind.wrap .i64 ((1) - x93.End))⟩ : TRunwaySpan)] : List TRunwaySpan)) rfl rfl (cellsOf_blk (E := TRunwaySpan.E) (ty := 45) rfl rfl (by first | rfl | (rw [look'_mem (by first | rfl | simp [topId_blk] | simp [topId])]; first | rfl | (simp (disch := first | decide | assumption) only [mpushs_nil, mpushs_cons, mget_hd, mget_tl, mget_appW_o, mget_appW_n, mget_appW_e])))) (by first | assumption | simp) rfl (fun hne => look'_own hne rfl (by first | rfl | (simp (disch := first | decide | assumption) only [mpushs_nil, mpushs_cons, mget_hd, mget_tl, mget_appW_o, mget_appW_n, mget_appW_e]))) h101))) ?_
              refine imp (chk_of (by rcases (a1) with _ | ⟨_, _⟩ <;> kernel_rfl)) ?_
              exact fun hg => retN rfl (hR _ (Option.some.inj hg).symm) (fzL_cons (fz_own (E := TRunwaySpan.E) (ty := 45) (l' := (a1 ++ ([(⟨a2, (IntKind.wrap .i64 ((1) - x93.End))⟩ : TRunwaySpan)] : List TRunwaySpan))) _ rfl (by first | rfl | (simp (disch := first | decide | assumption) only [mpushs_nil, mpushs_cons, mget_hd, mget_tl, mget_appW_o, mget_appW_n, mget_appW_e]))) (fzL_cons (fz_sc _ _) fzL_nil))
theorem sg18 {n : Nat} {a0 : List TRunwayMove} {a1 : List TRunwaySpan} {a2 : Int} {t : ρ18} (h : g18 n a0 a1 a2 = some t) : Says Try.prog KK.gl 18 [(lstA TRunwayMove.E a0), (lstA TRunwaySpan.E a1), (intA a2)] ((AV.tup [(lstA TRunwaySpan.E t.1), (intA t.2)])) :=
  says_of_own (by first | rfl | simp [cleans, clean, encs_clean, En.cln]) (by first | rfl | simp [cleans, clean, encs_clean, En.cln]) (F18_own (lstA TRunwayMove.E a0) (lstA TRunwaySpan.E a1) a2 _ (g18_ok n a0 a1 a2 (Ans ((AV.tup [(lstA TRunwaySpan.E t.1), (intA t.2)]))) (fun r e u m h => by rw [e]; exact h) h))
end Go.Proofs.Ytfmodgffhbljoaa
