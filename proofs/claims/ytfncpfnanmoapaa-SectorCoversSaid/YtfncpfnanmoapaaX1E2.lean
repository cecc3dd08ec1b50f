/- Plain functional programs out of the program's functions, with proofs that the functions compute them; printed by wip/Ext.lean.txt. -/
import Derived.Test.YtfncpfnanmoapaaX1E1
set_option linter.unusedVariables false
set_option linter.unusedSimpArgs false
set_option maxRecDepth 100000
set_option maxHeartbeats 4000000
namespace Go.Proofs.Ytfncpfnanmoapaa
/- skyway/polygon.enters -/
theorem B50_0_1_0_ok (n : Nat) (a0 : List TP) (a1 : List TP) (c4 : Bool) (w11 : Int) (c17 : Int) (v18 : Int) (c100 : Int) (k100010_0 : Int) (k100010_1 : Int) (k100011_0 : Int) (k100011_1 : Int) (k300041_0 : Int) (k300041_1 : Int) (u101 : Int) (L90000 : List TP) {t : (Int × List TP) ⊕ ((Int × List TP) ⊕ ((Int) ⊕ ρ50))} (R : AV → Mem → Prop) (N0 : St → Prop) (N1 : St → Prop) (N2 : St → Prop) (hR : ∀ r : ρ50, t = (.inr (.inr (.inr r))) → ∀ u m, Ans ((boolA r)) u m → R u m) (hN0 : ∀ y : Int, t = (.inr (.inr (.inl y))) → ∀ s' : St, Weak KK 127 0 s' (h50_0 (lstA TP.E a0) (lstA TP.E a1) c4 c17 y []) → N0 s') (hN1 : ∀ y : Int × List TP, t = (.inr (.inl y)) → ∀ s' : St, Weak KK 127 0 s' (h50_0_1 (lstA TP.E a0) (lstA TP.E a1) c4 (ownV TP.E 90000 y.2) y.1 c17 v18 [(90000, ownB TP.E 24 y.2), (100010, some ⟨[(intA k100010_0), (intA k100010_1)], 24⟩), (100011, some ⟨[(intA k100011_0), (intA k100011_1)], 24⟩)]) → N1 s') (hN2 : ∀ y : Int × List TP, t = (.inl y) → ∀ s' : St, Weak KK 127 0 s' (h50_0_1_0 (lstA TP.E a0) (lstA TP.E a1) c4 (ownV TP.E 90000 y.2) w11 c17 v18 c100 y.1 [(90000, ownB TP.E 24 y.2), (100010, some ⟨[(intA k100010_0), (intA k100010_1)], 24⟩), (100011, some ⟨[(intA k100011_0), (intA k100011_1)], 24⟩), (300041, some ⟨[(intA k300041_0), (intA k300041_1)], 24⟩)]) → N2 s') : S50_0_1_0 n a0 a1 c4 w11 c17 v18 c100 k100010_0 k100010_1 k100011_0 k100011_1 k300041_0 k300041_1 u101 L90000 = some t → B50_0_1_0 (lstA TP.E a0) (lstA TP.E a1) c4 (ownV TP.E 90000 L90000) w11 c17 v18 c100 u101 [(90000, ownB TP.E 24 L90000), (100010, some ⟨[(intA k100010_0), (intA k100010_1)], 24⟩), (100011, some ⟨[(intA k100011_0), (intA k100011_1)], 24⟩), (300041, some ⟨[(intA k300041_0), (intA k300041_1)], 24⟩)] R N0 N1 N2 := by
  unfold S50_0_1_0 B50_0_1_0
  refine cond_b (fun _ => ?_) (fun _ => ?_)
  · refine bind_b fun x102 h102 => ?_
    refine imp (opM_of (show _ = some ((AV.ept [(intA x102.X), (intA x102.Y)] 0), []) from (idx_lst (E := TP.E) rfl h102))) ?_
    refine imp (opM_of (show _ = some ((AV.agg [(intA x102.X), (intA x102.Y)]), []) from rfl)) ?_
    refine imp exA2_b ?_
    refine imp ex_i64_b ?_
    refine imp ex_i64_b ?_
    refine bind_b fun x103 h103 => ?_
    refine imp (callF_says (sg39 h103)) ?_
    refine imp exA2_b ?_
    refine imp ex_i64_b ?_
    refine imp ex_i64_b ?_
    refine imp (storeW_cells (sz := 2) (by kernel_rfl) (by kernel_rfl) rfl rfl (cs := [(intA (0)), (intA (0))]) (cs' := [(intA x102.X), (intA x102.Y)]) (ty := 24) (by first | rfl | (rw [look'_mem (by first | rfl | simp [topId_blk] | simp [topId])]; first | rfl | (simp (disch := first | decide | assumption) only [mpushs_nil, mpushs_cons, mget_hd, mget_tl, mget_appW_o, mget_appW_n, mget_appW_e]))) rfl rfl) ?_
    refine imp (storeW_cells (sz := 2) (by kernel_rfl) (by kernel_rfl) rfl rfl (cs := [(intA (0)), (intA (0))]) (cs' := [(intA x103.X), (intA x103.Y)]) (ty := 24) (by first | rfl | (rw [look'_mem (by first | rfl | simp [topId_blk] | simp [topId])]; first | rfl | (simp (disch := first | decide | assumption) only [mpushs_nil, mpushs_cons, mget_hd, mget_tl, mget_appW_o, mget_appW_n, mget_appW_e]))) rfl rfl) ?_
    refine imp (chk_of (by kernel_rfl)) ?_
    refine imp (opP_of (show _ = some ((AV.agg [(intA x102.X), (intA x102.Y)]), []) from (ldA_ptr (b := ⟨[(intA x102.X), (intA x102.Y)], 24⟩) (by first | rfl | (simp (disch := first | decide | assumption) only [mpushs_nil, mpushs_cons, mget_hd, mget_tl, mget_appW_o, mget_appW_n, mget_appW_e])) rfl))) ?_
    refine imp exA2_b ?_
    refine imp ex_i64_b ?_
    refine imp ex_i64_b ?_
    refine imp (opP_of (show _ = some ((AV.agg [(intA x103.X), (intA x103.Y)]), []) from (ldA_ptr (b := ⟨[(intA x103.X), (intA x103.Y)], 24⟩) (by first | rfl | (simp (disch := first | decide | assumption) only [mpushs_nil, mpushs_cons, mget_hd, mget_tl, mget_appW_o, mget_appW_n, mget_appW_e])) rfl))) ?_
    refine imp exA2_b ?_
    refine imp ex_i64_b ?_
    refine imp ex_i64_b ?_
    refine imp (opP_of (show _ = some ((AV.agg [(intA k300041_0), (intA k300041_1)]), []) from (ldA_ptr (b := ⟨[(intA k300041_0), (intA k300041_1)], 24⟩) (by first | rfl | (simp (disch := first | decide | assumption) only [mpushs_nil, mpushs_cons, mget_hd, mget_tl, mget_appW_o, mget_appW_n, mget_appW_e])) rfl))) ?_
    refine imp exA2_b ?_
    refine imp ex_i64_b ?_
    refine imp ex_i64_b ?_
    refine bind_b fun x104 h104 => ?_
    refine imp (callQ_says (sg52 h104)) ?_
    refine imp exB_b ?_
    refine cond_b (fun _ => ?_) (fun _ => ?_)
    · refine imp (opP_of (show _ = some ((AV.agg [(intA k100011_0), (intA k100011_1)]), []) from (ldA_ptr (b := ⟨[(intA k100011_0), (intA k100011_1)], 24⟩) (by first | rfl | (simp (disch := first | decide | assumption) only [mpushs_nil, mpushs_cons, mget_hd, mget_tl, mget_appW_o, mget_appW_n, mget_appW_e])) rfl))) ?_
      refine imp exA2_b ?_
      refine imp ex_i64_b ?_
      refine imp ex_i64_b ?_
      refine imp (opP_of (show _ = some ((AV.agg [(intA k100010_0), (intA k100010_1)]), []) from (ldA_ptr (b := ⟨[(intA k100010_0), (intA k100010_1)], 24⟩) (by first | rfl | (simp (disch := first | decide | assumption) only [mpushs_nil, mpushs_cons, mget_hd, mget_tl, mget_appW_o, mget_appW_n, mget_appW_e])) rfl))) ?_
      refine imp exA2_b ?_
      refine imp ex_i64_b ?_
      refine imp ex_i64_b ?_
      refine bind_b fun x105 h105 => ?_
      refine imp (callQ_says (sg51 h105)) ?_
      refine imp exA2_b ?_
      refine imp ex_i64_b ?_
      refine imp ex_i64_b ?_
      refine imp (opP_of (show _ = some ((AV.agg [(intA x103.X), (intA x103.Y)]), []) from (ldA_ptr (b := ⟨[(intA x103.X), (intA x103.Y)], 24⟩) (by first | rfl | (simp (disch := first | decide | assumption) only [mpushs_nil, mpushs_cons, mget_hd, mget_tl, mget_appW_o, mget_appW_n, mget_appW_e])) rfl))) ?_
      refine imp exA2_b ?_
      refine imp ex_i64_b ?_
      refine imp ex_i64_b ?_
      refine imp (opP_of (show _ = some ((AV.agg [(intA x102.X), (intA x102.Y)]), []) from (ldA_ptr (b := ⟨[(intA x102.X), (intA x102.Y)], 24⟩) (by first | rfl | (simp (disch := first | decide | assumption) only [mpushs_nil, mpushs_cons, mget_hd, mget_tl, mget_appW_o, mget_appW_n, mget_appW_e])) rfl))) ?_
      refine imp exA2_b ?_
      refine imp ex_i64_b ?_
      refine imp ex_i64_b ?_
      refine bind_b fun x106 h106 => ?_
      refine imp (callQ_says (sg51 h106)) ?_
      refine imp exA2_b ?_
      refine imp ex_i64_b ?_
      refine imp ex_i64_b ?_
      refine bind_b fun x107 h107 => ?_
      refine imp (callQ_says (sg61 h107)) ?_
      refine imp ex_i64_b ?_
      refine cond_b (fun _ => ?_) (fun _ => ?_)
      · exact fun hg => ret1 (hR _ (Option.some.inj hg).symm) (fz_sc _ _)
      · exact fun hg => hN2 _ (Option.some.inj hg).symm _ (weak_mem [(90000, 90000), (100010, 100010), (100011, 100011), (300041, 300041)] rfl rfl rfl (okW_cons (ent_lst (E := TP.E) _ false) (okW_cons (ent_lst (E := TP.E) _ false) (okW_cons (.inl (leV_refl _)) (okW_cons (.inl (leV_refl _)) (okW_cons (.inl (leV_refl _)) (okW_cons (ent_own (E := TP.E) (id := 90000) (l' := L90000) rfl rfl) (okW_cons (.inl (leV_refl _)) (okW_cons (.inl (leV_refl _)) (okW_cons (.inl (leV_refl _)) (okW_cons (.inl (leV_refl _)) (okW_cons (.inl (leV_refl _)) (okW_cons (.inl (leV_refl _)) okW_nil)))))))))))) (okB_cons (okB_own (E := TP.E) (ty := 24) (l' := L90000) rfl (show mget _ 90000 = _ from (by first | rfl | (simp (disch := first | decide | assumption) only [mpushs_nil, mpushs_cons, mget_hd, mget_tl, mget_appW_o, mget_appW_n, mget_appW_e])))) (okB_cons (okB_cells (cs := [(intA k100010_0), (intA k100010_1)]) (ty := 24) rfl (show mget _ 100010 = _ from (by first | rfl | (simp (disch := first | decide | assumption) only [mpushs_nil, mpushs_cons, mget_hd, mget_tl, mget_appW_o, mget_appW_n, mget_appW_e])))) (okB_cons (okB_cells (cs := [(intA k100011_0), (intA k100011_1)]) (ty := 24) rfl (show mget _ 100011 = _ from (by first | rfl | (simp (disch := first | decide | assumption) only [mpushs_nil, mpushs_cons, mget_hd, mget_tl, mget_appW_o, mget_appW_n, mget_appW_e])))) (okB_cons (okB_cells (cs := [(intA k300041_0), (intA k300041_1)]) (ty := 24) rfl (show mget _ 300041 = _ from (by first | rfl | (simp (disch := first | decide | assumption) only [mpushs_nil, mpushs_cons, mget_hd, mget_tl, mget_appW_o, mget_appW_n, mget_appW_e])))) okB_nil')))))
    · exact fun hg => hN2 _ (Option.some.inj hg).symm _ (weak_mem [(90000, 90000), (100010, 100010), (100011, 100011), (300041, 300041)] rfl rfl rfl (okW_cons (ent_lst (E := TP.E) _ false) (okW_cons (ent_lst (E := TP.E) _ false) (okW_cons (.inl (leV_refl _)) (okW_cons (.inl (leV_refl _)) (okW_cons (.inl (leV_refl _)) (okW_cons (ent_own (E := TP.E) (id := 90000) (l' := L90000) rfl rfl) (okW_cons (.inl (leV_refl _)) (okW_cons (.inl (leV_refl _)) (okW_cons (.inl (leV_refl _)) (okW_cons (.inl (leV_refl _)) (okW_cons (.inl (leV_refl _)) (okW_cons (.inl (leV_refl _)) okW_nil)))))))))))) (okB_cons (okB_own (E := TP.E) (ty := 24) (l' := L90000) rfl (show mget _ 90000 = _ from (by first | rfl | (simp (disch := first | decide | assumption) only [mpushs_nil, mpushs_cons, mget_hd, mget_tl, mget_appW_o, mget_appW_n, mget_appW_e])))) (okB_cons (okB_cells (cs := [(intA k100010_0), (intA k100010_1)]) (ty := 24) rfl (show mget _ 100010 = _ from (by first | rfl | (simp (disch := first | decide | assumption) only [mpushs_nil, mpushs_cons, mget_hd, mget_tl, mget_appW_o, mget_appW_n, mget_appW_e])))) (okB_cons (okB_cells (cs := [(intA k100011_0), (intA k100011_1)]) (ty := 24) rfl (show mget _ 100011 = _ from (by first | rfl | (simp (disch := first | decide | assumption) only [mpushs_nil, mpushs_cons, mget_hd, mget_tl, mget_appW_o, mget_appW_n, mget_appW_e])))) (okB_cons (okB_cells (cs := [(intA k300041_0), (intA k300041_1)]) (ty := 24) rfl (show mget _ 300041 = _ from (by first | rfl | (simp (disch := first | decide | assumption) only [mpushs_nil, mpushs_cons, mget_hd, mget_tl, mget_appW_o, mget_appW_n, mget_appW_e])))) okB_nil')))))
  · exact fun hg => hN1 _ (Option.some.inj hg).symm _ (weak_mem [(90000, 90000), (100010, 100010), (100011, 100011)] rfl rfl rfl (okW_cons (ent_lst (E := TP.E) _ false) (okW_cons (ent_lst (E := TP.E) _ false) (okW_cons (.inl (leV_refl _)) (okW_cons (.inl (leV_refl _)) (okW_cons (.inl (leV_refl _)) (okW_cons (ent_own (E := TP.E) (id := 90000) (l' := L90000) rfl rfl) (okW_cons (.inl (leV_refl _)) (okW_cons (.inl (leV_refl _)) (okW_cons (.inl (leV_refl _)) okW_nil))))))))) (okB_cons (okB_own (E := TP.E) (ty := 24) (l' := L90000) rfl (show mget _ 90000 = _ from (by first | rfl | (simp (disch := first | decide | assumption) only [mpushs_nil, mpushs_cons, mget_hd, mget_tl, mget_appW_o, mget_appW_n, mget_appW_e])))) (okB_cons (okB_cells (cs := [(intA k100010_0), (intA k100010_1)]) (ty := 24) rfl (show mget _ 100010 = _ from (by first | rfl | (simp (disch := first | decide | assumption) only [mpushs_nil, mpushs_cons, mget_hd, mget_tl, mget_appW_o, mget_appW_n, mget_appW_e])))) (okB_cons (okB_cells (cs := [(intA k100011_0), (intA k100011_1)]) (ty := 24) rfl (show mget _ 100011 = _ from (by first | rfl | (simp (disch := first | decide | assumption) only [mpushs_nil, mpushs_cons, mget_hd, mget_tl, mget_appW_o, mget_appW_n, mget_appW_e])))) okB_nil'))))
theorem L50_0_1_0_ok (n : Nat) (a0 : List TP) (a1 : List TP) (c4 : Bool) (w11 : Int) (c17 : Int) (v18 : Int) (c100 : Int) (k100010_0 : Int) (k100010_1 : Int) (k100011_0 : Int) (k100011_1 : Int) (k300041_0 : Int) (k300041_1 : Int) {t : ((Int × List TP) ⊕ ((Int) ⊕ ρ50))} (R : AV → Mem → Prop) (N0 : St → Prop) (N1 : St → Prop) (hR : ∀ r : ρ50, t = (.inr (.inr r)) → ∀ u m, Ans ((boolA r)) u m → R u m) (hN0 : ∀ y : Int, t = (.inr (.inl y)) → ∀ s' : St, Weak KK 127 0 s' (h50_0 (lstA TP.E a0) (lstA TP.E a1) c4 c17 y []) → N0 s') (hN1 : ∀ y : Int × List TP, t = (.inl y) → ∀ s' : St, Weak KK 127 0 s' (h50_0_1 (lstA TP.E a0) (lstA TP.E a1) c4 (ownV TP.E 90000 y.2) y.1 c17 v18 [(90000, ownB TP.E 24 y.2), (100010, some ⟨[(intA k100010_0), (intA k100010_1)], 24⟩), (100011, some ⟨[(intA k100011_0), (intA k100011_1)], 24⟩)]) → N1 s') (k : Nat) (x : Int × List TP) (hx : iterO (fun y : Int × List TP => S50_0_1_0 n a0 a1 c4 w11 c17 v18 c100 k100010_0 k100010_1 k100011_0 k100011_1 k300041_0 k300041_1 y.1 y.2) k x = some t) {s : St} (hw : Weak KK 127 0 s (h50_0_1_0 (lstA TP.E a0) (lstA TP.E a1) c4 (ownV TP.E 90000 x.2) w11 c17 v18 c100 x.1 [(90000, ownB TP.E 24 x.2), (100010, some ⟨[(intA k100010_0), (intA k100010_1)], 24⟩), (100011, some ⟨[(intA k100011_0), (intA k100011_1)], 24⟩), (300041, some ⟨[(intA k300041_0), (intA k300041_1)], 24⟩)])) : Tri Try.prog KK 127 0 (.loop c50_0_1_0) s (q50_0_1_0 R N0 N1) :=
  L50_0_1_0 R N0 N1 (σ := Nat × (Int × List TP)) (fun z => iterO (fun y : Int × List TP => S50_0_1_0 n a0 a1 c4 w11 c17 v18 c100 k100010_0 k100010_1 k100011_0 k100011_1 k300041_0 k300041_1 y.1 y.2) z.1 z.2 = some t) (fun z => (lstA TP.E a0)) (fun z => (lstA TP.E a1)) (fun z => c4) (fun z => (ownV TP.E 90000 z.2.2)) (fun z => w11) (fun z => c17) (fun z => v18) (fun z => c100) (fun z => z.2.1) (fun z => [(90000, ownB TP.E 24 z.2.2), (100010, some ⟨[(intA k100010_0), (intA k100010_1)], 24⟩), (100011, some ⟨[(intA k100011_0), (intA k100011_1)], 24⟩), (300041, some ⟨[(intA k300041_0), (intA k300041_1)], 24⟩)]) (fun z => z.1) (by
    rintro ⟨k, y⟩ h
    cases k with
    | zero => exact (iterO_zero h).elim
    | succ k =>
      obtain ⟨u, h1, h2, h3⟩ := iterO_elim h
      exact B50_0_1_0_ok n a0 a1 c4 w11 c17 v18 c100 k100010_0 k100010_1 k100011_0 k100011_1 k300041_0 k300041_1 y.1 y.2 R N0 N1 _ (fun r e => hR r (h3 _ e).symm) (fun y' e => hN0 y' (h3 _ e).symm) (fun y' e => hN1 y' (h3 _ e).symm) (fun y' e s' hw => ⟨(k, y'), h2 _ e, Nat.lt_succ_self k, hw⟩) h1) (k, x) hx hw
theorem B50_0_1_ok (n : Nat) (a0 : List TP) (a1 : List TP) (c4 : Bool) (c17 : Int) (v18 : Int) (k100010_0 : Int) (k100010_1 : Int) (k100011_0 : Int) (k100011_1 : Int) (w11 : Int) (L90000 : List TP) {t : (Int × List TP) ⊕ ((Int) ⊕ ρ50)} (R : AV → Mem → Prop) (N0 : St → Prop) (N1 : St → Prop) (hR : ∀ r : ρ50, t = (.inr (.inr r)) → ∀ u m, Ans ((boolA r)) u m → R u m) (hN0 : ∀ y : Int, t = (.inr (.inl y)) → ∀ s' : St, Weak KK 127 0 s' (h50_0 (lstA TP.E a0) (lstA TP.E a1) c4 c17 y []) → N0 s') (hN1 : ∀ y : Int × List TP, t = (.inl y) → ∀ s' : St, Weak KK 127 0 s' (h50_0_1 (lstA TP.E a0) (lstA TP.E a1) c4 (ownV TP.E 90000 y.2) y.1 c17 v18 [(90000, ownB TP.E 24 y.2), (100010, some ⟨[(intA k100010_0), (intA k100010_1)], 24⟩), (100011, some ⟨[(intA k100011_0), (intA k100011_1)], 24⟩)]) → N1 s') : S50_0_1 n a0 a1 c4 c17 v18 k100010_0 k100010_1 k100011_0 k100011_1 w11 L90000 = some t → B50_0_1 (lstA TP.E a0) (lstA TP.E a1) c4 (ownV TP.E 90000 L90000) w11 c17 v18 [(90000, ownB TP.E 24 L90000), (100010, some ⟨[(intA k100010_0), (intA k100010_1)], 24⟩), (100011, some ⟨[(intA k100011_0), (intA k100011_1)], 24⟩)] R N0 N1 := by
  unfold S50_0_1 B50_0_1
  refine imp (opP_of (show _ = some ((intA (L90000.length : Int)), []) from len_own)) ?_
  refine imp ex_i64_b ?_
  refine cond_b (fun _ => ?_) (fun _ => ?_)
  · refine bind_b fun x95 h95 => ?_
    refine imp (opP_of (show _ = some ((AV.ptr 90000 (((w11 : Int).toNat) * 2 + 0)), []) from (idx_own (E := TP.E) rfl h95))) ?_
    refine imp (opP_of (show _ = some ((AV.agg [(intA x95.X), (intA x95.Y)]), []) from (ldA_blk (E := TP.E) (l := L90000) (ty := 24) rfl (own_some (ty := 24) (by first | rfl | (simp (disch := first | decide | assumption) only [mpushs_nil, mpushs_cons, mget_hd, mget_tl, mget_appW_o, mget_appW_n, mget_appW_e])) (getI_some h95).2) (getI_some h95).2 rfl))) ?_
    refine imp exA2_b ?_
    refine imp ex_i64_b ?_
    refine imp ex_i64_b ?_
    refine bind_b fun x96 h96 => ?_
    refine imp (opP_of (show _ = some ((AV.ptr 90000 ((((IntKind.wrap .i64 (w11 - (1))) : Int).toNat) * 2 + 0)), []) from (idx_own (E := TP.E) rfl h96))) ?_
    refine imp (opP_of (show _ = some ((AV.agg [(intA x96.X), (intA x96.Y)]), []) from (ldA_blk (E := TP.E) (l := L90000) (ty := 24) rfl (own_some (ty := 24) (by first | rfl | (simp (disch := first | decide | assumption) only [mpushs_nil, mpushs_cons, mget_hd, mget_tl, mget_appW_o, mget_appW_n, mget_appW_e])) (getI_some h96).2) (getI_some h96).2 rfl))) ?_
    refine imp exA2_b ?_
    refine imp ex_i64_b ?_
    refine imp ex_i64_b ?_
    refine imp (opP_of (show _ = some ((boolA (decide (x95 = x96))), []) from (TP.eql24 (x95) (x96)))) ?_
    refine imp exB_b ?_
    refine cond_b (fun _ => ?_) (fun _ => ?_)
    · exact fun hg => hN1 _ (Option.some.inj hg).symm _ (weak_mem [(90000, 90000), (100010, 100010), (100011, 100011)] rfl rfl rfl (okW_cons (ent_lst (E := TP.E) _ false) (okW_cons (ent_lst (E := TP.E) _ false) (okW_cons (.inl (leV_refl _)) (okW_cons (.inl (leV_refl _)) (okW_cons (.inl (leV_refl _)) (okW_cons (ent_own (E := TP.E) (id := 90000) (l' := L90000) rfl rfl) (okW_cons (.inl (leV_refl _)) (okW_cons (.inl (leV_refl _)) (okW_cons (.inl (leV_refl _)) okW_nil))))))))) (okB_cons (okB_own (E := TP.E) (ty := 24) (l' := L90000) rfl (show mget _ 90000 = _ from (by first | rfl | (simp (disch := first | decide | assumption) only [mpushs_nil, mpushs_cons, mget_hd, mget_tl, mget_appW_o, mget_appW_n, mget_appW_e])))) (okB_cons (okB_cells (cs := [(intA k100010_0), (intA k100010_1)]) (ty := 24) rfl (show mget _ 100010 = _ from (by first | rfl | (simp (disch := first | decide | assumption) only [mpushs_nil, mpushs_cons, mget_hd, mget_tl, mget_appW_o, mget_appW_n, mget_appW_e])))) (okB_cons (okB_cells (cs := [(intA k100011_0), (intA k100011_1)]) (ty := 24) rfl (show mget _ 100011 = _ from (by first | rfl | (simp (disch := first | decide | assumption) only [mpushs_nil, mpushs_cons, mget_hd, mget_tl, mget_appW_o, mget_appW_n, mget_appW_e])))) okB_nil'))))
    · refine bind_b fun x97 h97 => ?_
      refine imp (opM_of (show _ = some ((AV.ptr 90000 (((w11 : Int).toNat) * 2 + 0)), []) from (idx_own (E := TP.E) rfl h97))) ?_
      refine imp (opM_of (show _ = some ((AV.ptr 90000 (((w11 : Int).toNat) * 2 + 0)), []) from rfl)) ?_
      refine imp (opM_of (show _ = some ((intA x97.X), []) from (ldS_blk (E := TP.E) (l := L90000) (ty := 24) (o := 0) (own_some (ty := 24) (by first | rfl | (rw [look'_mem (by first | rfl | simp [topId_blk] | simp [topId])]; first | rfl | (simp (disch := first | decide | assumption) only [mpushs_nil, mpushs_cons, mget_hd, mget_tl, mget_appW_o, mget_appW_n, mget_appW_e]))) (getI_some h97).2) (getI_some h97).2 rfl (by decide) rfl))) ?_
      refine imp ex_i64_b ?_
      refine bind_b fun x98 h98 => ?_
      refine imp (opM_of (show _ = some ((AV.ptr 90000 ((((IntKind.wrap .i64 (w11 - (1))) : Int).toNat) * 2 + 0)), []) from (idx_own (E := TP.E) rfl h98))) ?_
      refine imp (opM_of (show _ = some ((AV.ptr 90000 ((((IntKind.wrap .i64 (w11 - (1))) : Int).toNat) * 2 + 0)), []) from rfl)) ?_
      refine imp (opM_of (show _ = some ((intA x98.X), []) from (ldS_blk (E := TP.E) (l := L90000) (ty := 24) (o := 0) (own_some (ty := 24) (by first | rfl | (rw [look'_mem (by first | rfl | simp [topId_blk] | simp [topId])]; first | rfl | (simp (disch := first | decide | assumption) only [mpushs_nil, mpushs_cons, mget_hd, mget_tl, mget_appW_o, mget_appW_n, mget_appW_e]))) (getI_some h98).2) (getI_some h98).2 rfl (by decide) rfl))) ?_
      refine imp ex_i64_b ?_
      refine bind_b fun x99 h99 => ?_
      refine imp (opM_of (show _ = some ((AV.ptr 90000 (((w11 : Int).toNat) * 2 + 0)), []) from (idx_own (E := TP.E) rfl h99))) ?_
      refine imp (opM_of (show _ = some ((AV.ptr 90000 (((w11 : Int).toNat) * 2 + 1)), []) from rfl)) ?_
      refine imp (opM_of (show _ = some ((intA x99.Y), []) from (ldS_blk (E := TP.E) (l := L90000) (ty := 24) (o := 1) (own_some (ty := 24) (by first | rfl | (rw [look'_mem (by first | rfl | simp [topId_blk] | simp [topId])]; first | rfl | (simp (disch := first | decide | assumption) only [mpushs_nil, mpushs_cons, mget_hd, mget_tl, mget_appW_o, mget_appW_n, mget_appW_e]))) (getI_some h99).2) (getI_some h99).2 rfl (by decide) rfl))) ?_
      refine imp ex_i64_b ?_
      refine bind_b fun x100 h100 => ?_
      refine imp (opM_of (show _ = some ((AV.ptr 90000 ((((IntKind.wrap .i64 (w11 - (1))) : Int).toNat) * 2 + 0)), []) from (idx_own (E := TP.E) rfl h100))) ?_
      refine imp (opM_of (show _ = some ((AV.ptr 90000 ((((IntKind.wrap .i64 (w11 - (1))) : Int).toNat) * 2 + 1)), []) from rfl)) ?_
      refine imp (opM_of (show _ = some ((intA x100.Y), []) from (ldS_blk (E := TP.E) (l := L90000) (ty := 24) (o := 1) (own_some (ty := 24) (by first | rfl | (rw [look'_mem (by first | rfl | simp [topId_blk] | simp [topId])]; first | rfl | (simp (disch := first | decide | assumption) only [mpushs_nil, mpushs_cons, mget_hd, mget_tl, mget_appW_o, mget_appW_n, mget_appW_e]))) (getI_some h100).2) (getI_some h100).2 rfl (by decide) rfl))) ?_
      refine imp ex_i64_b ?_
      refine imp (opM_of (show _ = some ((AV.agg [(intA (IntKind.wrap .i64 (Int.tdiv (IntKind.wrap .i64 (x97.X + x98.X)) (2)))), (intA (IntKind.wrap .i64 (Int.tdiv (IntKind.wrap .i64 (x99.Y + x100.Y)) (2))))]), []) from rfl)) ?_
      refine imp (storeW_cells (sz := 2) (by kernel_rfl) (by kernel_rfl) rfl rfl (cs := [(intA (0)), (intA (0))]) (cs' := [(intA (IntKind.wrap .i64 (Int.tdiv (IntKind.wrap .i64 (x97.X + x98.X)) (2)))), (intA (IntKind.wrap .i64 (Int.tdiv (IntKind.wrap .i64 (x99.Y + x100.Y)) (2))))]) (ty := 24) (by first | rfl | (rw [look'_mem (by first | rfl | simp [topId_blk] | simp [topId])]; first | rfl | (simp (disch := first | decide | assumption) only [mpushs_nil, mpushs_cons, mget_hd, mget_tl, mget_appW_o, mget_appW_n, mget_appW_e]))) rfl rfl) ?_
      refine imp (chk_of (by kernel_rfl)) ?_
      refine imp (opP_of (show _ = some ((AV.agg [(intA (IntKind.wrap .i64 (Int.tdiv (IntKind.wrap .i64 (x97.X + x98.X)) (2)))), (intA (IntKind.wrap .i64 (Int.tdiv (IntKind.wrap .i64 (x99.Y + x100.Y)) (2))))]), []) from (ldA_ptr (b := ⟨[(intA (IntKind.wrap .i64 (Int.tdiv (IntKind.wrap .i64 (x97.X + x98.X)) (2)))), (intA (IntKind.wrap .i64 (Int.tdiv (IntKind.wrap .i64 (x99.Y + x100.Y)) (2))))], 24⟩) (by first | rfl | (simp (disch := first | decide | assumption) only [mpushs_nil, mpushs_cons, mget_hd, mget_tl, mget_appW_o, mget_appW_n, mget_appW_e])) rfl))) ?_
      refine imp exA2_b ?_
      refine imp ex_i64_b ?_
      refine imp ex_i64_b ?_
      refine bind_b fun x101 h101 => ?_
      refine imp (callQ_says (sg43 h101)) ?_
      refine imp ex_i64_b ?_
      refine cond_b (fun _ => ?_) (fun _ => ?_)
      · exact fun hg => ret1 (hR _ (Option.some.inj hg).symm) (fz_sc _ _)
      · refine cond_b (fun _ => ?_) (fun _ => ?_)
        · refine imp (opP_of (show _ = some ((intA (a1.length : Int)), []) from rfl)) ?_
          refine imp ex_i64_b ?_
          exact fun hg => L50_0_1_0_ok n a0 a1 c4 w11 c17 v18 (a1.length : Int) k100010_0 k100010_1 k100011_0 k100011_1 (IntKind.wrap .i64 (Int.tdiv (IntKind.wrap .i64 (x97.X + x98.X)) (2))) (IntKind.wrap .i64 (Int.tdiv (IntKind.wrap .i64 (x99.Y + x100.Y)) (2))) R N0 N1 hR hN0 hN1 n _ hg (weak_mem [(90000, 90000), (100010, 100010), (100011, 100011), (300041, 300041)] rfl rfl rfl (okW_cons (ent_lst (E := TP.E) _ false) (okW_cons (ent_lst (E := TP.E) _ false) (okW_cons (.inl (leV_refl _)) (okW_cons (.inl (leV_refl _)) (okW_cons (.inl (leV_refl _)) (okW_cons (ent_own (E := TP.E) (id := 90000) (l' := L90000) rfl rfl) (okW_cons (.inl (leV_refl _)) (okW_cons (.inl (leV_refl _)) (okW_cons (.inl (leV_refl _)) (okW_cons (.inl (leV_refl _)) (okW_cons (.inl (leV_refl _)) (okW_cons (.inl (leV_refl _)) okW_nil)))))))))))) (okB_cons (okB_own (E := TP.E) (ty := 24) (l' := L90000) rfl (show mget _ 90000 = _ from (by first | rfl | (simp (disch := first | decide | assumption) only [mpushs_nil, mpushs_cons, mget_hd, mget_tl, mget_appW_o, mget_appW_n, mget_appW_e])))) (okB_cons (okB_cells (cs := [(intA k100010_0), (intA k100010_1)]) (ty := 24) rfl (show mget _ 100010 = _ from (by first | rfl | (simp (disch := first | decide | assumption) only [mpushs_nil, mpushs_cons, mget_hd, mget_tl, mget_appW_o, mget_appW_n, mget_appW_e])))) (okB_cons (okB_cells (cs := [(intA k100011_0), (intA k100011_1)]) (ty := 24) rfl (show mget _ 100011 = _ from (by first | rfl | (simp (disch := first | decide | assumption) only [mpushs_nil, mpushs_cons, mget_hd, mget_tl, mget_appW_o, mget_appW_n, mget_appW_e])))) (okB_cons (okB_cells (cs := [(intA (IntKind.wrap .i64 (Int.tdiv (IntKind.wrap .i64 (x97.X + x98.X)) (2)))), (intA (IntKind.wrap .i64 (Int.tdiv (IntKind.wrap .i64 (x99.Y + x100.Y)) (2))))]) (ty := 24) rfl (show mget _ 300041 = _ from (by first | rfl | (simp (disch := first | decide | assumption) only [mpushs_nil, mpushs_cons, mget_hd, mget_tl, mget_appW_o, mget_appW_n, mget_appW_e])))) okB_nil')))))
        · exact fun hg => hN1 _ (Option.some.inj hg).symm _ (weak_mem [(90000, 90000), (100010, 100010), (100011, 100011)] rfl rfl rfl (okW_cons (ent_lst (E := TP.E) _ false) (okW_cons (ent_lst (E := TP.E) _ false) (okW_cons (.inl (leV_refl _)) (okW_cons (.inl (leV_refl _)) (okW_cons (.inl (leV_refl _)) (okW_cons (ent_own (E := TP.E) (id := 90000) (l' := L90000) rfl rfl) (okW_cons (.inl (leV_refl _)) (okW_cons (.inl (leV_refl _)) (okW_cons (.inl (leV_refl _)) okW_nil))))))))) (okB_cons (okB_own (E := TP.E) (ty := 24) (l' := L90000) rfl (show mget _ 90000 = _ from (by first | rfl | (simp (disch := first | decide | assumption) only [mpushs_nil, mpushs_cons, mget_hd, mget_tl, mget_appW_o, mget_appW_n, mget_appW_e])))) (okB_cons (okB_cells (cs := [(intA k100010_0), (intA k100010_1)]) (ty := 24) rfl (show mget _ 100010 = _ from (by first | rfl | (simp (disch := first | decide | assumption) only [mpushs_nil, mpushs_cons, mget_hd, mget_tl, mget_appW_o, mget_appW_n, mget_appW_e])))) (okB_cons (okB_cells (cs := [(intA k100011_0), (intA k100011_1)]) (ty := 24) rfl (show mget _ 100011 = _ from (by first | rfl | (simp (disch := first | decide | assumption) only [mpushs_nil, mpushs_cons, mget_hd, mget_tl, mget_appW_o, mget_appW_n, mget_appW_e])))) okB_nil'))))
  · exact fun hg => hN0 _ (Option.some.inj hg).symm _ (weak_mem [] rfl rfl rfl (okW_cons (ent_lst (E := TP.E) _ false) (okW_cons (ent_lst (E := TP.E) _ false) (okW_cons (.inl (leV_refl _)) (okW_cons (.inl (leV_refl _)) (okW_cons (.inl (leV_refl _)) okW_nil))))) okB_nil')
theorem L50_0_1_ok (n : Nat) (a0 : List TP) (a1 : List TP) (c4 : Bool) (c17 : Int) (v18 : Int) (k100010_0 : Int) (k100010_1 : Int) (k100011_0 : Int) (k100011_1 : Int) {t : ((Int) ⊕ ρ50)} (R : AV → Mem → Prop) (N0 : St → Prop) (hR : ∀ r : ρ50, t = (.inr r) → ∀ u m, Ans ((boolA r)) u m → R u m) (hN0 : ∀ y : Int, t = (.inl y) → ∀ s' : St, Weak KK 127 0 s' (h50_0 (lstA TP.E a0) (lstA TP.E a1) c4 c17 y []) → N0 s') (k : Nat) (x : Int × List TP) (hx : iterO (fun y : Int × List TP => S50_0_1 n a0 a1 c4 c17 v18 k100010_0 k100010_1 k100011_0 k100011_1 y.1 y.2) k x = some t) {s : St} (hw : Weak KK 127 0 s (h50_0_1 (lstA TP.E a0) (lstA TP.E a1) c4 (ownV TP.E 90000 x.2) x.1 c17 v18 [(90000, ownB TP.E 24 x.2), (100010, some ⟨[(intA k100010_0), (intA k100010_1)], 24⟩), (100011, some ⟨[(intA k100011_0), (intA k100011_1)], 24⟩)])) : Tri Try.prog KK 127 0 (.loop c50_0_1) s (q50_0_1 R N0) :=
  L50_0_1 R N0 (σ := Nat × (Int × List TP)) (fun z => iterO (fun y : Int × List TP => S50_0_1 n a0 a1 c4 c17 v18 k100010_0 k100010_1 k100011_0 k100011_1 y.1 y.2) z.1 z.2 = some t) (fun z => (lstA TP.E a0)) (fun z => (lstA TP.E a1)) (fun z => c4) (fun z => (ownV TP.E 90000 z.2.2)) (fun z => z.2.1) (fun z => c17) (fun z => v18) (fun z => [(90000, ownB TP.E 24 z.2.2), (100010, some ⟨[(intA k100010_0), (intA k100010_1)], 24⟩), (100011, some ⟨[(intA k100011_0), (intA k100011_1)], 24⟩)]) (fun z => z.1) (by
    rintro ⟨k, y⟩ h
    cases k with
    | zero => exact (iterO_zero h).elim
    | succ k =>
      obtain ⟨u, h1, h2, h3⟩ := iterO_elim h
      exact B50_0_1_ok n a0 a1 c4 c17 v18 k100010_0 k100010_1 k100011_0 k100011_1 y.1 y.2 R N0 _ (fun r e => hR r (h3 _ e).symm) (fun y' e => hN0 y' (h3 _ e).symm) (fun y' e s' hw => ⟨(k, y'), h2 _ e, Nat.lt_succ_self k, hw⟩) h1) (k, x) hx hw
theorem B50_0_0_ok (n : Nat) (a0 : List TP) (a1 : List TP) (c4 : Bool) (c17 : Int) (v18 : Int) (c32 : Int) (k100010_0 : Int) (k100010_1 : Int) (k100011_0 : Int) (k100011_1 : Int) (w33 : Int) (L90000 : List TP) {t : (Int × List TP) ⊕ ((Int) ⊕ ρ50)} (R : AV → Mem → Prop) (N0 : St → Prop) (N1 : St → Prop) (hR : ∀ r : ρ50, t = (.inr (.inr r)) → ∀ u m, Ans ((boolA r)) u m → R u m) (hN0 : ∀ y : Int, t = (.inr (.inl y)) → ∀ s' : St, Weak KK 127 0 s' (h50_0 (lstA TP.E a0) (lstA TP.E a1) c4 c17 y []) → N0 s') (hN1 : ∀ y : Int × List TP, t = (.inl y) → ∀ s' : St, Weak KK 127 0 s' (h50_0_0 (lstA TP.E a0) (lstA TP.E a1) c4 (ownV TP.E 90000 y.2) c17 v18 (lstA TP.E a1) c32 y.1 [(90000, ownB TP.E 24 y.2), (100010, some ⟨[(intA k100010_0), (intA k100010_1)], 24⟩), (100011, some ⟨[(intA k100011_0), (intA k100011_1)], 24⟩)]) → N1 s') : S50_0_0 n a0 a1 c4 c17 v18 c32 k100010_0 k100010_1 k100011_0 k100011_1 w33 L90000 = some t → B50_0_0 (lstA TP.E a0) (lstA TP.E a1) c4 (ownV TP.E 90000 L90000) c17 v18 (lstA TP.E a1) c32 w33 [(90000, ownB TP.E 24 L90000), (100010, some ⟨[(intA k100010_0), (intA k100010_1)], 24⟩), (100011, some ⟨[(intA k100011_0), (intA k100011_1)], 24⟩)] R N0 N1 := by
  unfold S50_0_0 B50_0_0
  refine cond_b (fun _ => ?_) (fun _ => ?_)
  · refine bind_b fun x86 h86 => ?_
    refine imp (opP_of (show _ = some ((AV.ept [(intA x86.X), (intA x86.Y)] 0), []) from (idx_lst (E := TP.E) rfl h86))) ?_
    refine imp (opP_of (show _ = some ((AV.agg [(intA x86.X), (intA x86.Y)]), []) from rfl)) ?_
    refine imp exA2_b ?_
    refine imp ex_i64_b ?_
    refine imp ex_i64_b ?_
    refine imp (opP_of (show _ = some ((AV.agg [(intA k100010_0), (intA k100010_1)]), []) from (ldA_ptr (b := ⟨[(intA k100010_0), (intA k100010_1)], 24⟩) (by first | rfl | (simp (disch := first | decide | assumption) only [mpushs_nil, mpushs_cons, mget_hd, mget_tl, mget_appW_o, mget_appW_n, mget_appW_e])) rfl))) ?_
    refine imp exA2_b ?_
    refine imp ex_i64_b ?_
    refine imp ex_i64_b ?_
    refine imp (opP_of (show _ = some ((AV.agg [(intA k100011_0), (intA k100011_1)]), []) from (ldA_ptr (b := ⟨[(intA k100011_0), (intA k100011_1)], 24⟩) (by first | rfl | (simp (disch := first | decide | assumption) only [mpushs_nil, mpushs_cons, mget_hd, mget_tl, mget_appW_o, mget_appW_n, mget_appW_e])) rfl))) ?_
    refine imp exA2_b ?_
    refine imp ex_i64_b ?_
    refine imp ex_i64_b ?_
    refine bind_b fun x87 h87 => ?_
    refine imp (callQ_says (sg52 h87)) ?_
    refine imp exB_b ?_
    refine cond_b (fun _ => ?_) (fun _ => ?_)
    · refine imp (opN_of (show _ = some ((blkV TP.E 200074 ([x86] : List TP)), [(200074, some ⟨encs TP.E ([x86] : List TP), 24⟩)]) from rfl)) ?_
      refine bind_b fun x89 h89 => ?_
      refine imp (opN_of (show _ = some ((ownV TP.E 200075 (L90000 ++ ([x86] : List TP))), (appW TP.E 200075 90000 24 L90000 ([x86] : List TP))) from (app_own (E := TP.E) (l' := L90000) (xs := ([x86] : List TP)) rfl rfl (cellsOf_blk (E := TP.E) (ty := 24) rfl rfl (by first | rfl | (simp (disch := first | decide | assumption) only [mpushs_nil, mpushs_cons, mget_hd, mget_tl, mget_appW_o, mget_appW_n, mget_appW_e]))) (by first | assumption | simp) rfl (fun hne => Eq.trans (by first | rfl | (simp (disch := first | decide | assumption) only [mpushs_nil, mpushs_cons, mget_hd, mget_tl, mget_appW_o, mget_appW_n, mget_appW_e])) (ownB_ne hne)) h89))) ?_
      exact fun hg => hN1 _ (Option.some.inj hg).symm _ (weak_mem [(90000, 200075), (100010, 100010), (100011, 100011)] rfl rfl rfl (okW_cons (ent_lst (E := TP.E) _ false) (okW_cons (ent_lst (E := TP.E) _ false) (okW_cons (.inl (leV_refl _)) (okW_cons (.inl (leV_refl _)) (okW_cons (.inl (leV_refl _)) (okW_cons (ent_own (E := TP.E) (id := 200075) (l' := (L90000 ++ ([x86] : List TP))) rfl rfl) (okW_cons (.inl (leV_refl _)) (okW_cons (.inl (leV_refl _)) (okW_cons (ent_lst (E := TP.E) _ false) (okW_cons (.inl (leV_refl _)) (okW_cons (.inl (leV_refl _)) okW_nil))))))))))) (okB_cons (okB_own (E := TP.E) (ty := 24) (l' := (L90000 ++ ([x86] : List TP))) rfl (show mget _ 200075 = _ from (by first | rfl | (simp (disch := first | decide | assumption) only [mpushs_nil, mpushs_cons, mget_hd, mget_tl, mget_appW_o, mget_appW_n, mget_appW_e])))) (okB_cons (okB_cells (cs := [(intA k100010_0), (intA k100010_1)]) (ty := 24) rfl (show mget _ 100010 = _ from (by first | rfl | (simp (disch := first | decide | assumption) only [mpushs_nil, mpushs_cons, mget_hd, mget_tl, mget_appW_o, mget_appW_n, mget_appW_e])))) (okB_cons (okB_cells (cs := [(intA k100011_0), (intA k100011_1)]) (ty := 24) rfl (show mget _ 100011 = _ from (by first | rfl | (simp (disch := first | decide | assumption) only [mpushs_nil, mpushs_cons, mget_hd, mget_tl, mget_appW_o, mget_appW_n, mget_appW_e])))) okB_nil'))))
    · exact fun hg => hN1 _ (Option.some.inj hg).symm _ (weak_mem [(90000, 90000), (100010, 100010), (100011, 100011)] rfl rfl rfl (okW_cons (ent_lst (E := TP.E) _ false) (okW_cons (ent_lst (E := TP.E) _ false) (okW_cons (.inl (leV_refl _)) (okW_cons (.inl (leV_refl _)) (okW_cons (.inl (leV_refl _)) (okW_cons (ent_own (E := TP.E) (id := 90000) (l' := L90000) rfl rfl) (okW_cons (.inl (leV_refl _)) (okW_cons (.inl (leV_refl _)) (okW_cons (ent_lst (E := TP.E) _ false) (okW_cons (.inl (leV_refl _)) (okW_cons (.inl (leV_refl _)) okW_nil))))))))))) (okB_cons (okB_own (E := TP.E) (ty := 24) (l' := L90000) rfl (show mget _ 90000 = _ from (by first | rfl | (simp (disch := first | decide | assumption) only [mpushs_nil, mpushs_cons, mget_hd, mget_tl, mget_appW_o, mget_appW_n, mget_appW_e])))) (okB_cons (okB_cells (cs := [(intA k100010_0), (intA k100010_1)]) (ty := 24) rfl (show mget _ 100010 = _ from (by first | rfl | (simp (disch := first | decide | assumption) only [mpushs_nil, mpushs_cons, mget_hd, mget_tl, mget_appW_o, mget_appW_n, mget_appW_e])))) (okB_cons (okB_cells (cs := [(intA k100011_0), (intA k100011_1)]) (ty := 24) rfl (show mget _ 100011 = _ from (by first | rfl | (simp (disch := first | decide | assumption) only [mpushs_nil, mpushs_cons, mget_hd, mget_tl, mget_appW_o, mget_appW_n, mget_appW_e])))) okB_nil'))))
  · refine bind_b fun x94 h94 => ?_
    have lh94 := sortO_len h94
    refine imp (callW_sortV (hx := rfl) (E := TP.E) (ty := 24) (l := L90000) (cmp := (fun x y => g59 n x y k100010_0 k100010_1)) rfl TP.ok sorts58 none58 plain58 rfl (by first | rfl | (simp (disch := first | decide | assumption) only [mpushs_nil, mpushs_cons, mget_hd, mget_tl, mget_appW_o, mget_appW_n, mget_appW_e])) (capsOk_cons (.inr ⟨_, _, _, _, rfl, by decide, (by first | rfl | (simp (disch := first | decide | assumption) only [mpushs_nil, mpushs_cons, mget_hd, mget_tl, mget_appW_o, mget_appW_n, mget_appW_e])), by first | rfl | simp [cleans, clean, encs_clean], rfl⟩) capsOk_nil) (fun x y z h => sg59 h) h94) ?_
    refine imp exT0_b ?_
    refine mapInr_b fun t0 e0 => ?_
    exact fun hg => L50_0_1_ok n a0 a1 c4 c17 v18 k100010_0 k100010_1 k100011_0 k100011_1 R N0 (fun r e => hR r (e0.trans (congrArg Sum.inr e))) (fun y e => hN0 y (e0.trans (congrArg Sum.inr e))) n _ hg (weak_mem [(90000, 90000), (100010, 100010), (100011, 100011)] rfl rfl rfl (okW_cons (ent_lst (E := TP.E) _ false) (okW_cons (ent_lst (E := TP.E) _ false) (okW_cons (.inl (leV_refl _)) (okW_cons (.inl (leV_refl _)) (okW_cons (.inl (leV_refl _)) (okW_cons (ent_own (E := TP.E) (id := 90000) (l' := x94) (by first | rfl | omega | (simp; done) | (simp; omega)) rfl) (okW_cons (.inl (leV_refl _)) (okW_cons (.inl (leV_refl _)) (okW_cons (.inl (leV_refl _)) okW_nil))))))))) (okB_cons (okB_own (E := TP.E) (ty := 24) (l' := x94) rfl (show mget _ 90000 = _ from (by first | rfl | (simp (disch := first | decide | assumption) only [mpushs_nil, mpushs_cons, mget_hd, mget_tl, mget_appW_o, mget_appW_n, mget_appW_e])))) (okB_cons (okB_cells (cs := [(intA k100010_0), (intA k100010_1)]) (ty := 24) rfl (show mget _ 100010 = _ from (by first | rfl | (simp (disch := first | decide | assumption) only [mpushs_nil, mpushs_cons, mget_hd, mget_tl, mget_appW_o, mget_appW_n, mget_appW_e])))) (okB_cons (okB_cells (cs := [(intA k100011_0), (intA k100011_1)]) (ty := 24) rfl (show mget _ 100011 = _ from (by first | rfl | (simp (disch := first | decide | assumption) only [mpushs_nil, mpushs_cons, mget_hd, mget_tl, mget_appW_o, mget_appW_n, mget_appW_e])))) okB_nil'))))
theorem L50_0_0_ok (n : Nat) (a0 : List TP) (a1 : List TP) (c4 : Bool) (c17 : Int) (v18 : Int) (c32 : Int) (k100010_0 : Int) (k100010_1 : Int) (k100011_0 : Int) (k100011_1 : Int) {t : ((Int) ⊕ ρ50)} (R : AV → Mem → Prop) (N0 : St → Prop) (hR : ∀ r : ρ50, t = (.inr r) → ∀ u m, Ans ((boolA r)) u m → R u m) (hN0 : ∀ y : Int, t = (.inl y) → ∀ s' : St, Weak KK 127 0 s' (h50_0 (lstA TP.E a0) (lstA TP.E a1) c4 c17 y []) → N0 s') (k : Nat) (x : Int × List TP) (hx : iterO (fun y : Int × List TP => S50_0_0 n a0 a1 c4 c17 v18 c32 k100010_0 k100010_1 k100011_0 k100011_1 y.1 y.2) k x = some t) {s : St} (hw : Weak KK 127 0 s (h50_0_0 (lstA TP.E a0) (lstA TP.E a1) c4 (ownV TP.E 90000 x.2) c17 v18 (lstA TP.E a1) c32 x.1 [(90000, ownB TP.E 24 x.2), (100010, some ⟨[(intA k100010_0), (intA k100010_1)], 24⟩), (100011, some ⟨[(intA k100011_0), (intA k100011_1)], 24⟩)])) : Tri Try.prog KK 127 0 (.loop c50_0_0) s (q50_0_0 R N0) :=
  L50_0_0 R N0 (σ := Nat × (Int × List TP)) (fun z => iterO (fun y : Int × List TP => S50_0_0 n a0 a1 c4 c17 v18 c32 k100010_0 k100010_1 k100011_0 k100011_1 y.1 y.2) z.1 z.2 = some t) (fun z => (lstA TP.E a0)) (fun z => (lstA TP.E a1)) (fun z => c4) (fun z => (ownV TP.E 90000 z.2.2)) (fun z => c17) (fun z => v18) (fun z => (lstA TP.E a1)) (fun z => c32) (fun z => z.2.1) (fun z => [(90000, ownB TP.E 24 z.2.2), (100010, some ⟨[(intA k100010_0), (intA k100010_1)], 24⟩), (100011, some ⟨[(intA k100011_0), (intA k100011_1)], 24⟩)]) (fun z => z.1) (by
    rintro ⟨k, y⟩ h
    cases k with
    | zero => exact (iterO_zero h).elim
    | succ k =>
      obtain ⟨u, h1, h2, h3⟩ := iterO_elim h
      exact B50_0_0_ok n a0 a1 c4 c17 v18 c32 k100010_0 k100010_1 k100011_0 k100011_1 y.1 y.2 R N0 _ (fun r e => hR r (h3 _ e).symm) (fun y' e => hN0 y' (h3 _ e).symm) (fun y' e s' hw => ⟨(k, y'), h2 _ e, Nat.lt_succ_self k, hw⟩) h1) (k, x) hx hw
theorem B50_0_ok (n : Nat) (a0 : List TP) (a1 : List TP) (c4 : Bool) (c17 : Int) (v18 : Int) {t : (Int) ⊕ ρ50} (R : AV → Mem → Prop) (N0 : St → Prop) (hR : ∀ r : ρ50, t = (.inr r) → ∀ u m, Ans ((boolA r)) u m → R u m) (hN0 : ∀ y : Int, t = (.inl y) → ∀ s' : St, Weak KK 127 0 s' (h50_0 (lstA TP.E a0) (lstA TP.E a1) c4 c17 y []) → N0 s') : S50_0 n a0 a1 c4 c17 v18 = some t → B50_0 (lstA TP.E a0) (lstA TP.E a1) c4 c17 v18 [] R N0 := by
  unfold S50_0 B50_0
  refine cond_b (fun _ => ?_) (fun _ => ?_)
  · refine bind_b fun x84 h84 => ?_
    refine imp (opM_of (show _ = some ((AV.ept [(intA x84.X), (intA x84.Y)] 0), []) from (idx_lst (E := TP.E) rfl h84))) ?_
    refine imp (opM_of (show _ = some ((AV.agg [(intA x84.X), (intA x84.Y)]), []) from rfl)) ?_
    refine imp exA2_b ?_
    refine imp ex_i64_b ?_
    refine imp ex_i64_b ?_
    refine bind_b fun x85 h85 => ?_
    refine imp (callF_says (sg39 h85)) ?_
    refine imp exA2_b ?_
    refine imp ex_i64_b ?_
    refine imp ex_i64_b ?_
    refine imp (storeW_cells (sz := 2) (by kernel_rfl) (by kernel_rfl) rfl rfl (cs := [(intA (0)), (intA (0))]) (cs' := [(intA x84.X), (intA x84.Y)]) (ty := 24) (by first | rfl | (rw [look'_mem (by first | rfl | simp [topId_blk] | simp [topId])]; first | rfl | (simp (disch := first | decide | assumption) only [mpushs_nil, mpushs_cons, mget_hd, mget_tl, mget_appW_o, mget_appW_n, mget_appW_e]))) rfl rfl) ?_
    refine imp (storeW_cells (sz := 2) (by kernel_rfl) (by kernel_rfl) rfl rfl (cs := [(intA (0)), (intA (0))]) (cs' := [(intA x85.X), (intA x85.Y)]) (ty := 24) (by first | rfl | (rw [look'_mem (by first | rfl | simp [topId_blk] | simp [topId])]; first | rfl | (simp (disch := first | decide | assumption) only [mpushs_nil, mpushs_cons, mget_hd, mget_tl, mget_appW_o, mget_appW_n, mget_appW_e]))) rfl rfl) ?_
    refine imp (chk_of (by kernel_rfl)) ?_
    refine imp (opP_of (show _ = some ((AV.agg [(intA x84.X), (intA x84.Y)]), []) from (ldA_ptr (b := ⟨[(intA x84.X), (intA x84.Y)], 24⟩) (by first | rfl | (simp (disch := first | decide | assumption) only [mpushs_nil, mpushs_cons, mget_hd, mget_tl, mget_appW_o, mget_appW_n, mget_appW_e])) rfl))) ?_
    refine imp exA2_b ?_
    refine imp ex_i64_b ?_
    refine imp ex_i64_b ?_
    refine imp (opP_of (show _ = some ((AV.agg [(intA x85.X), (intA x85.Y)]), []) from (ldA_ptr (b := ⟨[(intA x85.X), (intA x85.Y)], 24⟩) (by first | rfl | (simp (disch := first | decide | assumption) only [mpushs_nil, mpushs_cons, mget_hd, mget_tl, mget_appW_o, mget_appW_n, mget_appW_e])) rfl))) ?_
    refine imp exA2_b ?_
    refine imp ex_i64_b ?_
    refine imp ex_i64_b ?_
    refine imp (opN_of (show _ = some ((blkV TP.E 100016 ([x84, x85] : List TP)), [(100016, some ⟨encs TP.E ([x84, x85] : List TP), 24⟩)]) from rfl)) ?_
    refine imp (opP_of (show _ = some ((intA (a1.length : Int)), []) from rfl)) ?_
    refine imp ex_i64_b ?_
    exact fun hg => L50_0_0_ok n a0 a1 c4 c17 v18 (a1.length : Int) x84.X x84.Y x85.X x85.Y R N0 hR hN0 n _ hg (weak_mem [(90000, 100016), (100010, 100010), (100011, 100011)] rfl rfl rfl (okW_cons (ent_lst (E := TP.E) _ false) (okW_cons (ent_lst (E := TP.E) _ false) (okW_cons (.inl (leV_refl _)) (okW_cons (.inl (leV_refl _)) (okW_cons (.inl (leV_refl _)) (okW_cons (ent_blk_own (E := TP.E) (id := 100016) (l' := ([x84, x85] : List TP)) (by simp) rfl rfl) (okW_cons (.inl (leV_refl _)) (okW_cons (.inl (leV_refl _)) (okW_cons (ent_lst (E := TP.E) _ false) (okW_cons (.inl (leV_refl _)) (okW_cons (.inl (leV_refl _)) okW_nil))))))))))) (okB_cons (okB_own (E := TP.E) (ty := 24) (l' := ([x84, x85] : List TP)) rfl (Eq.trans (show mget _ 100016 = _ from (by first | rfl | (simp (disch := first | decide | assumption) only [mpushs_nil, mpushs_cons, mget_hd, mget_tl, mget_appW_o, mget_appW_n, mget_appW_e]))) (Eq.symm (ownB_ne (by simp))))) (okB_cons (okB_cells (cs := [(intA x84.X), (intA x84.Y)]) (ty := 24) rfl (show mget _ 100010 = _ from (by first | rfl | (simp (disch := first | decide | assumption) only [mpushs_nil, mpushs_cons, mget_hd, mget_tl, mget_appW_o, mget_appW_n, mget_appW_e])))) (okB_cons (okB_cells (cs := [(intA x85.X), (intA x85.Y)]) (ty := 24) rfl (show mget _ 100011 = _ from (by first | rfl | (simp (disch := first | decide | assumption) only [mpushs_nil, mpushs_cons, mget_hd, mget_tl, mget_appW_o, mget_appW_n, mget_appW_e])))) okB_nil'))))
  · exact fun hg => ret1 (hR _ (Option.some.inj hg).symm) (fz_sc _ _)
theorem L50_0_ok (n : Nat) (a0 : List TP) (a1 : List TP) (c4 : Bool) (c17 : Int) {t : ρ50} (R : AV → Mem → Prop) (hR : ∀ r : ρ50, t = r → ∀ u m, Ans ((boolA r)) u m → R u m) (k : Nat) (x : Int) (hx : iterO (fun y : Int => S50_0 n a0 a1 c4 c17 y) k x = some t) {s : St} (hw : Weak KK 127 0 s (h50_0 (lstA TP.E a0) (lstA TP.E a1) c4 c17 x [])) : Tri Try.prog KK 127 0 (.loop c50_0) s (q50_0 R ) :=
  L50_0 R  (σ := Nat × (Int)) (fun z => iterO (fun y : Int => S50_0 n a0 a1 c4 c17 y) z.1 z.2 = some t) (fun z => (lstA TP.E a0)) (fun z => (lstA TP.E a1)) (fun z => c4) (fun z => c17) (fun z => z.2) (fun z => []) (fun z => z.1) (by
    rintro ⟨k, y⟩ h
    cases k with
    | zero => exact (iterO_zero h).elim
    | succ k =>
      obtain ⟨u, h1, h2, h3⟩ := iterO_elim h
      exact B50_0_ok n a0 a1 c4 c17 y R  _ (fun r e => hR r (h3 _ e).symm)  (fun y' e s' hw => ⟨(k, y'), h2 _ e, Nat.lt_succ_self k, hw⟩) h1) (k, x) hx hw
theorem g50_ok (n : Nat) (a0 : List TP) (a1 : List TP) {t : ρ50} (R : AV → Mem → Prop) (hR : ∀ r : ρ50, t = r → ∀ u m, Ans ((boolA r)) u m → R u m) : g50 n a0 a1 = some t → F50 (lstA TP.E a0) (lstA TP.E a1) R := by
  unfold g50 F50
  refine imp (opP_of (show _ = some ((intA (a0.length : Int)), []) from rfl)) ?_
  refine imp ex_i64_b ?_
  exact fun hg => L50_0_ok n a0 a1 false (a0.length : Int) R  hR n _ hg (weak_mem [] rfl rfl rfl (okW_cons (ent_lst (E := TP.E) _ false) (okW_cons (ent_lst (E := TP.E) _ false) (okW_cons (.inl (leV_refl _)) (okW_cons (.inl (leV_refl _)) (okW_cons (.inl (leV_refl _)) okW_nil))))) okB_nil')
theorem sg50 {n : Nat} {a0 : List TP} {a1 : List TP} {t : ρ50} (h : g50 n a0 a1 = some t) : Says Try.prog KK.gl 50 [(lstA TP.E a0), (lstA TP.E a1)] ((boolA t)) :=
  says_of_own (by first | rfl | simp [cleans, clean, encs_clean, En.cln]) (by first | rfl | simp [cleans, clean, encs_clean, En.cln]) (F50_own (lstA TP.E a0) (lstA TP.E a1) _ (g50_ok n a0 a1 (Ans ((boolA t))) (fun r e u m h => by rw [e]; exact h) h))
/- skyway/polygon.Overlap -/
theorem B37_1_0_ok (n : Nat) (a0 : List TP) (a1 : List TP) (c4 : Bool) (c5 : Int) (v27 : Int) (c26 : Int) (c31 : Int) (w32 : Int) {t : (Int) ⊕ ((Int) ⊕ ρ37)} (R : AV → Mem → Prop) (N0 : St → Prop) (N1 : St → Prop) (hR : ∀ r : ρ37, t = (.inr (.inr r)) → ∀ u m, Ans ((AV.tup [(boolA r.1), (intA r.2)])) u m → R u m) (hN0 : ∀ y : Int, t = (.inr (.inl y)) → ∀ s' : St, Weak KK 64 0 s' (h37_1 (lstA TP.E a0) (lstA TP.E a1) c4 c5 c26 y []) → N0 s') (hN1 : ∀ y : Int, t = (.inl y) → ∀ s' : St, Weak KK 64 0 s' (h37_1_0 (lstA TP.E a0) (lstA TP.E a1) c4 c5 v27 c26 v27 c31 y []) → N1 s') : S37_1_0 n a0 a1 c4 c5 v27 c26 c31 w32 = some t → B37_1_0 (lstA TP.E a0) (lstA TP.E a1) c4 c5 v27 c26 v27 c31 w32 [] R N0 N1 := by
  unfold S37_1_0 B37_1_0
  refine cond_b (fun _ => ?_) (fun _ => ?_)
  · refine bind_b fun x74 h74 => ?_
    refine imp (opP_of (show _ = some ((AV.ept [(intA x74.X), (intA x74.Y)] 0), []) from (idx_lst (E := TP.E) rfl h74))) ?_
    refine imp (opP_of (show _ = some ((AV.agg [(intA x74.X), (intA x74.Y)]), []) from rfl)) ?_
    refine imp exA2_b ?_
    refine imp ex_i64_b ?_
    refine imp ex_i64_b ?_
    refine bind_b fun x75 h75 => ?_
    refine imp (callQ_says (sg39 h75)) ?_
    refine imp exA2_b ?_
    refine imp ex_i64_b ?_
    refine imp ex_i64_b ?_
    refine bind_b fun x76 h76 => ?_
    refine imp (opP_of (show _ = some ((AV.ept [(intA x76.X), (intA x76.Y)] 0), []) from (idx_lst (E := TP.E) rfl h76))) ?_
    refine imp (opP_of (show _ = some ((AV.agg [(intA x76.X), (intA x76.Y)]), []) from rfl)) ?_
    refine imp exA2_b ?_
    refine imp ex_i64_b ?_
    refine imp ex_i64_b ?_
    refine bind_b fun x77 h77 => ?_
    refine imp (callQ_says (sg39 h77)) ?_
    refine imp exA2_b ?_
    refine imp ex_i64_b ?_
    refine imp ex_i64_b ?_
    refine bind_b fun x78 h78 => ?_
    refine imp (callQ_says (sg48 h78)) ?_
    refine imp exB_b ?_
    refine cond_b (fun _ => ?_) (fun _ => ?_)
    · exact fun hg => retN rfl (hR _ (Option.some.inj hg).symm) (fzL_cons (fz_sc _ _) (fzL_cons (fz_sc _ _) fzL_nil))
    · exact fun hg => hN1 _ (Option.some.inj hg).symm _ (weak_mem [] rfl rfl rfl (okW_cons (ent_lst (E := TP.E) _ false) (okW_cons (ent_lst (E := TP.E) _ false) (okW_cons (.inl (leV_refl _)) (okW_cons (.inl (leV_refl _)) (okW_cons (.inl (leV_refl _)) (okW_cons (.inl (leV_refl _)) (okW_cons (.inl (leV_refl _)) (okW_cons (.inl (leV_refl _)) (okW_cons (.inl (leV_refl _)) okW_nil))))))))) okB_nil')
  · exact fun hg => hN0 _ (Option.some.inj hg).symm _ (weak_mem [] rfl rfl rfl (okW_cons (ent_lst (E := TP.E) _ false) (okW_cons (ent_lst (E := TP.E) _ false) (okW_cons (.inl (leV_refl _)) (okW_cons (.inl (leV_refl _)) (okW_cons (.inl (leV_refl _)) (okW_cons (.inl (leV_refl _)) okW_nil)))))) okB_nil')
theorem L37_1_0_ok (n : Nat) (a0 : List TP) (a1 : List TP) (c4 : Bool) (c5 : Int) (v27 : Int) (c26 : Int) (c31 : Int) {t : ((Int) ⊕ ρ37)} (R : AV → Mem → Prop) (N0 : St → Prop) (hR : ∀ r : ρ37, t = (.inr r) → ∀ u m, Ans ((AV.tup [(boolA r.1), (intA r.2)])) u m → R u m) (hN0 : ∀ y : Int, t = (.inl y) → ∀ s' : St, Weak KK 64 0 s' (h37_1 (lstA TP.E a0) (lstA TP.E a1) c4 c5 c26 y []) → N0 s') (k : Nat) (x : Int) (hx : iterO (fun y : Int => S37_1_0 n a0 a1 c4 c5 v27 c26 c31 y) k x = some t) {s : St} (hw : Weak KK 64 0 s (h37_1_0 (lstA TP.E a0) (lstA TP.E a1) c4 c5 v27 c26 v27 c31 x [])) : Tri Try.prog KK 64 0 (.loop c37_1_0) s (q37_1_0 R N0) :=
  L37_1_0 R N0 (σ := Nat × (Int)) (fun z => iterO (fun y : Int => S37_1_0 n a0 a1 c4 c5 v27 c26 c31 y) z.1 z.2 = some t) (fun z => (lstA TP.E a0)) (fun z => (lstA TP.E a1)) (fun z => c4) (fun z => c5) (fun z => v27) (fun z => c26) (fun z => v27) (fun z => c31) (fun z => z.2) (fun z => []) (fun z => z.1) (by
    rintro ⟨k, y⟩ h
    cases k with
    | zero => exact (iterO_zero h).elim
    | succ k =>
      obtain ⟨u, h1, h2, h3⟩ := iterO_elim h
      exact B37_1_0_ok n a0 a1 c4 c5 v27 c26 c31 y R N0 _ (fun r e => hR r (h3 _ e).symm) (fun y' e => hN0 y' (h3 _ e).symm) (fun y' e s' hw => ⟨(k, y'), h2 _ e, Nat.lt_succ_self k, hw⟩) h1) (k, x) hx hw
theorem B37_1_ok (n : Nat) (a0 : List TP) (a1 : List TP) (c4 : Bool) (c5 : Int) (c26 : Int) (v27 : Int) {t : (Int) ⊕ ρ37} (R : AV → Mem → Prop) (N0 : St → Prop) (hR : ∀ r : ρ37, t = (.inr r) → ∀ u m, Ans ((AV.tup [(boolA r.1), (intA r.2)])) u m → R u m) (hN0 : ∀ y : Int, t = (.inl y) → ∀ s' : St, Weak KK 64 0 s' (h37_1 (lstA TP.E a0) (lstA TP.E a1) c4 c5 c26 y []) → N0 s') : S37_1 n a0 a1 c4 c5 c26 v27 = some t → B37_1 (lstA TP.E a0) (lstA TP.E a1) c4 c5 c26 v27 [] R N0 := by
  unfold S37_1 B37_1
  refine cond_b (fun _ => ?_) (fun _ => ?_)
  · refine imp (opP_of (show _ = some ((intA (a1.length : Int)), []) from rfl)) ?_
    refine imp ex_i64_b ?_
    exact fun hg => L37_1_0_ok n a0 a1 c4 c5 v27 c26 (a1.length : Int) R N0 hR hN0 n _ hg (weak_mem [] rfl rfl rfl (okW_cons (ent_lst (E := TP.E) _ false) (okW_cons (ent_lst (E := TP.E) _ false) (okW_cons (.inl (leV_refl _)) (okW_cons (.inl (leV_refl _)) (okW_cons (.inl (leV_refl _)) (okW_cons (.inl (leV_refl _)) (okW_cons (.inl (leV_refl _)) (okW_cons (.inl (leV_refl _)) (okW_cons (.inl (leV_refl _)) okW_nil))))))))) okB_nil')
  · refine bind_b fun x82 h82 => ?_
    refine imp (callQ_says (sg49 h82)) ?_
    refine bind_b fun x83 h83 => ?_
    refine imp (callQ_says (sg49 h83)) ?_
    refine bind_b fun x108 h108 => ?_
    refine imp (callQ_says (sg50 h108)) ?_
    refine imp exB_b ?_
    refine cond_b (fun _ => ?_) (fun _ => ?_)
    · exact fun hg => retN rfl (hR _ (Option.some.inj hg).symm) (fzL_cons (fz_sc _ _) (fzL_cons (fz_sc _ _) fzL_nil))
    · refine bind_b fun x109 h109 => ?_
      refine imp (callQ_says (sg50 h109)) ?_
      refine imp exB_b ?_
      exact fun hg => retN rfl (hR _ (Option.some.inj hg).symm) (fzL_cons (fz_sc _ _) (fzL_cons (fz_sc _ _) fzL_nil))
theorem L37_1_ok (n : Nat) (a0 : List TP) (a1 : List TP) (c4 : Bool) (c5 : Int) (c26 : Int) {t : ρ37} (R : AV → Mem → Prop) (hR : ∀ r : ρ37, t = r → ∀ u m, Ans ((AV.tup [(boolA r.1), (intA r.2)])) u m → R u m) (k : Nat) (x : Int) (hx : iterO (fun y : Int => S37_1 n a0 a1 c4 c5 c26 y) k x = some t) {s : St} (hw : Weak KK 64 0 s (h37_1 (lstA TP.E a0) (lstA TP.E a1) c4 c5 c26 x [])) : Tri Try.prog KK 64 0 (.loop c37_1) s (q37_1 R ) :=
  L37_1 R  (σ := Nat × (Int)) (fun z => iterO (fun y : Int => S37_1 n a0 a1 c4 c5 c26 y) z.1 z.2 = some t) (fun z => (lstA TP.E a0)) (fun z => (lstA TP.E a1)) (fun z => c4) (fun z => c5) (fun z => c26) (fun z => z.2) (fun z => []) (fun z => z.1) (by
    rintro ⟨k, y⟩ h
    cases k with
    | zero => exact (iterO_zero h).elim
    | succ k =>
      obtain ⟨u, h1, h2, h3⟩ := iterO_elim h
      exact B37_1_ok n a0 a1 c4 c5 c26 y R  _ (fun r e => hR r (h3 _ e).symm)  (fun y' e s' hw => ⟨(k, y'), h2 _ e, Nat.lt_succ_self k, hw⟩) h1) (k, x) hx hw
theorem B37_0_ok (n : Nat) (a0 : List TP) (a1 : List TP) (c4 : Bool) (c5 : Int) (c13 : List (List TP)) (c14 : Int) (v15 : Int) {t : (Int) ⊕ ρ37} (R : AV → Mem → Prop) (N0 : St → Prop) (hR : ∀ r : ρ37, t = (.inr r) → ∀ u m, Ans ((AV.tup [(boolA r.1), (intA r.2)])) u m → R u m) (hN0 : ∀ y : Int, t = (.inl y) → ∀ s' : St, Weak KK 64 0 s' (h37_0 (lstA TP.E a0) (lstA TP.E a1) c4 c5 (lstA (lstE TP.E) c13) c14 y []) → N0 s') : S37_0 n a0 a1 c4 c5 c13 c14 v15 = some t → B37_0 (lstA TP.E a0) (lstA TP.E a1) c4 c5 (lstA (lstE TP.E) c13) c14 v15 [] R N0 := by
  unfold S37_0 B37_0
  refine cond_b (fun _ => ?_) (fun _ => ?_)
  · refine bind_b fun x72 h72 => ?_
    refine imp (opP_of (show _ = some ((AV.ept [(lstA TP.E x72)] 0), []) from (idx_lst (E := (lstE TP.E)) rfl h72))) ?_
    refine imp (opP_of (show _ = some ((lstA TP.E x72), []) from rfl)) ?_
    refine bind_b fun x73 h73 => ?_
    refine imp (callQ_says (sg29 h73)) ?_
    refine imp ex_i64_b ?_
    refine cond_b (fun _ => ?_) (fun _ => ?_)
    · exact fun hg => retN rfl (hR _ (Option.some.inj hg).symm) (fzL_cons (fz_sc _ _) (fzL_cons (fz_sc _ _) fzL_nil))
    · exact fun hg => hN0 _ (Option.some.inj hg).symm _ (weak_mem [] rfl rfl rfl (okW_cons (ent_lst (E := TP.E) _ false) (okW_cons (ent_lst (E := TP.E) _ false) (okW_cons (.inl (leV_refl _)) (okW_cons (.inl (leV_refl _)) (okW_cons (ent_lst (E := (lstE TP.E)) _ false) (okW_cons (.inl (leV_refl _)) (okW_cons (.inl (leV_refl _)) okW_nil))))))) okB_nil')
  · refine imp (opP_of (show _ = some ((intA (a0.length : Int)), []) from rfl)) ?_
    refine imp ex_i64_b ?_
    refine mapInr_b fun t0 e0 => ?_
    exact fun hg => L37_1_ok n a0 a1 c4 c5 (a0.length : Int) R  (fun r e => hR r (e0.trans (congrArg Sum.inr e))) n _ hg (weak_mem [] rfl rfl rfl (okW_cons (ent_lst (E := TP.E) _ false) (okW_cons (ent_lst (E := TP.E) _ false) (okW_cons (.inl (leV_refl _)) (okW_cons (.inl (leV_refl _)) (okW_cons (.inl (leV_refl _)) (okW_cons (.inl (leV_refl _)) okW_nil)))))) okB_nil')
theorem L37_0_ok (n : Nat) (a0 : List TP) (a1 : List TP) (c4 : Bool) (c5 : Int) (c13 : List (List TP)) (c14 : Int) {t : ρ37} (R : AV → Mem → Prop) (hR : ∀ r : ρ37, t = r → ∀ u m, Ans ((AV.tup [(boolA r.1), (intA r.2)])) u m → R u m) (k : Nat) (x : Int) (hx : iterO (fun y : Int => S37_0 n a0 a1 c4 c5 c13 c14 y) k x = some t) {s : St} (hw : Weak KK 64 0 s (h37_0 (lstA TP.E a0) (lstA TP.E a1) c4 c5 (lstA (lstE TP.E) c13) c14 x [])) : Tri Try.prog KK 64 0 (.loop c37_0) s (q37_0 R ) :=
  L37_0 R  (σ := Nat × (Int)) (fun z => iterO (fun y : Int => S37_0 n a0 a1 c4 c5 c13 c14 y) z.1 z.2 = some t) (fun z => (lstA TP.E a0)) (fun z => (lstA TP.E a1)) (fun z => c4) (fun z => c5) (fun z => (lstA (lstE TP.E) c13)) (fun z => c14) (fun z => z.2) (fun z => []) (fun z => z.1) (by
    rintro ⟨k, y⟩ h
    cases k with
    | zero => exact (iterO_zero h).elim
    | succ k =>
      obtain ⟨u, h1, h2, h3⟩ := iterO_elim h
      exact B37_0_ok n a0 a1 c4 c5 c13 c14 y R  _ (fun r e => hR r (h3 _ e).symm)  (fun y' e s' hw => ⟨(k, y'), h2 _ e, Nat.lt_succ_self k, hw⟩) h1) (k, x) hx hw
theorem g37_ok (n : Nat) (a0 : List TP) (a1 : List TP) {t : ρ37} (R : AV → Mem → Prop) (hR : ∀ r : ρ37, t = r → ∀ u m, Ans ((AV.tup [(boolA r.1), (intA r.2)])) u m → R u m) : g37 n a0 a1 = some t → F37 (lstA TP.E a0) (lstA TP.E a1) R := by
  unfold g37 F37
  refine imp (opN_of (show _ = some ((blkV (lstE TP.E) 4 ([a0, a1] : List (List TP))), [(4, some ⟨encs (lstE TP.E) ([a0, a1] : List (List TP)), 54⟩)]) from rfl)) ?_
  refine imp (opP_of (show _ = some ((intA (([a0, a1] : List (List TP)).length : Int)), []) from len_blk)) ?_
  refine imp ex_i64_b ?_
  exact fun hg => L37_0_ok n a0 a1 false (0) ([a0, a1] : List (List TP)) (([a0, a1] : List (List TP)).length : Int) R  hR n _ hg (weak_mem [] rfl rfl rfl (okW_cons (ent_lst (E := TP.E) _ false) (okW_cons (ent_lst (E := TP.E) _ false) (okW_cons (.inl (leV_refl _)) (okW_cons (.inl (leV_refl _)) (okW_cons (ent_blk_frz (E := (lstE TP.E)) (ty := 54) (l' := ([a0, a1] : List (List TP))) rfl (by first | rfl | (simp (disch := first | decide | assumption) only [mpushs_nil, mpushs_cons, mget_hd, mget_tl, mget_appW_o, mget_appW_n, mget_appW_e])) rfl) (okW_cons (.inl (leV_refl _)) (okW_cons (.inl (leV_refl _)) okW_nil))))))) okB_nil')
theorem sg37 {n : Nat} {a0 : List TP} {a1 : List TP} {t : ρ37} (h : g37 n a0 a1 = some t) : Says Try.prog KK.gl 37 [(lstA TP.E a0), (lstA TP.E a1)] ((AV.tup [(boolA t.1), (intA t.2)])) :=
  says_of_own (by first | rfl | simp [cleans, clean, encs_clean, En.cln]) (by first | rfl | simp [cleans, clean, encs_clean, En.cln]) (F37_own (lstA TP.E a0) (lstA TP.E a1) _ (g37_ok n a0 a1 (Ans ((AV.tup [(boolA t.1), (intA t.2)]))) (fun r e u m h => by rw [e]; exact h) h))
/- skyway/volume.Overlap -/
theorem B27_0_ok (n : Nat) (c4 : Bool) (c5 : Int) (c13 : List TVolume) (c14 : Int) (k0_0 : List TP) (k0_1 : Int) (k0_2 : Int) (k1_0 : List TP) (k1_1 : Int) (k1_2 : Int) (v15 : Int) {t : (Int) ⊕ ρ27} (R : AV → Mem → Prop) (N0 : St → Prop) (hR : ∀ r : ρ27, t = (.inr r) → ∀ u m, Ans ((AV.tup [(boolA r.1), (intA r.2)])) u m → R u m) (hN0 : ∀ y : Int, t = (.inl y) → ∀ s' : St, Weak KK 52 0 s' (h27_0 c4 c5 (lstA TVolume.E c13) c14 y [(0, some ⟨[(lstA TP.E k0_0), (intA k0_1), (intA k0_2)], 56⟩), (1, some ⟨[(lstA TP.E k1_0), (intA k1_1), (intA k1_2)], 56⟩)]) → N0 s') : S27_0 n c4 c5 c13 c14 k0_0 k0_1 k0_2 k1_0 k1_1 k1_2 v15 = some t → B27_0 c4 c5 (lstA TVolume.E c13) c14 v15 [(0, some ⟨[(lstA TP.E k0_0), (intA k0_1), (intA k0_2)], 56⟩), (1, some ⟨[(lstA TP.E k1_0), (intA k1_1), (intA k1_2)], 56⟩)] R N0 := by
  unfold S27_0 B27_0
  refine cond_b (fun _ => ?_) (fun _ => ?_)
  · refine bind_b fun x70 h70 => ?_
    refine imp (opP_of (show _ = some ((AV.ept [(lstA TP.E x70.Area), (intA x70.Low), (intA x70.High)] 0), []) from (idx_lst (E := TVolume.E) rfl h70))) ?_
    refine imp (opP_of (show _ = some ((AV.agg [(lstA TP.E x70.Area), (intA x70.Low), (intA x70.High)]), []) from rfl)) ?_
    refine imp exA3_b ?_
    refine imp ex_i64_b ?_
    refine imp ex_i64_b ?_
    refine imp (chk_of rfl) ?_
    refine bind_b fun x71 h71 => ?_
    refine imp (callQ_says (sg24 h71)) ?_
    refine imp ex_i64_b ?_
    refine cond_b (fun _ => ?_) (fun _ => ?_)
    · exact fun hg => retN rfl (hR _ (Option.some.inj hg).symm) (fzL_cons (fz_sc _ _) (fzL_cons (fz_sc _ _) fzL_nil))
    · exact fun hg => hN0 _ (Option.some.inj hg).symm _ (weak_mem [(0, 0), (1, 1)] rfl rfl rfl (okW_cons (.inl (leV_refl _)) (okW_cons (.inl (leV_refl _)) (okW_cons (.inl (leV_refl _)) (okW_cons (.inl (leV_refl _)) (okW_cons (ent_lst (E := TVolume.E) _ false) (okW_cons (.inl (leV_refl _)) (okW_cons (.inl (leV_refl _)) okW_nil))))))) (okB_cons (okB_cells (cs := [(lstA TP.E k0_0), (intA k0_1), (intA k0_2)]) (ty := 56) (by simp [clean, cleans, encs_clean]) (show mget _ 0 = _ from (by first | rfl | (simp (disch := first | decide | assumption) only [mpushs_nil, mpushs_cons, mget_hd, mget_tl, mget_appW_o, mget_appW_n, mget_appW_e])))) (okB_cons (okB_cells (cs := [(lstA TP.E k1_0), (intA k1_1), (intA k1_2)]) (ty := 56) (by simp [clean, cleans, encs_clean]) (show mget _ 1 = _ from (by first | rfl | (simp (disch := first | decide | assumption) only [mpushs_nil, mpushs_cons, mget_hd, mget_tl, mget_appW_o, mget_appW_n, mget_appW_e])))) okB_nil')))
  · refine imp (opP_of (show _ = some ((lstA TP.E k0_0), []) from (ldS_ptr (b := ⟨[(lstA TP.E k0_0), (intA k0_1), (intA k0_2)], 56⟩) (by first | rfl | (simp (disch := first | decide | assumption) only [mpushs_nil, mpushs_cons, mget_hd, mget_tl, mget_appW_o, mget_appW_n, mget_appW_e])) rfl))) ?_
    refine imp (opP_of (show _ = some ((lstA TP.E k1_0), []) from (ldS_ptr (b := ⟨[(lstA TP.E k1_0), (intA k1_1), (intA k1_2)], 56⟩) (by first | rfl | (simp (disch := first | decide | assumption) only [mpushs_nil, mpushs_cons, mget_hd, mget_tl, mget_appW_o, mget_appW_n, mget_appW_e])) rfl))) ?_
    refine bind_b fun x110 h110 => ?_
    refine imp (callQ_says (sg37 h110)) ?_
    refine imp exT2_b ?_
    refine imp exB_b ?_
    refine imp ex_i64_b ?_
    refine cond_b (fun _ => ?_) (fun _ => ?_)
    · refine cond_b (fun _ => ?_) (fun _ => ?_)
      · refine imp (opP_of (show _ = some ((intA k0_1), []) from (ldS_ptr (b := ⟨[(lstA TP.E k0_0), (intA k0_1), (intA k0_2)], 56⟩) (by first | rfl | (simp (disch := first | decide | assumption) only [mpushs_nil, mpushs_cons, mget_hd, mget_tl, mget_appW_o, mget_appW_n, mget_appW_e])) rfl))) ?_
        refine imp ex_i64_b ?_
        refine imp (opP_of (show _ = some ((intA k1_1), []) from (ldS_ptr (b := ⟨[(lstA TP.E k1_0), (intA k1_1), (intA k1_2)], 56⟩) (by first | rfl | (simp (disch := first | decide | assumption) only [mpushs_nil, mpushs_cons, mget_hd, mget_tl, mget_appW_o, mget_appW_n, mget_appW_e])) rfl))) ?_
        refine imp ex_i64_b ?_
        refine imp (opP_of (show _ = some ((intA (if k1_1 > k0_1 then k1_1 else k0_1)), []) from (by kernel_rfl))) ?_
        refine imp ex_i64_b ?_
        refine imp (opP_of (show _ = some ((intA k0_2), []) from (ldS_ptr (b := ⟨[(lstA TP.E k0_0), (intA k0_1), (intA k0_2)], 56⟩) (by first | rfl | (simp (disch := first | decide | assumption) only [mpushs_nil, mpushs_cons, mget_hd, mget_tl, mget_appW_o, mget_appW_n, mget_appW_e])) rfl))) ?_
        refine imp ex_i64_b ?_
        refine imp (opP_of (show _ = some ((intA k1_2), []) from (ldS_ptr (b := ⟨[(lstA TP.E k1_0), (intA k1_1), (intA k1_2)], 56⟩) (by first | rfl | (simp (disch := first | decide | assumption) only [mpushs_nil, mpushs_cons, mget_hd, mget_tl, mget_appW_o, mget_appW_n, mget_appW_e])) rfl))) ?_
        refine imp ex_i64_b ?_
        refine imp (opP_of (show _ = some ((intA (if k1_2 < k0_2 then k1_2 else k0_2)), []) from (by kernel_rfl))) ?_
        refine imp ex_i64_b ?_
        exact fun hg => retN rfl (hR _ (Option.some.inj hg).symm) (fzL_cons (fz_sc _ _) (fzL_cons (fz_sc _ _) fzL_nil))
      · exact fun hg => retN rfl (hR _ (Option.some.inj hg).symm) (fzL_cons (fz_sc _ _) (fzL_cons (fz_sc _ _) fzL_nil))
    · exact fun hg => retN rfl (hR _ (Option.some.inj hg).symm) (fzL_cons (fz_sc _ _) (fzL_cons (fz_sc _ _) fzL_nil))
theorem L27_0_ok (n : Nat) (c4 : Bool) (c5 : Int) (c13 : List TVolume) (c14 : Int) (k0_0 : List TP) (k0_1 : Int) (k0_2 : Int) (k1_0 : List TP) (k1_1 : Int) (k1_2 : Int) {t : ρ27} (R : AV → Mem → Prop) (hR : ∀ r : ρ27, t = r → ∀ u m, Ans ((AV.tup [(boolA r.1), (intA r.2)])) u m → R u m) (k : Nat) (x : Int) (hx : iterO (fun y : Int => S27_0 n c4 c5 c13 c14 k0_0 k0_1 k0_2 k1_0 k1_1 k1_2 y) k x = some t) {s : St} (hw : Weak KK 52 0 s (h27_0 c4 c5 (lstA TVolume.E c13) c14 x [(0, some ⟨[(lstA TP.E k0_0), (intA k0_1), (intA k0_2)], 56⟩), (1, some ⟨[(lstA TP.E k1_0), (intA k1_1), (intA k1_2)], 56⟩)])) : Tri Try.prog KK 52 0 (.loop c27_0) s (q27_0 R ) :=
  L27_0 R  (σ := Nat × (Int)) (fun z => iterO (fun y : Int => S27_0 n c4 c5 c13 c14 k0_0 k0_1 k0_2 k1_0 k1_1 k1_2 y) z.1 z.2 = some t) (fun z => c4) (fun z => c5) (fun z => (lstA TVolume.E c13)) (fun z => c14) (fun z => z.2) (fun z => [(0, some ⟨[(lstA TP.E k0_0), (intA k0_1), (intA k0_2)], 56⟩), (1, some ⟨[(lstA TP.E k1_0), (intA k1_1), (intA k1_2)], 56⟩)]) (fun z => z.1) (by
    rintro ⟨k, y⟩ h
    cases k with
    | zero => exact (iterO_zero h).elim
    | succ k =>
      obtain ⟨u, h1, h2, h3⟩ := iterO_elim h
      exact B27_0_ok n c4 c5 c13 c14 k0_0 k0_1 k0_2 k1_0 k1_1 k1_2 y R  _ (fun r e => hR r (h3 _ e).symm)  (fun y' e s' hw => ⟨(k, y'), h2 _ e, Nat.lt_succ_self k, hw⟩) h1) (k, x) hx hw
theorem g27_ok (n : Nat) (a0 : TVolume) (a1 : TVolume) {t : ρ27} (R : AV → Mem → Prop) (hR : ∀ r : ρ27, t = r → ∀ u m, Ans ((AV.tup [(boolA r.1), (intA r.2)])) u m → R u m) : g27 n a0 a1 = some t → F27 (lstA TP.E a0.Area) a0.Low a0.High (lstA TP.E a1.Area) a1.Low a1.High R := by
  unfold g27 F27
  refine imp (chk_of rfl) ?_
  refine imp (chk_of rfl) ?_
  refine imp (opN_of (show _ = some ((blkV TVolume.E 6 ([a0, a1] : List TVolume)), [(6, some ⟨encs TVolume.E ([a0, a1] : List TVolume), 56⟩)]) from rfl)) ?_
  refine imp (opP_of (show _ = some ((intA (([a0, a1] : List TVolume).length : Int)), []) from len_blk)) ?_
  refine imp ex_i64_b ?_
  exact fun hg => L27_0_ok n false (0) ([a0, a1] : List TVolume) (([a0, a1] : List TVolume).length : Int) a0.Area a0.Low a0.High a1.Area a1.Low a1.High R  hR n _ hg (weak_mem [(0, 0), (1, 1)] rfl rfl rfl (okW_cons (.inl (leV_refl _)) (okW_cons (.inl (leV_refl _)) (okW_cons (.inl (leV_refl _)) (okW_cons (.inl (leV_refl _)) (okW_cons (ent_blk_frz (E := TVolume.E) (ty := 56) (l' := ([a0, a1] : List TVolume)) rfl (by first | rfl | (simp (disch := first | decide | assumption) only [mpushs_nil, mpushs_cons, mget_hd, mget_tl, mget_appW_o, mget_appW_n, mget_appW_e])) rfl) (okW_cons (.inl (leV_refl _)) (okW_cons (.inl (leV_refl _)) okW_nil))))))) (okB_cons (okB_cells (cs := [(lstA TP.E a0.Area), (intA a0.Low), (intA a0.High)]) (ty := 56) (by simp [clean, cleans, encs_clean]) (show mget _ 0 = _ from (by first | rfl | (simp (disch := first | decide | assumption) only [mpushs_nil, mpushs_cons, mget_hd, mget_tl, mget_appW_o, mget_appW_n, mget_appW_e])))) (okB_cons (okB_cells (cs := [(lstA TP.E a1.Area), (intA a1.Low), (intA a1.High)]) (ty := 56) (by simp [clean, cleans, encs_clean]) (show mget _ 1 = _ from (by first | rfl | (simp (disch := first | decide | assumption) only [mpushs_nil, mpushs_cons, mget_hd, mget_tl, mget_appW_o, mget_appW_n, mget_appW_e])))) okB_nil')))
theorem sg27 {n : Nat} {a0 : TVolume} {a1 : TVolume} {t : ρ27} (h : g27 n a0 a1 = some t) : Says Try.prog KK.gl 27 [(AV.agg [(lstA TP.E a0.Area), (intA a0.Low), (intA a0.High)]), (AV.agg [(lstA TP.E a1.Area), (intA a1.Low), (intA a1.High)])] ((AV.tup [(boolA t.1), (intA t.2)])) :=
  says_of_own (by first | rfl | simp [cleans, clean, encs_clean, En.cln]) (by first | rfl | simp [cleans, clean, encs_clean, En.cln]) (F27_own (lstA TP.E a0.Area) a0.Low a0.High (lstA TP.E a1.Area) a1.Low a1.High _ (g27_ok n a0 a1 (Ans ((AV.tup [(boolA t.1), (intA t.2)]))) (fun r e u m h => by rw [e]; exact h) h))
/- skyway/sector.Check -/
theorem B14_0_0_ok (n : Nat) (a0 : List TSector) (c2 : Int) (v20 : Int) (c19 : Int) (c41 : List TVolume) (c42 : Int) (k100004_0 : ByteArray) (w43 : Int) (L90000 : List TVolume) {t : (Int × List TVolume) ⊕ ((Int × List TVolume) ⊕ ρ14)} (R : AV → Mem → Prop) (N0 : St → Prop) (N1 : St → Prop) (hR : ∀ r : ρ14, t = (.inr (.inr r)) → ∀ u m, Ans ((intA r)) u m → R u m) (hN0 : ∀ y : Int × List TVolume, t = (.inr (.inl y)) → ∀ s' : St, Weak KK 87 0 s' (h14_0 (lstA TSector.E a0) c2 (ownV TVolume.E 90000 y.2) (lstA TSector.E a0) c19 y.1 [(90000, ownB TVolume.E 56 y.2)]) → N0 s') (hN1 : ∀ y : Int × List TVolume, t = (.inl y) → ∀ s' : St, Weak KK 87 0 s' (h14_0_0 (lstA TSector.E a0) c2 (ownV TVolume.E 90000 y.2) v20 (lstA TSector.E a0) c19 v20 (lstA TVolume.E c41) c42 y.1 k100004_0 (lstA TVolume.E c41) [(90000, ownB TVolume.E 56 y.2)]) → N1 s') : S14_0_0 n a0 c2 v20 c19 c41 c42 k100004_0 w43 L90000 = some t → B14_0_0 (lstA TSector.E a0) c2 (ownV TVolume.E 90000 L90000) v20 (lstA TSector.E a0) c19 v20 (lstA TVolume.E c41) c42 w43 k100004_0 (lstA TVolume.E c41) [(90000, ownB TVolume.E 56 L90000)] R N0 N1 := by
  unfold S14_0_0 B14_0_0
  refine cond_b (fun _ => ?_) (fun _ => ?_)
  · refine bind_b fun x31 h31 => ?_
    refine imp (opP_of (show _ = some ((AV.ept [(lstA TP.E x31.Area), (intA x31.Low), (intA x31.High)] 0), []) from (idx_lst (E := TVolume.E) rfl h31))) ?_
    refine imp (opP_of (show _ = some ((AV.agg [(lstA TP.E x31.Area), (intA x31.Low), (intA x31.High)]), []) from rfl)) ?_
    refine imp exA3_b ?_
    refine imp ex_i64_b ?_
    refine imp ex_i64_b ?_
    refine imp (chk_of rfl) ?_
    refine bind_b fun x59 h59 => ?_
    refine imp (callQ_says (sg24 h59)) ?_
    refine imp ex_i64_b ?_
    refine cond_b (fun _ => ?_) (fun _ => ?_)
    · exact fun hg => ret1 (hR _ (Option.some.inj hg).symm) (fz_sc _ _)
    · exact fun hg => hN1 _ (Option.some.inj hg).symm _ (weak_mem [(90000, 90000), (100004, 100004)] rfl rfl rfl (okW_cons (ent_lst (E := TSector.E) _ false) (okW_cons (.inl (leV_refl _)) (okW_cons (ent_own (E := TVolume.E) (id := 90000) (l' := L90000) rfl rfl) (okW_cons (.inl (leV_refl _)) (okW_cons (.inl (leV_refl _)) (okW_cons (ent_lst (E := TSector.E) _ false) (okW_cons (.inl (leV_refl _)) (okW_cons (.inl (leV_refl _)) (okW_cons (ent_lst (E := TVolume.E) _ false) (okW_cons (.inl (leV_refl _)) (okW_cons (.inl (leV_refl _)) okW_nil))))))))))) (okB_cons (okB_cells (cs := [(strA k100004_0), (lstA TVolume.E c41)]) (ty := 37) (by simp [clean, cleans, encs_clean]) (show mget _ 100004 = _ from (by first | rfl | (simp (disch := first | decide | assumption) only [mpushs_nil, mpushs_cons, mget_hd, mget_tl, mget_appW_o, mget_appW_n, mget_appW_e])))) (okB_cons (okB_own (E := TVolume.E) (ty := 56) (l' := L90000) rfl (show mget _ 90000 = _ from (by first | rfl | (simp (disch := first | decide | assumption) only [mpushs_nil, mpushs_cons, mget_hd, mget_tl, mget_appW_o, mget_appW_n, mget_appW_e])))) okB_nil')))
  · refine bind_b fun x60 h60 => ?_
    refine imp (opP_of (show _ = some ((lstA TSector.E x60), []) from (slc_hi (E := TSector.E) (e := 37) (by kernel_rfl) (by kernel_rfl) rfl h60))) ?_
    refine bind_b fun x64 h64 => ?_
    refine imp (callQ_pure (pure_snapN (snL_cons (sn_lst (E := TSector.E) _ _ false) (snL_cons (sn_fn _ _ (snL_cons (sn_ptr _ (ty := 37) (us := [(strA k100004_0), (lstA TVolume.E c41)]) (by first | rfl | (simp (disch := first | decide | assumption) only [mpushs_nil, mpushs_cons, mget_hd, mget_tl, mget_appW_o, mget_appW_n, mget_appW_e])) (snL_cons (sn_sc _ _) (snL_cons (sn_lst (E := TVolume.E) _ _ false) snL_nil))) snL_nil)) snL_nil)) (sg25 h64) rfl)) ?_
    refine imp exB_b ?_
    refine cond_b (fun _ => ?_) (fun _ => ?_)
    · exact fun hg => ret1 (hR _ (Option.some.inj hg).symm) (fz_sc _ _)
    · refine bind_b fun x65 h65 => ?_
      have neh65 := neO_some h65
      refine bind_b fun x66 h66 => ?_
      refine imp (opN_of (show _ = some ((ownV TVolume.E 200072 (L90000 ++ c41)), (appW TVolume.E 200072 90000 56 L90000 c41)) from (app_own (E := TVolume.E) (l' := L90000) (xs := c41) rfl rfl (cellsOf_lst (E := TVolume.E) rfl c41 false) (by first | assumption | simp) rfl (fun hne => Eq.trans (by first | rfl | (simp (disch := first | decide | assumption) only [mpushs_nil, mpushs_cons, mget_hd, mget_tl, mget_appW_o, mget_appW_n, mget_appW_e])) (ownB_ne hne)) h66))) ?_
      exact fun hg => hN0 _ (Option.some.inj hg).symm _ (weak_mem [(90000, 200072)] rfl rfl rfl (okW_cons (ent_lst (E := TSector.E) _ false) (okW_cons (.inl (leV_refl _)) (okW_cons (ent_own (E := TVolume.E) (id := 200072) (l' := (L90000 ++ c41)) rfl rfl) (okW_cons (ent_lst (E := TSector.E) _ false) (okW_cons (.inl (leV_refl _)) (okW_cons (.inl (leV_refl _)) okW_nil)))))) (okB_cons (okB_own (E := TVolume.E) (ty := 56) (l' := (L90000 ++ c41)) rfl (show mget _ 200072 = _ from (by first | rfl | (simp (disch := first | decide | assumption) only [mpushs_nil, mpushs_cons, mget_hd, mget_tl, mget_appW_o, mget_appW_n, mget_appW_e])))) okB_nil'))
theorem L14_0_0_ok (n : Nat) (a0 : List TSector) (c2 : Int) (v20 : Int) (c19 : Int) (c41 : List TVolume) (c42 : Int) (k100004_0 : ByteArray) {t : ((Int × List TVolume) ⊕ ρ14)} (R : AV → Mem → Prop) (N0 : St → Prop) (hR : ∀ r : ρ14, t = (.inr r) → ∀ u m, Ans ((intA r)) u m → R u m) (hN0 : ∀ y : Int × List TVolume, t = (.inl y) → ∀ s' : St, Weak KK 87 0 s' (h14_0 (lstA TSector.E a0) c2 (ownV TVolume.E 90000 y.2) (lstA TSector.E a0) c19 y.1 [(90000, ownB TVolume.E 56 y.2)]) → N0 s') (k : Nat) (x : Int × List TVolume) (hx : iterO (fun y : Int × List TVolume => S14_0_0 n a0 c2 v20 c19 c41 c42 k100004_0 y.1 y.2) k x = some t) {s : St} (hw : Weak KK 87 0 s (h14_0_0 (lstA TSector.E a0) c2 (ownV TVolume.E 90000 x.2) v20 (lstA TSector.E a0) c19 v20 (lstA TVolume.E c41) c42 x.1 k100004_0 (lstA TVolume.E c41) [(90000, ownB TVolume.E 56 x.2)])) : Tri Try.prog KK 87 0 (.loop c14_0_0) s (q14_0_0 R N0) :=
  L14_0_0 R N0 (σ := Nat × (Int × List TVolume)) (fun z => iterO (fun y : Int × List TVolume => S14_0_0 n a0 c2 v20 c19 c41 c42 k100004_0 y.1 y.2) z.1 z.2 = some t) (fun z => (lstA TSector.E a0)) (fun z => c2) (fun z => (ownV TVolume.E 90000 z.2.2)) (fun z => v20) (fun z => (lstA TSector.E a0)) (fun z => c19) (fun z => v20) (fun z => (lstA TVolume.E c41)) (fun z => c42) (fun z => z.2.1) (fun z => k100004_0) (fun z => (lstA TVolume.E c41)) (fun z => [(90000, ownB TVolume.E 56 z.2.2)]) (fun z => z.1) (by
    rintro ⟨k, y⟩ h
    cases k with
    | zero => exact (iterO_zero h).elim
    | succ k =>
      obtain ⟨u, h1, h2, h3⟩ := iterO_elim h
      exact B14_0_0_ok n a0 c2 v20 c19 c41 c42 k100004_0 y.1 y.2 R N0 _ (fun r e => hR r (h3 _ e).symm) (fun y' e => hN0 y' (h3 _ e).symm) (fun y' e s' hw => ⟨(k, y'), h2 _ e, Nat.lt_succ_self k, hw⟩) h1) (k, x) hx hw
theorem B14_1_0_ok (n : Nat) (c2 : Int) (L90000 : List TVolume) (c64 : Int) (v65 : Int) (x68 : List TVolume) (c73 : Int) (k200004_0 : List TP) (k200004_1 : Int) (k200004_2 : Int) (w74 : Int) {t : (Int) ⊕ ((Int) ⊕ ρ14)} (R : AV → Mem → Prop) (N0 : St → Prop) (N1 : St → Prop) (hR : ∀ r : ρ14, t = (.inr (.inr r)) → ∀ u m, Ans ((intA r)) u m → R u m) (hN0 : ∀ y : Int, t = (.inr (.inl y)) → ∀ s' : St, Weak KK 87 0 s' (h14_1 c2 (lstA TVolume.E L90000) (lstA TVolume.E L90000) c64 y []) → N0 s') (hN1 : ∀ y : Int, t = (.inl y) → ∀ s' : St, Weak KK 87 0 s' (h14_1_0 c2 (lstA TVolume.E L90000) (lstA TVolume.E L90000) c64 v65 (lstA TVolume.E x68) c73 y (lstA TP.E k200004_0) k200004_1 k200004_2 []) → N1 s') : S14_1_0 n c2 L90000 c64 v65 x68 c73 k200004_0 k200004_1 k200004_2 w74 = some t → B14_1_0 c2 (lstA TVolume.E L90000) (lstA TVolume.E L90000) c64 v65 (lstA TVolume.E x68) c73 w74 (lstA TP.E k200004_0) k200004_1 k200004_2 [] R N0 N1 := by
  unfold S14_1_0 B14_1_0
  refine cond_b (fun _ => ?_) (fun _ => ?_)
  · refine bind_b fun x69 h69 => ?_
    refine imp (opP_of (show _ = some ((AV.ept [(lstA TP.E x69.Area), (intA x69.Low), (intA x69.High)] 0), []) from (idx_lst (E := TVolume.E) rfl h69))) ?_
    refine imp (opP_of (show _ = some ((AV.agg [(lstA TP.E x69.Area), (intA x69.Low), (intA x69.High)]), []) from rfl)) ?_
    refine imp exA3_b ?_
    refine imp ex_i64_b ?_
    refine imp ex_i64_b ?_
    refine imp (chk_of rfl) ?_
    refine bind_b fun x111 h111 => ?_
    refine imp (callQ_says (sg27 h111)) ?_
    refine imp exT2_b ?_
    refine imp exB_b ?_
    refine imp ex_i64_b ?_
    refine cond_b (fun _ => ?_) (fun _ => ?_)
    · exact fun hg => ret1 (hR _ (Option.some.inj hg).symm) (fz_sc _ _)
    · exact fun hg => hN1 _ (Option.some.inj hg).symm _ (weak_mem [(200004, 200004)] rfl rfl rfl (okW_cons (.inl (leV_refl _)) (okW_cons (ent_lst (E := TVolume.E) _ false) (okW_cons (.inl (leV_refl _)) (okW_cons (ent_lst (E := TVolume.E) _ false) (okW_cons (.inl (leV_refl _)) (okW_cons (.inl (leV_refl _)) (okW_cons (ent_lst (E := TVolume.E) _ false) (okW_cons (.inl (leV_refl _)) (okW_cons (.inl (leV_refl _)) okW_nil))))))))) (okB_cons (okB_cells (cs := [(lstA TP.E k200004_0), (intA k200004_1), (intA k200004_2)]) (ty := 56) (by simp [clean, cleans, encs_clean]) (show mget _ 200004 = _ from (by first | rfl | (simp (disch := first | decide | assumption) only [mpushs_nil, mpushs_cons, mget_hd, mget_tl, mget_appW_o, mget_appW_n, mget_appW_e])))) okB_nil'))
  · exact fun hg => hN0 _ (Option.some.inj hg).symm _ (weak_mem [] rfl rfl rfl (okW_cons (.inl (leV_refl _)) (okW_cons (ent_lst (E := TVolume.E) _ false) (okW_cons (ent_lst (E := TVolume.E) _ false) (okW_cons (.inl (leV_refl _)) (okW_cons (.inl (leV_refl _)) okW_nil))))) okB_nil')
theorem L14_1_0_ok (n : Nat) (c2 : Int) (L90000 : List TVolume) (c64 : Int) (v65 : Int) (x68 : List TVolume) (c73 : Int) (k200004_0 : List TP) (k200004_1 : Int) (k200004_2 : Int) {t : ((Int) ⊕ ρ14)} (R : AV → Mem → Prop) (N0 : St → Prop) (hR : ∀ r : ρ14, t = (.inr r) → ∀ u m, Ans ((intA r)) u m → R u m) (hN0 : ∀ y : Int, t = (.inl y) → ∀ s' : St, Weak KK 87 0 s' (h14_1 c2 (lstA TVolume.E L90000) (lstA TVolume.E L90000) c64 y []) → N0 s') (k : Nat) (x : Int) (hx : iterO (fun y : Int => S14_1_0 n c2 L90000 c64 v65 x68 c73 k200004_0 k200004_1 k200004_2 y) k x = some t) {s : St} (hw : Weak KK 87 0 s (h14_1_0 c2 (lstA TVolume.E L90000) (lstA TVolume.E L90000) c64 v65 (lstA TVolume.E x68) c73 x (lstA TP.E k200004_0) k200004_1 k200004_2 [])) : Tri Try.prog KK 87 0 (.loop c14_1_0) s (q14_1_0 R N0) :=
  L14_1_0 R N0 (σ := Nat × (Int)) (fun z => iterO (fun y : Int => S14_1_0 n c2 L90000 c64 v65 x68 c73 k200004_0 k200004_1 k200004_2 y) z.1 z.2 = some t) (fun z => c2) (fun z => (lstA TVolume.E L90000)) (fun z => (lstA TVolume.E L90000)) (fun z => c64) (fun z => v65) (fun z => (lstA TVolume.E x68)) (fun z => c73) (fun z => z.2) (fun z => (lstA TP.E k200004_0)) (fun z => k200004_1) (fun z => k200004_2) (fun z => []) (fun z => z.1) (by
    rintro ⟨k, y⟩ h
    cases k with
    | zero => exact (iterO_zero h).elim
    | succ k =>
      obtain ⟨u, h1, h2, h3⟩ := iterO_elim h
      exact B14_1_0_ok n c2 L90000 c64 v65 x68 c73 k200004_0 k200004_1 k200004_2 y R N0 _ (fun r e => hR r (h3 _ e).symm) (fun y' e => hN0 y' (h3 _ e).symm) (fun y' e s' hw => ⟨(k, y'), h2 _ e, Nat.lt_succ_self k, hw⟩) h1) (k, x) hx hw
theorem B14_1_ok (n : Nat) (c2 : Int) (L90000 : List TVolume) (c64 : Int) (v65 : Int) {t : (Int) ⊕ ρ14} (R : AV → Mem → Prop) (N0 : St → Prop) (hR : ∀ r : ρ14, t = (.inr r) → ∀ u m, Ans ((intA r)) u m → R u m) (hN0 : ∀ y : Int, t = (.inl y) → ∀ s' : St, Weak KK 87 0 s' (h14_1 c2 (lstA TVolume.E L90000) (lstA TVolume.E L90000) c64 y []) → N0 s') : S14_1 n c2 L90000 c64 v65 = some t → B14_1 c2 (lstA TVolume.E L90000) (lstA TVolume.E L90000) c64 v65 [] R N0 := by
  unfold S14_1 B14_1
  refine cond_b (fun _ => ?_) (fun _ => ?_)
  · refine bind_b fun x67 h67 => ?_
    refine imp (opP_of (show _ = some ((AV.ept [(lstA TP.E x67.Area), (intA x67.Low), (intA x67.High)] 0), []) from (idx_lst (E := TVolume.E) rfl h67))) ?_
    refine imp (opP_of (show _ = some ((AV.agg [(lstA TP.E x67.Area), (intA x67.Low), (intA x67.High)]), []) from rfl)) ?_
    refine imp exA3_b ?_
    refine imp ex_i64_b ?_
    refine imp ex_i64_b ?_
    refine imp (chk_of rfl) ?_
    refine bind_b fun x68 h68 => ?_
    refine imp (opP_of (show _ = some ((lstA TVolume.E x68), []) from (slc_hi (E := TVolume.E) (e := 56) (by kernel_rfl) (by kernel_rfl) rfl h68))) ?_
    refine imp (opP_of (show _ = some ((intA (x68.length : Int)), []) from rfl)) ?_
    refine imp ex_i64_b ?_
    exact fun hg => L14_1_0_ok n c2 L90000 c64 v65 x68 (x68.length : Int) x67.Area x67.Low x67.High R N0 hR hN0 n _ hg (weak_mem [(200004, 200004)] rfl rfl rfl (okW_cons (.inl (leV_refl _)) (okW_cons (ent_lst (E := TVolume.E) _ false) (okW_cons (.inl (leV_refl _)) (okW_cons (ent_lst (E := TVolume.E) _ false) (okW_cons (.inl (leV_refl _)) (okW_cons (.inl (leV_refl _)) (okW_cons (ent_lst (E := TVolume.E) _ false) (okW_cons (.inl (leV_refl _)) (okW_cons (.inl (leV_refl _)) okW_nil))))))))) (okB_cons (okB_cells (cs := [(lstA TP.E x67.Area), (intA x67.Low), (intA x67.High)]) (ty := 56) (by simp [clean, cleans, encs_clean]) (show mget _ 200004 = _ from (by first | rfl | (simp (disch := first | decide | assumption) only [mpushs_nil, mpushs_cons, mget_hd, mget_tl, mget_appW_o, mget_appW_n, mget_appW_e])))) okB_nil'))
  · exact fun hg => ret1 (hR _ (Option.some.inj hg).symm) (fz_sc _ _)
theorem L14_1_ok (n : Nat) (c2 : Int) (L90000 : List TVolume) (c64 : Int) {t : ρ14} (R : AV → Mem → Prop) (hR : ∀ r : ρ14, t = r → ∀ u m, Ans ((intA r)) u m → R u m) (k : Nat) (x : Int) (hx : iterO (fun y : Int => S14_1 n c2 L90000 c64 y) k x = some t) {s : St} (hw : Weak KK 87 0 s (h14_1 c2 (lstA TVolume.E L90000) (lstA TVolume.E L90000) c64 x [])) : Tri Try.prog KK 87 0 (.loop c14_1) s (q14_1 R ) :=
  L14_1 R  (σ := Nat × (Int)) (fun z => iterO (fun y : Int => S14_1 n c2 L90000 c64 y) z.1 z.2 = some t) (fun z => c2) (fun z => (lstA TVolume.E L90000)) (fun z => (lstA TVolume.E L90000)) (fun z => c64) (fun z => z.2) (fun z => []) (fun z => z.1) (by
    rintro ⟨k, y⟩ h
    cases k with
    | zero => exact (iterO_zero h).elim
    | succ k =>
      obtain ⟨u, h1, h2, h3⟩ := iterO_elim h
      exact B14_1_ok n c2 L90000 c64 y R  _ (fun r e => hR r (h3 _ e).symm)  (fun y' e s' hw => ⟨(k, y'), h2 _ e, Nat.lt_succ_self k, hw⟩) h1) (k, x) hx hw
theorem B14_0_ok (n : Nat) (a0 : List TSector) (c2 : Int) (c19 : Int) (v20 : Int) (L90000 : List TVolume) {t : (Int × List TVolume) ⊕ ρ14} (R : AV → Mem → Prop) (N0 : St → Prop) (hR : ∀ r : ρ14, t = (.inr r) → ∀ u m, Ans ((intA r)) u m → R u m) (hN0 : ∀ y : Int × List TVolume, t = (.inl y) → ∀ s' : St, Weak KK 87 0 s' (h14_0 (lstA TSector.E a0) c2 (ownV TVolume.E 90000 y.2) (lstA TSector.E a0) c19 y.1 [(90000, ownB TVolume.E 56 y.2)]) → N0 s') : S14_0 n a0 c2 c19 v20 L90000 = some t → B14_0 (lstA TSector.E a0) c2 (ownV TVolume.E 90000 L90000) (lstA TSector.E a0) c19 v20 [(90000, ownB TVolume.E 56 L90000)] R N0 := by
  unfold S14_0 B14_0
  refine cond_b (fun _ => ?_) (fun _ => ?_)
  · refine bind_b fun x26 h26 => ?_
    refine imp (opP_of (show _ = some ((AV.ept [(strA x26.Name), (lstA TVolume.E x26.Room)] 0), []) from (idx_lst (E := TSector.E) rfl h26))) ?_
    refine imp (opP_of (show _ = some ((AV.agg [(strA x26.Name), (lstA TVolume.E x26.Room)]), []) from rfl)) ?_
    refine imp exA2_b ?_
    refine imp exStr_b ?_
    refine imp (chk_of rfl) ?_
    refine bind_b fun x30 h30 => ?_
    refine imp (callQ_says (sg16 h30)) ?_
    refine imp exB_b ?_
    refine cond_b (fun _ => ?_) (fun _ => ?_)
    · exact fun hg => ret1 (hR _ (Option.some.inj hg).symm) (fz_sc _ _)
    · refine imp (opP_of (show _ = some ((intA (x26.Room.length : Int)), []) from rfl)) ?_
      refine imp ex_i64_b ?_
      refine cond_b (fun _ => ?_) (fun _ => ?_)
      · exact fun hg => ret1 (hR _ (Option.some.inj hg).symm) (fz_sc _ _)
      · refine imp (opP_of (show _ = some ((intA (x26.Room.length : Int)), []) from rfl)) ?_
        refine imp ex_i64_b ?_
        refine cond_b (fun _ => ?_) (fun _ => ?_)
        · exact fun hg => ret1 (hR _ (Option.some.inj hg).symm) (fz_sc _ _)
        · refine imp (opP_of (show _ = some ((intA (x26.Room.length : Int)), []) from rfl)) ?_
          refine imp ex_i64_b ?_
          exact fun hg => L14_0_0_ok n a0 c2 v20 c19 x26.Room (x26.Room.length : Int) x26.Name R N0 hR hN0 n _ hg (weak_mem [(90000, 90000), (100004, 100004)] rfl rfl rfl (okW_cons (ent_lst (E := TSector.E) _ false) (okW_cons (.inl (leV_refl _)) (okW_cons (ent_own (E := TVolume.E) (id := 90000) (l' := L90000) rfl rfl) (okW_cons (.inl (leV_refl _)) (okW_cons (.inl (leV_refl _)) (okW_cons (ent_lst (E := TSector.E) _ false) (okW_cons (.inl (leV_refl _)) (okW_cons (.inl (leV_refl _)) (okW_cons (ent_lst (E := TVolume.E) _ false) (okW_cons (.inl (leV_refl _)) (okW_cons (.inl (leV_refl _)) okW_nil))))))))))) (okB_cons (okB_cells (cs := [(strA x26.Name), (lstA TVolume.E x26.Room)]) (ty := 37) (by simp [clean, cleans, encs_clean]) (show mget _ 100004 = _ from (by first | rfl | (simp (disch := first | decide | assumption) only [mpushs_nil, mpushs_cons, mget_hd, mget_tl, mget_appW_o, mget_appW_n, mget_appW_e])))) (okB_cons (okB_own (E := TVolume.E) (ty := 56) (l' := L90000) rfl (show mget _ 90000 = _ from (by first | rfl | (simp (disch := first | decide | assumption) only [mpushs_nil, mpushs_cons, mget_hd, mget_tl, mget_appW_o, mget_appW_n, mget_appW_e])))) okB_nil')))
  · refine imp (opP_of (show _ = some ((intA (L90000.length : Int)), []) from len_own)) ?_
    refine imp ex_i64_b ?_
    refine mapInr_b fun t0 e0 => ?_
    exact fun hg => L14_1_ok n c2 L90000 (L90000.length : Int) R  (fun r e => hR r (e0.trans (congrArg Sum.inr e))) n _ hg (weak_mem [] rfl rfl rfl (okW_cons (.inl (leV_refl _)) (okW_cons (ent_own_frz (E := TVolume.E) (ty := 56) (l' := L90000) rfl (by first | rfl | (simp (disch := first | decide | assumption) only [mpushs_nil, mpushs_cons, mget_hd, mget_tl, mget_appW_o, mget_appW_n, mget_appW_e])) rfl) (okW_cons (ent_own_frz (E := TVolume.E) (ty := 56) (l' := L90000) rfl (by first | rfl | (simp (disch := first | decide | assumption) only [mpushs_nil, mpushs_cons, mget_hd, mget_tl, mget_appW_o, mget_appW_n, mget_appW_e])) rfl) (okW_cons (.inl (leV_refl _)) (okW_cons (.inl (leV_refl _)) okW_nil))))) okB_nil')
theorem L14_0_ok (n : Nat) (a0 : List TSector) (c2 : Int) (c19 : Int) {t : ρ14} (R : AV → Mem → Prop) (hR : ∀ r : ρ14, t = r → ∀ u m, Ans ((intA r)) u m → R u m) (k : Nat) (x : Int × List TVolume) (hx : iterO (fun y : Int × List TVolume => S14_0 n a0 c2 c19 y.1 y.2) k x = some t) {s : St} (hw : Weak KK 87 0 s (h14_0 (lstA TSector.E a0) c2 (ownV TVolume.E 90000 x.2) (lstA TSector.E a0) c19 x.1 [(90000, ownB TVolume.E 56 x.2)])) : Tri Try.prog KK 87 0 (.loop c14_0) s (q14_0 R ) :=
  L14_0 R  (σ := Nat × (Int × List TVolume)) (fun z => iterO (fun y : Int × List TVolume => S14_0 n a0 c2 c19 y.1 y.2) z.1 z.2 = some t) (fun z => (lstA TSector.E a0)) (fun z => c2) (fun z => (ownV TVolume.E 90000 z.2.2)) (fun z => (lstA TSector.E a0)) (fun z => c19) (fun z => z.2.1) (fun z => [(90000, ownB TVolume.E 56 z.2.2)]) (fun z => z.1) (by
    rintro ⟨k, y⟩ h
    cases k with
    | zero => exact (iterO_zero h).elim
    | succ k =>
      obtain ⟨u, h1, h2, h3⟩ := iterO_elim h
      exact B14_0_ok n a0 c2 c19 y.1 y.2 R  _ (fun r e => hR r (h3 _ e).symm)  (fun y' e s' hw => ⟨(k, y'), h2 _ e, Nat.lt_succ_self k, hw⟩) h1) (k, x) hx hw
theorem g14_ok (n : Nat) (a0 : List TSector) {t : ρ14} (R : AV → Mem → Prop) (hR : ∀ r : ρ14, t = r → ∀ u m, Ans ((intA r)) u m → R u m) : g14 n a0 = some t → F14 (lstA TSector.E a0) R := by
  unfold g14 F14
  refine imp (opP_of (show _ = some ((intA (a0.length : Int)), []) from rfl)) ?_
  refine imp ex_i64_b ?_
  refine cond_b (fun _ => ?_) (fun _ => ?_)
  · exact fun hg => ret1 (hR _ (Option.some.inj hg).symm) (fz_sc _ _)
  · refine imp (opP_of (show _ = some ((intA (a0.length : Int)), []) from rfl)) ?_
    refine imp ex_i64_b ?_
    exact fun hg => L14_0_ok n a0 (0) (a0.length : Int) R  hR n _ hg (weak_mem [(90000, 89500)] rfl rfl rfl (okW_cons (ent_lst (E := TSector.E) _ false) (okW_cons (.inl (leV_refl _)) (okW_cons ent_nils_own (okW_cons (ent_lst (E := TSector.E) _ false) (okW_cons (.inl (leV_refl _)) (okW_cons (.inl (leV_refl _)) okW_nil)))))) (okB_cons okB_nil okB_nil'))
theorem sg14 {n : Nat} {a0 : List TSector} {t : ρ14} (h : g14 n a0 = some t) : Says Try.prog KK.gl 14 [(lstA TSector.E a0)] ((intA t)) :=
  says_of_own (by first | rfl | simp [cleans, clean, encs_clean, En.cln]) (by first | rfl | simp [cleans, clean, encs_clean, En.cln]) (F14_own (lstA TSector.E a0) _ (g14_ok n a0 (Ans ((intA t))) (fun r e u m h => by rw [e]; exact h) h))
/- skyway/tube.at$1 -/
theorem g54_ok (n : Nat) (a0 : TTubeNode) (a1 : Int) {t : ρ54} (R : AV → Mem → Prop) (hR : ∀ r : ρ54, t = r → ∀ u m, Ans ((intA r)) u m → R u m) : g54 n a0 a1 = some t → F54 a0.Node_Time a0.Node_At_X a0.Node_At_Y a0.Node_Height a0.Radius a0.Band a1 R := by
  unfold g54 F54
  exact fun hg => ret1 (hR _ (Option.some.inj hg).symm) (fz_sc _ _)
theorem sg54 {n : Nat} {a0 : TTubeNode} {a1 : Int} {t : ρ54} (h : g54 n a0 a1 = some t) : Says Try.prog KK.gl 54 [(AV.agg [(intA a0.Node_Time), (intA a0.Node_At_X), (intA a0.Node_At_Y), (intA a0.Node_Height), (intA a0.Radius), (intA a0.Band)]), (intA a1)] ((intA t)) :=
  says_of_own (by first | rfl | simp [cleans, clean, encs_clean, En.cln]) (by first | rfl | simp [cleans, clean, encs_clean, En.cln]) (F54_own a0.Node_Time a0.Node_At_X a0.Node_At_Y a0.Node_Height a0.Radius a0.Band a1 _ (g54_ok n a0 a1 (Ans ((intA t))) (fun r e u m h => by rw [e]; exact h) h))
/- slices.BinarySearchFunc[skyway/api.Tube,skyway/api.TubeNode,int] -/
theorem B53_0_ok (n : Nat) (a0 : List TTubeNode) (a1 : Int) (c6 : Int) (c7 : Bool) (c8 : Int) (v9 : Int) (v10 : Int) {t : (Int × Int) ⊕ ρ53} (R : AV → Mem → Prop) (N0 : St → Prop) (hR : ∀ r : ρ53, t = (.inr r) → ∀ u m, Ans ((AV.tup [(intA r.1), (boolA r.2)])) u m → R u m) (hN0 : ∀ y : Int × Int, t = (.inl y) → ∀ s' : St, Weak KK 49 0 s' (h53_0 (lstA TTubeNode.E a0) a1 (AV.fn 54 []) c6 c7 c8 y.1 y.2 []) → N0 s') : S53_0 n a0 a1 c6 c7 c8 v9 v10 = some t → B53_0 (lstA TTubeNode.E a0) a1 (AV.fn 54 []) c6 c7 c8 v9 v10 [] R N0 := by
  unfold S53_0 B53_0
  refine cond_b (fun _ => ?_) (fun _ => ?_)
  · refine imp (opP_of (show _ = some ((AV.sc (.int .u64 (IntKind.wrap .u64 (IntKind.wrap .i64 (v9 + v10))))), []) from (by kernel_rfl))) ?_
    refine imp ex_u64_b ?_
    refine imp (opP_of (show _ = some ((AV.sc (.int .u64 (Int.fdiv (IntKind.wrap .u64 (IntKind.wrap .i64 (v9 + v10))) 2))), []) from opA_shr1)) ?_
    refine imp ex_u64_b ?_
    refine imp (opP_of (show _ = some ((intA (IntKind.wrap .i64 (Int.fdiv (IntKind.wrap .u64 (IntKind.wrap .i64 (v9 + v10))) 2))), []) from (by kernel_rfl))) ?_
    refine imp ex_i64_b ?_
    refine bind_b fun x112 h112 => ?_
    refine imp (opP_of (show _ = some ((AV.ept [(intA x112.Node_Time), (intA x112.Node_At_X), (intA x112.Node_At_Y), (intA x112.Node_Height), (intA x112.Radius), (intA x112.Band)] 0), []) from (idx_lst (E := TTubeNode.E) rfl h112))) ?_
    refine imp (opP_of (show _ = some ((AV.agg [(intA x112.Node_Time), (intA x112.Node_At_X), (intA x112.Node_At_Y), (intA x112.Node_Height), (intA x112.Radius), (intA x112.Band)]), []) from rfl)) ?_
    refine imp exA6_b ?_
    refine imp ex_i64_b ?_
    refine imp ex_i64_b ?_
    refine imp ex_i64_b ?_
    refine imp ex_i64_b ?_
    refine imp ex_i64_b ?_
    refine imp ex_i64_b ?_
    refine bind_b fun x113 h113 => ?_
    refine imp fnArgs_b ?_
    refine imp (cond_tt rfl) ?_
    refine imp (callQ_says (sg54 h113)) ?_
    refine imp ex_i64_b ?_
    refine cond_b (fun _ => ?_) (fun _ => ?_)
    · exact fun hg => hN0 _ (Option.some.inj hg).symm _ (weak_mem [] rfl rfl rfl (okW_cons (ent_lst (E := TTubeNode.E) _ false) (okW_cons (.inl (leV_refl _)) (okW_cons (.inl (leV_refl _)) (okW_cons (.inl (leV_refl _)) (okW_cons (.inl (leV_refl _)) (okW_cons (.inl (leV_refl _)) (okW_cons (.inl (leV_refl _)) (okW_cons (.inl (leV_refl _)) okW_nil)))))))) okB_nil')
    · exact fun hg => hN0 _ (Option.some.inj hg).symm _ (weak_mem [] rfl rfl rfl (okW_cons (ent_lst (E := TTubeNode.E) _ false) (okW_cons (.inl (leV_refl _)) (okW_cons (.inl (leV_refl _)) (okW_cons (.inl (leV_refl _)) (okW_cons (.inl (leV_refl _)) (okW_cons (.inl (leV_refl _)) (okW_cons (.inl (leV_refl _)) (okW_cons (.inl (leV_refl _)) okW_nil)))))))) okB_nil')
  · refine cond_b (fun _ => ?_) (fun _ => ?_)
    · refine bind_b fun x114 h114 => ?_
      refine imp (opP_of (show _ = some ((AV.ept [(intA x114.Node_Time), (intA x114.Node_At_X), (intA x114.Node_At_Y), (intA x114.Node_Height), (intA x114.Radius), (intA x114.Band)] 0), []) from (idx_lst (E := TTubeNode.E) rfl h114))) ?_
      refine imp (opP_of (show _ = some ((AV.agg [(intA x114.Node_Time), (intA x114.Node_At_X), (intA x114.Node_At_Y), (intA x114.Node_Height), (intA x114.Radius), (intA x114.Band)]), []) from rfl)) ?_
      refine imp exA6_b ?_
      refine imp ex_i64_b ?_
      refine imp ex_i64_b ?_
      refine imp ex_i64_b ?_
      refine imp ex_i64_b ?_
      refine imp ex_i64_b ?_
      refine imp ex_i64_b ?_
      refine bind_b fun x115 h115 => ?_
      refine imp fnArgs_b ?_
      refine imp (cond_tt rfl) ?_
      refine imp (callQ_says (sg54 h115)) ?_
      refine imp ex_i64_b ?_
      exact fun hg => retN rfl (hR _ (Option.some.inj hg).symm) (fzL_cons (fz_sc _ _) (fzL_cons (fz_sc _ _) fzL_nil))
    · exact fun hg => retN rfl (hR _ (Option.some.inj hg).symm) (fzL_cons (fz_sc _ _) (fzL_cons (fz_sc _ _) fzL_nil))
theorem L53_0_ok (n : Nat) (a0 : List TTubeNode) (a1 : Int) (c6 : Int) (c7 : Bool) (c8 : Int) {t : ρ53} (R : AV → Mem → Prop) (hR : ∀ r : ρ53, t = r → ∀ u m, Ans ((AV.tup [(intA r.1), (boolA r.2)])) u m → R u m) (k : Nat) (x : Int × Int) (hx : iterO (fun y : Int × Int => S53_0 n a0 a1 c6 c7 c8 y.1 y.2) k x = some t) {s : St} (hw : Weak KK 49 0 s (h53_0 (lstA TTubeNode.E a0) a1 (AV.fn 54 []) c6 c7 c8 x.1 x.2 [])) : Tri Try.prog KK 49 0 (.loop c53_0) s (q53_0 R ) :=
  L53_0 R  (σ := Nat × (Int × Int)) (fun z => iterO (fun y : Int × Int => S53_0 n a0 a1 c6 c7 c8 y.1 y.2) z.1 z.2 = some t) (fun z => (lstA TTubeNode.E a0)) (fun z => a1) (fun z => (AV.fn 54 [])) (fun z => c6) (fun z => c7) (fun z => c8) (fun z => z.2.1) (fun z => z.2.2) (fun z => []) (fun z => z.1) (by
    rintro ⟨k, y⟩ h
    cases k with
    | zero => exact (iterO_zero h).elim
    | succ k =>
      obtain ⟨u, h1, h2, h3⟩ := iterO_elim h
      exact B53_0_ok n a0 a1 c6 c7 c8 y.1 y.2 R  _ (fun r e => hR r (h3 _ e).symm)  (fun y' e s' hw => ⟨(k, y'), h2 _ e, Nat.lt_succ_self k, hw⟩) h1) (k, x) hx hw
theorem g53_ok (n : Nat) (a0 : List TTubeNode) (a1 : Int) {t : ρ53} (R : AV → Mem → Prop) (hR : ∀ r : ρ53, t = r → ∀ u m, Ans ((AV.tup [(intA r.1), (boolA r.2)])) u m → R u m) : g53 n a0 a1 = some t → F53 (lstA TTubeNode.E a0) a1 (AV.fn 54 []) R := by
  unfold g53 F53
  refine imp (opP_of (show _ = some ((intA (a0.length : Int)), []) from rfl)) ?_
  refine imp ex_i64_b ?_
  exact fun hg => L53_0_ok n a0 a1 (0) false (a0.length : Int) R  hR n _ hg (weak_mem [] rfl rfl rfl (okW_cons (ent_lst (E := TTubeNode.E) _ false) (okW_cons (.inl (leV_refl _)) (okW_cons (.inl (leV_refl _)) (okW_cons (.inl (leV_refl _)) (okW_cons (.inl (leV_refl _)) (okW_cons (.inl (leV_refl _)) (okW_cons (.inl (leV_refl _)) (okW_cons (.inl (leV_refl _)) okW_nil)))))))) okB_nil')
theorem sg53 {n : Nat} {a0 : List TTubeNode} {a1 : Int} {t : ρ53} (h : g53 n a0 a1 = some t) : Says Try.prog KK.gl 53 [(lstA TTubeNode.E a0), (intA a1), (AV.fn 54 [])] ((AV.tup [(intA t.1), (boolA t.2)])) :=
  says_of_own (by first | rfl | simp [cleans, clean, encs_clean, En.cln]) (by first | rfl | simp [cleans, clean, encs_clean, En.cln]) (F53_own (lstA TTubeNode.E a0) a1 (AV.fn 54 []) _ (g53_ok n a0 a1 (Ans ((AV.tup [(intA t.1), (boolA t.2)]))) (fun r e u m h => by rw [e]; exact h) h))
/- skyway/num.DivDown -/
theorem g56_ok (n : Nat) (a0 : Int) (a1 : Int) {t : ρ56} (R : AV → Mem → Prop) (hR : ∀ r : ρ56, t = r → ∀ u m, Ans ((AV.tup [(intA r.1), (intA r.2)])) u m → R u m) : g56 n a0 a1 = some t → F56 a0 a1 R := by
  unfold g56 F56
  refine cond_b (fun _ => ?_) (fun _ => ?_)
  · exact fun hg => retN rfl (hR _ (Option.some.inj hg).symm) (fzL_cons (fz_sc _ _) (fzL_cons (fz_sc _ _) fzL_nil))
  · refine cond_b (fun _ => ?_) (fun _ => ?_)
    · refine cond_b (fun _ => ?_) (fun _ => ?_)
      · exact fun hg => retN rfl (hR _ (Option.some.inj hg).symm) (fzL_cons (fz_sc _ _) (fzL_cons (fz_sc _ _) fzL_nil))
      · refine bind_b fun x124 h124 => ?_
        refine imp (opP_of (show _ = some ((intA (IntKind.wrap .i64 x124)), []) from (opA_quo h124))) ?_
        refine imp ex_i64_b ?_
        refine bind_b fun x125 h125 => ?_
        refine imp (opP_of (show _ = some ((intA x125), []) from (opA_rem h125))) ?_
        refine imp ex_i64_b ?_
        refine cond_b (fun _ => ?_) (fun _ => ?_)
        · refine imp (opP_of (show _ = some ((boolA (!((decide (a0 < (0))) == (decide (a1 < (0)))))), []) from (by kernel_rfl))) ?_
          refine imp exB_b ?_
          refine cond_b (fun _ => ?_) (fun _ => ?_)
          · exact fun hg => retN rfl (hR _ (Option.some.inj hg).symm) (fzL_cons (fz_sc _ _) (fzL_cons (fz_sc _ _) fzL_nil))
          · exact fun hg => retN rfl (hR _ (Option.some.inj hg).symm) (fzL_cons (fz_sc _ _) (fzL_cons (fz_sc _ _) fzL_nil))
        · exact fun hg => retN rfl (hR _ (Option.some.inj hg).symm) (fzL_cons (fz_sc _ _) (fzL_cons (fz_sc _ _) fzL_nil))
    · refine bind_b fun x126 h126 => ?_
      refine imp (opP_of (show _ = some ((intA (IntKind.wrap .i64 x126)), []) from (opA_quo h126))) ?_
      refine imp ex_i64_b ?_
      refine bind_b fun x127 h127 => ?_
      refine imp (opP_of (show _ = some ((intA x127), []) from (opA_rem h127))) ?_
      refine imp ex_i64_b ?_
      refine cond_b (fun _ => ?_) (fun _ => ?_)
      · refine imp (opP_of (show _ = some ((boolA (!((decide (a0 < (0))) == (decide (a1 < (0)))))), []) from (by kernel_rfl))) ?_
        refine imp exB_b ?_
        refine cond_b (fun _ => ?_) (fun _ => ?_)
        · exact fun hg => retN rfl (hR _ (Option.some.inj hg).symm) (fzL_cons (fz_sc _ _) (fzL_cons (fz_sc _ _) fzL_nil))
        · exact fun hg => retN rfl (hR _ (Option.some.inj hg).symm) (fzL_cons (fz_sc _ _) (fzL_cons (fz_sc _ _) fzL_nil))
      · exact fun hg => retN rfl (hR _ (Option.some.inj hg).symm) (fzL_cons (fz_sc _ _) (fzL_cons (fz_sc _ _) fzL_nil))
theorem sg56 {n : Nat} {a0 : Int} {a1 : Int} {t : ρ56} (h : g56 n a0 a1 = some t) : Says Try.prog KK.gl 56 [(intA a0), (intA a1)] ((AV.tup [(intA t.1), (intA t.2)])) :=
  says_of_own (by first | rfl | simp [cleans, clean, encs_clean, En.cln]) (by first | rfl | simp [cleans, clean, encs_clean, En.cln]) (F56_own a0 a1 _ (g56_ok n a0 a1 (Ans ((AV.tup [(intA t.1), (intA t.2)]))) (fun r e u m h => by rw [e]; exact h) h))
end Go.Proofs.Ytfncpfnanmoapaa
