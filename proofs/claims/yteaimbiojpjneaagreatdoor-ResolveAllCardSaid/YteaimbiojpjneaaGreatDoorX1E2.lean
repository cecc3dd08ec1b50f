/- Plain functional programs out of the program's functions, with proofs that the functions compute them; printed by wip/Ext.lean.txt. -/
import Derived.Test.YteaimbiojpjneaaGreatDoorX1E1
set_option linter.unusedVariables false
set_option linter.unusedSimpArgs false
set_option maxRecDepth 100000
set_option maxHeartbeats 4000000
namespace Go.Proofs.YteaimbiojpjneaaGreatDoor
/- skyway/probe.All -/
theorem B15_0_0_0_ok (n : Nat) (a0 : List (List TTubeNode)) (c5 : Int) (v29 : Int) (w10 : Int) (c28 : Int) (x69 : List TSpan) (c50 : Int) (k0_0 : Int) (k0_1 : Int) (u51 : Int) (L90000 : List TClash) {t : (Int × List TClash) ⊕ ((Int × List TClash) ⊕ ((Int × List TClash) ⊕ ρ15))} (R : AV → Mem → Prop) (N0 : St → Prop) (N1 : St → Prop) (N2 : St → Prop) (hR : ∀ r : ρ15, t = (.inr (.inr (.inr r))) → ∀ u m, Ans ((AV.tup [(lstA TClash.E r.1), (intA r.2)])) u m → R u m) (hN0 : ∀ y : Int × List TClash, t = (.inr (.inr (.inl y))) → ∀ s' : St, Weak KK 74 0 s' (h15_0 (lstA (lstE TTubeNode.E) a0) AV.nils c5 (ownV TClash.E 90000 y.2) c28 y.1 k0_0 k0_1 [(90000, ownB TClash.E 60 y.2)]) → N0 s') (hN1 : ∀ y : Int × List TClash, t = (.inr (.inl y)) → ∀ s' : St, Weak KK 74 0 s' (h15_0_0 (lstA (lstE TTubeNode.E) a0) AV.nils c5 (ownV TClash.E 90000 y.2) v29 y.1 c28 v29 k0_0 k0_1 [(90000, ownB TClash.E 60 y.2)]) → N1 s') (hN2 : ∀ y : Int × List TClash, t = (.inl y) → ∀ s' : St, Weak KK 74 0 s' (h15_0_0_0 (lstA (lstE TTubeNode.E) a0) AV.nils c5 (ownV TClash.E 90000 y.2) v29 w10 c28 v29 (lstA TSpan.E x69) c50 y.1 k0_0 k0_1 [(90000, ownB TClash.E 60 y.2)]) → N2 s') : S15_0_0_0 n a0 c5 v29 w10 c28 x69 c50 k0_0 k0_1 u51 L90000 = some t → B15_0_0_0 (lstA (lstE TTubeNode.E) a0) AV.nils c5 (ownV TClash.E 90000 L90000) v29 w10 c28 v29 (lstA TSpan.E x69) c50 u51 k0_0 k0_1 [(90000, ownB TClash.E 60 L90000)] R N0 N1 N2 := by
  unfold S15_0_0_0 B15_0_0_0
  refine cond_b (fun _ => ?_) (fun _ => ?_)
  · refine bind_b fun x70 h70 => ?_
    refine imp (opP_of (show _ = some ((AV.ept [(intA x70.From), (intA x70.To)] 0), []) from (idx_lst (E := TSpan.E) rfl h70))) ?_
    refine imp (opP_of (show _ = some ((AV.agg [(intA x70.From), (intA x70.To)]), []) from rfl)) ?_
    refine imp exA2_b ?_
    refine imp ex_i64_b ?_
    refine imp ex_i64_b ?_
    refine imp (opP_of (show _ = some ((AV.agg [(intA v29), (intA w10), (intA x70.From), (intA (IntKind.wrap .i64 (x70.To - (1))))]), []) from rfl)) ?_
    refine imp (opN_of (show _ = some ((blkV TClash.E 300014 ([(⟨v29, w10, x70.From, (IntKind.wrap .i64 (x70.To - (1)))⟩ : TClash)] : List TClash)), [(300014, some ⟨encs TClash.E ([(⟨v29, w10, x70.From, (IntKind.wrap .i64 (x70.To - (1)))⟩ : TClash)] : List TClash), 60⟩)]) from rfl)) ?_
    refine bind_b fun x72 h72 => ?_
    refine imp (opN_of (show _ = some ((ownV TClash.E 300015 (L90000 ++ ([(⟨v29, w10, x70.From, (IntKind.wrap .i64 (x70.To - (1)))⟩ : TClash)] : List TClash))), (appW TClash.E 300015 90000 60 L90000 ([(⟨v29, w10, x70.From, (IntKind.wrap .i64 (x70.To - (1)))⟩ : TClash)] : List TClash))) from (app_own (E := TClash.E) (l' := L90000) (xs := ([(⟨v29, w10, x70.From, (IntKind.wrap .i64 (x70.To - (1)))⟩ : TClash)] : List TClash)) rfl rfl (cellsOf_blk (E := TClash.E) (ty := 60) rfl rfl (by first | rfl | (simp (disch := first | decide | assumption) only [mpushs_nil, mpushs_cons, mget_hd, mget_tl, mget_appW_o, mget_appW_n, mget_appW_e]))) (by first | assumption | simp) rfl (fun hne => Eq.trans (by first | rfl | (simp (disch := first | decide | assumption) only [mpushs_nil, mpushs_cons, mget_hd, mget_tl, mget_appW_o, mget_appW_n, mget_appW_e])) (ownB_ne hne)) h72))) ?_
    exact fun hg => hN2 _ (Option.some.inj hg).symm _ (weak_mem [(90000, 300015), (0, 0)] rfl rfl rfl (okW_cons (ent_lst (E := (lstE TTubeNode.E)) _ false) (okW_cons (.inl (leV_refl _)) (okW_cons (.inl (leV_refl _)) (okW_cons (.inl (leV_refl _)) (okW_cons (ent_own (E := TClash.E) (id := 300015) (l' := (L90000 ++ ([(⟨v29, w10, x70.From, (IntKind.wrap .i64 (x70.To - (1)))⟩ : TClash)] : List TClash))) rfl rfl) (okW_cons (.inl (leV_refl _)) (okW_cons (.inl (leV_refl _)) (okW_cons (.inl (leV_refl _)) (okW_cons (.inl (leV_refl _)) (okW_cons (ent_lst (E := TSpan.E) _ false) (okW_cons (.inl (leV_refl _)) (okW_cons (.inl (leV_refl _)) okW_nil)))))))))))) (okB_cons (okB_cells (cs := [(intA k0_0), (intA k0_1)]) (ty := 38) rfl (show mget _ 0 = _ from (by first | rfl | (simp (disch := first | decide | assumption) only [mpushs_nil, mpushs_cons, mget_hd, mget_tl, mget_appW_o, mget_appW_n, mget_appW_e])))) (okB_cons (okB_own (E := TClash.E) (ty := 60) (l' := (L90000 ++ ([(⟨v29, w10, x70.From, (IntKind.wrap .i64 (x70.To - (1)))⟩ : TClash)] : List TClash))) rfl (show mget _ 300015 = _ from (by first | rfl | (simp (disch := first | decide | assumption) only [mpushs_nil, mpushs_cons, mget_hd, mget_tl, mget_appW_o, mget_appW_n, mget_appW_e])))) okB_nil')))
  · exact fun hg => hN1 _ (Option.some.inj hg).symm _ (weak_mem [(90000, 90000), (0, 0)] rfl rfl rfl (okW_cons (ent_lst (E := (lstE TTubeNode.E)) _ false) (okW_cons (.inl (leV_refl _)) (okW_cons (.inl (leV_refl _)) (okW_cons (.inl (leV_refl _)) (okW_cons (ent_own (E := TClash.E) (id := 90000) (l' := L90000) rfl rfl) (okW_cons (.inl (leV_refl _)) (okW_cons (.inl (leV_refl _)) (okW_cons (.inl (leV_refl _)) (okW_cons (.inl (leV_refl _)) okW_nil))))))))) (okB_cons (okB_cells (cs := [(intA k0_0), (intA k0_1)]) (ty := 38) rfl (show mget _ 0 = _ from (by first | rfl | (simp (disch := first | decide | assumption) only [mpushs_nil, mpushs_cons, mget_hd, mget_tl, mget_appW_o, mget_appW_n, mget_appW_e])))) (okB_cons (okB_own (E := TClash.E) (ty := 60) (l' := L90000) rfl (show mget _ 90000 = _ from (by first | rfl | (simp (disch := first | decide | assumption) only [mpushs_nil, mpushs_cons, mget_hd, mget_tl, mget_appW_o, mget_appW_n, mget_appW_e])))) okB_nil')))
theorem L15_0_0_0_ok (n : Nat) (a0 : List (List TTubeNode)) (c5 : Int) (v29 : Int) (w10 : Int) (c28 : Int) (x69 : List TSpan) (c50 : Int) (k0_0 : Int) (k0_1 : Int) {t : ((Int × List TClash) ⊕ ((Int × List TClash) ⊕ ρ15))} (R : AV → Mem → Prop) (N0 : St → Prop) (N1 : St → Prop) (hR : ∀ r : ρ15, t = (.inr (.inr r)) → ∀ u m, Ans ((AV.tup [(lstA TClash.E r.1), (intA r.2)])) u m → R u m) (hN0 : ∀ y : Int × List TClash, t = (.inr (.inl y)) → ∀ s' : St, Weak KK 74 0 s' (h15_0 (lstA (lstE TTubeNode.E) a0) AV.nils c5 (ownV TClash.E 90000 y.2) c28 y.1 k0_0 k0_1 [(90000, ownB TClash.E 60 y.2)]) → N0 s') (hN1 : ∀ y : Int × List TClash, t = (.inl y) → ∀ s' : St, Weak KK 74 0 s' (h15_0_0 (lstA (lstE TTubeNode.E) a0) AV.nils c5 (ownV TClash.E 90000 y.2) v29 y.1 c28 v29 k0_0 k0_1 [(90000, ownB TClash.E 60 y.2)]) → N1 s') (k : Nat) (x : Int × List TClash) (hx : iterO (fun y : Int × List TClash => S15_0_0_0 n a0 c5 v29 w10 c28 x69 c50 k0_0 k0_1 y.1 y.2) k x = some t) {s : St} (hw : Weak KK 74 0 s (h15_0_0_0 (lstA (lstE TTubeNode.E) a0) AV.nils c5 (ownV TClash.E 90000 x.2) v29 w10 c28 v29 (lstA TSpan.E x69) c50 x.1 k0_0 k0_1 [(90000, ownB TClash.E 60 x.2)])) : Tri Tryz.prog KK 74 0 (.loop c15_0_0_0) s (q15_0_0_0 R N0 N1) :=
  L15_0_0_0 R N0 N1 (σ := Nat × (Int × List TClash)) (fun z => iterO (fun y : Int × List TClash => S15_0_0_0 n a0 c5 v29 w10 c28 x69 c50 k0_0 k0_1 y.1 y.2) z.1 z.2 = some t) (fun z => (lstA (lstE TTubeNode.E) a0)) (fun z => AV.nils) (fun z => c5) (fun z => (ownV TClash.E 90000 z.2.2)) (fun z => v29) (fun z => w10) (fun z => c28) (fun z => v29) (fun z => (lstA TSpan.E x69)) (fun z => c50) (fun z => z.2.1) (fun z => k0_0) (fun z => k0_1) (fun z => [(90000, ownB TClash.E 60 z.2.2)]) (fun z => z.1) (by
    rintro ⟨k, y⟩ h
    cases k with
    | zero => exact (iterO_zero h).elim
    | succ k =>
      obtain ⟨u, h1, h2, h3⟩ := iterO_elim h
      exact B15_0_0_0_ok n a0 c5 v29 w10 c28 x69 c50 k0_0 k0_1 y.1 y.2 R N0 N1 _ (fun r e => hR r (h3 _ e).symm) (fun y' e => hN0 y' (h3 _ e).symm) (fun y' e => hN1 y' (h3 _ e).symm) (fun y' e s' hw => ⟨(k, y'), h2 _ e, Nat.lt_succ_self k, hw⟩) h1) (k, x) hx hw
theorem B15_0_0_ok (n : Nat) (a0 : List (List TTubeNode)) (c5 : Int) (v29 : Int) (c28 : Int) (k0_0 : Int) (k0_1 : Int) (w10 : Int) (L90000 : List TClash) {t : (Int × List TClash) ⊕ ((Int × List TClash) ⊕ ρ15)} (R : AV → Mem → Prop) (N0 : St → Prop) (N1 : St → Prop) (hR : ∀ r : ρ15, t = (.inr (.inr r)) → ∀ u m, Ans ((AV.tup [(lstA TClash.E r.1), (intA r.2)])) u m → R u m) (hN0 : ∀ y : Int × List TClash, t = (.inr (.inl y)) → ∀ s' : St, Weak KK 74 0 s' (h15_0 (lstA (lstE TTubeNode.E) a0) AV.nils c5 (ownV TClash.E 90000 y.2) c28 y.1 k0_0 k0_1 [(90000, ownB TClash.E 60 y.2)]) → N0 s') (hN1 : ∀ y : Int × List TClash, t = (.inl y) → ∀ s' : St, Weak KK 74 0 s' (h15_0_0 (lstA (lstE TTubeNode.E) a0) AV.nils c5 (ownV TClash.E 90000 y.2) v29 y.1 c28 v29 k0_0 k0_1 [(90000, ownB TClash.E 60 y.2)]) → N1 s') : S15_0_0 n a0 c5 v29 c28 k0_0 k0_1 w10 L90000 = some t → B15_0_0 (lstA (lstE TTubeNode.E) a0) AV.nils c5 (ownV TClash.E 90000 L90000) v29 w10 c28 v29 k0_0 k0_1 [(90000, ownB TClash.E 60 L90000)] R N0 N1 := by
  unfold S15_0_0 B15_0_0
  refine imp (opP_of (show _ = some ((intA (a0.length : Int)), []) from rfl)) ?_
  refine imp ex_i64_b ?_
  refine cond_b (fun _ => ?_) (fun _ => ?_)
  · refine bind_b fun x67 h67 => ?_
    refine imp (opP_of (show _ = some ((AV.ept [(lstA TTubeNode.E x67)] 0), []) from (idx_lst (E := (lstE TTubeNode.E)) rfl h67))) ?_
    refine imp (opP_of (show _ = some ((lstA TTubeNode.E x67), []) from rfl)) ?_
    refine bind_b fun x68 h68 => ?_
    refine imp (opP_of (show _ = some ((AV.ept [(lstA TTubeNode.E x68)] 0), []) from (idx_lst (E := (lstE TTubeNode.E)) rfl h68))) ?_
    refine imp (opP_of (show _ = some ((lstA TTubeNode.E x68), []) from rfl)) ?_
    refine bind_b fun x69 h69 => ?_
    refine imp (callQ_says (sg45 h69)) ?_
    refine imp (opP_of (show _ = some ((intA (x69.length : Int)), []) from rfl)) ?_
    refine imp ex_i64_b ?_
    exact fun hg => L15_0_0_0_ok n a0 c5 v29 w10 c28 x69 (x69.length : Int) k0_0 k0_1 R N0 N1 hR hN0 hN1 n _ hg (weak_mem [(90000, 90000), (0, 0)] rfl rfl rfl (okW_cons (ent_lst (E := (lstE TTubeNode.E)) _ false) (okW_cons (.inl (leV_refl _)) (okW_cons (.inl (leV_refl _)) (okW_cons (.inl (leV_refl _)) (okW_cons (ent_own (E := TClash.E) (id := 90000) (l' := L90000) rfl rfl) (okW_cons (.inl (leV_refl _)) (okW_cons (.inl (leV_refl _)) (okW_cons (.inl (leV_refl _)) (okW_cons (.inl (leV_refl _)) (okW_cons (ent_lst (E := TSpan.E) _ false) (okW_cons (.inl (leV_refl _)) (okW_cons (.inl (leV_refl _)) okW_nil)))))))))))) (okB_cons (okB_cells (cs := [(intA k0_0), (intA k0_1)]) (ty := 38) rfl (show mget _ 0 = _ from (by first | rfl | (simp (disch := first | decide | assumption) only [mpushs_nil, mpushs_cons, mget_hd, mget_tl, mget_appW_o, mget_appW_n, mget_appW_e])))) (okB_cons (okB_own (E := TClash.E) (ty := 60) (l' := L90000) rfl (show mget _ 90000 = _ from (by first | rfl | (simp (disch := first | decide | assumption) only [mpushs_nil, mpushs_cons, mget_hd, mget_tl, mget_appW_o, mget_appW_n, mget_appW_e])))) okB_nil')))
  · exact fun hg => hN0 _ (Option.some.inj hg).symm _ (weak_mem [(90000, 90000), (0, 0)] rfl rfl rfl (okW_cons (ent_lst (E := (lstE TTubeNode.E)) _ false) (okW_cons (.inl (leV_refl _)) (okW_cons (.inl (leV_refl _)) (okW_cons (.inl (leV_refl _)) (okW_cons (ent_own (E := TClash.E) (id := 90000) (l' := L90000) rfl rfl) (okW_cons (.inl (leV_refl _)) (okW_cons (.inl (leV_refl _)) okW_nil))))))) (okB_cons (okB_cells (cs := [(intA k0_0), (intA k0_1)]) (ty := 38) rfl (show mget _ 0 = _ from (by first | rfl | (simp (disch := first | decide | assumption) only [mpushs_nil, mpushs_cons, mget_hd, mget_tl, mget_appW_o, mget_appW_n, mget_appW_e])))) (okB_cons (okB_own (E := TClash.E) (ty := 60) (l' := L90000) rfl (show mget _ 90000 = _ from (by first | rfl | (simp (disch := first | decide | assumption) only [mpushs_nil, mpushs_cons, mget_hd, mget_tl, mget_appW_o, mget_appW_n, mget_appW_e])))) okB_nil')))
theorem L15_0_0_ok (n : Nat) (a0 : List (List TTubeNode)) (c5 : Int) (v29 : Int) (c28 : Int) (k0_0 : Int) (k0_1 : Int) {t : ((Int × List TClash) ⊕ ρ15)} (R : AV → Mem → Prop) (N0 : St → Prop) (hR : ∀ r : ρ15, t = (.inr r) → ∀ u m, Ans ((AV.tup [(lstA TClash.E r.1), (intA r.2)])) u m → R u m) (hN0 : ∀ y : Int × List TClash, t = (.inl y) → ∀ s' : St, Weak KK 74 0 s' (h15_0 (lstA (lstE TTubeNode.E) a0) AV.nils c5 (ownV TClash.E 90000 y.2) c28 y.1 k0_0 k0_1 [(90000, ownB TClash.E 60 y.2)]) → N0 s') (k : Nat) (x : Int × List TClash) (hx : iterO (fun y : Int × List TClash => S15_0_0 n a0 c5 v29 c28 k0_0 k0_1 y.1 y.2) k x = some t) {s : St} (hw : Weak KK 74 0 s (h15_0_0 (lstA (lstE TTubeNode.E) a0) AV.nils c5 (ownV TClash.E 90000 x.2) v29 x.1 c28 v29 k0_0 k0_1 [(90000, ownB TClash.E 60 x.2)])) : Tri Tryz.prog KK 74 0 (.loop c15_0_0) s (q15_0_0 R N0) :=
  L15_0_0 R N0 (σ := Nat × (Int × List TClash)) (fun z => iterO (fun y : Int × List TClash => S15_0_0 n a0 c5 v29 c28 k0_0 k0_1 y.1 y.2) z.1 z.2 = some t) (fun z => (lstA (lstE TTubeNode.E) a0)) (fun z => AV.nils) (fun z => c5) (fun z => (ownV TClash.E 90000 z.2.2)) (fun z => v29) (fun z => z.2.1) (fun z => c28) (fun z => v29) (fun z => k0_0) (fun z => k0_1) (fun z => [(90000, ownB TClash.E 60 z.2.2)]) (fun z => z.1) (by
    rintro ⟨k, y⟩ h
    cases k with
    | zero => exact (iterO_zero h).elim
    | succ k =>
      obtain ⟨u, h1, h2, h3⟩ := iterO_elim h
      exact B15_0_0_ok n a0 c5 v29 c28 k0_0 k0_1 y.1 y.2 R N0 _ (fun r e => hR r (h3 _ e).symm) (fun y' e => hN0 y' (h3 _ e).symm) (fun y' e s' hw => ⟨(k, y'), h2 _ e, Nat.lt_succ_self k, hw⟩) h1) (k, x) hx hw
theorem B15_0_ok (n : Nat) (a0 : List (List TTubeNode)) (c5 : Int) (c28 : Int) (k0_0 : Int) (k0_1 : Int) (v29 : Int) (L90000 : List TClash) {t : (Int × List TClash) ⊕ ρ15} (R : AV → Mem → Prop) (N0 : St → Prop) (hR : ∀ r : ρ15, t = (.inr r) → ∀ u m, Ans ((AV.tup [(lstA TClash.E r.1), (intA r.2)])) u m → R u m) (hN0 : ∀ y : Int × List TClash, t = (.inl y) → ∀ s' : St, Weak KK 74 0 s' (h15_0 (lstA (lstE TTubeNode.E) a0) AV.nils c5 (ownV TClash.E 90000 y.2) c28 y.1 k0_0 k0_1 [(90000, ownB TClash.E 60 y.2)]) → N0 s') : S15_0 n a0 c5 c28 k0_0 k0_1 v29 L90000 = some t → B15_0 (lstA (lstE TTubeNode.E) a0) AV.nils c5 (ownV TClash.E 90000 L90000) c28 v29 k0_0 k0_1 [(90000, ownB TClash.E 60 L90000)] R N0 := by
  unfold S15_0 B15_0
  refine cond_b (fun _ => ?_) (fun _ => ?_)
  · exact fun hg => L15_0_0_ok n a0 c5 v29 c28 k0_0 k0_1 R N0 hR hN0 n _ hg (weak_mem [(90000, 90000), (0, 0)] rfl rfl rfl (okW_cons (ent_lst (E := (lstE TTubeNode.E)) _ false) (okW_cons (.inl (leV_refl _)) (okW_cons (.inl (leV_refl _)) (okW_cons (.inl (leV_refl _)) (okW_cons (ent_own (E := TClash.E) (id := 90000) (l' := L90000) rfl rfl) (okW_cons (.inl (leV_refl _)) (okW_cons (.inl (leV_refl _)) (okW_cons (.inl (leV_refl _)) (okW_cons (.inl (leV_refl _)) okW_nil))))))))) (okB_cons (okB_cells (cs := [(intA k0_0), (intA k0_1)]) (ty := 38) rfl (show mget _ 0 = _ from (by first | rfl | (simp (disch := first | decide | assumption) only [mpushs_nil, mpushs_cons, mget_hd, mget_tl, mget_appW_o, mget_appW_n, mget_appW_e])))) (okB_cons (okB_own (E := TClash.E) (ty := 60) (l' := L90000) rfl (show mget _ 90000 = _ from (by first | rfl | (simp (disch := first | decide | assumption) only [mpushs_nil, mpushs_cons, mget_hd, mget_tl, mget_appW_o, mget_appW_n, mget_appW_e])))) okB_nil')))
  · refine imp (opP_of (show _ = some ((intA (L90000.length : Int)), []) from len_own)) ?_
    refine imp ex_i64_b ?_
    refine cond_b (fun _ => ?_) (fun _ => ?_)
    · exact fun hg => retN rfl (hR _ (Option.some.inj hg).symm) (fzL_cons (fz_nils (E := TClash.E) _) (fzL_cons (fz_sc _ _) fzL_nil))
    · refine bind_b fun x75 h75 => ?_
      have lh75 := sortO_len h75
      refine imp (callW_sortV (hx := rfl) (E := TClash.E) (ty := 60) (l := L90000) (cmp := (fun x y => g47 n x y)) rfl TClash.ok sorts46 none46 plain46 rfl (by first | rfl | (simp (disch := first | decide | assumption) only [mpushs_nil, mpushs_cons, mget_hd, mget_tl, mget_appW_o, mget_appW_n, mget_appW_e])) capsOk_nil (fun x y z h => sg47 h) h75) ?_
      refine imp exT0_b ?_
      exact fun hg => retN rfl (hR _ (Option.some.inj hg).symm) (fzL_cons (fz_own (E := TClash.E) (ty := 60) (l' := x75) _ (by first | rfl | omega | (simp; done) | (simp; omega)) (by first | rfl | (simp (disch := first | decide | assumption) only [mpushs_nil, mpushs_cons, mget_hd, mget_tl, mget_appW_o, mget_appW_n, mget_appW_e]))) (fzL_cons (fz_sc _ _) fzL_nil))
theorem L15_0_ok (n : Nat) (a0 : List (List TTubeNode)) (c5 : Int) (c28 : Int) (k0_0 : Int) (k0_1 : Int) {t : ρ15} (R : AV → Mem → Prop) (hR : ∀ r : ρ15, t = r → ∀ u m, Ans ((AV.tup [(lstA TClash.E r.1), (intA r.2)])) u m → R u m) (k : Nat) (x : Int × List TClash) (hx : iterO (fun y : Int × List TClash => S15_0 n a0 c5 c28 k0_0 k0_1 y.1 y.2) k x = some t) {s : St} (hw : Weak KK 74 0 s (h15_0 (lstA (lstE TTubeNode.E) a0) AV.nils c5 (ownV TClash.E 90000 x.2) c28 x.1 k0_0 k0_1 [(90000, ownB TClash.E 60 x.2)])) : Tri Tryz.prog KK 74 0 (.loop c15_0) s (q15_0 R ) :=
  L15_0 R  (σ := Nat × (Int × List TClash)) (fun z => iterO (fun y : Int × List TClash => S15_0 n a0 c5 c28 k0_0 k0_1 y.1 y.2) z.1 z.2 = some t) (fun z => (lstA (lstE TTubeNode.E) a0)) (fun z => AV.nils) (fun z => c5) (fun z => (ownV TClash.E 90000 z.2.2)) (fun z => c28) (fun z => z.2.1) (fun z => k0_0) (fun z => k0_1) (fun z => [(90000, ownB TClash.E 60 z.2.2)]) (fun z => z.1) (by
    rintro ⟨k, y⟩ h
    cases k with
    | zero => exact (iterO_zero h).elim
    | succ k =>
      obtain ⟨u, h1, h2, h3⟩ := iterO_elim h
      exact B15_0_ok n a0 c5 c28 k0_0 k0_1 y.1 y.2 R  _ (fun r e => hR r (h3 _ e).symm)  (fun y' e s' hw => ⟨(k, y'), h2 _ e, Nat.lt_succ_self k, hw⟩) h1) (k, x) hx hw
theorem g15_ok (n : Nat) (a0 : List (List TTubeNode)) (a1 : TSep) {t : ρ15} (R : AV → Mem → Prop) (hR : ∀ r : ρ15, t = r → ∀ u m, Ans ((AV.tup [(lstA TClash.E r.1), (intA r.2)])) u m → R u m) : g15 n a0 a1 = some t → F15 (lstA (lstE TTubeNode.E) a0) a1.Lateral a1.Vertical R := by
  unfold g15 F15
  refine bind_b fun x65 h65 => ?_
  refine imp (callQ_says (sg43 h65)) ?_
  refine imp ex_i64_b ?_
  refine cond_b (fun _ => ?_) (fun _ => ?_)
  · exact fun hg => retN rfl (hR _ (Option.some.inj hg).symm) (fzL_cons (fz_nils (E := TClash.E) _) (fzL_cons (fz_sc _ _) fzL_nil))
  · refine imp (opP_of (show _ = some ((intA (a0.length : Int)), []) from rfl)) ?_
    refine imp ex_i64_b ?_
    refine cond_b (fun _ => ?_) (fun _ => ?_)
    · exact fun hg => retN rfl (hR _ (Option.some.inj hg).symm) (fzL_cons (fz_nils (E := TClash.E) _) (fzL_cons (fz_sc _ _) fzL_nil))
    · refine bind_b fun x66 h66 => ?_
      refine imp (callQ_says (sg44 h66)) ?_
      refine imp ex_i64_b ?_
      refine cond_b (fun _ => ?_) (fun _ => ?_)
      · exact fun hg => retN rfl (hR _ (Option.some.inj hg).symm) (fzL_cons (fz_nils (E := TClash.E) _) (fzL_cons (fz_sc _ _) fzL_nil))
      · refine imp (opP_of (show _ = some ((intA (a0.length : Int)), []) from rfl)) ?_
        refine imp ex_i64_b ?_
        exact fun hg => L15_0_ok n a0 (0) (a0.length : Int) a1.Lateral a1.Vertical R  hR n _ hg (weak_mem [(90000, 89500), (0, 0)] rfl rfl rfl (okW_cons (ent_lst (E := (lstE TTubeNode.E)) _ false) (okW_cons (.inl (leV_refl _)) (okW_cons (.inl (leV_refl _)) (okW_cons (.inl (leV_refl _)) (okW_cons ent_nils_own (okW_cons (.inl (leV_refl _)) (okW_cons (.inl (leV_refl _)) okW_nil))))))) (okB_cons (okB_cells (cs := [(intA a1.Lateral), (intA a1.Vertical)]) (ty := 38) rfl (show mget _ 0 = _ from (by first | rfl | (simp (disch := first | decide | assumption) only [mpushs_nil, mpushs_cons, mget_hd, mget_tl, mget_appW_o, mget_appW_n, mget_appW_e])))) (okB_cons okB_nil okB_nil')))
theorem sg15 {n : Nat} {a0 : List (List TTubeNode)} {a1 : TSep} {t : ρ15} (h : g15 n a0 a1 = some t) : Says Tryz.prog KK.gl 15 [(lstA (lstE TTubeNode.E) a0), (AV.agg [(intA a1.Lateral), (intA a1.Vertical)])] ((AV.tup [(lstA TClash.E t.1), (intA t.2)])) :=
  says_of_own (by first | rfl | simp [cleans, clean, encs_clean, En.cln]) (by first | rfl | simp [cleans, clean, encs_clean, En.cln]) (F15_own (lstA (lstE TTubeNode.E) a0) a1.Lateral a1.Vertical _ (g15_ok n a0 a1 (Ans ((AV.tup [(lstA TClash.E t.1), (intA t.2)]))) (fun r e u m h => by rw [e]; exact h) h))
/- skyway/resolve.check -/
theorem B32_0_ok (n : Nat) (a0 : List (List TTubeNode)) (a1 : Int) (c6 : Int) (c20 : Int) (v21 : Int) {t : (Int) ⊕ ρ32} (R : AV → Mem → Prop) (N0 : St → Prop) (hR : ∀ r : ρ32, t = (.inr r) → ∀ u m, Ans ((intA r)) u m → R u m) (hN0 : ∀ y : Int, t = (.inl y) → ∀ s' : St, Weak KK 39 0 s' (h32_0 (lstA (lstE TTubeNode.E) a0) a1 c6 (lstA (lstE TTubeNode.E) a0) c20 y []) → N0 s') : S32_0 n a0 a1 c6 c20 v21 = some t → B32_0 (lstA (lstE TTubeNode.E) a0) a1 c6 (lstA (lstE TTubeNode.E) a0) c20 v21 [] R N0 := by
  unfold S32_0 B32_0
  refine cond_b (fun _ => ?_) (fun _ => ?_)
  · refine bind_b fun x78 h78 => ?_
    refine imp (opP_of (show _ = some ((AV.ept [(lstA TTubeNode.E x78)] 0), []) from (idx_lst (E := (lstE TTubeNode.E)) rfl h78))) ?_
    refine imp (opP_of (show _ = some ((lstA TTubeNode.E x78), []) from rfl)) ?_
    refine bind_b fun x79 h79 => ?_
    refine imp (callQ_says (sg24 h79)) ?_
    refine imp ex_i64_b ?_
    refine cond_b (fun _ => ?_) (fun _ => ?_)
    · exact fun hg => ret1 (hR _ (Option.some.inj hg).symm) (fz_sc _ _)
    · exact fun hg => hN0 _ (Option.some.inj hg).symm _ (weak_mem [] rfl rfl rfl (okW_cons (ent_lst (E := (lstE TTubeNode.E)) _ false) (okW_cons (.inl (leV_refl _)) (okW_cons (.inl (leV_refl _)) (okW_cons (ent_lst (E := (lstE TTubeNode.E)) _ false) (okW_cons (.inl (leV_refl _)) (okW_cons (.inl (leV_refl _)) okW_nil)))))) okB_nil')
  · refine cond_b (fun _ => ?_) (fun _ => ?_)
    · exact fun hg => ret1 (hR _ (Option.some.inj hg).symm) (fz_sc _ _)
    · refine imp (opP_of (show _ = some ((intA (a0.length : Int)), []) from rfl)) ?_
      refine imp ex_i64_b ?_
      refine cond_b (fun _ => ?_) (fun _ => ?_)
      · exact fun hg => ret1 (hR _ (Option.some.inj hg).symm) (fz_sc _ _)
      · exact fun hg => ret1 (hR _ (Option.some.inj hg).symm) (fz_sc _ _)
theorem L32_0_ok (n : Nat) (a0 : List (List TTubeNode)) (a1 : Int) (c6 : Int) (c20 : Int) {t : ρ32} (R : AV → Mem → Prop) (hR : ∀ r : ρ32, t = r → ∀ u m, Ans ((intA r)) u m → R u m) (k : Nat) (x : Int) (hx : iterO (fun y : Int => S32_0 n a0 a1 c6 c20 y) k x = some t) {s : St} (hw : Weak KK 39 0 s (h32_0 (lstA (lstE TTubeNode.E) a0) a1 c6 (lstA (lstE TTubeNode.E) a0) c20 x [])) : Tri Tryz.prog KK 39 0 (.loop c32_0) s (q32_0 R ) :=
  L32_0 R  (σ := Nat × (Int)) (fun z => iterO (fun y : Int => S32_0 n a0 a1 c6 c20 y) z.1 z.2 = some t) (fun z => (lstA (lstE TTubeNode.E) a0)) (fun z => a1) (fun z => c6) (fun z => (lstA (lstE TTubeNode.E) a0)) (fun z => c20) (fun z => z.2) (fun z => []) (fun z => z.1) (by
    rintro ⟨k, y⟩ h
    cases k with
    | zero => exact (iterO_zero h).elim
    | succ k =>
      obtain ⟨u, h1, h2, h3⟩ := iterO_elim h
      exact B32_0_ok n a0 a1 c6 c20 y R  _ (fun r e => hR r (h3 _ e).symm)  (fun y' e s' hw => ⟨(k, y'), h2 _ e, Nat.lt_succ_self k, hw⟩) h1) (k, x) hx hw
theorem g32_ok (n : Nat) (a0 : List (List TTubeNode)) (a1 : Int) (a2 : TSep) {t : ρ32} (R : AV → Mem → Prop) (hR : ∀ r : ρ32, t = r → ∀ u m, Ans ((intA r)) u m → R u m) : g32 n a0 a1 a2 = some t → F32 (lstA (lstE TTubeNode.E) a0) a1 a2.Lateral a2.Vertical R := by
  unfold g32 F32
  refine bind_b fun x77 h77 => ?_
  refine imp (callQ_says (sg43 h77)) ?_
  refine imp ex_i64_b ?_
  refine cond_b (fun _ => ?_) (fun _ => ?_)
  · exact fun hg => ret1 (hR _ (Option.some.inj hg).symm) (fz_sc _ _)
  · refine imp (opP_of (show _ = some ((intA (a0.length : Int)), []) from rfl)) ?_
    refine imp ex_i64_b ?_
    refine cond_b (fun _ => ?_) (fun _ => ?_)
    · exact fun hg => ret1 (hR _ (Option.some.inj hg).symm) (fz_sc _ _)
    · refine imp (opP_of (show _ = some ((intA (a0.length : Int)), []) from rfl)) ?_
      refine imp ex_i64_b ?_
      exact fun hg => L32_0_ok n a0 a1 (0) (a0.length : Int) R  hR n _ hg (weak_mem [] rfl rfl rfl (okW_cons (ent_lst (E := (lstE TTubeNode.E)) _ false) (okW_cons (.inl (leV_refl _)) (okW_cons (.inl (leV_refl _)) (okW_cons (ent_lst (E := (lstE TTubeNode.E)) _ false) (okW_cons (.inl (leV_refl _)) (okW_cons (.inl (leV_refl _)) okW_nil)))))) okB_nil')
theorem sg32 {n : Nat} {a0 : List (List TTubeNode)} {a1 : Int} {a2 : TSep} {t : ρ32} (h : g32 n a0 a1 a2 = some t) : Says Tryz.prog KK.gl 32 [(lstA (lstE TTubeNode.E) a0), (intA a1), (AV.agg [(intA a2.Lateral), (intA a2.Vertical)])] ((intA t)) :=
  says_of_own (by first | rfl | simp [cleans, clean, encs_clean, En.cln]) (by first | rfl | simp [cleans, clean, encs_clean, En.cln]) (F32_own (lstA (lstE TTubeNode.E) a0) a1 a2.Lateral a2.Vertical _ (g32_ok n a0 a1 a2 (Ans ((intA t))) (fun r e u m h => by rw [e]; exact h) h))
/- skyway/resolve.free -/
theorem B33_0_ok (n : Nat) (a1 : Int) (a2 : List TTubeNode) (c8 : Bool) (a0 : List (List TTubeNode)) (c14 : Int) (k0_0 : Int) (k0_1 : Int) (v15 : Int) {t : (Int) ⊕ ρ33} (R : AV → Mem → Prop) (N0 : St → Prop) (hR : ∀ r : ρ33, t = (.inr r) → ∀ u m, Ans ((boolA r)) u m → R u m) (hN0 : ∀ y : Int, t = (.inl y) → ∀ s' : St, Weak KK 33 0 s' (h33_0 a1 (lstA TTubeNode.E a2) c8 (lstA (lstE TTubeNode.E) a0) c14 y k0_0 k0_1 []) → N0 s') : S33_0 n a1 a2 c8 a0 c14 k0_0 k0_1 v15 = some t → B33_0 a1 (lstA TTubeNode.E a2) c8 (lstA (lstE TTubeNode.E) a0) c14 v15 k0_0 k0_1 [] R N0 := by
  unfold S33_0 B33_0
  refine cond_b (fun _ => ?_) (fun _ => ?_)
  · refine bind_b fun x82 h82 => ?_
    refine imp (opP_of (show _ = some ((AV.ept [(lstA TTubeNode.E x82)] 0), []) from (idx_lst (E := (lstE TTubeNode.E)) rfl h82))) ?_
    refine imp (opP_of (show _ = some ((lstA TTubeNode.E x82), []) from rfl)) ?_
    refine cond_b (fun _ => ?_) (fun _ => ?_)
    · refine bind_b fun x83 h83 => ?_
      refine imp (callQ_says (sg42 h83)) ?_
      refine imp exT2_b ?_
      refine imp ex_i64_b ?_
      refine imp ex_i64_b ?_
      refine cond_b (fun _ => ?_) (fun _ => ?_)
      · exact fun hg => ret1 (hR _ (Option.some.inj hg).symm) (fz_sc _ _)
      · exact fun hg => hN0 _ (Option.some.inj hg).symm _ (weak_mem [(0, 0)] rfl rfl rfl (okW_cons (.inl (leV_refl _)) (okW_cons (ent_lst (E := TTubeNode.E) _ false) (okW_cons (.inl (leV_refl _)) (okW_cons (.inl (leV_refl _)) (okW_cons (ent_lst (E := (lstE TTubeNode.E)) _ false) (okW_cons (.inl (leV_refl _)) (okW_cons (.inl (leV_refl _)) okW_nil))))))) (okB_cons (okB_cells (cs := [(intA k0_0), (intA k0_1)]) (ty := 38) rfl (show mget _ 0 = _ from (by first | rfl | (simp (disch := first | decide | assumption) only [mpushs_nil, mpushs_cons, mget_hd, mget_tl, mget_appW_o, mget_appW_n, mget_appW_e])))) okB_nil'))
    · exact fun hg => hN0 _ (Option.some.inj hg).symm _ (weak_mem [(0, 0)] rfl rfl rfl (okW_cons (.inl (leV_refl _)) (okW_cons (ent_lst (E := TTubeNode.E) _ false) (okW_cons (.inl (leV_refl _)) (okW_cons (.inl (leV_refl _)) (okW_cons (ent_lst (E := (lstE TTubeNode.E)) _ false) (okW_cons (.inl (leV_refl _)) (okW_cons (.inl (leV_refl _)) okW_nil))))))) (okB_cons (okB_cells (cs := [(intA k0_0), (intA k0_1)]) (ty := 38) rfl (show mget _ 0 = _ from (by first | rfl | (simp (disch := first | decide | assumption) only [mpushs_nil, mpushs_cons, mget_hd, mget_tl, mget_appW_o, mget_appW_n, mget_appW_e])))) okB_nil'))
  · exact fun hg => ret1 (hR _ (Option.some.inj hg).symm) (fz_sc _ _)
theorem L33_0_ok (n : Nat) (a1 : Int) (a2 : List TTubeNode) (c8 : Bool) (a0 : List (List TTubeNode)) (c14 : Int) (k0_0 : Int) (k0_1 : Int) {t : ρ33} (R : AV → Mem → Prop) (hR : ∀ r : ρ33, t = r → ∀ u m, Ans ((boolA r)) u m → R u m) (k : Nat) (x : Int) (hx : iterO (fun y : Int => S33_0 n a1 a2 c8 a0 c14 k0_0 k0_1 y) k x = some t) {s : St} (hw : Weak KK 33 0 s (h33_0 a1 (lstA TTubeNode.E a2) c8 (lstA (lstE TTubeNode.E) a0) c14 x k0_0 k0_1 [])) : Tri Tryz.prog KK 33 0 (.loop c33_0) s (q33_0 R ) :=
  L33_0 R  (σ := Nat × (Int)) (fun z => iterO (fun y : Int => S33_0 n a1 a2 c8 a0 c14 k0_0 k0_1 y) z.1 z.2 = some t) (fun z => a1) (fun z => (lstA TTubeNode.E a2)) (fun z => c8) (fun z => (lstA (lstE TTubeNode.E) a0)) (fun z => c14) (fun z => z.2) (fun z => k0_0) (fun z => k0_1) (fun z => []) (fun z => z.1) (by
    rintro ⟨k, y⟩ h
    cases k with
    | zero => exact (iterO_zero h).elim
    | succ k =>
      obtain ⟨u, h1, h2, h3⟩ := iterO_elim h
      exact B33_0_ok n a1 a2 c8 a0 c14 k0_0 k0_1 y R  _ (fun r e => hR r (h3 _ e).symm)  (fun y' e s' hw => ⟨(k, y'), h2 _ e, Nat.lt_succ_self k, hw⟩) h1) (k, x) hx hw
theorem g33_ok (n : Nat) (a0 : List (List TTubeNode)) (a1 : Int) (a2 : List TTubeNode) (a3 : TSep) {t : ρ33} (R : AV → Mem → Prop) (hR : ∀ r : ρ33, t = r → ∀ u m, Ans ((boolA r)) u m → R u m) : g33 n a0 a1 a2 a3 = some t → F33 (lstA (lstE TTubeNode.E) a0) a1 (lstA TTubeNode.E a2) a3.Lateral a3.Vertical R := by
  unfold g33 F33
  refine imp (opP_of (show _ = some ((intA (a0.length : Int)), []) from rfl)) ?_
  refine imp ex_i64_b ?_
  exact fun hg => L33_0_ok n a1 a2 false a0 (a0.length : Int) a3.Lateral a3.Vertical R  hR n _ hg (weak_mem [(0, 0)] rfl rfl rfl (okW_cons (.inl (leV_refl _)) (okW_cons (ent_lst (E := TTubeNode.E) _ false) (okW_cons (.inl (leV_refl _)) (okW_cons (.inl (leV_refl _)) (okW_cons (ent_lst (E := (lstE TTubeNode.E)) _ false) (okW_cons (.inl (leV_refl _)) (okW_cons (.inl (leV_refl _)) okW_nil))))))) (okB_cons (okB_cells (cs := [(intA a3.Lateral), (intA a3.Vertical)]) (ty := 38) rfl (show mget _ 0 = _ from (by first | rfl | (simp (disch := first | decide | assumption) only [mpushs_nil, mpushs_cons, mget_hd, mget_tl, mget_appW_o, mget_appW_n, mget_appW_e])))) okB_nil'))
theorem sg33 {n : Nat} {a0 : List (List TTubeNode)} {a1 : Int} {a2 : List TTubeNode} {a3 : TSep} {t : ρ33} (h : g33 n a0 a1 a2 a3 = some t) : Says Tryz.prog KK.gl 33 [(lstA (lstE TTubeNode.E) a0), (intA a1), (lstA TTubeNode.E a2), (AV.agg [(intA a3.Lateral), (intA a3.Vertical)])] ((boolA t)) :=
  says_of_own (by first | rfl | simp [cleans, clean, encs_clean, En.cln]) (by first | rfl | simp [cleans, clean, encs_clean, En.cln]) (F33_own (lstA (lstE TTubeNode.E) a0) a1 (lstA TTubeNode.E a2) a3.Lateral a3.Vertical _ (g33_ok n a0 a1 a2 a3 (Ans ((boolA t))) (fun r e u m h => by rw [e]; exact h) h))
/- skyway/resolve.Free -/
theorem g16_ok (n : Nat) (a0 : List (List TTubeNode)) (a1 : Int) (a2 : TSep) {t : ρ16} (R : AV → Mem → Prop) (hR : ∀ r : ρ16, t = r → ∀ u m, Ans ((AV.tup [(boolA r.1), (intA r.2)])) u m → R u m) : g16 n a0 a1 a2 = some t → F16 (lstA (lstE TTubeNode.E) a0) a1 a2.Lateral a2.Vertical R := by
  unfold g16 F16
  refine bind_b fun x80 h80 => ?_
  refine imp (callQ_says (sg32 h80)) ?_
  refine imp ex_i64_b ?_
  refine cond_b (fun _ => ?_) (fun _ => ?_)
  · exact fun hg => retN rfl (hR _ (Option.some.inj hg).symm) (fzL_cons (fz_sc _ _) (fzL_cons (fz_sc _ _) fzL_nil))
  · refine bind_b fun x81 h81 => ?_
    refine imp (opP_of (show _ = some ((AV.ept [(lstA TTubeNode.E x81)] 0), []) from (idx_lst (E := (lstE TTubeNode.E)) rfl h81))) ?_
    refine imp (opP_of (show _ = some ((lstA TTubeNode.E x81), []) from rfl)) ?_
    refine bind_b fun x84 h84 => ?_
    refine imp (callQ_says (sg33 h84)) ?_
    refine imp exB_b ?_
    exact fun hg => retN rfl (hR _ (Option.some.inj hg).symm) (fzL_cons (fz_sc _ _) (fzL_cons (fz_sc _ _) fzL_nil))
theorem sg16 {n : Nat} {a0 : List (List TTubeNode)} {a1 : Int} {a2 : TSep} {t : ρ16} (h : g16 n a0 a1 a2 = some t) : Says Tryz.prog KK.gl 16 [(lstA (lstE TTubeNode.E) a0), (intA a1), (AV.agg [(intA a2.Lateral), (intA a2.Vertical)])] ((AV.tup [(boolA t.1), (intA t.2)])) :=
  says_of_own (by first | rfl | simp [cleans, clean, encs_clean, En.cln]) (by first | rfl | simp [cleans, clean, encs_clean, En.cln]) (F16_own (lstA (lstE TTubeNode.E) a0) a1 a2.Lateral a2.Vertical _ (g16_ok n a0 a1 a2 (Ans ((AV.tup [(boolA t.1), (intA t.2)]))) (fun r e u m h => by rw [e]; exact h) h))
/- skyway/skywaykeep3.ResolveAll$1 -/
theorem g18_ok (n : Nat) (a0 : TClash) (a1_0 : Int) {t : ρ18} (R : AV → Mem → Prop) (hR : ∀ r : ρ18, t = r → ∀ u m, Ans ((boolA r)) u m → R u m) : g18 n a0 a1_0 = some t → F18 a0.A a0.B a0.From a0.To (AV.ept [(intA a1_0)] 0) R := by
  unfold g18 F18
  refine imp (opP_of (show _ = some ((intA a1_0), []) from rfl)) ?_
  refine imp ex_i64_b ?_
  refine cond_b (fun _ => ?_) (fun _ => ?_)
  · exact fun hg => ret1 (hR _ (Option.some.inj hg).symm) (fz_sc _ _)
  · refine imp (opP_of (show _ = some ((intA a1_0), []) from rfl)) ?_
    refine imp ex_i64_b ?_
    exact fun hg => ret1 (hR _ (Option.some.inj hg).symm) (fz_sc _ _)
theorem sg18 {n : Nat} {a0 : TClash} {a1_0 : Int} {t : ρ18} (h : g18 n a0 a1_0 = some t) : Says Tryz.prog KK.gl 18 [(AV.agg [(intA a0.A), (intA a0.B), (intA a0.From), (intA a0.To)]), (AV.ept [(intA a1_0)] 0)] ((boolA t)) :=
  says_of_own (by first | rfl | simp [cleans, clean, encs_clean, En.cln]) (by first | rfl | simp [cleans, clean, encs_clean, En.cln]) (F18_own a0.A a0.B a0.From a0.To (AV.ept [(intA a1_0)] 0) _ (g18_ok n a0 a1_0 (Ans ((boolA t))) (fun r e u m h => by rw [e]; exact h) h))
/- slices.IndexFunc[[]skyway/api.Clash,skyway/api.Clash] -/
theorem B49_0_ok (n : Nat) (a0 : List TClash) (a1_0_0 : Int) (c4 : Int) (c7 : Int) (v8 : Int) {t : (Int) ⊕ ρ49} (R : AV → Mem → Prop) (N0 : St → Prop) (hR : ∀ r : ρ49, t = (.inr r) → ∀ u m, Ans ((intA r)) u m → R u m) (hN0 : ∀ y : Int, t = (.inl y) → ∀ s' : St, Weak KK 19 0 s' (h49_0 (lstA TClash.E a0) (AV.fn 18 [(AV.ept [(intA a1_0_0)] 0)]) c4 c7 y []) → N0 s') : S49_0 n a0 a1_0_0 c4 c7 v8 = some t → B49_0 (lstA TClash.E a0) (AV.fn 18 [(AV.ept [(intA a1_0_0)] 0)]) c4 c7 v8 [] R N0 := by
  unfold S49_0 B49_0
  refine cond_b (fun _ => ?_) (fun _ => ?_)
  · refine bind_b fun x86 h86 => ?_
    refine imp (opP_of (show _ = some ((AV.ept [(intA x86.A), (intA x86.B), (intA x86.From), (intA x86.To)] 0), []) from (idx_lst (E := TClash.E) rfl h86))) ?_
    refine imp (opP_of (show _ = some ((AV.agg [(intA x86.A), (intA x86.B), (intA x86.From), (intA x86.To)]), []) from rfl)) ?_
    refine imp exA4_b ?_
    refine imp ex_i64_b ?_
    refine imp ex_i64_b ?_
    refine imp ex_i64_b ?_
    refine imp ex_i64_b ?_
    refine bind_b fun x87 h87 => ?_
    refine imp fnArgs_b ?_
    refine imp (cond_ff rfl) ?_
    refine imp (callW_says (sg18 h87)) ?_
    refine imp exB_b ?_
    refine cond_b (fun _ => ?_) (fun _ => ?_)
    · exact fun hg => ret1 (hR _ (Option.some.inj hg).symm) (fz_sc _ _)
    · exact fun hg => hN0 _ (Option.some.inj hg).symm _ (weak_mem [] rfl rfl rfl (okW_cons (ent_lst (E := TClash.E) _ false) (okW_cons (ent_clean (leV_refl _) (by simp [clean, cleans, encs_clean])) (okW_cons (.inl (leV_refl _)) (okW_cons (.inl (leV_refl _)) (okW_cons (.inl (leV_refl _)) okW_nil))))) okB_nil')
  · exact fun hg => ret1 (hR _ (Option.some.inj hg).symm) (fz_sc _ _)
theorem L49_0_ok (n : Nat) (a0 : List TClash) (a1_0_0 : Int) (c4 : Int) (c7 : Int) {t : ρ49} (R : AV → Mem → Prop) (hR : ∀ r : ρ49, t = r → ∀ u m, Ans ((intA r)) u m → R u m) (k : Nat) (x : Int) (hx : iterO (fun y : Int => S49_0 n a0 a1_0_0 c4 c7 y) k x = some t) {s : St} (hw : Weak KK 19 0 s (h49_0 (lstA TClash.E a0) (AV.fn 18 [(AV.ept [(intA a1_0_0)] 0)]) c4 c7 x [])) : Tri Tryz.prog KK 19 0 (.loop c49_0) s (q49_0 R ) :=
  L49_0 R  (σ := Nat × (Int)) (fun z => iterO (fun y : Int => S49_0 n a0 a1_0_0 c4 c7 y) z.1 z.2 = some t) (fun z => (lstA TClash.E a0)) (fun z => (AV.fn 18 [(AV.ept [(intA a1_0_0)] 0)])) (fun z => c4) (fun z => c7) (fun z => z.2) (fun z => []) (fun z => z.1) (by
    rintro ⟨k, y⟩ h
    cases k with
    | zero => exact (iterO_zero h).elim
    | succ k =>
      obtain ⟨u, h1, h2, h3⟩ := iterO_elim h
      exact B49_0_ok n a0 a1_0_0 c4 c7 y R  _ (fun r e => hR r (h3 _ e).symm)  (fun y' e s' hw => ⟨(k, y'), h2 _ e, Nat.lt_succ_self k, hw⟩) h1) (k, x) hx hw
theorem g49_ok (n : Nat) (a0 : List TClash) (a1_0_0 : Int) {t : ρ49} (R : AV → Mem → Prop) (hR : ∀ r : ρ49, t = r → ∀ u m, Ans ((intA r)) u m → R u m) : g49 n a0 a1_0_0 = some t → F49 (lstA TClash.E a0) (AV.fn 18 [(AV.ept [(intA a1_0_0)] 0)]) R := by
  unfold g49 F49
  refine imp (opP_of (show _ = some ((intA (a0.length : Int)), []) from rfl)) ?_
  refine imp ex_i64_b ?_
  exact fun hg => L49_0_ok n a0 a1_0_0 (0) (a0.length : Int) R  hR n _ hg (weak_mem [] rfl rfl rfl (okW_cons (ent_lst (E := TClash.E) _ false) (okW_cons (ent_clean (leV_refl _) (by simp [clean, cleans, encs_clean])) (okW_cons (.inl (leV_refl _)) (okW_cons (.inl (leV_refl _)) (okW_cons (.inl (leV_refl _)) okW_nil))))) okB_nil')
theorem sg49 {n : Nat} {a0 : List TClash} {a1_0_0 : Int} {t : ρ49} (h : g49 n a0 a1_0_0 = some t) : Says Tryz.prog KK.gl 49 [(lstA TClash.E a0), (AV.fn 18 [(AV.ept [(intA a1_0_0)] 0)])] ((intA t)) :=
  says_of_own (by first | rfl | simp [cleans, clean, encs_clean, En.cln]) (by first | rfl | simp [cleans, clean, encs_clean, En.cln]) (F49_own (lstA TClash.E a0) (AV.fn 18 [(AV.ept [(intA a1_0_0)] 0)]) _ (g49_ok n a0 a1_0_0 (Ans ((intA t))) (fun r e u m h => by rw [e]; exact h) h))
/- slices.ContainsFunc[[]skyway/api.Clash,skyway/api.Clash] -/
theorem g17_ok (n : Nat) (a0 : List TClash) (a1_0_0 : Int) {t : ρ17} (R : AV → Mem → Prop) (hR : ∀ r : ρ17, t = r → ∀ u m, Ans ((boolA r)) u m → R u m) : g17 n a0 a1_0_0 = some t → F17 (lstA TClash.E a0) (AV.fn 18 [(AV.ept [(intA a1_0_0)] 0)]) R := by
  unfold g17 F17
  refine bind_b fun x88 h88 => ?_
  refine imp (callQ_says (sg49 h88)) ?_
  refine imp ex_i64_b ?_
  exact fun hg => ret1 (hR _ (Option.some.inj hg).symm) (fz_sc _ _)
theorem sg17 {n : Nat} {a0 : List TClash} {a1_0_0 : Int} {t : ρ17} (h : g17 n a0 a1_0_0 = some t) : Says Tryz.prog KK.gl 17 [(lstA TClash.E a0), (AV.fn 18 [(AV.ept [(intA a1_0_0)] 0)])] ((boolA t)) :=
  says_of_own (by first | rfl | simp [cleans, clean, encs_clean, En.cln]) (by first | rfl | simp [cleans, clean, encs_clean, En.cln]) (F17_own (lstA TClash.E a0) (AV.fn 18 [(AV.ept [(intA a1_0_0)] 0)]) _ (g17_ok n a0 a1_0_0 (Ans ((boolA t))) (fun r e u m h => by rw [e]; exact h) h))
end Go.Proofs.YteaimbiojpjneaaGreatDoor
