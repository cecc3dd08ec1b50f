/- Plain functional programs out of the program's functions, with proofs that the functions compute them; printed by wip/Ext.lean.txt. -/
import Derived.Test.YtbnnndfcaehlpaaGreatDoorX1E2
set_option linter.unusedVariables false
set_option linter.unusedSimpArgs false
set_option maxRecDepth 100000
set_option maxHeartbeats 4000000
namespace Go.Proofs.YtbnnndfcaehlpaaGreatDoor
/- skyway/taxi.Queue -/
theorem B26_1_okM (n : Nat) (a2 : Int) (c7 : Int) (c54 : Int) (v55 : Int) (L90000 : List TTaxiMove) {t : (Int × List TTaxiMove) ⊕ ρ26} (R : AV → Mem → Prop) (N0 : St → Prop) (hR : ∀ r : ρ26, t = (.inr r) → ∀ u m, MadeT TTaxiMove.E 38 r.1 [Value.int .i64 r.2] u m → R u m) (hN0 : ∀ y : Int × List TTaxiMove, t = (.inl y) → ∀ s' : St, Weak KK 95 0 s' (h26_1 a2 AV.nils c7 (ownV TTaxiMove.E 90000 y.2) c54 y.1 [(90000, ownB TTaxiMove.E 38 y.2)]) → N0 s') : S26_1 n a2 c7 c54 v55 L90000 = some t → B26_1 a2 AV.nils c7 (ownV TTaxiMove.E 90000 L90000) c54 v55 [(90000, ownB TTaxiMove.E 38 L90000)] R N0 := by
  unfold S26_1 B26_1
  refine cond_b (fun _ => ?_) (fun _ => ?_)
  · refine bind_b fun x124 h124 => ?_
    refine iq (AV.ptr 90000 (((v55 : Int).toNat) * 4 + 0)) (idx_own (E := TTaxiMove.E) rfl h124) ?_
    refine iq (AV.ptr 90000 (((v55 : Int).toNat) * 4 + 2)) rfl ?_
    refine iq (intA x124.Hold) (ldS_blk (E := TTaxiMove.E) (l := L90000) (ty := 38) (o := 2) (own_some (ty := 38) (by first | rfl | (simp (disch := first | decide | assumption) only [mpushs_nil, mpushs_cons, mget_hd, mget_tl, mget_appW_o, mget_appW_n, mget_appW_e])) (getI_some h124).2) (getI_some h124).2 rfl (by decide) rfl) ?_
    refine imp ex_i64_b ?_
    refine bind_b fun x125 h125 => ?_
    refine iq (AV.ptr 90000 (((v55 : Int).toNat) * 4 + 0)) (idx_own (E := TTaxiMove.E) rfl h125) ?_
    refine iq (AV.ptr 90000 (((v55 : Int).toNat) * 4 + 3)) rfl ?_
    refine imp (storeW_elO (E := TTaxiMove.E) (l := L90000) (i := ((v55 : Int).toNat)) (o := 3) (y := (⟨x125.Call, x125.Push, x125.Hold, x124.Hold⟩ : TTaxiMove)) (ty := 38) (by kernel_rfl) (by kernel_rfl) rfl (by first | rfl | (simp (disch := first | decide | assumption) only [mpushs_nil, mpushs_cons, mget_hd, mget_tl, mget_appW_o, mget_appW_n, mget_appW_e])) (getI_some h125).2 rfl (by decide) rfl) ?_
    refine cond_b (fun _ => ?_) (fun _ => ?_)
    · refine bind_b fun x126 h126 => ?_
      refine imp (opM_of (show _ = some ((AV.ptr 90000 (((v55 : Int).toNat) * 4 + 0)), []) from (idx_own (E := TTaxiMove.E) (by first | rfl | omega | (simp; done) | (simp; omega)) h126))) ?_
      refine imp (opM_of (show _ = some ((AV.ptr 90000 (((v55 : Int).toNat) * 4 + 3)), []) from rfl)) ?_
      refine imp (opM_of (show _ = some ((intA x126.Leave), []) from (ldS_blk (E := TTaxiMove.E) (l := (L90000.set ((v55 : Int).toNat) (⟨x125.Call, x125.Push, x125.Hold, x124.Hold⟩ : TTaxiMove))) (ty := 38) (o := 3) (own_some (ty := 38) (by first | rfl | (rw [look'_mem (by first | rfl | simp [topId_blk] | simp [topId])]; first | rfl | (simp (disch := first | decide | assumption) only [mpushs_nil, mpushs_cons, mget_hd, mget_tl, mget_appW_o, mget_appW_n, mget_appW_e]))) (getI_some h126).2) (getI_some h126).2 rfl (by decide) rfl))) ?_
      refine imp ex_i64_b ?_
      refine bind_b fun x127 h127 => ?_
      refine imp (opM_of (show _ = some ((AV.ptr 90000 ((((IntKind.wrap .i64 (v55 - (1))) : Int).toNat) * 4 + 0)), []) from (idx_own (E := TTaxiMove.E) (by first | rfl | omega | (simp; done) | (simp; omega)) h127))) ?_
      refine imp (opM_of (show _ = some ((AV.ptr 90000 ((((IntKind.wrap .i64 (v55 - (1))) : Int).toNat) * 4 + 3)), []) from rfl)) ?_
      refine imp (opM_of (show _ = some ((intA x127.Leave), []) from (ldS_blk (E := TTaxiMove.E) (l := (L90000.set ((v55 : Int).toNat) (⟨x125.Call, x125.Push, x125.Hold, x124.Hold⟩ : TTaxiMove))) (ty := 38) (o := 3) (own_some (ty := 38) (by first | rfl | (rw [look'_mem (by first | rfl | simp [topId_blk] | simp [topId])]; first | rfl | (simp (disch := first | decide | assumption) only [mpushs_nil, mpushs_cons, mget_hd, mget_tl, mget_appW_o, mget_appW_n, mget_appW_e]))) (getI_some h127).2) (getI_some h127).2 rfl (by decide) rfl))) ?_
      refine imp ex_i64_b ?_
      refine imp (opM_of (show _ = some ((intA (if (IntKind.wrap .i64 (x127.Leave + a2)) > x126.Leave then (IntKind.wrap .i64 (x127.Leave + a2)) else x126.Leave)), []) from (by kernel_rfl))) ?_
      refine imp ex_i64_b ?_
      refine bind_b fun x128 h128 => ?_
      refine imp (opM_of (show _ = some ((AV.ptr 90000 (((v55 : Int).toNat) * 4 + 0)), []) from (idx_own (E := TTaxiMove.E) (by first | rfl | omega | (simp; done) | (simp; omega)) h128))) ?_
      refine imp (opM_of (show _ = some ((AV.ptr 90000 (((v55 : Int).toNat) * 4 + 3)), []) from rfl)) ?_
      refine imp (storeW_elO (E := TTaxiMove.E) (l := (L90000.set ((v55 : Int).toNat) (⟨x125.Call, x125.Push, x125.Hold, x124.Hold⟩ : TTaxiMove))) (i := ((v55 : Int).toNat)) (o := 3) (y := (⟨x128.Call, x128.Push, x128.Hold, (if (IntKind.wrap .i64 (x127.Leave + a2)) > x126.Leave then (IntKind.wrap .i64 (x127.Leave + a2)) else x126.Leave)⟩ : TTaxiMove)) (ty := 38) (by kernel_rfl) (by kernel_rfl) rfl (by first | rfl | (rw [look'_mem (by first | rfl | simp [topId_blk] | simp [topId])]; first | rfl | (simp (disch := first | decide | assumption) only [mpushs_nil, mpushs_cons, mget_hd, mget_tl, mget_appW_o, mget_appW_n, mget_appW_e]))) (getI_some h128).2 rfl (by decide) rfl) ?_
      refine imp (chk_of (by kernel_rfl)) ?_
      refine bind_b fun x129 h129 => ?_
      refine iq (AV.ptr 90000 (((v55 : Int).toNat) * 4 + 0)) (idx_own (E := TTaxiMove.E) (by first | rfl | omega | (simp; done) | (simp; omega)) h129) ?_
      refine iq (AV.ptr 90000 (((v55 : Int).toNat) * 4 + 3)) rfl ?_
      refine iq (intA x129.Leave) (ldS_blk (E := TTaxiMove.E) (l := ((L90000.set ((v55 : Int).toNat) (⟨x125.Call, x125.Push, x125.Hold, x124.Hold⟩ : TTaxiMove)).set ((v55 : Int).toNat) (⟨x128.Call, x128.Push, x128.Hold, (if (IntKind.wrap .i64 (x127.Leave + a2)) > x126.Leave then (IntKind.wrap .i64 (x127.Leave + a2)) else x126.Leave)⟩ : TTaxiMove))) (ty := 38) (o := 3) (own_some (ty := 38) (by first | rfl | (simp (disch := first | decide | assumption) only [mpushs_nil, mpushs_cons, mget_hd, mget_tl, mget_appW_o, mget_appW_n, mget_appW_e])) (getI_some h129).2) (getI_some h129).2 rfl (by decide) rfl) ?_
      refine imp ex_i64_b ?_
      refine cond_b (fun _ => ?_) (fun _ => ?_)
      · exact fun hg => hR _ (Option.some.inj hg).symm _ _ ⟨_, rfl, made_nils_pf⟩
      · exact fun hg => hN0 _ (Option.some.inj hg).symm _ (weak_mem [(90000, 90000)] rfl rfl rfl (okW_cons (.inl (leV_refl _)) (okW_cons (.inl (leV_refl _)) (okW_cons (.inl (leV_refl _)) (okW_cons (ent_own (E := TTaxiMove.E) (id := 90000) (l' := ((L90000.set ((v55 : Int).toNat) (⟨x125.Call, x125.Push, x125.Hold, x124.Hold⟩ : TTaxiMove)).set ((v55 : Int).toNat) (⟨x128.Call, x128.Push, x128.Hold, (if (IntKind.wrap .i64 (x127.Leave + a2)) > x126.Leave then (IntKind.wrap .i64 (x127.Leave + a2)) else x126.Leave)⟩ : TTaxiMove))) (by first | rfl | omega | (simp; done) | (simp; omega)) rfl) (okW_cons (.inl (leV_refl _)) (okW_cons (.inl (leV_refl _)) okW_nil)))))) (okB_cons (okB_own (E := TTaxiMove.E) (ty := 38) (l' := ((L90000.set ((v55 : Int).toNat) (⟨x125.Call, x125.Push, x125.Hold, x124.Hold⟩ : TTaxiMove)).set ((v55 : Int).toNat) (⟨x128.Call, x128.Push, x128.Hold, (if (IntKind.wrap .i64 (x127.Leave + a2)) > x126.Leave then (IntKind.wrap .i64 (x127.Leave + a2)) else x126.Leave)⟩ : TTaxiMove))) rfl (show mget _ 90000 = _ from (by first | rfl | (simp (disch := first | decide | assumption) only [mpushs_nil, mpushs_cons, mget_hd, mget_tl, mget_appW_o, mget_appW_n, mget_appW_e])))) okB_nil'))
    · refine bind_b fun x130 h130 => ?_
      refine iq (AV.ptr 90000 (((v55 : Int).toNat) * 4 + 0)) (idx_own (E := TTaxiMove.E) (by first | rfl | omega | (simp; done) | (simp; omega)) h130) ?_
      refine iq (AV.ptr 90000 (((v55 : Int).toNat) * 4 + 3)) rfl ?_
      refine iq (intA x130.Leave) (ldS_blk (E := TTaxiMove.E) (l := (L90000.set ((v55 : Int).toNat) (⟨x125.Call, x125.Push, x125.Hold, x124.Hold⟩ : TTaxiMove))) (ty := 38) (o := 3) (own_some (ty := 38) (by first | rfl | (simp (disch := first | decide | assumption) only [mpushs_nil, mpushs_cons, mget_hd, mget_tl, mget_appW_o, mget_appW_n, mget_appW_e])) (getI_some h130).2) (getI_some h130).2 rfl (by decide) rfl) ?_
      refine imp ex_i64_b ?_
      refine cond_b (fun _ => ?_) (fun _ => ?_)
      · exact fun hg => hR _ (Option.some.inj hg).symm _ _ ⟨_, rfl, made_nils_pf⟩
      · exact fun hg => hN0 _ (Option.some.inj hg).symm _ (weak_mem [(90000, 90000)] rfl rfl rfl (okW_cons (.inl (leV_refl _)) (okW_cons (.inl (leV_refl _)) (okW_cons (.inl (leV_refl _)) (okW_cons (ent_own (E := TTaxiMove.E) (id := 90000) (l' := (L90000.set ((v55 : Int).toNat) (⟨x125.Call, x125.Push, x125.Hold, x124.Hold⟩ : TTaxiMove))) (by first | rfl | omega | (simp; done) | (simp; omega)) rfl) (okW_cons (.inl (leV_refl _)) (okW_cons (.inl (leV_refl _)) okW_nil)))))) (okB_cons (okB_own (E := TTaxiMove.E) (ty := 38) (l' := (L90000.set ((v55 : Int).toNat) (⟨x125.Call, x125.Push, x125.Hold, x124.Hold⟩ : TTaxiMove))) rfl (show mget _ 90000 = _ from (by first | rfl | (simp (disch := first | decide | assumption) only [mpushs_nil, mpushs_cons, mget_hd, mget_tl, mget_appW_o, mget_appW_n, mget_appW_e])))) okB_nil'))
  · exact fun hg => hR _ (Option.some.inj hg).symm _ _ ⟨_, rfl, (made_own_pf (E := TTaxiMove.E) (ty := 38) (l := L90000) rfl (by first | rfl | (simp (disch := first | decide | assumption) only [mpushs_nil, mpushs_cons, mget_hd, mget_tl, mget_appW_o, mget_appW_n, mget_appW_e])))⟩
theorem L26_1_okM (n : Nat) (a2 : Int) (c7 : Int) (c54 : Int) {t : ρ26} (R : AV → Mem → Prop) (hR : ∀ r : ρ26, t = r → ∀ u m, MadeT TTaxiMove.E 38 r.1 [Value.int .i64 r.2] u m → R u m) (k : Nat) (x : Int × List TTaxiMove) (hx : iterO (fun y : Int × List TTaxiMove => S26_1 n a2 c7 c54 y.1 y.2) k x = some t) {s : St} (hw : Weak KK 95 0 s (h26_1 a2 AV.nils c7 (ownV TTaxiMove.E 90000 x.2) c54 x.1 [(90000, ownB TTaxiMove.E 38 x.2)])) : Tri pg KK 95 0 (.loop c26_1) s (q26_1 R ) :=
  L26_1 R  (σ := Nat × (Int × List TTaxiMove)) (fun z => iterO (fun y : Int × List TTaxiMove => S26_1 n a2 c7 c54 y.1 y.2) z.1 z.2 = some t) (fun z => a2) (fun z => AV.nils) (fun z => c7) (fun z => (ownV TTaxiMove.E 90000 z.2.2)) (fun z => c54) (fun z => z.2.1) (fun z => [(90000, ownB TTaxiMove.E 38 z.2.2)]) (fun z => z.1) (by
    rintro ⟨k, y⟩ h
    cases k with
    | zero => exact (iterO_zero h).elim
    | succ k =>
      obtain ⟨u, h1, h2, h3⟩ := iterO_elim h
      exact B26_1_okM n a2 c7 c54 y.1 y.2 R  _ (fun r e => hR r (h3 _ e).symm)  (fun y' e s' hw => ⟨(k, y'), h2 _ e, Nat.lt_succ_self k, hw⟩) h1) (k, x) hx hw
theorem B26_0_okM (n : Nat) (a0 : List TTaxiStand) (a2 : Int) (c7 : Int) (a1 : List TTaxiAsk) (c26 : Int) (v27 : Int) (L90000 : List TTaxiMove) {t : (Int × List TTaxiMove) ⊕ ρ26} (R : AV → Mem → Prop) (N0 : St → Prop) (hR : ∀ r : ρ26, t = (.inr r) → ∀ u m, MadeT TTaxiMove.E 38 r.1 [Value.int .i64 r.2] u m → R u m) (hN0 : ∀ y : Int × List TTaxiMove, t = (.inl y) → ∀ s' : St, Weak KK 95 0 s' (h26_0 (lstA TTaxiStand.E a0) a2 AV.nils c7 (ownV TTaxiMove.E 90000 y.2) (lstA TTaxiAsk.E a1) c26 y.1 [(90000, ownB TTaxiMove.E 38 y.2)]) → N0 s') : S26_0 n a0 a2 c7 a1 c26 v27 L90000 = some t → B26_0 (lstA TTaxiStand.E a0) a2 AV.nils c7 (ownV TTaxiMove.E 90000 L90000) (lstA TTaxiAsk.E a1) c26 v27 [(90000, ownB TTaxiMove.E 38 L90000)] R N0 := by
  unfold S26_0 B26_0
  refine cond_b (fun _ => ?_) (fun _ => ?_)
  · refine bind_b fun x118 h118 => ?_
    refine iq (AV.ept [(strA x118.Call), (strA x118.Stand), (intA x118.Ready)] 0) (idx_lst (E := TTaxiAsk.E) rfl h118) ?_
    refine iq (AV.agg [(strA x118.Call), (strA x118.Stand), (intA x118.Ready)]) rfl ?_
    refine imp exA3_b ?_
    refine imp exStr_b ?_
    refine imp exStr_b ?_
    refine imp ex_i64_b ?_
    refine imp (opM_of (show _ = some ((strA x118.Call), []) from (ldS_ptr (b := ⟨[(strA x118.Call), (strA x118.Stand), (intA x118.Ready)], 113⟩) (by first | rfl | (rw [look'_mem (by first | rfl | simp [topId_blk] | simp [topId])]; first | rfl | (simp (disch := first | decide | assumption) only [mpushs_nil, mpushs_cons, mget_hd, mget_tl, mget_appW_o, mget_appW_n, mget_appW_e]))) rfl))) ?_
    refine imp exStr_b ?_
    refine imp (opM_of (show _ = some ((intA x118.Ready), []) from (ldS_ptr (b := ⟨[(strA x118.Call), (strA x118.Stand), (intA x118.Ready)], 113⟩) (by first | rfl | (rw [look'_mem (by first | rfl | simp [topId_blk] | simp [topId])]; first | rfl | (simp (disch := first | decide | assumption) only [mpushs_nil, mpushs_cons, mget_hd, mget_tl, mget_appW_o, mget_appW_n, mget_appW_e]))) rfl))) ?_
    refine imp ex_i64_b ?_
    refine imp (opM_of (show _ = some ((intA x118.Ready), []) from (ldS_ptr (b := ⟨[(strA x118.Call), (strA x118.Stand), (intA x118.Ready)], 113⟩) (by first | rfl | (rw [look'_mem (by first | rfl | simp [topId_blk] | simp [topId])]; first | rfl | (simp (disch := first | decide | assumption) only [mpushs_nil, mpushs_cons, mget_hd, mget_tl, mget_appW_o, mget_appW_n, mget_appW_e]))) rfl))) ?_
    refine imp ex_i64_b ?_
    refine imp (opM_of (show _ = some ((strA x118.Stand), []) from (ldS_ptr (b := ⟨[(strA x118.Call), (strA x118.Stand), (intA x118.Ready)], 113⟩) (by first | rfl | (rw [look'_mem (by first | rfl | simp [topId_blk] | simp [topId])]; first | rfl | (simp (disch := first | decide | assumption) only [mpushs_nil, mpushs_cons, mget_hd, mget_tl, mget_appW_o, mget_appW_n, mget_appW_e]))) rfl))) ?_
    refine imp exStr_b ?_
    refine bind_b fun x119 h119 => ?_
    refine imp (callF_says (sg95 h119)) ?_
    refine imp ex_i64_b ?_
    refine bind_b fun x120 h120 => ?_
    refine imp (opM_of (show _ = some ((AV.ept [(strA x120.Name), (intA x120.Time)] 0), []) from (idx_lst (E := TTaxiStand.E) rfl h120))) ?_
    refine imp (opM_of (show _ = some ((AV.ept [(strA x120.Name), (intA x120.Time)] 1), []) from rfl)) ?_
    refine imp (opM_of (show _ = some ((intA x120.Time), []) from rfl)) ?_
    refine imp ex_i64_b ?_
    refine imp (opM_of (show _ = some ((AV.agg [(strA x118.Call), (intA x118.Ready), (intA (IntKind.wrap .i64 (x118.Ready + x120.Time))), (intA (0))]), []) from rfl)) ?_
    refine imp (opM_of (show _ = some ((blkV TTaxiMove.E 100022 ([(⟨x118.Call, x118.Ready, (IntKind.wrap .i64 (x118.Ready + x120.Time)), (0)⟩ : TTaxiMove)] : List TTaxiMove)), [(100022, some ⟨encs TTaxiMove.E ([(⟨x118.Call, x118.Ready, (IntKind.wrap .i64 (x118.Ready + x120.Time)), (0)⟩ : TTaxiMove)] : List TTaxiMove), 38⟩)]) from rfl)) ?_
    refine bind_b fun x122 h122 => ?_
    refine imp (opM_of (show _ = some ((ownV TTaxiMove.E 100023 (L90000 ++ ([(⟨x118.Call, x118.Ready, (IntKind.wrap .i64 (x118.Ready + x120.Time)), (0)⟩ : TTaxiMove)] : List TTaxiMove))), (appW TTaxiMove.E 100023 90000 38 L90000 ([(⟨x118.Call, x118.Ready, (IntKind.wrap .i64 (x118.Ready + x120.Time)), (0)⟩ : TTaxiMove)] : List TTaxiMove))) from (app_own (E := TTaxiMove.E) (l' := L90000) (xs := ([(⟨x118.Call, x118.Ready, (IntKind.wrap .i64 (x118.Ready + x120.Time)), (0)⟩ : TTaxiMove)] : List TTaxiMove)) rfl rfl (cellsOf_blk (E := TTaxiMove.E) (ty := 38) rfl rfl (by first | rfl | (rw [look'_mem (by first | rfl | simp [topId_blk] | simp [topId])]; first | rfl | (simp (disch := first | decide | assumption) only [mpushs_nil, mpushs_cons, mget_hd, mget_tl, mget_appW_o, mget_appW_n, mget_appW_e])))) (by first | assumption | simp) rfl (fun hne => look'_own hne rfl (by first | rfl | (simp (disch := first | decide | assumption) only [mpushs_nil, mpushs_cons, mget_hd, mget_tl, mget_appW_o, mget_appW_n, mget_appW_e]))) h122))) ?_
    refine imp (chk_of (by rcases (L90000) with _ | ⟨_, _⟩ <;> kernel_rfl)) ?_
    exact fun hg => hN0 _ (Option.some.inj hg).symm _ (weak_mem [(90000, 100023)] rfl rfl rfl (okW_cons (ent_lst (E := TTaxiStand.E) _ false) (okW_cons (.inl (leV_refl _)) (okW_cons (.inl (leV_refl _)) (okW_cons (.inl (leV_refl _)) (okW_cons (ent_own (E := TTaxiMove.E) (id := 100023) (l' := (L90000 ++ ([(⟨x118.Call, x118.Ready, (IntKind.wrap .i64 (x118.Ready + x120.Time)), (0)⟩ : TTaxiMove)] : List TTaxiMove))) rfl rfl) (okW_cons (ent_lst (E := TTaxiAsk.E) _ false) (okW_cons (.inl (leV_refl _)) (okW_cons (.inl (leV_refl _)) okW_nil)))))))) (okB_cons (okB_own (E := TTaxiMove.E) (ty := 38) (l' := (L90000 ++ ([(⟨x118.Call, x118.Ready, (IntKind.wrap .i64 (x118.Ready + x120.Time)), (0)⟩ : TTaxiMove)] : List TTaxiMove))) rfl (show mget _ 100023 = _ from (by first | rfl | (simp (disch := first | decide | assumption) only [mpushs_nil, mpushs_cons, mget_hd, mget_tl, mget_appW_o, mget_appW_n, mget_appW_e])))) okB_nil'))
  · refine bind_b fun x123 h123 => ?_
    have lh123 := sortO_len h123
    refine imp (callW_sortV (hx := rfl) (E := TTaxiMove.E) (ty := 38) (l := L90000) (cmp := (fun x y => g97 n x y)) rfl TTaxiMove.ok sorts96 none96 plain96 rfl (by first | rfl | (simp (disch := first | decide | assumption) only [mpushs_nil, mpushs_cons, mget_hd, mget_tl, mget_appW_o, mget_appW_n, mget_appW_e])) capsOk_nil (fun x y z h => sg97 h) h123) ?_
    refine imp exT0_b ?_
    refine iq (intA (x123.length : Int)) (len_ownL (by first | rfl | omega | (simp; done) | (simp; omega))) ?_
    refine imp ex_i64_b ?_
    refine mapInr_b fun t0 e0 => ?_
    exact fun hg => L26_1_okM n a2 c7 (x123.length : Int) R  (fun r e => hR r (e0.trans (congrArg Sum.inr e))) n _ hg (weak_mem [(90000, 90000)] rfl rfl rfl (okW_cons (.inl (leV_refl _)) (okW_cons (.inl (leV_refl _)) (okW_cons (.inl (leV_refl _)) (okW_cons (ent_own (E := TTaxiMove.E) (id := 90000) (l' := x123) (by first | rfl | omega | (simp; done) | (simp; omega)) rfl) (okW_cons (.inl (leV_refl _)) (okW_cons (.inl (leV_refl _)) okW_nil)))))) (okB_cons (okB_own (E := TTaxiMove.E) (ty := 38) (l' := x123) rfl (show mget _ 90000 = _ from (by first | rfl | (simp (disch := first | decide | assumption) only [mpushs_nil, mpushs_cons, mget_hd, mget_tl, mget_appW_o, mget_appW_n, mget_appW_e])))) okB_nil'))
theorem L26_0_okM (n : Nat) (a0 : List TTaxiStand) (a2 : Int) (c7 : Int) (a1 : List TTaxiAsk) (c26 : Int) {t : ρ26} (R : AV → Mem → Prop) (hR : ∀ r : ρ26, t = r → ∀ u m, MadeT TTaxiMove.E 38 r.1 [Value.int .i64 r.2] u m → R u m) (k : Nat) (x : Int × List TTaxiMove) (hx : iterO (fun y : Int × List TTaxiMove => S26_0 n a0 a2 c7 a1 c26 y.1 y.2) k x = some t) {s : St} (hw : Weak KK 95 0 s (h26_0 (lstA TTaxiStand.E a0) a2 AV.nils c7 (ownV TTaxiMove.E 90000 x.2) (lstA TTaxiAsk.E a1) c26 x.1 [(90000, ownB TTaxiMove.E 38 x.2)])) : Tri pg KK 95 0 (.loop c26_0) s (q26_0 R ) :=
  L26_0 R  (σ := Nat × (Int × List TTaxiMove)) (fun z => iterO (fun y : Int × List TTaxiMove => S26_0 n a0 a2 c7 a1 c26 y.1 y.2) z.1 z.2 = some t) (fun z => (lstA TTaxiStand.E a0)) (fun z => a2) (fun z => AV.nils) (fun z => c7) (fun z => (ownV TTaxiMove.E 90000 z.2.2)) (fun z => (lstA TTaxiAsk.E a1)) (fun z => c26) (fun z => z.2.1) (fun z => [(90000, ownB TTaxiMove.E 38 z.2.2)]) (fun z => z.1) (by
    rintro ⟨k, y⟩ h
    cases k with
    | zero => exact (iterO_zero h).elim
    | succ k =>
      obtain ⟨u, h1, h2, h3⟩ := iterO_elim h
      exact B26_0_okM n a0 a2 c7 a1 c26 y.1 y.2 R  _ (fun r e => hR r (h3 _ e).symm)  (fun y' e s' hw => ⟨(k, y'), h2 _ e, Nat.lt_succ_self k, hw⟩) h1) (k, x) hx hw
theorem g26_okM (n : Nat) (a0 : List TTaxiStand) (a1 : List TTaxiAsk) (a2 : Int) {t : ρ26} (R : AV → Mem → Prop) (hR : ∀ r : ρ26, t = r → ∀ u m, MadeT TTaxiMove.E 38 r.1 [Value.int .i64 r.2] u m → R u m) : g26 n a0 a1 a2 = some t → F26 (lstA TTaxiStand.E a0) (lstA TTaxiAsk.E a1) a2 R := by
  unfold g26 F26
  refine bind_b fun x117 h117 => ?_
  refine imp (callQ_says (sg94 h117)) ?_
  refine imp ex_i64_b ?_
  refine cond_b (fun _ => ?_) (fun _ => ?_)
  · exact fun hg => hR _ (Option.some.inj hg).symm _ _ ⟨_, rfl, made_nils_pf⟩
  · refine cond_b (fun _ => ?_) (fun _ => ?_)
    · exact fun hg => hR _ (Option.some.inj hg).symm _ _ ⟨_, rfl, made_nils_pf⟩
    · refine cond_b (fun _ => ?_) (fun _ => ?_)
      · exact fun hg => hR _ (Option.some.inj hg).symm _ _ ⟨_, rfl, made_nils_pf⟩
      · refine iq (intA (a1.length : Int)) rfl ?_
        refine imp ex_i64_b ?_
        exact fun hg => L26_0_okM n a0 a2 (0) a1 (a1.length : Int) R  hR n _ hg (weak_mem [(90000, 89500)] rfl rfl rfl (okW_cons (ent_lst (E := TTaxiStand.E) _ false) (okW_cons (.inl (leV_refl _)) (okW_cons (.inl (leV_refl _)) (okW_cons (.inl (leV_refl _)) (okW_cons ent_nils_own (okW_cons (ent_lst (E := TTaxiAsk.E) _ false) (okW_cons (.inl (leV_refl _)) (okW_cons (.inl (leV_refl _)) okW_nil)))))))) (okB_cons okB_nil okB_nil'))
theorem mg26C {n k : Nat} {look : Nat → Option ABlk} {a0 : List TTaxiStand} {a1 : List TTaxiAsk} {a2 : Int} {t : ρ26} (h : g26 n a0 a1 a2 = some t) : PureD pg KK.gl look k 26 [(lstA TTaxiStand.E a0), (lstA TTaxiAsk.E a1), (intA a2)] (.tup (ownV TTaxiMove.E k t.1 :: ([Value.int .i64 t.2] : List Value).map AV.sc)) [(k, ownB TTaxiMove.E 38 t.1)] :=
  made_tupC (by first | rfl | simp [cleans, clean, encs_clean, En.cln]) (F26_own (lstA TTaxiStand.E a0) (lstA TTaxiAsk.E a1) a2 _ (g26_okM n a0 a1 a2 (MadeT TTaxiMove.E 38 t.1 [Value.int .i64 t.2]) (fun r e u m h => by rw [e]; exact h) h))
/- skyway/taxi.Late -/
theorem B8_0_ok (n : Nat) (a3 : Int) (c9 : Int) (c31 : Int) (v32 : Int) (L90000 : List TTaxiMove) {t : (Int × List TTaxiMove) ⊕ ρ8} (R : AV → Mem → Prop) (N0 : St → Prop) (hR : ∀ r : ρ8, t = (.inr r) → ∀ u m, Ans ((AV.tup [(lstA TTaxiMove.E r.1), (intA r.2)])) u m → R u m) (hN0 : ∀ y : Int × List TTaxiMove, t = (.inl y) → ∀ s' : St, Weak KK 70 0 s' (h8_0 a3 AV.nils c9 (ownV TTaxiMove.E 90000 y.2) c31 y.1 [(90000, ownB TTaxiMove.E 38 y.2)]) → N0 s') : S8_0 n a3 c9 c31 v32 L90000 = some t → B8_0 a3 AV.nils c9 (ownV TTaxiMove.E 90000 L90000) c31 v32 [(90000, ownB TTaxiMove.E 38 L90000)] R N0 := by
  unfold S8_0 B8_0
  refine cond_b (fun _ => ?_) (fun _ => ?_)
  · refine bind_b fun x131 h131 => ?_
    refine iq (AV.ptr 90000 (((v32 : Int).toNat) * 4 + 0)) (idx_own (E := TTaxiMove.E) rfl h131) ?_
    refine iq (AV.ptr 90000 (((v32 : Int).toNat) * 4 + 3)) rfl ?_
    refine iq (intA x131.Leave) (ldS_blk (E := TTaxiMove.E) (l := L90000) (ty := 38) (o := 3) (own_some (ty := 38) (by first | rfl | (simp (disch := first | decide | assumption) only [mpushs_nil, mpushs_cons, mget_hd, mget_tl, mget_appW_o, mget_appW_n, mget_appW_e])) (getI_some h131).2) (getI_some h131).2 rfl (by decide) rfl) ?_
    refine imp ex_i64_b ?_
    refine bind_b fun x132 h132 => ?_
    refine iq (AV.ptr 90000 (((v32 : Int).toNat) * 4 + 0)) (idx_own (E := TTaxiMove.E) rfl h132) ?_
    refine iq (AV.ptr 90000 (((v32 : Int).toNat) * 4 + 2)) rfl ?_
    refine iq (intA x132.Hold) (ldS_blk (E := TTaxiMove.E) (l := L90000) (ty := 38) (o := 2) (own_some (ty := 38) (by first | rfl | (simp (disch := first | decide | assumption) only [mpushs_nil, mpushs_cons, mget_hd, mget_tl, mget_appW_o, mget_appW_n, mget_appW_e])) (getI_some h132).2) (getI_some h132).2 rfl (by decide) rfl) ?_
    refine imp ex_i64_b ?_
    refine cond_b (fun _ => ?_) (fun _ => ?_)
    · refine bind_b fun x133 h133 => ?_
      refine iq (AV.ptr 90000 (((v32 : Int).toNat) * 4 + 0)) (idx_own (E := TTaxiMove.E) rfl h133) ?_
      refine iq (AV.ptr 90000 (((v32 : Int).toNat) * 4 + 1)) rfl ?_
      refine iq (intA x133.Push) (ldS_blk (E := TTaxiMove.E) (l := L90000) (ty := 38) (o := 1) (own_some (ty := 38) (by first | rfl | (simp (disch := first | decide | assumption) only [mpushs_nil, mpushs_cons, mget_hd, mget_tl, mget_appW_o, mget_appW_n, mget_appW_e])) (getI_some h133).2) (getI_some h133).2 rfl (by decide) rfl) ?_
      refine imp ex_i64_b ?_
      refine bind_b fun x134 h134 => ?_
      refine iq (AV.ptr 90000 (((v32 : Int).toNat) * 4 + 0)) (idx_own (E := TTaxiMove.E) rfl h134) ?_
      refine iq (AV.ptr 90000 (((v32 : Int).toNat) * 4 + 1)) rfl ?_
      refine imp (storeW_elO (E := TTaxiMove.E) (l := L90000) (i := ((v32 : Int).toNat)) (o := 1) (y := (⟨x134.Call, (IntKind.wrap .i64 (x133.Push + (IntKind.wrap .i64 ((IntKind.wrap .i64 (x131.Leave - x132.Hold)) - a3)))), x134.Hold, x134.Leave⟩ : TTaxiMove)) (ty := 38) (by kernel_rfl) (by kernel_rfl) rfl (by first | rfl | (simp (disch := first | decide | assumption) only [mpushs_nil, mpushs_cons, mget_hd, mget_tl, mget_appW_o, mget_appW_n, mget_appW_e])) (getI_some h134).2 rfl (by decide) rfl) ?_
      refine bind_b fun x135 h135 => ?_
      refine iq (AV.ptr 90000 (((v32 : Int).toNat) * 4 + 0)) (idx_own (E := TTaxiMove.E) (by first | rfl | omega | (simp; done) | (simp; omega)) h135) ?_
      refine iq (AV.ptr 90000 (((v32 : Int).toNat) * 4 + 2)) rfl ?_
      refine iq (intA x135.Hold) (ldS_blk (E := TTaxiMove.E) (l := (L90000.set ((v32 : Int).toNat) (⟨x134.Call, (IntKind.wrap .i64 (x133.Push + (IntKind.wrap .i64 ((IntKind.wrap .i64 (x131.Leave - x132.Hold)) - a3)))), x134.Hold, x134.Leave⟩ : TTaxiMove))) (ty := 38) (o := 2) (own_some (ty := 38) (by first | rfl | (simp (disch := first | decide | assumption) only [mpushs_nil, mpushs_cons, mget_hd, mget_tl, mget_appW_o, mget_appW_n, mget_appW_e])) (getI_some h135).2) (getI_some h135).2 rfl (by decide) rfl) ?_
      refine imp ex_i64_b ?_
      refine bind_b fun x136 h136 => ?_
      refine iq (AV.ptr 90000 (((v32 : Int).toNat) * 4 + 0)) (idx_own (E := TTaxiMove.E) (by first | rfl | omega | (simp; done) | (simp; omega)) h136) ?_
      refine iq (AV.ptr 90000 (((v32 : Int).toNat) * 4 + 2)) rfl ?_
      refine imp (storeW_elO (E := TTaxiMove.E) (l := (L90000.set ((v32 : Int).toNat) (⟨x134.Call, (IntKind.wrap .i64 (x133.Push + (IntKind.wrap .i64 ((IntKind.wrap .i64 (x131.Leave - x132.Hold)) - a3)))), x134.Hold, x134.Leave⟩ : TTaxiMove))) (i := ((v32 : Int).toNat)) (o := 2) (y := (⟨x136.Call, x136.Push, (IntKind.wrap .i64 (x135.Hold + (IntKind.wrap .i64 ((IntKind.wrap .i64 (x131.Leave - x132.Hold)) - a3)))), x136.Leave⟩ : TTaxiMove)) (ty := 38) (by kernel_rfl) (by kernel_rfl) rfl (by first | rfl | (simp (disch := first | decide | assumption) only [mpushs_nil, mpushs_cons, mget_hd, mget_tl, mget_appW_o, mget_appW_n, mget_appW_e])) (getI_some h136).2 rfl (by decide) rfl) ?_
      exact fun hg => hN0 _ (Option.some.inj hg).symm _ (weak_mem [(90000, 90000)] rfl rfl rfl (okW_cons (.inl (leV_refl _)) (okW_cons (.inl (leV_refl _)) (okW_cons (.inl (leV_refl _)) (okW_cons (ent_own (E := TTaxiMove.E) (id := 90000) (l' := ((L90000.set ((v32 : Int).toNat) (⟨x134.Call, (IntKind.wrap .i64 (x133.Push + (IntKind.wrap .i64 ((IntKind.wrap .i64 (x131.Leave - x132.Hold)) - a3)))), x134.Hold, x134.Leave⟩ : TTaxiMove)).set ((v32 : Int).toNat) (⟨x136.Call, x136.Push, (IntKind.wrap .i64 (x135.Hold + (IntKind.wrap .i64 ((IntKind.wrap .i64 (x131.Leave - x132.Hold)) - a3)))), x136.Leave⟩ : TTaxiMove))) (by first | rfl | omega | (simp; done) | (simp; omega)) rfl) (okW_cons (.inl (leV_refl _)) (okW_cons (.inl (leV_refl _)) okW_nil)))))) (okB_cons (okB_own (E := TTaxiMove.E) (ty := 38) (l' := ((L90000.set ((v32 : Int).toNat) (⟨x134.Call, (IntKind.wrap .i64 (x133.Push + (IntKind.wrap .i64 ((IntKind.wrap .i64 (x131.Leave - x132.Hold)) - a3)))), x134.Hold, x134.Leave⟩ : TTaxiMove)).set ((v32 : Int).toNat) (⟨x136.Call, x136.Push, (IntKind.wrap .i64 (x135.Hold + (IntKind.wrap .i64 ((IntKind.wrap .i64 (x131.Leave - x132.Hold)) - a3)))), x136.Leave⟩ : TTaxiMove))) rfl (show mget _ 90000 = _ from (by first | rfl | (simp (disch := first | decide | assumption) only [mpushs_nil, mpushs_cons, mget_hd, mget_tl, mget_appW_o, mget_appW_n, mget_appW_e])))) okB_nil'))
    · exact fun hg => hN0 _ (Option.some.inj hg).symm _ (weak_mem [(90000, 90000)] rfl rfl rfl (okW_cons (.inl (leV_refl _)) (okW_cons (.inl (leV_refl _)) (okW_cons (.inl (leV_refl _)) (okW_cons (ent_own (E := TTaxiMove.E) (id := 90000) (l' := L90000) rfl rfl) (okW_cons (.inl (leV_refl _)) (okW_cons (.inl (leV_refl _)) okW_nil)))))) (okB_cons (okB_own (E := TTaxiMove.E) (ty := 38) (l' := L90000) rfl (show mget _ 90000 = _ from (by first | rfl | (simp (disch := first | decide | assumption) only [mpushs_nil, mpushs_cons, mget_hd, mget_tl, mget_appW_o, mget_appW_n, mget_appW_e])))) okB_nil'))
  · exact fun hg => retN rfl (hR _ (Option.some.inj hg).symm) (fzL_cons (fz_own (E := TTaxiMove.E) (ty := 38) (l' := L90000) _ rfl (by first | rfl | (simp (disch := first | decide | assumption) only [mpushs_nil, mpushs_cons, mget_hd, mget_tl, mget_appW_o, mget_appW_n, mget_appW_e]))) (fzL_cons (fz_sc _ _) fzL_nil))
theorem L8_0_ok (n : Nat) (a3 : Int) (c9 : Int) (c31 : Int) {t : ρ8} (R : AV → Mem → Prop) (hR : ∀ r : ρ8, t = r → ∀ u m, Ans ((AV.tup [(lstA TTaxiMove.E r.1), (intA r.2)])) u m → R u m) (k : Nat) (x : Int × List TTaxiMove) (hx : iterO (fun y : Int × List TTaxiMove => S8_0 n a3 c9 c31 y.1 y.2) k x = some t) {s : St} (hw : Weak KK 70 0 s (h8_0 a3 AV.nils c9 (ownV TTaxiMove.E 90000 x.2) c31 x.1 [(90000, ownB TTaxiMove.E 38 x.2)])) : Tri pg KK 70 0 (.loop c8_0) s (q8_0 R ) :=
  L8_0 R  (σ := Nat × (Int × List TTaxiMove)) (fun z => iterO (fun y : Int × List TTaxiMove => S8_0 n a3 c9 c31 y.1 y.2) z.1 z.2 = some t) (fun z => a3) (fun z => AV.nils) (fun z => c9) (fun z => (ownV TTaxiMove.E 90000 z.2.2)) (fun z => c31) (fun z => z.2.1) (fun z => [(90000, ownB TTaxiMove.E 38 z.2.2)]) (fun z => z.1) (by
    rintro ⟨k, y⟩ h
    cases k with
    | zero => exact (iterO_zero h).elim
    | succ k =>
      obtain ⟨u, h1, h2, h3⟩ := iterO_elim h
      exact B8_0_ok n a3 c9 c31 y.1 y.2 R  _ (fun r e => hR r (h3 _ e).symm)  (fun y' e s' hw => ⟨(k, y'), h2 _ e, Nat.lt_succ_self k, hw⟩) h1) (k, x) hx hw
theorem g8_ok (n : Nat) (a0 : List TTaxiStand) (a1 : List TTaxiAsk) (a2 : Int) (a3 : Int) {t : ρ8} (R : AV → Mem → Prop) (hR : ∀ r : ρ8, t = r → ∀ u m, Ans ((AV.tup [(lstA TTaxiMove.E r.1), (intA r.2)])) u m → R u m) : g8 n a0 a1 a2 a3 = some t → F8 (lstA TTaxiStand.E a0) (lstA TTaxiAsk.E a1) a2 a3 R := by
  unfold g8 F8
  refine bind_b fun x116 h116 => ?_
  refine imp (callW_D (show PureD _ _ _ _ _ _ (AV.tup [(ownV TTaxiMove.E 5 x116.1), (intA x116.2)]) [(5, ownB TTaxiMove.E 38 x116.1)] from mg26C h116)) ?_
  refine imp exT2_b ?_
  refine imp ex_i64_b ?_
  refine cond_b (fun _ => ?_) (fun _ => ?_)
  · exact fun hg => retN rfl (hR _ (Option.some.inj hg).symm) (fzL_cons (fz_nils (E := TTaxiMove.E) _) (fzL_cons (fz_sc _ _) fzL_nil))
  · refine cond_b (fun _ => ?_) (fun _ => ?_)
    · exact fun hg => retN rfl (hR _ (Option.some.inj hg).symm) (fzL_cons (fz_nils (E := TTaxiMove.E) _) (fzL_cons (fz_sc _ _) fzL_nil))
    · refine cond_b (fun _ => ?_) (fun _ => ?_)
      · exact fun hg => retN rfl (hR _ (Option.some.inj hg).symm) (fzL_cons (fz_nils (E := TTaxiMove.E) _) (fzL_cons (fz_sc _ _) fzL_nil))
      · refine imp (opP_of (show _ = some ((intA (x116.1.length : Int)), []) from len_own)) ?_
        refine imp ex_i64_b ?_
        exact fun hg => L8_0_ok n a3 (0) (x116.1.length : Int) R  hR n _ hg (weak_mem [(90000, 5)] rfl rfl rfl (okW_cons (.inl (leV_refl _)) (okW_cons (.inl (leV_refl _)) (okW_cons (.inl (leV_refl _)) (okW_cons (ent_own (E := TTaxiMove.E) (id := 5) (l' := x116.1) rfl rfl) (okW_cons (.inl (leV_refl _)) (okW_cons (.inl (leV_refl _)) okW_nil)))))) (okB_cons (okB_own (E := TTaxiMove.E) (ty := 38) (l' := x116.1) rfl (show mget _ 5 = _ from (by first | rfl | (simp (disch := first | decide | assumption) only [mpushs_nil, mpushs_cons, mget_hd, mget_tl, mget_appW_o, mget_appW_n, mget_appW_e])))) okB_nil'))
theorem sg8 {n : Nat} {a0 : List TTaxiStand} {a1 : List TTaxiAsk} {a2 : Int} {a3 : Int} {t : ρ8} (h : g8 n a0 a1 a2 a3 = some t) : Says pg KK.gl 8 [(lstA TTaxiStand.E a0), (lstA TTaxiAsk.E a1), (intA a2), (intA a3)] ((AV.tup [(lstA TTaxiMove.E t.1), (intA t.2)])) :=
  says_of_own (by first | rfl | simp [cleans, clean, encs_clean, En.cln]) (by first | rfl | simp [cleans, clean, encs_clean, En.cln]) (F8_own (lstA TTaxiStand.E a0) (lstA TTaxiAsk.E a1) a2 a3 _ (g8_ok n a0 a1 a2 a3 (Ans ((AV.tup [(lstA TTaxiMove.E t.1), (intA t.2)]))) (fun r e u m h => by rw [e]; exact h) h))
/- skyway/runway.wrongTime -/
theorem g37_ok (n : Nat) (a0 : Int) {t : ρ37} (R : AV → Mem → Prop) (hR : ∀ r : ρ37, t = r → ∀ u m, Ans ((boolA r)) u m → R u m) : g37 n a0 = some t → F37 a0 R := by
  unfold g37 F37
  refine cond_b (fun _ => ?_) (fun _ => ?_)
  · exact fun hg => ret1 (hR _ (Option.some.inj hg).symm) (fz_sc _ _)
  · exact fun hg => ret1 (hR _ (Option.some.inj hg).symm) (fz_sc _ _)
theorem sg37 {n : Nat} {a0 : Int} {t : ρ37} (h : g37 n a0 = some t) : Says pg KK.gl 37 [(intA a0)] ((boolA t)) :=
  says_of_own (by first | rfl | simp [cleans, clean, encs_clean, En.cln]) (by first | rfl | simp [cleans, clean, encs_clean, En.cln]) (F37_own a0 _ (g37_ok n a0 (Ans ((boolA t))) (fun r e u m h => by rw [e]; exact h) h))
/- skyway/runway.Check -/
theorem B104_0_ok (n : Nat) (a0 : List TRunwayMove) (c2 : Int) (c10 : Int) (v11 : Int) {t : (Int) ⊕ ρ104} (R : AV → Mem → Prop) (N0 : St → Prop) (hR : ∀ r : ρ104, t = (.inr r) → ∀ u m, Ans ((intA r)) u m → R u m) (hN0 : ∀ y : Int, t = (.inl y) → ∀ s' : St, Weak KK 49 0 s' (h104_0 (lstA TRunwayMove.E a0) c2 (lstA TRunwayMove.E a0) c10 y []) → N0 s') : S104_0 n a0 c2 c10 v11 = some t → B104_0 (lstA TRunwayMove.E a0) c2 (lstA TRunwayMove.E a0) c10 v11 [] R N0 := by
  unfold S104_0 B104_0
  refine cond_b (fun _ => ?_) (fun _ => ?_)
  · refine bind_b fun x142 h142 => ?_
    refine iq (AV.ept [(intA x142.Time), (intA x142.Wake), (boolA x142.Departs), (intA x142.End)] 0) (idx_lst (E := TRunwayMove.E) rfl h142) ?_
    refine iq (AV.agg [(intA x142.Time), (intA x142.Wake), (boolA x142.Departs), (intA x142.End)]) rfl ?_
    refine imp exA4_b ?_
    iterate 2 refine imp ex_i64_b ?_
    refine imp exB_b ?_
    refine imp ex_i64_b ?_
    refine bind_b fun x143 h143 => ?_
    refine imp (callQ_says (sg37 h143)) ?_
    refine imp exB_b ?_
    refine cond_b (fun _ => ?_) (fun _ => ?_)
    · exact fun hg => ret1 (hR _ (Option.some.inj hg).symm) (fz_sc _ _)
    · refine cond_b (fun _ => ?_) (fun _ => ?_)
      · refine bind_b fun x144 h144 => ?_
        refine iq (AV.ept [(intA x144.Time), (intA x144.Wake), (boolA x144.Departs), (intA x144.End)] 0) (idx_lst (E := TRunwayMove.E) rfl h144) ?_
        refine iq (AV.ept [(intA x144.Time), (intA x144.Wake), (boolA x144.Departs), (intA x144.End)] 0) rfl ?_
        refine iq (intA x144.Time) rfl ?_
        refine imp ex_i64_b ?_
        refine cond_b (fun _ => ?_) (fun _ => ?_)
        · exact fun hg => ret1 (hR _ (Option.some.inj hg).symm) (fz_sc _ _)
        · refine bind_b fun x145 h145 => ?_
          refine imp (callQ_says (sg38 h145)) ?_
          refine imp ex_i64_b ?_
          refine cond_b (fun _ => ?_) (fun _ => ?_)
          · exact fun hg => ret1 (hR _ (Option.some.inj hg).symm) (fz_sc _ _)
          · refine cond_b (fun _ => ?_) (fun _ => ?_)
            · refine cond_b (fun _ => ?_) (fun _ => ?_)
              · exact fun hg => ret1 (hR _ (Option.some.inj hg).symm) (fz_sc _ _)
              · exact fun hg => hN0 _ (Option.some.inj hg).symm _ (weak_mem [] rfl rfl rfl (okW_cons (ent_lst (E := TRunwayMove.E) _ false) (okW_cons (.inl (leV_refl _)) (okW_cons (ent_lst (E := TRunwayMove.E) _ false) (okW_cons (.inl (leV_refl _)) (okW_cons (.inl (leV_refl _)) okW_nil))))) okB_nil')
            · exact fun hg => hN0 _ (Option.some.inj hg).symm _ (weak_mem [] rfl rfl rfl (okW_cons (ent_lst (E := TRunwayMove.E) _ false) (okW_cons (.inl (leV_refl _)) (okW_cons (ent_lst (E := TRunwayMove.E) _ false) (okW_cons (.inl (leV_refl _)) (okW_cons (.inl (leV_refl _)) okW_nil))))) okB_nil')
      · refine bind_b fun x146 h146 => ?_
        refine imp (callQ_says (sg38 h146)) ?_
        refine imp ex_i64_b ?_
        refine cond_b (fun _ => ?_) (fun _ => ?_)
        · exact fun hg => ret1 (hR _ (Option.some.inj hg).symm) (fz_sc _ _)
        · refine cond_b (fun _ => ?_) (fun _ => ?_)
          · refine cond_b (fun _ => ?_) (fun _ => ?_)
            · exact fun hg => ret1 (hR _ (Option.some.inj hg).symm) (fz_sc _ _)
            · exact fun hg => hN0 _ (Option.some.inj hg).symm _ (weak_mem [] rfl rfl rfl (okW_cons (ent_lst (E := TRunwayMove.E) _ false) (okW_cons (.inl (leV_refl _)) (okW_cons (ent_lst (E := TRunwayMove.E) _ false) (okW_cons (.inl (leV_refl _)) (okW_cons (.inl (leV_refl _)) okW_nil))))) okB_nil')
          · exact fun hg => hN0 _ (Option.some.inj hg).symm _ (weak_mem [] rfl rfl rfl (okW_cons (ent_lst (E := TRunwayMove.E) _ false) (okW_cons (.inl (leV_refl _)) (okW_cons (ent_lst (E := TRunwayMove.E) _ false) (okW_cons (.inl (leV_refl _)) (okW_cons (.inl (leV_refl _)) okW_nil))))) okB_nil')
  · exact fun hg => ret1 (hR _ (Option.some.inj hg).symm) (fz_sc _ _)
theorem L104_0_ok (n : Nat) (a0 : List TRunwayMove) (c2 : Int) (c10 : Int) {t : ρ104} (R : AV → Mem → Prop) (hR : ∀ r : ρ104, t = r → ∀ u m, Ans ((intA r)) u m → R u m) (k : Nat) (x : Int) (hx : iterO (fun y : Int => S104_0 n a0 c2 c10 y) k x = some t) {s : St} (hw : Weak KK 49 0 s (h104_0 (lstA TRunwayMove.E a0) c2 (lstA TRunwayMove.E a0) c10 x [])) : Tri pg KK 49 0 (.loop c104_0) s (q104_0 R ) :=
  L104_0 R  (σ := Nat × (Int)) (fun z => iterO (fun y : Int => S104_0 n a0 c2 c10 y) z.1 z.2 = some t) (fun z => (lstA TRunwayMove.E a0)) (fun z => c2) (fun z => (lstA TRunwayMove.E a0)) (fun z => c10) (fun z => z.2) (fun z => []) (fun z => z.1) (by
    rintro ⟨k, y⟩ h
    cases k with
    | zero => exact (iterO_zero h).elim
    | succ k =>
      obtain ⟨u, h1, h2, h3⟩ := iterO_elim h
      exact B104_0_ok n a0 c2 c10 y R  _ (fun r e => hR r (h3 _ e).symm)  (fun y' e s' hw => ⟨(k, y'), h2 _ e, Nat.lt_succ_self k, hw⟩) h1) (k, x) hx hw
theorem g104_ok (n : Nat) (a0 : List TRunwayMove) {t : ρ104} (R : AV → Mem → Prop) (hR : ∀ r : ρ104, t = r → ∀ u m, Ans ((intA r)) u m → R u m) : g104 n a0 = some t → F104 (lstA TRunwayMove.E a0) R := by
  unfold g104 F104
  refine iq (intA (a0.length : Int)) rfl ?_
  refine imp ex_i64_b ?_
  refine cond_b (fun _ => ?_) (fun _ => ?_)
  · exact fun hg => ret1 (hR _ (Option.some.inj hg).symm) (fz_sc _ _)
  · refine iq (intA (a0.length : Int)) rfl ?_
    refine imp ex_i64_b ?_
    exact fun hg => L104_0_ok n a0 (0) (a0.length : Int) R  hR n _ hg (weak_mem [] rfl rfl rfl (okW_cons (ent_lst (E := TRunwayMove.E) _ false) (okW_cons (.inl (leV_refl _)) (okW_cons (ent_lst (E := TRunwayMove.E) _ false) (okW_cons (.inl (leV_refl _)) (okW_cons (.inl (leV_refl _)) okW_nil))))) okB_nil')
theorem sg104 {n : Nat} {a0 : List TRunwayMove} {t : ρ104} (h : g104 n a0 = some t) : Says pg KK.gl 104 [(lstA TRunwayMove.E a0)] ((intA t)) :=
  says_of_own (by first | rfl | simp [cleans, clean, encs_clean, En.cln]) (by first | rfl | simp [cleans, clean, encs_clean, En.cln]) (F104_own (lstA TRunwayMove.E a0) _ (g104_ok n a0 (Ans ((intA t))) (fun r e u m h => by rw [e]; exact h) h))
/- skyway/runway.Spans -/
theorem B105_0_ok (n : Nat) (a0 : List TRunwaySpan) (c2 : Int) (c14 : Int) (v15 : Int) {t : (Int) ⊕ ρ105} (R : AV → Mem → Prop) (N0 : St → Prop) (hR : ∀ r : ρ105, t = (.inr r) → ∀ u m, Ans ((intA r)) u m → R u m) (hN0 : ∀ y : Int, t = (.inl y) → ∀ s' : St, Weak KK 64 0 s' (h105_0 (lstA TRunwaySpan.E a0) c2 (lstA TRunwaySpan.E a0) c14 y []) → N0 s') : S105_0 n a0 c2 c14 v15 = some t → B105_0 (lstA TRunwaySpan.E a0) c2 (lstA TRunwaySpan.E a0) c14 v15 [] R N0 := by
  unfold S105_0 B105_0
  refine cond_b (fun _ => ?_) (fun _ => ?_)
  · refine bind_b fun x148 h148 => ?_
    refine iq (AV.ept [(intA x148.From), (intA x148.End)] 0) (idx_lst (E := TRunwaySpan.E) rfl h148) ?_
    refine iq (AV.agg [(intA x148.From), (intA x148.End)]) rfl ?_
    refine imp exA2_b ?_
    iterate 2 refine imp ex_i64_b ?_
    refine cond_b (fun _ => ?_) (fun _ => ?_)
    · refine cond_b (fun _ => ?_) (fun _ => ?_)
      · exact fun hg => ret1 (hR _ (Option.some.inj hg).symm) (fz_sc _ _)
      · refine bind_b fun x149 h149 => ?_
        refine imp (callQ_says (sg37 h149)) ?_
        refine imp exB_b ?_
        refine cond_b (fun _ => ?_) (fun _ => ?_)
        · exact fun hg => ret1 (hR _ (Option.some.inj hg).symm) (fz_sc _ _)
        · refine cond_b (fun _ => ?_) (fun _ => ?_)
          · refine bind_b fun x150 h150 => ?_
            refine iq (AV.ept [(intA x150.From), (intA x150.End)] 0) (idx_lst (E := TRunwaySpan.E) rfl h150) ?_
            refine iq (AV.ept [(intA x150.From), (intA x150.End)] 0) rfl ?_
            refine iq (intA x150.From) rfl ?_
            refine imp ex_i64_b ?_
            refine cond_b (fun _ => ?_) (fun _ => ?_)
            · exact fun hg => ret1 (hR _ (Option.some.inj hg).symm) (fz_sc _ _)
            · refine cond_b (fun _ => ?_) (fun _ => ?_)
              · refine bind_b fun x151 h151 => ?_
                refine iq (AV.ept [(intA x151.From), (intA x151.End)] 0) (idx_lst (E := TRunwaySpan.E) rfl h151) ?_
                refine iq (AV.ept [(intA x151.From), (intA x151.End)] 1) rfl ?_
                refine iq (intA x151.End) rfl ?_
                refine imp ex_i64_b ?_
                refine cond_b (fun _ => ?_) (fun _ => ?_)
                · exact fun hg => ret1 (hR _ (Option.some.inj hg).symm) (fz_sc _ _)
                · exact fun hg => hN0 _ (Option.some.inj hg).symm _ (weak_mem [] rfl rfl rfl (okW_cons (ent_lst (E := TRunwaySpan.E) _ false) (okW_cons (.inl (leV_refl _)) (okW_cons (ent_lst (E := TRunwaySpan.E) _ false) (okW_cons (.inl (leV_refl _)) (okW_cons (.inl (leV_refl _)) okW_nil))))) okB_nil')
              · exact fun hg => hN0 _ (Option.some.inj hg).symm _ (weak_mem [] rfl rfl rfl (okW_cons (ent_lst (E := TRunwaySpan.E) _ false) (okW_cons (.inl (leV_refl _)) (okW_cons (ent_lst (E := TRunwaySpan.E) _ false) (okW_cons (.inl (leV_refl _)) (okW_cons (.inl (leV_refl _)) okW_nil))))) okB_nil')
          · refine cond_b (fun _ => ?_) (fun _ => ?_)
            · refine bind_b fun x152 h152 => ?_
              refine iq (AV.ept [(intA x152.From), (intA x152.End)] 0) (idx_lst (E := TRunwaySpan.E) rfl h152) ?_
              refine iq (AV.ept [(intA x152.From), (intA x152.End)] 1) rfl ?_
              refine iq (intA x152.End) rfl ?_
              refine imp ex_i64_b ?_
              refine cond_b (fun _ => ?_) (fun _ => ?_)
              · exact fun hg => ret1 (hR _ (Option.some.inj hg).symm) (fz_sc _ _)
              · exact fun hg => hN0 _ (Option.some.inj hg).symm _ (weak_mem [] rfl rfl rfl (okW_cons (ent_lst (E := TRunwaySpan.E) _ false) (okW_cons (.inl (leV_refl _)) (okW_cons (ent_lst (E := TRunwaySpan.E) _ false) (okW_cons (.inl (leV_refl _)) (okW_cons (.inl (leV_refl _)) okW_nil))))) okB_nil')
            · exact fun hg => hN0 _ (Option.some.inj hg).symm _ (weak_mem [] rfl rfl rfl (okW_cons (ent_lst (E := TRunwaySpan.E) _ false) (okW_cons (.inl (leV_refl _)) (okW_cons (ent_lst (E := TRunwaySpan.E) _ false) (okW_cons (.inl (leV_refl _)) (okW_cons (.inl (leV_refl _)) okW_nil))))) okB_nil')
    · refine bind_b fun x153 h153 => ?_
      refine imp (callQ_says (sg37 h153)) ?_
      refine imp exB_b ?_
      refine cond_b (fun _ => ?_) (fun _ => ?_)
      · exact fun hg => ret1 (hR _ (Option.some.inj hg).symm) (fz_sc _ _)
      · refine cond_b (fun _ => ?_) (fun _ => ?_)
        · refine bind_b fun x154 h154 => ?_
          refine iq (AV.ept [(intA x154.From), (intA x154.End)] 0) (idx_lst (E := TRunwaySpan.E) rfl h154) ?_
          refine iq (AV.ept [(intA x154.From), (intA x154.End)] 0) rfl ?_
          refine iq (intA x154.From) rfl ?_
          refine imp ex_i64_b ?_
          refine cond_b (fun _ => ?_) (fun _ => ?_)
          · exact fun hg => ret1 (hR _ (Option.some.inj hg).symm) (fz_sc _ _)
          · refine cond_b (fun _ => ?_) (fun _ => ?_)
            · refine bind_b fun x155 h155 => ?_
              refine iq (AV.ept [(intA x155.From), (intA x155.End)] 0) (idx_lst (E := TRunwaySpan.E) rfl h155) ?_
              refine iq (AV.ept [(intA x155.From), (intA x155.End)] 1) rfl ?_
              refine iq (intA x155.End) rfl ?_
              refine imp ex_i64_b ?_
              refine cond_b (fun _ => ?_) (fun _ => ?_)
              · exact fun hg => ret1 (hR _ (Option.some.inj hg).symm) (fz_sc _ _)
              · exact fun hg => hN0 _ (Option.some.inj hg).symm _ (weak_mem [] rfl rfl rfl (okW_cons (ent_lst (E := TRunwaySpan.E) _ false) (okW_cons (.inl (leV_refl _)) (okW_cons (ent_lst (E := TRunwaySpan.E) _ false) (okW_cons (.inl (leV_refl _)) (okW_cons (.inl (leV_refl _)) okW_nil))))) okB_nil')
            · exact fun hg => hN0 _ (Option.some.inj hg).symm _ (weak_mem [] rfl rfl rfl (okW_cons (ent_lst (E := TRunwaySpan.E) _ false) (okW_cons (.inl (leV_refl _)) (okW_cons (ent_lst (E := TRunwaySpan.E) _ false) (okW_cons (.inl (leV_refl _)) (okW_cons (.inl (leV_refl _)) okW_nil))))) okB_nil')
        · refine cond_b (fun _ => ?_) (fun _ => ?_)
          · refine bind_b fun x156 h156 => ?_
            refine iq (AV.ept [(intA x156.From), (intA x156.End)] 0) (idx_lst (E := TRunwaySpan.E) rfl h156) ?_
            refine iq (AV.ept [(intA x156.From), (intA x156.End)] 1) rfl ?_
            refine iq (intA x156.End) rfl ?_
            refine imp ex_i64_b ?_
            refine cond_b (fun _ => ?_) (fun _ => ?_)
            · exact fun hg => ret1 (hR _ (Option.some.inj hg).symm) (fz_sc _ _)
            · exact fun hg => hN0 _ (Option.some.inj hg).symm _ (weak_mem [] rfl rfl rfl (okW_cons (ent_lst (E := TRunwaySpan.E) _ false) (okW_cons (.inl (leV_refl _)) (okW_cons (ent_lst (E := TRunwaySpan.E) _ false) (okW_cons (.inl (leV_refl _)) (okW_cons (.inl (leV_refl _)) okW_nil))))) okB_nil')
          · exact fun hg => hN0 _ (Option.some.inj hg).symm _ (weak_mem [] rfl rfl rfl (okW_cons (ent_lst (E := TRunwaySpan.E) _ false) (okW_cons (.inl (leV_refl _)) (okW_cons (ent_lst (E := TRunwaySpan.E) _ false) (okW_cons (.inl (leV_refl _)) (okW_cons (.inl (leV_refl _)) okW_nil))))) okB_nil')
  · exact fun hg => ret1 (hR _ (Option.some.inj hg).symm) (fz_sc _ _)
theorem L105_0_ok (n : Nat) (a0 : List TRunwaySpan) (c2 : Int) (c14 : Int) {t : ρ105} (R : AV → Mem → Prop) (hR : ∀ r : ρ105, t = r → ∀ u m, Ans ((intA r)) u m → R u m) (k : Nat) (x : Int) (hx : iterO (fun y : Int => S105_0 n a0 c2 c14 y) k x = some t) {s : St} (hw : Weak KK 64 0 s (h105_0 (lstA TRunwaySpan.E a0) c2 (lstA TRunwaySpan.E a0) c14 x [])) : Tri pg KK 64 0 (.loop c105_0) s (q105_0 R ) :=
  L105_0 R  (σ := Nat × (Int)) (fun z => iterO (fun y : Int => S105_0 n a0 c2 c14 y) z.1 z.2 = some t) (fun z => (lstA TRunwaySpan.E a0)) (fun z => c2) (fun z => (lstA TRunwaySpan.E a0)) (fun z => c14) (fun z => z.2) (fun z => []) (fun z => z.1) (by
    rintro ⟨k, y⟩ h
    cases k with
    | zero => exact (iterO_zero h).elim
    | succ k =>
      obtain ⟨u, h1, h2, h3⟩ := iterO_elim h
      exact B105_0_ok n a0 c2 c14 y R  _ (fun r e => hR r (h3 _ e).symm)  (fun y' e s' hw => ⟨(k, y'), h2 _ e, Nat.lt_succ_self k, hw⟩) h1) (k, x) hx hw
theorem g105_ok (n : Nat) (a0 : List TRunwaySpan) {t : ρ105} (R : AV → Mem → Prop) (hR : ∀ r : ρ105, t = r → ∀ u m, Ans ((intA r)) u m → R u m) : g105 n a0 = some t → F105 (lstA TRunwaySpan.E a0) R := by
  unfold g105 F105
  refine iq (intA (a0.length : Int)) rfl ?_
  refine imp ex_i64_b ?_
  refine cond_b (fun _ => ?_) (fun _ => ?_)
  · exact fun hg => ret1 (hR _ (Option.some.inj hg).symm) (fz_sc _ _)
  · refine iq (intA (a0.length : Int)) rfl ?_
    refine imp ex_i64_b ?_
    refine cond_b (fun _ => ?_) (fun _ => ?_)
    · exact fun hg => ret1 (hR _ (Option.some.inj hg).symm) (fz_sc _ _)
    · refine iq (intA (a0.length : Int)) rfl ?_
      refine imp ex_i64_b ?_
      exact fun hg => L105_0_ok n a0 (0) (a0.length : Int) R  hR n _ hg (weak_mem [] rfl rfl rfl (okW_cons (ent_lst (E := TRunwaySpan.E) _ false) (okW_cons (.inl (leV_refl _)) (okW_cons (ent_lst (E := TRunwaySpan.E) _ false) (okW_cons (.inl (leV_refl _)) (okW_cons (.inl (leV_refl _)) okW_nil))))) okB_nil')
theorem sg105 {n : Nat} {a0 : List TRunwaySpan} {t : ρ105} (h : g105 n a0 = some t) : Says pg KK.gl 105 [(lstA TRunwaySpan.E a0)] ((intA t)) :=
  says_of_own (by first | rfl | simp [cleans, clean, encs_clean, En.cln]) (by first | rfl | simp [cleans, clean, encs_clean, En.cln]) (F105_own (lstA TRunwaySpan.E a0) _ (g105_ok n a0 (Ans ((intA t))) (fun r e u m h => by rw [e]; exact h) h))
/- skyway/runway.direction -/
theorem B39_0_ok (n : Nat) (a1 : Int) (c4 : Int) (c5 : Bool) (x162 : List TRunwaySpan) (c21 : Int) (v6 : Int) (v22 : Int) {t : (Int × Int) ⊕ ρ39} (R : AV → Mem → Prop) (N0 : St → Prop) (hR : ∀ r : ρ39, t = (.inr r) → ∀ u m, Ans ((AV.tup [(intA r.1), (boolA r.2)])) u m → R u m) (hN0 : ∀ y : Int × Int, t = (.inl y) → ∀ s' : St, Weak KK 44 0 s' (h39_0 a1 c4 c5 y.1 (lstA TRunwaySpan.E x162) c21 y.2 []) → N0 s') : S39_0 n a1 c4 c5 x162 c21 v6 v22 = some t → B39_0 a1 c4 c5 v6 (lstA TRunwaySpan.E x162) c21 v22 [] R N0 := by
  unfold S39_0 B39_0
  refine cond_b (fun _ => ?_) (fun _ => ?_)
  · refine bind_b fun x163 h163 => ?_
    refine iq (AV.ept [(intA x163.From), (intA x163.End)] 0) (idx_lst (E := TRunwaySpan.E) rfl h163) ?_
    refine iq (AV.agg [(intA x163.From), (intA x163.End)]) rfl ?_
    refine imp exA2_b ?_
    iterate 2 refine imp ex_i64_b ?_
    refine iq (intA (if (IntKind.wrap .i64 (x163.From - a1)) > (IntKind.wrap .i64 (a1 - x163.From)) then (IntKind.wrap .i64 (x163.From - a1)) else (IntKind.wrap .i64 (a1 - x163.From)))) (by kernel_rfl) ?_
    refine imp ex_i64_b ?_
    refine cond_b (fun _ => ?_) (fun _ => ?_)
    · exact fun hg => retN rfl (hR _ (Option.some.inj hg).symm) (fzL_cons (fz_sc _ _) (fzL_cons (fz_sc _ _) fzL_nil))
    · refine cond_b (fun _ => ?_) (fun _ => ?_)
      · exact fun hg => hN0 _ (Option.some.inj hg).symm _ (weak_mem [] rfl rfl rfl (okW_cons (.inl (leV_refl _)) (okW_cons (.inl (leV_refl _)) (okW_cons (.inl (leV_refl _)) (okW_cons (.inl (leV_refl _)) (okW_cons (ent_lst (E := TRunwaySpan.E) _ false) (okW_cons (.inl (leV_refl _)) (okW_cons (.inl (leV_refl _)) okW_nil))))))) okB_nil')
      · exact fun hg => hN0 _ (Option.some.inj hg).symm _ (weak_mem [] rfl rfl rfl (okW_cons (.inl (leV_refl _)) (okW_cons (.inl (leV_refl _)) (okW_cons (.inl (leV_refl _)) (okW_cons (.inl (leV_refl _)) (okW_cons (ent_lst (E := TRunwaySpan.E) _ false) (okW_cons (.inl (leV_refl _)) (okW_cons (.inl (leV_refl _)) okW_nil))))))) okB_nil')
  · exact fun hg => retN rfl (hR _ (Option.some.inj hg).symm) (fzL_cons (fz_sc _ _) (fzL_cons (fz_sc _ _) fzL_nil))
theorem L39_0_ok (n : Nat) (a1 : Int) (c4 : Int) (c5 : Bool) (x162 : List TRunwaySpan) (c21 : Int) {t : ρ39} (R : AV → Mem → Prop) (hR : ∀ r : ρ39, t = r → ∀ u m, Ans ((AV.tup [(intA r.1), (boolA r.2)])) u m → R u m) (k : Nat) (x : Int × Int) (hx : iterO (fun y : Int × Int => S39_0 n a1 c4 c5 x162 c21 y.1 y.2) k x = some t) {s : St} (hw : Weak KK 44 0 s (h39_0 a1 c4 c5 x.1 (lstA TRunwaySpan.E x162) c21 x.2 [])) : Tri pg KK 44 0 (.loop c39_0) s (q39_0 R ) :=
  L39_0 R  (σ := Nat × (Int × Int)) (fun z => iterO (fun y : Int × Int => S39_0 n a1 c4 c5 x162 c21 y.1 y.2) z.1 z.2 = some t) (fun z => a1) (fun z => c4) (fun z => c5) (fun z => z.2.1) (fun z => (lstA TRunwaySpan.E x162)) (fun z => c21) (fun z => z.2.2) (fun z => []) (fun z => z.1) (by
    rintro ⟨k, y⟩ h
    cases k with
    | zero => exact (iterO_zero h).elim
    | succ k =>
      obtain ⟨u, h1, h2, h3⟩ := iterO_elim h
      exact B39_0_ok n a1 c4 c5 x162 c21 y.1 y.2 R  _ (fun r e => hR r (h3 _ e).symm)  (fun y' e s' hw => ⟨(k, y'), h2 _ e, Nat.lt_succ_self k, hw⟩) h1) (k, x) hx hw
theorem g39_ok (n : Nat) (a0 : List TRunwaySpan) (a1 : Int) {t : ρ39} (R : AV → Mem → Prop) (hR : ∀ r : ρ39, t = r → ∀ u m, Ans ((AV.tup [(intA r.1), (boolA r.2)])) u m → R u m) : g39 n a0 a1 = some t → F39 (lstA TRunwaySpan.E a0) a1 R := by
  unfold g39 F39
  refine bind_b fun x160 h160 => ?_
  refine iq (AV.ept [(intA x160.From), (intA x160.End)] 0) (idx_lst (E := TRunwaySpan.E) rfl h160) ?_
  refine iq (AV.ept [(intA x160.From), (intA x160.End)] 0) rfl ?_
  refine iq (intA x160.From) rfl ?_
  refine imp ex_i64_b ?_
  refine cond_b (fun _ => ?_) (fun _ => ?_)
  · exact fun hg => retN rfl (hR _ (Option.some.inj hg).symm) (fzL_cons (fz_sc _ _) (fzL_cons (fz_sc _ _) fzL_nil))
  · refine bind_b fun x161 h161 => ?_
    refine iq (AV.ept [(intA x161.From), (intA x161.End)] 0) (idx_lst (E := TRunwaySpan.E) rfl h161) ?_
    refine iq (AV.ept [(intA x161.From), (intA x161.End)] 1) rfl ?_
    refine iq (intA x161.End) rfl ?_
    refine imp ex_i64_b ?_
    refine bind_b fun x162 h162 => ?_
    refine iq (lstA TRunwaySpan.E x162) (slc_lo (E := TRunwaySpan.E) (e := 45) (by kernel_rfl) (by kernel_rfl) rfl h162) ?_
    refine iq (intA (x162.length : Int)) rfl ?_
    refine imp ex_i64_b ?_
    exact fun hg => L39_0_ok n a1 (0) false x162 (x162.length : Int) R  hR n _ hg (weak_mem [] rfl rfl rfl (okW_cons (.inl (leV_refl _)) (okW_cons (.inl (leV_refl _)) (okW_cons (.inl (leV_refl _)) (okW_cons (.inl (leV_refl _)) (okW_cons (ent_lst (E := TRunwaySpan.E) _ false) (okW_cons (.inl (leV_refl _)) (okW_cons (.inl (leV_refl _)) okW_nil))))))) okB_nil')
theorem sg39 {n : Nat} {a0 : List TRunwaySpan} {a1 : Int} {t : ρ39} (h : g39 n a0 a1 = some t) : Says pg KK.gl 39 [(lstA TRunwaySpan.E a0), (intA a1)] ((AV.tup [(intA t.1), (boolA t.2)])) :=
  says_of_own (by first | rfl | simp [cleans, clean, encs_clean, En.cln]) (by first | rfl | simp [cleans, clean, encs_clean, En.cln]) (F39_own (lstA TRunwaySpan.E a0) a1 _ (g39_ok n a0 a1 (Ans ((AV.tup [(intA t.1), (boolA t.2)]))) (fun r e u m h => by rw [e]; exact h) h))
/- skyway/runway.gap -/
theorem g106_ok (n : Nat) (a0 : TWakeTable) (a1 : TRunwayMove) (a2 : TRunwayMove) {t : ρ106} (R : AV → Mem → Prop) (hR : ∀ r : ρ106, t = r → ∀ u m, Ans ((intA r)) u m → R u m) : g106 n a0 a1 a2 = some t → F106 a0.c0_0 a0.c0_1 a0.c0_2 a0.c0_3 a0.c1_0 a0.c1_1 a0.c1_2 a0.c1_3 a0.c2_0 a0.c2_1 a0.c2_2 a0.c2_3 a0.c3_0 a0.c3_1 a0.c3_2 a0.c3_3 a1.Time a1.Wake a1.Departs a1.End a2.Time a2.Wake a2.Departs a2.End R := by
  unfold g106 F106
  refine iq (boolA (!(a1.Departs == a2.Departs))) (by kernel_rfl) ?_
  refine imp exB_b ?_
  refine cond_b (fun _ => ?_) (fun _ => ?_)
  · exact fun hg => ret1 (hR _ (Option.some.inj hg).symm) (fz_sc _ _)
  · refine bind_b fun x168 h168 => ?_
    refine iq (AV.ptr 0 (((a1.Wake : Int).toNat) * 4 + 0)) (idxA_ok0 (l := ([(⟨a0.c0_0, a0.c0_1, a0.c0_2, a0.c0_3⟩ : T29), (⟨a0.c1_0, a0.c1_1, a0.c1_2, a0.c1_3⟩ : T29), (⟨a0.c2_0, a0.c2_1, a0.c2_2, a0.c2_3⟩ : T29), (⟨a0.c3_0, a0.c3_1, a0.c3_2, a0.c3_3⟩ : T29)] : List T29)) (len := 4) rfl h168) ?_
    refine bind_b fun x169 h169 => ?_
    refine iq (AV.ptr 0 _) (idxA_ok (l := ([x168.c0, x168.c1, x168.c2, x168.c3] : List Int)) (len := 4) rfl h169) ?_
    refine iq (intA x169) (ldS_row (E := T29.E) (E2 := intE) (l := ([(⟨a0.c0_0, a0.c0_1, a0.c0_2, a0.c0_3⟩ : T29), (⟨a0.c1_0, a0.c1_1, a0.c1_2, a0.c1_3⟩ : T29), (⟨a0.c2_0, a0.c2_1, a0.c2_2, a0.c2_3⟩ : T29), (⟨a0.c3_0, a0.c3_1, a0.c3_2, a0.c3_3⟩ : T29)] : List T29)) (l2 := ([x168.c0, x168.c1, x168.c2, x168.c3] : List Int)) (ty := 31) (by first | rfl | (simp (disch := first | decide | assumption) only [mpushs_nil, mpushs_cons, mget_hd, mget_tl, mget_appW_o, mget_appW_n, mget_appW_e])) (getI_some h168).2 rfl rfl (getI_some h169).2 rfl) ?_
    refine imp ex_i64_b ?_
    exact fun hg => ret1 (hR _ (Option.some.inj hg).symm) (fz_sc _ _)
theorem sg106 {n : Nat} {a0 : TWakeTable} {a1 : TRunwayMove} {a2 : TRunwayMove} {t : ρ106} (h : g106 n a0 a1 a2 = some t) : Says pg KK.gl 106 [(AV.agg [(intA a0.c0_0), (intA a0.c0_1), (intA a0.c0_2), (intA a0.c0_3), (intA a0.c1_0), (intA a0.c1_1), (intA a0.c1_2), (intA a0.c1_3), (intA a0.c2_0), (intA a0.c2_1), (intA a0.c2_2), (intA a0.c2_3), (intA a0.c3_0), (intA a0.c3_1), (intA a0.c3_2), (intA a0.c3_3)]), (AV.agg [(intA a1.Time), (intA a1.Wake), (boolA a1.Departs), (intA a1.End)]), (AV.agg [(intA a2.Time), (intA a2.Wake), (boolA a2.Departs), (intA a2.End)])] ((intA t)) :=
  says_of_own (by first | rfl | simp [cleans, clean, encs_clean, En.cln]) (by first | rfl | simp [cleans, clean, encs_clean, En.cln]) (F106_own a0.c0_0 a0.c0_1 a0.c0_2 a0.c0_3 a0.c1_0 a0.c1_1 a0.c1_2 a0.c1_3 a0.c2_0 a0.c2_1 a0.c2_2 a0.c2_3 a0.c3_0 a0.c3_1 a0.c3_2 a0.c3_3 a1.Time a1.Wake a1.Departs a1.End a2.Time a2.Wake a2.Departs a2.End _ (g106_ok n a0 a1 a2 (Ans ((intA t))) (fun r e u m h => by rw [e]; exact h) h))
/- skyway/runway.Safe -/
theorem B35_1_0_ok (n : Nat) (a0 : List TRunwayMove) (c6 : Int) (v61 : Int) (c60 : Int) (k0_0 : Int) (k0_1 : Int) (k0_2 : Int) (k0_3 : Int) (k0_4 : Int) (k0_5 : Int) (k0_6 : Int) (k0_7 : Int) (k0_8 : Int) (k0_9 : Int) (k0_10 : Int) (k0_11 : Int) (k0_12 : Int) (k0_13 : Int) (k0_14 : Int) (k0_15 : Int) (k200004_0 : Int) (k200004_1 : Int) (k200004_2 : Bool) (k200004_3 : Int) (w18 : Int) {t : (Int) ⊕ ((Int) ⊕ ρ35)} (R : AV → Mem → Prop) (N0 : St → Prop) (N1 : St → Prop) (hR : ∀ r : ρ35, t = (.inr (.inr r)) → ∀ u m, Ans ((AV.tup [(intA r.1), (intA r.2.1), (intA r.2.2)])) u m → R u m) (hN0 : ∀ y : Int, t = (.inr (.inl y)) → ∀ s' : St, Weak KK 93 0 s' (h35_1 (lstA TRunwayMove.E a0) c6 c6 c6 (lstA TRunwayMove.E a0) c60 y k0_0 k0_1 k0_2 k0_3 k0_4 k0_5 k0_6 k0_7 k0_8 k0_9 k0_10 k0_11 k0_12 k0_13 k0_14 k0_15 []) → N0 s') (hN1 : ∀ y : Int, t = (.inl y) → ∀ s' : St, Weak KK 93 0 s' (h35_1_0 (lstA TRunwayMove.E a0) c6 c6 c6 v61 y (lstA TRunwayMove.E a0) c60 v61 k0_0 k0_1 k0_2 k0_3 k0_4 k0_5 k0_6 k0_7 k0_8 k0_9 k0_10 k0_11 k0_12 k0_13 k0_14 k0_15 k200004_0 k200004_1 k200004_2 k200004_3 []) → N1 s') : S35_1_0 n a0 c6 v61 c60 k0_0 k0_1 k0_2 k0_3 k0_4 k0_5 k0_6 k0_7 k0_8 k0_9 k0_10 k0_11 k0_12 k0_13 k0_14 k0_15 k200004_0 k200004_1 k200004_2 k200004_3 w18 = some t → B35_1_0 (lstA TRunwayMove.E a0) c6 c6 c6 v61 w18 (lstA TRunwayMove.E a0) c60 v61 k0_0 k0_1 k0_2 k0_3 k0_4 k0_5 k0_6 k0_7 k0_8 k0_9 k0_10 k0_11 k0_12 k0_13 k0_14 k0_15 k200004_0 k200004_1 k200004_2 k200004_3 [] R N0 N1 := by
  unfold S35_1_0 B35_1_0
  refine iq (intA (a0.length : Int)) rfl ?_
  refine imp ex_i64_b ?_
  refine cond_b (fun _ => ?_) (fun _ => ?_)
  · refine bind_b fun x166 h166 => ?_
    refine iq (AV.ept [(intA x166.Time), (intA x166.Wake), (boolA x166.Departs), (intA x166.End)] 0) (idx_lst (E := TRunwayMove.E) rfl h166) ?_
    refine iq (AV.ept [(intA x166.Time), (intA x166.Wake), (boolA x166.Departs), (intA x166.End)] 0) rfl ?_
    refine iq (intA x166.Time) rfl ?_
    refine imp ex_i64_b ?_
    refine bind_b fun x167 h167 => ?_
    refine iq (AV.ept [(intA x167.Time), (intA x167.Wake), (boolA x167.Departs), (intA x167.End)] 0) (idx_lst (E := TRunwayMove.E) rfl h167) ?_
    refine iq (AV.agg [(intA x167.Time), (intA x167.Wake), (boolA x167.Departs), (intA x167.End)]) rfl ?_
    refine imp exA4_b ?_
    iterate 2 refine imp ex_i64_b ?_
    refine imp exB_b ?_
    refine imp ex_i64_b ?_
    refine bind_b fun x170 h170 => ?_
    refine imp (callQ_says (sg106 h170)) ?_
    refine imp ex_i64_b ?_
    refine cond_b (fun _ => ?_) (fun _ => ?_)
    · exact fun hg => retN rfl (hR _ (Option.some.inj hg).symm) (fzL_cons (fz_sc _ _) (fzL_cons (fz_sc _ _) (fzL_cons (fz_sc _ _) fzL_nil)))
    · exact fun hg => hN1 _ (Option.some.inj hg).symm _ (weak_mem [(0, 0), (200004, 200004)] rfl rfl rfl (okW_cons (ent_lst (E := TRunwayMove.E) _ false) (okW_cons (.inl (leV_refl _)) (okW_cons (.inl (leV_refl _)) (okW_cons (.inl (leV_refl _)) (okW_cons (.inl (leV_refl _)) (okW_cons (.inl (leV_refl _)) (okW_cons (.inl (leV_refl _)) (okW_cons (.inl (leV_refl _)) (okW_cons (ent_lst (E := TRunwayMove.E) _ false) (okW_cons (.inl (leV_refl _)) (okW_cons (.inl (leV_refl _)) okW_nil))))))))))) (okB_cons (okB_cells (cs := [(intA k0_0), (intA k0_1), (intA k0_2), (intA k0_3), (intA k0_4), (intA k0_5), (intA k0_6), (intA k0_7), (intA k0_8), (intA k0_9), (intA k0_10), (intA k0_11), (intA k0_12), (intA k0_13), (intA k0_14), (intA k0_15)]) (ty := 31) rfl (show mget _ 0 = _ from (by first | rfl | (simp (disch := first | decide | assumption) only [mpushs_nil, mpushs_cons, mget_hd, mget_tl, mget_appW_o, mget_appW_n, mget_appW_e])))) (okB_cons (okB_cells (cs := [(intA k200004_0), (intA k200004_1), (boolA k200004_2), (intA k200004_3)]) (ty := 48) rfl (show mget _ 200004 = _ from (by first | rfl | (simp (disch := first | decide | assumption) only [mpushs_nil, mpushs_cons, mget_hd, mget_tl, mget_appW_o, mget_appW_n, mget_appW_e])))) okB_nil')))
  · exact fun hg => hN0 _ (Option.some.inj hg).symm _ (weak_mem [(0, 0)] rfl rfl rfl (okW_cons (ent_lst (E := TRunwayMove.E) _ false) (okW_cons (.inl (leV_refl _)) (okW_cons (.inl (leV_refl _)) (okW_cons (.inl (leV_refl _)) (okW_cons (.inl (leV_refl _)) (okW_cons (ent_lst (E := TRunwayMove.E) _ false) (okW_cons (.inl (leV_refl _)) (okW_cons (.inl (leV_refl _)) okW_nil)))))))) (okB_cons (okB_cells (cs := [(intA k0_0), (intA k0_1), (intA k0_2), (intA k0_3), (intA k0_4), (intA k0_5), (intA k0_6), (intA k0_7), (intA k0_8), (intA k0_9), (intA k0_10), (intA k0_11), (intA k0_12), (intA k0_13), (intA k0_14), (intA k0_15)]) (ty := 31) rfl (show mget _ 0 = _ from (by first | rfl | (simp (disch := first | decide | assumption) only [mpushs_nil, mpushs_cons, mget_hd, mget_tl, mget_appW_o, mget_appW_n, mget_appW_e])))) okB_nil'))
theorem L35_1_0_ok (n : Nat) (a0 : List TRunwayMove) (c6 : Int) (v61 : Int) (c60 : Int) (k0_0 : Int) (k0_1 : Int) (k0_2 : Int) (k0_3 : Int) (k0_4 : Int) (k0_5 : Int) (k0_6 : Int) (k0_7 : Int) (k0_8 : Int) (k0_9 : Int) (k0_10 : Int) (k0_11 : Int) (k0_12 : Int) (k0_13 : Int) (k0_14 : Int) (k0_15 : Int) (k200004_0 : Int) (k200004_1 : Int) (k200004_2 : Bool) (k200004_3 : Int) {t : ((Int) ⊕ ρ35)} (R : AV → Mem → Prop) (N0 : St → Prop) (hR : ∀ r : ρ35, t = (.inr r) → ∀ u m, Ans ((AV.tup [(intA r.1), (intA r.2.1), (intA r.2.2)])) u m → R u m) (hN0 : ∀ y : Int, t = (.inl y) → ∀ s' : St, Weak KK 93 0 s' (h35_1 (lstA TRunwayMove.E a0) c6 c6 c6 (lstA TRunwayMove.E a0) c60 y k0_0 k0_1 k0_2 k0_3 k0_4 k0_5 k0_6 k0_7 k0_8 k0_9 k0_10 k0_11 k0_12 k0_13 k0_14 k0_15 []) → N0 s') (k : Nat) (x : Int) (hx : iterO (fun y : Int => S35_1_0 n a0 c6 v61 c60 k0_0 k0_1 k0_2 k0_3 k0_4 k0_5 k0_6 k0_7 k0_8 k0_9 k0_10 k0_11 k0_12 k0_13 k0_14 k0_15 k200004_0 k200004_1 k200004_2 k200004_3 y) k x = some t) {s : St} (hw : Weak KK 93 0 s (h35_1_0 (lstA TRunwayMove.E a0) c6 c6 c6 v61 x (lstA TRunwayMove.E a0) c60 v61 k0_0 k0_1 k0_2 k0_3 k0_4 k0_5 k0_6 k0_7 k0_8 k0_9 k0_10 k0_11 k0_12 k0_13 k0_14 k0_15 k200004_0 k200004_1 k200004_2 k200004_3 [])) : Tri pg KK 93 0 (.loop c35_1_0) s (q35_1_0 R N0) :=
  L35_1_0 R N0 (σ := Nat × (Int)) (fun z => iterO (fun y : Int => S35_1_0 n a0 c6 v61 c60 k0_0 k0_1 k0_2 k0_3 k0_4 k0_5 k0_6 k0_7 k0_8 k0_9 k0_10 k0_11 k0_12 k0_13 k0_14 k0_15 k200004_0 k200004_1 k200004_2 k200004_3 y) z.1 z.2 = some t) (fun z => (lstA TRunwayMove.E a0)) (fun z => c6) (fun z => c6) (fun z => c6) (fun z => v61) (fun z => z.2) (fun z => (lstA TRunwayMove.E a0)) (fun z => c60) (fun z => v61) (fun z => k0_0) (fun z => k0_1) (fun z => k0_2) (fun z => k0_3) (fun z => k0_4) (fun z => k0_5) (fun z => k0_6) (fun z => k0_7) (fun z => k0_8) (fun z => k0_9) (fun z => k0_10) (fun z => k0_11) (fun z => k0_12) (fun z => k0_13) (fun z => k0_14) (fun z => k0_15) (fun z => k200004_0) (fun z => k200004_1) (fun z => k200004_2) (fun z => k200004_3) (fun z => []) (fun z => z.1) (by
    rintro ⟨k, y⟩ h
    cases k with
    | zero => exact (iterO_zero h).elim
    | succ k =>
      obtain ⟨u, h1, h2, h3⟩ := iterO_elim h
      exact B35_1_0_ok n a0 c6 v61 c60 k0_0 k0_1 k0_2 k0_3 k0_4 k0_5 k0_6 k0_7 k0_8 k0_9 k0_10 k0_11 k0_12 k0_13 k0_14 k0_15 k200004_0 k200004_1 k200004_2 k200004_3 y R N0 _ (fun r e => hR r (h3 _ e).symm) (fun y' e => hN0 y' (h3 _ e).symm) (fun y' e s' hw => ⟨(k, y'), h2 _ e, Nat.lt_succ_self k, hw⟩) h1) (k, x) hx hw
theorem B35_1_ok (n : Nat) (a0 : List TRunwayMove) (c6 : Int) (c60 : Int) (k0_0 : Int) (k0_1 : Int) (k0_2 : Int) (k0_3 : Int) (k0_4 : Int) (k0_5 : Int) (k0_6 : Int) (k0_7 : Int) (k0_8 : Int) (k0_9 : Int) (k0_10 : Int) (k0_11 : Int) (k0_12 : Int) (k0_13 : Int) (k0_14 : Int) (k0_15 : Int) (v61 : Int) {t : (Int) ⊕ ρ35} (R : AV → Mem → Prop) (N0 : St → Prop) (hR : ∀ r : ρ35, t = (.inr r) → ∀ u m, Ans ((AV.tup [(intA r.1), (intA r.2.1), (intA r.2.2)])) u m → R u m) (hN0 : ∀ y : Int, t = (.inl y) → ∀ s' : St, Weak KK 93 0 s' (h35_1 (lstA TRunwayMove.E a0) c6 c6 c6 (lstA TRunwayMove.E a0) c60 y k0_0 k0_1 k0_2 k0_3 k0_4 k0_5 k0_6 k0_7 k0_8 k0_9 k0_10 k0_11 k0_12 k0_13 k0_14 k0_15 []) → N0 s') : S35_1 n a0 c6 c60 k0_0 k0_1 k0_2 k0_3 k0_4 k0_5 k0_6 k0_7 k0_8 k0_9 k0_10 k0_11 k0_12 k0_13 k0_14 k0_15 v61 = some t → B35_1 (lstA TRunwayMove.E a0) c6 c6 c6 (lstA TRunwayMove.E a0) c60 v61 k0_0 k0_1 k0_2 k0_3 k0_4 k0_5 k0_6 k0_7 k0_8 k0_9 k0_10 k0_11 k0_12 k0_13 k0_14 k0_15 [] R N0 := by
  unfold S35_1 B35_1
  refine cond_b (fun _ => ?_) (fun _ => ?_)
  · refine bind_b fun x165 h165 => ?_
    refine iq (AV.ept [(intA x165.Time), (intA x165.Wake), (boolA x165.Departs), (intA x165.End)] 0) (idx_lst (E := TRunwayMove.E) rfl h165) ?_
    refine iq (AV.agg [(intA x165.Time), (intA x165.Wake), (boolA x165.Departs), (intA x165.End)]) rfl ?_
    refine imp exA4_b ?_
    iterate 2 refine imp ex_i64_b ?_
    refine imp exB_b ?_
    refine imp ex_i64_b ?_
    exact fun hg => L35_1_0_ok n a0 c6 v61 c60 k0_0 k0_1 k0_2 k0_3 k0_4 k0_5 k0_6 k0_7 k0_8 k0_9 k0_10 k0_11 k0_12 k0_13 k0_14 k0_15 x165.Time x165.Wake x165.Departs x165.End R N0 hR hN0 n _ hg (weak_mem [(0, 0), (200004, 200004)] rfl rfl rfl (okW_cons (ent_lst (E := TRunwayMove.E) _ false) (okW_cons (.inl (leV_refl _)) (okW_cons (.inl (leV_refl _)) (okW_cons (.inl (leV_refl _)) (okW_cons (.inl (leV_refl _)) (okW_cons (.inl (leV_refl _)) (okW_cons (.inl (leV_refl _)) (okW_cons (.inl (leV_refl _)) (okW_cons (ent_lst (E := TRunwayMove.E) _ false) (okW_cons (.inl (leV_refl _)) (okW_cons (.inl (leV_refl _)) okW_nil))))))))))) (okB_cons (okB_cells (cs := [(intA k0_0), (intA k0_1), (intA k0_2), (intA k0_3), (intA k0_4), (intA k0_5), (intA k0_6), (intA k0_7), (intA k0_8), (intA k0_9), (intA k0_10), (intA k0_11), (intA k0_12), (intA k0_13), (intA k0_14), (intA k0_15)]) (ty := 31) rfl (show mget _ 0 = _ from (by first | rfl | (simp (disch := first | decide | assumption) only [mpushs_nil, mpushs_cons, mget_hd, mget_tl, mget_appW_o, mget_appW_n, mget_appW_e])))) (okB_cons (okB_cells (cs := [(intA x165.Time), (intA x165.Wake), (boolA x165.Departs), (intA x165.End)]) (ty := 48) rfl (show mget _ 200004 = _ from (by first | rfl | (simp (disch := first | decide | assumption) only [mpushs_nil, mpushs_cons, mget_hd, mget_tl, mget_appW_o, mget_appW_n, mget_appW_e])))) okB_nil')))
  · exact fun hg => retN rfl (hR _ (Option.some.inj hg).symm) (fzL_cons (fz_sc _ _) (fzL_cons (fz_sc _ _) (fzL_cons (fz_sc _ _) fzL_nil)))
theorem L35_1_ok (n : Nat) (a0 : List TRunwayMove) (c6 : Int) (c60 : Int) (k0_0 : Int) (k0_1 : Int) (k0_2 : Int) (k0_3 : Int) (k0_4 : Int) (k0_5 : Int) (k0_6 : Int) (k0_7 : Int) (k0_8 : Int) (k0_9 : Int) (k0_10 : Int) (k0_11 : Int) (k0_12 : Int) (k0_13 : Int) (k0_14 : Int) (k0_15 : Int) {t : ρ35} (R : AV → Mem → Prop) (hR : ∀ r : ρ35, t = r → ∀ u m, Ans ((AV.tup [(intA r.1), (intA r.2.1), (intA r.2.2)])) u m → R u m) (k : Nat) (x : Int) (hx : iterO (fun y : Int => S35_1 n a0 c6 c60 k0_0 k0_1 k0_2 k0_3 k0_4 k0_5 k0_6 k0_7 k0_8 k0_9 k0_10 k0_11 k0_12 k0_13 k0_14 k0_15 y) k x = some t) {s : St} (hw : Weak KK 93 0 s (h35_1 (lstA TRunwayMove.E a0) c6 c6 c6 (lstA TRunwayMove.E a0) c60 x k0_0 k0_1 k0_2 k0_3 k0_4 k0_5 k0_6 k0_7 k0_8 k0_9 k0_10 k0_11 k0_12 k0_13 k0_14 k0_15 [])) : Tri pg KK 93 0 (.loop c35_1) s (q35_1 R ) :=
  L35_1 R  (σ := Nat × (Int)) (fun z => iterO (fun y : Int => S35_1 n a0 c6 c60 k0_0 k0_1 k0_2 k0_3 k0_4 k0_5 k0_6 k0_7 k0_8 k0_9 k0_10 k0_11 k0_12 k0_13 k0_14 k0_15 y) z.1 z.2 = some t) (fun z => (lstA TRunwayMove.E a0)) (fun z => c6) (fun z => c6) (fun z => c6) (fun z => (lstA TRunwayMove.E a0)) (fun z => c60) (fun z => z.2) (fun z => k0_0) (fun z => k0_1) (fun z => k0_2) (fun z => k0_3) (fun z => k0_4) (fun z => k0_5) (fun z => k0_6) (fun z => k0_7) (fun z => k0_8) (fun z => k0_9) (fun z => k0_10) (fun z => k0_11) (fun z => k0_12) (fun z => k0_13) (fun z => k0_14) (fun z => k0_15) (fun z => []) (fun z => z.1) (by
    rintro ⟨k, y⟩ h
    cases k with
    | zero => exact (iterO_zero h).elim
    | succ k =>
      obtain ⟨u, h1, h2, h3⟩ := iterO_elim h
      exact B35_1_ok n a0 c6 c60 k0_0 k0_1 k0_2 k0_3 k0_4 k0_5 k0_6 k0_7 k0_8 k0_9 k0_10 k0_11 k0_12 k0_13 k0_14 k0_15 y R  _ (fun r e => hR r (h3 _ e).symm)  (fun y' e s' hw => ⟨(k, y'), h2 _ e, Nat.lt_succ_self k, hw⟩) h1) (k, x) hx hw
theorem B35_0_ok (n : Nat) (a0 : List TRunwayMove) (a1 : List TRunwaySpan) (c6 : Int) (c35 : Int) (k0_0 : Int) (k0_1 : Int) (k0_2 : Int) (k0_3 : Int) (k0_4 : Int) (k0_5 : Int) (k0_6 : Int) (k0_7 : Int) (k0_8 : Int) (k0_9 : Int) (k0_10 : Int) (k0_11 : Int) (k0_12 : Int) (k0_13 : Int) (k0_14 : Int) (k0_15 : Int) (v36 : Int) {t : (Int) ⊕ ρ35} (R : AV → Mem → Prop) (N0 : St → Prop) (hR : ∀ r : ρ35, t = (.inr r) → ∀ u m, Ans ((AV.tup [(intA r.1), (intA r.2.1), (intA r.2.2)])) u m → R u m) (hN0 : ∀ y : Int, t = (.inl y) → ∀ s' : St, Weak KK 93 0 s' (h35_0 (lstA TRunwayMove.E a0) (lstA TRunwaySpan.E a1) c6 c6 c6 (lstA TRunwayMove.E a0) c35 y k0_0 k0_1 k0_2 k0_3 k0_4 k0_5 k0_6 k0_7 k0_8 k0_9 k0_10 k0_11 k0_12 k0_13 k0_14 k0_15 []) → N0 s') : S35_0 n a0 a1 c6 c35 k0_0 k0_1 k0_2 k0_3 k0_4 k0_5 k0_6 k0_7 k0_8 k0_9 k0_10 k0_11 k0_12 k0_13 k0_14 k0_15 v36 = some t → B35_0 (lstA TRunwayMove.E a0) (lstA TRunwaySpan.E a1) c6 c6 c6 (lstA TRunwayMove.E a0) c35 v36 k0_0 k0_1 k0_2 k0_3 k0_4 k0_5 k0_6 k0_7 k0_8 k0_9 k0_10 k0_11 k0_12 k0_13 k0_14 k0_15 [] R N0 := by
  unfold S35_0 B35_0
  refine cond_b (fun _ => ?_) (fun _ => ?_)
  · refine bind_b fun x159 h159 => ?_
    refine iq (AV.ept [(intA x159.Time), (intA x159.Wake), (boolA x159.Departs), (intA x159.End)] 0) (idx_lst (E := TRunwayMove.E) rfl h159) ?_
    refine iq (AV.agg [(intA x159.Time), (intA x159.Wake), (boolA x159.Departs), (intA x159.End)]) rfl ?_
    refine imp exA4_b ?_
    iterate 2 refine imp ex_i64_b ?_
    refine imp exB_b ?_
    refine imp ex_i64_b ?_
    refine bind_b fun x164 h164 => ?_
    refine imp (callQ_says (sg39 h164)) ?_
    refine imp exT2_b ?_
    refine imp ex_i64_b ?_
    refine imp exB_b ?_
    refine cond_b (fun _ => ?_) (fun _ => ?_)
    · exact fun hg => retN rfl (hR _ (Option.some.inj hg).symm) (fzL_cons (fz_sc _ _) (fzL_cons (fz_sc _ _) (fzL_cons (fz_sc _ _) fzL_nil)))
    · refine cond_b (fun _ => ?_) (fun _ => ?_)
      · exact fun hg => retN rfl (hR _ (Option.some.inj hg).symm) (fzL_cons (fz_sc _ _) (fzL_cons (fz_sc _ _) (fzL_cons (fz_sc _ _) fzL_nil)))
      · exact fun hg => hN0 _ (Option.some.inj hg).symm _ (weak_mem [(0, 0)] rfl rfl rfl (okW_cons (ent_lst (E := TRunwayMove.E) _ false) (okW_cons (ent_lst (E := TRunwaySpan.E) _ false) (okW_cons (.inl (leV_refl _)) (okW_cons (.inl (leV_refl _)) (okW_cons (.inl (leV_refl _)) (okW_cons (.inl (leV_refl _)) (okW_cons (ent_lst (E := TRunwayMove.E) _ false) (okW_cons (.inl (leV_refl _)) (okW_cons (.inl (leV_refl _)) okW_nil))))))))) (okB_cons (okB_cells (cs := [(intA k0_0), (intA k0_1), (intA k0_2), (intA k0_3), (intA k0_4), (intA k0_5), (intA k0_6), (intA k0_7), (intA k0_8), (intA k0_9), (intA k0_10), (intA k0_11), (intA k0_12), (intA k0_13), (intA k0_14), (intA k0_15)]) (ty := 31) rfl (show mget _ 0 = _ from (by first | rfl | (simp (disch := first | decide | assumption) only [mpushs_nil, mpushs_cons, mget_hd, mget_tl, mget_appW_o, mget_appW_n, mget_appW_e])))) okB_nil'))
  · refine iq (intA (a0.length : Int)) rfl ?_
    refine imp ex_i64_b ?_
    refine mapInr_b fun t0 e0 => ?_
    exact fun hg => L35_1_ok n a0 c6 (a0.length : Int) k0_0 k0_1 k0_2 k0_3 k0_4 k0_5 k0_6 k0_7 k0_8 k0_9 k0_10 k0_11 k0_12 k0_13 k0_14 k0_15 R  (fun r e => hR r (e0.trans (congrArg Sum.inr e))) n _ hg (weak_mem [(0, 0)] rfl rfl rfl (okW_cons (ent_lst (E := TRunwayMove.E) _ false) (okW_cons (.inl (leV_refl _)) (okW_cons (.inl (leV_refl _)) (okW_cons (.inl (leV_refl _)) (okW_cons (.inl (leV_refl _)) (okW_cons (ent_lst (E := TRunwayMove.E) _ false) (okW_cons (.inl (leV_refl _)) (okW_cons (.inl (leV_refl _)) okW_nil)))))))) (okB_cons (okB_cells (cs := [(intA k0_0), (intA k0_1), (intA k0_2), (intA k0_3), (intA k0_4), (intA k0_5), (intA k0_6), (intA k0_7), (intA k0_8), (intA k0_9), (intA k0_10), (intA k0_11), (intA k0_12), (intA k0_13), (intA k0_14), (intA k0_15)]) (ty := 31) rfl (show mget _ 0 = _ from (by first | rfl | (simp (disch := first | decide | assumption) only [mpushs_nil, mpushs_cons, mget_hd, mget_tl, mget_appW_o, mget_appW_n, mget_appW_e])))) okB_nil'))
theorem L35_0_ok (n : Nat) (a0 : List TRunwayMove) (a1 : List TRunwaySpan) (c6 : Int) (c35 : Int) (k0_0 : Int) (k0_1 : Int) (k0_2 : Int) (k0_3 : Int) (k0_4 : Int) (k0_5 : Int) (k0_6 : Int) (k0_7 : Int) (k0_8 : Int) (k0_9 : Int) (k0_10 : Int) (k0_11 : Int) (k0_12 : Int) (k0_13 : Int) (k0_14 : Int) (k0_15 : Int) {t : ρ35} (R : AV → Mem → Prop) (hR : ∀ r : ρ35, t = r → ∀ u m, Ans ((AV.tup [(intA r.1), (intA r.2.1), (intA r.2.2)])) u m → R u m) (k : Nat) (x : Int) (hx : iterO (fun y : Int => S35_0 n a0 a1 c6 c35 k0_0 k0_1 k0_2 k0_3 k0_4 k0_5 k0_6 k0_7 k0_8 k0_9 k0_10 k0_11 k0_12 k0_13 k0_14 k0_15 y) k x = some t) {s : St} (hw : Weak KK 93 0 s (h35_0 (lstA TRunwayMove.E a0) (lstA TRunwaySpan.E a1) c6 c6 c6 (lstA TRunwayMove.E a0) c35 x k0_0 k0_1 k0_2 k0_3 k0_4 k0_5 k0_6 k0_7 k0_8 k0_9 k0_10 k0_11 k0_12 k0_13 k0_14 k0_15 [])) : Tri pg KK 93 0 (.loop c35_0) s (q35_0 R ) :=
  L35_0 R  (σ := Nat × (Int)) (fun z => iterO (fun y : Int => S35_0 n a0 a1 c6 c35 k0_0 k0_1 k0_2 k0_3 k0_4 k0_5 k0_6 k0_7 k0_8 k0_9 k0_10 k0_11 k0_12 k0_13 k0_14 k0_15 y) z.1 z.2 = some t) (fun z => (lstA TRunwayMove.E a0)) (fun z => (lstA TRunwaySpan.E a1)) (fun z => c6) (fun z => c6) (fun z => c6) (fun z => (lstA TRunwayMove.E a0)) (fun z => c35) (fun z => z.2) (fun z => k0_0) (fun z => k0_1) (fun z => k0_2) (fun z => k0_3) (fun z => k0_4) (fun z => k0_5) (fun z => k0_6) (fun z => k0_7) (fun z => k0_8) (fun z => k0_9) (fun z => k0_10) (fun z => k0_11) (fun z => k0_12) (fun z => k0_13) (fun z => k0_14) (fun z => k0_15) (fun z => []) (fun z => z.1) (by
    rintro ⟨k, y⟩ h
    cases k with
    | zero => exact (iterO_zero h).elim
    | succ k =>
      obtain ⟨u, h1, h2, h3⟩ := iterO_elim h
      exact B35_0_ok n a0 a1 c6 c35 k0_0 k0_1 k0_2 k0_3 k0_4 k0_5 k0_6 k0_7 k0_8 k0_9 k0_10 k0_11 k0_12 k0_13 k0_14 k0_15 y R  _ (fun r e => hR r (h3 _ e).symm)  (fun y' e s' hw => ⟨(k, y'), h2 _ e, Nat.lt_succ_self k, hw⟩) h1) (k, x) hx hw
theorem g35_ok (n : Nat) (a0 : List TRunwayMove) (a1 : List TRunwaySpan) (a2 : TWakeTable) {t : ρ35} (R : AV → Mem → Prop) (hR : ∀ r : ρ35, t = r → ∀ u m, Ans ((AV.tup [(intA r.1), (intA r.2.1), (intA r.2.2)])) u m → R u m) : g35 n a0 a1 a2 = some t → F35 (lstA TRunwayMove.E a0) (lstA TRunwaySpan.E a1) a2.c0_0 a2.c0_1 a2.c0_2 a2.c0_3 a2.c1_0 a2.c1_1 a2.c1_2 a2.c1_3 a2.c2_0 a2.c2_1 a2.c2_2 a2.c2_3 a2.c3_0 a2.c3_1 a2.c3_2 a2.c3_3 R := by
  unfold g35 F35
  refine bind_b fun x147 h147 => ?_
  refine imp (callQ_says (sg104 h147)) ?_
  refine imp ex_i64_b ?_
  refine cond_b (fun _ => ?_) (fun _ => ?_)
  · exact fun hg => retN rfl (hR _ (Option.some.inj hg).symm) (fzL_cons (fz_sc _ _) (fzL_cons (fz_sc _ _) (fzL_cons (fz_sc _ _) fzL_nil)))
  · refine bind_b fun x157 h157 => ?_
    refine imp (callQ_says (sg105 h157)) ?_
    refine imp ex_i64_b ?_
    refine cond_b (fun _ => ?_) (fun _ => ?_)
    · exact fun hg => retN rfl (hR _ (Option.some.inj hg).symm) (fzL_cons (fz_sc _ _) (fzL_cons (fz_sc _ _) (fzL_cons (fz_sc _ _) fzL_nil)))
    · refine bind_b fun x158 h158 => ?_
      refine imp (callQ_says (sg89 h158)) ?_
      refine imp ex_i64_b ?_
      refine cond_b (fun _ => ?_) (fun _ => ?_)
      · exact fun hg => retN rfl (hR _ (Option.some.inj hg).symm) (fzL_cons (fz_sc _ _) (fzL_cons (fz_sc _ _) (fzL_cons (fz_sc _ _) fzL_nil)))
      · refine iq (intA (a0.length : Int)) rfl ?_
        refine imp ex_i64_b ?_
        exact fun hg => L35_0_ok n a0 a1 (0) (a0.length : Int) a2.c0_0 a2.c0_1 a2.c0_2 a2.c0_3 a2.c1_0 a2.c1_1 a2.c1_2 a2.c1_3 a2.c2_0 a2.c2_1 a2.c2_2 a2.c2_3 a2.c3_0 a2.c3_1 a2.c3_2 a2.c3_3 R  hR n _ hg (weak_mem [(0, 0)] rfl rfl rfl (okW_cons (ent_lst (E := TRunwayMove.E) _ false) (okW_cons (ent_lst (E := TRunwaySpan.E) _ false) (okW_cons (.inl (leV_refl _)) (okW_cons (.inl (leV_refl _)) (okW_cons (.inl (leV_refl _)) (okW_cons (.inl (leV_refl _)) (okW_cons (ent_lst (E := TRunwayMove.E) _ false) (okW_cons (.inl (leV_refl _)) (okW_cons (.inl (leV_refl _)) okW_nil))))))))) (okB_cons (okB_cells (cs := [(intA a2.c0_0), (intA a2.c0_1), (intA a2.c0_2), (intA a2.c0_3), (intA a2.c1_0), (intA a2.c1_1), (intA a2.c1_2), (intA a2.c1_3), (intA a2.c2_0), (intA a2.c2_1), (intA a2.c2_2), (intA a2.c2_3), (intA a2.c3_0), (intA a2.c3_1), (intA a2.c3_2), (intA a2.c3_3)]) (ty := 31) rfl (show mget _ 0 = _ from (by first | rfl | (simp (disch := first | decide | assumption) only [mpushs_nil, mpushs_cons, mget_hd, mget_tl, mget_appW_o, mget_appW_n, mget_appW_e])))) okB_nil'))
theorem sg35 {n : Nat} {a0 : List TRunwayMove} {a1 : List TRunwaySpan} {a2 : TWakeTable} {t : ρ35} (h : g35 n a0 a1 a2 = some t) : Says pg KK.gl 35 [(lstA TRunwayMove.E a0), (lstA TRunwaySpan.E a1), (AV.agg [(intA a2.c0_0), (intA a2.c0_1), (intA a2.c0_2), (intA a2.c0_3), (intA a2.c1_0), (intA a2.c1_1), (intA a2.c1_2), (intA a2.c1_3), (intA a2.c2_0), (intA a2.c2_1), (intA a2.c2_2), (intA a2.c2_3), (intA a2.c3_0), (intA a2.c3_1), (intA a2.c3_2), (intA a2.c3_3)])] ((AV.tup [(intA t.1), (intA t.2.1), (intA t.2.2)])) :=
  says_of_own (by first | rfl | simp [cleans, clean, encs_clean, En.cln]) (by first | rfl | simp [cleans, clean, encs_clean, En.cln]) (F35_own (lstA TRunwayMove.E a0) (lstA TRunwaySpan.E a1) a2.c0_0 a2.c0_1 a2.c0_2 a2.c0_3 a2.c1_0 a2.c1_1 a2.c1_2 a2.c1_3 a2.c2_0 a2.c2_1 a2.c2_2 a2.c2_3 a2.c3_0 a2.c3_1 a2.c3_2 a2.c3_3 _ (g35_ok n a0 a1 a2 (Ans ((AV.tup [(intA t.1), (intA t.2.1), (intA t.2.2)]))) (fun r e u m h => by rw [e]; exact h) h))
/- skyway/runway.fits -/
theorem B40_0_ok (n : Nat) (c6 : Bool) (a0 : List TRunwayMove) (c10 : Int) (k0_0 : Int) (k0_1 : Int) (k0_2 : Bool) (k0_3 : Int) (k1_0 : Int) (k1_1 : Int) (k1_2 : Int) (k1_3 : Int) (k1_4 : Int) (k1_5 : Int) (k1_6 : Int) (k1_7 : Int) (k1_8 : Int) (k1_9 : Int) (k1_10 : Int) (k1_11 : Int) (k1_12 : Int) (k1_13 : Int) (k1_14 : Int) (k1_15 : Int) (v11 : Int) {t : (Int) ⊕ ρ40} (R : AV → Mem → Prop) (N0 : St → Prop) (hR : ∀ r : ρ40, t = (.inr r) → ∀ u m, Ans ((boolA r)) u m → R u m) (hN0 : ∀ y : Int, t = (.inl y) → ∀ s' : St, Weak KK 52 0 s' (h40_0 c6 (lstA TRunwayMove.E a0) c10 y k0_0 k0_1 k0_2 k0_3 k1_0 k1_1 k1_2 k1_3 k1_4 k1_5 k1_6 k1_7 k1_8 k1_9 k1_10 k1_11 k1_12 k1_13 k1_14 k1_15 []) → N0 s') : S40_0 n c6 a0 c10 k0_0 k0_1 k0_2 k0_3 k1_0 k1_1 k1_2 k1_3 k1_4 k1_5 k1_6 k1_7 k1_8 k1_9 k1_10 k1_11 k1_12 k1_13 k1_14 k1_15 v11 = some t → B40_0 c6 (lstA TRunwayMove.E a0) c10 v11 k0_0 k0_1 k0_2 k0_3 k1_0 k1_1 k1_2 k1_3 k1_4 k1_5 k1_6 k1_7 k1_8 k1_9 k1_10 k1_11 k1_12 k1_13 k1_14 k1_15 [] R N0 := by
  unfold S40_0 B40_0
  refine cond_b (fun _ => ?_) (fun _ => ?_)
  · refine bind_b fun x177 h177 => ?_
    refine iq (AV.ept [(intA x177.Time), (intA x177.Wake), (boolA x177.Departs), (intA x177.End)] 0) (idx_lst (E := TRunwayMove.E) rfl h177) ?_
    refine iq (AV.agg [(intA x177.Time), (intA x177.Wake), (boolA x177.Departs), (intA x177.End)]) rfl ?_
    refine imp exA4_b ?_
    iterate 2 refine imp ex_i64_b ?_
    refine imp exB_b ?_
    refine imp ex_i64_b ?_
    refine cond_b (fun _ => ?_) (fun _ => ?_)
    · refine bind_b fun x178 h178 => ?_
      refine imp (callQ_says (sg106 h178)) ?_
      refine imp ex_i64_b ?_
      refine cond_b (fun _ => ?_) (fun _ => ?_)
      · exact fun hg => ret1 (hR _ (Option.some.inj hg).symm) (fz_sc _ _)
      · refine cond_b (fun _ => ?_) (fun _ => ?_)
        · refine bind_b fun x179 h179 => ?_
          refine imp (callQ_says (sg106 h179)) ?_
          refine imp ex_i64_b ?_
          refine cond_b (fun _ => ?_) (fun _ => ?_)
          · exact fun hg => ret1 (hR _ (Option.some.inj hg).symm) (fz_sc _ _)
          · exact fun hg => hN0 _ (Option.some.inj hg).symm _ (weak_mem [(0, 0), (1, 1)] rfl rfl rfl (okW_cons (.inl (leV_refl _)) (okW_cons (.inl (leV_refl _)) (okW_cons (.inl (leV_refl _)) (okW_cons (ent_lst (E := TRunwayMove.E) _ false) (okW_cons (.inl (leV_refl _)) (okW_cons (.inl (leV_refl _)) okW_nil)))))) (okB_cons (okB_cells (cs := [(intA k0_0), (intA k0_1), (boolA k0_2), (intA k0_3)]) (ty := 48) rfl (show mget _ 0 = _ from (by first | rfl | (simp (disch := first | decide | assumption) only [mpushs_nil, mpushs_cons, mget_hd, mget_tl, mget_appW_o, mget_appW_n, mget_appW_e])))) (okB_cons (okB_cells (cs := [(intA k1_0), (intA k1_1), (intA k1_2), (intA k1_3), (intA k1_4), (intA k1_5), (intA k1_6), (intA k1_7), (intA k1_8), (intA k1_9), (intA k1_10), (intA k1_11), (intA k1_12), (intA k1_13), (intA k1_14), (intA k1_15)]) (ty := 31) rfl (show mget _ 1 = _ from (by first | rfl | (simp (disch := first | decide | assumption) only [mpushs_nil, mpushs_cons, mget_hd, mget_tl, mget_appW_o, mget_appW_n, mget_appW_e])))) okB_nil')))
        · exact fun hg => hN0 _ (Option.some.inj hg).symm _ (weak_mem [(0, 0), (1, 1)] rfl rfl rfl (okW_cons (.inl (leV_refl _)) (okW_cons (.inl (leV_refl _)) (okW_cons (.inl (leV_refl _)) (okW_cons (ent_lst (E := TRunwayMove.E) _ false) (okW_cons (.inl (leV_refl _)) (okW_cons (.inl (leV_refl _)) okW_nil)))))) (okB_cons (okB_cells (cs := [(intA k0_0), (intA k0_1), (boolA k0_2), (intA k0_3)]) (ty := 48) rfl (show mget _ 0 = _ from (by first | rfl | (simp (disch := first | decide | assumption) only [mpushs_nil, mpushs_cons, mget_hd, mget_tl, mget_appW_o, mget_appW_n, mget_appW_e])))) (okB_cons (okB_cells (cs := [(intA k1_0), (intA k1_1), (intA k1_2), (intA k1_3), (intA k1_4), (intA k1_5), (intA k1_6), (intA k1_7), (intA k1_8), (intA k1_9), (intA k1_10), (intA k1_11), (intA k1_12), (intA k1_13), (intA k1_14), (intA k1_15)]) (ty := 31) rfl (show mget _ 1 = _ from (by first | rfl | (simp (disch := first | decide | assumption) only [mpushs_nil, mpushs_cons, mget_hd, mget_tl, mget_appW_o, mget_appW_n, mget_appW_e])))) okB_nil')))
    · refine cond_b (fun _ => ?_) (fun _ => ?_)
      · refine bind_b fun x180 h180 => ?_
        refine imp (callQ_says (sg106 h180)) ?_
        refine imp ex_i64_b ?_
        refine cond_b (fun _ => ?_) (fun _ => ?_)
        · exact fun hg => ret1 (hR _ (Option.some.inj hg).symm) (fz_sc _ _)
        · exact fun hg => hN0 _ (Option.some.inj hg).symm _ (weak_mem [(0, 0), (1, 1)] rfl rfl rfl (okW_cons (.inl (leV_refl _)) (okW_cons (.inl (leV_refl _)) (okW_cons (.inl (leV_refl _)) (okW_cons (ent_lst (E := TRunwayMove.E) _ false) (okW_cons (.inl (leV_refl _)) (okW_cons (.inl (leV_refl _)) okW_nil)))))) (okB_cons (okB_cells (cs := [(intA k0_0), (intA k0_1), (boolA k0_2), (intA k0_3)]) (ty := 48) rfl (show mget _ 0 = _ from (by first | rfl | (simp (disch := first | decide | assumption) only [mpushs_nil, mpushs_cons, mget_hd, mget_tl, mget_appW_o, mget_appW_n, mget_appW_e])))) (okB_cons (okB_cells (cs := [(intA k1_0), (intA k1_1), (intA k1_2), (intA k1_3), (intA k1_4), (intA k1_5), (intA k1_6), (intA k1_7), (intA k1_8), (intA k1_9), (intA k1_10), (intA k1_11), (intA k1_12), (intA k1_13), (intA k1_14), (intA k1_15)]) (ty := 31) rfl (show mget _ 1 = _ from (by first | rfl | (simp (disch := first | decide | assumption) only [mpushs_nil, mpushs_cons, mget_hd, mget_tl, mget_appW_o, mget_appW_n, mget_appW_e])))) okB_nil')))
      · exact fun hg => hN0 _ (Option.some.inj hg).symm _ (weak_mem [(0, 0), (1, 1)] rfl rfl rfl (okW_cons (.inl (leV_refl _)) (okW_cons (.inl (leV_refl _)) (okW_cons (.inl (leV_refl _)) (okW_cons (ent_lst (E := TRunwayMove.E) _ false) (okW_cons (.inl (leV_refl _)) (okW_cons (.inl (leV_refl _)) okW_nil)))))) (okB_cons (okB_cells (cs := [(intA k0_0), (intA k0_1), (boolA k0_2), (intA k0_3)]) (ty := 48) rfl (show mget _ 0 = _ from (by first | rfl | (simp (disch := first | decide | assumption) only [mpushs_nil, mpushs_cons, mget_hd, mget_tl, mget_appW_o, mget_appW_n, mget_appW_e])))) (okB_cons (okB_cells (cs := [(intA k1_0), (intA k1_1), (intA k1_2), (intA k1_3), (intA k1_4), (intA k1_5), (intA k1_6), (intA k1_7), (intA k1_8), (intA k1_9), (intA k1_10), (intA k1_11), (intA k1_12), (intA k1_13), (intA k1_14), (intA k1_15)]) (ty := 31) rfl (show mget _ 1 = _ from (by first | rfl | (simp (disch := first | decide | assumption) only [mpushs_nil, mpushs_cons, mget_hd, mget_tl, mget_appW_o, mget_appW_n, mget_appW_e])))) okB_nil')))
  · exact fun hg => ret1 (hR _ (Option.some.inj hg).symm) (fz_sc _ _)
theorem L40_0_ok (n : Nat) (c6 : Bool) (a0 : List TRunwayMove) (c10 : Int) (k0_0 : Int) (k0_1 : Int) (k0_2 : Bool) (k0_3 : Int) (k1_0 : Int) (k1_1 : Int) (k1_2 : Int) (k1_3 : Int) (k1_4 : Int) (k1_5 : Int) (k1_6 : Int) (k1_7 : Int) (k1_8 : Int) (k1_9 : Int) (k1_10 : Int) (k1_11 : Int) (k1_12 : Int) (k1_13 : Int) (k1_14 : Int) (k1_15 : Int) {t : ρ40} (R : AV → Mem → Prop) (hR : ∀ r : ρ40, t = r → ∀ u m, Ans ((boolA r)) u m → R u m) (k : Nat) (x : Int) (hx : iterO (fun y : Int => S40_0 n c6 a0 c10 k0_0 k0_1 k0_2 k0_3 k1_0 k1_1 k1_2 k1_3 k1_4 k1_5 k1_6 k1_7 k1_8 k1_9 k1_10 k1_11 k1_12 k1_13 k1_14 k1_15 y) k x = some t) {s : St} (hw : Weak KK 52 0 s (h40_0 c6 (lstA TRunwayMove.E a0) c10 x k0_0 k0_1 k0_2 k0_3 k1_0 k1_1 k1_2 k1_3 k1_4 k1_5 k1_6 k1_7 k1_8 k1_9 k1_10 k1_11 k1_12 k1_13 k1_14 k1_15 [])) : Tri pg KK 52 0 (.loop c40_0) s (q40_0 R ) :=
  L40_0 R  (σ := Nat × (Int)) (fun z => iterO (fun y : Int => S40_0 n c6 a0 c10 k0_0 k0_1 k0_2 k0_3 k1_0 k1_1 k1_2 k1_3 k1_4 k1_5 k1_6 k1_7 k1_8 k1_9 k1_10 k1_11 k1_12 k1_13 k1_14 k1_15 y) z.1 z.2 = some t) (fun z => c6) (fun z => (lstA TRunwayMove.E a0)) (fun z => c10) (fun z => z.2) (fun z => k0_0) (fun z => k0_1) (fun z => k0_2) (fun z => k0_3) (fun z => k1_0) (fun z => k1_1) (fun z => k1_2) (fun z => k1_3) (fun z => k1_4) (fun z => k1_5) (fun z => k1_6) (fun z => k1_7) (fun z => k1_8) (fun z => k1_9) (fun z => k1_10) (fun z => k1_11) (fun z => k1_12) (fun z => k1_13) (fun z => k1_14) (fun z => k1_15) (fun z => []) (fun z => z.1) (by
    rintro ⟨k, y⟩ h
    cases k with
    | zero => exact (iterO_zero h).elim
    | succ k =>
      obtain ⟨u, h1, h2, h3⟩ := iterO_elim h
      exact B40_0_ok n c6 a0 c10 k0_0 k0_1 k0_2 k0_3 k1_0 k1_1 k1_2 k1_3 k1_4 k1_5 k1_6 k1_7 k1_8 k1_9 k1_10 k1_11 k1_12 k1_13 k1_14 k1_15 y R  _ (fun r e => hR r (h3 _ e).symm)  (fun y' e s' hw => ⟨(k, y'), h2 _ e, Nat.lt_succ_self k, hw⟩) h1) (k, x) hx hw
theorem g40_ok (n : Nat) (a0 : List TRunwayMove) (a1 : TRunwayMove) (a2 : TWakeTable) {t : ρ40} (R : AV → Mem → Prop) (hR : ∀ r : ρ40, t = r → ∀ u m, Ans ((boolA r)) u m → R u m) : g40 n a0 a1 a2 = some t → F40 (lstA TRunwayMove.E a0) a1.Time a1.Wake a1.Departs a1.End a2.c0_0 a2.c0_1 a2.c0_2 a2.c0_3 a2.c1_0 a2.c1_1 a2.c1_2 a2.c1_3 a2.c2_0 a2.c2_1 a2.c2_2 a2.c2_3 a2.c3_0 a2.c3_1 a2.c3_2 a2.c3_3 R := by
  unfold g40 F40
  refine iq (intA (a0.length : Int)) rfl ?_
  refine imp ex_i64_b ?_
  exact fun hg => L40_0_ok n false a0 (a0.length : Int) a1.Time a1.Wake a1.Departs a1.End a2.c0_0 a2.c0_1 a2.c0_2 a2.c0_3 a2.c1_0 a2.c1_1 a2.c1_2 a2.c1_3 a2.c2_0 a2.c2_1 a2.c2_2 a2.c2_3 a2.c3_0 a2.c3_1 a2.c3_2 a2.c3_3 R  hR n _ hg (weak_mem [(0, 0), (1, 1)] rfl rfl rfl (okW_cons (.inl (leV_refl _)) (okW_cons (.inl (leV_refl _)) (okW_cons (.inl (leV_refl _)) (okW_cons (ent_lst (E := TRunwayMove.E) _ false) (okW_cons (.inl (leV_refl _)) (okW_cons (.inl (leV_refl _)) okW_nil)))))) (okB_cons (okB_cells (cs := [(intA a1.Time), (intA a1.Wake), (boolA a1.Departs), (intA a1.End)]) (ty := 48) rfl (show mget _ 0 = _ from (by first | rfl | (simp (disch := first | decide | assumption) only [mpushs_nil, mpushs_cons, mget_hd, mget_tl, mget_appW_o, mget_appW_n, mget_appW_e])))) (okB_cons (okB_cells (cs := [(intA a2.c0_0), (intA a2.c0_1), (intA a2.c0_2), (intA a2.c0_3), (intA a2.c1_0), (intA a2.c1_1), (intA a2.c1_2), (intA a2.c1_3), (intA a2.c2_0), (intA a2.c2_1), (intA a2.c2_2), (intA a2.c2_3), (intA a2.c3_0), (intA a2.c3_1), (intA a2.c3_2), (intA a2.c3_3)]) (ty := 31) rfl (show mget _ 1 = _ from (by first | rfl | (simp (disch := first | decide | assumption) only [mpushs_nil, mpushs_cons, mget_hd, mget_tl, mget_appW_o, mget_appW_n, mget_appW_e])))) okB_nil')))
theorem sg40 {n : Nat} {a0 : List TRunwayMove} {a1 : TRunwayMove} {a2 : TWakeTable} {t : ρ40} (h : g40 n a0 a1 a2 = some t) : Says pg KK.gl 40 [(lstA TRunwayMove.E a0), (AV.agg [(intA a1.Time), (intA a1.Wake), (boolA a1.Departs), (intA a1.End)]), (AV.agg [(intA a2.c0_0), (intA a2.c0_1), (intA a2.c0_2), (intA a2.c0_3), (intA a2.c1_0), (intA a2.c1_1), (intA a2.c1_2), (intA a2.c1_3), (intA a2.c2_0), (intA a2.c2_1), (intA a2.c2_2), (intA a2.c2_3), (intA a2.c3_0), (intA a2.c3_1), (intA a2.c3_2), (intA a2.c3_3)])] ((boolA t)) :=
  says_of_own (by first | rfl | simp [cleans, clean, encs_clean, En.cln]) (by first | rfl | simp [cleans, clean, encs_clean, En.cln]) (F40_own (lstA TRunwayMove.E a0) a1.Time a1.Wake a1.Departs a1.End a2.c0_0 a2.c0_1 a2.c0_2 a2.c0_3 a2.c1_0 a2.c1_1 a2.c1_2 a2.c1_3 a2.c2_0 a2.c2_1 a2.c2_2 a2.c2_3 a2.c3_0 a2.c3_1 a2.c3_2 a2.c3_3 _ (g40_ok n a0 a1 a2 (Ans ((boolA t))) (fun r e u m h => by rw [e]; exact h) h))
/- skyway/runway.Insert$1 -/
theorem g42_ok (n : Nat) (a0 : TRunwayMove) (a1_0 : Int) (a1_1 : Int) (a1_2 : Bool) (a1_3 : Int) {t : ρ42} (R : AV → Mem → Prop) (hR : ∀ r : ρ42, t = r → ∀ u m, Ans ((boolA r)) u m → R u m) : g42 n a0 a1_0 a1_1 a1_2 a1_3 = some t → F42 a0.Time a0.Wake a0.Departs a0.End (AV.ept [(intA a1_0), (intA a1_1), (boolA a1_2), (intA a1_3)] 0) R := by
  unfold g42 F42
  refine iq (AV.ept [(intA a1_0), (intA a1_1), (boolA a1_2), (intA a1_3)] 0) rfl ?_
  refine iq (intA a1_0) rfl ?_
  refine imp ex_i64_b ?_
  exact fun hg => ret1 (hR _ (Option.some.inj hg).symm) (fz_sc _ _)
theorem sg42 {n : Nat} {a0 : TRunwayMove} {a1_0 : Int} {a1_1 : Int} {a1_2 : Bool} {a1_3 : Int} {t : ρ42} (h : g42 n a0 a1_0 a1_1 a1_2 a1_3 = some t) : Says pg KK.gl 42 [(AV.agg [(intA a0.Time), (intA a0.Wake), (boolA a0.Departs), (intA a0.End)]), (AV.ept [(intA a1_0), (intA a1_1), (boolA a1_2), (intA a1_3)] 0)] ((boolA t)) :=
  says_of_own (by first | rfl | simp [cleans, clean, encs_clean, En.cln]) (by first | rfl | simp [cleans, clean, encs_clean, En.cln]) (F42_own a0.Time a0.Wake a0.Departs a0.End (AV.ept [(intA a1_0), (intA a1_1), (boolA a1_2), (intA a1_3)] 0) _ (g42_ok n a0 a1_0 a1_1 a1_2 a1_3 (Ans ((boolA t))) (fun r e u m h => by rw [e]; exact h) h))
/- slices.IndexFunc[[]skyway/api.RunwayMove,skyway/api.RunwayMove] -/
theorem B41_0_ok (n : Nat) (a0 : List TRunwayMove) (a1_0_0 : Int) (a1_0_1 : Int) (a1_0_2 : Bool) (a1_0_3 : Int) (c4 : Int) (c7 : Int) (v8 : Int) {t : (Int) ⊕ ρ41} (R : AV → Mem → Prop) (N0 : St → Prop) (hR : ∀ r : ρ41, t = (.inr r) → ∀ u m, Ans ((intA r)) u m → R u m) (hN0 : ∀ y : Int, t = (.inl y) → ∀ s' : St, Weak KK 19 0 s' (h41_0 (lstA TRunwayMove.E a0) (AV.fn 42 [(AV.ept [(intA a1_0_0), (intA a1_0_1), (boolA a1_0_2), (intA a1_0_3)] 0)]) c4 c7 y []) → N0 s') : S41_0 n a0 a1_0_0 a1_0_1 a1_0_2 a1_0_3 c4 c7 v8 = some t → B41_0 (lstA TRunwayMove.E a0) (AV.fn 42 [(AV.ept [(intA a1_0_0), (intA a1_0_1), (boolA a1_0_2), (intA a1_0_3)] 0)]) c4 c7 v8 [] R N0 := by
  unfold S41_0 B41_0
  refine cond_b (fun _ => ?_) (fun _ => ?_)
  · refine bind_b fun x182 h182 => ?_
    refine iq (AV.ept [(intA x182.Time), (intA x182.Wake), (boolA x182.Departs), (intA x182.End)] 0) (idx_lst (E := TRunwayMove.E) rfl h182) ?_
    refine iq (AV.agg [(intA x182.Time), (intA x182.Wake), (boolA x182.Departs), (intA x182.End)]) rfl ?_
    refine imp exA4_b ?_
    iterate 2 refine imp ex_i64_b ?_
    refine imp exB_b ?_
    refine imp ex_i64_b ?_
    refine bind_b fun x183 h183 => ?_
    refine imp fnArgs_b ?_
    refine imp (cond_ff rfl) ?_
    refine imp (callW_says (sg42 h183)) ?_
    refine imp exB_b ?_
    refine cond_b (fun _ => ?_) (fun _ => ?_)
    · exact fun hg => ret1 (hR _ (Option.some.inj hg).symm) (fz_sc _ _)
    · exact fun hg => hN0 _ (Option.some.inj hg).symm _ (weak_mem [] rfl rfl rfl (okW_cons (ent_lst (E := TRunwayMove.E) _ false) (okW_cons (ent_clean (leV_refl _) (by simp [clean, cleans, encs_clean])) (okW_cons (.inl (leV_refl _)) (okW_cons (.inl (leV_refl _)) (okW_cons (.inl (leV_refl _)) okW_nil))))) okB_nil')
  · exact fun hg => ret1 (hR _ (Option.some.inj hg).symm) (fz_sc _ _)
theorem L41_0_ok (n : Nat) (a0 : List TRunwayMove) (a1_0_0 : Int) (a1_0_1 : Int) (a1_0_2 : Bool) (a1_0_3 : Int) (c4 : Int) (c7 : Int) {t : ρ41} (R : AV → Mem → Prop) (hR : ∀ r : ρ41, t = r → ∀ u m, Ans ((intA r)) u m → R u m) (k : Nat) (x : Int) (hx : iterO (fun y : Int => S41_0 n a0 a1_0_0 a1_0_1 a1_0_2 a1_0_3 c4 c7 y) k x = some t) {s : St} (hw : Weak KK 19 0 s (h41_0 (lstA TRunwayMove.E a0) (AV.fn 42 [(AV.ept [(intA a1_0_0), (intA a1_0_1), (boolA a1_0_2), (intA a1_0_3)] 0)]) c4 c7 x [])) : Tri pg KK 19 0 (.loop c41_0) s (q41_0 R ) :=
  L41_0 R  (σ := Nat × (Int)) (fun z => iterO (fun y : Int => S41_0 n a0 a1_0_0 a1_0_1 a1_0_2 a1_0_3 c4 c7 y) z.1 z.2 = some t) (fun z => (lstA TRunwayMove.E a0)) (fun z => (AV.fn 42 [(AV.ept [(intA a1_0_0), (intA a1_0_1), (boolA a1_0_2), (intA a1_0_3)] 0)])) (fun z => c4) (fun z => c7) (fun z => z.2) (fun z => []) (fun z => z.1) (by
    rintro ⟨k, y⟩ h
    cases k with
    | zero => exact (iterO_zero h).elim
    | succ k =>
      obtain ⟨u, h1, h2, h3⟩ := iterO_elim h
      exact B41_0_ok n a0 a1_0_0 a1_0_1 a1_0_2 a1_0_3 c4 c7 y R  _ (fun r e => hR r (h3 _ e).symm)  (fun y' e s' hw => ⟨(k, y'), h2 _ e, Nat.lt_succ_self k, hw⟩) h1) (k, x) hx hw
theorem g41_ok (n : Nat) (a0 : List TRunwayMove) (a1_0_0 : Int) (a1_0_1 : Int) (a1_0_2 : Bool) (a1_0_3 : Int) {t : ρ41} (R : AV → Mem → Prop) (hR : ∀ r : ρ41, t = r → ∀ u m, Ans ((intA r)) u m → R u m) : g41 n a0 a1_0_0 a1_0_1 a1_0_2 a1_0_3 = some t → F41 (lstA TRunwayMove.E a0) (AV.fn 42 [(AV.ept [(intA a1_0_0), (intA a1_0_1), (boolA a1_0_2), (intA a1_0_3)] 0)]) R := by
  unfold g41 F41
  refine iq (intA (a0.length : Int)) rfl ?_
  refine imp ex_i64_b ?_
  exact fun hg => L41_0_ok n a0 a1_0_0 a1_0_1 a1_0_2 a1_0_3 (0) (a0.length : Int) R  hR n _ hg (weak_mem [] rfl rfl rfl (okW_cons (ent_lst (E := TRunwayMove.E) _ false) (okW_cons (ent_clean (leV_refl _) (by simp [clean, cleans, encs_clean])) (okW_cons (.inl (leV_refl _)) (okW_cons (.inl (leV_refl _)) (okW_cons (.inl (leV_refl _)) okW_nil))))) okB_nil')
theorem sg41 {n : Nat} {a0 : List TRunwayMove} {a1_0_0 : Int} {a1_0_1 : Int} {a1_0_2 : Bool} {a1_0_3 : Int} {t : ρ41} (h : g41 n a0 a1_0_0 a1_0_1 a1_0_2 a1_0_3 = some t) : Says pg KK.gl 41 [(lstA TRunwayMove.E a0), (AV.fn 42 [(AV.ept [(intA a1_0_0), (intA a1_0_1), (boolA a1_0_2), (intA a1_0_3)] 0)])] ((intA t)) :=
  says_of_own (by first | rfl | simp [cleans, clean, encs_clean, En.cln]) (by first | rfl | simp [cleans, clean, encs_clean, En.cln]) (F41_own (lstA TRunwayMove.E a0) (AV.fn 42 [(AV.ept [(intA a1_0_0), (intA a1_0_1), (boolA a1_0_2), (intA a1_0_3)] 0)]) _ (g41_ok n a0 a1_0_0 a1_0_1 a1_0_2 a1_0_3 (Ans ((intA t))) (fun r e u m h => by rw [e]; exact h) h))
end Go.Proofs.YtbnnndfcaehlpaaGreatDoor
