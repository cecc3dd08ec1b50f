/- Plain functional programs out of the program's functions, with proofs that the functions compute them; printed by wip/Ext.lean.txt. -/
import Derived.Test.YtfhcciepaangiaaX1E2
set_option linter.unusedVariables false
set_option linter.unusedSimpArgs false
set_option maxRecDepth 100000
namespace Go.Proofs.Ytfhcciepaangiaa
/- skyway/slot.Delays -/
theorem B27_0_okM (n : Nat) (a1 : List TSlot) (c5 : Int) (a0 : List TSlotDemand) (c20 : Int) (v21 : Int) (L90000 : List Int) {t : (Int × List Int) ⊕ ρ27} (R : AV → Mem → Prop) (N0 : St → Prop) (hR : ∀ r : ρ27, t = (.inr r) → ∀ u m, MadeT intE 3 r.1 [Value.int .i64 r.2] u m → R u m) (hN0 : ∀ y : Int × List Int, t = (.inl y) → ∀ s' : St, Weak KK 62 0 s' (h27_0 (lstA TSlot.E a1) AV.nils c5 (ownV intE 90000 y.2) (lstA TSlotDemand.E a0) c20 y.1 [(90000, ownB intE 3 y.2)]) → N0 s') : S27_0 n a1 c5 a0 c20 v21 L90000 = some t → B27_0 (lstA TSlot.E a1) AV.nils c5 (ownV intE 90000 L90000) (lstA TSlotDemand.E a0) c20 v21 [(90000, ownB intE 3 L90000)] R N0 := by
  unfold S27_0 B27_0
  refine cond_b (fun _ => ?_) (fun _ => ?_)
  · refine bind_b fun x124 h124 => ?_
    refine imp (opP_of (show _ = some ((AV.ept [(strA x124.Call), (intA x124.Time)] 0), []) from (idx_lst (E := TSlotDemand.E) rfl h124))) ?_
    refine imp (opP_of (show _ = some ((AV.agg [(strA x124.Call), (intA x124.Time)]), []) from rfl)) ?_
    refine imp exA2_b ?_
    refine imp exStr_b ?_
    refine imp ex_i64_b ?_
    refine bind_b fun x125 h125 => ?_
    refine imp (callQ_says (sg44 h125)) ?_
    refine imp ex_i64_b ?_
    refine cond_b (fun _ => ?_) (fun _ => ?_)
    · exact fun hg => hR _ (Option.some.inj hg).symm _ _ ⟨_, rfl, made_nils_pf⟩
    · refine bind_b fun x126 h126 => ?_
      refine imp (opP_of (show _ = some ((AV.ept [(strA x126.Call), (strA x126.Place), (intA x126.Time)] 0), []) from (idx_lst (E := TSlot.E) rfl h126))) ?_
      refine imp (opP_of (show _ = some ((AV.ept [(strA x126.Call), (strA x126.Place), (intA x126.Time)] 2), []) from rfl)) ?_
      refine imp (opP_of (show _ = some ((intA x126.Time), []) from rfl)) ?_
      refine imp ex_i64_b ?_
      refine cond_b (fun _ => ?_) (fun _ => ?_)
      · exact fun hg => hR _ (Option.some.inj hg).symm _ _ ⟨_, rfl, made_nils_pf⟩
      · refine bind_b fun x127 h127 => ?_
        refine imp (opP_of (show _ = some ((AV.ept [(strA x127.Call), (strA x127.Place), (intA x127.Time)] 0), []) from (idx_lst (E := TSlot.E) rfl h127))) ?_
        refine imp (opP_of (show _ = some ((AV.ept [(strA x127.Call), (strA x127.Place), (intA x127.Time)] 2), []) from rfl)) ?_
        refine imp (opP_of (show _ = some ((intA x127.Time), []) from rfl)) ?_
        refine imp ex_i64_b ?_
        refine cond_b (fun _ => ?_) (fun _ => ?_)
        · exact fun hg => hR _ (Option.some.inj hg).symm _ _ ⟨_, rfl, made_nils_pf⟩
        · refine bind_b fun x128 h128 => ?_
          refine imp (opM_of (show _ = some ((AV.ept [(strA x128.Call), (strA x128.Place), (intA x128.Time)] 0), []) from (idx_lst (E := TSlot.E) rfl h128))) ?_
          refine imp (opM_of (show _ = some ((AV.ept [(strA x128.Call), (strA x128.Place), (intA x128.Time)] 2), []) from rfl)) ?_
          refine imp (opM_of (show _ = some ((intA x128.Time), []) from rfl)) ?_
          refine imp ex_i64_b ?_
          refine imp (opM_of (show _ = some ((intA x124.Time), []) from (ldS_ptr (b := ⟨[(strA x124.Call), (intA x124.Time)], 44⟩) (by first | rfl | (rw [look'_mem (by first | rfl | simp [topId_blk] | simp [topId])]; first | rfl | (simp (disch := decide) only [mpushs_nil, mpushs_cons, mget_hd, mget_tl, mget_appW_o, mget_appW_n]))) rfl))) ?_
          refine imp ex_i64_b ?_
          refine imp (opM_of (show _ = some ((blkV intE 100102 ([(IntKind.wrap .i64 (x128.Time - x124.Time))] : List Int)), [(100102, some ⟨encs intE ([(IntKind.wrap .i64 (x128.Time - x124.Time))] : List Int), 3⟩)]) from rfl)) ?_
          refine bind_b fun x129 h129 => ?_
          refine imp (opM_of (show _ = some ((ownV intE 100103 (L90000 ++ ([(IntKind.wrap .i64 (x128.Time - x124.Time))] : List Int))), (appW intE 100103 90000 3 L90000 ([(IntKind.wrap .i64 (x128.Time - x124.Time))] : List Int))) from (app_own (E := intE) (l' := L90000) (xs := ([(IntKind.wrap .i64 (x128.Time - x124.Time))] : List Int)) rfl rfl (cellsOf_blk (E := intE) (ty := 3) rfl rfl (by first | rfl | (rw [look'_mem (by first | rfl | simp [topId_blk] | simp [topId])]; first | rfl | (simp (disch := decide) only [mpushs_nil, mpushs_cons, mget_hd, mget_tl, mget_appW_o, mget_appW_n])))) (by simp) rfl (fun hne => look'_own hne rfl (by first | rfl | (simp (disch := decide) only [mpushs_nil, mpushs_cons, mget_hd, mget_tl, mget_appW_o, mget_appW_n]))) h129))) ?_
          refine imp (chk_of (by rcases (L90000) with _ | ⟨_, _⟩ <;> kernel_rfl)) ?_
          exact fun hg => hN0 _ (Option.some.inj hg).symm _ (weak_mem [(90000, 100103)] rfl rfl rfl (okW_cons (ent_lst (E := TSlot.E) _ false) (okW_cons (.inl (leV_refl _)) (okW_cons (.inl (leV_refl _)) (okW_cons (ent_own (E := intE) (id := 100103) (l' := (L90000 ++ ([(IntKind.wrap .i64 (x128.Time - x124.Time))] : List Int))) rfl rfl) (okW_cons (ent_lst (E := TSlotDemand.E) _ false) (okW_cons (.inl (leV_refl _)) (okW_cons (.inl (leV_refl _)) okW_nil))))))) (okB_cons (okB_own (E := intE) (ty := 3) (l' := (L90000 ++ ([(IntKind.wrap .i64 (x128.Time - x124.Time))] : List Int))) rfl (show mget _ 100103 = _ from (by first | rfl | (simp (disch := decide) only [mpushs_nil, mpushs_cons, mget_hd, mget_tl, mget_appW_o, mget_appW_n])))) okB_nil'))
  · exact fun hg => hR _ (Option.some.inj hg).symm _ _ ⟨_, rfl, (made_own_pf (E := intE) (ty := 3) (l := L90000) rfl (by first | rfl | (simp (disch := decide) only [mpushs_nil, mpushs_cons, mget_hd, mget_tl, mget_appW_o, mget_appW_n])))⟩
theorem L27_0_okM (n : Nat) (a1 : List TSlot) (c5 : Int) (a0 : List TSlotDemand) (c20 : Int) {t : ρ27} (R : AV → Mem → Prop) (hR : ∀ r : ρ27, t = r → ∀ u m, MadeT intE 3 r.1 [Value.int .i64 r.2] u m → R u m) (k : Nat) (x : Int × List Int) (hx : iterO (fun y : Int × List Int => S27_0 n a1 c5 a0 c20 y.1 y.2) k x = some t) {s : St} (hw : Weak KK 62 0 s (h27_0 (lstA TSlot.E a1) AV.nils c5 (ownV intE 90000 x.2) (lstA TSlotDemand.E a0) c20 x.1 [(90000, ownB intE 3 x.2)])) : Tri Try.prog KK 62 0 (.loop c27_0) s (q27_0 R ) :=
  L27_0 R  (σ := Nat × (Int × List Int)) (fun z => iterO (fun y : Int × List Int => S27_0 n a1 c5 a0 c20 y.1 y.2) z.1 z.2 = some t) (fun z => (lstA TSlot.E a1)) (fun z => AV.nils) (fun z => c5) (fun z => (ownV intE 90000 z.2.2)) (fun z => (lstA TSlotDemand.E a0)) (fun z => c20) (fun z => z.2.1) (fun z => [(90000, ownB intE 3 z.2.2)]) (fun z => z.1) (by
    rintro ⟨k, y⟩ h
    cases k with
    | zero => exact (iterO_zero h).elim
    | succ k =>
      obtain ⟨u, h1, h2, h3⟩ := iterO_elim h
      exact B27_0_okM n a1 c5 a0 c20 y.1 y.2 R  _ (fun r e => hR r (h3 _ e).symm)  (fun y' e s' hw => ⟨(k, y'), h2 _ e, Nat.lt_succ_self k, hw⟩) h1) (k, x) hx hw
theorem g27_okM (n : Nat) (a0 : List TSlotDemand) (a1 : List TSlot) {t : ρ27} (R : AV → Mem → Prop) (hR : ∀ r : ρ27, t = r → ∀ u m, MadeT intE 3 r.1 [Value.int .i64 r.2] u m → R u m) : g27 n a0 a1 = some t → F27 (lstA TSlotDemand.E a0) (lstA TSlot.E a1) R := by
  unfold g27 F27
  refine bind_b fun x123 h123 => ?_
  refine imp (callQ_says (sg35 h123)) ?_
  refine imp ex_i64_b ?_
  refine cond_b (fun _ => ?_) (fun _ => ?_)
  · exact fun hg => hR _ (Option.some.inj hg).symm _ _ ⟨_, rfl, made_nils_pf⟩
  · refine imp (opP_of (show _ = some ((intA (a1.length : Int)), []) from rfl)) ?_
    refine imp ex_i64_b ?_
    refine cond_b (fun _ => ?_) (fun _ => ?_)
    · exact fun hg => hR _ (Option.some.inj hg).symm _ _ ⟨_, rfl, made_nils_pf⟩
    · refine imp (opP_of (show _ = some ((intA (a0.length : Int)), []) from rfl)) ?_
      refine imp ex_i64_b ?_
      exact fun hg => L27_0_okM n a1 (0) a0 (a0.length : Int) R  hR n _ hg (weak_mem [(90000, 89500)] rfl rfl rfl (okW_cons (ent_lst (E := TSlot.E) _ false) (okW_cons (.inl (leV_refl _)) (okW_cons (.inl (leV_refl _)) (okW_cons ent_nils_own (okW_cons (ent_lst (E := TSlotDemand.E) _ false) (okW_cons (.inl (leV_refl _)) (okW_cons (.inl (leV_refl _)) okW_nil))))))) (okB_cons okB_nil okB_nil'))
theorem mg27C {n k : Nat} {look : Nat → Option ABlk} {a0 : List TSlotDemand} {a1 : List TSlot} {t : ρ27} (h : g27 n a0 a1 = some t) : PureD Try.prog KK.gl look k 27 [(lstA TSlotDemand.E a0), (lstA TSlot.E a1)] (.tup (ownV intE k t.1 :: ([Value.int .i64 t.2] : List Value).map AV.sc)) [(k, ownB intE 3 t.1)] :=
  made_tupC (by first | rfl | simp [cleans, clean, encs_clean, En.cln]) (F27_own (lstA TSlotDemand.E a0) (lstA TSlot.E a1) _ (g27_okM n a0 a1 (MadeT intE 3 t.1 [Value.int .i64 t.2]) (fun r e u m h => by rw [e]; exact h) h))
theorem mg27S {n k : Nat} {look : Nat → Option ABlk} {args : List AV} {a0 : List TSlotDemand} {a1 : List TSlot} {t : ρ27} (h : g27 n a0 a1 = some t) (hs : SnL look 6 args [(lstA TSlotDemand.E a0), (lstA TSlot.E a1)]) : PureD Try.prog KK.gl look k 27 args (.tup (ownV intE k t.1 :: ([Value.int .i64 t.2] : List Value).map AV.sc)) [(k, ownB intE 3 t.1)] :=
  made_tupS (fun _ => rfl) hs (F27_own (lstA TSlotDemand.E a0) (lstA TSlot.E a1) _ (g27_okM n a0 a1 (MadeT intE 3 t.1 [Value.int .i64 t.2]) (fun r e u m h => by rw [e]; exact h) h))
/- skyway/slot.Swap -/
theorem g26_ok (n : Nat) (a0 : List TSlotDemand) (a1 : List TSlot) (a2 : ByteArray) (a3 : ByteArray) {t : ρ26} (R : AV → Mem → Prop) (hR : ∀ r : ρ26, t = r → ∀ u m, Ans ((AV.tup [(lstA TSlot.E r.1), (intA r.2)])) u m → R u m) : g26 n a0 a1 a2 a3 = some t → F26 (lstA TSlotDemand.E a0) (lstA TSlot.E a1) a2 a3 R := by
  unfold g26 F26
  refine bind_b fun x122 h122 => ?_
  refine imp (callW_D (show PureD _ _ _ _ _ _ (AV.tup [(ownV intE 4 x122.1), (intA x122.2)]) [(4, ownB intE 3 x122.1)] from mg27C h122)) ?_
  refine imp exT2_b ?_
  refine imp ex_i64_b ?_
  refine cond_b (fun _ => ?_) (fun _ => ?_)
  · exact fun hg => retN rfl (hR _ (Option.some.inj hg).symm) (fzL_cons (fz_nils (E := TSlot.E) _) (fzL_cons (fz_sc _ _) fzL_nil))
  · refine bind_b fun x130 h130 => ?_
    refine imp (callQ_says (sg44 h130)) ?_
    refine imp ex_i64_b ?_
    refine bind_b fun x131 h131 => ?_
    refine imp (callQ_says (sg44 h131)) ?_
    refine imp ex_i64_b ?_
    refine cond_b (fun _ => ?_) (fun _ => ?_)
    · exact fun hg => retN rfl (hR _ (Option.some.inj hg).symm) (fzL_cons (fz_nils (E := TSlot.E) _) (fzL_cons (fz_sc _ _) fzL_nil))
    · refine cond_b (fun _ => ?_) (fun _ => ?_)
      · exact fun hg => retN rfl (hR _ (Option.some.inj hg).symm) (fzL_cons (fz_nils (E := TSlot.E) _) (fzL_cons (fz_sc _ _) fzL_nil))
      · refine bind_b fun x132 h132 => ?_
        refine imp (callW_D (show PureD _ _ _ _ _ _ (ownV TSlot.E 216 a1) [(216, ownB TSlot.E 49 a1)] from cloneC45 h132)) ?_
        refine bind_b fun x133 h133 => ?_
        refine imp (opM_of (show _ = some ((AV.ptr 216 (((x131 : Int).toNat) * 3 + 0)), []) from (idx_own (E := TSlot.E) rfl h133))) ?_
        refine imp (opM_of (show _ = some ((AV.ptr 216 (((x131 : Int).toNat) * 3 + 2)), []) from rfl)) ?_
        refine imp (opM_of (show _ = some ((intA x133.Time), []) from (ldS_blk (E := TSlot.E) (l := a1) (ty := 49) (o := 2) (own_some (ty := 49) (by first | rfl | (rw [look'_mem (by first | rfl | simp [topId_blk] | simp [topId])]; first | rfl | (simp (disch := decide) only [mpushs_nil, mpushs_cons, mget_hd, mget_tl, mget_appW_o, mget_appW_n]))) (getI_some h133).2) (getI_some h133).2 rfl (by decide) rfl))) ?_
        refine imp ex_i64_b ?_
        refine bind_b fun x134 h134 => ?_
        refine imp (opM_of (show _ = some ((AV.ptr 216 (((x130 : Int).toNat) * 3 + 0)), []) from (idx_own (E := TSlot.E) rfl h134))) ?_
        refine imp (opM_of (show _ = some ((AV.ptr 216 (((x130 : Int).toNat) * 3 + 2)), []) from rfl)) ?_
        refine imp (opM_of (show _ = some ((intA x134.Time), []) from (ldS_blk (E := TSlot.E) (l := a1) (ty := 49) (o := 2) (own_some (ty := 49) (by first | rfl | (rw [look'_mem (by first | rfl | simp [topId_blk] | simp [topId])]; first | rfl | (simp (disch := decide) only [mpushs_nil, mpushs_cons, mget_hd, mget_tl, mget_appW_o, mget_appW_n]))) (getI_some h134).2) (getI_some h134).2 rfl (by decide) rfl))) ?_
        refine imp ex_i64_b ?_
        refine bind_b fun x135 h135 => ?_
        refine imp (opM_of (show _ = some ((AV.ptr 216 (((x130 : Int).toNat) * 3 + 0)), []) from (idx_own (E := TSlot.E) rfl h135))) ?_
        refine imp (opM_of (show _ = some ((AV.ptr 216 (((x130 : Int).toNat) * 3 + 2)), []) from rfl)) ?_
        refine imp (storeW_elO (E := TSlot.E) (l := a1) (i := ((x130 : Int).toNat)) (o := 2) (y := (⟨x135.Call, x135.Place, x133.Time⟩ : TSlot)) (ty := 49) (by kernel_rfl) (by kernel_rfl) rfl (by first | rfl | (rw [look'_mem (by first | rfl | simp [topId_blk] | simp [topId])]; first | rfl | (simp (disch := decide) only [mpushs_nil, mpushs_cons, mget_hd, mget_tl, mget_appW_o, mget_appW_n]))) (getI_some h135).2 rfl (by decide) rfl) ?_
        refine bind_b fun x136 h136 => ?_
        refine imp (opM_of (show _ = some ((AV.ptr 216 (((x131 : Int).toNat) * 3 + 0)), []) from (idx_own (E := TSlot.E) (by first | rfl | omega | (simp; done) | (simp; omega)) h136))) ?_
        refine imp (opM_of (show _ = some ((AV.ptr 216 (((x131 : Int).toNat) * 3 + 2)), []) from rfl)) ?_
        refine imp (storeW_elO (E := TSlot.E) (l := (a1.set ((x130 : Int).toNat) (⟨x135.Call, x135.Place, x133.Time⟩ : TSlot))) (i := ((x131 : Int).toNat)) (o := 2) (y := (⟨x136.Call, x136.Place, x134.Time⟩ : TSlot)) (ty := 49) (by kernel_rfl) (by kernel_rfl) rfl (by first | rfl | (rw [look'_mem (by first | rfl | simp [topId_blk] | simp [topId])]; first | rfl | (simp (disch := decide) only [mpushs_nil, mpushs_cons, mget_hd, mget_tl, mget_appW_o, mget_appW_n]))) (getI_some h136).2 rfl (by decide) rfl) ?_
        refine imp (chk_of (by kernel_rfl)) ?_
        refine bind_b fun x137 h137 => ?_
        refine imp (callW_D (show PureD _ _ _ _ _ _ (AV.tup [(ownV intE 303 x137.1), (intA x137.2)]) [(303, ownB intE 3 x137.1)] from mg27S h137 (snL_cons (sn_lst (E := TSlotDemand.E) _ _ false) (snL_cons (sn_own (E := TSlot.E) (ty := 49) (l' := ((a1.set ((x130 : Int).toNat) (⟨x135.Call, x135.Place, x133.Time⟩ : TSlot)).set ((x131 : Int).toNat) (⟨x136.Call, x136.Place, x134.Time⟩ : TSlot))) _ TSlot.nf (by first | rfl | omega | (simp; done) | (simp; omega)) (by first | rfl | (simp (disch := decide) only [mpushs_nil, mpushs_cons, mget_hd, mget_tl, mget_appW_o, mget_appW_n]))) snL_nil)))) ?_
        refine imp exT2_b ?_
        refine imp ex_i64_b ?_
        refine cond_b (fun _ => ?_) (fun _ => ?_)
        · exact fun hg => retN rfl (hR _ (Option.some.inj hg).symm) (fzL_cons (fz_nils (E := TSlot.E) _) (fzL_cons (fz_sc _ _) fzL_nil))
        · exact fun hg => retN rfl (hR _ (Option.some.inj hg).symm) (fzL_cons (fz_own (E := TSlot.E) (ty := 49) (l' := ((a1.set ((x130 : Int).toNat) (⟨x135.Call, x135.Place, x133.Time⟩ : TSlot)).set ((x131 : Int).toNat) (⟨x136.Call, x136.Place, x134.Time⟩ : TSlot))) _ (by first | rfl | omega | (simp; done) | (simp; omega)) (by first | rfl | (simp (disch := decide) only [mpushs_nil, mpushs_cons, mget_hd, mget_tl, mget_appW_o, mget_appW_n]))) (fzL_cons (fz_sc _ _) fzL_nil))
theorem sg26 {n : Nat} {a0 : List TSlotDemand} {a1 : List TSlot} {a2 : ByteArray} {a3 : ByteArray} {t : ρ26} (h : g26 n a0 a1 a2 a3 = some t) : Says Try.prog KK.gl 26 [(lstA TSlotDemand.E a0), (lstA TSlot.E a1), (strA a2), (strA a3)] ((AV.tup [(lstA TSlot.E t.1), (intA t.2)])) :=
  says_of_own (by first | rfl | simp [cleans, clean, encs_clean, En.cln]) (by first | rfl | simp [cleans, clean, encs_clean, En.cln]) (F26_own (lstA TSlotDemand.E a0) (lstA TSlot.E a1) a2 a3 _ (g26_ok n a0 a1 a2 a3 (Ans ((AV.tup [(lstA TSlot.E t.1), (intA t.2)]))) (fun r e u m h => by rw [e]; exact h) h))
/- skyway/slot.Swap -/
theorem g26_okM (n : Nat) (a0 : List TSlotDemand) (a1 : List TSlot) (a2 : ByteArray) (a3 : ByteArray) {t : ρ26} (R : AV → Mem → Prop) (hR : ∀ r : ρ26, t = r → ∀ u m, MadeT TSlot.E 49 r.1 [Value.int .i64 r.2] u m → R u m) : g26 n a0 a1 a2 a3 = some t → F26 (lstA TSlotDemand.E a0) (lstA TSlot.E a1) a2 a3 R := by
  unfold g26 F26
  refine bind_b fun x139 h139 => ?_
  refine imp (callW_D (show PureD _ _ _ _ _ _ (AV.tup [(ownV intE 4 x139.1), (intA x139.2)]) [(4, ownB intE 3 x139.1)] from mg27C h139)) ?_
  refine imp exT2_b ?_
  refine imp ex_i64_b ?_
  refine cond_b (fun _ => ?_) (fun _ => ?_)
  · exact fun hg => hR _ (Option.some.inj hg).symm _ _ ⟨_, rfl, made_nils_pf⟩
  · refine bind_b fun x140 h140 => ?_
    refine imp (callQ_says (sg44 h140)) ?_
    refine imp ex_i64_b ?_
    refine bind_b fun x141 h141 => ?_
    refine imp (callQ_says (sg44 h141)) ?_
    refine imp ex_i64_b ?_
    refine cond_b (fun _ => ?_) (fun _ => ?_)
    · exact fun hg => hR _ (Option.some.inj hg).symm _ _ ⟨_, rfl, made_nils_pf⟩
    · refine cond_b (fun _ => ?_) (fun _ => ?_)
      · exact fun hg => hR _ (Option.some.inj hg).symm _ _ ⟨_, rfl, made_nils_pf⟩
      · refine bind_b fun x142 h142 => ?_
        refine imp (callW_D (show PureD _ _ _ _ _ _ (ownV TSlot.E 216 a1) [(216, ownB TSlot.E 49 a1)] from cloneC45 h142)) ?_
        refine bind_b fun x143 h143 => ?_
        refine imp (opM_of (show _ = some ((AV.ptr 216 (((x141 : Int).toNat) * 3 + 0)), []) from (idx_own (E := TSlot.E) rfl h143))) ?_
        refine imp (opM_of (show _ = some ((AV.ptr 216 (((x141 : Int).toNat) * 3 + 2)), []) from rfl)) ?_
        refine imp (opM_of (show _ = some ((intA x143.Time), []) from (ldS_blk (E := TSlot.E) (l := a1) (ty := 49) (o := 2) (own_some (ty := 49) (by first | rfl | (rw [look'_mem (by first | rfl | simp [topId_blk] | simp [topId])]; first | rfl | (simp (disch := decide) only [mpushs_nil, mpushs_cons, mget_hd, mget_tl, mget_appW_o, mget_appW_n]))) (getI_some h143).2) (getI_some h143).2 rfl (by decide) rfl))) ?_
        refine imp ex_i64_b ?_
        refine bind_b fun x144 h144 => ?_
        refine imp (opM_of (show _ = some ((AV.ptr 216 (((x140 : Int).toNat) * 3 + 0)), []) from (idx_own (E := TSlot.E) rfl h144))) ?_
        refine imp (opM_of (show _ = some ((AV.ptr 216 (((x140 : Int).toNat) * 3 + 2)), []) from rfl)) ?_
        refine imp (opM_of (show _ = some ((intA x144.Time), []) from (ldS_blk (E := TSlot.E) (l := a1) (ty := 49) (o := 2) (own_some (ty := 49) (by first | rfl | (rw [look'_mem (by first | rfl | simp [topId_blk] | simp [topId])]; first | rfl | (simp (disch := decide) only [mpushs_nil, mpushs_cons, mget_hd, mget_tl, mget_appW_o, mget_appW_n]))) (getI_some h144).2) (getI_some h144).2 rfl (by decide) rfl))) ?_
        refine imp ex_i64_b ?_
        refine bind_b fun x145 h145 => ?_
        refine imp (opM_of (show _ = some ((AV.ptr 216 (((x140 : Int).toNat) * 3 + 0)), []) from (idx_own (E := TSlot.E) rfl h145))) ?_
        refine imp (opM_of (show _ = some ((AV.ptr 216 (((x140 : Int).toNat) * 3 + 2)), []) from rfl)) ?_
        refine imp (storeW_elO (E := TSlot.E) (l := a1) (i := ((x140 : Int).toNat)) (o := 2) (y := (⟨x145.Call, x145.Place, x143.Time⟩ : TSlot)) (ty := 49) (by kernel_rfl) (by kernel_rfl) rfl (by first | rfl | (rw [look'_mem (by first | rfl | simp [topId_blk] | simp [topId])]; first | rfl | (simp (disch := decide) only [mpushs_nil, mpushs_cons, mget_hd, mget_tl, mget_appW_o, mget_appW_n]))) (getI_some h145).2 rfl (by decide) rfl) ?_
        refine bind_b fun x146 h146 => ?_
        refine imp (opM_of (show _ = some ((AV.ptr 216 (((x141 : Int).toNat) * 3 + 0)), []) from (idx_own (E := TSlot.E) (by first | rfl | omega | (simp; done) | (simp; omega)) h146))) ?_
        refine imp (opM_of (show _ = some ((AV.ptr 216 (((x141 : Int).toNat) * 3 + 2)), []) from rfl)) ?_
        refine imp (storeW_elO (E := TSlot.E) (l := (a1.set ((x140 : Int).toNat) (⟨x145.Call, x145.Place, x143.Time⟩ : TSlot))) (i := ((x141 : Int).toNat)) (o := 2) (y := (⟨x146.Call, x146.Place, x144.Time⟩ : TSlot)) (ty := 49) (by kernel_rfl) (by kernel_rfl) rfl (by first | rfl | (rw [look'_mem (by first | rfl | simp [topId_blk] | simp [topId])]; first | rfl | (simp (disch := decide) only [mpushs_nil, mpushs_cons, mget_hd, mget_tl, mget_appW_o, mget_appW_n]))) (getI_some h146).2 rfl (by decide) rfl) ?_
        refine imp (chk_of (by kernel_rfl)) ?_
        refine bind_b fun x147 h147 => ?_
        refine imp (callW_D (show PureD _ _ _ _ _ _ (AV.tup [(ownV intE 303 x147.1), (intA x147.2)]) [(303, ownB intE 3 x147.1)] from mg27S h147 (snL_cons (sn_lst (E := TSlotDemand.E) _ _ false) (snL_cons (sn_own (E := TSlot.E) (ty := 49) (l' := ((a1.set ((x140 : Int).toNat) (⟨x145.Call, x145.Place, x143.Time⟩ : TSlot)).set ((x141 : Int).toNat) (⟨x146.Call, x146.Place, x144.Time⟩ : TSlot))) _ TSlot.nf (by first | rfl | omega | (simp; done) | (simp; omega)) (by first | rfl | (simp (disch := decide) only [mpushs_nil, mpushs_cons, mget_hd, mget_tl, mget_appW_o, mget_appW_n]))) snL_nil)))) ?_
        refine imp exT2_b ?_
        refine imp ex_i64_b ?_
        refine cond_b (fun _ => ?_) (fun _ => ?_)
        · exact fun hg => hR _ (Option.some.inj hg).symm _ _ ⟨_, rfl, made_nils_pf⟩
        · exact fun hg => hR _ (Option.some.inj hg).symm _ _ ⟨_, rfl, (made_own_pf (E := TSlot.E) (ty := 49) (l := ((a1.set ((x140 : Int).toNat) (⟨x145.Call, x145.Place, x143.Time⟩ : TSlot)).set ((x141 : Int).toNat) (⟨x146.Call, x146.Place, x144.Time⟩ : TSlot))) (by first | rfl | omega | (simp; done) | (simp; omega)) (by first | rfl | (simp (disch := decide) only [mpushs_nil, mpushs_cons, mget_hd, mget_tl, mget_appW_o, mget_appW_n])))⟩
theorem mg26C {n k : Nat} {look : Nat → Option ABlk} {a0 : List TSlotDemand} {a1 : List TSlot} {a2 : ByteArray} {a3 : ByteArray} {t : ρ26} (h : g26 n a0 a1 a2 a3 = some t) : PureD Try.prog KK.gl look k 26 [(lstA TSlotDemand.E a0), (lstA TSlot.E a1), (strA a2), (strA a3)] (.tup (ownV TSlot.E k t.1 :: ([Value.int .i64 t.2] : List Value).map AV.sc)) [(k, ownB TSlot.E 49 t.1)] :=
  made_tupC (by first | rfl | simp [cleans, clean, encs_clean, En.cln]) (F26_own (lstA TSlotDemand.E a0) (lstA TSlot.E a1) a2 a3 _ (g26_okM n a0 a1 a2 a3 (MadeT TSlot.E 49 t.1 [Value.int .i64 t.2]) (fun r e u m h => by rw [e]; exact h) h))
theorem mg26S {n k : Nat} {look : Nat → Option ABlk} {args : List AV} {a0 : List TSlotDemand} {a1 : List TSlot} {a2 : ByteArray} {a3 : ByteArray} {t : ρ26} (h : g26 n a0 a1 a2 a3 = some t) (hs : SnL look 6 args [(lstA TSlotDemand.E a0), (lstA TSlot.E a1), (strA a2), (strA a3)]) : PureD Try.prog KK.gl look k 26 args (.tup (ownV TSlot.E k t.1 :: ([Value.int .i64 t.2] : List Value).map AV.sc)) [(k, ownB TSlot.E 49 t.1)] :=
  made_tupS (fun _ => rfl) hs (F26_own (lstA TSlotDemand.E a0) (lstA TSlot.E a1) a2 a3 _ (g26_okM n a0 a1 a2 a3 (MadeT TSlot.E 49 t.1 [Value.int .i64 t.2]) (fun r e u m h => by rw [e]; exact h) h))
/- skyway/skywaykeep3.SlotSwaps -/
theorem B7_0_ok (n : Nat) (c8 : Bool) (c9 : List TSlot) (c14 : List TSlot) (c15 : Int) (c16 : List Int) (c17 : Int) (c18 : List Int) (c19 : Int) (c102 : Int) (v20 : Int) (v103 : Int) {t : (Int × Int) ⊕ ρ7} (R : AV → Mem → Prop) (N0 : St → Prop) (hR : ∀ r : ρ7, t = (.inr r) → ∀ u m, Ans ((boolA r)) u m → R u m) (hN0 : ∀ y : Int × Int, t = (.inl y) → ∀ s' : St, Weak KK 144 0 s' (h7_0 c8 (lstA TSlot.E c9) (lstA TSlot.E c14) c15 (lstA intE c16) c17 (lstA intE c18) c19 y.1 c102 y.2 []) → N0 s') : S7_0 n c8 c9 c14 c15 c16 c17 c18 c19 c102 v20 v103 = some t → B7_0 c8 (lstA TSlot.E c9) (lstA TSlot.E c14) c15 (lstA intE c16) c17 (lstA intE c18) c19 v20 c102 v103 [] R N0 := by
  unfold S7_0 B7_0
  refine cond_b (fun _ => ?_) (fun _ => ?_)
  · refine bind_b fun x151 h151 => ?_
    refine imp (opP_of (show _ = some ((AV.ept [(intA x151)] 0), []) from (idx_lst (E := intE) rfl h151))) ?_
    refine imp (opP_of (show _ = some ((intA x151), []) from rfl)) ?_
    refine imp ex_i64_b ?_
    refine bind_b fun x152 h152 => ?_
    refine imp (opP_of (show _ = some ((AV.ept [(intA x152)] 0), []) from (idx_lst (E := intE) rfl h152))) ?_
    refine imp (opP_of (show _ = some ((intA x152), []) from rfl)) ?_
    refine imp ex_i64_b ?_
    exact fun hg => hN0 _ (Option.some.inj hg).symm _ (weak_mem [] rfl rfl rfl (okW_cons (.inl (leV_refl _)) (okW_cons (ent_lst (E := TSlot.E) _ false) (okW_cons (ent_lst (E := TSlot.E) _ false) (okW_cons (.inl (leV_refl _)) (okW_cons (ent_lst (E := intE) _ false) (okW_cons (.inl (leV_refl _)) (okW_cons (ent_lst (E := intE) _ false) (okW_cons (.inl (leV_refl _)) (okW_cons (.inl (leV_refl _)) (okW_cons (.inl (leV_refl _)) (okW_cons (.inl (leV_refl _)) okW_nil))))))))))) okB_nil')
  · refine cond_b (fun _ => ?_) (fun _ => ?_)
    · refine cond_b (fun _ => ?_) (fun _ => ?_)
      · refine cond_b (fun _ => ?_) (fun _ => ?_)
        · refine bind_b fun x153 h153 => ?_
          refine imp (callQ_says (sg22 h153)) ?_
          refine imp exB_b ?_
          refine cond_b (fun _ => ?_) (fun _ => ?_)
          · refine cond_b (fun _ => ?_) (fun _ => ?_)
            · refine imp (opP_of (show _ = some ((intA (c16.length : Int)), []) from rfl)) ?_
              refine imp ex_i64_b ?_
              refine imp (opP_of (show _ = some ((intA (c18.length : Int)), []) from rfl)) ?_
              refine imp ex_i64_b ?_
              exact fun hg => ret1 (hR _ (Option.some.inj hg).symm) (fz_sc _ _)
            · exact fun hg => ret1 (hR _ (Option.some.inj hg).symm) (fz_sc _ _)
          · exact fun hg => ret1 (hR _ (Option.some.inj hg).symm) (fz_sc _ _)
        · exact fun hg => ret1 (hR _ (Option.some.inj hg).symm) (fz_sc _ _)
      · exact fun hg => ret1 (hR _ (Option.some.inj hg).symm) (fz_sc _ _)
    · exact fun hg => ret1 (hR _ (Option.some.inj hg).symm) (fz_sc _ _)
theorem L7_0_ok (n : Nat) (c8 : Bool) (c9 : List TSlot) (c14 : List TSlot) (c15 : Int) (c16 : List Int) (c17 : Int) (c18 : List Int) (c19 : Int) (c102 : Int) {t : ρ7} (R : AV → Mem → Prop) (hR : ∀ r : ρ7, t = r → ∀ u m, Ans ((boolA r)) u m → R u m) (k : Nat) (x : Int × Int) (hx : iterO (fun y : Int × Int => S7_0 n c8 c9 c14 c15 c16 c17 c18 c19 c102 y.1 y.2) k x = some t) {s : St} (hw : Weak KK 144 0 s (h7_0 c8 (lstA TSlot.E c9) (lstA TSlot.E c14) c15 (lstA intE c16) c17 (lstA intE c18) c19 x.1 c102 x.2 [])) : Tri Try.prog KK 144 0 (.loop c7_0) s (q7_0 R ) :=
  L7_0 R  (σ := Nat × (Int × Int)) (fun z => iterO (fun y : Int × Int => S7_0 n c8 c9 c14 c15 c16 c17 c18 c19 c102 y.1 y.2) z.1 z.2 = some t) (fun z => c8) (fun z => (lstA TSlot.E c9)) (fun z => (lstA TSlot.E c14)) (fun z => c15) (fun z => (lstA intE c16)) (fun z => c17) (fun z => (lstA intE c18)) (fun z => c19) (fun z => z.2.1) (fun z => c102) (fun z => z.2.2) (fun z => []) (fun z => z.1) (by
    rintro ⟨k, y⟩ h
    cases k with
    | zero => exact (iterO_zero h).elim
    | succ k =>
      obtain ⟨u, h1, h2, h3⟩ := iterO_elim h
      exact B7_0_ok n c8 c9 c14 c15 c16 c17 c18 c19 c102 y.1 y.2 R  _ (fun r e => hR r (h3 _ e).symm)  (fun y' e s' hw => ⟨(k, y'), h2 _ e, Nat.lt_succ_self k, hw⟩) h1) (k, x) hx hw
theorem g7_ok (n : Nat) (a0 : List TSlotDemand) (a1 : List TFlowCap) (a2 : Int) (a3 : Int) {t : ρ7} (R : AV → Mem → Prop) (hR : ∀ r : ρ7, t = r → ∀ u m, Ans ((boolA r)) u m → R u m) : g7 n a0 a1 a2 a3 = some t → F7 (lstA TSlotDemand.E a0) (lstA TFlowCap.E a1) a2 a3 R := by
  unfold g7 F7
  refine bind_b fun x106 h106 => ?_
  refine imp (callQ_says (sg18 h106)) ?_
  refine imp exB_b ?_
  refine cond_b (fun _ => ?_) (fun _ => ?_)
  · exact fun hg => ret1 (hR _ (Option.some.inj hg).symm) (fz_sc _ _)
  · refine bind_b fun x107 h107 => ?_
    refine imp (callW_D (show PureD _ _ _ _ _ _ (AV.tup [(ownV TSlot.E 68 x107.1), (intA x107.2)]) [(68, ownB TSlot.E 49 x107.1)] from mg19C h107)) ?_
    refine imp exT2_b ?_
    refine imp ex_i64_b ?_
    refine cond_b (fun _ => ?_) (fun _ => ?_)
    · refine imp (opP_of (show _ = some ((intA (x107.1.length : Int)), []) from len_own)) ?_
      refine imp ex_i64_b ?_
      exact fun hg => ret1 (hR _ (Option.some.inj hg).symm) (fz_sc _ _)
    · refine imp (opP_of (show _ = some ((intA (a0.length : Int)), []) from rfl)) ?_
      refine imp ex_i64_b ?_
      refine cond_b (fun _ => ?_) (fun _ => ?_)
      · refine imp (opP_of (show _ = some ((intA (x107.1.length : Int)), []) from len_own)) ?_
        refine imp ex_i64_b ?_
        exact fun hg => ret1 (hR _ (Option.some.inj hg).symm) (fz_sc _ _)
      · refine imp (opP_of (show _ = some ((intA (a0.length : Int)), []) from rfl)) ?_
        refine imp ex_i64_b ?_
        refine bind_b fun x108 h108 => ?_
        refine imp (callQ_says (sg20 h108)) ?_
        refine imp ex_i64_b ?_
        refine bind_b fun x109 h109 => ?_
        refine imp (opP_of (show _ = some ((AV.ept [(strA x109.Call), (intA x109.Time)] 0), []) from (idx_lst (E := TSlotDemand.E) rfl h109))) ?_
        refine imp (opP_of (show _ = some ((AV.ept [(strA x109.Call), (intA x109.Time)] 0), []) from rfl)) ?_
        refine imp (opP_of (show _ = some ((strA x109.Call), []) from rfl)) ?_
        refine imp exStr_b ?_
        refine imp (opP_of (show _ = some ((intA (a0.length : Int)), []) from rfl)) ?_
        refine imp ex_i64_b ?_
        refine bind_b fun x110 h110 => ?_
        refine imp (callQ_says (sg20 h110)) ?_
        refine imp ex_i64_b ?_
        refine bind_b fun x111 h111 => ?_
        refine imp (opP_of (show _ = some ((AV.ept [(strA x111.Call), (intA x111.Time)] 0), []) from (idx_lst (E := TSlotDemand.E) rfl h111))) ?_
        refine imp (opP_of (show _ = some ((AV.ept [(strA x111.Call), (intA x111.Time)] 0), []) from rfl)) ?_
        refine imp (opP_of (show _ = some ((strA x111.Call), []) from rfl)) ?_
        refine imp exStr_b ?_
        refine bind_b fun x138 h138 => ?_
        refine imp (callW_D (show PureD _ _ _ _ _ _ (AV.tup [(ownV TSlot.E 166 x138.1), (intA x138.2)]) [(166, ownB TSlot.E 49 x138.1)] from mg26S h138 (snL_cons (sn_lst (E := TSlotDemand.E) _ _ false) (snL_cons (sn_own (E := TSlot.E) (ty := 49) (l' := x107.1) _ TSlot.nf rfl (by first | rfl | (simp (disch := decide) only [mpushs_nil, mpushs_cons, mget_hd, mget_tl, mget_appW_o, mget_appW_n]))) (snL_cons (sn_sc _ _) (snL_cons (sn_sc _ _) snL_nil)))))) ?_
        refine imp exT2_b ?_
        refine imp ex_i64_b ?_
        refine cond_b (fun _ => ?_) (fun _ => ?_)
        · refine imp (opP_of (show _ = some ((intA (x138.1.length : Int)), []) from len_own)) ?_
          refine imp ex_i64_b ?_
          refine cond_b (fun _ => ?_) (fun _ => ?_)
          · refine cond_b (fun _ => ?_) (fun _ => ?_)
            · exact fun hg => ret1 (hR _ (Option.some.inj hg).symm) (fz_sc _ _)
            · exact fun hg => ret1 (hR _ (Option.some.inj hg).symm) (fz_sc _ _)
          · exact fun hg => ret1 (hR _ (Option.some.inj hg).symm) (fz_sc _ _)
        · refine bind_b fun x148 h148 => ?_
          refine imp (callW_D (show PureD _ _ _ _ _ _ (AV.tup [(ownV TSlot.E 241 x148.1), (intA x148.2)]) [(241, ownB TSlot.E 49 x148.1)] from mg26S h148 (snL_cons (sn_lst (E := TSlotDemand.E) _ _ false) (snL_cons (sn_own (E := TSlot.E) (ty := 49) (l' := x138.1) _ TSlot.nf rfl (by first | rfl | (simp (disch := decide) only [mpushs_nil, mpushs_cons, mget_hd, mget_tl, mget_appW_o, mget_appW_n]))) (snL_cons (sn_sc _ _) (snL_cons (sn_sc _ _) snL_nil)))))) ?_
          refine imp exT2_b ?_
          refine imp ex_i64_b ?_
          refine bind_b fun x149 h149 => ?_
          refine imp (callW_D (show PureD _ _ _ _ _ _ (AV.tup [(ownV intE 312 x149.1), (intA x149.2)]) [(312, ownB intE 3 x149.1)] from mg27S h149 (snL_cons (sn_lst (E := TSlotDemand.E) _ _ false) (snL_cons (sn_own (E := TSlot.E) (ty := 49) (l' := x107.1) _ TSlot.nf rfl (by first | rfl | (simp (disch := decide) only [mpushs_nil, mpushs_cons, mget_hd, mget_tl, mget_appW_o, mget_appW_n]))) snL_nil)))) ?_
          refine imp exT2_b ?_
          refine imp ex_i64_b ?_
          refine bind_b fun x150 h150 => ?_
          refine imp (callW_D (show PureD _ _ _ _ _ _ (AV.tup [(ownV intE 383 x150.1), (intA x150.2)]) [(383, ownB intE 3 x150.1)] from mg27S h150 (snL_cons (sn_lst (E := TSlotDemand.E) _ _ false) (snL_cons (sn_own (E := TSlot.E) (ty := 49) (l' := x138.1) _ TSlot.nf rfl (by first | rfl | (simp (disch := decide) only [mpushs_nil, mpushs_cons, mget_hd, mget_tl, mget_appW_o, mget_appW_n]))) snL_nil)))) ?_
          refine imp exT2_b ?_
          refine imp ex_i64_b ?_
          refine imp (opP_of (show _ = some ((intA (x149.1.length : Int)), []) from len_own)) ?_
          refine imp ex_i64_b ?_
          refine imp (opP_of (show _ = some ((intA (x150.1.length : Int)), []) from len_own)) ?_
          refine imp ex_i64_b ?_
          refine imp (opP_of (show _ = some ((intA (if (x150.1.length : Int) < (x149.1.length : Int) then (x150.1.length : Int) else (x149.1.length : Int))), []) from (by kernel_rfl))) ?_
          refine imp ex_i64_b ?_
          exact fun hg => L7_0_ok n false x107.1 x148.1 x148.2 x149.1 x149.2 x150.1 x150.2 (if (x150.1.length : Int) < (x149.1.length : Int) then (x150.1.length : Int) else (x149.1.length : Int)) R  hR n _ hg (weak_mem [] rfl rfl rfl (okW_cons (.inl (leV_refl _)) (okW_cons (ent_own_frz (E := TSlot.E) (ty := 49) (l' := x107.1) rfl (by first | rfl | (simp (disch := decide) only [mpushs_nil, mpushs_cons, mget_hd, mget_tl, mget_appW_o, mget_appW_n])) rfl) (okW_cons (ent_own_frz (E := TSlot.E) (ty := 49) (l' := x148.1) rfl (by first | rfl | (simp (disch := decide) only [mpushs_nil, mpushs_cons, mget_hd, mget_tl, mget_appW_o, mget_appW_n])) rfl) (okW_cons (.inl (leV_refl _)) (okW_cons (ent_own_frz (E := intE) (ty := 3) (l' := x149.1) rfl (by first | rfl | (simp (disch := decide) only [mpushs_nil, mpushs_cons, mget_hd, mget_tl, mget_appW_o, mget_appW_n])) rfl) (okW_cons (.inl (leV_refl _)) (okW_cons (ent_own_frz (E := intE) (ty := 3) (l' := x150.1) rfl (by first | rfl | (simp (disch := decide) only [mpushs_nil, mpushs_cons, mget_hd, mget_tl, mget_appW_o, mget_appW_n])) rfl) (okW_cons (.inl (leV_refl _)) (okW_cons (.inl (leV_refl _)) (okW_cons (.inl (leV_refl _)) (okW_cons (.inl (leV_refl _)) okW_nil))))))))))) okB_nil')
theorem sg7 {n : Nat} {a0 : List TSlotDemand} {a1 : List TFlowCap} {a2 : Int} {a3 : Int} {t : ρ7} (h : g7 n a0 a1 a2 a3 = some t) : Says Try.prog KK.gl 7 [(lstA TSlotDemand.E a0), (lstA TFlowCap.E a1), (intA a2), (intA a3)] ((boolA t)) :=
  says_of_own (by first | rfl | simp [cleans, clean, encs_clean, En.cln]) (by first | rfl | simp [cleans, clean, encs_clean, En.cln]) (F7_own (lstA TSlotDemand.E a0) (lstA TFlowCap.E a1) a2 a3 _ (g7_ok n a0 a1 a2 a3 (Ans ((boolA t))) (fun r e u m h => by rw [e]; exact h) h))
/- skyway/flow.index$1 -/
theorem g47_ok (n : Nat) (a0 : TFlowCap) (a1_0 : Int) {t : ρ47} (R : AV → Mem → Prop) (hR : ∀ r : ρ47, t = r → ∀ u m, Ans ((boolA r)) u m → R u m) : g47 n a0 a1_0 = some t → F47 a0.Span_From a0.Span_To a0.Many (AV.ept [(intA a1_0)] 0) R := by
  unfold g47 F47
  refine imp (opP_of (show _ = some ((intA a1_0), []) from rfl)) ?_
  refine imp ex_i64_b ?_
  refine cond_b (fun _ => ?_) (fun _ => ?_)
  · refine imp (opP_of (show _ = some ((intA a1_0), []) from rfl)) ?_
    refine imp ex_i64_b ?_
    exact fun hg => ret1 (hR _ (Option.some.inj hg).symm) (fz_sc _ _)
  · exact fun hg => ret1 (hR _ (Option.some.inj hg).symm) (fz_sc _ _)
theorem sg47 {n : Nat} {a0 : TFlowCap} {a1_0 : Int} {t : ρ47} (h : g47 n a0 a1_0 = some t) : Says Try.prog KK.gl 47 [(AV.agg [(intA a0.Span_From), (intA a0.Span_To), (intA a0.Many)]), (AV.ept [(intA a1_0)] 0)] ((boolA t)) :=
  says_of_own (by first | rfl | simp [cleans, clean, encs_clean, En.cln]) (by first | rfl | simp [cleans, clean, encs_clean, En.cln]) (F47_own a0.Span_From a0.Span_To a0.Many (AV.ept [(intA a1_0)] 0) _ (g47_ok n a0 a1_0 (Ans ((boolA t))) (fun r e u m h => by rw [e]; exact h) h))
/- slices.IndexFunc[[]skyway/api.FlowCap,skyway/api.FlowCap] -/
theorem B40_0_x1_ok (n : Nat) (a0 : List TFlowCap) (a1_0_0 : Int) (c4 : Int) (c7 : Int) (v8 : Int) {t : (Int) ⊕ ρ40} (R : AV → Mem → Prop) (N0 : St → Prop) (hR : ∀ r : ρ40, t = (.inr r) → ∀ u m, Ans ((intA r)) u m → R u m) (hN0 : ∀ y : Int, t = (.inl y) → ∀ s' : St, Weak KK 19 0 s' (h40_0 (lstA TFlowCap.E a0) (AV.fn 47 [(AV.ept [(intA a1_0_0)] 0)]) c4 c7 y []) → N0 s') : S40_0_x1 n a0 a1_0_0 c4 c7 v8 = some t → B40_0 (lstA TFlowCap.E a0) (AV.fn 47 [(AV.ept [(intA a1_0_0)] 0)]) c4 c7 v8 [] R N0 := by
  unfold S40_0_x1 B40_0
  refine cond_b (fun _ => ?_) (fun _ => ?_)
  · refine bind_b fun x162 h162 => ?_
    refine imp (opP_of (show _ = some ((AV.ept [(intA x162.Span_From), (intA x162.Span_To), (intA x162.Many)] 0), []) from (idx_lst (E := TFlowCap.E) rfl h162))) ?_
    refine imp (opP_of (show _ = some ((AV.agg [(intA x162.Span_From), (intA x162.Span_To), (intA x162.Many)]), []) from rfl)) ?_
    refine imp exA3_b ?_
    refine imp ex_i64_b ?_
    refine imp ex_i64_b ?_
    refine imp ex_i64_b ?_
    refine bind_b fun x163 h163 => ?_
    refine imp fnArgs_b ?_
    refine imp (cond_ff rfl) ?_
    refine imp (callW_says (sg47 h163)) ?_
    refine imp exB_b ?_
    refine cond_b (fun _ => ?_) (fun _ => ?_)
    · exact fun hg => ret1 (hR _ (Option.some.inj hg).symm) (fz_sc _ _)
    · exact fun hg => hN0 _ (Option.some.inj hg).symm _ (weak_mem [] rfl rfl rfl (okW_cons (ent_lst (E := TFlowCap.E) _ false) (okW_cons (ent_clean (leV_refl _) (by simp [clean, cleans, encs_clean])) (okW_cons (.inl (leV_refl _)) (okW_cons (.inl (leV_refl _)) (okW_cons (.inl (leV_refl _)) okW_nil))))) okB_nil')
  · exact fun hg => ret1 (hR _ (Option.some.inj hg).symm) (fz_sc _ _)
theorem L40_0_x1_ok (n : Nat) (a0 : List TFlowCap) (a1_0_0 : Int) (c4 : Int) (c7 : Int) {t : ρ40} (R : AV → Mem → Prop) (hR : ∀ r : ρ40, t = r → ∀ u m, Ans ((intA r)) u m → R u m) (k : Nat) (x : Int) (hx : iterO (fun y : Int => S40_0_x1 n a0 a1_0_0 c4 c7 y) k x = some t) {s : St} (hw : Weak KK 19 0 s (h40_0 (lstA TFlowCap.E a0) (AV.fn 47 [(AV.ept [(intA a1_0_0)] 0)]) c4 c7 x [])) : Tri Try.prog KK 19 0 (.loop c40_0) s (q40_0 R ) :=
  L40_0 R  (σ := Nat × (Int)) (fun z => iterO (fun y : Int => S40_0_x1 n a0 a1_0_0 c4 c7 y) z.1 z.2 = some t) (fun z => (lstA TFlowCap.E a0)) (fun z => (AV.fn 47 [(AV.ept [(intA a1_0_0)] 0)])) (fun z => c4) (fun z => c7) (fun z => z.2) (fun z => []) (fun z => z.1) (by
    rintro ⟨k, y⟩ h
    cases k with
    | zero => exact (iterO_zero h).elim
    | succ k =>
      obtain ⟨u, h1, h2, h3⟩ := iterO_elim h
      exact B40_0_x1_ok n a0 a1_0_0 c4 c7 y R  _ (fun r e => hR r (h3 _ e).symm)  (fun y' e s' hw => ⟨(k, y'), h2 _ e, Nat.lt_succ_self k, hw⟩) h1) (k, x) hx hw
theorem g40_1_ok (n : Nat) (a0 : List TFlowCap) (a1_0_0 : Int) {t : ρ40} (R : AV → Mem → Prop) (hR : ∀ r : ρ40, t = r → ∀ u m, Ans ((intA r)) u m → R u m) : g40_1 n a0 a1_0_0 = some t → F40 (lstA TFlowCap.E a0) (AV.fn 47 [(AV.ept [(intA a1_0_0)] 0)]) R := by
  unfold g40_1 F40
  refine imp (opP_of (show _ = some ((intA (a0.length : Int)), []) from rfl)) ?_
  refine imp ex_i64_b ?_
  exact fun hg => L40_0_x1_ok n a0 a1_0_0 (0) (a0.length : Int) R  hR n _ hg (weak_mem [] rfl rfl rfl (okW_cons (ent_lst (E := TFlowCap.E) _ false) (okW_cons (ent_clean (leV_refl _) (by simp [clean, cleans, encs_clean])) (okW_cons (.inl (leV_refl _)) (okW_cons (.inl (leV_refl _)) (okW_cons (.inl (leV_refl _)) okW_nil))))) okB_nil')
theorem sg40_1 {n : Nat} {a0 : List TFlowCap} {a1_0_0 : Int} {t : ρ40} (h : g40_1 n a0 a1_0_0 = some t) : Says Try.prog KK.gl 40 [(lstA TFlowCap.E a0), (AV.fn 47 [(AV.ept [(intA a1_0_0)] 0)])] ((intA t)) :=
  says_of_own (by first | rfl | simp [cleans, clean, encs_clean, En.cln]) (by first | rfl | simp [cleans, clean, encs_clean, En.cln]) (F40_own (lstA TFlowCap.E a0) (AV.fn 47 [(AV.ept [(intA a1_0_0)] 0)]) _ (g40_1_ok n a0 a1_0_0 (Ans ((intA t))) (fun r e u m h => by rw [e]; exact h) h))
/- skyway/flow.index -/
theorem g33_ok (n : Nat) (a0 : List TFlowCap) (a1 : Int) {t : ρ33} (R : AV → Mem → Prop) (hR : ∀ r : ρ33, t = r → ∀ u m, Ans ((intA r)) u m → R u m) : g33 n a0 a1 = some t → F33 (lstA TFlowCap.E a0) a1 R := by
  unfold g33 F33
  refine bind_b fun x164 h164 => ?_
  refine imp (callQ_pure (pure_snapN (snL_cons (sn_lst (E := TFlowCap.E) _ _ false) (snL_cons (sn_fn _ _ (snL_cons (sn_ptr _ (ty := 3) (us := [(intA a1)]) (by first | rfl | (simp (disch := decide) only [mpushs_nil, mpushs_cons, mget_hd, mget_tl, mget_appW_o, mget_appW_n])) (snL_cons (sn_sc _ _) snL_nil)) snL_nil)) snL_nil)) (sg40_1 h164) rfl)) ?_
  refine imp ex_i64_b ?_
  exact fun hg => ret1 (hR _ (Option.some.inj hg).symm) (fz_sc _ _)
theorem sg33 {n : Nat} {a0 : List TFlowCap} {a1 : Int} {t : ρ33} (h : g33 n a0 a1 = some t) : Says Try.prog KK.gl 33 [(lstA TFlowCap.E a0), (intA a1)] ((intA t)) :=
  says_of_own (by first | rfl | simp [cleans, clean, encs_clean, En.cln]) (by first | rfl | simp [cleans, clean, encs_clean, En.cln]) (F33_own (lstA TFlowCap.E a0) a1 _ (g33_ok n a0 a1 (Ans ((intA t))) (fun r e u m h => by rw [e]; exact h) h))
/- skyway/flow.Demand -/
theorem B16_0_ok (n : Nat) (a0 : List TFlowCap) (c5 : Int) (a1 : List Int) (c25 : Int) (v9 : Int) (v26 : Int) (L90000 : List Int) {t : (Int × Int × List Int) ⊕ ρ16} (R : AV → Mem → Prop) (N0 : St → Prop) (hR : ∀ r : ρ16, t = (.inr r) → ∀ u m, Ans ((AV.tup [(lstA intE r.1), (intA r.2.1), (intA r.2.2)])) u m → R u m) (hN0 : ∀ y : Int × Int × List Int, t = (.inl y) → ∀ s' : St, Weak KK 52 0 s' (h16_0 (lstA TFlowCap.E a0) AV.nils c5 c5 (blkV intE 90000 y.2.2) y.1 (lstA intE a1) c25 y.2.1 [(90000, some ⟨encs intE y.2.2, 3⟩)]) → N0 s') : S16_0 n a0 c5 a1 c25 v9 v26 L90000 = some t → B16_0 (lstA TFlowCap.E a0) AV.nils c5 c5 (blkV intE 90000 L90000) v9 (lstA intE a1) c25 v26 [(90000, some ⟨encs intE L90000, 3⟩)] R N0 := by
  unfold S16_0 B16_0
  refine cond_b (fun _ => ?_) (fun _ => ?_)
  · refine bind_b fun x161 h161 => ?_
    refine imp (opP_of (show _ = some ((AV.ept [(intA x161)] 0), []) from (idx_lst (E := intE) rfl h161))) ?_
    refine imp (opP_of (show _ = some ((intA x161), []) from rfl)) ?_
    refine imp ex_i64_b ?_
    refine cond_b (fun _ => ?_) (fun _ => ?_)
    · exact fun hg => retN rfl (hR _ (Option.some.inj hg).symm) (fzL_cons (fz_nils (E := intE) _) (fzL_cons (fz_sc _ _) (fzL_cons (fz_sc _ _) fzL_nil)))
    · refine cond_b (fun _ => ?_) (fun _ => ?_)
      · exact fun hg => retN rfl (hR _ (Option.some.inj hg).symm) (fzL_cons (fz_nils (E := intE) _) (fzL_cons (fz_sc _ _) (fzL_cons (fz_sc _ _) fzL_nil)))
      · refine bind_b fun x165 h165 => ?_
        refine imp (callQ_says (sg33 h165)) ?_
        refine imp ex_i64_b ?_
        refine cond_b (fun _ => ?_) (fun _ => ?_)
        · refine bind_b fun x166 h166 => ?_
          refine imp (opP_of (show _ = some ((AV.ptr 90000 (((x165 : Int).toNat) * 1 + 0)), []) from (idx_blk (E := intE) rfl h166))) ?_
          refine imp (opP_of (show _ = some ((intA x166), []) from (ldS_blk (E := intE) (l := L90000) (ty := 3) (o := 0) (by first | rfl | (simp (disch := decide) only [mpushs_nil, mpushs_cons, mget_hd, mget_tl, mget_appW_o, mget_appW_n])) (getI_some h166).2 rfl (by decide) rfl))) ?_
          refine imp ex_i64_b ?_
          refine bind_b fun x167 h167 => ?_
          refine imp (opP_of (show _ = some ((AV.ptr 90000 (((x165 : Int).toNat) * 1 + 0)), []) from (idx_blk (E := intE) rfl h167))) ?_
          refine imp (storeW_el (E := intE) (l := L90000) (i := ((x165 : Int).toNat)) (o := 0) (y := (IntKind.wrap .i64 (x166 + (1)))) (ty := 3) (by kernel_rfl) (by kernel_rfl) rfl (by first | rfl | (simp (disch := decide) only [mpushs_nil, mpushs_cons, mget_hd, mget_tl, mget_appW_o, mget_appW_n])) (getI_some h167).2 rfl (by decide) rfl) ?_
          exact fun hg => hN0 _ (Option.some.inj hg).symm _ (weak_mem [(90000, 90000)] rfl rfl rfl (okW_cons (ent_lst (E := TFlowCap.E) _ false) (okW_cons (.inl (leV_refl _)) (okW_cons (.inl (leV_refl _)) (okW_cons (.inl (leV_refl _)) (okW_cons (ent_blk (E := intE) (id := 90000) (l' := (L90000.set ((x165 : Int).toNat) (IntKind.wrap .i64 (x166 + (1))))) (by first | rfl | omega | (simp; done) | (simp; omega)) rfl) (okW_cons (.inl (leV_refl _)) (okW_cons (ent_lst (E := intE) _ false) (okW_cons (.inl (leV_refl _)) (okW_cons (.inl (leV_refl _)) okW_nil))))))))) (okB_cons (okB_cells (cs := encs intE (L90000.set ((x165 : Int).toNat) (IntKind.wrap .i64 (x166 + (1))))) (ty := 3) (encs_clean _) (show mget _ 90000 = _ from (by first | rfl | (simp (disch := decide) only [mpushs_nil, mpushs_cons, mget_hd, mget_tl, mget_appW_o, mget_appW_n])))) okB_nil'))
        · exact fun hg => hN0 _ (Option.some.inj hg).symm _ (weak_mem [(90000, 90000)] rfl rfl rfl (okW_cons (ent_lst (E := TFlowCap.E) _ false) (okW_cons (.inl (leV_refl _)) (okW_cons (.inl (leV_refl _)) (okW_cons (.inl (leV_refl _)) (okW_cons (ent_blk (E := intE) (id := 90000) (l' := L90000) rfl rfl) (okW_cons (.inl (leV_refl _)) (okW_cons (ent_lst (E := intE) _ false) (okW_cons (.inl (leV_refl _)) (okW_cons (.inl (leV_refl _)) okW_nil))))))))) (okB_cons (okB_cells (cs := encs intE L90000) (ty := 3) (encs_clean _) (show mget _ 90000 = _ from (by first | rfl | (simp (disch := decide) only [mpushs_nil, mpushs_cons, mget_hd, mget_tl, mget_appW_o, mget_appW_n])))) okB_nil'))
  · exact fun hg => retN rfl (hR _ (Option.some.inj hg).symm) (fzL_cons (fz_blk (E := intE) (ty := 3) (l' := L90000) _ rfl (by first | rfl | (simp (disch := decide) only [mpushs_nil, mpushs_cons, mget_hd, mget_tl, mget_appW_o, mget_appW_n]))) (fzL_cons (fz_sc _ _) (fzL_cons (fz_sc _ _) fzL_nil)))
theorem L16_0_ok (n : Nat) (a0 : List TFlowCap) (c5 : Int) (a1 : List Int) (c25 : Int) {t : ρ16} (R : AV → Mem → Prop) (hR : ∀ r : ρ16, t = r → ∀ u m, Ans ((AV.tup [(lstA intE r.1), (intA r.2.1), (intA r.2.2)])) u m → R u m) (k : Nat) (x : Int × Int × List Int) (hx : iterO (fun y : Int × Int × List Int => S16_0 n a0 c5 a1 c25 y.1 y.2.1 y.2.2) k x = some t) {s : St} (hw : Weak KK 52 0 s (h16_0 (lstA TFlowCap.E a0) AV.nils c5 c5 (blkV intE 90000 x.2.2) x.1 (lstA intE a1) c25 x.2.1 [(90000, some ⟨encs intE x.2.2, 3⟩)])) : Tri Try.prog KK 52 0 (.loop c16_0) s (q16_0 R ) :=
  L16_0 R  (σ := Nat × (Int × Int × List Int)) (fun z => iterO (fun y : Int × Int × List Int => S16_0 n a0 c5 a1 c25 y.1 y.2.1 y.2.2) z.1 z.2 = some t) (fun z => (lstA TFlowCap.E a0)) (fun z => AV.nils) (fun z => c5) (fun z => c5) (fun z => (blkV intE 90000 z.2.2.2)) (fun z => z.2.1) (fun z => (lstA intE a1)) (fun z => c25) (fun z => z.2.2.1) (fun z => [(90000, some ⟨encs intE z.2.2.2, 3⟩)]) (fun z => z.1) (by
    rintro ⟨k, y⟩ h
    cases k with
    | zero => exact (iterO_zero h).elim
    | succ k =>
      obtain ⟨u, h1, h2, h3⟩ := iterO_elim h
      exact B16_0_ok n a0 c5 a1 c25 y.1 y.2.1 y.2.2 R  _ (fun r e => hR r (h3 _ e).symm)  (fun y' e s' hw => ⟨(k, y'), h2 _ e, Nat.lt_succ_self k, hw⟩) h1) (k, x) hx hw
theorem g16_ok (n : Nat) (a0 : List TFlowCap) (a1 : List Int) {t : ρ16} (R : AV → Mem → Prop) (hR : ∀ r : ρ16, t = r → ∀ u m, Ans ((AV.tup [(lstA intE r.1), (intA r.2.1), (intA r.2.2)])) u m → R u m) : g16 n a0 a1 = some t → F16 (lstA TFlowCap.E a0) (lstA intE a1) R := by
  unfold g16 F16
  refine bind_b fun x159 h159 => ?_
  refine imp (callQ_says (sg10 h159)) ?_
  refine imp ex_i64_b ?_
  refine cond_b (fun _ => ?_) (fun _ => ?_)
  · exact fun hg => retN rfl (hR _ (Option.some.inj hg).symm) (fzL_cons (fz_nils (E := intE) _) (fzL_cons (fz_sc _ _) (fzL_cons (fz_sc _ _) fzL_nil)))
  · refine imp (opP_of (show _ = some ((intA (a1.length : Int)), []) from rfl)) ?_
    refine imp ex_i64_b ?_
    refine cond_b (fun _ => ?_) (fun _ => ?_)
    · exact fun hg => retN rfl (hR _ (Option.some.inj hg).symm) (fzL_cons (fz_nils (E := intE) _) (fzL_cons (fz_sc _ _) (fzL_cons (fz_sc _ _) fzL_nil)))
    · refine imp (opP_of (show _ = some ((intA (a0.length : Int)), []) from rfl)) ?_
      refine imp ex_i64_b ?_
      refine bind_b fun x160 h160 => ?_
      refine imp (opN_of (show _ = some ((blkV intE 76 (List.replicate x160 (0))), [(76, some ⟨encs intE (List.replicate x160 (0)), 3⟩)]) from (mks_ok (E := intE) (z := (0)) rfl rfl h160))) ?_
      refine imp (opP_of (show _ = some ((intA (a1.length : Int)), []) from rfl)) ?_
      refine imp ex_i64_b ?_
      exact fun hg => L16_0_ok n a0 (0) a1 (a1.length : Int) R  hR n _ hg (weak_mem [(90000, 76)] rfl rfl rfl (okW_cons (ent_lst (E := TFlowCap.E) _ false) (okW_cons (.inl (leV_refl _)) (okW_cons (.inl (leV_refl _)) (okW_cons (.inl (leV_refl _)) (okW_cons (ent_blk (E := intE) (id := 76) (l' := (List.replicate x160 (0))) rfl rfl) (okW_cons (.inl (leV_refl _)) (okW_cons (ent_lst (E := intE) _ false) (okW_cons (.inl (leV_refl _)) (okW_cons (.inl (leV_refl _)) okW_nil))))))))) (okB_cons (okB_cells (cs := encs intE (List.replicate x160 (0))) (ty := 3) (encs_clean _) (show mget _ 76 = _ from (by first | rfl | (simp (disch := decide) only [mpushs_nil, mpushs_cons, mget_hd, mget_tl, mget_appW_o, mget_appW_n])))) okB_nil'))
theorem sg16 {n : Nat} {a0 : List TFlowCap} {a1 : List Int} {t : ρ16} (h : g16 n a0 a1 = some t) : Says Try.prog KK.gl 16 [(lstA TFlowCap.E a0), (lstA intE a1)] ((AV.tup [(lstA intE t.1), (intA t.2.1), (intA t.2.2)])) :=
  says_of_own (by first | rfl | simp [cleans, clean, encs_clean, En.cln]) (by first | rfl | simp [cleans, clean, encs_clean, En.cln]) (F16_own (lstA TFlowCap.E a0) (lstA intE a1) _ (g16_ok n a0 a1 (Ans ((AV.tup [(lstA intE t.1), (intA t.2.1), (intA t.2.2)]))) (fun r e u m h => by rw [e]; exact h) h))
/- skyway/flow.Demand -/
theorem B16_0_okM (n : Nat) (a0 : List TFlowCap) (c5 : Int) (a1 : List Int) (c25 : Int) (v9 : Int) (v26 : Int) (L90000 : List Int) {t : (Int × Int × List Int) ⊕ ρ16} (R : AV → Mem → Prop) (N0 : St → Prop) (hR : ∀ r : ρ16, t = (.inr r) → ∀ u m, MadeT intE 3 r.1 [Value.int .i64 r.2.1, Value.int .i64 r.2.2] u m → R u m) (hN0 : ∀ y : Int × Int × List Int, t = (.inl y) → ∀ s' : St, Weak KK 52 0 s' (h16_0 (lstA TFlowCap.E a0) AV.nils c5 c5 (blkV intE 90000 y.2.2) y.1 (lstA intE a1) c25 y.2.1 [(90000, some ⟨encs intE y.2.2, 3⟩)]) → N0 s') : S16_0 n a0 c5 a1 c25 v9 v26 L90000 = some t → B16_0 (lstA TFlowCap.E a0) AV.nils c5 c5 (blkV intE 90000 L90000) v9 (lstA intE a1) c25 v26 [(90000, some ⟨encs intE L90000, 3⟩)] R N0 := by
  unfold S16_0 B16_0
  refine cond_b (fun _ => ?_) (fun _ => ?_)
  · refine bind_b fun x171 h171 => ?_
    refine imp (opP_of (show _ = some ((AV.ept [(intA x171)] 0), []) from (idx_lst (E := intE) rfl h171))) ?_
    refine imp (opP_of (show _ = some ((intA x171), []) from rfl)) ?_
    refine imp ex_i64_b ?_
    refine cond_b (fun _ => ?_) (fun _ => ?_)
    · exact fun hg => hR _ (Option.some.inj hg).symm _ _ ⟨_, rfl, made_nils_pf⟩
    · refine cond_b (fun _ => ?_) (fun _ => ?_)
      · exact fun hg => hR _ (Option.some.inj hg).symm _ _ ⟨_, rfl, made_nils_pf⟩
      · refine bind_b fun x172 h172 => ?_
        refine imp (callQ_says (sg33 h172)) ?_
        refine imp ex_i64_b ?_
        refine cond_b (fun _ => ?_) (fun _ => ?_)
        · refine bind_b fun x173 h173 => ?_
          refine imp (opP_of (show _ = some ((AV.ptr 90000 (((x172 : Int).toNat) * 1 + 0)), []) from (idx_blk (E := intE) rfl h173))) ?_
          refine imp (opP_of (show _ = some ((intA x173), []) from (ldS_blk (E := intE) (l := L90000) (ty := 3) (o := 0) (by first | rfl | (simp (disch := decide) only [mpushs_nil, mpushs_cons, mget_hd, mget_tl, mget_appW_o, mget_appW_n])) (getI_some h173).2 rfl (by decide) rfl))) ?_
          refine imp ex_i64_b ?_
          refine bind_b fun x174 h174 => ?_
          refine imp (opP_of (show _ = some ((AV.ptr 90000 (((x172 : Int).toNat) * 1 + 0)), []) from (idx_blk (E := intE) rfl h174))) ?_
          refine imp (storeW_el (E := intE) (l := L90000) (i := ((x172 : Int).toNat)) (o := 0) (y := (IntKind.wrap .i64 (x173 + (1)))) (ty := 3) (by kernel_rfl) (by kernel_rfl) rfl (by first | rfl | (simp (disch := decide) only [mpushs_nil, mpushs_cons, mget_hd, mget_tl, mget_appW_o, mget_appW_n])) (getI_some h174).2 rfl (by decide) rfl) ?_
          exact fun hg => hN0 _ (Option.some.inj hg).symm _ (weak_mem [(90000, 90000)] rfl rfl rfl (okW_cons (ent_lst (E := TFlowCap.E) _ false) (okW_cons (.inl (leV_refl _)) (okW_cons (.inl (leV_refl _)) (okW_cons (.inl (leV_refl _)) (okW_cons (ent_blk (E := intE) (id := 90000) (l' := (L90000.set ((x172 : Int).toNat) (IntKind.wrap .i64 (x173 + (1))))) (by first | rfl | omega | (simp; done) | (simp; omega)) rfl) (okW_cons (.inl (leV_refl _)) (okW_cons (ent_lst (E := intE) _ false) (okW_cons (.inl (leV_refl _)) (okW_cons (.inl (leV_refl _)) okW_nil))))))))) (okB_cons (okB_cells (cs := encs intE (L90000.set ((x172 : Int).toNat) (IntKind.wrap .i64 (x173 + (1))))) (ty := 3) (encs_clean _) (show mget _ 90000 = _ from (by first | rfl | (simp (disch := decide) only [mpushs_nil, mpushs_cons, mget_hd, mget_tl, mget_appW_o, mget_appW_n])))) okB_nil'))
        · exact fun hg => hN0 _ (Option.some.inj hg).symm _ (weak_mem [(90000, 90000)] rfl rfl rfl (okW_cons (ent_lst (E := TFlowCap.E) _ false) (okW_cons (.inl (leV_refl _)) (okW_cons (.inl (leV_refl _)) (okW_cons (.inl (leV_refl _)) (okW_cons (ent_blk (E := intE) (id := 90000) (l' := L90000) rfl rfl) (okW_cons (.inl (leV_refl _)) (okW_cons (ent_lst (E := intE) _ false) (okW_cons (.inl (leV_refl _)) (okW_cons (.inl (leV_refl _)) okW_nil))))))))) (okB_cons (okB_cells (cs := encs intE L90000) (ty := 3) (encs_clean _) (show mget _ 90000 = _ from (by first | rfl | (simp (disch := decide) only [mpushs_nil, mpushs_cons, mget_hd, mget_tl, mget_appW_o, mget_appW_n])))) okB_nil'))
  · exact fun hg => hR _ (Option.some.inj hg).symm _ _ ⟨_, rfl, (made_blk_pf (E := intE) (ty := 3) (l := L90000) rfl (by first | rfl | (simp (disch := decide) only [mpushs_nil, mpushs_cons, mget_hd, mget_tl, mget_appW_o, mget_appW_n])))⟩
theorem L16_0_okM (n : Nat) (a0 : List TFlowCap) (c5 : Int) (a1 : List Int) (c25 : Int) {t : ρ16} (R : AV → Mem → Prop) (hR : ∀ r : ρ16, t = r → ∀ u m, MadeT intE 3 r.1 [Value.int .i64 r.2.1, Value.int .i64 r.2.2] u m → R u m) (k : Nat) (x : Int × Int × List Int) (hx : iterO (fun y : Int × Int × List Int => S16_0 n a0 c5 a1 c25 y.1 y.2.1 y.2.2) k x = some t) {s : St} (hw : Weak KK 52 0 s (h16_0 (lstA TFlowCap.E a0) AV.nils c5 c5 (blkV intE 90000 x.2.2) x.1 (lstA intE a1) c25 x.2.1 [(90000, some ⟨encs intE x.2.2, 3⟩)])) : Tri Try.prog KK 52 0 (.loop c16_0) s (q16_0 R ) :=
  L16_0 R  (σ := Nat × (Int × Int × List Int)) (fun z => iterO (fun y : Int × Int × List Int => S16_0 n a0 c5 a1 c25 y.1 y.2.1 y.2.2) z.1 z.2 = some t) (fun z => (lstA TFlowCap.E a0)) (fun z => AV.nils) (fun z => c5) (fun z => c5) (fun z => (blkV intE 90000 z.2.2.2)) (fun z => z.2.1) (fun z => (lstA intE a1)) (fun z => c25) (fun z => z.2.2.1) (fun z => [(90000, some ⟨encs intE z.2.2.2, 3⟩)]) (fun z => z.1) (by
    rintro ⟨k, y⟩ h
    cases k with
    | zero => exact (iterO_zero h).elim
    | succ k =>
      obtain ⟨u, h1, h2, h3⟩ := iterO_elim h
      exact B16_0_okM n a0 c5 a1 c25 y.1 y.2.1 y.2.2 R  _ (fun r e => hR r (h3 _ e).symm)  (fun y' e s' hw => ⟨(k, y'), h2 _ e, Nat.lt_succ_self k, hw⟩) h1) (k, x) hx hw
theorem g16_okM (n : Nat) (a0 : List TFlowCap) (a1 : List Int) {t : ρ16} (R : AV → Mem → Prop) (hR : ∀ r : ρ16, t = r → ∀ u m, MadeT intE 3 r.1 [Value.int .i64 r.2.1, Value.int .i64 r.2.2] u m → R u m) : g16 n a0 a1 = some t → F16 (lstA TFlowCap.E a0) (lstA intE a1) R := by
  unfold g16 F16
  refine bind_b fun x169 h169 => ?_
  refine imp (callQ_says (sg10 h169)) ?_
  refine imp ex_i64_b ?_
  refine cond_b (fun _ => ?_) (fun _ => ?_)
  · exact fun hg => hR _ (Option.some.inj hg).symm _ _ ⟨_, rfl, made_nils_pf⟩
  · refine imp (opP_of (show _ = some ((intA (a1.length : Int)), []) from rfl)) ?_
    refine imp ex_i64_b ?_
    refine cond_b (fun _ => ?_) (fun _ => ?_)
    · exact fun hg => hR _ (Option.some.inj hg).symm _ _ ⟨_, rfl, made_nils_pf⟩
    · refine imp (opP_of (show _ = some ((intA (a0.length : Int)), []) from rfl)) ?_
      refine imp ex_i64_b ?_
      refine bind_b fun x170 h170 => ?_
      refine imp (opN_of (show _ = some ((blkV intE 76 (List.replicate x170 (0))), [(76, some ⟨encs intE (List.replicate x170 (0)), 3⟩)]) from (mks_ok (E := intE) (z := (0)) rfl rfl h170))) ?_
      refine imp (opP_of (show _ = some ((intA (a1.length : Int)), []) from rfl)) ?_
      refine imp ex_i64_b ?_
      exact fun hg => L16_0_okM n a0 (0) a1 (a1.length : Int) R  hR n _ hg (weak_mem [(90000, 76)] rfl rfl rfl (okW_cons (ent_lst (E := TFlowCap.E) _ false) (okW_cons (.inl (leV_refl _)) (okW_cons (.inl (leV_refl _)) (okW_cons (.inl (leV_refl _)) (okW_cons (ent_blk (E := intE) (id := 76) (l' := (List.replicate x170 (0))) rfl rfl) (okW_cons (.inl (leV_refl _)) (okW_cons (ent_lst (E := intE) _ false) (okW_cons (.inl (leV_refl _)) (okW_cons (.inl (leV_refl _)) okW_nil))))))))) (okB_cons (okB_cells (cs := encs intE (List.replicate x170 (0))) (ty := 3) (encs_clean _) (show mget _ 76 = _ from (by first | rfl | (simp (disch := decide) only [mpushs_nil, mpushs_cons, mget_hd, mget_tl, mget_appW_o, mget_appW_n])))) okB_nil'))
theorem mg16C {n k : Nat} {look : Nat → Option ABlk} {a0 : List TFlowCap} {a1 : List Int} {t : ρ16} (h : g16 n a0 a1 = some t) : PureD Try.prog KK.gl look k 16 [(lstA TFlowCap.E a0), (lstA intE a1)] (.tup (ownV intE k t.1 :: ([Value.int .i64 t.2.1, Value.int .i64 t.2.2] : List Value).map AV.sc)) [(k, ownB intE 3 t.1)] :=
  made_tupC (by first | rfl | simp [cleans, clean, encs_clean, En.cln]) (F16_own (lstA TFlowCap.E a0) (lstA intE a1) _ (g16_okM n a0 a1 (MadeT intE 3 t.1 [Value.int .i64 t.2.1, Value.int .i64 t.2.2]) (fun r e u m h => by rw [e]; exact h) h))
theorem mg16S {n k : Nat} {look : Nat → Option ABlk} {args : List AV} {a0 : List TFlowCap} {a1 : List Int} {t : ρ16} (h : g16 n a0 a1 = some t) (hs : SnL look 6 args [(lstA TFlowCap.E a0), (lstA intE a1)]) : PureD Try.prog KK.gl look k 16 args (.tup (ownV intE k t.1 :: ([Value.int .i64 t.2.1, Value.int .i64 t.2.2] : List Value).map AV.sc)) [(k, ownB intE 3 t.1)] :=
  made_tupS (fun _ => rfl) hs (F16_own (lstA TFlowCap.E a0) (lstA intE a1) _ (g16_okM n a0 a1 (MadeT intE 3 t.1 [Value.int .i64 t.2.1, Value.int .i64 t.2.2]) (fun r e u m h => by rw [e]; exact h) h))
/- skyway/flow.Over -/
theorem B12_0_ok (n : Nat) (c5 : Int) (c6 : List Int) (a0 : List TFlowCap) (c23 : Int) (v24 : Int) (L90000 : List Int) {t : (Int × List Int) ⊕ ρ12} (R : AV → Mem → Prop) (N0 : St → Prop) (hR : ∀ r : ρ12, t = (.inr r) → ∀ u m, Ans ((AV.tup [(lstA intE r.1), (intA r.2)])) u m → R u m) (hN0 : ∀ y : Int × List Int, t = (.inl y) → ∀ s' : St, Weak KK 42 0 s' (h12_0 AV.nils c5 (lstA intE c6) (ownV intE 90000 y.2) (lstA TFlowCap.E a0) c23 y.1 [(90000, ownB intE 3 y.2)]) → N0 s') : S12_0 n c5 c6 a0 c23 v24 L90000 = some t → B12_0 AV.nils c5 (lstA intE c6) (ownV intE 90000 L90000) (lstA TFlowCap.E a0) c23 v24 [(90000, ownB intE 3 L90000)] R N0 := by
  unfold S12_0 B12_0
  refine cond_b (fun _ => ?_) (fun _ => ?_)
  · refine bind_b fun x175 h175 => ?_
    refine imp (opP_of (show _ = some ((AV.ept [(intA x175.Span_From), (intA x175.Span_To), (intA x175.Many)] 0), []) from (idx_lst (E := TFlowCap.E) rfl h175))) ?_
    refine imp (opP_of (show _ = some ((AV.agg [(intA x175.Span_From), (intA x175.Span_To), (intA x175.Many)]), []) from rfl)) ?_
    refine imp exA3_b ?_
    refine imp ex_i64_b ?_
    refine imp ex_i64_b ?_
    refine imp ex_i64_b ?_
    refine bind_b fun x176 h176 => ?_
    refine imp (opP_of (show _ = some ((AV.ept [(intA x176)] 0), []) from (idx_lst (E := intE) rfl h176))) ?_
    refine imp (opP_of (show _ = some ((intA x176), []) from rfl)) ?_
    refine imp ex_i64_b ?_
    refine cond_b (fun _ => ?_) (fun _ => ?_)
    · refine imp (opN_of (show _ = some ((blkV intE 100016 ([v24] : List Int)), [(100016, some ⟨encs intE ([v24] : List Int), 3⟩)]) from rfl)) ?_
      refine bind_b fun x177 h177 => ?_
      refine imp (opN_of (show _ = some ((ownV intE 100017 (L90000 ++ ([v24] : List Int))), (appW intE 100017 90000 3 L90000 ([v24] : List Int))) from (app_own (E := intE) (l' := L90000) (xs := ([v24] : List Int)) rfl rfl (cellsOf_blk (E := intE) (ty := 3) rfl rfl (by first | rfl | (simp (disch := decide) only [mpushs_nil, mpushs_cons, mget_hd, mget_tl, mget_appW_o, mget_appW_n]))) (by simp) rfl (fun hne => Eq.trans (by first | rfl | (simp (disch := decide) only [mpushs_nil, mpushs_cons, mget_hd, mget_tl, mget_appW_o, mget_appW_n])) (ownB_ne hne)) h177))) ?_
      exact fun hg => hN0 _ (Option.some.inj hg).symm _ (weak_mem [(90000, 100017)] rfl rfl rfl (okW_cons (.inl (leV_refl _)) (okW_cons (.inl (leV_refl _)) (okW_cons (ent_lst (E := intE) _ false) (okW_cons (ent_own (E := intE) (id := 100017) (l' := (L90000 ++ ([v24] : List Int))) rfl rfl) (okW_cons (ent_lst (E := TFlowCap.E) _ false) (okW_cons (.inl (leV_refl _)) (okW_cons (.inl (leV_refl _)) okW_nil))))))) (okB_cons (okB_own (E := intE) (ty := 3) (l' := (L90000 ++ ([v24] : List Int))) rfl (show mget _ 100017 = _ from (by first | rfl | (simp (disch := decide) only [mpushs_nil, mpushs_cons, mget_hd, mget_tl, mget_appW_o, mget_appW_n])))) okB_nil'))
    · exact fun hg => hN0 _ (Option.some.inj hg).symm _ (weak_mem [(90000, 90000)] rfl rfl rfl (okW_cons (.inl (leV_refl _)) (okW_cons (.inl (leV_refl _)) (okW_cons (ent_lst (E := intE) _ false) (okW_cons (ent_own (E := intE) (id := 90000) (l' := L90000) rfl rfl) (okW_cons (ent_lst (E := TFlowCap.E) _ false) (okW_cons (.inl (leV_refl _)) (okW_cons (.inl (leV_refl _)) okW_nil))))))) (okB_cons (okB_own (E := intE) (ty := 3) (l' := L90000) rfl (show mget _ 90000 = _ from (by first | rfl | (simp (disch := decide) only [mpushs_nil, mpushs_cons, mget_hd, mget_tl, mget_appW_o, mget_appW_n])))) okB_nil'))
  · exact fun hg => retN rfl (hR _ (Option.some.inj hg).symm) (fzL_cons (fz_own (E := intE) (ty := 3) (l' := L90000) _ rfl (by first | rfl | (simp (disch := decide) only [mpushs_nil, mpushs_cons, mget_hd, mget_tl, mget_appW_o, mget_appW_n]))) (fzL_cons (fz_sc _ _) fzL_nil))
theorem L12_0_ok (n : Nat) (c5 : Int) (c6 : List Int) (a0 : List TFlowCap) (c23 : Int) {t : ρ12} (R : AV → Mem → Prop) (hR : ∀ r : ρ12, t = r → ∀ u m, Ans ((AV.tup [(lstA intE r.1), (intA r.2)])) u m → R u m) (k : Nat) (x : Int × List Int) (hx : iterO (fun y : Int × List Int => S12_0 n c5 c6 a0 c23 y.1 y.2) k x = some t) {s : St} (hw : Weak KK 42 0 s (h12_0 AV.nils c5 (lstA intE c6) (ownV intE 90000 x.2) (lstA TFlowCap.E a0) c23 x.1 [(90000, ownB intE 3 x.2)])) : Tri Try.prog KK 42 0 (.loop c12_0) s (q12_0 R ) :=
  L12_0 R  (σ := Nat × (Int × List Int)) (fun z => iterO (fun y : Int × List Int => S12_0 n c5 c6 a0 c23 y.1 y.2) z.1 z.2 = some t) (fun z => AV.nils) (fun z => c5) (fun z => (lstA intE c6)) (fun z => (ownV intE 90000 z.2.2)) (fun z => (lstA TFlowCap.E a0)) (fun z => c23) (fun z => z.2.1) (fun z => [(90000, ownB intE 3 z.2.2)]) (fun z => z.1) (by
    rintro ⟨k, y⟩ h
    cases k with
    | zero => exact (iterO_zero h).elim
    | succ k =>
      obtain ⟨u, h1, h2, h3⟩ := iterO_elim h
      exact B12_0_ok n c5 c6 a0 c23 y.1 y.2 R  _ (fun r e => hR r (h3 _ e).symm)  (fun y' e s' hw => ⟨(k, y'), h2 _ e, Nat.lt_succ_self k, hw⟩) h1) (k, x) hx hw
theorem g12_ok (n : Nat) (a0 : List TFlowCap) (a1 : List Int) {t : ρ12} (R : AV → Mem → Prop) (hR : ∀ r : ρ12, t = r → ∀ u m, Ans ((AV.tup [(lstA intE r.1), (intA r.2)])) u m → R u m) : g12 n a0 a1 = some t → F12 (lstA TFlowCap.E a0) (lstA intE a1) R := by
  unfold g12 F12
  refine bind_b fun x168 h168 => ?_
  refine imp (callW_D (show PureD _ _ _ _ _ _ (AV.tup [(ownV intE 4 x168.1), (intA x168.2.1), (intA x168.2.2)]) [(4, ownB intE 3 x168.1)] from mg16C h168)) ?_
  refine imp exT3_b ?_
  refine imp ex_i64_b ?_
  refine imp ex_i64_b ?_
  refine cond_b (fun _ => ?_) (fun _ => ?_)
  · exact fun hg => retN rfl (hR _ (Option.some.inj hg).symm) (fzL_cons (fz_nils (E := intE) _) (fzL_cons (fz_sc _ _) fzL_nil))
  · refine imp (opP_of (show _ = some ((intA (a0.length : Int)), []) from rfl)) ?_
    refine imp ex_i64_b ?_
    exact fun hg => L12_0_ok n (0) x168.1 a0 (a0.length : Int) R  hR n _ hg (weak_mem [(90000, 89500)] rfl rfl rfl (okW_cons (.inl (leV_refl _)) (okW_cons (.inl (leV_refl _)) (okW_cons (ent_own_frz (E := intE) (ty := 3) (l' := x168.1) rfl (by first | rfl | (simp (disch := decide) only [mpushs_nil, mpushs_cons, mget_hd, mget_tl, mget_appW_o, mget_appW_n])) rfl) (okW_cons ent_nils_own (okW_cons (ent_lst (E := TFlowCap.E) _ false) (okW_cons (.inl (leV_refl _)) (okW_cons (.inl (leV_refl _)) okW_nil))))))) (okB_cons okB_nil okB_nil'))
theorem sg12 {n : Nat} {a0 : List TFlowCap} {a1 : List Int} {t : ρ12} (h : g12 n a0 a1 = some t) : Says Try.prog KK.gl 12 [(lstA TFlowCap.E a0), (lstA intE a1)] ((AV.tup [(lstA intE t.1), (intA t.2)])) :=
  says_of_own (by first | rfl | simp [cleans, clean, encs_clean, En.cln]) (by first | rfl | simp [cleans, clean, encs_clean, En.cln]) (F12_own (lstA TFlowCap.E a0) (lstA intE a1) _ (g12_ok n a0 a1 (Ans ((AV.tup [(lstA intE t.1), (intA t.2)]))) (fun r e u m h => by rw [e]; exact h) h))
/- skyway/flow.Over -/
theorem B12_0_okM (n : Nat) (c5 : Int) (c6 : List Int) (a0 : List TFlowCap) (c23 : Int) (v24 : Int) (L90000 : List Int) {t : (Int × List Int) ⊕ ρ12} (R : AV → Mem → Prop) (N0 : St → Prop) (hR : ∀ r : ρ12, t = (.inr r) → ∀ u m, MadeT intE 3 r.1 [Value.int .i64 r.2] u m → R u m) (hN0 : ∀ y : Int × List Int, t = (.inl y) → ∀ s' : St, Weak KK 42 0 s' (h12_0 AV.nils c5 (lstA intE c6) (ownV intE 90000 y.2) (lstA TFlowCap.E a0) c23 y.1 [(90000, ownB intE 3 y.2)]) → N0 s') : S12_0 n c5 c6 a0 c23 v24 L90000 = some t → B12_0 AV.nils c5 (lstA intE c6) (ownV intE 90000 L90000) (lstA TFlowCap.E a0) c23 v24 [(90000, ownB intE 3 L90000)] R N0 := by
  unfold S12_0 B12_0
  refine cond_b (fun _ => ?_) (fun _ => ?_)
  · refine bind_b fun x180 h180 => ?_
    refine imp (opP_of (show _ = some ((AV.ept [(intA x180.Span_From), (intA x180.Span_To), (intA x180.Many)] 0), []) from (idx_lst (E := TFlowCap.E) rfl h180))) ?_
    refine imp (opP_of (show _ = some ((AV.agg [(intA x180.Span_From), (intA x180.Span_To), (intA x180.Many)]), []) from rfl)) ?_
    refine imp exA3_b ?_
    refine imp ex_i64_b ?_
    refine imp ex_i64_b ?_
    refine imp ex_i64_b ?_
    refine bind_b fun x181 h181 => ?_
    refine imp (opP_of (show _ = some ((AV.ept [(intA x181)] 0), []) from (idx_lst (E := intE) rfl h181))) ?_
    refine imp (opP_of (show _ = some ((intA x181), []) from rfl)) ?_
    refine imp ex_i64_b ?_
    refine cond_b (fun _ => ?_) (fun _ => ?_)
    · refine imp (opN_of (show _ = some ((blkV intE 100016 ([v24] : List Int)), [(100016, some ⟨encs intE ([v24] : List Int), 3⟩)]) from rfl)) ?_
      refine bind_b fun x182 h182 => ?_
      refine imp (opN_of (show _ = some ((ownV intE 100017 (L90000 ++ ([v24] : List Int))), (appW intE 100017 90000 3 L90000 ([v24] : List Int))) from (app_own (E := intE) (l' := L90000) (xs := ([v24] : List Int)) rfl rfl (cellsOf_blk (E := intE) (ty := 3) rfl rfl (by first | rfl | (simp (disch := decide) only [mpushs_nil, mpushs_cons, mget_hd, mget_tl, mget_appW_o, mget_appW_n]))) (by simp) rfl (fun hne => Eq.trans (by first | rfl | (simp (disch := decide) only [mpushs_nil, mpushs_cons, mget_hd, mget_tl, mget_appW_o, mget_appW_n])) (ownB_ne hne)) h182))) ?_
      exact fun hg => hN0 _ (Option.some.inj hg).symm _ (weak_mem [(90000, 100017)] rfl rfl rfl (okW_cons (.inl (leV_refl _)) (okW_cons (.inl (leV_refl _)) (okW_cons (ent_lst (E := intE) _ false) (okW_cons (ent_own (E := intE) (id := 100017) (l' := (L90000 ++ ([v24] : List Int))) rfl rfl) (okW_cons (ent_lst (E := TFlowCap.E) _ false) (okW_cons (.inl (leV_refl _)) (okW_cons (.inl (leV_refl _)) okW_nil))))))) (okB_cons (okB_own (E := intE) (ty := 3) (l' := (L90000 ++ ([v24] : List Int))) rfl (show mget _ 100017 = _ from (by first | rfl | (simp (disch := decide) only [mpushs_nil, mpushs_cons, mget_hd, mget_tl, mget_appW_o, mget_appW_n])))) okB_nil'))
    · exact fun hg => hN0 _ (Option.some.inj hg).symm _ (weak_mem [(90000, 90000)] rfl rfl rfl (okW_cons (.inl (leV_refl _)) (okW_cons (.inl (leV_refl _)) (okW_cons (ent_lst (E := intE) _ false) (okW_cons (ent_own (E := intE) (id := 90000) (l' := L90000) rfl rfl) (okW_cons (ent_lst (E := TFlowCap.E) _ false) (okW_cons (.inl (leV_refl _)) (okW_cons (.inl (leV_refl _)) okW_nil))))))) (okB_cons (okB_own (E := intE) (ty := 3) (l' := L90000) rfl (show mget _ 90000 = _ from (by first | rfl | (simp (disch := decide) only [mpushs_nil, mpushs_cons, mget_hd, mget_tl, mget_appW_o, mget_appW_n])))) okB_nil'))
  · exact fun hg => hR _ (Option.some.inj hg).symm _ _ ⟨_, rfl, (made_own_pf (E := intE) (ty := 3) (l := L90000) rfl (by first | rfl | (simp (disch := decide) only [mpushs_nil, mpushs_cons, mget_hd, mget_tl, mget_appW_o, mget_appW_n])))⟩
theorem L12_0_okM (n : Nat) (c5 : Int) (c6 : List Int) (a0 : List TFlowCap) (c23 : Int) {t : ρ12} (R : AV → Mem → Prop) (hR : ∀ r : ρ12, t = r → ∀ u m, MadeT intE 3 r.1 [Value.int .i64 r.2] u m → R u m) (k : Nat) (x : Int × List Int) (hx : iterO (fun y : Int × List Int => S12_0 n c5 c6 a0 c23 y.1 y.2) k x = some t) {s : St} (hw : Weak KK 42 0 s (h12_0 AV.nils c5 (lstA intE c6) (ownV intE 90000 x.2) (lstA TFlowCap.E a0) c23 x.1 [(90000, ownB intE 3 x.2)])) : Tri Try.prog KK 42 0 (.loop c12_0) s (q12_0 R ) :=
  L12_0 R  (σ := Nat × (Int × List Int)) (fun z => iterO (fun y : Int × List Int => S12_0 n c5 c6 a0 c23 y.1 y.2) z.1 z.2 = some t) (fun z => AV.nils) (fun z => c5) (fun z => (lstA intE c6)) (fun z => (ownV intE 90000 z.2.2)) (fun z => (lstA TFlowCap.E a0)) (fun z => c23) (fun z => z.2.1) (fun z => [(90000, ownB intE 3 z.2.2)]) (fun z => z.1) (by
    rintro ⟨k, y⟩ h
    cases k with
    | zero => exact (iterO_zero h).elim
    | succ k =>
      obtain ⟨u, h1, h2, h3⟩ := iterO_elim h
      exact B12_0_okM n c5 c6 a0 c23 y.1 y.2 R  _ (fun r e => hR r (h3 _ e).symm)  (fun y' e s' hw => ⟨(k, y'), h2 _ e, Nat.lt_succ_self k, hw⟩) h1) (k, x) hx hw
theorem g12_okM (n : Nat) (a0 : List TFlowCap) (a1 : List Int) {t : ρ12} (R : AV → Mem → Prop) (hR : ∀ r : ρ12, t = r → ∀ u m, MadeT intE 3 r.1 [Value.int .i64 r.2] u m → R u m) : g12 n a0 a1 = some t → F12 (lstA TFlowCap.E a0) (lstA intE a1) R := by
  unfold g12 F12
  refine bind_b fun x179 h179 => ?_
  refine imp (callW_D (show PureD _ _ _ _ _ _ (AV.tup [(ownV intE 4 x179.1), (intA x179.2.1), (intA x179.2.2)]) [(4, ownB intE 3 x179.1)] from mg16C h179)) ?_
  refine imp exT3_b ?_
  refine imp ex_i64_b ?_
  refine imp ex_i64_b ?_
  refine cond_b (fun _ => ?_) (fun _ => ?_)
  · exact fun hg => hR _ (Option.some.inj hg).symm _ _ ⟨_, rfl, made_nils_pf⟩
  · refine imp (opP_of (show _ = some ((intA (a0.length : Int)), []) from rfl)) ?_
    refine imp ex_i64_b ?_
    exact fun hg => L12_0_okM n (0) x179.1 a0 (a0.length : Int) R  hR n _ hg (weak_mem [(90000, 89500)] rfl rfl rfl (okW_cons (.inl (leV_refl _)) (okW_cons (.inl (leV_refl _)) (okW_cons (ent_own_frz (E := intE) (ty := 3) (l' := x179.1) rfl (by first | rfl | (simp (disch := decide) only [mpushs_nil, mpushs_cons, mget_hd, mget_tl, mget_appW_o, mget_appW_n])) rfl) (okW_cons ent_nils_own (okW_cons (ent_lst (E := TFlowCap.E) _ false) (okW_cons (.inl (leV_refl _)) (okW_cons (.inl (leV_refl _)) okW_nil))))))) (okB_cons okB_nil okB_nil'))
theorem mg12C {n k : Nat} {look : Nat → Option ABlk} {a0 : List TFlowCap} {a1 : List Int} {t : ρ12} (h : g12 n a0 a1 = some t) : PureD Try.prog KK.gl look k 12 [(lstA TFlowCap.E a0), (lstA intE a1)] (.tup (ownV intE k t.1 :: ([Value.int .i64 t.2] : List Value).map AV.sc)) [(k, ownB intE 3 t.1)] :=
  made_tupC (by first | rfl | simp [cleans, clean, encs_clean, En.cln]) (F12_own (lstA TFlowCap.E a0) (lstA intE a1) _ (g12_okM n a0 a1 (MadeT intE 3 t.1 [Value.int .i64 t.2]) (fun r e u m h => by rw [e]; exact h) h))
theorem mg12S {n k : Nat} {look : Nat → Option ABlk} {args : List AV} {a0 : List TFlowCap} {a1 : List Int} {t : ρ12} (h : g12 n a0 a1 = some t) (hs : SnL look 6 args [(lstA TFlowCap.E a0), (lstA intE a1)]) : PureD Try.prog KK.gl look k 12 args (.tup (ownV intE k t.1 :: ([Value.int .i64 t.2] : List Value).map AV.sc)) [(k, ownB intE 3 t.1)] :=
  made_tupS (fun _ => rfl) hs (F12_own (lstA TFlowCap.E a0) (lstA intE a1) _ (g12_okM n a0 a1 (MadeT intE 3 t.1 [Value.int .i64 t.2]) (fun r e u m h => by rw [e]; exact h) h))
/- skyway/skywaykeep3.SlotFits$1 -/
theorem g29_ok (n : Nat) (a0 : Int) {t : ρ29} (R : AV → Mem → Prop) (hR : ∀ r : ρ29, t = r → ∀ u m, Ans ((boolA r)) u m → R u m) : g29 n a0 = some t → F29 a0 R := by
  unfold g29 F29
  exact fun hg => ret1 (hR _ (Option.some.inj hg).symm) (fz_sc _ _)
theorem sg29 {n : Nat} {a0 : Int} {t : ρ29} (h : g29 n a0 = some t) : Says Try.prog KK.gl 29 [(intA a0)] ((boolA t)) :=
  says_of_own (by first | rfl | simp [cleans, clean, encs_clean, En.cln]) (by first | rfl | simp [cleans, clean, encs_clean, En.cln]) (F29_own a0 _ (g29_ok n a0 (Ans ((boolA t))) (fun r e u m h => by rw [e]; exact h) h))
/- slices.IndexFunc[[]int,int] -/
theorem B46_0_ok (n : Nat) (a0 : List Int) (c4 : Int) (c7 : Int) (v8 : Int) {t : (Int) ⊕ ρ46} (R : AV → Mem → Prop) (N0 : St → Prop) (hR : ∀ r : ρ46, t = (.inr r) → ∀ u m, Ans ((intA r)) u m → R u m) (hN0 : ∀ y : Int, t = (.inl y) → ∀ s' : St, Weak KK 19 0 s' (h46_0 (lstA intE a0) (AV.fn 29 []) c4 c7 y []) → N0 s') : S46_0 n a0 c4 c7 v8 = some t → B46_0 (lstA intE a0) (AV.fn 29 []) c4 c7 v8 [] R N0 := by
  unfold S46_0 B46_0
  refine cond_b (fun _ => ?_) (fun _ => ?_)
  · refine bind_b fun x184 h184 => ?_
    refine imp (opP_of (show _ = some ((AV.ept [(intA x184)] 0), []) from (idx_lst (E := intE) rfl h184))) ?_
    refine imp (opP_of (show _ = some ((intA x184), []) from rfl)) ?_
    refine imp ex_i64_b ?_
    refine bind_b fun x185 h185 => ?_
    refine imp fnArgs_b ?_
    refine imp (cond_tt rfl) ?_
    refine imp (callQ_says (sg29 h185)) ?_
    refine imp exB_b ?_
    refine cond_b (fun _ => ?_) (fun _ => ?_)
    · exact fun hg => ret1 (hR _ (Option.some.inj hg).symm) (fz_sc _ _)
    · exact fun hg => hN0 _ (Option.some.inj hg).symm _ (weak_mem [] rfl rfl rfl (okW_cons (ent_lst (E := intE) _ false) (okW_cons (.inl (leV_refl _)) (okW_cons (.inl (leV_refl _)) (okW_cons (.inl (leV_refl _)) (okW_cons (.inl (leV_refl _)) okW_nil))))) okB_nil')
  · exact fun hg => ret1 (hR _ (Option.some.inj hg).symm) (fz_sc _ _)
theorem L46_0_ok (n : Nat) (a0 : List Int) (c4 : Int) (c7 : Int) {t : ρ46} (R : AV → Mem → Prop) (hR : ∀ r : ρ46, t = r → ∀ u m, Ans ((intA r)) u m → R u m) (k : Nat) (x : Int) (hx : iterO (fun y : Int => S46_0 n a0 c4 c7 y) k x = some t) {s : St} (hw : Weak KK 19 0 s (h46_0 (lstA intE a0) (AV.fn 29 []) c4 c7 x [])) : Tri Try.prog KK 19 0 (.loop c46_0) s (q46_0 R ) :=
  L46_0 R  (σ := Nat × (Int)) (fun z => iterO (fun y : Int => S46_0 n a0 c4 c7 y) z.1 z.2 = some t) (fun z => (lstA intE a0)) (fun z => (AV.fn 29 [])) (fun z => c4) (fun z => c7) (fun z => z.2) (fun z => []) (fun z => z.1) (by
    rintro ⟨k, y⟩ h
    cases k with
    | zero => exact (iterO_zero h).elim
    | succ k =>
      obtain ⟨u, h1, h2, h3⟩ := iterO_elim h
      exact B46_0_ok n a0 c4 c7 y R  _ (fun r e => hR r (h3 _ e).symm)  (fun y' e s' hw => ⟨(k, y'), h2 _ e, Nat.lt_succ_self k, hw⟩) h1) (k, x) hx hw
theorem g46_ok (n : Nat) (a0 : List Int) {t : ρ46} (R : AV → Mem → Prop) (hR : ∀ r : ρ46, t = r → ∀ u m, Ans ((intA r)) u m → R u m) : g46 n a0 = some t → F46 (lstA intE a0) (AV.fn 29 []) R := by
  unfold g46 F46
  refine imp (opP_of (show _ = some ((intA (a0.length : Int)), []) from rfl)) ?_
  refine imp ex_i64_b ?_
  exact fun hg => L46_0_ok n a0 (0) (a0.length : Int) R  hR n _ hg (weak_mem [] rfl rfl rfl (okW_cons (ent_lst (E := intE) _ false) (okW_cons (.inl (leV_refl _)) (okW_cons (.inl (leV_refl _)) (okW_cons (.inl (leV_refl _)) (okW_cons (.inl (leV_refl _)) okW_nil))))) okB_nil')
theorem sg46 {n : Nat} {a0 : List Int} {t : ρ46} (h : g46 n a0 = some t) : Says Try.prog KK.gl 46 [(lstA intE a0), (AV.fn 29 [])] ((intA t)) :=
  says_of_own (by first | rfl | simp [cleans, clean, encs_clean, En.cln]) (by first | rfl | simp [cleans, clean, encs_clean, En.cln]) (F46_own (lstA intE a0) (AV.fn 29 []) _ (g46_ok n a0 (Ans ((intA t))) (fun r e u m h => by rw [e]; exact h) h))
/- slices.ContainsFunc[[]int,int] -/
theorem g28_ok (n : Nat) (a0 : List Int) {t : ρ28} (R : AV → Mem → Prop) (hR : ∀ r : ρ28, t = r → ∀ u m, Ans ((boolA r)) u m → R u m) : g28 n a0 = some t → F28 (lstA intE a0) (AV.fn 29 []) R := by
  unfold g28 F28
  refine bind_b fun x186 h186 => ?_
  refine imp (callQ_says (sg46 h186)) ?_
  refine imp ex_i64_b ?_
  exact fun hg => ret1 (hR _ (Option.some.inj hg).symm) (fz_sc _ _)
theorem sg28 {n : Nat} {a0 : List Int} {t : ρ28} (h : g28 n a0 = some t) : Says Try.prog KK.gl 28 [(lstA intE a0), (AV.fn 29 [])] ((boolA t)) :=
  says_of_own (by first | rfl | simp [cleans, clean, encs_clean, En.cln]) (by first | rfl | simp [cleans, clean, encs_clean, En.cln]) (F28_own (lstA intE a0) (AV.fn 29 []) _ (g28_ok n a0 (Ans ((boolA t))) (fun r e u m h => by rw [e]; exact h) h))
/- skyway/skywaykeep3.SlotFits -/
theorem B8_0_ok (n : Nat) (a0 : List TSlotDemand) (a1 : List TFlowCap) (c4 : Bool) (c5 : List TSlot) (c6 : Int) (c7 : List Int) (c36 : Int) (v37 : Int) (L90000 : List Int) {t : (Int × List Int) ⊕ ρ8} (R : AV → Mem → Prop) (N0 : St → Prop) (hR : ∀ r : ρ8, t = (.inr r) → ∀ u m, Ans ((boolA r)) u m → R u m) (hN0 : ∀ y : Int × List Int, t = (.inl y) → ∀ s' : St, Weak KK 91 0 s' (h8_0 (lstA TSlotDemand.E a0) (lstA TFlowCap.E a1) c4 (lstA TSlot.E c5) c6 (lstA intE c7) (ownV intE 90000 y.2) (lstA TSlot.E c5) c36 y.1 [(90000, ownB intE 3 y.2)]) → N0 s') : S8_0 n a0 a1 c4 c5 c6 c7 c36 v37 L90000 = some t → B8_0 (lstA TSlotDemand.E a0) (lstA TFlowCap.E a1) c4 (lstA TSlot.E c5) c6 (lstA intE c7) (ownV intE 90000 L90000) (lstA TSlot.E c5) c36 v37 [(90000, ownB intE 3 L90000)] R N0 := by
  unfold S8_0 B8_0
  refine cond_b (fun _ => ?_) (fun _ => ?_)
  · refine bind_b fun x157 h157 => ?_
    refine imp (opP_of (show _ = some ((AV.ept [(strA x157.Call), (strA x157.Place), (intA x157.Time)] 0), []) from (idx_lst (E := TSlot.E) rfl h157))) ?_
    refine imp (opP_of (show _ = some ((AV.agg [(strA x157.Call), (strA x157.Place), (intA x157.Time)]), []) from rfl)) ?_
    refine imp exA3_b ?_
    refine imp exStr_b ?_
    refine imp exStr_b ?_
    refine imp ex_i64_b ?_
    refine imp (opN_of (show _ = some ((blkV intE 100008 ([x157.Time] : List Int)), [(100008, some ⟨encs intE ([x157.Time] : List Int), 3⟩)]) from rfl)) ?_
    refine bind_b fun x158 h158 => ?_
    refine imp (opN_of (show _ = some ((ownV intE 100009 (L90000 ++ ([x157.Time] : List Int))), (appW intE 100009 90000 3 L90000 ([x157.Time] : List Int))) from (app_own (E := intE) (l' := L90000) (xs := ([x157.Time] : List Int)) rfl rfl (cellsOf_blk (E := intE) (ty := 3) rfl rfl (by first | rfl | (simp (disch := decide) only [mpushs_nil, mpushs_cons, mget_hd, mget_tl, mget_appW_o, mget_appW_n]))) (by simp) rfl (fun hne => Eq.trans (by first | rfl | (simp (disch := decide) only [mpushs_nil, mpushs_cons, mget_hd, mget_tl, mget_appW_o, mget_appW_n])) (ownB_ne hne)) h158))) ?_
    exact fun hg => hN0 _ (Option.some.inj hg).symm _ (weak_mem [(90000, 100009)] rfl rfl rfl (okW_cons (ent_lst (E := TSlotDemand.E) _ false) (okW_cons (ent_lst (E := TFlowCap.E) _ false) (okW_cons (.inl (leV_refl _)) (okW_cons (ent_lst (E := TSlot.E) _ false) (okW_cons (.inl (leV_refl _)) (okW_cons (ent_lst (E := intE) _ false) (okW_cons (ent_own (E := intE) (id := 100009) (l' := (L90000 ++ ([x157.Time] : List Int))) rfl rfl) (okW_cons (ent_lst (E := TSlot.E) _ false) (okW_cons (.inl (leV_refl _)) (okW_cons (.inl (leV_refl _)) okW_nil)))))))))) (okB_cons (okB_own (E := intE) (ty := 3) (l' := (L90000 ++ ([x157.Time] : List Int))) rfl (show mget _ 100009 = _ from (by first | rfl | (simp (disch := decide) only [mpushs_nil, mpushs_cons, mget_hd, mget_tl, mget_appW_o, mget_appW_n])))) okB_nil'))
  · refine bind_b fun x178 h178 => ?_
    refine imp (callW_D (show PureD _ _ _ _ _ _ (AV.tup [(ownV intE 100003 x178.1), (intA x178.2)]) [(100003, ownB intE 3 x178.1)] from mg12S h178 (snL_cons (sn_lst (E := TFlowCap.E) _ _ false) (snL_cons (sn_own (E := intE) (ty := 3) (l' := L90000) _ intE.nf rfl (by first | rfl | (simp (disch := decide) only [mpushs_nil, mpushs_cons, mget_hd, mget_tl, mget_appW_o, mget_appW_n]))) snL_nil)))) ?_
    refine imp exT2_b ?_
    refine imp ex_i64_b ?_
    refine bind_b fun x183 h183 => ?_
    refine imp (callW_D (show PureD _ _ _ _ _ _ (AV.tup [(ownV intE 100074 x183.1), (intA x183.2.1), (intA x183.2.2)]) [(100074, ownB intE 3 x183.1)] from mg16S h183 (snL_cons (sn_lst (E := TFlowCap.E) _ _ false) (snL_cons (sn_own (E := intE) (ty := 3) (l' := L90000) _ intE.nf rfl (by first | rfl | (simp (disch := decide) only [mpushs_nil, mpushs_cons, mget_hd, mget_tl, mget_appW_o, mget_appW_n]))) snL_nil)))) ?_
    refine imp exT3_b ?_
    refine imp ex_i64_b ?_
    refine imp ex_i64_b ?_
    refine cond_b (fun _ => ?_) (fun _ => ?_)
    · refine cond_b (fun _ => ?_) (fun _ => ?_)
      · refine cond_b (fun _ => ?_) (fun _ => ?_)
        · refine imp (opP_of (show _ = some ((intA (x178.1.length : Int)), []) from len_own)) ?_
          refine imp ex_i64_b ?_
          refine cond_b (fun _ => ?_) (fun _ => ?_)
          · refine cond_b (fun _ => ?_) (fun _ => ?_)
            · refine imp (opP_of (show _ = some ((intA (c5.length : Int)), []) from rfl)) ?_
              refine imp ex_i64_b ?_
              refine imp (opP_of (show _ = some ((intA (a0.length : Int)), []) from rfl)) ?_
              refine imp ex_i64_b ?_
              refine cond_b (fun _ => ?_) (fun _ => ?_)
              · refine bind_b fun x187 h187 => ?_
                refine imp (callQ_says (sg28 h187)) ?_
                refine imp exB_b ?_
                exact fun hg => ret1 (hR _ (Option.some.inj hg).symm) (fz_sc _ _)
              · exact fun hg => ret1 (hR _ (Option.some.inj hg).symm) (fz_sc _ _)
            · exact fun hg => ret1 (hR _ (Option.some.inj hg).symm) (fz_sc _ _)
          · exact fun hg => ret1 (hR _ (Option.some.inj hg).symm) (fz_sc _ _)
        · exact fun hg => ret1 (hR _ (Option.some.inj hg).symm) (fz_sc _ _)
      · exact fun hg => ret1 (hR _ (Option.some.inj hg).symm) (fz_sc _ _)
    · exact fun hg => ret1 (hR _ (Option.some.inj hg).symm) (fz_sc _ _)
theorem L8_0_ok (n : Nat) (a0 : List TSlotDemand) (a1 : List TFlowCap) (c4 : Bool) (c5 : List TSlot) (c6 : Int) (c7 : List Int) (c36 : Int) {t : ρ8} (R : AV → Mem → Prop) (hR : ∀ r : ρ8, t = r → ∀ u m, Ans ((boolA r)) u m → R u m) (k : Nat) (x : Int × List Int) (hx : iterO (fun y : Int × List Int => S8_0 n a0 a1 c4 c5 c6 c7 c36 y.1 y.2) k x = some t) {s : St} (hw : Weak KK 91 0 s (h8_0 (lstA TSlotDemand.E a0) (lstA TFlowCap.E a1) c4 (lstA TSlot.E c5) c6 (lstA intE c7) (ownV intE 90000 x.2) (lstA TSlot.E c5) c36 x.1 [(90000, ownB intE 3 x.2)])) : Tri Try.prog KK 91 0 (.loop c8_0) s (q8_0 R ) :=
  L8_0 R  (σ := Nat × (Int × List Int)) (fun z => iterO (fun y : Int × List Int => S8_0 n a0 a1 c4 c5 c6 c7 c36 y.1 y.2) z.1 z.2 = some t) (fun z => (lstA TSlotDemand.E a0)) (fun z => (lstA TFlowCap.E a1)) (fun z => c4) (fun z => (lstA TSlot.E c5)) (fun z => c6) (fun z => (lstA intE c7)) (fun z => (ownV intE 90000 z.2.2)) (fun z => (lstA TSlot.E c5)) (fun z => c36) (fun z => z.2.1) (fun z => [(90000, ownB intE 3 z.2.2)]) (fun z => z.1) (by
    rintro ⟨k, y⟩ h
    cases k with
    | zero => exact (iterO_zero h).elim
    | succ k =>
      obtain ⟨u, h1, h2, h3⟩ := iterO_elim h
      exact B8_0_ok n a0 a1 c4 c5 c6 c7 c36 y.1 y.2 R  _ (fun r e => hR r (h3 _ e).symm)  (fun y' e s' hw => ⟨(k, y'), h2 _ e, Nat.lt_succ_self k, hw⟩) h1) (k, x) hx hw
theorem g8_ok (n : Nat) (a0 : List TSlotDemand) (a1 : List TFlowCap) {t : ρ8} (R : AV → Mem → Prop) (hR : ∀ r : ρ8, t = r → ∀ u m, Ans ((boolA r)) u m → R u m) : g8 n a0 a1 = some t → F8 (lstA TSlotDemand.E a0) (lstA TFlowCap.E a1) R := by
  unfold g8 F8
  refine bind_b fun x154 h154 => ?_
  refine imp (callQ_says (sg18 h154)) ?_
  refine imp exB_b ?_
  refine cond_b (fun _ => ?_) (fun _ => ?_)
  · exact fun hg => ret1 (hR _ (Option.some.inj hg).symm) (fz_sc _ _)
  · refine bind_b fun x155 h155 => ?_
    refine imp (callW_D (show PureD _ _ _ _ _ _ (AV.tup [(ownV TSlot.E 68 x155.1), (intA x155.2)]) [(68, ownB TSlot.E 49 x155.1)] from mg19C h155)) ?_
    refine imp exT2_b ?_
    refine imp ex_i64_b ?_
    refine cond_b (fun _ => ?_) (fun _ => ?_)
    · refine imp (opP_of (show _ = some ((intA (x155.1.length : Int)), []) from len_own)) ?_
      refine imp ex_i64_b ?_
      exact fun hg => ret1 (hR _ (Option.some.inj hg).symm) (fz_sc _ _)
    · refine bind_b fun x156 h156 => ?_
      refine imp (callW_D (show PureD _ _ _ _ _ _ (AV.tup [(ownV intE 141 x156.1), (intA x156.2)]) [(141, ownB intE 3 x156.1)] from mg27S h156 (snL_cons (sn_lst (E := TSlotDemand.E) _ _ false) (snL_cons (sn_own (E := TSlot.E) (ty := 49) (l' := x155.1) _ TSlot.nf rfl (by first | rfl | (simp (disch := decide) only [mpushs_nil, mpushs_cons, mget_hd, mget_tl, mget_appW_o, mget_appW_n]))) snL_nil)))) ?_
      refine imp exT2_b ?_
      refine imp ex_i64_b ?_
      refine imp (opP_of (show _ = some ((intA (x155.1.length : Int)), []) from len_own)) ?_
      refine imp ex_i64_b ?_
      exact fun hg => L8_0_ok n a0 a1 false x155.1 x156.2 x156.1 (x155.1.length : Int) R  hR n _ hg (weak_mem [(90000, 89500)] rfl rfl rfl (okW_cons (ent_lst (E := TSlotDemand.E) _ false) (okW_cons (ent_lst (E := TFlowCap.E) _ false) (okW_cons (.inl (leV_refl _)) (okW_cons (ent_own_frz (E := TSlot.E) (ty := 49) (l' := x155.1) rfl (by first | rfl | (simp (disch := decide) only [mpushs_nil, mpushs_cons, mget_hd, mget_tl, mget_appW_o, mget_appW_n])) rfl) (okW_cons (.inl (leV_refl _)) (okW_cons (ent_own_frz (E := intE) (ty := 3) (l' := x156.1) rfl (by first | rfl | (simp (disch := decide) only [mpushs_nil, mpushs_cons, mget_hd, mget_tl, mget_appW_o, mget_appW_n])) rfl) (okW_cons ent_nils_own (okW_cons (ent_own_frz (E := TSlot.E) (ty := 49) (l' := x155.1) rfl (by first | rfl | (simp (disch := decide) only [mpushs_nil, mpushs_cons, mget_hd, mget_tl, mget_appW_o, mget_appW_n])) rfl) (okW_cons (.inl (leV_refl _)) (okW_cons (.inl (leV_refl _)) okW_nil)))))))))) (okB_cons okB_nil okB_nil'))
theorem sg8 {n : Nat} {a0 : List TSlotDemand} {a1 : List TFlowCap} {t : ρ8} (h : g8 n a0 a1 = some t) : Says Try.prog KK.gl 8 [(lstA TSlotDemand.E a0), (lstA TFlowCap.E a1)] ((boolA t)) :=
  says_of_own (by first | rfl | simp [cleans, clean, encs_clean, En.cln]) (by first | rfl | simp [cleans, clean, encs_clean, En.cln]) (F8_own (lstA TSlotDemand.E a0) (lstA TFlowCap.E a1) _ (g8_ok n a0 a1 (Ans ((boolA t))) (fun r e u m h => by rw [e]; exact h) h))
end Go.Proofs.Ytfhcciepaangiaa
