/- Plain functional programs out of the program's functions, with proofs that the functions compute them; printed by wip/Ext.lean.txt. -/
import Derived.Test.YtfhcciepaangiaaX1E1
set_option linter.unusedVariables false
set_option linter.unusedSimpArgs false
set_option maxRecDepth 100000
namespace Go.Proofs.Ytfhcciepaangiaa
/- skyway/slot.Assign -/
theorem B19_0_0_okM (n : Nat) (a0 : ByteArray) (a2 : List TFlowCap) (c7 : Int) (x47 : List TSlotDemand) (c37 : Int) (v38 : Int) (k100003_0 : ByteArray) (k100003_1 : Int) (w15 : Int) (L90000 : List Int) (L90001 : List TSlot) {t : (Int × List Int × List TSlot) ⊕ ((Int × List Int × List TSlot) ⊕ ρ19)} (R : AV → Mem → Prop) (N0 : St → Prop) (N1 : St → Prop) (hR : ∀ r : ρ19, t = (.inr (.inr r)) → ∀ u m, MadeT TSlot.E 49 r.1 [Value.int .i64 r.2] u m → R u m) (hN0 : ∀ y : Int × List Int × List TSlot, t = (.inr (.inl y)) → ∀ s' : St, Weak KK 99 0 s' (h19_0 a0 (lstA TFlowCap.E a2) AV.nils c7 (blkV intE 90000 y.2.1) (ownV TSlot.E 90001 y.2.2) (lstA TSlotDemand.E x47) c37 y.1 [(90000, some ⟨encs intE y.2.1, 3⟩), (90001, ownB TSlot.E 49 y.2.2)]) → N0 s') (hN1 : ∀ y : Int × List Int × List TSlot, t = (.inl y) → ∀ s' : St, Weak KK 99 0 s' (h19_0_0 a0 (lstA TFlowCap.E a2) AV.nils c7 (blkV intE 90000 y.2.1) (ownV TSlot.E 90001 y.2.2) y.1 (lstA TSlotDemand.E x47) c37 v38 k100003_0 k100003_1 [(90000, some ⟨encs intE y.2.1, 3⟩), (90001, ownB TSlot.E 49 y.2.2)]) → N1 s') : S19_0_0 n a0 a2 c7 x47 c37 v38 k100003_0 k100003_1 w15 L90000 L90001 = some t → B19_0_0 a0 (lstA TFlowCap.E a2) AV.nils c7 (blkV intE 90000 L90000) (ownV TSlot.E 90001 L90001) w15 (lstA TSlotDemand.E x47) c37 v38 k100003_0 k100003_1 [(90000, some ⟨encs intE L90000, 3⟩), (90001, ownB TSlot.E 49 L90001)] R N0 N1 := by
  unfold S19_0_0 B19_0_0
  refine cond_b (fun _ => ?_) (fun _ => ?_)
  · refine imp (opP_of (show _ = some ((intA (a2.length : Int)), []) from rfl)) ?_
    refine imp ex_i64_b ?_
    refine cond_b (fun _ => ?_) (fun _ => ?_)
    · refine bind_b fun x51 h51 => ?_
      refine imp (opP_of (show _ = some ((AV.ptr 90000 (((w15 : Int).toNat) * 1 + 0)), []) from (idx_blk (E := intE) rfl h51))) ?_
      refine imp (opP_of (show _ = some ((intA x51), []) from (ldS_blk (E := intE) (l := L90000) (ty := 3) (o := 0) (by first | rfl | (simp (disch := decide) only [mpushs_nil, mpushs_cons, mget_hd, mget_tl, mget_appW_o, mget_appW_n])) (getI_some h51).2 rfl (by decide) rfl))) ?_
      refine imp ex_i64_b ?_
      refine bind_b fun x52 h52 => ?_
      refine imp (opP_of (show _ = some ((AV.ept [(intA x52.Span_From), (intA x52.Span_To), (intA x52.Many)] 0), []) from (idx_lst (E := TFlowCap.E) rfl h52))) ?_
      refine imp (opP_of (show _ = some ((AV.ept [(intA x52.Span_From), (intA x52.Span_To), (intA x52.Many)] 2), []) from rfl)) ?_
      refine imp (opP_of (show _ = some ((intA x52.Many), []) from rfl)) ?_
      refine imp ex_i64_b ?_
      refine cond_b (fun _ => ?_) (fun _ => ?_)
      · exact fun hg => hN1 _ (Option.some.inj hg).symm _ (weak_mem [(90000, 90000), (90001, 90001), (100003, 100003)] rfl rfl rfl (okW_cons (.inl (leV_refl _)) (okW_cons (ent_lst (E := TFlowCap.E) _ false) (okW_cons (.inl (leV_refl _)) (okW_cons (.inl (leV_refl _)) (okW_cons (ent_blk (E := intE) (id := 90000) (l' := L90000) rfl rfl) (okW_cons (ent_own (E := TSlot.E) (id := 90001) (l' := L90001) rfl rfl) (okW_cons (.inl (leV_refl _)) (okW_cons (.inl (leV_refl _)) (okW_cons (ent_lst (E := TSlotDemand.E) _ false) (okW_cons (.inl (leV_refl _)) (okW_cons (.inl (leV_refl _)) okW_nil))))))))))) (okB_cons (okB_cells (cs := [(strA k100003_0), (intA k100003_1)]) (ty := 44) rfl (show mget _ 100003 = _ from (by first | rfl | (simp (disch := decide) only [mpushs_nil, mpushs_cons, mget_hd, mget_tl, mget_appW_o, mget_appW_n])))) (okB_cons (okB_cells (cs := encs intE L90000) (ty := 3) (encs_clean _) (show mget _ 90000 = _ from (by first | rfl | (simp (disch := decide) only [mpushs_nil, mpushs_cons, mget_hd, mget_tl, mget_appW_o, mget_appW_n])))) (okB_cons (okB_own (E := TSlot.E) (ty := 49) (l' := L90001) rfl (show mget _ 90001 = _ from (by first | rfl | (simp (disch := decide) only [mpushs_nil, mpushs_cons, mget_hd, mget_tl, mget_appW_o, mget_appW_n])))) okB_nil'))))
      · refine cond_b (fun _ => ?_) (fun _ => ?_)
        · exact fun hg => hR _ (Option.some.inj hg).symm _ _ ⟨_, rfl, made_nils_pf⟩
        · refine imp (opP_of (show _ = some ((intA (a2.length : Int)), []) from rfl)) ?_
          refine imp ex_i64_b ?_
          refine cond_b (fun _ => ?_) (fun _ => ?_)
          · exact fun hg => hR _ (Option.some.inj hg).symm _ _ ⟨_, rfl, made_nils_pf⟩
          · refine bind_b fun x53 h53 => ?_
            refine imp (opP_of (show _ = some ((AV.ptr 90000 (((w15 : Int).toNat) * 1 + 0)), []) from (idx_blk (E := intE) rfl h53))) ?_
            refine imp (opP_of (show _ = some ((intA x53), []) from (ldS_blk (E := intE) (l := L90000) (ty := 3) (o := 0) (by first | rfl | (simp (disch := decide) only [mpushs_nil, mpushs_cons, mget_hd, mget_tl, mget_appW_o, mget_appW_n])) (getI_some h53).2 rfl (by decide) rfl))) ?_
            refine imp ex_i64_b ?_
            refine bind_b fun x54 h54 => ?_
            refine imp (opP_of (show _ = some ((AV.ptr 90000 (((w15 : Int).toNat) * 1 + 0)), []) from (idx_blk (E := intE) rfl h54))) ?_
            refine imp (storeW_el (E := intE) (l := L90000) (i := ((w15 : Int).toNat)) (o := 0) (y := (IntKind.wrap .i64 (x53 + (1)))) (ty := 3) (by kernel_rfl) (by kernel_rfl) rfl (by first | rfl | (simp (disch := decide) only [mpushs_nil, mpushs_cons, mget_hd, mget_tl, mget_appW_o, mget_appW_n])) (getI_some h54).2 rfl (by decide) rfl) ?_
            refine imp (opM_of (show _ = some ((strA k100003_0), []) from (ldS_ptr (b := ⟨[(strA k100003_0), (intA k100003_1)], 44⟩) (by first | rfl | (rw [look'_mem (by first | rfl | simp [topId_blk] | simp [topId])]; first | rfl | (simp (disch := decide) only [mpushs_nil, mpushs_cons, mget_hd, mget_tl, mget_appW_o, mget_appW_n]))) rfl))) ?_
            refine imp exStr_b ?_
            refine imp (opM_of (show _ = some ((intA k100003_1), []) from (ldS_ptr (b := ⟨[(strA k100003_0), (intA k100003_1)], 44⟩) (by first | rfl | (rw [look'_mem (by first | rfl | simp [topId_blk] | simp [topId])]; first | rfl | (simp (disch := decide) only [mpushs_nil, mpushs_cons, mget_hd, mget_tl, mget_appW_o, mget_appW_n]))) rfl))) ?_
            refine imp ex_i64_b ?_
            refine bind_b fun x55 h55 => ?_
            refine imp (opM_of (show _ = some ((AV.ept [(intA x55.Span_From), (intA x55.Span_To), (intA x55.Many)] 0), []) from (idx_lst (E := TFlowCap.E) rfl h55))) ?_
            refine imp (opM_of (show _ = some ((AV.ept [(intA x55.Span_From), (intA x55.Span_To), (intA x55.Many)] 0), []) from rfl)) ?_
            refine imp (opM_of (show _ = some ((AV.ept [(intA x55.Span_From), (intA x55.Span_To), (intA x55.Many)] 0), []) from rfl)) ?_
            refine imp (opM_of (show _ = some ((intA x55.Span_From), []) from rfl)) ?_
            refine imp ex_i64_b ?_
            refine imp (opM_of (show _ = some ((intA (if x55.Span_From > k100003_1 then x55.Span_From else k100003_1)), []) from (by kernel_rfl))) ?_
            refine imp ex_i64_b ?_
            refine imp (opM_of (show _ = some ((AV.agg [(strA k100003_0), (strA a0), (intA (if x55.Span_From > k100003_1 then x55.Span_From else k100003_1))]), []) from rfl)) ?_
            refine imp (opM_of (show _ = some ((blkV TSlot.E 200049 ([(⟨k100003_0, a0, (if x55.Span_From > k100003_1 then x55.Span_From else k100003_1)⟩ : TSlot)] : List TSlot)), [(200049, some ⟨encs TSlot.E ([(⟨k100003_0, a0, (if x55.Span_From > k100003_1 then x55.Span_From else k100003_1)⟩ : TSlot)] : List TSlot), 49⟩)]) from rfl)) ?_
            refine bind_b fun x56 h56 => ?_
            refine imp (opM_of (show _ = some ((ownV TSlot.E 200050 (L90001 ++ ([(⟨k100003_0, a0, (if x55.Span_From > k100003_1 then x55.Span_From else k100003_1)⟩ : TSlot)] : List TSlot))), (appW TSlot.E 200050 90001 49 L90001 ([(⟨k100003_0, a0, (if x55.Span_From > k100003_1 then x55.Span_From else k100003_1)⟩ : TSlot)] : List TSlot))) from (app_own (E := TSlot.E) (l' := L90001) (xs := ([(⟨k100003_0, a0, (if x55.Span_From > k100003_1 then x55.Span_From else k100003_1)⟩ : TSlot)] : List TSlot)) rfl rfl (cellsOf_blk (E := TSlot.E) (ty := 49) rfl rfl (by first | rfl | (rw [look'_mem (by first | rfl | simp [topId_blk] | simp [topId])]; first | rfl | (simp (disch := decide) only [mpushs_nil, mpushs_cons, mget_hd, mget_tl, mget_appW_o, mget_appW_n])))) (by simp) rfl (fun hne => look'_own hne rfl (by first | rfl | (simp (disch := decide) only [mpushs_nil, mpushs_cons, mget_hd, mget_tl, mget_appW_o, mget_appW_n]))) h56))) ?_
            refine imp (chk_of (by rcases (L90001) with _ | ⟨_, _⟩ <;> kernel_rfl)) ?_
            exact fun hg => hN0 _ (Option.some.inj hg).symm _ (weak_mem [(90000, 90000), (90001, 200050)] rfl rfl rfl (okW_cons (.inl (leV_refl _)) (okW_cons (ent_lst (E := TFlowCap.E) _ false) (okW_cons (.inl (leV_refl _)) (okW_cons (.inl (leV_refl _)) (okW_cons (ent_blk (E := intE) (id := 90000) (l' := (L90000.set ((w15 : Int).toNat) (IntKind.wrap .i64 (x53 + (1))))) (by first | rfl | omega | (simp; done) | (simp; omega)) rfl) (okW_cons (ent_own (E := TSlot.E) (id := 200050) (l' := (L90001 ++ ([(⟨k100003_0, a0, (if x55.Span_From > k100003_1 then x55.Span_From else k100003_1)⟩ : TSlot)] : List TSlot))) rfl rfl) (okW_cons (ent_lst (E := TSlotDemand.E) _ false) (okW_cons (.inl (leV_refl _)) (okW_cons (.inl (leV_refl _)) okW_nil))))))))) (okB_cons (okB_cells (cs := encs intE (L90000.set ((w15 : Int).toNat) (IntKind.wrap .i64 (x53 + (1))))) (ty := 3) (encs_clean _) (show mget _ 90000 = _ from (by first | rfl | (simp (disch := decide) only [mpushs_nil, mpushs_cons, mget_hd, mget_tl, mget_appW_o, mget_appW_n])))) (okB_cons (okB_own (E := TSlot.E) (ty := 49) (l' := (L90001 ++ ([(⟨k100003_0, a0, (if x55.Span_From > k100003_1 then x55.Span_From else k100003_1)⟩ : TSlot)] : List TSlot))) rfl (show mget _ 200050 = _ from (by first | rfl | (simp (disch := decide) only [mpushs_nil, mpushs_cons, mget_hd, mget_tl, mget_appW_o, mget_appW_n])))) okB_nil')))
    · refine cond_b (fun _ => ?_) (fun _ => ?_)
      · exact fun hg => hR _ (Option.some.inj hg).symm _ _ ⟨_, rfl, made_nils_pf⟩
      · refine imp (opP_of (show _ = some ((intA (a2.length : Int)), []) from rfl)) ?_
        refine imp ex_i64_b ?_
        refine cond_b (fun _ => ?_) (fun _ => ?_)
        · exact fun hg => hR _ (Option.some.inj hg).symm _ _ ⟨_, rfl, made_nils_pf⟩
        · refine bind_b fun x57 h57 => ?_
          refine imp (opP_of (show _ = some ((AV.ptr 90000 (((w15 : Int).toNat) * 1 + 0)), []) from (idx_blk (E := intE) rfl h57))) ?_
          refine imp (opP_of (show _ = some ((intA x57), []) from (ldS_blk (E := intE) (l := L90000) (ty := 3) (o := 0) (by first | rfl | (simp (disch := decide) only [mpushs_nil, mpushs_cons, mget_hd, mget_tl, mget_appW_o, mget_appW_n])) (getI_some h57).2 rfl (by decide) rfl))) ?_
          refine imp ex_i64_b ?_
          refine bind_b fun x58 h58 => ?_
          refine imp (opP_of (show _ = some ((AV.ptr 90000 (((w15 : Int).toNat) * 1 + 0)), []) from (idx_blk (E := intE) rfl h58))) ?_
          refine imp (storeW_el (E := intE) (l := L90000) (i := ((w15 : Int).toNat)) (o := 0) (y := (IntKind.wrap .i64 (x57 + (1)))) (ty := 3) (by kernel_rfl) (by kernel_rfl) rfl (by first | rfl | (simp (disch := decide) only [mpushs_nil, mpushs_cons, mget_hd, mget_tl, mget_appW_o, mget_appW_n])) (getI_some h58).2 rfl (by decide) rfl) ?_
          refine imp (opM_of (show _ = some ((strA k100003_0), []) from (ldS_ptr (b := ⟨[(strA k100003_0), (intA k100003_1)], 44⟩) (by first | rfl | (rw [look'_mem (by first | rfl | simp [topId_blk] | simp [topId])]; first | rfl | (simp (disch := decide) only [mpushs_nil, mpushs_cons, mget_hd, mget_tl, mget_appW_o, mget_appW_n]))) rfl))) ?_
          refine imp exStr_b ?_
          refine imp (opM_of (show _ = some ((intA k100003_1), []) from (ldS_ptr (b := ⟨[(strA k100003_0), (intA k100003_1)], 44⟩) (by first | rfl | (rw [look'_mem (by first | rfl | simp [topId_blk] | simp [topId])]; first | rfl | (simp (disch := decide) only [mpushs_nil, mpushs_cons, mget_hd, mget_tl, mget_appW_o, mget_appW_n]))) rfl))) ?_
          refine imp ex_i64_b ?_
          refine bind_b fun x59 h59 => ?_
          refine imp (opM_of (show _ = some ((AV.ept [(intA x59.Span_From), (intA x59.Span_To), (intA x59.Many)] 0), []) from (idx_lst (E := TFlowCap.E) rfl h59))) ?_
          refine imp (opM_of (show _ = some ((AV.ept [(intA x59.Span_From), (intA x59.Span_To), (intA x59.Many)] 0), []) from rfl)) ?_
          refine imp (opM_of (show _ = some ((AV.ept [(intA x59.Span_From), (intA x59.Span_To), (intA x59.Many)] 0), []) from rfl)) ?_
          refine imp (opM_of (show _ = some ((intA x59.Span_From), []) from rfl)) ?_
          refine imp ex_i64_b ?_
          refine imp (opM_of (show _ = some ((intA (if x59.Span_From > k100003_1 then x59.Span_From else k100003_1)), []) from (by kernel_rfl))) ?_
          refine imp ex_i64_b ?_
          refine imp (opM_of (show _ = some ((AV.agg [(strA k100003_0), (strA a0), (intA (if x59.Span_From > k100003_1 then x59.Span_From else k100003_1))]), []) from rfl)) ?_
          refine imp (opM_of (show _ = some ((blkV TSlot.E 200049 ([(⟨k100003_0, a0, (if x59.Span_From > k100003_1 then x59.Span_From else k100003_1)⟩ : TSlot)] : List TSlot)), [(200049, some ⟨encs TSlot.E ([(⟨k100003_0, a0, (if x59.Span_From > k100003_1 then x59.Span_From else k100003_1)⟩ : TSlot)] : List TSlot), 49⟩)]) from rfl)) ?_
          refine bind_b fun x60 h60 => ?_
          refine imp (opM_of (show _ = some ((ownV TSlot.E 200050 (L90001 ++ ([(⟨k100003_0, a0, (if x59.Span_From > k100003_1 then x59.Span_From else k100003_1)⟩ : TSlot)] : List TSlot))), (appW TSlot.E 200050 90001 49 L90001 ([(⟨k100003_0, a0, (if x59.Span_From > k100003_1 then x59.Span_From else k100003_1)⟩ : TSlot)] : List TSlot))) from (app_own (E := TSlot.E) (l' := L90001) (xs := ([(⟨k100003_0, a0, (if x59.Span_From > k100003_1 then x59.Span_From else k100003_1)⟩ : TSlot)] : List TSlot)) rfl rfl (cellsOf_blk (E := TSlot.E) (ty := 49) rfl rfl (by first | rfl | (rw [look'_mem (by first | rfl | simp [topId_blk] | simp [topId])]; first | rfl | (simp (disch := decide) only [mpushs_nil, mpushs_cons, mget_hd, mget_tl, mget_appW_o, mget_appW_n])))) (by simp) rfl (fun hne => look'_own hne rfl (by first | rfl | (simp (disch := decide) only [mpushs_nil, mpushs_cons, mget_hd, mget_tl, mget_appW_o, mget_appW_n]))) h60))) ?_
          refine imp (chk_of (by rcases (L90001) with _ | ⟨_, _⟩ <;> kernel_rfl)) ?_
          exact fun hg => hN0 _ (Option.some.inj hg).symm _ (weak_mem [(90000, 90000), (90001, 200050)] rfl rfl rfl (okW_cons (.inl (leV_refl _)) (okW_cons (ent_lst (E := TFlowCap.E) _ false) (okW_cons (.inl (leV_refl _)) (okW_cons (.inl (leV_refl _)) (okW_cons (ent_blk (E := intE) (id := 90000) (l' := (L90000.set ((w15 : Int).toNat) (IntKind.wrap .i64 (x57 + (1))))) (by first | rfl | omega | (simp; done) | (simp; omega)) rfl) (okW_cons (ent_own (E := TSlot.E) (id := 200050) (l' := (L90001 ++ ([(⟨k100003_0, a0, (if x59.Span_From > k100003_1 then x59.Span_From else k100003_1)⟩ : TSlot)] : List TSlot))) rfl rfl) (okW_cons (ent_lst (E := TSlotDemand.E) _ false) (okW_cons (.inl (leV_refl _)) (okW_cons (.inl (leV_refl _)) okW_nil))))))))) (okB_cons (okB_cells (cs := encs intE (L90000.set ((w15 : Int).toNat) (IntKind.wrap .i64 (x57 + (1))))) (ty := 3) (encs_clean _) (show mget _ 90000 = _ from (by first | rfl | (simp (disch := decide) only [mpushs_nil, mpushs_cons, mget_hd, mget_tl, mget_appW_o, mget_appW_n])))) (okB_cons (okB_own (E := TSlot.E) (ty := 49) (l' := (L90001 ++ ([(⟨k100003_0, a0, (if x59.Span_From > k100003_1 then x59.Span_From else k100003_1)⟩ : TSlot)] : List TSlot))) rfl (show mget _ 200050 = _ from (by first | rfl | (simp (disch := decide) only [mpushs_nil, mpushs_cons, mget_hd, mget_tl, mget_appW_o, mget_appW_n])))) okB_nil')))
  · refine cond_b (fun _ => ?_) (fun _ => ?_)
    · exact fun hg => hR _ (Option.some.inj hg).symm _ _ ⟨_, rfl, made_nils_pf⟩
    · refine imp (opP_of (show _ = some ((intA (a2.length : Int)), []) from rfl)) ?_
      refine imp ex_i64_b ?_
      refine cond_b (fun _ => ?_) (fun _ => ?_)
      · exact fun hg => hR _ (Option.some.inj hg).symm _ _ ⟨_, rfl, made_nils_pf⟩
      · refine bind_b fun x61 h61 => ?_
        refine imp (opP_of (show _ = some ((AV.ptr 90000 (((w15 : Int).toNat) * 1 + 0)), []) from (idx_blk (E := intE) rfl h61))) ?_
        refine imp (opP_of (show _ = some ((intA x61), []) from (ldS_blk (E := intE) (l := L90000) (ty := 3) (o := 0) (by first | rfl | (simp (disch := decide) only [mpushs_nil, mpushs_cons, mget_hd, mget_tl, mget_appW_o, mget_appW_n])) (getI_some h61).2 rfl (by decide) rfl))) ?_
        refine imp ex_i64_b ?_
        refine bind_b fun x62 h62 => ?_
        refine imp (opP_of (show _ = some ((AV.ptr 90000 (((w15 : Int).toNat) * 1 + 0)), []) from (idx_blk (E := intE) rfl h62))) ?_
        refine imp (storeW_el (E := intE) (l := L90000) (i := ((w15 : Int).toNat)) (o := 0) (y := (IntKind.wrap .i64 (x61 + (1)))) (ty := 3) (by kernel_rfl) (by kernel_rfl) rfl (by first | rfl | (simp (disch := decide) only [mpushs_nil, mpushs_cons, mget_hd, mget_tl, mget_appW_o, mget_appW_n])) (getI_some h62).2 rfl (by decide) rfl) ?_
        refine imp (opM_of (show _ = some ((strA k100003_0), []) from (ldS_ptr (b := ⟨[(strA k100003_0), (intA k100003_1)], 44⟩) (by first | rfl | (rw [look'_mem (by first | rfl | simp [topId_blk] | simp [topId])]; first | rfl | (simp (disch := decide) only [mpushs_nil, mpushs_cons, mget_hd, mget_tl, mget_appW_o, mget_appW_n]))) rfl))) ?_
        refine imp exStr_b ?_
        refine imp (opM_of (show _ = some ((intA k100003_1), []) from (ldS_ptr (b := ⟨[(strA k100003_0), (intA k100003_1)], 44⟩) (by first | rfl | (rw [look'_mem (by first | rfl | simp [topId_blk] | simp [topId])]; first | rfl | (simp (disch := decide) only [mpushs_nil, mpushs_cons, mget_hd, mget_tl, mget_appW_o, mget_appW_n]))) rfl))) ?_
        refine imp ex_i64_b ?_
        refine bind_b fun x63 h63 => ?_
        refine imp (opM_of (show _ = some ((AV.ept [(intA x63.Span_From), (intA x63.Span_To), (intA x63.Many)] 0), []) from (idx_lst (E := TFlowCap.E) rfl h63))) ?_
        refine imp (opM_of (show _ = some ((AV.ept [(intA x63.Span_From), (intA x63.Span_To), (intA x63.Many)] 0), []) from rfl)) ?_
        refine imp (opM_of (show _ = some ((AV.ept [(intA x63.Span_From), (intA x63.Span_To), (intA x63.Many)] 0), []) from rfl)) ?_
        refine imp (opM_of (show _ = some ((intA x63.Span_From), []) from rfl)) ?_
        refine imp ex_i64_b ?_
        refine imp (opM_of (show _ = some ((intA (if x63.Span_From > k100003_1 then x63.Span_From else k100003_1)), []) from (by kernel_rfl))) ?_
        refine imp ex_i64_b ?_
        refine imp (opM_of (show _ = some ((AV.agg [(strA k100003_0), (strA a0), (intA (if x63.Span_From > k100003_1 then x63.Span_From else k100003_1))]), []) from rfl)) ?_
        refine imp (opM_of (show _ = some ((blkV TSlot.E 200049 ([(⟨k100003_0, a0, (if x63.Span_From > k100003_1 then x63.Span_From else k100003_1)⟩ : TSlot)] : List TSlot)), [(200049, some ⟨encs TSlot.E ([(⟨k100003_0, a0, (if x63.Span_From > k100003_1 then x63.Span_From else k100003_1)⟩ : TSlot)] : List TSlot), 49⟩)]) from rfl)) ?_
        refine bind_b fun x64 h64 => ?_
        refine imp (opM_of (show _ = some ((ownV TSlot.E 200050 (L90001 ++ ([(⟨k100003_0, a0, (if x63.Span_From > k100003_1 then x63.Span_From else k100003_1)⟩ : TSlot)] : List TSlot))), (appW TSlot.E 200050 90001 49 L90001 ([(⟨k100003_0, a0, (if x63.Span_From > k100003_1 then x63.Span_From else k100003_1)⟩ : TSlot)] : List TSlot))) from (app_own (E := TSlot.E) (l' := L90001) (xs := ([(⟨k100003_0, a0, (if x63.Span_From > k100003_1 then x63.Span_From else k100003_1)⟩ : TSlot)] : List TSlot)) rfl rfl (cellsOf_blk (E := TSlot.E) (ty := 49) rfl rfl (by first | rfl | (rw [look'_mem (by first | rfl | simp [topId_blk] | simp [topId])]; first | rfl | (simp (disch := decide) only [mpushs_nil, mpushs_cons, mget_hd, mget_tl, mget_appW_o, mget_appW_n])))) (by simp) rfl (fun hne => look'_own hne rfl (by first | rfl | (simp (disch := decide) only [mpushs_nil, mpushs_cons, mget_hd, mget_tl, mget_appW_o, mget_appW_n]))) h64))) ?_
        refine imp (chk_of (by rcases (L90001) with _ | ⟨_, _⟩ <;> kernel_rfl)) ?_
        exact fun hg => hN0 _ (Option.some.inj hg).symm _ (weak_mem [(90000, 90000), (90001, 200050)] rfl rfl rfl (okW_cons (.inl (leV_refl _)) (okW_cons (ent_lst (E := TFlowCap.E) _ false) (okW_cons (.inl (leV_refl _)) (okW_cons (.inl (leV_refl _)) (okW_cons (ent_blk (E := intE) (id := 90000) (l' := (L90000.set ((w15 : Int).toNat) (IntKind.wrap .i64 (x61 + (1))))) (by first | rfl | omega | (simp; done) | (simp; omega)) rfl) (okW_cons (ent_own (E := TSlot.E) (id := 200050) (l' := (L90001 ++ ([(⟨k100003_0, a0, (if x63.Span_From > k100003_1 then x63.Span_From else k100003_1)⟩ : TSlot)] : List TSlot))) rfl rfl) (okW_cons (ent_lst (E := TSlotDemand.E) _ false) (okW_cons (.inl (leV_refl _)) (okW_cons (.inl (leV_refl _)) okW_nil))))))))) (okB_cons (okB_cells (cs := encs intE (L90000.set ((w15 : Int).toNat) (IntKind.wrap .i64 (x61 + (1))))) (ty := 3) (encs_clean _) (show mget _ 90000 = _ from (by first | rfl | (simp (disch := decide) only [mpushs_nil, mpushs_cons, mget_hd, mget_tl, mget_appW_o, mget_appW_n])))) (okB_cons (okB_own (E := TSlot.E) (ty := 49) (l' := (L90001 ++ ([(⟨k100003_0, a0, (if x63.Span_From > k100003_1 then x63.Span_From else k100003_1)⟩ : TSlot)] : List TSlot))) rfl (show mget _ 200050 = _ from (by first | rfl | (simp (disch := decide) only [mpushs_nil, mpushs_cons, mget_hd, mget_tl, mget_appW_o, mget_appW_n])))) okB_nil')))
theorem L19_0_0_okM (n : Nat) (a0 : ByteArray) (a2 : List TFlowCap) (c7 : Int) (x47 : List TSlotDemand) (c37 : Int) (v38 : Int) (k100003_0 : ByteArray) (k100003_1 : Int) {t : ((Int × List Int × List TSlot) ⊕ ρ19)} (R : AV → Mem → Prop) (N0 : St → Prop) (hR : ∀ r : ρ19, t = (.inr r) → ∀ u m, MadeT TSlot.E 49 r.1 [Value.int .i64 r.2] u m → R u m) (hN0 : ∀ y : Int × List Int × List TSlot, t = (.inl y) → ∀ s' : St, Weak KK 99 0 s' (h19_0 a0 (lstA TFlowCap.E a2) AV.nils c7 (blkV intE 90000 y.2.1) (ownV TSlot.E 90001 y.2.2) (lstA TSlotDemand.E x47) c37 y.1 [(90000, some ⟨encs intE y.2.1, 3⟩), (90001, ownB TSlot.E 49 y.2.2)]) → N0 s') (k : Nat) (x : Int × List Int × List TSlot) (hx : iterO (fun y : Int × List Int × List TSlot => S19_0_0 n a0 a2 c7 x47 c37 v38 k100003_0 k100003_1 y.1 y.2.1 y.2.2) k x = some t) {s : St} (hw : Weak KK 99 0 s (h19_0_0 a0 (lstA TFlowCap.E a2) AV.nils c7 (blkV intE 90000 x.2.1) (ownV TSlot.E 90001 x.2.2) x.1 (lstA TSlotDemand.E x47) c37 v38 k100003_0 k100003_1 [(90000, some ⟨encs intE x.2.1, 3⟩), (90001, ownB TSlot.E 49 x.2.2)])) : Tri Try.prog KK 99 0 (.loop c19_0_0) s (q19_0_0 R N0) :=
  L19_0_0 R N0 (σ := Nat × (Int × List Int × List TSlot)) (fun z => iterO (fun y : Int × List Int × List TSlot => S19_0_0 n a0 a2 c7 x47 c37 v38 k100003_0 k100003_1 y.1 y.2.1 y.2.2) z.1 z.2 = some t) (fun z => a0) (fun z => (lstA TFlowCap.E a2)) (fun z => AV.nils) (fun z => c7) (fun z => (blkV intE 90000 z.2.2.1)) (fun z => (ownV TSlot.E 90001 z.2.2.2)) (fun z => z.2.1) (fun z => (lstA TSlotDemand.E x47)) (fun z => c37) (fun z => v38) (fun z => k100003_0) (fun z => k100003_1) (fun z => [(90000, some ⟨encs intE z.2.2.1, 3⟩), (90001, ownB TSlot.E 49 z.2.2.2)]) (fun z => z.1) (by
    rintro ⟨k, y⟩ h
    cases k with
    | zero => exact (iterO_zero h).elim
    | succ k =>
      obtain ⟨u, h1, h2, h3⟩ := iterO_elim h
      exact B19_0_0_okM n a0 a2 c7 x47 c37 v38 k100003_0 k100003_1 y.1 y.2.1 y.2.2 R N0 _ (fun r e => hR r (h3 _ e).symm) (fun y' e => hN0 y' (h3 _ e).symm) (fun y' e s' hw => ⟨(k, y'), h2 _ e, Nat.lt_succ_self k, hw⟩) h1) (k, x) hx hw
theorem B19_0_okM (n : Nat) (a0 : ByteArray) (a2 : List TFlowCap) (c7 : Int) (x47 : List TSlotDemand) (c37 : Int) (v38 : Int) (L90000 : List Int) (L90001 : List TSlot) {t : (Int × List Int × List TSlot) ⊕ ρ19} (R : AV → Mem → Prop) (N0 : St → Prop) (hR : ∀ r : ρ19, t = (.inr r) → ∀ u m, MadeT TSlot.E 49 r.1 [Value.int .i64 r.2] u m → R u m) (hN0 : ∀ y : Int × List Int × List TSlot, t = (.inl y) → ∀ s' : St, Weak KK 99 0 s' (h19_0 a0 (lstA TFlowCap.E a2) AV.nils c7 (blkV intE 90000 y.2.1) (ownV TSlot.E 90001 y.2.2) (lstA TSlotDemand.E x47) c37 y.1 [(90000, some ⟨encs intE y.2.1, 3⟩), (90001, ownB TSlot.E 49 y.2.2)]) → N0 s') : S19_0 n a0 a2 c7 x47 c37 v38 L90000 L90001 = some t → B19_0 a0 (lstA TFlowCap.E a2) AV.nils c7 (blkV intE 90000 L90000) (ownV TSlot.E 90001 L90001) (lstA TSlotDemand.E x47) c37 v38 [(90000, some ⟨encs intE L90000, 3⟩), (90001, ownB TSlot.E 49 L90001)] R N0 := by
  unfold S19_0 B19_0
  refine cond_b (fun _ => ?_) (fun _ => ?_)
  · refine bind_b fun x49 h49 => ?_
    refine imp (opP_of (show _ = some ((AV.ept [(strA x49.Call), (intA x49.Time)] 0), []) from (idx_lst (E := TSlotDemand.E) rfl h49))) ?_
    refine imp (opP_of (show _ = some ((AV.agg [(strA x49.Call), (intA x49.Time)]), []) from rfl)) ?_
    refine imp exA2_b ?_
    refine imp exStr_b ?_
    refine imp ex_i64_b ?_
    refine bind_b fun x50 h50 => ?_
    refine imp (callQ_pure (pure_snapN (snL_cons (sn_lst (E := TFlowCap.E) _ _ false) (snL_cons (sn_fn _ _ (snL_cons (sn_ptr _ (ty := 44) (us := [(strA x49.Call), (intA x49.Time)]) (by first | rfl | (simp (disch := decide) only [mpushs_nil, mpushs_cons, mget_hd, mget_tl, mget_appW_o, mget_appW_n])) (snL_cons (sn_sc _ _) (snL_cons (sn_sc _ _) snL_nil))) snL_nil)) snL_nil)) (sg40 h50) rfl)) ?_
    refine imp ex_i64_b ?_
    exact fun hg => L19_0_0_okM n a0 a2 c7 x47 c37 v38 x49.Call x49.Time R N0 hR hN0 n _ hg (weak_mem [(90000, 90000), (90001, 90001), (100003, 100003)] rfl rfl rfl (okW_cons (.inl (leV_refl _)) (okW_cons (ent_lst (E := TFlowCap.E) _ false) (okW_cons (.inl (leV_refl _)) (okW_cons (.inl (leV_refl _)) (okW_cons (ent_blk (E := intE) (id := 90000) (l' := L90000) rfl rfl) (okW_cons (ent_own (E := TSlot.E) (id := 90001) (l' := L90001) rfl rfl) (okW_cons (.inl (leV_refl _)) (okW_cons (.inl (leV_refl _)) (okW_cons (ent_lst (E := TSlotDemand.E) _ false) (okW_cons (.inl (leV_refl _)) (okW_cons (.inl (leV_refl _)) okW_nil))))))))))) (okB_cons (okB_cells (cs := [(strA x49.Call), (intA x49.Time)]) (ty := 44) rfl (show mget _ 100003 = _ from (by first | rfl | (simp (disch := decide) only [mpushs_nil, mpushs_cons, mget_hd, mget_tl, mget_appW_o, mget_appW_n])))) (okB_cons (okB_cells (cs := encs intE L90000) (ty := 3) (encs_clean _) (show mget _ 90000 = _ from (by first | rfl | (simp (disch := decide) only [mpushs_nil, mpushs_cons, mget_hd, mget_tl, mget_appW_o, mget_appW_n])))) (okB_cons (okB_own (E := TSlot.E) (ty := 49) (l' := L90001) rfl (show mget _ 90001 = _ from (by first | rfl | (simp (disch := decide) only [mpushs_nil, mpushs_cons, mget_hd, mget_tl, mget_appW_o, mget_appW_n])))) okB_nil'))))
  · exact fun hg => hR _ (Option.some.inj hg).symm _ _ ⟨_, rfl, (made_own_pf (E := TSlot.E) (ty := 49) (l := L90001) rfl (by first | rfl | (simp (disch := decide) only [mpushs_nil, mpushs_cons, mget_hd, mget_tl, mget_appW_o, mget_appW_n])))⟩
theorem L19_0_okM (n : Nat) (a0 : ByteArray) (a2 : List TFlowCap) (c7 : Int) (x47 : List TSlotDemand) (c37 : Int) {t : ρ19} (R : AV → Mem → Prop) (hR : ∀ r : ρ19, t = r → ∀ u m, MadeT TSlot.E 49 r.1 [Value.int .i64 r.2] u m → R u m) (k : Nat) (x : Int × List Int × List TSlot) (hx : iterO (fun y : Int × List Int × List TSlot => S19_0 n a0 a2 c7 x47 c37 y.1 y.2.1 y.2.2) k x = some t) {s : St} (hw : Weak KK 99 0 s (h19_0 a0 (lstA TFlowCap.E a2) AV.nils c7 (blkV intE 90000 x.2.1) (ownV TSlot.E 90001 x.2.2) (lstA TSlotDemand.E x47) c37 x.1 [(90000, some ⟨encs intE x.2.1, 3⟩), (90001, ownB TSlot.E 49 x.2.2)])) : Tri Try.prog KK 99 0 (.loop c19_0) s (q19_0 R ) :=
  L19_0 R  (σ := Nat × (Int × List Int × List TSlot)) (fun z => iterO (fun y : Int × List Int × List TSlot => S19_0 n a0 a2 c7 x47 c37 y.1 y.2.1 y.2.2) z.1 z.2 = some t) (fun z => a0) (fun z => (lstA TFlowCap.E a2)) (fun z => AV.nils) (fun z => c7) (fun z => (blkV intE 90000 z.2.2.1)) (fun z => (ownV TSlot.E 90001 z.2.2.2)) (fun z => (lstA TSlotDemand.E x47)) (fun z => c37) (fun z => z.2.1) (fun z => [(90000, some ⟨encs intE z.2.2.1, 3⟩), (90001, ownB TSlot.E 49 z.2.2.2)]) (fun z => z.1) (by
    rintro ⟨k, y⟩ h
    cases k with
    | zero => exact (iterO_zero h).elim
    | succ k =>
      obtain ⟨u, h1, h2, h3⟩ := iterO_elim h
      exact B19_0_okM n a0 a2 c7 x47 c37 y.1 y.2.1 y.2.2 R  _ (fun r e => hR r (h3 _ e).symm)  (fun y' e s' hw => ⟨(k, y'), h2 _ e, Nat.lt_succ_self k, hw⟩) h1) (k, x) hx hw
theorem g19_okM (n : Nat) (a0 : ByteArray) (a1 : List TSlotDemand) (a2 : List TFlowCap) {t : ρ19} (R : AV → Mem → Prop) (hR : ∀ r : ρ19, t = r → ∀ u m, MadeT TSlot.E 49 r.1 [Value.int .i64 r.2] u m → R u m) : g19 n a0 a1 a2 = some t → F19 a0 (lstA TSlotDemand.E a1) (lstA TFlowCap.E a2) R := by
  unfold g19 F19
  refine bind_b fun x43 h43 => ?_
  refine imp (callQ_says (sg34 h43)) ?_
  refine imp exB_b ?_
  refine cond_b (fun _ => ?_) (fun _ => ?_)
  · exact fun hg => hR _ (Option.some.inj hg).symm _ _ ⟨_, rfl, made_nils_pf⟩
  · refine bind_b fun x44 h44 => ?_
    refine imp (callQ_says (sg35 h44)) ?_
    refine imp ex_i64_b ?_
    refine cond_b (fun _ => ?_) (fun _ => ?_)
    · exact fun hg => hR _ (Option.some.inj hg).symm _ _ ⟨_, rfl, made_nils_pf⟩
    · refine bind_b fun x45 h45 => ?_
      refine imp (callQ_says (sg10 h45)) ?_
      refine imp ex_i64_b ?_
      refine cond_b (fun _ => ?_) (fun _ => ?_)
      · exact fun hg => hR _ (Option.some.inj hg).symm _ _ ⟨_, rfl, made_nils_pf⟩
      · refine bind_b fun x46 h46 => ?_
        refine imp (callW_D (show PureD _ _ _ _ _ _ (ownV TSlotDemand.E 205 a1) [(205, ownB TSlotDemand.E 44 a1)] from cloneC21 h46)) ?_
        refine bind_b fun x47 h47 => ?_
        have lh47 := sortO_len h47
        refine imp (callW_sortV (E := TSlotDemand.E) (ty := 44) (l := a1) (cmp := (fun x y => g37 n x y)) rfl TSlotDemand.ok sorts36 none36 plain36 rfl (by first | rfl | (simp (disch := decide) only [mpushs_nil, mpushs_cons, mget_hd, mget_tl, mget_appW_o, mget_appW_n])) capsOk_nil (fun x y z h => sg37 h) h47) ?_
        refine imp exT0_b ?_
        refine imp (opP_of (show _ = some ((intA (a2.length : Int)), []) from rfl)) ?_
        refine imp ex_i64_b ?_
        refine bind_b fun x48 h48 => ?_
        refine imp (opN_of (show _ = some ((blkV intE 337 (List.replicate x48 (0))), [(337, some ⟨encs intE (List.replicate x48 (0)), 3⟩)]) from (mks_ok (E := intE) (z := (0)) rfl rfl h48))) ?_
        refine imp (opP_of (show _ = some ((intA (x47.length : Int)), []) from (len_ownL (by first | rfl | omega | (simp; done) | (simp; omega))))) ?_
        refine imp ex_i64_b ?_
        exact fun hg => L19_0_okM n a0 a2 (0) x47 (x47.length : Int) R  hR n _ hg (weak_mem [(90000, 337), (90001, 89501)] rfl rfl rfl (okW_cons (.inl (leV_refl _)) (okW_cons (ent_lst (E := TFlowCap.E) _ false) (okW_cons (.inl (leV_refl _)) (okW_cons (.inl (leV_refl _)) (okW_cons (ent_blk (E := intE) (id := 337) (l' := (List.replicate x48 (0))) rfl rfl) (okW_cons ent_nils_own (okW_cons (ent_own_frz (E := TSlotDemand.E) (ty := 44) (l' := x47) (by first | rfl | omega | (simp; done) | (simp; omega)) (by first | rfl | (simp (disch := decide) only [mpushs_nil, mpushs_cons, mget_hd, mget_tl, mget_appW_o, mget_appW_n])) rfl) (okW_cons (.inl (leV_refl _)) (okW_cons (.inl (leV_refl _)) okW_nil))))))))) (okB_cons (okB_cells (cs := encs intE (List.replicate x48 (0))) (ty := 3) (encs_clean _) (show mget _ 337 = _ from (by first | rfl | (simp (disch := decide) only [mpushs_nil, mpushs_cons, mget_hd, mget_tl, mget_appW_o, mget_appW_n])))) (okB_cons okB_nil okB_nil')))
theorem mg19C {n k : Nat} {look : Nat → Option ABlk} {a0 : ByteArray} {a1 : List TSlotDemand} {a2 : List TFlowCap} {t : ρ19} (h : g19 n a0 a1 a2 = some t) : PureD Try.prog KK.gl look k 19 [(strA a0), (lstA TSlotDemand.E a1), (lstA TFlowCap.E a2)] (.tup (ownV TSlot.E k t.1 :: ([Value.int .i64 t.2] : List Value).map AV.sc)) [(k, ownB TSlot.E 49 t.1)] :=
  made_tupC (by first | rfl | simp [cleans, clean, encs_clean, En.cln]) (F19_own a0 (lstA TSlotDemand.E a1) (lstA TFlowCap.E a2) _ (g19_okM n a0 a1 a2 (MadeT TSlot.E 49 t.1 [Value.int .i64 t.2]) (fun r e u m h => by rw [e]; exact h) h))
theorem mg19S {n k : Nat} {look : Nat → Option ABlk} {args : List AV} {a0 : ByteArray} {a1 : List TSlotDemand} {a2 : List TFlowCap} {t : ρ19} (h : g19 n a0 a1 a2 = some t) (hs : SnL look 6 args [(strA a0), (lstA TSlotDemand.E a1), (lstA TFlowCap.E a2)]) : PureD Try.prog KK.gl look k 19 args (.tup (ownV TSlot.E k t.1 :: ([Value.int .i64 t.2] : List Value).map AV.sc)) [(k, ownB TSlot.E 49 t.1)] :=
  made_tupS (fun _ => rfl) hs (F19_own a0 (lstA TSlotDemand.E a1) (lstA TFlowCap.E a2) _ (g19_okM n a0 a1 a2 (MadeT TSlot.E 49 t.1 [Value.int .i64 t.2]) (fun r e u m h => by rw [e]; exact h) h))
/- skyway/skywaykeep3.pick -/
theorem g20_ok (n : Nat) (a0 : Int) (a1 : Int) {t : ρ20} (R : AV → Mem → Prop) (hR : ∀ r : ρ20, t = r → ∀ u m, Ans ((intA r)) u m → R u m) : g20 n a0 a1 = some t → F20 a0 a1 R := by
  unfold g20 F20
  refine imp (opP_of (show _ = some ((AV.sc (.int .u64 (IntKind.wrap .u64 a0))), []) from (by kernel_rfl))) ?_
  refine imp ex_u64_b ?_
  refine imp (opP_of (show _ = some ((AV.sc (.int .u64 (IntKind.wrap .u64 a1))), []) from (by kernel_rfl))) ?_
  refine imp ex_u64_b ?_
  refine bind_b fun x66 h66 => ?_
  refine imp (opP_of (show _ = some ((AV.sc (.int .u64 x66)), []) from (opA_rem h66))) ?_
  refine imp ex_u64_b ?_
  refine imp (opP_of (show _ = some ((intA (IntKind.wrap .i64 x66)), []) from (by kernel_rfl))) ?_
  refine imp ex_i64_b ?_
  exact fun hg => ret1 (hR _ (Option.some.inj hg).symm) (fz_sc _ _)
theorem sg20 {n : Nat} {a0 : Int} {a1 : Int} {t : ρ20} (h : g20 n a0 a1 = some t) : Says Try.prog KK.gl 20 [(intA a0), (intA a1)] ((intA t)) :=
  says_of_own (by first | rfl | simp [cleans, clean, encs_clean, En.cln]) (by first | rfl | simp [cleans, clean, encs_clean, En.cln]) (F20_own a0 a1 _ (g20_ok n a0 a1 (Ans ((intA t))) (fun r e u m h => by rw [e]; exact h) h))
/- slices.Equal[[]skyway/api.Slot,skyway/api.Slot] -/
theorem B22_0_ok (n : Nat) (a0 : List TSlot) (a1 : List TSlot) (c4 : Bool) (c12 : Int) (v13 : Int) {t : (Int) ⊕ ρ22} (R : AV → Mem → Prop) (N0 : St → Prop) (hR : ∀ r : ρ22, t = (.inr r) → ∀ u m, Ans ((boolA r)) u m → R u m) (hN0 : ∀ y : Int, t = (.inl y) → ∀ s' : St, Weak KK 26 0 s' (h22_0 (lstA TSlot.E a0) (lstA TSlot.E a1) c4 c12 y []) → N0 s') : S22_0 n a0 a1 c4 c12 v13 = some t → B22_0 (lstA TSlot.E a0) (lstA TSlot.E a1) c4 c12 v13 [] R N0 := by
  unfold S22_0 B22_0
  refine cond_b (fun _ => ?_) (fun _ => ?_)
  · refine bind_b fun x72 h72 => ?_
    refine imp (opP_of (show _ = some ((AV.ept [(strA x72.Call), (strA x72.Place), (intA x72.Time)] 0), []) from (idx_lst (E := TSlot.E) rfl h72))) ?_
    refine imp (opP_of (show _ = some ((AV.agg [(strA x72.Call), (strA x72.Place), (intA x72.Time)]), []) from rfl)) ?_
    refine imp exA3_b ?_
    refine imp exStr_b ?_
    refine imp exStr_b ?_
    refine imp ex_i64_b ?_
    refine bind_b fun x73 h73 => ?_
    refine imp (opP_of (show _ = some ((AV.ept [(strA x73.Call), (strA x73.Place), (intA x73.Time)] 0), []) from (idx_lst (E := TSlot.E) rfl h73))) ?_
    refine imp (opP_of (show _ = some ((AV.agg [(strA x73.Call), (strA x73.Place), (intA x73.Time)]), []) from rfl)) ?_
    refine imp exA3_b ?_
    refine imp exStr_b ?_
    refine imp exStr_b ?_
    refine imp ex_i64_b ?_
    refine imp (opP_of (show _ = some ((boolA (!(decide (x72 = x73)))), []) from (TSlot.neq49 (x72) (x73)))) ?_
    refine imp exB_b ?_
    refine cond_b (fun _ => ?_) (fun _ => ?_)
    · exact fun hg => ret1 (hR _ (Option.some.inj hg).symm) (fz_sc _ _)
    · exact fun hg => hN0 _ (Option.some.inj hg).symm _ (weak_mem [] rfl rfl rfl (okW_cons (ent_lst (E := TSlot.E) _ false) (okW_cons (ent_lst (E := TSlot.E) _ false) (okW_cons (.inl (leV_refl _)) (okW_cons (.inl (leV_refl _)) (okW_cons (.inl (leV_refl _)) okW_nil))))) okB_nil')
  · exact fun hg => ret1 (hR _ (Option.some.inj hg).symm) (fz_sc _ _)
theorem L22_0_ok (n : Nat) (a0 : List TSlot) (a1 : List TSlot) (c4 : Bool) (c12 : Int) {t : ρ22} (R : AV → Mem → Prop) (hR : ∀ r : ρ22, t = r → ∀ u m, Ans ((boolA r)) u m → R u m) (k : Nat) (x : Int) (hx : iterO (fun y : Int => S22_0 n a0 a1 c4 c12 y) k x = some t) {s : St} (hw : Weak KK 26 0 s (h22_0 (lstA TSlot.E a0) (lstA TSlot.E a1) c4 c12 x [])) : Tri Try.prog KK 26 0 (.loop c22_0) s (q22_0 R ) :=
  L22_0 R  (σ := Nat × (Int)) (fun z => iterO (fun y : Int => S22_0 n a0 a1 c4 c12 y) z.1 z.2 = some t) (fun z => (lstA TSlot.E a0)) (fun z => (lstA TSlot.E a1)) (fun z => c4) (fun z => c12) (fun z => z.2) (fun z => []) (fun z => z.1) (by
    rintro ⟨k, y⟩ h
    cases k with
    | zero => exact (iterO_zero h).elim
    | succ k =>
      obtain ⟨u, h1, h2, h3⟩ := iterO_elim h
      exact B22_0_ok n a0 a1 c4 c12 y R  _ (fun r e => hR r (h3 _ e).symm)  (fun y' e s' hw => ⟨(k, y'), h2 _ e, Nat.lt_succ_self k, hw⟩) h1) (k, x) hx hw
theorem g22_ok (n : Nat) (a0 : List TSlot) (a1 : List TSlot) {t : ρ22} (R : AV → Mem → Prop) (hR : ∀ r : ρ22, t = r → ∀ u m, Ans ((boolA r)) u m → R u m) : g22 n a0 a1 = some t → F22 (lstA TSlot.E a0) (lstA TSlot.E a1) R := by
  unfold g22 F22
  refine imp (opP_of (show _ = some ((intA (a0.length : Int)), []) from rfl)) ?_
  refine imp ex_i64_b ?_
  refine imp (opP_of (show _ = some ((intA (a1.length : Int)), []) from rfl)) ?_
  refine imp ex_i64_b ?_
  refine cond_b (fun _ => ?_) (fun _ => ?_)
  · exact fun hg => ret1 (hR _ (Option.some.inj hg).symm) (fz_sc _ _)
  · refine imp (opP_of (show _ = some ((intA (a0.length : Int)), []) from rfl)) ?_
    refine imp ex_i64_b ?_
    exact fun hg => L22_0_ok n a0 a1 false (a0.length : Int) R  hR n _ hg (weak_mem [] rfl rfl rfl (okW_cons (ent_lst (E := TSlot.E) _ false) (okW_cons (ent_lst (E := TSlot.E) _ false) (okW_cons (.inl (leV_refl _)) (okW_cons (.inl (leV_refl _)) (okW_cons (.inl (leV_refl _)) okW_nil))))) okB_nil')
theorem sg22 {n : Nat} {a0 : List TSlot} {a1 : List TSlot} {t : ρ22} (h : g22 n a0 a1 = some t) : Says Try.prog KK.gl 22 [(lstA TSlot.E a0), (lstA TSlot.E a1)] ((boolA t)) :=
  says_of_own (by first | rfl | simp [cleans, clean, encs_clean, En.cln]) (by first | rfl | simp [cleans, clean, encs_clean, En.cln]) (F22_own (lstA TSlot.E a0) (lstA TSlot.E a1) _ (g22_ok n a0 a1 (Ans ((boolA t))) (fun r e u m h => by rw [e]; exact h) h))
/- skyway/skywaykeep3.SlotEarlier -/
theorem B5_0_ok (n : Nat) (a0 : List TSlotDemand) (a1 : List TFlowCap) (a2 : Int) (c6 : Bool) (c7 : List TSlot) (c31 : Int) (v9 : Int) (v32 : Int) {t : (Int × Int) ⊕ ρ5} (R : AV → Mem → Prop) (N0 : St → Prop) (hR : ∀ r : ρ5, t = (.inr r) → ∀ u m, Ans ((boolA r)) u m → R u m) (hN0 : ∀ y : Int × Int, t = (.inl y) → ∀ s' : St, Weak KK 87 0 s' (h5_0 (lstA TSlotDemand.E a0) (lstA TFlowCap.E a1) a2 c6 (lstA TSlot.E c7) y.1 (lstA TSlotDemand.E a0) c31 y.2 []) → N0 s') : S5_0 n a0 a1 a2 c6 c7 c31 v9 v32 = some t → B5_0 (lstA TSlotDemand.E a0) (lstA TFlowCap.E a1) a2 c6 (lstA TSlot.E c7) v9 (lstA TSlotDemand.E a0) c31 v32 [] R N0 := by
  unfold S5_0 B5_0
  refine cond_b (fun _ => ?_) (fun _ => ?_)
  · refine bind_b fun x65 h65 => ?_
    refine imp (opP_of (show _ = some ((AV.ept [(strA x65.Call), (intA x65.Time)] 0), []) from (idx_lst (E := TSlotDemand.E) rfl h65))) ?_
    refine imp (opP_of (show _ = some ((AV.agg [(strA x65.Call), (intA x65.Time)]), []) from rfl)) ?_
    refine imp exA2_b ?_
    refine imp exStr_b ?_
    refine imp ex_i64_b ?_
    refine cond_b (fun _ => ?_) (fun _ => ?_)
    · exact fun hg => ret1 (hR _ (Option.some.inj hg).symm) (fz_sc _ _)
    · refine imp (opP_of (show _ = some ((intA (if x65.Time > v9 then x65.Time else v9)), []) from (by kernel_rfl))) ?_
      refine imp ex_i64_b ?_
      exact fun hg => hN0 _ (Option.some.inj hg).symm _ (weak_mem [] rfl rfl rfl (okW_cons (ent_lst (E := TSlotDemand.E) _ false) (okW_cons (ent_lst (E := TFlowCap.E) _ false) (okW_cons (.inl (leV_refl _)) (okW_cons (.inl (leV_refl _)) (okW_cons (ent_lst (E := TSlot.E) _ false) (okW_cons (.inl (leV_refl _)) (okW_cons (ent_lst (E := TSlotDemand.E) _ false) (okW_cons (.inl (leV_refl _)) (okW_cons (.inl (leV_refl _)) okW_nil))))))))) okB_nil')
  · refine bind_b fun x67 h67 => ?_
    refine imp (callQ_says (sg20 h67)) ?_
    refine imp ex_i64_b ?_
    refine imp (opP_of (show _ = some ((intA (if (IntKind.wrap .i64 (v9 + x67)) < (200000) then (IntKind.wrap .i64 (v9 + x67)) else (200000))), []) from (by kernel_rfl))) ?_
    refine imp ex_i64_b ?_
    refine bind_b fun x68 h68 => ?_
    refine imp (callW_D (show PureD _ _ _ _ _ _ (ownV TSlotDemand.E 100071 a0) [(100071, ownB TSlotDemand.E 44 a0)] from cloneC21 h68)) ?_
    refine imp (opP_of (show _ = some ((AV.agg [(strA (⟨#[90, 90, 90, 90]⟩ : ByteArray)), (intA (if (IntKind.wrap .i64 (v9 + x67)) < (200000) then (IntKind.wrap .i64 (v9 + x67)) else (200000)))]), []) from rfl)) ?_
    refine imp (opN_of (show _ = some ((blkV TSlotDemand.E 100137 ([(⟨(⟨#[90, 90, 90, 90]⟩ : ByteArray), (if (IntKind.wrap .i64 (v9 + x67)) < (200000) then (IntKind.wrap .i64 (v9 + x67)) else (200000))⟩ : TSlotDemand)] : List TSlotDemand)), [(100137, some ⟨encs TSlotDemand.E ([(⟨(⟨#[90, 90, 90, 90]⟩ : ByteArray), (if (IntKind.wrap .i64 (v9 + x67)) < (200000) then (IntKind.wrap .i64 (v9 + x67)) else (200000))⟩ : TSlotDemand)] : List TSlotDemand), 44⟩)]) from rfl)) ?_
    refine bind_b fun x69 h69 => ?_
    refine imp (opN_of (show _ = some ((ownV TSlotDemand.E 100138 (a0 ++ ([(⟨(⟨#[90, 90, 90, 90]⟩ : ByteArray), (if (IntKind.wrap .i64 (v9 + x67)) < (200000) then (IntKind.wrap .i64 (v9 + x67)) else (200000))⟩ : TSlotDemand)] : List TSlotDemand))), (appW TSlotDemand.E 100138 100071 44 a0 ([(⟨(⟨#[90, 90, 90, 90]⟩ : ByteArray), (if (IntKind.wrap .i64 (v9 + x67)) < (200000) then (IntKind.wrap .i64 (v9 + x67)) else (200000))⟩ : TSlotDemand)] : List TSlotDemand))) from (app_own (E := TSlotDemand.E) (l' := a0) (xs := ([(⟨(⟨#[90, 90, 90, 90]⟩ : ByteArray), (if (IntKind.wrap .i64 (v9 + x67)) < (200000) then (IntKind.wrap .i64 (v9 + x67)) else (200000))⟩ : TSlotDemand)] : List TSlotDemand)) rfl rfl (cellsOf_blk (E := TSlotDemand.E) (ty := 44) rfl rfl (by first | rfl | (simp (disch := decide) only [mpushs_nil, mpushs_cons, mget_hd, mget_tl, mget_appW_o, mget_appW_n]))) (by simp) rfl (fun hne => Eq.trans (by first | rfl | (simp (disch := decide) only [mpushs_nil, mpushs_cons, mget_hd, mget_tl, mget_appW_o, mget_appW_n])) (ownB_ne hne)) h69))) ?_
    refine bind_b fun x70 h70 => ?_
    refine imp (callW_D (show PureD _ _ _ _ _ _ (AV.tup [(ownV TSlot.E 100140 x70.1), (intA x70.2)]) [(100140, ownB TSlot.E 49 x70.1)] from mg19S h70 (snL_cons (sn_sc _ _) (snL_cons (sn_own (E := TSlotDemand.E) (ty := 44) (l' := (a0 ++ ([(⟨(⟨#[90, 90, 90, 90]⟩ : ByteArray), (if (IntKind.wrap .i64 (v9 + x67)) < (200000) then (IntKind.wrap .i64 (v9 + x67)) else (200000))⟩ : TSlotDemand)] : List TSlotDemand))) _ TSlotDemand.nf rfl (by first | rfl | (simp (disch := decide) only [mpushs_nil, mpushs_cons, mget_hd, mget_tl, mget_appW_o, mget_appW_n]))) (snL_cons (sn_lst (E := TFlowCap.E) _ _ false) snL_nil))))) ?_
    refine imp exT2_b ?_
    refine imp ex_i64_b ?_
    refine cond_b (fun _ => ?_) (fun _ => ?_)
    · refine imp (opP_of (show _ = some ((intA (x70.1.length : Int)), []) from len_own)) ?_
      refine imp ex_i64_b ?_
      refine cond_b (fun _ => ?_) (fun _ => ?_)
      · exact fun hg => ret1 (hR _ (Option.some.inj hg).symm) (fz_sc _ _)
      · refine cond_b (fun _ => ?_) (fun _ => ?_)
        · refine imp (opP_of (show _ = some ((intA (x70.1.length : Int)), []) from len_own)) ?_
          refine imp ex_i64_b ?_
          refine imp (opP_of (show _ = some ((intA (c7.length : Int)), []) from rfl)) ?_
          refine imp ex_i64_b ?_
          refine cond_b (fun _ => ?_) (fun _ => ?_)
          · refine imp (opP_of (show _ = some ((intA (c7.length : Int)), []) from rfl)) ?_
            refine imp ex_i64_b ?_
            refine bind_b fun x71 h71 => ?_
            refine imp (opP_of (show _ = some ((subV TSlot.E 100140 x70.1.length 0 x71.length), []) from (slo_hi (E := TSlot.E) (e := 49) (by kernel_rfl) (by kernel_rfl) rfl h71))) ?_
            refine bind_b fun x74 h74 => ?_
            refine imp (callQ_pure (pure_snapN (snL_cons (sn_sub (E := TSlot.E) (ty := 49) (l := x70.1) _ TSlot.nf h71 (by first | rfl | (simp (disch := decide) only [mpushs_nil, mpushs_cons, mget_hd, mget_tl, mget_appW_o, mget_appW_n]))) (snL_cons (sn_lst (E := TSlot.E) _ _ false) snL_nil)) (sg22 h74) rfl)) ?_
            refine imp exB_b ?_
            exact fun hg => ret1 (hR _ (Option.some.inj hg).symm) (fz_sc _ _)
          · exact fun hg => ret1 (hR _ (Option.some.inj hg).symm) (fz_sc _ _)
        · exact fun hg => ret1 (hR _ (Option.some.inj hg).symm) (fz_sc _ _)
    · refine cond_b (fun _ => ?_) (fun _ => ?_)
      · refine imp (opP_of (show _ = some ((intA (x70.1.length : Int)), []) from len_own)) ?_
        refine imp ex_i64_b ?_
        refine imp (opP_of (show _ = some ((intA (c7.length : Int)), []) from rfl)) ?_
        refine imp ex_i64_b ?_
        refine cond_b (fun _ => ?_) (fun _ => ?_)
        · refine imp (opP_of (show _ = some ((intA (c7.length : Int)), []) from rfl)) ?_
          refine imp ex_i64_b ?_
          refine bind_b fun x75 h75 => ?_
          refine imp (opP_of (show _ = some ((subV TSlot.E 100140 x70.1.length 0 x75.length), []) from (slo_hi (E := TSlot.E) (e := 49) (by kernel_rfl) (by kernel_rfl) rfl h75))) ?_
          refine bind_b fun x76 h76 => ?_
          refine imp (callQ_pure (pure_snapN (snL_cons (sn_sub (E := TSlot.E) (ty := 49) (l := x70.1) _ TSlot.nf h75 (by first | rfl | (simp (disch := decide) only [mpushs_nil, mpushs_cons, mget_hd, mget_tl, mget_appW_o, mget_appW_n]))) (snL_cons (sn_lst (E := TSlot.E) _ _ false) snL_nil)) (sg22 h76) rfl)) ?_
          refine imp exB_b ?_
          exact fun hg => ret1 (hR _ (Option.some.inj hg).symm) (fz_sc _ _)
        · exact fun hg => ret1 (hR _ (Option.some.inj hg).symm) (fz_sc _ _)
      · exact fun hg => ret1 (hR _ (Option.some.inj hg).symm) (fz_sc _ _)
theorem L5_0_ok (n : Nat) (a0 : List TSlotDemand) (a1 : List TFlowCap) (a2 : Int) (c6 : Bool) (c7 : List TSlot) (c31 : Int) {t : ρ5} (R : AV → Mem → Prop) (hR : ∀ r : ρ5, t = r → ∀ u m, Ans ((boolA r)) u m → R u m) (k : Nat) (x : Int × Int) (hx : iterO (fun y : Int × Int => S5_0 n a0 a1 a2 c6 c7 c31 y.1 y.2) k x = some t) {s : St} (hw : Weak KK 87 0 s (h5_0 (lstA TSlotDemand.E a0) (lstA TFlowCap.E a1) a2 c6 (lstA TSlot.E c7) x.1 (lstA TSlotDemand.E a0) c31 x.2 [])) : Tri Try.prog KK 87 0 (.loop c5_0) s (q5_0 R ) :=
  L5_0 R  (σ := Nat × (Int × Int)) (fun z => iterO (fun y : Int × Int => S5_0 n a0 a1 a2 c6 c7 c31 y.1 y.2) z.1 z.2 = some t) (fun z => (lstA TSlotDemand.E a0)) (fun z => (lstA TFlowCap.E a1)) (fun z => a2) (fun z => c6) (fun z => (lstA TSlot.E c7)) (fun z => z.2.1) (fun z => (lstA TSlotDemand.E a0)) (fun z => c31) (fun z => z.2.2) (fun z => []) (fun z => z.1) (by
    rintro ⟨k, y⟩ h
    cases k with
    | zero => exact (iterO_zero h).elim
    | succ k =>
      obtain ⟨u, h1, h2, h3⟩ := iterO_elim h
      exact B5_0_ok n a0 a1 a2 c6 c7 c31 y.1 y.2 R  _ (fun r e => hR r (h3 _ e).symm)  (fun y' e s' hw => ⟨(k, y'), h2 _ e, Nat.lt_succ_self k, hw⟩) h1) (k, x) hx hw
theorem g5_ok (n : Nat) (a0 : List TSlotDemand) (a1 : List TFlowCap) (a2 : Int) {t : ρ5} (R : AV → Mem → Prop) (hR : ∀ r : ρ5, t = r → ∀ u m, Ans ((boolA r)) u m → R u m) : g5 n a0 a1 a2 = some t → F5 (lstA TSlotDemand.E a0) (lstA TFlowCap.E a1) a2 R := by
  unfold g5 F5
  refine bind_b fun x0 h0 => ?_
  refine imp (callQ_says (sg18 h0)) ?_
  refine imp exB_b ?_
  refine cond_b (fun _ => ?_) (fun _ => ?_)
  · exact fun hg => ret1 (hR _ (Option.some.inj hg).symm) (fz_sc _ _)
  · refine bind_b fun x42 h42 => ?_
    refine imp (callW_D (show PureD _ _ _ _ _ _ (AV.tup [(ownV TSlot.E 68 x42.1), (intA x42.2)]) [(68, ownB TSlot.E 49 x42.1)] from mg19C h42)) ?_
    refine imp exT2_b ?_
    refine imp ex_i64_b ?_
    refine cond_b (fun _ => ?_) (fun _ => ?_)
    · exact fun hg => ret1 (hR _ (Option.some.inj hg).symm) (fz_sc _ _)
    · refine imp (opP_of (show _ = some ((intA (a0.length : Int)), []) from rfl)) ?_
      refine imp ex_i64_b ?_
      refine cond_b (fun _ => ?_) (fun _ => ?_)
      · exact fun hg => ret1 (hR _ (Option.some.inj hg).symm) (fz_sc _ _)
      · refine imp (opP_of (show _ = some ((intA (a0.length : Int)), []) from rfl)) ?_
        refine imp ex_i64_b ?_
        exact fun hg => L5_0_ok n a0 a1 a2 false x42.1 (a0.length : Int) R  hR n _ hg (weak_mem [] rfl rfl rfl (okW_cons (ent_lst (E := TSlotDemand.E) _ false) (okW_cons (ent_lst (E := TFlowCap.E) _ false) (okW_cons (.inl (leV_refl _)) (okW_cons (.inl (leV_refl _)) (okW_cons (ent_own_frz (E := TSlot.E) (ty := 49) (l' := x42.1) rfl (by first | rfl | (simp (disch := decide) only [mpushs_nil, mpushs_cons, mget_hd, mget_tl, mget_appW_o, mget_appW_n])) rfl) (okW_cons (.inl (leV_refl _)) (okW_cons (ent_lst (E := TSlotDemand.E) _ false) (okW_cons (.inl (leV_refl _)) (okW_cons (.inl (leV_refl _)) okW_nil))))))))) okB_nil')
theorem sg5 {n : Nat} {a0 : List TSlotDemand} {a1 : List TFlowCap} {a2 : Int} {t : ρ5} (h : g5 n a0 a1 a2 = some t) : Says Try.prog KK.gl 5 [(lstA TSlotDemand.E a0), (lstA TFlowCap.E a1), (intA a2)] ((boolA t)) :=
  says_of_own (by first | rfl | simp [cleans, clean, encs_clean, En.cln]) (by first | rfl | simp [cleans, clean, encs_clean, En.cln]) (F5_own (lstA TSlotDemand.E a0) (lstA TFlowCap.E a1) a2 _ (g5_ok n a0 a1 a2 (Ans ((boolA t))) (fun r e u m h => by rw [e]; exact h) h))
/- skyway/slot.index$1 -/
theorem g55_ok (n : Nat) (a0 : TSlot) (a1_0 : ByteArray) {t : ρ55} (R : AV → Mem → Prop) (hR : ∀ r : ρ55, t = r → ∀ u m, Ans ((boolA r)) u m → R u m) : g55 n a0 a1_0 = some t → F55 a0.Call a0.Place a0.Time (AV.ept [(strA a1_0)] 0) R := by
  unfold g55 F55
  refine imp (opP_of (show _ = some ((strA a1_0), []) from rfl)) ?_
  refine imp exStr_b ?_
  exact fun hg => ret1 (hR _ (Option.some.inj hg).symm) (fz_sc _ _)
theorem sg55 {n : Nat} {a0 : TSlot} {a1_0 : ByteArray} {t : ρ55} (h : g55 n a0 a1_0 = some t) : Says Try.prog KK.gl 55 [(AV.agg [(strA a0.Call), (strA a0.Place), (intA a0.Time)]), (AV.ept [(strA a1_0)] 0)] ((boolA t)) :=
  says_of_own (by first | rfl | simp [cleans, clean, encs_clean, En.cln]) (by first | rfl | simp [cleans, clean, encs_clean, En.cln]) (F55_own a0.Call a0.Place a0.Time (AV.ept [(strA a1_0)] 0) _ (g55_ok n a0 a1_0 (Ans ((boolA t))) (fun r e u m h => by rw [e]; exact h) h))
/- slices.IndexFunc[[]skyway/api.Slot,skyway/api.Slot] -/
theorem B24_0_ok (n : Nat) (a0 : List TSlot) (a1_0_0 : ByteArray) (c4 : Int) (c7 : Int) (v8 : Int) {t : (Int) ⊕ ρ24} (R : AV → Mem → Prop) (N0 : St → Prop) (hR : ∀ r : ρ24, t = (.inr r) → ∀ u m, Ans ((intA r)) u m → R u m) (hN0 : ∀ y : Int, t = (.inl y) → ∀ s' : St, Weak KK 19 0 s' (h24_0 (lstA TSlot.E a0) (AV.fn 55 [(AV.ept [(strA a1_0_0)] 0)]) c4 c7 y []) → N0 s') : S24_0 n a0 a1_0_0 c4 c7 v8 = some t → B24_0 (lstA TSlot.E a0) (AV.fn 55 [(AV.ept [(strA a1_0_0)] 0)]) c4 c7 v8 [] R N0 := by
  unfold S24_0 B24_0
  refine cond_b (fun _ => ?_) (fun _ => ?_)
  · refine bind_b fun x85 h85 => ?_
    refine imp (opP_of (show _ = some ((AV.ept [(strA x85.Call), (strA x85.Place), (intA x85.Time)] 0), []) from (idx_lst (E := TSlot.E) rfl h85))) ?_
    refine imp (opP_of (show _ = some ((AV.agg [(strA x85.Call), (strA x85.Place), (intA x85.Time)]), []) from rfl)) ?_
    refine imp exA3_b ?_
    refine imp exStr_b ?_
    refine imp exStr_b ?_
    refine imp ex_i64_b ?_
    refine bind_b fun x86 h86 => ?_
    refine imp fnArgs_b ?_
    refine imp (cond_ff rfl) ?_
    refine imp (callW_says (sg55 h86)) ?_
    refine imp exB_b ?_
    refine cond_b (fun _ => ?_) (fun _ => ?_)
    · exact fun hg => ret1 (hR _ (Option.some.inj hg).symm) (fz_sc _ _)
    · exact fun hg => hN0 _ (Option.some.inj hg).symm _ (weak_mem [] rfl rfl rfl (okW_cons (ent_lst (E := TSlot.E) _ false) (okW_cons (ent_clean (leV_refl _) (by simp [clean, cleans, encs_clean])) (okW_cons (.inl (leV_refl _)) (okW_cons (.inl (leV_refl _)) (okW_cons (.inl (leV_refl _)) okW_nil))))) okB_nil')
  · exact fun hg => ret1 (hR _ (Option.some.inj hg).symm) (fz_sc _ _)
theorem L24_0_ok (n : Nat) (a0 : List TSlot) (a1_0_0 : ByteArray) (c4 : Int) (c7 : Int) {t : ρ24} (R : AV → Mem → Prop) (hR : ∀ r : ρ24, t = r → ∀ u m, Ans ((intA r)) u m → R u m) (k : Nat) (x : Int) (hx : iterO (fun y : Int => S24_0 n a0 a1_0_0 c4 c7 y) k x = some t) {s : St} (hw : Weak KK 19 0 s (h24_0 (lstA TSlot.E a0) (AV.fn 55 [(AV.ept [(strA a1_0_0)] 0)]) c4 c7 x [])) : Tri Try.prog KK 19 0 (.loop c24_0) s (q24_0 R ) :=
  L24_0 R  (σ := Nat × (Int)) (fun z => iterO (fun y : Int => S24_0 n a0 a1_0_0 c4 c7 y) z.1 z.2 = some t) (fun z => (lstA TSlot.E a0)) (fun z => (AV.fn 55 [(AV.ept [(strA a1_0_0)] 0)])) (fun z => c4) (fun z => c7) (fun z => z.2) (fun z => []) (fun z => z.1) (by
    rintro ⟨k, y⟩ h
    cases k with
    | zero => exact (iterO_zero h).elim
    | succ k =>
      obtain ⟨u, h1, h2, h3⟩ := iterO_elim h
      exact B24_0_ok n a0 a1_0_0 c4 c7 y R  _ (fun r e => hR r (h3 _ e).symm)  (fun y' e s' hw => ⟨(k, y'), h2 _ e, Nat.lt_succ_self k, hw⟩) h1) (k, x) hx hw
theorem g24_ok (n : Nat) (a0 : List TSlot) (a1_0_0 : ByteArray) {t : ρ24} (R : AV → Mem → Prop) (hR : ∀ r : ρ24, t = r → ∀ u m, Ans ((intA r)) u m → R u m) : g24 n a0 a1_0_0 = some t → F24 (lstA TSlot.E a0) (AV.fn 55 [(AV.ept [(strA a1_0_0)] 0)]) R := by
  unfold g24 F24
  refine imp (opP_of (show _ = some ((intA (a0.length : Int)), []) from rfl)) ?_
  refine imp ex_i64_b ?_
  exact fun hg => L24_0_ok n a0 a1_0_0 (0) (a0.length : Int) R  hR n _ hg (weak_mem [] rfl rfl rfl (okW_cons (ent_lst (E := TSlot.E) _ false) (okW_cons (ent_clean (leV_refl _) (by simp [clean, cleans, encs_clean])) (okW_cons (.inl (leV_refl _)) (okW_cons (.inl (leV_refl _)) (okW_cons (.inl (leV_refl _)) okW_nil))))) okB_nil')
theorem sg24 {n : Nat} {a0 : List TSlot} {a1_0_0 : ByteArray} {t : ρ24} (h : g24 n a0 a1_0_0 = some t) : Says Try.prog KK.gl 24 [(lstA TSlot.E a0), (AV.fn 55 [(AV.ept [(strA a1_0_0)] 0)])] ((intA t)) :=
  says_of_own (by first | rfl | simp [cleans, clean, encs_clean, En.cln]) (by first | rfl | simp [cleans, clean, encs_clean, En.cln]) (F24_own (lstA TSlot.E a0) (AV.fn 55 [(AV.ept [(strA a1_0_0)] 0)]) _ (g24_ok n a0 a1_0_0 (Ans ((intA t))) (fun r e u m h => by rw [e]; exact h) h))
/- skyway/slot.index -/
theorem g44_ok (n : Nat) (a0 : List TSlot) (a1 : ByteArray) {t : ρ44} (R : AV → Mem → Prop) (hR : ∀ r : ρ44, t = r → ∀ u m, Ans ((intA r)) u m → R u m) : g44 n a0 a1 = some t → F44 (lstA TSlot.E a0) a1 R := by
  unfold g44 F44
  refine bind_b fun x87 h87 => ?_
  refine imp (callQ_pure (pure_snapN (snL_cons (sn_lst (E := TSlot.E) _ _ false) (snL_cons (sn_fn _ _ (snL_cons (sn_ptr _ (ty := 9) (us := [(strA a1)]) (by first | rfl | (simp (disch := decide) only [mpushs_nil, mpushs_cons, mget_hd, mget_tl, mget_appW_o, mget_appW_n])) (snL_cons (sn_sc _ _) snL_nil)) snL_nil)) snL_nil)) (sg24 h87) rfl)) ?_
  refine imp ex_i64_b ?_
  exact fun hg => ret1 (hR _ (Option.some.inj hg).symm) (fz_sc _ _)
theorem sg44 {n : Nat} {a0 : List TSlot} {a1 : ByteArray} {t : ρ44} (h : g44 n a0 a1 = some t) : Says Try.prog KK.gl 44 [(lstA TSlot.E a0), (strA a1)] ((intA t)) :=
  says_of_own (by first | rfl | simp [cleans, clean, encs_clean, En.cln]) (by first | rfl | simp [cleans, clean, encs_clean, En.cln]) (F44_own (lstA TSlot.E a0) a1 _ (g44_ok n a0 a1 (Ans ((intA t))) (fun r e u m h => by rw [e]; exact h) h))
/- skyway/slot.Delays -/
theorem B27_0_ok (n : Nat) (a1 : List TSlot) (c5 : Int) (a0 : List TSlotDemand) (c20 : Int) (v21 : Int) (L90000 : List Int) {t : (Int × List Int) ⊕ ρ27} (R : AV → Mem → Prop) (N0 : St → Prop) (hR : ∀ r : ρ27, t = (.inr r) → ∀ u m, Ans ((AV.tup [(lstA intE r.1), (intA r.2)])) u m → R u m) (hN0 : ∀ y : Int × List Int, t = (.inl y) → ∀ s' : St, Weak KK 62 0 s' (h27_0 (lstA TSlot.E a1) AV.nils c5 (ownV intE 90000 y.2) (lstA TSlotDemand.E a0) c20 y.1 [(90000, ownB intE 3 y.2)]) → N0 s') : S27_0 n a1 c5 a0 c20 v21 L90000 = some t → B27_0 (lstA TSlot.E a1) AV.nils c5 (ownV intE 90000 L90000) (lstA TSlotDemand.E a0) c20 v21 [(90000, ownB intE 3 L90000)] R N0 := by
  unfold S27_0 B27_0
  refine cond_b (fun _ => ?_) (fun _ => ?_)
  · refine bind_b fun x84 h84 => ?_
    refine imp (opP_of (show _ = some ((AV.ept [(strA x84.Call), (intA x84.Time)] 0), []) from (idx_lst (E := TSlotDemand.E) rfl h84))) ?_
    refine imp (opP_of (show _ = some ((AV.agg [(strA x84.Call), (intA x84.Time)]), []) from rfl)) ?_
    refine imp exA2_b ?_
    refine imp exStr_b ?_
    refine imp ex_i64_b ?_
    refine bind_b fun x88 h88 => ?_
    refine imp (callQ_says (sg44 h88)) ?_
    refine imp ex_i64_b ?_
    refine cond_b (fun _ => ?_) (fun _ => ?_)
    · exact fun hg => retN rfl (hR _ (Option.some.inj hg).symm) (fzL_cons (fz_nils (E := intE) _) (fzL_cons (fz_sc _ _) fzL_nil))
    · refine bind_b fun x89 h89 => ?_
      refine imp (opP_of (show _ = some ((AV.ept [(strA x89.Call), (strA x89.Place), (intA x89.Time)] 0), []) from (idx_lst (E := TSlot.E) rfl h89))) ?_
      refine imp (opP_of (show _ = some ((AV.ept [(strA x89.Call), (strA x89.Place), (intA x89.Time)] 2), []) from rfl)) ?_
      refine imp (opP_of (show _ = some ((intA x89.Time), []) from rfl)) ?_
      refine imp ex_i64_b ?_
      refine cond_b (fun _ => ?_) (fun _ => ?_)
      · exact fun hg => retN rfl (hR _ (Option.some.inj hg).symm) (fzL_cons (fz_nils (E := intE) _) (fzL_cons (fz_sc _ _) fzL_nil))
      · refine bind_b fun x90 h90 => ?_
        refine imp (opP_of (show _ = some ((AV.ept [(strA x90.Call), (strA x90.Place), (intA x90.Time)] 0), []) from (idx_lst (E := TSlot.E) rfl h90))) ?_
        refine imp (opP_of (show _ = some ((AV.ept [(strA x90.Call), (strA x90.Place), (intA x90.Time)] 2), []) from rfl)) ?_
        refine imp (opP_of (show _ = some ((intA x90.Time), []) from rfl)) ?_
        refine imp ex_i64_b ?_
        refine cond_b (fun _ => ?_) (fun _ => ?_)
        · exact fun hg => retN rfl (hR _ (Option.some.inj hg).symm) (fzL_cons (fz_nils (E := intE) _) (fzL_cons (fz_sc _ _) fzL_nil))
        · refine bind_b fun x91 h91 => ?_
          refine imp (opM_of (show _ = some ((AV.ept [(strA x91.Call), (strA x91.Place), (intA x91.Time)] 0), []) from (idx_lst (E := TSlot.E) rfl h91))) ?_
          refine imp (opM_of (show _ = some ((AV.ept [(strA x91.Call), (strA x91.Place), (intA x91.Time)] 2), []) from rfl)) ?_
          refine imp (opM_of (show _ = some ((intA x91.Time), []) from rfl)) ?_
          refine imp ex_i64_b ?_
          refine imp (opM_of (show _ = some ((intA x84.Time), []) from (ldS_ptr (b := ⟨[(strA x84.Call), (intA x84.Time)], 44⟩) (by first | rfl | (rw [look'_mem (by first | rfl | simp [topId_blk] | simp [topId])]; first | rfl | (simp (disch := decide) only [mpushs_nil, mpushs_cons, mget_hd, mget_tl, mget_appW_o, mget_appW_n]))) rfl))) ?_
          refine imp ex_i64_b ?_
          refine imp (opM_of (show _ = some ((blkV intE 100102 ([(IntKind.wrap .i64 (x91.Time - x84.Time))] : List Int)), [(100102, some ⟨encs intE ([(IntKind.wrap .i64 (x91.Time - x84.Time))] : List Int), 3⟩)]) from rfl)) ?_
          refine bind_b fun x92 h92 => ?_
          refine imp (opM_of (show _ = some ((ownV intE 100103 (L90000 ++ ([(IntKind.wrap .i64 (x91.Time - x84.Time))] : List Int))), (appW intE 100103 90000 3 L90000 ([(IntKind.wrap .i64 (x91.Time - x84.Time))] : List Int))) from (app_own (E := intE) (l' := L90000) (xs := ([(IntKind.wrap .i64 (x91.Time - x84.Time))] : List Int)) rfl rfl (cellsOf_blk (E := intE) (ty := 3) rfl rfl (by first | rfl | (rw [look'_mem (by first | rfl | simp [topId_blk] | simp [topId])]; first | rfl | (simp (disch := decide) only [mpushs_nil, mpushs_cons, mget_hd, mget_tl, mget_appW_o, mget_appW_n])))) (by simp) rfl (fun hne => look'_own hne rfl (by first | rfl | (simp (disch := decide) only [mpushs_nil, mpushs_cons, mget_hd, mget_tl, mget_appW_o, mget_appW_n]))) h92))) ?_
          refine imp (chk_of (by rcases (L90000) with _ | ⟨_, _⟩ <;> kernel_rfl)) ?_
          exact fun hg => hN0 _ (Option.some.inj hg).symm _ (weak_mem [(90000, 100103)] rfl rfl rfl (okW_cons (ent_lst (E := TSlot.E) _ false) (okW_cons (.inl (leV_refl _)) (okW_cons (.inl (leV_refl _)) (okW_cons (ent_own (E := intE) (id := 100103) (l' := (L90000 ++ ([(IntKind.wrap .i64 (x91.Time - x84.Time))] : List Int))) rfl rfl) (okW_cons (ent_lst (E := TSlotDemand.E) _ false) (okW_cons (.inl (leV_refl _)) (okW_cons (.inl (leV_refl _)) okW_nil))))))) (okB_cons (okB_own (E := intE) (ty := 3) (l' := (L90000 ++ ([(IntKind.wrap .i64 (x91.Time - x84.Time))] : List Int))) rfl (show mget _ 100103 = _ from (by first | rfl | (simp (disch := decide) only [mpushs_nil, mpushs_cons, mget_hd, mget_tl, mget_appW_o, mget_appW_n])))) okB_nil'))
  · exact fun hg => retN rfl (hR _ (Option.some.inj hg).symm) (fzL_cons (fz_own (E := intE) (ty := 3) (l' := L90000) _ rfl (by first | rfl | (simp (disch := decide) only [mpushs_nil, mpushs_cons, mget_hd, mget_tl, mget_appW_o, mget_appW_n]))) (fzL_cons (fz_sc _ _) fzL_nil))
theorem L27_0_ok (n : Nat) (a1 : List TSlot) (c5 : Int) (a0 : List TSlotDemand) (c20 : Int) {t : ρ27} (R : AV → Mem → Prop) (hR : ∀ r : ρ27, t = r → ∀ u m, Ans ((AV.tup [(lstA intE r.1), (intA r.2)])) u m → R u m) (k : Nat) (x : Int × List Int) (hx : iterO (fun y : Int × List Int => S27_0 n a1 c5 a0 c20 y.1 y.2) k x = some t) {s : St} (hw : Weak KK 62 0 s (h27_0 (lstA TSlot.E a1) AV.nils c5 (ownV intE 90000 x.2) (lstA TSlotDemand.E a0) c20 x.1 [(90000, ownB intE 3 x.2)])) : Tri Try.prog KK 62 0 (.loop c27_0) s (q27_0 R ) :=
  L27_0 R  (σ := Nat × (Int × List Int)) (fun z => iterO (fun y : Int × List Int => S27_0 n a1 c5 a0 c20 y.1 y.2) z.1 z.2 = some t) (fun z => (lstA TSlot.E a1)) (fun z => AV.nils) (fun z => c5) (fun z => (ownV intE 90000 z.2.2)) (fun z => (lstA TSlotDemand.E a0)) (fun z => c20) (fun z => z.2.1) (fun z => [(90000, ownB intE 3 z.2.2)]) (fun z => z.1) (by
    rintro ⟨k, y⟩ h
    cases k with
    | zero => exact (iterO_zero h).elim
    | succ k =>
      obtain ⟨u, h1, h2, h3⟩ := iterO_elim h
      exact B27_0_ok n a1 c5 a0 c20 y.1 y.2 R  _ (fun r e => hR r (h3 _ e).symm)  (fun y' e s' hw => ⟨(k, y'), h2 _ e, Nat.lt_succ_self k, hw⟩) h1) (k, x) hx hw
theorem g27_ok (n : Nat) (a0 : List TSlotDemand) (a1 : List TSlot) {t : ρ27} (R : AV → Mem → Prop) (hR : ∀ r : ρ27, t = r → ∀ u m, Ans ((AV.tup [(lstA intE r.1), (intA r.2)])) u m → R u m) : g27 n a0 a1 = some t → F27 (lstA TSlotDemand.E a0) (lstA TSlot.E a1) R := by
  unfold g27 F27
  refine bind_b fun x83 h83 => ?_
  refine imp (callQ_says (sg35 h83)) ?_
  refine imp ex_i64_b ?_
  refine cond_b (fun _ => ?_) (fun _ => ?_)
  · exact fun hg => retN rfl (hR _ (Option.some.inj hg).symm) (fzL_cons (fz_nils (E := intE) _) (fzL_cons (fz_sc _ _) fzL_nil))
  · refine imp (opP_of (show _ = some ((intA (a1.length : Int)), []) from rfl)) ?_
    refine imp ex_i64_b ?_
    refine cond_b (fun _ => ?_) (fun _ => ?_)
    · exact fun hg => retN rfl (hR _ (Option.some.inj hg).symm) (fzL_cons (fz_nils (E := intE) _) (fzL_cons (fz_sc _ _) fzL_nil))
    · refine imp (opP_of (show _ = some ((intA (a0.length : Int)), []) from rfl)) ?_
      refine imp ex_i64_b ?_
      exact fun hg => L27_0_ok n a1 (0) a0 (a0.length : Int) R  hR n _ hg (weak_mem [(90000, 89500)] rfl rfl rfl (okW_cons (ent_lst (E := TSlot.E) _ false) (okW_cons (.inl (leV_refl _)) (okW_cons (.inl (leV_refl _)) (okW_cons ent_nils_own (okW_cons (ent_lst (E := TSlotDemand.E) _ false) (okW_cons (.inl (leV_refl _)) (okW_cons (.inl (leV_refl _)) okW_nil))))))) (okB_cons okB_nil okB_nil'))
theorem sg27 {n : Nat} {a0 : List TSlotDemand} {a1 : List TSlot} {t : ρ27} (h : g27 n a0 a1 = some t) : Says Try.prog KK.gl 27 [(lstA TSlotDemand.E a0), (lstA TSlot.E a1)] ((AV.tup [(lstA intE t.1), (intA t.2)])) :=
  says_of_own (by first | rfl | simp [cleans, clean, encs_clean, En.cln]) (by first | rfl | simp [cleans, clean, encs_clean, En.cln]) (F27_own (lstA TSlotDemand.E a0) (lstA TSlot.E a1) _ (g27_ok n a0 a1 (Ans ((AV.tup [(lstA intE t.1), (intA t.2)]))) (fun r e u m h => by rw [e]; exact h) h))
/- skyway/slot.Delays -/
theorem B27_0_okM (n : Nat) (a1 : List TSlot) (c5 : Int) (a0 : List TSlotDemand) (c20 : Int) (v21 : Int) (L90000 : List Int) {t : (Int × List Int) ⊕ ρ27} (R : AV → Mem → Prop) (N0 : St → Prop) (hR : ∀ r : ρ27, t = (.inr r) → ∀ u m, MadeT intE 3 r.1 [Value.int .i64 r.2] u m → R u m) (hN0 : ∀ y : Int × List Int, t = (.inl y) → ∀ s' : St, Weak KK 62 0 s' (h27_0 (lstA TSlot.E a1) AV.nils c5 (ownV intE 90000 y.2) (lstA TSlotDemand.E a0) c20 y.1 [(90000, ownB intE 3 y.2)]) → N0 s') : S27_0 n a1 c5 a0 c20 v21 L90000 = some t → B27_0 (lstA TSlot.E a1) AV.nils c5 (ownV intE 90000 L90000) (lstA TSlotDemand.E a0) c20 v21 [(90000, ownB intE 3 L90000)] R N0 := by
  unfold S27_0 B27_0
  refine cond_b (fun _ => ?_) (fun _ => ?_)
  · refine bind_b fun x95 h95 => ?_
    refine imp (opP_of (show _ = some ((AV.ept [(strA x95.Call), (intA x95.Time)] 0), []) from (idx_lst (E := TSlotDemand.E) rfl h95))) ?_
    refine imp (opP_of (show _ = some ((AV.agg [(strA x95.Call), (intA x95.Time)]), []) from rfl)) ?_
    refine imp exA2_b ?_
    refine imp exStr_b ?_
    refine imp ex_i64_b ?_
    refine bind_b fun x96 h96 => ?_
    refine imp (callQ_says (sg44 h96)) ?_
    refine imp ex_i64_b ?_
    refine cond_b (fun _ => ?_) (fun _ => ?_)
    · exact fun hg => hR _ (Option.some.inj hg).symm _ _ ⟨_, rfl, made_nils_pf⟩
    · refine bind_b fun x97 h97 => ?_
      refine imp (opP_of (show _ = some ((AV.ept [(strA x97.Call), (strA x97.Place), (intA x97.Time)] 0), []) from (idx_lst (E := TSlot.E) rfl h97))) ?_
      refine imp (opP_of (show _ = some ((AV.ept [(strA x97.Call), (strA x97.Place), (intA x97.Time)] 2), []) from rfl)) ?_
      refine imp (opP_of (show _ = some ((intA x97.Time), []) from rfl)) ?_
      refine imp ex_i64_b ?_
      refine cond_b (fun _ => ?_) (fun _ => ?_)
      · exact fun hg => hR _ (Option.some.inj hg).symm _ _ ⟨_, rfl, made_nils_pf⟩
      · refine bind_b fun x98 h98 => ?_
        refine imp (opP_of (show _ = some ((AV.ept [(strA x98.Call), (strA x98.Place), (intA x98.Time)] 0), []) from (idx_lst (E := TSlot.E) rfl h98))) ?_
        refine imp (opP_of (show _ = some ((AV.ept [(strA x98.Call), (strA x98.Place), (intA x98.Time)] 2), []) from rfl)) ?_
        refine imp (opP_of (show _ = some ((intA x98.Time), []) from rfl)) ?_
        refine imp ex_i64_b ?_
        refine cond_b (fun _ => ?_) (fun _ => ?_)
        · exact fun hg => hR _ (Option.some.inj hg).symm _ _ ⟨_, rfl, made_nils_pf⟩
        · refine bind_b fun x99 h99 => ?_
          refine imp (opM_of (show _ = some ((AV.ept [(strA x99.Call), (strA x99.Place), (intA x99.Time)] 0), []) from (idx_lst (E := TSlot.E) rfl h99))) ?_
          refine imp (opM_of (show _ = some ((AV.ept [(strA x99.Call), (strA x99.Place), (intA x99.Time)] 2), []) from rfl)) ?_
          refine imp (opM_of (show _ = some ((intA x99.Time), []) from rfl)) ?_
          refine imp ex_i64_b ?_
          refine imp (opM_of (show _ = some ((intA x95.Time), []) from (ldS_ptr (b := ⟨[(strA x95.Call), (intA x95.Time)], 44⟩) (by first | rfl | (rw [look'_mem (by first | rfl | simp [topId_blk] | simp [topId])]; first | rfl | (simp (disch := decide) only [mpushs_nil, mpushs_cons, mget_hd, mget_tl, mget_appW_o, mget_appW_n]))) rfl))) ?_
          refine imp ex_i64_b ?_
          refine imp (opM_of (show _ = some ((blkV intE 100102 ([(IntKind.wrap .i64 (x99.Time - x95.Time))] : List Int)), [(100102, some ⟨encs intE ([(IntKind.wrap .i64 (x99.Time - x95.Time))] : List Int), 3⟩)]) from rfl)) ?_
          refine bind_b fun x100 h100 => ?_
          refine imp (opM_of (show _ = some ((ownV intE 100103 (L90000 ++ ([(IntKind.wrap .i64 (x99.Time - x95.Time))] : List Int))), (appW intE 100103 90000 3 L90000 ([(IntKind.wrap .i64 (x99.Time - x95.Time))] : List Int))) from (app_own (E := intE) (l' := L90000) (xs := ([(IntKind.wrap .i64 (x99.Time - x95.Time))] : List Int)) rfl rfl (cellsOf_blk (E := intE) (ty := 3) rfl rfl (by first | rfl | (rw [look'_mem (by first | rfl | simp [topId_blk] | simp [topId])]; first | rfl | (simp (disch := decide) only [mpushs_nil, mpushs_cons, mget_hd, mget_tl, mget_appW_o, mget_appW_n])))) (by simp) rfl (fun hne => look'_own hne rfl (by first | rfl | (simp (disch := decide) only [mpushs_nil, mpushs_cons, mget_hd, mget_tl, mget_appW_o, mget_appW_n]))) h100))) ?_
          refine imp (chk_of (by rcases (L90000) with _ | ⟨_, _⟩ <;> kernel_rfl)) ?_
          exact fun hg => hN0 _ (Option.some.inj hg).symm _ (weak_mem [(90000, 100103)] rfl rfl rfl (okW_cons (ent_lst (E := TSlot.E) _ false) (okW_cons (.inl (leV_refl _)) (okW_cons (.inl (leV_refl _)) (okW_cons (ent_own (E := intE) (id := 100103) (l' := (L90000 ++ ([(IntKind.wrap .i64 (x99.Time - x95.Time))] : List Int))) rfl rfl) (okW_cons (ent_lst (E := TSlotDemand.E) _ false) (okW_cons (.inl (leV_refl _)) (okW_cons (.inl (leV_refl _)) okW_nil))))))) (okB_cons (okB_own (E := intE) (ty := 3) (l' := (L90000 ++ ([(IntKind.wrap .i64 (x99.Time - x95.Time))] : List Int))) rfl (show mget _ 100103 = _ from (by first | rfl | (simp (disch := decide) only [mpushs_nil, mpushs_cons, mget_hd, mget_tl, mget_appW_o, mget_appW_n])))) okB_nil'))
  · exact fun hg => hR _ (Option.some.inj hg).symm _ _ ⟨_, rfl, (made_own_pf (E := intE) (ty := 3) (l := L90000) rfl (by first | rfl | (simp (disch := decide) only [mpushs_nil, mpushs_cons, mget_hd, mget_tl, mget_appW_o, mget_appW_n])))⟩
theorem L27_0_okM (n : Nat) (a1 : List TSlot) (c5 : Int) (a0 : List TSlotDemand) (c20 : Int) {t : ρ27} (R : AV → Mem → Prop) (hR : ∀ r : ρ27, t = r → ∀ u m, MadeT intE 3 r.1 [Value.int .i64 r.2] u m → R u m) (k : Nat) (x : Int × List Int) (hx : iterO (fun y : Int × List Int => S27_0 n a1 c5 a0 c20 y.1 y.2) k x = some t) {s : St} (hw : Weak KK 62 0 s (h27_0 (lstA TSlot.E a1) AV.nils c5 (ownV intE 90000 x.2) (lstA TSlotDemand.E a0) c20 x.1 [(90000, ownB intE 3 x.2)])) : Tri Try.prog KK 62 0 (.loop c27_0) s (q27_0 R ) :=
  L27_0 R  (σ := Nat × (Int × List Int)) (fun z => iterO (fun y : Int × List Int => S27_0 n a1 c5 a0 c20 y.1 y.2) z.1 z.2 = some t) (fun z => (lstA TSlot.E a1)) (fun z => AV.nils) (fun z => c5) (fun z => (ownV intE 90000 z.2.2)) (fun z => (lstA TSlotDemand.E a0)) (fun z => c20) (fun z => z.2.1) (fun z => [(90000, ownB intE 3 z.2.2)]) (fun z => z.1) (by
    rintro ⟨k, y⟩ h
    cases k with
    | zero => exact (iterO_zero h).elim
    | succ k =>
      obtain ⟨u, h1, h2, h3⟩ := iterO_elim h
      exact B27_0_okM n a1 c5 a0 c20 y.1 y.2 R  _ (fun r e => hR r (h3 _ e).symm)  (fun y' e s' hw => ⟨(k, y'), h2 _ e, Nat.lt_succ_self k, hw⟩) h1) (k, x) hx hw
theorem g27_okM (n : Nat) (a0 : List TSlotDemand) (a1 : List TSlot) {t : ρ27} (R : AV → Mem → Prop) (hR : ∀ r : ρ27, t = r → ∀ u m, MadeT intE 3 r.1 [Value.int .i64 r.2] u m → R u m) : g27 n a0 a1 = some t → F27 (lstA TSlotDemand.E a0) (lstA TSlot.E a1) R := by
  unfold g27 F27
  refine bind_b fun x94 h94 => ?_
  refine imp (callQ_says (sg35 h94)) ?_
  refine imp ex_i64_b ?_
  refine cond_b (fun _ => ?_) (fun _ => ?_)
  · exact fun hg => hR _ (Option.some.inj hg).symm _ _ ⟨_, rfl, made_nils_pf⟩
  · refine imp (opP_of (show _ = some ((intA (a1.length : Int)), []) from rfl)) ?_
    refine imp ex_i64_b ?_
    refine cond_b (fun _ => ?_) (fun _ => ?_)
    · exact fun hg => hR _ (Option.some.inj hg).symm _ _ ⟨_, rfl, made_nils_pf⟩
    · refine imp (opP_of (show _ = some ((intA (a0.length : Int)), []) from rfl)) ?_
      refine imp ex_i64_b ?_
      exact fun hg => L27_0_okM n a1 (0) a0 (a0.length : Int) R  hR n _ hg (weak_mem [(90000, 89500)] rfl rfl rfl (okW_cons (ent_lst (E := TSlot.E) _ false) (okW_cons (.inl (leV_refl _)) (okW_cons (.inl (leV_refl _)) (okW_cons ent_nils_own (okW_cons (ent_lst (E := TSlotDemand.E) _ false) (okW_cons (.inl (leV_refl _)) (okW_cons (.inl (leV_refl _)) okW_nil))))))) (okB_cons okB_nil okB_nil'))
theorem mg27C {n k : Nat} {look : Nat → Option ABlk} {a0 : List TSlotDemand} {a1 : List TSlot} {t : ρ27} (h : g27 n a0 a1 = some t) : PureD Try.prog KK.gl look k 27 [(lstA TSlotDemand.E a0), (lstA TSlot.E a1)] (.tup (ownV intE k t.1 :: ([Value.int .i64 t.2] : List Value).map AV.sc)) [(k, ownB intE 3 t.1)] :=
  made_tupC (by first | rfl | simp [cleans, clean, encs_clean, En.cln]) (F27_own (lstA TSlotDemand.E a0) (lstA TSlot.E a1) _ (g27_okM n a0 a1 (MadeT intE 3 t.1 [Value.int .i64 t.2]) (fun r e u m h => by rw [e]; exact h) h))
theorem mg27S {n k : Nat} {look : Nat → Option ABlk} {args : List AV} {a0 : List TSlotDemand} {a1 : List TSlot} {t : ρ27} (h : g27 n a0 a1 = some t) (hs : SnL look 6 args [(lstA TSlotDemand.E a0), (lstA TSlot.E a1)]) : PureD Try.prog KK.gl look k 27 args (.tup (ownV intE k t.1 :: ([Value.int .i64 t.2] : List Value).map AV.sc)) [(k, ownB intE 3 t.1)] :=
  made_tupS (fun _ => rfl) hs (F27_own (lstA TSlotDemand.E a0) (lstA TSlot.E a1) _ (g27_okM n a0 a1 (MadeT intE 3 t.1 [Value.int .i64 t.2]) (fun r e u m h => by rw [e]; exact h) h))
/- skyway/slot.Swap -/
theorem g26_ok (n : Nat) (a0 : List TSlotDemand) (a1 : List TSlot) (a2 : ByteArray) (a3 : ByteArray) {t : ρ26} (R : AV → Mem → Prop) (hR : ∀ r : ρ26, t = r → ∀ u m, Ans ((AV.tup [(lstA TSlot.E r.1), (intA r.2)])) u m → R u m) : g26 n a0 a1 a2 a3 = some t → F26 (lstA TSlotDemand.E a0) (lstA TSlot.E a1) a2 a3 R := by
  unfold g26 F26
  refine bind_b fun x93 h93 => ?_
  refine imp (callW_D (show PureD _ _ _ _ _ _ (AV.tup [(ownV intE 4 x93.1), (intA x93.2)]) [(4, ownB intE 3 x93.1)] from mg27C h93)) ?_
  refine imp exT2_b ?_
  refine imp ex_i64_b ?_
  refine cond_b (fun _ => ?_) (fun _ => ?_)
  · exact fun hg => retN rfl (hR _ (Option.some.inj hg).symm) (fzL_cons (fz_nils (E := TSlot.E) _) (fzL_cons (fz_sc _ _) fzL_nil))
  · refine bind_b fun x101 h101 => ?_
    refine imp (callQ_says (sg44 h101)) ?_
    refine imp ex_i64_b ?_
    refine bind_b fun x102 h102 => ?_
    refine imp (callQ_says (sg44 h102)) ?_
    refine imp ex_i64_b ?_
    refine cond_b (fun _ => ?_) (fun _ => ?_)
    · exact fun hg => retN rfl (hR _ (Option.some.inj hg).symm) (fzL_cons (fz_nils (E := TSlot.E) _) (fzL_cons (fz_sc _ _) fzL_nil))
    · refine cond_b (fun _ => ?_) (fun _ => ?_)
      · exact fun hg => retN rfl (hR _ (Option.some.inj hg).symm) (fzL_cons (fz_nils (E := TSlot.E) _) (fzL_cons (fz_sc _ _) fzL_nil))
      · refine bind_b fun x103 h103 => ?_
        refine imp (callW_D (show PureD _ _ _ _ _ _ (ownV TSlot.E 216 a1) [(216, ownB TSlot.E 49 a1)] from cloneC45 h103)) ?_
        refine bind_b fun x104 h104 => ?_
        refine imp (opM_of (show _ = some ((AV.ptr 216 (((x102 : Int).toNat) * 3 + 0)), []) from (idx_own (E := TSlot.E) rfl h104))) ?_
        refine imp (opM_of (show _ = some ((AV.ptr 216 (((x102 : Int).toNat) * 3 + 2)), []) from rfl)) ?_
        refine imp (opM_of (show _ = some ((intA x104.Time), []) from (ldS_blk (E := TSlot.E) (l := a1) (ty := 49) (o := 2) (own_some (ty := 49) (by first | rfl | (rw [look'_mem (by first | rfl | simp [topId_blk] | simp [topId])]; first | rfl | (simp (disch := decide) only [mpushs_nil, mpushs_cons, mget_hd, mget_tl, mget_appW_o, mget_appW_n]))) (getI_some h104).2) (getI_some h104).2 rfl (by decide) rfl))) ?_
        refine imp ex_i64_b ?_
        refine bind_b fun x105 h105 => ?_
        refine imp (opM_of (show _ = some ((AV.ptr 216 (((x101 : Int).toNat) * 3 + 0)), []) from (idx_own (E := TSlot.E) rfl h105))) ?_
        refine imp (opM_of (show _ = some ((AV.ptr 216 (((x101 : Int).toNat) * 3 + 2)), []) from rfl)) ?_
        refine imp (opM_of (show _ = some ((intA x105.Time), []) from (ldS_blk (E := TSlot.E) (l := a1) (ty := 49) (o := 2) (own_some (ty := 49) (by first | rfl | (rw [look'_mem (by first | rfl | simp [topId_blk] | simp [topId])]; first | rfl | (simp (disch := decide) only [mpushs_nil, mpushs_cons, mget_hd, mget_tl, mget_appW_o, mget_appW_n]))) (getI_some h105).2) (getI_some h105).2 rfl (by decide) rfl))) ?_
        refine imp ex_i64_b ?_
        refine bind_b fun x106 h106 => ?_
        refine imp (opM_of (show _ = some ((AV.ptr 216 (((x101 : Int).toNat) * 3 + 0)), []) from (idx_own (E := TSlot.E) rfl h106))) ?_
        refine imp (opM_of (show _ = some ((AV.ptr 216 (((x101 : Int).toNat) * 3 + 2)), []) from rfl)) ?_
        refine imp (storeW_elO (E := TSlot.E) (l := a1) (i := ((x101 : Int).toNat)) (o := 2) (y := (⟨x106.Call, x106.Place, x104.Time⟩ : TSlot)) (ty := 49) (by kernel_rfl) (by kernel_rfl) rfl (by first | rfl | (rw [look'_mem (by first | rfl | simp [topId_blk] | simp [topId])]; first | rfl | (simp (disch := decide) only [mpushs_nil, mpushs_cons, mget_hd, mget_tl, mget_appW_o, mget_appW_n]))) (getI_some h106).2 rfl (by decide) rfl) ?_
        refine bind_b fun x107 h107 => ?_
        refine imp (opM_of (show _ = some ((AV.ptr 216 (((x102 : Int).toNat) * 3 + 0)), []) from (idx_own (E := TSlot.E) (by first | rfl | omega | (simp; done) | (simp; omega)) h107))) ?_
        refine imp (opM_of (show _ = some ((AV.ptr 216 (((x102 : Int).toNat) * 3 + 2)), []) from rfl)) ?_
        refine imp (storeW_elO (E := TSlot.E) (l := (a1.set ((x101 : Int).toNat) (⟨x106.Call, x106.Place, x104.Time⟩ : TSlot))) (i := ((x102 : Int).toNat)) (o := 2) (y := (⟨x107.Call, x107.Place, x105.Time⟩ : TSlot)) (ty := 49) (by kernel_rfl) (by kernel_rfl) rfl (by first | rfl | (rw [look'_mem (by first | rfl | simp [topId_blk] | simp [topId])]; first | rfl | (simp (disch := decide) only [mpushs_nil, mpushs_cons, mget_hd, mget_tl, mget_appW_o, mget_appW_n]))) (getI_some h107).2 rfl (by decide) rfl) ?_
        refine imp (chk_of (by kernel_rfl)) ?_
        refine bind_b fun x108 h108 => ?_
        refine imp (callW_D (show PureD _ _ _ _ _ _ (AV.tup [(ownV intE 303 x108.1), (intA x108.2)]) [(303, ownB intE 3 x108.1)] from mg27S h108 (snL_cons (sn_lst (E := TSlotDemand.E) _ _ false) (snL_cons (sn_own (E := TSlot.E) (ty := 49) (l' := ((a1.set ((x101 : Int).toNat) (⟨x106.Call, x106.Place, x104.Time⟩ : TSlot)).set ((x102 : Int).toNat) (⟨x107.Call, x107.Place, x105.Time⟩ : TSlot))) _ TSlot.nf (by first | rfl | omega | (simp; done) | (simp; omega)) (by first | rfl | (simp (disch := decide) only [mpushs_nil, mpushs_cons, mget_hd, mget_tl, mget_appW_o, mget_appW_n]))) snL_nil)))) ?_
        refine imp exT2_b ?_
        refine imp ex_i64_b ?_
        refine cond_b (fun _ => ?_) (fun _ => ?_)
        · exact fun hg => retN rfl (hR _ (Option.some.inj hg).symm) (fzL_cons (fz_nils (E := TSlot.E) _) (fzL_cons (fz_sc _ _) fzL_nil))
        · exact fun hg => retN rfl (hR _ (Option.some.inj hg).symm) (fzL_cons (fz_own (E := TSlot.E) (ty := 49) (l' := ((a1.set ((x101 : Int).toNat) (⟨x106.Call, x106.Place, x104.Time⟩ : TSlot)).set ((x102 : Int).toNat) (⟨x107.Call, x107.Place, x105.Time⟩ : TSlot))) _ (by first | rfl | omega | (simp; done) | (simp; omega)) (by first | rfl | (simp (disch := decide) only [mpushs_nil, mpushs_cons, mget_hd, mget_tl, mget_appW_o, mget_appW_n]))) (fzL_cons (fz_sc _ _) fzL_nil))
theorem sg26 {n : Nat} {a0 : List TSlotDemand} {a1 : List TSlot} {a2 : ByteArray} {a3 : ByteArray} {t : ρ26} (h : g26 n a0 a1 a2 a3 = some t) : Says Try.prog KK.gl 26 [(lstA TSlotDemand.E a0), (lstA TSlot.E a1), (strA a2), (strA a3)] ((AV.tup [(lstA TSlot.E t.1), (intA t.2)])) :=
  says_of_own (by first | rfl | simp [cleans, clean, encs_clean, En.cln]) (by first | rfl | simp [cleans, clean, encs_clean, En.cln]) (F26_own (lstA TSlotDemand.E a0) (lstA TSlot.E a1) a2 a3 _ (g26_ok n a0 a1 a2 a3 (Ans ((AV.tup [(lstA TSlot.E t.1), (intA t.2)]))) (fun r e u m h => by rw [e]; exact h) h))
/- skyway/slot.Swap -/
theorem g26_okM (n : Nat) (a0 : List TSlotDemand) (a1 : List TSlot) (a2 : ByteArray) (a3 : ByteArray) {t : ρ26} (R : AV → Mem → Prop) (hR : ∀ r : ρ26, t = r → ∀ u m, MadeT TSlot.E 49 r.1 [Value.int .i64 r.2] u m → R u m) : g26 n a0 a1 a2 a3 = some t → F26 (lstA TSlotDemand.E a0) (lstA TSlot.E a1) a2 a3 R := by
  unfold g26 F26
  refine bind_b fun x110 h110 => ?_
  refine imp (callW_D (show PureD _ _ _ _ _ _ (AV.tup [(ownV intE 4 x110.1), (intA x110.2)]) [(4, ownB intE 3 x110.1)] from mg27C h110)) ?_
  refine imp exT2_b ?_
  refine imp ex_i64_b ?_
  refine cond_b (fun _ => ?_) (fun _ => ?_)
  · exact fun hg => hR _ (Option.some.inj hg).symm _ _ ⟨_, rfl, made_nils_pf⟩
  · refine bind_b fun x111 h111 => ?_
    refine imp (callQ_says (sg44 h111)) ?_
    refine imp ex_i64_b ?_
    refine bind_b fun x112 h112 => ?_
    refine imp (callQ_says (sg44 h112)) ?_
    refine imp ex_i64_b ?_
    refine cond_b (fun _ => ?_) (fun _ => ?_)
    · exact fun hg => hR _ (Option.some.inj hg).symm _ _ ⟨_, rfl, made_nils_pf⟩
    · refine cond_b (fun _ => ?_) (fun _ => ?_)
      · exact fun hg => hR _ (Option.some.inj hg).symm _ _ ⟨_, rfl, made_nils_pf⟩
      · refine bind_b fun x113 h113 => ?_
        refine imp (callW_D (show PureD _ _ _ _ _ _ (ownV TSlot.E 216 a1) [(216, ownB TSlot.E 49 a1)] from cloneC45 h113)) ?_
        refine bind_b fun x114 h114 => ?_
        refine imp (opM_of (show _ = some ((AV.ptr 216 (((x112 : Int).toNat) * 3 + 0)), []) from (idx_own (E := TSlot.E) rfl h114))) ?_
        refine imp (opM_of (show _ = some ((AV.ptr 216 (((x112 : Int).toNat) * 3 + 2)), []) from rfl)) ?_
        refine imp (opM_of (show _ = some ((intA x114.Time), []) from (ldS_blk (E := TSlot.E) (l := a1) (ty := 49) (o := 2) (own_some (ty := 49) (by first | rfl | (rw [look'_mem (by first | rfl | simp [topId_blk] | simp [topId])]; first | rfl | (simp (disch := decide) only [mpushs_nil, mpushs_cons, mget_hd, mget_tl, mget_appW_o, mget_appW_n]))) (getI_some h114).2) (getI_some h114).2 rfl (by decide) rfl))) ?_
        refine imp ex_i64_b ?_
        refine bind_b fun x115 h115 => ?_
        refine imp (opM_of (show _ = some ((AV.ptr 216 (((x111 : Int).toNat) * 3 + 0)), []) from (idx_own (E := TSlot.E) rfl h115))) ?_
        refine imp (opM_of (show _ = some ((AV.ptr 216 (((x111 : Int).toNat) * 3 + 2)), []) from rfl)) ?_
        refine imp (opM_of (show _ = some ((intA x115.Time), []) from (ldS_blk (E := TSlot.E) (l := a1) (ty := 49) (o := 2) (own_some (ty := 49) (by first | rfl | (rw [look'_mem (by first | rfl | simp [topId_blk] | simp [topId])]; first | rfl | (simp (disch := decide) only [mpushs_nil, mpushs_cons, mget_hd, mget_tl, mget_appW_o, mget_appW_n]))) (getI_some h115).2) (getI_some h115).2 rfl (by decide) rfl))) ?_
        refine imp ex_i64_b ?_
        refine bind_b fun x116 h116 => ?_
        refine imp (opM_of (show _ = some ((AV.ptr 216 (((x111 : Int).toNat) * 3 + 0)), []) from (idx_own (E := TSlot.E) rfl h116))) ?_
        refine imp (opM_of (show _ = some ((AV.ptr 216 (((x111 : Int).toNat) * 3 + 2)), []) from rfl)) ?_
        refine imp (storeW_elO (E := TSlot.E) (l := a1) (i := ((x111 : Int).toNat)) (o := 2) (y := (⟨x116.Call, x116.Place, x114.Time⟩ : TSlot)) (ty := 49) (by kernel_rfl) (by kernel_rfl) rfl (by first | rfl | (rw [look'_mem (by first | rfl | simp [topId_blk] | simp [topId])]; first | rfl | (simp (disch := decide) only [mpushs_nil, mpushs_cons, mget_hd, mget_tl, mget_appW_o, mget_appW_n]))) (getI_some h116).2 rfl (by decide) rfl) ?_
        refine bind_b fun x117 h117 => ?_
        refine imp (opM_of (show _ = some ((AV.ptr 216 (((x112 : Int).toNat) * 3 + 0)), []) from (idx_own (E := TSlot.E) (by first | rfl | omega | (simp; done) | (simp; omega)) h117))) ?_
        refine imp (opM_of (show _ = some ((AV.ptr 216 (((x112 : Int).toNat) * 3 + 2)), []) from rfl)) ?_
        refine imp (storeW_elO (E := TSlot.E) (l := (a1.set ((x111 : Int).toNat) (⟨x116.Call, x116.Place, x114.Time⟩ : TSlot))) (i := ((x112 : Int).toNat)) (o := 2) (y := (⟨x117.Call, x117.Place, x115.Time⟩ : TSlot)) (ty := 49) (by kernel_rfl) (by kernel_rfl) rfl (by first | rfl | (rw [look'_mem (by first | rfl | simp [topId_blk] | simp [topId])]; first | rfl | (simp (disch := decide) only [mpushs_nil, mpushs_cons, mget_hd, mget_tl, mget_appW_o, mget_appW_n]))) (getI_some h117).2 rfl (by decide) rfl) ?_
        refine imp (chk_of (by kernel_rfl)) ?_
        refine bind_b fun x118 h118 => ?_
        refine imp (callW_D (show PureD _ _ _ _ _ _ (AV.tup [(ownV intE 303 x118.1), (intA x118.2)]) [(303, ownB intE 3 x118.1)] from mg27S h118 (snL_cons (sn_lst (E := TSlotDemand.E) _ _ false) (snL_cons (sn_own (E := TSlot.E) (ty := 49) (l' := ((a1.set ((x111 : Int).toNat) (⟨x116.Call, x116.Place, x114.Time⟩ : TSlot)).set ((x112 : Int).toNat) (⟨x117.Call, x117.Place, x115.Time⟩ : TSlot))) _ TSlot.nf (by first | rfl | omega | (simp; done) | (simp; omega)) (by first | rfl | (simp (disch := decide) only [mpushs_nil, mpushs_cons, mget_hd, mget_tl, mget_appW_o, mget_appW_n]))) snL_nil)))) ?_
        refine imp exT2_b ?_
        refine imp ex_i64_b ?_
        refine cond_b (fun _ => ?_) (fun _ => ?_)
        · exact fun hg => hR _ (Option.some.inj hg).symm _ _ ⟨_, rfl, made_nils_pf⟩
        · exact fun hg => hR _ (Option.some.inj hg).symm _ _ ⟨_, rfl, (made_own_pf (E := TSlot.E) (ty := 49) (l := ((a1.set ((x111 : Int).toNat) (⟨x116.Call, x116.Place, x114.Time⟩ : TSlot)).set ((x112 : Int).toNat) (⟨x117.Call, x117.Place, x115.Time⟩ : TSlot))) (by first | rfl | omega | (simp; done) | (simp; omega)) (by first | rfl | (simp (disch := decide) only [mpushs_nil, mpushs_cons, mget_hd, mget_tl, mget_appW_o, mget_appW_n])))⟩
theorem mg26C {n k : Nat} {look : Nat → Option ABlk} {a0 : List TSlotDemand} {a1 : List TSlot} {a2 : ByteArray} {a3 : ByteArray} {t : ρ26} (h : g26 n a0 a1 a2 a3 = some t) : PureD Try.prog KK.gl look k 26 [(lstA TSlotDemand.E a0), (lstA TSlot.E a1), (strA a2), (strA a3)] (.tup (ownV TSlot.E k t.1 :: ([Value.int .i64 t.2] : List Value).map AV.sc)) [(k, ownB TSlot.E 49 t.1)] :=
  made_tupC (by first | rfl | simp [cleans, clean, encs_clean, En.cln]) (F26_own (lstA TSlotDemand.E a0) (lstA TSlot.E a1) a2 a3 _ (g26_okM n a0 a1 a2 a3 (MadeT TSlot.E 49 t.1 [Value.int .i64 t.2]) (fun r e u m h => by rw [e]; exact h) h))
theorem mg26S {n k : Nat} {look : Nat → Option ABlk} {args : List AV} {a0 : List TSlotDemand} {a1 : List TSlot} {a2 : ByteArray} {a3 : ByteArray} {t : ρ26} (h : g26 n a0 a1 a2 a3 = some t) (hs : SnL look 6 args [(lstA TSlotDemand.E a0), (lstA TSlot.E a1), (strA a2), (strA a3)]) : PureD Try.prog KK.gl look k 26 args (.tup (ownV TSlot.E k t.1 :: ([Value.int .i64 t.2] : List Value).map AV.sc)) [(k, ownB TSlot.E 49 t.1)] :=
  made_tupS (fun _ => rfl) hs (F26_own (lstA TSlotDemand.E a0) (lstA TSlot.E a1) a2 a3 _ (g26_okM n a0 a1 a2 a3 (MadeT TSlot.E 49 t.1 [Value.int .i64 t.2]) (fun r e u m h => by rw [e]; exact h) h))
/- skyway/skywaykeep3.SlotSwaps -/
theorem B7_0_ok (n : Nat) (c8 : Bool) (c9 : List TSlot) (c14 : List TSlot) (c15 : Int) (c16 : List Int) (c17 : Int) (c18 : List Int) (c19 : Int) (c102 : Int) (v20 : Int) (v103 : Int) {t : (Int × Int) ⊕ ρ7} (R : AV → Mem → Prop) (N0 : St → Prop) (hR : ∀ r : ρ7, t = (.inr r) → ∀ u m, Ans ((boolA r)) u m → R u m) (hN0 : ∀ y : Int × Int, t = (.inl y) → ∀ s' : St, Weak KK 144 0 s' (h7_0 c8 (lstA TSlot.E c9) (lstA TSlot.E c14) c15 (lstA intE c16) c17 (lstA intE c18) c19 y.1 c102 y.2 []) → N0 s') : S7_0 n c8 c9 c14 c15 c16 c17 c18 c19 c102 v20 v103 = some t → B7_0 c8 (lstA TSlot.E c9) (lstA TSlot.E c14) c15 (lstA intE c16) c17 (lstA intE c18) c19 v20 c102 v103 [] R N0 := by
  unfold S7_0 B7_0
  refine cond_b (fun _ => ?_) (fun _ => ?_)
  · refine bind_b fun x122 h122 => ?_
    refine imp (opP_of (show _ = some ((AV.ept [(intA x122)] 0), []) from (idx_lst (E := intE) rfl h122))) ?_
    refine imp (opP_of (show _ = some ((intA x122), []) from rfl)) ?_
    refine imp ex_i64_b ?_
    refine bind_b fun x123 h123 => ?_
    refine imp (opP_of (show _ = some ((AV.ept [(intA x123)] 0), []) from (idx_lst (E := intE) rfl h123))) ?_
    refine imp (opP_of (show _ = some ((intA x123), []) from rfl)) ?_
    refine imp ex_i64_b ?_
    exact fun hg => hN0 _ (Option.some.inj hg).symm _ (weak_mem [] rfl rfl rfl (okW_cons (.inl (leV_refl _)) (okW_cons (ent_lst (E := TSlot.E) _ false) (okW_cons (ent_lst (E := TSlot.E) _ false) (okW_cons (.inl (leV_refl _)) (okW_cons (ent_lst (E := intE) _ false) (okW_cons (.inl (leV_refl _)) (okW_cons (ent_lst (E := intE) _ false) (okW_cons (.inl (leV_refl _)) (okW_cons (.inl (leV_refl _)) (okW_cons (.inl (leV_refl _)) (okW_cons (.inl (leV_refl _)) okW_nil))))))))))) okB_nil')
  · refine cond_b (fun _ => ?_) (fun _ => ?_)
    · refine cond_b (fun _ => ?_) (fun _ => ?_)
      · refine cond_b (fun _ => ?_) (fun _ => ?_)
        · refine bind_b fun x124 h124 => ?_
          refine imp (callQ_says (sg22 h124)) ?_
          refine imp exB_b ?_
          refine cond_b (fun _ => ?_) (fun _ => ?_)
          · refine cond_b (fun _ => ?_) (fun _ => ?_)
            · refine imp (opP_of (show _ = some ((intA (c16.length : Int)), []) from rfl)) ?_
              refine imp ex_i64_b ?_
              refine imp (opP_of (show _ = some ((intA (c18.length : Int)), []) from rfl)) ?_
              refine imp ex_i64_b ?_
              exact fun hg => ret1 (hR _ (Option.some.inj hg).symm) (fz_sc _ _)
            · exact fun hg => ret1 (hR _ (Option.some.inj hg).symm) (fz_sc _ _)
          · exact fun hg => ret1 (hR _ (Option.some.inj hg).symm) (fz_sc _ _)
        · exact fun hg => ret1 (hR _ (Option.some.inj hg).symm) (fz_sc _ _)
      · exact fun hg => ret1 (hR _ (Option.some.inj hg).symm) (fz_sc _ _)
    · exact fun hg => ret1 (hR _ (Option.some.inj hg).symm) (fz_sc _ _)
theorem L7_0_ok (n : Nat) (c8 : Bool) (c9 : List TSlot) (c14 : List TSlot) (c15 : Int) (c16 : List Int) (c17 : Int) (c18 : List Int) (c19 : Int) (c102 : Int) {t : ρ7} (R : AV → Mem → Prop) (hR : ∀ r : ρ7, t = r → ∀ u m, Ans ((boolA r)) u m → R u m) (k : Nat) (x : Int × Int) (hx : iterO (fun y : Int × Int => S7_0 n c8 c9 c14 c15 c16 c17 c18 c19 c102 y.1 y.2) k x = some t) {s : St} (hw : Weak KK 144 0 s (h7_0 c8 (lstA TSlot.E c9) (lstA TSlot.E c14) c15 (lstA intE c16) c17 (lstA intE c18) c19 x.1 c102 x.2 [])) : Tri Try.prog KK 144 0 (.loop c7_0) s (q7_0 R ) :=
  L7_0 R  (σ := Nat × (Int × Int)) (fun z => iterO (fun y : Int × Int => S7_0 n c8 c9 c14 c15 c16 c17 c18 c19 c102 y.1 y.2) z.1 z.2 = some t) (fun z => c8) (fun z => (lstA TSlot.E c9)) (fun z => (lstA TSlot.E c14)) (fun z => c15) (fun z => (lstA intE c16)) (fun z => c17) (fun z => (lstA intE c18)) (fun z => c19) (fun z => z.2.1) (fun z => c102) (fun z => z.2.2) (fun z => []) (fun z => z.1) (by
    rintro ⟨k, y⟩ h
    cases k with
    | zero => exact (iterO_zero h).elim
    | succ k =>
      obtain ⟨u, h1, h2, h3⟩ := iterO_elim h
      exact B7_0_ok n c8 c9 c14 c15 c16 c17 c18 c19 c102 y.1 y.2 R  _ (fun r e => hR r (h3 _ e).symm)  (fun y' e s' hw => ⟨(k, y'), h2 _ e, Nat.lt_succ_self k, hw⟩) h1) (k, x) hx hw
theorem g7_ok (n : Nat) (a0 : List TSlotDemand) (a1 : List TFlowCap) (a2 : Int) (a3 : Int) {t : ρ7} (R : AV → Mem → Prop) (hR : ∀ r : ρ7, t = r → ∀ u m, Ans ((boolA r)) u m → R u m) : g7 n a0 a1 a2 a3 = some t → F7 (lstA TSlotDemand.E a0) (lstA TFlowCap.E a1) a2 a3 R := by
  unfold g7 F7
  refine bind_b fun x77 h77 => ?_
  refine imp (callQ_says (sg18 h77)) ?_
  refine imp exB_b ?_
  refine cond_b (fun _ => ?_) (fun _ => ?_)
  · exact fun hg => ret1 (hR _ (Option.some.inj hg).symm) (fz_sc _ _)
  · refine bind_b fun x78 h78 => ?_
    refine imp (callW_D (show PureD _ _ _ _ _ _ (AV.tup [(ownV TSlot.E 68 x78.1), (intA x78.2)]) [(68, ownB TSlot.E 49 x78.1)] from mg19C h78)) ?_
    refine imp exT2_b ?_
    refine imp ex_i64_b ?_
    refine cond_b (fun _ => ?_) (fun _ => ?_)
    · refine imp (opP_of (show _ = some ((intA (x78.1.length : Int)), []) from len_own)) ?_
      refine imp ex_i64_b ?_
      exact fun hg => ret1 (hR _ (Option.some.inj hg).symm) (fz_sc _ _)
    · refine imp (opP_of (show _ = some ((intA (a0.length : Int)), []) from rfl)) ?_
      refine imp ex_i64_b ?_
      refine cond_b (fun _ => ?_) (fun _ => ?_)
      · refine imp (opP_of (show _ = some ((intA (x78.1.length : Int)), []) from len_own)) ?_
        refine imp ex_i64_b ?_
        exact fun hg => ret1 (hR _ (Option.some.inj hg).symm) (fz_sc _ _)
      · refine imp (opP_of (show _ = some ((intA (a0.length : Int)), []) from rfl)) ?_
        refine imp ex_i64_b ?_
        refine bind_b fun x79 h79 => ?_
        refine imp (callQ_says (sg20 h79)) ?_
        refine imp ex_i64_b ?_
        refine bind_b fun x80 h80 => ?_
        refine imp (opP_of (show _ = some ((AV.ept [(strA x80.Call), (intA x80.Time)] 0), []) from (idx_lst (E := TSlotDemand.E) rfl h80))) ?_
        refine imp (opP_of (show _ = some ((AV.ept [(strA x80.Call), (intA x80.Time)] 0), []) from rfl)) ?_
        refine imp (opP_of (show _ = some ((strA x80.Call), []) from rfl)) ?_
        refine imp exStr_b ?_
        refine imp (opP_of (show _ = some ((intA (a0.length : Int)), []) from rfl)) ?_
        refine imp ex_i64_b ?_
        refine bind_b fun x81 h81 => ?_
        refine imp (callQ_says (sg20 h81)) ?_
        refine imp ex_i64_b ?_
        refine bind_b fun x82 h82 => ?_
        refine imp (opP_of (show _ = some ((AV.ept [(strA x82.Call), (intA x82.Time)] 0), []) from (idx_lst (E := TSlotDemand.E) rfl h82))) ?_
        refine imp (opP_of (show _ = some ((AV.ept [(strA x82.Call), (intA x82.Time)] 0), []) from rfl)) ?_
        refine imp (opP_of (show _ = some ((strA x82.Call), []) from rfl)) ?_
        refine imp exStr_b ?_
        refine bind_b fun x109 h109 => ?_
        refine imp (callW_D (show PureD _ _ _ _ _ _ (AV.tup [(ownV TSlot.E 166 x109.1), (intA x109.2)]) [(166, ownB TSlot.E 49 x109.1)] from mg26S h109 (snL_cons (sn_lst (E := TSlotDemand.E) _ _ false) (snL_cons (sn_own (E := TSlot.E) (ty := 49) (l' := x78.1) _ TSlot.nf rfl (by first | rfl | (simp (disch := decide) only [mpushs_nil, mpushs_cons, mget_hd, mget_tl, mget_appW_o, mget_appW_n]))) (snL_cons (sn_sc _ _) (snL_cons (sn_sc _ _) snL_nil)))))) ?_
        refine imp exT2_b ?_
        refine imp ex_i64_b ?_
        refine cond_b (fun _ => ?_) (fun _ => ?_)
        · refine imp (opP_of (show _ = some ((intA (x109.1.length : Int)), []) from len_own)) ?_
          refine imp ex_i64_b ?_
          refine cond_b (fun _ => ?_) (fun _ => ?_)
          · refine cond_b (fun _ => ?_) (fun _ => ?_)
            · exact fun hg => ret1 (hR _ (Option.some.inj hg).symm) (fz_sc _ _)
            · exact fun hg => ret1 (hR _ (Option.some.inj hg).symm) (fz_sc _ _)
          · exact fun hg => ret1 (hR _ (Option.some.inj hg).symm) (fz_sc _ _)
        · refine bind_b fun x119 h119 => ?_
          refine imp (callW_D (show PureD _ _ _ _ _ _ (AV.tup [(ownV TSlot.E 241 x119.1), (intA x119.2)]) [(241, ownB TSlot.E 49 x119.1)] from mg26S h119 (snL_cons (sn_lst (E := TSlotDemand.E) _ _ false) (snL_cons (sn_own (E := TSlot.E) (ty := 49) (l' := x109.1) _ TSlot.nf rfl (by first | rfl | (simp (disch := decide) only [mpushs_nil, mpushs_cons, mget_hd, mget_tl, mget_appW_o, mget_appW_n]))) (snL_cons (sn_sc _ _) (snL_cons (sn_sc _ _) snL_nil)))))) ?_
          refine imp exT2_b ?_
          refine imp ex_i64_b ?_
          refine bind_b fun x120 h120 => ?_
          refine imp (callW_D (show PureD _ _ _ _ _ _ (AV.tup [(ownV intE 312 x120.1), (intA x120.2)]) [(312, ownB intE 3 x120.1)] from mg27S h120 (snL_cons (sn_lst (E := TSlotDemand.E) _ _ false) (snL_cons (sn_own (E := TSlot.E) (ty := 49) (l' := x78.1) _ TSlot.nf rfl (by first | rfl | (simp (disch := decide) only [mpushs_nil, mpushs_cons, mget_hd, mget_tl, mget_appW_o, mget_appW_n]))) snL_nil)))) ?_
          refine imp exT2_b ?_
          refine imp ex_i64_b ?_
          refine bind_b fun x121 h121 => ?_
          refine imp (callW_D (show PureD _ _ _ _ _ _ (AV.tup [(ownV intE 383 x121.1), (intA x121.2)]) [(383, ownB intE 3 x121.1)] from mg27S h121 (snL_cons (sn_lst (E := TSlotDemand.E) _ _ false) (snL_cons (sn_own (E := TSlot.E) (ty := 49) (l' := x109.1) _ TSlot.nf rfl (by first | rfl | (simp (disch := decide) only [mpushs_nil, mpushs_cons, mget_hd, mget_tl, mget_appW_o, mget_appW_n]))) snL_nil)))) ?_
          refine imp exT2_b ?_
          refine imp ex_i64_b ?_
          refine imp (opP_of (show _ = some ((intA (x120.1.length : Int)), []) from len_own)) ?_
          refine imp ex_i64_b ?_
          refine imp (opP_of (show _ = some ((intA (x121.1.length : Int)), []) from len_own)) ?_
          refine imp ex_i64_b ?_
          refine imp (opP_of (show _ = some ((intA (if (x121.1.length : Int) < (x120.1.length : Int) then (x121.1.length : Int) else (x120.1.length : Int))), []) from (by kernel_rfl))) ?_
          refine imp ex_i64_b ?_
          exact fun hg => L7_0_ok n false x78.1 x119.1 x119.2 x120.1 x120.2 x121.1 x121.2 (if (x121.1.length : Int) < (x120.1.length : Int) then (x121.1.length : Int) else (x120.1.length : Int)) R  hR n _ hg (weak_mem [] rfl rfl rfl (okW_cons (.inl (leV_refl _)) (okW_cons (ent_own_frz (E := TSlot.E) (ty := 49) (l' := x78.1) rfl (by first | rfl | (simp (disch := decide) only [mpushs_nil, mpushs_cons, mget_hd, mget_tl, mget_appW_o, mget_appW_n])) rfl) (okW_cons (ent_own_frz (E := TSlot.E) (ty := 49) (l' := x119.1) rfl (by first | rfl | (simp (disch := decide) only [mpushs_nil, mpushs_cons, mget_hd, mget_tl, mget_appW_o, mget_appW_n])) rfl) (okW_cons (.inl (leV_refl _)) (okW_cons (ent_own_frz (E := intE) (ty := 3) (l' := x120.1) rfl (by first | rfl | (simp (disch := decide) only [mpushs_nil, mpushs_cons, mget_hd, mget_tl, mget_appW_o, mget_appW_n])) rfl) (okW_cons (.inl (leV_refl _)) (okW_cons (ent_own_frz (E := intE) (ty := 3) (l' := x121.1) rfl (by first | rfl | (simp (disch := decide) only [mpushs_nil, mpushs_cons, mget_hd, mget_tl, mget_appW_o, mget_appW_n])) rfl) (okW_cons (.inl (leV_refl _)) (okW_cons (.inl (leV_refl _)) (okW_cons (.inl (leV_refl _)) (okW_cons (.inl (leV_refl _)) okW_nil))))))))))) okB_nil')
theorem sg7 {n : Nat} {a0 : List TSlotDemand} {a1 : List TFlowCap} {a2 : Int} {a3 : Int} {t : ρ7} (h : g7 n a0 a1 a2 a3 = some t) : Says Try.prog KK.gl 7 [(lstA TSlotDemand.E a0), (lstA TFlowCap.E a1), (intA a2), (intA a3)] ((boolA t)) :=
  says_of_own (by first | rfl | simp [cleans, clean, encs_clean, En.cln]) (by first | rfl | simp [cleans, clean, encs_clean, En.cln]) (F7_own (lstA TSlotDemand.E a0) (lstA TFlowCap.E a1) a2 a3 _ (g7_ok n a0 a1 a2 a3 (Ans ((boolA t))) (fun r e u m h => by rw [e]; exact h) h))
/- skyway/flow.index$1 -/
theorem g47_ok (n : Nat) (a0 : TFlowCap) (a1_0 : Int) {t : ρ47} (R : AV → Mem → Prop) (hR : ∀ r : ρ47, t = r → ∀ u m, Ans ((boolA r)) u m → R u m) : g47 n a0 a1_0 = some t → F47 a0.Span_From a0.Span_To a0.Many (AV.ept [(intA a1_0)] 0) R := by
  unfold g47 F47
  refine imp (opP_of (show _ = some ((intA a1_0), []) from rfl)) ?_
  refine imp ex_i64_b ?_
  refine cond_b (fun _ => ?_) (fun _ => ?_)
  · refine imp (opP_of (show _ = some ((intA a1_0), []) from rfl)) ?_
    refine imp ex_i64_b ?_
    exact fun hg => ret1 (hR _ (Option.some.inj hg).symm) (fz_sc _ _)
  · exact fun hg => ret1 (hR _ (Option.some.inj hg).symm) (fz_sc _ _)
theorem sg47 {n : Nat} {a0 : TFlowCap} {a1_0 : Int} {t : ρ47} (h : g47 n a0 a1_0 = some t) : Says Try.prog KK.gl 47 [(AV.agg [(intA a0.Span_From), (intA a0.Span_To), (intA a0.Many)]), (AV.ept [(intA a1_0)] 0)] ((boolA t)) :=
  says_of_own (by first | rfl | simp [cleans, clean, encs_clean, En.cln]) (by first | rfl | simp [cleans, clean, encs_clean, En.cln]) (F47_own a0.Span_From a0.Span_To a0.Many (AV.ept [(intA a1_0)] 0) _ (g47_ok n a0 a1_0 (Ans ((boolA t))) (fun r e u m h => by rw [e]; exact h) h))
end Go.Proofs.Ytfhcciepaangiaa
