/- Plain functional programs out of the program's functions, with proofs that the functions compute them; printed by wip/Ext.lean.txt. -/
import Derived.Test.YtfhcciepaangiaaX1E1
set_option linter.unusedVariables false
set_option linter.unusedSimpArgs false
set_option maxRecDepth 100000
namespace Go.Proofs.Ytfhcciepaangiaa
/- skyway/slot.Assign -/
theorem B19_0_0_okM (n : Nat) (a0 : ByteArray) (a2 : List TFlowCap) (c7 : Int) (x47 : List TSlotDemand) (c37 : Int) (v38 : Int) (k100003_0 : ByteArray) (k100003_1 : Int) (w15 : Int) (L90000 : List Int) (L90001 : List TSlot) {t : (Int × List Int × List TSlot) ⊕ ((Int × List Int × List TSlot) ⊕ ρ19)} (R : AV → Mem → Prop) (N0 : St → Prop) (N1 : St → Prop) (hR : ∀ r : ρ19, t = (.inr (.inr r)) → ∀ u m, MadeT TSlot.E 49 r.1 [Value.int .i64 r.2] u m → R u m) (hN0 : ∀ y : Int × List Int × List TSlot, t = (.inr (.inl y)) → ∀ s' : St, Weak KK 99 0 s' (h19_0 a0 (lstA TFlowCap.E a2) AV.nils c7 (blkV intE 90000 y.2.1) (ownV TSlot.E 90001 y.2.2) (lstA TSlotDemand.E x47) c37 y.1 [(90000, some ⟨encs intE y.2.1, 3⟩), (90001, ownB TSlot.E 49 y.2.2)]) → N0 s') (hN1 : ∀ y : Int × List Int × List TSlot, t = (.inl y) → ∀ s' : St, Weak KK 99 0 s' (h19_0_0 a0 (lstA TFlowCap.E a2) AV.nils c7 (blkV intE 90000 y.2.1) (ownV TSlot.E 90001 y.2.2) y.1 (lstA TSlotDemand.E x47) c37 v38 k100003_0 k100003_1 [(90000, some ⟨encs intE y.2.1, 3⟩), (90001, ownB TSlot.E 49 y.2.2)]) → N1 s') : S19_0_0 n a0 a2 c7 x47 c37 v38 k100003_0 k100003_1 w15 L90000 L90001 = some t → B19_0_0 a0 (lstA TFlowCap.E a2) AV.nils c7 (blkV intE 90000 L90000) (ownV TSlot.E 90001 L90001) w15 (lstA TSlotDemand.E x47) c37 v38 k100003_0 k100003_1 [(90000, some ⟨encs intE L90000, 3⟩), (90001, ownB TSlot.E 49 L90001)] R N0 N1 := by
  unfold S19_0_0 B19_0_0
  refine cond_b (fun _ => ?_) (fun _ => ?_)
  · refine imp (opP_of (show _ = some ((intA (a2.length : Int)), []) from rfl)) ?_
    refine imp ex_i64_b ?_
    refine cond_b (fun _ => ?_) (fun _ => ?_)
    · refine bind_b fun x51 h51 => ?_
      refine imp (opP_of (show _ = some ((AV.ptr 90000 (((w15 : Int).toNat) * 1 + 0)), []) from (idx_blk (E := intE) rfl h51))) ?_
      refine imp (opP_of (show _ = some ((intA x51), []) from (ldS_blk (E := intE) (l := L90000) (ty := 3) (o := 0) (by first | rfl | (simp (disch := decide) only [mpushs_nil, mpushs_cons, mget_hd, mget_tl, mget_appW_o, mget_appW_n])) (getI_some h51).2 rfl (by decide) rfl))) ?_
      refine imp ex_i64_b ?_
      refine bind_b fun x52 h52 => ?_
      refine imp (opP_of (show _ = some ((AV.ept [(intA x52.Span_From), (intA x52.Span_To), (intA x52.Many)] 0), []) from (idx_lst (E := TFlowCap.E) rfl h52))) ?_
      refine imp (opP_of (show _ = some ((AV.ept [(intA x52.Span_From), (intA x52.Span_To), (intA x52.Many)] 2), []) from rfl)) ?_
      refine imp (opP_of (show _ = some ((intA x52.Many), []) from rfl)) ?_
      refine imp ex_i64_b ?_
      refine cond_b (fun _ => ?_) (fun _ => ?_)
      · exact fun hg => hN1 _ (Option.some.inj hg).symm _ (weak_mem [(90000, 90000), (90001, 90001), (100003, 100003)] rfl rfl rfl (okW_cons (.inl (leV_refl _)) (okW_cons (ent_lst (E := TFlowCap.E) _ false) (okW_cons (.inl (leV_refl _)) (okW_cons (.inl (leV_refl _)) (okW_cons (ent_blk (E := intE) (id := 90000) (l' := L90000) rfl rfl) (okW_cons (ent_own (E := TSlot.E) (id := 90001) (l' := L90001) rfl rfl) (okW_cons (.inl (leV_refl _)) (okW_cons (.inl (leV_refl _)) (okW_cons (ent_lst (E := TSlotDemand.E) _ false) (okW_cons (.inl (leV_refl _)) (okW_cons (.inl (leV_refl _)) okW_nil))))))))))) (okB_cons (okB_cells (cs := [(strA k100003_0), (intA k100003_1)]) (ty := 44) rfl (show mget _ 100003 = _ from (by first | rfl | (simp (disch := decide) only [mpushs_nil, mpushs_cons, mget_hd, mget_tl, mget_appW_o, mget_appW_n])))) (okB_cons (okB_cells (cs := encs intE L90000) (ty := 3) (encs_clean _) (show mget _ 90000 = _ from (by first | rfl | (simp (disch := decide) only [mpushs_nil, mpushs_cons, mget_hd, mget_tl, mget_appW_o, mget_appW_n])))) (okB_cons (okB_own (E := TSlot.E) (ty := 49) (l' := L90001) rfl (show mget _ 90001 = _ from (by first | rfl | (simp (disch := decide) only [mpushs_nil, mpushs_cons, mget_hd, mget_tl, mget_appW_o, mget_appW_n])))) okB_nil'))))
      · refine cond_b (fun _ => ?_) (fun _ => ?_)
        · exact fun hg => hR _ (Option.some.inj hg).symm _ _ ⟨_, rfl, made_nils_pf⟩
        · refine imp (opP_of (show _ = some ((intA (a2.length : Int)), []) from rfl)) ?_
          refine imp ex_i64_b ?_
          refine cond_b (fun _ => ?_) (fun _ => ?_)
          · exact fun hg => hR _ (Option.some.inj hg).symm _ _ ⟨_, rfl, made_nils_pf⟩
          · refine bind_b fun x53 h53 => ?_
            refine imp (opP_of (show _ = some ((AV.ptr 90000 (((w15 : Int).toNat) * 1 + 0)), []) from (idx_blk (E := intE) rfl h53))) ?_
            refine imp (opP_of (show _ = some ((intA x53), []) from (ldS_blk (E := intE) (l := L90000) (ty := 3) (o := 0) (by first | rfl | (simp (disch := decide) only [mpushs_nil, mpushs_cons, mget_hd, mget_tl, mget_appW_o, mget_appW_n])) (getI_some h53).2 rfl (by decide) rfl))) ?_
            refine imp ex_i64_b ?_
            refine bind_b fun x54 h54 => ?_
            refine imp (opP_of (show _ = some ((AV.ptr 90000 (((w15 : Int).toNat) * 1 + 0)), []) from (idx_blk (E := intE) rfl h54))) ?_
            refine imp (storeW_el (E := intE) (l := L90000) (i := ((w15 : Int).toNat)) (o := 0) (y := (IntKind.wrap .i64 (x53 + (1)))) (ty := 3) (by kernel_rfl) (by kernel_rfl) rfl (by first | rfl | (simp (disch := decide) only [mpushs_nil, mpushs_cons, mget_hd, mget_tl, mget_appW_o, mget_appW_n])) (getI_some h54).2 rfl (by decide) rfl) ?_
            refine imp (opM_of (show _ = some ((strA k100003_0), []) from (ldS_ptr (b := ⟨[(strA k100003_0), (intA k100003_1)], 44⟩) (by first | rfl | (rw [look'_mem (by first | rfl | simp [topId_blk] | simp [topId])]; first | rfl | (simp (disch := decide) only [mpushs_nil, mpushs_cons, mget_hd, mget_tl, mget_appW_o, mget_appW_n]))) rfl))) ?_
            refine imp exStr_b ?_
            refine imp (opM_of (show _ = some ((intA k100003_1), []) from (ldS_ptr (b := ⟨[(strA k100003_0), (intA k100003_1)], 44⟩) (by first | rfl | (rw [look'_mem (by first | rfl | simp [topId_blk] | simp [topId])]; first | rfl | (simp (disch := decide) only [mpushs_nil, mpushs_cons, mget_hd, mget_tl, mget_appW_o, mget_appW_n]))) rfl))) ?_
            refine imp ex_i64_b ?_
            refine bind_b fun x55 h55 => ?_
            refine imp (opM_of (show _ = some ((AV.ept [(intA x55.Span_From), (intA x55.Span_To), (intA x55.Many)] 0), []) from (idx_lst (E := TFlowCap.E) rfl h55))) ?_
            refine imp (opM_of (show _ = some ((AV.ept [(intA x55.Span_From), (intA x55.Span_To), (intA x55.Many)] 0), []) from rfl)) ?_
            refine imp (opM_of (show _ = some ((AV.ept [(intA x55.Span_From), (intA x55.Span_To), (intA x55.Many)] 0), []) from rfl)) ?_
            refine imp (opM_of (show _ = some ((intA x55.Span_From), []) from rfl)) ?_
            refine imp ex_i64_b ?_
            refine imp (opM_of (show _ = some ((intA (if x55.Span_From > k100003_1 then x55.Span_From else k100003_1)), []) from (by kernel_rfl))) ?_
            refine imp ex_i64_b ?_
            refine imp (opM_of (show _ = some ((AV.agg [(strA k100003_0), (strA a0), (intA (if x55.Span_From > k100003_1 then x55.Span_From else k100003_1))]), []) from rfl)) ?_
            refine imp (opM_of (show _ = some ((blkV TSlot.E 200049 ([(⟨k100003_0, a0, (if x55.Span_From > k100003_1 then x55.Span_From else k100003_1)⟩ : TSlot)] : List TSlot)), [(200049, some ⟨encs TSlot.E ([(⟨k100003_0, a0, (if x55.Span_From > k100003_1 then x55.Span_From else k100003_1)⟩ : TSlot)] : List TSlot), 49⟩)]) from rfl)) ?_
            refine bind_b fun x56 h56 => ?_
            refine imp (opM_of (show _ = some ((ownV TSlot.E 200050 (L90001 ++ ([(⟨k100003_0, a0, (if x55.Span_From > k100003_1 then x55.Span_From else k100003_1)⟩ : TSlot)] : List TSlot))), (appW TSlot.E 200050 90001 49 L90001 ([(⟨k100003_0, a0, (if x55.Span_From > k100003_1 then x55.Span_From else k100003_1)⟩ : TSlot)] : List TSlot))) from (app_own (E := TSlot.E) (l' := L90001) (xs := ([(⟨k100003_0, a0, (if x55.Span_From > k100003_1 then x55.Span_From else k100003_1)⟩ : TSlot)] : List TSlot)) rfl rfl (cellsOf_blk (E := TSlot.E) (ty := 49) rfl rfl (by first | rfl | (rw [look'_mem (by first | rfl | simp [topId_blk] | simp [topId])]; first | rfl | (simp (disch := decide) only [mpushs_nil, mpushs_cons, mget_hd, mget_tl, mget_appW_o, mget_appW_n])))) (by simp) rfl (fun hne => look'_own hne rfl (by first | rfl | (simp (disch := decide) only [mpushs_nil, mpushs_cons, mget_hd, mget_tl, mget_appW_o, mget_appW_n]))) h56))) ?_
            refine imp (chk_of (by rcases (L90001) with _ | ⟨_, _⟩ <;> kernel_rfl)) ?_
            exact fun hg => hN0 _ (Option.some.inj hg).symm _ (weak_mem [(90000, 90000), (90001, 200050)] rfl rfl rfl (okW_cons (.inl (leV_refl _)) (okW_cons (ent_lst (E := TFlowCap.E) _ false) (okW_cons (.inl (leV_refl _)) (okW_cons (.inl (leV_refl _)) (okW_cons (ent_blk (E := intE) (id := 90000) (l' := (L90000.set ((w15 : Int).toNat) (IntKind.wrap .i64 (x53 + (1))))) (by first | rfl | omega | (simp; done) | (simp; omega)) rfl) (okW_cons (ent_own (E := TSlot.E) (id := 200050) (l' := (L90001 ++ ([(⟨k100003_0, a0, (if x55.Span_From > k100003_1 then x55.Span_From else k100003_1)⟩ : TSlot)] : List TSlot))) rfl rfl) (okW_cons (ent_lst (E := TSlotDemand.E) _ false) (okW_cons (.inl (leV_refl _)) (okW_cons (.inl (leV_refl _)) okW_nil))))))))) (okB_cons (okB_cells (cs := encs intE (L90000.set ((w15 : Int).toNat) (IntKind.wrap .i64 (x53 + (1))))) (ty := 3) (encs_clean _) (show mget _ 90000 = _ from (by first | rfl | (simp (disch := decide) only [mpushs_nil, mpushs_cons, mget_hd, mget_tl, mget_appW_o, mget_appW_n])))) (okB_cons (okB_own (E := TSlot.E) (ty := 49) (l' := (L90001 ++ ([(⟨k100003_0, a0, (if x55.Span_From > k100003_1 then x55.Span_From else k100003_1)⟩ : TSlot)] : List TSlot))) rfl (show mget _ 200050 = _ from (by first | rfl | (simp (disch := decide) only [mpushs_nil, mpushs_cons, mget_hd, mget_tl, mget_appW_o, mget_appW_n])))) okB_nil')))
    · refine cond_b (fun _ => ?_) (fun _ => ?_)
      · exact fun hg => hR _ (Option.some.inj hg).symm _ _ ⟨_, rfl, made_nils_pf⟩
      · refine imp (opP_of (show _ = some ((intA (a2.length : Int)), []) from rfl)) ?_
        refine imp ex_i64_b ?_
        refine cond_b (fun _ => ?_) (fun _ => ?_)
        · exact fun hg => hR _ (Option.some.inj hg).symm _ _ ⟨_, rfl, made_nils_pf⟩
        · refine bind_b fun x57 h57 => ?_
          refine imp (opP_of (show _ = some ((AV.ptr 90000 (((w15 : Int).toNat) * 1 + 0)), []) from (idx_blk (E := intE) rfl h57))) ?_
          refine imp (opP_of (show _ = some ((intA x57), []) from (ldS_blk (E := intE) (l := L90000) (ty := 3) (o := 0) (by first | rfl | (simp (disch := decide) only [mpushs_nil, mpushs_cons, mget_hd, mget_tl, mget_appW_o, mget_appW_n])) (getI_some h57).2 rfl (by decide) rfl))) ?_
          refine imp ex_i64_b ?_
          refine bind_b fun x58 h58 => ?_
          refine imp (opP_of (show _ = some ((AV.ptr 90000 (((w15 : Int).toNat) * 1 + 0)), []) from (idx_blk (E := intE) rfl h58))) ?_
          refine imp (storeW_el (E := intE) (l := L90000) (i := ((w15 : Int).toNat)) (o := 0) (y := (IntKind.wrap .i64 (x57 + (1)))) (ty := 3) (by kernel_rfl) (by kernel_rfl) rfl (by first | rfl | (simp (disch := decide) only [mpushs_nil, mpushs_cons, mget_hd, mget_tl, mget_appW_o, mget_appW_n])) (getI_some h58).2 rfl (by decide) rfl) ?_
          refine imp (opM_of (show _ = some ((strA k100003_0), []) from (ldS_ptr (b := ⟨[(strA k100003_0), (intA k100003_1)], 44⟩) (by first | rfl | (rw [look'_mem (by first | rfl | simp [topId_blk] | simp [topId])]; first | rfl | (simp (disch := decide) only [mpushs_nil, mpushs_cons, mget_hd, mget_tl, mget_appW_o, mget_appW_n]))) rfl))) ?_
          refine imp exStr_b ?_
          refine imp (opM_of (show _ = some ((intA k100003_1), []) from (ldS_ptr (b := ⟨[(strA k100003_0), (intA k100003_1)], 44⟩) (by first | rfl | (rw [look'_mem (by first | rfl | simp [topId_blk] | simp [topId])]; first | rfl | (simp (disch := decide) only [mpushs_nil, mpushs_cons, mget_hd, mget_tl, mget_appW_o, mget_appW_n]))) rfl))) ?_
          refine imp ex_i64_b ?_
          refine bind_b fun x59 h59 => ?_
          refine imp (opM_of (show _ = some ((AV.ept [(intA x59.Span_From), (intA x59.Span_To), (intA x59.Many)] 0), []) from (idx_lst (E := TFlowCap.E) rfl h59))) ?_
          refine imp (opM_of (show _ = some ((AV.ept [(intA x59.Span_From), (intA x59.Span_To), (intA x59.Many)] 0), []) from rfl)) ?_
          refine imp (opM_of (show _ = some ((AV.ept [(intA x59.Span_From), (intA x59.Span_To), (intA x59.Many)] 0), []) from rfl)) ?_
          refine imp (opM_of (show _ = some ((intA x59.Span_From), []) from rfl)) ?_
          refine imp ex_i64_b ?_
          refine imp (opM_of (show _ = some ((intA (if x59.Span_From > k100003_1 then x59.Span_From else k100003_1)), []) from (by kernel_rfl))) ?_
          refine imp ex_i64_b ?_
          refine imp (opM_of (show _ = some ((AV.agg [(strA k100003_0), (strA a0), (intA (if x59.Span_From > k100003_1 then x59.Span_From else k100003_1))]), []) from rfl)) ?_
          refine imp (opM_of (show _ = some ((blkV TSlot.E 200049 ([(⟨k100003_0, a0, (if x59.Span_From > k100003_1 then x59.Span_From else k100003_1)⟩ : TSlot)] : List TSlot)), [(200049, some ⟨encs TSlot.E ([(⟨k100003_0, a0, (if x59.Span_From > k100003_1 then x59.Span_From else k100003_1)⟩ : TSlot)] : List TSlot), 49⟩)]) from rfl)) ?_
          refine bind_b fun x60 h60 => ?_
          refine imp (opM_of (show _ = some ((ownV TSlot.E 200050 (L90001 ++ ([(⟨k100003_0, a0, (if x59.Span_From > k100003_1 then x59.Span_From else k100003_1)⟩ : TSlot)] : List TSlot))), (appW TSlot.E 200050 90001 49 L90001 ([(⟨k100003_0, a0, (if x59.Span_From > k100003_1 then x59.Span_From else k100003_1)⟩ : TSlot)] : List TSlot))) from (app_own (E := TSlot.E) (l' := L90001) (xs := ([(⟨k100003_0, a0, (if x59.Span_From > k100003_1 then x59.Span_From else k100003_1)⟩ : TSlot)] : List TSlot)) rfl rfl (cellsOf_blk (E := TSlot.E) (ty := 49) rfl rfl (by first | rfl | (rw [look'_mem (by first | rfl | simp [topId_blk] | simp [topId])]; first | rfl | (simp (disch := decide) only [mpushs_nil, mpushs_cons, mget_hd, mget_tl, mget_appW_o, mget_appW_n])))) (by simp) rfl (fun hne => look'_own hne rfl (by first | rfl | (simp (disch := decide) only [mpushs_nil, mpushs_cons, mget_hd, mget_tl, mget_appW_o, mget_appW_n]))) h60))) ?_
          refine imp (chk_of (by rcases (L90001) with _ | ⟨_, _⟩ <;> kernel_rfl)) ?_
          exact fun hg => hN0 _ (Option.some.inj hg).symm _ (weak_mem [(90000, 90000), (90001, 200050)] rfl rfl rfl (okW_cons (.inl (leV_refl _)) (okW_cons (ent_lst (E := TFlowCap.E) _ false) (okW_cons (.inl (leV_refl _)) (okW_cons (.inl (leV_refl _)) (okW_cons (ent_blk (E := intE) (id := 90000) (l' := (L90000.set ((w15 : Int).toNat) (IntKind.wrap .i64 (x57 + (1))))) (by first | rfl | omega | (simp; done) | (simp; omega)) rfl) (okW_cons (ent_own (E := TSlot.E) (id := 200050) (l' := (L90001 ++ ([(⟨k100003_0, a0, (if x59.Span_From > k100003_1 then x59.Span_From else k100003_1)⟩ : TSlot)] : List TSlot))) rfl rfl) (okW_cons (ent_lst (E := TSlotDemand.E) _ false) (okW_cons (.inl (leV_refl _)) (okW_cons (.inl (leV_refl _)) okW_nil))))))))) (okB_cons (okB_cells (cs := encs intE (L90000.set ((w15 : Int).toNat) (IntKind.wrap .i64 (x57 + (1))))) (ty := 3) (encs_clean _) (show mget _ 90000 = _ from (by first | rfl | (simp (disch := decide) only [mpushs_nil, mpushs_cons, mget_hd, mget_tl, mget_appW_o, mget_appW_n])))) (okB_cons (okB_own (E := TSlot.E) (ty := 49) (l' := (L90001 ++ ([(⟨k100003_0, a0, (if x59.Span_From > k100003_1 then x59.Span_From else k100003_1)⟩ : TSlot)] : List TSlot))) rfl (show mget _ 200050 = _ from (by first | rfl | (simp (disch := decide) only [mpushs_nil, mpushs_cons, mget_hd, mget_tl, mget_appW_o, mget_appW_n])))) okB_nil')))
  · refine cond_b (fun _ => ?_) (fun _ => ?_)
    · exact fun hg => hR _ (Option.some.inj hg).symm _ _ ⟨_, rfl, made_nils_pf⟩
    · refine imp (opP_of (show _ = some ((intA (a2.length : Int)), []) from rfl)) ?_
      refine imp ex_i64_b ?_
      refine cond_b (fun _ => ?_) (fun _ => ?_)
      · exact fun hg => hR _ (Option.some.inj hg).symm _ _ ⟨_, rfl, made_nils_pf⟩
      · refine bind_b fun x61 h61 => ?_
        refine imp (opP_of (show _ = some ((AV.ptr 90000 (((w15 : Int).toNat) * 1 + 0)), []) from (idx_blk (E := intE) rfl h61))) ?_
        refine imp (opP_of (show _ = some ((intA x61), []) from (ldS_blk (E := intE) (l := L90000) (ty := 3) (o := 0) (by first | rfl | (simp (disch := decide) only [mpushs_nil, mpushs_cons, mget_hd, mget_tl, mget_appW_o, mget_appW_n])) (getI_some h61).2 rfl (by decide) rfl))) ?_
        refine imp ex_i64_b ?_
        refine bind_b fun x62 h62 => ?_
        refine imp (opP_of (show _ = some ((AV.ptr 90000 (((w15 : Int).toNat) * 1 + 0)), []) from (idx_blk (E := intE) rfl h62))) ?_
        refine imp (storeW_el (E := intE) (l := L90000) (i := ((w15 : Int).toNat)) (o := 0) (y := (IntKind.wrap .i64 (x61 + (1)))) (ty := 3) (by kernel_rfl) (by kernel_rfl) rfl (by first | rfl | (simp (disch := decide) only [mpushs_nil, mpushs_cons, mget_hd, mget_tl, mget_appW_o, mget_appW_n])) (getI_some h62).2 rfl (by decide) rfl) ?_
        refine imp (opM_of (show _ = some ((strA k100003_0), []) from (ldS_ptr (b := ⟨[(strA k100003_0), (intA k100003_1)], 44⟩) (by first | rfl | (rw [look'_mem (by first | rfl | simp [topId_blk] | simp [topId])]; first | rfl | (simp (disch := decide) only [mpushs_nil, mpushs_cons, mget_hd, mget_tl, mget_appW_o, mget_appW_n]))) rfl))) ?_
        refine imp exStr_b ?_
        refine imp (opM_of (show _ = some ((intA k100003_1), []) from (ldS_ptr (b := ⟨[(strA k100003_0), (intA k100003_1)], 44⟩) (by first | rfl | (rw [look'_mem (by first | rfl | simp [topId_blk] | simp [topId])]; first | rfl | (simp (disch := decide) only [mpushs_nil, mpushs_cons, mget_hd, mget_tl, mget_appW_o, mget_appW_n]))) rfl))) ?_
        refine imp ex_i64_b ?_
        refine bind_b fun x63 h63 => ?_
        refine imp (opM_of (show _ = some ((AV.ept [(intA x63.Span_From), (intA x63.Span_To), (intA x63.Many)] 0), []) from (idx_lst (E := TFlowCap.E) rfl h63))) ?_
        refine imp (opM_of (show _ = some ((AV.ept [(intA x63.Span_From), (intA x63.Span_To), (intA x63.Many)] 0), []) from rfl)) ?_
        refine imp (opM_of (show _ = some ((AV.ept [(intA x63.Span_From), (intA x63.Span_To), (intA x63.Many)] 0), []) from rfl)) ?_
        refine imp (opM_of (show _ = some ((intA x63.Span_From), []) from rfl)) ?_
        refine imp ex_i64_b ?_
        refine imp (opM_of (show _ = some ((intA (if x63.Span_From > k100003_1 then x63.Span_From else k100003_1)), []) from (by kernel_rfl))) ?_
        refine imp ex_i64_b ?_
        refine imp (opM_of (show _ = some ((AV.agg [(strA k100003_0), (strA a0), (intA (if x63.Span_From > k100003_1 then x63.Span_From else k100003_1))]), []) from rfl)) ?_
        refine imp (opM_of (show _ = some ((blkV TSlot.E 200049 ([(⟨k100003_0, a0, (if x63.Span_From > k100003_1 then x63.Span_From else k100003_1)⟩ : TSlot)] : List TSlot)), [(200049, some ⟨encs TSlot.E ([(⟨k100003_0, a0, (if x63.Span_From > k100003_1 then x63.Span_From else k100003_1)⟩ : TSlot)] : List TSlot), 49⟩)]) from rfl)) ?_
        refine bind_b fun x64 h64 => ?_
        refine imp (opM_of (show _ = some ((ownV TSlot.E 200050 (L90001 ++ ([(⟨k100003_0, a0, (if x63.Span_From > k100003_1 then x63.Span_From else k100003_1)⟩ : TSlot)] : List TSlot))), (appW TSlot.E 200050 90001 49 L90001 ([(⟨k100003_0, a0, (if x63.Span_From > k100003_1 then x63.Span_From else k100003_1)⟩ : TSlot)] : List TSlot))) from (app_own (E := TSlot.E) (l' := L90001) (xs := ([(⟨k100003_0, a0, (if x63.Span_From > k100003_1 then x63.Span_From else k100003_1)⟩ : TSlot)] : List TSlot)) rfl rfl (cellsOf_blk (E := TSlot.E) (ty := 49) rfl rfl (by first | rfl | (rw [look'_mem (by first | rfl | simp [topId_blk] | simp [topId])]; first | rfl | (simp (disch := decide) only [mpushs_nil, mpushs_cons, mget_hd, mget_tl, mget_appW_o, mget_appW_n])))) (by simp) rfl (fun hne => look'_own hne rfl (by first | rfl | (simp (disch := decide) only [mpushs_nil, mpushs_cons, mget_hd, mget_tl, mget_appW_o, mget_appW_n]))) h64))) ?_
        refine imp (chk_of (by rcases (L90001) with _ | ⟨_, _⟩ <;> kernel_rfl)) ?_
        exact fun hg => hN0 _ (Option.some.inj hg).symm _ (weak_mem [(90000, 90000), (90001, 200050)] rfl rfl rfl (okW_cons (.inl (leV_refl _)) (okW_cons (ent_lst (E := TFlowCap.E) _ false) (okW_cons (.inl (leV_refl _)) (okW_cons (.inl (leV_refl _)) (okW_cons (ent_blk (E := intE) (id := 90000) (l' := (L90000.set ((w15 : Int).toNat) (IntKind.wrap .i64 (x61 + (1))))) (by first | rfl | omega | (simp; done) | (simp; omega)) rfl) (okW_cons (ent_own (E := TSlot.E) (id := 200050) (l' := (L90001 ++ ([(⟨k100003_0, a0, (if x63.Span_From > k100003_1 then x63.Span_From else k100003_1)⟩ : TSlot)] : List TSlot))) rfl rfl) (okW_cons (ent_lst (E := TSlotDemand.E) _ false) (okW_cons (.inl (leV_refl _)) (okW_cons (.inl (leV_refl _)) okW_nil))))))))) (okB_cons (okB_cells (cs := encs intE (L90000.set ((w15 : Int).toNat) (IntKind.wrap .i64 (x61 + (1))))) (ty := 3) (encs_clean _) (show mget _ 90000 = _ from (by first | rfl | (simp (disch := decide) only [mpushs_nil, mpushs_cons, mget_hd, mget_tl, mget_appW_o, mget_appW_n])))) (okB_cons (okB_own (E := TSlot.E) (ty := 49) (l' := (L90001 ++ ([(⟨k100003_0, a0, (if x63.Span_From > k100003_1 then x63.Span_From else k100003_1)⟩ : TSlot)] : List TSlot))) rfl (show mget _ 200050 = _ from (by first | rfl | (simp (disch := decide) only [mpushs_nil, mpushs_cons, mget_hd, mget_tl, mget_appW_o, mget_appW_n])))) okB_nil')))
theorem L19_0_0_okM (n : Nat) (a0 : ByteArray) (a2 : List TFlowCap) (c7 : Int) (x47 : List TSlotDemand) (c37 : Int) (v38 : Int) (k100003_0 : ByteArray) (k100003_1 : Int) {t : ((Int × List Int × List TSlot) ⊕ ρ19)} (R : AV → Mem → Prop) (N0 : St → Prop) (hR : ∀ r : ρ19, t = (.inr r) → ∀ u m, MadeT TSlot.E 49 r.1 [Value.int .i64 r.2] u m → R u m) (hN0 : ∀ y : Int × List Int × List TSlot, t = (.inl y) → ∀ s' : St, Weak KK 99 0 s' (h19_0 a0 (lstA TFlowCap.E a2) AV.nils c7 (blkV intE 90000 y.2.1) (ownV TSlot.E 90001 y.2.2) (lstA TSlotDemand.E x47) c37 y.1 [(90000, some ⟨encs intE y.2.1, 3⟩), (90001, ownB TSlot.E 49 y.2.2)]) → N0 s') (k : Nat) (x : Int × List Int × List TSlot) (hx : iterO (fun y : Int × List Int × List TSlot => S19_0_0 n a0 a2 c7 x47 c37 v38 k100003_0 k100003_1 y.1 y.2.1 y.2.2) k x = some t) {s : St} (hw : Weak KK 99 0 s (h19_0_0 a0 (lstA TFlowCap.E a2) AV.nils c7 (blkV intE 90000 x.2.1) (ownV TSlot.E 90001 x.2.2) x.1 (lstA TSlotDemand.E x47) c37 v38 k100003_0 k100003_1 [(90000, some ⟨encs intE x.2.1, 3⟩), (90001, ownB TSlot.E 49 x.2.2)])) : Tri Try.prog KK 99 0 (.loop c19_0_0) s (q19_0_0 R N0) :=
  L19_0_0 R N0 (σ := Nat × (Int × List Int × List TSlot)) (fun z => iterO (fun y : Int × List Int × List TSlot => S19_0_0 n a0 a2 c7 x47 c37 v38 k100003_0 k100003_1 y.1 y.2.1 y.2.2) z.1 z.2 = some t) (fun z => a0) (fun z => (lstA TFlowCap.E a2)) (fun z => AV.nils) (fun z => c7) (fun z => (blkV intE 90000 z.2.2.1)) (fun z => (ownV TSlot.E 90001 z.2.2.2)) (fun z => z.2.1) (fun z => (lstA TSlotDemand.E x47)) (fun z => c37) (fun z => v38) (fun z => k100003_0) (fun z => k100003_1) (fun z => [(90000, some ⟨encs intE z.2.2.1, 3⟩), (90001, ownB TSlot.E 49 z.2.2.2)]) (fun z => z.1) (by
    rintro ⟨k, y⟩ h
    cases k with
    | zero => exact (iterO_zero h).elim
    | succ k =>
      obtain ⟨u, h1, h2, h3⟩ := iterO_elim h
      exact B19_0_0_okM n a0 a2 c7 x47 c37 v38 k100003_0 k100003_1 y.1 y.2.1 y.2.2 R N0 _ (fun r e => hR r (h3 _ e).symm) (fun y' e => hN0 y' (h3 _ e).symm) (fun y' e s' hw => ⟨(k, y'), h2 _ e, Nat.lt_succ_self k, hw⟩) h1) (k, x) hx hw
theorem B19_0_okM (n : Nat) (a0 : ByteArray) (a2 : List TFlowCap) (c7 : Int) (x47 : List TSlotDemand) (c37 : Int) (v38 : Int) (L90000 : List Int) (L90001 : List TSlot) {t : (Int × List Int × List TSlot) ⊕ ρ19} (R : AV → Mem → Prop) (N0 : St → Prop) (hR : ∀ r : ρ19, t = (.inr r) → ∀ u m, MadeT TSlot.E 49 r.1 [Value.int .i64 r.2] u m → R u m) (hN0 : ∀ y : Int × List Int × List TSlot, t = (.inl y) → ∀ s' : St, Weak KK 99 0 s' (h19_0 a0 (lstA TFlowCap.E a2) AV.nils c7 (blkV intE 90000 y.2.1) (ownV TSlot.E 90001 y.2.2) (lstA TSlotDemand.E x47) c37 y.1 [(90000, some ⟨encs intE y.2.1, 3⟩), (90001, ownB TSlot.E 49 y.2.2)]) → N0 s') : S19_0 n a0 a2 c7 x47 c37 v38 L90000 L90001 = some t → B19_0 a0 (lstA TFlowCap.E a2) AV.nils c7 (blkV intE 90000 L90000) (ownV TSlot.E 90001 L90001) (lstA TSlotDemand.E x47) c37 v38 [(90000, some ⟨encs intE L90000, 3⟩), (90001, ownB TSlot.E 49 L90001)] R N0 := by
  unfold S19_0 B19_0
  refine cond_b (fun _ => ?_) (fun _ => ?_)
  · refine bind_b fun x49 h49 => ?_
    refine imp (opP_of (show _ = some ((AV.ept [(strA x49.Call), (intA x49.Time)] 0), []) from (idx_lst (E := TSlotDemand.E) rfl h49))) ?_
    refine imp (opP_of (show _ = some ((AV.agg [(strA x49.Call), (intA x49.Time)]), []) from rfl)) ?_
    refine imp exA2_b ?_
    refine imp exStr_b ?_
    refine imp ex_i64_b ?_
    refine bind_b fun x50 h50 => ?_
    refine imp (callQ_pure (pure_snapN (snL_cons (sn_lst (E := TFlowCap.E) _ _ false) (snL_cons (sn_fn _ _ (snL_cons (sn_ptr _ (ty := 44) (us := [(strA x49.Call), (intA x49.Time)]) (by first | rfl | (simp (disch := decide) only [mpushs_nil, mpushs_cons, mget_hd, mget_tl, mget_appW_o, mget_appW_n])) (snL_cons (sn_sc _ _) (snL_cons (sn_sc _ _) snL_nil))) snL_nil)) snL_nil)) (sg40 h50) rfl)) ?_
    refine imp ex_i64_b ?_
    exact fun hg => L19_0_0_okM n a0 a2 c7 x47 c37 v38 x49.Call x49.Time R N0 hR hN0 n _ hg (weak_mem [(90000, 90000), (90001, 90001), (100003, 100003)] rfl rfl rfl (okW_cons (.inl (leV_refl _)) (okW_cons (ent_lst (E := TFlowCap.E) _ false) (okW_cons (.inl (leV_refl _)) (okW_cons (.inl (leV_refl _)) (okW_cons (ent_blk (E := intE) (id := 90000) (l' := L90000) rfl rfl) (okW_cons (ent_own (E := TSlot.E) (id := 90001) (l' := L90001) rfl rfl) (okW_cons (.inl (leV_refl _)) (okW_cons (.inl (leV_refl _)) (okW_cons (ent_lst (E := TSlotDemand.E) _ false) (okW_cons (.inl (leV_refl _)) (okW_cons (.inl (leV_refl _)) okW_nil))))))))))) (okB_cons (okB_cells (cs := [(strA x49.Call), (intA x49.Time)]) (ty := 44) rfl (show mget _ 100003 = _ from (by first | rfl | (simp (disch := decide) only [mpushs_nil, mpushs_cons, mget_hd, mget_tl, mget_appW_o, mget_appW_n])))) (okB_cons (okB_cells (cs := encs intE L90000) (ty := 3) (encs_clean _) (show mget _ 90000 = _ from (by first | rfl | (simp (disch := decide) only [mpushs_nil, mpushs_cons, mget_hd, mget_tl, mget_appW_o, mget_appW_n])))) (okB_cons (okB_own (E := TSlot.E) (ty := 49) (l' := L90001) rfl (show mget _ 90001 = _ from (by first | rfl | (simp (disch := decide) only [mpushs_nil, mpushs_cons, mget_hd, mget_tl, mget_appW_o, mget_appW_n])))) okB_nil'))))
  · exact fun hg => hR _ (Option.some.inj hg).symm _ _ ⟨_, rfl, (made_own_pf (E := TSlot.E) (ty := 49) (l := L90001) rfl (by first | rfl | (simp (disch := decide) only [mpushs_nil, mpushs_cons, mget_hd, mget_tl, mget_appW_o, mget_appW_n])))⟩
theorem L19_0_okM (n : Nat) (a0 : ByteArray) (a2 : List TFlowCap) (c7 : Int) (x47 : List TSlotDemand) (c37 : Int) {t : ρ19} (R : AV → Mem → Prop) (hR : ∀ r : ρ19, t = r → ∀ u m, MadeT TSlot.E 49 r.1 [Value.int .i64 r.2] u m → R u m) (k : Nat) (x : Int × List Int × List TSlot) (hx : iterO (fun y : Int × List Int × List TSlot => S19_0 n a0 a2 c7 x47 c37 y.1 y.2.1 y.2.2) k x = some t) {s : St} (hw : Weak KK 99 0 s (h19_0 a0 (lstA TFlowCap.E a2) AV.nils c7 (blkV intE 90000 x.2.1) (ownV TSlot.E 90001 x.2.2) (lstA TSlotDemand.E x47) c37 x.1 [(90000, some ⟨encs intE x.2.1, 3⟩), (90001, ownB TSlot.E 49 x.2.2)])) : Tri Try.prog KK 99 0 (.loop c19_0) s (q19_0 R ) :=
  L19_0 R  (σ := Nat × (Int × List Int × List TSlot)) (fun z => iterO (fun y : Int × List Int × List TSlot => S19_0 n a0 a2 c7 x47 c37 y.1 y.2.1 y.2.2) z.1 z.2 = some t) (fun z => a0) (fun z => (lstA TFlowCap.E a2)) (fun z => AV.nils) (fun z => c7) (fun z => (blkV intE 90000 z.2.2.1)) (fun z => (ownV TSlot.E 90001 z.2.2.2)) (fun z => (lstA TSlotDemand.E x47)) (fun z => c37) (fun z => z.2.1) (fun z => [(90000, some ⟨encs intE z.2.2.1, 3⟩), (90001, ownB TSlot.E 49 z.2.2.2)]) (fun z => z.1) (by
    rintro ⟨k, y⟩ h
    cases k with
    | zero => exact (iterO_zero h).elim
    | succ k =>
      obtain ⟨u, h1, h2, h3⟩ := iterO_elim h
      exact B19_0_okM n a0 a2 c7 x47 c37 y.1 y.2.1 y.2.2 R  _ (fun r e => hR r (h3 _ e).symm)  (fun y' e s' hw => ⟨(k, y'), h2 _ e, Nat.lt_succ_self k, hw⟩) h1) (k, x) hx hw
theorem g19_okM (n : Nat) (a0 : ByteArray) (a1 : List TSlotDemand) (a2 : List TFlowCap) {t : ρ19} (R : AV → Mem → Prop) (hR : ∀ r : ρ19, t = r → ∀ u m, MadeT TSlot.E 49 r.1 [Value.int .i64 r.2] u m → R u m) : g19 n a0 a1 a2 = some t → F19 a0 (lstA TSlotDemand.E a1) (lstA TFlowCap.E a2) R := by
  unfold g19 F19
  refine bind_b fun x43 h43 => ?_
  refine imp (callQ_says (sg34 h43)) ?_
  refine imp exB_b ?_
  refine cond_b (fun _ => ?_) (fun _ => ?_)
  · exact fun hg => hR _ (Option.some.inj hg).symm _ _ ⟨_, rfl, made_nils_pf⟩
  · refine bind_b fun x44 h44 => ?_
    refine imp (callQ_says (sg35 h44)) ?_
    refine imp ex_i64_b ?_
    refine cond_b (fun _ => ?_) (fun _ => ?_)
    · exact fun hg => hR _ (Option.some.inj hg).symm _ _ ⟨_, rfl, made_nils_pf⟩
    · refine bind_b fun x45 h45 => ?_
      refine imp (callQ_says (sg10 h45)) ?_
      refine imp ex_i64_b ?_
      refine cond_b (fun _ => ?_) (fun _ => ?_)
      · exact fun hg => hR _ (Option.some.inj hg).symm _ _ ⟨_, rfl, made_nils_pf⟩
      · refine bind_b fun x46 h46 => ?_
        refine imp (callW_D (show PureD _ _ _ _ _ _ (ownV TSlotDemand.E 205 a1) [(205, ownB TSlotDemand.E 44 a1)] from cloneC21 h46)) ?_
        refine bind_b fun x47 h47 => ?_
        have lh47 := sortO_len h47
        refine imp (callW_sortV (E := TSlotDemand.E) (ty := 44) (l := a1) (cmp := (fun x y => g37 n x y)) rfl TSlotDemand.ok sorts36 none36 plain36 rfl (by first | rfl | (simp (disch := decide) only [mpushs_nil, mpushs_cons, mget_hd, mget_tl, mget_appW_o, mget_appW_n])) capsOk_nil (fun x y z h => sg37 h) h47) ?_
        refine imp exT0_b ?_
        refine imp (opP_of (show _ = some ((intA (a2.length : Int)), []) from rfl)) ?_
        refine imp ex_i64_b ?_
        refine bind_b fun x48 h48 => ?_
        refine imp (opN_of (show _ = some ((blkV intE 337 (List.replicate x48 (0))), [(337, some ⟨encs intE (List.replicate x48 (0)), 3⟩)]) from (mks_ok (E := intE) (z := (0)) rfl rfl h48))) ?_
        refine imp (opP_of (show _ = some ((intA (x47.length : Int)), []) from (len_ownL (by first | rfl | omega | (simp; done) | (simp; omega))))) ?_
        refine imp ex_i64_b ?_
        exact fun hg => L19_0_okM n a0 a2 (0) x47 (x47.length : Int) R  hR n _ hg (weak_mem [(90000, 337), (90001, 89501)] rfl rfl rfl (okW_cons (.inl (leV_refl _)) (okW_cons (ent_lst (E := TFlowCap.E) _ false) (okW_cons (.inl (leV_refl _)) (okW_cons (.inl (leV_refl _)) (okW_cons (ent_blk (E := intE) (id := 337) (l' := (List.replicate x48 (0))) rfl rfl) (okW_cons ent_nils_own (okW_cons (ent_own_frz (E := TSlotDemand.E) (ty := 44) (l' := x47) (by first | rfl | omega | (simp; done) | (simp; omega)) (by first | rfl | (simp (disch := decide) only [mpushs_nil, mpushs_cons, mget_hd, mget_tl, mget_appW_o, mget_appW_n])) rfl) (okW_cons (.inl (leV_refl _)) (okW_cons (.inl (leV_refl _)) okW_nil))))))))) (okB_cons (okB_cells (cs := encs intE (List.replicate x48 (0))) (ty := 3) (encs_clean _) (show mget _ 337 = _ from (by first | rfl | (simp (disch := decide) only [mpushs_nil, mpushs_cons, mget_hd, mget_tl, mget_appW_o, mget_appW_n])))) (okB_cons okB_nil okB_nil')))
theorem mg19C {n k : Nat} {look : Nat → Option ABlk} {a0 : ByteArray} {a1 : List TSlotDemand} {a2 : List TFlowCap} {t : ρ19} (h : g19 n a0 a1 a2 = some t) : PureD Try.prog KK.gl look k 19 [(strA a0), (lstA TSlotDemand.E a1), (lstA TFlowCap.E a2)] (.tup (ownV TSlot.E k t.1 :: ([Value.int .i64 t.2] : List Value).map AV.sc)) [(k, ownB TSlot.E 49 t.1)] :=
  made_tupC (by first | rfl | simp [cleans, clean, encs_clean, En.cln]) (F19_own a0 (lstA TSlotDemand.E a1) (lstA TFlowCap.E a2) _ (g19_okM n a0 a1 a2 (MadeT TSlot.E 49 t.1 [Value.int .i64 t.2]) (fun r e u m h => by rw [e]; exact h) h))
theorem mg19S {n k : Nat} {look : Nat → Option ABlk} {args : List AV} {a0 : ByteArray} {a1 : List TSlotDemand} {a2 : List TFlowCap} {t : ρ19} (h : g19 n a0 a1 a2 = some t) (hs : SnL look 6 args [(strA a0), (lstA TSlotDemand.E a1), (lstA TFlowCap.E a2)]) : PureD Try.prog KK.gl look k 19 args (.tup (ownV TSlot.E k t.1 :: ([Value.int .i64 t.2] : List Value).map AV.sc)) [(k, ownB TSlot.E 49 t.1)] :=
  made_tupS (fun _ => rfl) hs (F19_own a0 (lstA TSlotDemand.E a1) (lstA TFlowCap.E a2) _ (g19_okM n a0 a1 a2 (MadeT TSlot.E 49 t.1 [Value.int .i64 t.2]) (fun r e u m h => by rw [e]; exact h) h))
/- skyway/skywaykeep3.pick -/
theorem g20_ok (n : Nat) (a0 : Int) (a1 : Int) {t : ρ20} (R : AV → Mem → Prop) (hR : ∀ r : ρ20, t = r → ∀ u m, Ans ((intA r)) u m → R u m) : g20 n a0 a1 = some t → F20 a0 a1 R := by
  unfold g20 F20
  refine imp (opP_of (show _ = some ((AV.sc (.int .u64 (IntKind.wrap .u64 a0))), []) from (by kernel_rfl))) ?_
  refine imp ex_u64_b ?_
  refine imp (opP_of (show _ = some ((AV.sc (.int .u64 (IntKind.wrap .u64 a1))), []) from (by kernel_rfl))) ?_
  refine imp ex_u64_b ?_
  refine bind_b fun x66 h66 => ?_
  refine imp (opP_of (show _ = some ((AV.sc (.int .u64 x66)), []) from (opA_rem h66))) ?_
  refine imp ex_u64_b ?_
  refine imp (opP_of (show _ = some ((intA (IntKind.wrap .i64 x66)), []) from (by kernel_rfl))) ?_
  refine imp ex_i64_b ?_
  exact fun hg => ret1 (hR _ (Option.some.inj hg).symm) (fz_sc _ _)
theorem sg20 {n : Nat} {a0 : Int} {a1 : Int} {t : ρ20} (h : g20 n a0 a1 = some t) : Says Try.prog KK.gl 20 [(intA a0), (intA a1)] ((intA t)) :=
  says_of_own (by first | rfl | simp [cleans, clean, encs_clean, En.cln]) (by first | rfl | simp [cleans, clean, encs_clean, En.cln]) (F20_own a0 a1 _ (g20_ok n a0 a1 (Ans ((intA t))) (fun r e u m h => by rw [e]; exact h) h))
/- slices.Equal[[]skyway/api.Slot,skyway/api.Slot] -/
theorem B22_0_ok (n : Nat) (a0 : List TSlot) (a1 : List TSlot) (c4 : Bool) (c12 : Int) (v13 : Int) {t : (Int) ⊕ ρ22} (R : AV → Mem → Prop) (N0 : St → Prop) (hR : ∀ r : ρ22, t = (.inr r) → ∀ u m, Ans ((boolA r)) u m → R u m) (hN0 : ∀ y : Int, t = (.inl y) → ∀ s' : St, Weak KK 26 0 s' (h22_0 (lstA TSlot.E a0) (lstA TSlot.E a1) c4 c12 y []) → N0 s') : S22_0 n a0 a1 c4 c12 v13 = some t → B22_0 (lstA TSlot.E a0) (lstA TSlot.E a1) c4 c12 v13 [] R N0 := by
  unfold S22_0 B22_0
  refine cond_b (fun _ => ?_) (fun _ => ?_)
  · refine bind_b fun x72 h72 => ?_
    refine imp (opP_of (show _ = some ((AV.ept [(strA x72.Call), (strA x72.Place), (intA x72.Time)] 0), []) from (idx_lst (E := TSlot.E) rfl h72))) ?_
    refine imp (opP_of (show _ = some ((AV.agg [(strA x72.Call), (strA x72.Place), (intA x72.Time)]), []) from rfl)) ?_
    refine imp exA3_b ?_
    refine imp exStr_b ?_
    refine imp exStr_b ?_
    refine imp ex_i64_b ?_
    refine bind_b fun x73 h73 => ?_
    refine imp (opP_of (show _ = some ((AV.ept [(strA x73.Call), (strA x73.Place), (intA x73.Time)] 0), []) from (idx_lst (E := TSlot.E) rfl h73))) ?_
    refine imp (opP_of (show _ = some ((AV.agg [(strA x73.Call), (strA x73.Place), (intA x73.Time)]), []) from rfl)) ?_
    refine imp exA3_b ?_
    refine imp exStr_b ?_
    refine imp exStr_b ?_
    refine imp ex_i64_b ?_
    refine imp (opP_of (show _ = some ((boolA (!(decide (x72 = x73)))), []) from (TSlot.neq49 (x72) (x73)))) ?_
    refine imp exB_b ?_
    refine cond_b (fun _ => ?_) (fun _ => ?_)
    · exact fun hg => ret1 (hR _ (Option.some.inj hg).symm) (fz_sc _ _)
    · exact fun hg => hN0 _ (Option.some.inj hg).symm _ (weak_mem [] rfl rfl rfl (okW_cons (ent_lst (E := TSlot.E) _ false) (okW_cons (ent_lst (E := TSlot.E) _ false) (okW_cons (.inl (leV_refl _)) (okW_cons (.inl (leV_refl _)) (okW_cons (.inl (leV_refl _)) okW_nil))))) okB_nil')
  · exact fun hg => ret1 (hR _ (Option.some.inj hg).symm) (fz_sc _ _)
theorem L22_0_ok (n : Nat) (a0 : List TSlot) (a1 : List TSlot) (c4 : Bool) (c12 : Int) {t : ρ22} (R : AV → Mem → Prop) (hR : ∀ r : ρ22, t = r → ∀ u m, Ans ((boolA r)) u m → R u m) (k : Nat) (x : Int) (hx : iterO (fun y : Int => S22_0 n a0 a1 c4 c12 y) k x = some t) {s : St} (hw : Weak KK 26 0 s (h22_0 (lstA TSlot.E a0) (lstA TSlot.E a1) c4 c12 x [])) : Tri Try.prog KK 26 0 (.loop c22_0) s (q22_0 R ) :=
  L22_0 R  (σ := Nat × (Int)) (fun z => iterO (fun y : Int => S22_0 n a0 a1 c4 c12 y) z.1 z.2 = some t) (fun z => (lstA TSlot.E a0)) (fun z => (lstA TSlot.E a1)) (fun z => c4) (fun z => c12) (fun z => z.2) (fun z => []) (fun z => z.1) (by
    rintro ⟨k, y⟩ h
    cases k with
    | zero => exact (iterO_zero h).elim
    | succ k =>
      obtain ⟨u, h1, h2, h3⟩ := iterO_elim h
      exact B22_0_ok n a0 a1 c4 c12 y R  _ (fun r e => hR r (h3 _ e).symm)  (fun y' e s' hw => ⟨(k, y'), h2 _ e, Nat.lt_succ_self k, hw⟩) h1) (k, x) hx hw
theorem g22_ok (n : Nat) (a0 : List TSlot) (a1 : List TSlot) {t : ρ22} (R : AV → Mem → Prop) (hR : ∀ r : ρ22, t = r → ∀ u m, Ans ((boolA r)) u m → R u m) : g22 n a0 a1 = some t → F22 (lstA TSlot.E a0) (lstA TSlot.E a1) R := by
  unfold g22 F22
  refine imp (opP_of (show _ = some ((intA (a0.length : Int)), []) from rfl)) ?_
  refine imp ex_i64_b ?_
  refine imp (opP_of (show _ = some ((intA (a1.length : Int)), []) from rfl)) ?_
  refine imp ex_i64_b ?_
  refine cond_b (fun _ => ?_) (fun _ => ?_)
  · exact fun hg => ret1 (hR _ (Option.some.inj hg).symm) (fz_sc _ _)
  · refine imp (opP_of (show _ = some ((intA (a0.length : Int)), []) from rfl)) ?_
    refine imp ex_i64_b ?_
    exact fun hg => L22_0_ok n a0 a1 false (a0.length : Int) R  hR n _ hg (weak_mem [] rfl rfl rfl (okW_cons (ent_lst (E := TSlot.E) _ false) (okW_cons (ent_lst (E := TSlot.E) _ false) (okW_cons (.inl (leV_refl _)) (okW_cons (.inl (leV_refl _)) (okW_cons (.inl (leV_refl _)) okW_nil))))) okB_nil')
theorem sg22 {n : Nat} {a0 : List TSlot} {a1 : List TSlot} {t : ρ22} (h : g22 n a0 a1 = some t) : Says Try.prog KK.gl 22 [(lstA TSlot.E a0), (lstA TSlot.E a1)] ((boolA t)) :=
  says_of_own (by first | rfl | simp [cleans, clean, encs_clean, En.cln]) (by first | rfl | simp [cleans, clean, encs_clean, En.cln]) (F22_own (lstA TSlot.E a0) (lstA TSlot.E a1) _ (g22_ok n a0 a1 (Ans ((boolA t))) (fun r e u m h => by rw [e]; exact h) h))
/- skyway/skywaykeep3.SlotEarlier -/
theorem B5_0_ok (n : Nat) (a0 : List TSlotDemand) (a1 : List TFlowCap) (a2 : Int) (c6 : Bool) (c7 : List TSlot) (c31 : Int) (v9 : Int) (v32 : Int) {t : (Int × Int) ⊕ ρ5} (R : AV → Mem → Prop) (N0 : St → Prop) (hR : ∀ r : ρ5, t = (.inr r) → ∀ u m, Ans ((boolA r)) u m → R u m) (hN0 : ∀ y : Int × Int, t = (.inl y) → ∀ s' : St, Weak KK 87 0 s' (h5_0 (lstA TSlotDemand.E a0) (lstA TFlowCap.E a1) a2 c6 (lstA TSlot.E c7) y.1 (lstA TSlotDemand.E a0) c31 y.2 []) → N0 s') : S5_0 n a0 a1 a2 c6 c7 c31 v9 v32 = some t → B5_0 (lstA TSlotDemand.E a0) (lstA TFlowCap.E a1) a2 c6 (lstA TSlot.E c7) v9 (lstA TSlotDemand.E a0) c31 v32 [] R N0 := by
  unfold S5_0 B5_0
  refine cond_b (fun _ => ?_) (fun _ => ?_)
  · refine bind_b fun x65 h65 => ?_
    refine imp (opP_of (show _ = some ((AV.ept [(strA x65.Call), (intA x65.Time)] 0), []) from (idx_lst (E := TSlotDemand.E) rfl h65))) ?_
    refine imp (opP_of (show _ = some ((AV.agg [(strA x65.Call), (intA x65.Time)]), []) from rfl)) ?_
    refine imp exA2_b ?_
    refine imp exStr_b ?_
    refine imp ex_i64_b ?_
    refine cond_b (fun _ => ?_) (fun _ => ?_)
    · exact fun hg => ret1 (hR _ (Option.some.inj hg).symm) (fz_sc _ _)
    · refine imp (opP_of (show _ = some ((intA (if x65.Time > v9 then x65.Time else v9)), []) from (by kernel_rfl))) ?_
      refine imp ex_i64_b ?_
      exact fun hg => hN0 _ (Option.some.inj hg).symm _ (weak_mem [] rfl rfl rfl (okW_cons (ent_lst (E := TSlotDemand.E) _ false) (okW_cons (ent_lst (E := TFlowCap.E) _ false) (okW_cons (.inl (leV_refl _)) (okW_cons (.inl (leV_refl _)) (okW_cons (ent_lst (E := TSlot.E) _ false) (okW_cons (.inl (leV_refl _)) (okW_cons (ent_lst (E := TSlotDemand.E) _ false) (okW_cons (.inl (leV_refl _)) (okW_cons (.inl (leV_refl _)) okW_nil))))))))) okB_nil')
  · refine bind_b fun x67 h67 => ?_
    refine imp (callQ_says (sg20 h67)) ?_
    refine imp ex_i64_b ?_
    refine imp (opP_of (show _ = some ((intA (if (IntKind.wrap .i64 (v9 + x67)) < (200000) then (IntKind.wrap .i64 (v9 + x67)) else (200000))), []) from (by kernel_rfl))) ?_
    refine imp ex_i64_b ?_
    refine bind_b fun x68 h68 => ?_
    refine imp (callW_D (show PureD _ _ _ _ _ _ (ownV TSlotDemand.E 100071 a0) [(100071, ownB TSlotDemand.E 44 a0)] from cloneC21 h68)) ?_
    refine imp (opP_of (show _ = some ((AV.agg [(strA (⟨#[90, 90, 90, 90]⟩ : ByteArray)), (intA (if (IntKind.wrap .i64 (v9 + x67)) < (200000) then (IntKind.wrap .i64 (v9 + x67)) else (200000)))]), []) from rfl)) ?_
    refine imp (opN_of (show _ = some ((blkV TSlotDemand.E 100137 ([(⟨(⟨#[90, 90, 90, 90]⟩ : ByteArray), (if (IntKind.wrap .i64 (v9 + x67)) < (200000) then (IntKind.wrap .i64 (v9 + x67)) else (200000))⟩ : TSlotDemand)] : List TSlotDemand)), [(100137, some ⟨encs TSlotDemand.E ([(⟨(⟨#[90, 90, 90, 90]⟩ : ByteArray), (if (IntKind.wrap .i64 (v9 + x67)) < (200000) then (IntKind.wrap .i64 (v9 + x67)) else (200000))⟩ : TSlotDemand)] : List TSlotDemand), 44⟩)]) from rfl)) ?_
    refine bind_b fun x69 h69 => ?_
    refine imp (opN_of (show _ = some ((ownV TSlotDemand.E 100138 (a0 ++ ([(⟨(⟨#[90, 90, 90, 90]⟩ : ByteArray), (if (IntKind.wrap .i64 (v9 + x67)) < (200000) then (IntKind.wrap .i64 (v9 + x67)) else (200000))⟩ : TSlotDemand)] : List TSlotDemand))), (appW TSlotDemand.E 100138 100071 44 a0 ([(⟨(⟨#[90, 90, 90, 90]⟩ : ByteArray), (if (IntKind.wrap .i64 (v9 + x67)) < (200000) then (IntKind.wrap .i64 (v9 + x67)) else (200000))⟩ : TSlotDemand)] : List TSlotDemand))) from (app_own (E := TSlotDemand.E) (l' := a0) (xs := ([(⟨(⟨#[90, 90, 90, 90]⟩ : ByteArray), (if (IntKind.wrap .i64 (v9 + x67)) < (200000) then (IntKind.wrap .i64 (v9 + x67)) else (200000))⟩ : TSlotDemand)] : List TSlotDemand)) rfl rfl (cellsOf_blk (E := TSlotDemand.E) (ty := 44) rfl rfl (by first | rfl | (simp (disch := decide) only [mpushs_nil, mpushs_cons, mget_hd, mget_tl, mget_appW_o, mget_appW_n]))) (by simp) rfl (fun hne => Eq.trans (by first | rfl | (simp (disch := decide) only [mpushs_nil, mpushs_cons, mget_hd, mget_tl, mget_appW_o, mget_appW_n])) (ownB_ne hne)) h69))) ?_
    refine bind_b fun x70 h70 => ?_
    refine imp (callW_D (show PureD _ _ _ _ _ _ (AV.tup [(ownV TSlot.E 100140 x70.1), (intA x70.2)]) [(100140, ownB TSlot.E 49 x70.1)] from mg19S h70 (snL_cons (sn_sc _ _) (snL_cons (sn_own (E := TSlotDemand.E) (ty := 44) (l' := (a0 ++ ([(⟨(⟨#[90, 90, 90, 90]⟩ : ByteArray), (if (IntKind.wrap .i64 (v9 + x67)) < (200000) then (IntKind.wrap .i64 (v9 + x67)) else (200000))⟩ : TSlotDemand)] : List TSlotDemand))) _ TSlotDemand.nf rfl (by first | rfl | (simp (disch := decide) only [mpushs_nil, mpushs_cons, mget_hd, mget_tl, mget_appW_o, mget_appW_n]))) (snL_cons (sn_lst (E := TFlowCap.E) _ _ false) snL_nil))))) ?_
    refine imp exT2_b ?_
    refine imp ex_i64_b ?_
    refine cond_b (fun _ => ?_) (fun _ => ?_)
    · refine imp (opP_of (show _ = some ((intA (x70.1.length : Int)), []) from len_own)) ?_
      refine imp ex_i64_b ?_
      refine cond_b (fun _ => ?_) (fun _ => ?_)
      · exact fun hg => ret1 (hR _ (Option.some.inj hg).symm) (fz_sc _ _)
      · refine cond_b (fun _ => ?_) (fun _ => ?_)
        · refine imp (opP_of (show _ = some ((intA (x70.1.length : Int)), []) from len_own)) ?_
          refine imp ex_i64_b ?_
          refine imp (opP_of (show _ = some ((intA (c7.length : Int)), []) from rfl)) ?_
          refine imp ex_i64_b ?_
          refine cond_b (fun _ => ?_) (fun _ => ?_)
          · refine imp (opP_of (show _ = some ((intA (c7.length : Int)), []) from rfl)) ?_
            refine imp ex_i64_b ?_
            refine bind_b fun x71 h71 => ?_
            refine imp (opP_of (show _ = some ((subV TSlot.E 100140 x70.1.length 0 x71.length), []) from (slo_hi (E := TSlot.E) (e := 49) (by kernel_rfl) (by kernel_rfl) rfl h71))) ?_
            refine bind_b fun x74 h74 => ?_
            refine imp (callQ_pure (pure_snapN (snL_cons (sn_sub (E := TSlot.E) (ty := 49) (l := x70.1) _ TSlot.nf h71 (by first | rfl | (simp (disch := decide) only [mpushs_nil, mpushs_cons, mget_hd, mget_tl, mget_appW_o, mget_appW_n]))) (snL_cons (sn_lst (E := TSlot.E) _ _ false) snL_nil)) (sg22 h74) rfl)) ?_
            refine imp exB_b ?_
            exact fun hg => ret1 (hR _ (Option.some.inj hg).symm) (fz_sc _ _)
          · exact fun hg => ret1 (hR _ (Option.some.inj hg).symm) (fz_sc _ _)
        · exact fun hg => ret1 (hR _ (Option.some.inj hg).symm) (fz_sc _ _)
    · refine cond_b (fun _ => ?_) (fun _ => ?_)
      · refine imp (opP_of (show _ = some ((intA (x70.1.length : Int)), []) from len_own)) ?_
        refine imp ex_i64_b ?_
        refine imp (opP_of (show _ = some ((intA (c7.length : Int)), []) from rfl)) ?_
        refine imp ex_i64_b ?_
        refine cond_b (fun _ => ?_) (fun _ => ?_)
        · refine imp (opP_of (show _ = some ((intA (c7.length : Int)), []) from rfl)) ?_
          refine imp ex_i64_b ?_
          refine bind_b fun x75 h75 => ?_
          refine imp (opP_of (show _ = some ((subV TSlot.E 100140 x70.1.length 0 x75.length), []) from (slo_hi (E := TSlot.E) (e := 49) (by kernel_rfl) (by kernel_rfl) rfl h75))) ?_
          refine bind_b fun x76 h76 => ?_
          refine imp (callQ_pure (pure_snapN (snL_cons (sn_sub (E := TSlot.E) (ty := 49) (l := x70.1) _ TSlot.nf h75 (by first | rfl | (simp (disch := decide) only [mpushs_nil, mpushs_cons, mget_hd, mget_tl, mget_appW_o, mget_appW_n]))) (snL_cons (sn_lst (E := TSlot.E) _ _ false) snL_nil)) (sg22 h76) rfl)) ?_
          refine imp exB_b ?_
          exact fun hg => ret1 (hR _ (Option.some.inj hg).symm) (fz_sc _ _)
        · exact fun hg => ret1 (hR _ (Option.some.inj hg).symm) (fz_sc _ _)
      · exact fun hg => ret1 (hR _ (Option.some.inj hg).symm) (fz_sc _ _)
theorem L5_0_ok (n : Nat) (a0 : List TSlotDemand) (a1 : List TFlowCap) (a2 : Int) (c6 : Bool) (c7 : List TSlot) (c31 : Int) {t : ρ5} (R : AV → Mem → Prop) (hR : ∀ r : ρ5, t = r → ∀ u m, Ans ((boolA r)) u m → R u m) (k : Nat) (x : Int × Int) (hx : iterO (fun y : Int × Int => S5_0 n a0 a1 a2 c6 c7 c31 y.1 y.2) k x = some t) {s : St} (hw : Weak KK 87 0 s (h5_0 (lstA TSlotDemand.E a0) (lstA TFlowCap.E a1) a2 c6 (lstA TSlot.E c7) x.1 (lstA TSlotDemand.E a0) c31 x.2 [])) : Tri Try.prog KK 87 0 (.loop c5_0) s (q5_0 R ) :=
  L5_0 R  (σ := Nat × (Int × Int)) (fun z => iterO (fun y : Int × Int => S5_0 n a0 a1 a2 c6 c7 c31 y.1 y.2) z.1 z.2 = some t) (fun z => (lstA TSlotDemand.E a0)) (fun z => (lstA TFlowCap.E a1)) (fun z => a2) (fun z => c6) (fun z => (lstA TSlot.E c7)) (fun z => z.2.1) (fun z => (lstA TSlotDemand.E a0)) (fun z => c31) (fun z => z.2.2) (fun z => []) (fun z => z.1) (by
    rintro ⟨k, y⟩ h
    cases k with
    | zero => exact (iterO_zero h).elim
    | succ k =>
      obtain ⟨u, h1, h2, h3⟩ := iterO_elim h
      exact B5_0_ok n a0 a1 a2 c6 c7 c31 y.1 y.2 R  _ (fun r e => hR r (h3 _ e).symm)  (fun y' e s' hw => ⟨(k, y'), h2 _ e, Nat.lt_succ_self k, hw⟩) h1) (k, x) hx hw
theorem g5_ok (n : Nat) (a0 : List TSlotDemand) (a1 : List TFlowCap) (a2 : Int) {t : ρ5} (R : AV → Mem → Prop) (hR : ∀ r : ρ5, t = r → ∀ u m, Ans ((boolA r)) u m → R u m) : g5 n a0 a1 a2 = some t → F5 (lstA TSlotDemand.E a0) (lstA TFlowCap.E a1) a2 R := by
  unfold g5 F5
  refine bind_b fun x0 h0 => ?_
  refine imp (callQ_says (sg18 h0)) ?_
  refine imp exB_b ?_
  refine cond_b (fun _ => ?_) (fun _ => ?_)
  · exact fun hg => ret1 (hR _ (Option.some.inj hg).symm) (fz_sc _ _)
  · refine bind_b fun x42 h42 => ?_
    refine imp (callW_D (show PureD _ _ _ _ _ _ (AV.tup [(ownV TSlot.E 68 x42.1), (intA x42.2)]) [(68, ownB TSlot.E 49 x42.1)] from mg19C h42)) ?_
    refine imp exT2_b ?_
    refine imp ex_i64_b ?_
    refine cond_b (fun _ => ?_) (fun _ => ?_)
    · exact fun hg => ret1 (hR _ (Option.some.inj hg).symm) (fz_sc _ _)
    · refine imp (opP_of (show _ = some ((intA (a0.length : Int)), []) from rfl)) ?_
      refine imp ex_i64_b ?_
      refine cond_b (fun _ => ?_) (fun _ => ?_)
      · exact fun hg => ret1 (hR _ (Option.some.inj hg).symm) (fz_sc _ _)
      · refine imp (opP_of (show _ = some ((intA (a0.length : Int)), []) from rfl)) ?_
        refine imp ex_i64_b ?_
        exact fun hg => L5_0_ok n a0 a1 a2 false x42.1 (a0.length : Int) R  hR n _ hg (weak_mem [] rfl rfl rfl (okW_cons (ent_lst (E := TSlotDemand.E) _ false) (okW_cons (ent_lst (E := TFlowCap.E) _ false) (okW_cons (.inl (leV_refl _)) (okW_cons (.inl (leV_refl _)) (okW_cons (ent_own_frz (E := TSlot.E) (ty := 49) (l' := x42.1) rfl (by first | rfl | (simp (disch := decide) only [mpushs_nil, mpushs_cons, mget_hd, mget_tl, mget_appW_o, mget_appW_n])) rfl) (okW_cons (.inl (leV_refl _)) (okW_cons (ent_lst (E := TSlotDemand.E) _ false) (okW_cons (.inl (leV_refl _)) (okW_cons (.inl (leV_refl _)) okW_nil))))))))) okB_nil')
theorem sg5 {n : Nat} {a0 : List TSlotDemand} {a1 : List TFlowCap} {a2 : Int} {t : ρ5} (h : g5 n a0 a1 a2 = some t) : Says Try.prog KK.gl 5 [(lstA TSlotDemand.E a0), (lstA TFlowCap.E a1), (intA a2)] ((boolA t)) :=
  says_of_own (by first | rfl | simp [cleans, clean, encs_clean, En.cln]) (by first | rfl | simp [cleans, clean, encs_clean, En.cln]) (F5_own (lstA TSlotDemand.E a0) (lstA TFlowCap.E a1) a2 _ (g5_ok n a0 a1 a2 (Ans ((boolA t))) (fun r e u m h => by rw [e]; exact h) h))
/- skyway/slot.Release$1 -/
theorem g43_ok (n : Nat) (a0 : TSlotDemand) (a1_0 : ByteArray) {t : ρ43} (R : AV → Mem → Prop) (hR : ∀ r : ρ43, t = r → ∀ u m, Ans ((boolA r)) u m → R u m) : g43 n a0 a1_0 = some t → F43 a0.Call a0.Time (AV.ept [(strA a1_0)] 0) R := by
  unfold g43 F43
  refine imp (opP_of (show _ = some ((strA a1_0), []) from rfl)) ?_
  refine imp exStr_b ?_
  exact fun hg => ret1 (hR _ (Option.some.inj hg).symm) (fz_sc _ _)
theorem sg43 {n : Nat} {a0 : TSlotDemand} {a1_0 : ByteArray} {t : ρ43} (h : g43 n a0 a1_0 = some t) : Says Try.prog KK.gl 43 [(AV.agg [(strA a0.Call), (intA a0.Time)]), (AV.ept [(strA a1_0)] 0)] ((boolA t)) :=
  says_of_own (by first | rfl | simp [cleans, clean, encs_clean, En.cln]) (by first | rfl | simp [cleans, clean, encs_clean, En.cln]) (F43_own a0.Call a0.Time (AV.ept [(strA a1_0)] 0) _ (g43_ok n a0 a1_0 (Ans ((boolA t))) (fun r e u m h => by rw [e]; exact h) h))
/- slices.IndexFunc[[]skyway/api.SlotDemand,skyway/api.SlotDemand] -/
theorem B54_0_x1_ok (n : Nat) (a0 : List TSlotDemand) (a1_0_0 : ByteArray) (c4 : Int) (c7 : Int) (v8 : Int) {t : (Int) ⊕ ρ54} (R : AV → Mem → Prop) (N0 : St → Prop) (hR : ∀ r : ρ54, t = (.inr r) → ∀ u m, Ans ((intA r)) u m → R u m) (hN0 : ∀ y : Int, t = (.inl y) → ∀ s' : St, Weak KK 19 0 s' (h54_0 (lstA TSlotDemand.E a0) (AV.fn 43 [(AV.ept [(strA a1_0_0)] 0)]) c4 c7 y []) → N0 s') : S54_0_x1 n a0 a1_0_0 c4 c7 v8 = some t → B54_0 (lstA TSlotDemand.E a0) (AV.fn 43 [(AV.ept [(strA a1_0_0)] 0)]) c4 c7 v8 [] R N0 := by
  unfold S54_0_x1 B54_0
  refine cond_b (fun _ => ?_) (fun _ => ?_)
  · refine bind_b fun x83 h83 => ?_
    refine imp (opP_of (show _ = some ((AV.ept [(strA x83.Call), (intA x83.Time)] 0), []) from (idx_lst (E := TSlotDemand.E) rfl h83))) ?_
    refine imp (opP_of (show _ = some ((AV.agg [(strA x83.Call), (intA x83.Time)]), []) from rfl)) ?_
    refine imp exA2_b ?_
    refine imp exStr_b ?_
    refine imp ex_i64_b ?_
    refine bind_b fun x84 h84 => ?_
    refine imp fnArgs_b ?_
    refine imp (cond_ff rfl) ?_
    refine imp (callW_says (sg43 h84)) ?_
    refine imp exB_b ?_
    refine cond_b (fun _ => ?_) (fun _ => ?_)
    · exact fun hg => ret1 (hR _ (Option.some.inj hg).symm) (fz_sc _ _)
    · exact fun hg => hN0 _ (Option.some.inj hg).symm _ (weak_mem [] rfl rfl rfl (okW_cons (ent_lst (E := TSlotDemand.E) _ false) (okW_cons (ent_clean (leV_refl _) (by simp [clean, cleans, encs_clean])) (okW_cons (.inl (leV_refl _)) (okW_cons (.inl (leV_refl _)) (okW_cons (.inl (leV_refl _)) okW_nil))))) okB_nil')
  · exact fun hg => ret1 (hR _ (Option.some.inj hg).symm) (fz_sc _ _)
theorem L54_0_x1_ok (n : Nat) (a0 : List TSlotDemand) (a1_0_0 : ByteArray) (c4 : Int) (c7 : Int) {t : ρ54} (R : AV → Mem → Prop) (hR : ∀ r : ρ54, t = r → ∀ u m, Ans ((intA r)) u m → R u m) (k : Nat) (x : Int) (hx : iterO (fun y : Int => S54_0_x1 n a0 a1_0_0 c4 c7 y) k x = some t) {s : St} (hw : Weak KK 19 0 s (h54_0 (lstA TSlotDemand.E a0) (AV.fn 43 [(AV.ept [(strA a1_0_0)] 0)]) c4 c7 x [])) : Tri Try.prog KK 19 0 (.loop c54_0) s (q54_0 R ) :=
  L54_0 R  (σ := Nat × (Int)) (fun z => iterO (fun y : Int => S54_0_x1 n a0 a1_0_0 c4 c7 y) z.1 z.2 = some t) (fun z => (lstA TSlotDemand.E a0)) (fun z => (AV.fn 43 [(AV.ept [(strA a1_0_0)] 0)])) (fun z => c4) (fun z => c7) (fun z => z.2) (fun z => []) (fun z => z.1) (by
    rintro ⟨k, y⟩ h
    cases k with
    | zero => exact (iterO_zero h).elim
    | succ k =>
      obtain ⟨u, h1, h2, h3⟩ := iterO_elim h
      exact B54_0_x1_ok n a0 a1_0_0 c4 c7 y R  _ (fun r e => hR r (h3 _ e).symm)  (fun y' e s' hw => ⟨(k, y'), h2 _ e, Nat.lt_succ_self k, hw⟩) h1) (k, x) hx hw
theorem g54_1_ok (n : Nat) (a0 : List TSlotDemand) (a1_0_0 : ByteArray) {t : ρ54} (R : AV → Mem → Prop) (hR : ∀ r : ρ54, t = r → ∀ u m, Ans ((intA r)) u m → R u m) : g54_1 n a0 a1_0_0 = some t → F54 (lstA TSlotDemand.E a0) (AV.fn 43 [(AV.ept [(strA a1_0_0)] 0)]) R := by
  unfold g54_1 F54
  refine imp (opP_of (show _ = some ((intA (a0.length : Int)), []) from rfl)) ?_
  refine imp ex_i64_b ?_
  exact fun hg => L54_0_x1_ok n a0 a1_0_0 (0) (a0.length : Int) R  hR n _ hg (weak_mem [] rfl rfl rfl (okW_cons (ent_lst (E := TSlotDemand.E) _ false) (okW_cons (ent_clean (leV_refl _) (by simp [clean, cleans, encs_clean])) (okW_cons (.inl (leV_refl _)) (okW_cons (.inl (leV_refl _)) (okW_cons (.inl (leV_refl _)) okW_nil))))) okB_nil')
theorem sg54_1 {n : Nat} {a0 : List TSlotDemand} {a1_0_0 : ByteArray} {t : ρ54} (h : g54_1 n a0 a1_0_0 = some t) : Says Try.prog KK.gl 54 [(lstA TSlotDemand.E a0), (AV.fn 43 [(AV.ept [(strA a1_0_0)] 0)])] ((intA t)) :=
  says_of_own (by first | rfl | simp [cleans, clean, encs_clean, En.cln]) (by first | rfl | simp [cleans, clean, encs_clean, En.cln]) (F54_own (lstA TSlotDemand.E a0) (AV.fn 43 [(AV.ept [(strA a1_0_0)] 0)]) _ (g54_1_ok n a0 a1_0_0 (Ans ((intA t))) (fun r e u m h => by rw [e]; exact h) h))
/- slices.DeleteFunc[[]skyway/api.SlotDemand,skyway/api.SlotDemand] -/
theorem B42m_0_ok (n : Nat) (a1_0_0 : ByteArray) (v5 : Int) (v6 : Int) (L90000 : List TSlotDemand) {t : (Int × Int × List TSlotDemand) ⊕ ρ42} (R : AV → Mem → Prop) (N0 : St → Prop) (hR : ∀ r : ρ42, t = (.inr r) → ∀ u m, MutO TSlotDemand.E 44 r u m → R u m) (hN0 : ∀ y : Int × Int × List TSlotDemand, t = (.inl y) → ∀ s' : St, Weak KK 42 0 s' (h42m_0 (ownV TSlotDemand.E 90000 y.2.2) (AV.fn 43 [(AV.ept [(strA a1_0_0)] 0)]) AV.nils y.1 y.2.1 [(90000, ownB TSlotDemand.E 44 y.2.2)]) → N0 s') : S42m_0 n a1_0_0 v5 v6 L90000 = some t → B42m_0 (ownV TSlotDemand.E 90000 L90000) (AV.fn 43 [(AV.ept [(strA a1_0_0)] 0)]) AV.nils v5 v6 [(90000, ownB TSlotDemand.E 44 L90000)] R N0 := by
  unfold S42m_0 B42m_0
  refine imp (opP_of (show _ = some ((intA (L90000.length : Int)), []) from len_own)) ?_
  refine imp ex_i64_b ?_
  refine cond_b (fun _ => ?_) (fun _ => ?_)
  · refine bind_b fun x86 h86 => ?_
    refine imp (opP_of (show _ = some ((AV.ptr 90000 (((v6 : Int).toNat) * 2 + 0)), []) from (idx_own (E := TSlotDemand.E) rfl h86))) ?_
    refine imp (opP_of (show _ = some ((AV.agg [(strA x86.Call), (intA x86.Time)]), []) from (ldA_blk (E := TSlotDemand.E) (l := L90000) (ty := 44) rfl (own_some (ty := 44) (by first | rfl | (simp (disch := decide) only [mpushs_nil, mpushs_cons, mget_hd, mget_tl, mget_appW_o, mget_appW_n])) (getI_some h86).2) (getI_some h86).2 rfl))) ?_
    refine imp exA2_b ?_
    refine imp exStr_b ?_
    refine imp ex_i64_b ?_
    refine bind_b fun x87 h87 => ?_
    refine imp fnArgs_b ?_
    refine imp (cond_ff rfl) ?_
    refine imp (callW_says (sg43 h87)) ?_
    refine imp exB_b ?_
    refine cond_b (fun _ => ?_) (fun _ => ?_)
    · refine imp (opP_of (show _ = some ((AV.agg [(strA x86.Call), (intA x86.Time)]), []) from (ldA_ptr (b := ⟨[(strA x86.Call), (intA x86.Time)], 44⟩) (by first | rfl | (simp (disch := decide) only [mpushs_nil, mpushs_cons, mget_hd, mget_tl, mget_appW_o, mget_appW_n])) rfl))) ?_
      refine imp exA2_b ?_
      refine imp exStr_b ?_
      refine imp ex_i64_b ?_
      refine bind_b fun x88 h88 => ?_
      refine imp (opP_of (show _ = some ((AV.ptr 90000 (((v5 : Int).toNat) * 2 + 0)), []) from (idx_own (E := TSlotDemand.E) rfl h88))) ?_
      refine imp (storeW_aggO (E := TSlotDemand.E) (l := L90000) (i := ((v5 : Int).toNat)) (y := x86) (ty := 44) (by kernel_rfl) (by kernel_rfl) rfl rfl (by first | rfl | (simp (disch := decide) only [mpushs_nil, mpushs_cons, mget_hd, mget_tl, mget_appW_o, mget_appW_n])) (getI_some h88).2 rfl) ?_
      exact fun hg => hN0 _ (Option.some.inj hg).symm _ (weak_mem [(90000, 90000)] rfl rfl rfl (okW_cons (ent_own (E := TSlotDemand.E) (id := 90000) (l' := (L90000.set ((v5 : Int).toNat) x86)) (by first | rfl | omega | (simp; done) | (simp; omega)) rfl) (okW_cons (ent_clean (leV_refl _) (by simp [clean, cleans, encs_clean])) (okW_cons (.inl (leV_refl _)) (okW_cons (.inl (leV_refl _)) (okW_cons (.inl (leV_refl _)) okW_nil))))) (okB_cons (okB_own (E := TSlotDemand.E) (ty := 44) (l' := (L90000.set ((v5 : Int).toNat) x86)) rfl (show mget _ 90000 = _ from (by first | rfl | (simp (disch := decide) only [mpushs_nil, mpushs_cons, mget_hd, mget_tl, mget_appW_o, mget_appW_n])))) okB_nil'))
    · exact fun hg => hN0 _ (Option.some.inj hg).symm _ (weak_mem [(90000, 90000)] rfl rfl rfl (okW_cons (ent_own (E := TSlotDemand.E) (id := 90000) (l' := L90000) rfl rfl) (okW_cons (ent_clean (leV_refl _) (by simp [clean, cleans, encs_clean])) (okW_cons (.inl (leV_refl _)) (okW_cons (.inl (leV_refl _)) (okW_cons (.inl (leV_refl _)) okW_nil))))) (okB_cons (okB_own (E := TSlotDemand.E) (ty := 44) (l' := L90000) rfl (show mget _ 90000 = _ from (by first | rfl | (simp (disch := decide) only [mpushs_nil, mpushs_cons, mget_hd, mget_tl, mget_appW_o, mget_appW_n])))) okB_nil'))
  · refine bind_b fun x89 h89 => ?_
    refine imp (opP_of (show _ = some ((subV TSlotDemand.E 90000 L90000.length (v5 : Int).toNat x89.length), []) from (slo_lo (E := TSlotDemand.E) (e := 44) (by kernel_rfl) (by kernel_rfl) rfl h89))) ?_
    refine bind_b fun x90 h90 => ?_
    have lh90 : (clrL ((⟨(⟨#[]⟩ : ByteArray), (0)⟩ : TSlotDemand) : TSlotDemand) L90000 x89 ((v5 : Int).toNat)).length = L90000.length := clrL_len h89
    refine imp (opN_of (show _ = some ((AV.tup []), [(90000, ownB TSlotDemand.E 44 (clrL ((⟨(⟨#[]⟩ : ByteArray), (0)⟩ : TSlotDemand) : TSlotDemand) L90000 x89 ((v5 : Int).toNat)))]) from (clear_sub (E := TSlotDemand.E) (e := 44) (sz := 2) (z := ((⟨(⟨#[]⟩ : ByteArray), (0)⟩ : TSlotDemand) : TSlotDemand)) (by kernel_rfl) (by kernel_rfl) rfl (by kernel_rfl) h89 h90 (by first | rfl | (simp (disch := decide) only [mpushs_nil, mpushs_cons, mget_hd, mget_tl, mget_appW_o, mget_appW_n]))))) ?_
    refine imp exT0_b ?_
    refine bind_b fun x91 h91 => ?_
    refine imp (opP_of (show _ = some ((subV TSlotDemand.E 90000 (clrL ((⟨(⟨#[]⟩ : ByteArray), (0)⟩ : TSlotDemand) : TSlotDemand) L90000 x89 ((v5 : Int).toNat)).length 0 x91.length), []) from (slo_hi (E := TSlotDemand.E) (e := 44) (by kernel_rfl) (by kernel_rfl) (by first | rfl | omega | (simp; done) | (simp; omega)) h91))) ?_
    exact fun hg => hR _ (Option.some.inj hg).symm _ _ (mut_sub_leaf (E := TSlotDemand.E) (ty := 44) (l := (clrL ((⟨(⟨#[]⟩ : ByteArray), (0)⟩ : TSlotDemand) : TSlotDemand) L90000 x89 ((v5 : Int).toNat))) (clrL_ne (by assumption)) h91 (by first | rfl | (simp (disch := decide) only [mpushs_nil, mpushs_cons, mget_hd, mget_tl, mget_appW_o, mget_appW_n])))
theorem L42m_0_ok (n : Nat) (a1_0_0 : ByteArray) {t : ρ42} (R : AV → Mem → Prop) (hR : ∀ r : ρ42, t = r → ∀ u m, MutO TSlotDemand.E 44 r u m → R u m) (k : Nat) (x : Int × Int × List TSlotDemand) (hx : iterO (fun y : Int × Int × List TSlotDemand => S42m_0 n a1_0_0 y.1 y.2.1 y.2.2) k x = some t) {s : St} (hw : Weak KK 42 0 s (h42m_0 (ownV TSlotDemand.E 90000 x.2.2) (AV.fn 43 [(AV.ept [(strA a1_0_0)] 0)]) AV.nils x.1 x.2.1 [(90000, ownB TSlotDemand.E 44 x.2.2)])) : Tri Try.prog KK 42 0 (.loop c42m_0) s (q42m_0 R ) :=
  L42m_0 R  (σ := Nat × (Int × Int × List TSlotDemand)) (fun z => iterO (fun y : Int × Int × List TSlotDemand => S42m_0 n a1_0_0 y.1 y.2.1 y.2.2) z.1 z.2 = some t) (fun z => (ownV TSlotDemand.E 90000 z.2.2.2)) (fun z => (AV.fn 43 [(AV.ept [(strA a1_0_0)] 0)])) (fun z => AV.nils) (fun z => z.2.1) (fun z => z.2.2.1) (fun z => [(90000, ownB TSlotDemand.E 44 z.2.2.2)]) (fun z => z.1) (by
    rintro ⟨k, y⟩ h
    cases k with
    | zero => exact (iterO_zero h).elim
    | succ k =>
      obtain ⟨u, h1, h2, h3⟩ := iterO_elim h
      exact B42m_0_ok n a1_0_0 y.1 y.2.1 y.2.2 R  _ (fun r e => hR r (h3 _ e).symm)  (fun y' e s' hw => ⟨(k, y'), h2 _ e, Nat.lt_succ_self k, hw⟩) h1) (k, x) hx hw
theorem g42_okU (n : Nat) (a0 : List TSlotDemand) (a1_0_0 : ByteArray) {t : ρ42} (h0 : a0 ≠ []) (R : AV → Mem → Prop) (hR : ∀ r : ρ42, t = r → ∀ u m, MutO TSlotDemand.E 44 r u m → R u m) : g42 n a0 a1_0_0 = some t → F42m (ownV TSlotDemand.E 0 a0) (AV.fn 43 [(AV.ept [(strA a1_0_0)] 0)]) [(0, ownB TSlotDemand.E 44 a0)] R := by
  unfold g42 F42m
  refine bind_b fun x85 h85 => ?_
  refine imp (callQ_pure (pure_snapN (snL_cons (sn_own (E := TSlotDemand.E) (ty := 44) (l' := a0) _ TSlotDemand.nf rfl (by first | rfl | (simp (disch := decide) only [mpushs_nil, mpushs_cons, mget_hd, mget_tl, mget_appW_o, mget_appW_n]))) (snL_cons (sn_fn _ _ (snL_cons (sn_ept _ _ (by simp [clean, cleans, encs_clean]) (by simp [norm, norms, encs_norm])) snL_nil)) snL_nil)) (sg54_1 h85) rfl)) ?_
  refine imp ex_i64_b ?_
  refine cond_b (fun _ => ?_) (fun _ => ?_)
  · exact fun hg => hR _ (Option.some.inj hg).symm _ _ (mut_own_leaf (E := TSlotDemand.E) (ty := 44) (l := a0) h0 rfl (by first | rfl | (simp (disch := decide) only [mpushs_nil, mpushs_cons, mget_hd, mget_tl, mget_appW_o, mget_appW_n])))
  · exact fun hg => L42m_0_ok n a1_0_0 R  hR n _ hg (weak_mem [(90000, 0)] rfl rfl rfl (okW_cons (ent_own (E := TSlotDemand.E) (id := 0) (l' := a0) rfl rfl) (okW_cons (ent_clean (leV_refl _) (by simp [clean, cleans, encs_clean])) (okW_cons (.inl (leV_refl _)) (okW_cons (.inl (leV_refl _)) (okW_cons (.inl (leV_refl _)) okW_nil))))) (okB_cons (okB_own (E := TSlotDemand.E) (ty := 44) (l' := a0) rfl (show mget _ 0 = _ from (by first | rfl | (simp (disch := decide) only [mpushs_nil, mpushs_cons, mget_hd, mget_tl, mget_appW_o, mget_appW_n])))) okB_nil'))
theorem ug42 {n k id : Nat} {look : Nat → Option ABlk} {args : List AV} {l0 : List TSlotDemand} {a0 : List TSlotDemand} {a1_0_0 : ByteArray} {t : ρ42} (h0 : a0 ≠ []) (hl : l0.length = a0.length) (hb : look id = ownB TSlotDemand.E 44 a0) (h : g42 n a0 a1_0_0 = some t) (ha : SnL (less look id) 6 args [(AV.fn 43 [(AV.ept [(strA a1_0_0)] 0)])]) : PureD Try.prog KK.gl look k 42 (ownV TSlotDemand.E id l0 :: args) (blkW TSlotDemand.E k t) [(k, some ⟨encs TSlotDemand.E t, 44⟩), (id, none)] :=
  mut_own (fun _ => rfl) hl h0 hb ha (by
    have := F42m_call (ownV TSlotDemand.E 0 a0) (AV.fn 43 [(AV.ept [(strA a1_0_0)] 0)]) _ _ (g42_okU n a0 a1_0_0 h0 (MutO TSlotDemand.E 44 t) (fun r e u m h => by rw [e]; exact h) h)
    rw [ownV_ne h0, ownB_ne h0] at this
    exact this)
/- skyway/slot.Release -/
theorem g23_ok (n : Nat) (a0 : ByteArray) (a1 : ByteArray) (a2 : List TSlotDemand) (a3 : List TFlowCap) {t : ρ23} (R : AV → Mem → Prop) (hR : ∀ r : ρ23, t = r → ∀ u m, Ans ((AV.tup [(lstA TSlot.E r.1), (intA r.2)])) u m → R u m) : g23 n a0 a1 a2 a3 = some t → F23 a0 a1 (lstA TSlotDemand.E a2) (lstA TFlowCap.E a3) R := by
  unfold g23 F23
  refine bind_b fun x81 h81 => ?_
  refine imp (callW_D (show PureD _ _ _ _ _ _ (AV.tup [(ownV TSlot.E 6 x81.1), (intA x81.2)]) [(6, ownB TSlot.E 49 x81.1)] from mg19C h81)) ?_
  refine imp exT2_b ?_
  refine imp ex_i64_b ?_
  refine cond_b (fun _ => ?_) (fun _ => ?_)
  · exact fun hg => retN rfl (hR _ (Option.some.inj hg).symm) (fzL_cons (fz_nils (E := TSlot.E) _) (fzL_cons (fz_sc _ _) fzL_nil))
  · refine bind_b fun x82 h82 => ?_
    refine imp (callW_D (show PureD _ _ _ _ _ _ (ownV TSlotDemand.E 78 a2) [(78, ownB TSlotDemand.E 44 a2)] from cloneC21 h82)) ?_
    refine bind_b fun x92 h92 => ?_
    refine bind_b fun x93 h93 => ?_
    refine imp (callW_D (show PureD _ _ _ _ _ _ (blkW TSlotDemand.E 143 x93) [(143, some ⟨encs TSlotDemand.E x93, 44⟩), (78, none)] from ug42 (neO_some h92) rfl (by first | rfl | (simp (disch := decide) only [mpushs_nil, mpushs_cons, mget_hd, mget_tl, mget_appW_o, mget_appW_n])) h93 (snL_cons (sn_fn _ _ (snL_cons (sn_ptr _ (ty := 9) (us := [(strA a1)]) (by rw [less_ne (by rfl)]; exact (by first | rfl | (simp (disch := decide) only [mpushs_nil, mpushs_cons, mget_hd, mget_tl, mget_appW_o, mget_appW_n]))) (snL_cons (sn_sc _ _) snL_nil)) snL_nil)) snL_nil))) ?_
    refine imp (opP_of (show _ = some ((intA (x93.length : Int)), []) from (len_bw rfl))) ?_
    refine imp ex_i64_b ?_
    refine imp (opP_of (show _ = some ((intA (a2.length : Int)), []) from rfl)) ?_
    refine imp ex_i64_b ?_
    refine cond_b (fun _ => ?_) (fun _ => ?_)
    · exact fun hg => retN rfl (hR _ (Option.some.inj hg).symm) (fzL_cons (fz_nils (E := TSlot.E) _) (fzL_cons (fz_sc _ _) fzL_nil))
    · refine bind_b fun x94 h94 => ?_
      refine imp (callW_D (show PureD _ _ _ _ _ _ (AV.tup [(ownV TSlot.E 216 x94.1), (intA x94.2)]) [(216, ownB TSlot.E 49 x94.1)] from mg19S h94 (snL_cons (sn_sc _ _) (snL_cons (sn_bw (E := TSlotDemand.E) (ty := 44) (l' := x93) _ TSlotDemand.nf rfl (by first | rfl | (simp (disch := decide) only [mpushs_nil, mpushs_cons, mget_hd, mget_tl, mget_appW_o, mget_appW_n]))) (snL_cons (sn_lst (E := TFlowCap.E) _ _ false) snL_nil))))) ?_
      refine imp exT2_b ?_
      refine imp ex_i64_b ?_
      exact fun hg => retN rfl (hR _ (Option.some.inj hg).symm) (fzL_cons (fz_own (E := TSlot.E) (ty := 49) (l' := x94.1) _ rfl (by first | rfl | (simp (disch := decide) only [mpushs_nil, mpushs_cons, mget_hd, mget_tl, mget_appW_o, mget_appW_n]))) (fzL_cons (fz_sc _ _) fzL_nil))
theorem sg23 {n : Nat} {a0 : ByteArray} {a1 : ByteArray} {a2 : List TSlotDemand} {a3 : List TFlowCap} {t : ρ23} (h : g23 n a0 a1 a2 a3 = some t) : Says Try.prog KK.gl 23 [(strA a0), (strA a1), (lstA TSlotDemand.E a2), (lstA TFlowCap.E a3)] ((AV.tup [(lstA TSlot.E t.1), (intA t.2)])) :=
  says_of_own (by first | rfl | simp [cleans, clean, encs_clean, En.cln]) (by first | rfl | simp [cleans, clean, encs_clean, En.cln]) (F23_own a0 a1 (lstA TSlotDemand.E a2) (lstA TFlowCap.E a3) _ (g23_ok n a0 a1 a2 a3 (Ans ((AV.tup [(lstA TSlot.E t.1), (intA t.2)]))) (fun r e u m h => by rw [e]; exact h) h))
/- skyway/slot.Release -/
theorem g23_okM (n : Nat) (a0 : ByteArray) (a1 : ByteArray) (a2 : List TSlotDemand) (a3 : List TFlowCap) {t : ρ23} (R : AV → Mem → Prop) (hR : ∀ r : ρ23, t = r → ∀ u m, MadeT TSlot.E 49 r.1 [Value.int .i64 r.2] u m → R u m) : g23 n a0 a1 a2 a3 = some t → F23 a0 a1 (lstA TSlotDemand.E a2) (lstA TFlowCap.E a3) R := by
  unfold g23 F23
  refine bind_b fun x96 h96 => ?_
  refine imp (callW_D (show PureD _ _ _ _ _ _ (AV.tup [(ownV TSlot.E 6 x96.1), (intA x96.2)]) [(6, ownB TSlot.E 49 x96.1)] from mg19C h96)) ?_
  refine imp exT2_b ?_
  refine imp ex_i64_b ?_
  refine cond_b (fun _ => ?_) (fun _ => ?_)
  · exact fun hg => hR _ (Option.some.inj hg).symm _ _ ⟨_, rfl, made_nils_pf⟩
  · refine bind_b fun x97 h97 => ?_
    refine imp (callW_D (show PureD _ _ _ _ _ _ (ownV TSlotDemand.E 78 a2) [(78, ownB TSlotDemand.E 44 a2)] from cloneC21 h97)) ?_
    refine bind_b fun x98 h98 => ?_
    refine bind_b fun x99 h99 => ?_
    refine imp (callW_D (show PureD _ _ _ _ _ _ (blkW TSlotDemand.E 143 x99) [(143, some ⟨encs TSlotDemand.E x99, 44⟩), (78, none)] from ug42 (neO_some h98) rfl (by first | rfl | (simp (disch := decide) only [mpushs_nil, mpushs_cons, mget_hd, mget_tl, mget_appW_o, mget_appW_n])) h99 (snL_cons (sn_fn _ _ (snL_cons (sn_ptr _ (ty := 9) (us := [(strA a1)]) (by rw [less_ne (by rfl)]; exact (by first | rfl | (simp (disch := decide) only [mpushs_nil, mpushs_cons, mget_hd, mget_tl, mget_appW_o, mget_appW_n]))) (snL_cons (sn_sc _ _) snL_nil)) snL_nil)) snL_nil))) ?_
    refine imp (opP_of (show _ = some ((intA (x99.length : Int)), []) from (len_bw rfl))) ?_
    refine imp ex_i64_b ?_
    refine imp (opP_of (show _ = some ((intA (a2.length : Int)), []) from rfl)) ?_
    refine imp ex_i64_b ?_
    refine cond_b (fun _ => ?_) (fun _ => ?_)
    · exact fun hg => hR _ (Option.some.inj hg).symm _ _ ⟨_, rfl, made_nils_pf⟩
    · refine bind_b fun x100 h100 => ?_
      refine imp (callW_D (show PureD _ _ _ _ _ _ (AV.tup [(ownV TSlot.E 216 x100.1), (intA x100.2)]) [(216, ownB TSlot.E 49 x100.1)] from mg19S h100 (snL_cons (sn_sc _ _) (snL_cons (sn_bw (E := TSlotDemand.E) (ty := 44) (l' := x99) _ TSlotDemand.nf rfl (by first | rfl | (simp (disch := decide) only [mpushs_nil, mpushs_cons, mget_hd, mget_tl, mget_appW_o, mget_appW_n]))) (snL_cons (sn_lst (E := TFlowCap.E) _ _ false) snL_nil))))) ?_
      refine imp exT2_b ?_
      refine imp ex_i64_b ?_
      exact fun hg => hR _ (Option.some.inj hg).symm _ _ ⟨_, rfl, (made_own_pf (E := TSlot.E) (ty := 49) (l := x100.1) rfl (by first | rfl | (simp (disch := decide) only [mpushs_nil, mpushs_cons, mget_hd, mget_tl, mget_appW_o, mget_appW_n])))⟩
theorem mg23C {n k : Nat} {look : Nat → Option ABlk} {a0 : ByteArray} {a1 : ByteArray} {a2 : List TSlotDemand} {a3 : List TFlowCap} {t : ρ23} (h : g23 n a0 a1 a2 a3 = some t) : PureD Try.prog KK.gl look k 23 [(strA a0), (strA a1), (lstA TSlotDemand.E a2), (lstA TFlowCap.E a3)] (.tup (ownV TSlot.E k t.1 :: ([Value.int .i64 t.2] : List Value).map AV.sc)) [(k, ownB TSlot.E 49 t.1)] :=
  made_tupC (by first | rfl | simp [cleans, clean, encs_clean, En.cln]) (F23_own a0 a1 (lstA TSlotDemand.E a2) (lstA TFlowCap.E a3) _ (g23_okM n a0 a1 a2 a3 (MadeT TSlot.E 49 t.1 [Value.int .i64 t.2]) (fun r e u m h => by rw [e]; exact h) h))
theorem mg23S {n k : Nat} {look : Nat → Option ABlk} {args : List AV} {a0 : ByteArray} {a1 : ByteArray} {a2 : List TSlotDemand} {a3 : List TFlowCap} {t : ρ23} (h : g23 n a0 a1 a2 a3 = some t) (hs : SnL look 6 args [(strA a0), (strA a1), (lstA TSlotDemand.E a2), (lstA TFlowCap.E a3)]) : PureD Try.prog KK.gl look k 23 args (.tup (ownV TSlot.E k t.1 :: ([Value.int .i64 t.2] : List Value).map AV.sc)) [(k, ownB TSlot.E 49 t.1)] :=
  made_tupS (fun _ => rfl) hs (F23_own a0 a1 (lstA TSlotDemand.E a2) (lstA TFlowCap.E a3) _ (g23_okM n a0 a1 a2 a3 (MadeT TSlot.E 49 t.1 [Value.int .i64 t.2]) (fun r e u m h => by rw [e]; exact h) h))
/- skyway/skywaykeep3.SlotImproves$1 -/
theorem g25_ok (n : Nat) (a0 : TSlot) (a1_0 : ByteArray) (a1_1 : ByteArray) (a1_2 : Int) {t : ρ25} (R : AV → Mem → Prop) (hR : ∀ r : ρ25, t = r → ∀ u m, Ans ((boolA r)) u m → R u m) : g25 n a0 a1_0 a1_1 a1_2 = some t → F25 a0.Call a0.Place a0.Time (AV.ept [(strA a1_0), (strA a1_1), (intA a1_2)] 0) R := by
  unfold g25 F25
  refine imp (opP_of (show _ = some ((AV.ept [(strA a1_0), (strA a1_1), (intA a1_2)] 0), []) from rfl)) ?_
  refine imp (opP_of (show _ = some ((strA a1_0), []) from rfl)) ?_
  refine imp exStr_b ?_
  exact fun hg => ret1 (hR _ (Option.some.inj hg).symm) (fz_sc _ _)
theorem sg25 {n : Nat} {a0 : TSlot} {a1_0 : ByteArray} {a1_1 : ByteArray} {a1_2 : Int} {t : ρ25} (h : g25 n a0 a1_0 a1_1 a1_2 = some t) : Says Try.prog KK.gl 25 [(AV.agg [(strA a0.Call), (strA a0.Place), (intA a0.Time)]), (AV.ept [(strA a1_0), (strA a1_1), (intA a1_2)] 0)] ((boolA t)) :=
  says_of_own (by first | rfl | simp [cleans, clean, encs_clean, En.cln]) (by first | rfl | simp [cleans, clean, encs_clean, En.cln]) (F25_own a0.Call a0.Place a0.Time (AV.ept [(strA a1_0), (strA a1_1), (intA a1_2)] 0) _ (g25_ok n a0 a1_0 a1_1 a1_2 (Ans ((boolA t))) (fun r e u m h => by rw [e]; exact h) h))
/- slices.IndexFunc[[]skyway/api.Slot,skyway/api.Slot] -/
theorem B24_0_ok (n : Nat) (a0 : List TSlot) (a1_0_0 : ByteArray) (a1_0_1 : ByteArray) (a1_0_2 : Int) (c4 : Int) (c7 : Int) (v8 : Int) {t : (Int) ⊕ ρ24} (R : AV → Mem → Prop) (N0 : St → Prop) (hR : ∀ r : ρ24, t = (.inr r) → ∀ u m, Ans ((intA r)) u m → R u m) (hN0 : ∀ y : Int, t = (.inl y) → ∀ s' : St, Weak KK 19 0 s' (h24_0 (lstA TSlot.E a0) (AV.fn 25 [(AV.ept [(strA a1_0_0), (strA a1_0_1), (intA a1_0_2)] 0)]) c4 c7 y []) → N0 s') : S24_0 n a0 a1_0_0 a1_0_1 a1_0_2 c4 c7 v8 = some t → B24_0 (lstA TSlot.E a0) (AV.fn 25 [(AV.ept [(strA a1_0_0), (strA a1_0_1), (intA a1_0_2)] 0)]) c4 c7 v8 [] R N0 := by
  unfold S24_0 B24_0
  refine cond_b (fun _ => ?_) (fun _ => ?_)
  · refine bind_b fun x102 h102 => ?_
    refine imp (opP_of (show _ = some ((AV.ept [(strA x102.Call), (strA x102.Place), (intA x102.Time)] 0), []) from (idx_lst (E := TSlot.E) rfl h102))) ?_
    refine imp (opP_of (show _ = some ((AV.agg [(strA x102.Call), (strA x102.Place), (intA x102.Time)]), []) from rfl)) ?_
    refine imp exA3_b ?_
    refine imp exStr_b ?_
    refine imp exStr_b ?_
    refine imp ex_i64_b ?_
    refine bind_b fun x103 h103 => ?_
    refine imp fnArgs_b ?_
    refine imp (cond_ff rfl) ?_
    refine imp (callW_says (sg25 h103)) ?_
    refine imp exB_b ?_
    refine cond_b (fun _ => ?_) (fun _ => ?_)
    · exact fun hg => ret1 (hR _ (Option.some.inj hg).symm) (fz_sc _ _)
    · exact fun hg => hN0 _ (Option.some.inj hg).symm _ (weak_mem [] rfl rfl rfl (okW_cons (ent_lst (E := TSlot.E) _ false) (okW_cons (ent_clean (leV_refl _) (by simp [clean, cleans, encs_clean])) (okW_cons (.inl (leV_refl _)) (okW_cons (.inl (leV_refl _)) (okW_cons (.inl (leV_refl _)) okW_nil))))) okB_nil')
  · exact fun hg => ret1 (hR _ (Option.some.inj hg).symm) (fz_sc _ _)
theorem L24_0_ok (n : Nat) (a0 : List TSlot) (a1_0_0 : ByteArray) (a1_0_1 : ByteArray) (a1_0_2 : Int) (c4 : Int) (c7 : Int) {t : ρ24} (R : AV → Mem → Prop) (hR : ∀ r : ρ24, t = r → ∀ u m, Ans ((intA r)) u m → R u m) (k : Nat) (x : Int) (hx : iterO (fun y : Int => S24_0 n a0 a1_0_0 a1_0_1 a1_0_2 c4 c7 y) k x = some t) {s : St} (hw : Weak KK 19 0 s (h24_0 (lstA TSlot.E a0) (AV.fn 25 [(AV.ept [(strA a1_0_0), (strA a1_0_1), (intA a1_0_2)] 0)]) c4 c7 x [])) : Tri Try.prog KK 19 0 (.loop c24_0) s (q24_0 R ) :=
  L24_0 R  (σ := Nat × (Int)) (fun z => iterO (fun y : Int => S24_0 n a0 a1_0_0 a1_0_1 a1_0_2 c4 c7 y) z.1 z.2 = some t) (fun z => (lstA TSlot.E a0)) (fun z => (AV.fn 25 [(AV.ept [(strA a1_0_0), (strA a1_0_1), (intA a1_0_2)] 0)])) (fun z => c4) (fun z => c7) (fun z => z.2) (fun z => []) (fun z => z.1) (by
    rintro ⟨k, y⟩ h
    cases k with
    | zero => exact (iterO_zero h).elim
    | succ k =>
      obtain ⟨u, h1, h2, h3⟩ := iterO_elim h
      exact B24_0_ok n a0 a1_0_0 a1_0_1 a1_0_2 c4 c7 y R  _ (fun r e => hR r (h3 _ e).symm)  (fun y' e s' hw => ⟨(k, y'), h2 _ e, Nat.lt_succ_self k, hw⟩) h1) (k, x) hx hw
theorem g24_ok (n : Nat) (a0 : List TSlot) (a1_0_0 : ByteArray) (a1_0_1 : ByteArray) (a1_0_2 : Int) {t : ρ24} (R : AV → Mem → Prop) (hR : ∀ r : ρ24, t = r → ∀ u m, Ans ((intA r)) u m → R u m) : g24 n a0 a1_0_0 a1_0_1 a1_0_2 = some t → F24 (lstA TSlot.E a0) (AV.fn 25 [(AV.ept [(strA a1_0_0), (strA a1_0_1), (intA a1_0_2)] 0)]) R := by
  unfold g24 F24
  refine imp (opP_of (show _ = some ((intA (a0.length : Int)), []) from rfl)) ?_
  refine imp ex_i64_b ?_
  exact fun hg => L24_0_ok n a0 a1_0_0 a1_0_1 a1_0_2 (0) (a0.length : Int) R  hR n _ hg (weak_mem [] rfl rfl rfl (okW_cons (ent_lst (E := TSlot.E) _ false) (okW_cons (ent_clean (leV_refl _) (by simp [clean, cleans, encs_clean])) (okW_cons (.inl (leV_refl _)) (okW_cons (.inl (leV_refl _)) (okW_cons (.inl (leV_refl _)) okW_nil))))) okB_nil')
theorem sg24 {n : Nat} {a0 : List TSlot} {a1_0_0 : ByteArray} {a1_0_1 : ByteArray} {a1_0_2 : Int} {t : ρ24} (h : g24 n a0 a1_0_0 a1_0_1 a1_0_2 = some t) : Says Try.prog KK.gl 24 [(lstA TSlot.E a0), (AV.fn 25 [(AV.ept [(strA a1_0_0), (strA a1_0_1), (intA a1_0_2)] 0)])] ((intA t)) :=
  says_of_own (by first | rfl | simp [cleans, clean, encs_clean, En.cln]) (by first | rfl | simp [cleans, clean, encs_clean, En.cln]) (F24_own (lstA TSlot.E a0) (AV.fn 25 [(AV.ept [(strA a1_0_0), (strA a1_0_1), (intA a1_0_2)] 0)]) _ (g24_ok n a0 a1_0_0 a1_0_1 a1_0_2 (Ans ((intA t))) (fun r e u m h => by rw [e]; exact h) h))
/- skyway/skywaykeep3.SlotImproves -/
theorem B6_0_ok (n : Nat) (c6 : Bool) (c7 : List TSlot) (c9 : ByteArray) (c57 : List TSlot) (c58 : Int) (v59 : Int) {t : (Int) ⊕ ρ6} (R : AV → Mem → Prop) (N0 : St → Prop) (hR : ∀ r : ρ6, t = (.inr r) → ∀ u m, Ans ((boolA r)) u m → R u m) (hN0 : ∀ y : Int, t = (.inl y) → ∀ s' : St, Weak KK 85 0 s' (h6_0 c6 (lstA TSlot.E c7) c9 (lstA TSlot.E c57) c58 y []) → N0 s') : S6_0 n c6 c7 c9 c57 c58 v59 = some t → B6_0 c6 (lstA TSlot.E c7) c9 (lstA TSlot.E c57) c58 v59 [] R N0 := by
  unfold S6_0 B6_0
  refine cond_b (fun _ => ?_) (fun _ => ?_)
  · refine bind_b fun x101 h101 => ?_
    refine imp (opP_of (show _ = some ((AV.ept [(strA x101.Call), (strA x101.Place), (intA x101.Time)] 0), []) from (idx_lst (E := TSlot.E) rfl h101))) ?_
    refine imp (opP_of (show _ = some ((AV.agg [(strA x101.Call), (strA x101.Place), (intA x101.Time)]), []) from rfl)) ?_
    refine imp exA3_b ?_
    refine imp exStr_b ?_
    refine imp exStr_b ?_
    refine imp ex_i64_b ?_
    refine bind_b fun x104 h104 => ?_
    refine imp (callQ_pure (pure_snapN (snL_cons (sn_lst (E := TSlot.E) _ _ false) (snL_cons (sn_fn _ _ (snL_cons (sn_ptr _ (ty := 49) (us := [(strA x101.Call), (strA x101.Place), (intA x101.Time)]) (by first | rfl | (simp (disch := decide) only [mpushs_nil, mpushs_cons, mget_hd, mget_tl, mget_appW_o, mget_appW_n])) (snL_cons (sn_sc _ _) (snL_cons (sn_sc _ _) (snL_cons (sn_sc _ _) snL_nil)))) snL_nil)) snL_nil)) (sg24 h104) rfl)) ?_
    refine imp ex_i64_b ?_
    refine cond_b (fun _ => ?_) (fun _ => ?_)
    · exact fun hg => ret1 (hR _ (Option.some.inj hg).symm) (fz_sc _ _)
    · refine cond_b (fun _ => ?_) (fun _ => ?_)
      · exact fun hg => ret1 (hR _ (Option.some.inj hg).symm) (fz_sc _ _)
      · refine bind_b fun x105 h105 => ?_
        refine imp (opP_of (show _ = some ((AV.ept [(strA x105.Call), (strA x105.Place), (intA x105.Time)] 0), []) from (idx_lst (E := TSlot.E) rfl h105))) ?_
        refine imp (opP_of (show _ = some ((AV.ept [(strA x105.Call), (strA x105.Place), (intA x105.Time)] 2), []) from rfl)) ?_
        refine imp (opP_of (show _ = some ((intA x105.Time), []) from rfl)) ?_
        refine imp ex_i64_b ?_
        refine cond_b (fun _ => ?_) (fun _ => ?_)
        · exact fun hg => ret1 (hR _ (Option.some.inj hg).symm) (fz_sc _ _)
        · exact fun hg => hN0 _ (Option.some.inj hg).symm _ (weak_mem [] rfl rfl rfl (okW_cons (.inl (leV_refl _)) (okW_cons (ent_lst (E := TSlot.E) _ false) (okW_cons (.inl (leV_refl _)) (okW_cons (ent_lst (E := TSlot.E) _ false) (okW_cons (.inl (leV_refl _)) (okW_cons (.inl (leV_refl _)) okW_nil)))))) okB_nil')
  · exact fun hg => ret1 (hR _ (Option.some.inj hg).symm) (fz_sc _ _)
theorem L6_0_ok (n : Nat) (c6 : Bool) (c7 : List TSlot) (c9 : ByteArray) (c57 : List TSlot) (c58 : Int) {t : ρ6} (R : AV → Mem → Prop) (hR : ∀ r : ρ6, t = r → ∀ u m, Ans ((boolA r)) u m → R u m) (k : Nat) (x : Int) (hx : iterO (fun y : Int => S6_0 n c6 c7 c9 c57 c58 y) k x = some t) {s : St} (hw : Weak KK 85 0 s (h6_0 c6 (lstA TSlot.E c7) c9 (lstA TSlot.E c57) c58 x [])) : Tri Try.prog KK 85 0 (.loop c6_0) s (q6_0 R ) :=
  L6_0 R  (σ := Nat × (Int)) (fun z => iterO (fun y : Int => S6_0 n c6 c7 c9 c57 c58 y) z.1 z.2 = some t) (fun z => c6) (fun z => (lstA TSlot.E c7)) (fun z => c9) (fun z => (lstA TSlot.E c57)) (fun z => c58) (fun z => z.2) (fun z => []) (fun z => z.1) (by
    rintro ⟨k, y⟩ h
    cases k with
    | zero => exact (iterO_zero h).elim
    | succ k =>
      obtain ⟨u, h1, h2, h3⟩ := iterO_elim h
      exact B6_0_ok n c6 c7 c9 c57 c58 y R  _ (fun r e => hR r (h3 _ e).symm)  (fun y' e s' hw => ⟨(k, y'), h2 _ e, Nat.lt_succ_self k, hw⟩) h1) (k, x) hx hw
theorem g6_ok (n : Nat) (a0 : List TSlotDemand) (a1 : List TFlowCap) (a2 : Int) {t : ρ6} (R : AV → Mem → Prop) (hR : ∀ r : ρ6, t = r → ∀ u m, Ans ((boolA r)) u m → R u m) : g6 n a0 a1 a2 = some t → F6 (lstA TSlotDemand.E a0) (lstA TFlowCap.E a1) a2 R := by
  unfold g6 F6
  refine bind_b fun x77 h77 => ?_
  refine imp (callQ_says (sg18 h77)) ?_
  refine imp exB_b ?_
  refine cond_b (fun _ => ?_) (fun _ => ?_)
  · exact fun hg => ret1 (hR _ (Option.some.inj hg).symm) (fz_sc _ _)
  · refine bind_b fun x78 h78 => ?_
    refine imp (callW_D (show PureD _ _ _ _ _ _ (AV.tup [(ownV TSlot.E 68 x78.1), (intA x78.2)]) [(68, ownB TSlot.E 49 x78.1)] from mg19C h78)) ?_
    refine imp exT2_b ?_
    refine imp ex_i64_b ?_
    refine cond_b (fun _ => ?_) (fun _ => ?_)
    · refine imp (opP_of (show _ = some ((intA (x78.1.length : Int)), []) from len_own)) ?_
      refine imp ex_i64_b ?_
      exact fun hg => ret1 (hR _ (Option.some.inj hg).symm) (fz_sc _ _)
    · refine imp (opP_of (show _ = some ((intA (a0.length : Int)), []) from rfl)) ?_
      refine imp ex_i64_b ?_
      refine cond_b (fun _ => ?_) (fun _ => ?_)
      · refine imp (opP_of (show _ = some ((intA (x78.1.length : Int)), []) from len_own)) ?_
        refine imp ex_i64_b ?_
        exact fun hg => ret1 (hR _ (Option.some.inj hg).symm) (fz_sc _ _)
      · refine imp (opP_of (show _ = some ((intA (a0.length : Int)), []) from rfl)) ?_
        refine imp ex_i64_b ?_
        refine bind_b fun x79 h79 => ?_
        refine imp (callQ_says (sg20 h79)) ?_
        refine imp ex_i64_b ?_
        refine bind_b fun x80 h80 => ?_
        refine imp (opP_of (show _ = some ((AV.ept [(strA x80.Call), (intA x80.Time)] 0), []) from (idx_lst (E := TSlotDemand.E) rfl h80))) ?_
        refine imp (opP_of (show _ = some ((AV.ept [(strA x80.Call), (intA x80.Time)] 0), []) from rfl)) ?_
        refine imp (opP_of (show _ = some ((strA x80.Call), []) from rfl)) ?_
        refine imp exStr_b ?_
        refine bind_b fun x95 h95 => ?_
        refine imp (callW_D (show PureD _ _ _ _ _ _ (AV.tup [(ownV TSlot.E 219 x95.1), (intA x95.2)]) [(219, ownB TSlot.E 49 x95.1)] from mg23C h95)) ?_
        refine imp exT2_b ?_
        refine imp ex_i64_b ?_
        refine cond_b (fun _ => ?_) (fun _ => ?_)
        · exact fun hg => ret1 (hR _ (Option.some.inj hg).symm) (fz_sc _ _)
        · refine imp (opP_of (show _ = some ((intA (x95.1.length : Int)), []) from len_own)) ?_
          refine imp ex_i64_b ?_
          refine imp (opP_of (show _ = some ((intA (a0.length : Int)), []) from rfl)) ?_
          refine imp ex_i64_b ?_
          refine cond_b (fun _ => ?_) (fun _ => ?_)
          · exact fun hg => ret1 (hR _ (Option.some.inj hg).symm) (fz_sc _ _)
          · refine imp (opP_of (show _ = some ((intA (x95.1.length : Int)), []) from len_own)) ?_
            refine imp ex_i64_b ?_
            exact fun hg => L6_0_ok n false x78.1 x80.Call x95.1 (x95.1.length : Int) R  hR n _ hg (weak_mem [] rfl rfl rfl (okW_cons (.inl (leV_refl _)) (okW_cons (ent_own_frz (E := TSlot.E) (ty := 49) (l' := x78.1) rfl (by first | rfl | (simp (disch := decide) only [mpushs_nil, mpushs_cons, mget_hd, mget_tl, mget_appW_o, mget_appW_n])) rfl) (okW_cons (.inl (leV_refl _)) (okW_cons (ent_own_frz (E := TSlot.E) (ty := 49) (l' := x95.1) rfl (by first | rfl | (simp (disch := decide) only [mpushs_nil, mpushs_cons, mget_hd, mget_tl, mget_appW_o, mget_appW_n])) rfl) (okW_cons (.inl (leV_refl _)) (okW_cons (.inl (leV_refl _)) okW_nil)))))) okB_nil')
theorem sg6 {n : Nat} {a0 : List TSlotDemand} {a1 : List TFlowCap} {a2 : Int} {t : ρ6} (h : g6 n a0 a1 a2 = some t) : Says Try.prog KK.gl 6 [(lstA TSlotDemand.E a0), (lstA TFlowCap.E a1), (intA a2)] ((boolA t)) :=
  says_of_own (by first | rfl | simp [cleans, clean, encs_clean, En.cln]) (by first | rfl | simp [cleans, clean, encs_clean, En.cln]) (F6_own (lstA TSlotDemand.E a0) (lstA TFlowCap.E a1) a2 _ (g6_ok n a0 a1 a2 (Ans ((boolA t))) (fun r e u m h => by rw [e]; exact h) h))
/- skyway/slot.index$1 -/
theorem g55_ok (n : Nat) (a0 : TSlot) (a1_0 : ByteArray) {t : ρ55} (R : AV → Mem → Prop) (hR : ∀ r : ρ55, t = r → ∀ u m, Ans ((boolA r)) u m → R u m) : g55 n a0 a1_0 = some t → F55 a0.Call a0.Place a0.Time (AV.ept [(strA a1_0)] 0) R := by
  unfold g55 F55
  refine imp (opP_of (show _ = some ((strA a1_0), []) from rfl)) ?_
  refine imp exStr_b ?_
  exact fun hg => ret1 (hR _ (Option.some.inj hg).symm) (fz_sc _ _)
theorem sg55 {n : Nat} {a0 : TSlot} {a1_0 : ByteArray} {t : ρ55} (h : g55 n a0 a1_0 = some t) : Says Try.prog KK.gl 55 [(AV.agg [(strA a0.Call), (strA a0.Place), (intA a0.Time)]), (AV.ept [(strA a1_0)] 0)] ((boolA t)) :=
  says_of_own (by first | rfl | simp [cleans, clean, encs_clean, En.cln]) (by first | rfl | simp [cleans, clean, encs_clean, En.cln]) (F55_own a0.Call a0.Place a0.Time (AV.ept [(strA a1_0)] 0) _ (g55_ok n a0 a1_0 (Ans ((boolA t))) (fun r e u m h => by rw [e]; exact h) h))
/- slices.IndexFunc[[]skyway/api.Slot,skyway/api.Slot] -/
theorem B24_0_x1_ok (n : Nat) (a0 : List TSlot) (a1_0_0 : ByteArray) (c4 : Int) (c7 : Int) (v8 : Int) {t : (Int) ⊕ ρ24} (R : AV → Mem → Prop) (N0 : St → Prop) (hR : ∀ r : ρ24, t = (.inr r) → ∀ u m, Ans ((intA r)) u m → R u m) (hN0 : ∀ y : Int, t = (.inl y) → ∀ s' : St, Weak KK 19 0 s' (h24_0 (lstA TSlot.E a0) (AV.fn 55 [(AV.ept [(strA a1_0_0)] 0)]) c4 c7 y []) → N0 s') : S24_0_x1 n a0 a1_0_0 c4 c7 v8 = some t → B24_0 (lstA TSlot.E a0) (AV.fn 55 [(AV.ept [(strA a1_0_0)] 0)]) c4 c7 v8 [] R N0 := by
  unfold S24_0_x1 B24_0
  refine cond_b (fun _ => ?_) (fun _ => ?_)
  · refine bind_b fun x114 h114 => ?_
    refine imp (opP_of (show _ = some ((AV.ept [(strA x114.Call), (strA x114.Place), (intA x114.Time)] 0), []) from (idx_lst (E := TSlot.E) rfl h114))) ?_
    refine imp (opP_of (show _ = some ((AV.agg [(strA x114.Call), (strA x114.Place), (intA x114.Time)]), []) from rfl)) ?_
    refine imp exA3_b ?_
    refine imp exStr_b ?_
    refine imp exStr_b ?_
    refine imp ex_i64_b ?_
    refine bind_b fun x115 h115 => ?_
    refine imp fnArgs_b ?_
    refine imp (cond_ff rfl) ?_
    refine imp (callW_says (sg55 h115)) ?_
    refine imp exB_b ?_
    refine cond_b (fun _ => ?_) (fun _ => ?_)
    · exact fun hg => ret1 (hR _ (Option.some.inj hg).symm) (fz_sc _ _)
    · exact fun hg => hN0 _ (Option.some.inj hg).symm _ (weak_mem [] rfl rfl rfl (okW_cons (ent_lst (E := TSlot.E) _ false) (okW_cons (ent_clean (leV_refl _) (by simp [clean, cleans, encs_clean])) (okW_cons (.inl (leV_refl _)) (okW_cons (.inl (leV_refl _)) (okW_cons (.inl (leV_refl _)) okW_nil))))) okB_nil')
  · exact fun hg => ret1 (hR _ (Option.some.inj hg).symm) (fz_sc _ _)
theorem L24_0_x1_ok (n : Nat) (a0 : List TSlot) (a1_0_0 : ByteArray) (c4 : Int) (c7 : Int) {t : ρ24} (R : AV → Mem → Prop) (hR : ∀ r : ρ24, t = r → ∀ u m, Ans ((intA r)) u m → R u m) (k : Nat) (x : Int) (hx : iterO (fun y : Int => S24_0_x1 n a0 a1_0_0 c4 c7 y) k x = some t) {s : St} (hw : Weak KK 19 0 s (h24_0 (lstA TSlot.E a0) (AV.fn 55 [(AV.ept [(strA a1_0_0)] 0)]) c4 c7 x [])) : Tri Try.prog KK 19 0 (.loop c24_0) s (q24_0 R ) :=
  L24_0 R  (σ := Nat × (Int)) (fun z => iterO (fun y : Int => S24_0_x1 n a0 a1_0_0 c4 c7 y) z.1 z.2 = some t) (fun z => (lstA TSlot.E a0)) (fun z => (AV.fn 55 [(AV.ept [(strA a1_0_0)] 0)])) (fun z => c4) (fun z => c7) (fun z => z.2) (fun z => []) (fun z => z.1) (by
    rintro ⟨k, y⟩ h
    cases k with
    | zero => exact (iterO_zero h).elim
    | succ k =>
      obtain ⟨u, h1, h2, h3⟩ := iterO_elim h
      exact B24_0_x1_ok n a0 a1_0_0 c4 c7 y R  _ (fun r e => hR r (h3 _ e).symm)  (fun y' e s' hw => ⟨(k, y'), h2 _ e, Nat.lt_succ_self k, hw⟩) h1) (k, x) hx hw
theorem g24_1_ok (n : Nat) (a0 : List TSlot) (a1_0_0 : ByteArray) {t : ρ24} (R : AV → Mem → Prop) (hR : ∀ r : ρ24, t = r → ∀ u m, Ans ((intA r)) u m → R u m) : g24_1 n a0 a1_0_0 = some t → F24 (lstA TSlot.E a0) (AV.fn 55 [(AV.ept [(strA a1_0_0)] 0)]) R := by
  unfold g24_1 F24
  refine imp (opP_of (show _ = some ((intA (a0.length : Int)), []) from rfl)) ?_
  refine imp ex_i64_b ?_
  exact fun hg => L24_0_x1_ok n a0 a1_0_0 (0) (a0.length : Int) R  hR n _ hg (weak_mem [] rfl rfl rfl (okW_cons (ent_lst (E := TSlot.E) _ false) (okW_cons (ent_clean (leV_refl _) (by simp [clean, cleans, encs_clean])) (okW_cons (.inl (leV_refl _)) (okW_cons (.inl (leV_refl _)) (okW_cons (.inl (leV_refl _)) okW_nil))))) okB_nil')
theorem sg24_1 {n : Nat} {a0 : List TSlot} {a1_0_0 : ByteArray} {t : ρ24} (h : g24_1 n a0 a1_0_0 = some t) : Says Try.prog KK.gl 24 [(lstA TSlot.E a0), (AV.fn 55 [(AV.ept [(strA a1_0_0)] 0)])] ((intA t)) :=
  says_of_own (by first | rfl | simp [cleans, clean, encs_clean, En.cln]) (by first | rfl | simp [cleans, clean, encs_clean, En.cln]) (F24_own (lstA TSlot.E a0) (AV.fn 55 [(AV.ept [(strA a1_0_0)] 0)]) _ (g24_1_ok n a0 a1_0_0 (Ans ((intA t))) (fun r e u m h => by rw [e]; exact h) h))
/- skyway/slot.index -/
theorem g44_ok (n : Nat) (a0 : List TSlot) (a1 : ByteArray) {t : ρ44} (R : AV → Mem → Prop) (hR : ∀ r : ρ44, t = r → ∀ u m, Ans ((intA r)) u m → R u m) : g44 n a0 a1 = some t → F44 (lstA TSlot.E a0) a1 R := by
  unfold g44 F44
  refine bind_b fun x116 h116 => ?_
  refine imp (callQ_pure (pure_snapN (snL_cons (sn_lst (E := TSlot.E) _ _ false) (snL_cons (sn_fn _ _ (snL_cons (sn_ptr _ (ty := 9) (us := [(strA a1)]) (by first | rfl | (simp (disch := decide) only [mpushs_nil, mpushs_cons, mget_hd, mget_tl, mget_appW_o, mget_appW_n])) (snL_cons (sn_sc _ _) snL_nil)) snL_nil)) snL_nil)) (sg24_1 h116) rfl)) ?_
  refine imp ex_i64_b ?_
  exact fun hg => ret1 (hR _ (Option.some.inj hg).symm) (fz_sc _ _)
theorem sg44 {n : Nat} {a0 : List TSlot} {a1 : ByteArray} {t : ρ44} (h : g44 n a0 a1 = some t) : Says Try.prog KK.gl 44 [(lstA TSlot.E a0), (strA a1)] ((intA t)) :=
  says_of_own (by first | rfl | simp [cleans, clean, encs_clean, En.cln]) (by first | rfl | simp [cleans, clean, encs_clean, En.cln]) (F44_own (lstA TSlot.E a0) a1 _ (g44_ok n a0 a1 (Ans ((intA t))) (fun r e u m h => by rw [e]; exact h) h))
/- skyway/slot.Delays -/
theorem B27_0_ok (n : Nat) (a1 : List TSlot) (c5 : Int) (a0 : List TSlotDemand) (c20 : Int) (v21 : Int) (L90000 : List Int) {t : (Int × List Int) ⊕ ρ27} (R : AV → Mem → Prop) (N0 : St → Prop) (hR : ∀ r : ρ27, t = (.inr r) → ∀ u m, Ans ((AV.tup [(lstA intE r.1), (intA r.2)])) u m → R u m) (hN0 : ∀ y : Int × List Int, t = (.inl y) → ∀ s' : St, Weak KK 62 0 s' (h27_0 (lstA TSlot.E a1) AV.nils c5 (ownV intE 90000 y.2) (lstA TSlotDemand.E a0) c20 y.1 [(90000, ownB intE 3 y.2)]) → N0 s') : S27_0 n a1 c5 a0 c20 v21 L90000 = some t → B27_0 (lstA TSlot.E a1) AV.nils c5 (ownV intE 90000 L90000) (lstA TSlotDemand.E a0) c20 v21 [(90000, ownB intE 3 L90000)] R N0 := by
  unfold S27_0 B27_0
  refine cond_b (fun _ => ?_) (fun _ => ?_)
  · refine bind_b fun x113 h113 => ?_
    refine imp (opP_of (show _ = some ((AV.ept [(strA x113.Call), (intA x113.Time)] 0), []) from (idx_lst (E := TSlotDemand.E) rfl h113))) ?_
    refine imp (opP_of (show _ = some ((AV.agg [(strA x113.Call), (intA x113.Time)]), []) from rfl)) ?_
    refine imp exA2_b ?_
    refine imp exStr_b ?_
    refine imp ex_i64_b ?_
    refine bind_b fun x117 h117 => ?_
    refine imp (callQ_says (sg44 h117)) ?_
    refine imp ex_i64_b ?_
    refine cond_b (fun _ => ?_) (fun _ => ?_)
    · exact fun hg => retN rfl (hR _ (Option.some.inj hg).symm) (fzL_cons (fz_nils (E := intE) _) (fzL_cons (fz_sc _ _) fzL_nil))
    · refine bind_b fun x118 h118 => ?_
      refine imp (opP_of (show _ = some ((AV.ept [(strA x118.Call), (strA x118.Place), (intA x118.Time)] 0), []) from (idx_lst (E := TSlot.E) rfl h118))) ?_
      refine imp (opP_of (show _ = some ((AV.ept [(strA x118.Call), (strA x118.Place), (intA x118.Time)] 2), []) from rfl)) ?_
      refine imp (opP_of (show _ = some ((intA x118.Time), []) from rfl)) ?_
      refine imp ex_i64_b ?_
      refine cond_b (fun _ => ?_) (fun _ => ?_)
      · exact fun hg => retN rfl (hR _ (Option.some.inj hg).symm) (fzL_cons (fz_nils (E := intE) _) (fzL_cons (fz_sc _ _) fzL_nil))
      · refine bind_b fun x119 h119 => ?_
        refine imp (opP_of (show _ = some ((AV.ept [(strA x119.Call), (strA x119.Place), (intA x119.Time)] 0), []) from (idx_lst (E := TSlot.E) rfl h119))) ?_
        refine imp (opP_of (show _ = some ((AV.ept [(strA x119.Call), (strA x119.Place), (intA x119.Time)] 2), []) from rfl)) ?_
        refine imp (opP_of (show _ = some ((intA x119.Time), []) from rfl)) ?_
        refine imp ex_i64_b ?_
        refine cond_b (fun _ => ?_) (fun _ => ?_)
        · exact fun hg => retN rfl (hR _ (Option.some.inj hg).symm) (fzL_cons (fz_nils (E := intE) _) (fzL_cons (fz_sc _ _) fzL_nil))
        · refine bind_b fun x120 h120 => ?_
          refine imp (opM_of (show _ = some ((AV.ept [(strA x120.Call), (strA x120.Place), (intA x120.Time)] 0), []) from (idx_lst (E := TSlot.E) rfl h120))) ?_
          refine imp (opM_of (show _ = some ((AV.ept [(strA x120.Call), (strA x120.Place), (intA x120.Time)] 2), []) from rfl)) ?_
          refine imp (opM_of (show _ = some ((intA x120.Time), []) from rfl)) ?_
          refine imp ex_i64_b ?_
          refine imp (opM_of (show _ = some ((intA x113.Time), []) from (ldS_ptr (b := ⟨[(strA x113.Call), (intA x113.Time)], 44⟩) (by first | rfl | (rw [look'_mem (by first | rfl | simp [topId_blk] | simp [topId])]; first | rfl | (simp (disch := decide) only [mpushs_nil, mpushs_cons, mget_hd, mget_tl, mget_appW_o, mget_appW_n]))) rfl))) ?_
          refine imp ex_i64_b ?_
          refine imp (opM_of (show _ = some ((blkV intE 100102 ([(IntKind.wrap .i64 (x120.Time - x113.Time))] : List Int)), [(100102, some ⟨encs intE ([(IntKind.wrap .i64 (x120.Time - x113.Time))] : List Int), 3⟩)]) from rfl)) ?_
          refine bind_b fun x121 h121 => ?_
          refine imp (opM_of (show _ = some ((ownV intE 100103 (L90000 ++ ([(IntKind.wrap .i64 (x120.Time - x113.Time))] : List Int))), (appW intE 100103 90000 3 L90000 ([(IntKind.wrap .i64 (x120.Time - x113.Time))] : List Int))) from (app_own (E := intE) (l' := L90000) (xs := ([(IntKind.wrap .i64 (x120.Time - x113.Time))] : List Int)) rfl rfl (cellsOf_blk (E := intE) (ty := 3) rfl rfl (by first | rfl | (rw [look'_mem (by first | rfl | simp [topId_blk] | simp [topId])]; first | rfl | (simp (disch := decide) only [mpushs_nil, mpushs_cons, mget_hd, mget_tl, mget_appW_o, mget_appW_n])))) (by simp) rfl (fun hne => look'_own hne rfl (by first | rfl | (simp (disch := decide) only [mpushs_nil, mpushs_cons, mget_hd, mget_tl, mget_appW_o, mget_appW_n]))) h121))) ?_
          refine imp (chk_of (by rcases (L90000) with _ | ⟨_, _⟩ <;> kernel_rfl)) ?_
          exact fun hg => hN0 _ (Option.some.inj hg).symm _ (weak_mem [(90000, 100103)] rfl rfl rfl (okW_cons (ent_lst (E := TSlot.E) _ false) (okW_cons (.inl (leV_refl _)) (okW_cons (.inl (leV_refl _)) (okW_cons (ent_own (E := intE) (id := 100103) (l' := (L90000 ++ ([(IntKind.wrap .i64 (x120.Time - x113.Time))] : List Int))) rfl rfl) (okW_cons (ent_lst (E := TSlotDemand.E) _ false) (okW_cons (.inl (leV_refl _)) (okW_cons (.inl (leV_refl _)) okW_nil))))))) (okB_cons (okB_own (E := intE) (ty := 3) (l' := (L90000 ++ ([(IntKind.wrap .i64 (x120.Time - x113.Time))] : List Int))) rfl (show mget _ 100103 = _ from (by first | rfl | (simp (disch := decide) only [mpushs_nil, mpushs_cons, mget_hd, mget_tl, mget_appW_o, mget_appW_n])))) okB_nil'))
  · exact fun hg => retN rfl (hR _ (Option.some.inj hg).symm) (fzL_cons (fz_own (E := intE) (ty := 3) (l' := L90000) _ rfl (by first | rfl | (simp (disch := decide) only [mpushs_nil, mpushs_cons, mget_hd, mget_tl, mget_appW_o, mget_appW_n]))) (fzL_cons (fz_sc _ _) fzL_nil))
theorem L27_0_ok (n : Nat) (a1 : List TSlot) (c5 : Int) (a0 : List TSlotDemand) (c20 : Int) {t : ρ27} (R : AV → Mem → Prop) (hR : ∀ r : ρ27, t = r → ∀ u m, Ans ((AV.tup [(lstA intE r.1), (intA r.2)])) u m → R u m) (k : Nat) (x : Int × List Int) (hx : iterO (fun y : Int × List Int => S27_0 n a1 c5 a0 c20 y.1 y.2) k x = some t) {s : St} (hw : Weak KK 62 0 s (h27_0 (lstA TSlot.E a1) AV.nils c5 (ownV intE 90000 x.2) (lstA TSlotDemand.E a0) c20 x.1 [(90000, ownB intE 3 x.2)])) : Tri Try.prog KK 62 0 (.loop c27_0) s (q27_0 R ) :=
  L27_0 R  (σ := Nat × (Int × List Int)) (fun z => iterO (fun y : Int × List Int => S27_0 n a1 c5 a0 c20 y.1 y.2) z.1 z.2 = some t) (fun z => (lstA TSlot.E a1)) (fun z => AV.nils) (fun z => c5) (fun z => (ownV intE 90000 z.2.2)) (fun z => (lstA TSlotDemand.E a0)) (fun z => c20) (fun z => z.2.1) (fun z => [(90000, ownB intE 3 z.2.2)]) (fun z => z.1) (by
    rintro ⟨k, y⟩ h
    cases k with
    | zero => exact (iterO_zero h).elim
    | succ k =>
      obtain ⟨u, h1, h2, h3⟩ := iterO_elim h
      exact B27_0_ok n a1 c5 a0 c20 y.1 y.2 R  _ (fun r e => hR r (h3 _ e).symm)  (fun y' e s' hw => ⟨(k, y'), h2 _ e, Nat.lt_succ_self k, hw⟩) h1) (k, x) hx hw
theorem g27_ok (n : Nat) (a0 : List TSlotDemand) (a1 : List TSlot) {t : ρ27} (R : AV → Mem → Prop) (hR : ∀ r : ρ27, t = r → ∀ u m, Ans ((AV.tup [(lstA intE r.1), (intA r.2)])) u m → R u m) : g27 n a0 a1 = some t → F27 (lstA TSlotDemand.E a0) (lstA TSlot.E a1) R := by
  unfold g27 F27
  refine bind_b fun x112 h112 => ?_
  refine imp (callQ_says (sg35 h112)) ?_
  refine imp ex_i64_b ?_
  refine cond_b (fun _ => ?_) (fun _ => ?_)
  · exact fun hg => retN rfl (hR _ (Option.some.inj hg).symm) (fzL_cons (fz_nils (E := intE) _) (fzL_cons (fz_sc _ _) fzL_nil))
  · refine imp (opP_of (show _ = some ((intA (a1.length : Int)), []) from rfl)) ?_
    refine imp ex_i64_b ?_
    refine cond_b (fun _ => ?_) (fun _ => ?_)
    · exact fun hg => retN rfl (hR _ (Option.some.inj hg).symm) (fzL_cons (fz_nils (E := intE) _) (fzL_cons (fz_sc _ _) fzL_nil))
    · refine imp (opP_of (show _ = some ((intA (a0.length : Int)), []) from rfl)) ?_
      refine imp ex_i64_b ?_
      exact fun hg => L27_0_ok n a1 (0) a0 (a0.length : Int) R  hR n _ hg (weak_mem [(90000, 89500)] rfl rfl rfl (okW_cons (ent_lst (E := TSlot.E) _ false) (okW_cons (.inl (leV_refl _)) (okW_cons (.inl (leV_refl _)) (okW_cons ent_nils_own (okW_cons (ent_lst (E := TSlotDemand.E) _ false) (okW_cons (.inl (leV_refl _)) (okW_cons (.inl (leV_refl _)) okW_nil))))))) (okB_cons okB_nil okB_nil'))
theorem sg27 {n : Nat} {a0 : List TSlotDemand} {a1 : List TSlot} {t : ρ27} (h : g27 n a0 a1 = some t) : Says Try.prog KK.gl 27 [(lstA TSlotDemand.E a0), (lstA TSlot.E a1)] ((AV.tup [(lstA intE t.1), (intA t.2)])) :=
  says_of_own (by first | rfl | simp [cleans, clean, encs_clean, En.cln]) (by first | rfl | simp [cleans, clean, encs_clean, En.cln]) (F27_own (lstA TSlotDemand.E a0) (lstA TSlot.E a1) _ (g27_ok n a0 a1 (Ans ((AV.tup [(lstA intE t.1), (intA t.2)]))) (fun r e u m h => by rw [e]; exact h) h))
end Go.Proofs.Ytfhcciepaangiaa
