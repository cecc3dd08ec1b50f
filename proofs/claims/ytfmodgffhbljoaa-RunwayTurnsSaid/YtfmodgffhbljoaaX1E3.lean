/- Plain functional programs out of the program's functions, with proofs that the functions compute them; printed by wip/Ext.lean.txt. -/
import Derived.Test.YtfmodgffhbljoaaX1E2
set_option linter.unusedVariables false
set_option linter.unusedSimpArgs false
set_option maxRecDepth 100000
namespace Go.Proofs.Ytfmodgffhbljoaa
/- skyway/runway.Change -/
theorem g18_okM (n : Nat) (a0 : List TRunwayMove) (a1 : List TRunwaySpan) (a2 : Int) {t : ρ18} (R : AV → Mem → Prop) (hR : ∀ r : ρ18, t = r → ∀ u m, MadeT TRunwaySpan.E 45 r.1 [Value.int .i64 r.2] u m → R u m) : g18 n a0 a1 a2 = some t → F18 (lstA TRunwayMove.E a0) (lstA TRunwaySpan.E a1) a2 R := by
  unfold g18 F18
  refine bind_b fun x103 h103 => ?_
  refine imp (callQ_says (sg40 h103)) ?_
  refine imp ex_i64_b ?_
  refine cond_b (fun _ => ?_) (fun _ => ?_)
  · exact fun hg => hR _ (Option.some.inj hg).symm _ _ ⟨_, rfl, made_nils_pf⟩
  · refine bind_b fun x104 h104 => ?_
    refine imp (callQ_says (sg41 h104)) ?_
    refine imp ex_i64_b ?_
    refine cond_b (fun _ => ?_) (fun _ => ?_)
    · exact fun hg => hR _ (Option.some.inj hg).symm _ _ ⟨_, rfl, made_nils_pf⟩
    · refine imp (opP_of (show _ = some ((intA (a1.length : Int)), []) from rfl)) ?_
      refine imp ex_i64_b ?_
      refine bind_b fun x105 h105 => ?_
      refine imp (opP_of (show _ = some ((AV.ept [(intA x105.From), (intA x105.End)] 0), []) from (idx_lst (E := TRunwaySpan.E) rfl h105))) ?_
      refine imp (opP_of (show _ = some ((AV.agg [(intA x105.From), (intA x105.End)]), []) from rfl)) ?_
      refine imp exA2_b ?_
      refine imp ex_i64_b ?_
      refine imp ex_i64_b ?_
      refine imp (opP_of (show _ = some ((intA (a1.length : Int)), []) from rfl)) ?_
      refine imp ex_i64_b ?_
      refine cond_b (fun _ => ?_) (fun _ => ?_)
      · exact fun hg => hR _ (Option.some.inj hg).symm _ _ ⟨_, rfl, made_nils_pf⟩
      · refine bind_b fun x106 h106 => ?_
        refine imp (callQ_says (sg42 h106)) ?_
        refine imp exB_b ?_
        refine cond_b (fun _ => ?_) (fun _ => ?_)
        · exact fun hg => hR _ (Option.some.inj hg).symm _ _ ⟨_, rfl, made_nils_pf⟩
        · refine cond_b (fun _ => ?_) (fun _ => ?_)
          · exact fun hg => hR _ (Option.some.inj hg).symm _ _ ⟨_, rfl, made_nils_pf⟩
          · refine imp (opP_of (show _ = some ((intA (a0.length : Int)), []) from rfl)) ?_
            refine imp ex_i64_b ?_
            refine cond_b (fun _ => ?_) (fun _ => ?_)
            · refine imp (opP_of (show _ = some ((intA (a0.length : Int)), []) from rfl)) ?_
              refine imp ex_i64_b ?_
              refine bind_b fun x107 h107 => ?_
              refine imp (opP_of (show _ = some ((AV.ept [(intA x107.Time), (intA x107.Wake), (boolA x107.Departs), (intA x107.End)] 0), []) from (idx_lst (E := TRunwayMove.E) rfl h107))) ?_
              refine imp (opP_of (show _ = some ((AV.ept [(intA x107.Time), (intA x107.Wake), (boolA x107.Departs), (intA x107.End)] 0), []) from rfl)) ?_
              refine imp (opP_of (show _ = some ((intA x107.Time), []) from rfl)) ?_
              refine imp ex_i64_b ?_
              refine cond_b (fun _ => ?_) (fun _ => ?_)
              · exact fun hg => hR _ (Option.some.inj hg).symm _ _ ⟨_, rfl, made_nils_pf⟩
              · refine bind_b fun x108 h108 => ?_
                refine imp (callF_D [] (show PureD _ _ _ _ _ _ (ownV TRunwaySpan.E 240 a1) [(240, ownB TRunwaySpan.E 45 a1)] from cloneC43 h108)) ?_
                refine imp (opM_of (show _ = some ((intA x105.End), []) from (ldS_ptr (b := ⟨[(intA x105.From), (intA x105.End)], 45⟩) (by first | rfl | (rw [look'_mem (by first | rfl | simp [topId_blk] | simp [topId])]; first | rfl | (simp (disch := first | decide | assumption) only [mpushs_nil, mpushs_cons, mget_hd, mget_tl, mget_appW_o, mget_appW_n, mget_appW_e]))) rfl))) ?_
                refine imp ex_i64_b ?_
                refine imp (opM_of (show _ = some ((AV.agg [(intA a2), (intA (IntKind.wrap .i64 ((1) - x105.End)))]), []) from rfl)) ?_
                refine imp (opM_of (show _ = some ((blkV TRunwaySpan.E 246 ([(⟨a2, (IntKind.wrap .i64 ((1) - x105.End))⟩ : TRunwaySpan)] : List TRunwaySpan)), [(246, some ⟨encs TRunwaySpan.E ([(⟨a2, (IntKind.wrap .i64 ((1) - x105.End))⟩ : TRunwaySpan)] : List TRunwaySpan), 45⟩)]) from rfl)) ?_
                refine bind_b fun x110 h110 => ?_
                refine imp (opM_of (show _ = some ((ownV TRunwaySpan.E 247 (a1 ++ ([(⟨a2, (IntKind.wrap .i64 ((1) - x105.End))⟩ : TRunwaySpan)] : List TRunwaySpan))), (appW TRunwaySpan.E 247 240 45 a1 ([(⟨a2, (IntKind.wrap .i64 ((1) - x105.End))⟩ : TRunwaySpan)] : List TRunwaySpan))) from (app_own (E := TRunwaySpan.E) (l' := a1) (xs := ([(⟨a2, (IntKind.wrap .i64 ((1) - x105.End))⟩ : TRunwaySpan)] : List TRunwaySpan)) rfl rfl (cellsOf_blk (E := TRunwaySpan.E) (ty := 45) rfl rfl (by first | rfl | (rw [look'_mem (by first | rfl | simp [topId_blk] | simp [topId])]; first | rfl | (simp (disch := first | decide | assumption) only [mpushs_nil, mpushs_cons, mget_hd, mget_tl, mget_appW_o, mget_appW_n, mget_appW_e])))) (by first | assumption | simp) rfl (fun hne => look'_own hne rfl (by first | rfl | (simp (disch := first | decide | assumption) only [mpushs_nil, mpushs_cons, mget_hd, mget_tl, mget_appW_o, mget_appW_n, mget_appW_e]))) h110))) ?_
                refine imp (chk_of (by rcases (a1) with _ | ⟨_, _⟩ <;> kernel_rfl)) ?_
                exact fun hg => hR _ (Option.some.inj hg).symm _ _ ⟨_, rfl, (made_own_pf (E := TRunwaySpan.E) (ty := 45) (l := (a1 ++ ([(⟨a2, (IntKind.wrap .i64 ((1) - x105.End))⟩ : TRunwaySpan)] : List TRunwaySpan))) rfl (by first | rfl | (simp (disch := first | decide | assumption) only [mpushs_nil, mpushs_cons, mget_hd, mget_tl, mget_appW_o, mget_appW_n, mget_appW_e])))⟩
            · refine bind_b fun x111 h111 => ?_
              refine imp (callF_D [] (show PureD _ _ _ _ _ _ (ownV TRunwaySpan.E 230 a1) [(230, ownB TRunwaySpan.E 45 a1)] from cloneC43 h111)) ?_
              refine imp (opM_of (show _ = some ((intA x105.End), []) from (ldS_ptr (b := ⟨[(intA x105.From), (intA x105.End)], 45⟩) (by first | rfl | (rw [look'_mem (by first | rfl | simp [topId_blk] | simp [topId])]; first | rfl | (simp (disch := first | decide | assumption) only [mpushs_nil, mpushs_cons, mget_hd, mget_tl, mget_appW_o, mget_appW_n, mget_appW_e]))) rfl))) ?_
              refine imp ex_i64_b ?_
              refine imp (opM_of (show _ = some ((AV.agg [(intA a2), (intA (IntKind.wrap .i64 ((1) - x105.End)))]), []) from rfl)) ?_
              refine imp (opM_of (show _ = some ((blkV TRunwaySpan.E 236 ([(⟨a2, (IntKind.wrap .i64 ((1) - x105.End))⟩ : TRunwaySpan)] : List TRunwaySpan)), [(236, some ⟨encs TRunwaySpan.E ([(⟨a2, (IntKind.wrap .i64 ((1) - x105.End))⟩ : TRunwaySpan)] : List TRunwaySpan), 45⟩)]) from rfl)) ?_
              refine bind_b fun x113 h113 => ?_
              refine imp (opM_of (show _ = some ((ownV TRunwaySpan.E 237 (a1 ++ ([(⟨a2, (IntKind.wrap .i64 ((1) - x105.End))⟩ : TRunwaySpan)] : List TRunwaySpan))), (appW TRunwaySpan.E 237 230 45 a1 ([(⟨a2, (IntKind.wrap .i64 ((1) - x105.End))⟩ : TRunwaySpan)] : List TRunwaySpan))) from (app_own (E := TRunwaySpan.E) (l' := a1) (xs := ([(⟨a2, (IntKind.wrap .i64 ((1) - x105.End))⟩ : TRunwaySpan)] : List TRunwaySpan)) rfl rfl (cellsOf_blk (E := TRunwaySpan.E) (ty := 45) rfl rfl (by first | rfl | (rw [look'_mem (by first | rfl | simp [topId_blk] | simp [topId])]; first | rfl | (simp (disch := first | decide | assumption) only [mpushs_nil, mpushs_cons, mget_hd, mget_tl, mget_appW_o, mget_appW_n, mget_appW_e])))) (by first | assumption | simp) rfl (fun hne => look'_own hne rfl (by first | rfl | (simp (disch := first | decide | assumption) only [mpushs_nil, mpushs_cons, mget_hd, mget_tl, mget_appW_o, mget_appW_n, mget_appW_e]))) h113))) ?_
              refine imp (chk_of (by rcases (a1) with _ | ⟨_, _⟩ <;> kernel_rfl)) ?_
              exact fun hg => hR _ (Option.some.inj hg).symm _ _ ⟨_, rfl, (made_own_pf (E := TRunwaySpan.E) (ty := 45) (l := (a1 ++ ([(⟨a2, (IntKind.wrap .i64 ((1) - x105.End))⟩ : TRunwaySpan)] : List TRunwaySpan))) rfl (by first | rfl | (simp (disch := first | decide | assumption) only [mpushs_nil, mpushs_cons, mget_hd, mget_tl, mget_appW_o, mget_appW_n, mget_appW_e])))⟩
theorem mg18C {n k : Nat} {look : Nat → Option ABlk} {a0 : List TRunwayMove} {a1 : List TRunwaySpan} {a2 : Int} {t : ρ18} (h : g18 n a0 a1 a2 = some t) : PureD Try.prog KK.gl look k 18 [(lstA TRunwayMove.E a0), (lstA TRunwaySpan.E a1), (intA a2)] (.tup (ownV TRunwaySpan.E k t.1 :: ([Value.int .i64 t.2] : List Value).map AV.sc)) [(k, ownB TRunwaySpan.E 45 t.1)] :=
  made_tupC (by first | rfl | simp [cleans, clean, encs_clean, En.cln]) (F18_own (lstA TRunwayMove.E a0) (lstA TRunwaySpan.E a1) a2 _ (g18_okM n a0 a1 a2 (MadeT TRunwaySpan.E 45 t.1 [Value.int .i64 t.2]) (fun r e u m h => by rw [e]; exact h) h))
theorem mg18S {n k : Nat} {look : Nat → Option ABlk} {args : List AV} {a0 : List TRunwayMove} {a1 : List TRunwaySpan} {a2 : Int} {t : ρ18} (h : g18 n a0 a1 a2 = some t) (hs : SnL look 6 args [(lstA TRunwayMove.E a0), (lstA TRunwaySpan.E a1), (intA a2)]) : PureD Try.prog KK.gl look k 18 args (.tup (ownV TRunwaySpan.E k t.1 :: ([Value.int .i64 t.2] : List Value).map AV.sc)) [(k, ownB TRunwaySpan.E 45 t.1)] :=
  made_tupS (fun _ => rfl) hs (F18_own (lstA TRunwayMove.E a0) (lstA TRunwaySpan.E a1) a2 _ (g18_okM n a0 a1 a2 (MadeT TRunwaySpan.E 45 t.1 [Value.int .i64 t.2]) (fun r e u m h => by rw [e]; exact h) h))
/- skyway/runway.Direction -/
theorem g20_ok (n : Nat) (a0 : List TRunwaySpan) (a1 : Int) {t : ρ20} (R : AV → Mem → Prop) (hR : ∀ r : ρ20, t = r → ∀ u m, Ans ((AV.tup [(intA r.1), (intA r.2)])) u m → R u m) : g20 n a0 a1 = some t → F20 (lstA TRunwaySpan.E a0) a1 R := by
  unfold g20 F20
  refine bind_b fun x114 h114 => ?_
  refine imp (callQ_says (sg41 h114)) ?_
  refine imp ex_i64_b ?_
  refine cond_b (fun _ => ?_) (fun _ => ?_)
  · exact fun hg => retN rfl (hR _ (Option.some.inj hg).symm) (fzL_cons (fz_sc _ _) (fzL_cons (fz_sc _ _) fzL_nil))
  · refine bind_b fun x115 h115 => ?_
    refine imp (callQ_says (sg42 h115)) ?_
    refine imp exB_b ?_
    refine cond_b (fun _ => ?_) (fun _ => ?_)
    · exact fun hg => retN rfl (hR _ (Option.some.inj hg).symm) (fzL_cons (fz_sc _ _) (fzL_cons (fz_sc _ _) fzL_nil))
    · refine bind_b fun x116 h116 => ?_
      refine imp (callQ_says (sg44 h116)) ?_
      refine imp exT2_b ?_
      refine imp ex_i64_b ?_
      refine imp exB_b ?_
      refine cond_b (fun _ => ?_) (fun _ => ?_)
      · exact fun hg => retN rfl (hR _ (Option.some.inj hg).symm) (fzL_cons (fz_sc _ _) (fzL_cons (fz_sc _ _) fzL_nil))
      · exact fun hg => retN rfl (hR _ (Option.some.inj hg).symm) (fzL_cons (fz_sc _ _) (fzL_cons (fz_sc _ _) fzL_nil))
theorem sg20 {n : Nat} {a0 : List TRunwaySpan} {a1 : Int} {t : ρ20} (h : g20 n a0 a1 = some t) : Says Try.prog KK.gl 20 [(lstA TRunwaySpan.E a0), (intA a1)] ((AV.tup [(intA t.1), (intA t.2)])) :=
  says_of_own (by first | rfl | simp [cleans, clean, encs_clean, En.cln]) (by first | rfl | simp [cleans, clean, encs_clean, En.cln]) (F20_own (lstA TRunwaySpan.E a0) a1 _ (g20_ok n a0 a1 (Ans ((AV.tup [(intA t.1), (intA t.2)]))) (fun r e u m h => by rw [e]; exact h) h))
/- skyway/runway.Gap -/
theorem B39_0_ok (n : Nat) (c6 : Int) (c19_0 : Int) (c19_1 : Int) (c19_2 : Bool) (c19_3 : Int) (c19_4 : Int) (c19_5 : Int) (c19_6 : Bool) (c19_7 : Int) (k0_0 : Int) (k0_1 : Int) (k0_2 : Int) (k0_3 : Int) (k0_4 : Int) (k0_5 : Int) (k0_6 : Int) (k0_7 : Int) (k0_8 : Int) (k0_9 : Int) (k0_10 : Int) (k0_11 : Int) (k0_12 : Int) (k0_13 : Int) (k0_14 : Int) (k0_15 : Int) (v20 : Int) {t : (Int) ⊕ ρ39} (R : AV → Mem → Prop) (N0 : St → Prop) (hR : ∀ r : ρ39, t = (.inr r) → ∀ u m, Ans ((AV.tup [(intA r.1), (intA r.2)])) u m → R u m) (hN0 : ∀ y : Int, t = (.inl y) → ∀ s' : St, Weak KK 34 0 s' (h39_0 c6 c6 (AV.agg [(intA c19_0), (intA c19_1), (boolA c19_2), (intA c19_3), (intA c19_4), (intA c19_5), (boolA c19_6), (intA c19_7)]) y k0_0 k0_1 k0_2 k0_3 k0_4 k0_5 k0_6 k0_7 k0_8 k0_9 k0_10 k0_11 k0_12 k0_13 k0_14 k0_15 c19_0 c19_1 c19_2 c19_3 c19_4 c19_5 c19_6 c19_7 []) → N0 s') : S39_0 n c6 c19_0 c19_1 c19_2 c19_3 c19_4 c19_5 c19_6 c19_7 k0_0 k0_1 k0_2 k0_3 k0_4 k0_5 k0_6 k0_7 k0_8 k0_9 k0_10 k0_11 k0_12 k0_13 k0_14 k0_15 v20 = some t → B39_0 c6 c6 (AV.agg [(intA c19_0), (intA c19_1), (boolA c19_2), (intA c19_3), (intA c19_4), (intA c19_5), (boolA c19_6), (intA c19_7)]) v20 k0_0 k0_1 k0_2 k0_3 k0_4 k0_5 k0_6 k0_7 k0_8 k0_9 k0_10 k0_11 k0_12 k0_13 k0_14 k0_15 c19_0 c19_1 c19_2 c19_3 c19_4 c19_5 c19_6 c19_7 [] R N0 := by
  unfold S39_0 B39_0
  refine cond_b (fun _ => ?_) (fun _ => ?_)
  · refine bind_b fun x122 h122 => ?_
    refine imp (opP_of (show _ = some ((AV.agg [(intA x122.Time), (intA x122.Wake), (boolA x122.Departs), (intA x122.End)]), []) from (opA_index_agg (E := TRunwayMove.E) (l := ([(⟨c19_0, c19_1, c19_2, c19_3⟩ : TRunwayMove), (⟨c19_4, c19_5, c19_6, c19_7⟩ : TRunwayMove)] : List TRunwayMove)) (len := 2) (e := 52) (by kernel_rfl) (by kernel_rfl) (by kernel_rfl) rfl ⟨rfl, rfl⟩ h122))) ?_
    refine imp exA4_b ?_
    refine imp ex_i64_b ?_
    refine imp ex_i64_b ?_
    refine imp exB_b ?_
    refine imp ex_i64_b ?_
    refine imp (opN_of (show _ = some ((blkV TRunwayMove.E 100005 ([x122] : List TRunwayMove)), [(100005, some ⟨encs TRunwayMove.E ([x122] : List TRunwayMove), 52⟩)]) from rfl)) ?_
    refine bind_b fun x123 h123 => ?_
    refine imp (callQ_pure (pure_snapN (snL_cons (sn_blk (E := TRunwayMove.E) (ty := 52) (l' := ([x122] : List TRunwayMove)) _ TRunwayMove.nf rfl (by first | rfl | (simp (disch := first | decide | assumption) only [mpushs_nil, mpushs_cons, mget_hd, mget_tl, mget_appW_o, mget_appW_n, mget_appW_e]))) snL_nil) (sg40 h123) rfl)) ?_
    refine imp ex_i64_b ?_
    refine cond_b (fun _ => ?_) (fun _ => ?_)
    · exact fun hg => retN rfl (hR _ (Option.some.inj hg).symm) (fzL_cons (fz_sc _ _) (fzL_cons (fz_sc _ _) fzL_nil))
    · exact fun hg => hN0 _ (Option.some.inj hg).symm _ (weak_mem [(0, 0), (1, 1), (2, 2)] rfl rfl rfl (okW_cons (.inl (leV_refl _)) (okW_cons (.inl (leV_refl _)) (okW_cons (.inl (leV_refl _)) (okW_cons (.inl (leV_refl _)) (okW_cons (.inl (leV_refl _)) (okW_cons (.inl (leV_refl _)) (okW_cons (.inl (leV_refl _)) okW_nil))))))) (okB_cons (okB_cells (cs := [(intA k0_0), (intA k0_1), (intA k0_2), (intA k0_3), (intA k0_4), (intA k0_5), (intA k0_6), (intA k0_7), (intA k0_8), (intA k0_9), (intA k0_10), (intA k0_11), (intA k0_12), (intA k0_13), (intA k0_14), (intA k0_15)]) (ty := 24) rfl (show mget _ 0 = _ from (by first | rfl | (simp (disch := first | decide | assumption) only [mpushs_nil, mpushs_cons, mget_hd, mget_tl, mget_appW_o, mget_appW_n, mget_appW_e])))) (okB_cons (okB_cells (cs := [(intA c19_0), (intA c19_1), (boolA c19_2), (intA c19_3)]) (ty := 52) rfl (show mget _ 1 = _ from (by first | rfl | (simp (disch := first | decide | assumption) only [mpushs_nil, mpushs_cons, mget_hd, mget_tl, mget_appW_o, mget_appW_n, mget_appW_e])))) (okB_cons (okB_cells (cs := [(intA c19_4), (intA c19_5), (boolA c19_6), (intA c19_7)]) (ty := 52) rfl (show mget _ 2 = _ from (by first | rfl | (simp (disch := first | decide | assumption) only [mpushs_nil, mpushs_cons, mget_hd, mget_tl, mget_appW_o, mget_appW_n, mget_appW_e])))) okB_nil'))))
  · refine bind_b fun x124 h124 => ?_
    refine imp (callQ_says (sg45 h124)) ?_
    refine imp ex_i64_b ?_
    exact fun hg => retN rfl (hR _ (Option.some.inj hg).symm) (fzL_cons (fz_sc _ _) (fzL_cons (fz_sc _ _) fzL_nil))
theorem L39_0_ok (n : Nat) (c6 : Int) (c19_0 : Int) (c19_1 : Int) (c19_2 : Bool) (c19_3 : Int) (c19_4 : Int) (c19_5 : Int) (c19_6 : Bool) (c19_7 : Int) (k0_0 : Int) (k0_1 : Int) (k0_2 : Int) (k0_3 : Int) (k0_4 : Int) (k0_5 : Int) (k0_6 : Int) (k0_7 : Int) (k0_8 : Int) (k0_9 : Int) (k0_10 : Int) (k0_11 : Int) (k0_12 : Int) (k0_13 : Int) (k0_14 : Int) (k0_15 : Int) {t : ρ39} (R : AV → Mem → Prop) (hR : ∀ r : ρ39, t = r → ∀ u m, Ans ((AV.tup [(intA r.1), (intA r.2)])) u m → R u m) (k : Nat) (x : Int) (hx : iterO (fun y : Int => S39_0 n c6 c19_0 c19_1 c19_2 c19_3 c19_4 c19_5 c19_6 c19_7 k0_0 k0_1 k0_2 k0_3 k0_4 k0_5 k0_6 k0_7 k0_8 k0_9 k0_10 k0_11 k0_12 k0_13 k0_14 k0_15 y) k x = some t) {s : St} (hw : Weak KK 34 0 s (h39_0 c6 c6 (AV.agg [(intA c19_0), (intA c19_1), (boolA c19_2), (intA c19_3), (intA c19_4), (intA c19_5), (boolA c19_6), (intA c19_7)]) x k0_0 k0_1 k0_2 k0_3 k0_4 k0_5 k0_6 k0_7 k0_8 k0_9 k0_10 k0_11 k0_12 k0_13 k0_14 k0_15 c19_0 c19_1 c19_2 c19_3 c19_4 c19_5 c19_6 c19_7 [])) : Tri Try.prog KK 34 0 (.loop c39_0) s (q39_0 R ) :=
  L39_0 R  (σ := Nat × (Int)) (fun z => iterO (fun y : Int => S39_0 n c6 c19_0 c19_1 c19_2 c19_3 c19_4 c19_5 c19_6 c19_7 k0_0 k0_1 k0_2 k0_3 k0_4 k0_5 k0_6 k0_7 k0_8 k0_9 k0_10 k0_11 k0_12 k0_13 k0_14 k0_15 y) z.1 z.2 = some t) (fun z => c6) (fun z => c6) (fun z => (AV.agg [(intA c19_0), (intA c19_1), (boolA c19_2), (intA c19_3), (intA c19_4), (intA c19_5), (boolA c19_6), (intA c19_7)])) (fun z => z.2) (fun z => k0_0) (fun z => k0_1) (fun z => k0_2) (fun z => k0_3) (fun z => k0_4) (fun z => k0_5) (fun z => k0_6) (fun z => k0_7) (fun z => k0_8) (fun z => k0_9) (fun z => k0_10) (fun z => k0_11) (fun z => k0_12) (fun z => k0_13) (fun z => k0_14) (fun z => k0_15) (fun z => c19_0) (fun z => c19_1) (fun z => c19_2) (fun z => c19_3) (fun z => c19_4) (fun z => c19_5) (fun z => c19_6) (fun z => c19_7) (fun z => []) (fun z => z.1) (by
    rintro ⟨k, y⟩ h
    cases k with
    | zero => exact (iterO_zero h).elim
    | succ k =>
      obtain ⟨u, h1, h2, h3⟩ := iterO_elim h
      exact B39_0_ok n c6 c19_0 c19_1 c19_2 c19_3 c19_4 c19_5 c19_6 c19_7 k0_0 k0_1 k0_2 k0_3 k0_4 k0_5 k0_6 k0_7 k0_8 k0_9 k0_10 k0_11 k0_12 k0_13 k0_14 k0_15 y R  _ (fun r e => hR r (h3 _ e).symm)  (fun y' e s' hw => ⟨(k, y'), h2 _ e, Nat.lt_succ_self k, hw⟩) h1) (k, x) hx hw
theorem g39_ok (n : Nat) (a0 : TWakeTable) (a1 : TRunwayMove) (a2 : TRunwayMove) {t : ρ39} (R : AV → Mem → Prop) (hR : ∀ r : ρ39, t = r → ∀ u m, Ans ((AV.tup [(intA r.1), (intA r.2)])) u m → R u m) : g39 n a0 a1 a2 = some t → F39 a0.c0_0 a0.c0_1 a0.c0_2 a0.c0_3 a0.c1_0 a0.c1_1 a0.c1_2 a0.c1_3 a0.c2_0 a0.c2_1 a0.c2_2 a0.c2_3 a0.c3_0 a0.c3_1 a0.c3_2 a0.c3_3 a1.Time a1.Wake a1.Departs a1.End a2.Time a2.Wake a2.Departs a2.End R := by
  unfold g39 F39
  refine bind_b fun x121 h121 => ?_
  refine imp (callQ_says (sg36 h121)) ?_
  refine imp ex_i64_b ?_
  refine cond_b (fun _ => ?_) (fun _ => ?_)
  · exact fun hg => retN rfl (hR _ (Option.some.inj hg).symm) (fzL_cons (fz_sc _ _) (fzL_cons (fz_sc _ _) fzL_nil))
  · refine imp (opP_of (show _ = some ((AV.agg [(intA a1.Time), (intA a1.Wake), (boolA a1.Departs), (intA a1.End), (intA a2.Time), (intA a2.Wake), (boolA a2.Departs), (intA a2.End)]), []) from (by kernel_rfl))) ?_
    exact fun hg => L39_0_ok n (0) a1.Time a1.Wake a1.Departs a1.End a2.Time a2.Wake a2.Departs a2.End a0.c0_0 a0.c0_1 a0.c0_2 a0.c0_3 a0.c1_0 a0.c1_1 a0.c1_2 a0.c1_3 a0.c2_0 a0.c2_1 a0.c2_2 a0.c2_3 a0.c3_0 a0.c3_1 a0.c3_2 a0.c3_3 R  hR n _ hg (weak_mem [(0, 0), (1, 1), (2, 2)] rfl rfl rfl (okW_cons (.inl (leV_refl _)) (okW_cons (.inl (leV_refl _)) (okW_cons (.inl (leV_refl _)) (okW_cons (.inl (leV_refl _)) (okW_cons (.inl (leV_refl _)) (okW_cons (.inl (leV_refl _)) (okW_cons (.inl (leV_refl _)) okW_nil))))))) (okB_cons (okB_cells (cs := [(intA a0.c0_0), (intA a0.c0_1), (intA a0.c0_2), (intA a0.c0_3), (intA a0.c1_0), (intA a0.c1_1), (intA a0.c1_2), (intA a0.c1_3), (intA a0.c2_0), (intA a0.c2_1), (intA a0.c2_2), (intA a0.c2_3), (intA a0.c3_0), (intA a0.c3_1), (intA a0.c3_2), (intA a0.c3_3)]) (ty := 24) rfl (show mget _ 0 = _ from (by first | rfl | (simp (disch := first | decide | assumption) only [mpushs_nil, mpushs_cons, mget_hd, mget_tl, mget_appW_o, mget_appW_n, mget_appW_e])))) (okB_cons (okB_cells (cs := [(intA a1.Time), (intA a1.Wake), (boolA a1.Departs), (intA a1.End)]) (ty := 52) rfl (show mget _ 1 = _ from (by first | rfl | (simp (disch := first | decide | assumption) only [mpushs_nil, mpushs_cons, mget_hd, mget_tl, mget_appW_o, mget_appW_n, mget_appW_e])))) (okB_cons (okB_cells (cs := [(intA a2.Time), (intA a2.Wake), (boolA a2.Departs), (intA a2.End)]) (ty := 52) rfl (show mget _ 2 = _ from (by first | rfl | (simp (disch := first | decide | assumption) only [mpushs_nil, mpushs_cons, mget_hd, mget_tl, mget_appW_o, mget_appW_n, mget_appW_e])))) okB_nil'))))
theorem sg39 {n : Nat} {a0 : TWakeTable} {a1 : TRunwayMove} {a2 : TRunwayMove} {t : ρ39} (h : g39 n a0 a1 a2 = some t) : Says Try.prog KK.gl 39 [(AV.agg [(intA a0.c0_0), (intA a0.c0_1), (intA a0.c0_2), (intA a0.c0_3), (intA a0.c1_0), (intA a0.c1_1), (intA a0.c1_2), (intA a0.c1_3), (intA a0.c2_0), (intA a0.c2_1), (intA a0.c2_2), (intA a0.c2_3), (intA a0.c3_0), (intA a0.c3_1), (intA a0.c3_2), (intA a0.c3_3)]), (AV.agg [(intA a1.Time), (intA a1.Wake), (boolA a1.Departs), (intA a1.End)]), (AV.agg [(intA a2.Time), (intA a2.Wake), (boolA a2.Departs), (intA a2.End)])] ((AV.tup [(intA t.1), (intA t.2)])) :=
  says_of_own (by first | rfl | simp [cleans, clean, encs_clean, En.cln]) (by first | rfl | simp [cleans, clean, encs_clean, En.cln]) (F39_own a0.c0_0 a0.c0_1 a0.c0_2 a0.c0_3 a0.c1_0 a0.c1_1 a0.c1_2 a0.c1_3 a0.c2_0 a0.c2_1 a0.c2_2 a0.c2_3 a0.c3_0 a0.c3_1 a0.c3_2 a0.c3_3 a1.Time a1.Wake a1.Departs a1.End a2.Time a2.Wake a2.Departs a2.End _ (g39_ok n a0 a1 a2 (Ans ((AV.tup [(intA t.1), (intA t.2)]))) (fun r e u m h => by rw [e]; exact h) h))
/- skyway/skywaykeep3.runwayFact -/
theorem g17_ok (n : Nat) {t : ρ17} (R : AV → Mem → Prop) (hR : ∀ r : ρ17, t = r → ∀ u m, Ans ((boolA r)) u m → R u m) : g17 n  = some t → F17  R := by
  unfold g17 F17
  refine imp (opP_of (show _ = some ((AV.agg [(intA (100)), (intA (1)), (boolA false), (intA (0))]), []) from rfl)) ?_
  refine imp (opN_of (show _ = some ((blkV TRunwayMove.E 2 ([(⟨(100), (1), false, (0)⟩ : TRunwayMove)] : List TRunwayMove)), [(2, some ⟨encs TRunwayMove.E ([(⟨(100), (1), false, (0)⟩ : TRunwayMove)] : List TRunwayMove), 52⟩)]) from rfl)) ?_
  refine imp (opP_of (show _ = some ((AV.agg [(intA (0)), (intA (0))]), []) from rfl)) ?_
  refine imp (opN_of (show _ = some ((blkV TRunwaySpan.E 4 ([(⟨(0), (0)⟩ : TRunwaySpan)] : List TRunwaySpan)), [(4, some ⟨encs TRunwaySpan.E ([(⟨(0), (0)⟩ : TRunwaySpan)] : List TRunwaySpan), 45⟩)]) from rfl)) ?_
  refine bind_b fun x0 h0 => ?_
  refine imp (callQ_says (sg35 h0)) ?_
  refine imp exA16_b ?_
  refine imp ex_i64_b ?_
  refine imp ex_i64_b ?_
  refine imp ex_i64_b ?_
  refine imp ex_i64_b ?_
  refine imp ex_i64_b ?_
  refine imp ex_i64_b ?_
  refine imp ex_i64_b ?_
  refine imp ex_i64_b ?_
  refine imp ex_i64_b ?_
  refine imp ex_i64_b ?_
  refine imp ex_i64_b ?_
  refine imp ex_i64_b ?_
  refine imp ex_i64_b ?_
  refine imp ex_i64_b ?_
  refine imp ex_i64_b ?_
  refine imp ex_i64_b ?_
  refine imp (opP_of (show _ = some ((AV.agg [(intA (100)), (intA (1))]), []) from rfl)) ?_
  refine imp (opN_of (show _ = some ((blkV TRunwayReady.E 77 ([(⟨(100), (1)⟩ : TRunwayReady)] : List TRunwayReady)), [(77, some ⟨encs TRunwayReady.E ([(⟨(100), (1)⟩ : TRunwayReady)] : List TRunwayReady), 78⟩)]) from rfl)) ?_
  refine bind_b fun x68 h68 => ?_
  refine imp (callW_D (show PureD _ _ _ _ _ _ (AV.tup [(ownV TRunwayMove.E 78 x68.1), (intA x68.2)]) [(78, ownB TRunwayMove.E 52 x68.1)] from mg21S h68 (snL_cons (sn_blk (E := TRunwayMove.E) (ty := 52) (l' := ([(⟨(100), (1), false, (0)⟩ : TRunwayMove)] : List TRunwayMove)) _ TRunwayMove.nf rfl (by first | rfl | (simp (disch := first | decide | assumption) only [mpushs_nil, mpushs_cons, mget_hd, mget_tl, mget_appW_o, mget_appW_n, mget_appW_e]))) (snL_cons (sn_blk (E := TRunwaySpan.E) (ty := 45) (l' := ([(⟨(0), (0)⟩ : TRunwaySpan)] : List TRunwaySpan)) _ TRunwaySpan.nf rfl (by first | rfl | (simp (disch := first | decide | assumption) only [mpushs_nil, mpushs_cons, mget_hd, mget_tl, mget_appW_o, mget_appW_n, mget_appW_e]))) (snL_cons (sn_agg _ (snL_cons (sn_sc _ _) (snL_cons (sn_sc _ _) (snL_cons (sn_sc _ _) (snL_cons (sn_sc _ _) (snL_cons (sn_sc _ _) (snL_cons (sn_sc _ _) (snL_cons (sn_sc _ _) (snL_cons (sn_sc _ _) (snL_cons (sn_sc _ _) (snL_cons (sn_sc _ _) (snL_cons (sn_sc _ _) (snL_cons (sn_sc _ _) (snL_cons (sn_sc _ _) (snL_cons (sn_sc _ _) (snL_cons (sn_sc _ _) (snL_cons (sn_sc _ _) snL_nil))))))))))))))))) (snL_cons (sn_blk (E := TRunwayReady.E) (ty := 78) (l' := ([(⟨(100), (1)⟩ : TRunwayReady)] : List TRunwayReady)) _ TRunwayReady.nf rfl (by first | rfl | (simp (disch := first | decide | assumption) only [mpushs_nil, mpushs_cons, mget_hd, mget_tl, mget_appW_o, mget_appW_n, mget_appW_e]))) snL_nil)))))) ?_
  refine imp exT2_b ?_
  refine imp ex_i64_b ?_
  refine imp (opP_of (show _ = some ((AV.agg [(intA x0.c0_0), (intA x0.c0_1), (intA x0.c0_2), (intA x0.c0_3), (intA x0.c1_0), (intA x0.c1_1), (intA x0.c1_2), (intA x0.c1_3), (intA x0.c2_0), (intA x0.c2_1), (intA x0.c2_2), (intA x0.c2_3), (intA x0.c3_0), (intA x0.c3_1), (intA x0.c3_2), (intA x0.c3_3)]), []) from (ldA_ptr (b := ⟨[(intA x0.c0_0), (intA x0.c0_1), (intA x0.c0_2), (intA x0.c0_3), (intA x0.c1_0), (intA x0.c1_1), (intA x0.c1_2), (intA x0.c1_3), (intA x0.c2_0), (intA x0.c2_1), (intA x0.c2_2), (intA x0.c2_3), (intA x0.c3_0), (intA x0.c3_1), (intA x0.c3_2), (intA x0.c3_3)], 24⟩) (by first | rfl | (simp (disch := first | decide | assumption) only [mpushs_nil, mpushs_cons, mget_hd, mget_tl, mget_appW_o, mget_appW_n, mget_appW_e])) rfl))) ?_
  refine imp exA16_b ?_
  refine imp ex_i64_b ?_
  refine imp ex_i64_b ?_
  refine imp ex_i64_b ?_
  refine imp ex_i64_b ?_
  refine imp ex_i64_b ?_
  refine imp ex_i64_b ?_
  refine imp ex_i64_b ?_
  refine imp ex_i64_b ?_
  refine imp ex_i64_b ?_
  refine imp ex_i64_b ?_
  refine imp ex_i64_b ?_
  refine imp ex_i64_b ?_
  refine imp ex_i64_b ?_
  refine imp ex_i64_b ?_
  refine imp ex_i64_b ?_
  refine imp ex_i64_b ?_
  refine bind_b fun x90 h90 => ?_
  refine imp (callQ_pure (pure_snapN (snL_cons (sn_own (E := TRunwayMove.E) (ty := 52) (l' := x68.1) _ TRunwayMove.nf rfl (by first | rfl | (simp (disch := first | decide | assumption) only [mpushs_nil, mpushs_cons, mget_hd, mget_tl, mget_appW_o, mget_appW_n, mget_appW_e]))) (snL_cons (sn_blk (E := TRunwaySpan.E) (ty := 45) (l' := ([(⟨(0), (0)⟩ : TRunwaySpan)] : List TRunwaySpan)) _ TRunwaySpan.nf rfl (by first | rfl | (simp (disch := first | decide | assumption) only [mpushs_nil, mpushs_cons, mget_hd, mget_tl, mget_appW_o, mget_appW_n, mget_appW_e]))) (snL_cons (sn_agg _ (snL_cons (sn_sc _ _) (snL_cons (sn_sc _ _) (snL_cons (sn_sc _ _) (snL_cons (sn_sc _ _) (snL_cons (sn_sc _ _) (snL_cons (sn_sc _ _) (snL_cons (sn_sc _ _) (snL_cons (sn_sc _ _) (snL_cons (sn_sc _ _) (snL_cons (sn_sc _ _) (snL_cons (sn_sc _ _) (snL_cons (sn_sc _ _) (snL_cons (sn_sc _ _) (snL_cons (sn_sc _ _) (snL_cons (sn_sc _ _) (snL_cons (sn_sc _ _) snL_nil))))))))))))))))) snL_nil))) (sg19 h90) rfl)) ?_
  refine imp exT3_b ?_
  refine imp ex_i64_b ?_
  refine imp ex_i64_b ?_
  refine imp ex_i64_b ?_
  refine bind_b fun x102 h102 => ?_
  refine imp (callW_D (show PureD _ _ _ _ _ _ (AV.tup [(ownV TRunwaySpan.E 223 x102.1), (intA x102.2)]) [(223, ownB TRunwaySpan.E 45 x102.1)] from mg18S h102 (snL_cons (sn_own (E := TRunwayMove.E) (ty := 52) (l' := x68.1) _ TRunwayMove.nf rfl (by first | rfl | (simp (disch := first | decide | assumption) only [mpushs_nil, mpushs_cons, mget_hd, mget_tl, mget_appW_o, mget_appW_n, mget_appW_e]))) (snL_cons (sn_blk (E := TRunwaySpan.E) (ty := 45) (l' := ([(⟨(0), (0)⟩ : TRunwaySpan)] : List TRunwaySpan)) _ TRunwaySpan.nf rfl (by first | rfl | (simp (disch := first | decide | assumption) only [mpushs_nil, mpushs_cons, mget_hd, mget_tl, mget_appW_o, mget_appW_n, mget_appW_e]))) (snL_cons (sn_sc _ _) snL_nil))))) ?_
  refine imp exT2_b ?_
  refine imp ex_i64_b ?_
  refine bind_b fun x117 h117 => ?_
  refine imp (callQ_pure (pure_snapN (snL_cons (sn_own (E := TRunwaySpan.E) (ty := 45) (l' := x102.1) _ TRunwaySpan.nf rfl (by first | rfl | (simp (disch := first | decide | assumption) only [mpushs_nil, mpushs_cons, mget_hd, mget_tl, mget_appW_o, mget_appW_n, mget_appW_e]))) (snL_cons (sn_sc _ _) snL_nil)) (sg20 h117) rfl)) ?_
  refine imp exT2_b ?_
  refine imp ex_i64_b ?_
  refine imp ex_i64_b ?_
  refine bind_b fun x118 h118 => ?_
  refine imp (callQ_pure (pure_snapN (snL_cons (sn_own (E := TRunwaySpan.E) (ty := 45) (l' := x102.1) _ TRunwaySpan.nf rfl (by first | rfl | (simp (disch := first | decide | assumption) only [mpushs_nil, mpushs_cons, mget_hd, mget_tl, mget_appW_o, mget_appW_n, mget_appW_e]))) (snL_cons (sn_sc _ _) snL_nil)) (sg20 h118) rfl)) ?_
  refine imp exT2_b ?_
  refine imp ex_i64_b ?_
  refine imp ex_i64_b ?_
  refine imp (opP_of (show _ = some ((intA (x68.1.length : Int)), []) from len_own)) ?_
  refine imp ex_i64_b ?_
  refine cond_b (fun _ => ?_) (fun _ => ?_)
  · exact fun hg => ret1 (hR _ (Option.some.inj hg).symm) (fz_sc _ _)
  · refine imp (opP_of (show _ = some ((AV.agg [(intA x0.c0_0), (intA x0.c0_1), (intA x0.c0_2), (intA x0.c0_3), (intA x0.c1_0), (intA x0.c1_1), (intA x0.c1_2), (intA x0.c1_3), (intA x0.c2_0), (intA x0.c2_1), (intA x0.c2_2), (intA x0.c2_3), (intA x0.c3_0), (intA x0.c3_1), (intA x0.c3_2), (intA x0.c3_3)]), []) from (ldA_ptr (b := ⟨[(intA x0.c0_0), (intA x0.c0_1), (intA x0.c0_2), (intA x0.c0_3), (intA x0.c1_0), (intA x0.c1_1), (intA x0.c1_2), (intA x0.c1_3), (intA x0.c2_0), (intA x0.c2_1), (intA x0.c2_2), (intA x0.c2_3), (intA x0.c3_0), (intA x0.c3_1), (intA x0.c3_2), (intA x0.c3_3)], 24⟩) (by first | rfl | (simp (disch := first | decide | assumption) only [mpushs_nil, mpushs_cons, mget_hd, mget_tl, mget_appW_o, mget_appW_n, mget_appW_e])) rfl))) ?_
    refine imp exA16_b ?_
    refine imp ex_i64_b ?_
    refine imp ex_i64_b ?_
    refine imp ex_i64_b ?_
    refine imp ex_i64_b ?_
    refine imp ex_i64_b ?_
    refine imp ex_i64_b ?_
    refine imp ex_i64_b ?_
    refine imp ex_i64_b ?_
    refine imp ex_i64_b ?_
    refine imp ex_i64_b ?_
    refine imp ex_i64_b ?_
    refine imp ex_i64_b ?_
    refine imp ex_i64_b ?_
    refine imp ex_i64_b ?_
    refine imp ex_i64_b ?_
    refine imp ex_i64_b ?_
    refine bind_b fun x119 h119 => ?_
    refine imp (opP_of (show _ = some ((AV.ptr 78 ((((0) : Int).toNat) * 4 + 0)), []) from (idx_own (E := TRunwayMove.E) rfl h119))) ?_
    refine imp (opP_of (show _ = some ((AV.agg [(intA x119.Time), (intA x119.Wake), (boolA x119.Departs), (intA x119.End)]), []) from (ldA_blk (E := TRunwayMove.E) (l := x68.1) (ty := 52) rfl (own_some (ty := 52) (by first | rfl | (simp (disch := first | decide | assumption) only [mpushs_nil, mpushs_cons, mget_hd, mget_tl, mget_appW_o, mget_appW_n, mget_appW_e])) (getI_some h119).2) (getI_some h119).2 rfl))) ?_
    refine imp exA4_b ?_
    refine imp ex_i64_b ?_
    refine imp ex_i64_b ?_
    refine imp exB_b ?_
    refine imp ex_i64_b ?_
    refine bind_b fun x120 h120 => ?_
    refine imp (opP_of (show _ = some ((AV.ptr 78 ((((1) : Int).toNat) * 4 + 0)), []) from (idx_own (E := TRunwayMove.E) rfl h120))) ?_
    refine imp (opP_of (show _ = some ((AV.agg [(intA x120.Time), (intA x120.Wake), (boolA x120.Departs), (intA x120.End)]), []) from (ldA_blk (E := TRunwayMove.E) (l := x68.1) (ty := 52) rfl (own_some (ty := 52) (by first | rfl | (simp (disch := first | decide | assumption) only [mpushs_nil, mpushs_cons, mget_hd, mget_tl, mget_appW_o, mget_appW_n, mget_appW_e])) (getI_some h120).2) (getI_some h120).2 rfl))) ?_
    refine imp exA4_b ?_
    refine imp ex_i64_b ?_
    refine imp ex_i64_b ?_
    refine imp exB_b ?_
    refine imp ex_i64_b ?_
    refine bind_b fun x125 h125 => ?_
    refine imp (callQ_says (sg39 h125)) ?_
    refine imp exT2_b ?_
    refine imp ex_i64_b ?_
    refine imp ex_i64_b ?_
    refine bind_b fun x126 h126 => ?_
    refine imp (opM_of (show _ = some ((AV.ptr 2 ((((0) : Int).toNat) * 4 + 0)), []) from (idx_blk (E := TRunwayMove.E) rfl h126))) ?_
    refine imp (opM_of (show _ = some ((AV.agg [(intA x126.Time), (intA x126.Wake), (boolA x126.Departs), (intA x126.End)]), []) from (ldA_blk (E := TRunwayMove.E) (l := ([(⟨(100), (1), false, (0)⟩ : TRunwayMove)] : List TRunwayMove)) (ty := 52) rfl (by first | rfl | (rw [look'_mem (by first | rfl | simp [topId_blk] | simp [topId])]; first | rfl | (simp (disch := first | decide | assumption) only [mpushs_nil, mpushs_cons, mget_hd, mget_tl, mget_appW_o, mget_appW_n, mget_appW_e]))) (getI_some h126).2 rfl))) ?_
    refine imp exA4_b ?_
    refine imp ex_i64_b ?_
    refine imp ex_i64_b ?_
    refine imp exB_b ?_
    refine imp ex_i64_b ?_
    refine bind_b fun x127 h127 => ?_
    refine imp (opM_of (show _ = some ((AV.ptr 2 ((((0) : Int).toNat) * 4 + 0)), []) from (idx_blk (E := TRunwayMove.E) rfl h127))) ?_
    refine imp (opM_of (show _ = some ((AV.agg [(intA x127.Time), (intA x127.Wake), (boolA x127.Departs), (intA x127.End)]), []) from (ldA_blk (E := TRunwayMove.E) (l := ([(⟨(100), (1), false, (0)⟩ : TRunwayMove)] : List TRunwayMove)) (ty := 52) rfl (by first | rfl | (rw [look'_mem (by first | rfl | simp [topId_blk] | simp [topId])]; first | rfl | (simp (disch := first | decide | assumption) only [mpushs_nil, mpushs_cons, mget_hd, mget_tl, mget_appW_o, mget_appW_n, mget_appW_e]))) (getI_some h127).2 rfl))) ?_
    refine imp exA4_b ?_
    refine imp ex_i64_b ?_
    refine imp ex_i64_b ?_
    refine imp exB_b ?_
    refine imp ex_i64_b ?_
    refine imp (opM_of (show _ = some ((blkV TRunwayMove.E 454 ([x126, x127] : List TRunwayMove)), [(454, some ⟨encs TRunwayMove.E ([x126, x127] : List TRunwayMove), 52⟩)]) from rfl)) ?_
    refine imp (opM_of (show _ = some ((AV.agg [(intA x0.c0_0), (intA x0.c0_1), (intA x0.c0_2), (intA x0.c0_3), (intA x0.c1_0), (intA x0.c1_1), (intA x0.c1_2), (intA x0.c1_3), (intA x0.c2_0), (intA x0.c2_1), (intA x0.c2_2), (intA x0.c2_3), (intA x0.c3_0), (intA x0.c3_1), (intA x0.c3_2), (intA x0.c3_3)]), []) from (ldA_ptr (b := ⟨[(intA x0.c0_0), (intA x0.c0_1), (intA x0.c0_2), (intA x0.c0_3), (intA x0.c1_0), (intA x0.c1_1), (intA x0.c1_2), (intA x0.c1_3), (intA x0.c2_0), (intA x0.c2_1), (intA x0.c2_2), (intA x0.c2_3), (intA x0.c3_0), (intA x0.c3_1), (intA x0.c3_2), (intA x0.c3_3)], 24⟩) (by first | rfl | (rw [look'_mem (by first | rfl | simp [topId_blk] | simp [topId])]; first | rfl | (simp (disch := first | decide | assumption) only [mpushs_nil, mpushs_cons, mget_hd, mget_tl, mget_appW_o, mget_appW_n, mget_appW_e]))) rfl))) ?_
    refine imp exA16_b ?_
    refine imp ex_i64_b ?_
    refine imp ex_i64_b ?_
    refine imp ex_i64_b ?_
    refine imp ex_i64_b ?_
    refine imp ex_i64_b ?_
    refine imp ex_i64_b ?_
    refine imp ex_i64_b ?_
    refine imp ex_i64_b ?_
    refine imp ex_i64_b ?_
    refine imp ex_i64_b ?_
    refine imp ex_i64_b ?_
    refine imp ex_i64_b ?_
    refine imp ex_i64_b ?_
    refine imp ex_i64_b ?_
    refine imp ex_i64_b ?_
    refine imp ex_i64_b ?_
    refine bind_b fun x128 h128 => ?_
    refine imp (callF_pure [454, 4] (pure_snapN (snL_cons (sn_blk (E := TRunwayMove.E) (ty := 52) (l' := ([x126, x127] : List TRunwayMove)) _ TRunwayMove.nf rfl (by first | rfl | (simp (disch := first | decide | assumption) only [mpushs_nil, mpushs_cons, mget_hd, mget_tl, mget_appW_o, mget_appW_n, mget_appW_e]))) (snL_cons (sn_blk (E := TRunwaySpan.E) (ty := 45) (l' := ([(⟨(0), (0)⟩ : TRunwaySpan)] : List TRunwaySpan)) _ TRunwaySpan.nf rfl (by first | rfl | (simp (disch := first | decide | assumption) only [mpushs_nil, mpushs_cons, mget_hd, mget_tl, mget_appW_o, mget_appW_n, mget_appW_e]))) (snL_cons (sn_agg _ (snL_cons (sn_sc _ _) (snL_cons (sn_sc _ _) (snL_cons (sn_sc _ _) (snL_cons (sn_sc _ _) (snL_cons (sn_sc _ _) (snL_cons (sn_sc _ _) (snL_cons (sn_sc _ _) (snL_cons (sn_sc _ _) (snL_cons (sn_sc _ _) (snL_cons (sn_sc _ _) (snL_cons (sn_sc _ _) (snL_cons (sn_sc _ _) (snL_cons (sn_sc _ _) (snL_cons (sn_sc _ _) (snL_cons (sn_sc _ _) (snL_cons (sn_sc _ _) snL_nil))))))))))))))))) snL_nil))) (sg19 h128) rfl)) ?_
    refine imp exT3_b ?_
    refine imp ex_i64_b ?_
    refine imp ex_i64_b ?_
    refine imp ex_i64_b ?_
    refine imp (chk_of (by kernel_rfl)) ?_
    refine cond_b (fun _ => ?_) (fun _ => ?_)
    · refine cond_b (fun _ => ?_) (fun _ => ?_)
      · refine cond_b (fun _ => ?_) (fun _ => ?_)
        · refine cond_b (fun _ => ?_) (fun _ => ?_)
          · refine cond_b (fun _ => ?_) (fun _ => ?_)
            · refine cond_b (fun _ => ?_) (fun _ => ?_)
              · refine cond_b (fun _ => ?_) (fun _ => ?_)
                · refine cond_b (fun _ => ?_) (fun _ => ?_)
                  · refine cond_b (fun _ => ?_) (fun _ => ?_)
                    · refine cond_b (fun _ => ?_) (fun _ => ?_)
                      · refine cond_b (fun _ => ?_) (fun _ => ?_)
                        · refine bind_b fun x129 h129 => ?_
                          refine imp (opP_of (show _ = some ((AV.ptr 78 ((((1) : Int).toNat) * 4 + 0)), []) from (idx_own (E := TRunwayMove.E) rfl h129))) ?_
                          refine imp (opP_of (show _ = some ((AV.agg [(intA x129.Time), (intA x129.Wake), (boolA x129.Departs), (intA x129.End)]), []) from (ldA_blk (E := TRunwayMove.E) (l := x68.1) (ty := 52) rfl (own_some (ty := 52) (by first | rfl | (simp (disch := first | decide | assumption) only [mpushs_nil, mpushs_cons, mget_hd, mget_tl, mget_appW_o, mget_appW_n, mget_appW_e])) (getI_some h129).2) (getI_some h129).2 rfl))) ?_
                          refine imp exA4_b ?_
                          refine imp ex_i64_b ?_
                          refine imp ex_i64_b ?_
                          refine imp exB_b ?_
                          refine imp ex_i64_b ?_
                          refine imp (opP_of (show _ = some ((AV.agg [(intA (160)), (intA (1)), (boolA true), (intA (0))]), []) from rfl)) ?_
                          refine imp (opP_of (show _ = some ((boolA (decide (x129 = (⟨(160), (1), true, (0)⟩ : TRunwayMove)))), []) from (TRunwayMove.eql52 (x129) ((⟨(160), (1), true, (0)⟩ : TRunwayMove))))) ?_
                          refine imp exB_b ?_
                          refine cond_b (fun _ => ?_) (fun _ => ?_)
                          · refine imp (opP_of (show _ = some ((AV.agg [(intA (0)), (intA (0)), (boolA false), (intA (2))]), []) from rfl)) ?_
                            refine imp (opN_of (show _ = some ((blkV TRunwayMove.E 516 ([(⟨(0), (0), false, (2)⟩ : TRunwayMove)] : List TRunwayMove)), [(516, some ⟨encs TRunwayMove.E ([(⟨(0), (0), false, (2)⟩ : TRunwayMove)] : List TRunwayMove), 52⟩)]) from rfl)) ?_
                            refine bind_b fun x130 h130 => ?_
                            refine imp (callQ_pure (pure_snapN (snL_cons (sn_blk (E := TRunwayMove.E) (ty := 52) (l' := ([(⟨(0), (0), false, (2)⟩ : TRunwayMove)] : List TRunwayMove)) _ TRunwayMove.nf rfl (by first | rfl | (simp (disch := first | decide | assumption) only [mpushs_nil, mpushs_cons, mget_hd, mget_tl, mget_appW_o, mget_appW_n, mget_appW_e]))) snL_nil) (sg40 h130) rfl)) ?_
                            refine imp ex_i64_b ?_
                            refine cond_b (fun _ => ?_) (fun _ => ?_)
                            · refine bind_b fun x131 h131 => ?_
                              refine imp (callQ_saysL (rl_cons (leV_nils false) rl_nil) (sg41 h131)) ?_
                              refine imp ex_i64_b ?_
                              exact fun hg => ret1 (hR _ (Option.some.inj hg).symm) (fz_sc _ _)
                            · exact fun hg => ret1 (hR _ (Option.some.inj hg).symm) (fz_sc _ _)
                          · exact fun hg => ret1 (hR _ (Option.some.inj hg).symm) (fz_sc _ _)
                        · exact fun hg => ret1 (hR _ (Option.some.inj hg).symm) (fz_sc _ _)
                      · exact fun hg => ret1 (hR _ (Option.some.inj hg).symm) (fz_sc _ _)
                    · exact fun hg => ret1 (hR _ (Option.some.inj hg).symm) (fz_sc _ _)
                  · exact fun hg => ret1 (hR _ (Option.some.inj hg).symm) (fz_sc _ _)
                · exact fun hg => ret1 (hR _ (Option.some.inj hg).symm) (fz_sc _ _)
              · exact fun hg => ret1 (hR _ (Option.some.inj hg).symm) (fz_sc _ _)
            · exact fun hg => ret1 (hR _ (Option.some.inj hg).symm) (fz_sc _ _)
          · exact fun hg => ret1 (hR _ (Option.some.inj hg).symm) (fz_sc _ _)
        · exact fun hg => ret1 (hR _ (Option.some.inj hg).symm) (fz_sc _ _)
      · exact fun hg => ret1 (hR _ (Option.some.inj hg).symm) (fz_sc _ _)
    · exact fun hg => ret1 (hR _ (Option.some.inj hg).symm) (fz_sc _ _)
theorem sg17 {n : Nat} {t : ρ17} (h : g17 n  = some t) : Says Try.prog KK.gl 17 [] ((boolA t)) :=
  says_of_own (by first | rfl | simp [cleans, clean, encs_clean, En.cln]) (by first | rfl | simp [cleans, clean, encs_clean, En.cln]) (F17_own  _ (g17_ok n  (Ans ((boolA t))) (fun r e u m h => by rw [e]; exact h) h))
/- skyway/skywaykeep3.RunwayTurns -/
theorem g5_ok (n : Nat) (a0 : List TRunwayMove) (a1 : List TRunwaySpan) (a2 : TWakeTable) (a3 : Int) {t : ρ5} (R : AV → Mem → Prop) (hR : ∀ r : ρ5, t = r → ∀ u m, Ans ((boolA r)) u m → R u m) : g5 n a0 a1 a2 a3 = some t → F5 (lstA TRunwayMove.E a0) (lstA TRunwaySpan.E a1) a2.c0_0 a2.c0_1 a2.c0_2 a2.c0_3 a2.c1_0 a2.c1_1 a2.c1_2 a2.c1_3 a2.c2_0 a2.c2_1 a2.c2_2 a2.c2_3 a2.c3_0 a2.c3_1 a2.c3_2 a2.c3_3 a3 R := by
  unfold g5 F5
  refine bind_b fun x132 h132 => ?_
  refine imp (callQ_says (sg17 h132)) ?_
  refine imp exB_b ?_
  refine cond_b (fun _ => ?_) (fun _ => ?_)
  · exact fun hg => ret1 (hR _ (Option.some.inj hg).symm) (fz_sc _ _)
  · refine bind_b fun x133 h133 => ?_
    refine imp (callW_D (show PureD _ _ _ _ _ _ (AV.tup [(ownV TRunwaySpan.E 70 x133.1), (intA x133.2)]) [(70, ownB TRunwaySpan.E 45 x133.1)] from mg18C h133)) ?_
    refine imp exT2_b ?_
    refine imp ex_i64_b ?_
    refine cond_b (fun _ => ?_) (fun _ => ?_)
    · refine imp (opP_of (show _ = some ((intA (x133.1.length : Int)), []) from len_own)) ?_
      refine imp ex_i64_b ?_
      exact fun hg => ret1 (hR _ (Option.some.inj hg).symm) (fz_sc _ _)
    · refine imp (opP_of (show _ = some ((intA (a1.length : Int)), []) from rfl)) ?_
      refine imp ex_i64_b ?_
      refine cond_b (fun _ => ?_) (fun _ => ?_)
      · refine imp (opP_of (show _ = some ((intA (x133.1.length : Int)), []) from len_own)) ?_
        refine imp ex_i64_b ?_
        exact fun hg => ret1 (hR _ (Option.some.inj hg).symm) (fz_sc _ _)
      · refine imp (opP_of (show _ = some ((AV.agg [(intA a2.c0_0), (intA a2.c0_1), (intA a2.c0_2), (intA a2.c0_3), (intA a2.c1_0), (intA a2.c1_1), (intA a2.c1_2), (intA a2.c1_3), (intA a2.c2_0), (intA a2.c2_1), (intA a2.c2_2), (intA a2.c2_3), (intA a2.c3_0), (intA a2.c3_1), (intA a2.c3_2), (intA a2.c3_3)]), []) from (ldA_ptr (b := ⟨[(intA a2.c0_0), (intA a2.c0_1), (intA a2.c0_2), (intA a2.c0_3), (intA a2.c1_0), (intA a2.c1_1), (intA a2.c1_2), (intA a2.c1_3), (intA a2.c2_0), (intA a2.c2_1), (intA a2.c2_2), (intA a2.c2_3), (intA a2.c3_0), (intA a2.c3_1), (intA a2.c3_2), (intA a2.c3_3)], 24⟩) (by first | rfl | (simp (disch := first | decide | assumption) only [mpushs_nil, mpushs_cons, mget_hd, mget_tl, mget_appW_o, mget_appW_n, mget_appW_e])) rfl))) ?_
        refine imp exA16_b ?_
        refine imp ex_i64_b ?_
        refine imp ex_i64_b ?_
        refine imp ex_i64_b ?_
        refine imp ex_i64_b ?_
        refine imp ex_i64_b ?_
        refine imp ex_i64_b ?_
        refine imp ex_i64_b ?_
        refine imp ex_i64_b ?_
        refine imp ex_i64_b ?_
        refine imp ex_i64_b ?_
        refine imp ex_i64_b ?_
        refine imp ex_i64_b ?_
        refine imp ex_i64_b ?_
        refine imp ex_i64_b ?_
        refine imp ex_i64_b ?_
        refine imp ex_i64_b ?_
        refine bind_b fun x134 h134 => ?_
        refine imp (callQ_says (sg19 h134)) ?_
        refine imp exT3_b ?_
        refine imp ex_i64_b ?_
        refine imp ex_i64_b ?_
        refine imp ex_i64_b ?_
        refine imp (opP_of (show _ = some ((AV.agg [(intA a2.c0_0), (intA a2.c0_1), (intA a2.c0_2), (intA a2.c0_3), (intA a2.c1_0), (intA a2.c1_1), (intA a2.c1_2), (intA a2.c1_3), (intA a2.c2_0), (intA a2.c2_1), (intA a2.c2_2), (intA a2.c2_3), (intA a2.c3_0), (intA a2.c3_1), (intA a2.c3_2), (intA a2.c3_3)]), []) from (ldA_ptr (b := ⟨[(intA a2.c0_0), (intA a2.c0_1), (intA a2.c0_2), (intA a2.c0_3), (intA a2.c1_0), (intA a2.c1_1), (intA a2.c1_2), (intA a2.c1_3), (intA a2.c2_0), (intA a2.c2_1), (intA a2.c2_2), (intA a2.c2_3), (intA a2.c3_0), (intA a2.c3_1), (intA a2.c3_2), (intA a2.c3_3)], 24⟩) (by first | rfl | (simp (disch := first | decide | assumption) only [mpushs_nil, mpushs_cons, mget_hd, mget_tl, mget_appW_o, mget_appW_n, mget_appW_e])) rfl))) ?_
        refine imp exA16_b ?_
        refine imp ex_i64_b ?_
        refine imp ex_i64_b ?_
        refine imp ex_i64_b ?_
        refine imp ex_i64_b ?_
        refine imp ex_i64_b ?_
        refine imp ex_i64_b ?_
        refine imp ex_i64_b ?_
        refine imp ex_i64_b ?_
        refine imp ex_i64_b ?_
        refine imp ex_i64_b ?_
        refine imp ex_i64_b ?_
        refine imp ex_i64_b ?_
        refine imp ex_i64_b ?_
        refine imp ex_i64_b ?_
        refine imp ex_i64_b ?_
        refine imp ex_i64_b ?_
        refine bind_b fun x135 h135 => ?_
        refine imp (callQ_pure (pure_snapN (snL_cons (sn_lst (E := TRunwayMove.E) _ _ false) (snL_cons (sn_own (E := TRunwaySpan.E) (ty := 45) (l' := x133.1) _ TRunwaySpan.nf rfl (by first | rfl | (simp (disch := first | decide | assumption) only [mpushs_nil, mpushs_cons, mget_hd, mget_tl, mget_appW_o, mget_appW_n, mget_appW_e]))) (snL_cons (sn_agg _ (snL_cons (sn_sc _ _) (snL_cons (sn_sc _ _) (snL_cons (sn_sc _ _) (snL_cons (sn_sc _ _) (snL_cons (sn_sc _ _) (snL_cons (sn_sc _ _) (snL_cons (sn_sc _ _) (snL_cons (sn_sc _ _) (snL_cons (sn_sc _ _) (snL_cons (sn_sc _ _) (snL_cons (sn_sc _ _) (snL_cons (sn_sc _ _) (snL_cons (sn_sc _ _) (snL_cons (sn_sc _ _) (snL_cons (sn_sc _ _) (snL_cons (sn_sc _ _) snL_nil))))))))))))))))) snL_nil))) (sg19 h135) rfl)) ?_
        refine imp exT3_b ?_
        refine imp ex_i64_b ?_
        refine imp ex_i64_b ?_
        refine imp ex_i64_b ?_
        refine cond_b (fun _ => ?_) (fun _ => ?_)
        · exact fun hg => ret1 (hR _ (Option.some.inj hg).symm) (fz_sc _ _)
        · refine cond_b (fun _ => ?_) (fun _ => ?_)
          · exact fun hg => ret1 (hR _ (Option.some.inj hg).symm) (fz_sc _ _)
          · refine cond_b (fun _ => ?_) (fun _ => ?_)
            · exact fun hg => ret1 (hR _ (Option.some.inj hg).symm) (fz_sc _ _)
            · refine bind_b fun x136 h136 => ?_
              refine imp (callQ_pure (pure_snapN (snL_cons (sn_own (E := TRunwaySpan.E) (ty := 45) (l' := x133.1) _ TRunwaySpan.nf rfl (by first | rfl | (simp (disch := first | decide | assumption) only [mpushs_nil, mpushs_cons, mget_hd, mget_tl, mget_appW_o, mget_appW_n, mget_appW_e]))) (snL_cons (sn_sc _ _) snL_nil)) (sg20 h136) rfl)) ?_
              refine imp exT2_b ?_
              refine imp ex_i64_b ?_
              refine imp ex_i64_b ?_
              refine cond_b (fun _ => ?_) (fun _ => ?_)
              · exact fun hg => ret1 (hR _ (Option.some.inj hg).symm) (fz_sc _ _)
              · refine bind_b fun x137 h137 => ?_
                refine imp (callQ_pure (pure_snapN (snL_cons (sn_own (E := TRunwaySpan.E) (ty := 45) (l' := x133.1) _ TRunwaySpan.nf rfl (by first | rfl | (simp (disch := first | decide | assumption) only [mpushs_nil, mpushs_cons, mget_hd, mget_tl, mget_appW_o, mget_appW_n, mget_appW_e]))) (snL_cons (sn_sc _ _) snL_nil)) (sg20 h137) rfl)) ?_
                refine imp exT2_b ?_
                refine imp ex_i64_b ?_
                refine imp ex_i64_b ?_
                refine cond_b (fun _ => ?_) (fun _ => ?_)
                · refine cond_b (fun _ => ?_) (fun _ => ?_)
                  · refine imp (opP_of (show _ = some ((intA (a1.length : Int)), []) from rfl)) ?_
                    refine imp ex_i64_b ?_
                    refine bind_b fun x138 h138 => ?_
                    refine imp (opP_of (show _ = some ((AV.ept [(intA x138.From), (intA x138.End)] 0), []) from (idx_lst (E := TRunwaySpan.E) rfl h138))) ?_
                    refine imp (opP_of (show _ = some ((AV.ept [(intA x138.From), (intA x138.End)] 1), []) from rfl)) ?_
                    refine imp (opP_of (show _ = some ((intA x138.End), []) from rfl)) ?_
                    refine imp ex_i64_b ?_
                    exact fun hg => ret1 (hR _ (Option.some.inj hg).symm) (fz_sc _ _)
                  · exact fun hg => ret1 (hR _ (Option.some.inj hg).symm) (fz_sc _ _)
                · exact fun hg => ret1 (hR _ (Option.some.inj hg).symm) (fz_sc _ _)
theorem sg5 {n : Nat} {a0 : List TRunwayMove} {a1 : List TRunwaySpan} {a2 : TWakeTable} {a3 : Int} {t : ρ5} (h : g5 n a0 a1 a2 a3 = some t) : Says Try.prog KK.gl 5 [(lstA TRunwayMove.E a0), (lstA TRunwaySpan.E a1), (AV.agg [(intA a2.c0_0), (intA a2.c0_1), (intA a2.c0_2), (intA a2.c0_3), (intA a2.c1_0), (intA a2.c1_1), (intA a2.c1_2), (intA a2.c1_3), (intA a2.c2_0), (intA a2.c2_1), (intA a2.c2_2), (intA a2.c2_3), (intA a2.c3_0), (intA a2.c3_1), (intA a2.c3_2), (intA a2.c3_3)]), (intA a3)] ((boolA t)) :=
  says_of_own (by first | rfl | simp [cleans, clean, encs_clean, En.cln]) (by first | rfl | simp [cleans, clean, encs_clean, En.cln]) (F5_own (lstA TRunwayMove.E a0) (lstA TRunwaySpan.E a1) a2.c0_0 a2.c0_1 a2.c0_2 a2.c0_3 a2.c1_0 a2.c1_1 a2.c1_2 a2.c1_3 a2.c2_0 a2.c2_1 a2.c2_2 a2.c2_3 a2.c3_0 a2.c3_1 a2.c3_2 a2.c3_3 a3 _ (g5_ok n a0 a1 a2 a3 (Ans ((boolA t))) (fun r e u m h => by rw [e]; exact h) h))
/- skyway/skywaykeep3.sequenceFact -/
theorem ev28 : evalsTo Try.prog KF 300 28 = some true := by decide +kernel
theorem sg28 {n : Nat} {t : ρ28} (h : g28 n = some t) : Says Try.prog KK.gl 28 [] (boolA t) := by
  cases h
  exact says_of_evals (K := KF) fol (k := 300) ev28
/- skyway/chart.Name -/
theorem B62_0_ok (n : Nat) (c2 : Bool) (c14 : List UInt8) (c15 : Int) (v16 : Int) {t : (Int) ⊕ ρ62} (R : AV → Mem → Prop) (N0 : St → Prop) (hR : ∀ r : ρ62, t = (.inr r) → ∀ u m, Ans ((boolA r)) u m → R u m) (hN0 : ∀ y : Int, t = (.inl y) → ∀ s' : St, Weak KK 41 0 s' (h62_0 c2 (lstA byteE c14) c15 y []) → N0 s') : S62_0 n c2 c14 c15 v16 = some t → B62_0 c2 (lstA byteE c14) c15 v16 [] R N0 := by
  unfold S62_0 B62_0
  refine cond_b (fun _ => ?_) (fun _ => ?_)
  · refine bind_b fun x142 h142 => ?_
    refine imp (opP_of (show _ = some ((AV.ept [(AV.sc (.int .u8 (x142.toNat : Int)))] 0), []) from (idx_lst (E := byteE) rfl h142))) ?_
    refine imp (opP_of (show _ = some ((AV.sc (.int .u8 (x142.toNat : Int))), []) from rfl)) ?_
    refine imp ex_u8_b ?_
    refine cond_b (fun _ => ?_) (fun _ => ?_)
    · refine cond_b (fun _ => ?_) (fun _ => ?_)
      · exact fun hg => hN0 _ (Option.some.inj hg).symm _ (weak_mem [] rfl rfl rfl (okW_cons (.inl (leV_refl _)) (okW_cons (ent_lst (E := byteE) _ false) (okW_cons (.inl (leV_refl _)) (okW_cons (.inl (leV_refl _)) okW_nil)))) okB_nil')
      · refine cond_b (fun _ => ?_) (fun _ => ?_)
        · refine cond_b (fun _ => ?_) (fun _ => ?_)
          · refine cond_b (fun _ => ?_) (fun _ => ?_)
            · exact fun hg => ret1 (hR _ (Option.some.inj hg).symm) (fz_sc _ _)
            · exact fun hg => hN0 _ (Option.some.inj hg).symm _ (weak_mem [] rfl rfl rfl (okW_cons (.inl (leV_refl _)) (okW_cons (ent_lst (E := byteE) _ false) (okW_cons (.inl (leV_refl _)) (okW_cons (.inl (leV_refl _)) okW_nil)))) okB_nil')
          · exact fun hg => ret1 (hR _ (Option.some.inj hg).symm) (fz_sc _ _)
        · exact fun hg => ret1 (hR _ (Option.some.inj hg).symm) (fz_sc _ _)
    · refine cond_b (fun _ => ?_) (fun _ => ?_)
      · refine cond_b (fun _ => ?_) (fun _ => ?_)
        · refine cond_b (fun _ => ?_) (fun _ => ?_)
          · exact fun hg => ret1 (hR _ (Option.some.inj hg).symm) (fz_sc _ _)
          · exact fun hg => hN0 _ (Option.some.inj hg).symm _ (weak_mem [] rfl rfl rfl (okW_cons (.inl (leV_refl _)) (okW_cons (ent_lst (E := byteE) _ false) (okW_cons (.inl (leV_refl _)) (okW_cons (.inl (leV_refl _)) okW_nil)))) okB_nil')
        · exact fun hg => ret1 (hR _ (Option.some.inj hg).symm) (fz_sc _ _)
      · exact fun hg => ret1 (hR _ (Option.some.inj hg).symm) (fz_sc _ _)
  · exact fun hg => ret1 (hR _ (Option.some.inj hg).symm) (fz_sc _ _)
theorem L62_0_ok (n : Nat) (c2 : Bool) (c14 : List UInt8) (c15 : Int) {t : ρ62} (R : AV → Mem → Prop) (hR : ∀ r : ρ62, t = r → ∀ u m, Ans ((boolA r)) u m → R u m) (k : Nat) (x : Int) (hx : iterO (fun y : Int => S62_0 n c2 c14 c15 y) k x = some t) {s : St} (hw : Weak KK 41 0 s (h62_0 c2 (lstA byteE c14) c15 x [])) : Tri Try.prog KK 41 0 (.loop c62_0) s (q62_0 R ) :=
  L62_0 R  (σ := Nat × (Int)) (fun z => iterO (fun y : Int => S62_0 n c2 c14 c15 y) z.1 z.2 = some t) (fun z => c2) (fun z => (lstA byteE c14)) (fun z => c15) (fun z => z.2) (fun z => []) (fun z => z.1) (by
    rintro ⟨k, y⟩ h
    cases k with
    | zero => exact (iterO_zero h).elim
    | succ k =>
      obtain ⟨u, h1, h2, h3⟩ := iterO_elim h
      exact B62_0_ok n c2 c14 c15 y R  _ (fun r e => hR r (h3 _ e).symm)  (fun y' e s' hw => ⟨(k, y'), h2 _ e, Nat.lt_succ_self k, hw⟩) h1) (k, x) hx hw
theorem g62_ok (n : Nat) (a0 : ByteArray) {t : ρ62} (R : AV → Mem → Prop) (hR : ∀ r : ρ62, t = r → ∀ u m, Ans ((boolA r)) u m → R u m) : g62 n a0 = some t → F62 a0 R := by
  unfold g62 F62
  refine imp (opP_of (show _ = some ((intA (a0.size : Int)), []) from (by kernel_rfl))) ?_
  refine imp ex_i64_b ?_
  refine cond_b (fun _ => ?_) (fun _ => ?_)
  · exact fun hg => ret1 (hR _ (Option.some.inj hg).symm) (fz_sc _ _)
  · refine imp (opP_of (show _ = some ((intA (a0.size : Int)), []) from (by kernel_rfl))) ?_
    refine imp ex_i64_b ?_
    refine cond_b (fun _ => ?_) (fun _ => ?_)
    · exact fun hg => ret1 (hR _ (Option.some.inj hg).symm) (fz_sc _ _)
    · refine bind_b fun x141 h141 => ?_
      refine imp (opP_of (show _ = some ((lstA byteE (a0.data.toList)), []) from (opA_bytes (e := 5) (by kernel_rfl) (by kernel_rfl) (by kernel_rfl) h141))) ?_
      refine imp (opP_of (show _ = some ((intA ((a0.data.toList).length : Int)), []) from rfl)) ?_
      refine imp ex_i64_b ?_
      exact fun hg => L62_0_ok n false (a0.data.toList) ((a0.data.toList).length : Int) R  hR n _ hg (weak_mem [] rfl rfl rfl (okW_cons (.inl (leV_refl _)) (okW_cons (ent_lst (E := byteE) _ false) (okW_cons (.inl (leV_refl _)) (okW_cons (.inl (leV_refl _)) okW_nil)))) okB_nil')
theorem sg62 {n : Nat} {a0 : ByteArray} {t : ρ62} (h : g62 n a0 = some t) : Says Try.prog KK.gl 62 [(strA a0)] ((boolA t)) :=
  says_of_own (by first | rfl | simp [cleans, clean, encs_clean, En.cln]) (by first | rfl | simp [cleans, clean, encs_clean, En.cln]) (F62_own a0 _ (g62_ok n a0 (Ans ((boolA t))) (fun r e u m h => by rw [e]; exact h) h))
/- skyway/sequence.Check$1 -/
theorem g64_ok (n : Nat) (a0 : TSequenceArrival) (a1_0 : ByteArray) (a1_1 : Int) (a1_2 : Int) (a1_3 : Int) {t : ρ64} (R : AV → Mem → Prop) (hR : ∀ r : ρ64, t = r → ∀ u m, Ans ((boolA r)) u m → R u m) : g64 n a0 a1_0 a1_1 a1_2 a1_3 = some t → F64 a0.Call a0.Wake a0.Time a0.Latest (AV.ept [(strA a1_0), (intA a1_1), (intA a1_2), (intA a1_3)] 0) R := by
  unfold g64 F64
  refine imp (opP_of (show _ = some ((AV.ept [(strA a1_0), (intA a1_1), (intA a1_2), (intA a1_3)] 0), []) from rfl)) ?_
  refine imp (opP_of (show _ = some ((strA a1_0), []) from rfl)) ?_
  refine imp exStr_b ?_
  exact fun hg => ret1 (hR _ (Option.some.inj hg).symm) (fz_sc _ _)
theorem sg64 {n : Nat} {a0 : TSequenceArrival} {a1_0 : ByteArray} {a1_1 : Int} {a1_2 : Int} {a1_3 : Int} {t : ρ64} (h : g64 n a0 a1_0 a1_1 a1_2 a1_3 = some t) : Says Try.prog KK.gl 64 [(AV.agg [(strA a0.Call), (intA a0.Wake), (intA a0.Time), (intA a0.Latest)]), (AV.ept [(strA a1_0), (intA a1_1), (intA a1_2), (intA a1_3)] 0)] ((boolA t)) :=
  says_of_own (by first | rfl | simp [cleans, clean, encs_clean, En.cln]) (by first | rfl | simp [cleans, clean, encs_clean, En.cln]) (F64_own a0.Call a0.Wake a0.Time a0.Latest (AV.ept [(strA a1_0), (intA a1_1), (intA a1_2), (intA a1_3)] 0) _ (g64_ok n a0 a1_0 a1_1 a1_2 a1_3 (Ans ((boolA t))) (fun r e u m h => by rw [e]; exact h) h))
/- slices.IndexFunc[[]skyway/api.SequenceArrival,skyway/api.SequenceArrival] -/
theorem B71_0_ok (n : Nat) (a0 : List TSequenceArrival) (a1_0_0 : ByteArray) (a1_0_1 : Int) (a1_0_2 : Int) (a1_0_3 : Int) (c4 : Int) (c7 : Int) (v8 : Int) {t : (Int) ⊕ ρ71} (R : AV → Mem → Prop) (N0 : St → Prop) (hR : ∀ r : ρ71, t = (.inr r) → ∀ u m, Ans ((intA r)) u m → R u m) (hN0 : ∀ y : Int, t = (.inl y) → ∀ s' : St, Weak KK 19 0 s' (h71_0 (lstA TSequenceArrival.E a0) (AV.fn 64 [(AV.ept [(strA a1_0_0), (intA a1_0_1), (intA a1_0_2), (intA a1_0_3)] 0)]) c4 c7 y []) → N0 s') : S71_0 n a0 a1_0_0 a1_0_1 a1_0_2 a1_0_3 c4 c7 v8 = some t → B71_0 (lstA TSequenceArrival.E a0) (AV.fn 64 [(AV.ept [(strA a1_0_0), (intA a1_0_1), (intA a1_0_2), (intA a1_0_3)] 0)]) c4 c7 v8 [] R N0 := by
  unfold S71_0 B71_0
  refine cond_b (fun _ => ?_) (fun _ => ?_)
  · refine bind_b fun x146 h146 => ?_
    refine imp (opP_of (show _ = some ((AV.ept [(strA x146.Call), (intA x146.Wake), (intA x146.Time), (intA x146.Latest)] 0), []) from (idx_lst (E := TSequenceArrival.E) rfl h146))) ?_
    refine imp (opP_of (show _ = some ((AV.agg [(strA x146.Call), (intA x146.Wake), (intA x146.Time), (intA x146.Latest)]), []) from rfl)) ?_
    refine imp exA4_b ?_
    refine imp exStr_b ?_
    refine imp ex_i64_b ?_
    refine imp ex_i64_b ?_
    refine imp ex_i64_b ?_
    refine bind_b fun x147 h147 => ?_
    refine imp fnArgs_b ?_
    refine imp (cond_ff rfl) ?_
    refine imp (callW_says (sg64 h147)) ?_
    refine imp exB_b ?_
    refine cond_b (fun _ => ?_) (fun _ => ?_)
    · exact fun hg => ret1 (hR _ (Option.some.inj hg).symm) (fz_sc _ _)
    · exact fun hg => hN0 _ (Option.some.inj hg).symm _ (weak_mem [] rfl rfl rfl (okW_cons (ent_lst (E := TSequenceArrival.E) _ false) (okW_cons (ent_clean (leV_refl _) (by simp [clean, cleans, encs_clean])) (okW_cons (.inl (leV_refl _)) (okW_cons (.inl (leV_refl _)) (okW_cons (.inl (leV_refl _)) okW_nil))))) okB_nil')
  · exact fun hg => ret1 (hR _ (Option.some.inj hg).symm) (fz_sc _ _)
theorem L71_0_ok (n : Nat) (a0 : List TSequenceArrival) (a1_0_0 : ByteArray) (a1_0_1 : Int) (a1_0_2 : Int) (a1_0_3 : Int) (c4 : Int) (c7 : Int) {t : ρ71} (R : AV → Mem → Prop) (hR : ∀ r : ρ71, t = r → ∀ u m, Ans ((intA r)) u m → R u m) (k : Nat) (x : Int) (hx : iterO (fun y : Int => S71_0 n a0 a1_0_0 a1_0_1 a1_0_2 a1_0_3 c4 c7 y) k x = some t) {s : St} (hw : Weak KK 19 0 s (h71_0 (lstA TSequenceArrival.E a0) (AV.fn 64 [(AV.ept [(strA a1_0_0), (intA a1_0_1), (intA a1_0_2), (intA a1_0_3)] 0)]) c4 c7 x [])) : Tri Try.prog KK 19 0 (.loop c71_0) s (q71_0 R ) :=
  L71_0 R  (σ := Nat × (Int)) (fun z => iterO (fun y : Int => S71_0 n a0 a1_0_0 a1_0_1 a1_0_2 a1_0_3 c4 c7 y) z.1 z.2 = some t) (fun z => (lstA TSequenceArrival.E a0)) (fun z => (AV.fn 64 [(AV.ept [(strA a1_0_0), (intA a1_0_1), (intA a1_0_2), (intA a1_0_3)] 0)])) (fun z => c4) (fun z => c7) (fun z => z.2) (fun z => []) (fun z => z.1) (by
    rintro ⟨k, y⟩ h
    cases k with
    | zero => exact (iterO_zero h).elim
    | succ k =>
      obtain ⟨u, h1, h2, h3⟩ := iterO_elim h
      exact B71_0_ok n a0 a1_0_0 a1_0_1 a1_0_2 a1_0_3 c4 c7 y R  _ (fun r e => hR r (h3 _ e).symm)  (fun y' e s' hw => ⟨(k, y'), h2 _ e, Nat.lt_succ_self k, hw⟩) h1) (k, x) hx hw
theorem g71_ok (n : Nat) (a0 : List TSequenceArrival) (a1_0_0 : ByteArray) (a1_0_1 : Int) (a1_0_2 : Int) (a1_0_3 : Int) {t : ρ71} (R : AV → Mem → Prop) (hR : ∀ r : ρ71, t = r → ∀ u m, Ans ((intA r)) u m → R u m) : g71 n a0 a1_0_0 a1_0_1 a1_0_2 a1_0_3 = some t → F71 (lstA TSequenceArrival.E a0) (AV.fn 64 [(AV.ept [(strA a1_0_0), (intA a1_0_1), (intA a1_0_2), (intA a1_0_3)] 0)]) R := by
  unfold g71 F71
  refine imp (opP_of (show _ = some ((intA (a0.length : Int)), []) from rfl)) ?_
  refine imp ex_i64_b ?_
  exact fun hg => L71_0_ok n a0 a1_0_0 a1_0_1 a1_0_2 a1_0_3 (0) (a0.length : Int) R  hR n _ hg (weak_mem [] rfl rfl rfl (okW_cons (ent_lst (E := TSequenceArrival.E) _ false) (okW_cons (ent_clean (leV_refl _) (by simp [clean, cleans, encs_clean])) (okW_cons (.inl (leV_refl _)) (okW_cons (.inl (leV_refl _)) (okW_cons (.inl (leV_refl _)) okW_nil))))) okB_nil')
theorem sg71 {n : Nat} {a0 : List TSequenceArrival} {a1_0_0 : ByteArray} {a1_0_1 : Int} {a1_0_2 : Int} {a1_0_3 : Int} {t : ρ71} (h : g71 n a0 a1_0_0 a1_0_1 a1_0_2 a1_0_3 = some t) : Says Try.prog KK.gl 71 [(lstA TSequenceArrival.E a0), (AV.fn 64 [(AV.ept [(strA a1_0_0), (intA a1_0_1), (intA a1_0_2), (intA a1_0_3)] 0)])] ((intA t)) :=
  says_of_own (by first | rfl | simp [cleans, clean, encs_clean, En.cln]) (by first | rfl | simp [cleans, clean, encs_clean, En.cln]) (F71_own (lstA TSequenceArrival.E a0) (AV.fn 64 [(AV.ept [(strA a1_0_0), (intA a1_0_1), (intA a1_0_2), (intA a1_0_3)] 0)]) _ (g71_ok n a0 a1_0_0 a1_0_1 a1_0_2 a1_0_3 (Ans ((intA t))) (fun r e u m h => by rw [e]; exact h) h))
/- slices.ContainsFunc[[]skyway/api.SequenceArrival,skyway/api.SequenceArrival] -/
theorem g63_ok (n : Nat) (a0 : List TSequenceArrival) (a1_0_0 : ByteArray) (a1_0_1 : Int) (a1_0_2 : Int) (a1_0_3 : Int) {t : ρ63} (R : AV → Mem → Prop) (hR : ∀ r : ρ63, t = r → ∀ u m, Ans ((boolA r)) u m → R u m) : g63 n a0 a1_0_0 a1_0_1 a1_0_2 a1_0_3 = some t → F63 (lstA TSequenceArrival.E a0) (AV.fn 64 [(AV.ept [(strA a1_0_0), (intA a1_0_1), (intA a1_0_2), (intA a1_0_3)] 0)]) R := by
  unfold g63 F63
  refine bind_b fun x148 h148 => ?_
  refine imp (callQ_says (sg71 h148)) ?_
  refine imp ex_i64_b ?_
  exact fun hg => ret1 (hR _ (Option.some.inj hg).symm) (fz_sc _ _)
theorem sg63 {n : Nat} {a0 : List TSequenceArrival} {a1_0_0 : ByteArray} {a1_0_1 : Int} {a1_0_2 : Int} {a1_0_3 : Int} {t : ρ63} (h : g63 n a0 a1_0_0 a1_0_1 a1_0_2 a1_0_3 = some t) : Says Try.prog KK.gl 63 [(lstA TSequenceArrival.E a0), (AV.fn 64 [(AV.ept [(strA a1_0_0), (intA a1_0_1), (intA a1_0_2), (intA a1_0_3)] 0)])] ((boolA t)) :=
  says_of_own (by first | rfl | simp [cleans, clean, encs_clean, En.cln]) (by first | rfl | simp [cleans, clean, encs_clean, En.cln]) (F63_own (lstA TSequenceArrival.E a0) (AV.fn 64 [(AV.ept [(strA a1_0_0), (intA a1_0_1), (intA a1_0_2), (intA a1_0_3)] 0)]) _ (g63_ok n a0 a1_0_0 a1_0_1 a1_0_2 a1_0_3 (Ans ((boolA t))) (fun r e u m h => by rw [e]; exact h) h))
/- skyway/sequence.Check -/
theorem B50_0_ok (n : Nat) (a0 : List TSequenceArrival) (c2 : Int) (c10 : Int) (v11 : Int) {t : (Int) ⊕ ρ50} (R : AV → Mem → Prop) (N0 : St → Prop) (hR : ∀ r : ρ50, t = (.inr r) → ∀ u m, Ans ((intA r)) u m → R u m) (hN0 : ∀ y : Int, t = (.inl y) → ∀ s' : St, Weak KK 49 0 s' (h50_0 (lstA TSequenceArrival.E a0) c2 (lstA TSequenceArrival.E a0) c10 y []) → N0 s') : S50_0 n a0 c2 c10 v11 = some t → B50_0 (lstA TSequenceArrival.E a0) c2 (lstA TSequenceArrival.E a0) c10 v11 [] R N0 := by
  unfold S50_0 B50_0
  refine cond_b (fun _ => ?_) (fun _ => ?_)
  · refine bind_b fun x140 h140 => ?_
    refine imp (opP_of (show _ = some ((AV.ept [(strA x140.Call), (intA x140.Wake), (intA x140.Time), (intA x140.Latest)] 0), []) from (idx_lst (E := TSequenceArrival.E) rfl h140))) ?_
    refine imp (opP_of (show _ = some ((AV.agg [(strA x140.Call), (intA x140.Wake), (intA x140.Time), (intA x140.Latest)]), []) from rfl)) ?_
    refine imp exA4_b ?_
    refine imp exStr_b ?_
    refine imp ex_i64_b ?_
    refine imp ex_i64_b ?_
    refine imp ex_i64_b ?_
    refine bind_b fun x143 h143 => ?_
    refine imp (callQ_says (sg62 h143)) ?_
    refine imp exB_b ?_
    refine cond_b (fun _ => ?_) (fun _ => ?_)
    · exact fun hg => ret1 (hR _ (Option.some.inj hg).symm) (fz_sc _ _)
    · refine bind_b fun x144 h144 => ?_
      refine imp (callQ_says (sg37 h144)) ?_
      refine imp ex_i64_b ?_
      refine cond_b (fun _ => ?_) (fun _ => ?_)
      · exact fun hg => ret1 (hR _ (Option.some.inj hg).symm) (fz_sc _ _)
      · refine cond_b (fun _ => ?_) (fun _ => ?_)
        · exact fun hg => ret1 (hR _ (Option.some.inj hg).symm) (fz_sc _ _)
        · refine cond_b (fun _ => ?_) (fun _ => ?_)
          · exact fun hg => ret1 (hR _ (Option.some.inj hg).symm) (fz_sc _ _)
          · refine cond_b (fun _ => ?_) (fun _ => ?_)
            · exact fun hg => ret1 (hR _ (Option.some.inj hg).symm) (fz_sc _ _)
            · refine bind_b fun x145 h145 => ?_
              refine imp (opP_of (show _ = some ((lstA TSequenceArrival.E x145), []) from (slc_hi (E := TSequenceArrival.E) (e := 69) (by kernel_rfl) (by kernel_rfl) rfl h145))) ?_
              refine bind_b fun x149 h149 => ?_
              refine imp (callQ_pure (pure_snapN (snL_cons (sn_lst (E := TSequenceArrival.E) _ _ false) (snL_cons (sn_fn _ _ (snL_cons (sn_ptr _ (ty := 69) (us := [(strA x140.Call), (intA x140.Wake), (intA x140.Time), (intA x140.Latest)]) (by first | rfl | (simp (disch := first | decide | assumption) only [mpushs_nil, mpushs_cons, mget_hd, mget_tl, mget_appW_o, mget_appW_n, mget_appW_e])) (snL_cons (sn_sc _ _) (snL_cons (sn_sc _ _) (snL_cons (sn_sc _ _) (snL_cons (sn_sc _ _) snL_nil))))) snL_nil)) snL_nil)) (sg63 h149) rfl)) ?_
              refine imp exB_b ?_
              refine cond_b (fun _ => ?_) (fun _ => ?_)
              · exact fun hg => ret1 (hR _ (Option.some.inj hg).symm) (fz_sc _ _)
              · exact fun hg => hN0 _ (Option.some.inj hg).symm _ (weak_mem [] rfl rfl rfl (okW_cons (ent_lst (E := TSequenceArrival.E) _ false) (okW_cons (.inl (leV_refl _)) (okW_cons (ent_lst (E := TSequenceArrival.E) _ false) (okW_cons (.inl (leV_refl _)) (okW_cons (.inl (leV_refl _)) okW_nil))))) okB_nil')
  · exact fun hg => ret1 (hR _ (Option.some.inj hg).symm) (fz_sc _ _)
theorem L50_0_ok (n : Nat) (a0 : List TSequenceArrival) (c2 : Int) (c10 : Int) {t : ρ50} (R : AV → Mem → Prop) (hR : ∀ r : ρ50, t = r → ∀ u m, Ans ((intA r)) u m → R u m) (k : Nat) (x : Int) (hx : iterO (fun y : Int => S50_0 n a0 c2 c10 y) k x = some t) {s : St} (hw : Weak KK 49 0 s (h50_0 (lstA TSequenceArrival.E a0) c2 (lstA TSequenceArrival.E a0) c10 x [])) : Tri Try.prog KK 49 0 (.loop c50_0) s (q50_0 R ) :=
  L50_0 R  (σ := Nat × (Int)) (fun z => iterO (fun y : Int => S50_0 n a0 c2 c10 y) z.1 z.2 = some t) (fun z => (lstA TSequenceArrival.E a0)) (fun z => c2) (fun z => (lstA TSequenceArrival.E a0)) (fun z => c10) (fun z => z.2) (fun z => []) (fun z => z.1) (by
    rintro ⟨k, y⟩ h
    cases k with
    | zero => exact (iterO_zero h).elim
    | succ k =>
      obtain ⟨u, h1, h2, h3⟩ := iterO_elim h
      exact B50_0_ok n a0 c2 c10 y R  _ (fun r e => hR r (h3 _ e).symm)  (fun y' e s' hw => ⟨(k, y'), h2 _ e, Nat.lt_succ_self k, hw⟩) h1) (k, x) hx hw
theorem g50_ok (n : Nat) (a0 : List TSequenceArrival) {t : ρ50} (R : AV → Mem → Prop) (hR : ∀ r : ρ50, t = r → ∀ u m, Ans ((intA r)) u m → R u m) : g50 n a0 = some t → F50 (lstA TSequenceArrival.E a0) R := by
  unfold g50 F50
  refine imp (opP_of (show _ = some ((intA (a0.length : Int)), []) from rfl)) ?_
  refine imp ex_i64_b ?_
  refine cond_b (fun _ => ?_) (fun _ => ?_)
  · exact fun hg => ret1 (hR _ (Option.some.inj hg).symm) (fz_sc _ _)
  · refine imp (opP_of (show _ = some ((intA (a0.length : Int)), []) from rfl)) ?_
    refine imp ex_i64_b ?_
    exact fun hg => L50_0_ok n a0 (0) (a0.length : Int) R  hR n _ hg (weak_mem [] rfl rfl rfl (okW_cons (ent_lst (E := TSequenceArrival.E) _ false) (okW_cons (.inl (leV_refl _)) (okW_cons (ent_lst (E := TSequenceArrival.E) _ false) (okW_cons (.inl (leV_refl _)) (okW_cons (.inl (leV_refl _)) okW_nil))))) okB_nil')
theorem sg50 {n : Nat} {a0 : List TSequenceArrival} {t : ρ50} (h : g50 n a0 = some t) : Says Try.prog KK.gl 50 [(lstA TSequenceArrival.E a0)] ((intA t)) :=
  says_of_own (by first | rfl | simp [cleans, clean, encs_clean, En.cln]) (by first | rfl | simp [cleans, clean, encs_clean, En.cln]) (F50_own (lstA TSequenceArrival.E a0) _ (g50_ok n a0 (Ans ((intA t))) (fun r e u m h => by rw [e]; exact h) h))
/- skyway/sequence.isOrder -/
theorem B55_0_ok (n : Nat) (a0 : List Int) (a1 : Int) (c4 : Bool) (c11 : Int) (v12 : Int) (L90000 : List Bool) {t : (Int × List Bool) ⊕ ρ55} (R : AV → Mem → Prop) (N0 : St → Prop) (hR : ∀ r : ρ55, t = (.inr r) → ∀ u m, Ans ((boolA r)) u m → R u m) (hN0 : ∀ y : Int × List Bool, t = (.inl y) → ∀ s' : St, Weak KK 37 0 s' (h55_0 (lstA intE a0) a1 c4 (blkV boolE 90000 y.2) (lstA intE a0) c11 y.1 [(90000, some ⟨encs boolE y.2, 4⟩)]) → N0 s') : S55_0 n a0 a1 c4 c11 v12 L90000 = some t → B55_0 (lstA intE a0) a1 c4 (blkV boolE 90000 L90000) (lstA intE a0) c11 v12 [(90000, some ⟨encs boolE L90000, 4⟩)] R N0 := by
  unfold S55_0 B55_0
  refine cond_b (fun _ => ?_) (fun _ => ?_)
  · refine bind_b fun x153 h153 => ?_
    refine imp (opP_of (show _ = some ((AV.ept [(intA x153)] 0), []) from (idx_lst (E := intE) rfl h153))) ?_
    refine imp (opP_of (show _ = some ((intA x153), []) from rfl)) ?_
    refine imp ex_i64_b ?_
    refine cond_b (fun _ => ?_) (fun _ => ?_)
    · exact fun hg => ret1 (hR _ (Option.some.inj hg).symm) (fz_sc _ _)
    · refine cond_b (fun _ => ?_) (fun _ => ?_)
      · exact fun hg => ret1 (hR _ (Option.some.inj hg).symm) (fz_sc _ _)
      · refine bind_b fun x154 h154 => ?_
        refine imp (opP_of (show _ = some ((AV.ptr 90000 (((x153 : Int).toNat) * 1 + 0)), []) from (idx_blk (E := boolE) rfl h154))) ?_
        refine imp (opP_of (show _ = some ((boolA x154), []) from (ldS_blk (E := boolE) (l := L90000) (ty := 4) (o := 0) (by first | rfl | (simp (disch := first | decide | assumption) only [mpushs_nil, mpushs_cons, mget_hd, mget_tl, mget_appW_o, mget_appW_n, mget_appW_e])) (getI_some h154).2 rfl (by decide) rfl))) ?_
        refine imp exB_b ?_
        refine cond_b (fun _ => ?_) (fun _ => ?_)
        · exact fun hg => ret1 (hR _ (Option.some.inj hg).symm) (fz_sc _ _)
        · refine bind_b fun x155 h155 => ?_
          refine imp (opP_of (show _ = some ((AV.ptr 90000 (((x153 : Int).toNat) * 1 + 0)), []) from (idx_blk (E := boolE) rfl h155))) ?_
          refine imp (storeW_el (E := boolE) (l := L90000) (i := ((x153 : Int).toNat)) (o := 0) (y := true) (ty := 4) (by kernel_rfl) (by kernel_rfl) rfl (by first | rfl | (simp (disch := first | decide | assumption) only [mpushs_nil, mpushs_cons, mget_hd, mget_tl, mget_appW_o, mget_appW_n, mget_appW_e])) (getI_some h155).2 rfl (by decide) rfl) ?_
          exact fun hg => hN0 _ (Option.some.inj hg).symm _ (weak_mem [(90000, 90000)] rfl rfl rfl (okW_cons (ent_lst (E := intE) _ false) (okW_cons (.inl (leV_refl _)) (okW_cons (.inl (leV_refl _)) (okW_cons (ent_blk (E := boolE) (id := 90000) (l' := (L90000.set ((x153 : Int).toNat) true)) (by first | rfl | omega | (simp; done) | (simp; omega)) rfl) (okW_cons (ent_lst (E := intE) _ false) (okW_cons (.inl (leV_refl _)) (okW_cons (.inl (leV_refl _)) okW_nil))))))) (okB_cons (okB_cells (cs := encs boolE (L90000.set ((x153 : Int).toNat) true)) (ty := 4) (encs_clean _) (show mget _ 90000 = _ from (by first | rfl | (simp (disch := first | decide | assumption) only [mpushs_nil, mpushs_cons, mget_hd, mget_tl, mget_appW_o, mget_appW_n, mget_appW_e])))) okB_nil'))
  · refine imp (opP_of (show _ = some ((intA (a0.length : Int)), []) from rfl)) ?_
    refine imp ex_i64_b ?_
    exact fun hg => ret1 (hR _ (Option.some.inj hg).symm) (fz_sc _ _)
theorem L55_0_ok (n : Nat) (a0 : List Int) (a1 : Int) (c4 : Bool) (c11 : Int) {t : ρ55} (R : AV → Mem → Prop) (hR : ∀ r : ρ55, t = r → ∀ u m, Ans ((boolA r)) u m → R u m) (k : Nat) (x : Int × List Bool) (hx : iterO (fun y : Int × List Bool => S55_0 n a0 a1 c4 c11 y.1 y.2) k x = some t) {s : St} (hw : Weak KK 37 0 s (h55_0 (lstA intE a0) a1 c4 (blkV boolE 90000 x.2) (lstA intE a0) c11 x.1 [(90000, some ⟨encs boolE x.2, 4⟩)])) : Tri Try.prog KK 37 0 (.loop c55_0) s (q55_0 R ) :=
  L55_0 R  (σ := Nat × (Int × List Bool)) (fun z => iterO (fun y : Int × List Bool => S55_0 n a0 a1 c4 c11 y.1 y.2) z.1 z.2 = some t) (fun z => (lstA intE a0)) (fun z => a1) (fun z => c4) (fun z => (blkV boolE 90000 z.2.2)) (fun z => (lstA intE a0)) (fun z => c11) (fun z => z.2.1) (fun z => [(90000, some ⟨encs boolE z.2.2, 4⟩)]) (fun z => z.1) (by
    rintro ⟨k, y⟩ h
    cases k with
    | zero => exact (iterO_zero h).elim
    | succ k =>
      obtain ⟨u, h1, h2, h3⟩ := iterO_elim h
      exact B55_0_ok n a0 a1 c4 c11 y.1 y.2 R  _ (fun r e => hR r (h3 _ e).symm)  (fun y' e s' hw => ⟨(k, y'), h2 _ e, Nat.lt_succ_self k, hw⟩) h1) (k, x) hx hw
theorem g55_ok (n : Nat) (a0 : List Int) (a1 : Int) {t : ρ55} (R : AV → Mem → Prop) (hR : ∀ r : ρ55, t = r → ∀ u m, Ans ((boolA r)) u m → R u m) : g55 n a0 a1 = some t → F55 (lstA intE a0) a1 R := by
  unfold g55 F55
  refine bind_b fun x152 h152 => ?_
  refine imp (opN_of (show _ = some ((blkV boolE 2 (List.replicate x152 false)), [(2, some ⟨encs boolE (List.replicate x152 false), 4⟩)]) from (mks_ok (E := boolE) (z := false) rfl rfl h152))) ?_
  refine imp (opP_of (show _ = some ((intA (a0.length : Int)), []) from rfl)) ?_
  refine imp ex_i64_b ?_
  exact fun hg => L55_0_ok n a0 a1 false (a0.length : Int) R  hR n _ hg (weak_mem [(90000, 2)] rfl rfl rfl (okW_cons (ent_lst (E := intE) _ false) (okW_cons (.inl (leV_refl _)) (okW_cons (.inl (leV_refl _)) (okW_cons (ent_blk (E := boolE) (id := 2) (l' := (List.replicate x152 false)) rfl rfl) (okW_cons (ent_lst (E := intE) _ false) (okW_cons (.inl (leV_refl _)) (okW_cons (.inl (leV_refl _)) okW_nil))))))) (okB_cons (okB_cells (cs := encs boolE (List.replicate x152 false)) (ty := 4) (encs_clean _) (show mget _ 2 = _ from (by first | rfl | (simp (disch := first | decide | assumption) only [mpushs_nil, mpushs_cons, mget_hd, mget_tl, mget_appW_o, mget_appW_n, mget_appW_e])))) okB_nil'))
theorem sg55 {n : Nat} {a0 : List Int} {a1 : Int} {t : ρ55} (h : g55 n a0 a1 = some t) : Says Try.prog KK.gl 55 [(lstA intE a0), (intA a1)] ((boolA t)) :=
  says_of_own (by first | rfl | simp [cleans, clean, encs_clean, En.cln]) (by first | rfl | simp [cleans, clean, encs_clean, En.cln]) (F55_own (lstA intE a0) a1 _ (g55_ok n a0 a1 (Ans ((boolA t))) (fun r e u m h => by rw [e]; exact h) h))
/- skyway/sequence.times -/
theorem B53_0_ok (n : Nat) (a0 : List TSequenceArrival) (a1 : List Int) (c7 : Bool) (c13 : Int) (k0_0 : Int) (k0_1 : Int) (k0_2 : Int) (k0_3 : Int) (k0_4 : Int) (k0_5 : Int) (k0_6 : Int) (k0_7 : Int) (k0_8 : Int) (k0_9 : Int) (k0_10 : Int) (k0_11 : Int) (k0_12 : Int) (k0_13 : Int) (k0_14 : Int) (k0_15 : Int) (v14 : Int) (L90000 : List Int) {t : (Int × List Int) ⊕ ρ53} (R : AV → Mem → Prop) (N0 : St → Prop) (hR : ∀ r : ρ53, t = (.inr r) → ∀ u m, Ans ((AV.tup [(lstA intE r.1), (boolA r.2)])) u m → R u m) (hN0 : ∀ y : Int × List Int, t = (.inl y) → ∀ s' : St, Weak KK 64 0 s' (h53_0 (lstA TSequenceArrival.E a0) (lstA intE a1) AV.nils c7 (ownV intE 90000 y.2) (lstA intE a1) c13 y.1 k0_0 k0_1 k0_2 k0_3 k0_4 k0_5 k0_6 k0_7 k0_8 k0_9 k0_10 k0_11 k0_12 k0_13 k0_14 k0_15 [(90000, ownB intE 3 y.2)]) → N0 s') : S53_0 n a0 a1 c7 c13 k0_0 k0_1 k0_2 k0_3 k0_4 k0_5 k0_6 k0_7 k0_8 k0_9 k0_10 k0_11 k0_12 k0_13 k0_14 k0_15 v14 L90000 = some t → B53_0 (lstA TSequenceArrival.E a0) (lstA intE a1) AV.nils c7 (ownV intE 90000 L90000) (lstA intE a1) c13 v14 k0_0 k0_1 k0_2 k0_3 k0_4 k0_5 k0_6 k0_7 k0_8 k0_9 k0_10 k0_11 k0_12 k0_13 k0_14 k0_15 [(90000, ownB intE 3 L90000)] R N0 := by
  unfold S53_0 B53_0
  refine cond_b (fun _ => ?_) (fun _ => ?_)
  · refine bind_b fun x157 h157 => ?_
    refine imp (opP_of (show _ = some ((AV.ept [(intA x157)] 0), []) from (idx_lst (E := intE) rfl h157))) ?_
    refine imp (opP_of (show _ = some ((intA x157), []) from rfl)) ?_
    refine imp ex_i64_b ?_
    refine bind_b fun x158 h158 => ?_
    refine imp (opP_of (show _ = some ((AV.ept [(strA x158.Call), (intA x158.Wake), (intA x158.Time), (intA x158.Latest)] 0), []) from (idx_lst (E := TSequenceArrival.E) rfl h158))) ?_
    refine imp (opP_of (show _ = some ((AV.ept [(strA x158.Call), (intA x158.Wake), (intA x158.Time), (intA x158.Latest)] 2), []) from rfl)) ?_
    refine imp (opP_of (show _ = some ((intA x158.Time), []) from rfl)) ?_
    refine imp ex_i64_b ?_
    refine cond_b (fun _ => ?_) (fun _ => ?_)
    · refine bind_b fun x159 h159 => ?_
      refine imp (opP_of (show _ = some ((AV.ptr 90000 ((((IntKind.wrap .i64 (v14 - (1))) : Int).toNat) * 1 + 0)), []) from (idx_own (E := intE) rfl h159))) ?_
      refine imp (opP_of (show _ = some ((intA x159), []) from (ldS_blk (E := intE) (l := L90000) (ty := 3) (o := 0) (own_some (ty := 3) (by first | rfl | (simp (disch := first | decide | assumption) only [mpushs_nil, mpushs_cons, mget_hd, mget_tl, mget_appW_o, mget_appW_n, mget_appW_e])) (getI_some h159).2) (getI_some h159).2 rfl (by decide) rfl))) ?_
      refine imp ex_i64_b ?_
      refine bind_b fun x160 h160 => ?_
      refine imp (opP_of (show _ = some ((AV.ept [(intA x160)] 0), []) from (idx_lst (E := intE) rfl h160))) ?_
      refine imp (opP_of (show _ = some ((intA x160), []) from rfl)) ?_
      refine imp ex_i64_b ?_
      refine bind_b fun x161 h161 => ?_
      refine imp (opP_of (show _ = some ((AV.ept [(strA x161.Call), (intA x161.Wake), (intA x161.Time), (intA x161.Latest)] 0), []) from (idx_lst (E := TSequenceArrival.E) rfl h161))) ?_
      refine imp (opP_of (show _ = some ((AV.ept [(strA x161.Call), (intA x161.Wake), (intA x161.Time), (intA x161.Latest)] 1), []) from rfl)) ?_
      refine imp (opP_of (show _ = some ((intA x161.Wake), []) from rfl)) ?_
      refine imp ex_i64_b ?_
      refine bind_b fun x162 h162 => ?_
      refine imp (opP_of (show _ = some ((AV.ept [(strA x162.Call), (intA x162.Wake), (intA x162.Time), (intA x162.Latest)] 0), []) from (idx_lst (E := TSequenceArrival.E) rfl h162))) ?_
      refine imp (opP_of (show _ = some ((AV.ept [(strA x162.Call), (intA x162.Wake), (intA x162.Time), (intA x162.Latest)] 1), []) from rfl)) ?_
      refine imp (opP_of (show _ = some ((intA x162.Wake), []) from rfl)) ?_
      refine imp ex_i64_b ?_
      refine bind_b fun x163 h163 => ?_
      refine imp (opP_of (show _ = some ((AV.ptr 0 (((x161.Wake : Int).toNat) * 4 + 0)), []) from (idxA_ok0 (l := ([(⟨k0_0, k0_1, k0_2, k0_3⟩ : T22), (⟨k0_4, k0_5, k0_6, k0_7⟩ : T22), (⟨k0_8, k0_9, k0_10, k0_11⟩ : T22), (⟨k0_12, k0_13, k0_14, k0_15⟩ : T22)] : List T22)) (len := 4) rfl h163))) ?_
      refine bind_b fun x164 h164 => ?_
      refine imp (opP_of (show _ = some ((AV.ptr 0 _), []) from (idxA_ok (l := ([x163.c0, x163.c1, x163.c2, x163.c3] : List Int)) (len := 4) rfl h164))) ?_
      refine imp (opP_of (show _ = some ((intA x164), []) from (ldS_row (E := T22.E) (E2 := intE) (l := ([(⟨k0_0, k0_1, k0_2, k0_3⟩ : T22), (⟨k0_4, k0_5, k0_6, k0_7⟩ : T22), (⟨k0_8, k0_9, k0_10, k0_11⟩ : T22), (⟨k0_12, k0_13, k0_14, k0_15⟩ : T22)] : List T22)) (l2 := ([x163.c0, x163.c1, x163.c2, x163.c3] : List Int)) (ty := 24) (by first | rfl | (simp (disch := first | decide | assumption) only [mpushs_nil, mpushs_cons, mget_hd, mget_tl, mget_appW_o, mget_appW_n, mget_appW_e])) (getI_some h163).2 rfl rfl (getI_some h164).2 rfl))) ?_
      refine imp ex_i64_b ?_
      refine imp (opP_of (show _ = some ((intA (if (IntKind.wrap .i64 (x159 + x164)) > x158.Time then (IntKind.wrap .i64 (x159 + x164)) else x158.Time)), []) from (by kernel_rfl))) ?_
      refine imp ex_i64_b ?_
      refine bind_b fun x165 h165 => ?_
      refine imp (opP_of (show _ = some ((AV.ept [(strA x165.Call), (intA x165.Wake), (intA x165.Time), (intA x165.Latest)] 0), []) from (idx_lst (E := TSequenceArrival.E) rfl h165))) ?_
      refine imp (opP_of (show _ = some ((AV.ept [(strA x165.Call), (intA x165.Wake), (intA x165.Time), (intA x165.Latest)] 3), []) from rfl)) ?_
      refine imp (opP_of (show _ = some ((intA x165.Latest), []) from rfl)) ?_
      refine imp ex_i64_b ?_
      refine cond_b (fun _ => ?_) (fun _ => ?_)
      · exact fun hg => retN rfl (hR _ (Option.some.inj hg).symm) (fzL_cons (fz_nils (E := intE) _) (fzL_cons (fz_sc _ _) fzL_nil))
      · refine imp (opN_of (show _ = some ((blkV intE 100049 ([(if (IntKind.wrap .i64 (x159 + x164)) > x158.Time then (IntKind.wrap .i64 (x159 + x164)) else x158.Time)] : List Int)), [(100049, some ⟨encs intE ([(if (IntKind.wrap .i64 (x159 + x164)) > x158.Time then (IntKind.wrap .i64 (x159 + x164)) else x158.Time)] : List Int), 3⟩)]) from rfl)) ?_
        refine bind_b fun x167 h167 => ?_
        refine imp (opN_of (show _ = some ((ownV intE 100050 (L90000 ++ ([(if (IntKind.wrap .i64 (x159 + x164)) > x158.Time then (IntKind.wrap .i64 (x159 + x164)) else x158.Time)] : List Int))), (appW intE 100050 90000 3 L90000 ([(if (IntKind.wrap .i64 (x159 + x164)) > x158.Time then (IntKind.wrap .i64 (x159 + x164)) else x158.Time)] : List Int))) from (app_own (E := intE) (l' := L90000) (xs := ([(if (IntKind.wrap .i64 (x159 + x164)) > x158.Time then (IntKind.wrap .i64 (x159 + x164)) else x158.Time)] : List Int)) rfl rfl (cellsOf_blk (E := intE) (ty := 3) rfl rfl (by first | rfl | (simp (disch := first | decide | assumption) only [mpushs_nil, mpushs_cons, mget_hd, mget_tl, mget_appW_o, mget_appW_n, mget_appW_e]))) (by first | assumption | simp) rfl (fun hne => Eq.trans (by first | rfl | (simp (disch := first | decide | assumption) only [mpushs_nil, mpushs_cons, mget_hd, mget_tl, mget_appW_o, mget_appW_n, mget_appW_e])) (ownB_ne hne)) h167))) ?_
        exact fun hg => hN0 _ (Option.some.inj hg).symm _ (weak_mem [(90000, 100050), (0, 0)] rfl rfl rfl (okW_cons (ent_lst (E := TSequenceArrival.E) _ false) (okW_cons (ent_lst (E := intE) _ false) (okW_cons (.inl (leV_refl _)) (okW_cons (.inl (leV_refl _)) (okW_cons (.inl (leV_refl _)) (okW_cons (ent_own (E := intE) (id := 100050) (l' := (L90000 ++ ([(if (IntKind.wrap .i64 (x159 + x164)) > x158.Time then (IntKind.wrap .i64 (x159 + x164)) else x158.Time)] : List Int))) rfl rfl) (okW_cons (ent_lst (E := intE) _ false) (okW_cons (.inl (leV_refl _)) (okW_cons (.inl (leV_refl _)) okW_nil))))))))) (okB_cons (okB_cells (cs := [(intA k0_0), (intA k0_1), (intA k0_2), (intA k0_3), (intA k0_4), (intA k0_5), (intA k0_6), (intA k0_7), (intA k0_8), (intA k0_9), (intA k0_10), (intA k0_11), (intA k0_12), (intA k0_13), (intA k0_14), (intA k0_15)]) (ty := 24) rfl (show mget _ 0 = _ from (by first | rfl | (simp (disch := first | decide | assumption) only [mpushs_nil, mpushs_cons, mget_hd, mget_tl, mget_appW_o, mget_appW_n, mget_appW_e])))) (okB_cons (okB_own (E := intE) (ty := 3) (l' := (L90000 ++ ([(if (IntKind.wrap .i64 (x159 + x164)) > x158.Time then (IntKind.wrap .i64 (x159 + x164)) else x158.Time)] : List Int))) rfl (show mget _ 100050 = _ from (by first | rfl | (simp (disch := first | decide | assumption) only [mpushs_nil, mpushs_cons, mget_hd, mget_tl, mget_appW_o, mget_appW_n, mget_appW_e])))) okB_nil')))
    · refine bind_b fun x168 h168 => ?_
      refine imp (opP_of (show _ = some ((AV.ept [(strA x168.Call), (intA x168.Wake), (intA x168.Time), (intA x168.Latest)] 0), []) from (idx_lst (E := TSequenceArrival.E) rfl h168))) ?_
      refine imp (opP_of (show _ = some ((AV.ept [(strA x168.Call), (intA x168.Wake), (intA x168.Time), (intA x168.Latest)] 3), []) from rfl)) ?_
      refine imp (opP_of (show _ = some ((intA x168.Latest), []) from rfl)) ?_
      refine imp ex_i64_b ?_
      refine cond_b (fun _ => ?_) (fun _ => ?_)
      · exact fun hg => retN rfl (hR _ (Option.some.inj hg).symm) (fzL_cons (fz_nils (E := intE) _) (fzL_cons (fz_sc _ _) fzL_nil))
      · refine imp (opN_of (show _ = some ((blkV intE 100023 ([x158.Time] : List Int)), [(100023, some ⟨encs intE ([x158.Time] : List Int), 3⟩)]) from rfl)) ?_
        refine bind_b fun x170 h170 => ?_
        refine imp (opN_of (show _ = some ((ownV intE 100024 (L90000 ++ ([x158.Time] : List Int))), (appW intE 100024 90000 3 L90000 ([x158.Time] : List Int))) from (app_own (E := intE) (l' := L90000) (xs := ([x158.Time] : List Int)) rfl rfl (cellsOf_blk (E := intE) (ty := 3) rfl rfl (by first | rfl | (simp (disch := first | decide | assumption) only [mpushs_nil, mpushs_cons, mget_hd, mget_tl, mget_appW_o, mget_appW_n, mget_appW_e]))) (by first | assumption | simp) rfl (fun hne => Eq.trans (by first | rfl | (simp (disch := first | decide | assumption) only [mpushs_nil, mpushs_cons, mget_hd, mget_tl, mget_appW_o, mget_appW_n, mget_appW_e])) (ownB_ne hne)) h170))) ?_
        exact fun hg => hN0 _ (Option.some.inj hg).symm _ (weak_mem [(90000, 100024), (0, 0)] rfl rfl rfl (okW_cons (ent_lst (E := TSequenceArrival.E) _ false) (okW_cons (ent_lst (E := intE) _ false) (okW_cons (.inl (leV_refl _)) (okW_cons (.inl (leV_refl _)) (okW_cons (.inl (leV_refl _)) (okW_cons (ent_own (E := intE) (id := 100024) (l' := (L90000 ++ ([x158.Time] : List Int))) rfl rfl) (okW_cons (ent_lst (E := intE) _ false) (okW_cons (.inl (leV_refl _)) (okW_cons (.inl (leV_refl _)) okW_nil))))))))) (okB_cons (okB_cells (cs := [(intA k0_0), (intA k0_1), (intA k0_2), (intA k0_3), (intA k0_4), (intA k0_5), (intA k0_6), (intA k0_7), (intA k0_8), (intA k0_9), (intA k0_10), (intA k0_11), (intA k0_12), (intA k0_13), (intA k0_14), (intA k0_15)]) (ty := 24) rfl (show mget _ 0 = _ from (by first | rfl | (simp (disch := first | decide | assumption) only [mpushs_nil, mpushs_cons, mget_hd, mget_tl, mget_appW_o, mget_appW_n, mget_appW_e])))) (okB_cons (okB_own (E := intE) (ty := 3) (l' := (L90000 ++ ([x158.Time] : List Int))) rfl (show mget _ 100024 = _ from (by first | rfl | (simp (disch := first | decide | assumption) only [mpushs_nil, mpushs_cons, mget_hd, mget_tl, mget_appW_o, mget_appW_n, mget_appW_e])))) okB_nil')))
  · exact fun hg => retN rfl (hR _ (Option.some.inj hg).symm) (fzL_cons (fz_own (E := intE) (ty := 3) (l' := L90000) _ rfl (by first | rfl | (simp (disch := first | decide | assumption) only [mpushs_nil, mpushs_cons, mget_hd, mget_tl, mget_appW_o, mget_appW_n, mget_appW_e]))) (fzL_cons (fz_sc _ _) fzL_nil))
theorem L53_0_ok (n : Nat) (a0 : List TSequenceArrival) (a1 : List Int) (c7 : Bool) (c13 : Int) (k0_0 : Int) (k0_1 : Int) (k0_2 : Int) (k0_3 : Int) (k0_4 : Int) (k0_5 : Int) (k0_6 : Int) (k0_7 : Int) (k0_8 : Int) (k0_9 : Int) (k0_10 : Int) (k0_11 : Int) (k0_12 : Int) (k0_13 : Int) (k0_14 : Int) (k0_15 : Int) {t : ρ53} (R : AV → Mem → Prop) (hR : ∀ r : ρ53, t = r → ∀ u m, Ans ((AV.tup [(lstA intE r.1), (boolA r.2)])) u m → R u m) (k : Nat) (x : Int × List Int) (hx : iterO (fun y : Int × List Int => S53_0 n a0 a1 c7 c13 k0_0 k0_1 k0_2 k0_3 k0_4 k0_5 k0_6 k0_7 k0_8 k0_9 k0_10 k0_11 k0_12 k0_13 k0_14 k0_15 y.1 y.2) k x = some t) {s : St} (hw : Weak KK 64 0 s (h53_0 (lstA TSequenceArrival.E a0) (lstA intE a1) AV.nils c7 (ownV intE 90000 x.2) (lstA intE a1) c13 x.1 k0_0 k0_1 k0_2 k0_3 k0_4 k0_5 k0_6 k0_7 k0_8 k0_9 k0_10 k0_11 k0_12 k0_13 k0_14 k0_15 [(90000, ownB intE 3 x.2)])) : Tri Try.prog KK 64 0 (.loop c53_0) s (q53_0 R ) :=
  L53_0 R  (σ := Nat × (Int × List Int)) (fun z => iterO (fun y : Int × List Int => S53_0 n a0 a1 c7 c13 k0_0 k0_1 k0_2 k0_3 k0_4 k0_5 k0_6 k0_7 k0_8 k0_9 k0_10 k0_11 k0_12 k0_13 k0_14 k0_15 y.1 y.2) z.1 z.2 = some t) (fun z => (lstA TSequenceArrival.E a0)) (fun z => (lstA intE a1)) (fun z => AV.nils) (fun z => c7) (fun z => (ownV intE 90000 z.2.2)) (fun z => (lstA intE a1)) (fun z => c13) (fun z => z.2.1) (fun z => k0_0) (fun z => k0_1) (fun z => k0_2) (fun z => k0_3) (fun z => k0_4) (fun z => k0_5) (fun z => k0_6) (fun z => k0_7) (fun z => k0_8) (fun z => k0_9) (fun z => k0_10) (fun z => k0_11) (fun z => k0_12) (fun z => k0_13) (fun z => k0_14) (fun z => k0_15) (fun z => [(90000, ownB intE 3 z.2.2)]) (fun z => z.1) (by
    rintro ⟨k, y⟩ h
    cases k with
    | zero => exact (iterO_zero h).elim
    | succ k =>
      obtain ⟨u, h1, h2, h3⟩ := iterO_elim h
      exact B53_0_ok n a0 a1 c7 c13 k0_0 k0_1 k0_2 k0_3 k0_4 k0_5 k0_6 k0_7 k0_8 k0_9 k0_10 k0_11 k0_12 k0_13 k0_14 k0_15 y.1 y.2 R  _ (fun r e => hR r (h3 _ e).symm)  (fun y' e s' hw => ⟨(k, y'), h2 _ e, Nat.lt_succ_self k, hw⟩) h1) (k, x) hx hw
theorem g53_ok (n : Nat) (a0 : List TSequenceArrival) (a1 : List Int) (a2 : TWakeTable) {t : ρ53} (R : AV → Mem → Prop) (hR : ∀ r : ρ53, t = r → ∀ u m, Ans ((AV.tup [(lstA intE r.1), (boolA r.2)])) u m → R u m) : g53 n a0 a1 a2 = some t → F53 (lstA TSequenceArrival.E a0) (lstA intE a1) a2.c0_0 a2.c0_1 a2.c0_2 a2.c0_3 a2.c1_0 a2.c1_1 a2.c1_2 a2.c1_3 a2.c2_0 a2.c2_1 a2.c2_2 a2.c2_3 a2.c3_0 a2.c3_1 a2.c3_2 a2.c3_3 R := by
  unfold g53 F53
  refine imp (opP_of (show _ = some ((intA (a1.length : Int)), []) from rfl)) ?_
  refine imp ex_i64_b ?_
  exact fun hg => L53_0_ok n a0 a1 false (a1.length : Int) a2.c0_0 a2.c0_1 a2.c0_2 a2.c0_3 a2.c1_0 a2.c1_1 a2.c1_2 a2.c1_3 a2.c2_0 a2.c2_1 a2.c2_2 a2.c2_3 a2.c3_0 a2.c3_1 a2.c3_2 a2.c3_3 R  hR n _ hg (weak_mem [(90000, 89500), (0, 0)] rfl rfl rfl (okW_cons (ent_lst (E := TSequenceArrival.E) _ false) (okW_cons (ent_lst (E := intE) _ false) (okW_cons (.inl (leV_refl _)) (okW_cons (.inl (leV_refl _)) (okW_cons (.inl (leV_refl _)) (okW_cons ent_nils_own (okW_cons (ent_lst (E := intE) _ false) (okW_cons (.inl (leV_refl _)) (okW_cons (.inl (leV_refl _)) okW_nil))))))))) (okB_cons (okB_cells (cs := [(intA a2.c0_0), (intA a2.c0_1), (intA a2.c0_2), (intA a2.c0_3), (intA a2.c1_0), (intA a2.c1_1), (intA a2.c1_2), (intA a2.c1_3), (intA a2.c2_0), (intA a2.c2_1), (intA a2.c2_2), (intA a2.c2_3), (intA a2.c3_0), (intA a2.c3_1), (intA a2.c3_2), (intA a2.c3_3)]) (ty := 24) rfl (show mget _ 0 = _ from (by first | rfl | (simp (disch := first | decide | assumption) only [mpushs_nil, mpushs_cons, mget_hd, mget_tl, mget_appW_o, mget_appW_n, mget_appW_e])))) (okB_cons okB_nil okB_nil')))
theorem sg53 {n : Nat} {a0 : List TSequenceArrival} {a1 : List Int} {a2 : TWakeTable} {t : ρ53} (h : g53 n a0 a1 a2 = some t) : Says Try.prog KK.gl 53 [(lstA TSequenceArrival.E a0), (lstA intE a1), (AV.agg [(intA a2.c0_0), (intA a2.c0_1), (intA a2.c0_2), (intA a2.c0_3), (intA a2.c1_0), (intA a2.c1_1), (intA a2.c1_2), (intA a2.c1_3), (intA a2.c2_0), (intA a2.c2_1), (intA a2.c2_2), (intA a2.c2_3), (intA a2.c3_0), (intA a2.c3_1), (intA a2.c3_2), (intA a2.c3_3)])] ((AV.tup [(lstA intE t.1), (boolA t.2)])) :=
  says_of_own (by first | rfl | simp [cleans, clean, encs_clean, En.cln]) (by first | rfl | simp [cleans, clean, encs_clean, En.cln]) (F53_own (lstA TSequenceArrival.E a0) (lstA intE a1) a2.c0_0 a2.c0_1 a2.c0_2 a2.c0_3 a2.c1_0 a2.c1_1 a2.c1_2 a2.c1_3 a2.c2_0 a2.c2_1 a2.c2_2 a2.c2_3 a2.c3_0 a2.c3_1 a2.c3_2 a2.c3_3 _ (g53_ok n a0 a1 a2 (Ans ((AV.tup [(lstA intE t.1), (boolA t.2)]))) (fun r e u m h => by rw [e]; exact h) h))
/- skyway/sequence.Times -/
theorem g32_ok (n : Nat) (a0 : List TSequenceArrival) (a1 : List Int) (a2 : TWakeTable) {t : ρ32} (R : AV → Mem → Prop) (hR : ∀ r : ρ32, t = r → ∀ u m, Ans ((AV.tup [(lstA intE r.1), (intA r.2)])) u m → R u m) : g32 n a0 a1 a2 = some t → F32 (lstA TSequenceArrival.E a0) (lstA intE a1) a2.c0_0 a2.c0_1 a2.c0_2 a2.c0_3 a2.c1_0 a2.c1_1 a2.c1_2 a2.c1_3 a2.c2_0 a2.c2_1 a2.c2_2 a2.c2_3 a2.c3_0 a2.c3_1 a2.c3_2 a2.c3_3 R := by
  unfold g32 F32
  refine bind_b fun x150 h150 => ?_
  refine imp (callQ_says (sg50 h150)) ?_
  refine imp ex_i64_b ?_
  refine cond_b (fun _ => ?_) (fun _ => ?_)
  · exact fun hg => retN rfl (hR _ (Option.some.inj hg).symm) (fzL_cons (fz_nils (E := intE) _) (fzL_cons (fz_sc _ _) fzL_nil))
  · refine bind_b fun x151 h151 => ?_
    refine imp (callQ_says (sg36 h151)) ?_
    refine imp ex_i64_b ?_
    refine cond_b (fun _ => ?_) (fun _ => ?_)
    · exact fun hg => retN rfl (hR _ (Option.some.inj hg).symm) (fzL_cons (fz_nils (E := intE) _) (fzL_cons (fz_sc _ _) fzL_nil))
    · refine imp (opP_of (show _ = some ((intA (a0.length : Int)), []) from rfl)) ?_
      refine imp ex_i64_b ?_
      refine bind_b fun x156 h156 => ?_
      refine imp (callQ_says (sg55 h156)) ?_
      refine imp exB_b ?_
      refine cond_b (fun _ => ?_) (fun _ => ?_)
      · exact fun hg => retN rfl (hR _ (Option.some.inj hg).symm) (fzL_cons (fz_nils (E := intE) _) (fzL_cons (fz_sc _ _) fzL_nil))
      · refine bind_b fun x171 h171 => ?_
        refine imp (callQ_says (sg53 h171)) ?_
        refine imp exT2_b ?_
        refine imp exB_b ?_
        refine cond_b (fun _ => ?_) (fun _ => ?_)
        · exact fun hg => retN rfl (hR _ (Option.some.inj hg).symm) (fzL_cons (fz_nils (E := intE) _) (fzL_cons (fz_sc _ _) fzL_nil))
        · exact fun hg => retN rfl (hR _ (Option.some.inj hg).symm) (fzL_cons (fz_lst (E := intE) _ _ false) (fzL_cons (fz_sc _ _) fzL_nil))
theorem sg32 {n : Nat} {a0 : List TSequenceArrival} {a1 : List Int} {a2 : TWakeTable} {t : ρ32} (h : g32 n a0 a1 a2 = some t) : Says Try.prog KK.gl 32 [(lstA TSequenceArrival.E a0), (lstA intE a1), (AV.agg [(intA a2.c0_0), (intA a2.c0_1), (intA a2.c0_2), (intA a2.c0_3), (intA a2.c1_0), (intA a2.c1_1), (intA a2.c1_2), (intA a2.c1_3), (intA a2.c2_0), (intA a2.c2_1), (intA a2.c2_2), (intA a2.c2_3), (intA a2.c3_0), (intA a2.c3_1), (intA a2.c3_2), (intA a2.c3_3)])] ((AV.tup [(lstA intE t.1), (intA t.2)])) :=
  says_of_own (by first | rfl | simp [cleans, clean, encs_clean, En.cln]) (by first | rfl | simp [cleans, clean, encs_clean, En.cln]) (F32_own (lstA TSequenceArrival.E a0) (lstA intE a1) a2.c0_0 a2.c0_1 a2.c0_2 a2.c0_3 a2.c1_0 a2.c1_1 a2.c1_2 a2.c1_3 a2.c2_0 a2.c2_1 a2.c2_2 a2.c2_3 a2.c3_0 a2.c3_1 a2.c3_2 a2.c3_3 _ (g32_ok n a0 a1 a2 (Ans ((AV.tup [(lstA intE t.1), (intA t.2)]))) (fun r e u m h => by rw [e]; exact h) h))
end Go.Proofs.Ytfmodgffhbljoaa
