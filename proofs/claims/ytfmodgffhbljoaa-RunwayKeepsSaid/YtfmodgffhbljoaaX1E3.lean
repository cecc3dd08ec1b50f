/- Plain functional programs out of the program's functions, with proofs that the functions compute them; printed by wip/Ext.lean.txt. -/
import Derived.Test.YtfmodgffhbljoaaX1E2
set_option linter.unusedVariables false
set_option linter.unusedSimpArgs false
set_option maxRecDepth 100000
namespace Go.Proofs.Ytfmodgffhbljoaa
/- skyway/runway.Change -/
theorem g18_ok (n : Nat) (a0 : List TRunwayMove) (a1 : List TRunwaySpan) (a2 : Int) {t : ρ18} (R : AV → Mem → Prop) (hR : ∀ r : ρ18, t = r → ∀ u m, Ans ((AV.tup [(lstA TRunwaySpan.E r.1), (intA r.2)])) u m → R u m) : g18 n a0 a1 a2 = some t → F18 (lstA TRunwayMove.E a0) (lstA TRunwaySpan.E a1) a2 R := by
  unfold g18 F18
  refine bind_b fun x72 h72 => ?_
  refine imp (callQ_says (sg40 h72)) ?_
  refine imp ex_i64_b ?_
  refine cond_b (fun _ => ?_) (fun _ => ?_)
  · exact fun hg => retN rfl (hR _ (Option.some.inj hg).symm) (fzL_cons (fz_nils (E := TRunwaySpan.E) _) (fzL_cons (fz_sc _ _) fzL_nil))
  · refine bind_b fun x73 h73 => ?_
    refine imp (callQ_says (sg41 h73)) ?_
    refine imp ex_i64_b ?_
    refine cond_b (fun _ => ?_) (fun _ => ?_)
    · exact fun hg => retN rfl (hR _ (Option.some.inj hg).symm) (fzL_cons (fz_nils (E := TRunwaySpan.E) _) (fzL_cons (fz_sc _ _) fzL_nil))
    · refine imp (opP_of (show _ = some ((intA (a1.length : Int)), []) from rfl)) ?_
      refine imp ex_i64_b ?_
      refine bind_b fun x74 h74 => ?_
      refine imp (opP_of (show _ = some ((AV.ept [(intA x74.From), (intA x74.End)] 0), []) from (idx_lst (E := TRunwaySpan.E) rfl h74))) ?_
      refine imp (opP_of (show _ = some ((AV.agg [(intA x74.From), (intA x74.End)]), []) from rfl)) ?_
      refine imp exA2_b ?_
      refine imp ex_i64_b ?_
      refine imp ex_i64_b ?_
      refine imp (opP_of (show _ = some ((intA (a1.length : Int)), []) from rfl)) ?_
      refine imp ex_i64_b ?_
      refine cond_b (fun _ => ?_) (fun _ => ?_)
      · exact fun hg => retN rfl (hR _ (Option.some.inj hg).symm) (fzL_cons (fz_nils (E := TRunwaySpan.E) _) (fzL_cons (fz_sc _ _) fzL_nil))
      · refine bind_b fun x75 h75 => ?_
        refine imp (callQ_says (sg42 h75)) ?_
        refine imp exB_b ?_
        refine cond_b (fun _ => ?_) (fun _ => ?_)
        · exact fun hg => retN rfl (hR _ (Option.some.inj hg).symm) (fzL_cons (fz_nils (E := TRunwaySpan.E) _) (fzL_cons (fz_sc _ _) fzL_nil))
        · refine cond_b (fun _ => ?_) (fun _ => ?_)
          · exact fun hg => retN rfl (hR _ (Option.some.inj hg).symm) (fzL_cons (fz_nils (E := TRunwaySpan.E) _) (fzL_cons (fz_sc _ _) fzL_nil))
          · refine imp (opP_of (show _ = some ((intA (a0.length : Int)), []) from rfl)) ?_
            refine imp ex_i64_b ?_
            refine cond_b (fun _ => ?_) (fun _ => ?_)
            · refine imp (opP_of (show _ = some ((intA (a0.length : Int)), []) from rfl)) ?_
              refine imp ex_i64_b ?_
              refine bind_b fun x76 h76 => ?_
              refine imp (opP_of (show _ = some ((AV.ept [(intA x76.Time), (intA x76.Wake), (boolA x76.Departs), (intA x76.End)] 0), []) from (idx_lst (E := TRunwayMove.E) rfl h76))) ?_
              refine imp (opP_of (show _ = some ((AV.ept [(intA x76.Time), (intA x76.Wake), (boolA x76.Departs), (intA x76.End)] 0), []) from rfl)) ?_
              refine imp (opP_of (show _ = some ((intA x76.Time), []) from rfl)) ?_
              refine imp ex_i64_b ?_
              refine cond_b (fun _ => ?_) (fun _ => ?_)
              · exact fun hg => retN rfl (hR _ (Option.some.inj hg).symm) (fzL_cons (fz_nils (E := TRunwaySpan.E) _) (fzL_cons (fz_sc _ _) fzL_nil))
              · refine bind_b fun x77 h77 => ?_
                refine imp (callF_D [] (show PureD _ _ _ _ _ _ (ownV TRunwaySpan.E 240 a1) [(240, ownB TRunwaySpan.E 45 a1)] from cloneC43 h77)) ?_
                refine imp (opM_of (show _ = some ((intA x74.End), []) from (ldS_ptr (b := ⟨[(intA x74.From), (intA x74.End)], 45⟩) (by first | rfl | (rw [look'_mem (by first | rfl | simp [topId_blk] | simp [topId])]; first | rfl | (simp (disch := first | decide | assumption) only [mpushs_nil, mpushs_cons, mget_hd, mget_tl, mget_appW_o, mget_appW_n, mget_appW_e]))) rfl))) ?_
                refine imp ex_i64_b ?_
                refine imp (opM_of (show _ = some ((AV.agg [(intA a2), (intA (IntKind.wrap .i64 ((1) - x74.End)))]), []) from rfl)) ?_
                refine imp (opM_of (show _ = some ((blkV TRunwaySpan.E 246 ([(⟨a2, (IntKind.wrap .i64 ((1) - x74.End))⟩ : TRunwaySpan)] : List TRunwaySpan)), [(246, some ⟨encs TRunwaySpan.E ([(⟨a2, (IntKind.wrap .i64 ((1) - x74.End))⟩ : TRunwaySpan)] : List TRunwaySpan), 45⟩)]) from rfl)) ?_
                refine bind_b fun x79 h79 => ?_
                refine imp (opM_of (show _ = some ((ownV TRunwaySpan.E 247 (a1 ++ ([(⟨a2, (IntKind.wrap .i64 ((1) - x74.End))⟩ : TRunwaySpan)] : List TRunwaySpan))), (appW TRunwaySpan.E 247 240 45 a1 ([(⟨a2, (IntKind.wrap .i64 ((1) - x74.End))⟩ : TRunwaySpan)] : List TRunwaySpan))) from (app_own (E := TRunwaySpan.E) (l' := a1) (xs := ([(⟨a2, (IntKind.wrap .i64 ((1) - x74.End))⟩ : TRunwaySpan)] : List TRunwaySpan)) rfl rfl (cellsOf_blk (E := TRunwaySpan.E) (ty := 45) rfl rfl (by first | rfl | (rw [look'_mem (by first | rfl | simp [topId_blk] | simp [topId])]; first | rfl | (simp (disch := first | decide | assumption) only [mpushs_nil, mpushs_cons, mget_hd, mget_tl, mget_appW_o, mget_appW_n, mget_appW_e])))) (by first | assumption | simp) rfl (fun hne => look'_own hne rfl (by first | rfl | (simp (disch := first | decide | assumption) only [mpushs_nil, mpushs_cons, mget_hd, mget_tl, mget_appW_o, mget_appW_n, mget_appW_e]))) h79))) ?_
                refine imp (chk_of (by rcases (a1) with _ | ⟨_, _⟩ <;> kernel_rfl)) ?_
                exact fun hg => retN rfl (hR _ (Option.some.inj hg).symm) (fzL_cons (fz_own (E := TRunwaySpan.E) (ty := 45) (l' := (a1 ++ ([(⟨a2, (IntKind.wrap .i64 ((1) - x74.End))⟩ : TRunwaySpan)] : List TRunwaySpan))) _ rfl (by first | rfl | (simp (disch := first | decide | assumption) only [mpushs_nil, mpushs_cons, mget_hd, mget_tl, mget_appW_o, mget_appW_n, mget_appW_e]))) (fzL_cons (fz_sc _ _) fzL_nil))
            · refine bind_b fun x80 h80 => ?_
              refine imp (callF_D [] (show PureD _ _ _ _ _ _ (ownV TRunwaySpan.E 230 a1) [(230, ownB TRunwaySpan.E 45 a1)] from cloneC43 h80)) ?_
              refine imp (opM_of (show _ = some ((intA x74.End), []) from (ldS_ptr (b := ⟨[(intA x74.From), (intA x74.End)], 45⟩) (by first | rfl | (rw [look'_mem (by first | rfl | simp [topId_blk] | simp [topId])]; first | rfl | (simp (disch := first | decide | assumption) only [mpushs_nil, mpushs_cons, mget_hd, mget_tl, mget_appW_o, mget_appW_n, mget_appW_e]))) rfl))) ?_
              refine imp ex_i64_b ?_
              refine imp (opM_of (show _ = some ((AV.agg [(intA a2), (intA (IntKind.wrap .i64 ((1) - x74.End)))]), []) from rfl)) ?_
              refine imp (opM_of (show _ = some ((blkV TRunwaySpan.E 236 ([(⟨a2, (IntKind.wrap .i64 ((1) - x74.End))⟩ : TRunwaySpan)] : List TRunwaySpan)), [(236, some ⟨encs TRunwaySpan.E ([(⟨a2, (IntKind.wrap .i64 ((1) - x74.End))⟩ : TRunwaySpan)] : List TRunwaySpan), 45⟩)]) from rfl)) ?_
              refine bind_b fun x82 h82 => ?_
              refine imp (opM_of (show _ = some ((ownV TRunwaySpan.E 237 (a1 ++ ([(⟨a2, (IntKind.wrap .i64 ((1) - x74.End))⟩ : TRunwaySpan)] : List TRunwaySpan))), (appW TRunwaySpan.E 237 230 45 a1 ([(⟨a2, (IntKind.wrap .i64 ((1) - x74.End))⟩ : TRunwaySpan)] : List TRunwaySpan))) from (app_own (E := TRunwaySpan.E) (l' := a1) (xs := ([(⟨a2, (IntKind.wrap .i64 ((1) - x74.End))⟩ : TRunwaySpan)] : List TRunwaySpan)) rfl rfl (cellsOf_blk (E := TRunwaySpan.E) (ty := 45) rfl rfl (by first | rfl | (rw [look'_mem (by first | rfl | simp [topId_blk] | simp [topId])]; first | rfl | (simp (disch := first | decide | assumption) only [mpushs_nil, mpushs_cons, mget_hd, mget_tl, mget_appW_o, mget_appW_n, mget_appW_e])))) (by first | assumption | simp) rfl (fun hne => look'_own hne rfl (by first | rfl | (simp (disch := first | decide | assumption) only [mpushs_nil, mpushs_cons, mget_hd, mget_tl, mget_appW_o, mget_appW_n, mget_appW_e]))) h82))) ?_
              refine imp (chk_of (by rcases (a1) with _ | ⟨_, _⟩ <;> kernel_rfl)) ?_
              exact fun hg => retN rfl (hR _ (Option.some.inj hg).symm) (fzL_cons (fz_own (E := TRunwaySpan.E) (ty := 45) (l' := (a1 ++ ([(⟨a2, (IntKind.wrap .i64 ((1) - x74.End))⟩ : TRunwaySpan)] : List TRunwaySpan))) _ rfl (by first | rfl | (simp (disch := first | decide | assumption) only [mpushs_nil, mpushs_cons, mget_hd, mget_tl, mget_appW_o, mget_appW_n, mget_appW_e]))) (fzL_cons (fz_sc _ _) fzL_nil))
theorem sg18 {n : Nat} {a0 : List TRunwayMove} {a1 : List TRunwaySpan} {a2 : Int} {t : ρ18} (h : g18 n a0 a1 a2 = some t) : Says Try.prog KK.gl 18 [(lstA TRunwayMove.E a0), (lstA TRunwaySpan.E a1), (intA a2)] ((AV.tup [(lstA TRunwaySpan.E t.1), (intA t.2)])) :=
  says_of_own (by first | rfl | simp [cleans, clean, encs_clean, En.cln]) (by first | rfl | simp [cleans, clean, encs_clean, En.cln]) (F18_own (lstA TRunwayMove.E a0) (lstA TRunwaySpan.E a1) a2 _ (g18_ok n a0 a1 a2 (Ans ((AV.tup [(lstA TRunwaySpan.E t.1), (intA t.2)]))) (fun r e u m h => by rw [e]; exact h) h))
/- skyway/runway.Change -/
theorem g18_okM (n : Nat) (a0 : List TRunwayMove) (a1 : List TRunwaySpan) (a2 : Int) {t : ρ18} (R : AV → Mem → Prop) (hR : ∀ r : ρ18, t = r → ∀ u m, MadeT TRunwaySpan.E 45 r.1 [Value.int .i64 r.2] u m → R u m) : g18 n a0 a1 a2 = some t → F18 (lstA TRunwayMove.E a0) (lstA TRunwaySpan.E a1) a2 R := by
  unfold g18 F18
  refine bind_b fun x84 h84 => ?_
  refine imp (callQ_says (sg40 h84)) ?_
  refine imp ex_i64_b ?_
  refine cond_b (fun _ => ?_) (fun _ => ?_)
  · exact fun hg => hR _ (Option.some.inj hg).symm _ _ ⟨_, rfl, made_nils_pf⟩
  · refine bind_b fun x85 h85 => ?_
    refine imp (callQ_says (sg41 h85)) ?_
    refine imp ex_i64_b ?_
    refine cond_b (fun _ => ?_) (fun _ => ?_)
    · exact fun hg => hR _ (Option.some.inj hg).symm _ _ ⟨_, rfl, made_nils_pf⟩
    · refine imp (opP_of (show _ = some ((intA (a1.length : Int)), []) from rfl)) ?_
      refine imp ex_i64_b ?_
      refine bind_b fun x86 h86 => ?_
      refine imp (opP_of (show _ = some ((AV.ept [(intA x86.From), (intA x86.End)] 0), []) from (idx_lst (E := TRunwaySpan.E) rfl h86))) ?_
      refine imp (opP_of (show _ = some ((AV.agg [(intA x86.From), (intA x86.End)]), []) from rfl)) ?_
      refine imp exA2_b ?_
      refine imp ex_i64_b ?_
      refine imp ex_i64_b ?_
      refine imp (opP_of (show _ = some ((intA (a1.length : Int)), []) from rfl)) ?_
      refine imp ex_i64_b ?_
      refine cond_b (fun _ => ?_) (fun _ => ?_)
      · exact fun hg => hR _ (Option.some.inj hg).symm _ _ ⟨_, rfl, made_nils_pf⟩
      · refine bind_b fun x87 h87 => ?_
        refine imp (callQ_says (sg42 h87)) ?_
        refine imp exB_b ?_
        refine cond_b (fun _ => ?_) (fun _ => ?_)
        · exact fun hg => hR _ (Option.some.inj hg).symm _ _ ⟨_, rfl, made_nils_pf⟩
        · refine cond_b (fun _ => ?_) (fun _ => ?_)
          · exact fun hg => hR _ (Option.some.inj hg).symm _ _ ⟨_, rfl, made_nils_pf⟩
          · refine imp (opP_of (show _ = some ((intA (a0.length : Int)), []) from rfl)) ?_
            refine imp ex_i64_b ?_
            refine cond_b (fun _ => ?_) (fun _ => ?_)
            · refine imp (opP_of (show _ = some ((intA (a0.length : Int)), []) from rfl)) ?_
              refine imp ex_i64_b ?_
              refine bind_b fun x88 h88 => ?_
              refine imp (opP_of (show _ = some ((AV.ept [(intA x88.Time), (intA x88.Wake), (boolA x88.Departs), (intA x88.End)] 0), []) from (idx_lst (E := TRunwayMove.E) rfl h88))) ?_
              refine imp (opP_of (show _ = some ((AV.ept [(intA x88.Time), (intA x88.Wake), (boolA x88.Departs), (intA x88.End)] 0), []) from rfl)) ?_
              refine imp (opP_of (show _ = some ((intA x88.Time), []) from rfl)) ?_
              refine imp ex_i64_b ?_
              refine cond_b (fun _ => ?_) (fun _ => ?_)
              · exact fun hg => hR _ (Option.some.inj hg).symm _ _ ⟨_, rfl, made_nils_pf⟩
              · refine bind_b fun x89 h89 => ?_
                refine imp (callF_D [] (show PureD _ _ _ _ _ _ (ownV TRunwaySpan.E 240 a1) [(240, ownB TRunwaySpan.E 45 a1)] from cloneC43 h89)) ?_
                refine imp (opM_of (show _ = some ((intA x86.End), []) from (ldS_ptr (b := ⟨[(intA x86.From), (intA x86.End)], 45⟩) (by first | rfl | (rw [look'_mem (by first | rfl | simp [topId_blk] | simp [topId])]; first | rfl | (simp (disch := first | decide | assumption) only [mpushs_nil, mpushs_cons, mget_hd, mget_tl, mget_appW_o, mget_appW_n, mget_appW_e]))) rfl))) ?_
                refine imp ex_i64_b ?_
                refine imp (opM_of (show _ = some ((AV.agg [(intA a2), (intA (IntKind.wrap .i64 ((1) - x86.End)))]), []) from rfl)) ?_
                refine imp (opM_of (show _ = some ((blkV TRunwaySpan.E 246 ([(⟨a2, (IntKind.wrap .i64 ((1) - x86.End))⟩ : TRunwaySpan)] : List TRunwaySpan)), [(246, some ⟨encs TRunwaySpan.E ([(⟨a2, (IntKind.wrap .i64 ((1) - x86.End))⟩ : TRunwaySpan)] : List TRunwaySpan), 45⟩)]) from rfl)) ?_
                refine bind_b fun x91 h91 => ?_
                refine imp (opM_of (show _ = some ((ownV TRunwaySpan.E 247 (a1 ++ ([(⟨a2, (IntKind.wrap .i64 ((1) - x86.End))⟩ : TRunwaySpan)] : List TRunwaySpan))), (appW TRunwaySpan.E 247 240 45 a1 ([(⟨a2, (IntKind.wrap .i64 ((1) - x86.End))⟩ : TRunwaySpan)] : List TRunwaySpan))) from (app_own (E := TRunwaySpan.E) (l' := a1) (xs := ([(⟨a2, (IntKind.wrap .i64 ((1) - x86.End))⟩ : TRunwaySpan)] : List TRunwaySpan)) rfl rfl (cellsOf_blk (E := TRunwaySpan.E) (ty := 45) rfl rfl (by first | rfl | (rw [look'_mem (by first | rfl | simp [topId_blk] | simp [topId])]; first | rfl | (simp (disch := first | decide | assumption) only [mpushs_nil, mpushs_cons, mget_hd, mget_tl, mget_appW_o, mget_appW_n, mget_appW_e])))) (by first | assumption | simp) rfl (fun hne => look'_own hne rfl (by first | rfl | (simp (disch := first | decide | assumption) only [mpushs_nil, mpushs_cons, mget_hd, mget_tl, mget_appW_o, mget_appW_n, mget_appW_e]))) h91))) ?_
                refine imp (chk_of (by rcases (a1) with _ | ⟨_, _⟩ <;> kernel_rfl)) ?_
                exact fun hg => hR _ (Option.some.inj hg).symm _ _ ⟨_, rfl, (made_own_pf (E := TRunwaySpan.E) (ty := 45) (l := (a1 ++ ([(⟨a2, (IntKind.wrap .i64 ((1) - x86.End))⟩ : TRunwaySpan)] : List TRunwaySpan))) rfl (by first | rfl | (simp (disch := first | decide | assumption) only [mpushs_nil, mpushs_cons, mget_hd, mget_tl, mget_appW_o, mget_appW_n, mget_appW_e])))⟩
            · refine bind_b fun x92 h92 => ?_
              refine imp (callF_D [] (show PureD _ _ _ _ _ _ (ownV TRunwaySpan.E 230 a1) [(230, ownB TRunwaySpan.E 45 a1)] from cloneC43 h92)) ?_
              refine imp (opM_of (show _ = some ((intA x86.End), []) from (ldS_ptr (b := ⟨[(intA x86.From), (intA x86.End)], 45⟩) (by first | rfl | (rw [look'_mem (by first | rfl | simp [topId_blk] | simp [topId])]; first | rfl | (simp (disch := first | decide | assumption) only [mpushs_nil, mpushs_cons, mget_hd, mget_tl, mget_appW_o, mget_appW_n, mget_appW_e]))) rfl))) ?_
              refine imp ex_i64_b ?_
              refine imp (opM_of (show _ = some ((AV.agg [(intA a2), (intA (IntKind.wrap .i64 ((1) - x86.End)))]), []) from rfl)) ?_
              refine imp (opM_of (show _ = some ((blkV TRunwaySpan.E 236 ([(⟨a2, (IntKind.wrap .i64 ((1) - x86.End))⟩ : TRunwaySpan)] : List TRunwaySpan)), [(236, some ⟨encs TRunwaySpan.E ([(⟨a2, (IntKind.wrap .i64 ((1) - x86.End))⟩ : TRunwaySpan)] : List TRunwaySpan), 45⟩)]) from rfl)) ?_
              refine bind_b fun x94 h94 => ?_
              refine imp (opM_of (show _ = some ((ownV TRunwaySpan.E 237 (a1 ++ ([(⟨a2, (IntKind.wrap .i64 ((1) - x86.End))⟩ : TRunwaySpan)] : List TRunwaySpan))), (appW TRunwaySpan.E 237 230 45 a1 ([(⟨a2, (IntKind.wrap .i64 ((1) - x86.End))⟩ : TRunwaySpan)] : List TRunwaySpan))) from (app_own (E := TRunwaySpan.E) (l' := a1) (xs := ([(⟨a2, (IntKind.wrap .i64 ((1) - x86.End))⟩ : TRunwaySpan)] : List TRunwaySpan)) rfl rfl (cellsOf_blk (E := TRunwaySpan.E) (ty := 45) rfl rfl (by first | rfl | (rw [look'_mem (by first | rfl | simp [topId_blk] | simp [topId])]; first | rfl | (simp (disch := first | decide | assumption) only [mpushs_nil, mpushs_cons, mget_hd, mget_tl, mget_appW_o, mget_appW_n, mget_appW_e])))) (by first | assumption | simp) rfl (fun hne => look'_own hne rfl (by first | rfl | (simp (disch := first | decide | assumption) only [mpushs_nil, mpushs_cons, mget_hd, mget_tl, mget_appW_o, mget_appW_n, mget_appW_e]))) h94))) ?_
              refine imp (chk_of (by rcases (a1) with _ | ⟨_, _⟩ <;> kernel_rfl)) ?_
              exact fun hg => hR _ (Option.some.inj hg).symm _ _ ⟨_, rfl, (made_own_pf (E := TRunwaySpan.E) (ty := 45) (l := (a1 ++ ([(⟨a2, (IntKind.wrap .i64 ((1) - x86.End))⟩ : TRunwaySpan)] : List TRunwaySpan))) rfl (by first | rfl | (simp (disch := first | decide | assumption) only [mpushs_nil, mpushs_cons, mget_hd, mget_tl, mget_appW_o, mget_appW_n, mget_appW_e])))⟩
theorem mg18C {n k : Nat} {look : Nat → Option ABlk} {a0 : List TRunwayMove} {a1 : List TRunwaySpan} {a2 : Int} {t : ρ18} (h : g18 n a0 a1 a2 = some t) : PureD Try.prog KK.gl look k 18 [(lstA TRunwayMove.E a0), (lstA TRunwaySpan.E a1), (intA a2)] (.tup (ownV TRunwaySpan.E k t.1 :: ([Value.int .i64 t.2] : List Value).map AV.sc)) [(k, ownB TRunwaySpan.E 45 t.1)] :=
  made_tupC (by first | rfl | simp [cleans, clean, encs_clean, En.cln]) (F18_own (lstA TRunwayMove.E a0) (lstA TRunwaySpan.E a1) a2 _ (g18_okM n a0 a1 a2 (MadeT TRunwaySpan.E 45 t.1 [Value.int .i64 t.2]) (fun r e u m h => by rw [e]; exact h) h))
theorem mg18S {n k : Nat} {look : Nat → Option ABlk} {args : List AV} {a0 : List TRunwayMove} {a1 : List TRunwaySpan} {a2 : Int} {t : ρ18} (h : g18 n a0 a1 a2 = some t) (hs : SnL look 6 args [(lstA TRunwayMove.E a0), (lstA TRunwaySpan.E a1), (intA a2)]) : PureD Try.prog KK.gl look k 18 args (.tup (ownV TRunwaySpan.E k t.1 :: ([Value.int .i64 t.2] : List Value).map AV.sc)) [(k, ownB TRunwaySpan.E 45 t.1)] :=
  made_tupS (fun _ => rfl) hs (F18_own (lstA TRunwayMove.E a0) (lstA TRunwaySpan.E a1) a2 _ (g18_okM n a0 a1 a2 (MadeT TRunwaySpan.E 45 t.1 [Value.int .i64 t.2]) (fun r e u m h => by rw [e]; exact h) h))
/- skyway/runway.Direction -/
theorem g20_ok (n : Nat) (a0 : List TRunwaySpan) (a1 : Int) {t : ρ20} (R : AV → Mem → Prop) (hR : ∀ r : ρ20, t = r → ∀ u m, Ans ((AV.tup [(intA r.1), (intA r.2)])) u m → R u m) : g20 n a0 a1 = some t → F20 (lstA TRunwaySpan.E a0) a1 R := by
  unfold g20 F20
  refine bind_b fun x95 h95 => ?_
  refine imp (callQ_says (sg41 h95)) ?_
  refine imp ex_i64_b ?_
  refine cond_b (fun _ => ?_) (fun _ => ?_)
  · exact fun hg => retN rfl (hR _ (Option.some.inj hg).symm) (fzL_cons (fz_sc _ _) (fzL_cons (fz_sc _ _) fzL_nil))
  · refine bind_b fun x96 h96 => ?_
    refine imp (callQ_says (sg42 h96)) ?_
    refine imp exB_b ?_
    refine cond_b (fun _ => ?_) (fun _ => ?_)
    · exact fun hg => retN rfl (hR _ (Option.some.inj hg).symm) (fzL_cons (fz_sc _ _) (fzL_cons (fz_sc _ _) fzL_nil))
    · refine bind_b fun x97 h97 => ?_
      refine imp (callQ_says (sg44 h97)) ?_
      refine imp exT2_b ?_
      refine imp ex_i64_b ?_
      refine imp exB_b ?_
      refine cond_b (fun _ => ?_) (fun _ => ?_)
      · exact fun hg => retN rfl (hR _ (Option.some.inj hg).symm) (fzL_cons (fz_sc _ _) (fzL_cons (fz_sc _ _) fzL_nil))
      · exact fun hg => retN rfl (hR _ (Option.some.inj hg).symm) (fzL_cons (fz_sc _ _) (fzL_cons (fz_sc _ _) fzL_nil))
theorem sg20 {n : Nat} {a0 : List TRunwaySpan} {a1 : Int} {t : ρ20} (h : g20 n a0 a1 = some t) : Says Try.prog KK.gl 20 [(lstA TRunwaySpan.E a0), (intA a1)] ((AV.tup [(intA t.1), (intA t.2)])) :=
  says_of_own (by first | rfl | simp [cleans, clean, encs_clean, En.cln]) (by first | rfl | simp [cleans, clean, encs_clean, En.cln]) (F20_own (lstA TRunwaySpan.E a0) a1 _ (g20_ok n a0 a1 (Ans ((AV.tup [(intA t.1), (intA t.2)]))) (fun r e u m h => by rw [e]; exact h) h))
/- skyway/runway.Gap -/
theorem B39_0_ok (n : Nat) (c6 : Int) (c19_0 : Int) (c19_1 : Int) (c19_2 : Bool) (c19_3 : Int) (c19_4 : Int) (c19_5 : Int) (c19_6 : Bool) (c19_7 : Int) (k0_0 : Int) (k0_1 : Int) (k0_2 : Int) (k0_3 : Int) (k0_4 : Int) (k0_5 : Int) (k0_6 : Int) (k0_7 : Int) (k0_8 : Int) (k0_9 : Int) (k0_10 : Int) (k0_11 : Int) (k0_12 : Int) (k0_13 : Int) (k0_14 : Int) (k0_15 : Int) (v20 : Int) {t : (Int) ⊕ ρ39} (R : AV → Mem → Prop) (N0 : St → Prop) (hR : ∀ r : ρ39, t = (.inr r) → ∀ u m, Ans ((AV.tup [(intA r.1), (intA r.2)])) u m → R u m) (hN0 : ∀ y : Int, t = (.inl y) → ∀ s' : St, Weak KK 34 0 s' (h39_0 c6 c6 (AV.agg [(intA c19_0), (intA c19_1), (boolA c19_2), (intA c19_3), (intA c19_4), (intA c19_5), (boolA c19_6), (intA c19_7)]) y k0_0 k0_1 k0_2 k0_3 k0_4 k0_5 k0_6 k0_7 k0_8 k0_9 k0_10 k0_11 k0_12 k0_13 k0_14 k0_15 c19_0 c19_1 c19_2 c19_3 c19_4 c19_5 c19_6 c19_7 []) → N0 s') : S39_0 n c6 c19_0 c19_1 c19_2 c19_3 c19_4 c19_5 c19_6 c19_7 k0_0 k0_1 k0_2 k0_3 k0_4 k0_5 k0_6 k0_7 k0_8 k0_9 k0_10 k0_11 k0_12 k0_13 k0_14 k0_15 v20 = some t → B39_0 c6 c6 (AV.agg [(intA c19_0), (intA c19_1), (boolA c19_2), (intA c19_3), (intA c19_4), (intA c19_5), (boolA c19_6), (intA c19_7)]) v20 k0_0 k0_1 k0_2 k0_3 k0_4 k0_5 k0_6 k0_7 k0_8 k0_9 k0_10 k0_11 k0_12 k0_13 k0_14 k0_15 c19_0 c19_1 c19_2 c19_3 c19_4 c19_5 c19_6 c19_7 [] R N0 := by
  unfold S39_0 B39_0
  refine cond_b (fun _ => ?_) (fun _ => ?_)
  · refine bind_b fun x103 h103 => ?_
    refine imp (opP_of (show _ = some ((AV.agg [(intA x103.Time), (intA x103.Wake), (boolA x103.Departs), (intA x103.End)]), []) from (opA_index_agg (E := TRunwayMove.E) (l := ([(⟨c19_0, c19_1, c19_2, c19_3⟩ : TRunwayMove), (⟨c19_4, c19_5, c19_6, c19_7⟩ : TRunwayMove)] : List TRunwayMove)) (len := 2) (e := 52) (by kernel_rfl) (by kernel_rfl) (by kernel_rfl) rfl ⟨rfl, rfl⟩ h103))) ?_
    refine imp exA4_b ?_
    refine imp ex_i64_b ?_
    refine imp ex_i64_b ?_
    refine imp exB_b ?_
    refine imp ex_i64_b ?_
    refine imp (opN_of (show _ = some ((blkV TRunwayMove.E 100005 ([x103] : List TRunwayMove)), [(100005, some ⟨encs TRunwayMove.E ([x103] : List TRunwayMove), 52⟩)]) from rfl)) ?_
    refine bind_b fun x104 h104 => ?_
    refine imp (callQ_pure (pure_snapN (snL_cons (sn_blk (E := TRunwayMove.E) (ty := 52) (l' := ([x103] : List TRunwayMove)) _ TRunwayMove.nf rfl (by first | rfl | (simp (disch := first | decide | assumption) only [mpushs_nil, mpushs_cons, mget_hd, mget_tl, mget_appW_o, mget_appW_n, mget_appW_e]))) snL_nil) (sg40 h104) rfl)) ?_
    refine imp ex_i64_b ?_
    refine cond_b (fun _ => ?_) (fun _ => ?_)
    · exact fun hg => retN rfl (hR _ (Option.some.inj hg).symm) (fzL_cons (fz_sc _ _) (fzL_cons (fz_sc _ _) fzL_nil))
    · exact fun hg => hN0 _ (Option.some.inj hg).symm _ (weak_mem [(0, 0), (1, 1), (2, 2)] rfl rfl rfl (okW_cons (.inl (leV_refl _)) (okW_cons (.inl (leV_refl _)) (okW_cons (.inl (leV_refl _)) (okW_cons (.inl (leV_refl _)) (okW_cons (.inl (leV_refl _)) (okW_cons (.inl (leV_refl _)) (okW_cons (.inl (leV_refl _)) okW_nil))))))) (okB_cons (okB_cells (cs := [(intA k0_0), (intA k0_1), (intA k0_2), (intA k0_3), (intA k0_4), (intA k0_5), (intA k0_6), (intA k0_7), (intA k0_8), (intA k0_9), (intA k0_10), (intA k0_11), (intA k0_12), (intA k0_13), (intA k0_14), (intA k0_15)]) (ty := 24) rfl (show mget _ 0 = _ from (by first | rfl | (simp (disch := first | decide | assumption) only [mpushs_nil, mpushs_cons, mget_hd, mget_tl, mget_appW_o, mget_appW_n, mget_appW_e])))) (okB_cons (okB_cells (cs := [(intA c19_0), (intA c19_1), (boolA c19_2), (intA c19_3)]) (ty := 52) rfl (show mget _ 1 = _ from (by first | rfl | (simp (disch := first | decide | assumption) only [mpushs_nil, mpushs_cons, mget_hd, mget_tl, mget_appW_o, mget_appW_n, mget_appW_e])))) (okB_cons (okB_cells (cs := [(intA c19_4), (intA c19_5), (boolA c19_6), (intA c19_7)]) (ty := 52) rfl (show mget _ 2 = _ from (by first | rfl | (simp (disch := first | decide | assumption) only [mpushs_nil, mpushs_cons, mget_hd, mget_tl, mget_appW_o, mget_appW_n, mget_appW_e])))) okB_nil'))))
  · refine bind_b fun x105 h105 => ?_
    refine imp (callQ_says (sg45 h105)) ?_
    refine imp ex_i64_b ?_
    exact fun hg => retN rfl (hR _ (Option.some.inj hg).symm) (fzL_cons (fz_sc _ _) (fzL_cons (fz_sc _ _) fzL_nil))
theorem L39_0_ok (n : Nat) (c6 : Int) (c19_0 : Int) (c19_1 : Int) (c19_2 : Bool) (c19_3 : Int) (c19_4 : Int) (c19_5 : Int) (c19_6 : Bool) (c19_7 : Int) (k0_0 : Int) (k0_1 : Int) (k0_2 : Int) (k0_3 : Int) (k0_4 : Int) (k0_5 : Int) (k0_6 : Int) (k0_7 : Int) (k0_8 : Int) (k0_9 : Int) (k0_10 : Int) (k0_11 : Int) (k0_12 : Int) (k0_13 : Int) (k0_14 : Int) (k0_15 : Int) {t : ρ39} (R : AV → Mem → Prop) (hR : ∀ r : ρ39, t = r → ∀ u m, Ans ((AV.tup [(intA r.1), (intA r.2)])) u m → R u m) (k : Nat) (x : Int) (hx : iterO (fun y : Int => S39_0 n c6 c19_0 c19_1 c19_2 c19_3 c19_4 c19_5 c19_6 c19_7 k0_0 k0_1 k0_2 k0_3 k0_4 k0_5 k0_6 k0_7 k0_8 k0_9 k0_10 k0_11 k0_12 k0_13 k0_14 k0_15 y) k x = some t) {s : St} (hw : Weak KK 34 0 s (h39_0 c6 c6 (AV.agg [(intA c19_0), (intA c19_1), (boolA c19_2), (intA c19_3), (intA c19_4), (intA c19_5), (boolA c19_6), (intA c19_7)]) x k0_0 k0_1 k0_2 k0_3 k0_4 k0_5 k0_6 k0_7 k0_8 k0_9 k0_10 k0_11 k0_12 k0_13 k0_14 k0_15 c19_0 c19_1 c19_2 c19_3 c19_4 c19_5 c19_6 c19_7 [])) : Tri Try.prog KK 34 0 (.loop c39_0) s (q39_0 R ) :=
  L39_0 R  (σ := Nat × (Int)) (fun z => iterO (fun y : Int => S39_0 n c6 c19_0 c19_1 c19_2 c19_3 c19_4 c19_5 c19_6 c19_7 k0_0 k0_1 k0_2 k0_3 k0_4 k0_5 k0_6 k0_7 k0_8 k0_9 k0_10 k0_11 k0_12 k0_13 k0_14 k0_15 y) z.1 z.2 = some t) (fun z => c6) (fun z => c6) (fun z => (AV.agg [(intA c19_0), (intA c19_1), (boolA c19_2), (intA c19_3), (intA c19_4), (intA c19_5), (boolA c19_6), (intA c19_7)])) (fun z => z.2) (fun z => k0_0) (fun z => k0_1) (fun z => k0_2) (fun z => k0_3) (fun z => k0_4) (fun z => k0_5) (fun z => k0_6) (fun z => k0_7) (fun z => k0_8) (fun z => k0_9) (fun z => k0_10) (fun z => k0_11) (fun z => k0_12) (fun z => k0_13) (fun z => k0_14) (fun z => k0_15) (fun z => c19_0) (fun z => c19_1) (fun z => c19_2) (fun z => c19_3) (fun z => c19_4) (fun z => c19_5) (fun z => c19_6) (fun z => c19_7) (fun z => []) (fun z => z.1) (by
    rintro ⟨k, y⟩ h
    cases k with
    | zero => exact (iterO_zero h).elim
    | succ k =>
      obtain ⟨u, h1, h2, h3⟩ := iterO_elim h
      exact B39_0_ok n c6 c19_0 c19_1 c19_2 c19_3 c19_4 c19_5 c19_6 c19_7 k0_0 k0_1 k0_2 k0_3 k0_4 k0_5 k0_6 k0_7 k0_8 k0_9 k0_10 k0_11 k0_12 k0_13 k0_14 k0_15 y R  _ (fun r e => hR r (h3 _ e).symm)  (fun y' e s' hw => ⟨(k, y'), h2 _ e, Nat.lt_succ_self k, hw⟩) h1) (k, x) hx hw
theorem g39_ok (n : Nat) (a0 : TWakeTable) (a1 : TRunwayMove) (a2 : TRunwayMove) {t : ρ39} (R : AV → Mem → Prop) (hR : ∀ r : ρ39, t = r → ∀ u m, Ans ((AV.tup [(intA r.1), (intA r.2)])) u m → R u m) : g39 n a0 a1 a2 = some t → F39 a0.c0_0 a0.c0_1 a0.c0_2 a0.c0_3 a0.c1_0 a0.c1_1 a0.c1_2 a0.c1_3 a0.c2_0 a0.c2_1 a0.c2_2 a0.c2_3 a0.c3_0 a0.c3_1 a0.c3_2 a0.c3_3 a1.Time a1.Wake a1.Departs a1.End a2.Time a2.Wake a2.Departs a2.End R := by
  unfold g39 F39
  refine bind_b fun x102 h102 => ?_
  refine imp (callQ_says (sg36 h102)) ?_
  refine imp ex_i64_b ?_
  refine cond_b (fun _ => ?_) (fun _ => ?_)
  · exact fun hg => retN rfl (hR _ (Option.some.inj hg).symm) (fzL_cons (fz_sc _ _) (fzL_cons (fz_sc _ _) fzL_nil))
  · refine imp (opP_of (show _ = some ((AV.agg [(intA a1.Time), (intA a1.Wake), (boolA a1.Departs), (intA a1.End), (intA a2.Time), (intA a2.Wake), (boolA a2.Departs), (intA a2.End)]), []) from (by kernel_rfl))) ?_
    exact fun hg => L39_0_ok n (0) a1.Time a1.Wake a1.Departs a1.End a2.Time a2.Wake a2.Departs a2.End a0.c0_0 a0.c0_1 a0.c0_2 a0.c0_3 a0.c1_0 a0.c1_1 a0.c1_2 a0.c1_3 a0.c2_0 a0.c2_1 a0.c2_2 a0.c2_3 a0.c3_0 a0.c3_1 a0.c3_2 a0.c3_3 R  hR n _ hg (weak_mem [(0, 0), (1, 1), (2, 2)] rfl rfl rfl (okW_cons (.inl (leV_refl _)) (okW_cons (.inl (leV_refl _)) (okW_cons (.inl (leV_refl _)) (okW_cons (.inl (leV_refl _)) (okW_cons (.inl (leV_refl _)) (okW_cons (.inl (leV_refl _)) (okW_cons (.inl (leV_refl _)) okW_nil))))))) (okB_cons (okB_cells (cs := [(intA a0.c0_0), (intA a0.c0_1), (intA a0.c0_2), (intA a0.c0_3), (intA a0.c1_0), (intA a0.c1_1), (intA a0.c1_2), (intA a0.c1_3), (intA a0.c2_0), (intA a0.c2_1), (intA a0.c2_2), (intA a0.c2_3), (intA a0.c3_0), (intA a0.c3_1), (intA a0.c3_2), (intA a0.c3_3)]) (ty := 24) rfl (show mget _ 0 = _ from (by first | rfl | (simp (disch := first | decide | assumption) only [mpushs_nil, mpushs_cons, mget_hd, mget_tl, mget_appW_o, mget_appW_n, mget_appW_e])))) (okB_cons (okB_cells (cs := [(intA a1.Time), (intA a1.Wake), (boolA a1.Departs), (intA a1.End)]) (ty := 52) rfl (show mget _ 1 = _ from (by first | rfl | (simp (disch := first | decide | assumption) only [mpushs_nil, mpushs_cons, mget_hd, mget_tl, mget_appW_o, mget_appW_n, mget_appW_e])))) (okB_cons (okB_cells (cs := [(intA a2.Time), (intA a2.Wake), (boolA a2.Departs), (intA a2.End)]) (ty := 52) rfl (show mget _ 2 = _ from (by first | rfl | (simp (disch := first | decide | assumption) only [mpushs_nil, mpushs_cons, mget_hd, mget_tl, mget_appW_o, mget_appW_n, mget_appW_e])))) okB_nil'))))
theorem sg39 {n : Nat} {a0 : TWakeTable} {a1 : TRunwayMove} {a2 : TRunwayMove} {t : ρ39} (h : g39 n a0 a1 a2 = some t) : Says Try.prog KK.gl 39 [(AV.agg [(intA a0.c0_0), (intA a0.c0_1), (intA a0.c0_2), (intA a0.c0_3), (intA a0.c1_0), (intA a0.c1_1), (intA a0.c1_2), (intA a0.c1_3), (intA a0.c2_0), (intA a0.c2_1), (intA a0.c2_2), (intA a0.c2_3), (intA a0.c3_0), (intA a0.c3_1), (intA a0.c3_2), (intA a0.c3_3)]), (AV.agg [(intA a1.Time), (intA a1.Wake), (boolA a1.Departs), (intA a1.End)]), (AV.agg [(intA a2.Time), (intA a2.Wake), (boolA a2.Departs), (intA a2.End)])] ((AV.tup [(intA t.1), (intA t.2)])) :=
  says_of_own (by first | rfl | simp [cleans, clean, encs_clean, En.cln]) (by first | rfl | simp [cleans, clean, encs_clean, En.cln]) (F39_own a0.c0_0 a0.c0_1 a0.c0_2 a0.c0_3 a0.c1_0 a0.c1_1 a0.c1_2 a0.c1_3 a0.c2_0 a0.c2_1 a0.c2_2 a0.c2_3 a0.c3_0 a0.c3_1 a0.c3_2 a0.c3_3 a1.Time a1.Wake a1.Departs a1.End a2.Time a2.Wake a2.Departs a2.End _ (g39_ok n a0 a1 a2 (Ans ((AV.tup [(intA t.1), (intA t.2)]))) (fun r e u m h => by rw [e]; exact h) h))
/- skyway/skywaykeep3.runwayFact -/
theorem g17_ok (n : Nat) {t : ρ17} (R : AV → Mem → Prop) (hR : ∀ r : ρ17, t = r → ∀ u m, Ans ((boolA r)) u m → R u m) : g17 n  = some t → F17  R := by
  unfold g17 F17
  refine imp (opP_of (show _ = some ((AV.agg [(intA (100)), (intA (1)), (boolA false), (intA (0))]), []) from rfl)) ?_
  refine imp (opN_of (show _ = some ((blkV TRunwayMove.E 2 ([(⟨(100), (1), false, (0)⟩ : TRunwayMove)] : List TRunwayMove)), [(2, some ⟨encs TRunwayMove.E ([(⟨(100), (1), false, (0)⟩ : TRunwayMove)] : List TRunwayMove), 52⟩)]) from rfl)) ?_
  refine imp (opP_of (show _ = some ((AV.agg [(intA (0)), (intA (0))]), []) from rfl)) ?_
  refine imp (opN_of (show _ = some ((blkV TRunwaySpan.E 4 ([(⟨(0), (0)⟩ : TRunwaySpan)] : List TRunwaySpan)), [(4, some ⟨encs TRunwaySpan.E ([(⟨(0), (0)⟩ : TRunwaySpan)] : List TRunwaySpan), 45⟩)]) from rfl)) ?_
  refine bind_b fun x0 h0 => ?_
  refine imp (callQ_says (sg35 h0)) ?_
  refine imp exA16_b ?_
  refine imp ex_i64_b ?_
  refine imp ex_i64_b ?_
  refine imp ex_i64_b ?_
  refine imp ex_i64_b ?_
  refine imp ex_i64_b ?_
  refine imp ex_i64_b ?_
  refine imp ex_i64_b ?_
  refine imp ex_i64_b ?_
  refine imp ex_i64_b ?_
  refine imp ex_i64_b ?_
  refine imp ex_i64_b ?_
  refine imp ex_i64_b ?_
  refine imp ex_i64_b ?_
  refine imp ex_i64_b ?_
  refine imp ex_i64_b ?_
  refine imp ex_i64_b ?_
  refine imp (opP_of (show _ = some ((AV.agg [(intA (100)), (intA (1))]), []) from rfl)) ?_
  refine imp (opN_of (show _ = some ((blkV TRunwayReady.E 77 ([(⟨(100), (1)⟩ : TRunwayReady)] : List TRunwayReady)), [(77, some ⟨encs TRunwayReady.E ([(⟨(100), (1)⟩ : TRunwayReady)] : List TRunwayReady), 78⟩)]) from rfl)) ?_
  refine bind_b fun x57 h57 => ?_
  refine imp (callW_D (show PureD _ _ _ _ _ _ (AV.tup [(ownV TRunwayMove.E 78 x57.1), (intA x57.2)]) [(78, ownB TRunwayMove.E 52 x57.1)] from mg21S h57 (snL_cons (sn_blk (E := TRunwayMove.E) (ty := 52) (l' := ([(⟨(100), (1), false, (0)⟩ : TRunwayMove)] : List TRunwayMove)) _ TRunwayMove.nf rfl (by first | rfl | (simp (disch := first | decide | assumption) only [mpushs_nil, mpushs_cons, mget_hd, mget_tl, mget_appW_o, mget_appW_n, mget_appW_e]))) (snL_cons (sn_blk (E := TRunwaySpan.E) (ty := 45) (l' := ([(⟨(0), (0)⟩ : TRunwaySpan)] : List TRunwaySpan)) _ TRunwaySpan.nf rfl (by first | rfl | (simp (disch := first | decide | assumption) only [mpushs_nil, mpushs_cons, mget_hd, mget_tl, mget_appW_o, mget_appW_n, mget_appW_e]))) (snL_cons (sn_agg _ (snL_cons (sn_sc _ _) (snL_cons (sn_sc _ _) (snL_cons (sn_sc _ _) (snL_cons (sn_sc _ _) (snL_cons (sn_sc _ _) (snL_cons (sn_sc _ _) (snL_cons (sn_sc _ _) (snL_cons (sn_sc _ _) (snL_cons (sn_sc _ _) (snL_cons (sn_sc _ _) (snL_cons (sn_sc _ _) (snL_cons (sn_sc _ _) (snL_cons (sn_sc _ _) (snL_cons (sn_sc _ _) (snL_cons (sn_sc _ _) (snL_cons (sn_sc _ _) snL_nil))))))))))))))))) (snL_cons (sn_blk (E := TRunwayReady.E) (ty := 78) (l' := ([(⟨(100), (1)⟩ : TRunwayReady)] : List TRunwayReady)) _ TRunwayReady.nf rfl (by first | rfl | (simp (disch := first | decide | assumption) only [mpushs_nil, mpushs_cons, mget_hd, mget_tl, mget_appW_o, mget_appW_n, mget_appW_e]))) snL_nil)))))) ?_
  refine imp exT2_b ?_
  refine imp ex_i64_b ?_
  refine imp (opP_of (show _ = some ((AV.agg [(intA x0.c0_0), (intA x0.c0_1), (intA x0.c0_2), (intA x0.c0_3), (intA x0.c1_0), (intA x0.c1_1), (intA x0.c1_2), (intA x0.c1_3), (intA x0.c2_0), (intA x0.c2_1), (intA x0.c2_2), (intA x0.c2_3), (intA x0.c3_0), (intA x0.c3_1), (intA x0.c3_2), (intA x0.c3_3)]), []) from (ldA_ptr (b := ⟨[(intA x0.c0_0), (intA x0.c0_1), (intA x0.c0_2), (intA x0.c0_3), (intA x0.c1_0), (intA x0.c1_1), (intA x0.c1_2), (intA x0.c1_3), (intA x0.c2_0), (intA x0.c2_1), (intA x0.c2_2), (intA x0.c2_3), (intA x0.c3_0), (intA x0.c3_1), (intA x0.c3_2), (intA x0.c3_3)], 24⟩) (by first | rfl | (simp (disch := first | decide | assumption) only [mpushs_nil, mpushs_cons, mget_hd, mget_tl, mget_appW_o, mget_appW_n, mget_appW_e])) rfl))) ?_
  refine imp exA16_b ?_
  refine imp ex_i64_b ?_
  refine imp ex_i64_b ?_
  refine imp ex_i64_b ?_
  refine imp ex_i64_b ?_
  refine imp ex_i64_b ?_
  refine imp ex_i64_b ?_
  refine imp ex_i64_b ?_
  refine imp ex_i64_b ?_
  refine imp ex_i64_b ?_
  refine imp ex_i64_b ?_
  refine imp ex_i64_b ?_
  refine imp ex_i64_b ?_
  refine imp ex_i64_b ?_
  refine imp ex_i64_b ?_
  refine imp ex_i64_b ?_
  refine imp ex_i64_b ?_
  refine bind_b fun x71 h71 => ?_
  refine imp (callQ_pure (pure_snapN (snL_cons (sn_own (E := TRunwayMove.E) (ty := 52) (l' := x57.1) _ TRunwayMove.nf rfl (by first | rfl | (simp (disch := first | decide | assumption) only [mpushs_nil, mpushs_cons, mget_hd, mget_tl, mget_appW_o, mget_appW_n, mget_appW_e]))) (snL_cons (sn_blk (E := TRunwaySpan.E) (ty := 45) (l' := ([(⟨(0), (0)⟩ : TRunwaySpan)] : List TRunwaySpan)) _ TRunwaySpan.nf rfl (by first | rfl | (simp (disch := first | decide | assumption) only [mpushs_nil, mpushs_cons, mget_hd, mget_tl, mget_appW_o, mget_appW_n, mget_appW_e]))) (snL_cons (sn_agg _ (snL_cons (sn_sc _ _) (snL_cons (sn_sc _ _) (snL_cons (sn_sc _ _) (snL_cons (sn_sc _ _) (snL_cons (sn_sc _ _) (snL_cons (sn_sc _ _) (snL_cons (sn_sc _ _) (snL_cons (sn_sc _ _) (snL_cons (sn_sc _ _) (snL_cons (sn_sc _ _) (snL_cons (sn_sc _ _) (snL_cons (sn_sc _ _) (snL_cons (sn_sc _ _) (snL_cons (sn_sc _ _) (snL_cons (sn_sc _ _) (snL_cons (sn_sc _ _) snL_nil))))))))))))))))) snL_nil))) (sg19 h71) rfl)) ?_
  refine imp exT3_b ?_
  refine imp ex_i64_b ?_
  refine imp ex_i64_b ?_
  refine imp ex_i64_b ?_
  refine bind_b fun x83 h83 => ?_
  refine imp (callW_D (show PureD _ _ _ _ _ _ (AV.tup [(ownV TRunwaySpan.E 223 x83.1), (intA x83.2)]) [(223, ownB TRunwaySpan.E 45 x83.1)] from mg18S h83 (snL_cons (sn_own (E := TRunwayMove.E) (ty := 52) (l' := x57.1) _ TRunwayMove.nf rfl (by first | rfl | (simp (disch := first | decide | assumption) only [mpushs_nil, mpushs_cons, mget_hd, mget_tl, mget_appW_o, mget_appW_n, mget_appW_e]))) (snL_cons (sn_blk (E := TRunwaySpan.E) (ty := 45) (l' := ([(⟨(0), (0)⟩ : TRunwaySpan)] : List TRunwaySpan)) _ TRunwaySpan.nf rfl (by first | rfl | (simp (disch := first | decide | assumption) only [mpushs_nil, mpushs_cons, mget_hd, mget_tl, mget_appW_o, mget_appW_n, mget_appW_e]))) (snL_cons (sn_sc _ _) snL_nil))))) ?_
  refine imp exT2_b ?_
  refine imp ex_i64_b ?_
  refine bind_b fun x98 h98 => ?_
  refine imp (callQ_pure (pure_snapN (snL_cons (sn_own (E := TRunwaySpan.E) (ty := 45) (l' := x83.1) _ TRunwaySpan.nf rfl (by first | rfl | (simp (disch := first | decide | assumption) only [mpushs_nil, mpushs_cons, mget_hd, mget_tl, mget_appW_o, mget_appW_n, mget_appW_e]))) (snL_cons (sn_sc _ _) snL_nil)) (sg20 h98) rfl)) ?_
  refine imp exT2_b ?_
  refine imp ex_i64_b ?_
  refine imp ex_i64_b ?_
  refine bind_b fun x99 h99 => ?_
  refine imp (callQ_pure (pure_snapN (snL_cons (sn_own (E := TRunwaySpan.E) (ty := 45) (l' := x83.1) _ TRunwaySpan.nf rfl (by first | rfl | (simp (disch := first | decide | assumption) only [mpushs_nil, mpushs_cons, mget_hd, mget_tl, mget_appW_o, mget_appW_n, mget_appW_e]))) (snL_cons (sn_sc _ _) snL_nil)) (sg20 h99) rfl)) ?_
  refine imp exT2_b ?_
  refine imp ex_i64_b ?_
  refine imp ex_i64_b ?_
  refine imp (opP_of (show _ = some ((intA (x57.1.length : Int)), []) from len_own)) ?_
  refine imp ex_i64_b ?_
  refine cond_b (fun _ => ?_) (fun _ => ?_)
  · exact fun hg => ret1 (hR _ (Option.some.inj hg).symm) (fz_sc _ _)
  · refine imp (opP_of (show _ = some ((AV.agg [(intA x0.c0_0), (intA x0.c0_1), (intA x0.c0_2), (intA x0.c0_3), (intA x0.c1_0), (intA x0.c1_1), (intA x0.c1_2), (intA x0.c1_3), (intA x0.c2_0), (intA x0.c2_1), (intA x0.c2_2), (intA x0.c2_3), (intA x0.c3_0), (intA x0.c3_1), (intA x0.c3_2), (intA x0.c3_3)]), []) from (ldA_ptr (b := ⟨[(intA x0.c0_0), (intA x0.c0_1), (intA x0.c0_2), (intA x0.c0_3), (intA x0.c1_0), (intA x0.c1_1), (intA x0.c1_2), (intA x0.c1_3), (intA x0.c2_0), (intA x0.c2_1), (intA x0.c2_2), (intA x0.c2_3), (intA x0.c3_0), (intA x0.c3_1), (intA x0.c3_2), (intA x0.c3_3)], 24⟩) (by first | rfl | (simp (disch := first | decide | assumption) only [mpushs_nil, mpushs_cons, mget_hd, mget_tl, mget_appW_o, mget_appW_n, mget_appW_e])) rfl))) ?_
    refine imp exA16_b ?_
    refine imp ex_i64_b ?_
    refine imp ex_i64_b ?_
    refine imp ex_i64_b ?_
    refine imp ex_i64_b ?_
    refine imp ex_i64_b ?_
    refine imp ex_i64_b ?_
    refine imp ex_i64_b ?_
    refine imp ex_i64_b ?_
    refine imp ex_i64_b ?_
    refine imp ex_i64_b ?_
    refine imp ex_i64_b ?_
    refine imp ex_i64_b ?_
    refine imp ex_i64_b ?_
    refine imp ex_i64_b ?_
    refine imp ex_i64_b ?_
    refine imp ex_i64_b ?_
    refine bind_b fun x100 h100 => ?_
    refine imp (opP_of (show _ = some ((AV.ptr 78 ((((0) : Int).toNat) * 4 + 0)), []) from (idx_own (E := TRunwayMove.E) rfl h100))) ?_
    refine imp (opP_of (show _ = some ((AV.agg [(intA x100.Time), (intA x100.Wake), (boolA x100.Departs), (intA x100.End)]), []) from (ldA_blk (E := TRunwayMove.E) (l := x57.1) (ty := 52) rfl (own_some (ty := 52) (by first | rfl | (simp (disch := first | decide | assumption) only [mpushs_nil, mpushs_cons, mget_hd, mget_tl, mget_appW_o, mget_appW_n, mget_appW_e])) (getI_some h100).2) (getI_some h100).2 rfl))) ?_
    refine imp exA4_b ?_
    refine imp ex_i64_b ?_
    refine imp ex_i64_b ?_
    refine imp exB_b ?_
    refine imp ex_i64_b ?_
    refine bind_b fun x101 h101 => ?_
    refine imp (opP_of (show _ = some ((AV.ptr 78 ((((1) : Int).toNat) * 4 + 0)), []) from (idx_own (E := TRunwayMove.E) rfl h101))) ?_
    refine imp (opP_of (show _ = some ((AV.agg [(intA x101.Time), (intA x101.Wake), (boolA x101.Departs), (intA x101.End)]), []) from (ldA_blk (E := TRunwayMove.E) (l := x57.1) (ty := 52) rfl (own_some (ty := 52) (by first | rfl | (simp (disch := first | decide | assumption) only [mpushs_nil, mpushs_cons, mget_hd, mget_tl, mget_appW_o, mget_appW_n, mget_appW_e])) (getI_some h101).2) (getI_some h101).2 rfl))) ?_
    refine imp exA4_b ?_
    refine imp ex_i64_b ?_
    refine imp ex_i64_b ?_
    refine imp exB_b ?_
    refine imp ex_i64_b ?_
    refine bind_b fun x106 h106 => ?_
    refine imp (callQ_says (sg39 h106)) ?_
    refine imp exT2_b ?_
    refine imp ex_i64_b ?_
    refine imp ex_i64_b ?_
    refine bind_b fun x107 h107 => ?_
    refine imp (opM_of (show _ = some ((AV.ptr 2 ((((0) : Int).toNat) * 4 + 0)), []) from (idx_blk (E := TRunwayMove.E) rfl h107))) ?_
    refine imp (opM_of (show _ = some ((AV.agg [(intA x107.Time), (intA x107.Wake), (boolA x107.Departs), (intA x107.End)]), []) from (ldA_blk (E := TRunwayMove.E) (l := ([(⟨(100), (1), false, (0)⟩ : TRunwayMove)] : List TRunwayMove)) (ty := 52) rfl (by first | rfl | (rw [look'_mem (by first | rfl | simp [topId_blk] | simp [topId])]; first | rfl | (simp (disch := first | decide | assumption) only [mpushs_nil, mpushs_cons, mget_hd, mget_tl, mget_appW_o, mget_appW_n, mget_appW_e]))) (getI_some h107).2 rfl))) ?_
    refine imp exA4_b ?_
    refine imp ex_i64_b ?_
    refine imp ex_i64_b ?_
    refine imp exB_b ?_
    refine imp ex_i64_b ?_
    refine bind_b fun x108 h108 => ?_
    refine imp (opM_of (show _ = some ((AV.ptr 2 ((((0) : Int).toNat) * 4 + 0)), []) from (idx_blk (E := TRunwayMove.E) rfl h108))) ?_
    refine imp (opM_of (show _ = some ((AV.agg [(intA x108.Time), (intA x108.Wake), (boolA x108.Departs), (intA x108.End)]), []) from (ldA_blk (E := TRunwayMove.E) (l := ([(⟨(100), (1), false, (0)⟩ : TRunwayMove)] : List TRunwayMove)) (ty := 52) rfl (by first | rfl | (rw [look'_mem (by first | rfl | simp [topId_blk] | simp [topId])]; first | rfl | (simp (disch := first | decide | assumption) only [mpushs_nil, mpushs_cons, mget_hd, mget_tl, mget_appW_o, mget_appW_n, mget_appW_e]))) (getI_some h108).2 rfl))) ?_
    refine imp exA4_b ?_
    refine imp ex_i64_b ?_
    refine imp ex_i64_b ?_
    refine imp exB_b ?_
    refine imp ex_i64_b ?_
    refine imp (opM_of (show _ = some ((blkV TRunwayMove.E 454 ([x107, x108] : List TRunwayMove)), [(454, some ⟨encs TRunwayMove.E ([x107, x108] : List TRunwayMove), 52⟩)]) from rfl)) ?_
    refine imp (opM_of (show _ = some ((AV.agg [(intA x0.c0_0), (intA x0.c0_1), (intA x0.c0_2), (intA x0.c0_3), (intA x0.c1_0), (intA x0.c1_1), (intA x0.c1_2), (intA x0.c1_3), (intA x0.c2_0), (intA x0.c2_1), (intA x0.c2_2), (intA x0.c2_3), (intA x0.c3_0), (intA x0.c3_1), (intA x0.c3_2), (intA x0.c3_3)]), []) from (ldA_ptr (b := ⟨[(intA x0.c0_0), (intA x0.c0_1), (intA x0.c0_2), (intA x0.c0_3), (intA x0.c1_0), (intA x0.c1_1), (intA x0.c1_2), (intA x0.c1_3), (intA x0.c2_0), (intA x0.c2_1), (intA x0.c2_2), (intA x0.c2_3), (intA x0.c3_0), (intA x0.c3_1), (intA x0.c3_2), (intA x0.c3_3)], 24⟩) (by first | rfl | (rw [look'_mem (by first | rfl | simp [topId_blk] | simp [topId])]; first | rfl | (simp (disch := first | decide | assumption) only [mpushs_nil, mpushs_cons, mget_hd, mget_tl, mget_appW_o, mget_appW_n, mget_appW_e]))) rfl))) ?_
    refine imp exA16_b ?_
    refine imp ex_i64_b ?_
    refine imp ex_i64_b ?_
    refine imp ex_i64_b ?_
    refine imp ex_i64_b ?_
    refine imp ex_i64_b ?_
    refine imp ex_i64_b ?_
    refine imp ex_i64_b ?_
    refine imp ex_i64_b ?_
    refine imp ex_i64_b ?_
    refine imp ex_i64_b ?_
    refine imp ex_i64_b ?_
    refine imp ex_i64_b ?_
    refine imp ex_i64_b ?_
    refine imp ex_i64_b ?_
    refine imp ex_i64_b ?_
    refine imp ex_i64_b ?_
    refine bind_b fun x109 h109 => ?_
    refine imp (callF_pure [454, 4] (pure_snapN (snL_cons (sn_blk (E := TRunwayMove.E) (ty := 52) (l' := ([x107, x108] : List TRunwayMove)) _ TRunwayMove.nf rfl (by first | rfl | (simp (disch := first | decide | assumption) only [mpushs_nil, mpushs_cons, mget_hd, mget_tl, mget_appW_o, mget_appW_n, mget_appW_e]))) (snL_cons (sn_blk (E := TRunwaySpan.E) (ty := 45) (l' := ([(⟨(0), (0)⟩ : TRunwaySpan)] : List TRunwaySpan)) _ TRunwaySpan.nf rfl (by first | rfl | (simp (disch := first | decide | assumption) only [mpushs_nil, mpushs_cons, mget_hd, mget_tl, mget_appW_o, mget_appW_n, mget_appW_e]))) (snL_cons (sn_agg _ (snL_cons (sn_sc _ _) (snL_cons (sn_sc _ _) (snL_cons (sn_sc _ _) (snL_cons (sn_sc _ _) (snL_cons (sn_sc _ _) (snL_cons (sn_sc _ _) (snL_cons (sn_sc _ _) (snL_cons (sn_sc _ _) (snL_cons (sn_sc _ _) (snL_cons (sn_sc _ _) (snL_cons (sn_sc _ _) (snL_cons (sn_sc _ _) (snL_cons (sn_sc _ _) (snL_cons (sn_sc _ _) (snL_cons (sn_sc _ _) (snL_cons (sn_sc _ _) snL_nil))))))))))))))))) snL_nil))) (sg19 h109) rfl)) ?_
    refine imp exT3_b ?_
    refine imp ex_i64_b ?_
    refine imp ex_i64_b ?_
    refine imp ex_i64_b ?_
    refine imp (chk_of (by kernel_rfl)) ?_
    refine cond_b (fun _ => ?_) (fun _ => ?_)
    · refine cond_b (fun _ => ?_) (fun _ => ?_)
      · refine cond_b (fun _ => ?_) (fun _ => ?_)
        · refine cond_b (fun _ => ?_) (fun _ => ?_)
          · refine cond_b (fun _ => ?_) (fun _ => ?_)
            · refine cond_b (fun _ => ?_) (fun _ => ?_)
              · refine cond_b (fun _ => ?_) (fun _ => ?_)
                · refine cond_b (fun _ => ?_) (fun _ => ?_)
                  · refine cond_b (fun _ => ?_) (fun _ => ?_)
                    · refine cond_b (fun _ => ?_) (fun _ => ?_)
                      · refine cond_b (fun _ => ?_) (fun _ => ?_)
                        · refine bind_b fun x110 h110 => ?_
                          refine imp (opP_of (show _ = some ((AV.ptr 78 ((((1) : Int).toNat) * 4 + 0)), []) from (idx_own (E := TRunwayMove.E) rfl h110))) ?_
                          refine imp (opP_of (show _ = some ((AV.agg [(intA x110.Time), (intA x110.Wake), (boolA x110.Departs), (intA x110.End)]), []) from (ldA_blk (E := TRunwayMove.E) (l := x57.1) (ty := 52) rfl (own_some (ty := 52) (by first | rfl | (simp (disch := first | decide | assumption) only [mpushs_nil, mpushs_cons, mget_hd, mget_tl, mget_appW_o, mget_appW_n, mget_appW_e])) (getI_some h110).2) (getI_some h110).2 rfl))) ?_
                          refine imp exA4_b ?_
                          refine imp ex_i64_b ?_
                          refine imp ex_i64_b ?_
                          refine imp exB_b ?_
                          refine imp ex_i64_b ?_
                          refine imp (opP_of (show _ = some ((AV.agg [(intA (160)), (intA (1)), (boolA true), (intA (0))]), []) from rfl)) ?_
                          refine imp (opP_of (show _ = some ((boolA (decide (x110 = (⟨(160), (1), true, (0)⟩ : TRunwayMove)))), []) from (TRunwayMove.eql52 (x110) ((⟨(160), (1), true, (0)⟩ : TRunwayMove))))) ?_
                          refine imp exB_b ?_
                          refine cond_b (fun _ => ?_) (fun _ => ?_)
                          · refine imp (opP_of (show _ = some ((AV.agg [(intA (0)), (intA (0)), (boolA false), (intA (2))]), []) from rfl)) ?_
                            refine imp (opN_of (show _ = some ((blkV TRunwayMove.E 516 ([(⟨(0), (0), false, (2)⟩ : TRunwayMove)] : List TRunwayMove)), [(516, some ⟨encs TRunwayMove.E ([(⟨(0), (0), false, (2)⟩ : TRunwayMove)] : List TRunwayMove), 52⟩)]) from rfl)) ?_
                            refine bind_b fun x111 h111 => ?_
                            refine imp (callQ_pure (pure_snapN (snL_cons (sn_blk (E := TRunwayMove.E) (ty := 52) (l' := ([(⟨(0), (0), false, (2)⟩ : TRunwayMove)] : List TRunwayMove)) _ TRunwayMove.nf rfl (by first | rfl | (simp (disch := first | decide | assumption) only [mpushs_nil, mpushs_cons, mget_hd, mget_tl, mget_appW_o, mget_appW_n, mget_appW_e]))) snL_nil) (sg40 h111) rfl)) ?_
                            refine imp ex_i64_b ?_
                            refine cond_b (fun _ => ?_) (fun _ => ?_)
                            · refine bind_b fun x112 h112 => ?_
                              refine imp (callQ_saysL (rl_cons (leV_nils false) rl_nil) (sg41 h112)) ?_
                              refine imp ex_i64_b ?_
                              exact fun hg => ret1 (hR _ (Option.some.inj hg).symm) (fz_sc _ _)
                            · exact fun hg => ret1 (hR _ (Option.some.inj hg).symm) (fz_sc _ _)
                          · exact fun hg => ret1 (hR _ (Option.some.inj hg).symm) (fz_sc _ _)
                        · exact fun hg => ret1 (hR _ (Option.some.inj hg).symm) (fz_sc _ _)
                      · exact fun hg => ret1 (hR _ (Option.some.inj hg).symm) (fz_sc _ _)
                    · exact fun hg => ret1 (hR _ (Option.some.inj hg).symm) (fz_sc _ _)
                  · exact fun hg => ret1 (hR _ (Option.some.inj hg).symm) (fz_sc _ _)
                · exact fun hg => ret1 (hR _ (Option.some.inj hg).symm) (fz_sc _ _)
              · exact fun hg => ret1 (hR _ (Option.some.inj hg).symm) (fz_sc _ _)
            · exact fun hg => ret1 (hR _ (Option.some.inj hg).symm) (fz_sc _ _)
          · exact fun hg => ret1 (hR _ (Option.some.inj hg).symm) (fz_sc _ _)
        · exact fun hg => ret1 (hR _ (Option.some.inj hg).symm) (fz_sc _ _)
      · exact fun hg => ret1 (hR _ (Option.some.inj hg).symm) (fz_sc _ _)
    · exact fun hg => ret1 (hR _ (Option.some.inj hg).symm) (fz_sc _ _)
theorem sg17 {n : Nat} {t : ρ17} (h : g17 n  = some t) : Says Try.prog KK.gl 17 [] ((boolA t)) :=
  says_of_own (by first | rfl | simp [cleans, clean, encs_clean, En.cln]) (by first | rfl | simp [cleans, clean, encs_clean, En.cln]) (F17_own  _ (g17_ok n  (Ans ((boolA t))) (fun r e u m h => by rw [e]; exact h) h))
/- skyway/skywaykeep3.RunwayTurns -/
theorem g5_ok (n : Nat) (a0 : List TRunwayMove) (a1 : List TRunwaySpan) (a2 : TWakeTable) (a3 : Int) {t : ρ5} (R : AV → Mem → Prop) (hR : ∀ r : ρ5, t = r → ∀ u m, Ans ((boolA r)) u m → R u m) : g5 n a0 a1 a2 a3 = some t → F5 (lstA TRunwayMove.E a0) (lstA TRunwaySpan.E a1) a2.c0_0 a2.c0_1 a2.c0_2 a2.c0_3 a2.c1_0 a2.c1_1 a2.c1_2 a2.c1_3 a2.c2_0 a2.c2_1 a2.c2_2 a2.c2_3 a2.c3_0 a2.c3_1 a2.c3_2 a2.c3_3 a3 R := by
  unfold g5 F5
  refine bind_b fun x113 h113 => ?_
  refine imp (callQ_says (sg17 h113)) ?_
  refine imp exB_b ?_
  refine cond_b (fun _ => ?_) (fun _ => ?_)
  · exact fun hg => ret1 (hR _ (Option.some.inj hg).symm) (fz_sc _ _)
  · refine bind_b fun x114 h114 => ?_
    refine imp (callW_D (show PureD _ _ _ _ _ _ (AV.tup [(ownV TRunwaySpan.E 70 x114.1), (intA x114.2)]) [(70, ownB TRunwaySpan.E 45 x114.1)] from mg18C h114)) ?_
    refine imp exT2_b ?_
    refine imp ex_i64_b ?_
    refine cond_b (fun _ => ?_) (fun _ => ?_)
    · refine imp (opP_of (show _ = some ((intA (x114.1.length : Int)), []) from len_own)) ?_
      refine imp ex_i64_b ?_
      exact fun hg => ret1 (hR _ (Option.some.inj hg).symm) (fz_sc _ _)
    · refine imp (opP_of (show _ = some ((intA (a1.length : Int)), []) from rfl)) ?_
      refine imp ex_i64_b ?_
      refine cond_b (fun _ => ?_) (fun _ => ?_)
      · refine imp (opP_of (show _ = some ((intA (x114.1.length : Int)), []) from len_own)) ?_
        refine imp ex_i64_b ?_
        exact fun hg => ret1 (hR _ (Option.some.inj hg).symm) (fz_sc _ _)
      · refine imp (opP_of (show _ = some ((AV.agg [(intA a2.c0_0), (intA a2.c0_1), (intA a2.c0_2), (intA a2.c0_3), (intA a2.c1_0), (intA a2.c1_1), (intA a2.c1_2), (intA a2.c1_3), (intA a2.c2_0), (intA a2.c2_1), (intA a2.c2_2), (intA a2.c2_3), (intA a2.c3_0), (intA a2.c3_1), (intA a2.c3_2), (intA a2.c3_3)]), []) from (ldA_ptr (b := ⟨[(intA a2.c0_0), (intA a2.c0_1), (intA a2.c0_2), (intA a2.c0_3), (intA a2.c1_0), (intA a2.c1_1), (intA a2.c1_2), (intA a2.c1_3), (intA a2.c2_0), (intA a2.c2_1), (intA a2.c2_2), (intA a2.c2_3), (intA a2.c3_0), (intA a2.c3_1), (intA a2.c3_2), (intA a2.c3_3)], 24⟩) (by first | rfl | (simp (disch := first | decide | assumption) only [mpushs_nil, mpushs_cons, mget_hd, mget_tl, mget_appW_o, mget_appW_n, mget_appW_e])) rfl))) ?_
        refine imp exA16_b ?_
        refine imp ex_i64_b ?_
        refine imp ex_i64_b ?_
        refine imp ex_i64_b ?_
        refine imp ex_i64_b ?_
        refine imp ex_i64_b ?_
        refine imp ex_i64_b ?_
        refine imp ex_i64_b ?_
        refine imp ex_i64_b ?_
        refine imp ex_i64_b ?_
        refine imp ex_i64_b ?_
        refine imp ex_i64_b ?_
        refine imp ex_i64_b ?_
        refine imp ex_i64_b ?_
        refine imp ex_i64_b ?_
        refine imp ex_i64_b ?_
        refine imp ex_i64_b ?_
        refine bind_b fun x115 h115 => ?_
        refine imp (callQ_says (sg19 h115)) ?_
        refine imp exT3_b ?_
        refine imp ex_i64_b ?_
        refine imp ex_i64_b ?_
        refine imp ex_i64_b ?_
        refine imp (opP_of (show _ = some ((AV.agg [(intA a2.c0_0), (intA a2.c0_1), (intA a2.c0_2), (intA a2.c0_3), (intA a2.c1_0), (intA a2.c1_1), (intA a2.c1_2), (intA a2.c1_3), (intA a2.c2_0), (intA a2.c2_1), (intA a2.c2_2), (intA a2.c2_3), (intA a2.c3_0), (intA a2.c3_1), (intA a2.c3_2), (intA a2.c3_3)]), []) from (ldA_ptr (b := ⟨[(intA a2.c0_0), (intA a2.c0_1), (intA a2.c0_2), (intA a2.c0_3), (intA a2.c1_0), (intA a2.c1_1), (intA a2.c1_2), (intA a2.c1_3), (intA a2.c2_0), (intA a2.c2_1), (intA a2.c2_2), (intA a2.c2_3), (intA a2.c3_0), (intA a2.c3_1), (intA a2.c3_2), (intA a2.c3_3)], 24⟩) (by first | rfl | (simp (disch := first | decide | assumption) only [mpushs_nil, mpushs_cons, mget_hd, mget_tl, mget_appW_o, mget_appW_n, mget_appW_e])) rfl))) ?_
        refine imp exA16_b ?_
        refine imp ex_i64_b ?_
        refine imp ex_i64_b ?_
        refine imp ex_i64_b ?_
        refine imp ex_i64_b ?_
        refine imp ex_i64_b ?_
        refine imp ex_i64_b ?_
        refine imp ex_i64_b ?_
        refine imp ex_i64_b ?_
        refine imp ex_i64_b ?_
        refine imp ex_i64_b ?_
        refine imp ex_i64_b ?_
        refine imp ex_i64_b ?_
        refine imp ex_i64_b ?_
        refine imp ex_i64_b ?_
        refine imp ex_i64_b ?_
        refine imp ex_i64_b ?_
        refine bind_b fun x116 h116 => ?_
        refine imp (callQ_pure (pure_snapN (snL_cons (sn_lst (E := TRunwayMove.E) _ _ false) (snL_cons (sn_own (E := TRunwaySpan.E) (ty := 45) (l' := x114.1) _ TRunwaySpan.nf rfl (by first | rfl | (simp (disch := first | decide | assumption) only [mpushs_nil, mpushs_cons, mget_hd, mget_tl, mget_appW_o, mget_appW_n, mget_appW_e]))) (snL_cons (sn_agg _ (snL_cons (sn_sc _ _) (snL_cons (sn_sc _ _) (snL_cons (sn_sc _ _) (snL_cons (sn_sc _ _) (snL_cons (sn_sc _ _) (snL_cons (sn_sc _ _) (snL_cons (sn_sc _ _) (snL_cons (sn_sc _ _) (snL_cons (sn_sc _ _) (snL_cons (sn_sc _ _) (snL_cons (sn_sc _ _) (snL_cons (sn_sc _ _) (snL_cons (sn_sc _ _) (snL_cons (sn_sc _ _) (snL_cons (sn_sc _ _) (snL_cons (sn_sc _ _) snL_nil))))))))))))))))) snL_nil))) (sg19 h116) rfl)) ?_
        refine imp exT3_b ?_
        refine imp ex_i64_b ?_
        refine imp ex_i64_b ?_
        refine imp ex_i64_b ?_
        refine cond_b (fun _ => ?_) (fun _ => ?_)
        · exact fun hg => ret1 (hR _ (Option.some.inj hg).symm) (fz_sc _ _)
        · refine cond_b (fun _ => ?_) (fun _ => ?_)
          · exact fun hg => ret1 (hR _ (Option.some.inj hg).symm) (fz_sc _ _)
          · refine cond_b (fun _ => ?_) (fun _ => ?_)
            · exact fun hg => ret1 (hR _ (Option.some.inj hg).symm) (fz_sc _ _)
            · refine bind_b fun x117 h117 => ?_
              refine imp (callQ_pure (pure_snapN (snL_cons (sn_own (E := TRunwaySpan.E) (ty := 45) (l' := x114.1) _ TRunwaySpan.nf rfl (by first | rfl | (simp (disch := first | decide | assumption) only [mpushs_nil, mpushs_cons, mget_hd, mget_tl, mget_appW_o, mget_appW_n, mget_appW_e]))) (snL_cons (sn_sc _ _) snL_nil)) (sg20 h117) rfl)) ?_
              refine imp exT2_b ?_
              refine imp ex_i64_b ?_
              refine imp ex_i64_b ?_
              refine cond_b (fun _ => ?_) (fun _ => ?_)
              · exact fun hg => ret1 (hR _ (Option.some.inj hg).symm) (fz_sc _ _)
              · refine bind_b fun x118 h118 => ?_
                refine imp (callQ_pure (pure_snapN (snL_cons (sn_own (E := TRunwaySpan.E) (ty := 45) (l' := x114.1) _ TRunwaySpan.nf rfl (by first | rfl | (simp (disch := first | decide | assumption) only [mpushs_nil, mpushs_cons, mget_hd, mget_tl, mget_appW_o, mget_appW_n, mget_appW_e]))) (snL_cons (sn_sc _ _) snL_nil)) (sg20 h118) rfl)) ?_
                refine imp exT2_b ?_
                refine imp ex_i64_b ?_
                refine imp ex_i64_b ?_
                refine cond_b (fun _ => ?_) (fun _ => ?_)
                · refine cond_b (fun _ => ?_) (fun _ => ?_)
                  · refine imp (opP_of (show _ = some ((intA (a1.length : Int)), []) from rfl)) ?_
                    refine imp ex_i64_b ?_
                    refine bind_b fun x119 h119 => ?_
                    refine imp (opP_of (show _ = some ((AV.ept [(intA x119.From), (intA x119.End)] 0), []) from (idx_lst (E := TRunwaySpan.E) rfl h119))) ?_
                    refine imp (opP_of (show _ = some ((AV.ept [(intA x119.From), (intA x119.End)] 1), []) from rfl)) ?_
                    refine imp (opP_of (show _ = some ((intA x119.End), []) from rfl)) ?_
                    refine imp ex_i64_b ?_
                    exact fun hg => ret1 (hR _ (Option.some.inj hg).symm) (fz_sc _ _)
                  · exact fun hg => ret1 (hR _ (Option.some.inj hg).symm) (fz_sc _ _)
                · exact fun hg => ret1 (hR _ (Option.some.inj hg).symm) (fz_sc _ _)
theorem sg5 {n : Nat} {a0 : List TRunwayMove} {a1 : List TRunwaySpan} {a2 : TWakeTable} {a3 : Int} {t : ρ5} (h : g5 n a0 a1 a2 a3 = some t) : Says Try.prog KK.gl 5 [(lstA TRunwayMove.E a0), (lstA TRunwaySpan.E a1), (AV.agg [(intA a2.c0_0), (intA a2.c0_1), (intA a2.c0_2), (intA a2.c0_3), (intA a2.c1_0), (intA a2.c1_1), (intA a2.c1_2), (intA a2.c1_3), (intA a2.c2_0), (intA a2.c2_1), (intA a2.c2_2), (intA a2.c2_3), (intA a2.c3_0), (intA a2.c3_1), (intA a2.c3_2), (intA a2.c3_3)]), (intA a3)] ((boolA t)) :=
  says_of_own (by first | rfl | simp [cleans, clean, encs_clean, En.cln]) (by first | rfl | simp [cleans, clean, encs_clean, En.cln]) (F5_own (lstA TRunwayMove.E a0) (lstA TRunwaySpan.E a1) a2.c0_0 a2.c0_1 a2.c0_2 a2.c0_3 a2.c1_0 a2.c1_1 a2.c1_2 a2.c1_3 a2.c2_0 a2.c2_1 a2.c2_2 a2.c2_3 a2.c3_0 a2.c3_1 a2.c3_2 a2.c3_3 a3 _ (g5_ok n a0 a1 a2 a3 (Ans ((boolA t))) (fun r e u m h => by rw [e]; exact h) h))
/- slices.Equal[[]skyway/api.RunwayMove,skyway/api.RunwayMove] -/
theorem B22_0_ok (n : Nat) (a0 : List TRunwayMove) (a1 : List TRunwayMove) (c4 : Bool) (c12 : Int) (v13 : Int) {t : (Int) ⊕ ρ22} (R : AV → Mem → Prop) (N0 : St → Prop) (hR : ∀ r : ρ22, t = (.inr r) → ∀ u m, Ans ((boolA r)) u m → R u m) (hN0 : ∀ y : Int, t = (.inl y) → ∀ s' : St, Weak KK 26 0 s' (h22_0 (lstA TRunwayMove.E a0) (lstA TRunwayMove.E a1) c4 c12 y []) → N0 s') : S22_0 n a0 a1 c4 c12 v13 = some t → B22_0 (lstA TRunwayMove.E a0) (lstA TRunwayMove.E a1) c4 c12 v13 [] R N0 := by
  unfold S22_0 B22_0
  refine cond_b (fun _ => ?_) (fun _ => ?_)
  · refine bind_b fun x125 h125 => ?_
    refine imp (opP_of (show _ = some ((AV.ept [(intA x125.Time), (intA x125.Wake), (boolA x125.Departs), (intA x125.End)] 0), []) from (idx_lst (E := TRunwayMove.E) rfl h125))) ?_
    refine imp (opP_of (show _ = some ((AV.agg [(intA x125.Time), (intA x125.Wake), (boolA x125.Departs), (intA x125.End)]), []) from rfl)) ?_
    refine imp exA4_b ?_
    refine imp ex_i64_b ?_
    refine imp ex_i64_b ?_
    refine imp exB_b ?_
    refine imp ex_i64_b ?_
    refine bind_b fun x126 h126 => ?_
    refine imp (opP_of (show _ = some ((AV.ept [(intA x126.Time), (intA x126.Wake), (boolA x126.Departs), (intA x126.End)] 0), []) from (idx_lst (E := TRunwayMove.E) rfl h126))) ?_
    refine imp (opP_of (show _ = some ((AV.agg [(intA x126.Time), (intA x126.Wake), (boolA x126.Departs), (intA x126.End)]), []) from rfl)) ?_
    refine imp exA4_b ?_
    refine imp ex_i64_b ?_
    refine imp ex_i64_b ?_
    refine imp exB_b ?_
    refine imp ex_i64_b ?_
    refine imp (opP_of (show _ = some ((boolA (!(decide (x125 = x126)))), []) from (TRunwayMove.neq52 (x125) (x126)))) ?_
    refine imp exB_b ?_
    refine cond_b (fun _ => ?_) (fun _ => ?_)
    · exact fun hg => ret1 (hR _ (Option.some.inj hg).symm) (fz_sc _ _)
    · exact fun hg => hN0 _ (Option.some.inj hg).symm _ (weak_mem [] rfl rfl rfl (okW_cons (ent_lst (E := TRunwayMove.E) _ false) (okW_cons (ent_lst (E := TRunwayMove.E) _ false) (okW_cons (.inl (leV_refl _)) (okW_cons (.inl (leV_refl _)) (okW_cons (.inl (leV_refl _)) okW_nil))))) okB_nil')
  · exact fun hg => ret1 (hR _ (Option.some.inj hg).symm) (fz_sc _ _)
theorem L22_0_ok (n : Nat) (a0 : List TRunwayMove) (a1 : List TRunwayMove) (c4 : Bool) (c12 : Int) {t : ρ22} (R : AV → Mem → Prop) (hR : ∀ r : ρ22, t = r → ∀ u m, Ans ((boolA r)) u m → R u m) (k : Nat) (x : Int) (hx : iterO (fun y : Int => S22_0 n a0 a1 c4 c12 y) k x = some t) {s : St} (hw : Weak KK 26 0 s (h22_0 (lstA TRunwayMove.E a0) (lstA TRunwayMove.E a1) c4 c12 x [])) : Tri Try.prog KK 26 0 (.loop c22_0) s (q22_0 R ) :=
  L22_0 R  (σ := Nat × (Int)) (fun z => iterO (fun y : Int => S22_0 n a0 a1 c4 c12 y) z.1 z.2 = some t) (fun z => (lstA TRunwayMove.E a0)) (fun z => (lstA TRunwayMove.E a1)) (fun z => c4) (fun z => c12) (fun z => z.2) (fun z => []) (fun z => z.1) (by
    rintro ⟨k, y⟩ h
    cases k with
    | zero => exact (iterO_zero h).elim
    | succ k =>
      obtain ⟨u, h1, h2, h3⟩ := iterO_elim h
      exact B22_0_ok n a0 a1 c4 c12 y R  _ (fun r e => hR r (h3 _ e).symm)  (fun y' e s' hw => ⟨(k, y'), h2 _ e, Nat.lt_succ_self k, hw⟩) h1) (k, x) hx hw
theorem g22_ok (n : Nat) (a0 : List TRunwayMove) (a1 : List TRunwayMove) {t : ρ22} (R : AV → Mem → Prop) (hR : ∀ r : ρ22, t = r → ∀ u m, Ans ((boolA r)) u m → R u m) : g22 n a0 a1 = some t → F22 (lstA TRunwayMove.E a0) (lstA TRunwayMove.E a1) R := by
  unfold g22 F22
  refine imp (opP_of (show _ = some ((intA (a0.length : Int)), []) from rfl)) ?_
  refine imp ex_i64_b ?_
  refine imp (opP_of (show _ = some ((intA (a1.length : Int)), []) from rfl)) ?_
  refine imp ex_i64_b ?_
  refine cond_b (fun _ => ?_) (fun _ => ?_)
  · exact fun hg => ret1 (hR _ (Option.some.inj hg).symm) (fz_sc _ _)
  · refine imp (opP_of (show _ = some ((intA (a0.length : Int)), []) from rfl)) ?_
    refine imp ex_i64_b ?_
    exact fun hg => L22_0_ok n a0 a1 false (a0.length : Int) R  hR n _ hg (weak_mem [] rfl rfl rfl (okW_cons (ent_lst (E := TRunwayMove.E) _ false) (okW_cons (ent_lst (E := TRunwayMove.E) _ false) (okW_cons (.inl (leV_refl _)) (okW_cons (.inl (leV_refl _)) (okW_cons (.inl (leV_refl _)) okW_nil))))) okB_nil')
theorem sg22 {n : Nat} {a0 : List TRunwayMove} {a1 : List TRunwayMove} {t : ρ22} (h : g22 n a0 a1 = some t) : Says Try.prog KK.gl 22 [(lstA TRunwayMove.E a0), (lstA TRunwayMove.E a1)] ((boolA t)) :=
  says_of_own (by first | rfl | simp [cleans, clean, encs_clean, En.cln]) (by first | rfl | simp [cleans, clean, encs_clean, En.cln]) (F22_own (lstA TRunwayMove.E a0) (lstA TRunwayMove.E a1) _ (g22_ok n a0 a1 (Ans ((boolA t))) (fun r e u m h => by rw [e]; exact h) h))
/- skyway/skywaykeep3.RunwayStays -/
theorem B6_0_ok (n : Nat) (a1 : List TRunwaySpan) (a3 : List TRunwayReady) (c8 : Bool) (c9 : List TRunwayMove) (c32 : Int) (k0_0 : Int) (k0_1 : Int) (k0_2 : Int) (k0_3 : Int) (k0_4 : Int) (k0_5 : Int) (k0_6 : Int) (k0_7 : Int) (k0_8 : Int) (k0_9 : Int) (k0_10 : Int) (k0_11 : Int) (k0_12 : Int) (k0_13 : Int) (k0_14 : Int) (k0_15 : Int) (v10 : Int) (v11 : List TRunwayMove) (v33 : Int) {t : (Int × List TRunwayMove × Int) ⊕ ρ6} (R : AV → Mem → Prop) (N0 : St → Prop) (hR : ∀ r : ρ6, t = (.inr r) → ∀ u m, Ans ((boolA r)) u m → R u m) (hN0 : ∀ y : Int × List TRunwayMove × Int, t = (.inl y) → ∀ s' : St, Weak KK 70 0 s' (h6_0 (lstA TRunwaySpan.E a1) (lstA TRunwayReady.E a3) c8 (lstA TRunwayMove.E c9) y.1 (lstA TRunwayMove.E y.2.1) c32 y.2.2 [(0, some ⟨[(intA k0_0), (intA k0_1), (intA k0_2), (intA k0_3), (intA k0_4), (intA k0_5), (intA k0_6), (intA k0_7), (intA k0_8), (intA k0_9), (intA k0_10), (intA k0_11), (intA k0_12), (intA k0_13), (intA k0_14), (intA k0_15)], 24⟩)]) → N0 s') : S6_0 n a1 a3 c8 c9 c32 k0_0 k0_1 k0_2 k0_3 k0_4 k0_5 k0_6 k0_7 k0_8 k0_9 k0_10 k0_11 k0_12 k0_13 k0_14 k0_15 v10 v11 v33 = some t → B6_0 (lstA TRunwaySpan.E a1) (lstA TRunwayReady.E a3) c8 (lstA TRunwayMove.E c9) v10 (lstA TRunwayMove.E v11) c32 v33 [(0, some ⟨[(intA k0_0), (intA k0_1), (intA k0_2), (intA k0_3), (intA k0_4), (intA k0_5), (intA k0_6), (intA k0_7), (intA k0_8), (intA k0_9), (intA k0_10), (intA k0_11), (intA k0_12), (intA k0_13), (intA k0_14), (intA k0_15)], 24⟩)] R N0 := by
  unfold S6_0 B6_0
  refine cond_b (fun _ => ?_) (fun _ => ?_)
  · refine imp (opP_of (show _ = some ((AV.agg [(intA k0_0), (intA k0_1), (intA k0_2), (intA k0_3), (intA k0_4), (intA k0_5), (intA k0_6), (intA k0_7), (intA k0_8), (intA k0_9), (intA k0_10), (intA k0_11), (intA k0_12), (intA k0_13), (intA k0_14), (intA k0_15)]), []) from (ldA_ptr (b := ⟨[(intA k0_0), (intA k0_1), (intA k0_2), (intA k0_3), (intA k0_4), (intA k0_5), (intA k0_6), (intA k0_7), (intA k0_8), (intA k0_9), (intA k0_10), (intA k0_11), (intA k0_12), (intA k0_13), (intA k0_14), (intA k0_15)], 24⟩) (by first | rfl | (simp (disch := first | decide | assumption) only [mpushs_nil, mpushs_cons, mget_hd, mget_tl, mget_appW_o, mget_appW_n, mget_appW_e])) rfl))) ?_
    refine imp exA16_b ?_
    refine imp ex_i64_b ?_
    refine imp ex_i64_b ?_
    refine imp ex_i64_b ?_
    refine imp ex_i64_b ?_
    refine imp ex_i64_b ?_
    refine imp ex_i64_b ?_
    refine imp ex_i64_b ?_
    refine imp ex_i64_b ?_
    refine imp ex_i64_b ?_
    refine imp ex_i64_b ?_
    refine imp ex_i64_b ?_
    refine imp ex_i64_b ?_
    refine imp ex_i64_b ?_
    refine imp ex_i64_b ?_
    refine imp ex_i64_b ?_
    refine imp ex_i64_b ?_
    refine bind_b fun x122 h122 => ?_
    refine imp (opP_of (show _ = some ((lstA TRunwayReady.E x122), []) from (slc_both (E := TRunwayReady.E) (e := 78) (by kernel_rfl) (by kernel_rfl) rfl h122))) ?_
    refine bind_b fun x123 h123 => ?_
    refine imp (callQ_says (sg21 h123)) ?_
    refine imp exT2_b ?_
    refine imp ex_i64_b ?_
    refine cond_b (fun _ => ?_) (fun _ => ?_)
    · exact fun hg => ret1 (hR _ (Option.some.inj hg).symm) (fz_sc _ _)
    · exact fun hg => hN0 _ (Option.some.inj hg).symm _ (weak_mem [(0, 0)] rfl rfl rfl (okW_cons (ent_lst (E := TRunwaySpan.E) _ false) (okW_cons (ent_lst (E := TRunwayReady.E) _ false) (okW_cons (.inl (leV_refl _)) (okW_cons (.inl (leV_refl _)) (okW_cons (ent_lst (E := TRunwayMove.E) _ false) (okW_cons (.inl (leV_refl _)) (okW_cons (ent_lst (E := TRunwayMove.E) _ false) (okW_cons (.inl (leV_refl _)) (okW_cons (.inl (leV_refl _)) okW_nil))))))))) (okB_cons (okB_cells (cs := [(intA k0_0), (intA k0_1), (intA k0_2), (intA k0_3), (intA k0_4), (intA k0_5), (intA k0_6), (intA k0_7), (intA k0_8), (intA k0_9), (intA k0_10), (intA k0_11), (intA k0_12), (intA k0_13), (intA k0_14), (intA k0_15)]) (ty := 24) rfl (show mget _ 0 = _ from (by first | rfl | (simp (disch := first | decide | assumption) only [mpushs_nil, mpushs_cons, mget_hd, mget_tl, mget_appW_o, mget_appW_n, mget_appW_e])))) okB_nil'))
  · refine imp (opP_of (show _ = some ((AV.agg [(intA k0_0), (intA k0_1), (intA k0_2), (intA k0_3), (intA k0_4), (intA k0_5), (intA k0_6), (intA k0_7), (intA k0_8), (intA k0_9), (intA k0_10), (intA k0_11), (intA k0_12), (intA k0_13), (intA k0_14), (intA k0_15)]), []) from (ldA_ptr (b := ⟨[(intA k0_0), (intA k0_1), (intA k0_2), (intA k0_3), (intA k0_4), (intA k0_5), (intA k0_6), (intA k0_7), (intA k0_8), (intA k0_9), (intA k0_10), (intA k0_11), (intA k0_12), (intA k0_13), (intA k0_14), (intA k0_15)], 24⟩) (by first | rfl | (simp (disch := first | decide | assumption) only [mpushs_nil, mpushs_cons, mget_hd, mget_tl, mget_appW_o, mget_appW_n, mget_appW_e])) rfl))) ?_
    refine imp exA16_b ?_
    refine imp ex_i64_b ?_
    refine imp ex_i64_b ?_
    refine imp ex_i64_b ?_
    refine imp ex_i64_b ?_
    refine imp ex_i64_b ?_
    refine imp ex_i64_b ?_
    refine imp ex_i64_b ?_
    refine imp ex_i64_b ?_
    refine imp ex_i64_b ?_
    refine imp ex_i64_b ?_
    refine imp ex_i64_b ?_
    refine imp ex_i64_b ?_
    refine imp ex_i64_b ?_
    refine imp ex_i64_b ?_
    refine imp ex_i64_b ?_
    refine imp ex_i64_b ?_
    refine bind_b fun x124 h124 => ?_
    refine imp (callW_D (show PureD _ _ _ _ _ _ (AV.tup [(ownV TRunwayMove.E 100004 x124.1), (intA x124.2)]) [(100004, ownB TRunwayMove.E 52 x124.1)] from pureD_rl (rl_cons (leV_refl _) (rl_cons (leV_refl _) (rl_cons (leV_refl _) (rl_cons (leV_nils false) rl_nil)))) (mg21C h124))) ?_
    refine imp exT2_b ?_
    refine imp ex_i64_b ?_
    refine cond_b (fun _ => ?_) (fun _ => ?_)
    · refine bind_b fun x127 h127 => ?_
      refine imp (callQ_says (sg22 h127)) ?_
      refine imp exB_b ?_
      refine cond_b (fun _ => ?_) (fun _ => ?_)
      · refine bind_b fun x128 h128 => ?_
        refine imp (callQ_pure (pure_snapN (snL_cons (sn_own (E := TRunwayMove.E) (ty := 52) (l' := x124.1) _ TRunwayMove.nf rfl (by first | rfl | (simp (disch := first | decide | assumption) only [mpushs_nil, mpushs_cons, mget_hd, mget_tl, mget_appW_o, mget_appW_n, mget_appW_e]))) (snL_cons (sn_lst (E := TRunwayMove.E) _ _ false) snL_nil)) (sg22 h128) rfl)) ?_
        refine imp exB_b ?_
        exact fun hg => ret1 (hR _ (Option.some.inj hg).symm) (fz_sc _ _)
      · exact fun hg => ret1 (hR _ (Option.some.inj hg).symm) (fz_sc _ _)
    · exact fun hg => ret1 (hR _ (Option.some.inj hg).symm) (fz_sc _ _)
theorem L6_0_ok (n : Nat) (a1 : List TRunwaySpan) (a3 : List TRunwayReady) (c8 : Bool) (c9 : List TRunwayMove) (c32 : Int) (k0_0 : Int) (k0_1 : Int) (k0_2 : Int) (k0_3 : Int) (k0_4 : Int) (k0_5 : Int) (k0_6 : Int) (k0_7 : Int) (k0_8 : Int) (k0_9 : Int) (k0_10 : Int) (k0_11 : Int) (k0_12 : Int) (k0_13 : Int) (k0_14 : Int) (k0_15 : Int) {t : ρ6} (R : AV → Mem → Prop) (hR : ∀ r : ρ6, t = r → ∀ u m, Ans ((boolA r)) u m → R u m) (k : Nat) (x : Int × List TRunwayMove × Int) (hx : iterO (fun y : Int × List TRunwayMove × Int => S6_0 n a1 a3 c8 c9 c32 k0_0 k0_1 k0_2 k0_3 k0_4 k0_5 k0_6 k0_7 k0_8 k0_9 k0_10 k0_11 k0_12 k0_13 k0_14 k0_15 y.1 y.2.1 y.2.2) k x = some t) {s : St} (hw : Weak KK 70 0 s (h6_0 (lstA TRunwaySpan.E a1) (lstA TRunwayReady.E a3) c8 (lstA TRunwayMove.E c9) x.1 (lstA TRunwayMove.E x.2.1) c32 x.2.2 [(0, some ⟨[(intA k0_0), (intA k0_1), (intA k0_2), (intA k0_3), (intA k0_4), (intA k0_5), (intA k0_6), (intA k0_7), (intA k0_8), (intA k0_9), (intA k0_10), (intA k0_11), (intA k0_12), (intA k0_13), (intA k0_14), (intA k0_15)], 24⟩)])) : Tri Try.prog KK 70 0 (.loop c6_0) s (q6_0 R ) :=
  L6_0 R  (σ := Nat × (Int × List TRunwayMove × Int)) (fun z => iterO (fun y : Int × List TRunwayMove × Int => S6_0 n a1 a3 c8 c9 c32 k0_0 k0_1 k0_2 k0_3 k0_4 k0_5 k0_6 k0_7 k0_8 k0_9 k0_10 k0_11 k0_12 k0_13 k0_14 k0_15 y.1 y.2.1 y.2.2) z.1 z.2 = some t) (fun z => (lstA TRunwaySpan.E a1)) (fun z => (lstA TRunwayReady.E a3)) (fun z => c8) (fun z => (lstA TRunwayMove.E c9)) (fun z => z.2.1) (fun z => (lstA TRunwayMove.E z.2.2.1)) (fun z => c32) (fun z => z.2.2.2) (fun z => [(0, some ⟨[(intA k0_0), (intA k0_1), (intA k0_2), (intA k0_3), (intA k0_4), (intA k0_5), (intA k0_6), (intA k0_7), (intA k0_8), (intA k0_9), (intA k0_10), (intA k0_11), (intA k0_12), (intA k0_13), (intA k0_14), (intA k0_15)], 24⟩)]) (fun z => z.1) (by
    rintro ⟨k, y⟩ h
    cases k with
    | zero => exact (iterO_zero h).elim
    | succ k =>
      obtain ⟨u, h1, h2, h3⟩ := iterO_elim h
      exact B6_0_ok n a1 a3 c8 c9 c32 k0_0 k0_1 k0_2 k0_3 k0_4 k0_5 k0_6 k0_7 k0_8 k0_9 k0_10 k0_11 k0_12 k0_13 k0_14 k0_15 y.1 y.2.1 y.2.2 R  _ (fun r e => hR r (h3 _ e).symm)  (fun y' e s' hw => ⟨(k, y'), h2 _ e, Nat.lt_succ_self k, hw⟩) h1) (k, x) hx hw
theorem g6_ok (n : Nat) (a0 : List TRunwayMove) (a1 : List TRunwaySpan) (a2 : TWakeTable) (a3 : List TRunwayReady) {t : ρ6} (R : AV → Mem → Prop) (hR : ∀ r : ρ6, t = r → ∀ u m, Ans ((boolA r)) u m → R u m) : g6 n a0 a1 a2 a3 = some t → F6 (lstA TRunwayMove.E a0) (lstA TRunwaySpan.E a1) a2.c0_0 a2.c0_1 a2.c0_2 a2.c0_3 a2.c1_0 a2.c1_1 a2.c1_2 a2.c1_3 a2.c2_0 a2.c2_1 a2.c2_2 a2.c2_3 a2.c3_0 a2.c3_1 a2.c3_2 a2.c3_3 (lstA TRunwayReady.E a3) R := by
  unfold g6 F6
  refine bind_b fun x120 h120 => ?_
  refine imp (callQ_says (sg17 h120)) ?_
  refine imp exB_b ?_
  refine cond_b (fun _ => ?_) (fun _ => ?_)
  · exact fun hg => ret1 (hR _ (Option.some.inj hg).symm) (fz_sc _ _)
  · refine bind_b fun x121 h121 => ?_
    refine imp (callW_D (show PureD _ _ _ _ _ _ (AV.tup [(ownV TRunwayMove.E 71 x121.1), (intA x121.2)]) [(71, ownB TRunwayMove.E 52 x121.1)] from mg21C h121)) ?_
    refine imp exT2_b ?_
    refine imp ex_i64_b ?_
    refine cond_b (fun _ => ?_) (fun _ => ?_)
    · refine imp (opP_of (show _ = some ((intA (x121.1.length : Int)), []) from len_own)) ?_
      refine imp ex_i64_b ?_
      exact fun hg => ret1 (hR _ (Option.some.inj hg).symm) (fz_sc _ _)
    · refine imp (opP_of (show _ = some ((intA (a3.length : Int)), []) from rfl)) ?_
      refine imp ex_i64_b ?_
      exact fun hg => L6_0_ok n a1 a3 false x121.1 (a3.length : Int) a2.c0_0 a2.c0_1 a2.c0_2 a2.c0_3 a2.c1_0 a2.c1_1 a2.c1_2 a2.c1_3 a2.c2_0 a2.c2_1 a2.c2_2 a2.c2_3 a2.c3_0 a2.c3_1 a2.c3_2 a2.c3_3 R  hR n _ hg (weak_mem [(0, 0)] rfl rfl rfl (okW_cons (ent_lst (E := TRunwaySpan.E) _ false) (okW_cons (ent_lst (E := TRunwayReady.E) _ false) (okW_cons (.inl (leV_refl _)) (okW_cons (.inl (leV_refl _)) (okW_cons (ent_own_frz (E := TRunwayMove.E) (ty := 52) (l' := x121.1) rfl (by first | rfl | (simp (disch := first | decide | assumption) only [mpushs_nil, mpushs_cons, mget_hd, mget_tl, mget_appW_o, mget_appW_n, mget_appW_e])) rfl) (okW_cons (.inl (leV_refl _)) (okW_cons (ent_lst (E := TRunwayMove.E) _ false) (okW_cons (.inl (leV_refl _)) (okW_cons (.inl (leV_refl _)) okW_nil))))))))) (okB_cons (okB_cells (cs := [(intA a2.c0_0), (intA a2.c0_1), (intA a2.c0_2), (intA a2.c0_3), (intA a2.c1_0), (intA a2.c1_1), (intA a2.c1_2), (intA a2.c1_3), (intA a2.c2_0), (intA a2.c2_1), (intA a2.c2_2), (intA a2.c2_3), (intA a2.c3_0), (intA a2.c3_1), (intA a2.c3_2), (intA a2.c3_3)]) (ty := 24) rfl (show mget _ 0 = _ from (by first | rfl | (simp (disch := first | decide | assumption) only [mpushs_nil, mpushs_cons, mget_hd, mget_tl, mget_appW_o, mget_appW_n, mget_appW_e])))) okB_nil'))
theorem sg6 {n : Nat} {a0 : List TRunwayMove} {a1 : List TRunwaySpan} {a2 : TWakeTable} {a3 : List TRunwayReady} {t : ρ6} (h : g6 n a0 a1 a2 a3 = some t) : Says Try.prog KK.gl 6 [(lstA TRunwayMove.E a0), (lstA TRunwaySpan.E a1), (AV.agg [(intA a2.c0_0), (intA a2.c0_1), (intA a2.c0_2), (intA a2.c0_3), (intA a2.c1_0), (intA a2.c1_1), (intA a2.c1_2), (intA a2.c1_3), (intA a2.c2_0), (intA a2.c2_1), (intA a2.c2_2), (intA a2.c2_3), (intA a2.c3_0), (intA a2.c3_1), (intA a2.c3_2), (intA a2.c3_3)]), (lstA TRunwayReady.E a3)] ((boolA t)) :=
  says_of_own (by first | rfl | simp [cleans, clean, encs_clean, En.cln]) (by first | rfl | simp [cleans, clean, encs_clean, En.cln]) (F6_own (lstA TRunwayMove.E a0) (lstA TRunwaySpan.E a1) a2.c0_0 a2.c0_1 a2.c0_2 a2.c0_3 a2.c1_0 a2.c1_1 a2.c1_2 a2.c1_3 a2.c2_0 a2.c2_1 a2.c2_2 a2.c2_3 a2.c3_0 a2.c3_1 a2.c3_2 a2.c3_3 (lstA TRunwayReady.E a3) _ (g6_ok n a0 a1 a2 a3 (Ans ((boolA t))) (fun r e u m h => by rw [e]; exact h) h))
/- slices.Index[[]skyway/api.RunwayMove,skyway/api.RunwayMove] -/
theorem B24_0_ok (n : Nat) (a0 : List TRunwayMove) (c4 : Int) (c7 : Int) (k0_0 : Int) (k0_1 : Int) (k0_2 : Bool) (k0_3 : Int) (v8 : Int) {t : (Int) ⊕ ρ24} (R : AV → Mem → Prop) (N0 : St → Prop) (hR : ∀ r : ρ24, t = (.inr r) → ∀ u m, Ans ((intA r)) u m → R u m) (hN0 : ∀ y : Int, t = (.inl y) → ∀ s' : St, Weak KK 19 0 s' (h24_0 (lstA TRunwayMove.E a0) c4 c7 y k0_0 k0_1 k0_2 k0_3 []) → N0 s') : S24_0 n a0 c4 c7 k0_0 k0_1 k0_2 k0_3 v8 = some t → B24_0 (lstA TRunwayMove.E a0) c4 c7 v8 k0_0 k0_1 k0_2 k0_3 [] R N0 := by
  unfold S24_0 B24_0
  refine cond_b (fun _ => ?_) (fun _ => ?_)
  · refine bind_b fun x134 h134 => ?_
    refine imp (opP_of (show _ = some ((AV.ept [(intA x134.Time), (intA x134.Wake), (boolA x134.Departs), (intA x134.End)] 0), []) from (idx_lst (E := TRunwayMove.E) rfl h134))) ?_
    refine imp (opP_of (show _ = some ((AV.agg [(intA x134.Time), (intA x134.Wake), (boolA x134.Departs), (intA x134.End)]), []) from rfl)) ?_
    refine imp exA4_b ?_
    refine imp ex_i64_b ?_
    refine imp ex_i64_b ?_
    refine imp exB_b ?_
    refine imp ex_i64_b ?_
    refine imp (opP_of (show _ = some ((boolA (decide ((⟨k0_0, k0_1, k0_2, k0_3⟩ : TRunwayMove) = x134))), []) from (TRunwayMove.eql52 ((⟨k0_0, k0_1, k0_2, k0_3⟩ : TRunwayMove)) (x134)))) ?_
    refine imp exB_b ?_
    refine cond_b (fun _ => ?_) (fun _ => ?_)
    · exact fun hg => ret1 (hR _ (Option.some.inj hg).symm) (fz_sc _ _)
    · exact fun hg => hN0 _ (Option.some.inj hg).symm _ (weak_mem [(0, 0)] rfl rfl rfl (okW_cons (ent_lst (E := TRunwayMove.E) _ false) (okW_cons (.inl (leV_refl _)) (okW_cons (.inl (leV_refl _)) (okW_cons (.inl (leV_refl _)) (okW_cons (.inl (leV_refl _)) okW_nil))))) (okB_cons (okB_cells (cs := [(intA k0_0), (intA k0_1), (boolA k0_2), (intA k0_3)]) (ty := 52) rfl (show mget _ 0 = _ from (by first | rfl | (simp (disch := first | decide | assumption) only [mpushs_nil, mpushs_cons, mget_hd, mget_tl, mget_appW_o, mget_appW_n, mget_appW_e])))) okB_nil'))
  · exact fun hg => ret1 (hR _ (Option.some.inj hg).symm) (fz_sc _ _)
theorem L24_0_ok (n : Nat) (a0 : List TRunwayMove) (c4 : Int) (c7 : Int) (k0_0 : Int) (k0_1 : Int) (k0_2 : Bool) (k0_3 : Int) {t : ρ24} (R : AV → Mem → Prop) (hR : ∀ r : ρ24, t = r → ∀ u m, Ans ((intA r)) u m → R u m) (k : Nat) (x : Int) (hx : iterO (fun y : Int => S24_0 n a0 c4 c7 k0_0 k0_1 k0_2 k0_3 y) k x = some t) {s : St} (hw : Weak KK 19 0 s (h24_0 (lstA TRunwayMove.E a0) c4 c7 x k0_0 k0_1 k0_2 k0_3 [])) : Tri Try.prog KK 19 0 (.loop c24_0) s (q24_0 R ) :=
  L24_0 R  (σ := Nat × (Int)) (fun z => iterO (fun y : Int => S24_0 n a0 c4 c7 k0_0 k0_1 k0_2 k0_3 y) z.1 z.2 = some t) (fun z => (lstA TRunwayMove.E a0)) (fun z => c4) (fun z => c7) (fun z => z.2) (fun z => k0_0) (fun z => k0_1) (fun z => k0_2) (fun z => k0_3) (fun z => []) (fun z => z.1) (by
    rintro ⟨k, y⟩ h
    cases k with
    | zero => exact (iterO_zero h).elim
    | succ k =>
      obtain ⟨u, h1, h2, h3⟩ := iterO_elim h
      exact B24_0_ok n a0 c4 c7 k0_0 k0_1 k0_2 k0_3 y R  _ (fun r e => hR r (h3 _ e).symm)  (fun y' e s' hw => ⟨(k, y'), h2 _ e, Nat.lt_succ_self k, hw⟩) h1) (k, x) hx hw
theorem g24_ok (n : Nat) (a0 : List TRunwayMove) (a1 : TRunwayMove) {t : ρ24} (R : AV → Mem → Prop) (hR : ∀ r : ρ24, t = r → ∀ u m, Ans ((intA r)) u m → R u m) : g24 n a0 a1 = some t → F24 (lstA TRunwayMove.E a0) a1.Time a1.Wake a1.Departs a1.End R := by
  unfold g24 F24
  refine imp (opP_of (show _ = some ((intA (a0.length : Int)), []) from rfl)) ?_
  refine imp ex_i64_b ?_
  exact fun hg => L24_0_ok n a0 (0) (a0.length : Int) a1.Time a1.Wake a1.Departs a1.End R  hR n _ hg (weak_mem [(0, 0)] rfl rfl rfl (okW_cons (ent_lst (E := TRunwayMove.E) _ false) (okW_cons (.inl (leV_refl _)) (okW_cons (.inl (leV_refl _)) (okW_cons (.inl (leV_refl _)) (okW_cons (.inl (leV_refl _)) okW_nil))))) (okB_cons (okB_cells (cs := [(intA a1.Time), (intA a1.Wake), (boolA a1.Departs), (intA a1.End)]) (ty := 52) rfl (show mget _ 0 = _ from (by first | rfl | (simp (disch := first | decide | assumption) only [mpushs_nil, mpushs_cons, mget_hd, mget_tl, mget_appW_o, mget_appW_n, mget_appW_e])))) okB_nil'))
theorem sg24 {n : Nat} {a0 : List TRunwayMove} {a1 : TRunwayMove} {t : ρ24} (h : g24 n a0 a1 = some t) : Says Try.prog KK.gl 24 [(lstA TRunwayMove.E a0), (AV.agg [(intA a1.Time), (intA a1.Wake), (boolA a1.Departs), (intA a1.End)])] ((intA t)) :=
  says_of_own (by first | rfl | simp [cleans, clean, encs_clean, En.cln]) (by first | rfl | simp [cleans, clean, encs_clean, En.cln]) (F24_own (lstA TRunwayMove.E a0) a1.Time a1.Wake a1.Departs a1.End _ (g24_ok n a0 a1 (Ans ((intA t))) (fun r e u m h => by rw [e]; exact h) h))
/- skyway/skywaykeep3.RunwayKeeps$1 -/
theorem g27_ok (n : Nat) (a0 : TRunwayMove) {t : ρ27} (R : AV → Mem → Prop) (hR : ∀ r : ρ27, t = r → ∀ u m, Ans ((boolA r)) u m → R u m) : g27 n a0 = some t → F27 a0.Time a0.Wake a0.Departs a0.End R := by
  unfold g27 F27
  exact fun hg => ret1 (hR _ (Option.some.inj hg).symm) (fz_sc _ _)
theorem sg27 {n : Nat} {a0 : TRunwayMove} {t : ρ27} (h : g27 n a0 = some t) : Says Try.prog KK.gl 27 [(AV.agg [(intA a0.Time), (intA a0.Wake), (boolA a0.Departs), (intA a0.End)])] ((boolA t)) :=
  says_of_own (by first | rfl | simp [cleans, clean, encs_clean, En.cln]) (by first | rfl | simp [cleans, clean, encs_clean, En.cln]) (F27_own a0.Time a0.Wake a0.Departs a0.End _ (g27_ok n a0 (Ans ((boolA t))) (fun r e u m h => by rw [e]; exact h) h))
/- slices.IndexFunc[[]skyway/api.RunwayMove,skyway/api.RunwayMove] -/
theorem B47_0_x1_ok (n : Nat) (a0 : List TRunwayMove) (c4 : Int) (c7 : Int) (v8 : Int) {t : (Int) ⊕ ρ47} (R : AV → Mem → Prop) (N0 : St → Prop) (hR : ∀ r : ρ47, t = (.inr r) → ∀ u m, Ans ((intA r)) u m → R u m) (hN0 : ∀ y : Int, t = (.inl y) → ∀ s' : St, Weak KK 19 0 s' (h47_0 (lstA TRunwayMove.E a0) (AV.fn 27 []) c4 c7 y []) → N0 s') : S47_0_x1 n a0 c4 c7 v8 = some t → B47_0 (lstA TRunwayMove.E a0) (AV.fn 27 []) c4 c7 v8 [] R N0 := by
  unfold S47_0_x1 B47_0
  refine cond_b (fun _ => ?_) (fun _ => ?_)
  · refine bind_b fun x137 h137 => ?_
    refine imp (opP_of (show _ = some ((AV.ept [(intA x137.Time), (intA x137.Wake), (boolA x137.Departs), (intA x137.End)] 0), []) from (idx_lst (E := TRunwayMove.E) rfl h137))) ?_
    refine imp (opP_of (show _ = some ((AV.agg [(intA x137.Time), (intA x137.Wake), (boolA x137.Departs), (intA x137.End)]), []) from rfl)) ?_
    refine imp exA4_b ?_
    refine imp ex_i64_b ?_
    refine imp ex_i64_b ?_
    refine imp exB_b ?_
    refine imp ex_i64_b ?_
    refine bind_b fun x138 h138 => ?_
    refine imp fnArgs_b ?_
    refine imp (cond_tt rfl) ?_
    refine imp (callQ_says (sg27 h138)) ?_
    refine imp exB_b ?_
    refine cond_b (fun _ => ?_) (fun _ => ?_)
    · exact fun hg => ret1 (hR _ (Option.some.inj hg).symm) (fz_sc _ _)
    · exact fun hg => hN0 _ (Option.some.inj hg).symm _ (weak_mem [] rfl rfl rfl (okW_cons (ent_lst (E := TRunwayMove.E) _ false) (okW_cons (.inl (leV_refl _)) (okW_cons (.inl (leV_refl _)) (okW_cons (.inl (leV_refl _)) (okW_cons (.inl (leV_refl _)) okW_nil))))) okB_nil')
  · exact fun hg => ret1 (hR _ (Option.some.inj hg).symm) (fz_sc _ _)
theorem L47_0_x1_ok (n : Nat) (a0 : List TRunwayMove) (c4 : Int) (c7 : Int) {t : ρ47} (R : AV → Mem → Prop) (hR : ∀ r : ρ47, t = r → ∀ u m, Ans ((intA r)) u m → R u m) (k : Nat) (x : Int) (hx : iterO (fun y : Int => S47_0_x1 n a0 c4 c7 y) k x = some t) {s : St} (hw : Weak KK 19 0 s (h47_0 (lstA TRunwayMove.E a0) (AV.fn 27 []) c4 c7 x [])) : Tri Try.prog KK 19 0 (.loop c47_0) s (q47_0 R ) :=
  L47_0 R  (σ := Nat × (Int)) (fun z => iterO (fun y : Int => S47_0_x1 n a0 c4 c7 y) z.1 z.2 = some t) (fun z => (lstA TRunwayMove.E a0)) (fun z => (AV.fn 27 [])) (fun z => c4) (fun z => c7) (fun z => z.2) (fun z => []) (fun z => z.1) (by
    rintro ⟨k, y⟩ h
    cases k with
    | zero => exact (iterO_zero h).elim
    | succ k =>
      obtain ⟨u, h1, h2, h3⟩ := iterO_elim h
      exact B47_0_x1_ok n a0 c4 c7 y R  _ (fun r e => hR r (h3 _ e).symm)  (fun y' e s' hw => ⟨(k, y'), h2 _ e, Nat.lt_succ_self k, hw⟩) h1) (k, x) hx hw
theorem g47_1_ok (n : Nat) (a0 : List TRunwayMove) {t : ρ47} (R : AV → Mem → Prop) (hR : ∀ r : ρ47, t = r → ∀ u m, Ans ((intA r)) u m → R u m) : g47_1 n a0 = some t → F47 (lstA TRunwayMove.E a0) (AV.fn 27 []) R := by
  unfold g47_1 F47
  refine imp (opP_of (show _ = some ((intA (a0.length : Int)), []) from rfl)) ?_
  refine imp ex_i64_b ?_
  exact fun hg => L47_0_x1_ok n a0 (0) (a0.length : Int) R  hR n _ hg (weak_mem [] rfl rfl rfl (okW_cons (ent_lst (E := TRunwayMove.E) _ false) (okW_cons (.inl (leV_refl _)) (okW_cons (.inl (leV_refl _)) (okW_cons (.inl (leV_refl _)) (okW_cons (.inl (leV_refl _)) okW_nil))))) okB_nil')
theorem sg47_1 {n : Nat} {a0 : List TRunwayMove} {t : ρ47} (h : g47_1 n a0 = some t) : Says Try.prog KK.gl 47 [(lstA TRunwayMove.E a0), (AV.fn 27 [])] ((intA t)) :=
  says_of_own (by first | rfl | simp [cleans, clean, encs_clean, En.cln]) (by first | rfl | simp [cleans, clean, encs_clean, En.cln]) (F47_own (lstA TRunwayMove.E a0) (AV.fn 27 []) _ (g47_1_ok n a0 (Ans ((intA t))) (fun r e u m h => by rw [e]; exact h) h))
/- slices.ContainsFunc[[]skyway/api.RunwayMove,skyway/api.RunwayMove] -/
theorem g26_ok (n : Nat) (a0 : List TRunwayMove) {t : ρ26} (R : AV → Mem → Prop) (hR : ∀ r : ρ26, t = r → ∀ u m, Ans ((boolA r)) u m → R u m) : g26 n a0 = some t → F26 (lstA TRunwayMove.E a0) (AV.fn 27 []) R := by
  unfold g26 F26
  refine bind_b fun x139 h139 => ?_
  refine imp (callQ_says (sg47_1 h139)) ?_
  refine imp ex_i64_b ?_
  exact fun hg => ret1 (hR _ (Option.some.inj hg).symm) (fz_sc _ _)
theorem sg26 {n : Nat} {a0 : List TRunwayMove} {t : ρ26} (h : g26 n a0 = some t) : Says Try.prog KK.gl 26 [(lstA TRunwayMove.E a0), (AV.fn 27 [])] ((boolA t)) :=
  says_of_own (by first | rfl | simp [cleans, clean, encs_clean, En.cln]) (by first | rfl | simp [cleans, clean, encs_clean, En.cln]) (F26_own (lstA TRunwayMove.E a0) (AV.fn 27 []) _ (g26_ok n a0 (Ans ((boolA t))) (fun r e u m h => by rw [e]; exact h) h))
/- skyway/skywaykeep3.RunwayKeeps -/
theorem B7_0_ok (n : Nat) (c8 : Bool) (a0 : List TRunwayMove) (c56 : Int) (v57 : Int) (L90000 : List TRunwayMove) {t : (Int × List TRunwayMove) ⊕ ρ7} (R : AV → Mem → Prop) (N0 : St → Prop) (hR : ∀ r : ρ7, t = (.inr r) → ∀ u m, Ans ((boolA r)) u m → R u m) (hN0 : ∀ y : Int × List TRunwayMove, t = (.inl y) → ∀ s' : St, Weak KK 75 0 s' (h7_0 c8 (ownW TRunwayMove.E 90000 y.2) (lstA TRunwayMove.E a0) c56 y.1 [(90000, ownB TRunwayMove.E 52 y.2)]) → N0 s') : S7_0 n c8 a0 c56 v57 L90000 = some t → B7_0 c8 (ownW TRunwayMove.E 90000 L90000) (lstA TRunwayMove.E a0) c56 v57 [(90000, ownB TRunwayMove.E 52 L90000)] R N0 := by
  unfold S7_0 B7_0
  refine cond_b (fun _ => ?_) (fun _ => ?_)
  · refine bind_b fun x133 h133 => ?_
    refine imp (opP_of (show _ = some ((AV.ept [(intA x133.Time), (intA x133.Wake), (boolA x133.Departs), (intA x133.End)] 0), []) from (idx_lst (E := TRunwayMove.E) rfl h133))) ?_
    refine imp (opP_of (show _ = some ((AV.agg [(intA x133.Time), (intA x133.Wake), (boolA x133.Departs), (intA x133.End)]), []) from rfl)) ?_
    refine imp exA4_b ?_
    refine imp ex_i64_b ?_
    refine imp ex_i64_b ?_
    refine imp exB_b ?_
    refine imp ex_i64_b ?_
    refine bind_b fun x135 h135 => ?_
    refine imp (callQ_pure (pure_snapN (snL_cons (sn_ow (E := TRunwayMove.E) (ty := 52) (l' := L90000) _ TRunwayMove.nf rfl (by first | rfl | (simp (disch := first | decide | assumption) only [mpushs_nil, mpushs_cons, mget_hd, mget_tl, mget_appW_o, mget_appW_n, mget_appW_e]))) (snL_cons (sn_agg _ (snL_cons (sn_sc _ _) (snL_cons (sn_sc _ _) (snL_cons (sn_sc _ _) (snL_cons (sn_sc _ _) snL_nil))))) snL_nil)) (sg24 h135) rfl)) ?_
    refine imp ex_i64_b ?_
    refine cond_b (fun _ => ?_) (fun _ => ?_)
    · exact fun hg => ret1 (hR _ (Option.some.inj hg).symm) (fz_sc _ _)
    · refine bind_b fun x136 h136 => ?_
      refine imp (callW_D (show PureD _ _ _ _ _ _ (ownW TRunwayMove.E 100078 x136) [(100078, ownB TRunwayMove.E 52 x136), (90000, none)] from delw25 rfl (by first | rfl | (simp (disch := first | decide | assumption) only [mpushs_nil, mpushs_cons, mget_hd, mget_tl, mget_appW_o, mget_appW_n, mget_appW_e])) (by decide) h136)) ?_
      exact fun hg => hN0 _ (Option.some.inj hg).symm _ (weak_mem [(90000, 100078)] rfl rfl rfl (okW_cons (.inl (leV_refl _)) (okW_cons (ent_ow (E := TRunwayMove.E) (id := 100078) (l' := x136) rfl rfl) (okW_cons (ent_lst (E := TRunwayMove.E) _ false) (okW_cons (.inl (leV_refl _)) (okW_cons (.inl (leV_refl _)) okW_nil))))) (okB_cons (okB_own (E := TRunwayMove.E) (ty := 52) (l' := x136) rfl (show mget _ 100078 = _ from (by first | rfl | (simp (disch := first | decide | assumption) only [mpushs_nil, mpushs_cons, mget_hd, mget_tl, mget_appW_o, mget_appW_n, mget_appW_e])))) okB_nil'))
  · refine bind_b fun x140 h140 => ?_
    refine imp (callQ_pure (pure_snapN (snL_cons (sn_ow (E := TRunwayMove.E) (ty := 52) (l' := L90000) _ TRunwayMove.nf rfl (by first | rfl | (simp (disch := first | decide | assumption) only [mpushs_nil, mpushs_cons, mget_hd, mget_tl, mget_appW_o, mget_appW_n, mget_appW_e]))) (snL_cons (sn_fn _ _ snL_nil) snL_nil)) (sg26 h140) rfl)) ?_
    refine imp exB_b ?_
    exact fun hg => ret1 (hR _ (Option.some.inj hg).symm) (fz_sc _ _)
theorem L7_0_ok (n : Nat) (c8 : Bool) (a0 : List TRunwayMove) (c56 : Int) {t : ρ7} (R : AV → Mem → Prop) (hR : ∀ r : ρ7, t = r → ∀ u m, Ans ((boolA r)) u m → R u m) (k : Nat) (x : Int × List TRunwayMove) (hx : iterO (fun y : Int × List TRunwayMove => S7_0 n c8 a0 c56 y.1 y.2) k x = some t) {s : St} (hw : Weak KK 75 0 s (h7_0 c8 (ownW TRunwayMove.E 90000 x.2) (lstA TRunwayMove.E a0) c56 x.1 [(90000, ownB TRunwayMove.E 52 x.2)])) : Tri Try.prog KK 75 0 (.loop c7_0) s (q7_0 R ) :=
  L7_0 R  (σ := Nat × (Int × List TRunwayMove)) (fun z => iterO (fun y : Int × List TRunwayMove => S7_0 n c8 a0 c56 y.1 y.2) z.1 z.2 = some t) (fun z => c8) (fun z => (ownW TRunwayMove.E 90000 z.2.2)) (fun z => (lstA TRunwayMove.E a0)) (fun z => c56) (fun z => z.2.1) (fun z => [(90000, ownB TRunwayMove.E 52 z.2.2)]) (fun z => z.1) (by
    rintro ⟨k, y⟩ h
    cases k with
    | zero => exact (iterO_zero h).elim
    | succ k =>
      obtain ⟨u, h1, h2, h3⟩ := iterO_elim h
      exact B7_0_ok n c8 a0 c56 y.1 y.2 R  _ (fun r e => hR r (h3 _ e).symm)  (fun y' e s' hw => ⟨(k, y'), h2 _ e, Nat.lt_succ_self k, hw⟩) h1) (k, x) hx hw
theorem g7_ok (n : Nat) (a0 : List TRunwayMove) (a1 : List TRunwaySpan) (a2 : TWakeTable) (a3 : List TRunwayReady) {t : ρ7} (R : AV → Mem → Prop) (hR : ∀ r : ρ7, t = r → ∀ u m, Ans ((boolA r)) u m → R u m) : g7 n a0 a1 a2 a3 = some t → F7 (lstA TRunwayMove.E a0) (lstA TRunwaySpan.E a1) a2.c0_0 a2.c0_1 a2.c0_2 a2.c0_3 a2.c1_0 a2.c1_1 a2.c1_2 a2.c1_3 a2.c2_0 a2.c2_1 a2.c2_2 a2.c2_3 a2.c3_0 a2.c3_1 a2.c3_2 a2.c3_3 (lstA TRunwayReady.E a3) R := by
  unfold g7 F7
  refine bind_b fun x129 h129 => ?_
  refine imp (callQ_says (sg17 h129)) ?_
  refine imp exB_b ?_
  refine cond_b (fun _ => ?_) (fun _ => ?_)
  · exact fun hg => ret1 (hR _ (Option.some.inj hg).symm) (fz_sc _ _)
  · refine bind_b fun x130 h130 => ?_
    refine imp (callW_D (show PureD _ _ _ _ _ _ (AV.tup [(ownV TRunwayMove.E 71 x130.1), (intA x130.2)]) [(71, ownB TRunwayMove.E 52 x130.1)] from mg21C h130)) ?_
    refine imp exT2_b ?_
    refine imp ex_i64_b ?_
    refine cond_b (fun _ => ?_) (fun _ => ?_)
    · refine imp (opP_of (show _ = some ((intA (x130.1.length : Int)), []) from len_own)) ?_
      refine imp ex_i64_b ?_
      exact fun hg => ret1 (hR _ (Option.some.inj hg).symm) (fz_sc _ _)
    · refine imp (opP_of (show _ = some ((AV.agg [(intA a2.c0_0), (intA a2.c0_1), (intA a2.c0_2), (intA a2.c0_3), (intA a2.c1_0), (intA a2.c1_1), (intA a2.c1_2), (intA a2.c1_3), (intA a2.c2_0), (intA a2.c2_1), (intA a2.c2_2), (intA a2.c2_3), (intA a2.c3_0), (intA a2.c3_1), (intA a2.c3_2), (intA a2.c3_3)]), []) from (ldA_ptr (b := ⟨[(intA a2.c0_0), (intA a2.c0_1), (intA a2.c0_2), (intA a2.c0_3), (intA a2.c1_0), (intA a2.c1_1), (intA a2.c1_2), (intA a2.c1_3), (intA a2.c2_0), (intA a2.c2_1), (intA a2.c2_2), (intA a2.c2_3), (intA a2.c3_0), (intA a2.c3_1), (intA a2.c3_2), (intA a2.c3_3)], 24⟩) (by first | rfl | (simp (disch := first | decide | assumption) only [mpushs_nil, mpushs_cons, mget_hd, mget_tl, mget_appW_o, mget_appW_n, mget_appW_e])) rfl))) ?_
      refine imp exA16_b ?_
      refine imp ex_i64_b ?_
      refine imp ex_i64_b ?_
      refine imp ex_i64_b ?_
      refine imp ex_i64_b ?_
      refine imp ex_i64_b ?_
      refine imp ex_i64_b ?_
      refine imp ex_i64_b ?_
      refine imp ex_i64_b ?_
      refine imp ex_i64_b ?_
      refine imp ex_i64_b ?_
      refine imp ex_i64_b ?_
      refine imp ex_i64_b ?_
      refine imp ex_i64_b ?_
      refine imp ex_i64_b ?_
      refine imp ex_i64_b ?_
      refine imp ex_i64_b ?_
      refine bind_b fun x131 h131 => ?_
      refine imp (callQ_pure (pure_snapN (snL_cons (sn_own (E := TRunwayMove.E) (ty := 52) (l' := x130.1) _ TRunwayMove.nf rfl (by first | rfl | (simp (disch := first | decide | assumption) only [mpushs_nil, mpushs_cons, mget_hd, mget_tl, mget_appW_o, mget_appW_n, mget_appW_e]))) (snL_cons (sn_lst (E := TRunwaySpan.E) _ _ false) (snL_cons (sn_agg _ (snL_cons (sn_sc _ _) (snL_cons (sn_sc _ _) (snL_cons (sn_sc _ _) (snL_cons (sn_sc _ _) (snL_cons (sn_sc _ _) (snL_cons (sn_sc _ _) (snL_cons (sn_sc _ _) (snL_cons (sn_sc _ _) (snL_cons (sn_sc _ _) (snL_cons (sn_sc _ _) (snL_cons (sn_sc _ _) (snL_cons (sn_sc _ _) (snL_cons (sn_sc _ _) (snL_cons (sn_sc _ _) (snL_cons (sn_sc _ _) (snL_cons (sn_sc _ _) snL_nil))))))))))))))))) snL_nil))) (sg19 h131) rfl)) ?_
      refine imp exT3_b ?_
      refine imp ex_i64_b ?_
      refine imp ex_i64_b ?_
      refine imp ex_i64_b ?_
      refine cond_b (fun _ => ?_) (fun _ => ?_)
      · exact fun hg => ret1 (hR _ (Option.some.inj hg).symm) (fz_sc _ _)
      · refine imp (opP_of (show _ = some ((intA (x130.1.length : Int)), []) from len_own)) ?_
        refine imp ex_i64_b ?_
        refine imp (opP_of (show _ = some ((intA (a0.length : Int)), []) from rfl)) ?_
        refine imp ex_i64_b ?_
        refine imp (opP_of (show _ = some ((intA (a3.length : Int)), []) from rfl)) ?_
        refine imp ex_i64_b ?_
        refine cond_b (fun _ => ?_) (fun _ => ?_)
        · exact fun hg => ret1 (hR _ (Option.some.inj hg).symm) (fz_sc _ _)
        · refine bind_b fun x132 h132 => ?_
          refine imp (callW_D (show PureD _ _ _ _ _ _ (ownV TRunwayMove.E 229 x130.1) [(229, ownB TRunwayMove.E 52 x130.1)] from cloneS23 h132 (snL_cons (sn_own (E := TRunwayMove.E) (ty := 52) (l' := x130.1) _ TRunwayMove.nf rfl (by first | rfl | (simp (disch := first | decide | assumption) only [mpushs_nil, mpushs_cons, mget_hd, mget_tl, mget_appW_o, mget_appW_n, mget_appW_e]))) snL_nil))) ?_
          refine imp (opP_of (show _ = some ((intA (a0.length : Int)), []) from rfl)) ?_
          refine imp ex_i64_b ?_
          exact fun hg => L7_0_ok n false a0 (a0.length : Int) R  hR n _ hg (weak_mem [(90000, 229)] rfl rfl rfl (okW_cons (.inl (leV_refl _)) (okW_cons (ent_own_ow (E := TRunwayMove.E) (id := 229) (l' := x130.1) rfl rfl) (okW_cons (ent_lst (E := TRunwayMove.E) _ false) (okW_cons (.inl (leV_refl _)) (okW_cons (.inl (leV_refl _)) okW_nil))))) (okB_cons (okB_own (E := TRunwayMove.E) (ty := 52) (l' := x130.1) rfl (show mget _ 229 = _ from (by first | rfl | (simp (disch := first | decide | assumption) only [mpushs_nil, mpushs_cons, mget_hd, mget_tl, mget_appW_o, mget_appW_n, mget_appW_e])))) okB_nil'))
theorem sg7 {n : Nat} {a0 : List TRunwayMove} {a1 : List TRunwaySpan} {a2 : TWakeTable} {a3 : List TRunwayReady} {t : ρ7} (h : g7 n a0 a1 a2 a3 = some t) : Says Try.prog KK.gl 7 [(lstA TRunwayMove.E a0), (lstA TRunwaySpan.E a1), (AV.agg [(intA a2.c0_0), (intA a2.c0_1), (intA a2.c0_2), (intA a2.c0_3), (intA a2.c1_0), (intA a2.c1_1), (intA a2.c1_2), (intA a2.c1_3), (intA a2.c2_0), (intA a2.c2_1), (intA a2.c2_2), (intA a2.c2_3), (intA a2.c3_0), (intA a2.c3_1), (intA a2.c3_2), (intA a2.c3_3)]), (lstA TRunwayReady.E a3)] ((boolA t)) :=
  says_of_own (by first | rfl | simp [cleans, clean, encs_clean, En.cln]) (by first | rfl | simp [cleans, clean, encs_clean, En.cln]) (F7_own (lstA TRunwayMove.E a0) (lstA TRunwaySpan.E a1) a2.c0_0 a2.c0_1 a2.c0_2 a2.c0_3 a2.c1_0 a2.c1_1 a2.c1_2 a2.c1_3 a2.c2_0 a2.c2_1 a2.c2_2 a2.c2_3 a2.c3_0 a2.c3_1 a2.c3_2 a2.c3_3 (lstA TRunwayReady.E a3) _ (g7_ok n a0 a1 a2 a3 (Ans ((boolA t))) (fun r e u m h => by rw [e]; exact h) h))
end Go.Proofs.Ytfmodgffhbljoaa
