/- Plain functional programs out of the program's functions, with proofs that the functions compute them; printed by wip/Ext.lean.txt. -/
import Derived.Test.YtlgbioidkbeanaaX1E2
import Derived.Test.YtlgbioidkbeanaaJbH
import Derived.Test.YtlgbioidkbeanaaJrH
import Derived.Test.YtlgbioidkbeanaaJdH
import Derived.Test.YtlgbioidkbeanaaJfH
set_option linter.unusedVariables false
set_option linter.unusedSimpArgs false
set_option maxRecDepth 100000
set_option maxHeartbeats 4000000
namespace Go.Proofs.Ytlgbioidkbeanaa
/- skyway/skywaykeep3.JointEither -/
theorem g3_ok (n : Nat) (a0 : List (List TJointOption)) (a1 : TSep) {t : ρ3} (R : AV → Mem → Prop) (hR : ∀ r : ρ3, t = r → ∀ u m, Ans ((boolA r)) u m → R u m) : g3 n a0 a1 = some t → F3 (lstA (lstE TJointOption.E) a0) a1.Lateral a1.Vertical R := by
  unfold g3 F3
  refine bind_b fun x69 h69 => ?_
  refine imp (callQ_says (sg7 h69)) ?_
  refine imp exB_b ?_
  refine cond_b (fun _ => ?_) (fun _ => ?_)
  · exact fun hg => ret1 (hR _ (Option.some.inj hg).symm) (fz_sc _ _)
  · refine bind_b fun x77 h77 => ?_
    refine imp (callQ_says (sg8 h77)) ?_
    refine imp exB_b ?_
    refine cond_b (fun _ => ?_) (fun _ => ?_)
    · exact fun hg => ret1 (hR _ (Option.some.inj hg).symm) (fz_sc _ _)
    · refine bind_b fun x78 h78 => ?_
      refine imp (callW_says (sg9 h78)) ?_
      refine imp exT3_b ?_
      refine imp ex_i64_b ?_
      refine imp ex_i64_b ?_
      refine imp (opP_of (show _ = some ((AV.agg [(intA a1.Lateral), (intA a1.Vertical)]), []) from (ldA_ptr (b := ⟨[(intA a1.Lateral), (intA a1.Vertical)], 24⟩) (by first | rfl | (simp (disch := first | decide | assumption) only [mpushs_nil, mpushs_cons, mget_hd, mget_tl, mget_appW_o, mget_appW_n, mget_appW_e])) rfl))) ?_
      refine imp exA2_b ?_
      refine imp ex_i64_b ?_
      refine imp ex_i64_b ?_
      refine bind_b fun x79 h79 => ?_
      refine imp (callW_says (sg10 h79)) ?_
      refine imp exT2_b ?_
      refine imp ex_i64_b ?_
      refine cond_b (fun _ => ?_) (fun _ => ?_)
      · refine cond_b (fun _ => ?_) (fun _ => ?_)
        · refine imp (opP_of (show _ = some ((intA (x79.1.length : Int)), []) from rfl)) ?_
          refine imp ex_i64_b ?_
          refine cond_b (fun _ => ?_) (fun _ => ?_)
          · refine imp (opP_of (show _ = some ((intA (x78.1.length : Int)), []) from rfl)) ?_
            refine imp ex_i64_b ?_
            refine imp (opP_of (show _ = some ((intA (a0.length : Int)), []) from rfl)) ?_
            refine imp ex_i64_b ?_
            exact fun hg => ret1 (hR _ (Option.some.inj hg).symm) (fz_sc _ _)
          · exact fun hg => ret1 (hR _ (Option.some.inj hg).symm) (fz_sc _ _)
        · exact fun hg => ret1 (hR _ (Option.some.inj hg).symm) (fz_sc _ _)
      · refine cond_b (fun _ => ?_) (fun _ => ?_)
        · refine imp (opP_of (show _ = some ((intA (x78.1.length : Int)), []) from rfl)) ?_
          refine imp ex_i64_b ?_
          refine cond_b (fun _ => ?_) (fun _ => ?_)
          · refine cond_b (fun _ => ?_) (fun _ => ?_)
            · refine imp (opP_of (show _ = some ((AV.agg [(intA a1.Lateral), (intA a1.Vertical)]), []) from (ldA_ptr (b := ⟨[(intA a1.Lateral), (intA a1.Vertical)], 24⟩) (by first | rfl | (simp (disch := first | decide | assumption) only [mpushs_nil, mpushs_cons, mget_hd, mget_tl, mget_appW_o, mget_appW_n, mget_appW_e])) rfl))) ?_
              refine imp exA2_b ?_
              refine imp ex_i64_b ?_
              refine imp ex_i64_b ?_
              refine bind_b fun x80 h80 => ?_
              refine imp (callW_says (sg11 h80)) ?_
              refine imp ex_i64_b ?_
              refine cond_b (fun _ => ?_) (fun _ => ?_)
              · exact fun hg => ret1 (hR _ (Option.some.inj hg).symm) (fz_sc _ _)
              · exact fun hg => ret1 (hR _ (Option.some.inj hg).symm) (fz_sc _ _)
            · exact fun hg => ret1 (hR _ (Option.some.inj hg).symm) (fz_sc _ _)
          · exact fun hg => ret1 (hR _ (Option.some.inj hg).symm) (fz_sc _ _)
        · refine cond_b (fun _ => ?_) (fun _ => ?_)
          · refine imp (opP_of (show _ = some ((intA (x79.1.length : Int)), []) from rfl)) ?_
            refine imp ex_i64_b ?_
            exact fun hg => ret1 (hR _ (Option.some.inj hg).symm) (fz_sc _ _)
          · exact fun hg => ret1 (hR _ (Option.some.inj hg).symm) (fz_sc _ _)
theorem sg3 {n : Nat} {a0 : List (List TJointOption)} {a1 : TSep} {t : ρ3} (h : g3 n a0 a1 = some t) : Says Try.prog KK.gl 3 [(lstA (lstE TJointOption.E) a0), (AV.agg [(intA a1.Lateral), (intA a1.Vertical)])] ((boolA t)) :=
  says_of_own (by first | rfl | simp [cleans, clean, encs_clean, En.cln]) (by first | rfl | simp [cleans, clean, encs_clean, En.cln]) (F3_own (lstA (lstE TJointOption.E) a0) a1.Lateral a1.Vertical _ (g3_ok n a0 a1 (Ans ((boolA t))) (fun r e u m h => by rw [e]; exact h) h))
/- skyway/skywaykeep3.pick -/
theorem g14_ok (n : Nat) (a0 : Int) (a1 : Int) {t : ρ14} (R : AV → Mem → Prop) (hR : ∀ r : ρ14, t = r → ∀ u m, Ans ((intA r)) u m → R u m) : g14 n a0 a1 = some t → F14 a0 a1 R := by
  unfold g14 F14
  refine imp (opP_of (show _ = some ((AV.sc (.int .u64 (IntKind.wrap .u64 a0))), []) from (by kernel_rfl))) ?_
  refine imp ex_u64_b ?_
  refine imp (opP_of (show _ = some ((AV.sc (.int .u64 (IntKind.wrap .u64 a1))), []) from (by kernel_rfl))) ?_
  refine imp ex_u64_b ?_
  refine bind_b fun x84 h84 => ?_
  refine imp (opP_of (show _ = some ((AV.sc (.int .u64 x84)), []) from (opA_rem h84))) ?_
  refine imp ex_u64_b ?_
  refine imp (opP_of (show _ = some ((intA (IntKind.wrap .i64 x84)), []) from (by kernel_rfl))) ?_
  refine imp ex_i64_b ?_
  exact fun hg => ret1 (hR _ (Option.some.inj hg).symm) (fz_sc _ _)
theorem sg14 {n : Nat} {a0 : Int} {a1 : Int} {t : ρ14} (h : g14 n a0 a1 = some t) : Says Try.prog KK.gl 14 [(intA a0), (intA a1)] ((intA t)) :=
  says_of_own (by first | rfl | simp [cleans, clean, encs_clean, En.cln]) (by first | rfl | simp [cleans, clean, encs_clean, En.cln]) (F14_own a0 a1 _ (g14_ok n a0 a1 (Ans ((intA t))) (fun r e u m h => by rw [e]; exact h) h))
/- skyway/skywaykeep3.JointNeeds -/
theorem B5_0_ok (n : Nat) (a0 : List (List TJointOption)) (c8 : Bool) (c76 : Int) (k0_0 : Int) (k0_1 : Int) (v77 : Int) (L90000 : List TJointRefuted) (L90001 : List TJointRefuted) (L90002 : List TJointRefuted) {t : (Int × List TJointRefuted × List TJointRefuted × List TJointRefuted) ⊕ ρ5} (R : AV → Mem → Prop) (N0 : St → Prop) (hR : ∀ r : ρ5, t = (.inr r) → ∀ u m, Ans ((boolA r)) u m → R u m) (hN0 : ∀ y : Int × List TJointRefuted × List TJointRefuted × List TJointRefuted, t = (.inl y) → ∀ s' : St, Weak KK 87 0 s' (h5_0 (lstA (lstE TJointOption.E) a0) c8 (AV.sl 506 0 1 3 3 true) c76 y.1 [(0, some ⟨[(intA k0_0), (intA k0_1)], 24⟩), (90000, some ⟨encs TJointRefuted.E y.2.1, 49⟩), (90001, ownB TJointRefuted.E 49 y.2.2.1), (90002, ownB TJointRefuted.E 49 y.2.2.2), (506, some ⟨[(blkW TJointRefuted.E 90000 y.2.1), (ownV TJointRefuted.E 90001 y.2.2.1), (ownV TJointRefuted.E 90002 y.2.2.2)], 31⟩)]) → N0 s') : S5_0 n a0 c8 c76 k0_0 k0_1 v77 L90000 L90001 L90002 = some t → B5_0 (lstA (lstE TJointOption.E) a0) c8 (AV.sl 506 0 1 3 3 true) c76 v77 [(0, some ⟨[(intA k0_0), (intA k0_1)], 24⟩), (90000, some ⟨encs TJointRefuted.E L90000, 49⟩), (90001, ownB TJointRefuted.E 49 L90001), (90002, ownB TJointRefuted.E 49 L90002), (506, some ⟨[(blkW TJointRefuted.E 90000 L90000), (ownV TJointRefuted.E 90001 L90001), (ownV TJointRefuted.E 90002 L90002)], 31⟩)] R N0 := by
  unfold S5_0 B5_0
  refine cond_b (fun _ => ?_) (fun _ => ?_)
  · refine cond_g (fun e95 => ?_) (fun _ => ?_)
    · refine imp (opP_of (show _ = some ((AV.ptr 506 0), []) from idx_at (n := 3) (j := 0) e95 (by decide))) ?_
      refine imp (opP_of (show _ = some ((blkW TJointRefuted.E 90000 L90000), []) from (ldS_ptr (b := ⟨[(blkW TJointRefuted.E 90000 L90000), (ownV TJointRefuted.E 90001 L90001), (ownV TJointRefuted.E 90002 L90002)], 31⟩) (by first | rfl | (simp (disch := first | decide | assumption) only [mpushs_nil, mpushs_cons, mget_hd, mget_tl, mget_appW_o, mget_appW_n, mget_appW_e])) rfl))) ?_
      refine imp (opP_of (show _ = some ((AV.agg [(intA k0_0), (intA k0_1)]), []) from (ldA_ptr (b := ⟨[(intA k0_0), (intA k0_1)], 24⟩) (by first | rfl | (simp (disch := first | decide | assumption) only [mpushs_nil, mpushs_cons, mget_hd, mget_tl, mget_appW_o, mget_appW_n, mget_appW_e])) rfl))) ?_
      refine imp exA2_b ?_
      refine imp ex_i64_b ?_
      refine imp ex_i64_b ?_
      refine bind_b fun x96 h96 => ?_
      refine imp (callW_pure (pure_snapN (snL_cons (sn_lst (E := (lstE TJointOption.E)) _ _ false) (snL_cons (sn_agg _ (snL_cons (sn_sc _ _) (snL_cons (sn_sc _ _) snL_nil))) (snL_cons (sn_bw (E := TJointRefuted.E) (ty := 49) (l' := L90000) _ TJointRefuted.nf rfl (by first | rfl | (simp (disch := first | decide | assumption) only [mpushs_nil, mpushs_cons, mget_hd, mget_tl, mget_appW_o, mget_appW_n, mget_appW_e]))) snL_nil))) (sg11 h96) rfl)) ?_
      refine imp ex_i64_b ?_
      refine cond_b (fun _ => ?_) (fun _ => ?_)
      · exact fun hg => ret1 (hR _ (Option.some.inj hg).symm) (fz_sc _ _)
      · exact fun hg => hN0 _ (Option.some.inj hg).symm _ (weak_mem [(0, 0), (90000, 90000), (90001, 90001), (90002, 90002), (506, 506)] rfl rfl rfl (okW_cons (ent_lst (E := (lstE TJointOption.E)) _ false) (okW_cons (.inl (leV_refl _)) (okW_cons (.inl (leV_refl _)) (okW_cons (.inl (leV_refl _)) (okW_cons (.inl (leV_refl _)) (okW_cons (.inl (leV_refl _)) okW_nil)))))) (okB_cons (okB_cells (cs := [(intA k0_0), (intA k0_1)]) (ty := 24) rfl (show mget _ 0 = _ from (by first | rfl | (simp (disch := first | decide | assumption) only [mpushs_nil, mpushs_cons, mget_hd, mget_tl, mget_appW_o, mget_appW_n, mget_appW_e])))) (okB_cons (okB_cells (cs := encs TJointRefuted.E L90000) (ty := 49) (encs_clean _) (show mget _ 90000 = _ from (by first | rfl | (simp (disch := first | decide | assumption) only [mpushs_nil, mpushs_cons, mget_hd, mget_tl, mget_appW_o, mget_appW_n, mget_appW_e])))) (okB_cons (okB_own (E := TJointRefuted.E) (ty := 49) (l' := L90001) rfl (show mget _ 90001 = _ from (by first | rfl | (simp (disch := first | decide | assumption) only [mpushs_nil, mpushs_cons, mget_hd, mget_tl, mget_appW_o, mget_appW_n, mget_appW_e])))) (okB_cons (okB_own (E := TJointRefuted.E) (ty := 49) (l' := L90002) rfl (show mget _ 90002 = _ from (by first | rfl | (simp (disch := first | decide | assumption) only [mpushs_nil, mpushs_cons, mget_hd, mget_tl, mget_appW_o, mget_appW_n, mget_appW_e])))) (okB_cons (okB_cellsR (us := [(blkW TJointRefuted.E 90000 L90000), (ownV TJointRefuted.E 90001 L90001), (ownV TJointRefuted.E 90002 L90002)]) (ty := 31) (rensL_cons (leV_eq (congrArg (fun k => AV.sl 90000 0 TJointRefuted.E.size k k false) (show (_ : List _).length = (_ : List _).length from rfl))) (rensL_cons (ren_own (E := TJointRefuted.E) (j := 90001) (id := 90001) (l' := L90001) rfl rfl) (rensL_cons (ren_own (E := TJointRefuted.E) (j := 90002) (id := 90002) (l' := L90002) rfl rfl) rensL_nil))) (show mget _ 506 = _ from (by first | rfl | (simp (disch := first | decide | assumption) only [mpushs_nil, mpushs_cons, mget_hd, mget_tl, mget_appW_o, mget_appW_n, mget_appW_e])))) okB_nil'))))))
    · refine cond_g (fun e97 => ?_) (fun _ => ?_)
      · refine imp (opP_of (show _ = some ((AV.ptr 506 1), []) from idx_at (n := 3) (j := 1) e97 (by decide))) ?_
        refine imp (opP_of (show _ = some ((ownV TJointRefuted.E 90001 L90001), []) from (ldS_ptr (b := ⟨[(blkW TJointRefuted.E 90000 L90000), (ownV TJointRefuted.E 90001 L90001), (ownV TJointRefuted.E 90002 L90002)], 31⟩) (by first | rfl | (simp (disch := first | decide | assumption) only [mpushs_nil, mpushs_cons, mget_hd, mget_tl, mget_appW_o, mget_appW_n, mget_appW_e])) rfl))) ?_
        refine imp (opP_of (show _ = some ((AV.agg [(intA k0_0), (intA k0_1)]), []) from (ldA_ptr (b := ⟨[(intA k0_0), (intA k0_1)], 24⟩) (by first | rfl | (simp (disch := first | decide | assumption) only [mpushs_nil, mpushs_cons, mget_hd, mget_tl, mget_appW_o, mget_appW_n, mget_appW_e])) rfl))) ?_
        refine imp exA2_b ?_
        refine imp ex_i64_b ?_
        refine imp ex_i64_b ?_
        refine bind_b fun x98 h98 => ?_
        refine imp (callW_pure (pure_snapN (snL_cons (sn_lst (E := (lstE TJointOption.E)) _ _ false) (snL_cons (sn_agg _ (snL_cons (sn_sc _ _) (snL_cons (sn_sc _ _) snL_nil))) (snL_cons (sn_own (E := TJointRefuted.E) (ty := 49) (l' := L90001) _ TJointRefuted.nf rfl (by first | rfl | (simp (disch := first | decide | assumption) only [mpushs_nil, mpushs_cons, mget_hd, mget_tl, mget_appW_o, mget_appW_n, mget_appW_e]))) snL_nil))) (sg11 h98) rfl)) ?_
        refine imp ex_i64_b ?_
        refine cond_b (fun _ => ?_) (fun _ => ?_)
        · exact fun hg => ret1 (hR _ (Option.some.inj hg).symm) (fz_sc _ _)
        · exact fun hg => hN0 _ (Option.some.inj hg).symm _ (weak_mem [(0, 0), (90000, 90000), (90001, 90001), (90002, 90002), (506, 506)] rfl rfl rfl (okW_cons (ent_lst (E := (lstE TJointOption.E)) _ false) (okW_cons (.inl (leV_refl _)) (okW_cons (.inl (leV_refl _)) (okW_cons (.inl (leV_refl _)) (okW_cons (.inl (leV_refl _)) (okW_cons (.inl (leV_refl _)) okW_nil)))))) (okB_cons (okB_cells (cs := [(intA k0_0), (intA k0_1)]) (ty := 24) rfl (show mget _ 0 = _ from (by first | rfl | (simp (disch := first | decide | assumption) only [mpushs_nil, mpushs_cons, mget_hd, mget_tl, mget_appW_o, mget_appW_n, mget_appW_e])))) (okB_cons (okB_cells (cs := encs TJointRefuted.E L90000) (ty := 49) (encs_clean _) (show mget _ 90000 = _ from (by first | rfl | (simp (disch := first | decide | assumption) only [mpushs_nil, mpushs_cons, mget_hd, mget_tl, mget_appW_o, mget_appW_n, mget_appW_e])))) (okB_cons (okB_own (E := TJointRefuted.E) (ty := 49) (l' := L90001) rfl (show mget _ 90001 = _ from (by first | rfl | (simp (disch := first | decide | assumption) only [mpushs_nil, mpushs_cons, mget_hd, mget_tl, mget_appW_o, mget_appW_n, mget_appW_e])))) (okB_cons (okB_own (E := TJointRefuted.E) (ty := 49) (l' := L90002) rfl (show mget _ 90002 = _ from (by first | rfl | (simp (disch := first | decide | assumption) only [mpushs_nil, mpushs_cons, mget_hd, mget_tl, mget_appW_o, mget_appW_n, mget_appW_e])))) (okB_cons (okB_cellsR (us := [(blkW TJointRefuted.E 90000 L90000), (ownV TJointRefuted.E 90001 L90001), (ownV TJointRefuted.E 90002 L90002)]) (ty := 31) (rensL_cons (leV_eq (congrArg (fun k => AV.sl 90000 0 TJointRefuted.E.size k k false) (show (_ : List _).length = (_ : List _).length from rfl))) (rensL_cons (ren_own (E := TJointRefuted.E) (j := 90001) (id := 90001) (l' := L90001) rfl rfl) (rensL_cons (ren_own (E := TJointRefuted.E) (j := 90002) (id := 90002) (l' := L90002) rfl rfl) rensL_nil))) (show mget _ 506 = _ from (by first | rfl | (simp (disch := first | decide | assumption) only [mpushs_nil, mpushs_cons, mget_hd, mget_tl, mget_appW_o, mget_appW_n, mget_appW_e])))) okB_nil'))))))
      · refine cond_g (fun e99 => ?_) (fun _ => ?_)
        · refine imp (opP_of (show _ = some ((AV.ptr 506 2), []) from idx_at (n := 3) (j := 2) e99 (by decide))) ?_
          refine imp (opP_of (show _ = some ((ownV TJointRefuted.E 90002 L90002), []) from (ldS_ptr (b := ⟨[(blkW TJointRefuted.E 90000 L90000), (ownV TJointRefuted.E 90001 L90001), (ownV TJointRefuted.E 90002 L90002)], 31⟩) (by first | rfl | (simp (disch := first | decide | assumption) only [mpushs_nil, mpushs_cons, mget_hd, mget_tl, mget_appW_o, mget_appW_n, mget_appW_e])) rfl))) ?_
          refine imp (opP_of (show _ = some ((AV.agg [(intA k0_0), (intA k0_1)]), []) from (ldA_ptr (b := ⟨[(intA k0_0), (intA k0_1)], 24⟩) (by first | rfl | (simp (disch := first | decide | assumption) only [mpushs_nil, mpushs_cons, mget_hd, mget_tl, mget_appW_o, mget_appW_n, mget_appW_e])) rfl))) ?_
          refine imp exA2_b ?_
          refine imp ex_i64_b ?_
          refine imp ex_i64_b ?_
          refine bind_b fun x100 h100 => ?_
          refine imp (callW_pure (pure_snapN (snL_cons (sn_lst (E := (lstE TJointOption.E)) _ _ false) (snL_cons (sn_agg _ (snL_cons (sn_sc _ _) (snL_cons (sn_sc _ _) snL_nil))) (snL_cons (sn_own (E := TJointRefuted.E) (ty := 49) (l' := L90002) _ TJointRefuted.nf rfl (by first | rfl | (simp (disch := first | decide | assumption) only [mpushs_nil, mpushs_cons, mget_hd, mget_tl, mget_appW_o, mget_appW_n, mget_appW_e]))) snL_nil))) (sg11 h100) rfl)) ?_
          refine imp ex_i64_b ?_
          refine cond_b (fun _ => ?_) (fun _ => ?_)
          · exact fun hg => ret1 (hR _ (Option.some.inj hg).symm) (fz_sc _ _)
          · exact fun hg => hN0 _ (Option.some.inj hg).symm _ (weak_mem [(0, 0), (90000, 90000), (90001, 90001), (90002, 90002), (506, 506)] rfl rfl rfl (okW_cons (ent_lst (E := (lstE TJointOption.E)) _ false) (okW_cons (.inl (leV_refl _)) (okW_cons (.inl (leV_refl _)) (okW_cons (.inl (leV_refl _)) (okW_cons (.inl (leV_refl _)) (okW_cons (.inl (leV_refl _)) okW_nil)))))) (okB_cons (okB_cells (cs := [(intA k0_0), (intA k0_1)]) (ty := 24) rfl (show mget _ 0 = _ from (by first | rfl | (simp (disch := first | decide | assumption) only [mpushs_nil, mpushs_cons, mget_hd, mget_tl, mget_appW_o, mget_appW_n, mget_appW_e])))) (okB_cons (okB_cells (cs := encs TJointRefuted.E L90000) (ty := 49) (encs_clean _) (show mget _ 90000 = _ from (by first | rfl | (simp (disch := first | decide | assumption) only [mpushs_nil, mpushs_cons, mget_hd, mget_tl, mget_appW_o, mget_appW_n, mget_appW_e])))) (okB_cons (okB_own (E := TJointRefuted.E) (ty := 49) (l' := L90001) rfl (show mget _ 90001 = _ from (by first | rfl | (simp (disch := first | decide | assumption) only [mpushs_nil, mpushs_cons, mget_hd, mget_tl, mget_appW_o, mget_appW_n, mget_appW_e])))) (okB_cons (okB_own (E := TJointRefuted.E) (ty := 49) (l' := L90002) rfl (show mget _ 90002 = _ from (by first | rfl | (simp (disch := first | decide | assumption) only [mpushs_nil, mpushs_cons, mget_hd, mget_tl, mget_appW_o, mget_appW_n, mget_appW_e])))) (okB_cons (okB_cellsR (us := [(blkW TJointRefuted.E 90000 L90000), (ownV TJointRefuted.E 90001 L90001), (ownV TJointRefuted.E 90002 L90002)]) (ty := 31) (rensL_cons (leV_eq (congrArg (fun k => AV.sl 90000 0 TJointRefuted.E.size k k false) (show (_ : List _).length = (_ : List _).length from rfl))) (rensL_cons (ren_own (E := TJointRefuted.E) (j := 90001) (id := 90001) (l' := L90001) rfl rfl) (rensL_cons (ren_own (E := TJointRefuted.E) (j := 90002) (id := 90002) (l' := L90002) rfl rfl) rensL_nil))) (show mget _ 506 = _ from (by first | rfl | (simp (disch := first | decide | assumption) only [mpushs_nil, mpushs_cons, mget_hd, mget_tl, mget_appW_o, mget_appW_n, mget_appW_e])))) okB_nil'))))))
        · exact fun h => by cases h
  · exact fun hg => ret1 (hR _ (Option.some.inj hg).symm) (fz_sc _ _)
theorem L5_0_ok (n : Nat) (a0 : List (List TJointOption)) (c8 : Bool) (c76 : Int) (k0_0 : Int) (k0_1 : Int) {t : ρ5} (R : AV → Mem → Prop) (hR : ∀ r : ρ5, t = r → ∀ u m, Ans ((boolA r)) u m → R u m) (k : Nat) (x : Int × List TJointRefuted × List TJointRefuted × List TJointRefuted) (hx : iterO (fun y : Int × List TJointRefuted × List TJointRefuted × List TJointRefuted => S5_0 n a0 c8 c76 k0_0 k0_1 y.1 y.2.1 y.2.2.1 y.2.2.2) k x = some t) {s : St} (hw : Weak KK 87 0 s (h5_0 (lstA (lstE TJointOption.E) a0) c8 (AV.sl 506 0 1 3 3 true) c76 x.1 [(0, some ⟨[(intA k0_0), (intA k0_1)], 24⟩), (90000, some ⟨encs TJointRefuted.E x.2.1, 49⟩), (90001, ownB TJointRefuted.E 49 x.2.2.1), (90002, ownB TJointRefuted.E 49 x.2.2.2), (506, some ⟨[(blkW TJointRefuted.E 90000 x.2.1), (ownV TJointRefuted.E 90001 x.2.2.1), (ownV TJointRefuted.E 90002 x.2.2.2)], 31⟩)])) : Tri Try.prog KK 87 0 (.loop c5_0) s (q5_0 R ) :=
  L5_0 R  (σ := Nat × (Int × List TJointRefuted × List TJointRefuted × List TJointRefuted)) (fun z => iterO (fun y : Int × List TJointRefuted × List TJointRefuted × List TJointRefuted => S5_0 n a0 c8 c76 k0_0 k0_1 y.1 y.2.1 y.2.2.1 y.2.2.2) z.1 z.2 = some t) (fun z => (lstA (lstE TJointOption.E) a0)) (fun z => c8) (fun z => (AV.sl 506 0 1 3 3 true)) (fun z => c76) (fun z => z.2.1) (fun z => [(0, some ⟨[(intA k0_0), (intA k0_1)], 24⟩), (90000, some ⟨encs TJointRefuted.E z.2.2.1, 49⟩), (90001, ownB TJointRefuted.E 49 z.2.2.2.1), (90002, ownB TJointRefuted.E 49 z.2.2.2.2), (506, some ⟨[(blkW TJointRefuted.E 90000 z.2.2.1), (ownV TJointRefuted.E 90001 z.2.2.2.1), (ownV TJointRefuted.E 90002 z.2.2.2.2)], 31⟩)]) (fun z => z.1) (by
    rintro ⟨k, y⟩ h
    cases k with
    | zero => exact (iterO_zero h).elim
    | succ k =>
      obtain ⟨u, h1, h2, h3⟩ := iterO_elim h
      exact B5_0_ok n a0 c8 c76 k0_0 k0_1 y.1 y.2.1 y.2.2.1 y.2.2.2 R  _ (fun r e => hR r (h3 _ e).symm)  (fun y' e s' hw => ⟨(k, y'), h2 _ e, Nat.lt_succ_self k, hw⟩) h1) (k, x) hx hw
theorem g5_ok (n : Nat) (a0 : List (List TJointOption)) (a1 : TSep) (a2 : Int) (a3 : Int) {t : ρ5} (R : AV → Mem → Prop) (hR : ∀ r : ρ5, t = r → ∀ u m, Ans ((boolA r)) u m → R u m) : g5 n a0 a1 a2 a3 = some t → F5 (lstA (lstE TJointOption.E) a0) a1.Lateral a1.Vertical a2 a3 R := by
  unfold g5 F5
  refine bind_b fun x81 h81 => ?_
  refine imp (callQ_says (sg7 h81)) ?_
  refine imp exB_b ?_
  refine cond_b (fun _ => ?_) (fun _ => ?_)
  · exact fun hg => ret1 (hR _ (Option.some.inj hg).symm) (fz_sc _ _)
  · refine bind_b fun x82 h82 => ?_
    refine imp (callQ_says (sg8 h82)) ?_
    refine imp exB_b ?_
    refine cond_b (fun _ => ?_) (fun _ => ?_)
    · exact fun hg => ret1 (hR _ (Option.some.inj hg).symm) (fz_sc _ _)
    · refine bind_b fun x83 h83 => ?_
      refine imp (callW_says (sg10 h83)) ?_
      refine imp exT2_b ?_
      refine imp ex_i64_b ?_
      refine cond_b (fun _ => ?_) (fun _ => ?_)
      · refine imp (opP_of (show _ = some ((intA (x83.1.length : Int)), []) from rfl)) ?_
        refine imp ex_i64_b ?_
        exact fun hg => ret1 (hR _ (Option.some.inj hg).symm) (fz_sc _ _)
      · refine imp (opP_of (show _ = some ((intA (x83.1.length : Int)), []) from rfl)) ?_
        refine imp ex_i64_b ?_
        refine cond_b (fun _ => ?_) (fun _ => ?_)
        · refine imp (opP_of (show _ = some ((intA (x83.1.length : Int)), []) from rfl)) ?_
          refine imp ex_i64_b ?_
          exact fun hg => ret1 (hR _ (Option.some.inj hg).symm) (fz_sc _ _)
        · refine imp (opP_of (show _ = some ((intA (x83.1.length : Int)), []) from rfl)) ?_
          refine imp ex_i64_b ?_
          refine bind_b fun x85 h85 => ?_
          refine imp (callQ_says (sg14 h85)) ?_
          refine imp ex_i64_b ?_
          refine bind_b fun x86 h86 => ?_
          refine imp (callW_D (show PureD _ _ _ _ _ _ (ownV TJointRefuted.E 280 x83.1) [(280, ownB TJointRefuted.E 49 x83.1)] from cloneC17 h86)) ?_
          refine bind_b fun x87 h87 => ?_
          refine imp (callW_D (show PureD _ _ _ _ _ _ (blkW TJointRefuted.E 347 x87) [(347, some ⟨encs TJointRefuted.E x87, 49⟩), (280, none)] from del16 rfl (by first | rfl | (simp (disch := first | decide | assumption) only [mpushs_nil, mpushs_cons, mget_hd, mget_tl, mget_appW_o, mget_appW_n, mget_appW_e])) h87)) ?_
          refine bind_b fun x88 h88 => ?_
          refine imp (callF_D [] (show PureD _ _ _ _ _ _ (ownV TJointRefuted.E 413 x83.1) [(413, ownB TJointRefuted.E 49 x83.1)] from cloneC17 h88)) ?_
          refine bind_b fun x89 h89 => ?_
          refine imp (opM_of (show _ = some ((AV.ept [(lstA intE x89.Choice), (intA x89.With)] 0), []) from (idx_lst (E := TJointRefuted.E) rfl h89))) ?_
          refine imp (opM_of (show _ = some ((AV.agg [(lstA intE x89.Choice), (intA x89.With)]), []) from rfl)) ?_
          refine imp exA2_b ?_
          refine imp ex_i64_b ?_
          refine imp (opM_of (show _ = some ((blkV TJointRefuted.E 419 ([x89] : List TJointRefuted)), [(419, some ⟨encs TJointRefuted.E ([x89] : List TJointRefuted), 49⟩)]) from rfl)) ?_
          refine bind_b fun x90 h90 => ?_
          refine imp (callF_D [413, 419] (show PureD _ _ _ _ _ _ (ownV TJointRefuted.E 420 x90) [(420, ownB TJointRefuted.E 49 x90), (419, none), (413, none)] from ins18 rfl (by first | rfl | (rw [look'_mem (by first | rfl | simp [topId_blk] | simp [topId])]; first | rfl | (simp (disch := first | decide | assumption) only [mpushs_nil, mpushs_cons, mget_hd, mget_tl, mget_appW_o, mget_appW_n, mget_appW_e]))) rfl (by first | rfl | (rw [look'_mem (by first | rfl | simp [topId_blk] | simp [topId])]; first | rfl | (simp (disch := first | decide | assumption) only [mpushs_nil, mpushs_cons, mget_hd, mget_tl, mget_appW_o, mget_appW_n, mget_appW_e]))) (by decide) h90)) ?_
          refine imp (chk_of (by kernel_rfl)) ?_
          refine bind_b fun x91 h91 => ?_
          refine imp (callW_D (show PureD _ _ _ _ _ _ (ownV TJointRefuted.E 423 x83.1) [(423, ownB TJointRefuted.E 49 x83.1)] from cloneC17 h91)) ?_
          refine bind_b fun x92 h92 => ?_
          refine imp (opM_of (show _ = some ((AV.ptr 423 (((x85 : Int).toNat) * 2 + 0)), []) from (idx_own (E := TJointRefuted.E) rfl h92))) ?_
          refine imp (opM_of (show _ = some ((AV.ptr 423 (((x85 : Int).toNat) * 2 + 0)), []) from rfl)) ?_
          refine imp (opM_of (show _ = some ((lstA intE x92.Choice), []) from (ldS_blk (E := TJointRefuted.E) (l := x83.1) (ty := 49) (o := 0) (own_some (ty := 49) (by first | rfl | (rw [look'_mem (by first | rfl | simp [topId_blk] | simp [topId])]; first | rfl | (simp (disch := first | decide | assumption) only [mpushs_nil, mpushs_cons, mget_hd, mget_tl, mget_appW_o, mget_appW_n, mget_appW_e]))) (getI_some h92).2) (getI_some h92).2 rfl (by decide) rfl))) ?_
          refine imp (opM_of (show _ = some ((intA (x92.Choice.length : Int)), []) from rfl)) ?_
          refine imp ex_i64_b ?_
          refine bind_b fun x93 h93 => ?_
          refine imp (callF_says (sg14 h93)) ?_
          refine imp ex_i64_b ?_
          refine bind_b fun x94 h94 => ?_
          refine imp (opM_of (show _ = some ((AV.ptr 423 (((x85 : Int).toNat) * 2 + 0)), []) from (idx_own (E := TJointRefuted.E) rfl h94))) ?_
          refine imp (opM_of (show _ = some ((AV.ptr 423 (((x85 : Int).toNat) * 2 + 1)), []) from rfl)) ?_
          refine imp (storeW_elO (E := TJointRefuted.E) (l := x83.1) (i := ((x85 : Int).toNat)) (o := 1) (y := (⟨x94.Choice, (IntKind.wrap .i64 ((IntKind.wrap .i64 ((x92.Choice.length : Int) - (1))) + x93))⟩ : TJointRefuted)) (ty := 49) (by kernel_rfl) (by kernel_rfl) rfl (by first | rfl | (rw [look'_mem (by first | rfl | simp [topId_blk] | simp [topId])]; first | rfl | (simp (disch := first | decide | assumption) only [mpushs_nil, mpushs_cons, mget_hd, mget_tl, mget_appW_o, mget_appW_n, mget_appW_e]))) (getI_some h94).2 rfl (by decide) rfl) ?_
          refine imp (chk_of (by kernel_rfl)) ?_
          refine imp (opN_of (show _ = some ((AV.sl 506 0 1 3 3 true), [(506, some ⟨[(blkW TJointRefuted.E 347 x87), (ownV TJointRefuted.E 420 x90), (ownV TJointRefuted.E 423 x83.1)], 31⟩)]) from (rows3 (z := .nils) (e := 31) rfl acells_own acells_own))) ?_
          refine imp (opP_of (show _ = some ((intA (3)), []) from rfl)) ?_
          refine imp ex_i64_b ?_
          exact fun hg => L5_0_ok n a0 false (3) a1.Lateral a1.Vertical R  hR n _ hg (weak_mem [(0, 0), (90000, 347), (90001, 420), (90002, 423), (506, 506)] rfl rfl rfl (okW_cons (ent_lst (E := (lstE TJointOption.E)) _ false) (okW_cons (.inl (leV_refl _)) (okW_cons (.inl (leV_refl _)) (okW_cons (.inl (leV_refl _)) (okW_cons (.inl (leV_refl _)) (okW_cons (.inl (leV_refl _)) okW_nil)))))) (okB_cons (okB_cells (cs := [(intA a1.Lateral), (intA a1.Vertical)]) (ty := 24) rfl (show mget _ 0 = _ from (by first | rfl | (simp (disch := first | decide | assumption) only [mpushs_nil, mpushs_cons, mget_hd, mget_tl, mget_appW_o, mget_appW_n, mget_appW_e])))) (okB_cons (okB_cells (cs := encs TJointRefuted.E x87) (ty := 49) (encs_clean _) (show mget _ 347 = _ from (by first | rfl | (simp (disch := first | decide | assumption) only [mpushs_nil, mpushs_cons, mget_hd, mget_tl, mget_appW_o, mget_appW_n, mget_appW_e])))) (okB_cons (okB_own (E := TJointRefuted.E) (ty := 49) (l' := x90) rfl (show mget _ 420 = _ from (by first | rfl | (simp (disch := first | decide | assumption) only [mpushs_nil, mpushs_cons, mget_hd, mget_tl, mget_appW_o, mget_appW_n, mget_appW_e])))) (okB_cons (okB_own (E := TJointRefuted.E) (ty := 49) (l' := (x83.1.set ((x85 : Int).toNat) (⟨x94.Choice, (IntKind.wrap .i64 ((IntKind.wrap .i64 ((x92.Choice.length : Int) - (1))) + x93))⟩ : TJointRefuted))) rfl (show mget _ 423 = _ from (by first | rfl | (simp (disch := first | decide | assumption) only [mpushs_nil, mpushs_cons, mget_hd, mget_tl, mget_appW_o, mget_appW_n, mget_appW_e])))) (okB_cons (okB_cellsR (us := [(blkW TJointRefuted.E 347 x87), (ownV TJointRefuted.E 420 x90), (ownV TJointRefuted.E 423 x83.1)]) (ty := 31) (rensL_cons (leV_eq (congrArg (fun k => AV.sl 347 0 TJointRefuted.E.size k k false) (show (_ : List _).length = (_ : List _).length from rfl))) (rensL_cons (ren_own (E := TJointRefuted.E) (j := 90001) (id := 420) (l' := x90) rfl rfl) (rensL_cons (ren_own (E := TJointRefuted.E) (j := 90002) (id := 423) (l' := (x83.1.set ((x85 : Int).toNat) (⟨x94.Choice, (IntKind.wrap .i64 ((IntKind.wrap .i64 ((x92.Choice.length : Int) - (1))) + x93))⟩ : TJointRefuted))) (by first | rfl | omega | (simp; done) | (simp; omega)) rfl) rensL_nil))) (show mget _ 506 = _ from (by first | rfl | (simp (disch := first | decide | assumption) only [mpushs_nil, mpushs_cons, mget_hd, mget_tl, mget_appW_o, mget_appW_n, mget_appW_e])))) okB_nil'))))))
theorem sg5 {n : Nat} {a0 : List (List TJointOption)} {a1 : TSep} {a2 : Int} {a3 : Int} {t : ρ5} (h : g5 n a0 a1 a2 a3 = some t) : Says Try.prog KK.gl 5 [(lstA (lstE TJointOption.E) a0), (AV.agg [(intA a1.Lateral), (intA a1.Vertical)]), (intA a2), (intA a3)] ((boolA t)) :=
  says_of_own (by first | rfl | simp [cleans, clean, encs_clean, En.cln]) (by first | rfl | simp [cleans, clean, encs_clean, En.cln]) (F5_own (lstA (lstE TJointOption.E) a0) a1.Lateral a1.Vertical a2 a3 _ (g5_ok n a0 a1 a2 a3 (Ans ((boolA t))) (fun r e u m h => by rw [e]; exact h) h))
/- cmp.Or[int] -/
theorem B41_0_ok (n : Nat) (c2 : Int) (a0 : List Int) (c7 : Int) (v8 : Int) {t : (Int) ⊕ ρ41} (R : AV → Mem → Prop) (N0 : St → Prop) (hR : ∀ r : ρ41, t = (.inr r) → ∀ u m, Ans ((intA r)) u m → R u m) (hN0 : ∀ y : Int, t = (.inl y) → ∀ s' : St, Weak KK 18 0 s' (h41_0 c2 c2 (lstA intE a0) c7 y []) → N0 s') : S41_0 n c2 a0 c7 v8 = some t → B41_0 c2 c2 (lstA intE a0) c7 v8 [] R N0 := by
  unfold S41_0 B41_0
  refine cond_b (fun _ => ?_) (fun _ => ?_)
  · refine bind_b fun x120 h120 => ?_
    refine imp (opP_of (show _ = some ((AV.ept [(intA x120)] 0), []) from (idx_lst (E := intE) rfl h120))) ?_
    refine imp (opP_of (show _ = some ((intA x120), []) from rfl)) ?_
    refine imp ex_i64_b ?_
    refine cond_b (fun _ => ?_) (fun _ => ?_)
    · exact fun hg => ret1 (hR _ (Option.some.inj hg).symm) (fz_sc _ _)
    · exact fun hg => hN0 _ (Option.some.inj hg).symm _ (weak_mem [] rfl rfl rfl (okW_cons (.inl (leV_refl _)) (okW_cons (.inl (leV_refl _)) (okW_cons (ent_lst (E := intE) _ false) (okW_cons (.inl (leV_refl _)) (okW_cons (.inl (leV_refl _)) okW_nil))))) okB_nil')
  · exact fun hg => ret1 (hR _ (Option.some.inj hg).symm) (fz_sc _ _)
theorem L41_0_ok (n : Nat) (c2 : Int) (a0 : List Int) (c7 : Int) {t : ρ41} (R : AV → Mem → Prop) (hR : ∀ r : ρ41, t = r → ∀ u m, Ans ((intA r)) u m → R u m) (k : Nat) (x : Int) (hx : iterO (fun y : Int => S41_0 n c2 a0 c7 y) k x = some t) {s : St} (hw : Weak KK 18 0 s (h41_0 c2 c2 (lstA intE a0) c7 x [])) : Tri Try.prog KK 18 0 (.loop c41_0) s (q41_0 R ) :=
  L41_0 R  (σ := Nat × (Int)) (fun z => iterO (fun y : Int => S41_0 n c2 a0 c7 y) z.1 z.2 = some t) (fun z => c2) (fun z => c2) (fun z => (lstA intE a0)) (fun z => c7) (fun z => z.2) (fun z => []) (fun z => z.1) (by
    rintro ⟨k, y⟩ h
    cases k with
    | zero => exact (iterO_zero h).elim
    | succ k =>
      obtain ⟨u, h1, h2, h3⟩ := iterO_elim h
      exact B41_0_ok n c2 a0 c7 y R  _ (fun r e => hR r (h3 _ e).symm)  (fun y' e s' hw => ⟨(k, y'), h2 _ e, Nat.lt_succ_self k, hw⟩) h1) (k, x) hx hw
theorem g41_ok (n : Nat) (a0 : List Int) {t : ρ41} (R : AV → Mem → Prop) (hR : ∀ r : ρ41, t = r → ∀ u m, Ans ((intA r)) u m → R u m) : g41 n a0 = some t → F41 (lstA intE a0) R := by
  unfold g41 F41
  refine imp (opP_of (show _ = some ((intA (a0.length : Int)), []) from rfl)) ?_
  refine imp ex_i64_b ?_
  exact fun hg => L41_0_ok n (0) a0 (a0.length : Int) R  hR n _ hg (weak_mem [] rfl rfl rfl (okW_cons (.inl (leV_refl _)) (okW_cons (.inl (leV_refl _)) (okW_cons (ent_lst (E := intE) _ false) (okW_cons (.inl (leV_refl _)) (okW_cons (.inl (leV_refl _)) okW_nil))))) okB_nil')
theorem sg41 {n : Nat} {a0 : List Int} {t : ρ41} (h : g41 n a0 = some t) : Says Try.prog KK.gl 41 [(lstA intE a0)] ((intA t)) :=
  says_of_own (by first | rfl | simp [cleans, clean, encs_clean, En.cln]) (by first | rfl | simp [cleans, clean, encs_clean, En.cln]) (F41_own (lstA intE a0) _ (g41_ok n a0 (Ans ((intA t))) (fun r e u m h => by rw [e]; exact h) h))
/- skyway/probe.All$1 -/
theorem g40_ok (n : Nat) (a0 : TClash) (a1 : TClash) {t : ρ40} (R : AV → Mem → Prop) (hR : ∀ r : ρ40, t = r → ∀ u m, Ans ((intA r)) u m → R u m) : g40 n a0 a1 = some t → F40 a0.A a0.B a0.From a0.To a1.A a1.B a1.From a1.To R := by
  unfold g40 F40
  refine imp (opN_of (show _ = some ((blkV intE 18 ([(IntKind.wrap .i64 (a0.From - a1.From)), (IntKind.wrap .i64 (a0.A - a1.A)), (IntKind.wrap .i64 (a0.B - a1.B))] : List Int)), [(18, some ⟨encs intE ([(IntKind.wrap .i64 (a0.From - a1.From)), (IntKind.wrap .i64 (a0.A - a1.A)), (IntKind.wrap .i64 (a0.B - a1.B))] : List Int), 3⟩)]) from rfl)) ?_
  refine bind_b fun x121 h121 => ?_
  refine imp (callQ_pure (pure_snapN (snL_cons (sn_blk (E := intE) (ty := 3) (l' := ([(IntKind.wrap .i64 (a0.From - a1.From)), (IntKind.wrap .i64 (a0.A - a1.A)), (IntKind.wrap .i64 (a0.B - a1.B))] : List Int)) _ intE.nf rfl (by first | rfl | (simp (disch := first | decide | assumption) only [mpushs_nil, mpushs_cons, mget_hd, mget_tl, mget_appW_o, mget_appW_n, mget_appW_e]))) snL_nil) (sg41 h121) rfl)) ?_
  refine imp ex_i64_b ?_
  exact fun hg => ret1 (hR _ (Option.some.inj hg).symm) (fz_sc _ _)
theorem sg40 {n : Nat} {a0 : TClash} {a1 : TClash} {t : ρ40} (h : g40 n a0 a1 = some t) : Says Try.prog KK.gl 40 [(AV.agg [(intA a0.A), (intA a0.B), (intA a0.From), (intA a0.To)]), (AV.agg [(intA a1.A), (intA a1.B), (intA a1.From), (intA a1.To)])] ((intA t)) :=
  says_of_own (by first | rfl | simp [cleans, clean, encs_clean, En.cln]) (by first | rfl | simp [cleans, clean, encs_clean, En.cln]) (F40_own a0.A a0.B a0.From a0.To a1.A a1.B a1.From a1.To _ (g40_ok n a0 a1 (Ans ((intA t))) (fun r e u m h => by rw [e]; exact h) h))
/- skyway/probe.All -/
theorem B19_0_0_0_ok (n : Nat) (a0 : List (List TTubeNode)) (c5 : Int) (v29 : Int) (w10 : Int) (c28 : Int) (x116 : List TSpan) (c50 : Int) (k0_0 : Int) (k0_1 : Int) (u51 : Int) (L90000 : List TClash) {t : (Int × List TClash) ⊕ ((Int × List TClash) ⊕ ((Int × List TClash) ⊕ ρ19))} (R : AV → Mem → Prop) (N0 : St → Prop) (N1 : St → Prop) (N2 : St → Prop) (hR : ∀ r : ρ19, t = (.inr (.inr (.inr r))) → ∀ u m, Ans ((AV.tup [(lstA TClash.E r.1), (intA r.2)])) u m → R u m) (hN0 : ∀ y : Int × List TClash, t = (.inr (.inr (.inl y))) → ∀ s' : St, Weak KK 74 0 s' (h19_0 (lstA (lstE TTubeNode.E) a0) AV.nils c5 (ownV TClash.E 90000 y.2) c28 y.1 k0_0 k0_1 [(90000, ownB TClash.E 89 y.2)]) → N0 s') (hN1 : ∀ y : Int × List TClash, t = (.inr (.inl y)) → ∀ s' : St, Weak KK 74 0 s' (h19_0_0 (lstA (lstE TTubeNode.E) a0) AV.nils c5 (ownV TClash.E 90000 y.2) v29 y.1 c28 v29 k0_0 k0_1 [(90000, ownB TClash.E 89 y.2)]) → N1 s') (hN2 : ∀ y : Int × List TClash, t = (.inl y) → ∀ s' : St, Weak KK 74 0 s' (h19_0_0_0 (lstA (lstE TTubeNode.E) a0) AV.nils c5 (ownV TClash.E 90000 y.2) v29 w10 c28 v29 (lstA TSpan.E x116) c50 y.1 k0_0 k0_1 [(90000, ownB TClash.E 89 y.2)]) → N2 s') : S19_0_0_0 n a0 c5 v29 w10 c28 x116 c50 k0_0 k0_1 u51 L90000 = some t → B19_0_0_0 (lstA (lstE TTubeNode.E) a0) AV.nils c5 (ownV TClash.E 90000 L90000) v29 w10 c28 v29 (lstA TSpan.E x116) c50 u51 k0_0 k0_1 [(90000, ownB TClash.E 89 L90000)] R N0 N1 N2 := by
  unfold S19_0_0_0 B19_0_0_0
  refine cond_b (fun _ => ?_) (fun _ => ?_)
  · refine bind_b fun x117 h117 => ?_
    refine imp (opP_of (show _ = some ((AV.ept [(intA x117.From), (intA x117.To)] 0), []) from (idx_lst (E := TSpan.E) rfl h117))) ?_
    refine imp (opP_of (show _ = some ((AV.agg [(intA x117.From), (intA x117.To)]), []) from rfl)) ?_
    refine imp exA2_b ?_
    refine imp ex_i64_b ?_
    refine imp ex_i64_b ?_
    refine imp (opP_of (show _ = some ((AV.agg [(intA v29), (intA w10), (intA x117.From), (intA (IntKind.wrap .i64 (x117.To - (1))))]), []) from rfl)) ?_
    refine imp (opN_of (show _ = some ((blkV TClash.E 300014 ([(⟨v29, w10, x117.From, (IntKind.wrap .i64 (x117.To - (1)))⟩ : TClash)] : List TClash)), [(300014, some ⟨encs TClash.E ([(⟨v29, w10, x117.From, (IntKind.wrap .i64 (x117.To - (1)))⟩ : TClash)] : List TClash), 89⟩)]) from rfl)) ?_
    refine bind_b fun x119 h119 => ?_
    refine imp (opN_of (show _ = some ((ownV TClash.E 300015 (L90000 ++ ([(⟨v29, w10, x117.From, (IntKind.wrap .i64 (x117.To - (1)))⟩ : TClash)] : List TClash))), (appW TClash.E 300015 90000 89 L90000 ([(⟨v29, w10, x117.From, (IntKind.wrap .i64 (x117.To - (1)))⟩ : TClash)] : List TClash))) from (app_own (E := TClash.E) (l' := L90000) (xs := ([(⟨v29, w10, x117.From, (IntKind.wrap .i64 (x117.To - (1)))⟩ : TClash)] : List TClash)) rfl rfl (cellsOf_blk (E := TClash.E) (ty := 89) rfl rfl (by first | rfl | (simp (disch := first | decide | assumption) only [mpushs_nil, mpushs_cons, mget_hd, mget_tl, mget_appW_o, mget_appW_n, mget_appW_e]))) (by first | assumption | simp) rfl (fun hne => Eq.trans (by first | rfl | (simp (disch := first | decide | assumption) only [mpushs_nil, mpushs_cons, mget_hd, mget_tl, mget_appW_o, mget_appW_n, mget_appW_e])) (ownB_ne hne)) h119))) ?_
    exact fun hg => hN2 _ (Option.some.inj hg).symm _ (weak_mem [(90000, 300015), (0, 0)] rfl rfl rfl (okW_cons (ent_lst (E := (lstE TTubeNode.E)) _ false) (okW_cons (.inl (leV_refl _)) (okW_cons (.inl (leV_refl _)) (okW_cons (.inl (leV_refl _)) (okW_cons (ent_own (E := TClash.E) (id := 300015) (l' := (L90000 ++ ([(⟨v29, w10, x117.From, (IntKind.wrap .i64 (x117.To - (1)))⟩ : TClash)] : List TClash))) rfl rfl) (okW_cons (.inl (leV_refl _)) (okW_cons (.inl (leV_refl _)) (okW_cons (.inl (leV_refl _)) (okW_cons (.inl (leV_refl _)) (okW_cons (ent_lst (E := TSpan.E) _ false) (okW_cons (.inl (leV_refl _)) (okW_cons (.inl (leV_refl _)) okW_nil)))))))))))) (okB_cons (okB_cells (cs := [(intA k0_0), (intA k0_1)]) (ty := 24) rfl (show mget _ 0 = _ from (by first | rfl | (simp (disch := first | decide | assumption) only [mpushs_nil, mpushs_cons, mget_hd, mget_tl, mget_appW_o, mget_appW_n, mget_appW_e])))) (okB_cons (okB_own (E := TClash.E) (ty := 89) (l' := (L90000 ++ ([(⟨v29, w10, x117.From, (IntKind.wrap .i64 (x117.To - (1)))⟩ : TClash)] : List TClash))) rfl (show mget _ 300015 = _ from (by first | rfl | (simp (disch := first | decide | assumption) only [mpushs_nil, mpushs_cons, mget_hd, mget_tl, mget_appW_o, mget_appW_n, mget_appW_e])))) okB_nil')))
  · exact fun hg => hN1 _ (Option.some.inj hg).symm _ (weak_mem [(90000, 90000), (0, 0)] rfl rfl rfl (okW_cons (ent_lst (E := (lstE TTubeNode.E)) _ false) (okW_cons (.inl (leV_refl _)) (okW_cons (.inl (leV_refl _)) (okW_cons (.inl (leV_refl _)) (okW_cons (ent_own (E := TClash.E) (id := 90000) (l' := L90000) rfl rfl) (okW_cons (.inl (leV_refl _)) (okW_cons (.inl (leV_refl _)) (okW_cons (.inl (leV_refl _)) (okW_cons (.inl (leV_refl _)) okW_nil))))))))) (okB_cons (okB_cells (cs := [(intA k0_0), (intA k0_1)]) (ty := 24) rfl (show mget _ 0 = _ from (by first | rfl | (simp (disch := first | decide | assumption) only [mpushs_nil, mpushs_cons, mget_hd, mget_tl, mget_appW_o, mget_appW_n, mget_appW_e])))) (okB_cons (okB_own (E := TClash.E) (ty := 89) (l' := L90000) rfl (show mget _ 90000 = _ from (by first | rfl | (simp (disch := first | decide | assumption) only [mpushs_nil, mpushs_cons, mget_hd, mget_tl, mget_appW_o, mget_appW_n, mget_appW_e])))) okB_nil')))
theorem L19_0_0_0_ok (n : Nat) (a0 : List (List TTubeNode)) (c5 : Int) (v29 : Int) (w10 : Int) (c28 : Int) (x116 : List TSpan) (c50 : Int) (k0_0 : Int) (k0_1 : Int) {t : ((Int × List TClash) ⊕ ((Int × List TClash) ⊕ ρ19))} (R : AV → Mem → Prop) (N0 : St → Prop) (N1 : St → Prop) (hR : ∀ r : ρ19, t = (.inr (.inr r)) → ∀ u m, Ans ((AV.tup [(lstA TClash.E r.1), (intA r.2)])) u m → R u m) (hN0 : ∀ y : Int × List TClash, t = (.inr (.inl y)) → ∀ s' : St, Weak KK 74 0 s' (h19_0 (lstA (lstE TTubeNode.E) a0) AV.nils c5 (ownV TClash.E 90000 y.2) c28 y.1 k0_0 k0_1 [(90000, ownB TClash.E 89 y.2)]) → N0 s') (hN1 : ∀ y : Int × List TClash, t = (.inl y) → ∀ s' : St, Weak KK 74 0 s' (h19_0_0 (lstA (lstE TTubeNode.E) a0) AV.nils c5 (ownV TClash.E 90000 y.2) v29 y.1 c28 v29 k0_0 k0_1 [(90000, ownB TClash.E 89 y.2)]) → N1 s') (k : Nat) (x : Int × List TClash) (hx : iterO (fun y : Int × List TClash => S19_0_0_0 n a0 c5 v29 w10 c28 x116 c50 k0_0 k0_1 y.1 y.2) k x = some t) {s : St} (hw : Weak KK 74 0 s (h19_0_0_0 (lstA (lstE TTubeNode.E) a0) AV.nils c5 (ownV TClash.E 90000 x.2) v29 w10 c28 v29 (lstA TSpan.E x116) c50 x.1 k0_0 k0_1 [(90000, ownB TClash.E 89 x.2)])) : Tri Try.prog KK 74 0 (.loop c19_0_0_0) s (q19_0_0_0 R N0 N1) :=
  L19_0_0_0 R N0 N1 (σ := Nat × (Int × List TClash)) (fun z => iterO (fun y : Int × List TClash => S19_0_0_0 n a0 c5 v29 w10 c28 x116 c50 k0_0 k0_1 y.1 y.2) z.1 z.2 = some t) (fun z => (lstA (lstE TTubeNode.E) a0)) (fun z => AV.nils) (fun z => c5) (fun z => (ownV TClash.E 90000 z.2.2)) (fun z => v29) (fun z => w10) (fun z => c28) (fun z => v29) (fun z => (lstA TSpan.E x116)) (fun z => c50) (fun z => z.2.1) (fun z => k0_0) (fun z => k0_1) (fun z => [(90000, ownB TClash.E 89 z.2.2)]) (fun z => z.1) (by
    rintro ⟨k, y⟩ h
    cases k with
    | zero => exact (iterO_zero h).elim
    | succ k =>
      obtain ⟨u, h1, h2, h3⟩ := iterO_elim h
      exact B19_0_0_0_ok n a0 c5 v29 w10 c28 x116 c50 k0_0 k0_1 y.1 y.2 R N0 N1 _ (fun r e => hR r (h3 _ e).symm) (fun y' e => hN0 y' (h3 _ e).symm) (fun y' e => hN1 y' (h3 _ e).symm) (fun y' e s' hw => ⟨(k, y'), h2 _ e, Nat.lt_succ_self k, hw⟩) h1) (k, x) hx hw
theorem B19_0_0_ok (n : Nat) (a0 : List (List TTubeNode)) (c5 : Int) (v29 : Int) (c28 : Int) (k0_0 : Int) (k0_1 : Int) (w10 : Int) (L90000 : List TClash) {t : (Int × List TClash) ⊕ ((Int × List TClash) ⊕ ρ19)} (R : AV → Mem → Prop) (N0 : St → Prop) (N1 : St → Prop) (hR : ∀ r : ρ19, t = (.inr (.inr r)) → ∀ u m, Ans ((AV.tup [(lstA TClash.E r.1), (intA r.2)])) u m → R u m) (hN0 : ∀ y : Int × List TClash, t = (.inr (.inl y)) → ∀ s' : St, Weak KK 74 0 s' (h19_0 (lstA (lstE TTubeNode.E) a0) AV.nils c5 (ownV TClash.E 90000 y.2) c28 y.1 k0_0 k0_1 [(90000, ownB TClash.E 89 y.2)]) → N0 s') (hN1 : ∀ y : Int × List TClash, t = (.inl y) → ∀ s' : St, Weak KK 74 0 s' (h19_0_0 (lstA (lstE TTubeNode.E) a0) AV.nils c5 (ownV TClash.E 90000 y.2) v29 y.1 c28 v29 k0_0 k0_1 [(90000, ownB TClash.E 89 y.2)]) → N1 s') : S19_0_0 n a0 c5 v29 c28 k0_0 k0_1 w10 L90000 = some t → B19_0_0 (lstA (lstE TTubeNode.E) a0) AV.nils c5 (ownV TClash.E 90000 L90000) v29 w10 c28 v29 k0_0 k0_1 [(90000, ownB TClash.E 89 L90000)] R N0 N1 := by
  unfold S19_0_0 B19_0_0
  refine imp (opP_of (show _ = some ((intA (a0.length : Int)), []) from rfl)) ?_
  refine imp ex_i64_b ?_
  refine cond_b (fun _ => ?_) (fun _ => ?_)
  · refine bind_b fun x114 h114 => ?_
    refine imp (opP_of (show _ = some ((AV.ept [(lstA TTubeNode.E x114)] 0), []) from (idx_lst (E := (lstE TTubeNode.E)) rfl h114))) ?_
    refine imp (opP_of (show _ = some ((lstA TTubeNode.E x114), []) from rfl)) ?_
    refine bind_b fun x115 h115 => ?_
    refine imp (opP_of (show _ = some ((AV.ept [(lstA TTubeNode.E x115)] 0), []) from (idx_lst (E := (lstE TTubeNode.E)) rfl h115))) ?_
    refine imp (opP_of (show _ = some ((lstA TTubeNode.E x115), []) from rfl)) ?_
    refine bind_b fun x116 h116 => ?_
    refine imp (callQ_says (sg38 h116)) ?_
    refine imp (opP_of (show _ = some ((intA (x116.length : Int)), []) from rfl)) ?_
    refine imp ex_i64_b ?_
    exact fun hg => L19_0_0_0_ok n a0 c5 v29 w10 c28 x116 (x116.length : Int) k0_0 k0_1 R N0 N1 hR hN0 hN1 n _ hg (weak_mem [(90000, 90000), (0, 0)] rfl rfl rfl (okW_cons (ent_lst (E := (lstE TTubeNode.E)) _ false) (okW_cons (.inl (leV_refl _)) (okW_cons (.inl (leV_refl _)) (okW_cons (.inl (leV_refl _)) (okW_cons (ent_own (E := TClash.E) (id := 90000) (l' := L90000) rfl rfl) (okW_cons (.inl (leV_refl _)) (okW_cons (.inl (leV_refl _)) (okW_cons (.inl (leV_refl _)) (okW_cons (.inl (leV_refl _)) (okW_cons (ent_lst (E := TSpan.E) _ false) (okW_cons (.inl (leV_refl _)) (okW_cons (.inl (leV_refl _)) okW_nil)))))))))))) (okB_cons (okB_cells (cs := [(intA k0_0), (intA k0_1)]) (ty := 24) rfl (show mget _ 0 = _ from (by first | rfl | (simp (disch := first | decide | assumption) only [mpushs_nil, mpushs_cons, mget_hd, mget_tl, mget_appW_o, mget_appW_n, mget_appW_e])))) (okB_cons (okB_own (E := TClash.E) (ty := 89) (l' := L90000) rfl (show mget _ 90000 = _ from (by first | rfl | (simp (disch := first | decide | assumption) only [mpushs_nil, mpushs_cons, mget_hd, mget_tl, mget_appW_o, mget_appW_n, mget_appW_e])))) okB_nil')))
  · exact fun hg => hN0 _ (Option.some.inj hg).symm _ (weak_mem [(90000, 90000), (0, 0)] rfl rfl rfl (okW_cons (ent_lst (E := (lstE TTubeNode.E)) _ false) (okW_cons (.inl (leV_refl _)) (okW_cons (.inl (leV_refl _)) (okW_cons (.inl (leV_refl _)) (okW_cons (ent_own (E := TClash.E) (id := 90000) (l' := L90000) rfl rfl) (okW_cons (.inl (leV_refl _)) (okW_cons (.inl (leV_refl _)) okW_nil))))))) (okB_cons (okB_cells (cs := [(intA k0_0), (intA k0_1)]) (ty := 24) rfl (show mget _ 0 = _ from (by first | rfl | (simp (disch := first | decide | assumption) only [mpushs_nil, mpushs_cons, mget_hd, mget_tl, mget_appW_o, mget_appW_n, mget_appW_e])))) (okB_cons (okB_own (E := TClash.E) (ty := 89) (l' := L90000) rfl (show mget _ 90000 = _ from (by first | rfl | (simp (disch := first | decide | assumption) only [mpushs_nil, mpushs_cons, mget_hd, mget_tl, mget_appW_o, mget_appW_n, mget_appW_e])))) okB_nil')))
theorem L19_0_0_ok (n : Nat) (a0 : List (List TTubeNode)) (c5 : Int) (v29 : Int) (c28 : Int) (k0_0 : Int) (k0_1 : Int) {t : ((Int × List TClash) ⊕ ρ19)} (R : AV → Mem → Prop) (N0 : St → Prop) (hR : ∀ r : ρ19, t = (.inr r) → ∀ u m, Ans ((AV.tup [(lstA TClash.E r.1), (intA r.2)])) u m → R u m) (hN0 : ∀ y : Int × List TClash, t = (.inl y) → ∀ s' : St, Weak KK 74 0 s' (h19_0 (lstA (lstE TTubeNode.E) a0) AV.nils c5 (ownV TClash.E 90000 y.2) c28 y.1 k0_0 k0_1 [(90000, ownB TClash.E 89 y.2)]) → N0 s') (k : Nat) (x : Int × List TClash) (hx : iterO (fun y : Int × List TClash => S19_0_0 n a0 c5 v29 c28 k0_0 k0_1 y.1 y.2) k x = some t) {s : St} (hw : Weak KK 74 0 s (h19_0_0 (lstA (lstE TTubeNode.E) a0) AV.nils c5 (ownV TClash.E 90000 x.2) v29 x.1 c28 v29 k0_0 k0_1 [(90000, ownB TClash.E 89 x.2)])) : Tri Try.prog KK 74 0 (.loop c19_0_0) s (q19_0_0 R N0) :=
  L19_0_0 R N0 (σ := Nat × (Int × List TClash)) (fun z => iterO (fun y : Int × List TClash => S19_0_0 n a0 c5 v29 c28 k0_0 k0_1 y.1 y.2) z.1 z.2 = some t) (fun z => (lstA (lstE TTubeNode.E) a0)) (fun z => AV.nils) (fun z => c5) (fun z => (ownV TClash.E 90000 z.2.2)) (fun z => v29) (fun z => z.2.1) (fun z => c28) (fun z => v29) (fun z => k0_0) (fun z => k0_1) (fun z => [(90000, ownB TClash.E 89 z.2.2)]) (fun z => z.1) (by
    rintro ⟨k, y⟩ h
    cases k with
    | zero => exact (iterO_zero h).elim
    | succ k =>
      obtain ⟨u, h1, h2, h3⟩ := iterO_elim h
      exact B19_0_0_ok n a0 c5 v29 c28 k0_0 k0_1 y.1 y.2 R N0 _ (fun r e => hR r (h3 _ e).symm) (fun y' e => hN0 y' (h3 _ e).symm) (fun y' e s' hw => ⟨(k, y'), h2 _ e, Nat.lt_succ_self k, hw⟩) h1) (k, x) hx hw
theorem B19_0_ok (n : Nat) (a0 : List (List TTubeNode)) (c5 : Int) (c28 : Int) (k0_0 : Int) (k0_1 : Int) (v29 : Int) (L90000 : List TClash) {t : (Int × List TClash) ⊕ ρ19} (R : AV → Mem → Prop) (N0 : St → Prop) (hR : ∀ r : ρ19, t = (.inr r) → ∀ u m, Ans ((AV.tup [(lstA TClash.E r.1), (intA r.2)])) u m → R u m) (hN0 : ∀ y : Int × List TClash, t = (.inl y) → ∀ s' : St, Weak KK 74 0 s' (h19_0 (lstA (lstE TTubeNode.E) a0) AV.nils c5 (ownV TClash.E 90000 y.2) c28 y.1 k0_0 k0_1 [(90000, ownB TClash.E 89 y.2)]) → N0 s') : S19_0 n a0 c5 c28 k0_0 k0_1 v29 L90000 = some t → B19_0 (lstA (lstE TTubeNode.E) a0) AV.nils c5 (ownV TClash.E 90000 L90000) c28 v29 k0_0 k0_1 [(90000, ownB TClash.E 89 L90000)] R N0 := by
  unfold S19_0 B19_0
  refine cond_b (fun _ => ?_) (fun _ => ?_)
  · exact fun hg => L19_0_0_ok n a0 c5 v29 c28 k0_0 k0_1 R N0 hR hN0 n _ hg (weak_mem [(90000, 90000), (0, 0)] rfl rfl rfl (okW_cons (ent_lst (E := (lstE TTubeNode.E)) _ false) (okW_cons (.inl (leV_refl _)) (okW_cons (.inl (leV_refl _)) (okW_cons (.inl (leV_refl _)) (okW_cons (ent_own (E := TClash.E) (id := 90000) (l' := L90000) rfl rfl) (okW_cons (.inl (leV_refl _)) (okW_cons (.inl (leV_refl _)) (okW_cons (.inl (leV_refl _)) (okW_cons (.inl (leV_refl _)) okW_nil))))))))) (okB_cons (okB_cells (cs := [(intA k0_0), (intA k0_1)]) (ty := 24) rfl (show mget _ 0 = _ from (by first | rfl | (simp (disch := first | decide | assumption) only [mpushs_nil, mpushs_cons, mget_hd, mget_tl, mget_appW_o, mget_appW_n, mget_appW_e])))) (okB_cons (okB_own (E := TClash.E) (ty := 89) (l' := L90000) rfl (show mget _ 90000 = _ from (by first | rfl | (simp (disch := first | decide | assumption) only [mpushs_nil, mpushs_cons, mget_hd, mget_tl, mget_appW_o, mget_appW_n, mget_appW_e])))) okB_nil')))
  · refine imp (opP_of (show _ = some ((intA (L90000.length : Int)), []) from len_own)) ?_
    refine imp ex_i64_b ?_
    refine cond_b (fun _ => ?_) (fun _ => ?_)
    · exact fun hg => retN rfl (hR _ (Option.some.inj hg).symm) (fzL_cons (fz_nils (E := TClash.E) _) (fzL_cons (fz_sc _ _) fzL_nil))
    · refine bind_b fun x122 h122 => ?_
      have lh122 := sortO_len h122
      refine imp (callW_sortV (hx := rfl) (E := TClash.E) (ty := 89) (l := L90000) (cmp := (fun x y => g40 n x y)) rfl TClash.ok sorts39 none39 plain39 rfl (by first | rfl | (simp (disch := first | decide | assumption) only [mpushs_nil, mpushs_cons, mget_hd, mget_tl, mget_appW_o, mget_appW_n, mget_appW_e])) capsOk_nil (fun x y z h => sg40 h) h122) ?_
      refine imp exT0_b ?_
      exact fun hg => retN rfl (hR _ (Option.some.inj hg).symm) (fzL_cons (fz_own (E := TClash.E) (ty := 89) (l' := x122) _ (by first | rfl | omega | (simp; done) | (simp; omega)) (by first | rfl | (simp (disch := first | decide | assumption) only [mpushs_nil, mpushs_cons, mget_hd, mget_tl, mget_appW_o, mget_appW_n, mget_appW_e]))) (fzL_cons (fz_sc _ _) fzL_nil))
theorem L19_0_ok (n : Nat) (a0 : List (List TTubeNode)) (c5 : Int) (c28 : Int) (k0_0 : Int) (k0_1 : Int) {t : ρ19} (R : AV → Mem → Prop) (hR : ∀ r : ρ19, t = r → ∀ u m, Ans ((AV.tup [(lstA TClash.E r.1), (intA r.2)])) u m → R u m) (k : Nat) (x : Int × List TClash) (hx : iterO (fun y : Int × List TClash => S19_0 n a0 c5 c28 k0_0 k0_1 y.1 y.2) k x = some t) {s : St} (hw : Weak KK 74 0 s (h19_0 (lstA (lstE TTubeNode.E) a0) AV.nils c5 (ownV TClash.E 90000 x.2) c28 x.1 k0_0 k0_1 [(90000, ownB TClash.E 89 x.2)])) : Tri Try.prog KK 74 0 (.loop c19_0) s (q19_0 R ) :=
  L19_0 R  (σ := Nat × (Int × List TClash)) (fun z => iterO (fun y : Int × List TClash => S19_0 n a0 c5 c28 k0_0 k0_1 y.1 y.2) z.1 z.2 = some t) (fun z => (lstA (lstE TTubeNode.E) a0)) (fun z => AV.nils) (fun z => c5) (fun z => (ownV TClash.E 90000 z.2.2)) (fun z => c28) (fun z => z.2.1) (fun z => k0_0) (fun z => k0_1) (fun z => [(90000, ownB TClash.E 89 z.2.2)]) (fun z => z.1) (by
    rintro ⟨k, y⟩ h
    cases k with
    | zero => exact (iterO_zero h).elim
    | succ k =>
      obtain ⟨u, h1, h2, h3⟩ := iterO_elim h
      exact B19_0_ok n a0 c5 c28 k0_0 k0_1 y.1 y.2 R  _ (fun r e => hR r (h3 _ e).symm)  (fun y' e s' hw => ⟨(k, y'), h2 _ e, Nat.lt_succ_self k, hw⟩) h1) (k, x) hx hw
theorem g19_ok (n : Nat) (a0 : List (List TTubeNode)) (a1 : TSep) {t : ρ19} (R : AV → Mem → Prop) (hR : ∀ r : ρ19, t = r → ∀ u m, Ans ((AV.tup [(lstA TClash.E r.1), (intA r.2)])) u m → R u m) : g19 n a0 a1 = some t → F19 (lstA (lstE TTubeNode.E) a0) a1.Lateral a1.Vertical R := by
  unfold g19 F19
  refine bind_b fun x112 h112 => ?_
  refine imp (callQ_says (sg36 h112)) ?_
  refine imp ex_i64_b ?_
  refine cond_b (fun _ => ?_) (fun _ => ?_)
  · exact fun hg => retN rfl (hR _ (Option.some.inj hg).symm) (fzL_cons (fz_nils (E := TClash.E) _) (fzL_cons (fz_sc _ _) fzL_nil))
  · refine imp (opP_of (show _ = some ((intA (a0.length : Int)), []) from rfl)) ?_
    refine imp ex_i64_b ?_
    refine cond_b (fun _ => ?_) (fun _ => ?_)
    · exact fun hg => retN rfl (hR _ (Option.some.inj hg).symm) (fzL_cons (fz_nils (E := TClash.E) _) (fzL_cons (fz_sc _ _) fzL_nil))
    · refine bind_b fun x113 h113 => ?_
      refine imp (callQ_says (sg37 h113)) ?_
      refine imp ex_i64_b ?_
      refine cond_b (fun _ => ?_) (fun _ => ?_)
      · exact fun hg => retN rfl (hR _ (Option.some.inj hg).symm) (fzL_cons (fz_nils (E := TClash.E) _) (fzL_cons (fz_sc _ _) fzL_nil))
      · refine imp (opP_of (show _ = some ((intA (a0.length : Int)), []) from rfl)) ?_
        refine imp ex_i64_b ?_
        exact fun hg => L19_0_ok n a0 (0) (a0.length : Int) a1.Lateral a1.Vertical R  hR n _ hg (weak_mem [(90000, 89500), (0, 0)] rfl rfl rfl (okW_cons (ent_lst (E := (lstE TTubeNode.E)) _ false) (okW_cons (.inl (leV_refl _)) (okW_cons (.inl (leV_refl _)) (okW_cons (.inl (leV_refl _)) (okW_cons ent_nils_own (okW_cons (.inl (leV_refl _)) (okW_cons (.inl (leV_refl _)) okW_nil))))))) (okB_cons (okB_cells (cs := [(intA a1.Lateral), (intA a1.Vertical)]) (ty := 24) rfl (show mget _ 0 = _ from (by first | rfl | (simp (disch := first | decide | assumption) only [mpushs_nil, mpushs_cons, mget_hd, mget_tl, mget_appW_o, mget_appW_n, mget_appW_e])))) (okB_cons okB_nil okB_nil')))
theorem sg19 {n : Nat} {a0 : List (List TTubeNode)} {a1 : TSep} {t : ρ19} (h : g19 n a0 a1 = some t) : Says Try.prog KK.gl 19 [(lstA (lstE TTubeNode.E) a0), (AV.agg [(intA a1.Lateral), (intA a1.Vertical)])] ((AV.tup [(lstA TClash.E t.1), (intA t.2)])) :=
  says_of_own (by first | rfl | simp [cleans, clean, encs_clean, En.cln]) (by first | rfl | simp [cleans, clean, encs_clean, En.cln]) (F19_own (lstA (lstE TTubeNode.E) a0) a1.Lateral a1.Vertical _ (g19_ok n a0 a1 (Ans ((AV.tup [(lstA TClash.E t.1), (intA t.2)]))) (fun r e u m h => by rw [e]; exact h) h))
/- skyway/probe.All -/
theorem B19_0_0_0_okM (n : Nat) (a0 : List (List TTubeNode)) (c5 : Int) (v29 : Int) (w10 : Int) (c28 : Int) (x128 : List TSpan) (c50 : Int) (k0_0 : Int) (k0_1 : Int) (u51 : Int) (L90000 : List TClash) {t : (Int × List TClash) ⊕ ((Int × List TClash) ⊕ ((Int × List TClash) ⊕ ρ19))} (R : AV → Mem → Prop) (N0 : St → Prop) (N1 : St → Prop) (N2 : St → Prop) (hR : ∀ r : ρ19, t = (.inr (.inr (.inr r))) → ∀ u m, MadeT TClash.E 89 r.1 [Value.int .i64 r.2] u m → R u m) (hN0 : ∀ y : Int × List TClash, t = (.inr (.inr (.inl y))) → ∀ s' : St, Weak KK 74 0 s' (h19_0 (lstA (lstE TTubeNode.E) a0) AV.nils c5 (ownV TClash.E 90000 y.2) c28 y.1 k0_0 k0_1 [(90000, ownB TClash.E 89 y.2)]) → N0 s') (hN1 : ∀ y : Int × List TClash, t = (.inr (.inl y)) → ∀ s' : St, Weak KK 74 0 s' (h19_0_0 (lstA (lstE TTubeNode.E) a0) AV.nils c5 (ownV TClash.E 90000 y.2) v29 y.1 c28 v29 k0_0 k0_1 [(90000, ownB TClash.E 89 y.2)]) → N1 s') (hN2 : ∀ y : Int × List TClash, t = (.inl y) → ∀ s' : St, Weak KK 74 0 s' (h19_0_0_0 (lstA (lstE TTubeNode.E) a0) AV.nils c5 (ownV TClash.E 90000 y.2) v29 w10 c28 v29 (lstA TSpan.E x128) c50 y.1 k0_0 k0_1 [(90000, ownB TClash.E 89 y.2)]) → N2 s') : S19_0_0_0 n a0 c5 v29 w10 c28 x128 c50 k0_0 k0_1 u51 L90000 = some t → B19_0_0_0 (lstA (lstE TTubeNode.E) a0) AV.nils c5 (ownV TClash.E 90000 L90000) v29 w10 c28 v29 (lstA TSpan.E x128) c50 u51 k0_0 k0_1 [(90000, ownB TClash.E 89 L90000)] R N0 N1 N2 := by
  unfold S19_0_0_0 B19_0_0_0
  refine cond_b (fun _ => ?_) (fun _ => ?_)
  · refine bind_b fun x129 h129 => ?_
    refine imp (opP_of (show _ = some ((AV.ept [(intA x129.From), (intA x129.To)] 0), []) from (idx_lst (E := TSpan.E) rfl h129))) ?_
    refine imp (opP_of (show _ = some ((AV.agg [(intA x129.From), (intA x129.To)]), []) from rfl)) ?_
    refine imp exA2_b ?_
    refine imp ex_i64_b ?_
    refine imp ex_i64_b ?_
    refine imp (opP_of (show _ = some ((AV.agg [(intA v29), (intA w10), (intA x129.From), (intA (IntKind.wrap .i64 (x129.To - (1))))]), []) from rfl)) ?_
    refine imp (opN_of (show _ = some ((blkV TClash.E 300014 ([(⟨v29, w10, x129.From, (IntKind.wrap .i64 (x129.To - (1)))⟩ : TClash)] : List TClash)), [(300014, some ⟨encs TClash.E ([(⟨v29, w10, x129.From, (IntKind.wrap .i64 (x129.To - (1)))⟩ : TClash)] : List TClash), 89⟩)]) from rfl)) ?_
    refine bind_b fun x131 h131 => ?_
    refine imp (opN_of (show _ = some ((ownV TClash.E 300015 (L90000 ++ ([(⟨v29, w10, x129.From, (IntKind.wrap .i64 (x129.To - (1)))⟩ : TClash)] : List TClash))), (appW TClash.E 300015 90000 89 L90000 ([(⟨v29, w10, x129.From, (IntKind.wrap .i64 (x129.To - (1)))⟩ : TClash)] : List TClash))) from (app_own (E := TClash.E) (l' := L90000) (xs := ([(⟨v29, w10, x129.From, (IntKind.wrap .i64 (x129.To - (1)))⟩ : TClash)] : List TClash)) rfl rfl (cellsOf_blk (E := TClash.E) (ty := 89) rfl rfl (by first | rfl | (simp (disch := first | decide | assumption) only [mpushs_nil, mpushs_cons, mget_hd, mget_tl, mget_appW_o, mget_appW_n, mget_appW_e]))) (by first | assumption | simp) rfl (fun hne => Eq.trans (by first | rfl | (simp (disch := first | decide | assumption) only [mpushs_nil, mpushs_cons, mget_hd, mget_tl, mget_appW_o, mget_appW_n, mget_appW_e])) (ownB_ne hne)) h131))) ?_
    exact fun hg => hN2 _ (Option.some.inj hg).symm _ (weak_mem [(90000, 300015), (0, 0)] rfl rfl rfl (okW_cons (ent_lst (E := (lstE TTubeNode.E)) _ false) (okW_cons (.inl (leV_refl _)) (okW_cons (.inl (leV_refl _)) (okW_cons (.inl (leV_refl _)) (okW_cons (ent_own (E := TClash.E) (id := 300015) (l' := (L90000 ++ ([(⟨v29, w10, x129.From, (IntKind.wrap .i64 (x129.To - (1)))⟩ : TClash)] : List TClash))) rfl rfl) (okW_cons (.inl (leV_refl _)) (okW_cons (.inl (leV_refl _)) (okW_cons (.inl (leV_refl _)) (okW_cons (.inl (leV_refl _)) (okW_cons (ent_lst (E := TSpan.E) _ false) (okW_cons (.inl (leV_refl _)) (okW_cons (.inl (leV_refl _)) okW_nil)))))))))))) (okB_cons (okB_cells (cs := [(intA k0_0), (intA k0_1)]) (ty := 24) rfl (show mget _ 0 = _ from (by first | rfl | (simp (disch := first | decide | assumption) only [mpushs_nil, mpushs_cons, mget_hd, mget_tl, mget_appW_o, mget_appW_n, mget_appW_e])))) (okB_cons (okB_own (E := TClash.E) (ty := 89) (l' := (L90000 ++ ([(⟨v29, w10, x129.From, (IntKind.wrap .i64 (x129.To - (1)))⟩ : TClash)] : List TClash))) rfl (show mget _ 300015 = _ from (by first | rfl | (simp (disch := first | decide | assumption) only [mpushs_nil, mpushs_cons, mget_hd, mget_tl, mget_appW_o, mget_appW_n, mget_appW_e])))) okB_nil')))
  · exact fun hg => hN1 _ (Option.some.inj hg).symm _ (weak_mem [(90000, 90000), (0, 0)] rfl rfl rfl (okW_cons (ent_lst (E := (lstE TTubeNode.E)) _ false) (okW_cons (.inl (leV_refl _)) (okW_cons (.inl (leV_refl _)) (okW_cons (.inl (leV_refl _)) (okW_cons (ent_own (E := TClash.E) (id := 90000) (l' := L90000) rfl rfl) (okW_cons (.inl (leV_refl _)) (okW_cons (.inl (leV_refl _)) (okW_cons (.inl (leV_refl _)) (okW_cons (.inl (leV_refl _)) okW_nil))))))))) (okB_cons (okB_cells (cs := [(intA k0_0), (intA k0_1)]) (ty := 24) rfl (show mget _ 0 = _ from (by first | rfl | (simp (disch := first | decide | assumption) only [mpushs_nil, mpushs_cons, mget_hd, mget_tl, mget_appW_o, mget_appW_n, mget_appW_e])))) (okB_cons (okB_own (E := TClash.E) (ty := 89) (l' := L90000) rfl (show mget _ 90000 = _ from (by first | rfl | (simp (disch := first | decide | assumption) only [mpushs_nil, mpushs_cons, mget_hd, mget_tl, mget_appW_o, mget_appW_n, mget_appW_e])))) okB_nil')))
theorem L19_0_0_0_okM (n : Nat) (a0 : List (List TTubeNode)) (c5 : Int) (v29 : Int) (w10 : Int) (c28 : Int) (x128 : List TSpan) (c50 : Int) (k0_0 : Int) (k0_1 : Int) {t : ((Int × List TClash) ⊕ ((Int × List TClash) ⊕ ρ19))} (R : AV → Mem → Prop) (N0 : St → Prop) (N1 : St → Prop) (hR : ∀ r : ρ19, t = (.inr (.inr r)) → ∀ u m, MadeT TClash.E 89 r.1 [Value.int .i64 r.2] u m → R u m) (hN0 : ∀ y : Int × List TClash, t = (.inr (.inl y)) → ∀ s' : St, Weak KK 74 0 s' (h19_0 (lstA (lstE TTubeNode.E) a0) AV.nils c5 (ownV TClash.E 90000 y.2) c28 y.1 k0_0 k0_1 [(90000, ownB TClash.E 89 y.2)]) → N0 s') (hN1 : ∀ y : Int × List TClash, t = (.inl y) → ∀ s' : St, Weak KK 74 0 s' (h19_0_0 (lstA (lstE TTubeNode.E) a0) AV.nils c5 (ownV TClash.E 90000 y.2) v29 y.1 c28 v29 k0_0 k0_1 [(90000, ownB TClash.E 89 y.2)]) → N1 s') (k : Nat) (x : Int × List TClash) (hx : iterO (fun y : Int × List TClash => S19_0_0_0 n a0 c5 v29 w10 c28 x128 c50 k0_0 k0_1 y.1 y.2) k x = some t) {s : St} (hw : Weak KK 74 0 s (h19_0_0_0 (lstA (lstE TTubeNode.E) a0) AV.nils c5 (ownV TClash.E 90000 x.2) v29 w10 c28 v29 (lstA TSpan.E x128) c50 x.1 k0_0 k0_1 [(90000, ownB TClash.E 89 x.2)])) : Tri Try.prog KK 74 0 (.loop c19_0_0_0) s (q19_0_0_0 R N0 N1) :=
  L19_0_0_0 R N0 N1 (σ := Nat × (Int × List TClash)) (fun z => iterO (fun y : Int × List TClash => S19_0_0_0 n a0 c5 v29 w10 c28 x128 c50 k0_0 k0_1 y.1 y.2) z.1 z.2 = some t) (fun z => (lstA (lstE TTubeNode.E) a0)) (fun z => AV.nils) (fun z => c5) (fun z => (ownV TClash.E 90000 z.2.2)) (fun z => v29) (fun z => w10) (fun z => c28) (fun z => v29) (fun z => (lstA TSpan.E x128)) (fun z => c50) (fun z => z.2.1) (fun z => k0_0) (fun z => k0_1) (fun z => [(90000, ownB TClash.E 89 z.2.2)]) (fun z => z.1) (by
    rintro ⟨k, y⟩ h
    cases k with
    | zero => exact (iterO_zero h).elim
    | succ k =>
      obtain ⟨u, h1, h2, h3⟩ := iterO_elim h
      exact B19_0_0_0_okM n a0 c5 v29 w10 c28 x128 c50 k0_0 k0_1 y.1 y.2 R N0 N1 _ (fun r e => hR r (h3 _ e).symm) (fun y' e => hN0 y' (h3 _ e).symm) (fun y' e => hN1 y' (h3 _ e).symm) (fun y' e s' hw => ⟨(k, y'), h2 _ e, Nat.lt_succ_self k, hw⟩) h1) (k, x) hx hw
theorem B19_0_0_okM (n : Nat) (a0 : List (List TTubeNode)) (c5 : Int) (v29 : Int) (c28 : Int) (k0_0 : Int) (k0_1 : Int) (w10 : Int) (L90000 : List TClash) {t : (Int × List TClash) ⊕ ((Int × List TClash) ⊕ ρ19)} (R : AV → Mem → Prop) (N0 : St → Prop) (N1 : St → Prop) (hR : ∀ r : ρ19, t = (.inr (.inr r)) → ∀ u m, MadeT TClash.E 89 r.1 [Value.int .i64 r.2] u m → R u m) (hN0 : ∀ y : Int × List TClash, t = (.inr (.inl y)) → ∀ s' : St, Weak KK 74 0 s' (h19_0 (lstA (lstE TTubeNode.E) a0) AV.nils c5 (ownV TClash.E 90000 y.2) c28 y.1 k0_0 k0_1 [(90000, ownB TClash.E 89 y.2)]) → N0 s') (hN1 : ∀ y : Int × List TClash, t = (.inl y) → ∀ s' : St, Weak KK 74 0 s' (h19_0_0 (lstA (lstE TTubeNode.E) a0) AV.nils c5 (ownV TClash.E 90000 y.2) v29 y.1 c28 v29 k0_0 k0_1 [(90000, ownB TClash.E 89 y.2)]) → N1 s') : S19_0_0 n a0 c5 v29 c28 k0_0 k0_1 w10 L90000 = some t → B19_0_0 (lstA (lstE TTubeNode.E) a0) AV.nils c5 (ownV TClash.E 90000 L90000) v29 w10 c28 v29 k0_0 k0_1 [(90000, ownB TClash.E 89 L90000)] R N0 N1 := by
  unfold S19_0_0 B19_0_0
  refine imp (opP_of (show _ = some ((intA (a0.length : Int)), []) from rfl)) ?_
  refine imp ex_i64_b ?_
  refine cond_b (fun _ => ?_) (fun _ => ?_)
  · refine bind_b fun x126 h126 => ?_
    refine imp (opP_of (show _ = some ((AV.ept [(lstA TTubeNode.E x126)] 0), []) from (idx_lst (E := (lstE TTubeNode.E)) rfl h126))) ?_
    refine imp (opP_of (show _ = some ((lstA TTubeNode.E x126), []) from rfl)) ?_
    refine bind_b fun x127 h127 => ?_
    refine imp (opP_of (show _ = some ((AV.ept [(lstA TTubeNode.E x127)] 0), []) from (idx_lst (E := (lstE TTubeNode.E)) rfl h127))) ?_
    refine imp (opP_of (show _ = some ((lstA TTubeNode.E x127), []) from rfl)) ?_
    refine bind_b fun x128 h128 => ?_
    refine imp (callQ_says (sg38 h128)) ?_
    refine imp (opP_of (show _ = some ((intA (x128.length : Int)), []) from rfl)) ?_
    refine imp ex_i64_b ?_
    exact fun hg => L19_0_0_0_okM n a0 c5 v29 w10 c28 x128 (x128.length : Int) k0_0 k0_1 R N0 N1 hR hN0 hN1 n _ hg (weak_mem [(90000, 90000), (0, 0)] rfl rfl rfl (okW_cons (ent_lst (E := (lstE TTubeNode.E)) _ false) (okW_cons (.inl (leV_refl _)) (okW_cons (.inl (leV_refl _)) (okW_cons (.inl (leV_refl _)) (okW_cons (ent_own (E := TClash.E) (id := 90000) (l' := L90000) rfl rfl) (okW_cons (.inl (leV_refl _)) (okW_cons (.inl (leV_refl _)) (okW_cons (.inl (leV_refl _)) (okW_cons (.inl (leV_refl _)) (okW_cons (ent_lst (E := TSpan.E) _ false) (okW_cons (.inl (leV_refl _)) (okW_cons (.inl (leV_refl _)) okW_nil)))))))))))) (okB_cons (okB_cells (cs := [(intA k0_0), (intA k0_1)]) (ty := 24) rfl (show mget _ 0 = _ from (by first | rfl | (simp (disch := first | decide | assumption) only [mpushs_nil, mpushs_cons, mget_hd, mget_tl, mget_appW_o, mget_appW_n, mget_appW_e])))) (okB_cons (okB_own (E := TClash.E) (ty := 89) (l' := L90000) rfl (show mget _ 90000 = _ from (by first | rfl | (simp (disch := first | decide | assumption) only [mpushs_nil, mpushs_cons, mget_hd, mget_tl, mget_appW_o, mget_appW_n, mget_appW_e])))) okB_nil')))
  · exact fun hg => hN0 _ (Option.some.inj hg).symm _ (weak_mem [(90000, 90000), (0, 0)] rfl rfl rfl (okW_cons (ent_lst (E := (lstE TTubeNode.E)) _ false) (okW_cons (.inl (leV_refl _)) (okW_cons (.inl (leV_refl _)) (okW_cons (.inl (leV_refl _)) (okW_cons (ent_own (E := TClash.E) (id := 90000) (l' := L90000) rfl rfl) (okW_cons (.inl (leV_refl _)) (okW_cons (.inl (leV_refl _)) okW_nil))))))) (okB_cons (okB_cells (cs := [(intA k0_0), (intA k0_1)]) (ty := 24) rfl (show mget _ 0 = _ from (by first | rfl | (simp (disch := first | decide | assumption) only [mpushs_nil, mpushs_cons, mget_hd, mget_tl, mget_appW_o, mget_appW_n, mget_appW_e])))) (okB_cons (okB_own (E := TClash.E) (ty := 89) (l' := L90000) rfl (show mget _ 90000 = _ from (by first | rfl | (simp (disch := first | decide | assumption) only [mpushs_nil, mpushs_cons, mget_hd, mget_tl, mget_appW_o, mget_appW_n, mget_appW_e])))) okB_nil')))
theorem L19_0_0_okM (n : Nat) (a0 : List (List TTubeNode)) (c5 : Int) (v29 : Int) (c28 : Int) (k0_0 : Int) (k0_1 : Int) {t : ((Int × List TClash) ⊕ ρ19)} (R : AV → Mem → Prop) (N0 : St → Prop) (hR : ∀ r : ρ19, t = (.inr r) → ∀ u m, MadeT TClash.E 89 r.1 [Value.int .i64 r.2] u m → R u m) (hN0 : ∀ y : Int × List TClash, t = (.inl y) → ∀ s' : St, Weak KK 74 0 s' (h19_0 (lstA (lstE TTubeNode.E) a0) AV.nils c5 (ownV TClash.E 90000 y.2) c28 y.1 k0_0 k0_1 [(90000, ownB TClash.E 89 y.2)]) → N0 s') (k : Nat) (x : Int × List TClash) (hx : iterO (fun y : Int × List TClash => S19_0_0 n a0 c5 v29 c28 k0_0 k0_1 y.1 y.2) k x = some t) {s : St} (hw : Weak KK 74 0 s (h19_0_0 (lstA (lstE TTubeNode.E) a0) AV.nils c5 (ownV TClash.E 90000 x.2) v29 x.1 c28 v29 k0_0 k0_1 [(90000, ownB TClash.E 89 x.2)])) : Tri Try.prog KK 74 0 (.loop c19_0_0) s (q19_0_0 R N0) :=
  L19_0_0 R N0 (σ := Nat × (Int × List TClash)) (fun z => iterO (fun y : Int × List TClash => S19_0_0 n a0 c5 v29 c28 k0_0 k0_1 y.1 y.2) z.1 z.2 = some t) (fun z => (lstA (lstE TTubeNode.E) a0)) (fun z => AV.nils) (fun z => c5) (fun z => (ownV TClash.E 90000 z.2.2)) (fun z => v29) (fun z => z.2.1) (fun z => c28) (fun z => v29) (fun z => k0_0) (fun z => k0_1) (fun z => [(90000, ownB TClash.E 89 z.2.2)]) (fun z => z.1) (by
    rintro ⟨k, y⟩ h
    cases k with
    | zero => exact (iterO_zero h).elim
    | succ k =>
      obtain ⟨u, h1, h2, h3⟩ := iterO_elim h
      exact B19_0_0_okM n a0 c5 v29 c28 k0_0 k0_1 y.1 y.2 R N0 _ (fun r e => hR r (h3 _ e).symm) (fun y' e => hN0 y' (h3 _ e).symm) (fun y' e s' hw => ⟨(k, y'), h2 _ e, Nat.lt_succ_self k, hw⟩) h1) (k, x) hx hw
theorem B19_0_okM (n : Nat) (a0 : List (List TTubeNode)) (c5 : Int) (c28 : Int) (k0_0 : Int) (k0_1 : Int) (v29 : Int) (L90000 : List TClash) {t : (Int × List TClash) ⊕ ρ19} (R : AV → Mem → Prop) (N0 : St → Prop) (hR : ∀ r : ρ19, t = (.inr r) → ∀ u m, MadeT TClash.E 89 r.1 [Value.int .i64 r.2] u m → R u m) (hN0 : ∀ y : Int × List TClash, t = (.inl y) → ∀ s' : St, Weak KK 74 0 s' (h19_0 (lstA (lstE TTubeNode.E) a0) AV.nils c5 (ownV TClash.E 90000 y.2) c28 y.1 k0_0 k0_1 [(90000, ownB TClash.E 89 y.2)]) → N0 s') : S19_0 n a0 c5 c28 k0_0 k0_1 v29 L90000 = some t → B19_0 (lstA (lstE TTubeNode.E) a0) AV.nils c5 (ownV TClash.E 90000 L90000) c28 v29 k0_0 k0_1 [(90000, ownB TClash.E 89 L90000)] R N0 := by
  unfold S19_0 B19_0
  refine cond_b (fun _ => ?_) (fun _ => ?_)
  · exact fun hg => L19_0_0_okM n a0 c5 v29 c28 k0_0 k0_1 R N0 hR hN0 n _ hg (weak_mem [(90000, 90000), (0, 0)] rfl rfl rfl (okW_cons (ent_lst (E := (lstE TTubeNode.E)) _ false) (okW_cons (.inl (leV_refl _)) (okW_cons (.inl (leV_refl _)) (okW_cons (.inl (leV_refl _)) (okW_cons (ent_own (E := TClash.E) (id := 90000) (l' := L90000) rfl rfl) (okW_cons (.inl (leV_refl _)) (okW_cons (.inl (leV_refl _)) (okW_cons (.inl (leV_refl _)) (okW_cons (.inl (leV_refl _)) okW_nil))))))))) (okB_cons (okB_cells (cs := [(intA k0_0), (intA k0_1)]) (ty := 24) rfl (show mget _ 0 = _ from (by first | rfl | (simp (disch := first | decide | assumption) only [mpushs_nil, mpushs_cons, mget_hd, mget_tl, mget_appW_o, mget_appW_n, mget_appW_e])))) (okB_cons (okB_own (E := TClash.E) (ty := 89) (l' := L90000) rfl (show mget _ 90000 = _ from (by first | rfl | (simp (disch := first | decide | assumption) only [mpushs_nil, mpushs_cons, mget_hd, mget_tl, mget_appW_o, mget_appW_n, mget_appW_e])))) okB_nil')))
  · refine imp (opP_of (show _ = some ((intA (L90000.length : Int)), []) from len_own)) ?_
    refine imp ex_i64_b ?_
    refine cond_b (fun _ => ?_) (fun _ => ?_)
    · exact fun hg => hR _ (Option.some.inj hg).symm _ _ ⟨_, rfl, made_nils_pf⟩
    · refine bind_b fun x132 h132 => ?_
      have lh132 := sortO_len h132
      refine imp (callW_sortV (hx := rfl) (E := TClash.E) (ty := 89) (l := L90000) (cmp := (fun x y => g40 n x y)) rfl TClash.ok sorts39 none39 plain39 rfl (by first | rfl | (simp (disch := first | decide | assumption) only [mpushs_nil, mpushs_cons, mget_hd, mget_tl, mget_appW_o, mget_appW_n, mget_appW_e])) capsOk_nil (fun x y z h => sg40 h) h132) ?_
      refine imp exT0_b ?_
      exact fun hg => hR _ (Option.some.inj hg).symm _ _ ⟨_, rfl, (made_own_pf (E := TClash.E) (ty := 89) (l := x132) (by first | rfl | omega | (simp; done) | (simp; omega)) (by first | rfl | (simp (disch := first | decide | assumption) only [mpushs_nil, mpushs_cons, mget_hd, mget_tl, mget_appW_o, mget_appW_n, mget_appW_e])))⟩
theorem L19_0_okM (n : Nat) (a0 : List (List TTubeNode)) (c5 : Int) (c28 : Int) (k0_0 : Int) (k0_1 : Int) {t : ρ19} (R : AV → Mem → Prop) (hR : ∀ r : ρ19, t = r → ∀ u m, MadeT TClash.E 89 r.1 [Value.int .i64 r.2] u m → R u m) (k : Nat) (x : Int × List TClash) (hx : iterO (fun y : Int × List TClash => S19_0 n a0 c5 c28 k0_0 k0_1 y.1 y.2) k x = some t) {s : St} (hw : Weak KK 74 0 s (h19_0 (lstA (lstE TTubeNode.E) a0) AV.nils c5 (ownV TClash.E 90000 x.2) c28 x.1 k0_0 k0_1 [(90000, ownB TClash.E 89 x.2)])) : Tri Try.prog KK 74 0 (.loop c19_0) s (q19_0 R ) :=
  L19_0 R  (σ := Nat × (Int × List TClash)) (fun z => iterO (fun y : Int × List TClash => S19_0 n a0 c5 c28 k0_0 k0_1 y.1 y.2) z.1 z.2 = some t) (fun z => (lstA (lstE TTubeNode.E) a0)) (fun z => AV.nils) (fun z => c5) (fun z => (ownV TClash.E 90000 z.2.2)) (fun z => c28) (fun z => z.2.1) (fun z => k0_0) (fun z => k0_1) (fun z => [(90000, ownB TClash.E 89 z.2.2)]) (fun z => z.1) (by
    rintro ⟨k, y⟩ h
    cases k with
    | zero => exact (iterO_zero h).elim
    | succ k =>
      obtain ⟨u, h1, h2, h3⟩ := iterO_elim h
      exact B19_0_okM n a0 c5 c28 k0_0 k0_1 y.1 y.2 R  _ (fun r e => hR r (h3 _ e).symm)  (fun y' e s' hw => ⟨(k, y'), h2 _ e, Nat.lt_succ_self k, hw⟩) h1) (k, x) hx hw
theorem g19_okM (n : Nat) (a0 : List (List TTubeNode)) (a1 : TSep) {t : ρ19} (R : AV → Mem → Prop) (hR : ∀ r : ρ19, t = r → ∀ u m, MadeT TClash.E 89 r.1 [Value.int .i64 r.2] u m → R u m) : g19 n a0 a1 = some t → F19 (lstA (lstE TTubeNode.E) a0) a1.Lateral a1.Vertical R := by
  unfold g19 F19
  refine bind_b fun x124 h124 => ?_
  refine imp (callQ_says (sg36 h124)) ?_
  refine imp ex_i64_b ?_
  refine cond_b (fun _ => ?_) (fun _ => ?_)
  · exact fun hg => hR _ (Option.some.inj hg).symm _ _ ⟨_, rfl, made_nils_pf⟩
  · refine imp (opP_of (show _ = some ((intA (a0.length : Int)), []) from rfl)) ?_
    refine imp ex_i64_b ?_
    refine cond_b (fun _ => ?_) (fun _ => ?_)
    · exact fun hg => hR _ (Option.some.inj hg).symm _ _ ⟨_, rfl, made_nils_pf⟩
    · refine bind_b fun x125 h125 => ?_
      refine imp (callQ_says (sg37 h125)) ?_
      refine imp ex_i64_b ?_
      refine cond_b (fun _ => ?_) (fun _ => ?_)
      · exact fun hg => hR _ (Option.some.inj hg).symm _ _ ⟨_, rfl, made_nils_pf⟩
      · refine imp (opP_of (show _ = some ((intA (a0.length : Int)), []) from rfl)) ?_
        refine imp ex_i64_b ?_
        exact fun hg => L19_0_okM n a0 (0) (a0.length : Int) a1.Lateral a1.Vertical R  hR n _ hg (weak_mem [(90000, 89500), (0, 0)] rfl rfl rfl (okW_cons (ent_lst (E := (lstE TTubeNode.E)) _ false) (okW_cons (.inl (leV_refl _)) (okW_cons (.inl (leV_refl _)) (okW_cons (.inl (leV_refl _)) (okW_cons ent_nils_own (okW_cons (.inl (leV_refl _)) (okW_cons (.inl (leV_refl _)) okW_nil))))))) (okB_cons (okB_cells (cs := [(intA a1.Lateral), (intA a1.Vertical)]) (ty := 24) rfl (show mget _ 0 = _ from (by first | rfl | (simp (disch := first | decide | assumption) only [mpushs_nil, mpushs_cons, mget_hd, mget_tl, mget_appW_o, mget_appW_n, mget_appW_e])))) (okB_cons okB_nil okB_nil')))
theorem mg19C {n k : Nat} {look : Nat → Option ABlk} {a0 : List (List TTubeNode)} {a1 : TSep} {t : ρ19} (h : g19 n a0 a1 = some t) : PureD Try.prog KK.gl look k 19 [(lstA (lstE TTubeNode.E) a0), (AV.agg [(intA a1.Lateral), (intA a1.Vertical)])] (.tup (ownV TClash.E k t.1 :: ([Value.int .i64 t.2] : List Value).map AV.sc)) [(k, ownB TClash.E 89 t.1)] :=
  made_tupC (by first | rfl | simp [cleans, clean, encs_clean, En.cln]) (F19_own (lstA (lstE TTubeNode.E) a0) a1.Lateral a1.Vertical _ (g19_okM n a0 a1 (MadeT TClash.E 89 t.1 [Value.int .i64 t.2]) (fun r e u m h => by rw [e]; exact h) h))
theorem mg19S {n k : Nat} {look : Nat → Option ABlk} {args : List AV} {a0 : List (List TTubeNode)} {a1 : TSep} {t : ρ19} (h : g19 n a0 a1 = some t) (hs : SnL look 6 args [(lstA (lstE TTubeNode.E) a0), (AV.agg [(intA a1.Lateral), (intA a1.Vertical)])]) : PureD Try.prog KK.gl look k 19 args (.tup (ownV TClash.E k t.1 :: ([Value.int .i64 t.2] : List Value).map AV.sc)) [(k, ownB TClash.E 89 t.1)] :=
  made_tupS (fun _ => rfl) hs (F19_own (lstA (lstE TTubeNode.E) a0) a1.Lateral a1.Vertical _ (g19_okM n a0 a1 (MadeT TClash.E 89 t.1 [Value.int .i64 t.2]) (fun r e u m h => by rw [e]; exact h) h))
/- skyway/skywaykeep3.JointFree -/
theorem B6_0_ok (n : Nat) (a0 : List (List TJointOption)) (c4 : Bool) (c5 : List Int) (c35 : Int) (k0_0 : Int) (k0_1 : Int) (v6 : Int) (v36 : Int) (L90000 : List (List TTubeNode)) {t : (Int × Int × List (List TTubeNode)) ⊕ ρ6} (R : AV → Mem → Prop) (N0 : St → Prop) (hR : ∀ r : ρ6, t = (.inr r) → ∀ u m, Ans ((boolA r)) u m → R u m) (hN0 : ∀ y : Int × Int × List (List TTubeNode), t = (.inl y) → ∀ s' : St, Weak KK 104 0 s' (h6_0 (lstA (lstE TJointOption.E) a0) c4 (lstA intE c5) y.1 (ownV (lstE TTubeNode.E) 90000 y.2.2) (lstA intE c5) c35 y.2.1 [(90000, ownB (lstE TTubeNode.E) 37 y.2.2), (0, some ⟨[(intA k0_0), (intA k0_1)], 24⟩)]) → N0 s') : S6_0 n a0 c4 c5 c35 k0_0 k0_1 v6 v36 L90000 = some t → B6_0 (lstA (lstE TJointOption.E) a0) c4 (lstA intE c5) v6 (ownV (lstE TTubeNode.E) 90000 L90000) (lstA intE c5) c35 v36 [(90000, ownB (lstE TTubeNode.E) 37 L90000), (0, some ⟨[(intA k0_0), (intA k0_1)], 24⟩)] R N0 := by
  unfold S6_0 B6_0
  refine cond_b (fun _ => ?_) (fun _ => ?_)
  · refine bind_b fun x104 h104 => ?_
    refine imp (opP_of (show _ = some ((AV.ept [(intA x104)] 0), []) from (idx_lst (E := intE) rfl h104))) ?_
    refine imp (opP_of (show _ = some ((intA x104), []) from rfl)) ?_
    refine imp ex_i64_b ?_
    refine imp (opP_of (show _ = some ((intA (a0.length : Int)), []) from rfl)) ?_
    refine imp ex_i64_b ?_
    refine cond_b (fun _ => ?_) (fun _ => ?_)
    · exact fun hg => ret1 (hR _ (Option.some.inj hg).symm) (fz_sc _ _)
    · refine cond_b (fun _ => ?_) (fun _ => ?_)
      · exact fun hg => ret1 (hR _ (Option.some.inj hg).symm) (fz_sc _ _)
      · refine bind_b fun x105 h105 => ?_
        refine imp (opP_of (show _ = some ((AV.ept [(lstA TJointOption.E x105)] 0), []) from (idx_lst (E := (lstE TJointOption.E)) rfl h105))) ?_
        refine imp (opP_of (show _ = some ((lstA TJointOption.E x105), []) from rfl)) ?_
        refine imp (opP_of (show _ = some ((intA (x105.length : Int)), []) from rfl)) ?_
        refine imp ex_i64_b ?_
        refine cond_b (fun _ => ?_) (fun _ => ?_)
        · exact fun hg => ret1 (hR _ (Option.some.inj hg).symm) (fz_sc _ _)
        · refine bind_b fun x106 h106 => ?_
          refine imp (opP_of (show _ = some ((AV.ept [(lstA TJointOption.E x106)] 0), []) from (idx_lst (E := (lstE TJointOption.E)) rfl h106))) ?_
          refine imp (opP_of (show _ = some ((lstA TJointOption.E x106), []) from rfl)) ?_
          refine bind_b fun x107 h107 => ?_
          refine imp (opP_of (show _ = some ((AV.ept [(intA x107.Cost), (lstA TTubeNode.E x107.Tube)] 0), []) from (idx_lst (E := TJointOption.E) rfl h107))) ?_
          refine imp (opP_of (show _ = some ((AV.ept [(intA x107.Cost), (lstA TTubeNode.E x107.Tube)] 1), []) from rfl)) ?_
          refine imp (opP_of (show _ = some ((lstA TTubeNode.E x107.Tube), []) from rfl)) ?_
          refine imp (opN_of (show _ = some ((blkV (lstE TTubeNode.E) 100032 ([x107.Tube] : List (List TTubeNode))), [(100032, some ⟨encs (lstE TTubeNode.E) ([x107.Tube] : List (List TTubeNode)), 37⟩)]) from rfl)) ?_
          refine bind_b fun x109 h109 => ?_
          refine imp (opN_of (show _ = some ((ownV (lstE TTubeNode.E) 100033 (L90000 ++ ([x107.Tube] : List (List TTubeNode)))), (appW (lstE TTubeNode.E) 100033 90000 37 L90000 ([x107.Tube] : List (List TTubeNode)))) from (app_own (E := (lstE TTubeNode.E)) (l' := L90000) (xs := ([x107.Tube] : List (List TTubeNode))) rfl rfl (cellsOf_blk (E := (lstE TTubeNode.E)) (ty := 37) rfl rfl (by first | rfl | (simp (disch := first | decide | assumption) only [mpushs_nil, mpushs_cons, mget_hd, mget_tl, mget_appW_o, mget_appW_n, mget_appW_e]))) (by first | assumption | simp) rfl (fun hne => Eq.trans (by first | rfl | (simp (disch := first | decide | assumption) only [mpushs_nil, mpushs_cons, mget_hd, mget_tl, mget_appW_o, mget_appW_n, mget_appW_e])) (ownB_ne hne)) h109))) ?_
          refine bind_b fun x110 h110 => ?_
          refine imp (opP_of (show _ = some ((AV.ept [(lstA TJointOption.E x110)] 0), []) from (idx_lst (E := (lstE TJointOption.E)) rfl h110))) ?_
          refine imp (opP_of (show _ = some ((lstA TJointOption.E x110), []) from rfl)) ?_
          refine bind_b fun x111 h111 => ?_
          refine imp (opP_of (show _ = some ((AV.ept [(intA x111.Cost), (lstA TTubeNode.E x111.Tube)] 0), []) from (idx_lst (E := TJointOption.E) rfl h111))) ?_
          refine imp (opP_of (show _ = some ((AV.ept [(intA x111.Cost), (lstA TTubeNode.E x111.Tube)] 0), []) from rfl)) ?_
          refine imp (opP_of (show _ = some ((intA x111.Cost), []) from rfl)) ?_
          refine imp ex_i64_b ?_
          exact fun hg => hN0 _ (Option.some.inj hg).symm _ (weak_mem [(90000, 100033), (0, 0)] rfl rfl rfl (okW_cons (ent_lst (E := (lstE TJointOption.E)) _ false) (okW_cons (.inl (leV_refl _)) (okW_cons (.inl (leV_refl _)) (okW_cons (ent_lst (E := intE) _ false) (okW_cons (.inl (leV_refl _)) (okW_cons (ent_own (E := (lstE TTubeNode.E)) (id := 100033) (l' := (L90000 ++ ([x107.Tube] : List (List TTubeNode)))) rfl rfl) (okW_cons (ent_lst (E := intE) _ false) (okW_cons (.inl (leV_refl _)) (okW_cons (.inl (leV_refl _)) okW_nil))))))))) (okB_cons (okB_own (E := (lstE TTubeNode.E)) (ty := 37) (l' := (L90000 ++ ([x107.Tube] : List (List TTubeNode)))) rfl (show mget _ 100033 = _ from (by first | rfl | (simp (disch := first | decide | assumption) only [mpushs_nil, mpushs_cons, mget_hd, mget_tl, mget_appW_o, mget_appW_n, mget_appW_e])))) (okB_cons (okB_cells (cs := [(intA k0_0), (intA k0_1)]) (ty := 24) rfl (show mget _ 0 = _ from (by first | rfl | (simp (disch := first | decide | assumption) only [mpushs_nil, mpushs_cons, mget_hd, mget_tl, mget_appW_o, mget_appW_n, mget_appW_e])))) okB_nil')))
  · refine imp (opP_of (show _ = some ((AV.agg [(intA k0_0), (intA k0_1)]), []) from (ldA_ptr (b := ⟨[(intA k0_0), (intA k0_1)], 24⟩) (by first | rfl | (simp (disch := first | decide | assumption) only [mpushs_nil, mpushs_cons, mget_hd, mget_tl, mget_appW_o, mget_appW_n, mget_appW_e])) rfl))) ?_
    refine imp exA2_b ?_
    refine imp ex_i64_b ?_
    refine imp ex_i64_b ?_
    refine bind_b fun x123 h123 => ?_
    refine imp (callW_D (show PureD _ _ _ _ _ _ (AV.tup [(ownV TClash.E 100003 x123.1), (intA x123.2)]) [(100003, ownB TClash.E 89 x123.1)] from mg19S h123 (snL_cons (sn_own (E := (lstE TTubeNode.E)) (ty := 37) (l' := L90000) _ (lstE.nf TTubeNode.E) rfl (by first | rfl | (simp (disch := first | decide | assumption) only [mpushs_nil, mpushs_cons, mget_hd, mget_tl, mget_appW_o, mget_appW_n, mget_appW_e]))) (snL_cons (sn_agg _ (snL_cons (sn_sc _ _) (snL_cons (sn_sc _ _) snL_nil))) snL_nil)))) ?_
    refine imp exT2_b ?_
    refine imp ex_i64_b ?_
    refine imp (opP_of (show _ = some ((intA (c5.length : Int)), []) from rfl)) ?_
    refine imp ex_i64_b ?_
    refine imp (opP_of (show _ = some ((intA (a0.length : Int)), []) from rfl)) ?_
    refine imp ex_i64_b ?_
    refine cond_b (fun _ => ?_) (fun _ => ?_)
    · refine cond_b (fun _ => ?_) (fun _ => ?_)
      · refine cond_b (fun _ => ?_) (fun _ => ?_)
        · refine imp (opP_of (show _ = some ((intA (x123.1.length : Int)), []) from len_own)) ?_
          refine imp ex_i64_b ?_
          exact fun hg => ret1 (hR _ (Option.some.inj hg).symm) (fz_sc _ _)
        · exact fun hg => ret1 (hR _ (Option.some.inj hg).symm) (fz_sc _ _)
      · exact fun hg => ret1 (hR _ (Option.some.inj hg).symm) (fz_sc _ _)
    · exact fun hg => ret1 (hR _ (Option.some.inj hg).symm) (fz_sc _ _)
theorem L6_0_ok (n : Nat) (a0 : List (List TJointOption)) (c4 : Bool) (c5 : List Int) (c35 : Int) (k0_0 : Int) (k0_1 : Int) {t : ρ6} (R : AV → Mem → Prop) (hR : ∀ r : ρ6, t = r → ∀ u m, Ans ((boolA r)) u m → R u m) (k : Nat) (x : Int × Int × List (List TTubeNode)) (hx : iterO (fun y : Int × Int × List (List TTubeNode) => S6_0 n a0 c4 c5 c35 k0_0 k0_1 y.1 y.2.1 y.2.2) k x = some t) {s : St} (hw : Weak KK 104 0 s (h6_0 (lstA (lstE TJointOption.E) a0) c4 (lstA intE c5) x.1 (ownV (lstE TTubeNode.E) 90000 x.2.2) (lstA intE c5) c35 x.2.1 [(90000, ownB (lstE TTubeNode.E) 37 x.2.2), (0, some ⟨[(intA k0_0), (intA k0_1)], 24⟩)])) : Tri Try.prog KK 104 0 (.loop c6_0) s (q6_0 R ) :=
  L6_0 R  (σ := Nat × (Int × Int × List (List TTubeNode))) (fun z => iterO (fun y : Int × Int × List (List TTubeNode) => S6_0 n a0 c4 c5 c35 k0_0 k0_1 y.1 y.2.1 y.2.2) z.1 z.2 = some t) (fun z => (lstA (lstE TJointOption.E) a0)) (fun z => c4) (fun z => (lstA intE c5)) (fun z => z.2.1) (fun z => (ownV (lstE TTubeNode.E) 90000 z.2.2.2)) (fun z => (lstA intE c5)) (fun z => c35) (fun z => z.2.2.1) (fun z => [(90000, ownB (lstE TTubeNode.E) 37 z.2.2.2), (0, some ⟨[(intA k0_0), (intA k0_1)], 24⟩)]) (fun z => z.1) (by
    rintro ⟨k, y⟩ h
    cases k with
    | zero => exact (iterO_zero h).elim
    | succ k =>
      obtain ⟨u, h1, h2, h3⟩ := iterO_elim h
      exact B6_0_ok n a0 c4 c5 c35 k0_0 k0_1 y.1 y.2.1 y.2.2 R  _ (fun r e => hR r (h3 _ e).symm)  (fun y' e s' hw => ⟨(k, y'), h2 _ e, Nat.lt_succ_self k, hw⟩) h1) (k, x) hx hw
theorem g6_ok (n : Nat) (a0 : List (List TJointOption)) (a1 : TSep) {t : ρ6} (R : AV → Mem → Prop) (hR : ∀ r : ρ6, t = r → ∀ u m, Ans ((boolA r)) u m → R u m) : g6 n a0 a1 = some t → F6 (lstA (lstE TJointOption.E) a0) a1.Lateral a1.Vertical R := by
  unfold g6 F6
  refine bind_b fun x101 h101 => ?_
  refine imp (callQ_says (sg7 h101)) ?_
  refine imp exB_b ?_
  refine cond_b (fun _ => ?_) (fun _ => ?_)
  · exact fun hg => ret1 (hR _ (Option.some.inj hg).symm) (fz_sc _ _)
  · refine bind_b fun x102 h102 => ?_
    refine imp (callQ_says (sg8 h102)) ?_
    refine imp exB_b ?_
    refine cond_b (fun _ => ?_) (fun _ => ?_)
    · exact fun hg => ret1 (hR _ (Option.some.inj hg).symm) (fz_sc _ _)
    · refine bind_b fun x103 h103 => ?_
      refine imp (callW_says (sg9 h103)) ?_
      refine imp exT3_b ?_
      refine imp ex_i64_b ?_
      refine imp ex_i64_b ?_
      refine cond_b (fun _ => ?_) (fun _ => ?_)
      · refine imp (opP_of (show _ = some ((intA (x103.1.length : Int)), []) from rfl)) ?_
        refine imp ex_i64_b ?_
        refine cond_b (fun _ => ?_) (fun _ => ?_)
        · exact fun hg => ret1 (hR _ (Option.some.inj hg).symm) (fz_sc _ _)
        · exact fun hg => ret1 (hR _ (Option.some.inj hg).symm) (fz_sc _ _)
      · refine imp (opP_of (show _ = some ((intA (x103.1.length : Int)), []) from rfl)) ?_
        refine imp ex_i64_b ?_
        exact fun hg => L6_0_ok n a0 false x103.1 (x103.1.length : Int) a1.Lateral a1.Vertical R  hR n _ hg (weak_mem [(90000, 89500), (0, 0)] rfl rfl rfl (okW_cons (ent_lst (E := (lstE TJointOption.E)) _ false) (okW_cons (.inl (leV_refl _)) (okW_cons (.inl (leV_refl _)) (okW_cons (ent_lst (E := intE) _ false) (okW_cons (.inl (leV_refl _)) (okW_cons ent_nils_own (okW_cons (ent_lst (E := intE) _ false) (okW_cons (.inl (leV_refl _)) (okW_cons (.inl (leV_refl _)) okW_nil))))))))) (okB_cons okB_nil (okB_cons (okB_cells (cs := [(intA a1.Lateral), (intA a1.Vertical)]) (ty := 24) rfl (show mget _ 0 = _ from (by first | rfl | (simp (disch := first | decide | assumption) only [mpushs_nil, mpushs_cons, mget_hd, mget_tl, mget_appW_o, mget_appW_n, mget_appW_e])))) okB_nil')))
theorem sg6 {n : Nat} {a0 : List (List TJointOption)} {a1 : TSep} {t : ρ6} (h : g6 n a0 a1 = some t) : Says Try.prog KK.gl 6 [(lstA (lstE TJointOption.E) a0), (AV.agg [(intA a1.Lateral), (intA a1.Vertical)])] ((boolA t)) :=
  says_of_own (by first | rfl | simp [cleans, clean, encs_clean, En.cln]) (by first | rfl | simp [cleans, clean, encs_clean, En.cln]) (F6_own (lstA (lstE TJointOption.E) a0) a1.Lateral a1.Vertical _ (g6_ok n a0 a1 (Ans ((boolA t))) (fun r e u m h => by rw [e]; exact h) h))
end Go.Proofs.Ytlgbioidkbeanaa
