/- Plain functional programs out of the program's functions, with proofs that the functions compute them; printed by wip/Ext.lean.txt. -/
import Derived.Test.YtfmodgffhbljoaaX1G
import Derived.Test.YtfmodgffhbljoaaX1F1
import Derived.Test.YtfmodgffhbljoaaX1S
set_option linter.unusedVariables false
set_option linter.unusedSimpArgs false
set_option maxRecDepth 100000
set_option maxHeartbeats 4000000
namespace Go.Proofs.Ytfmodgffhbljoaa
theorem cloneC33 {n : Nat} {look : Nat → Option ABlk} {l : List TSequenceArrival} {u : Unit} (h : roomO l.length 40 = some u) : PureD Try.prog KK.gl look n 33 [lstA TSequenceArrival.E l] (ownV TSequenceArrival.E n l) [(n, ownB TSequenceArrival.E 69 l)] :=
  made_ownC (by simp [cleans, clean, encs_clean]) (F33_own _ _ (by
    unfold F33
    exact clone_ok (E := TSequenceArrival.E) rfl rfl h))
theorem cloneS33 {n : Nat} {look : Nat → Option ABlk} {args : List AV} {l : List TSequenceArrival} {u : Unit} (h : roomO l.length 40 = some u) (hs : SnL look 6 args [lstA TSequenceArrival.E l]) : PureD Try.prog KK.gl look n 33 args (ownV TSequenceArrival.E n l) [(n, ownB TSequenceArrival.E 69 l)] :=
  made_ownS (fun _ => rfl) hs (F33_own _ _ (by
    unfold F33
    exact clone_ok (E := TSequenceArrival.E) rfl rfl h))
theorem cloneC14 {n : Nat} {look : Nat → Option ABlk} {l : List Int} {u : Unit} (h : roomO l.length 8 = some u) : PureD Try.prog KK.gl look n 14 [lstA intE l] (ownV intE n l) [(n, ownB intE 3 l)] :=
  made_ownC (by simp [cleans, clean, encs_clean]) (F14_own _ _ (by
    unfold F14
    exact clone_ok (E := intE) rfl rfl h))
theorem cloneS14 {n : Nat} {look : Nat → Option ABlk} {args : List AV} {l : List Int} {u : Unit} (h : roomO l.length 8 = some u) (hs : SnL look 6 args [lstA intE l]) : PureD Try.prog KK.gl look n 14 args (ownV intE n l) [(n, ownB intE 3 l)] :=
  made_ownS (fun _ => rfl) hs (F14_own _ _ (by
    unfold F14
    exact clone_ok (E := intE) rfl rfl h))
/- skyway/sequence.times -/
theorem B53_0_ok (n : Nat) (a0 : List TSequenceArrival) (a1 : List Int) (c7 : Bool) (c13 : Int) (k0_0 : Int) (k0_1 : Int) (k0_2 : Int) (k0_3 : Int) (k0_4 : Int) (k0_5 : Int) (k0_6 : Int) (k0_7 : Int) (k0_8 : Int) (k0_9 : Int) (k0_10 : Int) (k0_11 : Int) (k0_12 : Int) (k0_13 : Int) (k0_14 : Int) (k0_15 : Int) (v14 : Int) (L90000 : List Int) {t : (Int × List Int) ⊕ ρ53} (R : AV → Mem → Prop) (N0 : St → Prop) (hR : ∀ r : ρ53, t = (.inr r) → ∀ u m, Ans ((AV.tup [(lstA intE r.1), (boolA r.2)])) u m → R u m) (hN0 : ∀ y : Int × List Int, t = (.inl y) → ∀ s' : St, Weak KK 64 0 s' (h53_0 (lstA TSequenceArrival.E a0) (lstA intE a1) AV.nils c7 (ownV intE 90000 y.2) (lstA intE a1) c13 y.1 k0_0 k0_1 k0_2 k0_3 k0_4 k0_5 k0_6 k0_7 k0_8 k0_9 k0_10 k0_11 k0_12 k0_13 k0_14 k0_15 [(90000, ownB intE 3 y.2)]) → N0 s') : S53_0 n a0 a1 c7 c13 k0_0 k0_1 k0_2 k0_3 k0_4 k0_5 k0_6 k0_7 k0_8 k0_9 k0_10 k0_11 k0_12 k0_13 k0_14 k0_15 v14 L90000 = some t → B53_0 (lstA TSequenceArrival.E a0) (lstA intE a1) AV.nils c7 (ownV intE 90000 L90000) (lstA intE a1) c13 v14 k0_0 k0_1 k0_2 k0_3 k0_4 k0_5 k0_6 k0_7 k0_8 k0_9 k0_10 k0_11 k0_12 k0_13 k0_14 k0_15 [(90000, ownB intE 3 L90000)] R N0 := by
  unfold S53_0 B53_0
  refine cond_b (fun _ => ?_) (fun _ => ?_)
  · refine bind_b fun x0 h0 => ?_
    refine imp (opP_of (show _ = some ((AV.ept [(intA x0)] 0), []) from (idx_lst (E := intE) rfl h0))) ?_
    refine imp (opP_of (show _ = some ((intA x0), []) from rfl)) ?_
    refine imp ex_i64_b ?_
    refine bind_b fun x1 h1 => ?_
    refine imp (opP_of (show _ = some ((AV.ept [(strA x1.Call), (intA x1.Wake), (intA x1.Time), (intA x1.Latest)] 0), []) from (idx_lst (E := TSequenceArrival.E) rfl h1))) ?_
    refine imp (opP_of (show _ = some ((AV.ept [(strA x1.Call), (intA x1.Wake), (intA x1.Time), (intA x1.Latest)] 2), []) from rfl)) ?_
    refine imp (opP_of (show _ = some ((intA x1.Time), []) from rfl)) ?_
    refine imp ex_i64_b ?_
    refine cond_b (fun _ => ?_) (fun _ => ?_)
    · refine bind_b fun x2 h2 => ?_
      refine imp (opP_of (show _ = some ((AV.ptr 90000 ((((IntKind.wrap .i64 (v14 - (1))) : Int).toNat) * 1 + 0)), []) from (idx_own (E := intE) rfl h2))) ?_
      refine imp (opP_of (show _ = some ((intA x2), []) from (ldS_blk (E := intE) (l := L90000) (ty := 3) (o := 0) (own_some (ty := 3) (by first | rfl | (simp (disch := first | decide | assumption) only [mpushs_nil, mpushs_cons, mget_hd, mget_tl, mget_appW_o, mget_appW_n, mget_appW_e])) (getI_some h2).2) (getI_some h2).2 rfl (by decide) rfl))) ?_
      refine imp ex_i64_b ?_
      refine bind_b fun x3 h3 => ?_
      refine imp (opP_of (show _ = some ((AV.ept [(intA x3)] 0), []) from (idx_lst (E := intE) rfl h3))) ?_
      refine imp (opP_of (show _ = some ((intA x3), []) from rfl)) ?_
      refine imp ex_i64_b ?_
      refine bind_b fun x4 h4 => ?_
      refine imp (opP_of (show _ = some ((AV.ept [(strA x4.Call), (intA x4.Wake), (intA x4.Time), (intA x4.Latest)] 0), []) from (idx_lst (E := TSequenceArrival.E) rfl h4))) ?_
      refine imp (opP_of (show _ = some ((AV.ept [(strA x4.Call), (intA x4.Wake), (intA x4.Time), (intA x4.Latest)] 1), []) from rfl)) ?_
      refine imp (opP_of (show _ = some ((intA x4.Wake), []) from rfl)) ?_
      refine imp ex_i64_b ?_
      refine bind_b fun x5 h5 => ?_
      refine imp (opP_of (show _ = some ((AV.ept [(strA x5.Call), (intA x5.Wake), (intA x5.Time), (intA x5.Latest)] 0), []) from (idx_lst (E := TSequenceArrival.E) rfl h5))) ?_
      refine imp (opP_of (show _ = some ((AV.ept [(strA x5.Call), (intA x5.Wake), (intA x5.Time), (intA x5.Latest)] 1), []) from rfl)) ?_
      refine imp (opP_of (show _ = some ((intA x5.Wake), []) from rfl)) ?_
      refine imp ex_i64_b ?_
      refine bind_b fun x6 h6 => ?_
      refine imp (opP_of (show _ = some ((AV.ptr 0 (((x4.Wake : Int).toNat) * 4 + 0)), []) from (idxA_ok0 (l := ([(⟨k0_0, k0_1, k0_2, k0_3⟩ : T22), (⟨k0_4, k0_5, k0_6, k0_7⟩ : T22), (⟨k0_8, k0_9, k0_10, k0_11⟩ : T22), (⟨k0_12, k0_13, k0_14, k0_15⟩ : T22)] : List T22)) (len := 4) rfl h6))) ?_
      refine bind_b fun x7 h7 => ?_
      refine imp (opP_of (show _ = some ((AV.ptr 0 _), []) from (idxA_ok (l := ([x6.c0, x6.c1, x6.c2, x6.c3] : List Int)) (len := 4) rfl h7))) ?_
      refine imp (opP_of (show _ = some ((intA x7), []) from (ldS_row (E := T22.E) (E2 := intE) (l := ([(⟨k0_0, k0_1, k0_2, k0_3⟩ : T22), (⟨k0_4, k0_5, k0_6, k0_7⟩ : T22), (⟨k0_8, k0_9, k0_10, k0_11⟩ : T22), (⟨k0_12, k0_13, k0_14, k0_15⟩ : T22)] : List T22)) (l2 := ([x6.c0, x6.c1, x6.c2, x6.c3] : List Int)) (ty := 24) (by first | rfl | (simp (disch := first | decide | assumption) only [mpushs_nil, mpushs_cons, mget_hd, mget_tl, mget_appW_o, mget_appW_n, mget_appW_e])) (getI_some h6).2 rfl rfl (getI_some h7).2 rfl))) ?_
      refine imp ex_i64_b ?_
      refine imp (opP_of (show _ = some ((intA (if (IntKind.wrap .i64 (x2 + x7)) > x1.Time then (IntKind.wrap .i64 (x2 + x7)) else x1.Time)), []) from (by kernel_rfl))) ?_
      refine imp ex_i64_b ?_
      refine bind_b fun x8 h8 => ?_
      refine imp (opP_of (show _ = some ((AV.ept [(strA x8.Call), (intA x8.Wake), (intA x8.Time), (intA x8.Latest)] 0), []) from (idx_lst (E := TSequenceArrival.E) rfl h8))) ?_
      refine imp (opP_of (show _ = some ((AV.ept [(strA x8.Call), (intA x8.Wake), (intA x8.Time), (intA x8.Latest)] 3), []) from rfl)) ?_
      refine imp (opP_of (show _ = some ((intA x8.Latest), []) from rfl)) ?_
      refine imp ex_i64_b ?_
      refine cond_b (fun _ => ?_) (fun _ => ?_)
      · exact fun hg => retN rfl (hR _ (Option.some.inj hg).symm) (fzL_cons (fz_nils (E := intE) _) (fzL_cons (fz_sc _ _) fzL_nil))
      · refine imp (opN_of (show _ = some ((blkV intE 100049 ([(if (IntKind.wrap .i64 (x2 + x7)) > x1.Time then (IntKind.wrap .i64 (x2 + x7)) else x1.Time)] : List Int)), [(100049, some ⟨encs intE ([(if (IntKind.wrap .i64 (x2 + x7)) > x1.Time then (IntKind.wrap .i64 (x2 + x7)) else x1.Time)] : List Int), 3⟩)]) from rfl)) ?_
        refine bind_b fun x10 h10 => ?_
        refine imp (opN_of (show _ = some ((ownV intE 100050 (L90000 ++ ([(if (IntKind.wrap .i64 (x2 + x7)) > x1.Time then (IntKind.wrap .i64 (x2 + x7)) else x1.Time)] : List Int))), (appW intE 100050 90000 3 L90000 ([(if (IntKind.wrap .i64 (x2 + x7)) > x1.Time then (IntKind.wrap .i64 (x2 + x7)) else x1.Time)] : List Int))) from (app_own (E := intE) (l' := L90000) (xs := ([(if (IntKind.wrap .i64 (x2 + x7)) > x1.Time then (IntKind.wrap .i64 (x2 + x7)) else x1.Time)] : List Int)) rfl rfl (cellsOf_blk (E := intE) (ty := 3) rfl rfl (by first | rfl | (simp (disch := first | decide | assumption) only [mpushs_nil, mpushs_cons, mget_hd, mget_tl, mget_appW_o, mget_appW_n, mget_appW_e]))) (by first | assumption | simp) rfl (fun hne => Eq.trans (by first | rfl | (simp (disch := first | decide | assumption) only [mpushs_nil, mpushs_cons, mget_hd, mget_tl, mget_appW_o, mget_appW_n, mget_appW_e])) (ownB_ne hne)) h10))) ?_
        exact fun hg => hN0 _ (Option.some.inj hg).symm _ (weak_mem [(90000, 100050), (0, 0)] rfl rfl rfl (okW_cons (ent_lst (E := TSequenceArrival.E) _ false) (okW_cons (ent_lst (E := intE) _ false) (okW_cons (.inl (leV_refl _)) (okW_cons (.inl (leV_refl _)) (okW_cons (.inl (leV_refl _)) (okW_cons (ent_own (E := intE) (id := 100050) (l' := (L90000 ++ ([(if (IntKind.wrap .i64 (x2 + x7)) > x1.Time then (IntKind.wrap .i64 (x2 + x7)) else x1.Time)] : List Int))) rfl rfl) (okW_cons (ent_lst (E := intE) _ false) (okW_cons (.inl (leV_refl _)) (okW_cons (.inl (leV_refl _)) okW_nil))))))))) (okB_cons (okB_cells (cs := [(intA k0_0), (intA k0_1), (intA k0_2), (intA k0_3), (intA k0_4), (intA k0_5), (intA k0_6), (intA k0_7), (intA k0_8), (intA k0_9), (intA k0_10), (intA k0_11), (intA k0_12), (intA k0_13), (intA k0_14), (intA k0_15)]) (ty := 24) rfl (show mget _ 0 = _ from (by first | rfl | (simp (disch := first | decide | assumption) only [mpushs_nil, mpushs_cons, mget_hd, mget_tl, mget_appW_o, mget_appW_n, mget_appW_e])))) (okB_cons (okB_own (E := intE) (ty := 3) (l' := (L90000 ++ ([(if (IntKind.wrap .i64 (x2 + x7)) > x1.Time then (IntKind.wrap .i64 (x2 + x7)) else x1.Time)] : List Int))) rfl (show mget _ 100050 = _ from (by first | rfl | (simp (disch := first | decide | assumption) only [mpushs_nil, mpushs_cons, mget_hd, mget_tl, mget_appW_o, mget_appW_n, mget_appW_e])))) okB_nil')))
    · refine bind_b fun x11 h11 => ?_
      refine imp (opP_of (show _ = some ((AV.ept [(strA x11.Call), (intA x11.Wake), (intA x11.Time), (intA x11.Latest)] 0), []) from (idx_lst (E := TSequenceArrival.E) rfl h11))) ?_
      refine imp (opP_of (show _ = some ((AV.ept [(strA x11.Call), (intA x11.Wake), (intA x11.Time), (intA x11.Latest)] 3), []) from rfl)) ?_
      refine imp (opP_of (show _ = some ((intA x11.Latest), []) from rfl)) ?_
      refine imp ex_i64_b ?_
      refine cond_b (fun _ => ?_) (fun _ => ?_)
      · exact fun hg => retN rfl (hR _ (Option.some.inj hg).symm) (fzL_cons (fz_nils (E := intE) _) (fzL_cons (fz_sc _ _) fzL_nil))
      · refine imp (opN_of (show _ = some ((blkV intE 100023 ([x1.Time] : List Int)), [(100023, some ⟨encs intE ([x1.Time] : List Int), 3⟩)]) from rfl)) ?_
        refine bind_b fun x13 h13 => ?_
        refine imp (opN_of (show _ = some ((ownV intE 100024 (L90000 ++ ([x1.Time] : List Int))), (appW intE 100024 90000 3 L90000 ([x1.Time] : List Int))) from (app_own (E := intE) (l' := L90000) (xs := ([x1.Time] : List Int)) rfl rfl (cellsOf_blk (E := intE) (ty := 3) rfl rfl (by first | rfl | (simp (disch := first | decide | assumption) only [mpushs_nil, mpushs_cons, mget_hd, mget_tl, mget_appW_o, mget_appW_n, mget_appW_e]))) (by first | assumption | simp) rfl (fun hne => Eq.trans (by first | rfl | (simp (disch := first | decide | assumption) only [mpushs_nil, mpushs_cons, mget_hd, mget_tl, mget_appW_o, mget_appW_n, mget_appW_e])) (ownB_ne hne)) h13))) ?_
        exact fun hg => hN0 _ (Option.some.inj hg).symm _ (weak_mem [(90000, 100024), (0, 0)] rfl rfl rfl (okW_cons (ent_lst (E := TSequenceArrival.E) _ false) (okW_cons (ent_lst (E := intE) _ false) (okW_cons (.inl (leV_refl _)) (okW_cons (.inl (leV_refl _)) (okW_cons (.inl (leV_refl _)) (okW_cons (ent_own (E := intE) (id := 100024) (l' := (L90000 ++ ([x1.Time] : List Int))) rfl rfl) (okW_cons (ent_lst (E := intE) _ false) (okW_cons (.inl (leV_refl _)) (okW_cons (.inl (leV_refl _)) okW_nil))))))))) (okB_cons (okB_cells (cs := [(intA k0_0), (intA k0_1), (intA k0_2), (intA k0_3), (intA k0_4), (intA k0_5), (intA k0_6), (intA k0_7), (intA k0_8), (intA k0_9), (intA k0_10), (intA k0_11), (intA k0_12), (intA k0_13), (intA k0_14), (intA k0_15)]) (ty := 24) rfl (show mget _ 0 = _ from (by first | rfl | (simp (disch := first | decide | assumption) only [mpushs_nil, mpushs_cons, mget_hd, mget_tl, mget_appW_o, mget_appW_n, mget_appW_e])))) (okB_cons (okB_own (E := intE) (ty := 3) (l' := (L90000 ++ ([x1.Time] : List Int))) rfl (show mget _ 100024 = _ from (by first | rfl | (simp (disch := first | decide | assumption) only [mpushs_nil, mpushs_cons, mget_hd, mget_tl, mget_appW_o, mget_appW_n, mget_appW_e])))) okB_nil')))
  · exact fun hg => retN rfl (hR _ (Option.some.inj hg).symm) (fzL_cons (fz_own (E := intE) (ty := 3) (l' := L90000) _ rfl (by first | rfl | (simp (disch := first | decide | assumption) only [mpushs_nil, mpushs_cons, mget_hd, mget_tl, mget_appW_o, mget_appW_n, mget_appW_e]))) (fzL_cons (fz_sc _ _) fzL_nil))
theorem L53_0_ok (n : Nat) (a0 : List TSequenceArrival) (a1 : List Int) (c7 : Bool) (c13 : Int) (k0_0 : Int) (k0_1 : Int) (k0_2 : Int) (k0_3 : Int) (k0_4 : Int) (k0_5 : Int) (k0_6 : Int) (k0_7 : Int) (k0_8 : Int) (k0_9 : Int) (k0_10 : Int) (k0_11 : Int) (k0_12 : Int) (k0_13 : Int) (k0_14 : Int) (k0_15 : Int) {t : ρ53} (R : AV → Mem → Prop) (hR : ∀ r : ρ53, t = r → ∀ u m, Ans ((AV.tup [(lstA intE r.1), (boolA r.2)])) u m → R u m) (k : Nat) (x : Int × List Int) (hx : iterO (fun y : Int × List Int => S53_0 n a0 a1 c7 c13 k0_0 k0_1 k0_2 k0_3 k0_4 k0_5 k0_6 k0_7 k0_8 k0_9 k0_10 k0_11 k0_12 k0_13 k0_14 k0_15 y.1 y.2) k x = some t) {s : St} (hw : Weak KK 64 0 s (h53_0 (lstA TSequenceArrival.E a0) (lstA intE a1) AV.nils c7 (ownV intE 90000 x.2) (lstA intE a1) c13 x.1 k0_0 k0_1 k0_2 k0_3 k0_4 k0_5 k0_6 k0_7 k0_8 k0_9 k0_10 k0_11 k0_12 k0_13 k0_14 k0_15 [(90000, ownB intE 3 x.2)])) : Tri Try.prog KK 64 0 (.loop c53_0) s (q53_0 R ) :=
  L53_0 R  (σ := Nat × (Int × List Int)) (fun z => iterO (fun y : Int × List Int => S53_0 n a0 a1 c7 c13 k0_0 k0_1 k0_2 k0_3 k0_4 k0_5 k0_6 k0_7 k0_8 k0_9 k0_10 k0_11 k0_12 k0_13 k0_14 k0_15 y.1 y.2) z.1 z.2 = some t) (fun z => (lstA TSequenceArrival.E a0)) (fun z => (lstA intE a1)) (fun z => AV.nils) (fun z => c7) (fun z => (ownV intE 90000 z.2.2)) (fun z => (lstA intE a1)) (fun z => c13) (fun z => z.2.1) (fun z => k0_0) (fun z => k0_1) (fun z => k0_2) (fun z => k0_3) (fun z => k0_4) (fun z => k0_5) (fun z => k0_6) (fun z => k0_7) (fun z => k0_8) (fun z => k0_9) (fun z => k0_10) (fun z => k0_11) (fun z => k0_12) (fun z => k0_13) (fun z => k0_14) (fun z => k0_15) (fun z => [(90000, ownB intE 3 z.2.2)]) (fun z => z.1) (by
    rintro ⟨k, y⟩ h
    cases k with
    | zero => exact (iterO_zero h).elim
    | succ k =>
      obtain ⟨u, h1, h2, h3⟩ := iterO_elim h
      exact B53_0_ok n a0 a1 c7 c13 k0_0 k0_1 k0_2 k0_3 k0_4 k0_5 k0_6 k0_7 k0_8 k0_9 k0_10 k0_11 k0_12 k0_13 k0_14 k0_15 y.1 y.2 R  _ (fun r e => hR r (h3 _ e).symm)  (fun y' e s' hw => ⟨(k, y'), h2 _ e, Nat.lt_succ_self k, hw⟩) h1) (k, x) hx hw
theorem g53_ok (n : Nat) (a0 : List TSequenceArrival) (a1 : List Int) (a2 : TWakeTable) {t : ρ53} (R : AV → Mem → Prop) (hR : ∀ r : ρ53, t = r → ∀ u m, Ans ((AV.tup [(lstA intE r.1), (boolA r.2)])) u m → R u m) : g53 n a0 a1 a2 = some t → F53 (lstA TSequenceArrival.E a0) (lstA intE a1) a2.c0_0 a2.c0_1 a2.c0_2 a2.c0_3 a2.c1_0 a2.c1_1 a2.c1_2 a2.c1_3 a2.c2_0 a2.c2_1 a2.c2_2 a2.c2_3 a2.c3_0 a2.c3_1 a2.c3_2 a2.c3_3 R := by
  unfold g53 F53
  refine imp (opP_of (show _ = some ((intA (a1.length : Int)), []) from rfl)) ?_
  refine imp ex_i64_b ?_
  exact fun hg => L53_0_ok n a0 a1 false (a1.length : Int) a2.c0_0 a2.c0_1 a2.c0_2 a2.c0_3 a2.c1_0 a2.c1_1 a2.c1_2 a2.c1_3 a2.c2_0 a2.c2_1 a2.c2_2 a2.c2_3 a2.c3_0 a2.c3_1 a2.c3_2 a2.c3_3 R  hR n _ hg (weak_mem [(90000, 89500), (0, 0)] rfl rfl rfl (okW_cons (ent_lst (E := TSequenceArrival.E) _ false) (okW_cons (ent_lst (E := intE) _ false) (okW_cons (.inl (leV_refl _)) (okW_cons (.inl (leV_refl _)) (okW_cons (.inl (leV_refl _)) (okW_cons ent_nils_own (okW_cons (ent_lst (E := intE) _ false) (okW_cons (.inl (leV_refl _)) (okW_cons (.inl (leV_refl _)) okW_nil))))))))) (okB_cons (okB_cells (cs := [(intA a2.c0_0), (intA a2.c0_1), (intA a2.c0_2), (intA a2.c0_3), (intA a2.c1_0), (intA a2.c1_1), (intA a2.c1_2), (intA a2.c1_3), (intA a2.c2_0), (intA a2.c2_1), (intA a2.c2_2), (intA a2.c2_3), (intA a2.c3_0), (intA a2.c3_1), (intA a2.c3_2), (intA a2.c3_3)]) (ty := 24) rfl (show mget _ 0 = _ from (by first | rfl | (simp (disch := first | decide | assumption) only [mpushs_nil, mpushs_cons, mget_hd, mget_tl, mget_appW_o, mget_appW_n, mget_appW_e])))) (okB_cons okB_nil okB_nil')))
theorem sg53 {n : Nat} {a0 : List TSequenceArrival} {a1 : List Int} {a2 : TWakeTable} {t : ρ53} (h : g53 n a0 a1 a2 = some t) : Says Try.prog KK.gl 53 [(lstA TSequenceArrival.E a0), (lstA intE a1), (AV.agg [(intA a2.c0_0), (intA a2.c0_1), (intA a2.c0_2), (intA a2.c0_3), (intA a2.c1_0), (intA a2.c1_1), (intA a2.c1_2), (intA a2.c1_3), (intA a2.c2_0), (intA a2.c2_1), (intA a2.c2_2), (intA a2.c2_3), (intA a2.c3_0), (intA a2.c3_1), (intA a2.c3_2), (intA a2.c3_3)])] ((AV.tup [(lstA intE t.1), (boolA t.2)])) :=
  says_of_own (by first | rfl | simp [cleans, clean, encs_clean, En.cln]) (by first | rfl | simp [cleans, clean, encs_clean, En.cln]) (F53_own (lstA TSequenceArrival.E a0) (lstA intE a1) a2.c0_0 a2.c0_1 a2.c0_2 a2.c0_3 a2.c1_0 a2.c1_1 a2.c1_2 a2.c1_3 a2.c2_0 a2.c2_1 a2.c2_2 a2.c2_3 a2.c3_0 a2.c3_1 a2.c3_2 a2.c3_3 _ (g53_ok n a0 a1 a2 (Ans ((AV.tup [(lstA intE t.1), (boolA t.2)]))) (fun r e u m h => by rw [e]; exact h) h))
/- skyway/sequence.times -/
theorem B53_0_okM (n : Nat) (a0 : List TSequenceArrival) (a1 : List Int) (c7 : Bool) (c13 : Int) (k0_0 : Int) (k0_1 : Int) (k0_2 : Int) (k0_3 : Int) (k0_4 : Int) (k0_5 : Int) (k0_6 : Int) (k0_7 : Int) (k0_8 : Int) (k0_9 : Int) (k0_10 : Int) (k0_11 : Int) (k0_12 : Int) (k0_13 : Int) (k0_14 : Int) (k0_15 : Int) (v14 : Int) (L90000 : List Int) {t : (Int × List Int) ⊕ ρ53} (R : AV → Mem → Prop) (N0 : St → Prop) (hR : ∀ r : ρ53, t = (.inr r) → ∀ u m, MadeT intE 3 r.1 [Value.bool r.2] u m → R u m) (hN0 : ∀ y : Int × List Int, t = (.inl y) → ∀ s' : St, Weak KK 64 0 s' (h53_0 (lstA TSequenceArrival.E a0) (lstA intE a1) AV.nils c7 (ownV intE 90000 y.2) (lstA intE a1) c13 y.1 k0_0 k0_1 k0_2 k0_3 k0_4 k0_5 k0_6 k0_7 k0_8 k0_9 k0_10 k0_11 k0_12 k0_13 k0_14 k0_15 [(90000, ownB intE 3 y.2)]) → N0 s') : S53_0 n a0 a1 c7 c13 k0_0 k0_1 k0_2 k0_3 k0_4 k0_5 k0_6 k0_7 k0_8 k0_9 k0_10 k0_11 k0_12 k0_13 k0_14 k0_15 v14 L90000 = some t → B53_0 (lstA TSequenceArrival.E a0) (lstA intE a1) AV.nils c7 (ownV intE 90000 L90000) (lstA intE a1) c13 v14 k0_0 k0_1 k0_2 k0_3 k0_4 k0_5 k0_6 k0_7 k0_8 k0_9 k0_10 k0_11 k0_12 k0_13 k0_14 k0_15 [(90000, ownB intE 3 L90000)] R N0 := by
  unfold S53_0 B53_0
  refine cond_b (fun _ => ?_) (fun _ => ?_)
  · refine bind_b fun x14 h14 => ?_
    refine imp (opP_of (show _ = some ((AV.ept [(intA x14)] 0), []) from (idx_lst (E := intE) rfl h14))) ?_
    refine imp (opP_of (show _ = some ((intA x14), []) from rfl)) ?_
    refine imp ex_i64_b ?_
    refine bind_b fun x15 h15 => ?_
    refine imp (opP_of (show _ = some ((AV.ept [(strA x15.Call), (intA x15.Wake), (intA x15.Time), (intA x15.Latest)] 0), []) from (idx_lst (E := TSequenceArrival.E) rfl h15))) ?_
    refine imp (opP_of (show _ = some ((AV.ept [(strA x15.Call), (intA x15.Wake), (intA x15.Time), (intA x15.Latest)] 2), []) from rfl)) ?_
    refine imp (opP_of (show _ = some ((intA x15.Time), []) from rfl)) ?_
    refine imp ex_i64_b ?_
    refine cond_b (fun _ => ?_) (fun _ => ?_)
    · refine bind_b fun x16 h16 => ?_
      refine imp (opP_of (show _ = some ((AV.ptr 90000 ((((IntKind.wrap .i64 (v14 - (1))) : Int).toNat) * 1 + 0)), []) from (idx_own (E := intE) rfl h16))) ?_
      refine imp (opP_of (show _ = some ((intA x16), []) from (ldS_blk (E := intE) (l := L90000) (ty := 3) (o := 0) (own_some (ty := 3) (by first | rfl | (simp (disch := first | decide | assumption) only [mpushs_nil, mpushs_cons, mget_hd, mget_tl, mget_appW_o, mget_appW_n, mget_appW_e])) (getI_some h16).2) (getI_some h16).2 rfl (by decide) rfl))) ?_
      refine imp ex_i64_b ?_
      refine bind_b fun x17 h17 => ?_
      refine imp (opP_of (show _ = some ((AV.ept [(intA x17)] 0), []) from (idx_lst (E := intE) rfl h17))) ?_
      refine imp (opP_of (show _ = some ((intA x17), []) from rfl)) ?_
      refine imp ex_i64_b ?_
      refine bind_b fun x18 h18 => ?_
      refine imp (opP_of (show _ = some ((AV.ept [(strA x18.Call), (intA x18.Wake), (intA x18.Time), (intA x18.Latest)] 0), []) from (idx_lst (E := TSequenceArrival.E) rfl h18))) ?_
      refine imp (opP_of (show _ = some ((AV.ept [(strA x18.Call), (intA x18.Wake), (intA x18.Time), (intA x18.Latest)] 1), []) from rfl)) ?_
      refine imp (opP_of (show _ = some ((intA x18.Wake), []) from rfl)) ?_
      refine imp ex_i64_b ?_
      refine bind_b fun x19 h19 => ?_
      refine imp (opP_of (show _ = some ((AV.ept [(strA x19.Call), (intA x19.Wake), (intA x19.Time), (intA x19.Latest)] 0), []) from (idx_lst (E := TSequenceArrival.E) rfl h19))) ?_
      refine imp (opP_of (show _ = some ((AV.ept [(strA x19.Call), (intA x19.Wake), (intA x19.Time), (intA x19.Latest)] 1), []) from rfl)) ?_
      refine imp (opP_of (show _ = some ((intA x19.Wake), []) from rfl)) ?_
      refine imp ex_i64_b ?_
      refine bind_b fun x20 h20 => ?_
      refine imp (opP_of (show _ = some ((AV.ptr 0 (((x18.Wake : Int).toNat) * 4 + 0)), []) from (idxA_ok0 (l := ([(⟨k0_0, k0_1, k0_2, k0_3⟩ : T22), (⟨k0_4, k0_5, k0_6, k0_7⟩ : T22), (⟨k0_8, k0_9, k0_10, k0_11⟩ : T22), (⟨k0_12, k0_13, k0_14, k0_15⟩ : T22)] : List T22)) (len := 4) rfl h20))) ?_
      refine bind_b fun x21 h21 => ?_
      refine imp (opP_of (show _ = some ((AV.ptr 0 _), []) from (idxA_ok (l := ([x20.c0, x20.c1, x20.c2, x20.c3] : List Int)) (len := 4) rfl h21))) ?_
      refine imp (opP_of (show _ = some ((intA x21), []) from (ldS_row (E := T22.E) (E2 := intE) (l := ([(⟨k0_0, k0_1, k0_2, k0_3⟩ : T22), (⟨k0_4, k0_5, k0_6, k0_7⟩ : T22), (⟨k0_8, k0_9, k0_10, k0_11⟩ : T22), (⟨k0_12, k0_13, k0_14, k0_15⟩ : T22)] : List T22)) (l2 := ([x20.c0, x20.c1, x20.c2, x20.c3] : List Int)) (ty := 24) (by first | rfl | (simp (disch := first | decide | assumption) only [mpushs_nil, mpushs_cons, mget_hd, mget_tl, mget_appW_o, mget_appW_n, mget_appW_e])) (getI_some h20).2 rfl rfl (getI_some h21).2 rfl))) ?_
      refine imp ex_i64_b ?_
      refine imp (opP_of (show _ = some ((intA (if (IntKind.wrap .i64 (x16 + x21)) > x15.Time then (IntKind.wrap .i64 (x16 + x21)) else x15.Time)), []) from (by kernel_rfl))) ?_
      refine imp ex_i64_b ?_
      refine bind_b fun x22 h22 => ?_
      refine imp (opP_of (show _ = some ((AV.ept [(strA x22.Call), (intA x22.Wake), (intA x22.Time), (intA x22.Latest)] 0), []) from (idx_lst (E := TSequenceArrival.E) rfl h22))) ?_
      refine imp (opP_of (show _ = some ((AV.ept [(strA x22.Call), (intA x22.Wake), (intA x22.Time), (intA x22.Latest)] 3), []) from rfl)) ?_
      refine imp (opP_of (show _ = some ((intA x22.Latest), []) from rfl)) ?_
      refine imp ex_i64_b ?_
      refine cond_b (fun _ => ?_) (fun _ => ?_)
      · exact fun hg => hR _ (Option.some.inj hg).symm _ _ ⟨_, rfl, made_nils_pf⟩
      · refine imp (opN_of (show _ = some ((blkV intE 100049 ([(if (IntKind.wrap .i64 (x16 + x21)) > x15.Time then (IntKind.wrap .i64 (x16 + x21)) else x15.Time)] : List Int)), [(100049, some ⟨encs intE ([(if (IntKind.wrap .i64 (x16 + x21)) > x15.Time then (IntKind.wrap .i64 (x16 + x21)) else x15.Time)] : List Int), 3⟩)]) from rfl)) ?_
        refine bind_b fun x24 h24 => ?_
        refine imp (opN_of (show _ = some ((ownV intE 100050 (L90000 ++ ([(if (IntKind.wrap .i64 (x16 + x21)) > x15.Time then (IntKind.wrap .i64 (x16 + x21)) else x15.Time)] : List Int))), (appW intE 100050 90000 3 L90000 ([(if (IntKind.wrap .i64 (x16 + x21)) > x15.Time then (IntKind.wrap .i64 (x16 + x21)) else x15.Time)] : List Int))) from (app_own (E := intE) (l' := L90000) (xs := ([(if (IntKind.wrap .i64 (x16 + x21)) > x15.Time then (IntKind.wrap .i64 (x16 + x21)) else x15.Time)] : List Int)) rfl rfl (cellsOf_blk (E := intE) (ty := 3) rfl rfl (by first | rfl | (simp (disch := first | decide | assumption) only [mpushs_nil, mpushs_cons, mget_hd, mget_tl, mget_appW_o, mget_appW_n, mget_appW_e]))) (by first | assumption | simp) rfl (fun hne => Eq.trans (by first | rfl | (simp (disch := first | decide | assumption) only [mpushs_nil, mpushs_cons, mget_hd, mget_tl, mget_appW_o, mget_appW_n, mget_appW_e])) (ownB_ne hne)) h24))) ?_
        exact fun hg => hN0 _ (Option.some.inj hg).symm _ (weak_mem [(90000, 100050), (0, 0)] rfl rfl rfl (okW_cons (ent_lst (E := TSequenceArrival.E) _ false) (okW_cons (ent_lst (E := intE) _ false) (okW_cons (.inl (leV_refl _)) (okW_cons (.inl (leV_refl _)) (okW_cons (.inl (leV_refl _)) (okW_cons (ent_own (E := intE) (id := 100050) (l' := (L90000 ++ ([(if (IntKind.wrap .i64 (x16 + x21)) > x15.Time then (IntKind.wrap .i64 (x16 + x21)) else x15.Time)] : List Int))) rfl rfl) (okW_cons (ent_lst (E := intE) _ false) (okW_cons (.inl (leV_refl _)) (okW_cons (.inl (leV_refl _)) okW_nil))))))))) (okB_cons (okB_cells (cs := [(intA k0_0), (intA k0_1), (intA k0_2), (intA k0_3), (intA k0_4), (intA k0_5), (intA k0_6), (intA k0_7), (intA k0_8), (intA k0_9), (intA k0_10), (intA k0_11), (intA k0_12), (intA k0_13), (intA k0_14), (intA k0_15)]) (ty := 24) rfl (show mget _ 0 = _ from (by first | rfl | (simp (disch := first | decide | assumption) only [mpushs_nil, mpushs_cons, mget_hd, mget_tl, mget_appW_o, mget_appW_n, mget_appW_e])))) (okB_cons (okB_own (E := intE) (ty := 3) (l' := (L90000 ++ ([(if (IntKind.wrap .i64 (x16 + x21)) > x15.Time then (IntKind.wrap .i64 (x16 + x21)) else x15.Time)] : List Int))) rfl (show mget _ 100050 = _ from (by first | rfl | (simp (disch := first | decide | assumption) only [mpushs_nil, mpushs_cons, mget_hd, mget_tl, mget_appW_o, mget_appW_n, mget_appW_e])))) okB_nil')))
    · refine bind_b fun x25 h25 => ?_
      refine imp (opP_of (show _ = some ((AV.ept [(strA x25.Call), (intA x25.Wake), (intA x25.Time), (intA x25.Latest)] 0), []) from (idx_lst (E := TSequenceArrival.E) rfl h25))) ?_
      refine imp (opP_of (show _ = some ((AV.ept [(strA x25.Call), (intA x25.Wake), (intA x25.Time), (intA x25.Latest)] 3), []) from rfl)) ?_
      refine imp (opP_of (show _ = some ((intA x25.Latest), []) from rfl)) ?_
      refine imp ex_i64_b ?_
      refine cond_b (fun _ => ?_) (fun _ => ?_)
      · exact fun hg => hR _ (Option.some.inj hg).symm _ _ ⟨_, rfl, made_nils_pf⟩
      · refine imp (opN_of (show _ = some ((blkV intE 100023 ([x15.Time] : List Int)), [(100023, some ⟨encs intE ([x15.Time] : List Int), 3⟩)]) from rfl)) ?_
        refine bind_b fun x27 h27 => ?_
        refine imp (opN_of (show _ = some ((ownV intE 100024 (L90000 ++ ([x15.Time] : List Int))), (appW intE 100024 90000 3 L90000 ([x15.Time] : List Int))) from (app_own (E := intE) (l' := L90000) (xs := ([x15.Time] : List Int)) rfl rfl (cellsOf_blk (E := intE) (ty := 3) rfl rfl (by first | rfl | (simp (disch := first | decide | assumption) only [mpushs_nil, mpushs_cons, mget_hd, mget_tl, mget_appW_o, mget_appW_n, mget_appW_e]))) (by first | assumption | simp) rfl (fun hne => Eq.trans (by first | rfl | (simp (disch := first | decide | assumption) only [mpushs_nil, mpushs_cons, mget_hd, mget_tl, mget_appW_o, mget_appW_n, mget_appW_e])) (ownB_ne hne)) h27))) ?_
        exact fun hg => hN0 _ (Option.some.inj hg).symm _ (weak_mem [(90000, 100024), (0, 0)] rfl rfl rfl (okW_cons (ent_lst (E := TSequenceArrival.E) _ false) (okW_cons (ent_lst (E := intE) _ false) (okW_cons (.inl (leV_refl _)) (okW_cons (.inl (leV_refl _)) (okW_cons (.inl (leV_refl _)) (okW_cons (ent_own (E := intE) (id := 100024) (l' := (L90000 ++ ([x15.Time] : List Int))) rfl rfl) (okW_cons (ent_lst (E := intE) _ false) (okW_cons (.inl (leV_refl _)) (okW_cons (.inl (leV_refl _)) okW_nil))))))))) (okB_cons (okB_cells (cs := [(intA k0_0), (intA k0_1), (intA k0_2), (intA k0_3), (intA k0_4), (intA k0_5), (intA k0_6), (intA k0_7), (intA k0_8), (intA k0_9), (intA k0_10), (intA k0_11), (intA k0_12), (intA k0_13), (intA k0_14), (intA k0_15)]) (ty := 24) rfl (show mget _ 0 = _ from (by first | rfl | (simp (disch := first | decide | assumption) only [mpushs_nil, mpushs_cons, mget_hd, mget_tl, mget_appW_o, mget_appW_n, mget_appW_e])))) (okB_cons (okB_own (E := intE) (ty := 3) (l' := (L90000 ++ ([x15.Time] : List Int))) rfl (show mget _ 100024 = _ from (by first | rfl | (simp (disch := first | decide | assumption) only [mpushs_nil, mpushs_cons, mget_hd, mget_tl, mget_appW_o, mget_appW_n, mget_appW_e])))) okB_nil')))
  · exact fun hg => hR _ (Option.some.inj hg).symm _ _ ⟨_, rfl, (made_own_pf (E := intE) (ty := 3) (l := L90000) rfl (by first | rfl | (simp (disch := first | decide | assumption) only [mpushs_nil, mpushs_cons, mget_hd, mget_tl, mget_appW_o, mget_appW_n, mget_appW_e])))⟩
theorem L53_0_okM (n : Nat) (a0 : List TSequenceArrival) (a1 : List Int) (c7 : Bool) (c13 : Int) (k0_0 : Int) (k0_1 : Int) (k0_2 : Int) (k0_3 : Int) (k0_4 : Int) (k0_5 : Int) (k0_6 : Int) (k0_7 : Int) (k0_8 : Int) (k0_9 : Int) (k0_10 : Int) (k0_11 : Int) (k0_12 : Int) (k0_13 : Int) (k0_14 : Int) (k0_15 : Int) {t : ρ53} (R : AV → Mem → Prop) (hR : ∀ r : ρ53, t = r → ∀ u m, MadeT intE 3 r.1 [Value.bool r.2] u m → R u m) (k : Nat) (x : Int × List Int) (hx : iterO (fun y : Int × List Int => S53_0 n a0 a1 c7 c13 k0_0 k0_1 k0_2 k0_3 k0_4 k0_5 k0_6 k0_7 k0_8 k0_9 k0_10 k0_11 k0_12 k0_13 k0_14 k0_15 y.1 y.2) k x = some t) {s : St} (hw : Weak KK 64 0 s (h53_0 (lstA TSequenceArrival.E a0) (lstA intE a1) AV.nils c7 (ownV intE 90000 x.2) (lstA intE a1) c13 x.1 k0_0 k0_1 k0_2 k0_3 k0_4 k0_5 k0_6 k0_7 k0_8 k0_9 k0_10 k0_11 k0_12 k0_13 k0_14 k0_15 [(90000, ownB intE 3 x.2)])) : Tri Try.prog KK 64 0 (.loop c53_0) s (q53_0 R ) :=
  L53_0 R  (σ := Nat × (Int × List Int)) (fun z => iterO (fun y : Int × List Int => S53_0 n a0 a1 c7 c13 k0_0 k0_1 k0_2 k0_3 k0_4 k0_5 k0_6 k0_7 k0_8 k0_9 k0_10 k0_11 k0_12 k0_13 k0_14 k0_15 y.1 y.2) z.1 z.2 = some t) (fun z => (lstA TSequenceArrival.E a0)) (fun z => (lstA intE a1)) (fun z => AV.nils) (fun z => c7) (fun z => (ownV intE 90000 z.2.2)) (fun z => (lstA intE a1)) (fun z => c13) (fun z => z.2.1) (fun z => k0_0) (fun z => k0_1) (fun z => k0_2) (fun z => k0_3) (fun z => k0_4) (fun z => k0_5) (fun z => k0_6) (fun z => k0_7) (fun z => k0_8) (fun z => k0_9) (fun z => k0_10) (fun z => k0_11) (fun z => k0_12) (fun z => k0_13) (fun z => k0_14) (fun z => k0_15) (fun z => [(90000, ownB intE 3 z.2.2)]) (fun z => z.1) (by
    rintro ⟨k, y⟩ h
    cases k with
    | zero => exact (iterO_zero h).elim
    | succ k =>
      obtain ⟨u, h1, h2, h3⟩ := iterO_elim h
      exact B53_0_okM n a0 a1 c7 c13 k0_0 k0_1 k0_2 k0_3 k0_4 k0_5 k0_6 k0_7 k0_8 k0_9 k0_10 k0_11 k0_12 k0_13 k0_14 k0_15 y.1 y.2 R  _ (fun r e => hR r (h3 _ e).symm)  (fun y' e s' hw => ⟨(k, y'), h2 _ e, Nat.lt_succ_self k, hw⟩) h1) (k, x) hx hw
theorem g53_okM (n : Nat) (a0 : List TSequenceArrival) (a1 : List Int) (a2 : TWakeTable) {t : ρ53} (R : AV → Mem → Prop) (hR : ∀ r : ρ53, t = r → ∀ u m, MadeT intE 3 r.1 [Value.bool r.2] u m → R u m) : g53 n a0 a1 a2 = some t → F53 (lstA TSequenceArrival.E a0) (lstA intE a1) a2.c0_0 a2.c0_1 a2.c0_2 a2.c0_3 a2.c1_0 a2.c1_1 a2.c1_2 a2.c1_3 a2.c2_0 a2.c2_1 a2.c2_2 a2.c2_3 a2.c3_0 a2.c3_1 a2.c3_2 a2.c3_3 R := by
  unfold g53 F53
  refine imp (opP_of (show _ = some ((intA (a1.length : Int)), []) from rfl)) ?_
  refine imp ex_i64_b ?_
  exact fun hg => L53_0_okM n a0 a1 false (a1.length : Int) a2.c0_0 a2.c0_1 a2.c0_2 a2.c0_3 a2.c1_0 a2.c1_1 a2.c1_2 a2.c1_3 a2.c2_0 a2.c2_1 a2.c2_2 a2.c2_3 a2.c3_0 a2.c3_1 a2.c3_2 a2.c3_3 R  hR n _ hg (weak_mem [(90000, 89500), (0, 0)] rfl rfl rfl (okW_cons (ent_lst (E := TSequenceArrival.E) _ false) (okW_cons (ent_lst (E := intE) _ false) (okW_cons (.inl (leV_refl _)) (okW_cons (.inl (leV_refl _)) (okW_cons (.inl (leV_refl _)) (okW_cons ent_nils_own (okW_cons (ent_lst (E := intE) _ false) (okW_cons (.inl (leV_refl _)) (okW_cons (.inl (leV_refl _)) okW_nil))))))))) (okB_cons (okB_cells (cs := [(intA a2.c0_0), (intA a2.c0_1), (intA a2.c0_2), (intA a2.c0_3), (intA a2.c1_0), (intA a2.c1_1), (intA a2.c1_2), (intA a2.c1_3), (intA a2.c2_0), (intA a2.c2_1), (intA a2.c2_2), (intA a2.c2_3), (intA a2.c3_0), (intA a2.c3_1), (intA a2.c3_2), (intA a2.c3_3)]) (ty := 24) rfl (show mget _ 0 = _ from (by first | rfl | (simp (disch := first | decide | assumption) only [mpushs_nil, mpushs_cons, mget_hd, mget_tl, mget_appW_o, mget_appW_n, mget_appW_e])))) (okB_cons okB_nil okB_nil')))
theorem mg53C {n k : Nat} {look : Nat → Option ABlk} {a0 : List TSequenceArrival} {a1 : List Int} {a2 : TWakeTable} {t : ρ53} (h : g53 n a0 a1 a2 = some t) : PureD Try.prog KK.gl look k 53 [(lstA TSequenceArrival.E a0), (lstA intE a1), (AV.agg [(intA a2.c0_0), (intA a2.c0_1), (intA a2.c0_2), (intA a2.c0_3), (intA a2.c1_0), (intA a2.c1_1), (intA a2.c1_2), (intA a2.c1_3), (intA a2.c2_0), (intA a2.c2_1), (intA a2.c2_2), (intA a2.c2_3), (intA a2.c3_0), (intA a2.c3_1), (intA a2.c3_2), (intA a2.c3_3)])] (.tup (ownV intE k t.1 :: ([Value.bool t.2] : List Value).map AV.sc)) [(k, ownB intE 3 t.1)] :=
  made_tupC (by first | rfl | simp [cleans, clean, encs_clean, En.cln]) (F53_own (lstA TSequenceArrival.E a0) (lstA intE a1) a2.c0_0 a2.c0_1 a2.c0_2 a2.c0_3 a2.c1_0 a2.c1_1 a2.c1_2 a2.c1_3 a2.c2_0 a2.c2_1 a2.c2_2 a2.c2_3 a2.c3_0 a2.c3_1 a2.c3_2 a2.c3_3 _ (g53_okM n a0 a1 a2 (MadeT intE 3 t.1 [Value.bool t.2]) (fun r e u m h => by rw [e]; exact h) h))
theorem mg53S {n k : Nat} {look : Nat → Option ABlk} {args : List AV} {a0 : List TSequenceArrival} {a1 : List Int} {a2 : TWakeTable} {t : ρ53} (h : g53 n a0 a1 a2 = some t) (hs : SnL look 6 args [(lstA TSequenceArrival.E a0), (lstA intE a1), (AV.agg [(intA a2.c0_0), (intA a2.c0_1), (intA a2.c0_2), (intA a2.c0_3), (intA a2.c1_0), (intA a2.c1_1), (intA a2.c1_2), (intA a2.c1_3), (intA a2.c2_0), (intA a2.c2_1), (intA a2.c2_2), (intA a2.c2_3), (intA a2.c3_0), (intA a2.c3_1), (intA a2.c3_2), (intA a2.c3_3)])]) : PureD Try.prog KK.gl look k 53 args (.tup (ownV intE k t.1 :: ([Value.bool t.2] : List Value).map AV.sc)) [(k, ownB intE 3 t.1)] :=
  made_tupS (fun _ => rfl) hs (F53_own (lstA TSequenceArrival.E a0) (lstA intE a1) a2.c0_0 a2.c0_1 a2.c0_2 a2.c0_3 a2.c1_0 a2.c1_1 a2.c1_2 a2.c1_3 a2.c2_0 a2.c2_1 a2.c2_2 a2.c2_3 a2.c3_0 a2.c3_1 a2.c3_2 a2.c3_3 _ (g53_okM n a0 a1 a2 (MadeT intE 3 t.1 [Value.bool t.2]) (fun r e u m h => by rw [e]; exact h) h))
/- skyway/wake.Check -/
theorem B36_0_0_ok (n : Nat) (c2 : Int) (c10_0 : Int) (c10_1 : Int) (c10_2 : Int) (c10_3 : Int) (c10_4 : Int) (c10_5 : Int) (c10_6 : Int) (c10_7 : Int) (c10_8 : Int) (c10_9 : Int) (c10_10 : Int) (c10_11 : Int) (c10_12 : Int) (c10_13 : Int) (c10_14 : Int) (c10_15 : Int) (v11 : Int) (c14_0 : Int) (c14_1 : Int) (c14_2 : Int) (c14_3 : Int) (w15 : Int) {t : (Int) ⊕ ((Int) ⊕ ρ36)} (R : AV → Mem → Prop) (N0 : St → Prop) (N1 : St → Prop) (hR : ∀ r : ρ36, t = (.inr (.inr r)) → ∀ u m, Ans ((intA r)) u m → R u m) (hN0 : ∀ y : Int, t = (.inr (.inl y)) → ∀ s' : St, Weak KK 55 0 s' (h36_0 c2 c10_0 c10_1 c10_2 c10_3 c10_4 c10_5 c10_6 c10_7 c10_8 c10_9 c10_10 c10_11 c10_12 c10_13 c10_14 c10_15 y c10_0 c10_1 c10_2 c10_3 c10_4 c10_5 c10_6 c10_7 c10_8 c10_9 c10_10 c10_11 c10_12 c10_13 c10_14 c10_15 []) → N0 s') (hN1 : ∀ y : Int, t = (.inl y) → ∀ s' : St, Weak KK 55 0 s' (h36_0_0 c2 c10_0 c10_1 c10_2 c10_3 c10_4 c10_5 c10_6 c10_7 c10_8 c10_9 c10_10 c10_11 c10_12 c10_13 c10_14 c10_15 v11 c14_0 c14_1 c14_2 c14_3 y c10_0 c10_1 c10_2 c10_3 c10_4 c10_5 c10_6 c10_7 c10_8 c10_9 c10_10 c10_11 c10_12 c10_13 c10_14 c10_15 []) → N1 s') : S36_0_0 n c2 c10_0 c10_1 c10_2 c10_3 c10_4 c10_5 c10_6 c10_7 c10_8 c10_9 c10_10 c10_11 c10_12 c10_13 c10_14 c10_15 v11 c14_0 c14_1 c14_2 c14_3 w15 = some t → B36_0_0 c2 c10_0 c10_1 c10_2 c10_3 c10_4 c10_5 c10_6 c10_7 c10_8 c10_9 c10_10 c10_11 c10_12 c10_13 c10_14 c10_15 v11 c14_0 c14_1 c14_2 c14_3 w15 c10_0 c10_1 c10_2 c10_3 c10_4 c10_5 c10_6 c10_7 c10_8 c10_9 c10_10 c10_11 c10_12 c10_13 c10_14 c10_15 [] R N0 N1 := by
  unfold S36_0_0 B36_0_0
  refine cond_b (fun _ => ?_) (fun _ => ?_)
  · refine bind_b fun x29 h29 => ?_
    refine imp (opP_of (show _ = some ((intA x29), []) from (opA_index_sc (E := intE) (l := ([c14_0, c14_1, c14_2, c14_3] : List Int)) (len := 4) (e := 3) (by kernel_rfl) (by kernel_rfl) (by kernel_rfl) rfl ⟨rfl, rfl⟩ h29 rfl))) ?_
    refine imp ex_i64_b ?_
    refine cond_b (fun _ => ?_) (fun _ => ?_)
    · exact fun hg => ret1 (hR _ (Option.some.inj hg).symm) (fz_sc _ _)
    · refine cond_b (fun _ => ?_) (fun _ => ?_)
      · exact fun hg => ret1 (hR _ (Option.some.inj hg).symm) (fz_sc _ _)
      · exact fun hg => hN1 _ (Option.some.inj hg).symm _ (weak_mem [(0, 0)] rfl rfl rfl (okW_cons (.inl (leV_refl _)) (okW_cons (.inl (leV_refl _)) (okW_cons (.inl (leV_refl _)) (okW_cons (.inl (leV_refl _)) (okW_cons (.inl (leV_refl _)) (okW_cons (.inl (leV_refl _)) okW_nil)))))) (okB_cons (okB_cells (cs := [(intA c10_0), (intA c10_1), (intA c10_2), (intA c10_3), (intA c10_4), (intA c10_5), (intA c10_6), (intA c10_7), (intA c10_8), (intA c10_9), (intA c10_10), (intA c10_11), (intA c10_12), (intA c10_13), (intA c10_14), (intA c10_15)]) (ty := 24) rfl (show mget _ 0 = _ from (by first | rfl | (simp (disch := first | decide | assumption) only [mpushs_nil, mpushs_cons, mget_hd, mget_tl, mget_appW_o, mget_appW_n, mget_appW_e])))) okB_nil'))
  · exact fun hg => hN0 _ (Option.some.inj hg).symm _ (weak_mem [(0, 0)] rfl rfl rfl (okW_cons (.inl (leV_refl _)) (okW_cons (.inl (leV_refl _)) (okW_cons (.inl (leV_refl _)) (okW_cons (.inl (leV_refl _)) okW_nil)))) (okB_cons (okB_cells (cs := [(intA c10_0), (intA c10_1), (intA c10_2), (intA c10_3), (intA c10_4), (intA c10_5), (intA c10_6), (intA c10_7), (intA c10_8), (intA c10_9), (intA c10_10), (intA c10_11), (intA c10_12), (intA c10_13), (intA c10_14), (intA c10_15)]) (ty := 24) rfl (show mget _ 0 = _ from (by first | rfl | (simp (disch := first | decide | assumption) only [mpushs_nil, mpushs_cons, mget_hd, mget_tl, mget_appW_o, mget_appW_n, mget_appW_e])))) okB_nil'))
theorem L36_0_0_ok (n : Nat) (c2 : Int) (c10_0 : Int) (c10_1 : Int) (c10_2 : Int) (c10_3 : Int) (c10_4 : Int) (c10_5 : Int) (c10_6 : Int) (c10_7 : Int) (c10_8 : Int) (c10_9 : Int) (c10_10 : Int) (c10_11 : Int) (c10_12 : Int) (c10_13 : Int) (c10_14 : Int) (c10_15 : Int) (v11 : Int) (c14_0 : Int) (c14_1 : Int) (c14_2 : Int) (c14_3 : Int) {t : ((Int) ⊕ ρ36)} (R : AV → Mem → Prop) (N0 : St → Prop) (hR : ∀ r : ρ36, t = (.inr r) → ∀ u m, Ans ((intA r)) u m → R u m) (hN0 : ∀ y : Int, t = (.inl y) → ∀ s' : St, Weak KK 55 0 s' (h36_0 c2 c10_0 c10_1 c10_2 c10_3 c10_4 c10_5 c10_6 c10_7 c10_8 c10_9 c10_10 c10_11 c10_12 c10_13 c10_14 c10_15 y c10_0 c10_1 c10_2 c10_3 c10_4 c10_5 c10_6 c10_7 c10_8 c10_9 c10_10 c10_11 c10_12 c10_13 c10_14 c10_15 []) → N0 s') (k : Nat) (x : Int) (hx : iterO (fun y : Int => S36_0_0 n c2 c10_0 c10_1 c10_2 c10_3 c10_4 c10_5 c10_6 c10_7 c10_8 c10_9 c10_10 c10_11 c10_12 c10_13 c10_14 c10_15 v11 c14_0 c14_1 c14_2 c14_3 y) k x = some t) {s : St} (hw : Weak KK 55 0 s (h36_0_0 c2 c10_0 c10_1 c10_2 c10_3 c10_4 c10_5 c10_6 c10_7 c10_8 c10_9 c10_10 c10_11 c10_12 c10_13 c10_14 c10_15 v11 c14_0 c14_1 c14_2 c14_3 x c10_0 c10_1 c10_2 c10_3 c10_4 c10_5 c10_6 c10_7 c10_8 c10_9 c10_10 c10_11 c10_12 c10_13 c10_14 c10_15 [])) : Tri Try.prog KK 55 0 (.loop c36_0_0) s (q36_0_0 R N0) :=
  L36_0_0 R N0 (σ := Nat × (Int)) (fun z => iterO (fun y : Int => S36_0_0 n c2 c10_0 c10_1 c10_2 c10_3 c10_4 c10_5 c10_6 c10_7 c10_8 c10_9 c10_10 c10_11 c10_12 c10_13 c10_14 c10_15 v11 c14_0 c14_1 c14_2 c14_3 y) z.1 z.2 = some t) (fun z => c2) (fun z => c10_0) (fun z => c10_1) (fun z => c10_2) (fun z => c10_3) (fun z => c10_4) (fun z => c10_5) (fun z => c10_6) (fun z => c10_7) (fun z => c10_8) (fun z => c10_9) (fun z => c10_10) (fun z => c10_11) (fun z => c10_12) (fun z => c10_13) (fun z => c10_14) (fun z => c10_15) (fun z => v11) (fun z => c14_0) (fun z => c14_1) (fun z => c14_2) (fun z => c14_3) (fun z => z.2) (fun z => c10_0) (fun z => c10_1) (fun z => c10_2) (fun z => c10_3) (fun z => c10_4) (fun z => c10_5) (fun z => c10_6) (fun z => c10_7) (fun z => c10_8) (fun z => c10_9) (fun z => c10_10) (fun z => c10_11) (fun z => c10_12) (fun z => c10_13) (fun z => c10_14) (fun z => c10_15) (fun z => []) (fun z => z.1) (by
    rintro ⟨k, y⟩ h
    cases k with
    | zero => exact (iterO_zero h).elim
    | succ k =>
      obtain ⟨u, h1, h2, h3⟩ := iterO_elim h
      exact B36_0_0_ok n c2 c10_0 c10_1 c10_2 c10_3 c10_4 c10_5 c10_6 c10_7 c10_8 c10_9 c10_10 c10_11 c10_12 c10_13 c10_14 c10_15 v11 c14_0 c14_1 c14_2 c14_3 y R N0 _ (fun r e => hR r (h3 _ e).symm) (fun y' e => hN0 y' (h3 _ e).symm) (fun y' e s' hw => ⟨(k, y'), h2 _ e, Nat.lt_succ_self k, hw⟩) h1) (k, x) hx hw
theorem B36_1_0_0_ok (n : Nat) (c2 : Int) (v26 : Int) (w29 : Int) (c10_0 : Int) (c10_1 : Int) (c10_2 : Int) (c10_3 : Int) (c10_4 : Int) (c10_5 : Int) (c10_6 : Int) (c10_7 : Int) (c10_8 : Int) (c10_9 : Int) (c10_10 : Int) (c10_11 : Int) (c10_12 : Int) (c10_13 : Int) (c10_14 : Int) (c10_15 : Int) (u32 : Int) {t : (Int) ⊕ ((Int) ⊕ ((Int) ⊕ ρ36))} (R : AV → Mem → Prop) (N0 : St → Prop) (N1 : St → Prop) (N2 : St → Prop) (hR : ∀ r : ρ36, t = (.inr (.inr (.inr r))) → ∀ u m, Ans ((intA r)) u m → R u m) (hN0 : ∀ y : Int, t = (.inr (.inr (.inl y))) → ∀ s' : St, Weak KK 55 0 s' (h36_1 c2 y c10_0 c10_1 c10_2 c10_3 c10_4 c10_5 c10_6 c10_7 c10_8 c10_9 c10_10 c10_11 c10_12 c10_13 c10_14 c10_15 []) → N0 s') (hN1 : ∀ y : Int, t = (.inr (.inl y)) → ∀ s' : St, Weak KK 55 0 s' (h36_1_0 c2 v26 v26 y c10_0 c10_1 c10_2 c10_3 c10_4 c10_5 c10_6 c10_7 c10_8 c10_9 c10_10 c10_11 c10_12 c10_13 c10_14 c10_15 []) → N1 s') (hN2 : ∀ y : Int, t = (.inl y) → ∀ s' : St, Weak KK 55 0 s' (h36_1_0_0 c2 v26 w29 v26 w29 y c10_0 c10_1 c10_2 c10_3 c10_4 c10_5 c10_6 c10_7 c10_8 c10_9 c10_10 c10_11 c10_12 c10_13 c10_14 c10_15 []) → N2 s') : S36_1_0_0 n c2 v26 w29 c10_0 c10_1 c10_2 c10_3 c10_4 c10_5 c10_6 c10_7 c10_8 c10_9 c10_10 c10_11 c10_12 c10_13 c10_14 c10_15 u32 = some t → B36_1_0_0 c2 v26 w29 v26 w29 u32 c10_0 c10_1 c10_2 c10_3 c10_4 c10_5 c10_6 c10_7 c10_8 c10_9 c10_10 c10_11 c10_12 c10_13 c10_14 c10_15 [] R N0 N1 N2 := by
  unfold S36_1_0_0 B36_1_0_0
  refine cond_b (fun _ => ?_) (fun _ => ?_)
  · refine bind_b fun x30 h30 => ?_
    refine imp (opP_of (show _ = some ((AV.ptr 0 (((v26 : Int).toNat) * 4 + 0)), []) from (idxA_ok0 (l := ([(⟨c10_0, c10_1, c10_2, c10_3⟩ : T22), (⟨c10_4, c10_5, c10_6, c10_7⟩ : T22), (⟨c10_8, c10_9, c10_10, c10_11⟩ : T22), (⟨c10_12, c10_13, c10_14, c10_15⟩ : T22)] : List T22)) (len := 4) rfl h30))) ?_
    refine bind_b fun x31 h31 => ?_
    refine imp (opP_of (show _ = some ((AV.ptr 0 _), []) from (idxA_ok (l := ([x30.c0, x30.c1, x30.c2, x30.c3] : List Int)) (len := 4) rfl h31))) ?_
    refine imp (opP_of (show _ = some ((intA x31), []) from (ldS_row (E := T22.E) (E2 := intE) (l := ([(⟨c10_0, c10_1, c10_2, c10_3⟩ : T22), (⟨c10_4, c10_5, c10_6, c10_7⟩ : T22), (⟨c10_8, c10_9, c10_10, c10_11⟩ : T22), (⟨c10_12, c10_13, c10_14, c10_15⟩ : T22)] : List T22)) (l2 := ([x30.c0, x30.c1, x30.c2, x30.c3] : List Int)) (ty := 24) (by first | rfl | (simp (disch := first | decide | assumption) only [mpushs_nil, mpushs_cons, mget_hd, mget_tl, mget_appW_o, mget_appW_n, mget_appW_e])) (getI_some h30).2 rfl rfl (getI_some h31).2 rfl))) ?_
    refine imp ex_i64_b ?_
    refine bind_b fun x32 h32 => ?_
    refine imp (opP_of (show _ = some ((AV.ptr 0 (((v26 : Int).toNat) * 4 + 0)), []) from (idxA_ok0 (l := ([(⟨c10_0, c10_1, c10_2, c10_3⟩ : T22), (⟨c10_4, c10_5, c10_6, c10_7⟩ : T22), (⟨c10_8, c10_9, c10_10, c10_11⟩ : T22), (⟨c10_12, c10_13, c10_14, c10_15⟩ : T22)] : List T22)) (len := 4) rfl h32))) ?_
    refine bind_b fun x33 h33 => ?_
    refine imp (opP_of (show _ = some ((AV.ptr 0 _), []) from (idxA_ok (l := ([x32.c0, x32.c1, x32.c2, x32.c3] : List Int)) (len := 4) rfl h33))) ?_
    refine imp (opP_of (show _ = some ((intA x33), []) from (ldS_row (E := T22.E) (E2 := intE) (l := ([(⟨c10_0, c10_1, c10_2, c10_3⟩ : T22), (⟨c10_4, c10_5, c10_6, c10_7⟩ : T22), (⟨c10_8, c10_9, c10_10, c10_11⟩ : T22), (⟨c10_12, c10_13, c10_14, c10_15⟩ : T22)] : List T22)) (l2 := ([x32.c0, x32.c1, x32.c2, x32.c3] : List Int)) (ty := 24) (by first | rfl | (simp (disch := first | decide | assumption) only [mpushs_nil, mpushs_cons, mget_hd, mget_tl, mget_appW_o, mget_appW_n, mget_appW_e])) (getI_some h32).2 rfl rfl (getI_some h33).2 rfl))) ?_
    refine imp ex_i64_b ?_
    refine bind_b fun x34 h34 => ?_
    refine imp (opP_of (show _ = some ((AV.ptr 0 (((w29 : Int).toNat) * 4 + 0)), []) from (idxA_ok0 (l := ([(⟨c10_0, c10_1, c10_2, c10_3⟩ : T22), (⟨c10_4, c10_5, c10_6, c10_7⟩ : T22), (⟨c10_8, c10_9, c10_10, c10_11⟩ : T22), (⟨c10_12, c10_13, c10_14, c10_15⟩ : T22)] : List T22)) (len := 4) rfl h34))) ?_
    refine bind_b fun x35 h35 => ?_
    refine imp (opP_of (show _ = some ((AV.ptr 0 _), []) from (idxA_ok (l := ([x34.c0, x34.c1, x34.c2, x34.c3] : List Int)) (len := 4) rfl h35))) ?_
    refine imp (opP_of (show _ = some ((intA x35), []) from (ldS_row (E := T22.E) (E2 := intE) (l := ([(⟨c10_0, c10_1, c10_2, c10_3⟩ : T22), (⟨c10_4, c10_5, c10_6, c10_7⟩ : T22), (⟨c10_8, c10_9, c10_10, c10_11⟩ : T22), (⟨c10_12, c10_13, c10_14, c10_15⟩ : T22)] : List T22)) (l2 := ([x34.c0, x34.c1, x34.c2, x34.c3] : List Int)) (ty := 24) (by first | rfl | (simp (disch := first | decide | assumption) only [mpushs_nil, mpushs_cons, mget_hd, mget_tl, mget_appW_o, mget_appW_n, mget_appW_e])) (getI_some h34).2 rfl rfl (getI_some h35).2 rfl))) ?_
    refine imp ex_i64_b ?_
    refine cond_b (fun _ => ?_) (fun _ => ?_)
    · exact fun hg => ret1 (hR _ (Option.some.inj hg).symm) (fz_sc _ _)
    · exact fun hg => hN2 _ (Option.some.inj hg).symm _ (weak_mem [(0, 0)] rfl rfl rfl (okW_cons (.inl (leV_refl _)) (okW_cons (.inl (leV_refl _)) (okW_cons (.inl (leV_refl _)) (okW_cons (.inl (leV_refl _)) (okW_cons (.inl (leV_refl _)) (okW_cons (.inl (leV_refl _)) (okW_cons (.inl (leV_refl _)) okW_nil))))))) (okB_cons (okB_cells (cs := [(intA c10_0), (intA c10_1), (intA c10_2), (intA c10_3), (intA c10_4), (intA c10_5), (intA c10_6), (intA c10_7), (intA c10_8), (intA c10_9), (intA c10_10), (intA c10_11), (intA c10_12), (intA c10_13), (intA c10_14), (intA c10_15)]) (ty := 24) rfl (show mget _ 0 = _ from (by first | rfl | (simp (disch := first | decide | assumption) only [mpushs_nil, mpushs_cons, mget_hd, mget_tl, mget_appW_o, mget_appW_n, mget_appW_e])))) okB_nil'))
  · exact fun hg => hN1 _ (Option.some.inj hg).symm _ (weak_mem [(0, 0)] rfl rfl rfl (okW_cons (.inl (leV_refl _)) (okW_cons (.inl (leV_refl _)) (okW_cons (.inl (leV_refl _)) (okW_cons (.inl (leV_refl _)) (okW_cons (.inl (leV_refl _)) okW_nil))))) (okB_cons (okB_cells (cs := [(intA c10_0), (intA c10_1), (intA c10_2), (intA c10_3), (intA c10_4), (intA c10_5), (intA c10_6), (intA c10_7), (intA c10_8), (intA c10_9), (intA c10_10), (intA c10_11), (intA c10_12), (intA c10_13), (intA c10_14), (intA c10_15)]) (ty := 24) rfl (show mget _ 0 = _ from (by first | rfl | (simp (disch := first | decide | assumption) only [mpushs_nil, mpushs_cons, mget_hd, mget_tl, mget_appW_o, mget_appW_n, mget_appW_e])))) okB_nil'))
theorem L36_1_0_0_ok (n : Nat) (c2 : Int) (v26 : Int) (w29 : Int) (c10_0 : Int) (c10_1 : Int) (c10_2 : Int) (c10_3 : Int) (c10_4 : Int) (c10_5 : Int) (c10_6 : Int) (c10_7 : Int) (c10_8 : Int) (c10_9 : Int) (c10_10 : Int) (c10_11 : Int) (c10_12 : Int) (c10_13 : Int) (c10_14 : Int) (c10_15 : Int) {t : ((Int) ⊕ ((Int) ⊕ ρ36))} (R : AV → Mem → Prop) (N0 : St → Prop) (N1 : St → Prop) (hR : ∀ r : ρ36, t = (.inr (.inr r)) → ∀ u m, Ans ((intA r)) u m → R u m) (hN0 : ∀ y : Int, t = (.inr (.inl y)) → ∀ s' : St, Weak KK 55 0 s' (h36_1 c2 y c10_0 c10_1 c10_2 c10_3 c10_4 c10_5 c10_6 c10_7 c10_8 c10_9 c10_10 c10_11 c10_12 c10_13 c10_14 c10_15 []) → N0 s') (hN1 : ∀ y : Int, t = (.inl y) → ∀ s' : St, Weak KK 55 0 s' (h36_1_0 c2 v26 v26 y c10_0 c10_1 c10_2 c10_3 c10_4 c10_5 c10_6 c10_7 c10_8 c10_9 c10_10 c10_11 c10_12 c10_13 c10_14 c10_15 []) → N1 s') (k : Nat) (x : Int) (hx : iterO (fun y : Int => S36_1_0_0 n c2 v26 w29 c10_0 c10_1 c10_2 c10_3 c10_4 c10_5 c10_6 c10_7 c10_8 c10_9 c10_10 c10_11 c10_12 c10_13 c10_14 c10_15 y) k x = some t) {s : St} (hw : Weak KK 55 0 s (h36_1_0_0 c2 v26 w29 v26 w29 x c10_0 c10_1 c10_2 c10_3 c10_4 c10_5 c10_6 c10_7 c10_8 c10_9 c10_10 c10_11 c10_12 c10_13 c10_14 c10_15 [])) : Tri Try.prog KK 55 0 (.loop c36_1_0_0) s (q36_1_0_0 R N0 N1) :=
  L36_1_0_0 R N0 N1 (σ := Nat × (Int)) (fun z => iterO (fun y : Int => S36_1_0_0 n c2 v26 w29 c10_0 c10_1 c10_2 c10_3 c10_4 c10_5 c10_6 c10_7 c10_8 c10_9 c10_10 c10_11 c10_12 c10_13 c10_14 c10_15 y) z.1 z.2 = some t) (fun z => c2) (fun z => v26) (fun z => w29) (fun z => v26) (fun z => w29) (fun z => z.2) (fun z => c10_0) (fun z => c10_1) (fun z => c10_2) (fun z => c10_3) (fun z => c10_4) (fun z => c10_5) (fun z => c10_6) (fun z => c10_7) (fun z => c10_8) (fun z => c10_9) (fun z => c10_10) (fun z => c10_11) (fun z => c10_12) (fun z => c10_13) (fun z => c10_14) (fun z => c10_15) (fun z => []) (fun z => z.1) (by
    rintro ⟨k, y⟩ h
    cases k with
    | zero => exact (iterO_zero h).elim
    | succ k =>
      obtain ⟨u, h1, h2, h3⟩ := iterO_elim h
      exact B36_1_0_0_ok n c2 v26 w29 c10_0 c10_1 c10_2 c10_3 c10_4 c10_5 c10_6 c10_7 c10_8 c10_9 c10_10 c10_11 c10_12 c10_13 c10_14 c10_15 y R N0 N1 _ (fun r e => hR r (h3 _ e).symm) (fun y' e => hN0 y' (h3 _ e).symm) (fun y' e => hN1 y' (h3 _ e).symm) (fun y' e s' hw => ⟨(k, y'), h2 _ e, Nat.lt_succ_self k, hw⟩) h1) (k, x) hx hw
theorem B36_1_0_ok (n : Nat) (c2 : Int) (v26 : Int) (c10_0 : Int) (c10_1 : Int) (c10_2 : Int) (c10_3 : Int) (c10_4 : Int) (c10_5 : Int) (c10_6 : Int) (c10_7 : Int) (c10_8 : Int) (c10_9 : Int) (c10_10 : Int) (c10_11 : Int) (c10_12 : Int) (c10_13 : Int) (c10_14 : Int) (c10_15 : Int) (w29 : Int) {t : (Int) ⊕ ((Int) ⊕ ρ36)} (R : AV → Mem → Prop) (N0 : St → Prop) (N1 : St → Prop) (hR : ∀ r : ρ36, t = (.inr (.inr r)) → ∀ u m, Ans ((intA r)) u m → R u m) (hN0 : ∀ y : Int, t = (.inr (.inl y)) → ∀ s' : St, Weak KK 55 0 s' (h36_1 c2 y c10_0 c10_1 c10_2 c10_3 c10_4 c10_5 c10_6 c10_7 c10_8 c10_9 c10_10 c10_11 c10_12 c10_13 c10_14 c10_15 []) → N0 s') (hN1 : ∀ y : Int, t = (.inl y) → ∀ s' : St, Weak KK 55 0 s' (h36_1_0 c2 v26 v26 y c10_0 c10_1 c10_2 c10_3 c10_4 c10_5 c10_6 c10_7 c10_8 c10_9 c10_10 c10_11 c10_12 c10_13 c10_14 c10_15 []) → N1 s') : S36_1_0 n c2 v26 c10_0 c10_1 c10_2 c10_3 c10_4 c10_5 c10_6 c10_7 c10_8 c10_9 c10_10 c10_11 c10_12 c10_13 c10_14 c10_15 w29 = some t → B36_1_0 c2 v26 v26 w29 c10_0 c10_1 c10_2 c10_3 c10_4 c10_5 c10_6 c10_7 c10_8 c10_9 c10_10 c10_11 c10_12 c10_13 c10_14 c10_15 [] R N0 N1 := by
  unfold S36_1_0 B36_1_0
  refine cond_b (fun _ => ?_) (fun _ => ?_)
  · exact fun hg => L36_1_0_0_ok n c2 v26 w29 c10_0 c10_1 c10_2 c10_3 c10_4 c10_5 c10_6 c10_7 c10_8 c10_9 c10_10 c10_11 c10_12 c10_13 c10_14 c10_15 R N0 N1 hR hN0 hN1 n _ hg (weak_mem [(0, 0)] rfl rfl rfl (okW_cons (.inl (leV_refl _)) (okW_cons (.inl (leV_refl _)) (okW_cons (.inl (leV_refl _)) (okW_cons (.inl (leV_refl _)) (okW_cons (.inl (leV_refl _)) (okW_cons (.inl (leV_refl _)) (okW_cons (.inl (leV_refl _)) okW_nil))))))) (okB_cons (okB_cells (cs := [(intA c10_0), (intA c10_1), (intA c10_2), (intA c10_3), (intA c10_4), (intA c10_5), (intA c10_6), (intA c10_7), (intA c10_8), (intA c10_9), (intA c10_10), (intA c10_11), (intA c10_12), (intA c10_13), (intA c10_14), (intA c10_15)]) (ty := 24) rfl (show mget _ 0 = _ from (by first | rfl | (simp (disch := first | decide | assumption) only [mpushs_nil, mpushs_cons, mget_hd, mget_tl, mget_appW_o, mget_appW_n, mget_appW_e])))) okB_nil'))
  · exact fun hg => hN0 _ (Option.some.inj hg).symm _ (weak_mem [(0, 0)] rfl rfl rfl (okW_cons (.inl (leV_refl _)) (okW_cons (.inl (leV_refl _)) (okW_cons (.inl (leV_refl _)) okW_nil))) (okB_cons (okB_cells (cs := [(intA c10_0), (intA c10_1), (intA c10_2), (intA c10_3), (intA c10_4), (intA c10_5), (intA c10_6), (intA c10_7), (intA c10_8), (intA c10_9), (intA c10_10), (intA c10_11), (intA c10_12), (intA c10_13), (intA c10_14), (intA c10_15)]) (ty := 24) rfl (show mget _ 0 = _ from (by first | rfl | (simp (disch := first | decide | assumption) only [mpushs_nil, mpushs_cons, mget_hd, mget_tl, mget_appW_o, mget_appW_n, mget_appW_e])))) okB_nil'))
theorem L36_1_0_ok (n : Nat) (c2 : Int) (v26 : Int) (c10_0 : Int) (c10_1 : Int) (c10_2 : Int) (c10_3 : Int) (c10_4 : Int) (c10_5 : Int) (c10_6 : Int) (c10_7 : Int) (c10_8 : Int) (c10_9 : Int) (c10_10 : Int) (c10_11 : Int) (c10_12 : Int) (c10_13 : Int) (c10_14 : Int) (c10_15 : Int) {t : ((Int) ⊕ ρ36)} (R : AV → Mem → Prop) (N0 : St → Prop) (hR : ∀ r : ρ36, t = (.inr r) → ∀ u m, Ans ((intA r)) u m → R u m) (hN0 : ∀ y : Int, t = (.inl y) → ∀ s' : St, Weak KK 55 0 s' (h36_1 c2 y c10_0 c10_1 c10_2 c10_3 c10_4 c10_5 c10_6 c10_7 c10_8 c10_9 c10_10 c10_11 c10_12 c10_13 c10_14 c10_15 []) → N0 s') (k : Nat) (x : Int) (hx : iterO (fun y : Int => S36_1_0 n c2 v26 c10_0 c10_1 c10_2 c10_3 c10_4 c10_5 c10_6 c10_7 c10_8 c10_9 c10_10 c10_11 c10_12 c10_13 c10_14 c10_15 y) k x = some t) {s : St} (hw : Weak KK 55 0 s (h36_1_0 c2 v26 v26 x c10_0 c10_1 c10_2 c10_3 c10_4 c10_5 c10_6 c10_7 c10_8 c10_9 c10_10 c10_11 c10_12 c10_13 c10_14 c10_15 [])) : Tri Try.prog KK 55 0 (.loop c36_1_0) s (q36_1_0 R N0) :=
  L36_1_0 R N0 (σ := Nat × (Int)) (fun z => iterO (fun y : Int => S36_1_0 n c2 v26 c10_0 c10_1 c10_2 c10_3 c10_4 c10_5 c10_6 c10_7 c10_8 c10_9 c10_10 c10_11 c10_12 c10_13 c10_14 c10_15 y) z.1 z.2 = some t) (fun z => c2) (fun z => v26) (fun z => v26) (fun z => z.2) (fun z => c10_0) (fun z => c10_1) (fun z => c10_2) (fun z => c10_3) (fun z => c10_4) (fun z => c10_5) (fun z => c10_6) (fun z => c10_7) (fun z => c10_8) (fun z => c10_9) (fun z => c10_10) (fun z => c10_11) (fun z => c10_12) (fun z => c10_13) (fun z => c10_14) (fun z => c10_15) (fun z => []) (fun z => z.1) (by
    rintro ⟨k, y⟩ h
    cases k with
    | zero => exact (iterO_zero h).elim
    | succ k =>
      obtain ⟨u, h1, h2, h3⟩ := iterO_elim h
      exact B36_1_0_ok n c2 v26 c10_0 c10_1 c10_2 c10_3 c10_4 c10_5 c10_6 c10_7 c10_8 c10_9 c10_10 c10_11 c10_12 c10_13 c10_14 c10_15 y R N0 _ (fun r e => hR r (h3 _ e).symm) (fun y' e => hN0 y' (h3 _ e).symm) (fun y' e s' hw => ⟨(k, y'), h2 _ e, Nat.lt_succ_self k, hw⟩) h1) (k, x) hx hw
theorem B36_1_ok (n : Nat) (c2 : Int) (c10_0 : Int) (c10_1 : Int) (c10_2 : Int) (c10_3 : Int) (c10_4 : Int) (c10_5 : Int) (c10_6 : Int) (c10_7 : Int) (c10_8 : Int) (c10_9 : Int) (c10_10 : Int) (c10_11 : Int) (c10_12 : Int) (c10_13 : Int) (c10_14 : Int) (c10_15 : Int) (v26 : Int) {t : (Int) ⊕ ρ36} (R : AV → Mem → Prop) (N0 : St → Prop) (hR : ∀ r : ρ36, t = (.inr r) → ∀ u m, Ans ((intA r)) u m → R u m) (hN0 : ∀ y : Int, t = (.inl y) → ∀ s' : St, Weak KK 55 0 s' (h36_1 c2 y c10_0 c10_1 c10_2 c10_3 c10_4 c10_5 c10_6 c10_7 c10_8 c10_9 c10_10 c10_11 c10_12 c10_13 c10_14 c10_15 []) → N0 s') : S36_1 n c2 c10_0 c10_1 c10_2 c10_3 c10_4 c10_5 c10_6 c10_7 c10_8 c10_9 c10_10 c10_11 c10_12 c10_13 c10_14 c10_15 v26 = some t → B36_1 c2 v26 c10_0 c10_1 c10_2 c10_3 c10_4 c10_5 c10_6 c10_7 c10_8 c10_9 c10_10 c10_11 c10_12 c10_13 c10_14 c10_15 [] R N0 := by
  unfold S36_1 B36_1
  refine cond_b (fun _ => ?_) (fun _ => ?_)
  · exact fun hg => L36_1_0_ok n c2 v26 c10_0 c10_1 c10_2 c10_3 c10_4 c10_5 c10_6 c10_7 c10_8 c10_9 c10_10 c10_11 c10_12 c10_13 c10_14 c10_15 R N0 hR hN0 n _ hg (weak_mem [(0, 0)] rfl rfl rfl (okW_cons (.inl (leV_refl _)) (okW_cons (.inl (leV_refl _)) (okW_cons (.inl (leV_refl _)) (okW_cons (.inl (leV_refl _)) (okW_cons (.inl (leV_refl _)) okW_nil))))) (okB_cons (okB_cells (cs := [(intA c10_0), (intA c10_1), (intA c10_2), (intA c10_3), (intA c10_4), (intA c10_5), (intA c10_6), (intA c10_7), (intA c10_8), (intA c10_9), (intA c10_10), (intA c10_11), (intA c10_12), (intA c10_13), (intA c10_14), (intA c10_15)]) (ty := 24) rfl (show mget _ 0 = _ from (by first | rfl | (simp (disch := first | decide | assumption) only [mpushs_nil, mpushs_cons, mget_hd, mget_tl, mget_appW_o, mget_appW_n, mget_appW_e])))) okB_nil'))
  · exact fun hg => ret1 (hR _ (Option.some.inj hg).symm) (fz_sc _ _)
theorem L36_1_ok (n : Nat) (c2 : Int) (c10_0 : Int) (c10_1 : Int) (c10_2 : Int) (c10_3 : Int) (c10_4 : Int) (c10_5 : Int) (c10_6 : Int) (c10_7 : Int) (c10_8 : Int) (c10_9 : Int) (c10_10 : Int) (c10_11 : Int) (c10_12 : Int) (c10_13 : Int) (c10_14 : Int) (c10_15 : Int) {t : ρ36} (R : AV → Mem → Prop) (hR : ∀ r : ρ36, t = r → ∀ u m, Ans ((intA r)) u m → R u m) (k : Nat) (x : Int) (hx : iterO (fun y : Int => S36_1 n c2 c10_0 c10_1 c10_2 c10_3 c10_4 c10_5 c10_6 c10_7 c10_8 c10_9 c10_10 c10_11 c10_12 c10_13 c10_14 c10_15 y) k x = some t) {s : St} (hw : Weak KK 55 0 s (h36_1 c2 x c10_0 c10_1 c10_2 c10_3 c10_4 c10_5 c10_6 c10_7 c10_8 c10_9 c10_10 c10_11 c10_12 c10_13 c10_14 c10_15 [])) : Tri Try.prog KK 55 0 (.loop c36_1) s (q36_1 R ) :=
  L36_1 R  (σ := Nat × (Int)) (fun z => iterO (fun y : Int => S36_1 n c2 c10_0 c10_1 c10_2 c10_3 c10_4 c10_5 c10_6 c10_7 c10_8 c10_9 c10_10 c10_11 c10_12 c10_13 c10_14 c10_15 y) z.1 z.2 = some t) (fun z => c2) (fun z => z.2) (fun z => c10_0) (fun z => c10_1) (fun z => c10_2) (fun z => c10_3) (fun z => c10_4) (fun z => c10_5) (fun z => c10_6) (fun z => c10_7) (fun z => c10_8) (fun z => c10_9) (fun z => c10_10) (fun z => c10_11) (fun z => c10_12) (fun z => c10_13) (fun z => c10_14) (fun z => c10_15) (fun z => []) (fun z => z.1) (by
    rintro ⟨k, y⟩ h
    cases k with
    | zero => exact (iterO_zero h).elim
    | succ k =>
      obtain ⟨u, h1, h2, h3⟩ := iterO_elim h
      exact B36_1_ok n c2 c10_0 c10_1 c10_2 c10_3 c10_4 c10_5 c10_6 c10_7 c10_8 c10_9 c10_10 c10_11 c10_12 c10_13 c10_14 c10_15 y R  _ (fun r e => hR r (h3 _ e).symm)  (fun y' e s' hw => ⟨(k, y'), h2 _ e, Nat.lt_succ_self k, hw⟩) h1) (k, x) hx hw
theorem B36_0_ok (n : Nat) (c2 : Int) (c10_0 : Int) (c10_1 : Int) (c10_2 : Int) (c10_3 : Int) (c10_4 : Int) (c10_5 : Int) (c10_6 : Int) (c10_7 : Int) (c10_8 : Int) (c10_9 : Int) (c10_10 : Int) (c10_11 : Int) (c10_12 : Int) (c10_13 : Int) (c10_14 : Int) (c10_15 : Int) (v11 : Int) {t : (Int) ⊕ ρ36} (R : AV → Mem → Prop) (N0 : St → Prop) (hR : ∀ r : ρ36, t = (.inr r) → ∀ u m, Ans ((intA r)) u m → R u m) (hN0 : ∀ y : Int, t = (.inl y) → ∀ s' : St, Weak KK 55 0 s' (h36_0 c2 c10_0 c10_1 c10_2 c10_3 c10_4 c10_5 c10_6 c10_7 c10_8 c10_9 c10_10 c10_11 c10_12 c10_13 c10_14 c10_15 y c10_0 c10_1 c10_2 c10_3 c10_4 c10_5 c10_6 c10_7 c10_8 c10_9 c10_10 c10_11 c10_12 c10_13 c10_14 c10_15 []) → N0 s') : S36_0 n c2 c10_0 c10_1 c10_2 c10_3 c10_4 c10_5 c10_6 c10_7 c10_8 c10_9 c10_10 c10_11 c10_12 c10_13 c10_14 c10_15 v11 = some t → B36_0 c2 c10_0 c10_1 c10_2 c10_3 c10_4 c10_5 c10_6 c10_7 c10_8 c10_9 c10_10 c10_11 c10_12 c10_13 c10_14 c10_15 v11 c10_0 c10_1 c10_2 c10_3 c10_4 c10_5 c10_6 c10_7 c10_8 c10_9 c10_10 c10_11 c10_12 c10_13 c10_14 c10_15 [] R N0 := by
  unfold S36_0 B36_0
  refine cond_b (fun _ => ?_) (fun _ => ?_)
  · refine bind_b fun x28 h28 => ?_
    refine imp (opP_of (show _ = some ((AV.agg [(intA x28.c0), (intA x28.c1), (intA x28.c2), (intA x28.c3)]), []) from (opA_index_agg (E := T22.E) (l := ([(⟨c10_0, c10_1, c10_2, c10_3⟩ : T22), (⟨c10_4, c10_5, c10_6, c10_7⟩ : T22), (⟨c10_8, c10_9, c10_10, c10_11⟩ : T22), (⟨c10_12, c10_13, c10_14, c10_15⟩ : T22)] : List T22)) (len := 4) (e := 22) (by kernel_rfl) (by kernel_rfl) (by kernel_rfl) rfl ⟨rfl, rfl⟩ h28))) ?_
    refine imp exA4_b ?_
    refine imp ex_i64_b ?_
    refine imp ex_i64_b ?_
    refine imp ex_i64_b ?_
    refine imp ex_i64_b ?_
    exact fun hg => L36_0_0_ok n c2 c10_0 c10_1 c10_2 c10_3 c10_4 c10_5 c10_6 c10_7 c10_8 c10_9 c10_10 c10_11 c10_12 c10_13 c10_14 c10_15 v11 x28.c0 x28.c1 x28.c2 x28.c3 R N0 hR hN0 n _ hg (weak_mem [(0, 0)] rfl rfl rfl (okW_cons (.inl (leV_refl _)) (okW_cons (.inl (leV_refl _)) (okW_cons (.inl (leV_refl _)) (okW_cons (.inl (leV_refl _)) (okW_cons (.inl (leV_refl _)) (okW_cons (.inl (leV_refl _)) okW_nil)))))) (okB_cons (okB_cells (cs := [(intA c10_0), (intA c10_1), (intA c10_2), (intA c10_3), (intA c10_4), (intA c10_5), (intA c10_6), (intA c10_7), (intA c10_8), (intA c10_9), (intA c10_10), (intA c10_11), (intA c10_12), (intA c10_13), (intA c10_14), (intA c10_15)]) (ty := 24) rfl (show mget _ 0 = _ from (by first | rfl | (simp (disch := first | decide | assumption) only [mpushs_nil, mpushs_cons, mget_hd, mget_tl, mget_appW_o, mget_appW_n, mget_appW_e])))) okB_nil'))
  · refine mapInr_b fun t0 e0 => ?_
    exact fun hg => L36_1_ok n c2 c10_0 c10_1 c10_2 c10_3 c10_4 c10_5 c10_6 c10_7 c10_8 c10_9 c10_10 c10_11 c10_12 c10_13 c10_14 c10_15 R  (fun r e => hR r (e0.trans (congrArg Sum.inr e))) n _ hg (weak_mem [(0, 0)] rfl rfl rfl (okW_cons (.inl (leV_refl _)) (okW_cons (.inl (leV_refl _)) (okW_cons (.inl (leV_refl _)) okW_nil))) (okB_cons (okB_cells (cs := [(intA c10_0), (intA c10_1), (intA c10_2), (intA c10_3), (intA c10_4), (intA c10_5), (intA c10_6), (intA c10_7), (intA c10_8), (intA c10_9), (intA c10_10), (intA c10_11), (intA c10_12), (intA c10_13), (intA c10_14), (intA c10_15)]) (ty := 24) rfl (show mget _ 0 = _ from (by first | rfl | (simp (disch := first | decide | assumption) only [mpushs_nil, mpushs_cons, mget_hd, mget_tl, mget_appW_o, mget_appW_n, mget_appW_e])))) okB_nil'))
theorem L36_0_ok (n : Nat) (c2 : Int) (c10_0 : Int) (c10_1 : Int) (c10_2 : Int) (c10_3 : Int) (c10_4 : Int) (c10_5 : Int) (c10_6 : Int) (c10_7 : Int) (c10_8 : Int) (c10_9 : Int) (c10_10 : Int) (c10_11 : Int) (c10_12 : Int) (c10_13 : Int) (c10_14 : Int) (c10_15 : Int) {t : ρ36} (R : AV → Mem → Prop) (hR : ∀ r : ρ36, t = r → ∀ u m, Ans ((intA r)) u m → R u m) (k : Nat) (x : Int) (hx : iterO (fun y : Int => S36_0 n c2 c10_0 c10_1 c10_2 c10_3 c10_4 c10_5 c10_6 c10_7 c10_8 c10_9 c10_10 c10_11 c10_12 c10_13 c10_14 c10_15 y) k x = some t) {s : St} (hw : Weak KK 55 0 s (h36_0 c2 c10_0 c10_1 c10_2 c10_3 c10_4 c10_5 c10_6 c10_7 c10_8 c10_9 c10_10 c10_11 c10_12 c10_13 c10_14 c10_15 x c10_0 c10_1 c10_2 c10_3 c10_4 c10_5 c10_6 c10_7 c10_8 c10_9 c10_10 c10_11 c10_12 c10_13 c10_14 c10_15 [])) : Tri Try.prog KK 55 0 (.loop c36_0) s (q36_0 R ) :=
  L36_0 R  (σ := Nat × (Int)) (fun z => iterO (fun y : Int => S36_0 n c2 c10_0 c10_1 c10_2 c10_3 c10_4 c10_5 c10_6 c10_7 c10_8 c10_9 c10_10 c10_11 c10_12 c10_13 c10_14 c10_15 y) z.1 z.2 = some t) (fun z => c2) (fun z => c10_0) (fun z => c10_1) (fun z => c10_2) (fun z => c10_3) (fun z => c10_4) (fun z => c10_5) (fun z => c10_6) (fun z => c10_7) (fun z => c10_8) (fun z => c10_9) (fun z => c10_10) (fun z => c10_11) (fun z => c10_12) (fun z => c10_13) (fun z => c10_14) (fun z => c10_15) (fun z => z.2) (fun z => c10_0) (fun z => c10_1) (fun z => c10_2) (fun z => c10_3) (fun z => c10_4) (fun z => c10_5) (fun z => c10_6) (fun z => c10_7) (fun z => c10_8) (fun z => c10_9) (fun z => c10_10) (fun z => c10_11) (fun z => c10_12) (fun z => c10_13) (fun z => c10_14) (fun z => c10_15) (fun z => []) (fun z => z.1) (by
    rintro ⟨k, y⟩ h
    cases k with
    | zero => exact (iterO_zero h).elim
    | succ k =>
      obtain ⟨u, h1, h2, h3⟩ := iterO_elim h
      exact B36_0_ok n c2 c10_0 c10_1 c10_2 c10_3 c10_4 c10_5 c10_6 c10_7 c10_8 c10_9 c10_10 c10_11 c10_12 c10_13 c10_14 c10_15 y R  _ (fun r e => hR r (h3 _ e).symm)  (fun y' e s' hw => ⟨(k, y'), h2 _ e, Nat.lt_succ_self k, hw⟩) h1) (k, x) hx hw
theorem g36_ok (n : Nat) (a0 : TWakeTable) {t : ρ36} (R : AV → Mem → Prop) (hR : ∀ r : ρ36, t = r → ∀ u m, Ans ((intA r)) u m → R u m) : g36 n a0 = some t → F36 a0.c0_0 a0.c0_1 a0.c0_2 a0.c0_3 a0.c1_0 a0.c1_1 a0.c1_2 a0.c1_3 a0.c2_0 a0.c2_1 a0.c2_2 a0.c2_3 a0.c3_0 a0.c3_1 a0.c3_2 a0.c3_3 R := by
  unfold g36 F36
  exact fun hg => L36_0_ok n (0) a0.c0_0 a0.c0_1 a0.c0_2 a0.c0_3 a0.c1_0 a0.c1_1 a0.c1_2 a0.c1_3 a0.c2_0 a0.c2_1 a0.c2_2 a0.c2_3 a0.c3_0 a0.c3_1 a0.c3_2 a0.c3_3 R  hR n _ hg (weak_mem [(0, 0)] rfl rfl rfl (okW_cons (.inl (leV_refl _)) (okW_cons (.inl (leV_refl _)) (okW_cons (.inl (leV_refl _)) (okW_cons (.inl (leV_refl _)) okW_nil)))) (okB_cons (okB_cells (cs := [(intA a0.c0_0), (intA a0.c0_1), (intA a0.c0_2), (intA a0.c0_3), (intA a0.c1_0), (intA a0.c1_1), (intA a0.c1_2), (intA a0.c1_3), (intA a0.c2_0), (intA a0.c2_1), (intA a0.c2_2), (intA a0.c2_3), (intA a0.c3_0), (intA a0.c3_1), (intA a0.c3_2), (intA a0.c3_3)]) (ty := 24) rfl (show mget _ 0 = _ from (by first | rfl | (simp (disch := first | decide | assumption) only [mpushs_nil, mpushs_cons, mget_hd, mget_tl, mget_appW_o, mget_appW_n, mget_appW_e])))) okB_nil'))
theorem sg36 {n : Nat} {a0 : TWakeTable} {t : ρ36} (h : g36 n a0 = some t) : Says Try.prog KK.gl 36 [(AV.agg [(intA a0.c0_0), (intA a0.c0_1), (intA a0.c0_2), (intA a0.c0_3), (intA a0.c1_0), (intA a0.c1_1), (intA a0.c1_2), (intA a0.c1_3), (intA a0.c2_0), (intA a0.c2_1), (intA a0.c2_2), (intA a0.c2_3), (intA a0.c3_0), (intA a0.c3_1), (intA a0.c3_2), (intA a0.c3_3)])] ((intA t)) :=
  says_of_own (by first | rfl | simp [cleans, clean, encs_clean, En.cln]) (by first | rfl | simp [cleans, clean, encs_clean, En.cln]) (F36_own a0.c0_0 a0.c0_1 a0.c0_2 a0.c0_3 a0.c1_0 a0.c1_1 a0.c1_2 a0.c1_3 a0.c2_0 a0.c2_1 a0.c2_2 a0.c2_3 a0.c3_0 a0.c3_1 a0.c3_2 a0.c3_3 _ (g36_ok n a0 (Ans ((intA t))) (fun r e u m h => by rw [e]; exact h) h))
/- skyway/chart.Name -/
theorem B62_0_ok (n : Nat) (c2 : Bool) (c14 : List UInt8) (c15 : Int) (v16 : Int) {t : (Int) ⊕ ρ62} (R : AV → Mem → Prop) (N0 : St → Prop) (hR : ∀ r : ρ62, t = (.inr r) → ∀ u m, Ans ((boolA r)) u m → R u m) (hN0 : ∀ y : Int, t = (.inl y) → ∀ s' : St, Weak KK 41 0 s' (h62_0 c2 (lstA byteE c14) c15 y []) → N0 s') : S62_0 n c2 c14 c15 v16 = some t → B62_0 c2 (lstA byteE c14) c15 v16 [] R N0 := by
  unfold S62_0 B62_0
  refine cond_b (fun _ => ?_) (fun _ => ?_)
  · refine bind_b fun x38 h38 => ?_
    refine imp (opP_of (show _ = some ((AV.ept [(AV.sc (.int .u8 (x38.toNat : Int)))] 0), []) from (idx_lst (E := byteE) rfl h38))) ?_
    refine imp (opP_of (show _ = some ((AV.sc (.int .u8 (x38.toNat : Int))), []) from rfl)) ?_
    refine imp ex_u8_b ?_
    refine cond_b (fun _ => ?_) (fun _ => ?_)
    · refine cond_b (fun _ => ?_) (fun _ => ?_)
      · exact fun hg => hN0 _ (Option.some.inj hg).symm _ (weak_mem [] rfl rfl rfl (okW_cons (.inl (leV_refl _)) (okW_cons (ent_lst (E := byteE) _ false) (okW_cons (.inl (leV_refl _)) (okW_cons (.inl (leV_refl _)) okW_nil)))) okB_nil')
      · refine cond_b (fun _ => ?_) (fun _ => ?_)
        · refine cond_b (fun _ => ?_) (fun _ => ?_)
          · refine cond_b (fun _ => ?_) (fun _ => ?_)
            · exact fun hg => ret1 (hR _ (Option.some.inj hg).symm) (fz_sc _ _)
            · exact fun hg => hN0 _ (Option.some.inj hg).symm _ (weak_mem [] rfl rfl rfl (okW_cons (.inl (leV_refl _)) (okW_cons (ent_lst (E := byteE) _ false) (okW_cons (.inl (leV_refl _)) (okW_cons (.inl (leV_refl _)) okW_nil)))) okB_nil')
          · exact fun hg => ret1 (hR _ (Option.some.inj hg).symm) (fz_sc _ _)
        · exact fun hg => ret1 (hR _ (Option.some.inj hg).symm) (fz_sc _ _)
    · refine cond_b (fun _ => ?_) (fun _ => ?_)
      · refine cond_b (fun _ => ?_) (fun _ => ?_)
        · refine cond_b (fun _ => ?_) (fun _ => ?_)
          · exact fun hg => ret1 (hR _ (Option.some.inj hg).symm) (fz_sc _ _)
          · exact fun hg => hN0 _ (Option.some.inj hg).symm _ (weak_mem [] rfl rfl rfl (okW_cons (.inl (leV_refl _)) (okW_cons (ent_lst (E := byteE) _ false) (okW_cons (.inl (leV_refl _)) (okW_cons (.inl (leV_refl _)) okW_nil)))) okB_nil')
        · exact fun hg => ret1 (hR _ (Option.some.inj hg).symm) (fz_sc _ _)
      · exact fun hg => ret1 (hR _ (Option.some.inj hg).symm) (fz_sc _ _)
  · exact fun hg => ret1 (hR _ (Option.some.inj hg).symm) (fz_sc _ _)
theorem L62_0_ok (n : Nat) (c2 : Bool) (c14 : List UInt8) (c15 : Int) {t : ρ62} (R : AV → Mem → Prop) (hR : ∀ r : ρ62, t = r → ∀ u m, Ans ((boolA r)) u m → R u m) (k : Nat) (x : Int) (hx : iterO (fun y : Int => S62_0 n c2 c14 c15 y) k x = some t) {s : St} (hw : Weak KK 41 0 s (h62_0 c2 (lstA byteE c14) c15 x [])) : Tri Try.prog KK 41 0 (.loop c62_0) s (q62_0 R ) :=
  L62_0 R  (σ := Nat × (Int)) (fun z => iterO (fun y : Int => S62_0 n c2 c14 c15 y) z.1 z.2 = some t) (fun z => c2) (fun z => (lstA byteE c14)) (fun z => c15) (fun z => z.2) (fun z => []) (fun z => z.1) (by
    rintro ⟨k, y⟩ h
    cases k with
    | zero => exact (iterO_zero h).elim
    | succ k =>
      obtain ⟨u, h1, h2, h3⟩ := iterO_elim h
      exact B62_0_ok n c2 c14 c15 y R  _ (fun r e => hR r (h3 _ e).symm)  (fun y' e s' hw => ⟨(k, y'), h2 _ e, Nat.lt_succ_self k, hw⟩) h1) (k, x) hx hw
theorem g62_ok (n : Nat) (a0 : ByteArray) {t : ρ62} (R : AV → Mem → Prop) (hR : ∀ r : ρ62, t = r → ∀ u m, Ans ((boolA r)) u m → R u m) : g62 n a0 = some t → F62 a0 R := by
  unfold g62 F62
  refine imp (opP_of (show _ = some ((intA (a0.size : Int)), []) from (by kernel_rfl))) ?_
  refine imp ex_i64_b ?_
  refine cond_b (fun _ => ?_) (fun _ => ?_)
  · exact fun hg => ret1 (hR _ (Option.some.inj hg).symm) (fz_sc _ _)
  · refine imp (opP_of (show _ = some ((intA (a0.size : Int)), []) from (by kernel_rfl))) ?_
    refine imp ex_i64_b ?_
    refine cond_b (fun _ => ?_) (fun _ => ?_)
    · exact fun hg => ret1 (hR _ (Option.some.inj hg).symm) (fz_sc _ _)
    · refine bind_b fun x37 h37 => ?_
      refine imp (opP_of (show _ = some ((lstA byteE (a0.data.toList)), []) from (opA_bytes (e := 5) (by kernel_rfl) (by kernel_rfl) (by kernel_rfl) h37))) ?_
      refine imp (opP_of (show _ = some ((intA ((a0.data.toList).length : Int)), []) from rfl)) ?_
      refine imp ex_i64_b ?_
      exact fun hg => L62_0_ok n false (a0.data.toList) ((a0.data.toList).length : Int) R  hR n _ hg (weak_mem [] rfl rfl rfl (okW_cons (.inl (leV_refl _)) (okW_cons (ent_lst (E := byteE) _ false) (okW_cons (.inl (leV_refl _)) (okW_cons (.inl (leV_refl _)) okW_nil)))) okB_nil')
theorem sg62 {n : Nat} {a0 : ByteArray} {t : ρ62} (h : g62 n a0 = some t) : Says Try.prog KK.gl 62 [(strA a0)] ((boolA t)) :=
  says_of_own (by first | rfl | simp [cleans, clean, encs_clean, En.cln]) (by first | rfl | simp [cleans, clean, encs_clean, En.cln]) (F62_own a0 _ (g62_ok n a0 (Ans ((boolA t))) (fun r e u m h => by rw [e]; exact h) h))
/- skyway/wake.Class -/
theorem g37_ok (n : Nat) (a0 : Int) {t : ρ37} (R : AV → Mem → Prop) (hR : ∀ r : ρ37, t = r → ∀ u m, Ans ((intA r)) u m → R u m) : g37 n a0 = some t → F37 a0 R := by
  unfold g37 F37
  refine cond_b (fun _ => ?_) (fun _ => ?_)
  · exact fun hg => ret1 (hR _ (Option.some.inj hg).symm) (fz_sc _ _)
  · refine cond_b (fun _ => ?_) (fun _ => ?_)
    · exact fun hg => ret1 (hR _ (Option.some.inj hg).symm) (fz_sc _ _)
    · exact fun hg => ret1 (hR _ (Option.some.inj hg).symm) (fz_sc _ _)
theorem sg37 {n : Nat} {a0 : Int} {t : ρ37} (h : g37 n a0 = some t) : Says Try.prog KK.gl 37 [(intA a0)] ((intA t)) :=
  says_of_own (by first | rfl | simp [cleans, clean, encs_clean, En.cln]) (by first | rfl | simp [cleans, clean, encs_clean, En.cln]) (F37_own a0 _ (g37_ok n a0 (Ans ((intA t))) (fun r e u m h => by rw [e]; exact h) h))
/- skyway/sequence.Check$1 -/
theorem g64_ok (n : Nat) (a0 : TSequenceArrival) (a1_0 : ByteArray) (a1_1 : Int) (a1_2 : Int) (a1_3 : Int) {t : ρ64} (R : AV → Mem → Prop) (hR : ∀ r : ρ64, t = r → ∀ u m, Ans ((boolA r)) u m → R u m) : g64 n a0 a1_0 a1_1 a1_2 a1_3 = some t → F64 a0.Call a0.Wake a0.Time a0.Latest (AV.ept [(strA a1_0), (intA a1_1), (intA a1_2), (intA a1_3)] 0) R := by
  unfold g64 F64
  refine imp (opP_of (show _ = some ((AV.ept [(strA a1_0), (intA a1_1), (intA a1_2), (intA a1_3)] 0), []) from rfl)) ?_
  refine imp (opP_of (show _ = some ((strA a1_0), []) from rfl)) ?_
  refine imp exStr_b ?_
  exact fun hg => ret1 (hR _ (Option.some.inj hg).symm) (fz_sc _ _)
theorem sg64 {n : Nat} {a0 : TSequenceArrival} {a1_0 : ByteArray} {a1_1 : Int} {a1_2 : Int} {a1_3 : Int} {t : ρ64} (h : g64 n a0 a1_0 a1_1 a1_2 a1_3 = some t) : Says Try.prog KK.gl 64 [(AV.agg [(strA a0.Call), (intA a0.Wake), (intA a0.Time), (intA a0.Latest)]), (AV.ept [(strA a1_0), (intA a1_1), (intA a1_2), (intA a1_3)] 0)] ((boolA t)) :=
  says_of_own (by first | rfl | simp [cleans, clean, encs_clean, En.cln]) (by first | rfl | simp [cleans, clean, encs_clean, En.cln]) (F64_own a0.Call a0.Wake a0.Time a0.Latest (AV.ept [(strA a1_0), (intA a1_1), (intA a1_2), (intA a1_3)] 0) _ (g64_ok n a0 a1_0 a1_1 a1_2 a1_3 (Ans ((boolA t))) (fun r e u m h => by rw [e]; exact h) h))
/- slices.IndexFunc[[]skyway/api.SequenceArrival,skyway/api.SequenceArrival] -/
theorem B71_0_ok (n : Nat) (a0 : List TSequenceArrival) (a1_0_0 : ByteArray) (a1_0_1 : Int) (a1_0_2 : Int) (a1_0_3 : Int) (c4 : Int) (c7 : Int) (v8 : Int) {t : (Int) ⊕ ρ71} (R : AV → Mem → Prop) (N0 : St → Prop) (hR : ∀ r : ρ71, t = (.inr r) → ∀ u m, Ans ((intA r)) u m → R u m) (hN0 : ∀ y : Int, t = (.inl y) → ∀ s' : St, Weak KK 19 0 s' (h71_0 (lstA TSequenceArrival.E a0) (AV.fn 64 [(AV.ept [(strA a1_0_0), (intA a1_0_1), (intA a1_0_2), (intA a1_0_3)] 0)]) c4 c7 y []) → N0 s') : S71_0 n a0 a1_0_0 a1_0_1 a1_0_2 a1_0_3 c4 c7 v8 = some t → B71_0 (lstA TSequenceArrival.E a0) (AV.fn 64 [(AV.ept [(strA a1_0_0), (intA a1_0_1), (intA a1_0_2), (intA a1_0_3)] 0)]) c4 c7 v8 [] R N0 := by
  unfold S71_0 B71_0
  refine cond_b (fun _ => ?_) (fun _ => ?_)
  · refine bind_b fun x42 h42 => ?_
    refine imp (opP_of (show _ = some ((AV.ept [(strA x42.Call), (intA x42.Wake), (intA x42.Time), (intA x42.Latest)] 0), []) from (idx_lst (E := TSequenceArrival.E) rfl h42))) ?_
    refine imp (opP_of (show _ = some ((AV.agg [(strA x42.Call), (intA x42.Wake), (intA x42.Time), (intA x42.Latest)]), []) from rfl)) ?_
    refine imp exA4_b ?_
    refine imp exStr_b ?_
    refine imp ex_i64_b ?_
    refine imp ex_i64_b ?_
    refine imp ex_i64_b ?_
    refine bind_b fun x43 h43 => ?_
    refine imp fnArgs_b ?_
    refine imp (cond_ff rfl) ?_
    refine imp (callW_says (sg64 h43)) ?_
    refine imp exB_b ?_
    refine cond_b (fun _ => ?_) (fun _ => ?_)
    · exact fun hg => ret1 (hR _ (Option.some.inj hg).symm) (fz_sc _ _)
    · exact fun hg => hN0 _ (Option.some.inj hg).symm _ (weak_mem [] rfl rfl rfl (okW_cons (ent_lst (E := TSequenceArrival.E) _ false) (okW_cons (ent_clean (leV_refl _) (by simp [clean, cleans, encs_clean])) (okW_cons (.inl (leV_refl _)) (okW_cons (.inl (leV_refl _)) (okW_cons (.inl (leV_refl _)) okW_nil))))) okB_nil')
  · exact fun hg => ret1 (hR _ (Option.some.inj hg).symm) (fz_sc _ _)
theorem L71_0_ok (n : Nat) (a0 : List TSequenceArrival) (a1_0_0 : ByteArray) (a1_0_1 : Int) (a1_0_2 : Int) (a1_0_3 : Int) (c4 : Int) (c7 : Int) {t : ρ71} (R : AV → Mem → Prop) (hR : ∀ r : ρ71, t = r → ∀ u m, Ans ((intA r)) u m → R u m) (k : Nat) (x : Int) (hx : iterO (fun y : Int => S71_0 n a0 a1_0_0 a1_0_1 a1_0_2 a1_0_3 c4 c7 y) k x = some t) {s : St} (hw : Weak KK 19 0 s (h71_0 (lstA TSequenceArrival.E a0) (AV.fn 64 [(AV.ept [(strA a1_0_0), (intA a1_0_1), (intA a1_0_2), (intA a1_0_3)] 0)]) c4 c7 x [])) : Tri Try.prog KK 19 0 (.loop c71_0) s (q71_0 R ) :=
  L71_0 R  (σ := Nat × (Int)) (fun z => iterO (fun y : Int => S71_0 n a0 a1_0_0 a1_0_1 a1_0_2 a1_0_3 c4 c7 y) z.1 z.2 = some t) (fun z => (lstA TSequenceArrival.E a0)) (fun z => (AV.fn 64 [(AV.ept [(strA a1_0_0), (intA a1_0_1), (intA a1_0_2), (intA a1_0_3)] 0)])) (fun z => c4) (fun z => c7) (fun z => z.2) (fun z => []) (fun z => z.1) (by
    rintro ⟨k, y⟩ h
    cases k with
    | zero => exact (iterO_zero h).elim
    | succ k =>
      obtain ⟨u, h1, h2, h3⟩ := iterO_elim h
      exact B71_0_ok n a0 a1_0_0 a1_0_1 a1_0_2 a1_0_3 c4 c7 y R  _ (fun r e => hR r (h3 _ e).symm)  (fun y' e s' hw => ⟨(k, y'), h2 _ e, Nat.lt_succ_self k, hw⟩) h1) (k, x) hx hw
theorem g71_ok (n : Nat) (a0 : List TSequenceArrival) (a1_0_0 : ByteArray) (a1_0_1 : Int) (a1_0_2 : Int) (a1_0_3 : Int) {t : ρ71} (R : AV → Mem → Prop) (hR : ∀ r : ρ71, t = r → ∀ u m, Ans ((intA r)) u m → R u m) : g71 n a0 a1_0_0 a1_0_1 a1_0_2 a1_0_3 = some t → F71 (lstA TSequenceArrival.E a0) (AV.fn 64 [(AV.ept [(strA a1_0_0), (intA a1_0_1), (intA a1_0_2), (intA a1_0_3)] 0)]) R := by
  unfold g71 F71
  refine imp (opP_of (show _ = some ((intA (a0.length : Int)), []) from rfl)) ?_
  refine imp ex_i64_b ?_
  exact fun hg => L71_0_ok n a0 a1_0_0 a1_0_1 a1_0_2 a1_0_3 (0) (a0.length : Int) R  hR n _ hg (weak_mem [] rfl rfl rfl (okW_cons (ent_lst (E := TSequenceArrival.E) _ false) (okW_cons (ent_clean (leV_refl _) (by simp [clean, cleans, encs_clean])) (okW_cons (.inl (leV_refl _)) (okW_cons (.inl (leV_refl _)) (okW_cons (.inl (leV_refl _)) okW_nil))))) okB_nil')
theorem sg71 {n : Nat} {a0 : List TSequenceArrival} {a1_0_0 : ByteArray} {a1_0_1 : Int} {a1_0_2 : Int} {a1_0_3 : Int} {t : ρ71} (h : g71 n a0 a1_0_0 a1_0_1 a1_0_2 a1_0_3 = some t) : Says Try.prog KK.gl 71 [(lstA TSequenceArrival.E a0), (AV.fn 64 [(AV.ept [(strA a1_0_0), (intA a1_0_1), (intA a1_0_2), (intA a1_0_3)] 0)])] ((intA t)) :=
  says_of_own (by first | rfl | simp [cleans, clean, encs_clean, En.cln]) (by first | rfl | simp [cleans, clean, encs_clean, En.cln]) (F71_own (lstA TSequenceArrival.E a0) (AV.fn 64 [(AV.ept [(strA a1_0_0), (intA a1_0_1), (intA a1_0_2), (intA a1_0_3)] 0)]) _ (g71_ok n a0 a1_0_0 a1_0_1 a1_0_2 a1_0_3 (Ans ((intA t))) (fun r e u m h => by rw [e]; exact h) h))
/- slices.ContainsFunc[[]skyway/api.SequenceArrival,skyway/api.SequenceArrival] -/
theorem g63_ok (n : Nat) (a0 : List TSequenceArrival) (a1_0_0 : ByteArray) (a1_0_1 : Int) (a1_0_2 : Int) (a1_0_3 : Int) {t : ρ63} (R : AV → Mem → Prop) (hR : ∀ r : ρ63, t = r → ∀ u m, Ans ((boolA r)) u m → R u m) : g63 n a0 a1_0_0 a1_0_1 a1_0_2 a1_0_3 = some t → F63 (lstA TSequenceArrival.E a0) (AV.fn 64 [(AV.ept [(strA a1_0_0), (intA a1_0_1), (intA a1_0_2), (intA a1_0_3)] 0)]) R := by
  unfold g63 F63
  refine bind_b fun x44 h44 => ?_
  refine imp (callQ_says (sg71 h44)) ?_
  refine imp ex_i64_b ?_
  exact fun hg => ret1 (hR _ (Option.some.inj hg).symm) (fz_sc _ _)
theorem sg63 {n : Nat} {a0 : List TSequenceArrival} {a1_0_0 : ByteArray} {a1_0_1 : Int} {a1_0_2 : Int} {a1_0_3 : Int} {t : ρ63} (h : g63 n a0 a1_0_0 a1_0_1 a1_0_2 a1_0_3 = some t) : Says Try.prog KK.gl 63 [(lstA TSequenceArrival.E a0), (AV.fn 64 [(AV.ept [(strA a1_0_0), (intA a1_0_1), (intA a1_0_2), (intA a1_0_3)] 0)])] ((boolA t)) :=
  says_of_own (by first | rfl | simp [cleans, clean, encs_clean, En.cln]) (by first | rfl | simp [cleans, clean, encs_clean, En.cln]) (F63_own (lstA TSequenceArrival.E a0) (AV.fn 64 [(AV.ept [(strA a1_0_0), (intA a1_0_1), (intA a1_0_2), (intA a1_0_3)] 0)]) _ (g63_ok n a0 a1_0_0 a1_0_1 a1_0_2 a1_0_3 (Ans ((boolA t))) (fun r e u m h => by rw [e]; exact h) h))
/- skyway/sequence.Check -/
theorem B50_0_ok (n : Nat) (a0 : List TSequenceArrival) (c2 : Int) (c10 : Int) (v11 : Int) {t : (Int) ⊕ ρ50} (R : AV → Mem → Prop) (N0 : St → Prop) (hR : ∀ r : ρ50, t = (.inr r) → ∀ u m, Ans ((intA r)) u m → R u m) (hN0 : ∀ y : Int, t = (.inl y) → ∀ s' : St, Weak KK 49 0 s' (h50_0 (lstA TSequenceArrival.E a0) c2 (lstA TSequenceArrival.E a0) c10 y []) → N0 s') : S50_0 n a0 c2 c10 v11 = some t → B50_0 (lstA TSequenceArrival.E a0) c2 (lstA TSequenceArrival.E a0) c10 v11 [] R N0 := by
  unfold S50_0 B50_0
  refine cond_b (fun _ => ?_) (fun _ => ?_)
  · refine bind_b fun x36 h36 => ?_
    refine imp (opP_of (show _ = some ((AV.ept [(strA x36.Call), (intA x36.Wake), (intA x36.Time), (intA x36.Latest)] 0), []) from (idx_lst (E := TSequenceArrival.E) rfl h36))) ?_
    refine imp (opP_of (show _ = some ((AV.agg [(strA x36.Call), (intA x36.Wake), (intA x36.Time), (intA x36.Latest)]), []) from rfl)) ?_
    refine imp exA4_b ?_
    refine imp exStr_b ?_
    refine imp ex_i64_b ?_
    refine imp ex_i64_b ?_
    refine imp ex_i64_b ?_
    refine bind_b fun x39 h39 => ?_
    refine imp (callQ_says (sg62 h39)) ?_
    refine imp exB_b ?_
    refine cond_b (fun _ => ?_) (fun _ => ?_)
    · exact fun hg => ret1 (hR _ (Option.some.inj hg).symm) (fz_sc _ _)
    · refine bind_b fun x40 h40 => ?_
      refine imp (callQ_says (sg37 h40)) ?_
      refine imp ex_i64_b ?_
      refine cond_b (fun _ => ?_) (fun _ => ?_)
      · exact fun hg => ret1 (hR _ (Option.some.inj hg).symm) (fz_sc _ _)
      · refine cond_b (fun _ => ?_) (fun _ => ?_)
        · exact fun hg => ret1 (hR _ (Option.some.inj hg).symm) (fz_sc _ _)
        · refine cond_b (fun _ => ?_) (fun _ => ?_)
          · exact fun hg => ret1 (hR _ (Option.some.inj hg).symm) (fz_sc _ _)
          · refine cond_b (fun _ => ?_) (fun _ => ?_)
            · exact fun hg => ret1 (hR _ (Option.some.inj hg).symm) (fz_sc _ _)
            · refine bind_b fun x41 h41 => ?_
              refine imp (opP_of (show _ = some ((lstA TSequenceArrival.E x41), []) from (slc_hi (E := TSequenceArrival.E) (e := 69) (by kernel_rfl) (by kernel_rfl) rfl h41))) ?_
              refine bind_b fun x45 h45 => ?_
              refine imp (callQ_pure (pure_snapN (snL_cons (sn_lst (E := TSequenceArrival.E) _ _ false) (snL_cons (sn_fn _ _ (snL_cons (sn_ptr _ (ty := 69) (us := [(strA x36.Call), (intA x36.Wake), (intA x36.Time), (intA x36.Latest)]) (by first | rfl | (simp (disch := first | decide | assumption) only [mpushs_nil, mpushs_cons, mget_hd, mget_tl, mget_appW_o, mget_appW_n, mget_appW_e])) (snL_cons (sn_sc _ _) (snL_cons (sn_sc _ _) (snL_cons (sn_sc _ _) (snL_cons (sn_sc _ _) snL_nil))))) snL_nil)) snL_nil)) (sg63 h45) rfl)) ?_
              refine imp exB_b ?_
              refine cond_b (fun _ => ?_) (fun _ => ?_)
              · exact fun hg => ret1 (hR _ (Option.some.inj hg).symm) (fz_sc _ _)
              · exact fun hg => hN0 _ (Option.some.inj hg).symm _ (weak_mem [] rfl rfl rfl (okW_cons (ent_lst (E := TSequenceArrival.E) _ false) (okW_cons (.inl (leV_refl _)) (okW_cons (ent_lst (E := TSequenceArrival.E) _ false) (okW_cons (.inl (leV_refl _)) (okW_cons (.inl (leV_refl _)) okW_nil))))) okB_nil')
  · exact fun hg => ret1 (hR _ (Option.some.inj hg).symm) (fz_sc _ _)
theorem L50_0_ok (n : Nat) (a0 : List TSequenceArrival) (c2 : Int) (c10 : Int) {t : ρ50} (R : AV → Mem → Prop) (hR : ∀ r : ρ50, t = r → ∀ u m, Ans ((intA r)) u m → R u m) (k : Nat) (x : Int) (hx : iterO (fun y : Int => S50_0 n a0 c2 c10 y) k x = some t) {s : St} (hw : Weak KK 49 0 s (h50_0 (lstA TSequenceArrival.E a0) c2 (lstA TSequenceArrival.E a0) c10 x [])) : Tri Try.prog KK 49 0 (.loop c50_0) s (q50_0 R ) :=
  L50_0 R  (σ := Nat × (Int)) (fun z => iterO (fun y : Int => S50_0 n a0 c2 c10 y) z.1 z.2 = some t) (fun z => (lstA TSequenceArrival.E a0)) (fun z => c2) (fun z => (lstA TSequenceArrival.E a0)) (fun z => c10) (fun z => z.2) (fun z => []) (fun z => z.1) (by
    rintro ⟨k, y⟩ h
    cases k with
    | zero => exact (iterO_zero h).elim
    | succ k =>
      obtain ⟨u, h1, h2, h3⟩ := iterO_elim h
      exact B50_0_ok n a0 c2 c10 y R  _ (fun r e => hR r (h3 _ e).symm)  (fun y' e s' hw => ⟨(k, y'), h2 _ e, Nat.lt_succ_self k, hw⟩) h1) (k, x) hx hw
theorem g50_ok (n : Nat) (a0 : List TSequenceArrival) {t : ρ50} (R : AV → Mem → Prop) (hR : ∀ r : ρ50, t = r → ∀ u m, Ans ((intA r)) u m → R u m) : g50 n a0 = some t → F50 (lstA TSequenceArrival.E a0) R := by
  unfold g50 F50
  refine imp (opP_of (show _ = some ((intA (a0.length : Int)), []) from rfl)) ?_
  refine imp ex_i64_b ?_
  refine cond_b (fun _ => ?_) (fun _ => ?_)
  · exact fun hg => ret1 (hR _ (Option.some.inj hg).symm) (fz_sc _ _)
  · refine imp (opP_of (show _ = some ((intA (a0.length : Int)), []) from rfl)) ?_
    refine imp ex_i64_b ?_
    exact fun hg => L50_0_ok n a0 (0) (a0.length : Int) R  hR n _ hg (weak_mem [] rfl rfl rfl (okW_cons (ent_lst (E := TSequenceArrival.E) _ false) (okW_cons (.inl (leV_refl _)) (okW_cons (ent_lst (E := TSequenceArrival.E) _ false) (okW_cons (.inl (leV_refl _)) (okW_cons (.inl (leV_refl _)) okW_nil))))) okB_nil')
theorem sg50 {n : Nat} {a0 : List TSequenceArrival} {t : ρ50} (h : g50 n a0 = some t) : Says Try.prog KK.gl 50 [(lstA TSequenceArrival.E a0)] ((intA t)) :=
  says_of_own (by first | rfl | simp [cleans, clean, encs_clean, En.cln]) (by first | rfl | simp [cleans, clean, encs_clean, En.cln]) (F50_own (lstA TSequenceArrival.E a0) _ (g50_ok n a0 (Ans ((intA t))) (fun r e u m h => by rw [e]; exact h) h))
/- cmp.isNaN[string] -/
theorem g69_ok (n : Nat) (a0 : ByteArray) {t : ρ69} (R : AV → Mem → Prop) (hR : ∀ r : ρ69, t = r → ∀ u m, Ans ((boolA r)) u m → R u m) : g69 n a0 = some t → F69 a0 R := by
  unfold g69 F69
  exact fun hg => ret1 (hR _ (Option.some.inj hg).symm) (fz_sc _ _)
theorem sg69 {n : Nat} {a0 : ByteArray} {t : ρ69} (h : g69 n a0 = some t) : Says Try.prog KK.gl 69 [(strA a0)] ((boolA t)) :=
  says_of_own (by first | rfl | simp [cleans, clean, encs_clean, En.cln]) (by first | rfl | simp [cleans, clean, encs_clean, En.cln]) (F69_own a0 _ (g69_ok n a0 (Ans ((boolA t))) (fun r e u m h => by rw [e]; exact h) h))
/- cmp.Compare[string] -/
theorem g59_ok (n : Nat) (a0 : ByteArray) (a1 : ByteArray) {t : ρ59} (R : AV → Mem → Prop) (hR : ∀ r : ρ59, t = r → ∀ u m, Ans ((intA r)) u m → R u m) : g59 n a0 a1 = some t → F59 a0 a1 R := by
  unfold g59 F59
  refine bind_b fun x53 h53 => ?_
  refine imp (callQ_says (sg69 h53)) ?_
  refine imp exB_b ?_
  refine bind_b fun x54 h54 => ?_
  refine imp (callQ_says (sg69 h54)) ?_
  refine imp exB_b ?_
  refine cond_b (fun _ => ?_) (fun _ => ?_)
  · refine cond_b (fun _ => ?_) (fun _ => ?_)
    · exact fun hg => ret1 (hR _ (Option.some.inj hg).symm) (fz_sc _ _)
    · exact fun hg => ret1 (hR _ (Option.some.inj hg).symm) (fz_sc _ _)
  · refine cond_b (fun _ => ?_) (fun _ => ?_)
    · exact fun hg => ret1 (hR _ (Option.some.inj hg).symm) (fz_sc _ _)
    · refine cond_b (fun _ => ?_) (fun _ => ?_)
      · exact fun hg => ret1 (hR _ (Option.some.inj hg).symm) (fz_sc _ _)
      · refine cond_b (fun _ => ?_) (fun _ => ?_)
        · exact fun hg => ret1 (hR _ (Option.some.inj hg).symm) (fz_sc _ _)
        · exact fun hg => ret1 (hR _ (Option.some.inj hg).symm) (fz_sc _ _)
theorem sg59 {n : Nat} {a0 : ByteArray} {a1 : ByteArray} {t : ρ59} (h : g59 n a0 a1 = some t) : Says Try.prog KK.gl 59 [(strA a0), (strA a1)] ((intA t)) :=
  says_of_own (by first | rfl | simp [cleans, clean, encs_clean, En.cln]) (by first | rfl | simp [cleans, clean, encs_clean, En.cln]) (F59_own a0 a1 _ (g59_ok n a0 a1 (Ans ((intA t))) (fun r e u m h => by rw [e]; exact h) h))
/- cmp.Or[int] -/
theorem B58_0_ok (n : Nat) (c2 : Int) (a0 : List Int) (c7 : Int) (v8 : Int) {t : (Int) ⊕ ρ58} (R : AV → Mem → Prop) (N0 : St → Prop) (hR : ∀ r : ρ58, t = (.inr r) → ∀ u m, Ans ((intA r)) u m → R u m) (hN0 : ∀ y : Int, t = (.inl y) → ∀ s' : St, Weak KK 18 0 s' (h58_0 c2 c2 (lstA intE a0) c7 y []) → N0 s') : S58_0 n c2 a0 c7 v8 = some t → B58_0 c2 c2 (lstA intE a0) c7 v8 [] R N0 := by
  unfold S58_0 B58_0
  refine cond_b (fun _ => ?_) (fun _ => ?_)
  · refine bind_b fun x56 h56 => ?_
    refine imp (opP_of (show _ = some ((AV.ept [(intA x56)] 0), []) from (idx_lst (E := intE) rfl h56))) ?_
    refine imp (opP_of (show _ = some ((intA x56), []) from rfl)) ?_
    refine imp ex_i64_b ?_
    refine cond_b (fun _ => ?_) (fun _ => ?_)
    · exact fun hg => ret1 (hR _ (Option.some.inj hg).symm) (fz_sc _ _)
    · exact fun hg => hN0 _ (Option.some.inj hg).symm _ (weak_mem [] rfl rfl rfl (okW_cons (.inl (leV_refl _)) (okW_cons (.inl (leV_refl _)) (okW_cons (ent_lst (E := intE) _ false) (okW_cons (.inl (leV_refl _)) (okW_cons (.inl (leV_refl _)) okW_nil))))) okB_nil')
  · exact fun hg => ret1 (hR _ (Option.some.inj hg).symm) (fz_sc _ _)
theorem L58_0_ok (n : Nat) (c2 : Int) (a0 : List Int) (c7 : Int) {t : ρ58} (R : AV → Mem → Prop) (hR : ∀ r : ρ58, t = r → ∀ u m, Ans ((intA r)) u m → R u m) (k : Nat) (x : Int) (hx : iterO (fun y : Int => S58_0 n c2 a0 c7 y) k x = some t) {s : St} (hw : Weak KK 18 0 s (h58_0 c2 c2 (lstA intE a0) c7 x [])) : Tri Try.prog KK 18 0 (.loop c58_0) s (q58_0 R ) :=
  L58_0 R  (σ := Nat × (Int)) (fun z => iterO (fun y : Int => S58_0 n c2 a0 c7 y) z.1 z.2 = some t) (fun z => c2) (fun z => c2) (fun z => (lstA intE a0)) (fun z => c7) (fun z => z.2) (fun z => []) (fun z => z.1) (by
    rintro ⟨k, y⟩ h
    cases k with
    | zero => exact (iterO_zero h).elim
    | succ k =>
      obtain ⟨u, h1, h2, h3⟩ := iterO_elim h
      exact B58_0_ok n c2 a0 c7 y R  _ (fun r e => hR r (h3 _ e).symm)  (fun y' e s' hw => ⟨(k, y'), h2 _ e, Nat.lt_succ_self k, hw⟩) h1) (k, x) hx hw
theorem g58_ok (n : Nat) (a0 : List Int) {t : ρ58} (R : AV → Mem → Prop) (hR : ∀ r : ρ58, t = r → ∀ u m, Ans ((intA r)) u m → R u m) : g58 n a0 = some t → F58 (lstA intE a0) R := by
  unfold g58 F58
  refine imp (opP_of (show _ = some ((intA (a0.length : Int)), []) from rfl)) ?_
  refine imp ex_i64_b ?_
  exact fun hg => L58_0_ok n (0) a0 (a0.length : Int) R  hR n _ hg (weak_mem [] rfl rfl rfl (okW_cons (.inl (leV_refl _)) (okW_cons (.inl (leV_refl _)) (okW_cons (ent_lst (E := intE) _ false) (okW_cons (.inl (leV_refl _)) (okW_cons (.inl (leV_refl _)) okW_nil))))) okB_nil')
theorem sg58 {n : Nat} {a0 : List Int} {t : ρ58} (h : g58 n a0 = some t) : Says Try.prog KK.gl 58 [(lstA intE a0)] ((intA t)) :=
  says_of_own (by first | rfl | simp [cleans, clean, encs_clean, En.cln]) (by first | rfl | simp [cleans, clean, encs_clean, En.cln]) (F58_own (lstA intE a0) _ (g58_ok n a0 (Ans ((intA t))) (fun r e u m h => by rw [e]; exact h) h))
/- skyway/sequence.Natural$1 -/
theorem g57_ok (n : Nat) (a0 : Int) (a1 : Int) (a2_0 : List TSequenceArrival) {t : ρ57} (R : AV → Mem → Prop) (hR : ∀ r : ρ57, t = r → ∀ u m, Ans ((intA r)) u m → R u m) : g57 n a0 a1 a2_0 = some t → F57 a0 a1 (AV.ept [(lstA TSequenceArrival.E a2_0)] 0) R := by
  unfold g57 F57
  refine imp (opM_of (show _ = some ((lstA TSequenceArrival.E a2_0), []) from rfl)) ?_
  refine bind_b fun x49 h49 => ?_
  refine imp (opM_of (show _ = some ((AV.ept [(strA x49.Call), (intA x49.Wake), (intA x49.Time), (intA x49.Latest)] 0), []) from (idx_lst (E := TSequenceArrival.E) rfl h49))) ?_
  refine imp (opM_of (show _ = some ((AV.ept [(strA x49.Call), (intA x49.Wake), (intA x49.Time), (intA x49.Latest)] 2), []) from rfl)) ?_
  refine imp (opM_of (show _ = some ((intA x49.Time), []) from rfl)) ?_
  refine imp ex_i64_b ?_
  refine imp (opM_of (show _ = some ((lstA TSequenceArrival.E a2_0), []) from rfl)) ?_
  refine bind_b fun x50 h50 => ?_
  refine imp (opM_of (show _ = some ((AV.ept [(strA x50.Call), (intA x50.Wake), (intA x50.Time), (intA x50.Latest)] 0), []) from (idx_lst (E := TSequenceArrival.E) rfl h50))) ?_
  refine imp (opM_of (show _ = some ((AV.ept [(strA x50.Call), (intA x50.Wake), (intA x50.Time), (intA x50.Latest)] 2), []) from rfl)) ?_
  refine imp (opM_of (show _ = some ((intA x50.Time), []) from rfl)) ?_
  refine imp ex_i64_b ?_
  refine imp (opM_of (show _ = some ((lstA TSequenceArrival.E a2_0), []) from rfl)) ?_
  refine bind_b fun x51 h51 => ?_
  refine imp (opM_of (show _ = some ((AV.ept [(strA x51.Call), (intA x51.Wake), (intA x51.Time), (intA x51.Latest)] 0), []) from (idx_lst (E := TSequenceArrival.E) rfl h51))) ?_
  refine imp (opM_of (show _ = some ((AV.ept [(strA x51.Call), (intA x51.Wake), (intA x51.Time), (intA x51.Latest)] 0), []) from rfl)) ?_
  refine imp (opM_of (show _ = some ((strA x51.Call), []) from rfl)) ?_
  refine imp exStr_b ?_
  refine imp (opM_of (show _ = some ((lstA TSequenceArrival.E a2_0), []) from rfl)) ?_
  refine bind_b fun x52 h52 => ?_
  refine imp (opM_of (show _ = some ((AV.ept [(strA x52.Call), (intA x52.Wake), (intA x52.Time), (intA x52.Latest)] 0), []) from (idx_lst (E := TSequenceArrival.E) rfl h52))) ?_
  refine imp (opM_of (show _ = some ((AV.ept [(strA x52.Call), (intA x52.Wake), (intA x52.Time), (intA x52.Latest)] 0), []) from rfl)) ?_
  refine imp (opM_of (show _ = some ((strA x52.Call), []) from rfl)) ?_
  refine imp exStr_b ?_
  refine bind_b fun x55 h55 => ?_
  refine imp (callF_says (sg59 h55)) ?_
  refine imp ex_i64_b ?_
  refine imp (opM_of (show _ = some ((blkV intE 23 ([(IntKind.wrap .i64 (x49.Time - x50.Time)), x55] : List Int)), [(23, some ⟨encs intE ([(IntKind.wrap .i64 (x49.Time - x50.Time)), x55] : List Int), 3⟩)]) from rfl)) ?_
  refine bind_b fun x57 h57 => ?_
  refine imp (callF_pure [23] (pure_snapN (snL_cons (sn_blk (E := intE) (ty := 3) (l' := ([(IntKind.wrap .i64 (x49.Time - x50.Time)), x55] : List Int)) _ intE.nf rfl (by first | rfl | (simp (disch := first | decide | assumption) only [mpushs_nil, mpushs_cons, mget_hd, mget_tl, mget_appW_o, mget_appW_n, mget_appW_e]))) snL_nil) (sg58 h57) rfl)) ?_
  refine imp ex_i64_b ?_
  refine imp (chk_of (by kernel_rfl)) ?_
  exact fun hg => ret1 (hR _ (Option.some.inj hg).symm) (fz_sc _ _)
theorem sg57 {n : Nat} {a0 : Int} {a1 : Int} {a2_0 : List TSequenceArrival} {t : ρ57} (h : g57 n a0 a1 a2_0 = some t) : Says Try.prog KK.gl 57 [(intA a0), (intA a1), (AV.ept [(lstA TSequenceArrival.E a2_0)] 0)] ((intA t)) :=
  says_of_own (by first | rfl | simp [cleans, clean, encs_clean, En.cln]) (by first | rfl | simp [cleans, clean, encs_clean, En.cln]) (F57_own a0 a1 (AV.ept [(lstA TSequenceArrival.E a2_0)] 0) _ (g57_ok n a0 a1 a2_0 (Ans ((intA t))) (fun r e u m h => by rw [e]; exact h) h))
/- skyway/sequence.Natural -/
theorem B31_0_ok (n : Nat) (c3 : Int) (c13 : Int) (a0 : List TSequenceArrival) (v14 : Int) (L90000 : List Int) {t : (Int × List Int) ⊕ ρ31} (R : AV → Mem → Prop) (N0 : St → Prop) (hR : ∀ r : ρ31, t = (.inr r) → ∀ u m, Ans ((AV.tup [(lstA intE r.1), (intA r.2)])) u m → R u m) (hN0 : ∀ y : Int × List Int, t = (.inl y) → ∀ s' : St, Weak KK 26 0 s' (h31_0 AV.nils c3 (ownV intE 90000 y.2) c13 y.1 (lstA TSequenceArrival.E a0) [(90000, ownB intE 3 y.2)]) → N0 s') : S31_0 n c3 c13 a0 v14 L90000 = some t → B31_0 AV.nils c3 (ownV intE 90000 L90000) c13 v14 (lstA TSequenceArrival.E a0) [(90000, ownB intE 3 L90000)] R N0 := by
  unfold S31_0 B31_0
  refine cond_b (fun _ => ?_) (fun _ => ?_)
  · refine imp (opN_of (show _ = some ((blkV intE 100005 ([v14] : List Int)), [(100005, some ⟨encs intE ([v14] : List Int), 3⟩)]) from rfl)) ?_
    refine bind_b fun x48 h48 => ?_
    refine imp (opN_of (show _ = some ((ownV intE 100006 (L90000 ++ ([v14] : List Int))), (appW intE 100006 90000 3 L90000 ([v14] : List Int))) from (app_own (E := intE) (l' := L90000) (xs := ([v14] : List Int)) rfl rfl (cellsOf_blk (E := intE) (ty := 3) rfl rfl (by first | rfl | (simp (disch := first | decide | assumption) only [mpushs_nil, mpushs_cons, mget_hd, mget_tl, mget_appW_o, mget_appW_n, mget_appW_e]))) (by first | assumption | simp) rfl (fun hne => Eq.trans (by first | rfl | (simp (disch := first | decide | assumption) only [mpushs_nil, mpushs_cons, mget_hd, mget_tl, mget_appW_o, mget_appW_n, mget_appW_e])) (ownB_ne hne)) h48))) ?_
    exact fun hg => hN0 _ (Option.some.inj hg).symm _ (weak_mem [(90000, 100006), (0, 0)] rfl rfl rfl (okW_cons (.inl (leV_refl _)) (okW_cons (.inl (leV_refl _)) (okW_cons (.inl (leV_refl _)) (okW_cons (ent_own (E := intE) (id := 100006) (l' := (L90000 ++ ([v14] : List Int))) rfl rfl) (okW_cons (.inl (leV_refl _)) (okW_cons (.inl (leV_refl _)) okW_nil)))))) (okB_cons (okB_cells (cs := [(lstA TSequenceArrival.E a0)]) (ty := 59) (by simp [clean, cleans, encs_clean]) (show mget _ 0 = _ from (by first | rfl | (simp (disch := first | decide | assumption) only [mpushs_nil, mpushs_cons, mget_hd, mget_tl, mget_appW_o, mget_appW_n, mget_appW_e])))) (okB_cons (okB_own (E := intE) (ty := 3) (l' := (L90000 ++ ([v14] : List Int))) rfl (show mget _ 100006 = _ from (by first | rfl | (simp (disch := first | decide | assumption) only [mpushs_nil, mpushs_cons, mget_hd, mget_tl, mget_appW_o, mget_appW_n, mget_appW_e])))) okB_nil')))
  · refine bind_b fun x58 h58 => ?_
    have lh58 := sortO_len h58
    refine imp (callW_sortHV (hx := rfl) (E := intE) (ty := 3) (l := L90000) (cmp := (fun x y => g57 n x y a0)) rfl intE_ok sorts56 none56 plain56 rfl (by first | rfl | (simp (disch := first | decide | assumption) only [mpushs_nil, mpushs_cons, mget_hd, mget_tl, mget_appW_o, mget_appW_n, mget_appW_e])) (capsOk_cons (.inr ⟨_, _, _, _, rfl, by decide, (by first | rfl | (simp (disch := first | decide | assumption) only [mpushs_nil, mpushs_cons, mget_hd, mget_tl, mget_appW_o, mget_appW_n, mget_appW_e])), by first | rfl | simp [cleans, clean, encs_clean], rfl⟩) capsOk_nil) (fun x y z h => sg57 h) h58) ?_
    refine imp exT0_b ?_
    exact fun hg => retN rfl (hR _ (Option.some.inj hg).symm) (fzL_cons (fz_own (E := intE) (ty := 3) (l' := x58) _ (by first | rfl | omega | (simp; done) | (simp; omega)) (by first | rfl | (simp (disch := first | decide | assumption) only [mpushs_nil, mpushs_cons, mget_hd, mget_tl, mget_appW_o, mget_appW_n, mget_appW_e]))) (fzL_cons (fz_sc _ _) fzL_nil))
theorem L31_0_ok (n : Nat) (c3 : Int) (c13 : Int) (a0 : List TSequenceArrival) {t : ρ31} (R : AV → Mem → Prop) (hR : ∀ r : ρ31, t = r → ∀ u m, Ans ((AV.tup [(lstA intE r.1), (intA r.2)])) u m → R u m) (k : Nat) (x : Int × List Int) (hx : iterO (fun y : Int × List Int => S31_0 n c3 c13 a0 y.1 y.2) k x = some t) {s : St} (hw : Weak KK 26 0 s (h31_0 AV.nils c3 (ownV intE 90000 x.2) c13 x.1 (lstA TSequenceArrival.E a0) [(90000, ownB intE 3 x.2)])) : Tri Try.prog KK 26 0 (.loop c31_0) s (q31_0 R ) :=
  L31_0 R  (σ := Nat × (Int × List Int)) (fun z => iterO (fun y : Int × List Int => S31_0 n c3 c13 a0 y.1 y.2) z.1 z.2 = some t) (fun z => AV.nils) (fun z => c3) (fun z => (ownV intE 90000 z.2.2)) (fun z => c13) (fun z => z.2.1) (fun z => (lstA TSequenceArrival.E a0)) (fun z => [(90000, ownB intE 3 z.2.2)]) (fun z => z.1) (by
    rintro ⟨k, y⟩ h
    cases k with
    | zero => exact (iterO_zero h).elim
    | succ k =>
      obtain ⟨u, h1, h2, h3⟩ := iterO_elim h
      exact B31_0_ok n c3 c13 a0 y.1 y.2 R  _ (fun r e => hR r (h3 _ e).symm)  (fun y' e s' hw => ⟨(k, y'), h2 _ e, Nat.lt_succ_self k, hw⟩) h1) (k, x) hx hw
theorem g31_ok (n : Nat) (a0 : List TSequenceArrival) {t : ρ31} (R : AV → Mem → Prop) (hR : ∀ r : ρ31, t = r → ∀ u m, Ans ((AV.tup [(lstA intE r.1), (intA r.2)])) u m → R u m) : g31 n a0 = some t → F31 (lstA TSequenceArrival.E a0) R := by
  unfold g31 F31
  refine imp (chk_of rfl) ?_
  refine bind_b fun x46 h46 => ?_
  refine imp (callQ_says (sg50 h46)) ?_
  refine imp ex_i64_b ?_
  refine cond_b (fun _ => ?_) (fun _ => ?_)
  · exact fun hg => retN rfl (hR _ (Option.some.inj hg).symm) (fzL_cons (fz_nils (E := intE) _) (fzL_cons (fz_sc _ _) fzL_nil))
  · refine imp (opP_of (show _ = some ((intA (a0.length : Int)), []) from rfl)) ?_
    refine imp ex_i64_b ?_
    exact fun hg => L31_0_ok n (0) (a0.length : Int) a0 R  hR n _ hg (weak_mem [(90000, 89500), (0, 0)] rfl rfl rfl (okW_cons (.inl (leV_refl _)) (okW_cons (.inl (leV_refl _)) (okW_cons (.inl (leV_refl _)) (okW_cons ent_nils_own (okW_cons (.inl (leV_refl _)) (okW_cons (.inl (leV_refl _)) okW_nil)))))) (okB_cons (okB_cells (cs := [(lstA TSequenceArrival.E a0)]) (ty := 59) (by simp [clean, cleans, encs_clean]) (show mget _ 0 = _ from (by first | rfl | (simp (disch := first | decide | assumption) only [mpushs_nil, mpushs_cons, mget_hd, mget_tl, mget_appW_o, mget_appW_n, mget_appW_e])))) (okB_cons okB_nil okB_nil')))
theorem sg31 {n : Nat} {a0 : List TSequenceArrival} {t : ρ31} (h : g31 n a0 = some t) : Says Try.prog KK.gl 31 [(lstA TSequenceArrival.E a0)] ((AV.tup [(lstA intE t.1), (intA t.2)])) :=
  says_of_own (by first | rfl | simp [cleans, clean, encs_clean, En.cln]) (by first | rfl | simp [cleans, clean, encs_clean, En.cln]) (F31_own (lstA TSequenceArrival.E a0) _ (g31_ok n a0 (Ans ((AV.tup [(lstA intE t.1), (intA t.2)]))) (fun r e u m h => by rw [e]; exact h) h))
end Go.Proofs.Ytfmodgffhbljoaa
