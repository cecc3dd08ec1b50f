/- Plain functional programs out of the program's functions, with proofs that the functions compute them; printed by wip/Ext.lean.txt. -/
import Derived.Test.YtfmodgffhbljoaaX1E1
set_option linter.unusedVariables false
set_option linter.unusedSimpArgs false
set_option maxRecDepth 100000
set_option maxHeartbeats 4000000
namespace Go.Proofs.Ytfmodgffhbljoaa
/- slices.Index[[]int,int] -/
theorem B66_0_ok (n : Nat) (a0 : List Int) (a1 : Int) (c4 : Int) (c7 : Int) (v8 : Int) {t : (Int) ⊕ ρ66} (R : AV → Mem → Prop) (N0 : St → Prop) (hR : ∀ r : ρ66, t = (.inr r) → ∀ u m, Ans ((intA r)) u m → R u m) (hN0 : ∀ y : Int, t = (.inl y) → ∀ s' : St, Weak KK 19 0 s' (h66_0 (lstA intE a0) a1 c4 c7 y []) → N0 s') : S66_0 n a0 a1 c4 c7 v8 = some t → B66_0 (lstA intE a0) a1 c4 c7 v8 [] R N0 := by
  unfold S66_0 B66_0
  refine cond_b (fun _ => ?_) (fun _ => ?_)
  · refine bind_b fun x60 h60 => ?_
    refine imp (opP_of (show _ = some ((AV.ept [(intA x60)] 0), []) from (idx_lst (E := intE) rfl h60))) ?_
    refine imp (opP_of (show _ = some ((intA x60), []) from rfl)) ?_
    refine imp ex_i64_b ?_
    refine cond_b (fun _ => ?_) (fun _ => ?_)
    · exact fun hg => ret1 (hR _ (Option.some.inj hg).symm) (fz_sc _ _)
    · exact fun hg => hN0 _ (Option.some.inj hg).symm _ (weak_mem [] rfl rfl rfl (okW_cons (ent_lst (E := intE) _ false) (okW_cons (.inl (leV_refl _)) (okW_cons (.inl (leV_refl _)) (okW_cons (.inl (leV_refl _)) (okW_cons (.inl (leV_refl _)) okW_nil))))) okB_nil')
  · exact fun hg => ret1 (hR _ (Option.some.inj hg).symm) (fz_sc _ _)
theorem L66_0_ok (n : Nat) (a0 : List Int) (a1 : Int) (c4 : Int) (c7 : Int) {t : ρ66} (R : AV → Mem → Prop) (hR : ∀ r : ρ66, t = r → ∀ u m, Ans ((intA r)) u m → R u m) (k : Nat) (x : Int) (hx : iterO (fun y : Int => S66_0 n a0 a1 c4 c7 y) k x = some t) {s : St} (hw : Weak KK 19 0 s (h66_0 (lstA intE a0) a1 c4 c7 x [])) : Tri Try.prog KK 19 0 (.loop c66_0) s (q66_0 R ) :=
  L66_0 R  (σ := Nat × (Int)) (fun z => iterO (fun y : Int => S66_0 n a0 a1 c4 c7 y) z.1 z.2 = some t) (fun z => (lstA intE a0)) (fun z => a1) (fun z => c4) (fun z => c7) (fun z => z.2) (fun z => []) (fun z => z.1) (by
    rintro ⟨k, y⟩ h
    cases k with
    | zero => exact (iterO_zero h).elim
    | succ k =>
      obtain ⟨u, h1, h2, h3⟩ := iterO_elim h
      exact B66_0_ok n a0 a1 c4 c7 y R  _ (fun r e => hR r (h3 _ e).symm)  (fun y' e s' hw => ⟨(k, y'), h2 _ e, Nat.lt_succ_self k, hw⟩) h1) (k, x) hx hw
theorem g66_ok (n : Nat) (a0 : List Int) (a1 : Int) {t : ρ66} (R : AV → Mem → Prop) (hR : ∀ r : ρ66, t = r → ∀ u m, Ans ((intA r)) u m → R u m) : g66 n a0 a1 = some t → F66 (lstA intE a0) a1 R := by
  unfold g66 F66
  refine imp (opP_of (show _ = some ((intA (a0.length : Int)), []) from rfl)) ?_
  refine imp ex_i64_b ?_
  exact fun hg => L66_0_ok n a0 a1 (0) (a0.length : Int) R  hR n _ hg (weak_mem [] rfl rfl rfl (okW_cons (ent_lst (E := intE) _ false) (okW_cons (.inl (leV_refl _)) (okW_cons (.inl (leV_refl _)) (okW_cons (.inl (leV_refl _)) (okW_cons (.inl (leV_refl _)) okW_nil))))) okB_nil')
theorem sg66 {n : Nat} {a0 : List Int} {a1 : Int} {t : ρ66} (h : g66 n a0 a1 = some t) : Says Try.prog KK.gl 66 [(lstA intE a0), (intA a1)] ((intA t)) :=
  says_of_own (by first | rfl | simp [cleans, clean, encs_clean, En.cln]) (by first | rfl | simp [cleans, clean, encs_clean, En.cln]) (F66_own (lstA intE a0) a1 _ (g66_ok n a0 a1 (Ans ((intA t))) (fun r e u m h => by rw [e]; exact h) h))
/- skyway/sequence.shift -/
theorem B54_0_ok (n : Nat) (a0 : List Int) (c4 : Int) (a1 : List Int) (c10 : Int) (v5 : Int) (v11 : Int) {t : (Int × Int) ⊕ ρ54} (R : AV → Mem → Prop) (N0 : St → Prop) (hR : ∀ r : ρ54, t = (.inr r) → ∀ u m, Ans ((intA r)) u m → R u m) (hN0 : ∀ y : Int × Int, t = (.inl y) → ∀ s' : St, Weak KK 28 0 s' (h54_0 (lstA intE a0) c4 y.1 (lstA intE a1) c10 y.2 []) → N0 s') : S54_0 n a0 c4 a1 c10 v5 v11 = some t → B54_0 (lstA intE a0) c4 v5 (lstA intE a1) c10 v11 [] R N0 := by
  unfold S54_0 B54_0
  refine cond_b (fun _ => ?_) (fun _ => ?_)
  · refine bind_b fun x59 h59 => ?_
    refine imp (opP_of (show _ = some ((AV.ept [(intA x59)] 0), []) from (idx_lst (E := intE) rfl h59))) ?_
    refine imp (opP_of (show _ = some ((intA x59), []) from rfl)) ?_
    refine imp ex_i64_b ?_
    refine bind_b fun x61 h61 => ?_
    refine imp (callQ_says (sg66 h61)) ?_
    refine imp ex_i64_b ?_
    refine imp (opP_of (show _ = some ((intA (IntKind.wrap .i64 (0 - (IntKind.wrap .i64 (v11 - x61))))), []) from (by kernel_rfl))) ?_
    refine imp ex_i64_b ?_
    refine imp (opP_of (show _ = some ((intA (if (IntKind.wrap .i64 (0 - (IntKind.wrap .i64 (v11 - x61)))) > (if (IntKind.wrap .i64 (v11 - x61)) > v5 then (IntKind.wrap .i64 (v11 - x61)) else v5) then (IntKind.wrap .i64 (0 - (IntKind.wrap .i64 (v11 - x61)))) else (if (IntKind.wrap .i64 (v11 - x61)) > v5 then (IntKind.wrap .i64 (v11 - x61)) else v5))), []) from (by kernel_rfl))) ?_
    refine imp ex_i64_b ?_
    exact fun hg => hN0 _ (Option.some.inj hg).symm _ (weak_mem [] rfl rfl rfl (okW_cons (ent_lst (E := intE) _ false) (okW_cons (.inl (leV_refl _)) (okW_cons (.inl (leV_refl _)) (okW_cons (ent_lst (E := intE) _ false) (okW_cons (.inl (leV_refl _)) (okW_cons (.inl (leV_refl _)) okW_nil)))))) okB_nil')
  · exact fun hg => ret1 (hR _ (Option.some.inj hg).symm) (fz_sc _ _)
theorem L54_0_ok (n : Nat) (a0 : List Int) (c4 : Int) (a1 : List Int) (c10 : Int) {t : ρ54} (R : AV → Mem → Prop) (hR : ∀ r : ρ54, t = r → ∀ u m, Ans ((intA r)) u m → R u m) (k : Nat) (x : Int × Int) (hx : iterO (fun y : Int × Int => S54_0 n a0 c4 a1 c10 y.1 y.2) k x = some t) {s : St} (hw : Weak KK 28 0 s (h54_0 (lstA intE a0) c4 x.1 (lstA intE a1) c10 x.2 [])) : Tri Try.prog KK 28 0 (.loop c54_0) s (q54_0 R ) :=
  L54_0 R  (σ := Nat × (Int × Int)) (fun z => iterO (fun y : Int × Int => S54_0 n a0 c4 a1 c10 y.1 y.2) z.1 z.2 = some t) (fun z => (lstA intE a0)) (fun z => c4) (fun z => z.2.1) (fun z => (lstA intE a1)) (fun z => c10) (fun z => z.2.2) (fun z => []) (fun z => z.1) (by
    rintro ⟨k, y⟩ h
    cases k with
    | zero => exact (iterO_zero h).elim
    | succ k =>
      obtain ⟨u, h1, h2, h3⟩ := iterO_elim h
      exact B54_0_ok n a0 c4 a1 c10 y.1 y.2 R  _ (fun r e => hR r (h3 _ e).symm)  (fun y' e s' hw => ⟨(k, y'), h2 _ e, Nat.lt_succ_self k, hw⟩) h1) (k, x) hx hw
theorem g54_ok (n : Nat) (a0 : List Int) (a1 : List Int) {t : ρ54} (R : AV → Mem → Prop) (hR : ∀ r : ρ54, t = r → ∀ u m, Ans ((intA r)) u m → R u m) : g54 n a0 a1 = some t → F54 (lstA intE a0) (lstA intE a1) R := by
  unfold g54 F54
  refine imp (opP_of (show _ = some ((intA (a1.length : Int)), []) from rfl)) ?_
  refine imp ex_i64_b ?_
  exact fun hg => L54_0_ok n a0 (0) a1 (a1.length : Int) R  hR n _ hg (weak_mem [] rfl rfl rfl (okW_cons (ent_lst (E := intE) _ false) (okW_cons (.inl (leV_refl _)) (okW_cons (.inl (leV_refl _)) (okW_cons (ent_lst (E := intE) _ false) (okW_cons (.inl (leV_refl _)) (okW_cons (.inl (leV_refl _)) okW_nil)))))) okB_nil')
theorem sg54 {n : Nat} {a0 : List Int} {a1 : List Int} {t : ρ54} (h : g54 n a0 a1 = some t) : Says Try.prog KK.gl 54 [(lstA intE a0), (lstA intE a1)] ((intA t)) :=
  says_of_own (by first | rfl | simp [cleans, clean, encs_clean, En.cln]) (by first | rfl | simp [cleans, clean, encs_clean, En.cln]) (F54_own (lstA intE a0) (lstA intE a1) _ (g54_ok n a0 a1 (Ans ((intA t))) (fun r e u m h => by rw [e]; exact h) h))
/- slices.Contains[[]int,int] -/
theorem g65_ok (n : Nat) (a0 : List Int) (a1 : Int) {t : ρ65} (R : AV → Mem → Prop) (hR : ∀ r : ρ65, t = r → ∀ u m, Ans ((boolA r)) u m → R u m) : g65 n a0 a1 = some t → F65 (lstA intE a0) a1 R := by
  unfold g65 F65
  refine bind_b fun x62 h62 => ?_
  refine imp (callQ_says (sg66 h62)) ?_
  refine imp ex_i64_b ?_
  exact fun hg => ret1 (hR _ (Option.some.inj hg).symm) (fz_sc _ _)
theorem sg65 {n : Nat} {a0 : List Int} {a1 : Int} {t : ρ65} (h : g65 n a0 a1 = some t) : Says Try.prog KK.gl 65 [(lstA intE a0), (intA a1)] ((boolA t)) :=
  says_of_own (by first | rfl | simp [cleans, clean, encs_clean, En.cln]) (by first | rfl | simp [cleans, clean, encs_clean, En.cln]) (F65_own (lstA intE a0) a1 _ (g65_ok n a0 a1 (Ans ((boolA t))) (fun r e u m h => by rw [e]; exact h) h))
/- skyway/skywaykeep3.sequenceFact -/
theorem ev28 : evalsTo Try.prog KF 300 28 = some true := by decide +kernel
theorem sg28 {n : Nat} {t : ρ28} (h : g28 n = some t) : Says Try.prog KK.gl 28 [] (boolA t) := by
  cases h
  exact says_of_evals (K := KF) fol (k := 300) ev28
/- skyway/skywaykeep3.pick -/
theorem g15_ok (n : Nat) (a0 : Int) (a1 : Int) {t : ρ15} (R : AV → Mem → Prop) (hR : ∀ r : ρ15, t = r → ∀ u m, Ans ((intA r)) u m → R u m) : g15 n a0 a1 = some t → F15 a0 a1 R := by
  unfold g15 F15
  refine imp (opP_of (show _ = some ((AV.sc (.int .u64 (IntKind.wrap .u64 a0))), []) from (by kernel_rfl))) ?_
  refine imp ex_u64_b ?_
  refine imp (opP_of (show _ = some ((AV.sc (.int .u64 (IntKind.wrap .u64 a1))), []) from (by kernel_rfl))) ?_
  refine imp ex_u64_b ?_
  refine bind_b fun x64 h64 => ?_
  refine imp (opP_of (show _ = some ((AV.sc (.int .u64 x64)), []) from (opA_rem h64))) ?_
  refine imp ex_u64_b ?_
  refine imp (opP_of (show _ = some ((intA (IntKind.wrap .i64 x64)), []) from (by kernel_rfl))) ?_
  refine imp ex_i64_b ?_
  exact fun hg => ret1 (hR _ (Option.some.inj hg).symm) (fz_sc _ _)
theorem sg15 {n : Nat} {a0 : Int} {a1 : Int} {t : ρ15} (h : g15 n a0 a1 = some t) : Says Try.prog KK.gl 15 [(intA a0), (intA a1)] ((intA t)) :=
  says_of_own (by first | rfl | simp [cleans, clean, encs_clean, En.cln]) (by first | rfl | simp [cleans, clean, encs_clean, En.cln]) (F15_own a0 a1 _ (g15_ok n a0 a1 (Ans ((intA t))) (fun r e u m h => by rw [e]; exact h) h))
/- skyway/sequence.isOrder -/
theorem B55_0_ok (n : Nat) (a0 : List Int) (a1 : Int) (c4 : Bool) (c11 : Int) (v12 : Int) (L90000 : List Bool) {t : (Int × List Bool) ⊕ ρ55} (R : AV → Mem → Prop) (N0 : St → Prop) (hR : ∀ r : ρ55, t = (.inr r) → ∀ u m, Ans ((boolA r)) u m → R u m) (hN0 : ∀ y : Int × List Bool, t = (.inl y) → ∀ s' : St, Weak KK 37 0 s' (h55_0 (lstA intE a0) a1 c4 (blkV boolE 90000 y.2) (lstA intE a0) c11 y.1 [(90000, some ⟨encs boolE y.2, 4⟩)]) → N0 s') : S55_0 n a0 a1 c4 c11 v12 L90000 = some t → B55_0 (lstA intE a0) a1 c4 (blkV boolE 90000 L90000) (lstA intE a0) c11 v12 [(90000, some ⟨encs boolE L90000, 4⟩)] R N0 := by
  unfold S55_0 B55_0
  refine cond_b (fun _ => ?_) (fun _ => ?_)
  · refine bind_b fun x71 h71 => ?_
    refine imp (opP_of (show _ = some ((AV.ept [(intA x71)] 0), []) from (idx_lst (E := intE) rfl h71))) ?_
    refine imp (opP_of (show _ = some ((intA x71), []) from rfl)) ?_
    refine imp ex_i64_b ?_
    refine cond_b (fun _ => ?_) (fun _ => ?_)
    · exact fun hg => ret1 (hR _ (Option.some.inj hg).symm) (fz_sc _ _)
    · refine cond_b (fun _ => ?_) (fun _ => ?_)
      · exact fun hg => ret1 (hR _ (Option.some.inj hg).symm) (fz_sc _ _)
      · refine bind_b fun x72 h72 => ?_
        refine imp (opP_of (show _ = some ((AV.ptr 90000 (((x71 : Int).toNat) * 1 + 0)), []) from (idx_blk (E := boolE) rfl h72))) ?_
        refine imp (opP_of (show _ = some ((boolA x72), []) from (ldS_blk (E := boolE) (l := L90000) (ty := 4) (o := 0) (by first | rfl | (simp (disch := first | decide | assumption) only [mpushs_nil, mpushs_cons, mget_hd, mget_tl, mget_appW_o, mget_appW_n, mget_appW_e])) (getI_some h72).2 rfl (by decide) rfl))) ?_
        refine imp exB_b ?_
        refine cond_b (fun _ => ?_) (fun _ => ?_)
        · exact fun hg => ret1 (hR _ (Option.some.inj hg).symm) (fz_sc _ _)
        · refine bind_b fun x73 h73 => ?_
          refine imp (opP_of (show _ = some ((AV.ptr 90000 (((x71 : Int).toNat) * 1 + 0)), []) from (idx_blk (E := boolE) rfl h73))) ?_
          refine imp (storeW_el (E := boolE) (l := L90000) (i := ((x71 : Int).toNat)) (o := 0) (y := true) (ty := 4) (by kernel_rfl) (by kernel_rfl) rfl (by first | rfl | (simp (disch := first | decide | assumption) only [mpushs_nil, mpushs_cons, mget_hd, mget_tl, mget_appW_o, mget_appW_n, mget_appW_e])) (getI_some h73).2 rfl (by decide) rfl) ?_
          exact fun hg => hN0 _ (Option.some.inj hg).symm _ (weak_mem [(90000, 90000)] rfl rfl rfl (okW_cons (ent_lst (E := intE) _ false) (okW_cons (.inl (leV_refl _)) (okW_cons (.inl (leV_refl _)) (okW_cons (ent_blk (E := boolE) (id := 90000) (l' := (L90000.set ((x71 : Int).toNat) true)) (by first | rfl | omega | (simp; done) | (simp; omega)) rfl) (okW_cons (ent_lst (E := intE) _ false) (okW_cons (.inl (leV_refl _)) (okW_cons (.inl (leV_refl _)) okW_nil))))))) (okB_cons (okB_cells (cs := encs boolE (L90000.set ((x71 : Int).toNat) true)) (ty := 4) (encs_clean _) (show mget _ 90000 = _ from (by first | rfl | (simp (disch := first | decide | assumption) only [mpushs_nil, mpushs_cons, mget_hd, mget_tl, mget_appW_o, mget_appW_n, mget_appW_e])))) okB_nil'))
  · refine imp (opP_of (show _ = some ((intA (a0.length : Int)), []) from rfl)) ?_
    refine imp ex_i64_b ?_
    exact fun hg => ret1 (hR _ (Option.some.inj hg).symm) (fz_sc _ _)
theorem L55_0_ok (n : Nat) (a0 : List Int) (a1 : Int) (c4 : Bool) (c11 : Int) {t : ρ55} (R : AV → Mem → Prop) (hR : ∀ r : ρ55, t = r → ∀ u m, Ans ((boolA r)) u m → R u m) (k : Nat) (x : Int × List Bool) (hx : iterO (fun y : Int × List Bool => S55_0 n a0 a1 c4 c11 y.1 y.2) k x = some t) {s : St} (hw : Weak KK 37 0 s (h55_0 (lstA intE a0) a1 c4 (blkV boolE 90000 x.2) (lstA intE a0) c11 x.1 [(90000, some ⟨encs boolE x.2, 4⟩)])) : Tri Try.prog KK 37 0 (.loop c55_0) s (q55_0 R ) :=
  L55_0 R  (σ := Nat × (Int × List Bool)) (fun z => iterO (fun y : Int × List Bool => S55_0 n a0 a1 c4 c11 y.1 y.2) z.1 z.2 = some t) (fun z => (lstA intE a0)) (fun z => a1) (fun z => c4) (fun z => (blkV boolE 90000 z.2.2)) (fun z => (lstA intE a0)) (fun z => c11) (fun z => z.2.1) (fun z => [(90000, some ⟨encs boolE z.2.2, 4⟩)]) (fun z => z.1) (by
    rintro ⟨k, y⟩ h
    cases k with
    | zero => exact (iterO_zero h).elim
    | succ k =>
      obtain ⟨u, h1, h2, h3⟩ := iterO_elim h
      exact B55_0_ok n a0 a1 c4 c11 y.1 y.2 R  _ (fun r e => hR r (h3 _ e).symm)  (fun y' e s' hw => ⟨(k, y'), h2 _ e, Nat.lt_succ_self k, hw⟩) h1) (k, x) hx hw
theorem g55_ok (n : Nat) (a0 : List Int) (a1 : Int) {t : ρ55} (R : AV → Mem → Prop) (hR : ∀ r : ρ55, t = r → ∀ u m, Ans ((boolA r)) u m → R u m) : g55 n a0 a1 = some t → F55 (lstA intE a0) a1 R := by
  unfold g55 F55
  refine bind_b fun x70 h70 => ?_
  refine imp (opN_of (show _ = some ((blkV boolE 2 (List.replicate x70 false)), [(2, some ⟨encs boolE (List.replicate x70 false), 4⟩)]) from (mks_ok (E := boolE) (z := false) rfl rfl h70))) ?_
  refine imp (opP_of (show _ = some ((intA (a0.length : Int)), []) from rfl)) ?_
  refine imp ex_i64_b ?_
  exact fun hg => L55_0_ok n a0 a1 false (a0.length : Int) R  hR n _ hg (weak_mem [(90000, 2)] rfl rfl rfl (okW_cons (ent_lst (E := intE) _ false) (okW_cons (.inl (leV_refl _)) (okW_cons (.inl (leV_refl _)) (okW_cons (ent_blk (E := boolE) (id := 2) (l' := (List.replicate x70 false)) rfl rfl) (okW_cons (ent_lst (E := intE) _ false) (okW_cons (.inl (leV_refl _)) (okW_cons (.inl (leV_refl _)) okW_nil))))))) (okB_cons (okB_cells (cs := encs boolE (List.replicate x70 false)) (ty := 4) (encs_clean _) (show mget _ 2 = _ from (by first | rfl | (simp (disch := first | decide | assumption) only [mpushs_nil, mpushs_cons, mget_hd, mget_tl, mget_appW_o, mget_appW_n, mget_appW_e])))) okB_nil'))
theorem sg55 {n : Nat} {a0 : List Int} {a1 : Int} {t : ρ55} (h : g55 n a0 a1 = some t) : Says Try.prog KK.gl 55 [(lstA intE a0), (intA a1)] ((boolA t)) :=
  says_of_own (by first | rfl | simp [cleans, clean, encs_clean, En.cln]) (by first | rfl | simp [cleans, clean, encs_clean, En.cln]) (F55_own (lstA intE a0) a1 _ (g55_ok n a0 a1 (Ans ((boolA t))) (fun r e u m h => by rw [e]; exact h) h))
/- skyway/sequence.Shift -/
theorem g30_ok (n : Nat) (a0 : List TSequenceArrival) (a1 : List Int) {t : ρ30} (R : AV → Mem → Prop) (hR : ∀ r : ρ30, t = r → ∀ u m, Ans ((AV.tup [(intA r.1), (intA r.2)])) u m → R u m) : g30 n a0 a1 = some t → F30 (lstA TSequenceArrival.E a0) (lstA intE a1) R := by
  unfold g30 F30
  refine bind_b fun x69 h69 => ?_
  refine imp (callQ_says (sg31 h69)) ?_
  refine imp exT2_b ?_
  refine imp ex_i64_b ?_
  refine cond_b (fun _ => ?_) (fun _ => ?_)
  · exact fun hg => retN rfl (hR _ (Option.some.inj hg).symm) (fzL_cons (fz_sc _ _) (fzL_cons (fz_sc _ _) fzL_nil))
  · refine imp (opP_of (show _ = some ((intA (a0.length : Int)), []) from rfl)) ?_
    refine imp ex_i64_b ?_
    refine bind_b fun x74 h74 => ?_
    refine imp (callQ_says (sg55 h74)) ?_
    refine imp exB_b ?_
    refine cond_b (fun _ => ?_) (fun _ => ?_)
    · exact fun hg => retN rfl (hR _ (Option.some.inj hg).symm) (fzL_cons (fz_sc _ _) (fzL_cons (fz_sc _ _) fzL_nil))
    · refine bind_b fun x75 h75 => ?_
      refine imp (callQ_says (sg54 h75)) ?_
      refine imp ex_i64_b ?_
      exact fun hg => retN rfl (hR _ (Option.some.inj hg).symm) (fzL_cons (fz_sc _ _) (fzL_cons (fz_sc _ _) fzL_nil))
theorem sg30 {n : Nat} {a0 : List TSequenceArrival} {a1 : List Int} {t : ρ30} (h : g30 n a0 a1 = some t) : Says Try.prog KK.gl 30 [(lstA TSequenceArrival.E a0), (lstA intE a1)] ((AV.tup [(intA t.1), (intA t.2)])) :=
  says_of_own (by first | rfl | simp [cleans, clean, encs_clean, En.cln]) (by first | rfl | simp [cleans, clean, encs_clean, En.cln]) (F30_own (lstA TSequenceArrival.E a0) (lstA intE a1) _ (g30_ok n a0 a1 (Ans ((AV.tup [(intA t.1), (intA t.2)]))) (fun r e u m h => by rw [e]; exact h) h))
/- skyway/sequence.Times -/
theorem g32_ok (n : Nat) (a0 : List TSequenceArrival) (a1 : List Int) (a2 : TWakeTable) {t : ρ32} (R : AV → Mem → Prop) (hR : ∀ r : ρ32, t = r → ∀ u m, Ans ((AV.tup [(lstA intE r.1), (intA r.2)])) u m → R u m) : g32 n a0 a1 a2 = some t → F32 (lstA TSequenceArrival.E a0) (lstA intE a1) a2.c0_0 a2.c0_1 a2.c0_2 a2.c0_3 a2.c1_0 a2.c1_1 a2.c1_2 a2.c1_3 a2.c2_0 a2.c2_1 a2.c2_2 a2.c2_3 a2.c3_0 a2.c3_1 a2.c3_2 a2.c3_3 R := by
  unfold g32 F32
  refine bind_b fun x80 h80 => ?_
  refine imp (callQ_says (sg50 h80)) ?_
  refine imp ex_i64_b ?_
  refine cond_b (fun _ => ?_) (fun _ => ?_)
  · exact fun hg => retN rfl (hR _ (Option.some.inj hg).symm) (fzL_cons (fz_nils (E := intE) _) (fzL_cons (fz_sc _ _) fzL_nil))
  · refine bind_b fun x81 h81 => ?_
    refine imp (callQ_says (sg36 h81)) ?_
    refine imp ex_i64_b ?_
    refine cond_b (fun _ => ?_) (fun _ => ?_)
    · exact fun hg => retN rfl (hR _ (Option.some.inj hg).symm) (fzL_cons (fz_nils (E := intE) _) (fzL_cons (fz_sc _ _) fzL_nil))
    · refine imp (opP_of (show _ = some ((intA (a0.length : Int)), []) from rfl)) ?_
      refine imp ex_i64_b ?_
      refine bind_b fun x82 h82 => ?_
      refine imp (callQ_says (sg55 h82)) ?_
      refine imp exB_b ?_
      refine cond_b (fun _ => ?_) (fun _ => ?_)
      · exact fun hg => retN rfl (hR _ (Option.some.inj hg).symm) (fzL_cons (fz_nils (E := intE) _) (fzL_cons (fz_sc _ _) fzL_nil))
      · refine bind_b fun x83 h83 => ?_
        refine imp (callQ_says (sg53 h83)) ?_
        refine imp exT2_b ?_
        refine imp exB_b ?_
        refine cond_b (fun _ => ?_) (fun _ => ?_)
        · exact fun hg => retN rfl (hR _ (Option.some.inj hg).symm) (fzL_cons (fz_nils (E := intE) _) (fzL_cons (fz_sc _ _) fzL_nil))
        · exact fun hg => retN rfl (hR _ (Option.some.inj hg).symm) (fzL_cons (fz_lst (E := intE) _ _ false) (fzL_cons (fz_sc _ _) fzL_nil))
theorem sg32 {n : Nat} {a0 : List TSequenceArrival} {a1 : List Int} {a2 : TWakeTable} {t : ρ32} (h : g32 n a0 a1 a2 = some t) : Says Try.prog KK.gl 32 [(lstA TSequenceArrival.E a0), (lstA intE a1), (AV.agg [(intA a2.c0_0), (intA a2.c0_1), (intA a2.c0_2), (intA a2.c0_3), (intA a2.c1_0), (intA a2.c1_1), (intA a2.c1_2), (intA a2.c1_3), (intA a2.c2_0), (intA a2.c2_1), (intA a2.c2_2), (intA a2.c2_3), (intA a2.c3_0), (intA a2.c3_1), (intA a2.c3_2), (intA a2.c3_3)])] ((AV.tup [(lstA intE t.1), (intA t.2)])) :=
  says_of_own (by first | rfl | simp [cleans, clean, encs_clean, En.cln]) (by first | rfl | simp [cleans, clean, encs_clean, En.cln]) (F32_own (lstA TSequenceArrival.E a0) (lstA intE a1) a2.c0_0 a2.c0_1 a2.c0_2 a2.c0_3 a2.c1_0 a2.c1_1 a2.c1_2 a2.c1_3 a2.c2_0 a2.c2_1 a2.c2_2 a2.c2_3 a2.c3_0 a2.c3_1 a2.c3_2 a2.c3_3 _ (g32_ok n a0 a1 a2 (Ans ((AV.tup [(lstA intE t.1), (intA t.2)]))) (fun r e u m h => by rw [e]; exact h) h))
end Go.Proofs.Ytfmodgffhbljoaa
