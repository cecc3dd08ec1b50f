/- Plain functional programs out of the program's functions, with proofs that the functions compute them; printed by wip/Ext.lean.txt. -/
import Derived.Test.YteaimbiojpjneaaGreatDoorX1E2
set_option linter.unusedVariables false
set_option linter.unusedSimpArgs false
set_option maxRecDepth 100000
set_option maxHeartbeats 4000000
namespace Go.Proofs.YteaimbiojpjneaaGreatDoor
/- math.Sin -/
theorem g120_ok (n : Nat) (a0 : Nat) {t : ρ120} (R : AV → Mem → Prop) (hR : ∀ r : ρ120, t = r → ∀ u m, Ans ((fltA r)) u m → R u m) : g120 n a0 = some t → F120 a0 R := by
  unfold g120 F120
  refine bind_b fun x626 h626 => ?_
  refine imp (callQ_says (sg130 h626)) ?_
  refine imp exF_b ?_
  exact fun hg => ret1 (hR _ (Option.some.inj hg).symm) (fz_sc _ _)
theorem sg120 {n : Nat} {a0 : Nat} {t : ρ120} (h : g120 n a0 = some t) : Says pg KK.gl 120 [(fltA a0)] ((fltA t)) :=
  says_of_own (by first | rfl | simp [cleans, clean, encs_clean, En.cln]) (by first | rfl | simp [cleans, clean, encs_clean, En.cln]) (F120_own a0 _ (g120_ok n a0 (Ans ((fltA t))) (fun r e u m h => by rw [e]; exact h) h))
/- math.Round -/
theorem g119_ok (n : Nat) (a0 : Nat) {t : ρ119} (R : AV → Mem → Prop) (hR : ∀ r : ρ119, t = r → ∀ u m, Ans ((fltA r)) u m → R u m) : g119 n a0 = some t → F119 a0 R := by
  unfold g119 F119
  refine imp (callQ_ext (ext_bits _)) ?_
  refine imp ex_u64_b ?_
  refine bind_b fun x629 h629 => ?_
  refine iq (AV.sc (.int .u64 x629)) (opA_shr h629) ?_
  refine imp ex_u64_b ?_
  refine iq (AV.sc (.int .u64 (bAnd .u64 x629 (2047)))) (opA_band _ _) ?_
  refine imp ex_u64_b ?_
  refine cond_b (fun _ => ?_) (fun _ => ?_)
  · refine iq (AV.sc (.int .u64 (bAnd .u64 (a0 : Int) (9223372036854775808)))) (opA_band _ _) ?_
    refine imp ex_u64_b ?_
    refine cond_b (fun _ => ?_) (fun _ => ?_)
    · refine iq (AV.sc (.int .u64 (bOr .u64 (bAnd .u64 (a0 : Int) (9223372036854775808)) (4607182418800017408)))) (opA_bor _ _) ?_
      refine imp ex_u64_b ?_
      refine imp (callQ_ext (ext_frombits _)) ?_
      refine imp exF_b ?_
      exact fun hg => ret1 (hR _ (Option.some.inj hg).symm) (fz_sc _ _)
    · refine imp (callQ_ext (ext_frombits _)) ?_
      refine imp exF_b ?_
      exact fun hg => ret1 (hR _ (Option.some.inj hg).symm) (fz_sc _ _)
  · refine cond_b (fun _ => ?_) (fun _ => ?_)
    · refine bind_b fun x630 h630 => ?_
      refine iq (AV.sc (.int .u64 x630)) (opA_shr h630) ?_
      refine imp ex_u64_b ?_
      refine bind_b fun x631 h631 => ?_
      refine iq (AV.sc (.int .u64 x631)) (opA_shr h631) ?_
      refine imp ex_u64_b ?_
      refine iq (AV.sc (.int .u64 (bAndNot .u64 (IntKind.wrap .u64 ((a0 : Int) + x630)) x631))) (opA_bandNot _ _) ?_
      refine imp ex_u64_b ?_
      refine imp (callQ_ext (ext_frombits _)) ?_
      refine imp exF_b ?_
      exact fun hg => ret1 (hR _ (Option.some.inj hg).symm) (fz_sc _ _)
    · refine imp (callQ_ext (ext_frombits _)) ?_
      refine imp exF_b ?_
      exact fun hg => ret1 (hR _ (Option.some.inj hg).symm) (fz_sc _ _)
theorem sg119 {n : Nat} {a0 : Nat} {t : ρ119} (h : g119 n a0 = some t) : Says pg KK.gl 119 [(fltA a0)] ((fltA t)) :=
  says_of_own (by first | rfl | simp [cleans, clean, encs_clean, En.cln]) (by first | rfl | simp [cleans, clean, encs_clean, En.cln]) (F119_own a0 _ (g119_ok n a0 (Ans ((fltA t))) (fun r e u m h => by rw [e]; exact h) h))
/- skyway/angle.Sin -/
theorem g101_ok (n : Nat) (a0 : Int) {t : ρ101} (R : AV → Mem → Prop) (hR : ∀ r : ρ101, t = r → ∀ u m, Ans ((intA r)) u m → R u m) : g101 n a0 = some t → F101 a0 R := by
  unfold g101 F101
  refine bind_b fun x59 h59 => ?_
  refine imp (callQ_says (sg29 h59)) ?_
  refine imp ex_i64_b ?_
  refine iq (fltA (i2f x59)) (opA_i2f (by kernel_rfl) (by kernel_rfl)) ?_
  refine imp exF_b ?_
  refine fmul_s fun x60 => ?_
  refine fquo_s fun x61 => ?_
  refine bind_b fun x627 h627 => ?_
  refine imp (callQ_says (sg120 h627)) ?_
  refine imp exF_b ?_
  refine fmul_s fun x628 => ?_
  refine bind_b fun x632 h632 => ?_
  refine imp (callQ_says (sg119 h632)) ?_
  refine imp exF_b ?_
  refine bind_b fun x633 h633 => ?_
  refine iq (intA x633) (opA_f2i (by kernel_rfl) (by kernel_rfl) h633) ?_
  refine imp ex_i64_b ?_
  exact fun hg => ret1 (hR _ (Option.some.inj hg).symm) (fz_sc _ _)
theorem sg101 {n : Nat} {a0 : Int} {t : ρ101} (h : g101 n a0 = some t) : Says pg KK.gl 101 [(intA a0)] ((intA t)) :=
  says_of_own (by first | rfl | simp [cleans, clean, encs_clean, En.cln]) (by first | rfl | simp [cleans, clean, encs_clean, En.cln]) (F101_own a0 _ (g101_ok n a0 (Ans ((intA t))) (fun r e u m h => by rw [e]; exact h) h))
/- skyway/angle.Cos -/
theorem g102_ok (n : Nat) (a0 : Int) {t : ρ102} (R : AV → Mem → Prop) (hR : ∀ r : ρ102, t = r → ∀ u m, Ans ((intA r)) u m → R u m) : g102 n a0 = some t → F102 a0 R := by
  unfold g102 F102
  refine bind_b fun x634 h634 => ?_
  refine imp (callQ_says (sg29 h634)) ?_
  refine imp ex_i64_b ?_
  refine bind_b fun x635 h635 => ?_
  refine imp (callQ_says (sg101 h635)) ?_
  refine imp ex_i64_b ?_
  exact fun hg => ret1 (hR _ (Option.some.inj hg).symm) (fz_sc _ _)
theorem sg102 {n : Nat} {a0 : Int} {t : ρ102} (h : g102 n a0 = some t) : Says pg KK.gl 102 [(intA a0)] ((intA t)) :=
  says_of_own (by first | rfl | simp [cleans, clean, encs_clean, En.cln]) (by first | rfl | simp [cleans, clean, encs_clean, En.cln]) (F102_own a0 _ (g102_ok n a0 (Ans ((intA t))) (fun r e u m h => by rw [e]; exact h) h))
/- math.Signbit -/
theorem g116_ok (n : Nat) (a0 : Nat) {t : ρ116} (R : AV → Mem → Prop) (hR : ∀ r : ρ116, t = r → ∀ u m, Ans ((boolA r)) u m → R u m) : g116 n a0 = some t → F116 a0 R := by
  unfold g116 F116
  refine imp (callQ_ext (ext_bits _)) ?_
  refine imp ex_u64_b ?_
  refine iq (intA (IntKind.wrap .i64 (a0 : Int))) (by kernel_rfl) ?_
  refine imp ex_i64_b ?_
  exact fun hg => ret1 (hR _ (Option.some.inj hg).symm) (fz_sc _ _)
theorem sg116 {n : Nat} {a0 : Nat} {t : ρ116} (h : g116 n a0 = some t) : Says pg KK.gl 116 [(fltA a0)] ((boolA t)) :=
  says_of_own (by first | rfl | simp [cleans, clean, encs_clean, En.cln]) (by first | rfl | simp [cleans, clean, encs_clean, En.cln]) (F116_own a0 _ (g116_ok n a0 (Ans ((boolA t))) (fun r e u m h => by rw [e]; exact h) h))
/- math.Copysign -/
theorem g117_ok (n : Nat) (a0 : Nat) (a1 : Nat) {t : ρ117} (R : AV → Mem → Prop) (hR : ∀ r : ρ117, t = r → ∀ u m, Ans ((fltA r)) u m → R u m) : g117 n a0 a1 = some t → F117 a0 a1 R := by
  unfold g117 F117
  refine imp (callQ_ext (ext_bits _)) ?_
  refine imp ex_u64_b ?_
  refine iq (AV.sc (.int .u64 (bAndNot .u64 (a0 : Int) (9223372036854775808)))) (opA_bandNot _ _) ?_
  refine imp ex_u64_b ?_
  refine imp (callQ_ext (ext_bits _)) ?_
  refine imp ex_u64_b ?_
  refine iq (AV.sc (.int .u64 (bAnd .u64 (a1 : Int) (9223372036854775808)))) (opA_band _ _) ?_
  refine imp ex_u64_b ?_
  refine iq (AV.sc (.int .u64 (bOr .u64 (bAndNot .u64 (a0 : Int) (9223372036854775808)) (bAnd .u64 (a1 : Int) (9223372036854775808))))) (opA_bor _ _) ?_
  refine imp ex_u64_b ?_
  refine imp (callQ_ext (ext_frombits _)) ?_
  refine imp exF_b ?_
  exact fun hg => ret1 (hR _ (Option.some.inj hg).symm) (fz_sc _ _)
theorem sg117 {n : Nat} {a0 : Nat} {a1 : Nat} {t : ρ117} (h : g117 n a0 a1 = some t) : Says pg KK.gl 117 [(fltA a0), (fltA a1)] ((fltA t)) :=
  says_of_own (by first | rfl | simp [cleans, clean, encs_clean, En.cln]) (by first | rfl | simp [cleans, clean, encs_clean, En.cln]) (F117_own a0 a1 _ (g117_ok n a0 a1 (Ans ((fltA t))) (fun r e u m h => by rw [e]; exact h) h))
/- math.xatan -/
theorem g136_ok (n : Nat) (a0 : Nat) {t : ρ136} (R : AV → Mem → Prop) (hR : ∀ r : ρ136, t = r → ∀ u m, Ans ((fltA r)) u m → R u m) : g136 n a0 = some t → F136 a0 R := by
  unfold g136 F136
  refine fmul_s fun x656 => ?_
  refine fmul_s fun x657 => ?_
  refine fadd_s fun x658 => ?_
  refine fmul_s fun x659 => ?_
  refine fadd_s fun x660 => ?_
  refine fmul_s fun x661 => ?_
  refine fadd_s fun x662 => ?_
  refine fmul_s fun x663 => ?_
  refine fadd_s fun x664 => ?_
  refine fmul_s fun x665 => ?_
  refine fadd_s fun x666 => ?_
  refine fmul_s fun x667 => ?_
  refine fadd_s fun x668 => ?_
  refine fmul_s fun x669 => ?_
  refine fadd_s fun x670 => ?_
  refine fmul_s fun x671 => ?_
  refine fadd_s fun x672 => ?_
  refine fmul_s fun x673 => ?_
  refine fadd_s fun x674 => ?_
  refine fquo_s fun x675 => ?_
  refine fmul_s fun x676 => ?_
  refine fadd_s fun x677 => ?_
  exact fun hg => ret1 (hR _ (Option.some.inj hg).symm) (fz_sc _ _)
theorem sg136 {n : Nat} {a0 : Nat} {t : ρ136} (h : g136 n a0 = some t) : Says pg KK.gl 136 [(fltA a0)] ((fltA t)) :=
  says_of_own (by first | rfl | simp [cleans, clean, encs_clean, En.cln]) (by first | rfl | simp [cleans, clean, encs_clean, En.cln]) (F136_own a0 _ (g136_ok n a0 (Ans ((fltA t))) (fun r e u m h => by rw [e]; exact h) h))
/- math.satan -/
theorem g134_ok (n : Nat) (a0 : Nat) {t : ρ134} (R : AV → Mem → Prop) (hR : ∀ r : ρ134, t = r → ∀ u m, Ans ((fltA r)) u m → R u m) : g134 n a0 = some t → F134 a0 R := by
  unfold g134 F134
  refine fleq_s ?_
  refine cond_b (fun _ => ?_) (fun _ => ?_)
  · refine bind_b fun x678 h678 => ?_
    refine imp (callQ_says (sg136 h678)) ?_
    refine imp exF_b ?_
    exact fun hg => ret1 (hR _ (Option.some.inj hg).symm) (fz_sc _ _)
  · refine fgtr_s ?_
    refine cond_b (fun _ => ?_) (fun _ => ?_)
    · refine fquo_s fun x679 => ?_
      refine bind_b fun x680 h680 => ?_
      refine imp (callQ_says (sg136 h680)) ?_
      refine imp exF_b ?_
      refine fsub_s fun x681 => ?_
      refine fadd_s fun x682 => ?_
      exact fun hg => ret1 (hR _ (Option.some.inj hg).symm) (fz_sc _ _)
    · refine fsub_s fun x683 => ?_
      refine fadd_s fun x684 => ?_
      refine fquo_s fun x685 => ?_
      refine bind_b fun x686 h686 => ?_
      refine imp (callQ_says (sg136 h686)) ?_
      refine imp exF_b ?_
      refine fadd_s fun x687 => ?_
      refine fadd_s fun x688 => ?_
      exact fun hg => ret1 (hR _ (Option.some.inj hg).symm) (fz_sc _ _)
theorem sg134 {n : Nat} {a0 : Nat} {t : ρ134} (h : g134 n a0 = some t) : Says pg KK.gl 134 [(fltA a0)] ((fltA t)) :=
  says_of_own (by first | rfl | simp [cleans, clean, encs_clean, En.cln]) (by first | rfl | simp [cleans, clean, encs_clean, En.cln]) (F134_own a0 _ (g134_ok n a0 (Ans ((fltA t))) (fun r e u m h => by rw [e]; exact h) h))
/- math.atan -/
theorem g128_ok (n : Nat) (a0 : Nat) {t : ρ128} (R : AV → Mem → Prop) (hR : ∀ r : ρ128, t = r → ∀ u m, Ans ((fltA r)) u m → R u m) : g128 n a0 = some t → F128 a0 R := by
  unfold g128 F128
  refine feql_s ?_
  refine cond_b (fun _ => ?_) (fun _ => ?_)
  · exact fun hg => ret1 (hR _ (Option.some.inj hg).symm) (fz_sc _ _)
  · refine fgtr_s ?_
    refine cond_b (fun _ => ?_) (fun _ => ?_)
    · refine bind_b fun x689 h689 => ?_
      refine imp (callQ_says (sg134 h689)) ?_
      refine imp exF_b ?_
      exact fun hg => ret1 (hR _ (Option.some.inj hg).symm) (fz_sc _ _)
    · refine fneg_s ?_
      refine bind_b fun x690 h690 => ?_
      refine imp (callQ_says (sg134 h690)) ?_
      refine imp exF_b ?_
      refine fneg_s ?_
      exact fun hg => ret1 (hR _ (Option.some.inj hg).symm) (fz_sc _ _)
theorem sg128 {n : Nat} {a0 : Nat} {t : ρ128} (h : g128 n a0 = some t) : Says pg KK.gl 128 [(fltA a0)] ((fltA t)) :=
  says_of_own (by first | rfl | simp [cleans, clean, encs_clean, En.cln]) (by first | rfl | simp [cleans, clean, encs_clean, En.cln]) (F128_own a0 _ (g128_ok n a0 (Ans ((fltA t))) (fun r e u m h => by rw [e]; exact h) h))
/- math.Atan -/
theorem g118_ok (n : Nat) (a0 : Nat) {t : ρ118} (R : AV → Mem → Prop) (hR : ∀ r : ρ118, t = r → ∀ u m, Ans ((fltA r)) u m → R u m) : g118 n a0 = some t → F118 a0 R := by
  unfold g118 F118
  refine bind_b fun x691 h691 => ?_
  refine imp (callQ_says (sg128 h691)) ?_
  refine imp exF_b ?_
  exact fun hg => ret1 (hR _ (Option.some.inj hg).symm) (fz_sc _ _)
theorem sg118 {n : Nat} {a0 : Nat} {t : ρ118} (h : g118 n a0 = some t) : Says pg KK.gl 118 [(fltA a0)] ((fltA t)) :=
  says_of_own (by first | rfl | simp [cleans, clean, encs_clean, En.cln]) (by first | rfl | simp [cleans, clean, encs_clean, En.cln]) (F118_own a0 _ (g118_ok n a0 (Ans ((fltA t))) (fun r e u m h => by rw [e]; exact h) h))
/- math.atan2 -/
theorem g100_ok (n : Nat) (a0 : Nat) (a1 : Nat) {t : ρ100} (R : AV → Mem → Prop) (hR : ∀ r : ρ100, t = r → ∀ u m, Ans ((fltA r)) u m → R u m) : g100 n a0 a1 = some t → F100 a0 a1 R := by
  unfold g100 F100
  refine bind_b fun x636 h636 => ?_
  refine imp (callQ_says (sg112 h636)) ?_
  refine imp exB_b ?_
  refine cond_b (fun _ => ?_) (fun _ => ?_)
  · refine bind_b fun x637 h637 => ?_
    refine imp (callQ_says (sg115 h637)) ?_
    refine imp exF_b ?_
    exact fun hg => ret1 (hR _ (Option.some.inj hg).symm) (fz_sc _ _)
  · refine bind_b fun x638 h638 => ?_
    refine imp (callQ_says (sg112 h638)) ?_
    refine imp exB_b ?_
    refine cond_b (fun _ => ?_) (fun _ => ?_)
    · refine bind_b fun x639 h639 => ?_
      refine imp (callQ_says (sg115 h639)) ?_
      refine imp exF_b ?_
      exact fun hg => ret1 (hR _ (Option.some.inj hg).symm) (fz_sc _ _)
    · refine feql_s ?_
      refine cond_b (fun _ => ?_) (fun _ => ?_)
      · refine fgeq_s ?_
        refine cond_b (fun _ => ?_) (fun _ => ?_)
        · refine bind_b fun x640 h640 => ?_
          refine imp (callQ_says (sg116 h640)) ?_
          refine imp exB_b ?_
          refine cond_b (fun _ => ?_) (fun _ => ?_)
          · refine bind_b fun x641 h641 => ?_
            refine imp (callQ_says (sg117 h641)) ?_
            refine imp exF_b ?_
            exact fun hg => ret1 (hR _ (Option.some.inj hg).symm) (fz_sc _ _)
          · refine bind_b fun x642 h642 => ?_
            refine imp (callQ_says (sg117 h642)) ?_
            refine imp exF_b ?_
            exact fun hg => ret1 (hR _ (Option.some.inj hg).symm) (fz_sc _ _)
        · refine bind_b fun x643 h643 => ?_
          refine imp (callQ_says (sg117 h643)) ?_
          refine imp exF_b ?_
          exact fun hg => ret1 (hR _ (Option.some.inj hg).symm) (fz_sc _ _)
      · refine feql_s ?_
        refine cond_b (fun _ => ?_) (fun _ => ?_)
        · refine bind_b fun x644 h644 => ?_
          refine imp (callQ_says (sg117 h644)) ?_
          refine imp exF_b ?_
          exact fun hg => ret1 (hR _ (Option.some.inj hg).symm) (fz_sc _ _)
        · refine bind_b fun x645 h645 => ?_
          refine imp (callQ_says (sg113 h645)) ?_
          refine imp exB_b ?_
          refine cond_b (fun _ => ?_) (fun _ => ?_)
          · refine bind_b fun x646 h646 => ?_
            refine imp (callQ_says (sg113 h646)) ?_
            refine imp exB_b ?_
            refine cond_b (fun _ => ?_) (fun _ => ?_)
            · refine bind_b fun x647 h647 => ?_
              refine imp (callQ_says (sg113 h647)) ?_
              refine imp exB_b ?_
              refine cond_b (fun _ => ?_) (fun _ => ?_)
              · refine bind_b fun x648 h648 => ?_
                refine imp (callQ_says (sg117 h648)) ?_
                refine imp exF_b ?_
                exact fun hg => ret1 (hR _ (Option.some.inj hg).symm) (fz_sc _ _)
              · refine bind_b fun x649 h649 => ?_
                refine imp (callQ_says (sg117 h649)) ?_
                refine imp exF_b ?_
                exact fun hg => ret1 (hR _ (Option.some.inj hg).symm) (fz_sc _ _)
            · refine bind_b fun x650 h650 => ?_
              refine imp (callQ_says (sg113 h650)) ?_
              refine imp exB_b ?_
              refine cond_b (fun _ => ?_) (fun _ => ?_)
              · refine bind_b fun x651 h651 => ?_
                refine imp (callQ_says (sg117 h651)) ?_
                refine imp exF_b ?_
                exact fun hg => ret1 (hR _ (Option.some.inj hg).symm) (fz_sc _ _)
              · refine bind_b fun x652 h652 => ?_
                refine imp (callQ_says (sg117 h652)) ?_
                refine imp exF_b ?_
                exact fun hg => ret1 (hR _ (Option.some.inj hg).symm) (fz_sc _ _)
          · refine bind_b fun x653 h653 => ?_
            refine imp (callQ_says (sg113 h653)) ?_
            refine imp exB_b ?_
            refine cond_b (fun _ => ?_) (fun _ => ?_)
            · refine bind_b fun x654 h654 => ?_
              refine imp (callQ_says (sg117 h654)) ?_
              refine imp exF_b ?_
              exact fun hg => ret1 (hR _ (Option.some.inj hg).symm) (fz_sc _ _)
            · refine fquo_s fun x655 => ?_
              refine bind_b fun x692 h692 => ?_
              refine imp (callQ_says (sg118 h692)) ?_
              refine imp exF_b ?_
              refine flss_s ?_
              refine cond_b (fun _ => ?_) (fun _ => ?_)
              · refine fleq_s ?_
                refine cond_b (fun _ => ?_) (fun _ => ?_)
                · refine fadd_s fun x693 => ?_
                  exact fun hg => ret1 (hR _ (Option.some.inj hg).symm) (fz_sc _ _)
                · refine fsub_s fun x694 => ?_
                  exact fun hg => ret1 (hR _ (Option.some.inj hg).symm) (fz_sc _ _)
              · exact fun hg => ret1 (hR _ (Option.some.inj hg).symm) (fz_sc _ _)
theorem sg100 {n : Nat} {a0 : Nat} {a1 : Nat} {t : ρ100} (h : g100 n a0 a1 = some t) : Says pg KK.gl 100 [(fltA a0), (fltA a1)] ((fltA t)) :=
  says_of_own (by first | rfl | simp [cleans, clean, encs_clean, En.cln]) (by first | rfl | simp [cleans, clean, encs_clean, En.cln]) (F100_own a0 a1 _ (g100_ok n a0 a1 (Ans ((fltA t))) (fun r e u m h => by rw [e]; exact h) h))
/- math.Atan2 -/
theorem g74_ok (n : Nat) (a0 : Nat) (a1 : Nat) {t : ρ74} (R : AV → Mem → Prop) (hR : ∀ r : ρ74, t = r → ∀ u m, Ans ((fltA r)) u m → R u m) : g74 n a0 a1 = some t → F74 a0 a1 R := by
  unfold g74 F74
  refine bind_b fun x695 h695 => ?_
  refine imp (callQ_says (sg100 h695)) ?_
  refine imp exF_b ?_
  exact fun hg => ret1 (hR _ (Option.some.inj hg).symm) (fz_sc _ _)
theorem sg74 {n : Nat} {a0 : Nat} {a1 : Nat} {t : ρ74} (h : g74 n a0 a1 = some t) : Says pg KK.gl 74 [(fltA a0), (fltA a1)] ((fltA t)) :=
  says_of_own (by first | rfl | simp [cleans, clean, encs_clean, En.cln]) (by first | rfl | simp [cleans, clean, encs_clean, En.cln]) (F74_own a0 a1 _ (g74_ok n a0 a1 (Ans ((fltA t))) (fun r e u m h => by rw [e]; exact h) h))
/- math.Floor -/
theorem g73_ok (n : Nat) (a0 : Nat) {t : ρ73} (R : AV → Mem → Prop) (hR : ∀ r : ρ73, t = r → ∀ u m, Ans ((fltA r)) u m → R u m) : g73 n a0 = some t → F73 a0 R := by
  unfold g73 F73
  refine bind_b fun x699 h699 => ?_
  refine imp (callQ_ext (ext_floor h699)) ?_
  refine imp exF_b ?_
  exact fun hg => ret1 (hR _ (Option.some.inj hg).symm) (fz_sc _ _)
theorem sg73 {n : Nat} {a0 : Nat} {t : ρ73} (h : g73 n a0 = some t) : Says pg KK.gl 73 [(fltA a0)] ((fltA t)) :=
  says_of_own (by first | rfl | simp [cleans, clean, encs_clean, En.cln]) (by first | rfl | simp [cleans, clean, encs_clean, En.cln]) (F73_own a0 _ (g73_ok n a0 (Ans ((fltA t))) (fun r e u m h => by rw [e]; exact h) h))
/- skyway/angle.unit -/
theorem g75_ok (n : Nat) (a0 : Int) {t : ρ75} (R : AV → Mem → Prop) (hR : ∀ r : ρ75, t = r → ∀ u m, Ans ((AV.agg (TP.E.enc r))) u m → R u m) : g75 n a0 = some t → F75 a0 R := by
  unfold g75 F75
  refine bind_b fun x704 h704 => ?_
  refine imp (callQ_says (sg101 h704)) ?_
  refine imp ex_i64_b ?_
  refine bind_b fun x705 h705 => ?_
  refine imp (callQ_says (sg102 h705)) ?_
  refine imp ex_i64_b ?_
  refine iq (AV.agg [(intA x704), (intA x705)]) rfl ?_
  refine imp (storeW_cells (sz := 2) (by kernel_rfl) (by kernel_rfl) rfl rfl (cs := [(intA (0)), (intA (0))]) (cs' := [(intA x704), (intA x705)]) (ty := 45) (by first | rfl | (simp (disch := first | decide | assumption) only [mpushs_nil, mpushs_cons, mget_hd, mget_tl, mget_appW_o, mget_appW_n, mget_appW_e])) rfl rfl) ?_
  exact fun hg => ret1 (hR _ (Option.some.inj hg).symm) (fz_el (E := TP.E) _ (⟨x704, x705⟩ : TP))
theorem sg75 {n : Nat} {a0 : Int} {t : ρ75} (h : g75 n a0 = some t) : Says pg KK.gl 75 [(intA a0)] ((AV.agg (TP.E.enc t))) :=
  says_of_own (by first | rfl | simp [cleans, clean, encs_clean, En.cln]) (by first | rfl | simp [cleans, clean, encs_clean, En.cln]) (F75_own a0 _ (g75_ok n a0 (Ans ((AV.agg (TP.E.enc t)))) (fun r e u m h => by rw [e]; exact h) h))
/- skyway/angle.cross -/
theorem g76_ok (n : Nat) (a0 : TP) (a1 : TP) {t : ρ76} (R : AV → Mem → Prop) (hR : ∀ r : ρ76, t = r → ∀ u m, Ans ((intA r)) u m → R u m) : g76 n a0 a1 = some t → F76 a0.X a0.Y a1.X a1.Y R := by
  unfold g76 F76
  exact fun hg => ret1 (hR _ (Option.some.inj hg).symm) (fz_sc _ _)
theorem sg76 {n : Nat} {a0 : TP} {a1 : TP} {t : ρ76} (h : g76 n a0 a1 = some t) : Says pg KK.gl 76 [(AV.agg [(intA a0.X), (intA a0.Y)]), (AV.agg [(intA a1.X), (intA a1.Y)])] ((intA t)) :=
  says_of_own (by first | rfl | simp [cleans, clean, encs_clean, En.cln]) (by first | rfl | simp [cleans, clean, encs_clean, En.cln]) (F76_own a0.X a0.Y a1.X a1.Y _ (g76_ok n a0 a1 (Ans ((intA t))) (fun r e u m h => by rw [e]; exact h) h))
/- skyway/angle.Of -/
theorem B54_0_ok (n : Nat) (c2 : Int) (x701 : Int) (k0_0 : Int) (k0_1 : Int) (v50 : Int) {t : (Int) ⊕ ρ54} (R : AV → Mem → Prop) (N0 : St → Prop) (hR : ∀ r : ρ54, t = (.inr r) → ∀ u m, Ans ((AV.tup [(intA r.1), (intA r.2)])) u m → R u m) (hN0 : ∀ y : Int, t = (.inl y) → ∀ s' : St, Weak KK 103 0 s' (h54_0 c2 c2 x701 y k0_0 k0_1 []) → N0 s') : S54_0 n c2 x701 k0_0 k0_1 v50 = some t → B54_0 c2 c2 x701 v50 k0_0 k0_1 [] R N0 := by
  unfold S54_0 B54_0
  refine cond_b (fun _ => ?_) (fun _ => ?_)
  · refine bind_b fun x702 h702 => ?_
    refine imp (callQ_says (sg29 h702)) ?_
    refine imp ex_i64_b ?_
    refine cond_b (fun _ => ?_) (fun _ => ?_)
    · refine bind_b fun x703 h703 => ?_
      refine imp (callQ_says (sg29 h703)) ?_
      refine imp ex_i64_b ?_
      refine bind_b fun x706 h706 => ?_
      refine imp (callQ_says (sg75 h706)) ?_
      refine imp exA2_b ?_
      iterate 2 refine imp ex_i64_b ?_
      refine bind_b fun x707 h707 => ?_
      refine imp (callQ_says (sg75 h707)) ?_
      refine imp exA2_b ?_
      iterate 2 refine imp ex_i64_b ?_
      refine bind_b fun x708 h708 => ?_
      refine imp (callQ_says (sg76 h708)) ?_
      refine imp ex_i64_b ?_
      refine bind_b fun x709 h709 => ?_
      refine imp (callQ_says (sg76 h709)) ?_
      refine imp ex_i64_b ?_
      refine cond_b (fun _ => ?_) (fun _ => ?_)
      · refine cond_b (fun _ => ?_) (fun _ => ?_)
        · refine cond_b (fun _ => ?_) (fun _ => ?_)
          · refine cond_b (fun _ => ?_) (fun _ => ?_)
            · exact fun hg => retN rfl (hR _ (Option.some.inj hg).symm) (fzL_cons (fz_sc _ _) (fzL_cons (fz_sc _ _) fzL_nil))
            · refine bind_b fun x710 h710 => ?_
              refine imp (callQ_says (sg29 h710)) ?_
              refine imp ex_i64_b ?_
              exact fun hg => retN rfl (hR _ (Option.some.inj hg).symm) (fzL_cons (fz_sc _ _) (fzL_cons (fz_sc _ _) fzL_nil))
          · exact fun hg => hN0 _ (Option.some.inj hg).symm _ (weak_mem [(0, 0)] rfl rfl rfl (okW_cons (.inl (leV_refl _)) (okW_cons (.inl (leV_refl _)) (okW_cons (.inl (leV_refl _)) (okW_cons (.inl (leV_refl _)) (okW_cons (.inl (leV_refl _)) okW_nil))))) (okB_cons (okB_cells (cs := [(intA k0_0), (intA k0_1)]) (ty := 45) rfl (show mget _ 0 = _ from (by first | rfl | (simp (disch := first | decide | assumption) only [mpushs_nil, mpushs_cons, mget_hd, mget_tl, mget_appW_o, mget_appW_n, mget_appW_e])))) okB_nil'))
        · exact fun hg => hN0 _ (Option.some.inj hg).symm _ (weak_mem [(0, 0)] rfl rfl rfl (okW_cons (.inl (leV_refl _)) (okW_cons (.inl (leV_refl _)) (okW_cons (.inl (leV_refl _)) (okW_cons (.inl (leV_refl _)) (okW_cons (.inl (leV_refl _)) okW_nil))))) (okB_cons (okB_cells (cs := [(intA k0_0), (intA k0_1)]) (ty := 45) rfl (show mget _ 0 = _ from (by first | rfl | (simp (disch := first | decide | assumption) only [mpushs_nil, mpushs_cons, mget_hd, mget_tl, mget_appW_o, mget_appW_n, mget_appW_e])))) okB_nil'))
      · exact fun hg => hN0 _ (Option.some.inj hg).symm _ (weak_mem [(0, 0)] rfl rfl rfl (okW_cons (.inl (leV_refl _)) (okW_cons (.inl (leV_refl _)) (okW_cons (.inl (leV_refl _)) (okW_cons (.inl (leV_refl _)) (okW_cons (.inl (leV_refl _)) okW_nil))))) (okB_cons (okB_cells (cs := [(intA k0_0), (intA k0_1)]) (ty := 45) rfl (show mget _ 0 = _ from (by first | rfl | (simp (disch := first | decide | assumption) only [mpushs_nil, mpushs_cons, mget_hd, mget_tl, mget_appW_o, mget_appW_n, mget_appW_e])))) okB_nil'))
    · refine bind_b fun x711 h711 => ?_
      refine imp (callQ_says (sg75 h711)) ?_
      refine imp exA2_b ?_
      iterate 2 refine imp ex_i64_b ?_
      refine bind_b fun x712 h712 => ?_
      refine imp (callQ_says (sg75 h712)) ?_
      refine imp exA2_b ?_
      iterate 2 refine imp ex_i64_b ?_
      refine bind_b fun x713 h713 => ?_
      refine imp (callQ_says (sg76 h713)) ?_
      refine imp ex_i64_b ?_
      refine bind_b fun x714 h714 => ?_
      refine imp (callQ_says (sg76 h714)) ?_
      refine imp ex_i64_b ?_
      refine cond_b (fun _ => ?_) (fun _ => ?_)
      · refine cond_b (fun _ => ?_) (fun _ => ?_)
        · refine cond_b (fun _ => ?_) (fun _ => ?_)
          · refine cond_b (fun _ => ?_) (fun _ => ?_)
            · exact fun hg => retN rfl (hR _ (Option.some.inj hg).symm) (fzL_cons (fz_sc _ _) (fzL_cons (fz_sc _ _) fzL_nil))
            · refine bind_b fun x715 h715 => ?_
              refine imp (callQ_says (sg29 h715)) ?_
              refine imp ex_i64_b ?_
              exact fun hg => retN rfl (hR _ (Option.some.inj hg).symm) (fzL_cons (fz_sc _ _) (fzL_cons (fz_sc _ _) fzL_nil))
          · exact fun hg => hN0 _ (Option.some.inj hg).symm _ (weak_mem [(0, 0)] rfl rfl rfl (okW_cons (.inl (leV_refl _)) (okW_cons (.inl (leV_refl _)) (okW_cons (.inl (leV_refl _)) (okW_cons (.inl (leV_refl _)) (okW_cons (.inl (leV_refl _)) okW_nil))))) (okB_cons (okB_cells (cs := [(intA k0_0), (intA k0_1)]) (ty := 45) rfl (show mget _ 0 = _ from (by first | rfl | (simp (disch := first | decide | assumption) only [mpushs_nil, mpushs_cons, mget_hd, mget_tl, mget_appW_o, mget_appW_n, mget_appW_e])))) okB_nil'))
        · exact fun hg => hN0 _ (Option.some.inj hg).symm _ (weak_mem [(0, 0)] rfl rfl rfl (okW_cons (.inl (leV_refl _)) (okW_cons (.inl (leV_refl _)) (okW_cons (.inl (leV_refl _)) (okW_cons (.inl (leV_refl _)) (okW_cons (.inl (leV_refl _)) okW_nil))))) (okB_cons (okB_cells (cs := [(intA k0_0), (intA k0_1)]) (ty := 45) rfl (show mget _ 0 = _ from (by first | rfl | (simp (disch := first | decide | assumption) only [mpushs_nil, mpushs_cons, mget_hd, mget_tl, mget_appW_o, mget_appW_n, mget_appW_e])))) okB_nil'))
      · exact fun hg => hN0 _ (Option.some.inj hg).symm _ (weak_mem [(0, 0)] rfl rfl rfl (okW_cons (.inl (leV_refl _)) (okW_cons (.inl (leV_refl _)) (okW_cons (.inl (leV_refl _)) (okW_cons (.inl (leV_refl _)) (okW_cons (.inl (leV_refl _)) okW_nil))))) (okB_cons (okB_cells (cs := [(intA k0_0), (intA k0_1)]) (ty := 45) rfl (show mget _ 0 = _ from (by first | rfl | (simp (disch := first | decide | assumption) only [mpushs_nil, mpushs_cons, mget_hd, mget_tl, mget_appW_o, mget_appW_n, mget_appW_e])))) okB_nil'))
  · exact fun hg => retN rfl (hR _ (Option.some.inj hg).symm) (fzL_cons (fz_sc _ _) (fzL_cons (fz_sc _ _) fzL_nil))
theorem L54_0_ok (n : Nat) (c2 : Int) (x701 : Int) (k0_0 : Int) (k0_1 : Int) {t : ρ54} (R : AV → Mem → Prop) (hR : ∀ r : ρ54, t = r → ∀ u m, Ans ((AV.tup [(intA r.1), (intA r.2)])) u m → R u m) (k : Nat) (x : Int) (hx : iterO (fun y : Int => S54_0 n c2 x701 k0_0 k0_1 y) k x = some t) {s : St} (hw : Weak KK 103 0 s (h54_0 c2 c2 x701 x k0_0 k0_1 [])) : Tri pg KK 103 0 (.loop c54_0) s (q54_0 R ) :=
  L54_0 R  (σ := Nat × (Int)) (fun z => iterO (fun y : Int => S54_0 n c2 x701 k0_0 k0_1 y) z.1 z.2 = some t) (fun z => c2) (fun z => c2) (fun z => x701) (fun z => z.2) (fun z => k0_0) (fun z => k0_1) (fun z => []) (fun z => z.1) (by
    rintro ⟨k, y⟩ h
    cases k with
    | zero => exact (iterO_zero h).elim
    | succ k =>
      obtain ⟨u, h1, h2, h3⟩ := iterO_elim h
      exact B54_0_ok n c2 x701 k0_0 k0_1 y R  _ (fun r e => hR r (h3 _ e).symm)  (fun y' e s' hw => ⟨(k, y'), h2 _ e, Nat.lt_succ_self k, hw⟩) h1) (k, x) hx hw
theorem g54_ok (n : Nat) (a0 : TP) {t : ρ54} (R : AV → Mem → Prop) (hR : ∀ r : ρ54, t = r → ∀ u m, Ans ((AV.tup [(intA r.1), (intA r.2)])) u m → R u m) : g54 n a0 = some t → F54 a0.X a0.Y R := by
  unfold g54 F54
  refine cond_b (fun _ => ?_) (fun _ => ?_)
  · exact fun hg => retN rfl (hR _ (Option.some.inj hg).symm) (fzL_cons (fz_sc _ _) (fzL_cons (fz_sc _ _) fzL_nil))
  · refine cond_b (fun _ => ?_) (fun _ => ?_)
    · exact fun hg => retN rfl (hR _ (Option.some.inj hg).symm) (fzL_cons (fz_sc _ _) (fzL_cons (fz_sc _ _) fzL_nil))
    · refine cond_b (fun _ => ?_) (fun _ => ?_)
      · exact fun hg => retN rfl (hR _ (Option.some.inj hg).symm) (fzL_cons (fz_sc _ _) (fzL_cons (fz_sc _ _) fzL_nil))
      · refine cond_b (fun _ => ?_) (fun _ => ?_)
        · exact fun hg => retN rfl (hR _ (Option.some.inj hg).symm) (fzL_cons (fz_sc _ _) (fzL_cons (fz_sc _ _) fzL_nil))
        · refine cond_b (fun _ => ?_) (fun _ => ?_)
          · refine cond_b (fun _ => ?_) (fun _ => ?_)
            · exact fun hg => retN rfl (hR _ (Option.some.inj hg).symm) (fzL_cons (fz_sc _ _) (fzL_cons (fz_sc _ _) fzL_nil))
            · refine iq (fltA (i2f a0.X)) (opA_i2f (by kernel_rfl) (by kernel_rfl)) ?_
              refine imp exF_b ?_
              refine iq (fltA (i2f a0.Y)) (opA_i2f (by kernel_rfl) (by kernel_rfl)) ?_
              refine imp exF_b ?_
              refine bind_b fun x696 h696 => ?_
              refine imp (callQ_says (sg74 h696)) ?_
              refine imp exF_b ?_
              refine fmul_s fun x697 => ?_
              refine fquo_s fun x698 => ?_
              refine bind_b fun x700 h700 => ?_
              refine imp (callQ_says (sg73 h700)) ?_
              refine imp exF_b ?_
              refine bind_b fun x701 h701 => ?_
              refine iq (intA x701) (opA_f2i (by kernel_rfl) (by kernel_rfl) h701) ?_
              refine imp ex_i64_b ?_
              exact fun hg => L54_0_ok n (0) x701 a0.X a0.Y R  hR n _ hg (weak_mem [(0, 0)] rfl rfl rfl (okW_cons (.inl (leV_refl _)) (okW_cons (.inl (leV_refl _)) (okW_cons (.inl (leV_refl _)) (okW_cons (.inl (leV_refl _)) (okW_cons (.inl (leV_refl _)) okW_nil))))) (okB_cons (okB_cells (cs := [(intA a0.X), (intA a0.Y)]) (ty := 45) rfl (show mget _ 0 = _ from (by first | rfl | (simp (disch := first | decide | assumption) only [mpushs_nil, mpushs_cons, mget_hd, mget_tl, mget_appW_o, mget_appW_n, mget_appW_e])))) okB_nil'))
          · refine iq (fltA (i2f a0.X)) (opA_i2f (by kernel_rfl) (by kernel_rfl)) ?_
            refine imp exF_b ?_
            refine iq (fltA (i2f a0.Y)) (opA_i2f (by kernel_rfl) (by kernel_rfl)) ?_
            refine imp exF_b ?_
            refine bind_b fun x716 h716 => ?_
            refine imp (callQ_says (sg74 h716)) ?_
            refine imp exF_b ?_
            refine fmul_s fun x717 => ?_
            refine fquo_s fun x718 => ?_
            refine bind_b fun x719 h719 => ?_
            refine imp (callQ_says (sg73 h719)) ?_
            refine imp exF_b ?_
            refine bind_b fun x720 h720 => ?_
            refine iq (intA x720) (opA_f2i (by kernel_rfl) (by kernel_rfl) h720) ?_
            refine imp ex_i64_b ?_
            exact fun hg => L54_0_ok n (0) x720 a0.X a0.Y R  hR n _ hg (weak_mem [(0, 0)] rfl rfl rfl (okW_cons (.inl (leV_refl _)) (okW_cons (.inl (leV_refl _)) (okW_cons (.inl (leV_refl _)) (okW_cons (.inl (leV_refl _)) (okW_cons (.inl (leV_refl _)) okW_nil))))) (okB_cons (okB_cells (cs := [(intA a0.X), (intA a0.Y)]) (ty := 45) rfl (show mget _ 0 = _ from (by first | rfl | (simp (disch := first | decide | assumption) only [mpushs_nil, mpushs_cons, mget_hd, mget_tl, mget_appW_o, mget_appW_n, mget_appW_e])))) okB_nil'))
theorem sg54 {n : Nat} {a0 : TP} {t : ρ54} (h : g54 n a0 = some t) : Says pg KK.gl 54 [(AV.agg [(intA a0.X), (intA a0.Y)])] ((AV.tup [(intA t.1), (intA t.2)])) :=
  says_of_own (by first | rfl | simp [cleans, clean, encs_clean, En.cln]) (by first | rfl | simp [cleans, clean, encs_clean, En.cln]) (F54_own a0.X a0.Y _ (g54_ok n a0 (Ans ((AV.tup [(intA t.1), (intA t.2)]))) (fun r e u m h => by rw [e]; exact h) h))
/- skyway/chart.Name -/
theorem B51_0_ok (n : Nat) (c2 : Bool) (c14 : List UInt8) (c15 : Int) (v16 : Int) {t : (Int) ⊕ ρ51} (R : AV → Mem → Prop) (N0 : St → Prop) (hR : ∀ r : ρ51, t = (.inr r) → ∀ u m, Ans ((boolA r)) u m → R u m) (hN0 : ∀ y : Int, t = (.inl y) → ∀ s' : St, Weak KK 41 0 s' (h51_0 c2 (lstA byteE c14) c15 y []) → N0 s') : S51_0 n c2 c14 c15 v16 = some t → B51_0 c2 (lstA byteE c14) c15 v16 [] R N0 := by
  unfold S51_0 B51_0
  refine cond_b (fun _ => ?_) (fun _ => ?_)
  · refine bind_b fun x724 h724 => ?_
    refine iq (AV.ept [(AV.sc (.int .u8 (x724.toNat : Int)))] 0) (idx_lst (E := byteE) rfl h724) ?_
    refine iq (AV.sc (.int .u8 (x724.toNat : Int))) rfl ?_
    refine imp ex_u8_b ?_
    refine cond_b (fun _ => ?_) (fun _ => ?_)
    · refine cond_b (fun _ => ?_) (fun _ => ?_)
      · exact fun hg => hN0 _ (Option.some.inj hg).symm _ (weak_mem [] rfl rfl rfl (okW_cons (.inl (leV_refl _)) (okW_cons (ent_lst (E := byteE) _ false) (okW_cons (.inl (leV_refl _)) (okW_cons (.inl (leV_refl _)) okW_nil)))) okB_nil')
      · refine cond_b (fun _ => ?_) (fun _ => ?_)
        · refine cond_b (fun _ => ?_) (fun _ => ?_)
          · refine cond_b (fun _ => ?_) (fun _ => ?_)
            · exact fun hg => ret1 (hR _ (Option.some.inj hg).symm) (fz_sc _ _)
            · exact fun hg => hN0 _ (Option.some.inj hg).symm _ (weak_mem [] rfl rfl rfl (okW_cons (.inl (leV_refl _)) (okW_cons (ent_lst (E := byteE) _ false) (okW_cons (.inl (leV_refl _)) (okW_cons (.inl (leV_refl _)) okW_nil)))) okB_nil')
          · exact fun hg => ret1 (hR _ (Option.some.inj hg).symm) (fz_sc _ _)
        · exact fun hg => ret1 (hR _ (Option.some.inj hg).symm) (fz_sc _ _)
    · refine cond_b (fun _ => ?_) (fun _ => ?_)
      · refine cond_b (fun _ => ?_) (fun _ => ?_)
        · refine cond_b (fun _ => ?_) (fun _ => ?_)
          · exact fun hg => ret1 (hR _ (Option.some.inj hg).symm) (fz_sc _ _)
          · exact fun hg => hN0 _ (Option.some.inj hg).symm _ (weak_mem [] rfl rfl rfl (okW_cons (.inl (leV_refl _)) (okW_cons (ent_lst (E := byteE) _ false) (okW_cons (.inl (leV_refl _)) (okW_cons (.inl (leV_refl _)) okW_nil)))) okB_nil')
        · exact fun hg => ret1 (hR _ (Option.some.inj hg).symm) (fz_sc _ _)
      · exact fun hg => ret1 (hR _ (Option.some.inj hg).symm) (fz_sc _ _)
  · exact fun hg => ret1 (hR _ (Option.some.inj hg).symm) (fz_sc _ _)
theorem L51_0_ok (n : Nat) (c2 : Bool) (c14 : List UInt8) (c15 : Int) {t : ρ51} (R : AV → Mem → Prop) (hR : ∀ r : ρ51, t = r → ∀ u m, Ans ((boolA r)) u m → R u m) (k : Nat) (x : Int) (hx : iterO (fun y : Int => S51_0 n c2 c14 c15 y) k x = some t) {s : St} (hw : Weak KK 41 0 s (h51_0 c2 (lstA byteE c14) c15 x [])) : Tri pg KK 41 0 (.loop c51_0) s (q51_0 R ) :=
  L51_0 R  (σ := Nat × (Int)) (fun z => iterO (fun y : Int => S51_0 n c2 c14 c15 y) z.1 z.2 = some t) (fun z => c2) (fun z => (lstA byteE c14)) (fun z => c15) (fun z => z.2) (fun z => []) (fun z => z.1) (by
    rintro ⟨k, y⟩ h
    cases k with
    | zero => exact (iterO_zero h).elim
    | succ k =>
      obtain ⟨u, h1, h2, h3⟩ := iterO_elim h
      exact B51_0_ok n c2 c14 c15 y R  _ (fun r e => hR r (h3 _ e).symm)  (fun y' e s' hw => ⟨(k, y'), h2 _ e, Nat.lt_succ_self k, hw⟩) h1) (k, x) hx hw
theorem g51_ok (n : Nat) (a0 : ByteArray) {t : ρ51} (R : AV → Mem → Prop) (hR : ∀ r : ρ51, t = r → ∀ u m, Ans ((boolA r)) u m → R u m) : g51 n a0 = some t → F51 a0 R := by
  unfold g51 F51
  refine iq (intA (a0.size : Int)) (by kernel_rfl) ?_
  refine imp ex_i64_b ?_
  refine cond_b (fun _ => ?_) (fun _ => ?_)
  · exact fun hg => ret1 (hR _ (Option.some.inj hg).symm) (fz_sc _ _)
  · refine iq (intA (a0.size : Int)) (by kernel_rfl) ?_
    refine imp ex_i64_b ?_
    refine cond_b (fun _ => ?_) (fun _ => ?_)
    · exact fun hg => ret1 (hR _ (Option.some.inj hg).symm) (fz_sc _ _)
    · refine bind_b fun x723 h723 => ?_
      refine iq (lstA byteE (a0.data.toList)) (opA_bytes (e := 5) (by kernel_rfl) (by kernel_rfl) (by kernel_rfl) h723) ?_
      refine iq (intA ((a0.data.toList).length : Int)) rfl ?_
      refine imp ex_i64_b ?_
      exact fun hg => L51_0_ok n false (a0.data.toList) ((a0.data.toList).length : Int) R  hR n _ hg (weak_mem [] rfl rfl rfl (okW_cons (.inl (leV_refl _)) (okW_cons (ent_lst (E := byteE) _ false) (okW_cons (.inl (leV_refl _)) (okW_cons (.inl (leV_refl _)) okW_nil)))) okB_nil')
theorem sg51 {n : Nat} {a0 : ByteArray} {t : ρ51} (h : g51 n a0 = some t) : Says pg KK.gl 51 [(strA a0)] ((boolA t)) :=
  says_of_own (by first | rfl | simp [cleans, clean, encs_clean, En.cln]) (by first | rfl | simp [cleans, clean, encs_clean, En.cln]) (F51_own a0 _ (g51_ok n a0 (Ans ((boolA t))) (fun r e u m h => by rw [e]; exact h) h))
/- skyway/aircraft.Check$1 -/
theorem g50_ok (n : Nat) (a0 : Int) (a1 : Int) {t : ρ50} (R : AV → Mem → Prop) (hR : ∀ r : ρ50, t = r → ∀ u m, Ans ((boolA r)) u m → R u m) : g50 n a0 a1 = some t → F50 a0 a1 R := by
  unfold g50 F50
  refine cond_b (fun _ => ?_) (fun _ => ?_)
  · exact fun hg => ret1 (hR _ (Option.some.inj hg).symm) (fz_sc _ _)
  · exact fun hg => ret1 (hR _ (Option.some.inj hg).symm) (fz_sc _ _)
theorem sg50 {n : Nat} {a0 : Int} {a1 : Int} {t : ρ50} (h : g50 n a0 a1 = some t) : Says pg KK.gl 50 [(intA a0), (intA a1)] ((boolA t)) :=
  says_of_own (by first | rfl | simp [cleans, clean, encs_clean, En.cln]) (by first | rfl | simp [cleans, clean, encs_clean, En.cln]) (F50_own a0 a1 _ (g50_ok n a0 a1 (Ans ((boolA t))) (fun r e u m h => by rw [e]; exact h) h))
/- skyway/aircraft.Check -/
theorem g25_ok (n : Nat) (a0 : TKind) {t : ρ25} (R : AV → Mem → Prop) (hR : ∀ r : ρ25, t = r → ∀ u m, Ans ((intA r)) u m → R u m) : g25 n a0 = some t → F25 a0.Name a0.Wake a0.Ceiling a0.Climb a0.Descent a0.Slow a0.Fast R := by
  unfold g25 F25
  refine bind_b fun x725 h725 => ?_
  refine imp (callQ_says (sg51 h725)) ?_
  refine imp exB_b ?_
  refine cond_b (fun _ => ?_) (fun _ => ?_)
  · exact fun hg => ret1 (hR _ (Option.some.inj hg).symm) (fz_sc _ _)
  · refine cond_b (fun _ => ?_) (fun _ => ?_)
    · exact fun hg => ret1 (hR _ (Option.some.inj hg).symm) (fz_sc _ _)
    · refine cond_b (fun _ => ?_) (fun _ => ?_)
      · exact fun hg => ret1 (hR _ (Option.some.inj hg).symm) (fz_sc _ _)
      · refine bind_b fun x726 h726 => ?_
        refine imp (callQ_says (sg50 h726)) ?_
        refine imp exB_b ?_
        refine cond_b (fun _ => ?_) (fun _ => ?_)
        · exact fun hg => ret1 (hR _ (Option.some.inj hg).symm) (fz_sc _ _)
        · refine bind_b fun x727 h727 => ?_
          refine imp (callQ_says (sg50 h727)) ?_
          refine imp exB_b ?_
          refine cond_b (fun _ => ?_) (fun _ => ?_)
          · exact fun hg => ret1 (hR _ (Option.some.inj hg).symm) (fz_sc _ _)
          · refine bind_b fun x728 h728 => ?_
            refine imp (callQ_says (sg50 h728)) ?_
            refine imp exB_b ?_
            refine cond_b (fun _ => ?_) (fun _ => ?_)
            · exact fun hg => ret1 (hR _ (Option.some.inj hg).symm) (fz_sc _ _)
            · refine bind_b fun x729 h729 => ?_
              refine imp (callQ_says (sg50 h729)) ?_
              refine imp exB_b ?_
              refine cond_b (fun _ => ?_) (fun _ => ?_)
              · exact fun hg => ret1 (hR _ (Option.some.inj hg).symm) (fz_sc _ _)
              · refine bind_b fun x730 h730 => ?_
                refine imp (callQ_says (sg50 h730)) ?_
                refine imp exB_b ?_
                refine cond_b (fun _ => ?_) (fun _ => ?_)
                · exact fun hg => ret1 (hR _ (Option.some.inj hg).symm) (fz_sc _ _)
                · refine cond_b (fun _ => ?_) (fun _ => ?_)
                  · exact fun hg => ret1 (hR _ (Option.some.inj hg).symm) (fz_sc _ _)
                  · exact fun hg => ret1 (hR _ (Option.some.inj hg).symm) (fz_sc _ _)
theorem sg25 {n : Nat} {a0 : TKind} {t : ρ25} (h : g25 n a0 = some t) : Says pg KK.gl 25 [(AV.agg [(strA a0.Name), (intA a0.Wake), (intA a0.Ceiling), (intA a0.Climb), (intA a0.Descent), (intA a0.Slow), (intA a0.Fast)])] ((intA t)) :=
  says_of_own (by first | rfl | simp [cleans, clean, encs_clean, En.cln]) (by first | rfl | simp [cleans, clean, encs_clean, En.cln]) (F25_own a0.Name a0.Wake a0.Ceiling a0.Climb a0.Descent a0.Slow a0.Fast _ (g25_ok n a0 (Ans ((intA t))) (fun r e u m h => by rw [e]; exact h) h))
/- slices.Index[[]string,string] -/
theorem B79_0_ok (n : Nat) (a0 : List ByteArray) (a1 : ByteArray) (c4 : Int) (c7 : Int) (v8 : Int) {t : (Int) ⊕ ρ79} (R : AV → Mem → Prop) (N0 : St → Prop) (hR : ∀ r : ρ79, t = (.inr r) → ∀ u m, Ans ((intA r)) u m → R u m) (hN0 : ∀ y : Int, t = (.inl y) → ∀ s' : St, Weak KK 19 0 s' (h79_0 (lstA strE a0) a1 c4 c7 y []) → N0 s') : S79_0 n a0 a1 c4 c7 v8 = some t → B79_0 (lstA strE a0) a1 c4 c7 v8 [] R N0 := by
  unfold S79_0 B79_0
  refine cond_b (fun _ => ?_) (fun _ => ?_)
  · refine bind_b fun x734 h734 => ?_
    refine iq (AV.ept [(strA x734)] 0) (idx_lst (E := strE) rfl h734) ?_
    refine iq (strA x734) rfl ?_
    refine imp exStr_b ?_
    refine cond_b (fun _ => ?_) (fun _ => ?_)
    · exact fun hg => ret1 (hR _ (Option.some.inj hg).symm) (fz_sc _ _)
    · exact fun hg => hN0 _ (Option.some.inj hg).symm _ (weak_mem [] rfl rfl rfl (okW_cons (ent_lst (E := strE) _ false) (okW_cons (.inl (leV_refl _)) (okW_cons (.inl (leV_refl _)) (okW_cons (.inl (leV_refl _)) (okW_cons (.inl (leV_refl _)) okW_nil))))) okB_nil')
  · exact fun hg => ret1 (hR _ (Option.some.inj hg).symm) (fz_sc _ _)
theorem L79_0_ok (n : Nat) (a0 : List ByteArray) (a1 : ByteArray) (c4 : Int) (c7 : Int) {t : ρ79} (R : AV → Mem → Prop) (hR : ∀ r : ρ79, t = r → ∀ u m, Ans ((intA r)) u m → R u m) (k : Nat) (x : Int) (hx : iterO (fun y : Int => S79_0 n a0 a1 c4 c7 y) k x = some t) {s : St} (hw : Weak KK 19 0 s (h79_0 (lstA strE a0) a1 c4 c7 x [])) : Tri pg KK 19 0 (.loop c79_0) s (q79_0 R ) :=
  L79_0 R  (σ := Nat × (Int)) (fun z => iterO (fun y : Int => S79_0 n a0 a1 c4 c7 y) z.1 z.2 = some t) (fun z => (lstA strE a0)) (fun z => a1) (fun z => c4) (fun z => c7) (fun z => z.2) (fun z => []) (fun z => z.1) (by
    rintro ⟨k, y⟩ h
    cases k with
    | zero => exact (iterO_zero h).elim
    | succ k =>
      obtain ⟨u, h1, h2, h3⟩ := iterO_elim h
      exact B79_0_ok n a0 a1 c4 c7 y R  _ (fun r e => hR r (h3 _ e).symm)  (fun y' e s' hw => ⟨(k, y'), h2 _ e, Nat.lt_succ_self k, hw⟩) h1) (k, x) hx hw
theorem g79_ok (n : Nat) (a0 : List ByteArray) (a1 : ByteArray) {t : ρ79} (R : AV → Mem → Prop) (hR : ∀ r : ρ79, t = r → ∀ u m, Ans ((intA r)) u m → R u m) : g79 n a0 a1 = some t → F79 (lstA strE a0) a1 R := by
  unfold g79 F79
  refine iq (intA (a0.length : Int)) rfl ?_
  refine imp ex_i64_b ?_
  exact fun hg => L79_0_ok n a0 a1 (0) (a0.length : Int) R  hR n _ hg (weak_mem [] rfl rfl rfl (okW_cons (ent_lst (E := strE) _ false) (okW_cons (.inl (leV_refl _)) (okW_cons (.inl (leV_refl _)) (okW_cons (.inl (leV_refl _)) (okW_cons (.inl (leV_refl _)) okW_nil))))) okB_nil')
theorem sg79 {n : Nat} {a0 : List ByteArray} {a1 : ByteArray} {t : ρ79} (h : g79 n a0 a1 = some t) : Says pg KK.gl 79 [(lstA strE a0), (strA a1)] ((intA t)) :=
  says_of_own (by first | rfl | simp [cleans, clean, encs_clean, En.cln]) (by first | rfl | simp [cleans, clean, encs_clean, En.cln]) (F79_own (lstA strE a0) a1 _ (g79_ok n a0 a1 (Ans ((intA t))) (fun r e u m h => by rw [e]; exact h) h))
/- skyway/phrase.kind -/
theorem g57_ok (n : Nat) (a0 : ByteArray) {t : ρ57} (R : AV → Mem → Prop) (hR : ∀ r : ρ57, t = r → ∀ u m, Ans ((intA r)) u m → R u m) : g57 n a0 = some t → F57 a0 R := by
  unfold g57 F57
  refine iq (AV.lst (([(⟨#[72, 69, 73, 71, 72, 84]⟩ : ByteArray), (⟨#[72, 69, 65, 68, 73, 78, 71]⟩ : ByteArray), (⟨#[83, 80, 69, 69, 68]⟩ : ByteArray), (⟨#[68, 73, 82, 69, 67, 84]⟩ : ByteArray), (⟨#[72, 79, 76, 68]⟩ : ByteArray), (⟨#[67, 79, 78, 84, 65, 67, 84]⟩ : ByteArray), (⟨#[76, 65, 78, 68]⟩ : ByteArray)] : List ByteArray)).length (encs strE ([(⟨#[72, 69, 73, 71, 72, 84]⟩ : ByteArray), (⟨#[72, 69, 65, 68, 73, 78, 71]⟩ : ByteArray), (⟨#[83, 80, 69, 69, 68]⟩ : ByteArray), (⟨#[68, 73, 82, 69, 67, 84]⟩ : ByteArray), (⟨#[72, 79, 76, 68]⟩ : ByteArray), (⟨#[67, 79, 78, 84, 65, 67, 84]⟩ : ByteArray), (⟨#[76, 65, 78, 68]⟩ : ByteArray)] : List ByteArray)) true) (by kernel_rfl) ?_
  refine bind_b fun x735 h735 => ?_
  refine imp (callQ_saysL (rl_cons leV_lstT (rl_cons (leV_refl _) rl_nil)) (sg79 h735)) ?_
  refine imp ex_i64_b ?_
  exact fun hg => ret1 (hR _ (Option.some.inj hg).symm) (fz_sc _ _)
theorem sg57 {n : Nat} {a0 : ByteArray} {t : ρ57} (h : g57 n a0 = some t) : Says pg KK.gl 57 [(strA a0)] ((intA t)) :=
  says_of_own (by first | rfl | simp [cleans, clean, encs_clean, En.cln]) (by first | rfl | simp [cleans, clean, encs_clean, En.cln]) (F57_own a0 _ (g57_ok n a0 (Ans ((intA t))) (fun r e u m h => by rw [e]; exact h) h))
/- skyway/phrase.name -/
theorem g30_ok (n : Nat) (a0 : ByteArray) {t : ρ30} (R : AV → Mem → Prop) (hR : ∀ r : ρ30, t = r → ∀ u m, Ans ((boolA r)) u m → R u m) : g30 n a0 = some t → F30 a0 R := by
  unfold g30 F30
  refine bind_b fun x733 h733 => ?_
  refine imp (callQ_says (sg51 h733)) ?_
  refine imp exB_b ?_
  refine cond_b (fun _ => ?_) (fun _ => ?_)
  · refine bind_b fun x736 h736 => ?_
    refine imp (callQ_says (sg57 h736)) ?_
    refine imp ex_i64_b ?_
    exact fun hg => ret1 (hR _ (Option.some.inj hg).symm) (fz_sc _ _)
  · exact fun hg => ret1 (hR _ (Option.some.inj hg).symm) (fz_sc _ _)
theorem sg30 {n : Nat} {a0 : ByteArray} {t : ρ30} (h : g30 n a0 = some t) : Says pg KK.gl 30 [(strA a0)] ((boolA t)) :=
  says_of_own (by first | rfl | simp [cleans, clean, encs_clean, En.cln]) (by first | rfl | simp [cleans, clean, encs_clean, En.cln]) (F30_own a0 _ (g30_ok n a0 (Ans ((boolA t))) (fun r e u m h => by rw [e]; exact h) h))
/- skyway/phrase.Check -/
theorem g8_ok (n : Nat) (a0 : TClearance) {t : ρ8} (R : AV → Mem → Prop) (hR : ∀ r : ρ8, t = r → ∀ u m, Ans ((intA r)) u m → R u m) : g8 n a0 = some t → F8 a0.Call a0.Kind a0.Value a0.Fix R := by
  unfold g8 F8
  refine bind_b fun x737 h737 => ?_
  refine imp (callQ_says (sg30 h737)) ?_
  refine imp exB_b ?_
  refine cond_b (fun _ => ?_) (fun _ => ?_)
  · exact fun hg => ret1 (hR _ (Option.some.inj hg).symm) (fz_sc _ _)
  · refine cond_b (fun _ => ?_) (fun _ => ?_)
    · exact fun hg => ret1 (hR _ (Option.some.inj hg).symm) (fz_sc _ _)
    · refine cond_b (fun _ => ?_) (fun _ => ?_)
      · exact fun hg => ret1 (hR _ (Option.some.inj hg).symm) (fz_sc _ _)
      · refine cond_b (fun _ => ?_) (fun _ => ?_)
        · refine cond_b (fun _ => ?_) (fun _ => ?_)
          · exact fun hg => ret1 (hR _ (Option.some.inj hg).symm) (fz_sc _ _)
          · refine bind_b fun x738 h738 => ?_
            refine imp (callQ_says (sg30 h738)) ?_
            refine imp exB_b ?_
            refine cond_b (fun _ => ?_) (fun _ => ?_)
            · exact fun hg => ret1 (hR _ (Option.some.inj hg).symm) (fz_sc _ _)
            · exact fun hg => ret1 (hR _ (Option.some.inj hg).symm) (fz_sc _ _)
        · refine cond_b (fun _ => ?_) (fun _ => ?_)
          · exact fun hg => ret1 (hR _ (Option.some.inj hg).symm) (fz_sc _ _)
          · refine cond_b (fun _ => ?_) (fun _ => ?_)
            · exact fun hg => ret1 (hR _ (Option.some.inj hg).symm) (fz_sc _ _)
            · refine bind_b fun x739 h739 => ?_
              refine iq (AV.ept [(intA (60000)), (intA (4095)), (intA (400))] (((a0.Kind : Int).toNat) * 1 + 0)) (idxA_ept0 (l := ([(60000), (4095), (400)] : List Int)) (len := 3) rfl h739) ?_
              refine iq (intA x739) (ldS_ept_blk (E := intE) (l := ([(60000), (4095), (400)] : List Int)) (o := 0) rfl (getI_some h739).2 rfl (by decide) rfl) ?_
              refine imp ex_i64_b ?_
              refine cond_b (fun _ => ?_) (fun _ => ?_)
              · exact fun hg => ret1 (hR _ (Option.some.inj hg).symm) (fz_sc _ _)
              · exact fun hg => ret1 (hR _ (Option.some.inj hg).symm) (fz_sc _ _)
theorem sg8 {n : Nat} {a0 : TClearance} {t : ρ8} (h : g8 n a0 = some t) : Says pg KK.gl 8 [(AV.agg [(strA a0.Call), (intA a0.Kind), (intA a0.Value), (strA a0.Fix)])] ((intA t)) :=
  says_of_own (by first | rfl | simp [cleans, clean, encs_clean, En.cln]) (by first | rfl | simp [cleans, clean, encs_clean, En.cln]) (F8_own a0.Call a0.Kind a0.Value a0.Fix _ (g8_ok n a0 (Ans ((intA t))) (fun r e u m h => by rw [e]; exact h) h))
/- skyway/resolve.course -/
theorem B27_0_ok (n : Nat) (c4 : Int) (c6 : Bool) (a0 : List TTubeNode) (c14 : Int) (k0_0 : Int) (k0_1 : Int) (k0_2 : Int) (k0_3 : Int) (k0_4 : Int) (k0_5 : Int) (v15 : Int) {t : (Int) ⊕ ρ27} (R : AV → Mem → Prop) (N0 : St → Prop) (hR : ∀ r : ρ27, t = (.inr r) → ∀ u m, Ans ((AV.tup [(intA r.1), (intA r.2.1), (boolA r.2.2)])) u m → R u m) (hN0 : ∀ y : Int, t = (.inl y) → ∀ s' : St, Weak KK 60 0 s' (h27_0 c4 c4 c6 (lstA TTubeNode.E a0) c14 y k0_0 k0_1 k0_2 k0_3 k0_4 k0_5 []) → N0 s') : S27_0 n c4 c6 a0 c14 k0_0 k0_1 k0_2 k0_3 k0_4 k0_5 v15 = some t → B27_0 c4 c4 c6 (lstA TTubeNode.E a0) c14 v15 k0_0 k0_1 k0_2 k0_3 k0_4 k0_5 [] R N0 := by
  unfold S27_0 B27_0
  refine cond_b (fun _ => ?_) (fun _ => ?_)
  · refine bind_b fun x741 h741 => ?_
    refine iq (AV.ept [(intA x741.Node_Time), (intA x741.Node_At_X), (intA x741.Node_At_Y), (intA x741.Node_Height), (intA x741.Radius), (intA x741.Band)] 0) (idx_lst (E := TTubeNode.E) rfl h741) ?_
    refine iq (AV.agg [(intA x741.Node_Time), (intA x741.Node_At_X), (intA x741.Node_At_Y), (intA x741.Node_Height), (intA x741.Radius), (intA x741.Band)]) rfl ?_
    refine imp exA6_b ?_
    iterate 6 refine imp ex_i64_b ?_
    refine cond_b (fun _ => ?_) (fun _ => ?_)
    · refine bind_b fun x742 h742 => ?_
      refine imp (callQ_says (sg55 h742)) ?_
      refine imp exA2_b ?_
      iterate 2 refine imp ex_i64_b ?_
      refine bind_b fun x743 h743 => ?_
      refine imp (callQ_says (sg54 h743)) ?_
      refine imp exT2_b ?_
      iterate 2 refine imp ex_i64_b ?_
      refine bind_b fun x744 h744 => ?_
      refine imp (callQ_says (sg56 h744)) ?_
      refine imp exT2_b ?_
      iterate 2 refine imp ex_i64_b ?_
      refine bind_b fun x745 h745 => ?_
      refine iq (intA (IntKind.wrap .i64 x745)) (opA_quo h745) ?_
      refine imp ex_i64_b ?_
      exact fun hg => retN rfl (hR _ (Option.some.inj hg).symm) (fzL_cons (fz_sc _ _) (fzL_cons (fz_sc _ _) (fzL_cons (fz_sc _ _) fzL_nil)))
    · exact fun hg => hN0 _ (Option.some.inj hg).symm _ (weak_mem [(0, 0)] rfl rfl rfl (okW_cons (.inl (leV_refl _)) (okW_cons (.inl (leV_refl _)) (okW_cons (.inl (leV_refl _)) (okW_cons (.inl (leV_refl _)) (okW_cons (ent_lst (E := TTubeNode.E) _ false) (okW_cons (.inl (leV_refl _)) (okW_cons (.inl (leV_refl _)) okW_nil))))))) (okB_cons (okB_cells (cs := [(intA k0_0), (intA k0_1), (intA k0_2), (intA k0_3), (intA k0_4), (intA k0_5)]) (ty := 50) rfl (show mget _ 0 = _ from (by first | rfl | (simp (disch := first | decide | assumption) only [mpushs_nil, mpushs_cons, mget_hd, mget_tl, mget_appW_o, mget_appW_n, mget_appW_e])))) okB_nil'))
  · exact fun hg => retN rfl (hR _ (Option.some.inj hg).symm) (fzL_cons (fz_sc _ _) (fzL_cons (fz_sc _ _) (fzL_cons (fz_sc _ _) fzL_nil)))
theorem L27_0_ok (n : Nat) (c4 : Int) (c6 : Bool) (a0 : List TTubeNode) (c14 : Int) (k0_0 : Int) (k0_1 : Int) (k0_2 : Int) (k0_3 : Int) (k0_4 : Int) (k0_5 : Int) {t : ρ27} (R : AV → Mem → Prop) (hR : ∀ r : ρ27, t = r → ∀ u m, Ans ((AV.tup [(intA r.1), (intA r.2.1), (boolA r.2.2)])) u m → R u m) (k : Nat) (x : Int) (hx : iterO (fun y : Int => S27_0 n c4 c6 a0 c14 k0_0 k0_1 k0_2 k0_3 k0_4 k0_5 y) k x = some t) {s : St} (hw : Weak KK 60 0 s (h27_0 c4 c4 c6 (lstA TTubeNode.E a0) c14 x k0_0 k0_1 k0_2 k0_3 k0_4 k0_5 [])) : Tri pg KK 60 0 (.loop c27_0) s (q27_0 R ) :=
  L27_0 R  (σ := Nat × (Int)) (fun z => iterO (fun y : Int => S27_0 n c4 c6 a0 c14 k0_0 k0_1 k0_2 k0_3 k0_4 k0_5 y) z.1 z.2 = some t) (fun z => c4) (fun z => c4) (fun z => c6) (fun z => (lstA TTubeNode.E a0)) (fun z => c14) (fun z => z.2) (fun z => k0_0) (fun z => k0_1) (fun z => k0_2) (fun z => k0_3) (fun z => k0_4) (fun z => k0_5) (fun z => []) (fun z => z.1) (by
    rintro ⟨k, y⟩ h
    cases k with
    | zero => exact (iterO_zero h).elim
    | succ k =>
      obtain ⟨u, h1, h2, h3⟩ := iterO_elim h
      exact B27_0_ok n c4 c6 a0 c14 k0_0 k0_1 k0_2 k0_3 k0_4 k0_5 y R  _ (fun r e => hR r (h3 _ e).symm)  (fun y' e s' hw => ⟨(k, y'), h2 _ e, Nat.lt_succ_self k, hw⟩) h1) (k, x) hx hw
theorem g27_ok (n : Nat) (a0 : List TTubeNode) (a1 : TTubeNode) {t : ρ27} (R : AV → Mem → Prop) (hR : ∀ r : ρ27, t = r → ∀ u m, Ans ((AV.tup [(intA r.1), (intA r.2.1), (boolA r.2.2)])) u m → R u m) : g27 n a0 a1 = some t → F27 (lstA TTubeNode.E a0) a1.Node_Time a1.Node_At_X a1.Node_At_Y a1.Node_Height a1.Radius a1.Band R := by
  unfold g27 F27
  refine iq (intA (a0.length : Int)) rfl ?_
  refine imp ex_i64_b ?_
  exact fun hg => L27_0_ok n (0) false a0 (a0.length : Int) a1.Node_Time a1.Node_At_X a1.Node_At_Y a1.Node_Height a1.Radius a1.Band R  hR n _ hg (weak_mem [(0, 0)] rfl rfl rfl (okW_cons (.inl (leV_refl _)) (okW_cons (.inl (leV_refl _)) (okW_cons (.inl (leV_refl _)) (okW_cons (.inl (leV_refl _)) (okW_cons (ent_lst (E := TTubeNode.E) _ false) (okW_cons (.inl (leV_refl _)) (okW_cons (.inl (leV_refl _)) okW_nil))))))) (okB_cons (okB_cells (cs := [(intA a1.Node_Time), (intA a1.Node_At_X), (intA a1.Node_At_Y), (intA a1.Node_Height), (intA a1.Radius), (intA a1.Band)]) (ty := 50) rfl (show mget _ 0 = _ from (by first | rfl | (simp (disch := first | decide | assumption) only [mpushs_nil, mpushs_cons, mget_hd, mget_tl, mget_appW_o, mget_appW_n, mget_appW_e])))) okB_nil'))
theorem sg27 {n : Nat} {a0 : List TTubeNode} {a1 : TTubeNode} {t : ρ27} (h : g27 n a0 a1 = some t) : Says pg KK.gl 27 [(lstA TTubeNode.E a0), (AV.agg [(intA a1.Node_Time), (intA a1.Node_At_X), (intA a1.Node_At_Y), (intA a1.Node_Height), (intA a1.Radius), (intA a1.Band)])] ((AV.tup [(intA t.1), (intA t.2.1), (boolA t.2.2)])) :=
  says_of_own (by first | rfl | simp [cleans, clean, encs_clean, En.cln]) (by first | rfl | simp [cleans, clean, encs_clean, En.cln]) (F27_own (lstA TTubeNode.E a0) a1.Node_Time a1.Node_At_X a1.Node_At_Y a1.Node_Height a1.Radius a1.Band _ (g27_ok n a0 a1 (Ans ((AV.tup [(intA t.1), (intA t.2.1), (boolA t.2.2)]))) (fun r e u m h => by rw [e]; exact h) h))
end Go.Proofs.YteaimbiojpjneaaGreatDoor
