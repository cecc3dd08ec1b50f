/- Plain functional programs out of the program's functions, with proofs that the functions compute them; printed by wip/Ext.lean.txt. -/
import Derived.Test.YtbbfpbngnkjkdaaDoorX1E2
set_option linter.unusedVariables false
set_option linter.unusedSimpArgs false
set_option maxRecDepth 100000
set_option maxHeartbeats 4000000
namespace Go.Proofs.YtbbfpbngnkjkdaaDoor
/- math.Sin -/
theorem g58_ok (n : Nat) (a0 : Nat) {t : ρ58} (R : AV → Mem → Prop) (hR : ∀ r : ρ58, t = r → ∀ u m, Ans ((fltA r)) u m → R u m) : g58 n a0 = some t → F58 a0 R := by
  unfold g58 F58
  refine bind_b fun x567 h567 => ?_
  refine imp (callQ_says (sg65 h567)) ?_
  refine imp exF_b ?_
  exact fun hg => ret1 (hR _ (Option.some.inj hg).symm) (fz_sc _ _)
theorem sg58 {n : Nat} {a0 : Nat} {t : ρ58} (h : g58 n a0 = some t) : Says pg KK.gl 58 [(fltA a0)] ((fltA t)) :=
  says_of_own (by first | rfl | simp [cleans, clean, encs_clean, En.cln]) (by first | rfl | simp [cleans, clean, encs_clean, En.cln]) (F58_own a0 _ (g58_ok n a0 (Ans ((fltA t))) (fun r e u m h => by rw [e]; exact h) h))
/- math.Round -/
theorem g57_ok (n : Nat) (a0 : Nat) {t : ρ57} (R : AV → Mem → Prop) (hR : ∀ r : ρ57, t = r → ∀ u m, Ans ((fltA r)) u m → R u m) : g57 n a0 = some t → F57 a0 R := by
  unfold g57 F57
  refine imp (callQ_ext (ext_bits _)) ?_
  refine imp ex_u64_b ?_
  refine bind_b fun x570 h570 => ?_
  refine iq (AV.sc (.int .u64 x570)) (opA_shr h570) ?_
  refine imp ex_u64_b ?_
  refine iq (AV.sc (.int .u64 (bAnd .u64 x570 (2047)))) (opA_band _ _) ?_
  refine imp ex_u64_b ?_
  refine cond_b (fun _ => ?_) (fun _ => ?_)
  · refine iq (AV.sc (.int .u64 (bAnd .u64 (a0 : Int) (9223372036854775808)))) (opA_band _ _) ?_
    refine imp ex_u64_b ?_
    refine cond_b (fun _ => ?_) (fun _ => ?_)
    · refine iq (AV.sc (.int .u64 (bOr .u64 (bAnd .u64 (a0 : Int) (9223372036854775808)) (4607182418800017408)))) (opA_bor _ _) ?_
      refine imp ex_u64_b ?_
      refine imp (callQ_ext (ext_frombits _)) ?_
      refine imp exF_b ?_
      exact fun hg => ret1 (hR _ (Option.some.inj hg).symm) (fz_sc _ _)
    · refine imp (callQ_ext (ext_frombits _)) ?_
      refine imp exF_b ?_
      exact fun hg => ret1 (hR _ (Option.some.inj hg).symm) (fz_sc _ _)
  · refine cond_b (fun _ => ?_) (fun _ => ?_)
    · refine bind_b fun x571 h571 => ?_
      refine iq (AV.sc (.int .u64 x571)) (opA_shr h571) ?_
      refine imp ex_u64_b ?_
      refine bind_b fun x572 h572 => ?_
      refine iq (AV.sc (.int .u64 x572)) (opA_shr h572) ?_
      refine imp ex_u64_b ?_
      refine iq (AV.sc (.int .u64 (bAndNot .u64 (IntKind.wrap .u64 ((a0 : Int) + x571)) x572))) (opA_bandNot _ _) ?_
      refine imp ex_u64_b ?_
      refine imp (callQ_ext (ext_frombits _)) ?_
      refine imp exF_b ?_
      exact fun hg => ret1 (hR _ (Option.some.inj hg).symm) (fz_sc _ _)
    · refine imp (callQ_ext (ext_frombits _)) ?_
      refine imp exF_b ?_
      exact fun hg => ret1 (hR _ (Option.some.inj hg).symm) (fz_sc _ _)
theorem sg57 {n : Nat} {a0 : Nat} {t : ρ57} (h : g57 n a0 = some t) : Says pg KK.gl 57 [(fltA a0)] ((fltA t)) :=
  says_of_own (by first | rfl | simp [cleans, clean, encs_clean, En.cln]) (by first | rfl | simp [cleans, clean, encs_clean, En.cln]) (F57_own a0 _ (g57_ok n a0 (Ans ((fltA t))) (fun r e u m h => by rw [e]; exact h) h))
/- skyway/angle.Sin -/
theorem g52_ok (n : Nat) (a0 : Int) {t : ρ52} (R : AV → Mem → Prop) (hR : ∀ r : ρ52, t = r → ∀ u m, Ans ((intA r)) u m → R u m) : g52 n a0 = some t → F52 a0 R := by
  unfold g52 F52
  refine bind_b fun x0 h0 => ?_
  refine imp (callQ_says (sg59 h0)) ?_
  refine imp ex_i64_b ?_
  refine iq (fltA (i2f x0)) (opA_i2f (by kernel_rfl) (by kernel_rfl)) ?_
  refine imp exF_b ?_
  refine fmul_s fun x1 => ?_
  refine fquo_s fun x2 => ?_
  refine bind_b fun x568 h568 => ?_
  refine imp (callQ_says (sg58 h568)) ?_
  refine imp exF_b ?_
  refine fmul_s fun x569 => ?_
  refine bind_b fun x573 h573 => ?_
  refine imp (callQ_says (sg57 h573)) ?_
  refine imp exF_b ?_
  refine bind_b fun x574 h574 => ?_
  refine iq (intA x574) (opA_f2i (by kernel_rfl) (by kernel_rfl) h574) ?_
  refine imp ex_i64_b ?_
  exact fun hg => ret1 (hR _ (Option.some.inj hg).symm) (fz_sc _ _)
theorem sg52 {n : Nat} {a0 : Int} {t : ρ52} (h : g52 n a0 = some t) : Says pg KK.gl 52 [(intA a0)] ((intA t)) :=
  says_of_own (by first | rfl | simp [cleans, clean, encs_clean, En.cln]) (by first | rfl | simp [cleans, clean, encs_clean, En.cln]) (F52_own a0 _ (g52_ok n a0 (Ans ((intA t))) (fun r e u m h => by rw [e]; exact h) h))
/- skyway/angle.Cos -/
theorem g53_ok (n : Nat) (a0 : Int) {t : ρ53} (R : AV → Mem → Prop) (hR : ∀ r : ρ53, t = r → ∀ u m, Ans ((intA r)) u m → R u m) : g53 n a0 = some t → F53 a0 R := by
  unfold g53 F53
  refine bind_b fun x575 h575 => ?_
  refine imp (callQ_says (sg59 h575)) ?_
  refine imp ex_i64_b ?_
  refine bind_b fun x576 h576 => ?_
  refine imp (callQ_says (sg52 h576)) ?_
  refine imp ex_i64_b ?_
  exact fun hg => ret1 (hR _ (Option.some.inj hg).symm) (fz_sc _ _)
theorem sg53 {n : Nat} {a0 : Int} {t : ρ53} (h : g53 n a0 = some t) : Says pg KK.gl 53 [(intA a0)] ((intA t)) :=
  says_of_own (by first | rfl | simp [cleans, clean, encs_clean, En.cln]) (by first | rfl | simp [cleans, clean, encs_clean, En.cln]) (F53_own a0 _ (g53_ok n a0 (Ans ((intA t))) (fun r e u m h => by rw [e]; exact h) h))
end Go.Proofs.YtbbfpbngnkjkdaaDoor
