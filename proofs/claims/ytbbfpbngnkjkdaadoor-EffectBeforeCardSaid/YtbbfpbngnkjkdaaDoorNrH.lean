/- angle.near calls itself once at most: what it answers. -/
import Derived.Test.YtbbfpbngnkjkdaaDoorX1E3
set_option linter.unusedVariables false
set_option linter.unusedSimpArgs false
set_option maxRecDepth 100000
set_option maxHeartbeats 4000000
namespace Go.Proofs.YtbbfpbngnkjkdaaDoor
noncomputable def c51 : Code := ((Tryd.f51).body).getD .skip
noncomputable def F51 (a0 : Int) (a1 : Int) (R : AV → Mem → Prop) : Prop :=
bif (decide (a0 < (0))) then (
opP (opA Tryd.prog (.unOp .neg 3 (.tmp 0)) 3 [(AV.sc (.int .i64 a0))] (mget []) 4) fun v0 =>
ex_i64 v0 fun z1 =>
callQ Tryd.prog KK.gl [] 51 [(AV.sc (.int .i64 z1)), (AV.sc (.int .i64 a1))] fun v2 =>
ex_i64 v2 fun z3 =>
opP (opA Tryd.prog (.unOp .neg 3 (.tmp 0)) 3 [(AV.sc (.int .i64 z3))] (mget []) 70) fun v4 =>
ex_i64 v4 fun z5 =>
retL R [] [some (AV.sc (.int .i64 z5))]) else (
opP (opA Tryd.prog (.binOp .quo 3 (.tmp 0) (.tmp 1) 3) 3 [(AV.sc (.int .i64 (IntKind.wrap .i64 (a0 + (IntKind.wrap .i64 (Int.tdiv a1 (2))))))), (AV.sc (.int .i64 a1))] (mget []) 8) fun v6 =>
ex_i64 v6 fun z7 =>
retL R [] [some (AV.sc (.int .i64 z7))])
theorem near_own (a0 : Int) (a1 : Int) (R : AV → Mem → Prop) (h : F51 a0 a1 R) : Own Tryd.prog KK.gl 51 [(AV.sc (.int .i64 a0)), (AV.sc (.int .i64 a1))] R := own_of_F fol Tryd.func51 (code := c51) (by kernel_rfl) (by kernel_rfl) (by kernel_rfl) (X := F51 a0 a1 R) (by kernel_rfl) h
theorem near_pos_ok (a0 a1 : Int) (h0 : ¬ a0 < 0) {t : Int} (R : AV → Mem → Prop) (hR : ∀ r : Int, t = r → ∀ u m, Ans (intA r) u m → R u m) : nearP a0 a1 = some t → F51 a0 a1 R := by
  unfold nearP F51
  rw [decide_eq_false h0, cond_false]
  refine bind_b fun x h => ?_
  refine imp (opP_of (show _ = some ((intA (IntKind.wrap .i64 x)), []) from (opA_quo h))) ?_
  refine imp ex_i64_b ?_
  exact fun hg => ret1 (hR _ (Option.some.inj hg).symm) (fz_sc _ _)
theorem near_pos {a0 a1 : Int} (h0 : ¬ a0 < 0) {t : Int} (h : nearP a0 a1 = some t) : Says Tryd.prog KK.gl 51 [(intA a0), (intA a1)] (intA t) :=
  says_of_own rfl rfl (near_own a0 a1 _ (near_pos_ok a0 a1 h0 (Ans (intA t)) (fun r e u m h => by rw [e]; exact h) h))
theorem near_neg_ok (a0 a1 : Int) (h0 : a0 < 0) (h1 : ¬ IntKind.wrap .i64 (0 - a0) < 0) {t : Int} (R : AV → Mem → Prop) (hR : ∀ r : Int, t = r → ∀ u m, Ans (intA r) u m → R u m) : ((nearP (IntKind.wrap .i64 (0 - a0)) a1).bind fun z => some (IntKind.wrap .i64 (0 - z))) = some t → F51 a0 a1 R := by
  unfold F51
  rw [decide_eq_true h0, cond_true]
  refine bind_b fun x h => ?_
  refine imp (opP_of (show _ = some ((intA (IntKind.wrap .i64 (0 - a0))), []) from (by kernel_rfl))) ?_
  refine imp ex_i64_b ?_
  refine imp (callQ_says (near_pos h1 h)) ?_
  refine imp ex_i64_b ?_
  refine imp (opP_of (show _ = some ((intA (IntKind.wrap .i64 (0 - x))), []) from (by kernel_rfl))) ?_
  refine imp ex_i64_b ?_
  exact fun hg => ret1 (hR _ (Option.some.inj hg).symm) (fz_sc _ _)
theorem sg51 {n : Nat} {a0 a1 : Int} {t : ρ51} (h : g51 n a0 a1 = some t) : Says Tryd.prog KK.gl 51 [(intA a0), (intA a1)] (intA t) := by
  unfold g51 at h
  by_cases h0 : a0 < 0
  · rw [decide_eq_true h0, cond_true] at h
    by_cases h1 : IntKind.wrap .i64 (0 - a0) < 0
    · rw [decide_eq_true h1] at h; cases h
    · rw [decide_eq_false h1, cond_false] at h
      exact says_of_own rfl rfl (near_own a0 a1 _ (near_neg_ok a0 a1 h0 h1 (Ans (intA t)) (fun r e u m h => by rw [e]; exact h) h))
  · rw [decide_eq_false h0, cond_false] at h
    exact near_pos h0 h
end Go.Proofs.YtbbfpbngnkjkdaaDoor
