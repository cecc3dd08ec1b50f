/- Functions of the program as conditions on their answers; printed by wip/Gen.lean.txt. -/
import Derived.Test.YtfmodgffhbljoaaX1T
set_option linter.unusedVariables false
set_option maxRecDepth 100000
namespace Go.Proofs.Ytfmodgffhbljoaa
/- skyway/runway.Gap -/
noncomputable def c39 : Code := ((Try.f39).body).getD .skip
noncomputable def q39 (R : AV → Mem → Prop) : AExit → St → Prop := retQ Try.prog Try.f39 R
noncomputable def c39_0 : Code := loopB c39 0
noncomputable def q39_0 (R : AV → Mem → Prop) : AExit → St → Prop := contW Try.prog KK 34 0 c39 0 (q39 R)
noncomputable def qq39_0 (R : AV → Mem → Prop) (N0 : St → Prop) : AExit → St → Prop := thenQ N0 (q39_0 R)
def h39_0 (t6 : Int) (t7 : Int) (t19 : AV) (t20 : Int) (b0_0 : Int) (b0_1 : Int) (b0_2 : Int) (b0_3 : Int) (b0_4 : Int) (b0_5 : Int) (b0_6 : Int) (b0_7 : Int) (b0_8 : Int) (b0_9 : Int) (b0_10 : Int) (b0_11 : Int) (b0_12 : Int) (b0_13 : Int) (b0_14 : Int) (b0_15 : Int) (b1_0 : Int) (b1_1 : Int) (b1_2 : Bool) (b1_3 : Int) (b2_0 : Int) (b2_1 : Int) (b2_2 : Bool) (b2_3 : Int) (m : Mem) : St := ⟨[(3, (AV.ptr 0 0)), (4, (AV.ptr 1 0)), (5, (AV.ptr 2 0)), (6, (AV.sc (.int .i64 t6))), (7, (AV.sc (.int .i64 t7))), (19, t19), (20, (AV.sc (.int .i64 t20)))], ((0, some ⟨[(AV.sc (.int .i64 b0_0)), (AV.sc (.int .i64 b0_1)), (AV.sc (.int .i64 b0_2)), (AV.sc (.int .i64 b0_3)), (AV.sc (.int .i64 b0_4)), (AV.sc (.int .i64 b0_5)), (AV.sc (.int .i64 b0_6)), (AV.sc (.int .i64 b0_7)), (AV.sc (.int .i64 b0_8)), (AV.sc (.int .i64 b0_9)), (AV.sc (.int .i64 b0_10)), (AV.sc (.int .i64 b0_11)), (AV.sc (.int .i64 b0_12)), (AV.sc (.int .i64 b0_13)), (AV.sc (.int .i64 b0_14)), (AV.sc (.int .i64 b0_15))], 24⟩) :: (1, some ⟨[(AV.sc (.int .i64 b1_0)), (AV.sc (.int .i64 b1_1)), (AV.sc (.bool b1_2)), (AV.sc (.int .i64 b1_3))], 52⟩) :: (2, some ⟨[(AV.sc (.int .i64 b2_0)), (AV.sc (.int .i64 b2_1)), (AV.sc (.bool b2_2)), (AV.sc (.int .i64 b2_3))], 52⟩) :: m), 100000⟩
noncomputable def B39_0 (t6 : Int) (t7 : Int) (t19 : AV) (t20 : Int) (b0_0 : Int) (b0_1 : Int) (b0_2 : Int) (b0_3 : Int) (b0_4 : Int) (b0_5 : Int) (b0_6 : Int) (b0_7 : Int) (b0_8 : Int) (b0_9 : Int) (b0_10 : Int) (b0_11 : Int) (b0_12 : Int) (b0_13 : Int) (b0_14 : Int) (b0_15 : Int) (b1_0 : Int) (b1_1 : Int) (b1_2 : Bool) (b1_3 : Int) (b2_0 : Int) (b2_1 : Int) (b2_2 : Bool) (b2_3 : Int) (m : Mem) (R : AV → Mem → Prop) (N0 : St → Prop) : Prop :=
bif (decide (t20 < (2))) then (
opP (opA Try.prog (.index 100 (.tmp 0) (.tmp 1)) 52 [t19, (AV.sc (.int .i64 t20))] (mget ((0, some ⟨[(AV.sc (.int .i64 b0_0)), (AV.sc (.int .i64 b0_1)), (AV.sc (.int .i64 b0_2)), (AV.sc (.int .i64 b0_3)), (AV.sc (.int .i64 b0_4)), (AV.sc (.int .i64 b0_5)), (AV.sc (.int .i64 b0_6)), (AV.sc (.int .i64 b0_7)), (AV.sc (.int .i64 b0_8)), (AV.sc (.int .i64 b0_9)), (AV.sc (.int .i64 b0_10)), (AV.sc (.int .i64 b0_11)), (AV.sc (.int .i64 b0_12)), (AV.sc (.int .i64 b0_13)), (AV.sc (.int .i64 b0_14)), (AV.sc (.int .i64 b0_15))], 24⟩) :: (1, some ⟨[(AV.sc (.int .i64 b1_0)), (AV.sc (.int .i64 b1_1)), (AV.sc (.bool b1_2)), (AV.sc (.int .i64 b1_3))], 52⟩) :: (2, some ⟨[(AV.sc (.int .i64 b2_0)), (AV.sc (.int .i64 b2_1)), (AV.sc (.bool b2_2)), (AV.sc (.int .i64 b2_3))], 52⟩) :: m)) 100001) fun v3 =>
exA4 v3 fun c4 c5 c6 c7 =>
ex_i64 c4 fun z8 =>
ex_i64 c5 fun z9 =>
exB c6 fun b10 =>
ex_i64 c7 fun z11 =>
opN (bsl 100005 52 4 1 [(AV.sc (.int .i64 (0))), (AV.sc (.int .i64 (0))), (AV.sc (.bool false)), (AV.sc (.int .i64 (0)))] [(0, (AV.agg [(AV.sc (.int .i64 z8)), (AV.sc (.int .i64 z9)), (AV.sc (.bool b10)), (AV.sc (.int .i64 z11))]))]) ((100002, some ⟨[(AV.sc (.int .i64 z8)), (AV.sc (.int .i64 z9)), (AV.sc (.bool b10)), (AV.sc (.int .i64 z11))], 52⟩) :: (100002, some ⟨[(AV.sc (.int .i64 (0))), (AV.sc (.int .i64 (0))), (AV.sc (.bool false)), (AV.sc (.int .i64 (0)))], 52⟩) :: (0, some ⟨[(AV.sc (.int .i64 b0_0)), (AV.sc (.int .i64 b0_1)), (AV.sc (.int .i64 b0_2)), (AV.sc (.int .i64 b0_3)), (AV.sc (.int .i64 b0_4)), (AV.sc (.int .i64 b0_5)), (AV.sc (.int .i64 b0_6)), (AV.sc (.int .i64 b0_7)), (AV.sc (.int .i64 b0_8)), (AV.sc (.int .i64 b0_9)), (AV.sc (.int .i64 b0_10)), (AV.sc (.int .i64 b0_11)), (AV.sc (.int .i64 b0_12)), (AV.sc (.int .i64 b0_13)), (AV.sc (.int .i64 b0_14)), (AV.sc (.int .i64 b0_15))], 24⟩) :: (1, some ⟨[(AV.sc (.int .i64 b1_0)), (AV.sc (.int .i64 b1_1)), (AV.sc (.bool b1_2)), (AV.sc (.int .i64 b1_3))], 52⟩) :: (2, some ⟨[(AV.sc (.int .i64 b2_0)), (AV.sc (.int .i64 b2_1)), (AV.sc (.bool b2_2)), (AV.sc (.int .i64 b2_3))], 52⟩) :: m) fun v12 m12 =>
callQ Try.prog KK.gl m12 40 [v12] fun v13 =>
ex_i64 v13 fun z14 =>
bif (z14 != (0)) then (
retL R m12 [some (AV.sc (.int .i64 (0))), some (AV.sc (.int .i64 z14))]) else (
N0 ⟨[(3, (AV.ptr 0 0)), (4, (AV.ptr 1 0)), (5, (AV.ptr 2 0)), (6, (AV.sc (.int .i64 t6))), (7, (AV.sc (.int .i64 t7))), (19, t19), (20, (AV.sc (.int .i64 (IntKind.wrap .i64 (t20 + (1)))))), (21, (AV.sc (.bool (decide (t20 < (2)))))), (22, (AV.agg [(AV.sc (.int .i64 z8)), (AV.sc (.int .i64 z9)), (AV.sc (.bool b10)), (AV.sc (.int .i64 z11))])), (10, (AV.ptr 100002 0)), (23, (AV.agg [(AV.sc (.int .i64 z8)), (AV.sc (.int .i64 z9)), (AV.sc (.bool b10)), (AV.sc (.int .i64 z11))])), (24, v12), (25, (AV.sc (.int .i64 z14))), (11, (AV.sc (.int .i64 z14))), (26, (AV.sc (.int .i64 z14))), (27, (AV.sc (.bool (z14 != (0))))), (29, (AV.sc (.int .i64 (IntKind.wrap .i64 (t20 + (1))))))], m12, 100075⟩)) else (
callQ Try.prog KK.gl ((0, some ⟨[(AV.sc (.int .i64 b0_0)), (AV.sc (.int .i64 b0_1)), (AV.sc (.int .i64 b0_2)), (AV.sc (.int .i64 b0_3)), (AV.sc (.int .i64 b0_4)), (AV.sc (.int .i64 b0_5)), (AV.sc (.int .i64 b0_6)), (AV.sc (.int .i64 b0_7)), (AV.sc (.int .i64 b0_8)), (AV.sc (.int .i64 b0_9)), (AV.sc (.int .i64 b0_10)), (AV.sc (.int .i64 b0_11)), (AV.sc (.int .i64 b0_12)), (AV.sc (.int .i64 b0_13)), (AV.sc (.int .i64 b0_14)), (AV.sc (.int .i64 b0_15))], 24⟩) :: (1, some ⟨[(AV.sc (.int .i64 b1_0)), (AV.sc (.int .i64 b1_1)), (AV.sc (.bool b1_2)), (AV.sc (.int .i64 b1_3))], 52⟩) :: (2, some ⟨[(AV.sc (.int .i64 b2_0)), (AV.sc (.int .i64 b2_1)), (AV.sc (.bool b2_2)), (AV.sc (.int .i64 b2_3))], 52⟩) :: m) 45 [(AV.agg [(AV.sc (.int .i64 b0_0)), (AV.sc (.int .i64 b0_1)), (AV.sc (.int .i64 b0_2)), (AV.sc (.int .i64 b0_3)), (AV.sc (.int .i64 b0_4)), (AV.sc (.int .i64 b0_5)), (AV.sc (.int .i64 b0_6)), (AV.sc (.int .i64 b0_7)), (AV.sc (.int .i64 b0_8)), (AV.sc (.int .i64 b0_9)), (AV.sc (.int .i64 b0_10)), (AV.sc (.int .i64 b0_11)), (AV.sc (.int .i64 b0_12)), (AV.sc (.int .i64 b0_13)), (AV.sc (.int .i64 b0_14)), (AV.sc (.int .i64 b0_15))]), (AV.agg [(AV.sc (.int .i64 b1_0)), (AV.sc (.int .i64 b1_1)), (AV.sc (.bool b1_2)), (AV.sc (.int .i64 b1_3))]), (AV.agg [(AV.sc (.int .i64 b2_0)), (AV.sc (.int .i64 b2_1)), (AV.sc (.bool b2_2)), (AV.sc (.int .i64 b2_3))])] fun v15 =>
ex_i64 v15 fun z16 =>
retL R ((0, some ⟨[(AV.sc (.int .i64 b0_0)), (AV.sc (.int .i64 b0_1)), (AV.sc (.int .i64 b0_2)), (AV.sc (.int .i64 b0_3)), (AV.sc (.int .i64 b0_4)), (AV.sc (.int .i64 b0_5)), (AV.sc (.int .i64 b0_6)), (AV.sc (.int .i64 b0_7)), (AV.sc (.int .i64 b0_8)), (AV.sc (.int .i64 b0_9)), (AV.sc (.int .i64 b0_10)), (AV.sc (.int .i64 b0_11)), (AV.sc (.int .i64 b0_12)), (AV.sc (.int .i64 b0_13)), (AV.sc (.int .i64 b0_14)), (AV.sc (.int .i64 b0_15))], 24⟩) :: (1, some ⟨[(AV.sc (.int .i64 b1_0)), (AV.sc (.int .i64 b1_1)), (AV.sc (.bool b1_2)), (AV.sc (.int .i64 b1_3))], 52⟩) :: (2, some ⟨[(AV.sc (.int .i64 b2_0)), (AV.sc (.int .i64 b2_1)), (AV.sc (.bool b2_2)), (AV.sc (.int .i64 b2_3))], 52⟩) :: m) [some (AV.sc (.int .i64 z16)), some (AV.sc (.int .i64 (0)))])
theorem B39_0_eq (t6 : Int) (t7 : Int) (t19 : AV) (t20 : Int) (b0_0 : Int) (b0_1 : Int) (b0_2 : Int) (b0_3 : Int) (b0_4 : Int) (b0_5 : Int) (b0_6 : Int) (b0_7 : Int) (b0_8 : Int) (b0_9 : Int) (b0_10 : Int) (b0_11 : Int) (b0_12 : Int) (b0_13 : Int) (b0_14 : Int) (b0_15 : Int) (b1_0 : Int) (b1_1 : Int) (b1_2 : Bool) (b1_3 : Int) (b2_0 : Int) (b2_1 : Int) (b2_2 : Bool) (b2_3 : Int) (m : Mem) (R : AV → Mem → Prop) (N0 : St → Prop) : W Try.prog KK 34 0 c39_0 (h39_0 t6 t7 t19 t20 b0_0 b0_1 b0_2 b0_3 b0_4 b0_5 b0_6 b0_7 b0_8 b0_9 b0_10 b0_11 b0_12 b0_13 b0_14 b0_15 b1_0 b1_1 b1_2 b1_3 b2_0 b2_1 b2_2 b2_3 m) (qq39_0 R N0) = B39_0 t6 t7 t19 t20 b0_0 b0_1 b0_2 b0_3 b0_4 b0_5 b0_6 b0_7 b0_8 b0_9 b0_10 b0_11 b0_12 b0_13 b0_14 b0_15 b1_0 b1_1 b1_2 b1_3 b2_0 b2_1 b2_2 b2_3 m R N0 := by kernel_rfl
theorem L39_0 (R : AV → Mem → Prop) {σ : Type} (I : σ → Prop) (t6 : σ → Int) (t7 : σ → Int) (t19 : σ → AV) (t20 : σ → Int) (b0_0 : σ → Int) (b0_1 : σ → Int) (b0_2 : σ → Int) (b0_3 : σ → Int) (b0_4 : σ → Int) (b0_5 : σ → Int) (b0_6 : σ → Int) (b0_7 : σ → Int) (b0_8 : σ → Int) (b0_9 : σ → Int) (b0_10 : σ → Int) (b0_11 : σ → Int) (b0_12 : σ → Int) (b0_13 : σ → Int) (b0_14 : σ → Int) (b0_15 : σ → Int) (b1_0 : σ → Int) (b1_1 : σ → Int) (b1_2 : σ → Bool) (b1_3 : σ → Int) (b2_0 : σ → Int) (b2_1 : σ → Int) (b2_2 : σ → Bool) (b2_3 : σ → Int) (m : σ → Mem) (μ : σ → Nat) (step : ∀ x, I x → B39_0 (t6 x) (t7 x) (t19 x) (t20 x) (b0_0 x) (b0_1 x) (b0_2 x) (b0_3 x) (b0_4 x) (b0_5 x) (b0_6 x) (b0_7 x) (b0_8 x) (b0_9 x) (b0_10 x) (b0_11 x) (b0_12 x) (b0_13 x) (b0_14 x) (b0_15 x) (b1_0 x) (b1_1 x) (b1_2 x) (b1_3 x) (b2_0 x) (b2_1 x) (b2_2 x) (b2_3 x) (m x) R (fun s' => ∃ y, I y ∧ μ y < μ x ∧ Weak KK 34 0 s' (h39_0 (t6 y) (t7 y) (t19 y) (t20 y) (b0_0 y) (b0_1 y) (b0_2 y) (b0_3 y) (b0_4 y) (b0_5 y) (b0_6 y) (b0_7 y) (b0_8 y) (b0_9 y) (b0_10 y) (b0_11 y) (b0_12 y) (b0_13 y) (b0_14 y) (b0_15 y) (b1_0 y) (b1_1 y) (b1_2 y) (b1_3 y) (b2_0 y) (b2_1 y) (b2_2 y) (b2_3 y) (m y)))) (x : σ) (hx : I x) {s : St} (hw : Weak KK 34 0 s (h39_0 (t6 x) (t7 x) (t19 x) (t20 x) (b0_0 x) (b0_1 x) (b0_2 x) (b0_3 x) (b0_4 x) (b0_5 x) (b0_6 x) (b0_7 x) (b0_8 x) (b0_9 x) (b0_10 x) (b0_11 x) (b0_12 x) (b0_13 x) (b0_14 x) (b0_15 x) (b1_0 x) (b1_1 x) (b1_2 x) (b1_3 x) (b2_0 x) (b2_1 x) (b2_2 x) (b2_3 x) (m x))) : Tri Try.prog KK 34 0 (.loop c39_0) s (q39_0 R) :=
  Tri.weak hw (Tri.loops fol I (fun x => h39_0 (t6 x) (t7 x) (t19 x) (t20 x) (b0_0 x) (b0_1 x) (b0_2 x) (b0_3 x) (b0_4 x) (b0_5 x) (b0_6 x) (b0_7 x) (b0_8 x) (b0_9 x) (b0_10 x) (b0_11 x) (b0_12 x) (b0_13 x) (b0_14 x) (b0_15 x) (b1_0 x) (b1_1 x) (b1_2 x) (b1_3 x) (b2_0 x) (b2_1 x) (b2_2 x) (b2_3 x) (m x)) μ (fun x hx => (B39_0_eq (t6 x) (t7 x) (t19 x) (t20 x) (b0_0 x) (b0_1 x) (b0_2 x) (b0_3 x) (b0_4 x) (b0_5 x) (b0_6 x) (b0_7 x) (b0_8 x) (b0_9 x) (b0_10 x) (b0_11 x) (b0_12 x) (b0_13 x) (b0_14 x) (b0_15 x) (b1_0 x) (b1_1 x) (b1_2 x) (b1_3 x) (b2_0 x) (b2_1 x) (b2_2 x) (b2_3 x) (m x) R _).mpr (step x hx)) x hx)
noncomputable def F39 (a0_0 : Int) (a0_1 : Int) (a0_2 : Int) (a0_3 : Int) (a0_4 : Int) (a0_5 : Int) (a0_6 : Int) (a0_7 : Int) (a0_8 : Int) (a0_9 : Int) (a0_10 : Int) (a0_11 : Int) (a0_12 : Int) (a0_13 : Int) (a0_14 : Int) (a0_15 : Int) (a1_0 : Int) (a1_1 : Int) (a1_2 : Bool) (a1_3 : Int) (a2_0 : Int) (a2_1 : Int) (a2_2 : Bool) (a2_3 : Int) (R : AV → Mem → Prop) : Prop :=
callQ Try.prog KK.gl ((2, some ⟨[(AV.sc (.int .i64 a2_0)), (AV.sc (.int .i64 a2_1)), (AV.sc (.bool a2_2)), (AV.sc (.int .i64 a2_3))], 52⟩) :: (1, some ⟨[(AV.sc (.int .i64 a1_0)), (AV.sc (.int .i64 a1_1)), (AV.sc (.bool a1_2)), (AV.sc (.int .i64 a1_3))], 52⟩) :: (0, some ⟨[(AV.sc (.int .i64 a0_0)), (AV.sc (.int .i64 a0_1)), (AV.sc (.int .i64 a0_2)), (AV.sc (.int .i64 a0_3)), (AV.sc (.int .i64 a0_4)), (AV.sc (.int .i64 a0_5)), (AV.sc (.int .i64 a0_6)), (AV.sc (.int .i64 a0_7)), (AV.sc (.int .i64 a0_8)), (AV.sc (.int .i64 a0_9)), (AV.sc (.int .i64 a0_10)), (AV.sc (.int .i64 a0_11)), (AV.sc (.int .i64 a0_12)), (AV.sc (.int .i64 a0_13)), (AV.sc (.int .i64 a0_14)), (AV.sc (.int .i64 a0_15))], 24⟩) :: []) 36 [(AV.agg [(AV.sc (.int .i64 a0_0)), (AV.sc (.int .i64 a0_1)), (AV.sc (.int .i64 a0_2)), (AV.sc (.int .i64 a0_3)), (AV.sc (.int .i64 a0_4)), (AV.sc (.int .i64 a0_5)), (AV.sc (.int .i64 a0_6)), (AV.sc (.int .i64 a0_7)), (AV.sc (.int .i64 a0_8)), (AV.sc (.int .i64 a0_9)), (AV.sc (.int .i64 a0_10)), (AV.sc (.int .i64 a0_11)), (AV.sc (.int .i64 a0_12)), (AV.sc (.int .i64 a0_13)), (AV.sc (.int .i64 a0_14)), (AV.sc (.int .i64 a0_15))])] fun v0 =>
ex_i64 v0 fun z1 =>
bif (z1 != (0)) then (
retL R ((2, some ⟨[(AV.sc (.int .i64 a2_0)), (AV.sc (.int .i64 a2_1)), (AV.sc (.bool a2_2)), (AV.sc (.int .i64 a2_3))], 52⟩) :: (1, some ⟨[(AV.sc (.int .i64 a1_0)), (AV.sc (.int .i64 a1_1)), (AV.sc (.bool a1_2)), (AV.sc (.int .i64 a1_3))], 52⟩) :: (0, some ⟨[(AV.sc (.int .i64 a0_0)), (AV.sc (.int .i64 a0_1)), (AV.sc (.int .i64 a0_2)), (AV.sc (.int .i64 a0_3)), (AV.sc (.int .i64 a0_4)), (AV.sc (.int .i64 a0_5)), (AV.sc (.int .i64 a0_6)), (AV.sc (.int .i64 a0_7)), (AV.sc (.int .i64 a0_8)), (AV.sc (.int .i64 a0_9)), (AV.sc (.int .i64 a0_10)), (AV.sc (.int .i64 a0_11)), (AV.sc (.int .i64 a0_12)), (AV.sc (.int .i64 a0_13)), (AV.sc (.int .i64 a0_14)), (AV.sc (.int .i64 a0_15))], 24⟩) :: []) [some (AV.sc (.int .i64 (0))), some (AV.sc (.int .i64 z1))]) else (
opP (opA Try.prog (.build 100 #[(0, .tmp 0), (1, .tmp 1)]) 100 [(AV.agg [(AV.sc (.int .i64 a1_0)), (AV.sc (.int .i64 a1_1)), (AV.sc (.bool a1_2)), (AV.sc (.int .i64 a1_3))]), (AV.agg [(AV.sc (.int .i64 a2_0)), (AV.sc (.int .i64 a2_1)), (AV.sc (.bool a2_2)), (AV.sc (.int .i64 a2_3))])] (mget ((2, some ⟨[(AV.sc (.int .i64 a2_0)), (AV.sc (.int .i64 a2_1)), (AV.sc (.bool a2_2)), (AV.sc (.int .i64 a2_3))], 52⟩) :: (1, some ⟨[(AV.sc (.int .i64 a1_0)), (AV.sc (.int .i64 a1_1)), (AV.sc (.bool a1_2)), (AV.sc (.int .i64 a1_3))], 52⟩) :: (0, some ⟨[(AV.sc (.int .i64 a0_0)), (AV.sc (.int .i64 a0_1)), (AV.sc (.int .i64 a0_2)), (AV.sc (.int .i64 a0_3)), (AV.sc (.int .i64 a0_4)), (AV.sc (.int .i64 a0_5)), (AV.sc (.int .i64 a0_6)), (AV.sc (.int .i64 a0_7)), (AV.sc (.int .i64 a0_8)), (AV.sc (.int .i64 a0_9)), (AV.sc (.int .i64 a0_10)), (AV.sc (.int .i64 a0_11)), (AV.sc (.int .i64 a0_12)), (AV.sc (.int .i64 a0_13)), (AV.sc (.int .i64 a0_14)), (AV.sc (.int .i64 a0_15))], 24⟩) :: [])) 75) fun v2 =>
Tri Try.prog KK 34 0 (.loop c39_0) ⟨[(0, (AV.agg [(AV.sc (.int .i64 a0_0)), (AV.sc (.int .i64 a0_1)), (AV.sc (.int .i64 a0_2)), (AV.sc (.int .i64 a0_3)), (AV.sc (.int .i64 a0_4)), (AV.sc (.int .i64 a0_5)), (AV.sc (.int .i64 a0_6)), (AV.sc (.int .i64 a0_7)), (AV.sc (.int .i64 a0_8)), (AV.sc (.int .i64 a0_9)), (AV.sc (.int .i64 a0_10)), (AV.sc (.int .i64 a0_11)), (AV.sc (.int .i64 a0_12)), (AV.sc (.int .i64 a0_13)), (AV.sc (.int .i64 a0_14)), (AV.sc (.int .i64 a0_15))])), (1, (AV.agg [(AV.sc (.int .i64 a1_0)), (AV.sc (.int .i64 a1_1)), (AV.sc (.bool a1_2)), (AV.sc (.int .i64 a1_3))])), (2, (AV.agg [(AV.sc (.int .i64 a2_0)), (AV.sc (.int .i64 a2_1)), (AV.sc (.bool a2_2)), (AV.sc (.int .i64 a2_3))])), (3, (AV.ptr 0 0)), (4, (AV.ptr 1 0)), (5, (AV.ptr 2 0)), (6, (AV.sc (.int .i64 (0)))), (7, (AV.sc (.int .i64 (0)))), (12, (AV.agg [(AV.sc (.int .i64 a0_0)), (AV.sc (.int .i64 a0_1)), (AV.sc (.int .i64 a0_2)), (AV.sc (.int .i64 a0_3)), (AV.sc (.int .i64 a0_4)), (AV.sc (.int .i64 a0_5)), (AV.sc (.int .i64 a0_6)), (AV.sc (.int .i64 a0_7)), (AV.sc (.int .i64 a0_8)), (AV.sc (.int .i64 a0_9)), (AV.sc (.int .i64 a0_10)), (AV.sc (.int .i64 a0_11)), (AV.sc (.int .i64 a0_12)), (AV.sc (.int .i64 a0_13)), (AV.sc (.int .i64 a0_14)), (AV.sc (.int .i64 a0_15))])), (13, (AV.sc (.int .i64 z1))), (8, (AV.sc (.int .i64 z1))), (14, (AV.sc (.int .i64 z1))), (15, (AV.sc (.bool (z1 != (0))))), (17, (AV.agg [(AV.sc (.int .i64 a1_0)), (AV.sc (.int .i64 a1_1)), (AV.sc (.bool a1_2)), (AV.sc (.int .i64 a1_3))])), (18, (AV.agg [(AV.sc (.int .i64 a2_0)), (AV.sc (.int .i64 a2_1)), (AV.sc (.bool a2_2)), (AV.sc (.int .i64 a2_3))])), (19, v2), (20, (AV.sc (.int .i64 (0))))], ((2, some ⟨[(AV.sc (.int .i64 a2_0)), (AV.sc (.int .i64 a2_1)), (AV.sc (.bool a2_2)), (AV.sc (.int .i64 a2_3))], 52⟩) :: (1, some ⟨[(AV.sc (.int .i64 a1_0)), (AV.sc (.int .i64 a1_1)), (AV.sc (.bool a1_2)), (AV.sc (.int .i64 a1_3))], 52⟩) :: (0, some ⟨[(AV.sc (.int .i64 a0_0)), (AV.sc (.int .i64 a0_1)), (AV.sc (.int .i64 a0_2)), (AV.sc (.int .i64 a0_3)), (AV.sc (.int .i64 a0_4)), (AV.sc (.int .i64 a0_5)), (AV.sc (.int .i64 a0_6)), (AV.sc (.int .i64 a0_7)), (AV.sc (.int .i64 a0_8)), (AV.sc (.int .i64 a0_9)), (AV.sc (.int .i64 a0_10)), (AV.sc (.int .i64 a0_11)), (AV.sc (.int .i64 a0_12)), (AV.sc (.int .i64 a0_13)), (AV.sc (.int .i64 a0_14)), (AV.sc (.int .i64 a0_15))], 24⟩) :: []), 77⟩ (q39_0 R))
theorem F39_own (a0_0 : Int) (a0_1 : Int) (a0_2 : Int) (a0_3 : Int) (a0_4 : Int) (a0_5 : Int) (a0_6 : Int) (a0_7 : Int) (a0_8 : Int) (a0_9 : Int) (a0_10 : Int) (a0_11 : Int) (a0_12 : Int) (a0_13 : Int) (a0_14 : Int) (a0_15 : Int) (a1_0 : Int) (a1_1 : Int) (a1_2 : Bool) (a1_3 : Int) (a2_0 : Int) (a2_1 : Int) (a2_2 : Bool) (a2_3 : Int) (R : AV → Mem → Prop) (h : F39 a0_0 a0_1 a0_2 a0_3 a0_4 a0_5 a0_6 a0_7 a0_8 a0_9 a0_10 a0_11 a0_12 a0_13 a0_14 a0_15 a1_0 a1_1 a1_2 a1_3 a2_0 a2_1 a2_2 a2_3 R) : Own Try.prog KK.gl 39 [(AV.agg [(AV.sc (.int .i64 a0_0)), (AV.sc (.int .i64 a0_1)), (AV.sc (.int .i64 a0_2)), (AV.sc (.int .i64 a0_3)), (AV.sc (.int .i64 a0_4)), (AV.sc (.int .i64 a0_5)), (AV.sc (.int .i64 a0_6)), (AV.sc (.int .i64 a0_7)), (AV.sc (.int .i64 a0_8)), (AV.sc (.int .i64 a0_9)), (AV.sc (.int .i64 a0_10)), (AV.sc (.int .i64 a0_11)), (AV.sc (.int .i64 a0_12)), (AV.sc (.int .i64 a0_13)), (AV.sc (.int .i64 a0_14)), (AV.sc (.int .i64 a0_15))]), (AV.agg [(AV.sc (.int .i64 a1_0)), (AV.sc (.int .i64 a1_1)), (AV.sc (.bool a1_2)), (AV.sc (.int .i64 a1_3))]), (AV.agg [(AV.sc (.int .i64 a2_0)), (AV.sc (.int .i64 a2_1)), (AV.sc (.bool a2_2)), (AV.sc (.int .i64 a2_3))])] R := own_of_F fol Try.func39 (code := c39) (by kernel_rfl) (by kernel_rfl) (by kernel_rfl) (X := F39 a0_0 a0_1 a0_2 a0_3 a0_4 a0_5 a0_6 a0_7 a0_8 a0_9 a0_10 a0_11 a0_12 a0_13 a0_14 a0_15 a1_0 a1_1 a1_2 a1_3 a2_0 a2_1 a2_2 a2_3 R) (by kernel_rfl) h
/- skyway/skywaykeep3.runwayFact -/
noncomputable def c17 : Code := ((Try.f17).body).getD .skip
noncomputable def q17 (R : AV → Mem → Prop) : AExit → St → Prop := retQ Try.prog Try.f17 R
noncomputable def F17 (R : AV → Mem → Prop) : Prop :=
opP (bld [(AV.sc (.int .i64 (0))), (AV.sc (.int .i64 (0))), (AV.sc (.bool false)), (AV.sc (.int .i64 (0)))] [(0, 1), (1, 1), (2, 1), (3, 1)] [(0, (AV.sc (.int .i64 (100)))), (1, (AV.sc (.int .i64 (1))))]) fun v0 =>
opN (bsl 2 52 4 1 [(AV.sc (.int .i64 (0))), (AV.sc (.int .i64 (0))), (AV.sc (.bool false)), (AV.sc (.int .i64 (0)))] [(0, v0)]) [] fun v1 m1 =>
opP (bld [(AV.sc (.int .i64 (0))), (AV.sc (.int .i64 (0)))] [(0, 1), (1, 1)] []) fun v2 =>
opN (bsl 4 45 2 1 [(AV.sc (.int .i64 (0))), (AV.sc (.int .i64 (0)))] [(0, v2)]) m1 fun v3 m3 =>
callQ Try.prog KK.gl m3 35 [] fun v4 =>
exA16 v4 fun c5 c6 c7 c8 c9 c10 c11 c12 c13 c14 c15 c16 c17 c18 c19 c20 =>
ex_i64 c5 fun z21 =>
ex_i64 c6 fun z22 =>
ex_i64 c7 fun z23 =>
ex_i64 c8 fun z24 =>
ex_i64 c9 fun z25 =>
ex_i64 c10 fun z26 =>
ex_i64 c11 fun z27 =>
ex_i64 c12 fun z28 =>
ex_i64 c13 fun z29 =>
ex_i64 c14 fun z30 =>
ex_i64 c15 fun z31 =>
ex_i64 c16 fun z32 =>
ex_i64 c17 fun z33 =>
ex_i64 c18 fun z34 =>
ex_i64 c19 fun z35 =>
ex_i64 c20 fun z36 =>
opP (bld [(AV.sc (.int .i64 (0))), (AV.sc (.int .i64 (0)))] [(0, 1), (1, 1)] [(0, (AV.sc (.int .i64 (100)))), (1, (AV.sc (.int .i64 (1))))]) fun v37 =>
opN (bsl 77 78 2 1 [(AV.sc (.int .i64 (0))), (AV.sc (.int .i64 (0)))] [(0, v37)]) ((69, some ⟨[(AV.sc (.int .i64 z21)), (AV.sc (.int .i64 z22)), (AV.sc (.int .i64 z23)), (AV.sc (.int .i64 z24)), (AV.sc (.int .i64 z25)), (AV.sc (.int .i64 z26)), (AV.sc (.int .i64 z27)), (AV.sc (.int .i64 z28)), (AV.sc (.int .i64 z29)), (AV.sc (.int .i64 z30)), (AV.sc (.int .i64 z31)), (AV.sc (.int .i64 z32)), (AV.sc (.int .i64 z33)), (AV.sc (.int .i64 z34)), (AV.sc (.int .i64 z35)), (AV.sc (.int .i64 z36))], 24⟩) :: (69, some ⟨[(AV.sc (.int .i64 (0))), (AV.sc (.int .i64 (0))), (AV.sc (.int .i64 (0))), (AV.sc (.int .i64 (0))), (AV.sc (.int .i64 (0))), (AV.sc (.int .i64 (0))), (AV.sc (.int .i64 (0))), (AV.sc (.int .i64 (0))), (AV.sc (.int .i64 (0))), (AV.sc (.int .i64 (0))), (AV.sc (.int .i64 (0))), (AV.sc (.int .i64 (0))), (AV.sc (.int .i64 (0))), (AV.sc (.int .i64 (0))), (AV.sc (.int .i64 (0))), (AV.sc (.int .i64 (0)))], 24⟩) :: m3) fun v38 m38 =>
callW Try.prog KK.gl m38 78 21 [v1, v3, (AV.agg [(AV.sc (.int .i64 z21)), (AV.sc (.int .i64 z22)), (AV.sc (.int .i64 z23)), (AV.sc (.int .i64 z24)), (AV.sc (.int .i64 z25)), (AV.sc (.int .i64 z26)), (AV.sc (.int .i64 z27)), (AV.sc (.int .i64 z28)), (AV.sc (.int .i64 z29)), (AV.sc (.int .i64 z30)), (AV.sc (.int .i64 z31)), (AV.sc (.int .i64 z32)), (AV.sc (.int .i64 z33)), (AV.sc (.int .i64 z34)), (AV.sc (.int .i64 z35)), (AV.sc (.int .i64 z36))]), v38] fun v39 m39 =>
exT2 v39 fun c40 c41 =>
ex_i64 c41 fun z42 =>
opP (ldA (mget m39) 16 (AV.ptr 69 0)) fun v43 =>
exA16 v43 fun c44 c45 c46 c47 c48 c49 c50 c51 c52 c53 c54 c55 c56 c57 c58 c59 =>
ex_i64 c44 fun z60 =>
ex_i64 c45 fun z61 =>
ex_i64 c46 fun z62 =>
ex_i64 c47 fun z63 =>
ex_i64 c48 fun z64 =>
ex_i64 c49 fun z65 =>
ex_i64 c50 fun z66 =>
ex_i64 c51 fun z67 =>
ex_i64 c52 fun z68 =>
ex_i64 c53 fun z69 =>
ex_i64 c54 fun z70 =>
ex_i64 c55 fun z71 =>
ex_i64 c56 fun z72 =>
ex_i64 c57 fun z73 =>
ex_i64 c58 fun z74 =>
ex_i64 c59 fun z75 =>
callQ Try.prog KK.gl m39 19 [c40, v3, (AV.agg [(AV.sc (.int .i64 z60)), (AV.sc (.int .i64 z61)), (AV.sc (.int .i64 z62)), (AV.sc (.int .i64 z63)), (AV.sc (.int .i64 z64)), (AV.sc (.int .i64 z65)), (AV.sc (.int .i64 z66)), (AV.sc (.int .i64 z67)), (AV.sc (.int .i64 z68)), (AV.sc (.int .i64 z69)), (AV.sc (.int .i64 z70)), (AV.sc (.int .i64 z71)), (AV.sc (.int .i64 z72)), (AV.sc (.int .i64 z73)), (AV.sc (.int .i64 z74)), (AV.sc (.int .i64 z75))])] fun v76 =>
exT3 v76 fun c77 c78 c79 =>
ex_i64 c77 fun z80 =>
ex_i64 c78 fun z81 =>
ex_i64 c79 fun z82 =>
callW Try.prog KK.gl m39 223 18 [c40, v3, (AV.sc (.int .i64 (1000)))] fun v83 m83 =>
exT2 v83 fun c84 c85 =>
ex_i64 c85 fun z86 =>
callQ Try.prog KK.gl m83 20 [c84, (AV.sc (.int .i64 (821)))] fun v87 =>
exT2 v87 fun c88 c89 =>
ex_i64 c88 fun z90 =>
ex_i64 c89 fun z91 =>
callQ Try.prog KK.gl m83 20 [c84, (AV.sc (.int .i64 (1180)))] fun v92 =>
exT2 v92 fun c93 c94 =>
ex_i64 c93 fun z95 =>
ex_i64 c94 fun z96 =>
opP (lenS c40) fun v97 =>
ex_i64 v97 fun z98 =>
bif (z98 != (2)) then (
retL R m83 [some (AV.sc (.bool false))]) else (
opP (ldA (mget m83) 16 (AV.ptr 69 0)) fun v99 =>
exA16 v99 fun c100 c101 c102 c103 c104 c105 c106 c107 c108 c109 c110 c111 c112 c113 c114 c115 =>
ex_i64 c100 fun z116 =>
ex_i64 c101 fun z117 =>
ex_i64 c102 fun z118 =>
ex_i64 c103 fun z119 =>
ex_i64 c104 fun z120 =>
ex_i64 c105 fun z121 =>
ex_i64 c106 fun z122 =>
ex_i64 c107 fun z123 =>
ex_i64 c108 fun z124 =>
ex_i64 c109 fun z125 =>
ex_i64 c110 fun z126 =>
ex_i64 c111 fun z127 =>
ex_i64 c112 fun z128 =>
ex_i64 c113 fun z129 =>
ex_i64 c114 fun z130 =>
ex_i64 c115 fun z131 =>
opP (idxS 4 c40 (AV.sc (.int .i64 (0)))) fun v132 =>
opP (ldA (mget m83) 4 v132) fun v133 =>
exA4 v133 fun c134 c135 c136 c137 =>
ex_i64 c134 fun z138 =>
ex_i64 c135 fun z139 =>
exB c136 fun b140 =>
ex_i64 c137 fun z141 =>
opP (idxS 4 c40 (AV.sc (.int .i64 (1)))) fun v142 =>
opP (ldA (mget m83) 4 v142) fun v143 =>
exA4 v143 fun c144 c145 c146 c147 =>
ex_i64 c144 fun z148 =>
ex_i64 c145 fun z149 =>
exB c146 fun b150 =>
ex_i64 c147 fun z151 =>
callQ Try.prog KK.gl m83 39 [(AV.agg [(AV.sc (.int .i64 z116)), (AV.sc (.int .i64 z117)), (AV.sc (.int .i64 z118)), (AV.sc (.int .i64 z119)), (AV.sc (.int .i64 z120)), (AV.sc (.int .i64 z121)), (AV.sc (.int .i64 z122)), (AV.sc (.int .i64 z123)), (AV.sc (.int .i64 z124)), (AV.sc (.int .i64 z125)), (AV.sc (.int .i64 z126)), (AV.sc (.int .i64 z127)), (AV.sc (.int .i64 z128)), (AV.sc (.int .i64 z129)), (AV.sc (.int .i64 z130)), (AV.sc (.int .i64 z131))]), (AV.agg [(AV.sc (.int .i64 z138)), (AV.sc (.int .i64 z139)), (AV.sc (.bool b140)), (AV.sc (.int .i64 z141))]), (AV.agg [(AV.sc (.int .i64 z148)), (AV.sc (.int .i64 z149)), (AV.sc (.bool b150)), (AV.sc (.int .i64 z151))])] fun v152 =>
exT2 v152 fun c153 c154 =>
ex_i64 c153 fun z155 =>
ex_i64 c154 fun z156 =>
opM (idxS 4 v1 (AV.sc (.int .i64 (0)))) fun v157 d157 =>
opM (ldA (look' (mpushs m83 d157) (topId v157 ++ ([]))) 4 v157) fun v158 d158 =>
exA4 v158 fun c159 c160 c161 c162 =>
ex_i64 c159 fun z163 =>
ex_i64 c160 fun z164 =>
exB c161 fun b165 =>
ex_i64 c162 fun z166 =>
opM (idxS 4 v1 (AV.sc (.int .i64 (0)))) fun v167 d167 =>
opM (ldA (look' (mpushs (mpushs (mpushs m83 d157) d158) d167) (topId v167 ++ ([]))) 4 v167) fun v168 d168 =>
exA4 v168 fun c169 c170 c171 c172 =>
ex_i64 c169 fun z173 =>
ex_i64 c170 fun z174 =>
exB c171 fun b175 =>
ex_i64 c172 fun z176 =>
opM (bsl 454 52 4 2 [(AV.sc (.int .i64 (0))), (AV.sc (.int .i64 (0))), (AV.sc (.bool false)), (AV.sc (.int .i64 (0)))] [(0, (AV.agg [(AV.sc (.int .i64 z163)), (AV.sc (.int .i64 z164)), (AV.sc (.bool b165)), (AV.sc (.int .i64 z166))])), (1, (AV.agg [(AV.sc (.int .i64 z173)), (AV.sc (.int .i64 z174)), (AV.sc (.bool b175)), (AV.sc (.int .i64 z176))]))]) fun v177 d177 =>
opM (ldA (look' (mpushs (mpushs (mpushs (mpushs (mpushs m83 d157) d158) d167) d168) d177) (topId (AV.ptr 69 0) ++ ([]))) 16 (AV.ptr 69 0)) fun v178 d178 =>
exA16 v178 fun c179 c180 c181 c182 c183 c184 c185 c186 c187 c188 c189 c190 c191 c192 c193 c194 =>
ex_i64 c179 fun z195 =>
ex_i64 c180 fun z196 =>
ex_i64 c181 fun z197 =>
ex_i64 c182 fun z198 =>
ex_i64 c183 fun z199 =>
ex_i64 c184 fun z200 =>
ex_i64 c185 fun z201 =>
ex_i64 c186 fun z202 =>
ex_i64 c187 fun z203 =>
ex_i64 c188 fun z204 =>
ex_i64 c189 fun z205 =>
ex_i64 c190 fun z206 =>
ex_i64 c191 fun z207 =>
ex_i64 c192 fun z208 =>
ex_i64 c193 fun z209 =>
ex_i64 c194 fun z210 =>
callF Try.prog KK.gl (mpushs (mpushs (mpushs (mpushs (mpushs (mpushs m83 d157) d158) d167) d168) d177) d178) 457 19 [v177, v3, (AV.agg [(AV.sc (.int .i64 z195)), (AV.sc (.int .i64 z196)), (AV.sc (.int .i64 z197)), (AV.sc (.int .i64 z198)), (AV.sc (.int .i64 z199)), (AV.sc (.int .i64 z200)), (AV.sc (.int .i64 z201)), (AV.sc (.int .i64 z202)), (AV.sc (.int .i64 z203)), (AV.sc (.int .i64 z204)), (AV.sc (.int .i64 z205)), (AV.sc (.int .i64 z206)), (AV.sc (.int .i64 z207)), (AV.sc (.int .i64 z208)), (AV.sc (.int .i64 z209)), (AV.sc (.int .i64 z210))])] fun v211 d211 ft211 =>
exT3 v211 fun c212 c213 c214 =>
ex_i64 c212 fun z215 =>
ex_i64 c213 fun z216 =>
ex_i64 c214 fun z217 =>
chk (confOk [0, 1, 3, 0, 8, 24, 63, 0, 0, 511, 1023, 2047, 2047, 2047, 4095, 24575, 65535] [⟨[], []⟩, ⟨d157, []⟩, ⟨d158, (topId v157 ++ ([]))⟩, ⟨[], []⟩, ⟨d167, []⟩, ⟨d168, (topId v167 ++ ([]))⟩, ⟨d177, []⟩, ⟨[], []⟩, ⟨d178, (topId (AV.ptr 69 0) ++ ([]))⟩, ⟨d211, ft211⟩, ⟨[], []⟩, ⟨[], []⟩, ⟨[], []⟩, ⟨[], []⟩, ⟨[], []⟩, ⟨[], []⟩, ⟨[], []⟩]) (bif (z42 == (0)) then (
bif (z82 == (0)) then (
bif (z86 == (0)) then (
bif (z91 == (14)) then (
bif (z96 == (0)) then (
bif (z156 == (0)) then (
bif (z217 == (15)) then (
bif (z215 == (0)) then (
bif (z216 == (1)) then (
bif (z95 == (1)) then (
bif (z155 == (60)) then (
opP (idxS 4 c40 (AV.sc (.int .i64 (1)))) fun v218 =>
opP (ldA (mget (mpushs (mpushs (mpushs (mpushs (mpushs (mpushs (mpushs m83 d157) d158) d167) d168) d177) d178) d211)) 4 v218) fun v219 =>
exA4 v219 fun c220 c221 c222 c223 =>
ex_i64 c220 fun z224 =>
ex_i64 c221 fun z225 =>
exB c222 fun b226 =>
ex_i64 c223 fun z227 =>
opP (bld [(AV.sc (.int .i64 (0))), (AV.sc (.int .i64 (0))), (AV.sc (.bool false)), (AV.sc (.int .i64 (0)))] [(0, 1), (1, 1), (2, 1), (3, 1)] [(0, (AV.sc (.int .i64 (160)))), (1, (AV.sc (.int .i64 (1)))), (2, (AV.sc (.bool true)))]) fun v228 =>
opP (opA Try.prog (.binOp .eql 52 (.tmp 0) (.tmp 1) 52) 4 [(AV.agg [(AV.sc (.int .i64 z224)), (AV.sc (.int .i64 z225)), (AV.sc (.bool b226)), (AV.sc (.int .i64 z227))]), v228] (mget (mpushs (mpushs (mpushs (mpushs (mpushs (mpushs (mpushs m83 d157) d158) d167) d168) d177) d178) d211)) 512) fun v229 =>
exB v229 fun b230 =>
bif b230 then (
opP (bld [(AV.sc (.int .i64 (0))), (AV.sc (.int .i64 (0))), (AV.sc (.bool false)), (AV.sc (.int .i64 (0)))] [(0, 1), (1, 1), (2, 1), (3, 1)] [(3, (AV.sc (.int .i64 (2))))]) fun v231 =>
opN (bsl 516 52 4 1 [(AV.sc (.int .i64 (0))), (AV.sc (.int .i64 (0))), (AV.sc (.bool false)), (AV.sc (.int .i64 (0)))] [(0, v231)]) (mpushs (mpushs (mpushs (mpushs (mpushs (mpushs (mpushs m83 d157) d158) d167) d168) d177) d178) d211) fun v232 m232 =>
callQ Try.prog KK.gl m232 40 [v232] fun v233 =>
ex_i64 v233 fun z234 =>
bif (z234 == (1)) then (
callQ Try.prog KK.gl m232 41 [AV.nils] fun v235 =>
ex_i64 v235 fun z236 =>
retL R m232 [some (AV.sc (.bool (z236 == (8))))]) else (
retL R m232 [some (AV.sc (.bool false))])) else (
retL R (mpushs (mpushs (mpushs (mpushs (mpushs (mpushs (mpushs m83 d157) d158) d167) d168) d177) d178) d211) [some (AV.sc (.bool false))])) else (
retL R (mpushs (mpushs (mpushs (mpushs (mpushs (mpushs (mpushs m83 d157) d158) d167) d168) d177) d178) d211) [some (AV.sc (.bool false))])) else (
retL R (mpushs (mpushs (mpushs (mpushs (mpushs (mpushs (mpushs m83 d157) d158) d167) d168) d177) d178) d211) [some (AV.sc (.bool false))])) else (
retL R (mpushs (mpushs (mpushs (mpushs (mpushs (mpushs (mpushs m83 d157) d158) d167) d168) d177) d178) d211) [some (AV.sc (.bool false))])) else (
retL R (mpushs (mpushs (mpushs (mpushs (mpushs (mpushs (mpushs m83 d157) d158) d167) d168) d177) d178) d211) [some (AV.sc (.bool false))])) else (
retL R (mpushs (mpushs (mpushs (mpushs (mpushs (mpushs (mpushs m83 d157) d158) d167) d168) d177) d178) d211) [some (AV.sc (.bool false))])) else (
retL R (mpushs (mpushs (mpushs (mpushs (mpushs (mpushs (mpushs m83 d157) d158) d167) d168) d177) d178) d211) [some (AV.sc (.bool false))])) else (
retL R (mpushs (mpushs (mpushs (mpushs (mpushs (mpushs (mpushs m83 d157) d158) d167) d168) d177) d178) d211) [some (AV.sc (.bool false))])) else (
retL R (mpushs (mpushs (mpushs (mpushs (mpushs (mpushs (mpushs m83 d157) d158) d167) d168) d177) d178) d211) [some (AV.sc (.bool false))])) else (
retL R (mpushs (mpushs (mpushs (mpushs (mpushs (mpushs (mpushs m83 d157) d158) d167) d168) d177) d178) d211) [some (AV.sc (.bool false))])) else (
retL R (mpushs (mpushs (mpushs (mpushs (mpushs (mpushs (mpushs m83 d157) d158) d167) d168) d177) d178) d211) [some (AV.sc (.bool false))])) else (
retL R (mpushs (mpushs (mpushs (mpushs (mpushs (mpushs (mpushs m83 d157) d158) d167) d168) d177) d178) d211) [some (AV.sc (.bool false))])))
theorem F17_own (R : AV → Mem → Prop) (h : F17  R) : Own Try.prog KK.gl 17 [] R := own_of_F fol Try.func17 (code := c17) (by kernel_rfl) (by kernel_rfl) (by kernel_rfl) (X := F17  R) (by kernel_rfl) h
/- skyway/skywaykeep3.RunwayTurns -/
noncomputable def c5 : Code := ((Try.f5).body).getD .skip
noncomputable def q5 (R : AV → Mem → Prop) : AExit → St → Prop := retQ Try.prog Try.f5 R
noncomputable def F5 (a0 : AV) (a1 : AV) (a2_0 : Int) (a2_1 : Int) (a2_2 : Int) (a2_3 : Int) (a2_4 : Int) (a2_5 : Int) (a2_6 : Int) (a2_7 : Int) (a2_8 : Int) (a2_9 : Int) (a2_10 : Int) (a2_11 : Int) (a2_12 : Int) (a2_13 : Int) (a2_14 : Int) (a2_15 : Int) (a3 : Int) (R : AV → Mem → Prop) : Prop :=
callQ Try.prog KK.gl ((0, some ⟨[(AV.sc (.int .i64 a2_0)), (AV.sc (.int .i64 a2_1)), (AV.sc (.int .i64 a2_2)), (AV.sc (.int .i64 a2_3)), (AV.sc (.int .i64 a2_4)), (AV.sc (.int .i64 a2_5)), (AV.sc (.int .i64 a2_6)), (AV.sc (.int .i64 a2_7)), (AV.sc (.int .i64 a2_8)), (AV.sc (.int .i64 a2_9)), (AV.sc (.int .i64 a2_10)), (AV.sc (.int .i64 a2_11)), (AV.sc (.int .i64 a2_12)), (AV.sc (.int .i64 a2_13)), (AV.sc (.int .i64 a2_14)), (AV.sc (.int .i64 a2_15))], 24⟩) :: []) 17 [] fun v0 =>
exB v0 fun b1 =>
bif (!b1) then (
retL R ((0, some ⟨[(AV.sc (.int .i64 a2_0)), (AV.sc (.int .i64 a2_1)), (AV.sc (.int .i64 a2_2)), (AV.sc (.int .i64 a2_3)), (AV.sc (.int .i64 a2_4)), (AV.sc (.int .i64 a2_5)), (AV.sc (.int .i64 a2_6)), (AV.sc (.int .i64 a2_7)), (AV.sc (.int .i64 a2_8)), (AV.sc (.int .i64 a2_9)), (AV.sc (.int .i64 a2_10)), (AV.sc (.int .i64 a2_11)), (AV.sc (.int .i64 a2_12)), (AV.sc (.int .i64 a2_13)), (AV.sc (.int .i64 a2_14)), (AV.sc (.int .i64 a2_15))], 24⟩) :: []) [some (AV.sc (.bool false))]) else (
callW Try.prog KK.gl ((0, some ⟨[(AV.sc (.int .i64 a2_0)), (AV.sc (.int .i64 a2_1)), (AV.sc (.int .i64 a2_2)), (AV.sc (.int .i64 a2_3)), (AV.sc (.int .i64 a2_4)), (AV.sc (.int .i64 a2_5)), (AV.sc (.int .i64 a2_6)), (AV.sc (.int .i64 a2_7)), (AV.sc (.int .i64 a2_8)), (AV.sc (.int .i64 a2_9)), (AV.sc (.int .i64 a2_10)), (AV.sc (.int .i64 a2_11)), (AV.sc (.int .i64 a2_12)), (AV.sc (.int .i64 a2_13)), (AV.sc (.int .i64 a2_14)), (AV.sc (.int .i64 a2_15))], 24⟩) :: []) 70 18 [a0, a1, (AV.sc (.int .i64 a3))] fun v2 m2 =>
exT2 v2 fun c3 c4 =>
ex_i64 c4 fun z5 =>
bif (z5 != (0)) then (
opP (lenS c3) fun v6 =>
ex_i64 v6 fun z7 =>
retL R m2 [some (AV.sc (.bool (z7 == (0))))]) else (
opP (lenS a1) fun v8 =>
ex_i64 v8 fun z9 =>
bif (z9 == (0)) then (
opP (lenS c3) fun v10 =>
ex_i64 v10 fun z11 =>
retL R m2 [some (AV.sc (.bool (z11 == (0))))]) else (
opP (ldA (mget m2) 16 (AV.ptr 0 0)) fun v12 =>
exA16 v12 fun c13 c14 c15 c16 c17 c18 c19 c20 c21 c22 c23 c24 c25 c26 c27 c28 =>
ex_i64 c13 fun z29 =>
ex_i64 c14 fun z30 =>
ex_i64 c15 fun z31 =>
ex_i64 c16 fun z32 =>
ex_i64 c17 fun z33 =>
ex_i64 c18 fun z34 =>
ex_i64 c19 fun z35 =>
ex_i64 c20 fun z36 =>
ex_i64 c21 fun z37 =>
ex_i64 c22 fun z38 =>
ex_i64 c23 fun z39 =>
ex_i64 c24 fun z40 =>
ex_i64 c25 fun z41 =>
ex_i64 c26 fun z42 =>
ex_i64 c27 fun z43 =>
ex_i64 c28 fun z44 =>
callQ Try.prog KK.gl m2 19 [a0, a1, (AV.agg [(AV.sc (.int .i64 z29)), (AV.sc (.int .i64 z30)), (AV.sc (.int .i64 z31)), (AV.sc (.int .i64 z32)), (AV.sc (.int .i64 z33)), (AV.sc (.int .i64 z34)), (AV.sc (.int .i64 z35)), (AV.sc (.int .i64 z36)), (AV.sc (.int .i64 z37)), (AV.sc (.int .i64 z38)), (AV.sc (.int .i64 z39)), (AV.sc (.int .i64 z40)), (AV.sc (.int .i64 z41)), (AV.sc (.int .i64 z42)), (AV.sc (.int .i64 z43)), (AV.sc (.int .i64 z44))])] fun v45 =>
exT3 v45 fun c46 c47 c48 =>
ex_i64 c46 fun z49 =>
ex_i64 c47 fun z50 =>
ex_i64 c48 fun z51 =>
opP (ldA (mget m2) 16 (AV.ptr 0 0)) fun v52 =>
exA16 v52 fun c53 c54 c55 c56 c57 c58 c59 c60 c61 c62 c63 c64 c65 c66 c67 c68 =>
ex_i64 c53 fun z69 =>
ex_i64 c54 fun z70 =>
ex_i64 c55 fun z71 =>
ex_i64 c56 fun z72 =>
ex_i64 c57 fun z73 =>
ex_i64 c58 fun z74 =>
ex_i64 c59 fun z75 =>
ex_i64 c60 fun z76 =>
ex_i64 c61 fun z77 =>
ex_i64 c62 fun z78 =>
ex_i64 c63 fun z79 =>
ex_i64 c64 fun z80 =>
ex_i64 c65 fun z81 =>
ex_i64 c66 fun z82 =>
ex_i64 c67 fun z83 =>
ex_i64 c68 fun z84 =>
callQ Try.prog KK.gl m2 19 [a0, c3, (AV.agg [(AV.sc (.int .i64 z69)), (AV.sc (.int .i64 z70)), (AV.sc (.int .i64 z71)), (AV.sc (.int .i64 z72)), (AV.sc (.int .i64 z73)), (AV.sc (.int .i64 z74)), (AV.sc (.int .i64 z75)), (AV.sc (.int .i64 z76)), (AV.sc (.int .i64 z77)), (AV.sc (.int .i64 z78)), (AV.sc (.int .i64 z79)), (AV.sc (.int .i64 z80)), (AV.sc (.int .i64 z81)), (AV.sc (.int .i64 z82)), (AV.sc (.int .i64 z83)), (AV.sc (.int .i64 z84))])] fun v85 =>
exT3 v85 fun c86 c87 c88 =>
ex_i64 c86 fun z89 =>
ex_i64 c87 fun z90 =>
ex_i64 c88 fun z91 =>
bif (z51 != z91) then (
retL R m2 [some (AV.sc (.bool false))]) else (
bif (z49 != z89) then (
retL R m2 [some (AV.sc (.bool false))]) else (
bif (z50 != z90) then (
retL R m2 [some (AV.sc (.bool false))]) else (
callQ Try.prog KK.gl m2 20 [c3, (AV.sc (.int .i64 a3))] fun v92 =>
exT2 v92 fun c93 c94 =>
ex_i64 c93 fun z95 =>
ex_i64 c94 fun z96 =>
bif (decide ((IntKind.wrap .i64 (a3 + (180))) > (200000))) then (
retL R m2 [some (AV.sc (.bool (z96 == (14))))]) else (
callQ Try.prog KK.gl m2 20 [c3, (AV.sc (.int .i64 (IntKind.wrap .i64 (a3 + (180)))))] fun v97 =>
exT2 v97 fun c98 c99 =>
ex_i64 c98 fun z100 =>
ex_i64 c99 fun z101 =>
bif (z96 == (14)) then (
bif (z101 == (0)) then (
opP (lenS a1) fun v102 =>
ex_i64 v102 fun z103 =>
opP (idxS 2 a1 (AV.sc (.int .i64 (IntKind.wrap .i64 (z103 - (1)))))) fun v104 =>
opP (fldO 1 v104) fun v105 =>
opP (ldS (mget m2) v105) fun v106 =>
ex_i64 v106 fun z107 =>
retL R m2 [some (AV.sc (.bool (z100 == (IntKind.wrap .i64 ((1) - z107)))))]) else (
retL R m2 [some (AV.sc (.bool false))])) else (
retL R m2 [some (AV.sc (.bool false))]))))))))
theorem F5_own (a0 : AV) (a1 : AV) (a2_0 : Int) (a2_1 : Int) (a2_2 : Int) (a2_3 : Int) (a2_4 : Int) (a2_5 : Int) (a2_6 : Int) (a2_7 : Int) (a2_8 : Int) (a2_9 : Int) (a2_10 : Int) (a2_11 : Int) (a2_12 : Int) (a2_13 : Int) (a2_14 : Int) (a2_15 : Int) (a3 : Int) (R : AV → Mem → Prop) (h : F5 a0 a1 a2_0 a2_1 a2_2 a2_3 a2_4 a2_5 a2_6 a2_7 a2_8 a2_9 a2_10 a2_11 a2_12 a2_13 a2_14 a2_15 a3 R) : Own Try.prog KK.gl 5 [a0, a1, (AV.agg [(AV.sc (.int .i64 a2_0)), (AV.sc (.int .i64 a2_1)), (AV.sc (.int .i64 a2_2)), (AV.sc (.int .i64 a2_3)), (AV.sc (.int .i64 a2_4)), (AV.sc (.int .i64 a2_5)), (AV.sc (.int .i64 a2_6)), (AV.sc (.int .i64 a2_7)), (AV.sc (.int .i64 a2_8)), (AV.sc (.int .i64 a2_9)), (AV.sc (.int .i64 a2_10)), (AV.sc (.int .i64 a2_11)), (AV.sc (.int .i64 a2_12)), (AV.sc (.int .i64 a2_13)), (AV.sc (.int .i64 a2_14)), (AV.sc (.int .i64 a2_15))]), (AV.sc (.int .i64 a3))] R := own_of_F fol Try.func5 (code := c5) (by kernel_rfl) (by kernel_rfl) (by kernel_rfl) (X := F5 a0 a1 a2_0 a2_1 a2_2 a2_3 a2_4 a2_5 a2_6 a2_7 a2_8 a2_9 a2_10 a2_11 a2_12 a2_13 a2_14 a2_15 a3 R) (by kernel_rfl) h
/- slices.Equal[[]skyway/api.RunwayMove,skyway/api.RunwayMove] -/
noncomputable def c22 : Code := ((Try.f22).body).getD .skip
noncomputable def q22 (R : AV → Mem → Prop) : AExit → St → Prop := retQ Try.prog Try.f22 R
noncomputable def c22_0 : Code := loopB c22 0
noncomputable def q22_0 (R : AV → Mem → Prop) : AExit → St → Prop := contW Try.prog KK 26 0 c22 0 (q22 R)
noncomputable def qq22_0 (R : AV → Mem → Prop) (N0 : St → Prop) : AExit → St → Prop := thenQ N0 (q22_0 R)
def h22_0 (t0 : AV) (t1 : AV) (t4 : Bool) (t12 : Int) (t13 : Int) (m : Mem) : St := ⟨[(0, t0), (1, t1), (4, (AV.sc (.bool t4))), (12, (AV.sc (.int .i64 t12))), (13, (AV.sc (.int .i64 t13)))], m, 100000⟩
noncomputable def B22_0 (t0 : AV) (t1 : AV) (t4 : Bool) (t12 : Int) (t13 : Int) (m : Mem) (R : AV → Mem → Prop) (N0 : St → Prop) : Prop :=
bif (decide (t13 < t12)) then (
opP (idxS 4 t0 (AV.sc (.int .i64 t13))) fun v6 =>
opP (ldA (mget m) 4 v6) fun v7 =>
exA4 v7 fun c8 c9 c10 c11 =>
ex_i64 c8 fun z12 =>
ex_i64 c9 fun z13 =>
exB c10 fun b14 =>
ex_i64 c11 fun z15 =>
opP (idxS 4 t1 (AV.sc (.int .i64 t13))) fun v16 =>
opP (ldA (mget m) 4 v16) fun v17 =>
exA4 v17 fun c18 c19 c20 c21 =>
ex_i64 c18 fun z22 =>
ex_i64 c19 fun z23 =>
exB c20 fun b24 =>
ex_i64 c21 fun z25 =>
opP (opA Try.prog (.binOp .neq 52 (.tmp 0) (.tmp 1) 52) 4 [(AV.agg [(AV.sc (.int .i64 z12)), (AV.sc (.int .i64 z13)), (AV.sc (.bool b14)), (AV.sc (.int .i64 z15))]), (AV.agg [(AV.sc (.int .i64 z22)), (AV.sc (.int .i64 z23)), (AV.sc (.bool b24)), (AV.sc (.int .i64 z25))])] (mget m) 100011) fun v26 =>
exB v26 fun b27 =>
bif b27 then (
retL R m [some (AV.sc (.bool false))]) else (
N0 ⟨[(0, t0), (1, t1), (4, (AV.sc (.bool t4))), (12, (AV.sc (.int .i64 t12))), (13, (AV.sc (.int .i64 (IntKind.wrap .i64 (t13 + (1)))))), (14, (AV.sc (.bool (decide (t13 < t12))))), (15, (AV.sc (.int .i64 t13))), (5, (AV.sc (.int .i64 t13))), (16, t0), (17, (AV.sc (.int .i64 t13))), (18, v6), (19, (AV.agg [(AV.sc (.int .i64 z12)), (AV.sc (.int .i64 z13)), (AV.sc (.bool b14)), (AV.sc (.int .i64 z15))])), (20, t1), (21, (AV.sc (.int .i64 t13))), (22, v16), (23, (AV.agg [(AV.sc (.int .i64 z22)), (AV.sc (.int .i64 z23)), (AV.sc (.bool b24)), (AV.sc (.int .i64 z25))])), (24, (AV.sc (.bool b27))), (25, (AV.sc (.int .i64 (IntKind.wrap .i64 (t13 + (1))))))], m, 100014⟩)) else (
retL R m [some (AV.sc (.bool true))])
theorem B22_0_eq (t0 : AV) (t1 : AV) (t4 : Bool) (t12 : Int) (t13 : Int) (m : Mem) (R : AV → Mem → Prop) (N0 : St → Prop) : W Try.prog KK 26 0 c22_0 (h22_0 t0 t1 t4 t12 t13 m) (qq22_0 R N0) = B22_0 t0 t1 t4 t12 t13 m R N0 := by kernel_rfl
theorem L22_0 (R : AV → Mem → Prop) {σ : Type} (I : σ → Prop) (t0 : σ → AV) (t1 : σ → AV) (t4 : σ → Bool) (t12 : σ → Int) (t13 : σ → Int) (m : σ → Mem) (μ : σ → Nat) (step : ∀ x, I x → B22_0 (t0 x) (t1 x) (t4 x) (t12 x) (t13 x) (m x) R (fun s' => ∃ y, I y ∧ μ y < μ x ∧ Weak KK 26 0 s' (h22_0 (t0 y) (t1 y) (t4 y) (t12 y) (t13 y) (m y)))) (x : σ) (hx : I x) {s : St} (hw : Weak KK 26 0 s (h22_0 (t0 x) (t1 x) (t4 x) (t12 x) (t13 x) (m x))) : Tri Try.prog KK 26 0 (.loop c22_0) s (q22_0 R) :=
  Tri.weak hw (Tri.loops fol I (fun x => h22_0 (t0 x) (t1 x) (t4 x) (t12 x) (t13 x) (m x)) μ (fun x hx => (B22_0_eq (t0 x) (t1 x) (t4 x) (t12 x) (t13 x) (m x) R _).mpr (step x hx)) x hx)
noncomputable def F22 (a0 : AV) (a1 : AV) (R : AV → Mem → Prop) : Prop :=
opP (lenS a0) fun v0 =>
ex_i64 v0 fun z1 =>
opP (lenS a1) fun v2 =>
ex_i64 v2 fun z3 =>
bif (z1 != z3) then (
retL R [] [some (AV.sc (.bool false))]) else (
opP (lenS a0) fun v4 =>
ex_i64 v4 fun z5 =>
Tri Try.prog KK 26 0 (.loop c22_0) ⟨[(0, a0), (1, a1), (4, (AV.sc (.bool false))), (6, a0), (7, (AV.sc (.int .i64 z1))), (8, a1), (9, (AV.sc (.int .i64 z3))), (10, (AV.sc (.bool (z1 != z3)))), (11, a0), (12, (AV.sc (.int .i64 z5))), (13, (AV.sc (.int .i64 (0))))], [], 9⟩ (q22_0 R))
theorem F22_own (a0 : AV) (a1 : AV) (R : AV → Mem → Prop) (h : F22 a0 a1 R) : Own Try.prog KK.gl 22 [a0, a1] R := own_of_F fol Try.func22 (code := c22) (by kernel_rfl) (by kernel_rfl) (by kernel_rfl) (X := F22 a0 a1 R) (by kernel_rfl) h
/- skyway/skywaykeep3.RunwayStays -/
noncomputable def c6 : Code := ((Try.f6).body).getD .skip
noncomputable def q6 (R : AV → Mem → Prop) : AExit → St → Prop := retQ Try.prog Try.f6 R
noncomputable def c6_0 : Code := loopB c6 0
noncomputable def q6_0 (R : AV → Mem → Prop) : AExit → St → Prop := contW Try.prog KK 70 0 c6 0 (q6 R)
noncomputable def qq6_0 (R : AV → Mem → Prop) (N0 : St → Prop) : AExit → St → Prop := thenQ N0 (q6_0 R)
def h6_0 (t1 : AV) (t3 : AV) (t8 : Bool) (t9 : AV) (t10 : Int) (t11 : AV) (t32 : Int) (t33 : Int) (m : Mem) : St := ⟨[(1, t1), (3, t3), (6, (AV.ptr 0 0)), (8, (AV.sc (.bool t8))), (9, t9), (10, (AV.sc (.int .i64 t10))), (11, t11), (32, (AV.sc (.int .i64 t32))), (33, (AV.sc (.int .i64 t33)))], m, 100000⟩
noncomputable def B6_0 (t1 : AV) (t3 : AV) (t8 : Bool) (t9 : AV) (t10 : Int) (t11 : AV) (t32 : Int) (t33 : Int) (m : Mem) (R : AV → Mem → Prop) (N0 : St → Prop) : Prop :=
bif (decide (t33 < t32)) then (
opP (ldA (mget m) 16 (AV.ptr 0 0)) fun v10 =>
exA16 v10 fun c11 c12 c13 c14 c15 c16 c17 c18 c19 c20 c21 c22 c23 c24 c25 c26 =>
ex_i64 c11 fun z27 =>
ex_i64 c12 fun z28 =>
ex_i64 c13 fun z29 =>
ex_i64 c14 fun z30 =>
ex_i64 c15 fun z31 =>
ex_i64 c16 fun z32 =>
ex_i64 c17 fun z33 =>
ex_i64 c18 fun z34 =>
ex_i64 c19 fun z35 =>
ex_i64 c20 fun z36 =>
ex_i64 c21 fun z37 =>
ex_i64 c22 fun z38 =>
ex_i64 c23 fun z39 =>
ex_i64 c24 fun z40 =>
ex_i64 c25 fun z41 =>
ex_i64 c26 fun z42 =>
opP (opA Try.prog (.slice 47 (.tmp 0) (some (.tmp 1)) (some (.tmp 2)) none) 47 [t3, (AV.sc (.int .i64 t33)), (AV.sc (.int .i64 (IntKind.wrap .i64 (t33 + (1)))))] (mget m) 100010) fun v43 =>
callQ Try.prog KK.gl m 21 [t11, t1, (AV.agg [(AV.sc (.int .i64 z27)), (AV.sc (.int .i64 z28)), (AV.sc (.int .i64 z29)), (AV.sc (.int .i64 z30)), (AV.sc (.int .i64 z31)), (AV.sc (.int .i64 z32)), (AV.sc (.int .i64 z33)), (AV.sc (.int .i64 z34)), (AV.sc (.int .i64 z35)), (AV.sc (.int .i64 z36)), (AV.sc (.int .i64 z37)), (AV.sc (.int .i64 z38)), (AV.sc (.int .i64 z39)), (AV.sc (.int .i64 z40)), (AV.sc (.int .i64 z41)), (AV.sc (.int .i64 z42))]), v43] fun v44 =>
exT2 v44 fun c45 c46 =>
ex_i64 c46 fun z47 =>
bif (z47 != (0)) then (
retL R m [some (AV.sc (.bool false))]) else (
N0 ⟨[(1, t1), (3, t3), (6, (AV.ptr 0 0)), (8, (AV.sc (.bool t8))), (9, t9), (10, (AV.sc (.int .i64 z47))), (11, c45), (32, (AV.sc (.int .i64 t32))), (33, (AV.sc (.int .i64 (IntKind.wrap .i64 (t33 + (1)))))), (34, (AV.sc (.bool (decide (t33 < t32))))), (35, (AV.sc (.int .i64 t33))), (12, (AV.sc (.int .i64 t33))), (37, t11), (38, t1), (39, (AV.agg [(AV.sc (.int .i64 z27)), (AV.sc (.int .i64 z28)), (AV.sc (.int .i64 z29)), (AV.sc (.int .i64 z30)), (AV.sc (.int .i64 z31)), (AV.sc (.int .i64 z32)), (AV.sc (.int .i64 z33)), (AV.sc (.int .i64 z34)), (AV.sc (.int .i64 z35)), (AV.sc (.int .i64 z36)), (AV.sc (.int .i64 z37)), (AV.sc (.int .i64 z38)), (AV.sc (.int .i64 z39)), (AV.sc (.int .i64 z40)), (AV.sc (.int .i64 z41)), (AV.sc (.int .i64 z42))])), (40, t3), (41, (AV.sc (.int .i64 t33))), (42, (AV.sc (.int .i64 t33))), (43, (AV.sc (.int .i64 (IntKind.wrap .i64 (t33 + (1)))))), (44, v43), (45, (AV.tup [c45, (AV.sc (.int .i64 z47))])), (36, (AV.tup [c45, (AV.sc (.int .i64 z47))])), (46, c45), (47, (AV.sc (.int .i64 z47))), (48, (AV.sc (.int .i64 z47))), (49, (AV.sc (.bool (z47 != (0))))), (50, (AV.sc (.int .i64 (IntKind.wrap .i64 (t33 + (1))))))], m, 100021⟩)) else (
opP (ldA (mget m) 16 (AV.ptr 0 0)) fun v48 =>
exA16 v48 fun c49 c50 c51 c52 c53 c54 c55 c56 c57 c58 c59 c60 c61 c62 c63 c64 =>
ex_i64 c49 fun z65 =>
ex_i64 c50 fun z66 =>
ex_i64 c51 fun z67 =>
ex_i64 c52 fun z68 =>
ex_i64 c53 fun z69 =>
ex_i64 c54 fun z70 =>
ex_i64 c55 fun z71 =>
ex_i64 c56 fun z72 =>
ex_i64 c57 fun z73 =>
ex_i64 c58 fun z74 =>
ex_i64 c59 fun z75 =>
ex_i64 c60 fun z76 =>
ex_i64 c61 fun z77 =>
ex_i64 c62 fun z78 =>
ex_i64 c63 fun z79 =>
ex_i64 c64 fun z80 =>
callW Try.prog KK.gl m 100004 21 [t9, t1, (AV.agg [(AV.sc (.int .i64 z65)), (AV.sc (.int .i64 z66)), (AV.sc (.int .i64 z67)), (AV.sc (.int .i64 z68)), (AV.sc (.int .i64 z69)), (AV.sc (.int .i64 z70)), (AV.sc (.int .i64 z71)), (AV.sc (.int .i64 z72)), (AV.sc (.int .i64 z73)), (AV.sc (.int .i64 z74)), (AV.sc (.int .i64 z75)), (AV.sc (.int .i64 z76)), (AV.sc (.int .i64 z77)), (AV.sc (.int .i64 z78)), (AV.sc (.int .i64 z79)), (AV.sc (.int .i64 z80))]), AV.nils] fun v81 m81 =>
exT2 v81 fun c82 c83 =>
ex_i64 c83 fun z84 =>
bif (z84 == (0)) then (
callQ Try.prog KK.gl m81 22 [t11, t9] fun v85 =>
exB v85 fun b86 =>
bif b86 then (
callQ Try.prog KK.gl m81 22 [c82, t9] fun v87 =>
exB v87 fun b88 =>
retL R m81 [some (AV.sc (.bool b88))]) else (
retL R m81 [some (AV.sc (.bool false))])) else (
retL R m81 [some (AV.sc (.bool false))]))
theorem B6_0_eq (t1 : AV) (t3 : AV) (t8 : Bool) (t9 : AV) (t10 : Int) (t11 : AV) (t32 : Int) (t33 : Int) (m : Mem) (R : AV → Mem → Prop) (N0 : St → Prop) : W Try.prog KK 70 0 c6_0 (h6_0 t1 t3 t8 t9 t10 t11 t32 t33 m) (qq6_0 R N0) = B6_0 t1 t3 t8 t9 t10 t11 t32 t33 m R N0 := by kernel_rfl
theorem L6_0 (R : AV → Mem → Prop) {σ : Type} (I : σ → Prop) (t1 : σ → AV) (t3 : σ → AV) (t8 : σ → Bool) (t9 : σ → AV) (t10 : σ → Int) (t11 : σ → AV) (t32 : σ → Int) (t33 : σ → Int) (m : σ → Mem) (μ : σ → Nat) (step : ∀ x, I x → B6_0 (t1 x) (t3 x) (t8 x) (t9 x) (t10 x) (t11 x) (t32 x) (t33 x) (m x) R (fun s' => ∃ y, I y ∧ μ y < μ x ∧ Weak KK 70 0 s' (h6_0 (t1 y) (t3 y) (t8 y) (t9 y) (t10 y) (t11 y) (t32 y) (t33 y) (m y)))) (x : σ) (hx : I x) {s : St} (hw : Weak KK 70 0 s (h6_0 (t1 x) (t3 x) (t8 x) (t9 x) (t10 x) (t11 x) (t32 x) (t33 x) (m x))) : Tri Try.prog KK 70 0 (.loop c6_0) s (q6_0 R) :=
  Tri.weak hw (Tri.loops fol I (fun x => h6_0 (t1 x) (t3 x) (t8 x) (t9 x) (t10 x) (t11 x) (t32 x) (t33 x) (m x)) μ (fun x hx => (B6_0_eq (t1 x) (t3 x) (t8 x) (t9 x) (t10 x) (t11 x) (t32 x) (t33 x) (m x) R _).mpr (step x hx)) x hx)
noncomputable def F6 (a0 : AV) (a1 : AV) (a2_0 : Int) (a2_1 : Int) (a2_2 : Int) (a2_3 : Int) (a2_4 : Int) (a2_5 : Int) (a2_6 : Int) (a2_7 : Int) (a2_8 : Int) (a2_9 : Int) (a2_10 : Int) (a2_11 : Int) (a2_12 : Int) (a2_13 : Int) (a2_14 : Int) (a2_15 : Int) (a3 : AV) (R : AV → Mem → Prop) : Prop :=
callQ Try.prog KK.gl ((0, some ⟨[(AV.sc (.int .i64 a2_0)), (AV.sc (.int .i64 a2_1)), (AV.sc (.int .i64 a2_2)), (AV.sc (.int .i64 a2_3)), (AV.sc (.int .i64 a2_4)), (AV.sc (.int .i64 a2_5)), (AV.sc (.int .i64 a2_6)), (AV.sc (.int .i64 a2_7)), (AV.sc (.int .i64 a2_8)), (AV.sc (.int .i64 a2_9)), (AV.sc (.int .i64 a2_10)), (AV.sc (.int .i64 a2_11)), (AV.sc (.int .i64 a2_12)), (AV.sc (.int .i64 a2_13)), (AV.sc (.int .i64 a2_14)), (AV.sc (.int .i64 a2_15))], 24⟩) :: []) 17 [] fun v0 =>
exB v0 fun b1 =>
bif (!b1) then (
retL R ((0, some ⟨[(AV.sc (.int .i64 a2_0)), (AV.sc (.int .i64 a2_1)), (AV.sc (.int .i64 a2_2)), (AV.sc (.int .i64 a2_3)), (AV.sc (.int .i64 a2_4)), (AV.sc (.int .i64 a2_5)), (AV.sc (.int .i64 a2_6)), (AV.sc (.int .i64 a2_7)), (AV.sc (.int .i64 a2_8)), (AV.sc (.int .i64 a2_9)), (AV.sc (.int .i64 a2_10)), (AV.sc (.int .i64 a2_11)), (AV.sc (.int .i64 a2_12)), (AV.sc (.int .i64 a2_13)), (AV.sc (.int .i64 a2_14)), (AV.sc (.int .i64 a2_15))], 24⟩) :: []) [some (AV.sc (.bool false))]) else (
callW Try.prog KK.gl ((0, some ⟨[(AV.sc (.int .i64 a2_0)), (AV.sc (.int .i64 a2_1)), (AV.sc (.int .i64 a2_2)), (AV.sc (.int .i64 a2_3)), (AV.sc (.int .i64 a2_4)), (AV.sc (.int .i64 a2_5)), (AV.sc (.int .i64 a2_6)), (AV.sc (.int .i64 a2_7)), (AV.sc (.int .i64 a2_8)), (AV.sc (.int .i64 a2_9)), (AV.sc (.int .i64 a2_10)), (AV.sc (.int .i64 a2_11)), (AV.sc (.int .i64 a2_12)), (AV.sc (.int .i64 a2_13)), (AV.sc (.int .i64 a2_14)), (AV.sc (.int .i64 a2_15))], 24⟩) :: []) 71 21 [a0, a1, (AV.agg [(AV.sc (.int .i64 a2_0)), (AV.sc (.int .i64 a2_1)), (AV.sc (.int .i64 a2_2)), (AV.sc (.int .i64 a2_3)), (AV.sc (.int .i64 a2_4)), (AV.sc (.int .i64 a2_5)), (AV.sc (.int .i64 a2_6)), (AV.sc (.int .i64 a2_7)), (AV.sc (.int .i64 a2_8)), (AV.sc (.int .i64 a2_9)), (AV.sc (.int .i64 a2_10)), (AV.sc (.int .i64 a2_11)), (AV.sc (.int .i64 a2_12)), (AV.sc (.int .i64 a2_13)), (AV.sc (.int .i64 a2_14)), (AV.sc (.int .i64 a2_15))]), a3] fun v2 m2 =>
exT2 v2 fun c3 c4 =>
ex_i64 c4 fun z5 =>
bif (z5 != (0)) then (
opP (lenS c3) fun v6 =>
ex_i64 v6 fun z7 =>
retL R m2 [some (AV.sc (.bool (z7 == (0))))]) else (
opP (lenS a3) fun v8 =>
ex_i64 v8 fun z9 =>
Tri Try.prog KK 70 0 (.loop c6_0) ⟨[(0, a0), (1, a1), (2, (AV.agg [(AV.sc (.int .i64 a2_0)), (AV.sc (.int .i64 a2_1)), (AV.sc (.int .i64 a2_2)), (AV.sc (.int .i64 a2_3)), (AV.sc (.int .i64 a2_4)), (AV.sc (.int .i64 a2_5)), (AV.sc (.int .i64 a2_6)), (AV.sc (.int .i64 a2_7)), (AV.sc (.int .i64 a2_8)), (AV.sc (.int .i64 a2_9)), (AV.sc (.int .i64 a2_10)), (AV.sc (.int .i64 a2_11)), (AV.sc (.int .i64 a2_12)), (AV.sc (.int .i64 a2_13)), (AV.sc (.int .i64 a2_14)), (AV.sc (.int .i64 a2_15))])), (3, a3), (6, (AV.ptr 0 0)), (8, (AV.sc (.bool false))), (15, (AV.sc (.bool b1))), (16, (AV.sc (.bool (!b1)))), (18, a0), (19, a1), (20, (AV.agg [(AV.sc (.int .i64 a2_0)), (AV.sc (.int .i64 a2_1)), (AV.sc (.int .i64 a2_2)), (AV.sc (.int .i64 a2_3)), (AV.sc (.int .i64 a2_4)), (AV.sc (.int .i64 a2_5)), (AV.sc (.int .i64 a2_6)), (AV.sc (.int .i64 a2_7)), (AV.sc (.int .i64 a2_8)), (AV.sc (.int .i64 a2_9)), (AV.sc (.int .i64 a2_10)), (AV.sc (.int .i64 a2_11)), (AV.sc (.int .i64 a2_12)), (AV.sc (.int .i64 a2_13)), (AV.sc (.int .i64 a2_14)), (AV.sc (.int .i64 a2_15))])), (21, a3), (22, (AV.tup [c3, (AV.sc (.int .i64 z5))])), (17, (AV.tup [c3, (AV.sc (.int .i64 z5))])), (23, c3), (24, (AV.sc (.int .i64 z5))), (9, c3), (10, (AV.sc (.int .i64 z5))), (25, (AV.sc (.int .i64 z5))), (26, (AV.sc (.bool (z5 != (0))))), (30, a0), (11, a0), (31, a3), (32, (AV.sc (.int .i64 z9))), (33, (AV.sc (.int .i64 (0))))], m2, 147⟩ (q6_0 R)))
theorem F6_own (a0 : AV) (a1 : AV) (a2_0 : Int) (a2_1 : Int) (a2_2 : Int) (a2_3 : Int) (a2_4 : Int) (a2_5 : Int) (a2_6 : Int) (a2_7 : Int) (a2_8 : Int) (a2_9 : Int) (a2_10 : Int) (a2_11 : Int) (a2_12 : Int) (a2_13 : Int) (a2_14 : Int) (a2_15 : Int) (a3 : AV) (R : AV → Mem → Prop) (h : F6 a0 a1 a2_0 a2_1 a2_2 a2_3 a2_4 a2_5 a2_6 a2_7 a2_8 a2_9 a2_10 a2_11 a2_12 a2_13 a2_14 a2_15 a3 R) : Own Try.prog KK.gl 6 [a0, a1, (AV.agg [(AV.sc (.int .i64 a2_0)), (AV.sc (.int .i64 a2_1)), (AV.sc (.int .i64 a2_2)), (AV.sc (.int .i64 a2_3)), (AV.sc (.int .i64 a2_4)), (AV.sc (.int .i64 a2_5)), (AV.sc (.int .i64 a2_6)), (AV.sc (.int .i64 a2_7)), (AV.sc (.int .i64 a2_8)), (AV.sc (.int .i64 a2_9)), (AV.sc (.int .i64 a2_10)), (AV.sc (.int .i64 a2_11)), (AV.sc (.int .i64 a2_12)), (AV.sc (.int .i64 a2_13)), (AV.sc (.int .i64 a2_14)), (AV.sc (.int .i64 a2_15))]), a3] R := own_of_F fol Try.func6 (code := c6) (by kernel_rfl) (by kernel_rfl) (by kernel_rfl) (X := F6 a0 a1 a2_0 a2_1 a2_2 a2_3 a2_4 a2_5 a2_6 a2_7 a2_8 a2_9 a2_10 a2_11 a2_12 a2_13 a2_14 a2_15 a3 R) (by kernel_rfl) h
/- slices.Index[[]skyway/api.RunwayMove,skyway/api.RunwayMove] -/
noncomputable def c24 : Code := ((Try.f24).body).getD .skip
noncomputable def q24 (R : AV → Mem → Prop) : AExit → St → Prop := retQ Try.prog Try.f24 R
noncomputable def c24_0 : Code := loopB c24 0
noncomputable def q24_0 (R : AV → Mem → Prop) : AExit → St → Prop := contW Try.prog KK 19 0 c24 0 (q24 R)
noncomputable def qq24_0 (R : AV → Mem → Prop) (N0 : St → Prop) : AExit → St → Prop := thenQ N0 (q24_0 R)
def h24_0 (t0 : AV) (t4 : Int) (t7 : Int) (t8 : Int) (b0_0 : Int) (b0_1 : Int) (b0_2 : Bool) (b0_3 : Int) (m : Mem) : St := ⟨[(0, t0), (3, (AV.ptr 0 0)), (4, (AV.sc (.int .i64 t4))), (7, (AV.sc (.int .i64 t7))), (8, (AV.sc (.int .i64 t8)))], ((0, some ⟨[(AV.sc (.int .i64 b0_0)), (AV.sc (.int .i64 b0_1)), (AV.sc (.bool b0_2)), (AV.sc (.int .i64 b0_3))], 52⟩) :: m), 100000⟩
noncomputable def B24_0 (t0 : AV) (t4 : Int) (t7 : Int) (t8 : Int) (b0_0 : Int) (b0_1 : Int) (b0_2 : Bool) (b0_3 : Int) (m : Mem) (R : AV → Mem → Prop) (N0 : St → Prop) : Prop :=
bif (decide (t8 < t7)) then (
opP (idxS 4 t0 (AV.sc (.int .i64 t8))) fun v2 =>
opP (ldA (mget ((0, some ⟨[(AV.sc (.int .i64 b0_0)), (AV.sc (.int .i64 b0_1)), (AV.sc (.bool b0_2)), (AV.sc (.int .i64 b0_3))], 52⟩) :: m)) 4 v2) fun v3 =>
exA4 v3 fun c4 c5 c6 c7 =>
ex_i64 c4 fun z8 =>
ex_i64 c5 fun z9 =>
exB c6 fun b10 =>
ex_i64 c7 fun z11 =>
opP (opA Try.prog (.binOp .eql 52 (.tmp 0) (.tmp 1) 52) 4 [(AV.agg [(AV.sc (.int .i64 b0_0)), (AV.sc (.int .i64 b0_1)), (AV.sc (.bool b0_2)), (AV.sc (.int .i64 b0_3))]), (AV.agg [(AV.sc (.int .i64 z8)), (AV.sc (.int .i64 z9)), (AV.sc (.bool b10)), (AV.sc (.int .i64 z11))])] (mget ((0, some ⟨[(AV.sc (.int .i64 b0_0)), (AV.sc (.int .i64 b0_1)), (AV.sc (.bool b0_2)), (AV.sc (.int .i64 b0_3))], 52⟩) :: m)) 100008) fun v12 =>
exB v12 fun b13 =>
bif b13 then (
retL R ((0, some ⟨[(AV.sc (.int .i64 b0_0)), (AV.sc (.int .i64 b0_1)), (AV.sc (.bool b0_2)), (AV.sc (.int .i64 b0_3))], 52⟩) :: m) [some (AV.sc (.int .i64 t8))]) else (
N0 ⟨[(0, t0), (3, (AV.ptr 0 0)), (4, (AV.sc (.int .i64 t4))), (7, (AV.sc (.int .i64 t7))), (8, (AV.sc (.int .i64 (IntKind.wrap .i64 (t8 + (1)))))), (9, (AV.sc (.bool (decide (t8 < t7))))), (10, (AV.sc (.int .i64 t8))), (5, (AV.sc (.int .i64 t8))), (11, (AV.agg [(AV.sc (.int .i64 b0_0)), (AV.sc (.int .i64 b0_1)), (AV.sc (.bool b0_2)), (AV.sc (.int .i64 b0_3))])), (12, t0), (13, (AV.sc (.int .i64 t8))), (14, v2), (15, (AV.agg [(AV.sc (.int .i64 z8)), (AV.sc (.int .i64 z9)), (AV.sc (.bool b10)), (AV.sc (.int .i64 z11))])), (16, (AV.sc (.bool b13))), (18, (AV.sc (.int .i64 (IntKind.wrap .i64 (t8 + (1))))))], ((0, some ⟨[(AV.sc (.int .i64 b0_0)), (AV.sc (.int .i64 b0_1)), (AV.sc (.bool b0_2)), (AV.sc (.int .i64 b0_3))], 52⟩) :: m), 100011⟩)) else (
retL R ((0, some ⟨[(AV.sc (.int .i64 b0_0)), (AV.sc (.int .i64 b0_1)), (AV.sc (.bool b0_2)), (AV.sc (.int .i64 b0_3))], 52⟩) :: m) [some (AV.sc (.int .i64 (-1)))])
theorem B24_0_eq (t0 : AV) (t4 : Int) (t7 : Int) (t8 : Int) (b0_0 : Int) (b0_1 : Int) (b0_2 : Bool) (b0_3 : Int) (m : Mem) (R : AV → Mem → Prop) (N0 : St → Prop) : W Try.prog KK 19 0 c24_0 (h24_0 t0 t4 t7 t8 b0_0 b0_1 b0_2 b0_3 m) (qq24_0 R N0) = B24_0 t0 t4 t7 t8 b0_0 b0_1 b0_2 b0_3 m R N0 := by kernel_rfl
theorem L24_0 (R : AV → Mem → Prop) {σ : Type} (I : σ → Prop) (t0 : σ → AV) (t4 : σ → Int) (t7 : σ → Int) (t8 : σ → Int) (b0_0 : σ → Int) (b0_1 : σ → Int) (b0_2 : σ → Bool) (b0_3 : σ → Int) (m : σ → Mem) (μ : σ → Nat) (step : ∀ x, I x → B24_0 (t0 x) (t4 x) (t7 x) (t8 x) (b0_0 x) (b0_1 x) (b0_2 x) (b0_3 x) (m x) R (fun s' => ∃ y, I y ∧ μ y < μ x ∧ Weak KK 19 0 s' (h24_0 (t0 y) (t4 y) (t7 y) (t8 y) (b0_0 y) (b0_1 y) (b0_2 y) (b0_3 y) (m y)))) (x : σ) (hx : I x) {s : St} (hw : Weak KK 19 0 s (h24_0 (t0 x) (t4 x) (t7 x) (t8 x) (b0_0 x) (b0_1 x) (b0_2 x) (b0_3 x) (m x))) : Tri Try.prog KK 19 0 (.loop c24_0) s (q24_0 R) :=
  Tri.weak hw (Tri.loops fol I (fun x => h24_0 (t0 x) (t4 x) (t7 x) (t8 x) (b0_0 x) (b0_1 x) (b0_2 x) (b0_3 x) (m x)) μ (fun x hx => (B24_0_eq (t0 x) (t4 x) (t7 x) (t8 x) (b0_0 x) (b0_1 x) (b0_2 x) (b0_3 x) (m x) R _).mpr (step x hx)) x hx)
noncomputable def F24 (a0 : AV) (a1_0 : Int) (a1_1 : Int) (a1_2 : Bool) (a1_3 : Int) (R : AV → Mem → Prop) : Prop :=
opP (lenS a0) fun v0 =>
ex_i64 v0 fun z1 =>
Tri Try.prog KK 19 0 (.loop c24_0) ⟨[(0, a0), (1, (AV.agg [(AV.sc (.int .i64 a1_0)), (AV.sc (.int .i64 a1_1)), (AV.sc (.bool a1_2)), (AV.sc (.int .i64 a1_3))])), (3, (AV.ptr 0 0)), (4, (AV.sc (.int .i64 (0)))), (6, a0), (7, (AV.sc (.int .i64 z1))), (8, (AV.sc (.int .i64 (0))))], ((0, some ⟨[(AV.sc (.int .i64 a1_0)), (AV.sc (.int .i64 a1_1)), (AV.sc (.bool a1_2)), (AV.sc (.int .i64 a1_3))], 52⟩) :: []), 5⟩ (q24_0 R)
theorem F24_own (a0 : AV) (a1_0 : Int) (a1_1 : Int) (a1_2 : Bool) (a1_3 : Int) (R : AV → Mem → Prop) (h : F24 a0 a1_0 a1_1 a1_2 a1_3 R) : Own Try.prog KK.gl 24 [a0, (AV.agg [(AV.sc (.int .i64 a1_0)), (AV.sc (.int .i64 a1_1)), (AV.sc (.bool a1_2)), (AV.sc (.int .i64 a1_3))])] R := own_of_F fol Try.func24 (code := c24) (by kernel_rfl) (by kernel_rfl) (by kernel_rfl) (X := F24 a0 a1_0 a1_1 a1_2 a1_3 R) (by kernel_rfl) h
/- skyway/skywaykeep3.RunwayKeeps$1 -/
noncomputable def c27 : Code := ((Try.f27).body).getD .skip
noncomputable def q27 (R : AV → Mem → Prop) : AExit → St → Prop := retQ Try.prog Try.f27 R
noncomputable def F27 (a0_0 : Int) (a0_1 : Int) (a0_2 : Bool) (a0_3 : Int) (R : AV → Mem → Prop) : Prop :=
retL R ((0, some ⟨[(AV.sc (.int .i64 a0_0)), (AV.sc (.int .i64 a0_1)), (AV.sc (.bool a0_2)), (AV.sc (.int .i64 a0_3))], 52⟩) :: []) [some (AV.sc (.bool (!a0_2)))]
theorem F27_own (a0_0 : Int) (a0_1 : Int) (a0_2 : Bool) (a0_3 : Int) (R : AV → Mem → Prop) (h : F27 a0_0 a0_1 a0_2 a0_3 R) : Own Try.prog KK.gl 27 [(AV.agg [(AV.sc (.int .i64 a0_0)), (AV.sc (.int .i64 a0_1)), (AV.sc (.bool a0_2)), (AV.sc (.int .i64 a0_3))])] R := own_of_F fol Try.func27 (code := c27) (by kernel_rfl) (by kernel_rfl) (by kernel_rfl) (X := F27 a0_0 a0_1 a0_2 a0_3 R) (by kernel_rfl) h
/- slices.ContainsFunc[[]skyway/api.RunwayMove,skyway/api.RunwayMove] -/
noncomputable def c26 : Code := ((Try.f26).body).getD .skip
noncomputable def q26 (R : AV → Mem → Prop) : AExit → St → Prop := retQ Try.prog Try.f26 R
noncomputable def F26 (a0 : AV) (a1 : AV) (R : AV → Mem → Prop) : Prop :=
callQ Try.prog KK.gl [] 47 [a0, a1] fun v0 =>
ex_i64 v0 fun z1 =>
retL R [] [some (AV.sc (.bool (decide (z1 ≥ (0)))))]
theorem F26_own (a0 : AV) (a1 : AV) (R : AV → Mem → Prop) (h : F26 a0 a1 R) : Own Try.prog KK.gl 26 [a0, a1] R := own_of_F fol Try.func26 (code := c26) (by kernel_rfl) (by kernel_rfl) (by kernel_rfl) (X := F26 a0 a1 R) (by kernel_rfl) h
/- skyway/skywaykeep3.RunwayKeeps -/
noncomputable def c7 : Code := ((Try.f7).body).getD .skip
noncomputable def q7 (R : AV → Mem → Prop) : AExit → St → Prop := retQ Try.prog Try.f7 R
noncomputable def c7_0 : Code := loopB c7 0
noncomputable def q7_0 (R : AV → Mem → Prop) : AExit → St → Prop := contW Try.prog KK 75 0 c7 0 (q7 R)
noncomputable def qq7_0 (R : AV → Mem → Prop) (N0 : St → Prop) : AExit → St → Prop := thenQ N0 (q7_0 R)
def h7_0 (t8 : Bool) (t14 : AV) (t55 : AV) (t56 : Int) (t57 : Int) (m : Mem) : St := ⟨[(8, (AV.sc (.bool t8))), (14, t14), (55, t55), (56, (AV.sc (.int .i64 t56))), (57, (AV.sc (.int .i64 t57)))], m, 100000⟩
noncomputable def B7_0 (t8 : Bool) (t14 : AV) (t55 : AV) (t56 : Int) (t57 : Int) (m : Mem) (R : AV → Mem → Prop) (N0 : St → Prop) : Prop :=
bif (decide (t57 < t56)) then (
opP (idxS 4 t55 (AV.sc (.int .i64 t57))) fun v57 =>
opP (ldA (mget m) 4 v57) fun v58 =>
exA4 v58 fun c59 c60 c61 c62 =>
ex_i64 c59 fun z63 =>
ex_i64 c60 fun z64 =>
exB c61 fun b65 =>
ex_i64 c62 fun z66 =>
callQ Try.prog KK.gl ((100003, some ⟨[(AV.sc (.int .i64 z63)), (AV.sc (.int .i64 z64)), (AV.sc (.bool b65)), (AV.sc (.int .i64 z66))], 52⟩) :: (100003, some ⟨[(AV.sc (.int .i64 (0))), (AV.sc (.int .i64 (0))), (AV.sc (.bool false)), (AV.sc (.int .i64 (0)))], 52⟩) :: m) 24 [t14, (AV.agg [(AV.sc (.int .i64 z63)), (AV.sc (.int .i64 z64)), (AV.sc (.bool b65)), (AV.sc (.int .i64 z66))])] fun v67 =>
ex_i64 v67 fun z68 =>
bif (decide (z68 < (0))) then (
retL R ((100003, some ⟨[(AV.sc (.int .i64 z63)), (AV.sc (.int .i64 z64)), (AV.sc (.bool b65)), (AV.sc (.int .i64 z66))], 52⟩) :: (100003, some ⟨[(AV.sc (.int .i64 (0))), (AV.sc (.int .i64 (0))), (AV.sc (.bool false)), (AV.sc (.int .i64 (0)))], 52⟩) :: m) [some (AV.sc (.bool false))]) else (
callW Try.prog KK.gl ((100003, some ⟨[(AV.sc (.int .i64 z63)), (AV.sc (.int .i64 z64)), (AV.sc (.bool b65)), (AV.sc (.int .i64 z66))], 52⟩) :: (100003, some ⟨[(AV.sc (.int .i64 (0))), (AV.sc (.int .i64 (0))), (AV.sc (.bool false)), (AV.sc (.int .i64 (0)))], 52⟩) :: m) 100078 25 [t14, (AV.sc (.int .i64 z68)), (AV.sc (.int .i64 (IntKind.wrap .i64 (z68 + (1)))))] fun v69 m69 =>
N0 ⟨[(8, (AV.sc (.bool t8))), (14, v69), (55, t55), (56, (AV.sc (.int .i64 t56))), (57, (AV.sc (.int .i64 (IntKind.wrap .i64 (t57 + (1)))))), (58, (AV.sc (.bool (decide (t57 < t56))))), (59, v57), (60, (AV.agg [(AV.sc (.int .i64 z63)), (AV.sc (.int .i64 z64)), (AV.sc (.bool b65)), (AV.sc (.int .i64 z66))])), (16, (AV.ptr 100003 0)), (61, t14), (62, (AV.agg [(AV.sc (.int .i64 z63)), (AV.sc (.int .i64 z64)), (AV.sc (.bool b65)), (AV.sc (.int .i64 z66))])), (63, (AV.sc (.int .i64 z68))), (17, (AV.sc (.int .i64 z68))), (64, (AV.sc (.int .i64 z68))), (65, (AV.sc (.bool (decide (z68 < (0)))))), (66, t14), (67, (AV.sc (.int .i64 z68))), (68, (AV.sc (.int .i64 z68))), (69, (AV.sc (.int .i64 (IntKind.wrap .i64 (z68 + (1)))))), (70, v69), (71, (AV.sc (.int .i64 (IntKind.wrap .i64 (t57 + (1))))))], m69, 100145⟩)) else (
callQ Try.prog KK.gl m 26 [t14, (AV.fn 27 [])] fun v70 =>
exB v70 fun b71 =>
retL R m [some (AV.sc (.bool (!b71)))])
theorem B7_0_eq (t8 : Bool) (t14 : AV) (t55 : AV) (t56 : Int) (t57 : Int) (m : Mem) (R : AV → Mem → Prop) (N0 : St → Prop) : W Try.prog KK 75 0 c7_0 (h7_0 t8 t14 t55 t56 t57 m) (qq7_0 R N0) = B7_0 t8 t14 t55 t56 t57 m R N0 := by kernel_rfl
theorem L7_0 (R : AV → Mem → Prop) {σ : Type} (I : σ → Prop) (t8 : σ → Bool) (t14 : σ → AV) (t55 : σ → AV) (t56 : σ → Int) (t57 : σ → Int) (m : σ → Mem) (μ : σ → Nat) (step : ∀ x, I x → B7_0 (t8 x) (t14 x) (t55 x) (t56 x) (t57 x) (m x) R (fun s' => ∃ y, I y ∧ μ y < μ x ∧ Weak KK 75 0 s' (h7_0 (t8 y) (t14 y) (t55 y) (t56 y) (t57 y) (m y)))) (x : σ) (hx : I x) {s : St} (hw : Weak KK 75 0 s (h7_0 (t8 x) (t14 x) (t55 x) (t56 x) (t57 x) (m x))) : Tri Try.prog KK 75 0 (.loop c7_0) s (q7_0 R) :=
  Tri.weak hw (Tri.loops fol I (fun x => h7_0 (t8 x) (t14 x) (t55 x) (t56 x) (t57 x) (m x)) μ (fun x hx => (B7_0_eq (t8 x) (t14 x) (t55 x) (t56 x) (t57 x) (m x) R _).mpr (step x hx)) x hx)
noncomputable def F7 (a0 : AV) (a1 : AV) (a2_0 : Int) (a2_1 : Int) (a2_2 : Int) (a2_3 : Int) (a2_4 : Int) (a2_5 : Int) (a2_6 : Int) (a2_7 : Int) (a2_8 : Int) (a2_9 : Int) (a2_10 : Int) (a2_11 : Int) (a2_12 : Int) (a2_13 : Int) (a2_14 : Int) (a2_15 : Int) (a3 : AV) (R : AV → Mem → Prop) : Prop :=
callQ Try.prog KK.gl ((0, some ⟨[(AV.sc (.int .i64 a2_0)), (AV.sc (.int .i64 a2_1)), (AV.sc (.int .i64 a2_2)), (AV.sc (.int .i64 a2_3)), (AV.sc (.int .i64 a2_4)), (AV.sc (.int .i64 a2_5)), (AV.sc (.int .i64 a2_6)), (AV.sc (.int .i64 a2_7)), (AV.sc (.int .i64 a2_8)), (AV.sc (.int .i64 a2_9)), (AV.sc (.int .i64 a2_10)), (AV.sc (.int .i64 a2_11)), (AV.sc (.int .i64 a2_12)), (AV.sc (.int .i64 a2_13)), (AV.sc (.int .i64 a2_14)), (AV.sc (.int .i64 a2_15))], 24⟩) :: []) 17 [] fun v0 =>
exB v0 fun b1 =>
bif (!b1) then (
retL R ((0, some ⟨[(AV.sc (.int .i64 a2_0)), (AV.sc (.int .i64 a2_1)), (AV.sc (.int .i64 a2_2)), (AV.sc (.int .i64 a2_3)), (AV.sc (.int .i64 a2_4)), (AV.sc (.int .i64 a2_5)), (AV.sc (.int .i64 a2_6)), (AV.sc (.int .i64 a2_7)), (AV.sc (.int .i64 a2_8)), (AV.sc (.int .i64 a2_9)), (AV.sc (.int .i64 a2_10)), (AV.sc (.int .i64 a2_11)), (AV.sc (.int .i64 a2_12)), (AV.sc (.int .i64 a2_13)), (AV.sc (.int .i64 a2_14)), (AV.sc (.int .i64 a2_15))], 24⟩) :: []) [some (AV.sc (.bool false))]) else (
callW Try.prog KK.gl ((0, some ⟨[(AV.sc (.int .i64 a2_0)), (AV.sc (.int .i64 a2_1)), (AV.sc (.int .i64 a2_2)), (AV.sc (.int .i64 a2_3)), (AV.sc (.int .i64 a2_4)), (AV.sc (.int .i64 a2_5)), (AV.sc (.int .i64 a2_6)), (AV.sc (.int .i64 a2_7)), (AV.sc (.int .i64 a2_8)), (AV.sc (.int .i64 a2_9)), (AV.sc (.int .i64 a2_10)), (AV.sc (.int .i64 a2_11)), (AV.sc (.int .i64 a2_12)), (AV.sc (.int .i64 a2_13)), (AV.sc (.int .i64 a2_14)), (AV.sc (.int .i64 a2_15))], 24⟩) :: []) 71 21 [a0, a1, (AV.agg [(AV.sc (.int .i64 a2_0)), (AV.sc (.int .i64 a2_1)), (AV.sc (.int .i64 a2_2)), (AV.sc (.int .i64 a2_3)), (AV.sc (.int .i64 a2_4)), (AV.sc (.int .i64 a2_5)), (AV.sc (.int .i64 a2_6)), (AV.sc (.int .i64 a2_7)), (AV.sc (.int .i64 a2_8)), (AV.sc (.int .i64 a2_9)), (AV.sc (.int .i64 a2_10)), (AV.sc (.int .i64 a2_11)), (AV.sc (.int .i64 a2_12)), (AV.sc (.int .i64 a2_13)), (AV.sc (.int .i64 a2_14)), (AV.sc (.int .i64 a2_15))]), a3] fun v2 m2 =>
exT2 v2 fun c3 c4 =>
ex_i64 c4 fun z5 =>
bif (z5 != (0)) then (
opP (lenS c3) fun v6 =>
ex_i64 v6 fun z7 =>
retL R m2 [some (AV.sc (.bool (z7 == (0))))]) else (
opP (ldA (mget m2) 16 (AV.ptr 0 0)) fun v8 =>
exA16 v8 fun c9 c10 c11 c12 c13 c14 c15 c16 c17 c18 c19 c20 c21 c22 c23 c24 =>
ex_i64 c9 fun z25 =>
ex_i64 c10 fun z26 =>
ex_i64 c11 fun z27 =>
ex_i64 c12 fun z28 =>
ex_i64 c13 fun z29 =>
ex_i64 c14 fun z30 =>
ex_i64 c15 fun z31 =>
ex_i64 c16 fun z32 =>
ex_i64 c17 fun z33 =>
ex_i64 c18 fun z34 =>
ex_i64 c19 fun z35 =>
ex_i64 c20 fun z36 =>
ex_i64 c21 fun z37 =>
ex_i64 c22 fun z38 =>
ex_i64 c23 fun z39 =>
ex_i64 c24 fun z40 =>
callQ Try.prog KK.gl m2 19 [c3, a1, (AV.agg [(AV.sc (.int .i64 z25)), (AV.sc (.int .i64 z26)), (AV.sc (.int .i64 z27)), (AV.sc (.int .i64 z28)), (AV.sc (.int .i64 z29)), (AV.sc (.int .i64 z30)), (AV.sc (.int .i64 z31)), (AV.sc (.int .i64 z32)), (AV.sc (.int .i64 z33)), (AV.sc (.int .i64 z34)), (AV.sc (.int .i64 z35)), (AV.sc (.int .i64 z36)), (AV.sc (.int .i64 z37)), (AV.sc (.int .i64 z38)), (AV.sc (.int .i64 z39)), (AV.sc (.int .i64 z40))])] fun v41 =>
exT3 v41 fun c42 c43 c44 =>
ex_i64 c42 fun z45 =>
ex_i64 c43 fun z46 =>
ex_i64 c44 fun z47 =>
bif (z47 != (0)) then (
retL R m2 [some (AV.sc (.bool false))]) else (
opP (lenS c3) fun v48 =>
ex_i64 v48 fun z49 =>
opP (lenS a0) fun v50 =>
ex_i64 v50 fun z51 =>
opP (lenS a3) fun v52 =>
ex_i64 v52 fun z53 =>
bif (z49 != (IntKind.wrap .i64 (z51 + z53))) then (
retL R m2 [some (AV.sc (.bool false))]) else (
callW Try.prog KK.gl m2 229 23 [c3] fun v54 m54 =>
opP (lenS a0) fun v55 =>
ex_i64 v55 fun z56 =>
Tri Try.prog KK 75 0 (.loop c7_0) ⟨[(0, a0), (1, a1), (2, (AV.agg [(AV.sc (.int .i64 a2_0)), (AV.sc (.int .i64 a2_1)), (AV.sc (.int .i64 a2_2)), (AV.sc (.int .i64 a2_3)), (AV.sc (.int .i64 a2_4)), (AV.sc (.int .i64 a2_5)), (AV.sc (.int .i64 a2_6)), (AV.sc (.int .i64 a2_7)), (AV.sc (.int .i64 a2_8)), (AV.sc (.int .i64 a2_9)), (AV.sc (.int .i64 a2_10)), (AV.sc (.int .i64 a2_11)), (AV.sc (.int .i64 a2_12)), (AV.sc (.int .i64 a2_13)), (AV.sc (.int .i64 a2_14)), (AV.sc (.int .i64 a2_15))])), (3, a3), (6, (AV.ptr 0 0)), (8, (AV.sc (.bool false))), (18, (AV.sc (.bool b1))), (19, (AV.sc (.bool (!b1)))), (21, a0), (22, a1), (23, (AV.agg [(AV.sc (.int .i64 a2_0)), (AV.sc (.int .i64 a2_1)), (AV.sc (.int .i64 a2_2)), (AV.sc (.int .i64 a2_3)), (AV.sc (.int .i64 a2_4)), (AV.sc (.int .i64 a2_5)), (AV.sc (.int .i64 a2_6)), (AV.sc (.int .i64 a2_7)), (AV.sc (.int .i64 a2_8)), (AV.sc (.int .i64 a2_9)), (AV.sc (.int .i64 a2_10)), (AV.sc (.int .i64 a2_11)), (AV.sc (.int .i64 a2_12)), (AV.sc (.int .i64 a2_13)), (AV.sc (.int .i64 a2_14)), (AV.sc (.int .i64 a2_15))])), (24, a3), (25, (AV.tup [c3, (AV.sc (.int .i64 z5))])), (20, (AV.tup [c3, (AV.sc (.int .i64 z5))])), (26, c3), (27, (AV.sc (.int .i64 z5))), (9, c3), (10, (AV.sc (.int .i64 z5))), (28, (AV.sc (.int .i64 z5))), (29, (AV.sc (.bool (z5 != (0))))), (34, c3), (35, a1), (36, (AV.agg [(AV.sc (.int .i64 z25)), (AV.sc (.int .i64 z26)), (AV.sc (.int .i64 z27)), (AV.sc (.int .i64 z28)), (AV.sc (.int .i64 z29)), (AV.sc (.int .i64 z30)), (AV.sc (.int .i64 z31)), (AV.sc (.int .i64 z32)), (AV.sc (.int .i64 z33)), (AV.sc (.int .i64 z34)), (AV.sc (.int .i64 z35)), (AV.sc (.int .i64 z36)), (AV.sc (.int .i64 z37)), (AV.sc (.int .i64 z38)), (AV.sc (.int .i64 z39)), (AV.sc (.int .i64 z40))])), (37, (AV.tup [(AV.sc (.int .i64 z45)), (AV.sc (.int .i64 z46)), (AV.sc (.int .i64 z47))])), (33, (AV.tup [(AV.sc (.int .i64 z45)), (AV.sc (.int .i64 z46)), (AV.sc (.int .i64 z47))])), (38, (AV.sc (.int .i64 z45))), (39, (AV.sc (.int .i64 z46))), (40, (AV.sc (.int .i64 z47))), (11, (AV.sc (.int .i64 z45))), (12, (AV.sc (.int .i64 z46))), (13, (AV.sc (.int .i64 z47))), (41, (AV.sc (.int .i64 z47))), (42, (AV.sc (.bool (z47 != (0))))), (43, (AV.sc (.bool false))), (44, c3), (45, (AV.sc (.int .i64 z49))), (46, a0), (47, (AV.sc (.int .i64 z51))), (48, a3), (49, (AV.sc (.int .i64 z53))), (50, (AV.sc (.int .i64 (IntKind.wrap .i64 (z51 + z53))))), (51, (AV.sc (.bool (z49 != (IntKind.wrap .i64 (z51 + z53)))))), (52, (AV.sc (.bool (z49 != (IntKind.wrap .i64 (z51 + z53)))))), (53, c3), (54, v54), (14, v54), (55, a0), (56, (AV.sc (.int .i64 z56))), (57, (AV.sc (.int .i64 (0))))], m54, 297⟩ (q7_0 R)))))
theorem F7_own (a0 : AV) (a1 : AV) (a2_0 : Int) (a2_1 : Int) (a2_2 : Int) (a2_3 : Int) (a2_4 : Int) (a2_5 : Int) (a2_6 : Int) (a2_7 : Int) (a2_8 : Int) (a2_9 : Int) (a2_10 : Int) (a2_11 : Int) (a2_12 : Int) (a2_13 : Int) (a2_14 : Int) (a2_15 : Int) (a3 : AV) (R : AV → Mem → Prop) (h : F7 a0 a1 a2_0 a2_1 a2_2 a2_3 a2_4 a2_5 a2_6 a2_7 a2_8 a2_9 a2_10 a2_11 a2_12 a2_13 a2_14 a2_15 a3 R) : Own Try.prog KK.gl 7 [a0, a1, (AV.agg [(AV.sc (.int .i64 a2_0)), (AV.sc (.int .i64 a2_1)), (AV.sc (.int .i64 a2_2)), (AV.sc (.int .i64 a2_3)), (AV.sc (.int .i64 a2_4)), (AV.sc (.int .i64 a2_5)), (AV.sc (.int .i64 a2_6)), (AV.sc (.int .i64 a2_7)), (AV.sc (.int .i64 a2_8)), (AV.sc (.int .i64 a2_9)), (AV.sc (.int .i64 a2_10)), (AV.sc (.int .i64 a2_11)), (AV.sc (.int .i64 a2_12)), (AV.sc (.int .i64 a2_13)), (AV.sc (.int .i64 a2_14)), (AV.sc (.int .i64 a2_15))]), a3] R := own_of_F fol Try.func7 (code := c7) (by kernel_rfl) (by kernel_rfl) (by kernel_rfl) (X := F7 a0 a1 a2_0 a2_1 a2_2 a2_3 a2_4 a2_5 a2_6 a2_7 a2_8 a2_9 a2_10 a2_11 a2_12 a2_13 a2_14 a2_15 a3 R) (by kernel_rfl) h
/- slices.Clone[[]skyway/api.RunwayMove,skyway/api.RunwayMove] -/
noncomputable def c23 : Code := ((Try.f23).body).getD .skip
noncomputable def q23 (R : AV → Mem → Prop) : AExit → St → Prop := retQ Try.prog Try.f23 R
noncomputable def F23 (a0 : AV) (R : AV → Mem → Prop) : Prop :=
nilK a0 fun b0 =>
bif b0 then (
retL R [] [some AV.nils]) else (
opN (bsl 3 52 4 0 [(AV.sc (.int .i64 (0))), (AV.sc (.int .i64 (0))), (AV.sc (.bool false)), (AV.sc (.int .i64 (0)))] []) [] fun v2 m2 =>
opN (app (mget m2) 52 4 32 [(AV.sc (.int .i64 (0))), (AV.sc (.int .i64 (0))), (AV.sc (.bool false)), (AV.sc (.int .i64 (0)))] 5 v2 a0) m2 fun v3 m3 =>
retL R m3 [some v3])
theorem F23_own (a0 : AV) (R : AV → Mem → Prop) (h : F23 a0 R) : Own Try.prog KK.gl 23 [a0] R := own_of_F fol Try.func23 (code := c23) (by kernel_rfl) (by kernel_rfl) (by kernel_rfl) (X := F23 a0 R) (by kernel_rfl) h
/- slices.Clone[[]skyway/api.RunwaySpan,skyway/api.RunwaySpan] -/
noncomputable def c43 : Code := ((Try.f43).body).getD .skip
noncomputable def q43 (R : AV → Mem → Prop) : AExit → St → Prop := retQ Try.prog Try.f43 R
noncomputable def F43 (a0 : AV) (R : AV → Mem → Prop) : Prop :=
nilK a0 fun b0 =>
bif b0 then (
retL R [] [some AV.nils]) else (
opN (bsl 3 45 2 0 [(AV.sc (.int .i64 (0))), (AV.sc (.int .i64 (0)))] []) [] fun v2 m2 =>
opN (app (mget m2) 45 2 16 [(AV.sc (.int .i64 (0))), (AV.sc (.int .i64 (0)))] 5 v2 a0) m2 fun v3 m3 =>
retL R m3 [some v3])
theorem F43_own (a0 : AV) (R : AV → Mem → Prop) (h : F43 a0 R) : Own Try.prog KK.gl 43 [a0] R := own_of_F fol Try.func43 (code := c43) (by kernel_rfl) (by kernel_rfl) (by kernel_rfl) (X := F43 a0 R) (by kernel_rfl) h
/- slices.Delete[[]skyway/api.RunwayMove,skyway/api.RunwayMove] at 1 -/
noncomputable def F25_1 (a0 : AV) (a1 : Int) (a2 : Int) (m : Mem) (R : AV → Mem → Prop) : Prop :=
opP (lenS a0) fun v0 =>
ex_i64 v0 fun z1 =>
opP (opA Try.prog (.slice 37 (.tmp 0) (some (.tmp 1)) (some (.tmp 2)) (some (.tmp 3))) 37 [a0, (AV.sc (.int .i64 a1)), (AV.sc (.int .i64 a2)), (AV.sc (.int .i64 z1))] (mget m) 7) fun v2 =>
bif (a1 == a2) then (
chk (Nat.ble 13 65) (retL R m [some a0])) else (
opP (lenS a0) fun v3 =>
ex_i64 v3 fun z4 =>
opM (opA Try.prog (.slice 37 (.tmp 0) none (some (.tmp 1)) none) 37 [a0, (AV.sc (.int .i64 a1))] (look' m (topId a0 ++ (topId (AV.sc (.int .i64 a1)) ++ ([])))) 16) fun v5 d5 =>
opM (opA Try.prog (.slice 37 (.tmp 0) (some (.tmp 1)) none none) 37 [a0, (AV.sc (.int .i64 a2))] (look' (mpushs m d5) (topId a0 ++ (topId (AV.sc (.int .i64 a2)) ++ ([])))) 19) fun v6 d6 =>
opM (app (look' (mpushs (mpushs m d5) d6) (topId v5 ++ (topId v6 ++ ([])))) 52 4 32 [(AV.sc (.int .i64 (0))), (AV.sc (.int .i64 (0))), (AV.sc (.bool false)), (AV.sc (.int .i64 (0)))] 20 v5 v6) fun v7 d7 =>
chk (confOk [0, 0, 3, 0, 0, 24, 63, 127] [⟨[], []⟩, ⟨[], []⟩, ⟨d5, (topId a0 ++ (topId (AV.sc (.int .i64 a1)) ++ ([])))⟩, ⟨[], []⟩, ⟨[], []⟩, ⟨d6, (topId a0 ++ (topId (AV.sc (.int .i64 a2)) ++ ([])))⟩, ⟨d7, (topId v5 ++ (topId v6 ++ ([])))⟩, ⟨[], []⟩]) (opP (lenS v7) fun v8 =>
ex_i64 v8 fun z9 =>
opP (opA Try.prog (.slice 37 (.tmp 0) (some (.tmp 1)) (some (.tmp 2)) none) 37 [v7, (AV.sc (.int .i64 z9)), (AV.sc (.int .i64 z4))] (mget (mpushs (mpushs (mpushs m d5) d6) d7)) 26) fun v10 =>
opN (opA Try.prog (.call ⟨.builtin .clear, #[.tmp 0], #[37]⟩) 0 [v10] (mget (mpushs (mpushs (mpushs m d5) d6) d7)) 27) (mpushs (mpushs (mpushs m d5) d6) d7) fun v11 m11 =>
exT0 v11 <|
chk (Nat.ble 30 65) (retL R m11 [some v7])))
theorem F25_1_call (a0 : AV) (a1 : Int) (a2 : Int) (m : Mem) (R : AV → Mem → Prop) (h : F25_1 a0 a1 a2 m R) : callW Try.prog KK.gl m 1 25 [a0, (AV.sc (.int .i64 a1)), (AV.sc (.int .i64 a2))] R := call_of_F fol Try.func25 (code := ((Try.f25).body).getD .skip) (by kernel_rfl) (by kernel_rfl) (by kernel_rfl) (X := F25_1 a0 a1 a2 m R) (by kernel_rfl) h
/- slices.Insert[[]skyway/api.RunwayMove,skyway/api.RunwayMove] at 1 -/
noncomputable def F49n1 (a0 : AV) (a1 : Int) (a2 : AV) (m : Mem) (R : AV → Mem → Prop) : Prop :=
opP (opA Try.prog (.slice 37 (.tmp 0) (some (.tmp 1)) none none) 37 [a0, (AV.sc (.int .i64 a1))] (mget m) 4) fun v0 =>
opP (lenS a2) fun v1 =>
ex_i64 v1 fun z2 =>
bif (z2 == (0)) then (
retL R m [some a0]) else (
opP (lenS a0) fun v3 =>
ex_i64 v3 fun z4 =>
bif (a1 == z4) then (
opN (app (mget m) 52 4 32 [(AV.sc (.int .i64 (0))), (AV.sc (.int .i64 (0))), (AV.sc (.bool false)), (AV.sc (.int .i64 (0)))] 18 a0 a2) m fun v5 m5 =>
retL R m5 [some v5]) else (
opP (opA Try.prog (.call ⟨.builtin .cap, #[.tmp 0], #[37]⟩) 3 [a0] (mget m) 20) fun v6 =>
ex_i64 v6 fun z7 =>
bif (decide ((IntKind.wrap .i64 (z4 + z2)) > z7)) then (
opP (opA Try.prog (.slice 37 (.tmp 0) none (some (.tmp 1)) none) 37 [a0, (AV.sc (.int .i64 a1))] (mget m) 24) fun v8 =>
opN (opA Try.prog (.call ⟨.builtin .append, #[.tmp 0, .tmp 1], #[37, 3]⟩) 37 [v8, (AV.sc (.int .i64 (IntKind.wrap .i64 ((IntKind.wrap .i64 (z4 + z2)) - a1))))] (mget m) 30) m fun v9 m9 =>
opP (opA Try.prog (.slice 37 (.tmp 0) (some (.tmp 1)) none none) 37 [v9, (AV.sc (.int .i64 a1))] (mget m9) 34) fun v10 =>
opN (opA Try.prog (.call ⟨.builtin .copy, #[.tmp 0, .tmp 1], #[37, 37]⟩) 3 [v10, a2] (mget m9) 36) m9 fun v11 m11 =>
ex_i64 v11 fun z12 =>
opM (opA Try.prog (.slice 37 (.tmp 0) (some (.tmp 1)) none none) 37 [v9, (AV.sc (.int .i64 (IntKind.wrap .i64 (a1 + z2))))] (look' m11 (topId v9 ++ (topId (AV.sc (.int .i64 (IntKind.wrap .i64 (a1 + z2)))) ++ ([])))) 41) fun v13 d13 =>
opM (opA Try.prog (.slice 37 (.tmp 0) (some (.tmp 1)) none none) 37 [a0, (AV.sc (.int .i64 a1))] (look' (mpushs m11 d13) (topId a0 ++ (topId (AV.sc (.int .i64 a1)) ++ ([])))) 44) fun v14 d14 =>
opM (opA Try.prog (.call ⟨.builtin .copy, #[.tmp 0, .tmp 1], #[37, 37]⟩) 3 [v13, v14] (look' (mpushs (mpushs m11 d13) d14) (topId v13 ++ (topId v14 ++ ([])))) 45) fun v15 d15 =>
ex_i64 v15 fun z16 =>
chk (confOk [0, 0, 0, 6, 15, 0, 0, 96, 255] [⟨[], []⟩, ⟨[], []⟩, ⟨[], []⟩, ⟨[], []⟩, ⟨d13, (topId v9 ++ (topId (AV.sc (.int .i64 (IntKind.wrap .i64 (a1 + z2)))) ++ ([])))⟩, ⟨[], []⟩, ⟨[], []⟩, ⟨d14, (topId a0 ++ (topId (AV.sc (.int .i64 a1)) ++ ([])))⟩, ⟨d15, (topId v13 ++ (topId v14 ++ ([])))⟩]) (retL R (mpushs (mpushs (mpushs m11 d13) d14) d15) [some v9])) else (
opP (opA Try.prog (.slice 37 (.tmp 0) none (some (.tmp 1)) none) 37 [a0, (AV.sc (.int .i64 (IntKind.wrap .i64 (z4 + z2))))] (mget m) 26) fun v17 =>
opP (opA Try.prog (.slice 37 (.tmp 0) (some (.tmp 1)) none none) 37 [v17, (AV.sc (.int .i64 (IntKind.wrap .i64 (a1 + z2))))] (mget m) 33) fun v18 =>
callQ Try.prog KK.gl m 60 [a2, v18] fun v19 =>
exB v19 fun b20 =>
bif (!b20) then (
opM (opA Try.prog (.slice 37 (.tmp 0) (some (.tmp 1)) none none) 37 [v17, (AV.sc (.int .i64 (IntKind.wrap .i64 (a1 + z2))))] (look' m (topId v17 ++ (topId (AV.sc (.int .i64 (IntKind.wrap .i64 (a1 + z2)))) ++ ([])))) 103) fun v21 d21 =>
opM (opA Try.prog (.slice 37 (.tmp 0) (some (.tmp 1)) none none) 37 [v17, (AV.sc (.int .i64 a1))] (look' (mpushs m d21) (topId v17 ++ (topId (AV.sc (.int .i64 a1)) ++ ([])))) 106) fun v22 d22 =>
opM (opA Try.prog (.call ⟨.builtin .copy, #[.tmp 0, .tmp 1], #[37, 37]⟩) 3 [v21, v22] (look' (mpushs (mpushs m d21) d22) (topId v21 ++ (topId v22 ++ ([])))) 107) fun v23 d23 =>
ex_i64 v23 fun z24 =>
chk (confOk [0, 0, 0, 6, 15, 0, 0, 96, 255] [⟨[], []⟩, ⟨[], []⟩, ⟨[], []⟩, ⟨[], []⟩, ⟨d21, (topId v17 ++ (topId (AV.sc (.int .i64 (IntKind.wrap .i64 (a1 + z2)))) ++ ([])))⟩, ⟨[], []⟩, ⟨[], []⟩, ⟨d22, (topId v17 ++ (topId (AV.sc (.int .i64 a1)) ++ ([])))⟩, ⟨d23, (topId v21 ++ (topId v22 ++ ([])))⟩]) (opP (opA Try.prog (.slice 37 (.tmp 0) (some (.tmp 1)) none none) 37 [v17, (AV.sc (.int .i64 a1))] (mget (mpushs (mpushs (mpushs m d21) d22) d23)) 110) fun v25 =>
opN (opA Try.prog (.call ⟨.builtin .copy, #[.tmp 0, .tmp 1], #[37, 37]⟩) 3 [v25, a2] (mget (mpushs (mpushs (mpushs m d21) d22) d23)) 112) (mpushs (mpushs (mpushs m d21) d22) d23) fun v26 m26 =>
ex_i64 v26 fun z27 =>
retL R m26 [some v17])) else (
opP (opA Try.prog (.slice 37 (.tmp 0) (some (.tmp 1)) none none) 37 [v17, (AV.sc (.int .i64 z4))] (mget m) 101) fun v28 =>
opN (opA Try.prog (.call ⟨.builtin .copy, #[.tmp 0, .tmp 1], #[37, 37]⟩) 3 [v28, a2] (mget m) 103) m fun v29 m29 =>
ex_i64 v29 fun z30 =>
opP (opA Try.prog (.slice 37 (.tmp 0) (some (.tmp 1)) none none) 37 [v17, (AV.sc (.int .i64 a1))] (mget m29) 106) fun v31 =>
callW Try.prog KK.gl m29 108 61 [v31, (AV.sc (.int .i64 z2))] fun v32 m32 =>
exT0 v32 <|
retL R m32 [some v17]))))
theorem F49n1_call (a0 : AV) (a1 : Int) (a2 : AV) (m : Mem) (R : AV → Mem → Prop) (h : F49n1 a0 a1 a2 m R) : callN Try.prog KK.gl m 1 49 [a0, (AV.sc (.int .i64 a1)), a2] R := callN_of_F fol Try.func49 (code := ((Try.f49).body).getD .skip) (by kernel_rfl) (by kernel_rfl) (by kernel_rfl) (X := F49n1 a0 a1 a2 m R) (by kernel_rfl) h
/- slices.Insert[[]skyway/api.RunwayMove,skyway/api.RunwayMove] at 2 -/
noncomputable def F49n2 (a0 : AV) (a1 : Int) (a2 : AV) (m : Mem) (R : AV → Mem → Prop) : Prop :=
opP (opA Try.prog (.slice 37 (.tmp 0) (some (.tmp 1)) none none) 37 [a0, (AV.sc (.int .i64 a1))] (mget m) 5) fun v0 =>
opP (lenS a2) fun v1 =>
ex_i64 v1 fun z2 =>
bif (z2 == (0)) then (
retL R m [some a0]) else (
opP (lenS a0) fun v3 =>
ex_i64 v3 fun z4 =>
bif (a1 == z4) then (
opN (app (mget m) 52 4 32 [(AV.sc (.int .i64 (0))), (AV.sc (.int .i64 (0))), (AV.sc (.bool false)), (AV.sc (.int .i64 (0)))] 19 a0 a2) m fun v5 m5 =>
retL R m5 [some v5]) else (
opP (opA Try.prog (.call ⟨.builtin .cap, #[.tmp 0], #[37]⟩) 3 [a0] (mget m) 21) fun v6 =>
ex_i64 v6 fun z7 =>
bif (decide ((IntKind.wrap .i64 (z4 + z2)) > z7)) then (
opP (opA Try.prog (.slice 37 (.tmp 0) none (some (.tmp 1)) none) 37 [a0, (AV.sc (.int .i64 a1))] (mget m) 25) fun v8 =>
opN (opA Try.prog (.call ⟨.builtin .append, #[.tmp 0, .tmp 1], #[37, 3]⟩) 37 [v8, (AV.sc (.int .i64 (IntKind.wrap .i64 ((IntKind.wrap .i64 (z4 + z2)) - a1))))] (mget m) 31) m fun v9 m9 =>
opP (opA Try.prog (.slice 37 (.tmp 0) (some (.tmp 1)) none none) 37 [v9, (AV.sc (.int .i64 a1))] (mget m9) 35) fun v10 =>
opN (opA Try.prog (.call ⟨.builtin .copy, #[.tmp 0, .tmp 1], #[37, 37]⟩) 3 [v10, a2] (mget m9) 37) m9 fun v11 m11 =>
ex_i64 v11 fun z12 =>
opM (opA Try.prog (.slice 37 (.tmp 0) (some (.tmp 1)) none none) 37 [v9, (AV.sc (.int .i64 (IntKind.wrap .i64 (a1 + z2))))] (look' m11 (topId v9 ++ (topId (AV.sc (.int .i64 (IntKind.wrap .i64 (a1 + z2)))) ++ ([])))) 42) fun v13 d13 =>
opM (opA Try.prog (.slice 37 (.tmp 0) (some (.tmp 1)) none none) 37 [a0, (AV.sc (.int .i64 a1))] (look' (mpushs m11 d13) (topId a0 ++ (topId (AV.sc (.int .i64 a1)) ++ ([])))) 45) fun v14 d14 =>
opM (opA Try.prog (.call ⟨.builtin .copy, #[.tmp 0, .tmp 1], #[37, 37]⟩) 3 [v13, v14] (look' (mpushs (mpushs m11 d13) d14) (topId v13 ++ (topId v14 ++ ([])))) 46) fun v15 d15 =>
ex_i64 v15 fun z16 =>
chk (confOk [0, 0, 0, 6, 15, 0, 0, 96, 255] [⟨[], []⟩, ⟨[], []⟩, ⟨[], []⟩, ⟨[], []⟩, ⟨d13, (topId v9 ++ (topId (AV.sc (.int .i64 (IntKind.wrap .i64 (a1 + z2)))) ++ ([])))⟩, ⟨[], []⟩, ⟨[], []⟩, ⟨d14, (topId a0 ++ (topId (AV.sc (.int .i64 a1)) ++ ([])))⟩, ⟨d15, (topId v13 ++ (topId v14 ++ ([])))⟩]) (retL R (mpushs (mpushs (mpushs m11 d13) d14) d15) [some v9])) else (
opP (opA Try.prog (.slice 37 (.tmp 0) none (some (.tmp 1)) none) 37 [a0, (AV.sc (.int .i64 (IntKind.wrap .i64 (z4 + z2))))] (mget m) 27) fun v17 =>
opP (opA Try.prog (.slice 37 (.tmp 0) (some (.tmp 1)) none none) 37 [v17, (AV.sc (.int .i64 (IntKind.wrap .i64 (a1 + z2))))] (mget m) 34) fun v18 =>
callQ Try.prog KK.gl m 60 [a2, v18] fun v19 =>
exB v19 fun b20 =>
bif (!b20) then (
opM (opA Try.prog (.slice 37 (.tmp 0) (some (.tmp 1)) none none) 37 [v17, (AV.sc (.int .i64 (IntKind.wrap .i64 (a1 + z2))))] (look' m (topId v17 ++ (topId (AV.sc (.int .i64 (IntKind.wrap .i64 (a1 + z2)))) ++ ([])))) 104) fun v21 d21 =>
opM (opA Try.prog (.slice 37 (.tmp 0) (some (.tmp 1)) none none) 37 [v17, (AV.sc (.int .i64 a1))] (look' (mpushs m d21) (topId v17 ++ (topId (AV.sc (.int .i64 a1)) ++ ([])))) 107) fun v22 d22 =>
opM (opA Try.prog (.call ⟨.builtin .copy, #[.tmp 0, .tmp 1], #[37, 37]⟩) 3 [v21, v22] (look' (mpushs (mpushs m d21) d22) (topId v21 ++ (topId v22 ++ ([])))) 108) fun v23 d23 =>
ex_i64 v23 fun z24 =>
chk (confOk [0, 0, 0, 6, 15, 0, 0, 96, 255] [⟨[], []⟩, ⟨[], []⟩, ⟨[], []⟩, ⟨[], []⟩, ⟨d21, (topId v17 ++ (topId (AV.sc (.int .i64 (IntKind.wrap .i64 (a1 + z2)))) ++ ([])))⟩, ⟨[], []⟩, ⟨[], []⟩, ⟨d22, (topId v17 ++ (topId (AV.sc (.int .i64 a1)) ++ ([])))⟩, ⟨d23, (topId v21 ++ (topId v22 ++ ([])))⟩]) (opP (opA Try.prog (.slice 37 (.tmp 0) (some (.tmp 1)) none none) 37 [v17, (AV.sc (.int .i64 a1))] (mget (mpushs (mpushs (mpushs m d21) d22) d23)) 111) fun v25 =>
opN (opA Try.prog (.call ⟨.builtin .copy, #[.tmp 0, .tmp 1], #[37, 37]⟩) 3 [v25, a2] (mget (mpushs (mpushs (mpushs m d21) d22) d23)) 113) (mpushs (mpushs (mpushs m d21) d22) d23) fun v26 m26 =>
ex_i64 v26 fun z27 =>
retL R m26 [some v17])) else (
opP (opA Try.prog (.slice 37 (.tmp 0) (some (.tmp 1)) none none) 37 [v17, (AV.sc (.int .i64 z4))] (mget m) 102) fun v28 =>
opN (opA Try.prog (.call ⟨.builtin .copy, #[.tmp 0, .tmp 1], #[37, 37]⟩) 3 [v28, a2] (mget m) 104) m fun v29 m29 =>
ex_i64 v29 fun z30 =>
opP (opA Try.prog (.slice 37 (.tmp 0) (some (.tmp 1)) none none) 37 [v17, (AV.sc (.int .i64 a1))] (mget m29) 107) fun v31 =>
callW Try.prog KK.gl m29 109 61 [v31, (AV.sc (.int .i64 z2))] fun v32 m32 =>
exT0 v32 <|
retL R m32 [some v17]))))
theorem F49n2_call (a0 : AV) (a1 : Int) (a2 : AV) (m : Mem) (R : AV → Mem → Prop) (h : F49n2 a0 a1 a2 m R) : callN Try.prog KK.gl m 2 49 [a0, (AV.sc (.int .i64 a1)), a2] R := callN_of_F fol Try.func49 (code := ((Try.f49).body).getD .skip) (by kernel_rfl) (by kernel_rfl) (by kernel_rfl) (X := F49n2 a0 a1 a2 m R) (by kernel_rfl) h
end Go.Proofs.Ytfmodgffhbljoaa
