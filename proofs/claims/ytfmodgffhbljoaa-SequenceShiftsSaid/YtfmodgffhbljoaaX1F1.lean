/- Functions of the program as conditions on their answers; printed by wip/Gen.lean.txt. -/
import Derived.Test.YtfmodgffhbljoaaX1T
set_option linter.unusedVariables false
set_option maxRecDepth 100000
set_option maxHeartbeats 4000000
namespace Go.Proofs.Ytfmodgffhbljoaa
/- skyway/sequence.times -/
noncomputable def c53 : Code := ((Try.f53).body).getD .skip
noncomputable def q53 (R : AV → Mem → Prop) : AExit → St → Prop := retQ Try.prog Try.f53 R
noncomputable def c53_0 : Code := loopB c53 0
noncomputable def q53_0 (R : AV → Mem → Prop) : AExit → St → Prop := contW Try.prog KK 64 0 c53 0 (q53 R)
noncomputable def qq53_0 (R : AV → Mem → Prop) (N0 : St → Prop) : AExit → St → Prop := thenQ N0 (q53_0 R)
def h53_0 (t0 : AV) (t1 : AV) (t6 : AV) (t7 : Bool) (t8 : AV) (t12 : AV) (t13 : Int) (t14 : Int) (b0_0 : Int) (b0_1 : Int) (b0_2 : Int) (b0_3 : Int) (b0_4 : Int) (b0_5 : Int) (b0_6 : Int) (b0_7 : Int) (b0_8 : Int) (b0_9 : Int) (b0_10 : Int) (b0_11 : Int) (b0_12 : Int) (b0_13 : Int) (b0_14 : Int) (b0_15 : Int) (m : Mem) : St := ⟨[(0, t0), (1, t1), (5, (AV.ptr 0 0)), (6, t6), (7, (boolA t7)), (8, t8), (12, t12), (13, (intA t13)), (14, (intA t14))], ((0, some ⟨[(intA b0_0), (intA b0_1), (intA b0_2), (intA b0_3), (intA b0_4), (intA b0_5), (intA b0_6), (intA b0_7), (intA b0_8), (intA b0_9), (intA b0_10), (intA b0_11), (intA b0_12), (intA b0_13), (intA b0_14), (intA b0_15)], 24⟩) :: m), 100000⟩
noncomputable def B53_0 (t0 : AV) (t1 : AV) (t6 : AV) (t7 : Bool) (t8 : AV) (t12 : AV) (t13 : Int) (t14 : Int) (b0_0 : Int) (b0_1 : Int) (b0_2 : Int) (b0_3 : Int) (b0_4 : Int) (b0_5 : Int) (b0_6 : Int) (b0_7 : Int) (b0_8 : Int) (b0_9 : Int) (b0_10 : Int) (b0_11 : Int) (b0_12 : Int) (b0_13 : Int) (b0_14 : Int) (b0_15 : Int) (m : Mem) (R : AV → Mem → Prop) (N0 : St → Prop) : Prop :=
bif (decide (t14 < t13)) then (
opP (idxS 1 t12 (intA t14)) fun v2 =>
opP (ldS (mget ((0, some ⟨[(intA b0_0), (intA b0_1), (intA b0_2), (intA b0_3), (intA b0_4), (intA b0_5), (intA b0_6), (intA b0_7), (intA b0_8), (intA b0_9), (intA b0_10), (intA b0_11), (intA b0_12), (intA b0_13), (intA b0_14), (intA b0_15)], 24⟩) :: m)) v2) fun v3 =>
ex_i64 v3 fun z4 =>
opP (idxS 4 t0 (intA z4)) fun v5 =>
opP (fldO 2 v5) fun v6 =>
opP (ldS (mget ((0, some ⟨[(intA b0_0), (intA b0_1), (intA b0_2), (intA b0_3), (intA b0_4), (intA b0_5), (intA b0_6), (intA b0_7), (intA b0_8), (intA b0_9), (intA b0_10), (intA b0_11), (intA b0_12), (intA b0_13), (intA b0_14), (intA b0_15)], 24⟩) :: m)) v6) fun v7 =>
ex_i64 v7 fun z8 =>
bif (decide (t14 > (0))) then (
opP (idxS 1 t8 (intA (IntKind.wrap .i64 (t14 - (1))))) fun v9 =>
opP (ldS (mget ((0, some ⟨[(intA b0_0), (intA b0_1), (intA b0_2), (intA b0_3), (intA b0_4), (intA b0_5), (intA b0_6), (intA b0_7), (intA b0_8), (intA b0_9), (intA b0_10), (intA b0_11), (intA b0_12), (intA b0_13), (intA b0_14), (intA b0_15)], 24⟩) :: m)) v9) fun v10 =>
ex_i64 v10 fun z11 =>
opP (idxS 1 t1 (intA (IntKind.wrap .i64 (t14 - (1))))) fun v12 =>
opP (ldS (mget ((0, some ⟨[(intA b0_0), (intA b0_1), (intA b0_2), (intA b0_3), (intA b0_4), (intA b0_5), (intA b0_6), (intA b0_7), (intA b0_8), (intA b0_9), (intA b0_10), (intA b0_11), (intA b0_12), (intA b0_13), (intA b0_14), (intA b0_15)], 24⟩) :: m)) v12) fun v13 =>
ex_i64 v13 fun z14 =>
opP (idxS 4 t0 (intA z14)) fun v15 =>
opP (fldO 1 v15) fun v16 =>
opP (ldS (mget ((0, some ⟨[(intA b0_0), (intA b0_1), (intA b0_2), (intA b0_3), (intA b0_4), (intA b0_5), (intA b0_6), (intA b0_7), (intA b0_8), (intA b0_9), (intA b0_10), (intA b0_11), (intA b0_12), (intA b0_13), (intA b0_14), (intA b0_15)], 24⟩) :: m)) v16) fun v17 =>
ex_i64 v17 fun z18 =>
opP (idxS 4 t0 (intA z4)) fun v19 =>
opP (fldO 1 v19) fun v20 =>
opP (ldS (mget ((0, some ⟨[(intA b0_0), (intA b0_1), (intA b0_2), (intA b0_3), (intA b0_4), (intA b0_5), (intA b0_6), (intA b0_7), (intA b0_8), (intA b0_9), (intA b0_10), (intA b0_11), (intA b0_12), (intA b0_13), (intA b0_14), (intA b0_15)], 24⟩) :: m)) v20) fun v21 =>
ex_i64 v21 fun z22 =>
opP (idxA 4 4 (AV.ptr 0 0) (intA z18)) fun v23 =>
opP (idxA 4 1 v23 (intA z22)) fun v24 =>
opP (ldS (mget ((0, some ⟨[(intA b0_0), (intA b0_1), (intA b0_2), (intA b0_3), (intA b0_4), (intA b0_5), (intA b0_6), (intA b0_7), (intA b0_8), (intA b0_9), (intA b0_10), (intA b0_11), (intA b0_12), (intA b0_13), (intA b0_14), (intA b0_15)], 24⟩) :: m)) v24) fun v25 =>
ex_i64 v25 fun z26 =>
opP (opA Try.prog (.call ⟨.builtin .max, #[.tmp 0, .tmp 1], #[3, 3]⟩) 3 [(intA z8), (intA (IntKind.wrap .i64 (z11 + z26)))] (mget ((0, some ⟨[(intA b0_0), (intA b0_1), (intA b0_2), (intA b0_3), (intA b0_4), (intA b0_5), (intA b0_6), (intA b0_7), (intA b0_8), (intA b0_9), (intA b0_10), (intA b0_11), (intA b0_12), (intA b0_13), (intA b0_14), (intA b0_15)], 24⟩) :: m)) 100038) fun v27 =>
ex_i64 v27 fun z28 =>
opP (idxS 4 t0 (intA z4)) fun v29 =>
opP (fldO 3 v29) fun v30 =>
opP (ldS (mget ((0, some ⟨[(intA b0_0), (intA b0_1), (intA b0_2), (intA b0_3), (intA b0_4), (intA b0_5), (intA b0_6), (intA b0_7), (intA b0_8), (intA b0_9), (intA b0_10), (intA b0_11), (intA b0_12), (intA b0_13), (intA b0_14), (intA b0_15)], 24⟩) :: m)) v30) fun v31 =>
ex_i64 v31 fun z32 =>
bif (decide (z28 > z32)) then (
retL R ((0, some ⟨[(intA b0_0), (intA b0_1), (intA b0_2), (intA b0_3), (intA b0_4), (intA b0_5), (intA b0_6), (intA b0_7), (intA b0_8), (intA b0_9), (intA b0_10), (intA b0_11), (intA b0_12), (intA b0_13), (intA b0_14), (intA b0_15)], 24⟩) :: m) [some AV.nils, some (boolA false)]) else (
opN (bsl 100049 3 1 1 [(intA (0))] [(0, (intA z28))]) ((0, some ⟨[(intA b0_0), (intA b0_1), (intA b0_2), (intA b0_3), (intA b0_4), (intA b0_5), (intA b0_6), (intA b0_7), (intA b0_8), (intA b0_9), (intA b0_10), (intA b0_11), (intA b0_12), (intA b0_13), (intA b0_14), (intA b0_15)], 24⟩) :: m) fun v33 m33 =>
opN (app (mget m33) 3 1 8 [(intA (0))] 100050 t8 v33) m33 fun v34 m34 =>
N0 ⟨[(0, t0), (1, t1), (5, (AV.ptr 0 0)), (6, t6), (7, (boolA t7)), (8, v34), (12, t12), (13, (intA t13)), (14, (intA (IntKind.wrap .i64 (t14 + (1))))), (15, (boolA (decide (t14 < t13)))), (16, (intA t14)), (17, v2), (18, (intA z4)), (9, (intA t14)), (10, (intA z4)), (19, t0), (20, (intA z4)), (21, v5), (22, v6), (23, (intA z8)), (11, (intA z28)), (24, (intA t14)), (25, (boolA (decide (t14 > (0))))), (26, (intA z8)), (27, t8), (28, (intA t14)), (29, (intA (IntKind.wrap .i64 (t14 - (1))))), (30, v9), (31, (intA z11)), (32, t0), (33, t1), (34, (intA t14)), (35, (intA (IntKind.wrap .i64 (t14 - (1))))), (36, v12), (37, (intA z14)), (38, v15), (39, v16), (40, (intA z18)), (41, t0), (42, (intA z4)), (43, v19), (44, v20), (45, (intA z22)), (46, v23), (47, v24), (48, (intA z26)), (49, (intA (IntKind.wrap .i64 (z11 + z26)))), (50, (intA z28)), (51, (intA z28)), (52, t0), (53, (intA z4)), (54, v29), (55, v30), (56, (intA z32)), (57, (boolA (decide (z28 > z32)))), (58, t8), (59, (intA z28)), (60, v33), (61, v34), (62, (intA (IntKind.wrap .i64 (t14 + (1)))))], m34, 100054⟩)) else (
opP (idxS 4 t0 (intA z4)) fun v35 =>
opP (fldO 3 v35) fun v36 =>
opP (ldS (mget ((0, some ⟨[(intA b0_0), (intA b0_1), (intA b0_2), (intA b0_3), (intA b0_4), (intA b0_5), (intA b0_6), (intA b0_7), (intA b0_8), (intA b0_9), (intA b0_10), (intA b0_11), (intA b0_12), (intA b0_13), (intA b0_14), (intA b0_15)], 24⟩) :: m)) v36) fun v37 =>
ex_i64 v37 fun z38 =>
bif (decide (z8 > z38)) then (
retL R ((0, some ⟨[(intA b0_0), (intA b0_1), (intA b0_2), (intA b0_3), (intA b0_4), (intA b0_5), (intA b0_6), (intA b0_7), (intA b0_8), (intA b0_9), (intA b0_10), (intA b0_11), (intA b0_12), (intA b0_13), (intA b0_14), (intA b0_15)], 24⟩) :: m) [some AV.nils, some (boolA false)]) else (
opN (bsl 100023 3 1 1 [(intA (0))] [(0, (intA z8))]) ((0, some ⟨[(intA b0_0), (intA b0_1), (intA b0_2), (intA b0_3), (intA b0_4), (intA b0_5), (intA b0_6), (intA b0_7), (intA b0_8), (intA b0_9), (intA b0_10), (intA b0_11), (intA b0_12), (intA b0_13), (intA b0_14), (intA b0_15)], 24⟩) :: m) fun v39 m39 =>
opN (app (mget m39) 3 1 8 [(intA (0))] 100024 t8 v39) m39 fun v40 m40 =>
N0 ⟨[(0, t0), (1, t1), (5, (AV.ptr 0 0)), (6, t6), (7, (boolA t7)), (8, v40), (12, t12), (13, (intA t13)), (14, (intA (IntKind.wrap .i64 (t14 + (1))))), (15, (boolA (decide (t14 < t13)))), (16, (intA t14)), (17, v2), (18, (intA z4)), (9, (intA t14)), (10, (intA z4)), (19, t0), (20, (intA z4)), (21, v5), (22, v6), (23, (intA z8)), (11, (intA z8)), (24, (intA t14)), (25, (boolA (decide (t14 > (0))))), (51, (intA z8)), (52, t0), (53, (intA z4)), (54, v35), (55, v36), (56, (intA z38)), (57, (boolA (decide (z8 > z38)))), (58, t8), (59, (intA z8)), (60, v39), (61, v40), (62, (intA (IntKind.wrap .i64 (t14 + (1)))))], m40, 100028⟩))) else (
retL R ((0, some ⟨[(intA b0_0), (intA b0_1), (intA b0_2), (intA b0_3), (intA b0_4), (intA b0_5), (intA b0_6), (intA b0_7), (intA b0_8), (intA b0_9), (intA b0_10), (intA b0_11), (intA b0_12), (intA b0_13), (intA b0_14), (intA b0_15)], 24⟩) :: m) [some t8, some (boolA true)])
theorem B53_0_eq (t0 : AV) (t1 : AV) (t6 : AV) (t7 : Bool) (t8 : AV) (t12 : AV) (t13 : Int) (t14 : Int) (b0_0 : Int) (b0_1 : Int) (b0_2 : Int) (b0_3 : Int) (b0_4 : Int) (b0_5 : Int) (b0_6 : Int) (b0_7 : Int) (b0_8 : Int) (b0_9 : Int) (b0_10 : Int) (b0_11 : Int) (b0_12 : Int) (b0_13 : Int) (b0_14 : Int) (b0_15 : Int) (m : Mem) (R : AV → Mem → Prop) (N0 : St → Prop) : W Try.prog KK 64 0 c53_0 (h53_0 t0 t1 t6 t7 t8 t12 t13 t14 b0_0 b0_1 b0_2 b0_3 b0_4 b0_5 b0_6 b0_7 b0_8 b0_9 b0_10 b0_11 b0_12 b0_13 b0_14 b0_15 m) (qq53_0 R N0) = B53_0 t0 t1 t6 t7 t8 t12 t13 t14 b0_0 b0_1 b0_2 b0_3 b0_4 b0_5 b0_6 b0_7 b0_8 b0_9 b0_10 b0_11 b0_12 b0_13 b0_14 b0_15 m R N0 := by kernel_rfl
theorem L53_0 (R : AV → Mem → Prop) {σ : Type} (I : σ → Prop) (t0 : σ → AV) (t1 : σ → AV) (t6 : σ → AV) (t7 : σ → Bool) (t8 : σ → AV) (t12 : σ → AV) (t13 : σ → Int) (t14 : σ → Int) (b0_0 : σ → Int) (b0_1 : σ → Int) (b0_2 : σ → Int) (b0_3 : σ → Int) (b0_4 : σ → Int) (b0_5 : σ → Int) (b0_6 : σ → Int) (b0_7 : σ → Int) (b0_8 : σ → Int) (b0_9 : σ → Int) (b0_10 : σ → Int) (b0_11 : σ → Int) (b0_12 : σ → Int) (b0_13 : σ → Int) (b0_14 : σ → Int) (b0_15 : σ → Int) (m : σ → Mem) (μ : σ → Nat) (step : ∀ x, I x → B53_0 (t0 x) (t1 x) (t6 x) (t7 x) (t8 x) (t12 x) (t13 x) (t14 x) (b0_0 x) (b0_1 x) (b0_2 x) (b0_3 x) (b0_4 x) (b0_5 x) (b0_6 x) (b0_7 x) (b0_8 x) (b0_9 x) (b0_10 x) (b0_11 x) (b0_12 x) (b0_13 x) (b0_14 x) (b0_15 x) (m x) R (fun s' => ∃ y, I y ∧ μ y < μ x ∧ Weak KK 64 0 s' (h53_0 (t0 y) (t1 y) (t6 y) (t7 y) (t8 y) (t12 y) (t13 y) (t14 y) (b0_0 y) (b0_1 y) (b0_2 y) (b0_3 y) (b0_4 y) (b0_5 y) (b0_6 y) (b0_7 y) (b0_8 y) (b0_9 y) (b0_10 y) (b0_11 y) (b0_12 y) (b0_13 y) (b0_14 y) (b0_15 y) (m y)))) (x : σ) (hx : I x) {s : St} (hw : Weak KK 64 0 s (h53_0 (t0 x) (t1 x) (t6 x) (t7 x) (t8 x) (t12 x) (t13 x) (t14 x) (b0_0 x) (b0_1 x) (b0_2 x) (b0_3 x) (b0_4 x) (b0_5 x) (b0_6 x) (b0_7 x) (b0_8 x) (b0_9 x) (b0_10 x) (b0_11 x) (b0_12 x) (b0_13 x) (b0_14 x) (b0_15 x) (m x))) : Tri Try.prog KK 64 0 (.loop c53_0) s (q53_0 R) :=
  Tri.weak hw (Tri.loops fol I (fun x => h53_0 (t0 x) (t1 x) (t6 x) (t7 x) (t8 x) (t12 x) (t13 x) (t14 x) (b0_0 x) (b0_1 x) (b0_2 x) (b0_3 x) (b0_4 x) (b0_5 x) (b0_6 x) (b0_7 x) (b0_8 x) (b0_9 x) (b0_10 x) (b0_11 x) (b0_12 x) (b0_13 x) (b0_14 x) (b0_15 x) (m x)) μ (fun x hx => (B53_0_eq (t0 x) (t1 x) (t6 x) (t7 x) (t8 x) (t12 x) (t13 x) (t14 x) (b0_0 x) (b0_1 x) (b0_2 x) (b0_3 x) (b0_4 x) (b0_5 x) (b0_6 x) (b0_7 x) (b0_8 x) (b0_9 x) (b0_10 x) (b0_11 x) (b0_12 x) (b0_13 x) (b0_14 x) (b0_15 x) (m x) R _).mpr (step x hx)) x hx)
noncomputable def F53 (a0 : AV) (a1 : AV) (a2_0 : Int) (a2_1 : Int) (a2_2 : Int) (a2_3 : Int) (a2_4 : Int) (a2_5 : Int) (a2_6 : Int) (a2_7 : Int) (a2_8 : Int) (a2_9 : Int) (a2_10 : Int) (a2_11 : Int) (a2_12 : Int) (a2_13 : Int) (a2_14 : Int) (a2_15 : Int) (R : AV → Mem → Prop) : Prop :=
opP (lenS a1) fun v0 =>
ex_i64 v0 fun z1 =>
Tri Try.prog KK 64 0 (.loop c53_0) ⟨[(0, a0), (1, a1), (2, (AV.agg [(intA a2_0), (intA a2_1), (intA a2_2), (intA a2_3), (intA a2_4), (intA a2_5), (intA a2_6), (intA a2_7), (intA a2_8), (intA a2_9), (intA a2_10), (intA a2_11), (intA a2_12), (intA a2_13), (intA a2_14), (intA a2_15)])), (5, (AV.ptr 0 0)), (6, AV.nils), (7, (boolA false)), (8, AV.nils), (12, a1), (13, (intA z1)), (14, (intA (0)))], ((0, some ⟨[(intA a2_0), (intA a2_1), (intA a2_2), (intA a2_3), (intA a2_4), (intA a2_5), (intA a2_6), (intA a2_7), (intA a2_8), (intA a2_9), (intA a2_10), (intA a2_11), (intA a2_12), (intA a2_13), (intA a2_14), (intA a2_15)], 24⟩) :: []), 7⟩ (q53_0 R)
theorem F53_own (a0 : AV) (a1 : AV) (a2_0 : Int) (a2_1 : Int) (a2_2 : Int) (a2_3 : Int) (a2_4 : Int) (a2_5 : Int) (a2_6 : Int) (a2_7 : Int) (a2_8 : Int) (a2_9 : Int) (a2_10 : Int) (a2_11 : Int) (a2_12 : Int) (a2_13 : Int) (a2_14 : Int) (a2_15 : Int) (R : AV → Mem → Prop) (h : F53 a0 a1 a2_0 a2_1 a2_2 a2_3 a2_4 a2_5 a2_6 a2_7 a2_8 a2_9 a2_10 a2_11 a2_12 a2_13 a2_14 a2_15 R) : Own Try.prog KK.gl 53 [a0, a1, (AV.agg [(intA a2_0), (intA a2_1), (intA a2_2), (intA a2_3), (intA a2_4), (intA a2_5), (intA a2_6), (intA a2_7), (intA a2_8), (intA a2_9), (intA a2_10), (intA a2_11), (intA a2_12), (intA a2_13), (intA a2_14), (intA a2_15)])] R := own_of_F fol Try.func53 (code := c53) (by kernel_rfl) (by kernel_rfl) (by kernel_rfl) (X := F53 a0 a1 a2_0 a2_1 a2_2 a2_3 a2_4 a2_5 a2_6 a2_7 a2_8 a2_9 a2_10 a2_11 a2_12 a2_13 a2_14 a2_15 R) (by kernel_rfl) h
/- skyway/wake.Check -/
noncomputable def c36 : Code := ((Try.f36).body).getD .skip
noncomputable def q36 (R : AV → Mem → Prop) : AExit → St → Prop := retQ Try.prog Try.f36 R
noncomputable def c36_0 : Code := loopB c36 0
noncomputable def q36_0 (R : AV → Mem → Prop) : AExit → St → Prop := contW Try.prog KK 55 0 c36 0 (q36 R)
noncomputable def qq36_0 (R : AV → Mem → Prop) (N0 : St → Prop) : AExit → St → Prop := thenQ N0 (q36_0 R)
def h36_0 (t2 : Int) (t10_0 : Int) (t10_1 : Int) (t10_2 : Int) (t10_3 : Int) (t10_4 : Int) (t10_5 : Int) (t10_6 : Int) (t10_7 : Int) (t10_8 : Int) (t10_9 : Int) (t10_10 : Int) (t10_11 : Int) (t10_12 : Int) (t10_13 : Int) (t10_14 : Int) (t10_15 : Int) (t11 : Int) (b0_0 : Int) (b0_1 : Int) (b0_2 : Int) (b0_3 : Int) (b0_4 : Int) (b0_5 : Int) (b0_6 : Int) (b0_7 : Int) (b0_8 : Int) (b0_9 : Int) (b0_10 : Int) (b0_11 : Int) (b0_12 : Int) (b0_13 : Int) (b0_14 : Int) (b0_15 : Int) (m : Mem) : St := ⟨[(1, (AV.ptr 0 0)), (2, (intA t2)), (10, (AV.agg [(intA t10_0), (intA t10_1), (intA t10_2), (intA t10_3), (intA t10_4), (intA t10_5), (intA t10_6), (intA t10_7), (intA t10_8), (intA t10_9), (intA t10_10), (intA t10_11), (intA t10_12), (intA t10_13), (intA t10_14), (intA t10_15)])), (11, (intA t11))], ((0, some ⟨[(intA b0_0), (intA b0_1), (intA b0_2), (intA b0_3), (intA b0_4), (intA b0_5), (intA b0_6), (intA b0_7), (intA b0_8), (intA b0_9), (intA b0_10), (intA b0_11), (intA b0_12), (intA b0_13), (intA b0_14), (intA b0_15)], 24⟩) :: m), 100000⟩
noncomputable def c36_0_0 : Code := loopB c36_0 0
noncomputable def q36_0_0 (R : AV → Mem → Prop) (N0 : St → Prop) : AExit → St → Prop := contW Try.prog KK 55 0 c36_0 0 (qq36_0 R N0)
noncomputable def qq36_0_0 (R : AV → Mem → Prop) (N0 : St → Prop) (N1 : St → Prop) : AExit → St → Prop := thenQ N1 (q36_0_0 R N0)
def h36_0_0 (t2 : Int) (t10_0 : Int) (t10_1 : Int) (t10_2 : Int) (t10_3 : Int) (t10_4 : Int) (t10_5 : Int) (t10_6 : Int) (t10_7 : Int) (t10_8 : Int) (t10_9 : Int) (t10_10 : Int) (t10_11 : Int) (t10_12 : Int) (t10_13 : Int) (t10_14 : Int) (t10_15 : Int) (t11 : Int) (t14_0 : Int) (t14_1 : Int) (t14_2 : Int) (t14_3 : Int) (t15 : Int) (b0_0 : Int) (b0_1 : Int) (b0_2 : Int) (b0_3 : Int) (b0_4 : Int) (b0_5 : Int) (b0_6 : Int) (b0_7 : Int) (b0_8 : Int) (b0_9 : Int) (b0_10 : Int) (b0_11 : Int) (b0_12 : Int) (b0_13 : Int) (b0_14 : Int) (b0_15 : Int) (m : Mem) : St := ⟨[(1, (AV.ptr 0 0)), (2, (intA t2)), (10, (AV.agg [(intA t10_0), (intA t10_1), (intA t10_2), (intA t10_3), (intA t10_4), (intA t10_5), (intA t10_6), (intA t10_7), (intA t10_8), (intA t10_9), (intA t10_10), (intA t10_11), (intA t10_12), (intA t10_13), (intA t10_14), (intA t10_15)])), (11, (intA t11)), (14, (AV.agg [(intA t14_0), (intA t14_1), (intA t14_2), (intA t14_3)])), (15, (intA t15))], ((0, some ⟨[(intA b0_0), (intA b0_1), (intA b0_2), (intA b0_3), (intA b0_4), (intA b0_5), (intA b0_6), (intA b0_7), (intA b0_8), (intA b0_9), (intA b0_10), (intA b0_11), (intA b0_12), (intA b0_13), (intA b0_14), (intA b0_15)], 24⟩) :: m), 200000⟩
noncomputable def c36_1 : Code := loopB c36 1
noncomputable def q36_1 (R : AV → Mem → Prop) : AExit → St → Prop := contW Try.prog KK 55 0 c36 1 (q36 R)
noncomputable def qq36_1 (R : AV → Mem → Prop) (N0 : St → Prop) : AExit → St → Prop := thenQ N0 (q36_1 R)
def h36_1 (t2 : Int) (t26 : Int) (b0_0 : Int) (b0_1 : Int) (b0_2 : Int) (b0_3 : Int) (b0_4 : Int) (b0_5 : Int) (b0_6 : Int) (b0_7 : Int) (b0_8 : Int) (b0_9 : Int) (b0_10 : Int) (b0_11 : Int) (b0_12 : Int) (b0_13 : Int) (b0_14 : Int) (b0_15 : Int) (m : Mem) : St := ⟨[(1, (AV.ptr 0 0)), (2, (intA t2)), (26, (intA t26))], ((0, some ⟨[(intA b0_0), (intA b0_1), (intA b0_2), (intA b0_3), (intA b0_4), (intA b0_5), (intA b0_6), (intA b0_7), (intA b0_8), (intA b0_9), (intA b0_10), (intA b0_11), (intA b0_12), (intA b0_13), (intA b0_14), (intA b0_15)], 24⟩) :: m), 200000⟩
noncomputable def c36_1_0 : Code := loopB c36_1 0
noncomputable def q36_1_0 (R : AV → Mem → Prop) (N0 : St → Prop) : AExit → St → Prop := contW Try.prog KK 55 0 c36_1 0 (qq36_1 R N0)
noncomputable def qq36_1_0 (R : AV → Mem → Prop) (N0 : St → Prop) (N1 : St → Prop) : AExit → St → Prop := thenQ N1 (q36_1_0 R N0)
def h36_1_0 (t2 : Int) (t7 : Int) (t26 : Int) (t29 : Int) (b0_0 : Int) (b0_1 : Int) (b0_2 : Int) (b0_3 : Int) (b0_4 : Int) (b0_5 : Int) (b0_6 : Int) (b0_7 : Int) (b0_8 : Int) (b0_9 : Int) (b0_10 : Int) (b0_11 : Int) (b0_12 : Int) (b0_13 : Int) (b0_14 : Int) (b0_15 : Int) (m : Mem) : St := ⟨[(1, (AV.ptr 0 0)), (2, (intA t2)), (7, (intA t7)), (26, (intA t26)), (29, (intA t29))], ((0, some ⟨[(intA b0_0), (intA b0_1), (intA b0_2), (intA b0_3), (intA b0_4), (intA b0_5), (intA b0_6), (intA b0_7), (intA b0_8), (intA b0_9), (intA b0_10), (intA b0_11), (intA b0_12), (intA b0_13), (intA b0_14), (intA b0_15)], 24⟩) :: m), 300000⟩
noncomputable def c36_1_0_0 : Code := loopB c36_1_0 0
noncomputable def q36_1_0_0 (R : AV → Mem → Prop) (N0 : St → Prop) (N1 : St → Prop) : AExit → St → Prop := contW Try.prog KK 55 0 c36_1_0 0 (qq36_1_0 R N0 N1)
noncomputable def qq36_1_0_0 (R : AV → Mem → Prop) (N0 : St → Prop) (N1 : St → Prop) (N2 : St → Prop) : AExit → St → Prop := thenQ N2 (q36_1_0_0 R N0 N1)
def h36_1_0_0 (t2 : Int) (t7 : Int) (t8 : Int) (t26 : Int) (t29 : Int) (t32 : Int) (b0_0 : Int) (b0_1 : Int) (b0_2 : Int) (b0_3 : Int) (b0_4 : Int) (b0_5 : Int) (b0_6 : Int) (b0_7 : Int) (b0_8 : Int) (b0_9 : Int) (b0_10 : Int) (b0_11 : Int) (b0_12 : Int) (b0_13 : Int) (b0_14 : Int) (b0_15 : Int) (m : Mem) : St := ⟨[(1, (AV.ptr 0 0)), (2, (intA t2)), (7, (intA t7)), (8, (intA t8)), (26, (intA t26)), (29, (intA t29)), (32, (intA t32))], ((0, some ⟨[(intA b0_0), (intA b0_1), (intA b0_2), (intA b0_3), (intA b0_4), (intA b0_5), (intA b0_6), (intA b0_7), (intA b0_8), (intA b0_9), (intA b0_10), (intA b0_11), (intA b0_12), (intA b0_13), (intA b0_14), (intA b0_15)], 24⟩) :: m), 400000⟩
noncomputable def B36_0 (t2 : Int) (t10_0 : Int) (t10_1 : Int) (t10_2 : Int) (t10_3 : Int) (t10_4 : Int) (t10_5 : Int) (t10_6 : Int) (t10_7 : Int) (t10_8 : Int) (t10_9 : Int) (t10_10 : Int) (t10_11 : Int) (t10_12 : Int) (t10_13 : Int) (t10_14 : Int) (t10_15 : Int) (t11 : Int) (b0_0 : Int) (b0_1 : Int) (b0_2 : Int) (b0_3 : Int) (b0_4 : Int) (b0_5 : Int) (b0_6 : Int) (b0_7 : Int) (b0_8 : Int) (b0_9 : Int) (b0_10 : Int) (b0_11 : Int) (b0_12 : Int) (b0_13 : Int) (b0_14 : Int) (b0_15 : Int) (m : Mem) (R : AV → Mem → Prop) (N0 : St → Prop) : Prop :=
bif (decide (t11 < (4))) then (
opP (opA Try.prog (.index 24 (.tmp 0) (.tmp 1)) 22 [(AV.agg [(intA t10_0), (intA t10_1), (intA t10_2), (intA t10_3), (intA t10_4), (intA t10_5), (intA t10_6), (intA t10_7), (intA t10_8), (intA t10_9), (intA t10_10), (intA t10_11), (intA t10_12), (intA t10_13), (intA t10_14), (intA t10_15)]), (intA t11)] (mget ((0, some ⟨[(intA b0_0), (intA b0_1), (intA b0_2), (intA b0_3), (intA b0_4), (intA b0_5), (intA b0_6), (intA b0_7), (intA b0_8), (intA b0_9), (intA b0_10), (intA b0_11), (intA b0_12), (intA b0_13), (intA b0_14), (intA b0_15)], 24⟩) :: m)) 100001) fun v0 =>
exA4 v0 fun c1 c2 c3 c4 =>
ex_i64 c1 fun z5 =>
ex_i64 c2 fun z6 =>
ex_i64 c3 fun z7 =>
ex_i64 c4 fun z8 =>
Tri Try.prog KK 55 0 (.loop c36_0_0) ⟨[(1, (AV.ptr 0 0)), (2, (intA t2)), (10, (AV.agg [(intA t10_0), (intA t10_1), (intA t10_2), (intA t10_3), (intA t10_4), (intA t10_5), (intA t10_6), (intA t10_7), (intA t10_8), (intA t10_9), (intA t10_10), (intA t10_11), (intA t10_12), (intA t10_13), (intA t10_14), (intA t10_15)])), (11, (intA t11)), (12, (boolA (decide (t11 < (4))))), (13, (AV.agg [(intA z5), (intA z6), (intA z7), (intA z8)])), (4, (AV.ptr 100002 0)), (14, (AV.agg [(intA z5), (intA z6), (intA z7), (intA z8)])), (15, (intA (0)))], ((100002, some ⟨[(intA z5), (intA z6), (intA z7), (intA z8)], 22⟩) :: (100002, some ⟨[(intA (0)), (intA (0)), (intA (0)), (intA (0))], 22⟩) :: (0, some ⟨[(intA b0_0), (intA b0_1), (intA b0_2), (intA b0_3), (intA b0_4), (intA b0_5), (intA b0_6), (intA b0_7), (intA b0_8), (intA b0_9), (intA b0_10), (intA b0_11), (intA b0_12), (intA b0_13), (intA b0_14), (intA b0_15)], 24⟩) :: m), 100006⟩ (q36_0_0 R N0)) else (
Tri Try.prog KK 55 0 (.loop c36_1) ⟨[(1, (AV.ptr 0 0)), (2, (intA t2)), (10, (AV.agg [(intA t10_0), (intA t10_1), (intA t10_2), (intA t10_3), (intA t10_4), (intA t10_5), (intA t10_6), (intA t10_7), (intA t10_8), (intA t10_9), (intA t10_10), (intA t10_11), (intA t10_12), (intA t10_13), (intA t10_14), (intA t10_15)])), (11, (intA t11)), (12, (boolA (decide (t11 < (4))))), (26, (intA (0)))], ((0, some ⟨[(intA b0_0), (intA b0_1), (intA b0_2), (intA b0_3), (intA b0_4), (intA b0_5), (intA b0_6), (intA b0_7), (intA b0_8), (intA b0_9), (intA b0_10), (intA b0_11), (intA b0_12), (intA b0_13), (intA b0_14), (intA b0_15)], 24⟩) :: m), 100002⟩ (q36_1 R))
theorem B36_0_eq (t2 : Int) (t10_0 : Int) (t10_1 : Int) (t10_2 : Int) (t10_3 : Int) (t10_4 : Int) (t10_5 : Int) (t10_6 : Int) (t10_7 : Int) (t10_8 : Int) (t10_9 : Int) (t10_10 : Int) (t10_11 : Int) (t10_12 : Int) (t10_13 : Int) (t10_14 : Int) (t10_15 : Int) (t11 : Int) (b0_0 : Int) (b0_1 : Int) (b0_2 : Int) (b0_3 : Int) (b0_4 : Int) (b0_5 : Int) (b0_6 : Int) (b0_7 : Int) (b0_8 : Int) (b0_9 : Int) (b0_10 : Int) (b0_11 : Int) (b0_12 : Int) (b0_13 : Int) (b0_14 : Int) (b0_15 : Int) (m : Mem) (R : AV → Mem → Prop) (N0 : St → Prop) : W Try.prog KK 55 0 c36_0 (h36_0 t2 t10_0 t10_1 t10_2 t10_3 t10_4 t10_5 t10_6 t10_7 t10_8 t10_9 t10_10 t10_11 t10_12 t10_13 t10_14 t10_15 t11 b0_0 b0_1 b0_2 b0_3 b0_4 b0_5 b0_6 b0_7 b0_8 b0_9 b0_10 b0_11 b0_12 b0_13 b0_14 b0_15 m) (qq36_0 R N0) = B36_0 t2 t10_0 t10_1 t10_2 t10_3 t10_4 t10_5 t10_6 t10_7 t10_8 t10_9 t10_10 t10_11 t10_12 t10_13 t10_14 t10_15 t11 b0_0 b0_1 b0_2 b0_3 b0_4 b0_5 b0_6 b0_7 b0_8 b0_9 b0_10 b0_11 b0_12 b0_13 b0_14 b0_15 m R N0 := by kernel_rfl
theorem L36_0 (R : AV → Mem → Prop) {σ : Type} (I : σ → Prop) (t2 : σ → Int) (t10_0 : σ → Int) (t10_1 : σ → Int) (t10_2 : σ → Int) (t10_3 : σ → Int) (t10_4 : σ → Int) (t10_5 : σ → Int) (t10_6 : σ → Int) (t10_7 : σ → Int) (t10_8 : σ → Int) (t10_9 : σ → Int) (t10_10 : σ → Int) (t10_11 : σ → Int) (t10_12 : σ → Int) (t10_13 : σ → Int) (t10_14 : σ → Int) (t10_15 : σ → Int) (t11 : σ → Int) (b0_0 : σ → Int) (b0_1 : σ → Int) (b0_2 : σ → Int) (b0_3 : σ → Int) (b0_4 : σ → Int) (b0_5 : σ → Int) (b0_6 : σ → Int) (b0_7 : σ → Int) (b0_8 : σ → Int) (b0_9 : σ → Int) (b0_10 : σ → Int) (b0_11 : σ → Int) (b0_12 : σ → Int) (b0_13 : σ → Int) (b0_14 : σ → Int) (b0_15 : σ → Int) (m : σ → Mem) (μ : σ → Nat) (step : ∀ x, I x → B36_0 (t2 x) (t10_0 x) (t10_1 x) (t10_2 x) (t10_3 x) (t10_4 x) (t10_5 x) (t10_6 x) (t10_7 x) (t10_8 x) (t10_9 x) (t10_10 x) (t10_11 x) (t10_12 x) (t10_13 x) (t10_14 x) (t10_15 x) (t11 x) (b0_0 x) (b0_1 x) (b0_2 x) (b0_3 x) (b0_4 x) (b0_5 x) (b0_6 x) (b0_7 x) (b0_8 x) (b0_9 x) (b0_10 x) (b0_11 x) (b0_12 x) (b0_13 x) (b0_14 x) (b0_15 x) (m x) R (fun s' => ∃ y, I y ∧ μ y < μ x ∧ Weak KK 55 0 s' (h36_0 (t2 y) (t10_0 y) (t10_1 y) (t10_2 y) (t10_3 y) (t10_4 y) (t10_5 y) (t10_6 y) (t10_7 y) (t10_8 y) (t10_9 y) (t10_10 y) (t10_11 y) (t10_12 y) (t10_13 y) (t10_14 y) (t10_15 y) (t11 y) (b0_0 y) (b0_1 y) (b0_2 y) (b0_3 y) (b0_4 y) (b0_5 y) (b0_6 y) (b0_7 y) (b0_8 y) (b0_9 y) (b0_10 y) (b0_11 y) (b0_12 y) (b0_13 y) (b0_14 y) (b0_15 y) (m y)))) (x : σ) (hx : I x) {s : St} (hw : Weak KK 55 0 s (h36_0 (t2 x) (t10_0 x) (t10_1 x) (t10_2 x) (t10_3 x) (t10_4 x) (t10_5 x) (t10_6 x) (t10_7 x) (t10_8 x) (t10_9 x) (t10_10 x) (t10_11 x) (t10_12 x) (t10_13 x) (t10_14 x) (t10_15 x) (t11 x) (b0_0 x) (b0_1 x) (b0_2 x) (b0_3 x) (b0_4 x) (b0_5 x) (b0_6 x) (b0_7 x) (b0_8 x) (b0_9 x) (b0_10 x) (b0_11 x) (b0_12 x) (b0_13 x) (b0_14 x) (b0_15 x) (m x))) : Tri Try.prog KK 55 0 (.loop c36_0) s (q36_0 R) :=
  Tri.weak hw (Tri.loops fol I (fun x => h36_0 (t2 x) (t10_0 x) (t10_1 x) (t10_2 x) (t10_3 x) (t10_4 x) (t10_5 x) (t10_6 x) (t10_7 x) (t10_8 x) (t10_9 x) (t10_10 x) (t10_11 x) (t10_12 x) (t10_13 x) (t10_14 x) (t10_15 x) (t11 x) (b0_0 x) (b0_1 x) (b0_2 x) (b0_3 x) (b0_4 x) (b0_5 x) (b0_6 x) (b0_7 x) (b0_8 x) (b0_9 x) (b0_10 x) (b0_11 x) (b0_12 x) (b0_13 x) (b0_14 x) (b0_15 x) (m x)) μ (fun x hx => (B36_0_eq (t2 x) (t10_0 x) (t10_1 x) (t10_2 x) (t10_3 x) (t10_4 x) (t10_5 x) (t10_6 x) (t10_7 x) (t10_8 x) (t10_9 x) (t10_10 x) (t10_11 x) (t10_12 x) (t10_13 x) (t10_14 x) (t10_15 x) (t11 x) (b0_0 x) (b0_1 x) (b0_2 x) (b0_3 x) (b0_4 x) (b0_5 x) (b0_6 x) (b0_7 x) (b0_8 x) (b0_9 x) (b0_10 x) (b0_11 x) (b0_12 x) (b0_13 x) (b0_14 x) (b0_15 x) (m x) R _).mpr (step x hx)) x hx)
noncomputable def B36_0_0 (t2 : Int) (t10_0 : Int) (t10_1 : Int) (t10_2 : Int) (t10_3 : Int) (t10_4 : Int) (t10_5 : Int) (t10_6 : Int) (t10_7 : Int) (t10_8 : Int) (t10_9 : Int) (t10_10 : Int) (t10_11 : Int) (t10_12 : Int) (t10_13 : Int) (t10_14 : Int) (t10_15 : Int) (t11 : Int) (t14_0 : Int) (t14_1 : Int) (t14_2 : Int) (t14_3 : Int) (t15 : Int) (b0_0 : Int) (b0_1 : Int) (b0_2 : Int) (b0_3 : Int) (b0_4 : Int) (b0_5 : Int) (b0_6 : Int) (b0_7 : Int) (b0_8 : Int) (b0_9 : Int) (b0_10 : Int) (b0_11 : Int) (b0_12 : Int) (b0_13 : Int) (b0_14 : Int) (b0_15 : Int) (m : Mem) (R : AV → Mem → Prop) (N0 : St → Prop) (N1 : St → Prop) : Prop :=
bif (decide (t15 < (4))) then (
opP (opA Try.prog (.index 22 (.tmp 0) (.tmp 1)) 3 [(AV.agg [(intA t14_0), (intA t14_1), (intA t14_2), (intA t14_3)]), (intA t15)] (mget ((0, some ⟨[(intA b0_0), (intA b0_1), (intA b0_2), (intA b0_3), (intA b0_4), (intA b0_5), (intA b0_6), (intA b0_7), (intA b0_8), (intA b0_9), (intA b0_10), (intA b0_11), (intA b0_12), (intA b0_13), (intA b0_14), (intA b0_15)], 24⟩) :: m)) 200001) fun v9 =>
ex_i64 v9 fun z10 =>
bif (decide (z10 < (30))) then (
retL R ((0, some ⟨[(intA b0_0), (intA b0_1), (intA b0_2), (intA b0_3), (intA b0_4), (intA b0_5), (intA b0_6), (intA b0_7), (intA b0_8), (intA b0_9), (intA b0_10), (intA b0_11), (intA b0_12), (intA b0_13), (intA b0_14), (intA b0_15)], 24⟩) :: m) [some (intA (4))]) else (
bif (decide (z10 > (600))) then (
retL R ((0, some ⟨[(intA b0_0), (intA b0_1), (intA b0_2), (intA b0_3), (intA b0_4), (intA b0_5), (intA b0_6), (intA b0_7), (intA b0_8), (intA b0_9), (intA b0_10), (intA b0_11), (intA b0_12), (intA b0_13), (intA b0_14), (intA b0_15)], 24⟩) :: m) [some (intA (4))]) else (
N1 ⟨[(1, (AV.ptr 0 0)), (2, (intA t2)), (10, (AV.agg [(intA t10_0), (intA t10_1), (intA t10_2), (intA t10_3), (intA t10_4), (intA t10_5), (intA t10_6), (intA t10_7), (intA t10_8), (intA t10_9), (intA t10_10), (intA t10_11), (intA t10_12), (intA t10_13), (intA t10_14), (intA t10_15)])), (11, (intA t11)), (14, (AV.agg [(intA t14_0), (intA t14_1), (intA t14_2), (intA t14_3)])), (15, (intA (IntKind.wrap .i64 (t15 + (1))))), (16, (boolA (decide (t15 < (4))))), (17, (intA z10)), (6, (intA z10)), (18, (intA z10)), (19, (boolA (decide (z10 < (30))))), (20, (boolA false)), (21, (intA z10)), (22, (boolA (decide (z10 > (600))))), (23, (boolA (decide (z10 > (600))))), (24, (intA (IntKind.wrap .i64 (t15 + (1)))))], ((0, some ⟨[(intA b0_0), (intA b0_1), (intA b0_2), (intA b0_3), (intA b0_4), (intA b0_5), (intA b0_6), (intA b0_7), (intA b0_8), (intA b0_9), (intA b0_10), (intA b0_11), (intA b0_12), (intA b0_13), (intA b0_14), (intA b0_15)], 24⟩) :: m), 200011⟩))) else (
N0 ⟨[(1, (AV.ptr 0 0)), (2, (intA t2)), (10, (AV.agg [(intA t10_0), (intA t10_1), (intA t10_2), (intA t10_3), (intA t10_4), (intA t10_5), (intA t10_6), (intA t10_7), (intA t10_8), (intA t10_9), (intA t10_10), (intA t10_11), (intA t10_12), (intA t10_13), (intA t10_14), (intA t10_15)])), (11, (intA (IntKind.wrap .i64 (t11 + (1))))), (14, (AV.agg [(intA t14_0), (intA t14_1), (intA t14_2), (intA t14_3)])), (15, (intA t15)), (16, (boolA (decide (t15 < (4))))), (25, (intA (IntKind.wrap .i64 (t11 + (1)))))], ((0, some ⟨[(intA b0_0), (intA b0_1), (intA b0_2), (intA b0_3), (intA b0_4), (intA b0_5), (intA b0_6), (intA b0_7), (intA b0_8), (intA b0_9), (intA b0_10), (intA b0_11), (intA b0_12), (intA b0_13), (intA b0_14), (intA b0_15)], 24⟩) :: m), 200003⟩)
theorem B36_0_0_eq (t2 : Int) (t10_0 : Int) (t10_1 : Int) (t10_2 : Int) (t10_3 : Int) (t10_4 : Int) (t10_5 : Int) (t10_6 : Int) (t10_7 : Int) (t10_8 : Int) (t10_9 : Int) (t10_10 : Int) (t10_11 : Int) (t10_12 : Int) (t10_13 : Int) (t10_14 : Int) (t10_15 : Int) (t11 : Int) (t14_0 : Int) (t14_1 : Int) (t14_2 : Int) (t14_3 : Int) (t15 : Int) (b0_0 : Int) (b0_1 : Int) (b0_2 : Int) (b0_3 : Int) (b0_4 : Int) (b0_5 : Int) (b0_6 : Int) (b0_7 : Int) (b0_8 : Int) (b0_9 : Int) (b0_10 : Int) (b0_11 : Int) (b0_12 : Int) (b0_13 : Int) (b0_14 : Int) (b0_15 : Int) (m : Mem) (R : AV → Mem → Prop) (N0 : St → Prop) (N1 : St → Prop) : W Try.prog KK 55 0 c36_0_0 (h36_0_0 t2 t10_0 t10_1 t10_2 t10_3 t10_4 t10_5 t10_6 t10_7 t10_8 t10_9 t10_10 t10_11 t10_12 t10_13 t10_14 t10_15 t11 t14_0 t14_1 t14_2 t14_3 t15 b0_0 b0_1 b0_2 b0_3 b0_4 b0_5 b0_6 b0_7 b0_8 b0_9 b0_10 b0_11 b0_12 b0_13 b0_14 b0_15 m) (qq36_0_0 R N0 N1) = B36_0_0 t2 t10_0 t10_1 t10_2 t10_3 t10_4 t10_5 t10_6 t10_7 t10_8 t10_9 t10_10 t10_11 t10_12 t10_13 t10_14 t10_15 t11 t14_0 t14_1 t14_2 t14_3 t15 b0_0 b0_1 b0_2 b0_3 b0_4 b0_5 b0_6 b0_7 b0_8 b0_9 b0_10 b0_11 b0_12 b0_13 b0_14 b0_15 m R N0 N1 := by kernel_rfl
theorem L36_0_0 (R : AV → Mem → Prop) (N0 : St → Prop) {σ : Type} (I : σ → Prop) (t2 : σ → Int) (t10_0 : σ → Int) (t10_1 : σ → Int) (t10_2 : σ → Int) (t10_3 : σ → Int) (t10_4 : σ → Int) (t10_5 : σ → Int) (t10_6 : σ → Int) (t10_7 : σ → Int) (t10_8 : σ → Int) (t10_9 : σ → Int) (t10_10 : σ → Int) (t10_11 : σ → Int) (t10_12 : σ → Int) (t10_13 : σ → Int) (t10_14 : σ → Int) (t10_15 : σ → Int) (t11 : σ → Int) (t14_0 : σ → Int) (t14_1 : σ → Int) (t14_2 : σ → Int) (t14_3 : σ → Int) (t15 : σ → Int) (b0_0 : σ → Int) (b0_1 : σ → Int) (b0_2 : σ → Int) (b0_3 : σ → Int) (b0_4 : σ → Int) (b0_5 : σ → Int) (b0_6 : σ → Int) (b0_7 : σ → Int) (b0_8 : σ → Int) (b0_9 : σ → Int) (b0_10 : σ → Int) (b0_11 : σ → Int) (b0_12 : σ → Int) (b0_13 : σ → Int) (b0_14 : σ → Int) (b0_15 : σ → Int) (m : σ → Mem) (μ : σ → Nat) (step : ∀ x, I x → B36_0_0 (t2 x) (t10_0 x) (t10_1 x) (t10_2 x) (t10_3 x) (t10_4 x) (t10_5 x) (t10_6 x) (t10_7 x) (t10_8 x) (t10_9 x) (t10_10 x) (t10_11 x) (t10_12 x) (t10_13 x) (t10_14 x) (t10_15 x) (t11 x) (t14_0 x) (t14_1 x) (t14_2 x) (t14_3 x) (t15 x) (b0_0 x) (b0_1 x) (b0_2 x) (b0_3 x) (b0_4 x) (b0_5 x) (b0_6 x) (b0_7 x) (b0_8 x) (b0_9 x) (b0_10 x) (b0_11 x) (b0_12 x) (b0_13 x) (b0_14 x) (b0_15 x) (m x) R N0 (fun s' => ∃ y, I y ∧ μ y < μ x ∧ Weak KK 55 0 s' (h36_0_0 (t2 y) (t10_0 y) (t10_1 y) (t10_2 y) (t10_3 y) (t10_4 y) (t10_5 y) (t10_6 y) (t10_7 y) (t10_8 y) (t10_9 y) (t10_10 y) (t10_11 y) (t10_12 y) (t10_13 y) (t10_14 y) (t10_15 y) (t11 y) (t14_0 y) (t14_1 y) (t14_2 y) (t14_3 y) (t15 y) (b0_0 y) (b0_1 y) (b0_2 y) (b0_3 y) (b0_4 y) (b0_5 y) (b0_6 y) (b0_7 y) (b0_8 y) (b0_9 y) (b0_10 y) (b0_11 y) (b0_12 y) (b0_13 y) (b0_14 y) (b0_15 y) (m y)))) (x : σ) (hx : I x) {s : St} (hw : Weak KK 55 0 s (h36_0_0 (t2 x) (t10_0 x) (t10_1 x) (t10_2 x) (t10_3 x) (t10_4 x) (t10_5 x) (t10_6 x) (t10_7 x) (t10_8 x) (t10_9 x) (t10_10 x) (t10_11 x) (t10_12 x) (t10_13 x) (t10_14 x) (t10_15 x) (t11 x) (t14_0 x) (t14_1 x) (t14_2 x) (t14_3 x) (t15 x) (b0_0 x) (b0_1 x) (b0_2 x) (b0_3 x) (b0_4 x) (b0_5 x) (b0_6 x) (b0_7 x) (b0_8 x) (b0_9 x) (b0_10 x) (b0_11 x) (b0_12 x) (b0_13 x) (b0_14 x) (b0_15 x) (m x))) : Tri Try.prog KK 55 0 (.loop c36_0_0) s (q36_0_0 R N0) :=
  Tri.weak hw (Tri.loops fol I (fun x => h36_0_0 (t2 x) (t10_0 x) (t10_1 x) (t10_2 x) (t10_3 x) (t10_4 x) (t10_5 x) (t10_6 x) (t10_7 x) (t10_8 x) (t10_9 x) (t10_10 x) (t10_11 x) (t10_12 x) (t10_13 x) (t10_14 x) (t10_15 x) (t11 x) (t14_0 x) (t14_1 x) (t14_2 x) (t14_3 x) (t15 x) (b0_0 x) (b0_1 x) (b0_2 x) (b0_3 x) (b0_4 x) (b0_5 x) (b0_6 x) (b0_7 x) (b0_8 x) (b0_9 x) (b0_10 x) (b0_11 x) (b0_12 x) (b0_13 x) (b0_14 x) (b0_15 x) (m x)) μ (fun x hx => (B36_0_0_eq (t2 x) (t10_0 x) (t10_1 x) (t10_2 x) (t10_3 x) (t10_4 x) (t10_5 x) (t10_6 x) (t10_7 x) (t10_8 x) (t10_9 x) (t10_10 x) (t10_11 x) (t10_12 x) (t10_13 x) (t10_14 x) (t10_15 x) (t11 x) (t14_0 x) (t14_1 x) (t14_2 x) (t14_3 x) (t15 x) (b0_0 x) (b0_1 x) (b0_2 x) (b0_3 x) (b0_4 x) (b0_5 x) (b0_6 x) (b0_7 x) (b0_8 x) (b0_9 x) (b0_10 x) (b0_11 x) (b0_12 x) (b0_13 x) (b0_14 x) (b0_15 x) (m x) R N0 _).mpr (step x hx)) x hx)
noncomputable def B36_1 (t2 : Int) (t26 : Int) (b0_0 : Int) (b0_1 : Int) (b0_2 : Int) (b0_3 : Int) (b0_4 : Int) (b0_5 : Int) (b0_6 : Int) (b0_7 : Int) (b0_8 : Int) (b0_9 : Int) (b0_10 : Int) (b0_11 : Int) (b0_12 : Int) (b0_13 : Int) (b0_14 : Int) (b0_15 : Int) (m : Mem) (R : AV → Mem → Prop) (N0 : St → Prop) : Prop :=
bif (decide (t26 < (4))) then (
Tri Try.prog KK 55 0 (.loop c36_1_0) ⟨[(1, (AV.ptr 0 0)), (2, (intA t2)), (26, (intA t26)), (27, (boolA (decide (t26 < (4))))), (28, (intA t26)), (7, (intA t26)), (29, (intA (0)))], ((0, some ⟨[(intA b0_0), (intA b0_1), (intA b0_2), (intA b0_3), (intA b0_4), (intA b0_5), (intA b0_6), (intA b0_7), (intA b0_8), (intA b0_9), (intA b0_10), (intA b0_11), (intA b0_12), (intA b0_13), (intA b0_14), (intA b0_15)], 24⟩) :: m), 200004⟩ (q36_1_0 R N0)) else (
retL R ((0, some ⟨[(intA b0_0), (intA b0_1), (intA b0_2), (intA b0_3), (intA b0_4), (intA b0_5), (intA b0_6), (intA b0_7), (intA b0_8), (intA b0_9), (intA b0_10), (intA b0_11), (intA b0_12), (intA b0_13), (intA b0_14), (intA b0_15)], 24⟩) :: m) [some (intA (0))])
theorem B36_1_eq (t2 : Int) (t26 : Int) (b0_0 : Int) (b0_1 : Int) (b0_2 : Int) (b0_3 : Int) (b0_4 : Int) (b0_5 : Int) (b0_6 : Int) (b0_7 : Int) (b0_8 : Int) (b0_9 : Int) (b0_10 : Int) (b0_11 : Int) (b0_12 : Int) (b0_13 : Int) (b0_14 : Int) (b0_15 : Int) (m : Mem) (R : AV → Mem → Prop) (N0 : St → Prop) : W Try.prog KK 55 0 c36_1 (h36_1 t2 t26 b0_0 b0_1 b0_2 b0_3 b0_4 b0_5 b0_6 b0_7 b0_8 b0_9 b0_10 b0_11 b0_12 b0_13 b0_14 b0_15 m) (qq36_1 R N0) = B36_1 t2 t26 b0_0 b0_1 b0_2 b0_3 b0_4 b0_5 b0_6 b0_7 b0_8 b0_9 b0_10 b0_11 b0_12 b0_13 b0_14 b0_15 m R N0 := by kernel_rfl
theorem L36_1 (R : AV → Mem → Prop) {σ : Type} (I : σ → Prop) (t2 : σ → Int) (t26 : σ → Int) (b0_0 : σ → Int) (b0_1 : σ → Int) (b0_2 : σ → Int) (b0_3 : σ → Int) (b0_4 : σ → Int) (b0_5 : σ → Int) (b0_6 : σ → Int) (b0_7 : σ → Int) (b0_8 : σ → Int) (b0_9 : σ → Int) (b0_10 : σ → Int) (b0_11 : σ → Int) (b0_12 : σ → Int) (b0_13 : σ → Int) (b0_14 : σ → Int) (b0_15 : σ → Int) (m : σ → Mem) (μ : σ → Nat) (step : ∀ x, I x → B36_1 (t2 x) (t26 x) (b0_0 x) (b0_1 x) (b0_2 x) (b0_3 x) (b0_4 x) (b0_5 x) (b0_6 x) (b0_7 x) (b0_8 x) (b0_9 x) (b0_10 x) (b0_11 x) (b0_12 x) (b0_13 x) (b0_14 x) (b0_15 x) (m x) R (fun s' => ∃ y, I y ∧ μ y < μ x ∧ Weak KK 55 0 s' (h36_1 (t2 y) (t26 y) (b0_0 y) (b0_1 y) (b0_2 y) (b0_3 y) (b0_4 y) (b0_5 y) (b0_6 y) (b0_7 y) (b0_8 y) (b0_9 y) (b0_10 y) (b0_11 y) (b0_12 y) (b0_13 y) (b0_14 y) (b0_15 y) (m y)))) (x : σ) (hx : I x) {s : St} (hw : Weak KK 55 0 s (h36_1 (t2 x) (t26 x) (b0_0 x) (b0_1 x) (b0_2 x) (b0_3 x) (b0_4 x) (b0_5 x) (b0_6 x) (b0_7 x) (b0_8 x) (b0_9 x) (b0_10 x) (b0_11 x) (b0_12 x) (b0_13 x) (b0_14 x) (b0_15 x) (m x))) : Tri Try.prog KK 55 0 (.loop c36_1) s (q36_1 R) :=
  Tri.weak hw (Tri.loops fol I (fun x => h36_1 (t2 x) (t26 x) (b0_0 x) (b0_1 x) (b0_2 x) (b0_3 x) (b0_4 x) (b0_5 x) (b0_6 x) (b0_7 x) (b0_8 x) (b0_9 x) (b0_10 x) (b0_11 x) (b0_12 x) (b0_13 x) (b0_14 x) (b0_15 x) (m x)) μ (fun x hx => (B36_1_eq (t2 x) (t26 x) (b0_0 x) (b0_1 x) (b0_2 x) (b0_3 x) (b0_4 x) (b0_5 x) (b0_6 x) (b0_7 x) (b0_8 x) (b0_9 x) (b0_10 x) (b0_11 x) (b0_12 x) (b0_13 x) (b0_14 x) (b0_15 x) (m x) R _).mpr (step x hx)) x hx)
noncomputable def B36_1_0 (t2 : Int) (t7 : Int) (t26 : Int) (t29 : Int) (b0_0 : Int) (b0_1 : Int) (b0_2 : Int) (b0_3 : Int) (b0_4 : Int) (b0_5 : Int) (b0_6 : Int) (b0_7 : Int) (b0_8 : Int) (b0_9 : Int) (b0_10 : Int) (b0_11 : Int) (b0_12 : Int) (b0_13 : Int) (b0_14 : Int) (b0_15 : Int) (m : Mem) (R : AV → Mem → Prop) (N0 : St → Prop) (N1 : St → Prop) : Prop :=
bif (decide (t29 < (4))) then (
Tri Try.prog KK 55 0 (.loop c36_1_0_0) ⟨[(1, (AV.ptr 0 0)), (2, (intA t2)), (7, (intA t7)), (26, (intA t26)), (29, (intA t29)), (30, (boolA (decide (t29 < (4))))), (31, (intA t29)), (8, (intA t29)), (32, (intA (0)))], ((0, some ⟨[(intA b0_0), (intA b0_1), (intA b0_2), (intA b0_3), (intA b0_4), (intA b0_5), (intA b0_6), (intA b0_7), (intA b0_8), (intA b0_9), (intA b0_10), (intA b0_11), (intA b0_12), (intA b0_13), (intA b0_14), (intA b0_15)], 24⟩) :: m), 300004⟩ (q36_1_0_0 R N0 N1)) else (
N0 ⟨[(1, (AV.ptr 0 0)), (2, (intA t2)), (7, (intA t7)), (26, (intA (IntKind.wrap .i64 (t26 + (1))))), (29, (intA t29)), (30, (boolA (decide (t29 < (4))))), (54, (intA (IntKind.wrap .i64 (t26 + (1)))))], ((0, some ⟨[(intA b0_0), (intA b0_1), (intA b0_2), (intA b0_3), (intA b0_4), (intA b0_5), (intA b0_6), (intA b0_7), (intA b0_8), (intA b0_9), (intA b0_10), (intA b0_11), (intA b0_12), (intA b0_13), (intA b0_14), (intA b0_15)], 24⟩) :: m), 300003⟩)
theorem B36_1_0_eq (t2 : Int) (t7 : Int) (t26 : Int) (t29 : Int) (b0_0 : Int) (b0_1 : Int) (b0_2 : Int) (b0_3 : Int) (b0_4 : Int) (b0_5 : Int) (b0_6 : Int) (b0_7 : Int) (b0_8 : Int) (b0_9 : Int) (b0_10 : Int) (b0_11 : Int) (b0_12 : Int) (b0_13 : Int) (b0_14 : Int) (b0_15 : Int) (m : Mem) (R : AV → Mem → Prop) (N0 : St → Prop) (N1 : St → Prop) : W Try.prog KK 55 0 c36_1_0 (h36_1_0 t2 t7 t26 t29 b0_0 b0_1 b0_2 b0_3 b0_4 b0_5 b0_6 b0_7 b0_8 b0_9 b0_10 b0_11 b0_12 b0_13 b0_14 b0_15 m) (qq36_1_0 R N0 N1) = B36_1_0 t2 t7 t26 t29 b0_0 b0_1 b0_2 b0_3 b0_4 b0_5 b0_6 b0_7 b0_8 b0_9 b0_10 b0_11 b0_12 b0_13 b0_14 b0_15 m R N0 N1 := by kernel_rfl
theorem L36_1_0 (R : AV → Mem → Prop) (N0 : St → Prop) {σ : Type} (I : σ → Prop) (t2 : σ → Int) (t7 : σ → Int) (t26 : σ → Int) (t29 : σ → Int) (b0_0 : σ → Int) (b0_1 : σ → Int) (b0_2 : σ → Int) (b0_3 : σ → Int) (b0_4 : σ → Int) (b0_5 : σ → Int) (b0_6 : σ → Int) (b0_7 : σ → Int) (b0_8 : σ → Int) (b0_9 : σ → Int) (b0_10 : σ → Int) (b0_11 : σ → Int) (b0_12 : σ → Int) (b0_13 : σ → Int) (b0_14 : σ → Int) (b0_15 : σ → Int) (m : σ → Mem) (μ : σ → Nat) (step : ∀ x, I x → B36_1_0 (t2 x) (t7 x) (t26 x) (t29 x) (b0_0 x) (b0_1 x) (b0_2 x) (b0_3 x) (b0_4 x) (b0_5 x) (b0_6 x) (b0_7 x) (b0_8 x) (b0_9 x) (b0_10 x) (b0_11 x) (b0_12 x) (b0_13 x) (b0_14 x) (b0_15 x) (m x) R N0 (fun s' => ∃ y, I y ∧ μ y < μ x ∧ Weak KK 55 0 s' (h36_1_0 (t2 y) (t7 y) (t26 y) (t29 y) (b0_0 y) (b0_1 y) (b0_2 y) (b0_3 y) (b0_4 y) (b0_5 y) (b0_6 y) (b0_7 y) (b0_8 y) (b0_9 y) (b0_10 y) (b0_11 y) (b0_12 y) (b0_13 y) (b0_14 y) (b0_15 y) (m y)))) (x : σ) (hx : I x) {s : St} (hw : Weak KK 55 0 s (h36_1_0 (t2 x) (t7 x) (t26 x) (t29 x) (b0_0 x) (b0_1 x) (b0_2 x) (b0_3 x) (b0_4 x) (b0_5 x) (b0_6 x) (b0_7 x) (b0_8 x) (b0_9 x) (b0_10 x) (b0_11 x) (b0_12 x) (b0_13 x) (b0_14 x) (b0_15 x) (m x))) : Tri Try.prog KK 55 0 (.loop c36_1_0) s (q36_1_0 R N0) :=
  Tri.weak hw (Tri.loops fol I (fun x => h36_1_0 (t2 x) (t7 x) (t26 x) (t29 x) (b0_0 x) (b0_1 x) (b0_2 x) (b0_3 x) (b0_4 x) (b0_5 x) (b0_6 x) (b0_7 x) (b0_8 x) (b0_9 x) (b0_10 x) (b0_11 x) (b0_12 x) (b0_13 x) (b0_14 x) (b0_15 x) (m x)) μ (fun x hx => (B36_1_0_eq (t2 x) (t7 x) (t26 x) (t29 x) (b0_0 x) (b0_1 x) (b0_2 x) (b0_3 x) (b0_4 x) (b0_5 x) (b0_6 x) (b0_7 x) (b0_8 x) (b0_9 x) (b0_10 x) (b0_11 x) (b0_12 x) (b0_13 x) (b0_14 x) (b0_15 x) (m x) R N0 _).mpr (step x hx)) x hx)
noncomputable def B36_1_0_0 (t2 : Int) (t7 : Int) (t8 : Int) (t26 : Int) (t29 : Int) (t32 : Int) (b0_0 : Int) (b0_1 : Int) (b0_2 : Int) (b0_3 : Int) (b0_4 : Int) (b0_5 : Int) (b0_6 : Int) (b0_7 : Int) (b0_8 : Int) (b0_9 : Int) (b0_10 : Int) (b0_11 : Int) (b0_12 : Int) (b0_13 : Int) (b0_14 : Int) (b0_15 : Int) (m : Mem) (R : AV → Mem → Prop) (N0 : St → Prop) (N1 : St → Prop) (N2 : St → Prop) : Prop :=
bif (decide (t32 < (4))) then (
opP (idxA 4 4 (AV.ptr 0 0) (intA t7)) fun v11 =>
opP (idxA 4 1 v11 (intA t32)) fun v12 =>
opP (ldS (mget ((0, some ⟨[(intA b0_0), (intA b0_1), (intA b0_2), (intA b0_3), (intA b0_4), (intA b0_5), (intA b0_6), (intA b0_7), (intA b0_8), (intA b0_9), (intA b0_10), (intA b0_11), (intA b0_12), (intA b0_13), (intA b0_14), (intA b0_15)], 24⟩) :: m)) v12) fun v13 =>
ex_i64 v13 fun z14 =>
opP (idxA 4 4 (AV.ptr 0 0) (intA t7)) fun v15 =>
opP (idxA 4 1 v15 (intA t8)) fun v16 =>
opP (ldS (mget ((0, some ⟨[(intA b0_0), (intA b0_1), (intA b0_2), (intA b0_3), (intA b0_4), (intA b0_5), (intA b0_6), (intA b0_7), (intA b0_8), (intA b0_9), (intA b0_10), (intA b0_11), (intA b0_12), (intA b0_13), (intA b0_14), (intA b0_15)], 24⟩) :: m)) v16) fun v17 =>
ex_i64 v17 fun z18 =>
opP (idxA 4 4 (AV.ptr 0 0) (intA t8)) fun v19 =>
opP (idxA 4 1 v19 (intA t32)) fun v20 =>
opP (ldS (mget ((0, some ⟨[(intA b0_0), (intA b0_1), (intA b0_2), (intA b0_3), (intA b0_4), (intA b0_5), (intA b0_6), (intA b0_7), (intA b0_8), (intA b0_9), (intA b0_10), (intA b0_11), (intA b0_12), (intA b0_13), (intA b0_14), (intA b0_15)], 24⟩) :: m)) v20) fun v21 =>
ex_i64 v21 fun z22 =>
bif (decide (z14 > (IntKind.wrap .i64 (z18 + z22)))) then (
retL R ((0, some ⟨[(intA b0_0), (intA b0_1), (intA b0_2), (intA b0_3), (intA b0_4), (intA b0_5), (intA b0_6), (intA b0_7), (intA b0_8), (intA b0_9), (intA b0_10), (intA b0_11), (intA b0_12), (intA b0_13), (intA b0_14), (intA b0_15)], 24⟩) :: m) [some (intA (3))]) else (
N2 ⟨[(1, (AV.ptr 0 0)), (2, (intA t2)), (7, (intA t7)), (8, (intA t8)), (26, (intA t26)), (29, (intA t29)), (32, (intA (IntKind.wrap .i64 (t32 + (1))))), (33, (boolA (decide (t32 < (4))))), (34, (intA t32)), (9, (intA t32)), (35, (intA t7)), (36, (intA t32)), (37, v11), (38, v12), (39, (intA z14)), (40, (intA t7)), (41, (intA t8)), (42, v15), (43, v16), (44, (intA z18)), (45, (intA t8)), (46, (intA t32)), (47, v19), (48, v20), (49, (intA z22)), (50, (intA (IntKind.wrap .i64 (z18 + z22)))), (51, (boolA (decide (z14 > (IntKind.wrap .i64 (z18 + z22)))))), (52, (intA (IntKind.wrap .i64 (t32 + (1)))))], ((0, some ⟨[(intA b0_0), (intA b0_1), (intA b0_2), (intA b0_3), (intA b0_4), (intA b0_5), (intA b0_6), (intA b0_7), (intA b0_8), (intA b0_9), (intA b0_10), (intA b0_11), (intA b0_12), (intA b0_13), (intA b0_14), (intA b0_15)], 24⟩) :: m), 400022⟩)) else (
N1 ⟨[(1, (AV.ptr 0 0)), (2, (intA t2)), (7, (intA t7)), (8, (intA t8)), (26, (intA t26)), (29, (intA (IntKind.wrap .i64 (t29 + (1))))), (32, (intA t32)), (33, (boolA (decide (t32 < (4))))), (53, (intA (IntKind.wrap .i64 (t29 + (1)))))], ((0, some ⟨[(intA b0_0), (intA b0_1), (intA b0_2), (intA b0_3), (intA b0_4), (intA b0_5), (intA b0_6), (intA b0_7), (intA b0_8), (intA b0_9), (intA b0_10), (intA b0_11), (intA b0_12), (intA b0_13), (intA b0_14), (intA b0_15)], 24⟩) :: m), 400003⟩)
theorem B36_1_0_0_eq (t2 : Int) (t7 : Int) (t8 : Int) (t26 : Int) (t29 : Int) (t32 : Int) (b0_0 : Int) (b0_1 : Int) (b0_2 : Int) (b0_3 : Int) (b0_4 : Int) (b0_5 : Int) (b0_6 : Int) (b0_7 : Int) (b0_8 : Int) (b0_9 : Int) (b0_10 : Int) (b0_11 : Int) (b0_12 : Int) (b0_13 : Int) (b0_14 : Int) (b0_15 : Int) (m : Mem) (R : AV → Mem → Prop) (N0 : St → Prop) (N1 : St → Prop) (N2 : St → Prop) : W Try.prog KK 55 0 c36_1_0_0 (h36_1_0_0 t2 t7 t8 t26 t29 t32 b0_0 b0_1 b0_2 b0_3 b0_4 b0_5 b0_6 b0_7 b0_8 b0_9 b0_10 b0_11 b0_12 b0_13 b0_14 b0_15 m) (qq36_1_0_0 R N0 N1 N2) = B36_1_0_0 t2 t7 t8 t26 t29 t32 b0_0 b0_1 b0_2 b0_3 b0_4 b0_5 b0_6 b0_7 b0_8 b0_9 b0_10 b0_11 b0_12 b0_13 b0_14 b0_15 m R N0 N1 N2 := by kernel_rfl
theorem L36_1_0_0 (R : AV → Mem → Prop) (N0 : St → Prop) (N1 : St → Prop) {σ : Type} (I : σ → Prop) (t2 : σ → Int) (t7 : σ → Int) (t8 : σ → Int) (t26 : σ → Int) (t29 : σ → Int) (t32 : σ → Int) (b0_0 : σ → Int) (b0_1 : σ → Int) (b0_2 : σ → Int) (b0_3 : σ → Int) (b0_4 : σ → Int) (b0_5 : σ → Int) (b0_6 : σ → Int) (b0_7 : σ → Int) (b0_8 : σ → Int) (b0_9 : σ → Int) (b0_10 : σ → Int) (b0_11 : σ → Int) (b0_12 : σ → Int) (b0_13 : σ → Int) (b0_14 : σ → Int) (b0_15 : σ → Int) (m : σ → Mem) (μ : σ → Nat) (step : ∀ x, I x → B36_1_0_0 (t2 x) (t7 x) (t8 x) (t26 x) (t29 x) (t32 x) (b0_0 x) (b0_1 x) (b0_2 x) (b0_3 x) (b0_4 x) (b0_5 x) (b0_6 x) (b0_7 x) (b0_8 x) (b0_9 x) (b0_10 x) (b0_11 x) (b0_12 x) (b0_13 x) (b0_14 x) (b0_15 x) (m x) R N0 N1 (fun s' => ∃ y, I y ∧ μ y < μ x ∧ Weak KK 55 0 s' (h36_1_0_0 (t2 y) (t7 y) (t8 y) (t26 y) (t29 y) (t32 y) (b0_0 y) (b0_1 y) (b0_2 y) (b0_3 y) (b0_4 y) (b0_5 y) (b0_6 y) (b0_7 y) (b0_8 y) (b0_9 y) (b0_10 y) (b0_11 y) (b0_12 y) (b0_13 y) (b0_14 y) (b0_15 y) (m y)))) (x : σ) (hx : I x) {s : St} (hw : Weak KK 55 0 s (h36_1_0_0 (t2 x) (t7 x) (t8 x) (t26 x) (t29 x) (t32 x) (b0_0 x) (b0_1 x) (b0_2 x) (b0_3 x) (b0_4 x) (b0_5 x) (b0_6 x) (b0_7 x) (b0_8 x) (b0_9 x) (b0_10 x) (b0_11 x) (b0_12 x) (b0_13 x) (b0_14 x) (b0_15 x) (m x))) : Tri Try.prog KK 55 0 (.loop c36_1_0_0) s (q36_1_0_0 R N0 N1) :=
  Tri.weak hw (Tri.loops fol I (fun x => h36_1_0_0 (t2 x) (t7 x) (t8 x) (t26 x) (t29 x) (t32 x) (b0_0 x) (b0_1 x) (b0_2 x) (b0_3 x) (b0_4 x) (b0_5 x) (b0_6 x) (b0_7 x) (b0_8 x) (b0_9 x) (b0_10 x) (b0_11 x) (b0_12 x) (b0_13 x) (b0_14 x) (b0_15 x) (m x)) μ (fun x hx => (B36_1_0_0_eq (t2 x) (t7 x) (t8 x) (t26 x) (t29 x) (t32 x) (b0_0 x) (b0_1 x) (b0_2 x) (b0_3 x) (b0_4 x) (b0_5 x) (b0_6 x) (b0_7 x) (b0_8 x) (b0_9 x) (b0_10 x) (b0_11 x) (b0_12 x) (b0_13 x) (b0_14 x) (b0_15 x) (m x) R N0 N1 _).mpr (step x hx)) x hx)
noncomputable def F36 (a0_0 : Int) (a0_1 : Int) (a0_2 : Int) (a0_3 : Int) (a0_4 : Int) (a0_5 : Int) (a0_6 : Int) (a0_7 : Int) (a0_8 : Int) (a0_9 : Int) (a0_10 : Int) (a0_11 : Int) (a0_12 : Int) (a0_13 : Int) (a0_14 : Int) (a0_15 : Int) (R : AV → Mem → Prop) : Prop :=
Tri Try.prog KK 55 0 (.loop c36_0) ⟨[(0, (AV.agg [(intA a0_0), (intA a0_1), (intA a0_2), (intA a0_3), (intA a0_4), (intA a0_5), (intA a0_6), (intA a0_7), (intA a0_8), (intA a0_9), (intA a0_10), (intA a0_11), (intA a0_12), (intA a0_13), (intA a0_14), (intA a0_15)])), (1, (AV.ptr 0 0)), (2, (intA (0))), (10, (AV.agg [(intA a0_0), (intA a0_1), (intA a0_2), (intA a0_3), (intA a0_4), (intA a0_5), (intA a0_6), (intA a0_7), (intA a0_8), (intA a0_9), (intA a0_10), (intA a0_11), (intA a0_12), (intA a0_13), (intA a0_14), (intA a0_15)])), (11, (intA (0)))], ((0, some ⟨[(intA a0_0), (intA a0_1), (intA a0_2), (intA a0_3), (intA a0_4), (intA a0_5), (intA a0_6), (intA a0_7), (intA a0_8), (intA a0_9), (intA a0_10), (intA a0_11), (intA a0_12), (intA a0_13), (intA a0_14), (intA a0_15)], 24⟩) :: []), 4⟩ (q36_0 R)
theorem F36_own (a0_0 : Int) (a0_1 : Int) (a0_2 : Int) (a0_3 : Int) (a0_4 : Int) (a0_5 : Int) (a0_6 : Int) (a0_7 : Int) (a0_8 : Int) (a0_9 : Int) (a0_10 : Int) (a0_11 : Int) (a0_12 : Int) (a0_13 : Int) (a0_14 : Int) (a0_15 : Int) (R : AV → Mem → Prop) (h : F36 a0_0 a0_1 a0_2 a0_3 a0_4 a0_5 a0_6 a0_7 a0_8 a0_9 a0_10 a0_11 a0_12 a0_13 a0_14 a0_15 R) : Own Try.prog KK.gl 36 [(AV.agg [(intA a0_0), (intA a0_1), (intA a0_2), (intA a0_3), (intA a0_4), (intA a0_5), (intA a0_6), (intA a0_7), (intA a0_8), (intA a0_9), (intA a0_10), (intA a0_11), (intA a0_12), (intA a0_13), (intA a0_14), (intA a0_15)])] R := own_of_F fol Try.func36 (code := c36) (by kernel_rfl) (by kernel_rfl) (by kernel_rfl) (X := F36 a0_0 a0_1 a0_2 a0_3 a0_4 a0_5 a0_6 a0_7 a0_8 a0_9 a0_10 a0_11 a0_12 a0_13 a0_14 a0_15 R) (by kernel_rfl) h
/- skyway/chart.Name -/
noncomputable def c62 : Code := ((Try.f62).body).getD .skip
noncomputable def q62 (R : AV → Mem → Prop) : AExit → St → Prop := retQ Try.prog Try.f62 R
noncomputable def c62_0 : Code := loopB c62 0
noncomputable def q62_0 (R : AV → Mem → Prop) : AExit → St → Prop := contW Try.prog KK 41 0 c62 0 (q62 R)
noncomputable def qq62_0 (R : AV → Mem → Prop) (N0 : St → Prop) : AExit → St → Prop := thenQ N0 (q62_0 R)
def h62_0 (t2 : Bool) (t14 : AV) (t15 : Int) (t16 : Int) (m : Mem) : St := ⟨[(2, (boolA t2)), (14, t14), (15, (intA t15)), (16, (intA t16))], m, 100000⟩
noncomputable def B62_0 (t2 : Bool) (t14 : AV) (t15 : Int) (t16 : Int) (m : Mem) (R : AV → Mem → Prop) (N0 : St → Prop) : Prop :=
bif (decide (t16 < t15)) then (
opP (idxS 1 t14 (intA t16)) fun v7 =>
opP (ldS (mget m) v7) fun v8 =>
ex_u8 v8 fun z9 =>
bif (decide (z9 ≥ (65))) then (
bif (decide (z9 ≤ (90))) then (
N0 ⟨[(2, (boolA t2)), (14, t14), (15, (intA t15)), (16, (intA (IntKind.wrap .i64 (t16 + (1))))), (17, (boolA (decide (t16 < t15)))), (18, (intA t16)), (19, v7), (20, (AV.sc (.int .u8 z9))), (3, (intA t16)), (4, (AV.sc (.int .u8 z9))), (21, (AV.sc (.int .u8 z9))), (22, (boolA (decide (z9 ≥ (65))))), (23, (boolA true)), (24, (AV.sc (.int .u8 z9))), (25, (boolA (decide (z9 ≤ (90))))), (26, (boolA (decide (z9 ≤ (90))))), (27, (boolA true)), (28, (AV.tup [])), (29, (AV.tup [])), (30, (AV.tup [])), (31, (AV.tup [])), (32, (AV.tup [])), (33, (AV.tup [])), (34, (AV.tup [])), (35, (AV.tup [])), (36, (AV.tup [])), (37, (AV.tup [])), (38, (boolA true)), (39, (boolA false)), (40, (intA (IntKind.wrap .i64 (t16 + (1)))))], m, 100017⟩) else (
bif (decide (t16 > (0))) then (
bif (decide (z9 ≥ (48))) then (
bif (!(decide (z9 ≤ (57)))) then (
retL R m [some (boolA false)]) else (
N0 ⟨[(2, (boolA t2)), (14, t14), (15, (intA t15)), (16, (intA (IntKind.wrap .i64 (t16 + (1))))), (17, (boolA (decide (t16 < t15)))), (18, (intA t16)), (19, v7), (20, (AV.sc (.int .u8 z9))), (3, (intA t16)), (4, (AV.sc (.int .u8 z9))), (21, (AV.sc (.int .u8 z9))), (22, (boolA (decide (z9 ≥ (65))))), (23, (boolA true)), (24, (AV.sc (.int .u8 z9))), (25, (boolA (decide (z9 ≤ (90))))), (26, (boolA (decide (z9 ≤ (90))))), (27, (boolA false)), (28, (intA t16)), (29, (boolA (decide (t16 > (0))))), (30, (boolA true)), (31, (AV.sc (.int .u8 z9))), (32, (boolA (decide (z9 ≥ (48))))), (33, (boolA (decide (z9 ≥ (48))))), (34, (boolA true)), (35, (AV.sc (.int .u8 z9))), (36, (boolA (decide (z9 ≤ (57))))), (37, (boolA (decide (z9 ≤ (57))))), (38, (boolA (decide (z9 ≤ (57))))), (39, (boolA (!(decide (z9 ≤ (57)))))), (40, (intA (IntKind.wrap .i64 (t16 + (1)))))], m, 100027⟩)) else (
retL R m [some (boolA false)])) else (
retL R m [some (boolA false)]))) else (
bif (decide (t16 > (0))) then (
bif (decide (z9 ≥ (48))) then (
bif (!(decide (z9 ≤ (57)))) then (
retL R m [some (boolA false)]) else (
N0 ⟨[(2, (boolA t2)), (14, t14), (15, (intA t15)), (16, (intA (IntKind.wrap .i64 (t16 + (1))))), (17, (boolA (decide (t16 < t15)))), (18, (intA t16)), (19, v7), (20, (AV.sc (.int .u8 z9))), (3, (intA t16)), (4, (AV.sc (.int .u8 z9))), (21, (AV.sc (.int .u8 z9))), (22, (boolA (decide (z9 ≥ (65))))), (23, (boolA false)), (24, (AV.tup [])), (25, (AV.tup [])), (26, (boolA false)), (27, (boolA false)), (28, (intA t16)), (29, (boolA (decide (t16 > (0))))), (30, (boolA true)), (31, (AV.sc (.int .u8 z9))), (32, (boolA (decide (z9 ≥ (48))))), (33, (boolA (decide (z9 ≥ (48))))), (34, (boolA true)), (35, (AV.sc (.int .u8 z9))), (36, (boolA (decide (z9 ≤ (57))))), (37, (boolA (decide (z9 ≤ (57))))), (38, (boolA (decide (z9 ≤ (57))))), (39, (boolA (!(decide (z9 ≤ (57)))))), (40, (intA (IntKind.wrap .i64 (t16 + (1)))))], m, 100025⟩)) else (
retL R m [some (boolA false)])) else (
retL R m [some (boolA false)]))) else (
retL R m [some (boolA true)])
theorem B62_0_eq (t2 : Bool) (t14 : AV) (t15 : Int) (t16 : Int) (m : Mem) (R : AV → Mem → Prop) (N0 : St → Prop) : W Try.prog KK 41 0 c62_0 (h62_0 t2 t14 t15 t16 m) (qq62_0 R N0) = B62_0 t2 t14 t15 t16 m R N0 := by kernel_rfl
theorem L62_0 (R : AV → Mem → Prop) {σ : Type} (I : σ → Prop) (t2 : σ → Bool) (t14 : σ → AV) (t15 : σ → Int) (t16 : σ → Int) (m : σ → Mem) (μ : σ → Nat) (step : ∀ x, I x → B62_0 (t2 x) (t14 x) (t15 x) (t16 x) (m x) R (fun s' => ∃ y, I y ∧ μ y < μ x ∧ Weak KK 41 0 s' (h62_0 (t2 y) (t14 y) (t15 y) (t16 y) (m y)))) (x : σ) (hx : I x) {s : St} (hw : Weak KK 41 0 s (h62_0 (t2 x) (t14 x) (t15 x) (t16 x) (m x))) : Tri Try.prog KK 41 0 (.loop c62_0) s (q62_0 R) :=
  Tri.weak hw (Tri.loops fol I (fun x => h62_0 (t2 x) (t14 x) (t15 x) (t16 x) (m x)) μ (fun x hx => (B62_0_eq (t2 x) (t14 x) (t15 x) (t16 x) (m x) R _).mpr (step x hx)) x hx)
noncomputable def F62 (a0 : ByteArray) (R : AV → Mem → Prop) : Prop :=
opP (opA Try.prog (.call ⟨.builtin .len, #[.tmp 0], #[9]⟩) 3 [(AV.sc (.string a0))] (mget []) 2) fun v0 =>
ex_i64 v0 fun z1 =>
bif (decide (z1 < (1))) then (
retL R [] [some (boolA false)]) else (
opP (opA Try.prog (.call ⟨.builtin .len, #[.tmp 0], #[9]⟩) 3 [(AV.sc (.string a0))] (mget []) 6) fun v2 =>
ex_i64 v2 fun z3 =>
bif (decide (z3 > (8))) then (
retL R [] [some (boolA false)]) else (
opP (opA Try.prog (.convert 9 109 (.tmp 0)) 109 [(AV.sc (.string a0))] (mget []) 10) fun v4 =>
opP (lenS v4) fun v5 =>
ex_i64 v5 fun z6 =>
Tri Try.prog KK 41 0 (.loop c62_0) ⟨[(0, (AV.sc (.string a0))), (2, (boolA false)), (5, (AV.sc (.string a0))), (6, (intA z1)), (7, (boolA (decide (z1 < (1))))), (8, (boolA false)), (9, (AV.sc (.string a0))), (10, (intA z3)), (11, (boolA (decide (z3 > (8))))), (12, (boolA (decide (z3 > (8))))), (13, (AV.sc (.string a0))), (14, v4), (15, (intA z6)), (16, (intA (0)))], [], 13⟩ (q62_0 R)))
theorem F62_own (a0 : ByteArray) (R : AV → Mem → Prop) (h : F62 a0 R) : Own Try.prog KK.gl 62 [(AV.sc (.string a0))] R := own_of_F fol Try.func62 (code := c62) (by kernel_rfl) (by kernel_rfl) (by kernel_rfl) (X := F62 a0 R) (by kernel_rfl) h
/- skyway/wake.Class -/
noncomputable def c37 : Code := ((Try.f37).body).getD .skip
noncomputable def q37 (R : AV → Mem → Prop) : AExit → St → Prop := retQ Try.prog Try.f37 R
noncomputable def F37 (a0 : Int) (R : AV → Mem → Prop) : Prop :=
bif (decide (a0 < (0))) then (
retL R [] [some (intA (1))]) else (
bif (decide (a0 > (3))) then (
retL R [] [some (intA (1))]) else (
retL R [] [some (intA (0))]))
theorem F37_own (a0 : Int) (R : AV → Mem → Prop) (h : F37 a0 R) : Own Try.prog KK.gl 37 [(intA a0)] R := own_of_F fol Try.func37 (code := c37) (by kernel_rfl) (by kernel_rfl) (by kernel_rfl) (X := F37 a0 R) (by kernel_rfl) h
/- skyway/sequence.Check$1 -/
noncomputable def c64 : Code := ((Try.f64).body).getD .skip
noncomputable def q64 (R : AV → Mem → Prop) : AExit → St → Prop := retQ Try.prog Try.f64 R
noncomputable def F64 (a0_0 : ByteArray) (a0_1 : Int) (a0_2 : Int) (a0_3 : Int) (a1 : AV) (R : AV → Mem → Prop) : Prop :=
opP (fldO 0 a1) fun v0 =>
opP (ldS (mget ((0, some ⟨[(AV.sc (.string a0_0)), (intA a0_1), (intA a0_2), (intA a0_3)], 69⟩) :: [])) v0) fun v1 =>
exStr v1 fun s2 =>
retL R ((0, some ⟨[(AV.sc (.string a0_0)), (intA a0_1), (intA a0_2), (intA a0_3)], 69⟩) :: []) [some (boolA ((a0_0).toList == (s2).toList))]
theorem F64_own (a0_0 : ByteArray) (a0_1 : Int) (a0_2 : Int) (a0_3 : Int) (a1 : AV) (R : AV → Mem → Prop) (h : F64 a0_0 a0_1 a0_2 a0_3 a1 R) : Own Try.prog KK.gl 64 [(AV.agg [(AV.sc (.string a0_0)), (intA a0_1), (intA a0_2), (intA a0_3)]), a1] R := own_of_F fol Try.func64 (code := c64) (by kernel_rfl) (by kernel_rfl) (by kernel_rfl) (X := F64 a0_0 a0_1 a0_2 a0_3 a1 R) (by kernel_rfl) h
/- slices.IndexFunc[[]skyway/api.SequenceArrival,skyway/api.SequenceArrival] -/
noncomputable def c71 : Code := ((Try.f71).body).getD .skip
noncomputable def q71 (R : AV → Mem → Prop) : AExit → St → Prop := retQ Try.prog Try.f71 R
noncomputable def c71_0 : Code := loopB c71 0
noncomputable def q71_0 (R : AV → Mem → Prop) : AExit → St → Prop := contW Try.prog KK 19 0 c71 0 (q71 R)
noncomputable def qq71_0 (R : AV → Mem → Prop) (N0 : St → Prop) : AExit → St → Prop := thenQ N0 (q71_0 R)
def h71_0 (t0 : AV) (t1 : AV) (t4 : Int) (t7 : Int) (t8 : Int) (m : Mem) : St := ⟨[(0, t0), (1, t1), (4, (intA t4)), (7, (intA t7)), (8, (intA t8))], m, 100000⟩
noncomputable def B71_0 (t0 : AV) (t1 : AV) (t4 : Int) (t7 : Int) (t8 : Int) (m : Mem) (R : AV → Mem → Prop) (N0 : St → Prop) : Prop :=
bif (decide (t8 < t7)) then (
opP (idxS 4 t0 (intA t8)) fun v2 =>
opP (ldA (mget m) 4 v2) fun v3 =>
exA4 v3 fun c4 c5 c6 c7 =>
exStr c4 fun s8 =>
ex_i64 c5 fun z9 =>
ex_i64 c6 fun z10 =>
ex_i64 c7 fun z11 =>
fnArgs (some t1) (some [(AV.agg [(AV.sc (.string s8)), (intA z9), (intA z10), (intA z11)])]) fun f12 a12 => bif KK.pm f12 then callQ Try.prog KK.gl m f12 a12 (fun v12 =>
exB v12 fun b13 =>
bif b13 then (
retL R m [some (intA t8)]) else (
N0 ⟨[(0, t0), (1, t1), (4, (intA t4)), (7, (intA t7)), (8, (intA (IntKind.wrap .i64 (t8 + (1))))), (9, (boolA (decide (t8 < t7)))), (10, (intA t8)), (5, (intA t8)), (11, t1), (12, t0), (13, (intA t8)), (14, v2), (15, (AV.agg [(AV.sc (.string s8)), (intA z9), (intA z10), (intA z11)])), (16, (boolA b13)), (18, (intA (IntKind.wrap .i64 (t8 + (1)))))], m, 100074⟩)) else callW Try.prog KK.gl m 100008 f12 a12 fun v12 m12 =>
exB v12 fun b13 =>
bif b13 then (
retL R m12 [some (intA t8)]) else (
N0 ⟨[(0, t0), (1, t1), (4, (intA t4)), (7, (intA t7)), (8, (intA (IntKind.wrap .i64 (t8 + (1))))), (9, (boolA (decide (t8 < t7)))), (10, (intA t8)), (5, (intA t8)), (11, t1), (12, t0), (13, (intA t8)), (14, v2), (15, (AV.agg [(AV.sc (.string s8)), (intA z9), (intA z10), (intA z11)])), (16, (boolA b13)), (18, (intA (IntKind.wrap .i64 (t8 + (1)))))], m12, 100074⟩)) else (
retL R m [some (intA (-1))])
theorem B71_0_eq (t0 : AV) (t1 : AV) (t4 : Int) (t7 : Int) (t8 : Int) (m : Mem) (R : AV → Mem → Prop) (N0 : St → Prop) : W Try.prog KK 19 0 c71_0 (h71_0 t0 t1 t4 t7 t8 m) (qq71_0 R N0) = B71_0 t0 t1 t4 t7 t8 m R N0 := by kernel_rfl
theorem L71_0 (R : AV → Mem → Prop) {σ : Type} (I : σ → Prop) (t0 : σ → AV) (t1 : σ → AV) (t4 : σ → Int) (t7 : σ → Int) (t8 : σ → Int) (m : σ → Mem) (μ : σ → Nat) (step : ∀ x, I x → B71_0 (t0 x) (t1 x) (t4 x) (t7 x) (t8 x) (m x) R (fun s' => ∃ y, I y ∧ μ y < μ x ∧ Weak KK 19 0 s' (h71_0 (t0 y) (t1 y) (t4 y) (t7 y) (t8 y) (m y)))) (x : σ) (hx : I x) {s : St} (hw : Weak KK 19 0 s (h71_0 (t0 x) (t1 x) (t4 x) (t7 x) (t8 x) (m x))) : Tri Try.prog KK 19 0 (.loop c71_0) s (q71_0 R) :=
  Tri.weak hw (Tri.loops fol I (fun x => h71_0 (t0 x) (t1 x) (t4 x) (t7 x) (t8 x) (m x)) μ (fun x hx => (B71_0_eq (t0 x) (t1 x) (t4 x) (t7 x) (t8 x) (m x) R _).mpr (step x hx)) x hx)
noncomputable def F71 (a0 : AV) (a1 : AV) (R : AV → Mem → Prop) : Prop :=
opP (lenS a0) fun v0 =>
ex_i64 v0 fun z1 =>
Tri Try.prog KK 19 0 (.loop c71_0) ⟨[(0, a0), (1, a1), (4, (intA (0))), (6, a0), (7, (intA z1)), (8, (intA (0)))], [], 4⟩ (q71_0 R)
theorem F71_own (a0 : AV) (a1 : AV) (R : AV → Mem → Prop) (h : F71 a0 a1 R) : Own Try.prog KK.gl 71 [a0, a1] R := own_of_F fol Try.func71 (code := c71) (by kernel_rfl) (by kernel_rfl) (by kernel_rfl) (X := F71 a0 a1 R) (by kernel_rfl) h
/- slices.ContainsFunc[[]skyway/api.SequenceArrival,skyway/api.SequenceArrival] -/
noncomputable def c63 : Code := ((Try.f63).body).getD .skip
noncomputable def q63 (R : AV → Mem → Prop) : AExit → St → Prop := retQ Try.prog Try.f63 R
noncomputable def F63 (a0 : AV) (a1 : AV) (R : AV → Mem → Prop) : Prop :=
callQ Try.prog KK.gl [] 71 [a0, a1] fun v0 =>
ex_i64 v0 fun z1 =>
retL R [] [some (boolA (decide (z1 ≥ (0))))]
theorem F63_own (a0 : AV) (a1 : AV) (R : AV → Mem → Prop) (h : F63 a0 a1 R) : Own Try.prog KK.gl 63 [a0, a1] R := own_of_F fol Try.func63 (code := c63) (by kernel_rfl) (by kernel_rfl) (by kernel_rfl) (X := F63 a0 a1 R) (by kernel_rfl) h
/- skyway/sequence.Check -/
noncomputable def c50 : Code := ((Try.f50).body).getD .skip
noncomputable def q50 (R : AV → Mem → Prop) : AExit → St → Prop := retQ Try.prog Try.f50 R
noncomputable def c50_0 : Code := loopB c50 0
noncomputable def q50_0 (R : AV → Mem → Prop) : AExit → St → Prop := contW Try.prog KK 49 0 c50 0 (q50 R)
noncomputable def qq50_0 (R : AV → Mem → Prop) (N0 : St → Prop) : AExit → St → Prop := thenQ N0 (q50_0 R)
def h50_0 (t0 : AV) (t2 : Int) (t9 : AV) (t10 : Int) (t11 : Int) (m : Mem) : St := ⟨[(0, t0), (2, (intA t2)), (9, t9), (10, (intA t10)), (11, (intA t11))], m, 100000⟩
noncomputable def B50_0 (t0 : AV) (t2 : Int) (t9 : AV) (t10 : Int) (t11 : Int) (m : Mem) (R : AV → Mem → Prop) (N0 : St → Prop) : Prop :=
bif (decide (t11 < t10)) then (
opP (idxS 4 t9 (intA t11)) fun v4 =>
opP (ldA (mget m) 4 v4) fun v5 =>
exA4 v5 fun c6 c7 c8 c9 =>
exStr c6 fun s10 =>
ex_i64 c7 fun z11 =>
ex_i64 c8 fun z12 =>
ex_i64 c9 fun z13 =>
callQ Try.prog KK.gl ((100004, some ⟨[(AV.sc (.string s10)), (intA z11), (intA z12), (intA z13)], 69⟩) :: (100004, some ⟨[(AV.sc (.string ⟨#[]⟩)), (intA (0)), (intA (0)), (intA (0))], 69⟩) :: m) 62 [(AV.sc (.string s10))] fun v14 =>
exB v14 fun b15 =>
bif (!b15) then (
retL R ((100004, some ⟨[(AV.sc (.string s10)), (intA z11), (intA z12), (intA z13)], 69⟩) :: (100004, some ⟨[(AV.sc (.string ⟨#[]⟩)), (intA (0)), (intA (0)), (intA (0))], 69⟩) :: m) [some (intA (3))]) else (
callQ Try.prog KK.gl ((100004, some ⟨[(AV.sc (.string s10)), (intA z11), (intA z12), (intA z13)], 69⟩) :: (100004, some ⟨[(AV.sc (.string ⟨#[]⟩)), (intA (0)), (intA (0)), (intA (0))], 69⟩) :: m) 37 [(intA z11)] fun v16 =>
ex_i64 v16 fun z17 =>
bif (z17 != (0)) then (
retL R ((100004, some ⟨[(AV.sc (.string s10)), (intA z11), (intA z12), (intA z13)], 69⟩) :: (100004, some ⟨[(AV.sc (.string ⟨#[]⟩)), (intA (0)), (intA (0)), (intA (0))], 69⟩) :: m) [some (intA z17)]) else (
bif (decide (z12 < (0))) then (
retL R ((100004, some ⟨[(AV.sc (.string s10)), (intA z11), (intA z12), (intA z13)], 69⟩) :: (100004, some ⟨[(AV.sc (.string ⟨#[]⟩)), (intA (0)), (intA (0)), (intA (0))], 69⟩) :: m) [some (intA (12))]) else (
bif (decide (z12 > z13)) then (
retL R ((100004, some ⟨[(AV.sc (.string s10)), (intA z11), (intA z12), (intA z13)], 69⟩) :: (100004, some ⟨[(AV.sc (.string ⟨#[]⟩)), (intA (0)), (intA (0)), (intA (0))], 69⟩) :: m) [some (intA (12))]) else (
bif (decide (z13 > (200000))) then (
retL R ((100004, some ⟨[(AV.sc (.string s10)), (intA z11), (intA z12), (intA z13)], 69⟩) :: (100004, some ⟨[(AV.sc (.string ⟨#[]⟩)), (intA (0)), (intA (0)), (intA (0))], 69⟩) :: m) [some (intA (12))]) else (
opP (opA Try.prog (.slice 59 (.tmp 0) none (some (.tmp 1)) none) 59 [t0, (intA t11)] (mget ((100004, some ⟨[(AV.sc (.string s10)), (intA z11), (intA z12), (intA z13)], 69⟩) :: (100004, some ⟨[(AV.sc (.string ⟨#[]⟩)), (intA (0)), (intA (0)), (intA (0))], 69⟩) :: m)) 100161) fun v18 =>
callQ Try.prog KK.gl ((100004, some ⟨[(AV.sc (.string s10)), (intA z11), (intA z12), (intA z13)], 69⟩) :: (100004, some ⟨[(AV.sc (.string ⟨#[]⟩)), (intA (0)), (intA (0)), (intA (0))], 69⟩) :: m) 63 [v18, (AV.fn 64 [(AV.ptr 100004 0)])] fun v19 =>
exB v19 fun b20 =>
bif b20 then (
retL R ((100004, some ⟨[(AV.sc (.string s10)), (intA z11), (intA z12), (intA z13)], 69⟩) :: (100004, some ⟨[(AV.sc (.string ⟨#[]⟩)), (intA (0)), (intA (0)), (intA (0))], 69⟩) :: m) [some (intA (7))]) else (
N0 ⟨[(0, t0), (2, (intA t2)), (9, t9), (10, (intA t10)), (11, (intA (IntKind.wrap .i64 (t11 + (1))))), (12, (boolA (decide (t11 < t10)))), (13, (intA t11)), (14, v4), (15, (AV.agg [(AV.sc (.string s10)), (intA z11), (intA z12), (intA z13)])), (4, (AV.ptr 100004 0)), (3, (intA t11)), (16, (AV.ptr 100004 0)), (17, (AV.sc (.string s10))), (18, (boolA b15)), (19, (boolA (!b15))), (20, (AV.ptr 100004 1)), (21, (intA z11)), (22, (intA z17)), (5, (intA z17)), (23, (intA z17)), (24, (boolA (z17 != (0)))), (27, (AV.ptr 100004 2)), (28, (intA z12)), (29, (boolA (decide (z12 < (0))))), (30, (boolA false)), (31, (AV.ptr 100004 2)), (32, (intA z12)), (33, (AV.ptr 100004 3)), (34, (intA z13)), (35, (boolA (decide (z12 > z13)))), (36, (boolA (decide (z12 > z13)))), (37, (boolA false)), (38, (AV.ptr 100004 3)), (39, (intA z13)), (40, (boolA (decide (z13 > (200000))))), (41, (boolA (decide (z13 > (200000))))), (26, (boolA (decide (z13 > (200000))))), (43, t0), (44, (intA t11)), (45, v18), (46, (AV.fn 64 [(AV.ptr 100004 0)])), (47, (boolA b20)), (42, (boolA b20)), (48, (intA (IntKind.wrap .i64 (t11 + (1)))))], ((100004, some ⟨[(AV.sc (.string s10)), (intA z11), (intA z12), (intA z13)], 69⟩) :: (100004, some ⟨[(AV.sc (.string ⟨#[]⟩)), (intA (0)), (intA (0)), (intA (0))], 69⟩) :: m), 100230⟩))))))) else (
retL R m [some (intA (0))])
theorem B50_0_eq (t0 : AV) (t2 : Int) (t9 : AV) (t10 : Int) (t11 : Int) (m : Mem) (R : AV → Mem → Prop) (N0 : St → Prop) : W Try.prog KK 49 0 c50_0 (h50_0 t0 t2 t9 t10 t11 m) (qq50_0 R N0) = B50_0 t0 t2 t9 t10 t11 m R N0 := by kernel_rfl
theorem L50_0 (R : AV → Mem → Prop) {σ : Type} (I : σ → Prop) (t0 : σ → AV) (t2 : σ → Int) (t9 : σ → AV) (t10 : σ → Int) (t11 : σ → Int) (m : σ → Mem) (μ : σ → Nat) (step : ∀ x, I x → B50_0 (t0 x) (t2 x) (t9 x) (t10 x) (t11 x) (m x) R (fun s' => ∃ y, I y ∧ μ y < μ x ∧ Weak KK 49 0 s' (h50_0 (t0 y) (t2 y) (t9 y) (t10 y) (t11 y) (m y)))) (x : σ) (hx : I x) {s : St} (hw : Weak KK 49 0 s (h50_0 (t0 x) (t2 x) (t9 x) (t10 x) (t11 x) (m x))) : Tri Try.prog KK 49 0 (.loop c50_0) s (q50_0 R) :=
  Tri.weak hw (Tri.loops fol I (fun x => h50_0 (t0 x) (t2 x) (t9 x) (t10 x) (t11 x) (m x)) μ (fun x hx => (B50_0_eq (t0 x) (t2 x) (t9 x) (t10 x) (t11 x) (m x) R _).mpr (step x hx)) x hx)
noncomputable def F50 (a0 : AV) (R : AV → Mem → Prop) : Prop :=
opP (lenS a0) fun v0 =>
ex_i64 v0 fun z1 =>
bif (decide (z1 > (8))) then (
retL R [] [some (intA (2))]) else (
opP (lenS a0) fun v2 =>
ex_i64 v2 fun z3 =>
Tri Try.prog KK 49 0 (.loop c50_0) ⟨[(0, a0), (2, (intA (0))), (6, a0), (7, (intA z1)), (8, (boolA (decide (z1 > (8))))), (9, a0), (10, (intA z3)), (11, (intA (0)))], [], 7⟩ (q50_0 R))
theorem F50_own (a0 : AV) (R : AV → Mem → Prop) (h : F50 a0 R) : Own Try.prog KK.gl 50 [a0] R := own_of_F fol Try.func50 (code := c50) (by kernel_rfl) (by kernel_rfl) (by kernel_rfl) (X := F50 a0 R) (by kernel_rfl) h
/- cmp.isNaN[string] -/
noncomputable def c69 : Code := ((Try.f69).body).getD .skip
noncomputable def q69 (R : AV → Mem → Prop) : AExit → St → Prop := retQ Try.prog Try.f69 R
noncomputable def F69 (a0 : ByteArray) (R : AV → Mem → Prop) : Prop :=
retL R [] [some (boolA (!((a0).toList == (a0).toList)))]
theorem F69_own (a0 : ByteArray) (R : AV → Mem → Prop) (h : F69 a0 R) : Own Try.prog KK.gl 69 [(AV.sc (.string a0))] R := own_of_F fol Try.func69 (code := c69) (by kernel_rfl) (by kernel_rfl) (by kernel_rfl) (X := F69 a0 R) (by kernel_rfl) h
/- cmp.Compare[string] -/
noncomputable def c59 : Code := ((Try.f59).body).getD .skip
noncomputable def q59 (R : AV → Mem → Prop) : AExit → St → Prop := retQ Try.prog Try.f59 R
noncomputable def F59 (a0 : ByteArray) (a1 : ByteArray) (R : AV → Mem → Prop) : Prop :=
callQ Try.prog KK.gl [] 69 [(AV.sc (.string a0))] fun v0 =>
exB v0 fun b1 =>
callQ Try.prog KK.gl [] 69 [(AV.sc (.string a1))] fun v2 =>
exB v2 fun b3 =>
bif b1 then (
bif b3 then (
retL R [] [some (intA (0))]) else (
retL R [] [some (intA (-1))])) else (
bif b3 then (
retL R [] [some (intA (1))]) else (
bif (Op.bytesLess (a0).toList (a1).toList) then (
retL R [] [some (intA (-1))]) else (
bif (!(Op.bytesLess (a0).toList (a1).toList || (a0).toList == (a1).toList)) then (
retL R [] [some (intA (1))]) else (
retL R [] [some (intA (0))]))))
theorem F59_own (a0 : ByteArray) (a1 : ByteArray) (R : AV → Mem → Prop) (h : F59 a0 a1 R) : Own Try.prog KK.gl 59 [(AV.sc (.string a0)), (AV.sc (.string a1))] R := own_of_F fol Try.func59 (code := c59) (by kernel_rfl) (by kernel_rfl) (by kernel_rfl) (X := F59 a0 a1 R) (by kernel_rfl) h
/- cmp.Or[int] -/
noncomputable def c58 : Code := ((Try.f58).body).getD .skip
noncomputable def q58 (R : AV → Mem → Prop) : AExit → St → Prop := retQ Try.prog Try.f58 R
noncomputable def c58_0 : Code := loopB c58 0
noncomputable def q58_0 (R : AV → Mem → Prop) : AExit → St → Prop := contW Try.prog KK 18 0 c58 0 (q58 R)
noncomputable def qq58_0 (R : AV → Mem → Prop) (N0 : St → Prop) : AExit → St → Prop := thenQ N0 (q58_0 R)
def h58_0 (t2 : Int) (t3 : Int) (t6 : AV) (t7 : Int) (t8 : Int) (m : Mem) : St := ⟨[(2, (intA t2)), (3, (intA t3)), (6, t6), (7, (intA t7)), (8, (intA t8))], m, 100000⟩
noncomputable def B58_0 (t2 : Int) (t3 : Int) (t6 : AV) (t7 : Int) (t8 : Int) (m : Mem) (R : AV → Mem → Prop) (N0 : St → Prop) : Prop :=
bif (decide (t8 < t7)) then (
opP (idxS 1 t6 (intA t8)) fun v2 =>
opP (ldS (mget m) v2) fun v3 =>
ex_i64 v3 fun z4 =>
bif (z4 != t3) then (
retL R m [some (intA z4)]) else (
N0 ⟨[(2, (intA t2)), (3, (intA t3)), (6, t6), (7, (intA t7)), (8, (intA (IntKind.wrap .i64 (t8 + (1))))), (9, (boolA (decide (t8 < t7)))), (10, v2), (11, (intA z4)), (5, (intA z4)), (12, (intA z4)), (13, (intA t3)), (14, (boolA (z4 != t3))), (16, (intA (IntKind.wrap .i64 (t8 + (1)))))], m, 100009⟩)) else (
retL R m [some (intA t3)])
theorem B58_0_eq (t2 : Int) (t3 : Int) (t6 : AV) (t7 : Int) (t8 : Int) (m : Mem) (R : AV → Mem → Prop) (N0 : St → Prop) : W Try.prog KK 18 0 c58_0 (h58_0 t2 t3 t6 t7 t8 m) (qq58_0 R N0) = B58_0 t2 t3 t6 t7 t8 m R N0 := by kernel_rfl
theorem L58_0 (R : AV → Mem → Prop) {σ : Type} (I : σ → Prop) (t2 : σ → Int) (t3 : σ → Int) (t6 : σ → AV) (t7 : σ → Int) (t8 : σ → Int) (m : σ → Mem) (μ : σ → Nat) (step : ∀ x, I x → B58_0 (t2 x) (t3 x) (t6 x) (t7 x) (t8 x) (m x) R (fun s' => ∃ y, I y ∧ μ y < μ x ∧ Weak KK 18 0 s' (h58_0 (t2 y) (t3 y) (t6 y) (t7 y) (t8 y) (m y)))) (x : σ) (hx : I x) {s : St} (hw : Weak KK 18 0 s (h58_0 (t2 x) (t3 x) (t6 x) (t7 x) (t8 x) (m x))) : Tri Try.prog KK 18 0 (.loop c58_0) s (q58_0 R) :=
  Tri.weak hw (Tri.loops fol I (fun x => h58_0 (t2 x) (t3 x) (t6 x) (t7 x) (t8 x) (m x)) μ (fun x hx => (B58_0_eq (t2 x) (t3 x) (t6 x) (t7 x) (t8 x) (m x) R _).mpr (step x hx)) x hx)
noncomputable def F58 (a0 : AV) (R : AV → Mem → Prop) : Prop :=
opP (lenS a0) fun v0 =>
ex_i64 v0 fun z1 =>
Tri Try.prog KK 18 0 (.loop c58_0) ⟨[(0, a0), (2, (intA (0))), (3, (intA (0))), (6, a0), (7, (intA z1)), (8, (intA (0)))], [], 5⟩ (q58_0 R)
theorem F58_own (a0 : AV) (R : AV → Mem → Prop) (h : F58 a0 R) : Own Try.prog KK.gl 58 [a0] R := own_of_F fol Try.func58 (code := c58) (by kernel_rfl) (by kernel_rfl) (by kernel_rfl) (X := F58 a0 R) (by kernel_rfl) h
/- skyway/sequence.Natural$1 -/
noncomputable def c57 : Code := ((Try.f57).body).getD .skip
noncomputable def q57 (R : AV → Mem → Prop) : AExit → St → Prop := retQ Try.prog Try.f57 R
noncomputable def F57 (a0 : Int) (a1 : Int) (a2 : AV) (R : AV → Mem → Prop) : Prop :=
opM (ldS (look' [] (topId a2 ++ ([]))) a2) fun v0 d0 =>
opM (idxS 4 v0 (intA a0)) fun v1 d1 =>
opM (fldO 2 v1) fun v2 d2 =>
opM (ldS (look' (mpushs (mpushs (mpushs [] d0) d1) d2) (topId v2 ++ ([]))) v2) fun v3 d3 =>
ex_i64 v3 fun z4 =>
opM (ldS (look' (mpushs (mpushs (mpushs (mpushs [] d0) d1) d2) d3) (topId a2 ++ ([]))) a2) fun v5 d5 =>
opM (idxS 4 v5 (intA a1)) fun v6 d6 =>
opM (fldO 2 v6) fun v7 d7 =>
opM (ldS (look' (mpushs (mpushs (mpushs (mpushs (mpushs (mpushs (mpushs [] d0) d1) d2) d3) d5) d6) d7) (topId v7 ++ ([]))) v7) fun v8 d8 =>
ex_i64 v8 fun z9 =>
opM (ldS (look' (mpushs (mpushs (mpushs (mpushs (mpushs (mpushs (mpushs (mpushs [] d0) d1) d2) d3) d5) d6) d7) d8) (topId a2 ++ ([]))) a2) fun v10 d10 =>
opM (idxS 4 v10 (intA a0)) fun v11 d11 =>
opM (fldO 0 v11) fun v12 d12 =>
opM (ldS (look' (mpushs (mpushs (mpushs (mpushs (mpushs (mpushs (mpushs (mpushs (mpushs (mpushs (mpushs [] d0) d1) d2) d3) d5) d6) d7) d8) d10) d11) d12) (topId v12 ++ ([]))) v12) fun v13 d13 =>
exStr v13 fun s14 =>
opM (ldS (look' (mpushs (mpushs (mpushs (mpushs (mpushs (mpushs (mpushs (mpushs (mpushs (mpushs (mpushs (mpushs [] d0) d1) d2) d3) d5) d6) d7) d8) d10) d11) d12) d13) (topId a2 ++ ([]))) a2) fun v15 d15 =>
opM (idxS 4 v15 (intA a1)) fun v16 d16 =>
opM (fldO 0 v16) fun v17 d17 =>
opM (ldS (look' (mpushs (mpushs (mpushs (mpushs (mpushs (mpushs (mpushs (mpushs (mpushs (mpushs (mpushs (mpushs (mpushs (mpushs (mpushs [] d0) d1) d2) d3) d5) d6) d7) d8) d10) d11) d12) d13) d15) d16) d17) (topId v17 ++ ([]))) v17) fun v18 d18 =>
exStr v18 fun s19 =>
callF Try.prog KK.gl (mpushs (mpushs (mpushs (mpushs (mpushs (mpushs (mpushs (mpushs (mpushs (mpushs (mpushs (mpushs (mpushs (mpushs (mpushs (mpushs [] d0) d1) d2) d3) d5) d6) d7) d8) d10) d11) d12) d13) d15) d16) d17) d18) 22 59 [(AV.sc (.string s14)), (AV.sc (.string s19))] fun v20 d20 ft20 =>
ex_i64 v20 fun z21 =>
opM (bsl 23 3 1 2 [(intA (0))] [(0, (intA (IntKind.wrap .i64 (z4 - z9)))), (1, (intA z21))]) fun v22 d22 =>
callF Try.prog KK.gl (mpushs (mpushs (mpushs (mpushs (mpushs (mpushs (mpushs (mpushs (mpushs (mpushs (mpushs (mpushs (mpushs (mpushs (mpushs (mpushs (mpushs (mpushs [] d0) d1) d2) d3) d5) d6) d7) d8) d10) d11) d12) d13) d15) d16) d17) d18) d20) d22) 24 58 [v22] fun v23 d23 ft23 =>
ex_i64 v23 fun z24 =>
chk (confOk [0, 0, 3, 7, 15, 0, 0, 96, 224, 480, 1023, 0, 0, 6144, 14336, 30720, 0, 0, 196608, 458752, 983040, 2095104, 4194303, 8388607, 16777215] [⟨d0, (topId a2 ++ ([]))⟩, ⟨[], []⟩, ⟨d1, []⟩, ⟨d2, []⟩, ⟨d3, (topId v2 ++ ([]))⟩, ⟨d5, (topId a2 ++ ([]))⟩, ⟨[], []⟩, ⟨d6, []⟩, ⟨d7, []⟩, ⟨d8, (topId v7 ++ ([]))⟩, ⟨[], []⟩, ⟨d10, (topId a2 ++ ([]))⟩, ⟨[], []⟩, ⟨d11, []⟩, ⟨d12, []⟩, ⟨d13, (topId v12 ++ ([]))⟩, ⟨d15, (topId a2 ++ ([]))⟩, ⟨[], []⟩, ⟨d16, []⟩, ⟨d17, []⟩, ⟨d18, (topId v17 ++ ([]))⟩, ⟨d20, ft20⟩, ⟨d22, []⟩, ⟨d23, ft23⟩, ⟨[], []⟩]) (retL R (mpushs (mpushs (mpushs (mpushs (mpushs (mpushs (mpushs (mpushs (mpushs (mpushs (mpushs (mpushs (mpushs (mpushs (mpushs (mpushs (mpushs (mpushs (mpushs [] d0) d1) d2) d3) d5) d6) d7) d8) d10) d11) d12) d13) d15) d16) d17) d18) d20) d22) d23) [some (intA z24)])
theorem F57_own (a0 : Int) (a1 : Int) (a2 : AV) (R : AV → Mem → Prop) (h : F57 a0 a1 a2 R) : Own Try.prog KK.gl 57 [(intA a0), (intA a1), a2] R := own_of_F fol Try.func57 (code := c57) (by kernel_rfl) (by kernel_rfl) (by kernel_rfl) (X := F57 a0 a1 a2 R) (by kernel_rfl) h
/- skyway/sequence.Natural -/
noncomputable def c31 : Code := ((Try.f31).body).getD .skip
noncomputable def q31 (R : AV → Mem → Prop) : AExit → St → Prop := retQ Try.prog Try.f31 R
noncomputable def c31_0 : Code := loopB c31 0
noncomputable def q31_0 (R : AV → Mem → Prop) : AExit → St → Prop := contW Try.prog KK 26 0 c31 0 (q31 R)
noncomputable def qq31_0 (R : AV → Mem → Prop) (N0 : St → Prop) : AExit → St → Prop := thenQ N0 (q31_0 R)
def h31_0 (t2 : AV) (t3 : Int) (t5 : AV) (t13 : Int) (t14 : Int) (b0_0 : AV) (m : Mem) : St := ⟨[(1, (AV.ptr 0 0)), (2, t2), (3, (intA t3)), (5, t5), (13, (intA t13)), (14, (intA t14))], ((0, some ⟨[b0_0], 59⟩) :: m), 100000⟩
noncomputable def B31_0 (t2 : AV) (t3 : Int) (t5 : AV) (t13 : Int) (t14 : Int) (b0_0 : AV) (m : Mem) (R : AV → Mem → Prop) (N0 : St → Prop) : Prop :=
bif (decide (t14 < t13)) then (
opN (bsl 100005 3 1 1 [(intA (0))] [(0, (intA t14))]) ((0, some ⟨[b0_0], 59⟩) :: m) fun v4 m4 =>
opN (app (mget m4) 3 1 8 [(intA (0))] 100006 t5 v4) m4 fun v5 m5 =>
N0 ⟨[(1, (AV.ptr 0 0)), (2, t2), (3, (intA t3)), (5, v5), (13, (intA t13)), (14, (intA (IntKind.wrap .i64 (t14 + (1))))), (15, (boolA (decide (t14 < t13)))), (16, (intA t14)), (6, (intA t14)), (17, t5), (18, (intA t14)), (19, v4), (20, v5), (21, (intA (IntKind.wrap .i64 (t14 + (1)))))], m5, 100010⟩) else (
callW Try.prog KK.gl ((0, some ⟨[b0_0], 59⟩) :: m) 100003 56 [t5, (AV.fn 57 [(AV.ptr 0 0)])] fun v6 m6 =>
exT0 v6 <|
retL R m6 [some t5, some (intA (0))])
theorem B31_0_eq (t2 : AV) (t3 : Int) (t5 : AV) (t13 : Int) (t14 : Int) (b0_0 : AV) (m : Mem) (R : AV → Mem → Prop) (N0 : St → Prop) : W Try.prog KK 26 0 c31_0 (h31_0 t2 t3 t5 t13 t14 b0_0 m) (qq31_0 R N0) = B31_0 t2 t3 t5 t13 t14 b0_0 m R N0 := by kernel_rfl
theorem L31_0 (R : AV → Mem → Prop) {σ : Type} (I : σ → Prop) (t2 : σ → AV) (t3 : σ → Int) (t5 : σ → AV) (t13 : σ → Int) (t14 : σ → Int) (b0_0 : σ → AV) (m : σ → Mem) (μ : σ → Nat) (step : ∀ x, I x → B31_0 (t2 x) (t3 x) (t5 x) (t13 x) (t14 x) (b0_0 x) (m x) R (fun s' => ∃ y, I y ∧ μ y < μ x ∧ Weak KK 26 0 s' (h31_0 (t2 y) (t3 y) (t5 y) (t13 y) (t14 y) (b0_0 y) (m y)))) (x : σ) (hx : I x) {s : St} (hw : Weak KK 26 0 s (h31_0 (t2 x) (t3 x) (t5 x) (t13 x) (t14 x) (b0_0 x) (m x))) : Tri Try.prog KK 26 0 (.loop c31_0) s (q31_0 R) :=
  Tri.weak hw (Tri.loops fol I (fun x => h31_0 (t2 x) (t3 x) (t5 x) (t13 x) (t14 x) (b0_0 x) (m x)) μ (fun x hx => (B31_0_eq (t2 x) (t3 x) (t5 x) (t13 x) (t14 x) (b0_0 x) (m x) R _).mpr (step x hx)) x hx)
noncomputable def F31 (a0 : AV) (R : AV → Mem → Prop) : Prop :=
chk (isCell a0) <| callQ Try.prog KK.gl ((0, some ⟨[a0], 59⟩) :: []) 50 [a0] fun v0 =>
ex_i64 v0 fun z1 =>
bif (z1 != (0)) then (
retL R ((0, some ⟨[a0], 59⟩) :: []) [some AV.nils, some (intA z1)]) else (
opP (lenS a0) fun v2 =>
ex_i64 v2 fun z3 =>
Tri Try.prog KK 26 0 (.loop c31_0) ⟨[(0, a0), (1, (AV.ptr 0 0)), (2, AV.nils), (3, (intA (0))), (7, a0), (8, (intA z1)), (4, (intA z1)), (9, (intA z1)), (10, (boolA (z1 != (0)))), (5, AV.nils), (12, a0), (13, (intA z3)), (14, (intA (0)))], ((0, some ⟨[a0], 59⟩) :: []), 75⟩ (q31_0 R))
theorem F31_own (a0 : AV) (R : AV → Mem → Prop) (h : F31 a0 R) : Own Try.prog KK.gl 31 [a0] R := own_of_F fol Try.func31 (code := c31) (by kernel_rfl) (by kernel_rfl) (by kernel_rfl) (X := F31 a0 R) (by kernel_rfl) h
/- slices.Index[[]int,int] -/
noncomputable def c66 : Code := ((Try.f66).body).getD .skip
noncomputable def q66 (R : AV → Mem → Prop) : AExit → St → Prop := retQ Try.prog Try.f66 R
noncomputable def c66_0 : Code := loopB c66 0
noncomputable def q66_0 (R : AV → Mem → Prop) : AExit → St → Prop := contW Try.prog KK 19 0 c66 0 (q66 R)
noncomputable def qq66_0 (R : AV → Mem → Prop) (N0 : St → Prop) : AExit → St → Prop := thenQ N0 (q66_0 R)
def h66_0 (t0 : AV) (t1 : Int) (t4 : Int) (t7 : Int) (t8 : Int) (m : Mem) : St := ⟨[(0, t0), (1, (intA t1)), (4, (intA t4)), (7, (intA t7)), (8, (intA t8))], m, 100000⟩
noncomputable def B66_0 (t0 : AV) (t1 : Int) (t4 : Int) (t7 : Int) (t8 : Int) (m : Mem) (R : AV → Mem → Prop) (N0 : St → Prop) : Prop :=
bif (decide (t8 < t7)) then (
opP (idxS 1 t0 (intA t8)) fun v2 =>
opP (ldS (mget m) v2) fun v3 =>
ex_i64 v3 fun z4 =>
bif (t1 == z4) then (
retL R m [some (intA t8)]) else (
N0 ⟨[(0, t0), (1, (intA t1)), (4, (intA t4)), (7, (intA t7)), (8, (intA (IntKind.wrap .i64 (t8 + (1))))), (9, (boolA (decide (t8 < t7)))), (10, (intA t8)), (5, (intA t8)), (11, (intA t1)), (12, t0), (13, (intA t8)), (14, v2), (15, (intA z4)), (16, (boolA (t1 == z4))), (18, (intA (IntKind.wrap .i64 (t8 + (1)))))], m, 100011⟩)) else (
retL R m [some (intA (-1))])
theorem B66_0_eq (t0 : AV) (t1 : Int) (t4 : Int) (t7 : Int) (t8 : Int) (m : Mem) (R : AV → Mem → Prop) (N0 : St → Prop) : W Try.prog KK 19 0 c66_0 (h66_0 t0 t1 t4 t7 t8 m) (qq66_0 R N0) = B66_0 t0 t1 t4 t7 t8 m R N0 := by kernel_rfl
theorem L66_0 (R : AV → Mem → Prop) {σ : Type} (I : σ → Prop) (t0 : σ → AV) (t1 : σ → Int) (t4 : σ → Int) (t7 : σ → Int) (t8 : σ → Int) (m : σ → Mem) (μ : σ → Nat) (step : ∀ x, I x → B66_0 (t0 x) (t1 x) (t4 x) (t7 x) (t8 x) (m x) R (fun s' => ∃ y, I y ∧ μ y < μ x ∧ Weak KK 19 0 s' (h66_0 (t0 y) (t1 y) (t4 y) (t7 y) (t8 y) (m y)))) (x : σ) (hx : I x) {s : St} (hw : Weak KK 19 0 s (h66_0 (t0 x) (t1 x) (t4 x) (t7 x) (t8 x) (m x))) : Tri Try.prog KK 19 0 (.loop c66_0) s (q66_0 R) :=
  Tri.weak hw (Tri.loops fol I (fun x => h66_0 (t0 x) (t1 x) (t4 x) (t7 x) (t8 x) (m x)) μ (fun x hx => (B66_0_eq (t0 x) (t1 x) (t4 x) (t7 x) (t8 x) (m x) R _).mpr (step x hx)) x hx)
noncomputable def F66 (a0 : AV) (a1 : Int) (R : AV → Mem → Prop) : Prop :=
opP (lenS a0) fun v0 =>
ex_i64 v0 fun z1 =>
Tri Try.prog KK 19 0 (.loop c66_0) ⟨[(0, a0), (1, (intA a1)), (4, (intA (0))), (6, a0), (7, (intA z1)), (8, (intA (0)))], [], 4⟩ (q66_0 R)
theorem F66_own (a0 : AV) (a1 : Int) (R : AV → Mem → Prop) (h : F66 a0 a1 R) : Own Try.prog KK.gl 66 [a0, (intA a1)] R := own_of_F fol Try.func66 (code := c66) (by kernel_rfl) (by kernel_rfl) (by kernel_rfl) (X := F66 a0 a1 R) (by kernel_rfl) h
/- skyway/sequence.shift -/
noncomputable def c54 : Code := ((Try.f54).body).getD .skip
noncomputable def q54 (R : AV → Mem → Prop) : AExit → St → Prop := retQ Try.prog Try.f54 R
noncomputable def c54_0 : Code := loopB c54 0
noncomputable def q54_0 (R : AV → Mem → Prop) : AExit → St → Prop := contW Try.prog KK 28 0 c54 0 (q54 R)
noncomputable def qq54_0 (R : AV → Mem → Prop) (N0 : St → Prop) : AExit → St → Prop := thenQ N0 (q54_0 R)
def h54_0 (t0 : AV) (t4 : Int) (t5 : Int) (t9 : AV) (t10 : Int) (t11 : Int) (m : Mem) : St := ⟨[(0, t0), (4, (intA t4)), (5, (intA t5)), (9, t9), (10, (intA t10)), (11, (intA t11))], m, 100000⟩
noncomputable def B54_0 (t0 : AV) (t4 : Int) (t5 : Int) (t9 : AV) (t10 : Int) (t11 : Int) (m : Mem) (R : AV → Mem → Prop) (N0 : St → Prop) : Prop :=
bif (decide (t11 < t10)) then (
opP (idxS 1 t9 (intA t11)) fun v2 =>
opP (ldS (mget m) v2) fun v3 =>
ex_i64 v3 fun z4 =>
callQ Try.prog KK.gl m 66 [t0, (intA z4)] fun v5 =>
ex_i64 v5 fun z6 =>
opP (opA Try.prog (.unOp .neg 3 (.tmp 0)) 3 [(intA (IntKind.wrap .i64 (t11 - z6)))] (mget m) 100078) fun v7 =>
ex_i64 v7 fun z8 =>
opP (opA Try.prog (.call ⟨.builtin .max, #[.tmp 0, .tmp 1, .tmp 2], #[3, 3, 3]⟩) 3 [(intA t5), (intA (IntKind.wrap .i64 (t11 - z6))), (intA z8)] (mget m) 100079) fun v9 =>
ex_i64 v9 fun z10 =>
N0 ⟨[(0, t0), (4, (intA t4)), (5, (intA z10)), (9, t9), (10, (intA t10)), (11, (intA (IntKind.wrap .i64 (t11 + (1))))), (12, (boolA (decide (t11 < t10)))), (13, (intA t11)), (14, v2), (15, (intA z4)), (6, (intA t11)), (7, (intA z4)), (16, (intA t11)), (17, t0), (18, (intA z4)), (19, (intA z6)), (20, (intA (IntKind.wrap .i64 (t11 - z6)))), (8, (intA (IntKind.wrap .i64 (t11 - z6)))), (21, (intA t5)), (22, (intA (IntKind.wrap .i64 (t11 - z6)))), (23, (intA (IntKind.wrap .i64 (t11 - z6)))), (24, (intA z8)), (25, (intA z10)), (26, (intA (IntKind.wrap .i64 (t11 + (1)))))], m, 100083⟩) else (
retL R m [some (intA t5)])
theorem B54_0_eq (t0 : AV) (t4 : Int) (t5 : Int) (t9 : AV) (t10 : Int) (t11 : Int) (m : Mem) (R : AV → Mem → Prop) (N0 : St → Prop) : W Try.prog KK 28 0 c54_0 (h54_0 t0 t4 t5 t9 t10 t11 m) (qq54_0 R N0) = B54_0 t0 t4 t5 t9 t10 t11 m R N0 := by kernel_rfl
theorem L54_0 (R : AV → Mem → Prop) {σ : Type} (I : σ → Prop) (t0 : σ → AV) (t4 : σ → Int) (t5 : σ → Int) (t9 : σ → AV) (t10 : σ → Int) (t11 : σ → Int) (m : σ → Mem) (μ : σ → Nat) (step : ∀ x, I x → B54_0 (t0 x) (t4 x) (t5 x) (t9 x) (t10 x) (t11 x) (m x) R (fun s' => ∃ y, I y ∧ μ y < μ x ∧ Weak KK 28 0 s' (h54_0 (t0 y) (t4 y) (t5 y) (t9 y) (t10 y) (t11 y) (m y)))) (x : σ) (hx : I x) {s : St} (hw : Weak KK 28 0 s (h54_0 (t0 x) (t4 x) (t5 x) (t9 x) (t10 x) (t11 x) (m x))) : Tri Try.prog KK 28 0 (.loop c54_0) s (q54_0 R) :=
  Tri.weak hw (Tri.loops fol I (fun x => h54_0 (t0 x) (t4 x) (t5 x) (t9 x) (t10 x) (t11 x) (m x)) μ (fun x hx => (B54_0_eq (t0 x) (t4 x) (t5 x) (t9 x) (t10 x) (t11 x) (m x) R _).mpr (step x hx)) x hx)
noncomputable def F54 (a0 : AV) (a1 : AV) (R : AV → Mem → Prop) : Prop :=
opP (lenS a1) fun v0 =>
ex_i64 v0 fun z1 =>
Tri Try.prog KK 28 0 (.loop c54_0) ⟨[(0, a0), (1, a1), (4, (intA (0))), (5, (intA (0))), (9, a1), (10, (intA z1)), (11, (intA (0)))], [], 5⟩ (q54_0 R)
theorem F54_own (a0 : AV) (a1 : AV) (R : AV → Mem → Prop) (h : F54 a0 a1 R) : Own Try.prog KK.gl 54 [a0, a1] R := own_of_F fol Try.func54 (code := c54) (by kernel_rfl) (by kernel_rfl) (by kernel_rfl) (X := F54 a0 a1 R) (by kernel_rfl) h
/- slices.Contains[[]int,int] -/
noncomputable def c65 : Code := ((Try.f65).body).getD .skip
noncomputable def q65 (R : AV → Mem → Prop) : AExit → St → Prop := retQ Try.prog Try.f65 R
noncomputable def F65 (a0 : AV) (a1 : Int) (R : AV → Mem → Prop) : Prop :=
callQ Try.prog KK.gl [] 66 [a0, (intA a1)] fun v0 =>
ex_i64 v0 fun z1 =>
retL R [] [some (boolA (decide (z1 ≥ (0))))]
theorem F65_own (a0 : AV) (a1 : Int) (R : AV → Mem → Prop) (h : F65 a0 a1 R) : Own Try.prog KK.gl 65 [a0, (intA a1)] R := own_of_F fol Try.func65 (code := c65) (by kernel_rfl) (by kernel_rfl) (by kernel_rfl) (X := F65 a0 a1 R) (by kernel_rfl) h
/- skyway/skywaykeep3.pick -/
noncomputable def c15 : Code := ((Try.f15).body).getD .skip
noncomputable def q15 (R : AV → Mem → Prop) : AExit → St → Prop := retQ Try.prog Try.f15 R
noncomputable def F15 (a0 : Int) (a1 : Int) (R : AV → Mem → Prop) : Prop :=
opP (opA Try.prog (.convert 3 76 (.tmp 0)) 76 [(intA a0)] (mget []) 2) fun v0 =>
ex_u64 v0 fun z1 =>
opP (opA Try.prog (.convert 3 76 (.tmp 0)) 76 [(intA a1)] (mget []) 4) fun v2 =>
ex_u64 v2 fun z3 =>
opP (opA Try.prog (.binOp .rem 76 (.tmp 0) (.tmp 1) 76) 76 [(AV.sc (.int .u64 z1)), (AV.sc (.int .u64 z3))] (mget []) 5) fun v4 =>
ex_u64 v4 fun z5 =>
opP (opA Try.prog (.convert 76 3 (.tmp 0)) 3 [(AV.sc (.int .u64 z5))] (mget []) 6) fun v6 =>
ex_i64 v6 fun z7 =>
retL R [] [some (intA z7)]
theorem F15_own (a0 : Int) (a1 : Int) (R : AV → Mem → Prop) (h : F15 a0 a1 R) : Own Try.prog KK.gl 15 [(intA a0), (intA a1)] R := own_of_F fol Try.func15 (code := c15) (by kernel_rfl) (by kernel_rfl) (by kernel_rfl) (X := F15 a0 a1 R) (by kernel_rfl) h
/- skyway/sequence.isOrder -/
noncomputable def c55 : Code := ((Try.f55).body).getD .skip
noncomputable def q55 (R : AV → Mem → Prop) : AExit → St → Prop := retQ Try.prog Try.f55 R
noncomputable def c55_0 : Code := loopB c55 0
noncomputable def q55_0 (R : AV → Mem → Prop) : AExit → St → Prop := contW Try.prog KK 37 0 c55 0 (q55 R)
noncomputable def qq55_0 (R : AV → Mem → Prop) (N0 : St → Prop) : AExit → St → Prop := thenQ N0 (q55_0 R)
def h55_0 (t0 : AV) (t1 : Int) (t4 : Bool) (t5 : AV) (t10 : AV) (t11 : Int) (t12 : Int) (m : Mem) : St := ⟨[(0, t0), (1, (intA t1)), (4, (boolA t4)), (5, t5), (10, t10), (11, (intA t11)), (12, (intA t12))], m, 100000⟩
noncomputable def B55_0 (t0 : AV) (t1 : Int) (t4 : Bool) (t5 : AV) (t10 : AV) (t11 : Int) (t12 : Int) (m : Mem) (R : AV → Mem → Prop) (N0 : St → Prop) : Prop :=
bif (decide (t12 < t11)) then (
opP (idxS 1 t10 (intA t12)) fun v3 =>
opP (ldS (mget m) v3) fun v4 =>
ex_i64 v4 fun z5 =>
bif (decide (z5 < (0))) then (
retL R m [some (boolA false)]) else (
bif (decide (z5 ≥ t1)) then (
retL R m [some (boolA false)]) else (
opP (idxS 1 t5 (intA z5)) fun v6 =>
opP (ldS (mget m) v6) fun v7 =>
exB v7 fun b8 =>
bif b8 then (
retL R m [some (boolA false)]) else (
opP (idxS 1 t5 (intA z5)) fun v9 =>
storeW Try.prog (mget m) 4 v9 (boolA true) fun v10 d10 =>
N0 ⟨[(0, t0), (1, (intA t1)), (4, (boolA t4)), (5, t5), (10, t10), (11, (intA t11)), (12, (intA (IntKind.wrap .i64 (t12 + (1))))), (13, (boolA (decide (t12 < t11)))), (14, v3), (15, (intA z5)), (7, (intA z5)), (16, (intA z5)), (17, (boolA (decide (z5 < (0))))), (18, (boolA false)), (19, (intA z5)), (20, (intA t1)), (21, (boolA (decide (z5 ≥ t1)))), (22, (boolA (decide (z5 ≥ t1)))), (23, (boolA false)), (24, t5), (25, (intA z5)), (26, v6), (27, (boolA b8)), (28, (boolA b8)), (29, t5), (30, (intA z5)), (31, v9), (32, (intA (IntKind.wrap .i64 (t12 + (1)))))], (mpushs m d10), 100023⟩)))) else (
opP (lenS t0) fun v11 =>
ex_i64 v11 fun z12 =>
retL R m [some (boolA (z12 == t1))])
theorem B55_0_eq (t0 : AV) (t1 : Int) (t4 : Bool) (t5 : AV) (t10 : AV) (t11 : Int) (t12 : Int) (m : Mem) (R : AV → Mem → Prop) (N0 : St → Prop) : W Try.prog KK 37 0 c55_0 (h55_0 t0 t1 t4 t5 t10 t11 t12 m) (qq55_0 R N0) = B55_0 t0 t1 t4 t5 t10 t11 t12 m R N0 := by kernel_rfl
theorem L55_0 (R : AV → Mem → Prop) {σ : Type} (I : σ → Prop) (t0 : σ → AV) (t1 : σ → Int) (t4 : σ → Bool) (t5 : σ → AV) (t10 : σ → AV) (t11 : σ → Int) (t12 : σ → Int) (m : σ → Mem) (μ : σ → Nat) (step : ∀ x, I x → B55_0 (t0 x) (t1 x) (t4 x) (t5 x) (t10 x) (t11 x) (t12 x) (m x) R (fun s' => ∃ y, I y ∧ μ y < μ x ∧ Weak KK 37 0 s' (h55_0 (t0 y) (t1 y) (t4 y) (t5 y) (t10 y) (t11 y) (t12 y) (m y)))) (x : σ) (hx : I x) {s : St} (hw : Weak KK 37 0 s (h55_0 (t0 x) (t1 x) (t4 x) (t5 x) (t10 x) (t11 x) (t12 x) (m x))) : Tri Try.prog KK 37 0 (.loop c55_0) s (q55_0 R) :=
  Tri.weak hw (Tri.loops fol I (fun x => h55_0 (t0 x) (t1 x) (t4 x) (t5 x) (t10 x) (t11 x) (t12 x) (m x)) μ (fun x hx => (B55_0_eq (t0 x) (t1 x) (t4 x) (t5 x) (t10 x) (t11 x) (t12 x) (m x) R _).mpr (step x hx)) x hx)
noncomputable def F55 (a0 : AV) (a1 : Int) (R : AV → Mem → Prop) : Prop :=
opN (mks 2 4 1 1 [(boolA false)] (intA a1) (intA a1)) [] fun v0 m0 =>
opP (lenS a0) fun v1 =>
ex_i64 v1 fun z2 =>
Tri Try.prog KK 37 0 (.loop c55_0) ⟨[(0, a0), (1, (intA a1)), (4, (boolA false)), (8, (intA a1)), (9, v0), (5, v0), (10, a0), (11, (intA z2)), (12, (intA (0)))], m0, 7⟩ (q55_0 R)
theorem F55_own (a0 : AV) (a1 : Int) (R : AV → Mem → Prop) (h : F55 a0 a1 R) : Own Try.prog KK.gl 55 [a0, (intA a1)] R := own_of_F fol Try.func55 (code := c55) (by kernel_rfl) (by kernel_rfl) (by kernel_rfl) (X := F55 a0 a1 R) (by kernel_rfl) h
/- skyway/sequence.Shift -/
noncomputable def c30 : Code := ((Try.f30).body).getD .skip
noncomputable def q30 (R : AV → Mem → Prop) : AExit → St → Prop := retQ Try.prog Try.f30 R
noncomputable def F30 (a0 : AV) (a1 : AV) (R : AV → Mem → Prop) : Prop :=
callQ Try.prog KK.gl [] 31 [a0] fun v0 =>
exT2 v0 fun c1 c2 =>
ex_i64 c2 fun z3 =>
bif (z3 != (0)) then (
retL R [] [some (intA (0)), some (intA z3)]) else (
opP (lenS a0) fun v4 =>
ex_i64 v4 fun z5 =>
callQ Try.prog KK.gl [] 55 [a1, (intA z5)] fun v6 =>
exB v6 fun b7 =>
bif (!b7) then (
retL R [] [some (intA (0)), some (intA (3))]) else (
callQ Try.prog KK.gl [] 54 [c1, a1] fun v8 =>
ex_i64 v8 fun z9 =>
retL R [] [some (intA z9), some (intA (0))]))
theorem F30_own (a0 : AV) (a1 : AV) (R : AV → Mem → Prop) (h : F30 a0 a1 R) : Own Try.prog KK.gl 30 [a0, a1] R := own_of_F fol Try.func30 (code := c30) (by kernel_rfl) (by kernel_rfl) (by kernel_rfl) (X := F30 a0 a1 R) (by kernel_rfl) h
/- skyway/sequence.Times -/
noncomputable def c32 : Code := ((Try.f32).body).getD .skip
noncomputable def q32 (R : AV → Mem → Prop) : AExit → St → Prop := retQ Try.prog Try.f32 R
noncomputable def F32 (a0 : AV) (a1 : AV) (a2_0 : Int) (a2_1 : Int) (a2_2 : Int) (a2_3 : Int) (a2_4 : Int) (a2_5 : Int) (a2_6 : Int) (a2_7 : Int) (a2_8 : Int) (a2_9 : Int) (a2_10 : Int) (a2_11 : Int) (a2_12 : Int) (a2_13 : Int) (a2_14 : Int) (a2_15 : Int) (R : AV → Mem → Prop) : Prop :=
callQ Try.prog KK.gl ((0, some ⟨[(intA a2_0), (intA a2_1), (intA a2_2), (intA a2_3), (intA a2_4), (intA a2_5), (intA a2_6), (intA a2_7), (intA a2_8), (intA a2_9), (intA a2_10), (intA a2_11), (intA a2_12), (intA a2_13), (intA a2_14), (intA a2_15)], 24⟩) :: []) 50 [a0] fun v0 =>
ex_i64 v0 fun z1 =>
bif (z1 != (0)) then (
retL R ((0, some ⟨[(intA a2_0), (intA a2_1), (intA a2_2), (intA a2_3), (intA a2_4), (intA a2_5), (intA a2_6), (intA a2_7), (intA a2_8), (intA a2_9), (intA a2_10), (intA a2_11), (intA a2_12), (intA a2_13), (intA a2_14), (intA a2_15)], 24⟩) :: []) [some AV.nils, some (intA z1)]) else (
callQ Try.prog KK.gl ((0, some ⟨[(intA a2_0), (intA a2_1), (intA a2_2), (intA a2_3), (intA a2_4), (intA a2_5), (intA a2_6), (intA a2_7), (intA a2_8), (intA a2_9), (intA a2_10), (intA a2_11), (intA a2_12), (intA a2_13), (intA a2_14), (intA a2_15)], 24⟩) :: []) 36 [(AV.agg [(intA a2_0), (intA a2_1), (intA a2_2), (intA a2_3), (intA a2_4), (intA a2_5), (intA a2_6), (intA a2_7), (intA a2_8), (intA a2_9), (intA a2_10), (intA a2_11), (intA a2_12), (intA a2_13), (intA a2_14), (intA a2_15)])] fun v2 =>
ex_i64 v2 fun z3 =>
bif (z3 != (0)) then (
retL R ((0, some ⟨[(intA a2_0), (intA a2_1), (intA a2_2), (intA a2_3), (intA a2_4), (intA a2_5), (intA a2_6), (intA a2_7), (intA a2_8), (intA a2_9), (intA a2_10), (intA a2_11), (intA a2_12), (intA a2_13), (intA a2_14), (intA a2_15)], 24⟩) :: []) [some AV.nils, some (intA z3)]) else (
opP (lenS a0) fun v4 =>
ex_i64 v4 fun z5 =>
callQ Try.prog KK.gl ((0, some ⟨[(intA a2_0), (intA a2_1), (intA a2_2), (intA a2_3), (intA a2_4), (intA a2_5), (intA a2_6), (intA a2_7), (intA a2_8), (intA a2_9), (intA a2_10), (intA a2_11), (intA a2_12), (intA a2_13), (intA a2_14), (intA a2_15)], 24⟩) :: []) 55 [a1, (intA z5)] fun v6 =>
exB v6 fun b7 =>
bif (!b7) then (
retL R ((0, some ⟨[(intA a2_0), (intA a2_1), (intA a2_2), (intA a2_3), (intA a2_4), (intA a2_5), (intA a2_6), (intA a2_7), (intA a2_8), (intA a2_9), (intA a2_10), (intA a2_11), (intA a2_12), (intA a2_13), (intA a2_14), (intA a2_15)], 24⟩) :: []) [some AV.nils, some (intA (3))]) else (
callQ Try.prog KK.gl ((0, some ⟨[(intA a2_0), (intA a2_1), (intA a2_2), (intA a2_3), (intA a2_4), (intA a2_5), (intA a2_6), (intA a2_7), (intA a2_8), (intA a2_9), (intA a2_10), (intA a2_11), (intA a2_12), (intA a2_13), (intA a2_14), (intA a2_15)], 24⟩) :: []) 53 [a0, a1, (AV.agg [(intA a2_0), (intA a2_1), (intA a2_2), (intA a2_3), (intA a2_4), (intA a2_5), (intA a2_6), (intA a2_7), (intA a2_8), (intA a2_9), (intA a2_10), (intA a2_11), (intA a2_12), (intA a2_13), (intA a2_14), (intA a2_15)])] fun v8 =>
exT2 v8 fun c9 c10 =>
exB c10 fun b11 =>
bif (!b11) then (
retL R ((0, some ⟨[(intA a2_0), (intA a2_1), (intA a2_2), (intA a2_3), (intA a2_4), (intA a2_5), (intA a2_6), (intA a2_7), (intA a2_8), (intA a2_9), (intA a2_10), (intA a2_11), (intA a2_12), (intA a2_13), (intA a2_14), (intA a2_15)], 24⟩) :: []) [some AV.nils, some (intA (8))]) else (
retL R ((0, some ⟨[(intA a2_0), (intA a2_1), (intA a2_2), (intA a2_3), (intA a2_4), (intA a2_5), (intA a2_6), (intA a2_7), (intA a2_8), (intA a2_9), (intA a2_10), (intA a2_11), (intA a2_12), (intA a2_13), (intA a2_14), (intA a2_15)], 24⟩) :: []) [some c9, some (intA (0))]))))
theorem F32_own (a0 : AV) (a1 : AV) (a2_0 : Int) (a2_1 : Int) (a2_2 : Int) (a2_3 : Int) (a2_4 : Int) (a2_5 : Int) (a2_6 : Int) (a2_7 : Int) (a2_8 : Int) (a2_9 : Int) (a2_10 : Int) (a2_11 : Int) (a2_12 : Int) (a2_13 : Int) (a2_14 : Int) (a2_15 : Int) (R : AV → Mem → Prop) (h : F32 a0 a1 a2_0 a2_1 a2_2 a2_3 a2_4 a2_5 a2_6 a2_7 a2_8 a2_9 a2_10 a2_11 a2_12 a2_13 a2_14 a2_15 R) : Own Try.prog KK.gl 32 [a0, a1, (AV.agg [(intA a2_0), (intA a2_1), (intA a2_2), (intA a2_3), (intA a2_4), (intA a2_5), (intA a2_6), (intA a2_7), (intA a2_8), (intA a2_9), (intA a2_10), (intA a2_11), (intA a2_12), (intA a2_13), (intA a2_14), (intA a2_15)])] R := own_of_F fol Try.func32 (code := c32) (by kernel_rfl) (by kernel_rfl) (by kernel_rfl) (X := F32 a0 a1 a2_0 a2_1 a2_2 a2_3 a2_4 a2_5 a2_6 a2_7 a2_8 a2_9 a2_10 a2_11 a2_12 a2_13 a2_14 a2_15 R) (by kernel_rfl) h
/- skyway/skywaykeep3.SequenceGains -/
noncomputable def c8 : Code := ((Try.f8).body).getD .skip
noncomputable def q8 (R : AV → Mem → Prop) : AExit → St → Prop := retQ Try.prog Try.f8 R
noncomputable def F8 (a0 : AV) (a1_0 : Int) (a1_1 : Int) (a1_2 : Int) (a1_3 : Int) (a1_4 : Int) (a1_5 : Int) (a1_6 : Int) (a1_7 : Int) (a1_8 : Int) (a1_9 : Int) (a1_10 : Int) (a1_11 : Int) (a1_12 : Int) (a1_13 : Int) (a1_14 : Int) (a1_15 : Int) (a2 : Int) (a3 : Int) (R : AV → Mem → Prop) : Prop :=
callQ Try.prog KK.gl ((0, some ⟨[(intA a1_0), (intA a1_1), (intA a1_2), (intA a1_3), (intA a1_4), (intA a1_5), (intA a1_6), (intA a1_7), (intA a1_8), (intA a1_9), (intA a1_10), (intA a1_11), (intA a1_12), (intA a1_13), (intA a1_14), (intA a1_15)], 24⟩) :: []) 28 [] fun v0 =>
exB v0 fun b1 =>
bif (!b1) then (
retL R ((0, some ⟨[(intA a1_0), (intA a1_1), (intA a1_2), (intA a1_3), (intA a1_4), (intA a1_5), (intA a1_6), (intA a1_7), (intA a1_8), (intA a1_9), (intA a1_10), (intA a1_11), (intA a1_12), (intA a1_13), (intA a1_14), (intA a1_15)], 24⟩) :: []) [some (boolA false)]) else (
opP (lenS a0) fun v2 =>
ex_i64 v2 fun z3 =>
bif (decide (z3 > (6))) then (
retL R ((0, some ⟨[(intA a1_0), (intA a1_1), (intA a1_2), (intA a1_3), (intA a1_4), (intA a1_5), (intA a1_6), (intA a1_7), (intA a1_8), (intA a1_9), (intA a1_10), (intA a1_11), (intA a1_12), (intA a1_13), (intA a1_14), (intA a1_15)], 24⟩) :: []) [some (boolA true)]) else (
callQ Try.prog KK.gl ((0, some ⟨[(intA a1_0), (intA a1_1), (intA a1_2), (intA a1_3), (intA a1_4), (intA a1_5), (intA a1_6), (intA a1_7), (intA a1_8), (intA a1_9), (intA a1_10), (intA a1_11), (intA a1_12), (intA a1_13), (intA a1_14), (intA a1_15)], 24⟩) :: []) 15 [(intA a2), (intA (9))] fun v4 =>
ex_i64 v4 fun z5 =>
callQ Try.prog KK.gl ((0, some ⟨[(intA a1_0), (intA a1_1), (intA a1_2), (intA a1_3), (intA a1_4), (intA a1_5), (intA a1_6), (intA a1_7), (intA a1_8), (intA a1_9), (intA a1_10), (intA a1_11), (intA a1_12), (intA a1_13), (intA a1_14), (intA a1_15)], 24⟩) :: []) 15 [(intA a3), (intA (9))] fun v6 =>
ex_i64 v6 fun z7 =>
opP (opA Try.prog (.call ⟨.builtin .min, #[.tmp 0, .tmp 1], #[3, 3]⟩) 3 [(intA z5), (intA z7)] (mget ((0, some ⟨[(intA a1_0), (intA a1_1), (intA a1_2), (intA a1_3), (intA a1_4), (intA a1_5), (intA a1_6), (intA a1_7), (intA a1_8), (intA a1_9), (intA a1_10), (intA a1_11), (intA a1_12), (intA a1_13), (intA a1_14), (intA a1_15)], 24⟩) :: [])) 206) fun v8 =>
ex_i64 v8 fun z9 =>
callW Try.prog KK.gl ((0, some ⟨[(intA a1_0), (intA a1_1), (intA a1_2), (intA a1_3), (intA a1_4), (intA a1_5), (intA a1_6), (intA a1_7), (intA a1_8), (intA a1_9), (intA a1_10), (intA a1_11), (intA a1_12), (intA a1_13), (intA a1_14), (intA a1_15)], 24⟩) :: []) 207 29 [a0, (AV.agg [(intA a1_0), (intA a1_1), (intA a1_2), (intA a1_3), (intA a1_4), (intA a1_5), (intA a1_6), (intA a1_7), (intA a1_8), (intA a1_9), (intA a1_10), (intA a1_11), (intA a1_12), (intA a1_13), (intA a1_14), (intA a1_15)]), (intA z9)] fun v10 m10 =>
exT3 v10 fun c11 c12 c13 =>
ex_i64 c13 fun z14 =>
opP (ldA (mget m10) 16 (AV.ptr 0 0)) fun v15 =>
exA16 v15 fun c16 c17 c18 c19 c20 c21 c22 c23 c24 c25 c26 c27 c28 c29 c30 c31 =>
ex_i64 c16 fun z32 =>
ex_i64 c17 fun z33 =>
ex_i64 c18 fun z34 =>
ex_i64 c19 fun z35 =>
ex_i64 c20 fun z36 =>
ex_i64 c21 fun z37 =>
ex_i64 c22 fun z38 =>
ex_i64 c23 fun z39 =>
ex_i64 c24 fun z40 =>
ex_i64 c25 fun z41 =>
ex_i64 c26 fun z42 =>
ex_i64 c27 fun z43 =>
ex_i64 c28 fun z44 =>
ex_i64 c29 fun z45 =>
ex_i64 c30 fun z46 =>
ex_i64 c31 fun z47 =>
opP (opA Try.prog (.call ⟨.builtin .max, #[.tmp 0, .tmp 1], #[3, 3]⟩) 3 [(intA z5), (intA z7)] (mget m10) 282) fun v48 =>
ex_i64 v48 fun z49 =>
callW Try.prog KK.gl m10 283 29 [a0, (AV.agg [(intA z32), (intA z33), (intA z34), (intA z35), (intA z36), (intA z37), (intA z38), (intA z39), (intA z40), (intA z41), (intA z42), (intA z43), (intA z44), (intA z45), (intA z46), (intA z47)]), (intA z49)] fun v50 m50 =>
exT3 v50 fun c51 c52 c53 =>
ex_i64 c53 fun z54 =>
bif (z14 != (0)) then (
opP (lenS c11) fun v55 =>
ex_i64 v55 fun z56 =>
opP (lenS c12) fun v57 =>
ex_i64 v57 fun z58 =>
retL R m50 [some (boolA ((IntKind.wrap .i64 (z56 + z58)) == (0)))]) else (
opP (lenS a0) fun v59 =>
ex_i64 v59 fun z60 =>
bif (z60 == (0)) then (
opP (lenS c11) fun v61 =>
ex_i64 v61 fun z62 =>
opP (lenS c12) fun v63 =>
ex_i64 v63 fun z64 =>
retL R m50 [some (boolA ((IntKind.wrap .i64 (z62 + z64)) == (0)))]) else (
callQ Try.prog KK.gl m50 30 [a0, c11] fun v65 =>
exT2 v65 fun c66 c67 =>
ex_i64 c66 fun z68 =>
ex_i64 c67 fun z69 =>
bif (z54 != (0)) then (
retL R m50 [some (boolA false)]) else (
bif (z69 != (0)) then (
retL R m50 [some (boolA false)]) else (
opP (opA Try.prog (.call ⟨.builtin .min, #[.tmp 0, .tmp 1], #[3, 3]⟩) 3 [(intA z5), (intA z7)] (mget m50) 442) fun v70 =>
ex_i64 v70 fun z71 =>
bif (decide (z68 > z71)) then (
retL R m50 [some (boolA false)]) else (
opP (lenS c12) fun v72 =>
ex_i64 v72 fun z73 =>
opP (lenS a0) fun v74 =>
ex_i64 v74 fun z75 =>
bif (z73 != z75) then (
retL R m50 [some (boolA false)]) else (
opP (lenS c52) fun v76 =>
ex_i64 v76 fun z77 =>
opP (lenS a0) fun v78 =>
ex_i64 v78 fun z79 =>
bif (z77 != z79) then (
retL R m50 [some (boolA false)]) else (
opP (lenS c52) fun v80 =>
ex_i64 v80 fun z81 =>
opP (idxS 1 c52 (intA (IntKind.wrap .i64 (z81 - (1))))) fun v82 =>
opP (ldS (mget m50) v82) fun v83 =>
ex_i64 v83 fun z84 =>
opP (lenS c12) fun v85 =>
ex_i64 v85 fun z86 =>
opP (idxS 1 c12 (intA (IntKind.wrap .i64 (z86 - (1))))) fun v87 =>
opP (ldS (mget m50) v87) fun v88 =>
ex_i64 v88 fun z89 =>
bif (decide (z84 > z89)) then (
retL R m50 [some (boolA false)]) else (
callQ Try.prog KK.gl m50 31 [a0] fun v90 =>
exT2 v90 fun c91 c92 =>
ex_i64 c92 fun z93 =>
opP (ldA (mget m50) 16 (AV.ptr 0 0)) fun v94 =>
exA16 v94 fun c95 c96 c97 c98 c99 c100 c101 c102 c103 c104 c105 c106 c107 c108 c109 c110 =>
ex_i64 c95 fun z111 =>
ex_i64 c96 fun z112 =>
ex_i64 c97 fun z113 =>
ex_i64 c98 fun z114 =>
ex_i64 c99 fun z115 =>
ex_i64 c100 fun z116 =>
ex_i64 c101 fun z117 =>
ex_i64 c102 fun z118 =>
ex_i64 c103 fun z119 =>
ex_i64 c104 fun z120 =>
ex_i64 c105 fun z121 =>
ex_i64 c106 fun z122 =>
ex_i64 c107 fun z123 =>
ex_i64 c108 fun z124 =>
ex_i64 c109 fun z125 =>
ex_i64 c110 fun z126 =>
callQ Try.prog KK.gl m50 32 [a0, c91, (AV.agg [(intA z111), (intA z112), (intA z113), (intA z114), (intA z115), (intA z116), (intA z117), (intA z118), (intA z119), (intA z120), (intA z121), (intA z122), (intA z123), (intA z124), (intA z125), (intA z126)])] fun v127 =>
exT2 v127 fun c128 c129 =>
ex_i64 c129 fun z130 =>
bif (z93 == (0)) then (
bif (z130 != (0)) then (
retL R m50 [some (boolA true)]) else (
opP (lenS c128) fun v131 =>
ex_i64 v131 fun z132 =>
opP (lenS a0) fun v133 =>
ex_i64 v133 fun z134 =>
bif (z132 == z134) then (
opP (lenS c12) fun v135 =>
ex_i64 v135 fun z136 =>
opP (idxS 1 c12 (intA (IntKind.wrap .i64 (z136 - (1))))) fun v137 =>
opP (ldS (mget m50) v137) fun v138 =>
ex_i64 v138 fun z139 =>
opP (lenS c128) fun v140 =>
ex_i64 v140 fun z141 =>
opP (idxS 1 c128 (intA (IntKind.wrap .i64 (z141 - (1))))) fun v142 =>
opP (ldS (mget m50) v142) fun v143 =>
ex_i64 v143 fun z144 =>
retL R m50 [some (boolA (decide (z139 ≤ z144)))]) else (
retL R m50 [some (boolA false)]))) else (
retL R m50 [some (boolA false)])))))))))))
theorem F8_own (a0 : AV) (a1_0 : Int) (a1_1 : Int) (a1_2 : Int) (a1_3 : Int) (a1_4 : Int) (a1_5 : Int) (a1_6 : Int) (a1_7 : Int) (a1_8 : Int) (a1_9 : Int) (a1_10 : Int) (a1_11 : Int) (a1_12 : Int) (a1_13 : Int) (a1_14 : Int) (a1_15 : Int) (a2 : Int) (a3 : Int) (R : AV → Mem → Prop) (h : F8 a0 a1_0 a1_1 a1_2 a1_3 a1_4 a1_5 a1_6 a1_7 a1_8 a1_9 a1_10 a1_11 a1_12 a1_13 a1_14 a1_15 a2 a3 R) : Own Try.prog KK.gl 8 [a0, (AV.agg [(intA a1_0), (intA a1_1), (intA a1_2), (intA a1_3), (intA a1_4), (intA a1_5), (intA a1_6), (intA a1_7), (intA a1_8), (intA a1_9), (intA a1_10), (intA a1_11), (intA a1_12), (intA a1_13), (intA a1_14), (intA a1_15)]), (intA a2), (intA a3)] R := own_of_F fol Try.func8 (code := c8) (by kernel_rfl) (by kernel_rfl) (by kernel_rfl) (X := F8 a0 a1_0 a1_1 a1_2 a1_3 a1_4 a1_5 a1_6 a1_7 a1_8 a1_9 a1_10 a1_11 a1_12 a1_13 a1_14 a1_15 a2 a3 R) (by kernel_rfl) h
/- slices.Equal[[]int,int] -/
noncomputable def c34 : Code := ((Try.f34).body).getD .skip
noncomputable def q34 (R : AV → Mem → Prop) : AExit → St → Prop := retQ Try.prog Try.f34 R
noncomputable def c34_0 : Code := loopB c34 0
noncomputable def q34_0 (R : AV → Mem → Prop) : AExit → St → Prop := contW Try.prog KK 26 0 c34 0 (q34 R)
noncomputable def qq34_0 (R : AV → Mem → Prop) (N0 : St → Prop) : AExit → St → Prop := thenQ N0 (q34_0 R)
def h34_0 (t0 : AV) (t1 : AV) (t4 : Bool) (t12 : Int) (t13 : Int) (m : Mem) : St := ⟨[(0, t0), (1, t1), (4, (boolA t4)), (12, (intA t12)), (13, (intA t13))], m, 100000⟩
noncomputable def B34_0 (t0 : AV) (t1 : AV) (t4 : Bool) (t12 : Int) (t13 : Int) (m : Mem) (R : AV → Mem → Prop) (N0 : St → Prop) : Prop :=
bif (decide (t13 < t12)) then (
opP (idxS 1 t0 (intA t13)) fun v6 =>
opP (ldS (mget m) v6) fun v7 =>
ex_i64 v7 fun z8 =>
opP (idxS 1 t1 (intA t13)) fun v9 =>
opP (ldS (mget m) v9) fun v10 =>
ex_i64 v10 fun z11 =>
bif (z8 != z11) then (
retL R m [some (boolA false)]) else (
N0 ⟨[(0, t0), (1, t1), (4, (boolA t4)), (12, (intA t12)), (13, (intA (IntKind.wrap .i64 (t13 + (1))))), (14, (boolA (decide (t13 < t12)))), (15, (intA t13)), (5, (intA t13)), (16, t0), (17, (intA t13)), (18, v6), (19, (intA z8)), (20, t1), (21, (intA t13)), (22, v9), (23, (intA z11)), (24, (boolA (z8 != z11))), (25, (intA (IntKind.wrap .i64 (t13 + (1)))))], m, 100014⟩)) else (
retL R m [some (boolA true)])
theorem B34_0_eq (t0 : AV) (t1 : AV) (t4 : Bool) (t12 : Int) (t13 : Int) (m : Mem) (R : AV → Mem → Prop) (N0 : St → Prop) : W Try.prog KK 26 0 c34_0 (h34_0 t0 t1 t4 t12 t13 m) (qq34_0 R N0) = B34_0 t0 t1 t4 t12 t13 m R N0 := by kernel_rfl
theorem L34_0 (R : AV → Mem → Prop) {σ : Type} (I : σ → Prop) (t0 : σ → AV) (t1 : σ → AV) (t4 : σ → Bool) (t12 : σ → Int) (t13 : σ → Int) (m : σ → Mem) (μ : σ → Nat) (step : ∀ x, I x → B34_0 (t0 x) (t1 x) (t4 x) (t12 x) (t13 x) (m x) R (fun s' => ∃ y, I y ∧ μ y < μ x ∧ Weak KK 26 0 s' (h34_0 (t0 y) (t1 y) (t4 y) (t12 y) (t13 y) (m y)))) (x : σ) (hx : I x) {s : St} (hw : Weak KK 26 0 s (h34_0 (t0 x) (t1 x) (t4 x) (t12 x) (t13 x) (m x))) : Tri Try.prog KK 26 0 (.loop c34_0) s (q34_0 R) :=
  Tri.weak hw (Tri.loops fol I (fun x => h34_0 (t0 x) (t1 x) (t4 x) (t12 x) (t13 x) (m x)) μ (fun x hx => (B34_0_eq (t0 x) (t1 x) (t4 x) (t12 x) (t13 x) (m x) R _).mpr (step x hx)) x hx)
noncomputable def F34 (a0 : AV) (a1 : AV) (R : AV → Mem → Prop) : Prop :=
opP (lenS a0) fun v0 =>
ex_i64 v0 fun z1 =>
opP (lenS a1) fun v2 =>
ex_i64 v2 fun z3 =>
bif (z1 != z3) then (
retL R [] [some (boolA false)]) else (
opP (lenS a0) fun v4 =>
ex_i64 v4 fun z5 =>
Tri Try.prog KK 26 0 (.loop c34_0) ⟨[(0, a0), (1, a1), (4, (boolA false)), (6, a0), (7, (intA z1)), (8, a1), (9, (intA z3)), (10, (boolA (z1 != z3))), (11, a0), (12, (intA z5)), (13, (intA (0)))], [], 9⟩ (q34_0 R))
theorem F34_own (a0 : AV) (a1 : AV) (R : AV → Mem → Prop) (h : F34 a0 a1 R) : Own Try.prog KK.gl 34 [a0, a1] R := own_of_F fol Try.func34 (code := c34) (by kernel_rfl) (by kernel_rfl) (by kernel_rfl) (X := F34 a0 a1 R) (by kernel_rfl) h
/- skyway/skywaykeep3.SequenceShifts -/
noncomputable def c9 : Code := ((Try.f9).body).getD .skip
noncomputable def q9 (R : AV → Mem → Prop) : AExit → St → Prop := retQ Try.prog Try.f9 R
noncomputable def c9_0 : Code := loopB c9 0
noncomputable def q9_0 (R : AV → Mem → Prop) : AExit → St → Prop := contW Try.prog KK 125 0 c9 0 (q9 R)
noncomputable def qq9_0 (R : AV → Mem → Prop) (N0 : St → Prop) : AExit → St → Prop := thenQ N0 (q9_0 R)
def h9_0 (t0 : AV) (t2 : Int) (t3 : Int) (t8 : Bool) (t9 : AV) (t28 : Int) (t29 : Int) (m : Mem) : St := ⟨[(0, t0), (2, (intA t2)), (3, (intA t3)), (5, (AV.ptr 0 0)), (8, (boolA t8)), (9, t9), (28, (intA t28)), (29, (intA t29))], m, 100000⟩
noncomputable def c9_1 : Code := loopB c9 1
noncomputable def q9_1 (R : AV → Mem → Prop) : AExit → St → Prop := contW Try.prog KK 125 0 c9 1 (q9 R)
noncomputable def qq9_1 (R : AV → Mem → Prop) (N0 : St → Prop) : AExit → St → Prop := thenQ N0 (q9_1 R)
def h9_1 (t3 : Int) (t8 : Bool) (t11 : AV) (t12 : AV) (t13 : Int) (t14 : AV) (t15 : AV) (t16 : Int) (t100 : Int) (t101 : Int) (m : Mem) : St := ⟨[(3, (intA t3)), (8, (boolA t8)), (11, t11), (12, t12), (13, (intA t13)), (14, t14), (15, t15), (16, (intA t16)), (100, (intA t100)), (101, (intA t101))], m, 200000⟩
noncomputable def B9_0 (t0 : AV) (t2 : Int) (t3 : Int) (t8 : Bool) (t9 : AV) (t28 : Int) (t29 : Int) (m : Mem) (R : AV → Mem → Prop) (N0 : St → Prop) : Prop :=
bif (decide (t29 < t28)) then (
opP (idxS 4 t9 (intA t29)) fun v9 =>
opP (fldO 2 v9) fun v10 =>
opP (ldS (mget m) v10) fun v11 =>
ex_i64 v11 fun z12 =>
bif (decide (z12 < (0))) then (
retL R m [some (boolA true)]) else (
opP (idxS 4 t9 (intA t29)) fun v13 =>
opP (fldO 2 v13) fun v14 =>
opP (ldS (mget m) v14) fun v15 =>
ex_i64 v15 fun z16 =>
bif (decide (z16 > (200000))) then (
retL R m [some (boolA true)]) else (
opP (idxS 4 t9 (intA t29)) fun v17 =>
opP (fldO 3 v17) fun v18 =>
opP (ldS (mget m) v18) fun v19 =>
ex_i64 v19 fun z20 =>
bif (decide (z20 < (0))) then (
retL R m [some (boolA true)]) else (
opP (idxS 4 t9 (intA t29)) fun v21 =>
opP (fldO 3 v21) fun v22 =>
opP (ldS (mget m) v22) fun v23 =>
ex_i64 v23 fun z24 =>
bif (decide (z24 > (IntKind.wrap .i64 ((200000) - t3)))) then (
retL R m [some (boolA true)]) else (
opP (idxS 4 t9 (intA t29)) fun v25 =>
opP (fldO 2 v25) fun v26 =>
opP (ldS (mget m) v26) fun v27 =>
ex_i64 v27 fun z28 =>
opP (idxS 4 t9 (intA t29)) fun v29 =>
opP (fldO 2 v29) fun v30 =>
storeW Try.prog (mget m) 3 v30 (intA (IntKind.wrap .i64 (z28 + t3))) fun v31 d31 =>
opP (idxS 4 t9 (intA t29)) fun v32 =>
opP (fldO 3 v32) fun v33 =>
opP (ldS (mget (mpushs m d31)) v33) fun v34 =>
ex_i64 v34 fun z35 =>
opP (idxS 4 t9 (intA t29)) fun v36 =>
opP (fldO 3 v36) fun v37 =>
storeW Try.prog (mget (mpushs m d31)) 3 v37 (intA (IntKind.wrap .i64 (z35 + t3))) fun v38 d38 =>
N0 ⟨[(0, t0), (2, (intA t2)), (3, (intA t3)), (5, (AV.ptr 0 0)), (8, (boolA t8)), (9, t9), (28, (intA t28)), (29, (intA (IntKind.wrap .i64 (t29 + (1))))), (30, (boolA (decide (t29 < t28)))), (31, (intA t29)), (10, (intA t29)), (32, t9), (33, (intA t29)), (34, v9), (35, v10), (36, (intA z12)), (37, (boolA (decide (z12 < (0))))), (38, (boolA false)), (39, t9), (40, (intA t29)), (41, v13), (42, v14), (43, (intA z16)), (44, (boolA (decide (z16 > (200000))))), (45, (boolA (decide (z16 > (200000))))), (46, (boolA false)), (47, t9), (48, (intA t29)), (49, v17), (50, v18), (51, (intA z20)), (52, (boolA (decide (z20 < (0))))), (53, (boolA (decide (z20 < (0))))), (54, (boolA false)), (55, t9), (56, (intA t29)), (57, v21), (58, v22), (59, (intA z24)), (60, (intA t3)), (61, (intA (IntKind.wrap .i64 ((200000) - t3)))), (62, (boolA (decide (z24 > (IntKind.wrap .i64 ((200000) - t3)))))), (63, (boolA (decide (z24 > (IntKind.wrap .i64 ((200000) - t3)))))), (64, t9), (65, (intA t29)), (66, v25), (67, v26), (68, (intA z28)), (69, (intA t3)), (70, (intA (IntKind.wrap .i64 (z28 + t3)))), (71, v29), (72, v30), (73, t9), (74, (intA t29)), (75, v32), (76, v33), (77, (intA z35)), (78, (intA t3)), (79, (intA (IntKind.wrap .i64 (z35 + t3)))), (80, v36), (81, v37), (82, (intA (IntKind.wrap .i64 (t29 + (1)))))], (mpushs (mpushs m d31) d38), 100057⟩))))) else (
opP (ldA (mget m) 16 (AV.ptr 0 0)) fun v39 =>
exA16 v39 fun c40 c41 c42 c43 c44 c45 c46 c47 c48 c49 c50 c51 c52 c53 c54 c55 =>
ex_i64 c40 fun z56 =>
ex_i64 c41 fun z57 =>
ex_i64 c42 fun z58 =>
ex_i64 c43 fun z59 =>
ex_i64 c44 fun z60 =>
ex_i64 c45 fun z61 =>
ex_i64 c46 fun z62 =>
ex_i64 c47 fun z63 =>
ex_i64 c48 fun z64 =>
ex_i64 c49 fun z65 =>
ex_i64 c50 fun z66 =>
ex_i64 c51 fun z67 =>
ex_i64 c52 fun z68 =>
ex_i64 c53 fun z69 =>
ex_i64 c54 fun z70 =>
ex_i64 c55 fun z71 =>
callW Try.prog KK.gl m 100004 29 [t0, (AV.agg [(intA z56), (intA z57), (intA z58), (intA z59), (intA z60), (intA z61), (intA z62), (intA z63), (intA z64), (intA z65), (intA z66), (intA z67), (intA z68), (intA z69), (intA z70), (intA z71)]), (intA t2)] fun v72 m72 =>
exT3 v72 fun c73 c74 c75 =>
ex_i64 c75 fun z76 =>
opP (ldA (mget m72) 16 (AV.ptr 0 0)) fun v77 =>
exA16 v77 fun c78 c79 c80 c81 c82 c83 c84 c85 c86 c87 c88 c89 c90 c91 c92 c93 =>
ex_i64 c78 fun z94 =>
ex_i64 c79 fun z95 =>
ex_i64 c80 fun z96 =>
ex_i64 c81 fun z97 =>
ex_i64 c82 fun z98 =>
ex_i64 c83 fun z99 =>
ex_i64 c84 fun z100 =>
ex_i64 c85 fun z101 =>
ex_i64 c86 fun z102 =>
ex_i64 c87 fun z103 =>
ex_i64 c88 fun z104 =>
ex_i64 c89 fun z105 =>
ex_i64 c90 fun z106 =>
ex_i64 c91 fun z107 =>
ex_i64 c92 fun z108 =>
ex_i64 c93 fun z109 =>
callW Try.prog KK.gl m72 100078 29 [t9, (AV.agg [(intA z94), (intA z95), (intA z96), (intA z97), (intA z98), (intA z99), (intA z100), (intA z101), (intA z102), (intA z103), (intA z104), (intA z105), (intA z106), (intA z107), (intA z108), (intA z109)]), (intA t2)] fun v110 m110 =>
exT3 v110 fun c111 c112 c113 =>
ex_i64 c113 fun z114 =>
opP (lenS c112) fun v115 =>
ex_i64 v115 fun z116 =>
Tri Try.prog KK 125 0 (.loop c9_1) ⟨[(0, t0), (2, (intA t2)), (3, (intA t3)), (5, (AV.ptr 0 0)), (8, (boolA t8)), (9, t9), (28, (intA t28)), (29, (intA t29)), (30, (boolA (decide (t29 < t28)))), (84, t0), (85, (AV.agg [(intA z56), (intA z57), (intA z58), (intA z59), (intA z60), (intA z61), (intA z62), (intA z63), (intA z64), (intA z65), (intA z66), (intA z67), (intA z68), (intA z69), (intA z70), (intA z71)])), (86, (intA t2)), (87, (AV.tup [c73, c74, (intA z76)])), (83, (AV.tup [c73, c74, (intA z76)])), (88, c73), (89, c74), (90, (intA z76)), (11, c73), (12, c74), (13, (intA z76)), (92, t9), (93, (AV.agg [(intA z94), (intA z95), (intA z96), (intA z97), (intA z98), (intA z99), (intA z100), (intA z101), (intA z102), (intA z103), (intA z104), (intA z105), (intA z106), (intA z107), (intA z108), (intA z109)])), (94, (intA t2)), (95, (AV.tup [c111, c112, (intA z114)])), (91, (AV.tup [c111, c112, (intA z114)])), (96, c111), (97, c112), (98, (intA z114)), (14, c111), (15, c112), (16, (intA z114)), (99, c112), (100, (intA z116)), (101, (intA (0)))], m110, 100152⟩ (q9_1 R))
theorem B9_0_eq (t0 : AV) (t2 : Int) (t3 : Int) (t8 : Bool) (t9 : AV) (t28 : Int) (t29 : Int) (m : Mem) (R : AV → Mem → Prop) (N0 : St → Prop) : W Try.prog KK 125 0 c9_0 (h9_0 t0 t2 t3 t8 t9 t28 t29 m) (qq9_0 R N0) = B9_0 t0 t2 t3 t8 t9 t28 t29 m R N0 := by kernel_rfl
theorem L9_0 (R : AV → Mem → Prop) {σ : Type} (I : σ → Prop) (t0 : σ → AV) (t2 : σ → Int) (t3 : σ → Int) (t8 : σ → Bool) (t9 : σ → AV) (t28 : σ → Int) (t29 : σ → Int) (m : σ → Mem) (μ : σ → Nat) (step : ∀ x, I x → B9_0 (t0 x) (t2 x) (t3 x) (t8 x) (t9 x) (t28 x) (t29 x) (m x) R (fun s' => ∃ y, I y ∧ μ y < μ x ∧ Weak KK 125 0 s' (h9_0 (t0 y) (t2 y) (t3 y) (t8 y) (t9 y) (t28 y) (t29 y) (m y)))) (x : σ) (hx : I x) {s : St} (hw : Weak KK 125 0 s (h9_0 (t0 x) (t2 x) (t3 x) (t8 x) (t9 x) (t28 x) (t29 x) (m x))) : Tri Try.prog KK 125 0 (.loop c9_0) s (q9_0 R) :=
  Tri.weak hw (Tri.loops fol I (fun x => h9_0 (t0 x) (t2 x) (t3 x) (t8 x) (t9 x) (t28 x) (t29 x) (m x)) μ (fun x hx => (B9_0_eq (t0 x) (t2 x) (t3 x) (t8 x) (t9 x) (t28 x) (t29 x) (m x) R _).mpr (step x hx)) x hx)
noncomputable def B9_1 (t3 : Int) (t8 : Bool) (t11 : AV) (t12 : AV) (t13 : Int) (t14 : AV) (t15 : AV) (t16 : Int) (t100 : Int) (t101 : Int) (m : Mem) (R : AV → Mem → Prop) (N0 : St → Prop) : Prop :=
bif (decide (t101 < t100)) then (
opP (idxS 1 t15 (intA t101)) fun v117 =>
opP (ldS (mget m) v117) fun v118 =>
ex_i64 v118 fun z119 =>
opP (idxS 1 t15 (intA t101)) fun v120 =>
storeW Try.prog (mget m) 3 v120 (intA (IntKind.wrap .i64 (z119 - t3))) fun v121 d121 =>
N0 ⟨[(3, (intA t3)), (8, (boolA t8)), (11, t11), (12, t12), (13, (intA t13)), (14, t14), (15, t15), (16, (intA t16)), (100, (intA t100)), (101, (intA (IntKind.wrap .i64 (t101 + (1))))), (102, (boolA (decide (t101 < t100)))), (103, (intA t101)), (17, (intA t101)), (104, t15), (105, (intA t101)), (106, v117), (107, (intA z119)), (108, (intA t3)), (109, (intA (IntKind.wrap .i64 (z119 - t3)))), (110, v120), (111, (intA (IntKind.wrap .i64 (t101 + (1)))))], (mpushs m d121), 200013⟩) else (
bif (t13 == t16) then (
callQ Try.prog KK.gl m 34 [t11, t14] fun v122 =>
exB v122 fun b123 =>
bif b123 then (
callQ Try.prog KK.gl m 34 [t12, t15] fun v124 =>
exB v124 fun b125 =>
retL R m [some (boolA b125)]) else (
retL R m [some (boolA false)])) else (
retL R m [some (boolA false)]))
theorem B9_1_eq (t3 : Int) (t8 : Bool) (t11 : AV) (t12 : AV) (t13 : Int) (t14 : AV) (t15 : AV) (t16 : Int) (t100 : Int) (t101 : Int) (m : Mem) (R : AV → Mem → Prop) (N0 : St → Prop) : W Try.prog KK 125 0 c9_1 (h9_1 t3 t8 t11 t12 t13 t14 t15 t16 t100 t101 m) (qq9_1 R N0) = B9_1 t3 t8 t11 t12 t13 t14 t15 t16 t100 t101 m R N0 := by kernel_rfl
theorem L9_1 (R : AV → Mem → Prop) {σ : Type} (I : σ → Prop) (t3 : σ → Int) (t8 : σ → Bool) (t11 : σ → AV) (t12 : σ → AV) (t13 : σ → Int) (t14 : σ → AV) (t15 : σ → AV) (t16 : σ → Int) (t100 : σ → Int) (t101 : σ → Int) (m : σ → Mem) (μ : σ → Nat) (step : ∀ x, I x → B9_1 (t3 x) (t8 x) (t11 x) (t12 x) (t13 x) (t14 x) (t15 x) (t16 x) (t100 x) (t101 x) (m x) R (fun s' => ∃ y, I y ∧ μ y < μ x ∧ Weak KK 125 0 s' (h9_1 (t3 y) (t8 y) (t11 y) (t12 y) (t13 y) (t14 y) (t15 y) (t16 y) (t100 y) (t101 y) (m y)))) (x : σ) (hx : I x) {s : St} (hw : Weak KK 125 0 s (h9_1 (t3 x) (t8 x) (t11 x) (t12 x) (t13 x) (t14 x) (t15 x) (t16 x) (t100 x) (t101 x) (m x))) : Tri Try.prog KK 125 0 (.loop c9_1) s (q9_1 R) :=
  Tri.weak hw (Tri.loops fol I (fun x => h9_1 (t3 x) (t8 x) (t11 x) (t12 x) (t13 x) (t14 x) (t15 x) (t16 x) (t100 x) (t101 x) (m x)) μ (fun x hx => (B9_1_eq (t3 x) (t8 x) (t11 x) (t12 x) (t13 x) (t14 x) (t15 x) (t16 x) (t100 x) (t101 x) (m x) R _).mpr (step x hx)) x hx)
noncomputable def F9 (a0 : AV) (a1_0 : Int) (a1_1 : Int) (a1_2 : Int) (a1_3 : Int) (a1_4 : Int) (a1_5 : Int) (a1_6 : Int) (a1_7 : Int) (a1_8 : Int) (a1_9 : Int) (a1_10 : Int) (a1_11 : Int) (a1_12 : Int) (a1_13 : Int) (a1_14 : Int) (a1_15 : Int) (a2 : Int) (a3 : Int) (R : AV → Mem → Prop) : Prop :=
callQ Try.prog KK.gl ((0, some ⟨[(intA a1_0), (intA a1_1), (intA a1_2), (intA a1_3), (intA a1_4), (intA a1_5), (intA a1_6), (intA a1_7), (intA a1_8), (intA a1_9), (intA a1_10), (intA a1_11), (intA a1_12), (intA a1_13), (intA a1_14), (intA a1_15)], 24⟩) :: []) 28 [] fun v0 =>
exB v0 fun b1 =>
bif (!b1) then (
retL R ((0, some ⟨[(intA a1_0), (intA a1_1), (intA a1_2), (intA a1_3), (intA a1_4), (intA a1_5), (intA a1_6), (intA a1_7), (intA a1_8), (intA a1_9), (intA a1_10), (intA a1_11), (intA a1_12), (intA a1_13), (intA a1_14), (intA a1_15)], 24⟩) :: []) [some (boolA false)]) else (
opP (lenS a0) fun v2 =>
ex_i64 v2 fun z3 =>
bif (decide (z3 > (6))) then (
retL R ((0, some ⟨[(intA a1_0), (intA a1_1), (intA a1_2), (intA a1_3), (intA a1_4), (intA a1_5), (intA a1_6), (intA a1_7), (intA a1_8), (intA a1_9), (intA a1_10), (intA a1_11), (intA a1_12), (intA a1_13), (intA a1_14), (intA a1_15)], 24⟩) :: []) [some (boolA true)]) else (
callQ Try.prog KK.gl ((0, some ⟨[(intA a1_0), (intA a1_1), (intA a1_2), (intA a1_3), (intA a1_4), (intA a1_5), (intA a1_6), (intA a1_7), (intA a1_8), (intA a1_9), (intA a1_10), (intA a1_11), (intA a1_12), (intA a1_13), (intA a1_14), (intA a1_15)], 24⟩) :: []) 15 [(intA a3), (intA (500))] fun v4 =>
ex_i64 v4 fun z5 =>
callW Try.prog KK.gl ((0, some ⟨[(intA a1_0), (intA a1_1), (intA a1_2), (intA a1_3), (intA a1_4), (intA a1_5), (intA a1_6), (intA a1_7), (intA a1_8), (intA a1_9), (intA a1_10), (intA a1_11), (intA a1_12), (intA a1_13), (intA a1_14), (intA a1_15)], 24⟩) :: []) 137 33 [a0] fun v6 m6 =>
opP (lenS v6) fun v7 =>
ex_i64 v7 fun z8 =>
Tri Try.prog KK 125 0 (.loop c9_0) ⟨[(0, a0), (1, (AV.agg [(intA a1_0), (intA a1_1), (intA a1_2), (intA a1_3), (intA a1_4), (intA a1_5), (intA a1_6), (intA a1_7), (intA a1_8), (intA a1_9), (intA a1_10), (intA a1_11), (intA a1_12), (intA a1_13), (intA a1_14), (intA a1_15)])), (2, (intA a2)), (3, (intA z5)), (5, (AV.ptr 0 0)), (8, (boolA false)), (18, (boolA b1)), (19, (boolA (!b1))), (20, a0), (21, (intA z3)), (22, (boolA (decide (z3 > (6))))), (23, (intA a3)), (24, (intA z5)), (25, a0), (26, v6), (9, v6), (27, v6), (28, (intA z8)), (29, (intA (0)))], m6, 205⟩ (q9_0 R)))
theorem F9_own (a0 : AV) (a1_0 : Int) (a1_1 : Int) (a1_2 : Int) (a1_3 : Int) (a1_4 : Int) (a1_5 : Int) (a1_6 : Int) (a1_7 : Int) (a1_8 : Int) (a1_9 : Int) (a1_10 : Int) (a1_11 : Int) (a1_12 : Int) (a1_13 : Int) (a1_14 : Int) (a1_15 : Int) (a2 : Int) (a3 : Int) (R : AV → Mem → Prop) (h : F9 a0 a1_0 a1_1 a1_2 a1_3 a1_4 a1_5 a1_6 a1_7 a1_8 a1_9 a1_10 a1_11 a1_12 a1_13 a1_14 a1_15 a2 a3 R) : Own Try.prog KK.gl 9 [a0, (AV.agg [(intA a1_0), (intA a1_1), (intA a1_2), (intA a1_3), (intA a1_4), (intA a1_5), (intA a1_6), (intA a1_7), (intA a1_8), (intA a1_9), (intA a1_10), (intA a1_11), (intA a1_12), (intA a1_13), (intA a1_14), (intA a1_15)]), (intA a2), (intA a3)] R := own_of_F fol Try.func9 (code := c9) (by kernel_rfl) (by kernel_rfl) (by kernel_rfl) (X := F9 a0 a1_0 a1_1 a1_2 a1_3 a1_4 a1_5 a1_6 a1_7 a1_8 a1_9 a1_10 a1_11 a1_12 a1_13 a1_14 a1_15 a2 a3 R) (by kernel_rfl) h
/- slices.Clone[[]skyway/api.SequenceArrival,skyway/api.SequenceArrival] -/
noncomputable def c33 : Code := ((Try.f33).body).getD .skip
noncomputable def q33 (R : AV → Mem → Prop) : AExit → St → Prop := retQ Try.prog Try.f33 R
noncomputable def F33 (a0 : AV) (R : AV → Mem → Prop) : Prop :=
nilK a0 fun b0 =>
bif b0 then (
retL R [] [some AV.nils]) else (
opN (bsl 3 69 4 0 [(AV.sc (.string ⟨#[]⟩)), (intA (0)), (intA (0)), (intA (0))] []) [] fun v2 m2 =>
opN (app (mget m2) 69 4 40 [(AV.sc (.string ⟨#[]⟩)), (intA (0)), (intA (0)), (intA (0))] 5 v2 a0) m2 fun v3 m3 =>
retL R m3 [some v3])
theorem F33_own (a0 : AV) (R : AV → Mem → Prop) (h : F33 a0 R) : Own Try.prog KK.gl 33 [a0] R := own_of_F fol Try.func33 (code := c33) (by kernel_rfl) (by kernel_rfl) (by kernel_rfl) (X := F33 a0 R) (by kernel_rfl) h
/- slices.Clone[[]int,int] -/
noncomputable def c14 : Code := ((Try.f14).body).getD .skip
noncomputable def q14 (R : AV → Mem → Prop) : AExit → St → Prop := retQ Try.prog Try.f14 R
noncomputable def F14 (a0 : AV) (R : AV → Mem → Prop) : Prop :=
nilK a0 fun b0 =>
bif b0 then (
retL R [] [some AV.nils]) else (
opN (bsl 3 3 1 0 [(intA (0))] []) [] fun v2 m2 =>
opN (app (mget m2) 3 1 8 [(intA (0))] 5 v2 a0) m2 fun v3 m3 =>
retL R m3 [some v3])
theorem F14_own (a0 : AV) (R : AV → Mem → Prop) (h : F14 a0 R) : Own Try.prog KK.gl 14 [a0] R := own_of_F fol Try.func14 (code := c14) (by kernel_rfl) (by kernel_rfl) (by kernel_rfl) (X := F14 a0 R) (by kernel_rfl) h
end Go.Proofs.Ytfmodgffhbljoaa
