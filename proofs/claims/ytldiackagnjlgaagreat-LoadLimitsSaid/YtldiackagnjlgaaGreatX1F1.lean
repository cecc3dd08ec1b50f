/- Functions of the program as conditions on their answers; printed by wip/Gen.lean.txt. -/
import Derived.Test.YtldiackagnjlgaaGreatX1T
set_option linter.unusedVariables false
set_option maxRecDepth 100000
set_option maxHeartbeats 4000000
namespace Go.Proofs.YtldiackagnjlgaaGreat
/- skyway/plane.Check -/
noncomputable def c33 : Code := ((Tryz.f33).body).getD .skip
noncomputable def q33 (R : AV → Mem → Prop) : AExit → St → Prop := retQ Tryz.prog Tryz.f33 R
noncomputable def F33 (a0_0 : Int) (a0_1 : Int) (R : AV → Mem → Prop) : Prop :=
bif (decide (a0_0 < (-1000000))) then (
retL R ((0, some ⟨[(intA a0_0), (intA a0_1)], 60⟩) :: []) [some (intA (4))]) else (
bif (decide (a0_0 > (1000000))) then (
retL R ((0, some ⟨[(intA a0_0), (intA a0_1)], 60⟩) :: []) [some (intA (4))]) else (
bif (decide (a0_1 < (-1000000))) then (
retL R ((0, some ⟨[(intA a0_0), (intA a0_1)], 60⟩) :: []) [some (intA (4))]) else (
bif (decide (a0_1 > (1000000))) then (
retL R ((0, some ⟨[(intA a0_0), (intA a0_1)], 60⟩) :: []) [some (intA (4))]) else (
retL R ((0, some ⟨[(intA a0_0), (intA a0_1)], 60⟩) :: []) [some (intA (0))]))))
theorem F33_own (a0_0 : Int) (a0_1 : Int) (R : AV → Mem → Prop) (h : F33 a0_0 a0_1 R) : Own Tryz.prog KK.gl 33 [(AV.agg [(intA a0_0), (intA a0_1)])] R := own_of_F fol Tryz.func33 (code := c33) (by kernel_rfl) (by kernel_rfl) (by kernel_rfl) (X := F33 a0_0 a0_1 R) (by kernel_rfl) h
/- skyway/tube.Check -/
noncomputable def c21 : Code := ((Tryz.f21).body).getD .skip
noncomputable def q21 (R : AV → Mem → Prop) : AExit → St → Prop := retQ Tryz.prog Tryz.f21 R
noncomputable def c21_0 : Code := loopB c21 0
noncomputable def q21_0 (R : AV → Mem → Prop) : AExit → St → Prop := contW Tryz.prog KK 86 0 c21 0 (q21 R)
noncomputable def qq21_0 (R : AV → Mem → Prop) (N0 : St → Prop) : AExit → St → Prop := thenQ N0 (q21_0 R)
def h21_0 (t0 : AV) (t2 : Int) (t14 : AV) (t15 : Int) (t16 : Int) (m : Mem) : St := ⟨[(0, t0), (2, (intA t2)), (14, t14), (15, (intA t15)), (16, (intA t16))], m, 100000⟩
noncomputable def B21_0 (t0 : AV) (t2 : Int) (t14 : AV) (t15 : Int) (t16 : Int) (m : Mem) (R : AV → Mem → Prop) (N0 : St → Prop) : Prop :=
bif (decide (t16 < t15)) then (
opP (idxS 6 t14 (intA t16)) fun v6 =>
opP (ldA (mget m) 6 v6) fun v7 =>
exA6 v7 fun c8 c9 c10 c11 c12 c13 =>
ex_i64 c8 fun z14 =>
ex_i64 c9 fun z15 =>
ex_i64 c10 fun z16 =>
ex_i64 c11 fun z17 =>
ex_i64 c12 fun z18 =>
ex_i64 c13 fun z19 =>
bif (decide (z14 < (0))) then (
retL R ((100004, some ⟨[(intA z14), (intA z15), (intA z16), (intA z17), (intA z18), (intA z19)], 64⟩) :: (100004, some ⟨[(intA (0)), (intA (0)), (intA (0)), (intA (0)), (intA (0)), (intA (0))], 64⟩) :: m) [some (intA (12))]) else (
bif (decide (z14 > (200000))) then (
retL R ((100004, some ⟨[(intA z14), (intA z15), (intA z16), (intA z17), (intA z18), (intA z19)], 64⟩) :: (100004, some ⟨[(intA (0)), (intA (0)), (intA (0)), (intA (0)), (intA (0)), (intA (0))], 64⟩) :: m) [some (intA (12))]) else (
bif (decide (t16 > (0))) then (
opP (idxS 6 t0 (intA (IntKind.wrap .i64 (t16 - (1))))) fun v20 =>
opP (fldO 0 v20) fun v21 =>
opP (fldO 0 v21) fun v22 =>
opP (ldS (mget ((100004, some ⟨[(intA z14), (intA z15), (intA z16), (intA z17), (intA z18), (intA z19)], 64⟩) :: (100004, some ⟨[(intA (0)), (intA (0)), (intA (0)), (intA (0)), (intA (0)), (intA (0))], 64⟩) :: m)) v22) fun v23 =>
ex_i64 v23 fun z24 =>
bif (decide (z14 ≤ z24)) then (
retL R ((100004, some ⟨[(intA z14), (intA z15), (intA z16), (intA z17), (intA z18), (intA z19)], 64⟩) :: (100004, some ⟨[(intA (0)), (intA (0)), (intA (0)), (intA (0)), (intA (0)), (intA (0))], 64⟩) :: m) [some (intA (12))]) else (
callQ Tryz.prog KK.gl ((100004, some ⟨[(intA z14), (intA z15), (intA z16), (intA z17), (intA z18), (intA z19)], 64⟩) :: (100004, some ⟨[(intA (0)), (intA (0)), (intA (0)), (intA (0)), (intA (0)), (intA (0))], 64⟩) :: m) 33 [(AV.agg [(intA z15), (intA z16)])] fun v25 =>
ex_i64 v25 fun z26 =>
bif (z26 != (0)) then (
retL R ((100004, some ⟨[(intA z14), (intA z15), (intA z16), (intA z17), (intA z18), (intA z19)], 64⟩) :: (100004, some ⟨[(intA (0)), (intA (0)), (intA (0)), (intA (0)), (intA (0)), (intA (0))], 64⟩) :: m) [some (intA z26)]) else (
bif (decide (z17 < (0))) then (
retL R ((100004, some ⟨[(intA z14), (intA z15), (intA z16), (intA z17), (intA z18), (intA z19)], 64⟩) :: (100004, some ⟨[(intA (0)), (intA (0)), (intA (0)), (intA (0)), (intA (0)), (intA (0))], 64⟩) :: m) [some (intA (4))]) else (
bif (decide (z17 > (60000))) then (
retL R ((100004, some ⟨[(intA z14), (intA z15), (intA z16), (intA z17), (intA z18), (intA z19)], 64⟩) :: (100004, some ⟨[(intA (0)), (intA (0)), (intA (0)), (intA (0)), (intA (0)), (intA (0))], 64⟩) :: m) [some (intA (4))]) else (
bif (decide (z18 < (0))) then (
retL R ((100004, some ⟨[(intA z14), (intA z15), (intA z16), (intA z17), (intA z18), (intA z19)], 64⟩) :: (100004, some ⟨[(intA (0)), (intA (0)), (intA (0)), (intA (0)), (intA (0)), (intA (0))], 64⟩) :: m) [some (intA (4))]) else (
bif (decide (z18 > (1000000))) then (
retL R ((100004, some ⟨[(intA z14), (intA z15), (intA z16), (intA z17), (intA z18), (intA z19)], 64⟩) :: (100004, some ⟨[(intA (0)), (intA (0)), (intA (0)), (intA (0)), (intA (0)), (intA (0))], 64⟩) :: m) [some (intA (4))]) else (
bif (decide (z19 < (0))) then (
retL R ((100004, some ⟨[(intA z14), (intA z15), (intA z16), (intA z17), (intA z18), (intA z19)], 64⟩) :: (100004, some ⟨[(intA (0)), (intA (0)), (intA (0)), (intA (0)), (intA (0)), (intA (0))], 64⟩) :: m) [some (intA (4))]) else (
bif (decide (z19 > (60000))) then (
retL R ((100004, some ⟨[(intA z14), (intA z15), (intA z16), (intA z17), (intA z18), (intA z19)], 64⟩) :: (100004, some ⟨[(intA (0)), (intA (0)), (intA (0)), (intA (0)), (intA (0)), (intA (0))], 64⟩) :: m) [some (intA (4))]) else (
N0 ⟨[(0, t0), (2, (intA t2)), (14, t14), (15, (intA t15)), (16, (intA (IntKind.wrap .i64 (t16 + (1))))), (17, (boolA (decide (t16 < t15)))), (18, (intA t16)), (19, v6), (20, (AV.agg [(intA z14), (intA z15), (intA z16), (intA z17), (intA z18), (intA z19)])), (4, (AV.ptr 100004 0)), (3, (intA t16)), (21, (AV.ptr 100004 0)), (22, (AV.ptr 100004 0)), (23, (intA z14)), (24, (boolA (decide (z14 < (0))))), (25, (boolA false)), (26, (AV.ptr 100004 0)), (27, (AV.ptr 100004 0)), (28, (intA z14)), (29, (boolA (decide (z14 > (200000))))), (30, (boolA (decide (z14 > (200000))))), (31, (boolA false)), (32, (intA t16)), (33, (boolA (decide (t16 > (0))))), (34, (boolA true)), (35, (AV.ptr 100004 0)), (36, (AV.ptr 100004 0)), (37, (intA z14)), (38, t0), (39, (intA t16)), (40, (intA (IntKind.wrap .i64 (t16 - (1))))), (41, v20), (42, v21), (43, v22), (44, (intA z24)), (45, (boolA (decide (z14 ≤ z24)))), (46, (boolA (decide (z14 ≤ z24)))), (47, (boolA (decide (z14 ≤ z24)))), (48, (AV.ptr 100004 0)), (49, (AV.ptr 100004 1)), (50, (AV.agg [(intA z15), (intA z16)])), (51, (intA z26)), (5, (intA z26)), (52, (intA z26)), (53, (boolA (z26 != (0)))), (55, (AV.ptr 100004 0)), (56, (AV.ptr 100004 3)), (57, (intA z17)), (58, (boolA (decide (z17 < (0))))), (59, (boolA false)), (60, (AV.ptr 100004 0)), (61, (AV.ptr 100004 3)), (62, (intA z17)), (63, (boolA (decide (z17 > (60000))))), (64, (boolA (decide (z17 > (60000))))), (65, (boolA false)), (66, (AV.ptr 100004 4)), (67, (intA z18)), (68, (boolA (decide (z18 < (0))))), (69, (boolA (decide (z18 < (0))))), (70, (boolA false)), (71, (AV.ptr 100004 4)), (72, (intA z18)), (73, (boolA (decide (z18 > (1000000))))), (74, (boolA (decide (z18 > (1000000))))), (75, (boolA false)), (76, (AV.ptr 100004 5)), (77, (intA z19)), (78, (boolA (decide (z19 < (0))))), (79, (boolA (decide (z19 < (0))))), (80, (boolA false)), (81, (AV.ptr 100004 5)), (82, (intA z19)), (83, (boolA (decide (z19 > (60000))))), (84, (boolA (decide (z19 > (60000))))), (85, (intA (IntKind.wrap .i64 (t16 + (1)))))], ((100004, some ⟨[(intA z14), (intA z15), (intA z16), (intA z17), (intA z18), (intA z19)], 64⟩) :: (100004, some ⟨[(intA (0)), (intA (0)), (intA (0)), (intA (0)), (intA (0)), (intA (0))], 64⟩) :: m), 100136⟩))))))))) else (
callQ Tryz.prog KK.gl ((100004, some ⟨[(intA z14), (intA z15), (intA z16), (intA z17), (intA z18), (intA z19)], 64⟩) :: (100004, some ⟨[(intA (0)), (intA (0)), (intA (0)), (intA (0)), (intA (0)), (intA (0))], 64⟩) :: m) 33 [(AV.agg [(intA z15), (intA z16)])] fun v27 =>
ex_i64 v27 fun z28 =>
bif (z28 != (0)) then (
retL R ((100004, some ⟨[(intA z14), (intA z15), (intA z16), (intA z17), (intA z18), (intA z19)], 64⟩) :: (100004, some ⟨[(intA (0)), (intA (0)), (intA (0)), (intA (0)), (intA (0)), (intA (0))], 64⟩) :: m) [some (intA z28)]) else (
bif (decide (z17 < (0))) then (
retL R ((100004, some ⟨[(intA z14), (intA z15), (intA z16), (intA z17), (intA z18), (intA z19)], 64⟩) :: (100004, some ⟨[(intA (0)), (intA (0)), (intA (0)), (intA (0)), (intA (0)), (intA (0))], 64⟩) :: m) [some (intA (4))]) else (
bif (decide (z17 > (60000))) then (
retL R ((100004, some ⟨[(intA z14), (intA z15), (intA z16), (intA z17), (intA z18), (intA z19)], 64⟩) :: (100004, some ⟨[(intA (0)), (intA (0)), (intA (0)), (intA (0)), (intA (0)), (intA (0))], 64⟩) :: m) [some (intA (4))]) else (
bif (decide (z18 < (0))) then (
retL R ((100004, some ⟨[(intA z14), (intA z15), (intA z16), (intA z17), (intA z18), (intA z19)], 64⟩) :: (100004, some ⟨[(intA (0)), (intA (0)), (intA (0)), (intA (0)), (intA (0)), (intA (0))], 64⟩) :: m) [some (intA (4))]) else (
bif (decide (z18 > (1000000))) then (
retL R ((100004, some ⟨[(intA z14), (intA z15), (intA z16), (intA z17), (intA z18), (intA z19)], 64⟩) :: (100004, some ⟨[(intA (0)), (intA (0)), (intA (0)), (intA (0)), (intA (0)), (intA (0))], 64⟩) :: m) [some (intA (4))]) else (
bif (decide (z19 < (0))) then (
retL R ((100004, some ⟨[(intA z14), (intA z15), (intA z16), (intA z17), (intA z18), (intA z19)], 64⟩) :: (100004, some ⟨[(intA (0)), (intA (0)), (intA (0)), (intA (0)), (intA (0)), (intA (0))], 64⟩) :: m) [some (intA (4))]) else (
bif (decide (z19 > (60000))) then (
retL R ((100004, some ⟨[(intA z14), (intA z15), (intA z16), (intA z17), (intA z18), (intA z19)], 64⟩) :: (100004, some ⟨[(intA (0)), (intA (0)), (intA (0)), (intA (0)), (intA (0)), (intA (0))], 64⟩) :: m) [some (intA (4))]) else (
N0 ⟨[(0, t0), (2, (intA t2)), (14, t14), (15, (intA t15)), (16, (intA (IntKind.wrap .i64 (t16 + (1))))), (17, (boolA (decide (t16 < t15)))), (18, (intA t16)), (19, v6), (20, (AV.agg [(intA z14), (intA z15), (intA z16), (intA z17), (intA z18), (intA z19)])), (4, (AV.ptr 100004 0)), (3, (intA t16)), (21, (AV.ptr 100004 0)), (22, (AV.ptr 100004 0)), (23, (intA z14)), (24, (boolA (decide (z14 < (0))))), (25, (boolA false)), (26, (AV.ptr 100004 0)), (27, (AV.ptr 100004 0)), (28, (intA z14)), (29, (boolA (decide (z14 > (200000))))), (30, (boolA (decide (z14 > (200000))))), (31, (boolA false)), (32, (intA t16)), (33, (boolA (decide (t16 > (0))))), (34, (boolA false)), (35, (AV.tup [])), (36, (AV.tup [])), (37, (AV.tup [])), (38, (AV.tup [])), (39, (AV.tup [])), (40, (AV.tup [])), (41, (AV.tup [])), (42, (AV.tup [])), (43, (AV.tup [])), (44, (AV.tup [])), (45, (AV.tup [])), (46, (boolA false)), (47, (boolA false)), (48, (AV.ptr 100004 0)), (49, (AV.ptr 100004 1)), (50, (AV.agg [(intA z15), (intA z16)])), (51, (intA z28)), (5, (intA z28)), (52, (intA z28)), (53, (boolA (z28 != (0)))), (55, (AV.ptr 100004 0)), (56, (AV.ptr 100004 3)), (57, (intA z17)), (58, (boolA (decide (z17 < (0))))), (59, (boolA false)), (60, (AV.ptr 100004 0)), (61, (AV.ptr 100004 3)), (62, (intA z17)), (63, (boolA (decide (z17 > (60000))))), (64, (boolA (decide (z17 > (60000))))), (65, (boolA false)), (66, (AV.ptr 100004 4)), (67, (intA z18)), (68, (boolA (decide (z18 < (0))))), (69, (boolA (decide (z18 < (0))))), (70, (boolA false)), (71, (AV.ptr 100004 4)), (72, (intA z18)), (73, (boolA (decide (z18 > (1000000))))), (74, (boolA (decide (z18 > (1000000))))), (75, (boolA false)), (76, (AV.ptr 100004 5)), (77, (intA z19)), (78, (boolA (decide (z19 < (0))))), (79, (boolA (decide (z19 < (0))))), (80, (boolA false)), (81, (AV.ptr 100004 5)), (82, (intA z19)), (83, (boolA (decide (z19 > (60000))))), (84, (boolA (decide (z19 > (60000))))), (85, (intA (IntKind.wrap .i64 (t16 + (1)))))], ((100004, some ⟨[(intA z14), (intA z15), (intA z16), (intA z17), (intA z18), (intA z19)], 64⟩) :: (100004, some ⟨[(intA (0)), (intA (0)), (intA (0)), (intA (0)), (intA (0)), (intA (0))], 64⟩) :: m), 100136⟩))))))))))) else (
retL R m [some (intA (0))])
theorem B21_0_eq (t0 : AV) (t2 : Int) (t14 : AV) (t15 : Int) (t16 : Int) (m : Mem) (R : AV → Mem → Prop) (N0 : St → Prop) : W Tryz.prog KK 86 0 c21_0 (h21_0 t0 t2 t14 t15 t16 m) (qq21_0 R N0) = B21_0 t0 t2 t14 t15 t16 m R N0 := by kernel_rfl
theorem L21_0 (R : AV → Mem → Prop) {σ : Type} (I : σ → Prop) (t0 : σ → AV) (t2 : σ → Int) (t14 : σ → AV) (t15 : σ → Int) (t16 : σ → Int) (m : σ → Mem) (μ : σ → Nat) (step : ∀ x, I x → B21_0 (t0 x) (t2 x) (t14 x) (t15 x) (t16 x) (m x) R (fun s' => ∃ y, I y ∧ μ y < μ x ∧ Weak KK 86 0 s' (h21_0 (t0 y) (t2 y) (t14 y) (t15 y) (t16 y) (m y)))) (x : σ) (hx : I x) {s : St} (hw : Weak KK 86 0 s (h21_0 (t0 x) (t2 x) (t14 x) (t15 x) (t16 x) (m x))) : Tri Tryz.prog KK 86 0 (.loop c21_0) s (q21_0 R) :=
  Tri.weak hw (Tri.loops fol I (fun x => h21_0 (t0 x) (t2 x) (t14 x) (t15 x) (t16 x) (m x)) μ (fun x hx => (B21_0_eq (t0 x) (t2 x) (t14 x) (t15 x) (t16 x) (m x) R _).mpr (step x hx)) x hx)
noncomputable def F21 (a0 : AV) (R : AV → Mem → Prop) : Prop :=
opP (lenS a0) fun v0 =>
ex_i64 v0 fun z1 =>
bif (decide (z1 > (64))) then (
retL R [] [some (intA (2))]) else (
opP (lenS a0) fun v2 =>
ex_i64 v2 fun z3 =>
bif (z3 == (0)) then (
retL R [] [some (intA (3))]) else (
opP (lenS a0) fun v4 =>
ex_i64 v4 fun z5 =>
Tri Tryz.prog KK 86 0 (.loop c21_0) ⟨[(0, a0), (2, (intA (0))), (7, a0), (8, (intA z1)), (9, (boolA (decide (z1 > (64))))), (6, (boolA (decide (z1 > (64))))), (11, a0), (12, (intA z3)), (13, (boolA (z3 == (0)))), (10, (boolA (z3 == (0)))), (14, a0), (15, (intA z5)), (16, (intA (0)))], [], 12⟩ (q21_0 R)))
theorem F21_own (a0 : AV) (R : AV → Mem → Prop) (h : F21 a0 R) : Own Tryz.prog KK.gl 21 [a0] R := own_of_F fol Tryz.func21 (code := c21) (by kernel_rfl) (by kernel_rfl) (by kernel_rfl) (X := F21 a0 R) (by kernel_rfl) h
/- skyway/tube.ends -/
noncomputable def c51 : Code := ((Tryz.f51).body).getD .skip
noncomputable def q51 (R : AV → Mem → Prop) : AExit → St → Prop := retQ Tryz.prog Tryz.f51 R
noncomputable def F51 (a0 : AV) (R : AV → Mem → Prop) : Prop :=
opP (idxS 6 a0 (intA (0))) fun v0 =>
opP (fldO 0 v0) fun v1 =>
opP (fldO 0 v1) fun v2 =>
opP (ldS (mget []) v2) fun v3 =>
ex_i64 v3 fun z4 =>
opP (lenS a0) fun v5 =>
ex_i64 v5 fun z6 =>
opP (idxS 6 a0 (intA (IntKind.wrap .i64 (z6 - (1))))) fun v7 =>
opP (fldO 0 v7) fun v8 =>
opP (fldO 0 v8) fun v9 =>
opP (ldS (mget []) v9) fun v10 =>
ex_i64 v10 fun z11 =>
retL R [] [some (intA z4), some (intA z11)]
theorem F51_own (a0 : AV) (R : AV → Mem → Prop) (h : F51 a0 R) : Own Tryz.prog KK.gl 51 [a0] R := own_of_F fol Tryz.func51 (code := c51) (by kernel_rfl) (by kernel_rfl) (by kernel_rfl) (X := F51 a0 R) (by kernel_rfl) h
/- skyway/tube.at$1 -/
noncomputable def c77 : Code := ((Tryz.f77).body).getD .skip
noncomputable def q77 (R : AV → Mem → Prop) : AExit → St → Prop := retQ Tryz.prog Tryz.f77 R
noncomputable def F77 (a0_0 : Int) (a0_1 : Int) (a0_2 : Int) (a0_3 : Int) (a0_4 : Int) (a0_5 : Int) (a1 : Int) (R : AV → Mem → Prop) : Prop :=
retL R ((0, some ⟨[(intA a0_0), (intA a0_1), (intA a0_2), (intA a0_3), (intA a0_4), (intA a0_5)], 64⟩) :: []) [some (intA (IntKind.wrap .i64 (a0_0 - a1)))]
theorem F77_own (a0_0 : Int) (a0_1 : Int) (a0_2 : Int) (a0_3 : Int) (a0_4 : Int) (a0_5 : Int) (a1 : Int) (R : AV → Mem → Prop) (h : F77 a0_0 a0_1 a0_2 a0_3 a0_4 a0_5 a1 R) : Own Tryz.prog KK.gl 77 [(AV.agg [(intA a0_0), (intA a0_1), (intA a0_2), (intA a0_3), (intA a0_4), (intA a0_5)]), (intA a1)] R := own_of_F fol Tryz.func77 (code := c77) (by kernel_rfl) (by kernel_rfl) (by kernel_rfl) (X := F77 a0_0 a0_1 a0_2 a0_3 a0_4 a0_5 a1 R) (by kernel_rfl) h
/- slices.BinarySearchFunc[skyway/api.Tube,skyway/api.TubeNode,int] -/
noncomputable def c76 : Code := ((Tryz.f76).body).getD .skip
noncomputable def q76 (R : AV → Mem → Prop) : AExit → St → Prop := retQ Tryz.prog Tryz.f76 R
noncomputable def c76_0 : Code := loopB c76 0
noncomputable def q76_0 (R : AV → Mem → Prop) : AExit → St → Prop := contW Tryz.prog KK 49 0 c76 0 (q76 R)
noncomputable def qq76_0 (R : AV → Mem → Prop) (N0 : St → Prop) : AExit → St → Prop := thenQ N0 (q76_0 R)
def h76_0 (t0 : AV) (t1 : Int) (t2 : AV) (t6 : Int) (t7 : Bool) (t8 : Int) (t9 : Int) (t10 : Int) (m : Mem) : St := ⟨[(0, t0), (1, (intA t1)), (2, t2), (6, (intA t6)), (7, (boolA t7)), (8, (intA t8)), (9, (intA t9)), (10, (intA t10))], m, 100000⟩
noncomputable def B76_0 (t0 : AV) (t1 : Int) (t2 : AV) (t6 : Int) (t7 : Bool) (t8 : Int) (t9 : Int) (t10 : Int) (m : Mem) (R : AV → Mem → Prop) (N0 : St → Prop) : Prop :=
bif (decide (t9 < t10)) then (
opP (opA Tryz.prog (.convert 3 95 (.tmp 0)) 95 [(intA (IntKind.wrap .i64 (t9 + t10)))] (mget m) 100006) fun v2 =>
ex_u64 v2 fun z3 =>
opP (opA Tryz.prog (.binOp .shr 95 (.tmp 0) (.tmp 1) 95) 95 [(AV.sc (.int .u64 z3)), (AV.sc (.int .u64 (1)))] (mget m) 100007) fun v4 =>
ex_u64 v4 fun z5 =>
opP (opA Tryz.prog (.convert 95 3 (.tmp 0)) 3 [(AV.sc (.int .u64 z5))] (mget m) 100008) fun v6 =>
ex_i64 v6 fun z7 =>
opP (idxS 6 t0 (intA z7)) fun v8 =>
opP (ldA (mget m) 6 v8) fun v9 =>
exA6 v9 fun c10 c11 c12 c13 c14 c15 =>
ex_i64 c10 fun z16 =>
ex_i64 c11 fun z17 =>
ex_i64 c12 fun z18 =>
ex_i64 c13 fun z19 =>
ex_i64 c14 fun z20 =>
ex_i64 c15 fun z21 =>
fnArgs (some t2) (some [(AV.agg [(intA z16), (intA z17), (intA z18), (intA z19), (intA z20), (intA z21)]), (intA t1)]) fun f22 a22 => bif KK.pm f22 then callQ Tryz.prog KK.gl m f22 a22 (fun v22 =>
ex_i64 v22 fun z23 =>
bif (decide (z23 < (0))) then (
N0 ⟨[(0, t0), (1, (intA t1)), (2, t2), (6, (intA t6)), (7, (boolA t7)), (8, (intA t8)), (9, (intA (IntKind.wrap .i64 (z7 + (1))))), (10, (intA t10)), (15, (intA t9)), (16, (intA t10)), (17, (boolA (decide (t9 < t10)))), (18, (intA t9)), (19, (intA t10)), (20, (intA (IntKind.wrap .i64 (t9 + t10)))), (21, (AV.sc (.int .u64 z3))), (22, (AV.sc (.int .u64 z5))), (23, (intA z7)), (11, (intA z7)), (24, t2), (25, t0), (26, (intA z7)), (27, v8), (28, (AV.agg [(intA z16), (intA z17), (intA z18), (intA z19), (intA z20), (intA z21)])), (29, (intA t1)), (30, (intA z23)), (31, (boolA (decide (z23 < (0))))), (32, (intA z7)), (33, (intA (IntKind.wrap .i64 (z7 + (1)))))], m, 100084⟩) else (
N0 ⟨[(0, t0), (1, (intA t1)), (2, t2), (6, (intA t6)), (7, (boolA t7)), (8, (intA t8)), (9, (intA t9)), (10, (intA z7)), (15, (intA t9)), (16, (intA t10)), (17, (boolA (decide (t9 < t10)))), (18, (intA t9)), (19, (intA t10)), (20, (intA (IntKind.wrap .i64 (t9 + t10)))), (21, (AV.sc (.int .u64 z3))), (22, (AV.sc (.int .u64 z5))), (23, (intA z7)), (11, (intA z7)), (24, t2), (25, t0), (26, (intA z7)), (27, v8), (28, (AV.agg [(intA z16), (intA z17), (intA z18), (intA z19), (intA z20), (intA z21)])), (29, (intA t1)), (30, (intA z23)), (31, (boolA (decide (z23 < (0))))), (34, (intA z7))], m, 100083⟩)) else callW Tryz.prog KK.gl m 100016 f22 a22 fun v22 m22 =>
ex_i64 v22 fun z23 =>
bif (decide (z23 < (0))) then (
N0 ⟨[(0, t0), (1, (intA t1)), (2, t2), (6, (intA t6)), (7, (boolA t7)), (8, (intA t8)), (9, (intA (IntKind.wrap .i64 (z7 + (1))))), (10, (intA t10)), (15, (intA t9)), (16, (intA t10)), (17, (boolA (decide (t9 < t10)))), (18, (intA t9)), (19, (intA t10)), (20, (intA (IntKind.wrap .i64 (t9 + t10)))), (21, (AV.sc (.int .u64 z3))), (22, (AV.sc (.int .u64 z5))), (23, (intA z7)), (11, (intA z7)), (24, t2), (25, t0), (26, (intA z7)), (27, v8), (28, (AV.agg [(intA z16), (intA z17), (intA z18), (intA z19), (intA z20), (intA z21)])), (29, (intA t1)), (30, (intA z23)), (31, (boolA (decide (z23 < (0))))), (32, (intA z7)), (33, (intA (IntKind.wrap .i64 (z7 + (1)))))], m22, 100084⟩) else (
N0 ⟨[(0, t0), (1, (intA t1)), (2, t2), (6, (intA t6)), (7, (boolA t7)), (8, (intA t8)), (9, (intA t9)), (10, (intA z7)), (15, (intA t9)), (16, (intA t10)), (17, (boolA (decide (t9 < t10)))), (18, (intA t9)), (19, (intA t10)), (20, (intA (IntKind.wrap .i64 (t9 + t10)))), (21, (AV.sc (.int .u64 z3))), (22, (AV.sc (.int .u64 z5))), (23, (intA z7)), (11, (intA z7)), (24, t2), (25, t0), (26, (intA z7)), (27, v8), (28, (AV.agg [(intA z16), (intA z17), (intA z18), (intA z19), (intA z20), (intA z21)])), (29, (intA t1)), (30, (intA z23)), (31, (boolA (decide (z23 < (0))))), (34, (intA z7))], m22, 100083⟩)) else (
bif (decide (t9 < t8)) then (
opP (idxS 6 t0 (intA t9)) fun v24 =>
opP (ldA (mget m) 6 v24) fun v25 =>
exA6 v25 fun c26 c27 c28 c29 c30 c31 =>
ex_i64 c26 fun z32 =>
ex_i64 c27 fun z33 =>
ex_i64 c28 fun z34 =>
ex_i64 c29 fun z35 =>
ex_i64 c30 fun z36 =>
ex_i64 c31 fun z37 =>
fnArgs (some t2) (some [(AV.agg [(intA z32), (intA z33), (intA z34), (intA z35), (intA z36), (intA z37)]), (intA t1)]) fun f38 a38 => bif KK.pm f38 then callQ Tryz.prog KK.gl m f38 a38 (fun v38 =>
ex_i64 v38 fun z39 =>
retL R m [some (intA t9), some (boolA (z39 == (0)))]) else callW Tryz.prog KK.gl m 100014 f38 a38 fun v38 m38 =>
ex_i64 v38 fun z39 =>
retL R m38 [some (intA t9), some (boolA (z39 == (0)))]) else (
retL R m [some (intA t9), some (boolA false)]))
theorem B76_0_eq (t0 : AV) (t1 : Int) (t2 : AV) (t6 : Int) (t7 : Bool) (t8 : Int) (t9 : Int) (t10 : Int) (m : Mem) (R : AV → Mem → Prop) (N0 : St → Prop) : W Tryz.prog KK 49 0 c76_0 (h76_0 t0 t1 t2 t6 t7 t8 t9 t10 m) (qq76_0 R N0) = B76_0 t0 t1 t2 t6 t7 t8 t9 t10 m R N0 := by kernel_rfl
theorem L76_0 (R : AV → Mem → Prop) {σ : Type} (I : σ → Prop) (t0 : σ → AV) (t1 : σ → Int) (t2 : σ → AV) (t6 : σ → Int) (t7 : σ → Bool) (t8 : σ → Int) (t9 : σ → Int) (t10 : σ → Int) (m : σ → Mem) (μ : σ → Nat) (step : ∀ x, I x → B76_0 (t0 x) (t1 x) (t2 x) (t6 x) (t7 x) (t8 x) (t9 x) (t10 x) (m x) R (fun s' => ∃ y, I y ∧ μ y < μ x ∧ Weak KK 49 0 s' (h76_0 (t0 y) (t1 y) (t2 y) (t6 y) (t7 y) (t8 y) (t9 y) (t10 y) (m y)))) (x : σ) (hx : I x) {s : St} (hw : Weak KK 49 0 s (h76_0 (t0 x) (t1 x) (t2 x) (t6 x) (t7 x) (t8 x) (t9 x) (t10 x) (m x))) : Tri Tryz.prog KK 49 0 (.loop c76_0) s (q76_0 R) :=
  Tri.weak hw (Tri.loops fol I (fun x => h76_0 (t0 x) (t1 x) (t2 x) (t6 x) (t7 x) (t8 x) (t9 x) (t10 x) (m x)) μ (fun x hx => (B76_0_eq (t0 x) (t1 x) (t2 x) (t6 x) (t7 x) (t8 x) (t9 x) (t10 x) (m x) R _).mpr (step x hx)) x hx)
noncomputable def F76 (a0 : AV) (a1 : Int) (a2 : AV) (R : AV → Mem → Prop) : Prop :=
opP (lenS a0) fun v0 =>
ex_i64 v0 fun z1 =>
Tri Tryz.prog KK 49 0 (.loop c76_0) ⟨[(0, a0), (1, (intA a1)), (2, a2), (6, (intA (0))), (7, (boolA false)), (12, a0), (13, (intA z1)), (8, (intA z1)), (14, (intA z1)), (9, (intA (0))), (10, (intA z1))], [], 8⟩ (q76_0 R)
theorem F76_own (a0 : AV) (a1 : Int) (a2 : AV) (R : AV → Mem → Prop) (h : F76 a0 a1 a2 R) : Own Tryz.prog KK.gl 76 [a0, (intA a1), a2] R := own_of_F fol Tryz.func76 (code := c76) (by kernel_rfl) (by kernel_rfl) (by kernel_rfl) (X := F76 a0 a1 a2 R) (by kernel_rfl) h
/- skyway/num.DivDown -/
noncomputable def c79 : Code := ((Tryz.f79).body).getD .skip
noncomputable def q79 (R : AV → Mem → Prop) : AExit → St → Prop := retQ Tryz.prog Tryz.f79 R
noncomputable def F79 (a0 : Int) (a1 : Int) (R : AV → Mem → Prop) : Prop :=
bif (a1 == (0)) then (
retL R [] [some (intA (0)), some (intA (10))]) else (
bif (a0 == (-9223372036854775808)) then (
bif (a1 == (-1)) then (
retL R [] [some (intA (0)), some (intA (2))]) else (
opP (opA Tryz.prog (.binOp .quo 3 (.tmp 0) (.tmp 1) 3) 3 [(intA a0), (intA a1)] (mget []) 14) fun v0 =>
ex_i64 v0 fun z1 =>
opP (opA Tryz.prog (.binOp .rem 3 (.tmp 0) (.tmp 1) 3) 3 [(intA a0), (intA a1)] (mget []) 18) fun v2 =>
ex_i64 v2 fun z3 =>
bif (z3 != (0)) then (
opP (opA Tryz.prog (.binOp .neq 4 (.tmp 0) (.tmp 1) 4) 4 [(boolA (decide (a0 < (0)))), (boolA (decide (a1 < (0))))] (mget []) 25) fun v4 =>
exB v4 fun b5 =>
bif b5 then (
retL R [] [some (intA (IntKind.wrap .i64 (z1 - (1)))), some (intA (0))]) else (
retL R [] [some (intA z1), some (intA (0))])) else (
retL R [] [some (intA z1), some (intA (0))]))) else (
opP (opA Tryz.prog (.binOp .quo 3 (.tmp 0) (.tmp 1) 3) 3 [(intA a0), (intA a1)] (mget []) 12) fun v6 =>
ex_i64 v6 fun z7 =>
opP (opA Tryz.prog (.binOp .rem 3 (.tmp 0) (.tmp 1) 3) 3 [(intA a0), (intA a1)] (mget []) 16) fun v8 =>
ex_i64 v8 fun z9 =>
bif (z9 != (0)) then (
opP (opA Tryz.prog (.binOp .neq 4 (.tmp 0) (.tmp 1) 4) 4 [(boolA (decide (a0 < (0)))), (boolA (decide (a1 < (0))))] (mget []) 23) fun v10 =>
exB v10 fun b11 =>
bif b11 then (
retL R [] [some (intA (IntKind.wrap .i64 (z7 - (1)))), some (intA (0))]) else (
retL R [] [some (intA z7), some (intA (0))])) else (
retL R [] [some (intA z7), some (intA (0))])))
theorem F79_own (a0 : Int) (a1 : Int) (R : AV → Mem → Prop) (h : F79 a0 a1 R) : Own Tryz.prog KK.gl 79 [(intA a0), (intA a1)] R := own_of_F fol Tryz.func79 (code := c79) (by kernel_rfl) (by kernel_rfl) (by kernel_rfl) (X := F79 a0 a1 R) (by kernel_rfl) h
/- skyway/plane.Toward -/
noncomputable def c78 : Code := ((Tryz.f78).body).getD .skip
noncomputable def q78 (R : AV → Mem → Prop) : AExit → St → Prop := retQ Tryz.prog Tryz.f78 R
noncomputable def F78 (a0_0 : Int) (a0_1 : Int) (a1_0 : Int) (a1_1 : Int) (a2 : Int) (a3 : Int) (R : AV → Mem → Prop) : Prop :=
bif (decide (a3 ≤ (0))) then (
opP (bld [(intA (0)), (intA (0))] [(0, 1), (1, 1)] []) fun v0 =>
storeW Tryz.prog (mget ((2, some ⟨[(intA (0)), (intA (0))], 60⟩) :: (1, some ⟨[(intA a1_0), (intA a1_1)], 60⟩) :: (0, some ⟨[(intA a0_0), (intA a0_1)], 60⟩) :: [])) 60 (AV.ptr 2 0) v0 fun v1 d1 =>
retL R (mpushs ((2, some ⟨[(intA (0)), (intA (0))], 60⟩) :: (1, some ⟨[(intA a1_0), (intA a1_1)], 60⟩) :: (0, some ⟨[(intA a0_0), (intA a0_1)], 60⟩) :: []) d1) [(aLoad Tryz.prog (mget (mpushs ((2, some ⟨[(intA (0)), (intA (0))], 60⟩) :: (1, some ⟨[(intA a1_0), (intA a1_1)], 60⟩) :: (0, some ⟨[(intA a0_0), (intA a0_1)], 60⟩) :: []) d1)) 60 (AV.ptr 2 0)).map (·.1), some (intA (10))]) else (
bif (decide (a3 > (200000))) then (
opP (bld [(intA (0)), (intA (0))] [(0, 1), (1, 1)] []) fun v2 =>
storeW Tryz.prog (mget ((2, some ⟨[(intA (0)), (intA (0))], 60⟩) :: (1, some ⟨[(intA a1_0), (intA a1_1)], 60⟩) :: (0, some ⟨[(intA a0_0), (intA a0_1)], 60⟩) :: [])) 60 (AV.ptr 2 0) v2 fun v3 d3 =>
retL R (mpushs ((2, some ⟨[(intA (0)), (intA (0))], 60⟩) :: (1, some ⟨[(intA a1_0), (intA a1_1)], 60⟩) :: (0, some ⟨[(intA a0_0), (intA a0_1)], 60⟩) :: []) d3) [(aLoad Tryz.prog (mget (mpushs ((2, some ⟨[(intA (0)), (intA (0))], 60⟩) :: (1, some ⟨[(intA a1_0), (intA a1_1)], 60⟩) :: (0, some ⟨[(intA a0_0), (intA a0_1)], 60⟩) :: []) d3)) 60 (AV.ptr 2 0)).map (·.1), some (intA (4))]) else (
bif (decide (a2 < (0))) then (
opP (bld [(intA (0)), (intA (0))] [(0, 1), (1, 1)] []) fun v4 =>
storeW Tryz.prog (mget ((2, some ⟨[(intA (0)), (intA (0))], 60⟩) :: (1, some ⟨[(intA a1_0), (intA a1_1)], 60⟩) :: (0, some ⟨[(intA a0_0), (intA a0_1)], 60⟩) :: [])) 60 (AV.ptr 2 0) v4 fun v5 d5 =>
retL R (mpushs ((2, some ⟨[(intA (0)), (intA (0))], 60⟩) :: (1, some ⟨[(intA a1_0), (intA a1_1)], 60⟩) :: (0, some ⟨[(intA a0_0), (intA a0_1)], 60⟩) :: []) d5) [(aLoad Tryz.prog (mget (mpushs ((2, some ⟨[(intA (0)), (intA (0))], 60⟩) :: (1, some ⟨[(intA a1_0), (intA a1_1)], 60⟩) :: (0, some ⟨[(intA a0_0), (intA a0_1)], 60⟩) :: []) d5)) 60 (AV.ptr 2 0)).map (·.1), some (intA (4))]) else (
bif (decide (a2 > a3)) then (
opP (bld [(intA (0)), (intA (0))] [(0, 1), (1, 1)] []) fun v6 =>
storeW Tryz.prog (mget ((2, some ⟨[(intA (0)), (intA (0))], 60⟩) :: (1, some ⟨[(intA a1_0), (intA a1_1)], 60⟩) :: (0, some ⟨[(intA a0_0), (intA a0_1)], 60⟩) :: [])) 60 (AV.ptr 2 0) v6 fun v7 d7 =>
retL R (mpushs ((2, some ⟨[(intA (0)), (intA (0))], 60⟩) :: (1, some ⟨[(intA a1_0), (intA a1_1)], 60⟩) :: (0, some ⟨[(intA a0_0), (intA a0_1)], 60⟩) :: []) d7) [(aLoad Tryz.prog (mget (mpushs ((2, some ⟨[(intA (0)), (intA (0))], 60⟩) :: (1, some ⟨[(intA a1_0), (intA a1_1)], 60⟩) :: (0, some ⟨[(intA a0_0), (intA a0_1)], 60⟩) :: []) d7)) 60 (AV.ptr 2 0)).map (·.1), some (intA (4))]) else (
callQ Tryz.prog KK.gl ((2, some ⟨[(intA (0)), (intA (0))], 60⟩) :: (1, some ⟨[(intA a1_0), (intA a1_1)], 60⟩) :: (0, some ⟨[(intA a0_0), (intA a0_1)], 60⟩) :: []) 33 [(AV.agg [(intA a0_0), (intA a0_1)])] fun v8 =>
ex_i64 v8 fun z9 =>
bif (z9 != (0)) then (
opP (bld [(intA (0)), (intA (0))] [(0, 1), (1, 1)] []) fun v10 =>
callQ Tryz.prog KK.gl ((2, some ⟨[(intA (0)), (intA (0))], 60⟩) :: (1, some ⟨[(intA a1_0), (intA a1_1)], 60⟩) :: (0, some ⟨[(intA a0_0), (intA a0_1)], 60⟩) :: []) 33 [(AV.agg [(intA a0_0), (intA a0_1)])] fun v11 =>
ex_i64 v11 fun z12 =>
storeW Tryz.prog (mget ((2, some ⟨[(intA (0)), (intA (0))], 60⟩) :: (1, some ⟨[(intA a1_0), (intA a1_1)], 60⟩) :: (0, some ⟨[(intA a0_0), (intA a0_1)], 60⟩) :: [])) 60 (AV.ptr 2 0) v10 fun v13 d13 =>
retL R (mpushs ((2, some ⟨[(intA (0)), (intA (0))], 60⟩) :: (1, some ⟨[(intA a1_0), (intA a1_1)], 60⟩) :: (0, some ⟨[(intA a0_0), (intA a0_1)], 60⟩) :: []) d13) [(aLoad Tryz.prog (mget (mpushs ((2, some ⟨[(intA (0)), (intA (0))], 60⟩) :: (1, some ⟨[(intA a1_0), (intA a1_1)], 60⟩) :: (0, some ⟨[(intA a0_0), (intA a0_1)], 60⟩) :: []) d13)) 60 (AV.ptr 2 0)).map (·.1), some (intA z12)]) else (
callQ Tryz.prog KK.gl ((2, some ⟨[(intA (0)), (intA (0))], 60⟩) :: (1, some ⟨[(intA a1_0), (intA a1_1)], 60⟩) :: (0, some ⟨[(intA a0_0), (intA a0_1)], 60⟩) :: []) 33 [(AV.agg [(intA a1_0), (intA a1_1)])] fun v14 =>
ex_i64 v14 fun z15 =>
bif (z15 != (0)) then (
opP (bld [(intA (0)), (intA (0))] [(0, 1), (1, 1)] []) fun v16 =>
callQ Tryz.prog KK.gl ((2, some ⟨[(intA (0)), (intA (0))], 60⟩) :: (1, some ⟨[(intA a1_0), (intA a1_1)], 60⟩) :: (0, some ⟨[(intA a0_0), (intA a0_1)], 60⟩) :: []) 33 [(AV.agg [(intA a1_0), (intA a1_1)])] fun v17 =>
ex_i64 v17 fun z18 =>
storeW Tryz.prog (mget ((2, some ⟨[(intA (0)), (intA (0))], 60⟩) :: (1, some ⟨[(intA a1_0), (intA a1_1)], 60⟩) :: (0, some ⟨[(intA a0_0), (intA a0_1)], 60⟩) :: [])) 60 (AV.ptr 2 0) v16 fun v19 d19 =>
retL R (mpushs ((2, some ⟨[(intA (0)), (intA (0))], 60⟩) :: (1, some ⟨[(intA a1_0), (intA a1_1)], 60⟩) :: (0, some ⟨[(intA a0_0), (intA a0_1)], 60⟩) :: []) d19) [(aLoad Tryz.prog (mget (mpushs ((2, some ⟨[(intA (0)), (intA (0))], 60⟩) :: (1, some ⟨[(intA a1_0), (intA a1_1)], 60⟩) :: (0, some ⟨[(intA a0_0), (intA a0_1)], 60⟩) :: []) d19)) 60 (AV.ptr 2 0)).map (·.1), some (intA z18)]) else (
callQ Tryz.prog KK.gl ((2, some ⟨[(intA (0)), (intA (0))], 60⟩) :: (1, some ⟨[(intA a1_0), (intA a1_1)], 60⟩) :: (0, some ⟨[(intA a0_0), (intA a0_1)], 60⟩) :: []) 79 [(intA (IntKind.wrap .i64 ((IntKind.wrap .i64 (a1_0 - a0_0)) * a2))), (intA a3)] fun v20 =>
exT2 v20 fun c21 c22 =>
ex_i64 c21 fun z23 =>
ex_i64 c22 fun z24 =>
callQ Tryz.prog KK.gl ((2, some ⟨[(intA (0)), (intA (0))], 60⟩) :: (1, some ⟨[(intA a1_0), (intA a1_1)], 60⟩) :: (0, some ⟨[(intA a0_0), (intA a0_1)], 60⟩) :: []) 79 [(intA (IntKind.wrap .i64 ((IntKind.wrap .i64 (a1_1 - a0_1)) * a2))), (intA a3)] fun v25 =>
exT2 v25 fun c26 c27 =>
ex_i64 c26 fun z28 =>
ex_i64 c27 fun z29 =>
opP (bld [(intA (0)), (intA (0))] [(0, 1), (1, 1)] [(0, (intA (IntKind.wrap .i64 (a0_0 + z23)))), (1, (intA (IntKind.wrap .i64 (a0_1 + z28))))]) fun v30 =>
storeW Tryz.prog (mget ((2, some ⟨[(intA (0)), (intA (0))], 60⟩) :: (1, some ⟨[(intA a1_0), (intA a1_1)], 60⟩) :: (0, some ⟨[(intA a0_0), (intA a0_1)], 60⟩) :: [])) 60 (AV.ptr 2 0) v30 fun v31 d31 =>
retL R (mpushs ((2, some ⟨[(intA (0)), (intA (0))], 60⟩) :: (1, some ⟨[(intA a1_0), (intA a1_1)], 60⟩) :: (0, some ⟨[(intA a0_0), (intA a0_1)], 60⟩) :: []) d31) [(aLoad Tryz.prog (mget (mpushs ((2, some ⟨[(intA (0)), (intA (0))], 60⟩) :: (1, some ⟨[(intA a1_0), (intA a1_1)], 60⟩) :: (0, some ⟨[(intA a0_0), (intA a0_1)], 60⟩) :: []) d31)) 60 (AV.ptr 2 0)).map (·.1), some (intA (0))]))))))
theorem F78_own (a0_0 : Int) (a0_1 : Int) (a1_0 : Int) (a1_1 : Int) (a2 : Int) (a3 : Int) (R : AV → Mem → Prop) (h : F78 a0_0 a0_1 a1_0 a1_1 a2 a3 R) : Own Tryz.prog KK.gl 78 [(AV.agg [(intA a0_0), (intA a0_1)]), (AV.agg [(intA a1_0), (intA a1_1)]), (intA a2), (intA a3)] R := own_of_F fol Tryz.func78 (code := c78) (by kernel_rfl) (by kernel_rfl) (by kernel_rfl) (X := F78 a0_0 a0_1 a1_0 a1_1 a2 a3 R) (by kernel_rfl) h
/- skyway/num.DivUp -/
noncomputable def c80 : Code := ((Tryz.f80).body).getD .skip
noncomputable def q80 (R : AV → Mem → Prop) : AExit → St → Prop := retQ Tryz.prog Tryz.f80 R
noncomputable def F80 (a0 : Int) (a1 : Int) (R : AV → Mem → Prop) : Prop :=
callQ Tryz.prog KK.gl [] 79 [(intA a0), (intA a1)] fun v0 =>
exT2 v0 fun c1 c2 =>
ex_i64 c1 fun z3 =>
ex_i64 c2 fun z4 =>
bif (z4 == (0)) then (
opP (opA Tryz.prog (.binOp .rem 3 (.tmp 0) (.tmp 1) 3) 3 [(intA a0), (intA a1)] (mget []) 78) fun v5 =>
ex_i64 v5 fun z6 =>
bif (z6 != (0)) then (
retL R [] [some (intA (IntKind.wrap .i64 (z3 + (1)))), some (intA z4)]) else (
retL R [] [some (intA z3), some (intA z4)])) else (
retL R [] [some (intA z3), some (intA z4)])
theorem F80_own (a0 : Int) (a1 : Int) (R : AV → Mem → Prop) (h : F80 a0 a1 R) : Own Tryz.prog KK.gl 80 [(intA a0), (intA a1)] R := own_of_F fol Tryz.func80 (code := c80) (by kernel_rfl) (by kernel_rfl) (by kernel_rfl) (X := F80 a0 a1 R) (by kernel_rfl) h
/- skyway/tube.at -/
noncomputable def c52 : Code := ((Tryz.f52).body).getD .skip
noncomputable def q52 (R : AV → Mem → Prop) : AExit → St → Prop := retQ Tryz.prog Tryz.f52 R
noncomputable def F52 (a0 : AV) (a1 : Int) (R : AV → Mem → Prop) : Prop :=
callW Tryz.prog KK.gl ((0, some ⟨[(intA (0)), (intA (0)), (intA (0)), (intA (0)), (intA (0)), (intA (0))], 64⟩) :: []) 3 76 [a0, (intA a1), (AV.fn 77 [])] fun v0 m0 =>
exT2 v0 fun c1 c2 =>
ex_i64 c1 fun z3 =>
exB c2 fun b4 =>
bif b4 then (
opP (idxS 6 a0 (intA z3)) fun v5 =>
opP (ldA (mget m0) 6 v5) fun v6 =>
exA6 v6 fun c7 c8 c9 c10 c11 c12 =>
ex_i64 c7 fun z13 =>
ex_i64 c8 fun z14 =>
ex_i64 c9 fun z15 =>
ex_i64 c10 fun z16 =>
ex_i64 c11 fun z17 =>
ex_i64 c12 fun z18 =>
storeW Tryz.prog (mget m0) 64 (AV.ptr 0 0) (AV.agg [(intA z13), (intA z14), (intA z15), (intA z16), (intA z17), (intA z18)]) fun v19 d19 =>
retL R (mpushs m0 d19) [(aLoad Tryz.prog (mget (mpushs m0 d19)) 64 (AV.ptr 0 0)).map (·.1)]) else (
opM (idxS 6 a0 (intA (IntKind.wrap .i64 (z3 - (1))))) fun v20 d20 =>
opM (ldA (look' (mpushs m0 d20) (topId v20 ++ ([]))) 6 v20) fun v21 d21 =>
exA6 v21 fun c22 c23 c24 c25 c26 c27 =>
ex_i64 c22 fun z28 =>
ex_i64 c23 fun z29 =>
ex_i64 c24 fun z30 =>
ex_i64 c25 fun z31 =>
ex_i64 c26 fun z32 =>
ex_i64 c27 fun z33 =>
opM (idxS 6 a0 (intA z3)) fun v34 d34 =>
opM (ldA (look' (mpushs (mpushs (mpushs m0 d20) d21) d34) (topId v34 ++ ([]))) 6 v34) fun v35 d35 =>
exA6 v35 fun c36 c37 c38 c39 c40 c41 =>
ex_i64 c36 fun z42 =>
ex_i64 c37 fun z43 =>
ex_i64 c38 fun z44 =>
ex_i64 c39 fun z45 =>
ex_i64 c40 fun z46 =>
ex_i64 c41 fun z47 =>
storeW Tryz.prog (look' ((83, some ⟨[(intA (0)), (intA (0)), (intA (0)), (intA (0)), (intA (0)), (intA (0))], 64⟩) :: (82, some ⟨[(intA (0)), (intA (0)), (intA (0)), (intA (0)), (intA (0)), (intA (0))], 64⟩) :: (mpushs (mpushs (mpushs (mpushs m0 d20) d21) d34) d35)) (topId (AV.ptr 82 0) ++ (topId (AV.agg [(intA z28), (intA z29), (intA z30), (intA z31), (intA z32), (intA z33)]) ++ ([])))) 64 (AV.ptr 82 0) (AV.agg [(intA z28), (intA z29), (intA z30), (intA z31), (intA z32), (intA z33)]) fun v48 d48 =>
storeW Tryz.prog (look' (mpushs ((83, some ⟨[(intA (0)), (intA (0)), (intA (0)), (intA (0)), (intA (0)), (intA (0))], 64⟩) :: (82, some ⟨[(intA (0)), (intA (0)), (intA (0)), (intA (0)), (intA (0)), (intA (0))], 64⟩) :: (mpushs (mpushs (mpushs (mpushs m0 d20) d21) d34) d35)) d48) (topId (AV.ptr 83 0) ++ (topId (AV.agg [(intA z42), (intA z43), (intA z44), (intA z45), (intA z46), (intA z47)]) ++ ([])))) 64 (AV.ptr 83 0) (AV.agg [(intA z42), (intA z43), (intA z44), (intA z45), (intA z46), (intA z47)]) fun v49 d49 =>
chk (confOk [0, 0, 2, 7, 15, 0, 0, 96, 224, 0, 0, 1567, 4095] [⟨[], []⟩, ⟨[], []⟩, ⟨[], []⟩, ⟨d20, []⟩, ⟨d21, (topId v20 ++ ([]))⟩, ⟨[], []⟩, ⟨[], []⟩, ⟨d34, []⟩, ⟨d35, (topId v34 ++ ([]))⟩, ⟨[(82, some ⟨[(intA (0)), (intA (0)), (intA (0)), (intA (0)), (intA (0)), (intA (0))], 64⟩)], []⟩, ⟨[(83, some ⟨[(intA (0)), (intA (0)), (intA (0)), (intA (0)), (intA (0)), (intA (0))], 64⟩)], []⟩, ⟨d48, (topId (AV.ptr 82 0) ++ (topId (AV.agg [(intA z28), (intA z29), (intA z30), (intA z31), (intA z32), (intA z33)]) ++ ([])))⟩, ⟨d49, (topId (AV.ptr 83 0) ++ (topId (AV.agg [(intA z42), (intA z43), (intA z44), (intA z45), (intA z46), (intA z47)]) ++ ([])))⟩]) (opP (ldS (mget (mpushs (mpushs ((83, some ⟨[(intA (0)), (intA (0)), (intA (0)), (intA (0)), (intA (0)), (intA (0))], 64⟩) :: (82, some ⟨[(intA (0)), (intA (0)), (intA (0)), (intA (0)), (intA (0)), (intA (0))], 64⟩) :: (mpushs (mpushs (mpushs (mpushs m0 d20) d21) d34) d35)) d48) d49)) (AV.ptr 82 0)) fun v50 =>
ex_i64 v50 fun z51 =>
opP (ldS (mget (mpushs (mpushs ((83, some ⟨[(intA (0)), (intA (0)), (intA (0)), (intA (0)), (intA (0)), (intA (0))], 64⟩) :: (82, some ⟨[(intA (0)), (intA (0)), (intA (0)), (intA (0)), (intA (0)), (intA (0))], 64⟩) :: (mpushs (mpushs (mpushs (mpushs m0 d20) d21) d34) d35)) d48) d49)) (AV.ptr 83 0)) fun v52 =>
ex_i64 v52 fun z53 =>
opP (ldS (mget (mpushs (mpushs ((83, some ⟨[(intA (0)), (intA (0)), (intA (0)), (intA (0)), (intA (0)), (intA (0))], 64⟩) :: (82, some ⟨[(intA (0)), (intA (0)), (intA (0)), (intA (0)), (intA (0)), (intA (0))], 64⟩) :: (mpushs (mpushs (mpushs (mpushs m0 d20) d21) d34) d35)) d48) d49)) (AV.ptr 82 0)) fun v54 =>
ex_i64 v54 fun z55 =>
opP (ldA (mget (mpushs (mpushs ((83, some ⟨[(intA (0)), (intA (0)), (intA (0)), (intA (0)), (intA (0)), (intA (0))], 64⟩) :: (82, some ⟨[(intA (0)), (intA (0)), (intA (0)), (intA (0)), (intA (0)), (intA (0))], 64⟩) :: (mpushs (mpushs (mpushs (mpushs m0 d20) d21) d34) d35)) d48) d49)) 2 (AV.ptr 82 1)) fun v56 =>
exA2 v56 fun c57 c58 =>
ex_i64 c57 fun z59 =>
ex_i64 c58 fun z60 =>
opP (ldA (mget (mpushs (mpushs ((83, some ⟨[(intA (0)), (intA (0)), (intA (0)), (intA (0)), (intA (0)), (intA (0))], 64⟩) :: (82, some ⟨[(intA (0)), (intA (0)), (intA (0)), (intA (0)), (intA (0)), (intA (0))], 64⟩) :: (mpushs (mpushs (mpushs (mpushs m0 d20) d21) d34) d35)) d48) d49)) 2 (AV.ptr 83 1)) fun v61 =>
exA2 v61 fun c62 c63 =>
ex_i64 c62 fun z64 =>
ex_i64 c63 fun z65 =>
callQ Tryz.prog KK.gl (mpushs (mpushs ((83, some ⟨[(intA (0)), (intA (0)), (intA (0)), (intA (0)), (intA (0)), (intA (0))], 64⟩) :: (82, some ⟨[(intA (0)), (intA (0)), (intA (0)), (intA (0)), (intA (0)), (intA (0))], 64⟩) :: (mpushs (mpushs (mpushs (mpushs m0 d20) d21) d34) d35)) d48) d49) 78 [(AV.agg [(intA z59), (intA z60)]), (AV.agg [(intA z64), (intA z65)]), (intA (IntKind.wrap .i64 (a1 - z51))), (intA (IntKind.wrap .i64 (z53 - z55)))] fun v66 =>
exT2 v66 fun c67 c68 =>
exA2 c67 fun c69 c70 =>
ex_i64 c69 fun z71 =>
ex_i64 c70 fun z72 =>
ex_i64 c68 fun z73 =>
opP (ldS (mget ((175, some ⟨[(intA z71), (intA z72)], 60⟩) :: (175, some ⟨[(intA (0)), (intA (0))], 60⟩) :: (mpushs (mpushs ((83, some ⟨[(intA (0)), (intA (0)), (intA (0)), (intA (0)), (intA (0)), (intA (0))], 64⟩) :: (82, some ⟨[(intA (0)), (intA (0)), (intA (0)), (intA (0)), (intA (0)), (intA (0))], 64⟩) :: (mpushs (mpushs (mpushs (mpushs m0 d20) d21) d34) d35)) d48) d49))) (AV.ptr 83 3)) fun v74 =>
ex_i64 v74 fun z75 =>
opP (ldS (mget ((175, some ⟨[(intA z71), (intA z72)], 60⟩) :: (175, some ⟨[(intA (0)), (intA (0))], 60⟩) :: (mpushs (mpushs ((83, some ⟨[(intA (0)), (intA (0)), (intA (0)), (intA (0)), (intA (0)), (intA (0))], 64⟩) :: (82, some ⟨[(intA (0)), (intA (0)), (intA (0)), (intA (0)), (intA (0)), (intA (0))], 64⟩) :: (mpushs (mpushs (mpushs (mpushs m0 d20) d21) d34) d35)) d48) d49))) (AV.ptr 82 3)) fun v76 =>
ex_i64 v76 fun z77 =>
callQ Tryz.prog KK.gl ((175, some ⟨[(intA z71), (intA z72)], 60⟩) :: (175, some ⟨[(intA (0)), (intA (0))], 60⟩) :: (mpushs (mpushs ((83, some ⟨[(intA (0)), (intA (0)), (intA (0)), (intA (0)), (intA (0)), (intA (0))], 64⟩) :: (82, some ⟨[(intA (0)), (intA (0)), (intA (0)), (intA (0)), (intA (0)), (intA (0))], 64⟩) :: (mpushs (mpushs (mpushs (mpushs m0 d20) d21) d34) d35)) d48) d49)) 79 [(intA (IntKind.wrap .i64 ((IntKind.wrap .i64 (z75 - z77)) * (IntKind.wrap .i64 (a1 - z51))))), (intA (IntKind.wrap .i64 (z53 - z55)))] fun v78 =>
exT2 v78 fun c79 c80 =>
ex_i64 c79 fun z81 =>
ex_i64 c80 fun z82 =>
opP (ldS (mget ((175, some ⟨[(intA z71), (intA z72)], 60⟩) :: (175, some ⟨[(intA (0)), (intA (0))], 60⟩) :: (mpushs (mpushs ((83, some ⟨[(intA (0)), (intA (0)), (intA (0)), (intA (0)), (intA (0)), (intA (0))], 64⟩) :: (82, some ⟨[(intA (0)), (intA (0)), (intA (0)), (intA (0)), (intA (0)), (intA (0))], 64⟩) :: (mpushs (mpushs (mpushs (mpushs m0 d20) d21) d34) d35)) d48) d49))) (AV.ptr 83 4)) fun v83 =>
ex_i64 v83 fun z84 =>
opP (ldS (mget ((175, some ⟨[(intA z71), (intA z72)], 60⟩) :: (175, some ⟨[(intA (0)), (intA (0))], 60⟩) :: (mpushs (mpushs ((83, some ⟨[(intA (0)), (intA (0)), (intA (0)), (intA (0)), (intA (0)), (intA (0))], 64⟩) :: (82, some ⟨[(intA (0)), (intA (0)), (intA (0)), (intA (0)), (intA (0)), (intA (0))], 64⟩) :: (mpushs (mpushs (mpushs (mpushs m0 d20) d21) d34) d35)) d48) d49))) (AV.ptr 82 4)) fun v85 =>
ex_i64 v85 fun z86 =>
callQ Tryz.prog KK.gl ((175, some ⟨[(intA z71), (intA z72)], 60⟩) :: (175, some ⟨[(intA (0)), (intA (0))], 60⟩) :: (mpushs (mpushs ((83, some ⟨[(intA (0)), (intA (0)), (intA (0)), (intA (0)), (intA (0)), (intA (0))], 64⟩) :: (82, some ⟨[(intA (0)), (intA (0)), (intA (0)), (intA (0)), (intA (0)), (intA (0))], 64⟩) :: (mpushs (mpushs (mpushs (mpushs m0 d20) d21) d34) d35)) d48) d49)) 80 [(intA (IntKind.wrap .i64 ((IntKind.wrap .i64 (z84 - z86)) * (IntKind.wrap .i64 (a1 - z51))))), (intA (IntKind.wrap .i64 (z53 - z55)))] fun v87 =>
exT2 v87 fun c88 c89 =>
ex_i64 c88 fun z90 =>
ex_i64 c89 fun z91 =>
opP (ldS (mget ((175, some ⟨[(intA z71), (intA z72)], 60⟩) :: (175, some ⟨[(intA (0)), (intA (0))], 60⟩) :: (mpushs (mpushs ((83, some ⟨[(intA (0)), (intA (0)), (intA (0)), (intA (0)), (intA (0)), (intA (0))], 64⟩) :: (82, some ⟨[(intA (0)), (intA (0)), (intA (0)), (intA (0)), (intA (0)), (intA (0))], 64⟩) :: (mpushs (mpushs (mpushs (mpushs m0 d20) d21) d34) d35)) d48) d49))) (AV.ptr 83 5)) fun v92 =>
ex_i64 v92 fun z93 =>
opP (ldS (mget ((175, some ⟨[(intA z71), (intA z72)], 60⟩) :: (175, some ⟨[(intA (0)), (intA (0))], 60⟩) :: (mpushs (mpushs ((83, some ⟨[(intA (0)), (intA (0)), (intA (0)), (intA (0)), (intA (0)), (intA (0))], 64⟩) :: (82, some ⟨[(intA (0)), (intA (0)), (intA (0)), (intA (0)), (intA (0)), (intA (0))], 64⟩) :: (mpushs (mpushs (mpushs (mpushs m0 d20) d21) d34) d35)) d48) d49))) (AV.ptr 82 5)) fun v94 =>
ex_i64 v94 fun z95 =>
callQ Tryz.prog KK.gl ((175, some ⟨[(intA z71), (intA z72)], 60⟩) :: (175, some ⟨[(intA (0)), (intA (0))], 60⟩) :: (mpushs (mpushs ((83, some ⟨[(intA (0)), (intA (0)), (intA (0)), (intA (0)), (intA (0)), (intA (0))], 64⟩) :: (82, some ⟨[(intA (0)), (intA (0)), (intA (0)), (intA (0)), (intA (0)), (intA (0))], 64⟩) :: (mpushs (mpushs (mpushs (mpushs m0 d20) d21) d34) d35)) d48) d49)) 80 [(intA (IntKind.wrap .i64 ((IntKind.wrap .i64 (z93 - z95)) * (IntKind.wrap .i64 (a1 - z51))))), (intA (IntKind.wrap .i64 (z53 - z55)))] fun v96 =>
exT2 v96 fun c97 c98 =>
ex_i64 c97 fun z99 =>
ex_i64 c98 fun z100 =>
opP (ldS (mget ((175, some ⟨[(intA z71), (intA z72)], 60⟩) :: (175, some ⟨[(intA (0)), (intA (0))], 60⟩) :: (mpushs (mpushs ((83, some ⟨[(intA (0)), (intA (0)), (intA (0)), (intA (0)), (intA (0)), (intA (0))], 64⟩) :: (82, some ⟨[(intA (0)), (intA (0)), (intA (0)), (intA (0)), (intA (0)), (intA (0))], 64⟩) :: (mpushs (mpushs (mpushs (mpushs m0 d20) d21) d34) d35)) d48) d49))) (AV.ptr 82 3)) fun v101 =>
ex_i64 v101 fun z102 =>
opP (bld [(intA (0)), (intA (0)), (intA (0)), (intA (0))] [(0, 1), (1, 2), (3, 1)] [(0, (intA a1)), (1, (AV.agg [(intA z71), (intA z72)])), (2, (intA (IntKind.wrap .i64 (z102 + z81))))]) fun v103 =>
opP (ldS (mget ((175, some ⟨[(intA z71), (intA z72)], 60⟩) :: (175, some ⟨[(intA (0)), (intA (0))], 60⟩) :: (mpushs (mpushs ((83, some ⟨[(intA (0)), (intA (0)), (intA (0)), (intA (0)), (intA (0)), (intA (0))], 64⟩) :: (82, some ⟨[(intA (0)), (intA (0)), (intA (0)), (intA (0)), (intA (0)), (intA (0))], 64⟩) :: (mpushs (mpushs (mpushs (mpushs m0 d20) d21) d34) d35)) d48) d49))) (AV.ptr 82 4)) fun v104 =>
ex_i64 v104 fun z105 =>
opP (ldS (mget ((175, some ⟨[(intA z71), (intA z72)], 60⟩) :: (175, some ⟨[(intA (0)), (intA (0))], 60⟩) :: (mpushs (mpushs ((83, some ⟨[(intA (0)), (intA (0)), (intA (0)), (intA (0)), (intA (0)), (intA (0))], 64⟩) :: (82, some ⟨[(intA (0)), (intA (0)), (intA (0)), (intA (0)), (intA (0)), (intA (0))], 64⟩) :: (mpushs (mpushs (mpushs (mpushs m0 d20) d21) d34) d35)) d48) d49))) (AV.ptr 82 5)) fun v106 =>
ex_i64 v106 fun z107 =>
opP (bld [(intA (0)), (intA (0)), (intA (0)), (intA (0)), (intA (0)), (intA (0))] [(0, 4), (4, 1), (5, 1)] [(0, v103), (1, (intA (IntKind.wrap .i64 (z105 + z90)))), (2, (intA (IntKind.wrap .i64 (z107 + z99))))]) fun v108 =>
storeW Tryz.prog (mget ((175, some ⟨[(intA z71), (intA z72)], 60⟩) :: (175, some ⟨[(intA (0)), (intA (0))], 60⟩) :: (mpushs (mpushs ((83, some ⟨[(intA (0)), (intA (0)), (intA (0)), (intA (0)), (intA (0)), (intA (0))], 64⟩) :: (82, some ⟨[(intA (0)), (intA (0)), (intA (0)), (intA (0)), (intA (0)), (intA (0))], 64⟩) :: (mpushs (mpushs (mpushs (mpushs m0 d20) d21) d34) d35)) d48) d49))) 64 (AV.ptr 0 0) v108 fun v109 d109 =>
retL R (mpushs ((175, some ⟨[(intA z71), (intA z72)], 60⟩) :: (175, some ⟨[(intA (0)), (intA (0))], 60⟩) :: (mpushs (mpushs ((83, some ⟨[(intA (0)), (intA (0)), (intA (0)), (intA (0)), (intA (0)), (intA (0))], 64⟩) :: (82, some ⟨[(intA (0)), (intA (0)), (intA (0)), (intA (0)), (intA (0)), (intA (0))], 64⟩) :: (mpushs (mpushs (mpushs (mpushs m0 d20) d21) d34) d35)) d48) d49)) d109) [(aLoad Tryz.prog (mget (mpushs ((175, some ⟨[(intA z71), (intA z72)], 60⟩) :: (175, some ⟨[(intA (0)), (intA (0))], 60⟩) :: (mpushs (mpushs ((83, some ⟨[(intA (0)), (intA (0)), (intA (0)), (intA (0)), (intA (0)), (intA (0))], 64⟩) :: (82, some ⟨[(intA (0)), (intA (0)), (intA (0)), (intA (0)), (intA (0)), (intA (0))], 64⟩) :: (mpushs (mpushs (mpushs (mpushs m0 d20) d21) d34) d35)) d48) d49)) d109)) 64 (AV.ptr 0 0)).map (·.1)]))
theorem F52_own (a0 : AV) (a1 : Int) (R : AV → Mem → Prop) (h : F52 a0 a1 R) : Own Tryz.prog KK.gl 52 [a0, (intA a1)] R := own_of_F fol Tryz.func52 (code := c52) (by kernel_rfl) (by kernel_rfl) (by kernel_rfl) (X := F52 a0 a1 R) (by kernel_rfl) h
/- skyway/tube.At -/
noncomputable def c42 : Code := ((Tryz.f42).body).getD .skip
noncomputable def q42 (R : AV → Mem → Prop) : AExit → St → Prop := retQ Tryz.prog Tryz.f42 R
noncomputable def F42 (a0 : AV) (a1 : Int) (R : AV → Mem → Prop) : Prop :=
callQ Tryz.prog KK.gl ((0, some ⟨[(intA (0)), (intA (0)), (intA (0)), (intA (0)), (intA (0)), (intA (0))], 64⟩) :: []) 21 [a0] fun v0 =>
ex_i64 v0 fun z1 =>
bif (z1 != (0)) then (
opP (bld [(intA (0)), (intA (0)), (intA (0)), (intA (0)), (intA (0)), (intA (0))] [(0, 4), (4, 1), (5, 1)] []) fun v2 =>
storeW Tryz.prog (mget ((0, some ⟨[(intA (0)), (intA (0)), (intA (0)), (intA (0)), (intA (0)), (intA (0))], 64⟩) :: [])) 64 (AV.ptr 0 0) v2 fun v3 d3 =>
retL R (mpushs ((0, some ⟨[(intA (0)), (intA (0)), (intA (0)), (intA (0)), (intA (0)), (intA (0))], 64⟩) :: []) d3) [(aLoad Tryz.prog (mget (mpushs ((0, some ⟨[(intA (0)), (intA (0)), (intA (0)), (intA (0)), (intA (0)), (intA (0))], 64⟩) :: []) d3)) 64 (AV.ptr 0 0)).map (·.1), some (intA z1)]) else (
callQ Tryz.prog KK.gl ((0, some ⟨[(intA (0)), (intA (0)), (intA (0)), (intA (0)), (intA (0)), (intA (0))], 64⟩) :: []) 51 [a0] fun v4 =>
exT2 v4 fun c5 c6 =>
ex_i64 c5 fun z7 =>
ex_i64 c6 fun z8 =>
bif (decide (a1 < z7)) then (
opP (bld [(intA (0)), (intA (0)), (intA (0)), (intA (0)), (intA (0)), (intA (0))] [(0, 4), (4, 1), (5, 1)] []) fun v9 =>
storeW Tryz.prog (mget ((0, some ⟨[(intA (0)), (intA (0)), (intA (0)), (intA (0)), (intA (0)), (intA (0))], 64⟩) :: [])) 64 (AV.ptr 0 0) v9 fun v10 d10 =>
retL R (mpushs ((0, some ⟨[(intA (0)), (intA (0)), (intA (0)), (intA (0)), (intA (0)), (intA (0))], 64⟩) :: []) d10) [(aLoad Tryz.prog (mget (mpushs ((0, some ⟨[(intA (0)), (intA (0)), (intA (0)), (intA (0)), (intA (0)), (intA (0))], 64⟩) :: []) d10)) 64 (AV.ptr 0 0)).map (·.1), some (intA (12))]) else (
bif (decide (a1 > z8)) then (
opP (bld [(intA (0)), (intA (0)), (intA (0)), (intA (0)), (intA (0)), (intA (0))] [(0, 4), (4, 1), (5, 1)] []) fun v11 =>
storeW Tryz.prog (mget ((0, some ⟨[(intA (0)), (intA (0)), (intA (0)), (intA (0)), (intA (0)), (intA (0))], 64⟩) :: [])) 64 (AV.ptr 0 0) v11 fun v12 d12 =>
retL R (mpushs ((0, some ⟨[(intA (0)), (intA (0)), (intA (0)), (intA (0)), (intA (0)), (intA (0))], 64⟩) :: []) d12) [(aLoad Tryz.prog (mget (mpushs ((0, some ⟨[(intA (0)), (intA (0)), (intA (0)), (intA (0)), (intA (0)), (intA (0))], 64⟩) :: []) d12)) 64 (AV.ptr 0 0)).map (·.1), some (intA (12))]) else (
callQ Tryz.prog KK.gl ((0, some ⟨[(intA (0)), (intA (0)), (intA (0)), (intA (0)), (intA (0)), (intA (0))], 64⟩) :: []) 52 [a0, (intA a1)] fun v13 =>
exA6 v13 fun c14 c15 c16 c17 c18 c19 =>
ex_i64 c14 fun z20 =>
ex_i64 c15 fun z21 =>
ex_i64 c16 fun z22 =>
ex_i64 c17 fun z23 =>
ex_i64 c18 fun z24 =>
ex_i64 c19 fun z25 =>
retL R ((0, some ⟨[(intA z20), (intA z21), (intA z22), (intA z23), (intA z24), (intA z25)], 64⟩) :: (0, some ⟨[(intA (0)), (intA (0)), (intA (0)), (intA (0)), (intA (0)), (intA (0))], 64⟩) :: []) [some (AV.agg [(intA z20), (intA z21), (intA z22), (intA z23), (intA z24), (intA z25)]), some (intA (0))])))
theorem F42_own (a0 : AV) (a1 : Int) (R : AV → Mem → Prop) (h : F42 a0 a1 R) : Own Tryz.prog KK.gl 42 [a0, (intA a1)] R := own_of_F fol Tryz.func42 (code := c42) (by kernel_rfl) (by kernel_rfl) (by kernel_rfl) (X := F42 a0 a1 R) (by kernel_rfl) h
/- skyway/polygon.next -/
noncomputable def c70 : Code := ((Tryz.f70).body).getD .skip
noncomputable def q70 (R : AV → Mem → Prop) : AExit → St → Prop := retQ Tryz.prog Tryz.f70 R
noncomputable def F70 (a0 : AV) (a1 : Int) (R : AV → Mem → Prop) : Prop :=
opP (lenS a0) fun v0 =>
ex_i64 v0 fun z1 =>
opP (opA Tryz.prog (.binOp .rem 3 (.tmp 0) (.tmp 1) 3) 3 [(intA (IntKind.wrap .i64 (a1 + (1)))), (intA z1)] (mget ((0, some ⟨[(intA (0)), (intA (0))], 60⟩) :: [])) 6) fun v2 =>
ex_i64 v2 fun z3 =>
opP (idxS 2 a0 (intA z3)) fun v4 =>
opP (ldA (mget ((0, some ⟨[(intA (0)), (intA (0))], 60⟩) :: [])) 2 v4) fun v5 =>
exA2 v5 fun c6 c7 =>
ex_i64 c6 fun z8 =>
ex_i64 c7 fun z9 =>
retL R ((0, some ⟨[(intA z8), (intA z9)], 60⟩) :: (0, some ⟨[(intA (0)), (intA (0))], 60⟩) :: []) [some (AV.agg [(intA z8), (intA z9)])]
theorem F70_own (a0 : AV) (a1 : Int) (R : AV → Mem → Prop) (h : F70 a0 a1 R) : Own Tryz.prog KK.gl 70 [a0, (intA a1)] R := own_of_F fol Tryz.func70 (code := c70) (by kernel_rfl) (by kernel_rfl) (by kernel_rfl) (X := F70 a0 a1 R) (by kernel_rfl) h
/- skyway/plane.Sub -/
noncomputable def c89 : Code := ((Tryz.f89).body).getD .skip
noncomputable def q89 (R : AV → Mem → Prop) : AExit → St → Prop := retQ Tryz.prog Tryz.f89 R
noncomputable def F89 (a0_0 : Int) (a0_1 : Int) (a1_0 : Int) (a1_1 : Int) (R : AV → Mem → Prop) : Prop :=
opP (bld [(intA (0)), (intA (0))] [(0, 1), (1, 1)] [(0, (intA (IntKind.wrap .i64 (a0_0 - a1_0)))), (1, (intA (IntKind.wrap .i64 (a0_1 - a1_1))))]) fun v0 =>
storeW Tryz.prog (mget ((2, some ⟨[(intA (0)), (intA (0))], 60⟩) :: (1, some ⟨[(intA a1_0), (intA a1_1)], 60⟩) :: (0, some ⟨[(intA a0_0), (intA a0_1)], 60⟩) :: [])) 60 (AV.ptr 2 0) v0 fun v1 d1 =>
retL R (mpushs ((2, some ⟨[(intA (0)), (intA (0))], 60⟩) :: (1, some ⟨[(intA a1_0), (intA a1_1)], 60⟩) :: (0, some ⟨[(intA a0_0), (intA a0_1)], 60⟩) :: []) d1) [(aLoad Tryz.prog (mget (mpushs ((2, some ⟨[(intA (0)), (intA (0))], 60⟩) :: (1, some ⟨[(intA a1_0), (intA a1_1)], 60⟩) :: (0, some ⟨[(intA a0_0), (intA a0_1)], 60⟩) :: []) d1)) 60 (AV.ptr 2 0)).map (·.1)]
theorem F89_own (a0_0 : Int) (a0_1 : Int) (a1_0 : Int) (a1_1 : Int) (R : AV → Mem → Prop) (h : F89 a0_0 a0_1 a1_0 a1_1 R) : Own Tryz.prog KK.gl 89 [(AV.agg [(intA a0_0), (intA a0_1)]), (AV.agg [(intA a1_0), (intA a1_1)])] R := own_of_F fol Tryz.func89 (code := c89) (by kernel_rfl) (by kernel_rfl) (by kernel_rfl) (X := F89 a0_0 a0_1 a1_0 a1_1 R) (by kernel_rfl) h
/- skyway/plane.Cross -/
noncomputable def c88 : Code := ((Tryz.f88).body).getD .skip
noncomputable def q88 (R : AV → Mem → Prop) : AExit → St → Prop := retQ Tryz.prog Tryz.f88 R
noncomputable def F88 (a0_0 : Int) (a0_1 : Int) (a1_0 : Int) (a1_1 : Int) (R : AV → Mem → Prop) : Prop :=
retL R ((1, some ⟨[(intA a1_0), (intA a1_1)], 60⟩) :: (0, some ⟨[(intA a0_0), (intA a0_1)], 60⟩) :: []) [some (intA (IntKind.wrap .i64 ((IntKind.wrap .i64 (a0_0 * a1_1)) - (IntKind.wrap .i64 (a0_1 * a1_0)))))]
theorem F88_own (a0_0 : Int) (a0_1 : Int) (a1_0 : Int) (a1_1 : Int) (R : AV → Mem → Prop) (h : F88 a0_0 a0_1 a1_0 a1_1 R) : Own Tryz.prog KK.gl 88 [(AV.agg [(intA a0_0), (intA a0_1)]), (AV.agg [(intA a1_0), (intA a1_1)])] R := own_of_F fol Tryz.func88 (code := c88) (by kernel_rfl) (by kernel_rfl) (by kernel_rfl) (X := F88 a0_0 a0_1 a1_0 a1_1 R) (by kernel_rfl) h
/- skyway/plane.Turn -/
noncomputable def c69 : Code := ((Tryz.f69).body).getD .skip
noncomputable def q69 (R : AV → Mem → Prop) : AExit → St → Prop := retQ Tryz.prog Tryz.f69 R
noncomputable def F69 (a0_0 : Int) (a0_1 : Int) (a1_0 : Int) (a1_1 : Int) (a2_0 : Int) (a2_1 : Int) (R : AV → Mem → Prop) : Prop :=
callQ Tryz.prog KK.gl ((2, some ⟨[(intA a2_0), (intA a2_1)], 60⟩) :: (1, some ⟨[(intA a1_0), (intA a1_1)], 60⟩) :: (0, some ⟨[(intA a0_0), (intA a0_1)], 60⟩) :: []) 89 [(AV.agg [(intA a1_0), (intA a1_1)]), (AV.agg [(intA a0_0), (intA a0_1)])] fun v0 =>
exA2 v0 fun c1 c2 =>
ex_i64 c1 fun z3 =>
ex_i64 c2 fun z4 =>
callQ Tryz.prog KK.gl ((2, some ⟨[(intA a2_0), (intA a2_1)], 60⟩) :: (1, some ⟨[(intA a1_0), (intA a1_1)], 60⟩) :: (0, some ⟨[(intA a0_0), (intA a0_1)], 60⟩) :: []) 89 [(AV.agg [(intA a2_0), (intA a2_1)]), (AV.agg [(intA a0_0), (intA a0_1)])] fun v5 =>
exA2 v5 fun c6 c7 =>
ex_i64 c6 fun z8 =>
ex_i64 c7 fun z9 =>
callQ Tryz.prog KK.gl ((2, some ⟨[(intA a2_0), (intA a2_1)], 60⟩) :: (1, some ⟨[(intA a1_0), (intA a1_1)], 60⟩) :: (0, some ⟨[(intA a0_0), (intA a0_1)], 60⟩) :: []) 88 [(AV.agg [(intA z3), (intA z4)]), (AV.agg [(intA z8), (intA z9)])] fun v10 =>
ex_i64 v10 fun z11 =>
bif (decide (z11 > (0))) then (
retL R ((2, some ⟨[(intA a2_0), (intA a2_1)], 60⟩) :: (1, some ⟨[(intA a1_0), (intA a1_1)], 60⟩) :: (0, some ⟨[(intA a0_0), (intA a0_1)], 60⟩) :: []) [some (intA (1))]) else (
bif (decide (z11 < (0))) then (
retL R ((2, some ⟨[(intA a2_0), (intA a2_1)], 60⟩) :: (1, some ⟨[(intA a1_0), (intA a1_1)], 60⟩) :: (0, some ⟨[(intA a0_0), (intA a0_1)], 60⟩) :: []) [some (intA (-1))]) else (
retL R ((2, some ⟨[(intA a2_0), (intA a2_1)], 60⟩) :: (1, some ⟨[(intA a1_0), (intA a1_1)], 60⟩) :: (0, some ⟨[(intA a0_0), (intA a0_1)], 60⟩) :: []) [some (intA (0))]))
theorem F69_own (a0_0 : Int) (a0_1 : Int) (a1_0 : Int) (a1_1 : Int) (a2_0 : Int) (a2_1 : Int) (R : AV → Mem → Prop) (h : F69 a0_0 a0_1 a1_0 a1_1 a2_0 a2_1 R) : Own Tryz.prog KK.gl 69 [(AV.agg [(intA a0_0), (intA a0_1)]), (AV.agg [(intA a1_0), (intA a1_1)]), (AV.agg [(intA a2_0), (intA a2_1)])] R := own_of_F fol Tryz.func69 (code := c69) (by kernel_rfl) (by kernel_rfl) (by kernel_rfl) (X := F69 a0_0 a0_1 a1_0 a1_1 a2_0 a2_1 R) (by kernel_rfl) h
/- skyway/polygon.between -/
noncomputable def c96 : Code := ((Tryz.f96).body).getD .skip
noncomputable def q96 (R : AV → Mem → Prop) : AExit → St → Prop := retQ Tryz.prog Tryz.f96 R
noncomputable def F96 (a0_0 : Int) (a0_1 : Int) (a1_0 : Int) (a1_1 : Int) (a2_0 : Int) (a2_1 : Int) (R : AV → Mem → Prop) : Prop :=
opP (opA Tryz.prog (.call ⟨.builtin .min, #[.tmp 0, .tmp 1], #[3, 3]⟩) 3 [(intA a0_0), (intA a1_0)] (mget ((2, some ⟨[(intA a2_0), (intA a2_1)], 60⟩) :: (1, some ⟨[(intA a1_0), (intA a1_1)], 60⟩) :: (0, some ⟨[(intA a0_0), (intA a0_1)], 60⟩) :: [])) 8) fun v0 =>
ex_i64 v0 fun z1 =>
bif (decide (z1 ≤ a2_0)) then (
opP (opA Tryz.prog (.call ⟨.builtin .max, #[.tmp 0, .tmp 1], #[3, 3]⟩) 3 [(intA a0_0), (intA a1_0)] (mget ((2, some ⟨[(intA a2_0), (intA a2_1)], 60⟩) :: (1, some ⟨[(intA a1_0), (intA a1_1)], 60⟩) :: (0, some ⟨[(intA a0_0), (intA a0_1)], 60⟩) :: [])) 19) fun v2 =>
ex_i64 v2 fun z3 =>
bif (decide (a2_0 ≤ z3)) then (
opP (opA Tryz.prog (.call ⟨.builtin .min, #[.tmp 0, .tmp 1], #[3, 3]⟩) 3 [(intA a0_1), (intA a1_1)] (mget ((2, some ⟨[(intA a2_0), (intA a2_1)], 60⟩) :: (1, some ⟨[(intA a1_0), (intA a1_1)], 60⟩) :: (0, some ⟨[(intA a0_0), (intA a0_1)], 60⟩) :: [])) 27) fun v4 =>
ex_i64 v4 fun z5 =>
bif (decide (z5 ≤ a2_1)) then (
opP (opA Tryz.prog (.call ⟨.builtin .max, #[.tmp 0, .tmp 1], #[3, 3]⟩) 3 [(intA a0_1), (intA a1_1)] (mget ((2, some ⟨[(intA a2_0), (intA a2_1)], 60⟩) :: (1, some ⟨[(intA a1_0), (intA a1_1)], 60⟩) :: (0, some ⟨[(intA a0_0), (intA a0_1)], 60⟩) :: [])) 39) fun v6 =>
ex_i64 v6 fun z7 =>
retL R ((2, some ⟨[(intA a2_0), (intA a2_1)], 60⟩) :: (1, some ⟨[(intA a1_0), (intA a1_1)], 60⟩) :: (0, some ⟨[(intA a0_0), (intA a0_1)], 60⟩) :: []) [some (boolA (decide (a2_1 ≤ z7)))]) else (
retL R ((2, some ⟨[(intA a2_0), (intA a2_1)], 60⟩) :: (1, some ⟨[(intA a1_0), (intA a1_1)], 60⟩) :: (0, some ⟨[(intA a0_0), (intA a0_1)], 60⟩) :: []) [some (boolA false)])) else (
retL R ((2, some ⟨[(intA a2_0), (intA a2_1)], 60⟩) :: (1, some ⟨[(intA a1_0), (intA a1_1)], 60⟩) :: (0, some ⟨[(intA a0_0), (intA a0_1)], 60⟩) :: []) [some (boolA false)])) else (
retL R ((2, some ⟨[(intA a2_0), (intA a2_1)], 60⟩) :: (1, some ⟨[(intA a1_0), (intA a1_1)], 60⟩) :: (0, some ⟨[(intA a0_0), (intA a0_1)], 60⟩) :: []) [some (boolA false)])
theorem F96_own (a0_0 : Int) (a0_1 : Int) (a1_0 : Int) (a1_1 : Int) (a2_0 : Int) (a2_1 : Int) (R : AV → Mem → Prop) (h : F96 a0_0 a0_1 a1_0 a1_1 a2_0 a2_1 R) : Own Tryz.prog KK.gl 96 [(AV.agg [(intA a0_0), (intA a0_1)]), (AV.agg [(intA a1_0), (intA a1_1)]), (AV.agg [(intA a2_0), (intA a2_1)])] R := own_of_F fol Tryz.func96 (code := c96) (by kernel_rfl) (by kernel_rfl) (by kernel_rfl) (X := F96 a0_0 a0_1 a1_0 a1_1 a2_0 a2_1 R) (by kernel_rfl) h
/- skyway/polygon.on -/
noncomputable def c90 : Code := ((Tryz.f90).body).getD .skip
noncomputable def q90 (R : AV → Mem → Prop) : AExit → St → Prop := retQ Tryz.prog Tryz.f90 R
noncomputable def F90 (a0_0 : Int) (a0_1 : Int) (a1_0 : Int) (a1_1 : Int) (a2_0 : Int) (a2_1 : Int) (R : AV → Mem → Prop) : Prop :=
callQ Tryz.prog KK.gl ((2, some ⟨[(intA a2_0), (intA a2_1)], 60⟩) :: (1, some ⟨[(intA a1_0), (intA a1_1)], 60⟩) :: (0, some ⟨[(intA a0_0), (intA a0_1)], 60⟩) :: []) 69 [(AV.agg [(intA a0_0), (intA a0_1)]), (AV.agg [(intA a1_0), (intA a1_1)]), (AV.agg [(intA a2_0), (intA a2_1)])] fun v0 =>
ex_i64 v0 fun z1 =>
bif (z1 == (0)) then (
callQ Tryz.prog KK.gl ((2, some ⟨[(intA a2_0), (intA a2_1)], 60⟩) :: (1, some ⟨[(intA a1_0), (intA a1_1)], 60⟩) :: (0, some ⟨[(intA a0_0), (intA a0_1)], 60⟩) :: []) 96 [(AV.agg [(intA a0_0), (intA a0_1)]), (AV.agg [(intA a1_0), (intA a1_1)]), (AV.agg [(intA a2_0), (intA a2_1)])] fun v2 =>
exB v2 fun b3 =>
retL R ((2, some ⟨[(intA a2_0), (intA a2_1)], 60⟩) :: (1, some ⟨[(intA a1_0), (intA a1_1)], 60⟩) :: (0, some ⟨[(intA a0_0), (intA a0_1)], 60⟩) :: []) [some (boolA b3)]) else (
retL R ((2, some ⟨[(intA a2_0), (intA a2_1)], 60⟩) :: (1, some ⟨[(intA a1_0), (intA a1_1)], 60⟩) :: (0, some ⟨[(intA a0_0), (intA a0_1)], 60⟩) :: []) [some (boolA false)])
theorem F90_own (a0_0 : Int) (a0_1 : Int) (a1_0 : Int) (a1_1 : Int) (a2_0 : Int) (a2_1 : Int) (R : AV → Mem → Prop) (h : F90 a0_0 a0_1 a1_0 a1_1 a2_0 a2_1 R) : Own Tryz.prog KK.gl 90 [(AV.agg [(intA a0_0), (intA a0_1)]), (AV.agg [(intA a1_0), (intA a1_1)]), (AV.agg [(intA a2_0), (intA a2_1)])] R := own_of_F fol Tryz.func90 (code := c90) (by kernel_rfl) (by kernel_rfl) (by kernel_rfl) (X := F90 a0_0 a0_1 a1_0 a1_1 a2_0 a2_1 R) (by kernel_rfl) h
/- skyway/polygon.Place -/
noncomputable def c82 : Code := ((Tryz.f82).body).getD .skip
noncomputable def q82 (R : AV → Mem → Prop) : AExit → St → Prop := retQ Tryz.prog Tryz.f82 R
noncomputable def c82_0 : Code := loopB c82 0
noncomputable def q82_0 (R : AV → Mem → Prop) : AExit → St → Prop := contW Tryz.prog KK 65 0 c82 0 (q82 R)
noncomputable def qq82_0 (R : AV → Mem → Prop) (N0 : St → Prop) : AExit → St → Prop := thenQ N0 (q82_0 R)
def h82_0 (t0 : AV) (t4 : Int) (t5 : Int) (t11 : Int) (t12 : Int) (b0_0 : Int) (b0_1 : Int) (m : Mem) : St := ⟨[(0, t0), (3, (AV.ptr 0 0)), (4, (intA t4)), (5, (intA t5)), (11, (intA t11)), (12, (intA t12))], ((0, some ⟨[(intA b0_0), (intA b0_1)], 60⟩) :: m), 100000⟩
noncomputable def B82_0 (t0 : AV) (t4 : Int) (t5 : Int) (t11 : Int) (t12 : Int) (b0_0 : Int) (b0_1 : Int) (m : Mem) (R : AV → Mem → Prop) (N0 : St → Prop) : Prop :=
bif (decide (t12 < t11)) then (
opM (idxS 2 t0 (intA t12)) fun v2 d2 =>
opM (ldA (look' (mpushs ((0, some ⟨[(intA b0_0), (intA b0_1)], 60⟩) :: m) d2) (topId v2 ++ ([]))) 2 v2) fun v3 d3 =>
exA2 v3 fun c4 c5 =>
ex_i64 c4 fun z6 =>
ex_i64 c5 fun z7 =>
callF Tryz.prog KK.gl (mpushs (mpushs ((0, some ⟨[(intA b0_0), (intA b0_1)], 60⟩) :: m) d2) d3) 100009 70 [t0, (intA t12)] fun v8 d8 ft8 =>
exA2 v8 fun c9 c10 =>
ex_i64 c9 fun z11 =>
ex_i64 c10 fun z12 =>
storeW Tryz.prog (look' ((100011, some ⟨[(intA (0)), (intA (0))], 60⟩) :: (100010, some ⟨[(intA (0)), (intA (0))], 60⟩) :: (mpushs (mpushs (mpushs ((0, some ⟨[(intA b0_0), (intA b0_1)], 60⟩) :: m) d2) d3) d8)) (topId (AV.ptr 100010 0) ++ (topId (AV.agg [(intA z6), (intA z7)]) ++ ([])))) 60 (AV.ptr 100010 0) (AV.agg [(intA z6), (intA z7)]) fun v13 d13 =>
storeW Tryz.prog (look' (mpushs ((100011, some ⟨[(intA (0)), (intA (0))], 60⟩) :: (100010, some ⟨[(intA (0)), (intA (0))], 60⟩) :: (mpushs (mpushs (mpushs ((0, some ⟨[(intA b0_0), (intA b0_1)], 60⟩) :: m) d2) d3) d8)) d13) (topId (AV.ptr 100011 0) ++ (topId (AV.agg [(intA z11), (intA z12)]) ++ ([])))) 60 (AV.ptr 100011 0) (AV.agg [(intA z11), (intA z12)]) fun v14 d14 =>
chk (confOk [0, 0, 3, 7, 0, 0, 48, 0, 0, 511, 1023] [⟨[], []⟩, ⟨[], []⟩, ⟨d2, []⟩, ⟨d3, (topId v2 ++ ([]))⟩, ⟨[], []⟩, ⟨[], []⟩, ⟨d8, ft8⟩, ⟨[(100010, some ⟨[(intA (0)), (intA (0))], 60⟩)], []⟩, ⟨[(100011, some ⟨[(intA (0)), (intA (0))], 60⟩)], []⟩, ⟨d13, (topId (AV.ptr 100010 0) ++ (topId (AV.agg [(intA z6), (intA z7)]) ++ ([])))⟩, ⟨d14, (topId (AV.ptr 100011 0) ++ (topId (AV.agg [(intA z11), (intA z12)]) ++ ([])))⟩]) (opP (ldA (mget (mpushs (mpushs ((100011, some ⟨[(intA (0)), (intA (0))], 60⟩) :: (100010, some ⟨[(intA (0)), (intA (0))], 60⟩) :: (mpushs (mpushs (mpushs ((0, some ⟨[(intA b0_0), (intA b0_1)], 60⟩) :: m) d2) d3) d8)) d13) d14)) 2 (AV.ptr 100010 0)) fun v15 =>
exA2 v15 fun c16 c17 =>
ex_i64 c16 fun z18 =>
ex_i64 c17 fun z19 =>
opP (ldA (mget (mpushs (mpushs ((100011, some ⟨[(intA (0)), (intA (0))], 60⟩) :: (100010, some ⟨[(intA (0)), (intA (0))], 60⟩) :: (mpushs (mpushs (mpushs ((0, some ⟨[(intA b0_0), (intA b0_1)], 60⟩) :: m) d2) d3) d8)) d13) d14)) 2 (AV.ptr 100011 0)) fun v20 =>
exA2 v20 fun c21 c22 =>
ex_i64 c21 fun z23 =>
ex_i64 c22 fun z24 =>
opP (ldA (mget (mpushs (mpushs ((100011, some ⟨[(intA (0)), (intA (0))], 60⟩) :: (100010, some ⟨[(intA (0)), (intA (0))], 60⟩) :: (mpushs (mpushs (mpushs ((0, some ⟨[(intA b0_0), (intA b0_1)], 60⟩) :: m) d2) d3) d8)) d13) d14)) 2 (AV.ptr 0 0)) fun v25 =>
exA2 v25 fun c26 c27 =>
ex_i64 c26 fun z28 =>
ex_i64 c27 fun z29 =>
callQ Tryz.prog KK.gl (mpushs (mpushs ((100011, some ⟨[(intA (0)), (intA (0))], 60⟩) :: (100010, some ⟨[(intA (0)), (intA (0))], 60⟩) :: (mpushs (mpushs (mpushs ((0, some ⟨[(intA b0_0), (intA b0_1)], 60⟩) :: m) d2) d3) d8)) d13) d14) 90 [(AV.agg [(intA z18), (intA z19)]), (AV.agg [(intA z23), (intA z24)]), (AV.agg [(intA z28), (intA z29)])] fun v30 =>
exB v30 fun b31 =>
bif b31 then (
retL R (mpushs (mpushs ((100011, some ⟨[(intA (0)), (intA (0))], 60⟩) :: (100010, some ⟨[(intA (0)), (intA (0))], 60⟩) :: (mpushs (mpushs (mpushs ((0, some ⟨[(intA b0_0), (intA b0_1)], 60⟩) :: m) d2) d3) d8)) d13) d14) [some (intA (0))]) else (
opP (ldS (mget (mpushs (mpushs ((100011, some ⟨[(intA (0)), (intA (0))], 60⟩) :: (100010, some ⟨[(intA (0)), (intA (0))], 60⟩) :: (mpushs (mpushs (mpushs ((0, some ⟨[(intA b0_0), (intA b0_1)], 60⟩) :: m) d2) d3) d8)) d13) d14)) (AV.ptr 100010 1)) fun v32 =>
ex_i64 v32 fun z33 =>
opP (ldS (mget (mpushs (mpushs ((100011, some ⟨[(intA (0)), (intA (0))], 60⟩) :: (100010, some ⟨[(intA (0)), (intA (0))], 60⟩) :: (mpushs (mpushs (mpushs ((0, some ⟨[(intA b0_0), (intA b0_1)], 60⟩) :: m) d2) d3) d8)) d13) d14)) (AV.ptr 0 1)) fun v34 =>
ex_i64 v34 fun z35 =>
opP (ldS (mget (mpushs (mpushs ((100011, some ⟨[(intA (0)), (intA (0))], 60⟩) :: (100010, some ⟨[(intA (0)), (intA (0))], 60⟩) :: (mpushs (mpushs (mpushs ((0, some ⟨[(intA b0_0), (intA b0_1)], 60⟩) :: m) d2) d3) d8)) d13) d14)) (AV.ptr 100011 1)) fun v36 =>
ex_i64 v36 fun z37 =>
opP (ldS (mget (mpushs (mpushs ((100011, some ⟨[(intA (0)), (intA (0))], 60⟩) :: (100010, some ⟨[(intA (0)), (intA (0))], 60⟩) :: (mpushs (mpushs (mpushs ((0, some ⟨[(intA b0_0), (intA b0_1)], 60⟩) :: m) d2) d3) d8)) d13) d14)) (AV.ptr 0 1)) fun v38 =>
ex_i64 v38 fun z39 =>
opP (opA Tryz.prog (.binOp .neq 4 (.tmp 0) (.tmp 1) 4) 4 [(boolA (decide (z33 > z35))), (boolA (decide (z37 > z39)))] (mget (mpushs (mpushs ((100011, some ⟨[(intA (0)), (intA (0))], 60⟩) :: (100010, some ⟨[(intA (0)), (intA (0))], 60⟩) :: (mpushs (mpushs (mpushs ((0, some ⟨[(intA b0_0), (intA b0_1)], 60⟩) :: m) d2) d3) d8)) d13) d14)) 100091) fun v40 =>
exB v40 fun b41 =>
bif b41 then (
opP (ldA (mget (mpushs (mpushs ((100011, some ⟨[(intA (0)), (intA (0))], 60⟩) :: (100010, some ⟨[(intA (0)), (intA (0))], 60⟩) :: (mpushs (mpushs (mpushs ((0, some ⟨[(intA b0_0), (intA b0_1)], 60⟩) :: m) d2) d3) d8)) d13) d14)) 2 (AV.ptr 100010 0)) fun v42 =>
exA2 v42 fun c43 c44 =>
ex_i64 c43 fun z45 =>
ex_i64 c44 fun z46 =>
opP (ldA (mget (mpushs (mpushs ((100011, some ⟨[(intA (0)), (intA (0))], 60⟩) :: (100010, some ⟨[(intA (0)), (intA (0))], 60⟩) :: (mpushs (mpushs (mpushs ((0, some ⟨[(intA b0_0), (intA b0_1)], 60⟩) :: m) d2) d3) d8)) d13) d14)) 2 (AV.ptr 100011 0)) fun v47 =>
exA2 v47 fun c48 c49 =>
ex_i64 c48 fun z50 =>
ex_i64 c49 fun z51 =>
opP (ldA (mget (mpushs (mpushs ((100011, some ⟨[(intA (0)), (intA (0))], 60⟩) :: (100010, some ⟨[(intA (0)), (intA (0))], 60⟩) :: (mpushs (mpushs (mpushs ((0, some ⟨[(intA b0_0), (intA b0_1)], 60⟩) :: m) d2) d3) d8)) d13) d14)) 2 (AV.ptr 0 0)) fun v52 =>
exA2 v52 fun c53 c54 =>
ex_i64 c53 fun z55 =>
ex_i64 c54 fun z56 =>
callQ Tryz.prog KK.gl (mpushs (mpushs ((100011, some ⟨[(intA (0)), (intA (0))], 60⟩) :: (100010, some ⟨[(intA (0)), (intA (0))], 60⟩) :: (mpushs (mpushs (mpushs ((0, some ⟨[(intA b0_0), (intA b0_1)], 60⟩) :: m) d2) d3) d8)) d13) d14) 69 [(AV.agg [(intA z45), (intA z46)]), (AV.agg [(intA z50), (intA z51)]), (AV.agg [(intA z55), (intA z56)])] fun v57 =>
ex_i64 v57 fun z58 =>
opP (ldS (mget (mpushs (mpushs ((100011, some ⟨[(intA (0)), (intA (0))], 60⟩) :: (100010, some ⟨[(intA (0)), (intA (0))], 60⟩) :: (mpushs (mpushs (mpushs ((0, some ⟨[(intA b0_0), (intA b0_1)], 60⟩) :: m) d2) d3) d8)) d13) d14)) (AV.ptr 100011 1)) fun v59 =>
ex_i64 v59 fun z60 =>
opP (ldS (mget (mpushs (mpushs ((100011, some ⟨[(intA (0)), (intA (0))], 60⟩) :: (100010, some ⟨[(intA (0)), (intA (0))], 60⟩) :: (mpushs (mpushs (mpushs ((0, some ⟨[(intA b0_0), (intA b0_1)], 60⟩) :: m) d2) d3) d8)) d13) d14)) (AV.ptr 100010 1)) fun v61 =>
ex_i64 v61 fun z62 =>
bif (decide (z60 > z62)) then (
bif (decide (z58 > (0))) then (
opP (opA Tryz.prog (.unOp .neg 3 (.tmp 0)) 3 [(intA t5)] (mget (mpushs (mpushs ((100011, some ⟨[(intA (0)), (intA (0))], 60⟩) :: (100010, some ⟨[(intA (0)), (intA (0))], 60⟩) :: (mpushs (mpushs (mpushs ((0, some ⟨[(intA b0_0), (intA b0_1)], 60⟩) :: m) d2) d3) d8)) d13) d14)) 100172) fun v63 =>
ex_i64 v63 fun z64 =>
N0 ⟨[(0, t0), (3, (AV.ptr 0 0)), (4, (intA t4)), (5, (intA z64)), (11, (intA t11)), (12, (intA (IntKind.wrap .i64 (t12 + (1))))), (13, (boolA (decide (t12 < t11)))), (14, (intA t12)), (6, (intA t12)), (15, t0), (16, (intA t12)), (17, v2), (18, (AV.agg [(intA z6), (intA z7)])), (19, t0), (20, (intA t12)), (21, (AV.agg [(intA z11), (intA z12)])), (7, (AV.ptr 100010 0)), (8, (AV.ptr 100011 0)), (22, (AV.agg [(intA z18), (intA z19)])), (23, (AV.agg [(intA z23), (intA z24)])), (24, (AV.agg [(intA z28), (intA z29)])), (25, (boolA b31)), (26, (AV.ptr 100010 1)), (27, (intA z33)), (28, (AV.ptr 0 1)), (29, (intA z35)), (30, (boolA (decide (z33 > z35)))), (31, (AV.ptr 100011 1)), (32, (intA z37)), (33, (AV.ptr 0 1)), (34, (intA z39)), (35, (boolA (decide (z37 > z39)))), (36, (boolA b41)), (37, (AV.agg [(intA z45), (intA z46)])), (38, (AV.agg [(intA z50), (intA z51)])), (39, (AV.agg [(intA z55), (intA z56)])), (40, (intA z58)), (9, (intA z58)), (41, (AV.ptr 100011 1)), (42, (intA z60)), (43, (AV.ptr 100010 1)), (44, (intA z62)), (45, (boolA (decide (z60 > z62)))), (46, (boolA true)), (47, (intA z58)), (48, (boolA (decide (z58 > (0))))), (49, (boolA (decide (z58 > (0))))), (50, (boolA true)), (51, (AV.tup [])), (52, (AV.tup [])), (53, (AV.tup [])), (54, (AV.tup [])), (55, (AV.tup [])), (56, (AV.tup [])), (57, (AV.tup [])), (58, (AV.tup [])), (59, (AV.tup [])), (60, (boolA true)), (61, (intA t5)), (62, (intA z64)), (63, (intA (IntKind.wrap .i64 (t12 + (1)))))], (mpushs (mpushs ((100011, some ⟨[(intA (0)), (intA (0))], 60⟩) :: (100010, some ⟨[(intA (0)), (intA (0))], 60⟩) :: (mpushs (mpushs (mpushs ((0, some ⟨[(intA b0_0), (intA b0_1)], 60⟩) :: m) d2) d3) d8)) d13) d14), 100176⟩) else (
opP (ldS (mget (mpushs (mpushs ((100011, some ⟨[(intA (0)), (intA (0))], 60⟩) :: (100010, some ⟨[(intA (0)), (intA (0))], 60⟩) :: (mpushs (mpushs (mpushs ((0, some ⟨[(intA b0_0), (intA b0_1)], 60⟩) :: m) d2) d3) d8)) d13) d14)) (AV.ptr 100011 1)) fun v65 =>
ex_i64 v65 fun z66 =>
opP (ldS (mget (mpushs (mpushs ((100011, some ⟨[(intA (0)), (intA (0))], 60⟩) :: (100010, some ⟨[(intA (0)), (intA (0))], 60⟩) :: (mpushs (mpushs (mpushs ((0, some ⟨[(intA b0_0), (intA b0_1)], 60⟩) :: m) d2) d3) d8)) d13) d14)) (AV.ptr 100010 1)) fun v67 =>
ex_i64 v67 fun z68 =>
bif (decide (z66 < z68)) then (
bif (decide (z58 < (0))) then (
opP (opA Tryz.prog (.unOp .neg 3 (.tmp 0)) 3 [(intA t5)] (mget (mpushs (mpushs ((100011, some ⟨[(intA (0)), (intA (0))], 60⟩) :: (100010, some ⟨[(intA (0)), (intA (0))], 60⟩) :: (mpushs (mpushs (mpushs ((0, some ⟨[(intA b0_0), (intA b0_1)], 60⟩) :: m) d2) d3) d8)) d13) d14)) 100181) fun v69 =>
ex_i64 v69 fun z70 =>
N0 ⟨[(0, t0), (3, (AV.ptr 0 0)), (4, (intA t4)), (5, (intA z70)), (11, (intA t11)), (12, (intA (IntKind.wrap .i64 (t12 + (1))))), (13, (boolA (decide (t12 < t11)))), (14, (intA t12)), (6, (intA t12)), (15, t0), (16, (intA t12)), (17, v2), (18, (AV.agg [(intA z6), (intA z7)])), (19, t0), (20, (intA t12)), (21, (AV.agg [(intA z11), (intA z12)])), (7, (AV.ptr 100010 0)), (8, (AV.ptr 100011 0)), (22, (AV.agg [(intA z18), (intA z19)])), (23, (AV.agg [(intA z23), (intA z24)])), (24, (AV.agg [(intA z28), (intA z29)])), (25, (boolA b31)), (26, (AV.ptr 100010 1)), (27, (intA z33)), (28, (AV.ptr 0 1)), (29, (intA z35)), (30, (boolA (decide (z33 > z35)))), (31, (AV.ptr 100011 1)), (32, (intA z37)), (33, (AV.ptr 0 1)), (34, (intA z39)), (35, (boolA (decide (z37 > z39)))), (36, (boolA b41)), (37, (AV.agg [(intA z45), (intA z46)])), (38, (AV.agg [(intA z50), (intA z51)])), (39, (AV.agg [(intA z55), (intA z56)])), (40, (intA z58)), (9, (intA z58)), (41, (AV.ptr 100011 1)), (42, (intA z60)), (43, (AV.ptr 100010 1)), (44, (intA z62)), (45, (boolA (decide (z60 > z62)))), (46, (boolA true)), (47, (intA z58)), (48, (boolA (decide (z58 > (0))))), (49, (boolA (decide (z58 > (0))))), (50, (boolA false)), (51, (AV.ptr 100011 1)), (52, (intA z66)), (53, (AV.ptr 100010 1)), (54, (intA z68)), (55, (boolA (decide (z66 < z68)))), (56, (boolA true)), (57, (intA z58)), (58, (boolA (decide (z58 < (0))))), (59, (boolA (decide (z58 < (0))))), (60, (boolA (decide (z58 < (0))))), (61, (intA t5)), (62, (intA z70)), (63, (intA (IntKind.wrap .i64 (t12 + (1)))))], (mpushs (mpushs ((100011, some ⟨[(intA (0)), (intA (0))], 60⟩) :: (100010, some ⟨[(intA (0)), (intA (0))], 60⟩) :: (mpushs (mpushs (mpushs ((0, some ⟨[(intA b0_0), (intA b0_1)], 60⟩) :: m) d2) d3) d8)) d13) d14), 100185⟩) else (
N0 ⟨[(0, t0), (3, (AV.ptr 0 0)), (4, (intA t4)), (5, (intA t5)), (11, (intA t11)), (12, (intA (IntKind.wrap .i64 (t12 + (1))))), (13, (boolA (decide (t12 < t11)))), (14, (intA t12)), (6, (intA t12)), (15, t0), (16, (intA t12)), (17, v2), (18, (AV.agg [(intA z6), (intA z7)])), (19, t0), (20, (intA t12)), (21, (AV.agg [(intA z11), (intA z12)])), (7, (AV.ptr 100010 0)), (8, (AV.ptr 100011 0)), (22, (AV.agg [(intA z18), (intA z19)])), (23, (AV.agg [(intA z23), (intA z24)])), (24, (AV.agg [(intA z28), (intA z29)])), (25, (boolA b31)), (26, (AV.ptr 100010 1)), (27, (intA z33)), (28, (AV.ptr 0 1)), (29, (intA z35)), (30, (boolA (decide (z33 > z35)))), (31, (AV.ptr 100011 1)), (32, (intA z37)), (33, (AV.ptr 0 1)), (34, (intA z39)), (35, (boolA (decide (z37 > z39)))), (36, (boolA b41)), (37, (AV.agg [(intA z45), (intA z46)])), (38, (AV.agg [(intA z50), (intA z51)])), (39, (AV.agg [(intA z55), (intA z56)])), (40, (intA z58)), (9, (intA z58)), (41, (AV.ptr 100011 1)), (42, (intA z60)), (43, (AV.ptr 100010 1)), (44, (intA z62)), (45, (boolA (decide (z60 > z62)))), (46, (boolA true)), (47, (intA z58)), (48, (boolA (decide (z58 > (0))))), (49, (boolA (decide (z58 > (0))))), (50, (boolA false)), (51, (AV.ptr 100011 1)), (52, (intA z66)), (53, (AV.ptr 100010 1)), (54, (intA z68)), (55, (boolA (decide (z66 < z68)))), (56, (boolA true)), (57, (intA z58)), (58, (boolA (decide (z58 < (0))))), (59, (boolA (decide (z58 < (0))))), (60, (boolA (decide (z58 < (0))))), (63, (intA (IntKind.wrap .i64 (t12 + (1)))))], (mpushs (mpushs ((100011, some ⟨[(intA (0)), (intA (0))], 60⟩) :: (100010, some ⟨[(intA (0)), (intA (0))], 60⟩) :: (mpushs (mpushs (mpushs ((0, some ⟨[(intA b0_0), (intA b0_1)], 60⟩) :: m) d2) d3) d8)) d13) d14), 100182⟩)) else (
N0 ⟨[(0, t0), (3, (AV.ptr 0 0)), (4, (intA t4)), (5, (intA t5)), (11, (intA t11)), (12, (intA (IntKind.wrap .i64 (t12 + (1))))), (13, (boolA (decide (t12 < t11)))), (14, (intA t12)), (6, (intA t12)), (15, t0), (16, (intA t12)), (17, v2), (18, (AV.agg [(intA z6), (intA z7)])), (19, t0), (20, (intA t12)), (21, (AV.agg [(intA z11), (intA z12)])), (7, (AV.ptr 100010 0)), (8, (AV.ptr 100011 0)), (22, (AV.agg [(intA z18), (intA z19)])), (23, (AV.agg [(intA z23), (intA z24)])), (24, (AV.agg [(intA z28), (intA z29)])), (25, (boolA b31)), (26, (AV.ptr 100010 1)), (27, (intA z33)), (28, (AV.ptr 0 1)), (29, (intA z35)), (30, (boolA (decide (z33 > z35)))), (31, (AV.ptr 100011 1)), (32, (intA z37)), (33, (AV.ptr 0 1)), (34, (intA z39)), (35, (boolA (decide (z37 > z39)))), (36, (boolA b41)), (37, (AV.agg [(intA z45), (intA z46)])), (38, (AV.agg [(intA z50), (intA z51)])), (39, (AV.agg [(intA z55), (intA z56)])), (40, (intA z58)), (9, (intA z58)), (41, (AV.ptr 100011 1)), (42, (intA z60)), (43, (AV.ptr 100010 1)), (44, (intA z62)), (45, (boolA (decide (z60 > z62)))), (46, (boolA true)), (47, (intA z58)), (48, (boolA (decide (z58 > (0))))), (49, (boolA (decide (z58 > (0))))), (50, (boolA false)), (51, (AV.ptr 100011 1)), (52, (intA z66)), (53, (AV.ptr 100010 1)), (54, (intA z68)), (55, (boolA (decide (z66 < z68)))), (56, (boolA false)), (57, (AV.tup [])), (58, (AV.tup [])), (59, (boolA false)), (60, (boolA false)), (63, (intA (IntKind.wrap .i64 (t12 + (1)))))], (mpushs (mpushs ((100011, some ⟨[(intA (0)), (intA (0))], 60⟩) :: (100010, some ⟨[(intA (0)), (intA (0))], 60⟩) :: (mpushs (mpushs (mpushs ((0, some ⟨[(intA b0_0), (intA b0_1)], 60⟩) :: m) d2) d3) d8)) d13) d14), 100180⟩))) else (
opP (ldS (mget (mpushs (mpushs ((100011, some ⟨[(intA (0)), (intA (0))], 60⟩) :: (100010, some ⟨[(intA (0)), (intA (0))], 60⟩) :: (mpushs (mpushs (mpushs ((0, some ⟨[(intA b0_0), (intA b0_1)], 60⟩) :: m) d2) d3) d8)) d13) d14)) (AV.ptr 100011 1)) fun v71 =>
ex_i64 v71 fun z72 =>
opP (ldS (mget (mpushs (mpushs ((100011, some ⟨[(intA (0)), (intA (0))], 60⟩) :: (100010, some ⟨[(intA (0)), (intA (0))], 60⟩) :: (mpushs (mpushs (mpushs ((0, some ⟨[(intA b0_0), (intA b0_1)], 60⟩) :: m) d2) d3) d8)) d13) d14)) (AV.ptr 100010 1)) fun v73 =>
ex_i64 v73 fun z74 =>
bif (decide (z72 < z74)) then (
bif (decide (z58 < (0))) then (
opP (opA Tryz.prog (.unOp .neg 3 (.tmp 0)) 3 [(intA t5)] (mget (mpushs (mpushs ((100011, some ⟨[(intA (0)), (intA (0))], 60⟩) :: (100010, some ⟨[(intA (0)), (intA (0))], 60⟩) :: (mpushs (mpushs (mpushs ((0, some ⟨[(intA b0_0), (intA b0_1)], 60⟩) :: m) d2) d3) d8)) d13) d14)) 100179) fun v75 =>
ex_i64 v75 fun z76 =>
N0 ⟨[(0, t0), (3, (AV.ptr 0 0)), (4, (intA t4)), (5, (intA z76)), (11, (intA t11)), (12, (intA (IntKind.wrap .i64 (t12 + (1))))), (13, (boolA (decide (t12 < t11)))), (14, (intA t12)), (6, (intA t12)), (15, t0), (16, (intA t12)), (17, v2), (18, (AV.agg [(intA z6), (intA z7)])), (19, t0), (20, (intA t12)), (21, (AV.agg [(intA z11), (intA z12)])), (7, (AV.ptr 100010 0)), (8, (AV.ptr 100011 0)), (22, (AV.agg [(intA z18), (intA z19)])), (23, (AV.agg [(intA z23), (intA z24)])), (24, (AV.agg [(intA z28), (intA z29)])), (25, (boolA b31)), (26, (AV.ptr 100010 1)), (27, (intA z33)), (28, (AV.ptr 0 1)), (29, (intA z35)), (30, (boolA (decide (z33 > z35)))), (31, (AV.ptr 100011 1)), (32, (intA z37)), (33, (AV.ptr 0 1)), (34, (intA z39)), (35, (boolA (decide (z37 > z39)))), (36, (boolA b41)), (37, (AV.agg [(intA z45), (intA z46)])), (38, (AV.agg [(intA z50), (intA z51)])), (39, (AV.agg [(intA z55), (intA z56)])), (40, (intA z58)), (9, (intA z58)), (41, (AV.ptr 100011 1)), (42, (intA z60)), (43, (AV.ptr 100010 1)), (44, (intA z62)), (45, (boolA (decide (z60 > z62)))), (46, (boolA false)), (47, (AV.tup [])), (48, (AV.tup [])), (49, (boolA false)), (50, (boolA false)), (51, (AV.ptr 100011 1)), (52, (intA z72)), (53, (AV.ptr 100010 1)), (54, (intA z74)), (55, (boolA (decide (z72 < z74)))), (56, (boolA true)), (57, (intA z58)), (58, (boolA (decide (z58 < (0))))), (59, (boolA (decide (z58 < (0))))), (60, (boolA (decide (z58 < (0))))), (61, (intA t5)), (62, (intA z76)), (63, (intA (IntKind.wrap .i64 (t12 + (1)))))], (mpushs (mpushs ((100011, some ⟨[(intA (0)), (intA (0))], 60⟩) :: (100010, some ⟨[(intA (0)), (intA (0))], 60⟩) :: (mpushs (mpushs (mpushs ((0, some ⟨[(intA b0_0), (intA b0_1)], 60⟩) :: m) d2) d3) d8)) d13) d14), 100183⟩) else (
N0 ⟨[(0, t0), (3, (AV.ptr 0 0)), (4, (intA t4)), (5, (intA t5)), (11, (intA t11)), (12, (intA (IntKind.wrap .i64 (t12 + (1))))), (13, (boolA (decide (t12 < t11)))), (14, (intA t12)), (6, (intA t12)), (15, t0), (16, (intA t12)), (17, v2), (18, (AV.agg [(intA z6), (intA z7)])), (19, t0), (20, (intA t12)), (21, (AV.agg [(intA z11), (intA z12)])), (7, (AV.ptr 100010 0)), (8, (AV.ptr 100011 0)), (22, (AV.agg [(intA z18), (intA z19)])), (23, (AV.agg [(intA z23), (intA z24)])), (24, (AV.agg [(intA z28), (intA z29)])), (25, (boolA b31)), (26, (AV.ptr 100010 1)), (27, (intA z33)), (28, (AV.ptr 0 1)), (29, (intA z35)), (30, (boolA (decide (z33 > z35)))), (31, (AV.ptr 100011 1)), (32, (intA z37)), (33, (AV.ptr 0 1)), (34, (intA z39)), (35, (boolA (decide (z37 > z39)))), (36, (boolA b41)), (37, (AV.agg [(intA z45), (intA z46)])), (38, (AV.agg [(intA z50), (intA z51)])), (39, (AV.agg [(intA z55), (intA z56)])), (40, (intA z58)), (9, (intA z58)), (41, (AV.ptr 100011 1)), (42, (intA z60)), (43, (AV.ptr 100010 1)), (44, (intA z62)), (45, (boolA (decide (z60 > z62)))), (46, (boolA false)), (47, (AV.tup [])), (48, (AV.tup [])), (49, (boolA false)), (50, (boolA false)), (51, (AV.ptr 100011 1)), (52, (intA z72)), (53, (AV.ptr 100010 1)), (54, (intA z74)), (55, (boolA (decide (z72 < z74)))), (56, (boolA true)), (57, (intA z58)), (58, (boolA (decide (z58 < (0))))), (59, (boolA (decide (z58 < (0))))), (60, (boolA (decide (z58 < (0))))), (63, (intA (IntKind.wrap .i64 (t12 + (1)))))], (mpushs (mpushs ((100011, some ⟨[(intA (0)), (intA (0))], 60⟩) :: (100010, some ⟨[(intA (0)), (intA (0))], 60⟩) :: (mpushs (mpushs (mpushs ((0, some ⟨[(intA b0_0), (intA b0_1)], 60⟩) :: m) d2) d3) d8)) d13) d14), 100180⟩)) else (
N0 ⟨[(0, t0), (3, (AV.ptr 0 0)), (4, (intA t4)), (5, (intA t5)), (11, (intA t11)), (12, (intA (IntKind.wrap .i64 (t12 + (1))))), (13, (boolA (decide (t12 < t11)))), (14, (intA t12)), (6, (intA t12)), (15, t0), (16, (intA t12)), (17, v2), (18, (AV.agg [(intA z6), (intA z7)])), (19, t0), (20, (intA t12)), (21, (AV.agg [(intA z11), (intA z12)])), (7, (AV.ptr 100010 0)), (8, (AV.ptr 100011 0)), (22, (AV.agg [(intA z18), (intA z19)])), (23, (AV.agg [(intA z23), (intA z24)])), (24, (AV.agg [(intA z28), (intA z29)])), (25, (boolA b31)), (26, (AV.ptr 100010 1)), (27, (intA z33)), (28, (AV.ptr 0 1)), (29, (intA z35)), (30, (boolA (decide (z33 > z35)))), (31, (AV.ptr 100011 1)), (32, (intA z37)), (33, (AV.ptr 0 1)), (34, (intA z39)), (35, (boolA (decide (z37 > z39)))), (36, (boolA b41)), (37, (AV.agg [(intA z45), (intA z46)])), (38, (AV.agg [(intA z50), (intA z51)])), (39, (AV.agg [(intA z55), (intA z56)])), (40, (intA z58)), (9, (intA z58)), (41, (AV.ptr 100011 1)), (42, (intA z60)), (43, (AV.ptr 100010 1)), (44, (intA z62)), (45, (boolA (decide (z60 > z62)))), (46, (boolA false)), (47, (AV.tup [])), (48, (AV.tup [])), (49, (boolA false)), (50, (boolA false)), (51, (AV.ptr 100011 1)), (52, (intA z72)), (53, (AV.ptr 100010 1)), (54, (intA z74)), (55, (boolA (decide (z72 < z74)))), (56, (boolA false)), (57, (AV.tup [])), (58, (AV.tup [])), (59, (boolA false)), (60, (boolA false)), (63, (intA (IntKind.wrap .i64 (t12 + (1)))))], (mpushs (mpushs ((100011, some ⟨[(intA (0)), (intA (0))], 60⟩) :: (100010, some ⟨[(intA (0)), (intA (0))], 60⟩) :: (mpushs (mpushs (mpushs ((0, some ⟨[(intA b0_0), (intA b0_1)], 60⟩) :: m) d2) d3) d8)) d13) d14), 100178⟩))) else (
N0 ⟨[(0, t0), (3, (AV.ptr 0 0)), (4, (intA t4)), (5, (intA t5)), (11, (intA t11)), (12, (intA (IntKind.wrap .i64 (t12 + (1))))), (13, (boolA (decide (t12 < t11)))), (14, (intA t12)), (6, (intA t12)), (15, t0), (16, (intA t12)), (17, v2), (18, (AV.agg [(intA z6), (intA z7)])), (19, t0), (20, (intA t12)), (21, (AV.agg [(intA z11), (intA z12)])), (7, (AV.ptr 100010 0)), (8, (AV.ptr 100011 0)), (22, (AV.agg [(intA z18), (intA z19)])), (23, (AV.agg [(intA z23), (intA z24)])), (24, (AV.agg [(intA z28), (intA z29)])), (25, (boolA b31)), (26, (AV.ptr 100010 1)), (27, (intA z33)), (28, (AV.ptr 0 1)), (29, (intA z35)), (30, (boolA (decide (z33 > z35)))), (31, (AV.ptr 100011 1)), (32, (intA z37)), (33, (AV.ptr 0 1)), (34, (intA z39)), (35, (boolA (decide (z37 > z39)))), (36, (boolA b41)), (63, (intA (IntKind.wrap .i64 (t12 + (1)))))], (mpushs (mpushs ((100011, some ⟨[(intA (0)), (intA (0))], 60⟩) :: (100010, some ⟨[(intA (0)), (intA (0))], 60⟩) :: (mpushs (mpushs (mpushs ((0, some ⟨[(intA b0_0), (intA b0_1)], 60⟩) :: m) d2) d3) d8)) d13) d14), 100094⟩)))) else (
retL R ((0, some ⟨[(intA b0_0), (intA b0_1)], 60⟩) :: m) [some (intA t5)])
theorem B82_0_eq (t0 : AV) (t4 : Int) (t5 : Int) (t11 : Int) (t12 : Int) (b0_0 : Int) (b0_1 : Int) (m : Mem) (R : AV → Mem → Prop) (N0 : St → Prop) : W Tryz.prog KK 65 0 c82_0 (h82_0 t0 t4 t5 t11 t12 b0_0 b0_1 m) (qq82_0 R N0) = B82_0 t0 t4 t5 t11 t12 b0_0 b0_1 m R N0 := by kernel_rfl
theorem L82_0 (R : AV → Mem → Prop) {σ : Type} (I : σ → Prop) (t0 : σ → AV) (t4 : σ → Int) (t5 : σ → Int) (t11 : σ → Int) (t12 : σ → Int) (b0_0 : σ → Int) (b0_1 : σ → Int) (m : σ → Mem) (μ : σ → Nat) (step : ∀ x, I x → B82_0 (t0 x) (t4 x) (t5 x) (t11 x) (t12 x) (b0_0 x) (b0_1 x) (m x) R (fun s' => ∃ y, I y ∧ μ y < μ x ∧ Weak KK 65 0 s' (h82_0 (t0 y) (t4 y) (t5 y) (t11 y) (t12 y) (b0_0 y) (b0_1 y) (m y)))) (x : σ) (hx : I x) {s : St} (hw : Weak KK 65 0 s (h82_0 (t0 x) (t4 x) (t5 x) (t11 x) (t12 x) (b0_0 x) (b0_1 x) (m x))) : Tri Tryz.prog KK 65 0 (.loop c82_0) s (q82_0 R) :=
  Tri.weak hw (Tri.loops fol I (fun x => h82_0 (t0 x) (t4 x) (t5 x) (t11 x) (t12 x) (b0_0 x) (b0_1 x) (m x)) μ (fun x hx => (B82_0_eq (t0 x) (t4 x) (t5 x) (t11 x) (t12 x) (b0_0 x) (b0_1 x) (m x) R _).mpr (step x hx)) x hx)
noncomputable def F82 (a0 : AV) (a1_0 : Int) (a1_1 : Int) (R : AV → Mem → Prop) : Prop :=
opP (lenS a0) fun v0 =>
ex_i64 v0 fun z1 =>
Tri Tryz.prog KK 65 0 (.loop c82_0) ⟨[(0, a0), (1, (AV.agg [(intA a1_0), (intA a1_1)])), (3, (AV.ptr 0 0)), (4, (intA (0))), (5, (intA (-1))), (10, a0), (11, (intA z1)), (12, (intA (0)))], ((0, some ⟨[(intA a1_0), (intA a1_1)], 60⟩) :: []), 6⟩ (q82_0 R)
theorem F82_own (a0 : AV) (a1_0 : Int) (a1_1 : Int) (R : AV → Mem → Prop) (h : F82 a0 a1_0 a1_1 R) : Own Tryz.prog KK.gl 82 [a0, (AV.agg [(intA a1_0), (intA a1_1)])] R := own_of_F fol Tryz.func82 (code := c82) (by kernel_rfl) (by kernel_rfl) (by kernel_rfl) (X := F82 a0 a1_0 a1_1 R) (by kernel_rfl) h
/- skyway/volume.Contains -/
noncomputable def c56 : Code := ((Tryz.f56).body).getD .skip
noncomputable def q56 (R : AV → Mem → Prop) : AExit → St → Prop := retQ Tryz.prog Tryz.f56 R
noncomputable def F56 (a0_0 : AV) (a0_1 : Int) (a0_2 : Int) (a1_0 : Int) (a1_1 : Int) (a2 : Int) (R : AV → Mem → Prop) : Prop :=
chk (isCell a0_0) <| bif (decide (a2 ≥ a0_1)) then (
bif (decide (a2 < a0_2)) then (
callQ Tryz.prog KK.gl ((1, some ⟨[(intA a1_0), (intA a1_1)], 60⟩) :: (0, some ⟨[a0_0, (intA a0_1), (intA a0_2)], 79⟩) :: []) 82 [a0_0, (AV.agg [(intA a1_0), (intA a1_1)])] fun v0 =>
ex_i64 v0 fun z1 =>
retL R ((1, some ⟨[(intA a1_0), (intA a1_1)], 60⟩) :: (0, some ⟨[a0_0, (intA a0_1), (intA a0_2)], 79⟩) :: []) [some (boolA (decide (z1 ≥ (0))))]) else (
retL R ((1, some ⟨[(intA a1_0), (intA a1_1)], 60⟩) :: (0, some ⟨[a0_0, (intA a0_1), (intA a0_2)], 79⟩) :: []) [some (boolA false)])) else (
retL R ((1, some ⟨[(intA a1_0), (intA a1_1)], 60⟩) :: (0, some ⟨[a0_0, (intA a0_1), (intA a0_2)], 79⟩) :: []) [some (boolA false)])
theorem F56_own (a0_0 : AV) (a0_1 : Int) (a0_2 : Int) (a1_0 : Int) (a1_1 : Int) (a2 : Int) (R : AV → Mem → Prop) (h : F56 a0_0 a0_1 a0_2 a1_0 a1_1 a2 R) : Own Tryz.prog KK.gl 56 [(AV.agg [a0_0, (intA a0_1), (intA a0_2)]), (AV.agg [(intA a1_0), (intA a1_1)]), (intA a2)] R := own_of_F fol Tryz.func56 (code := c56) (by kernel_rfl) (by kernel_rfl) (by kernel_rfl) (X := F56 a0_0 a0_1 a0_2 a1_0 a1_1 a2 R) (by kernel_rfl) h
/- skyway/sector.Place$1$1 -/
noncomputable def c55 : Code := ((Tryz.f55).body).getD .skip
noncomputable def q55 (R : AV → Mem → Prop) : AExit → St → Prop := retQ Tryz.prog Tryz.f55 R
noncomputable def F55 (a0_0 : AV) (a0_1 : Int) (a0_2 : Int) (a1 : AV) (a2 : AV) (R : AV → Mem → Prop) : Prop :=
chk (isCell a0_0) <| opP (ldA (mget ((0, some ⟨[a0_0, (intA a0_1), (intA a0_2)], 79⟩) :: [])) 2 a1) fun v0 =>
exA2 v0 fun c1 c2 =>
ex_i64 c1 fun z3 =>
ex_i64 c2 fun z4 =>
opP (ldS (mget ((0, some ⟨[a0_0, (intA a0_1), (intA a0_2)], 79⟩) :: [])) a2) fun v5 =>
ex_i64 v5 fun z6 =>
callQ Tryz.prog KK.gl ((0, some ⟨[a0_0, (intA a0_1), (intA a0_2)], 79⟩) :: []) 56 [(AV.agg [a0_0, (intA a0_1), (intA a0_2)]), (AV.agg [(intA z3), (intA z4)]), (intA z6)] fun v7 =>
exB v7 fun b8 =>
retL R ((0, some ⟨[a0_0, (intA a0_1), (intA a0_2)], 79⟩) :: []) [some (boolA b8)]
theorem F55_own (a0_0 : AV) (a0_1 : Int) (a0_2 : Int) (a1 : AV) (a2 : AV) (R : AV → Mem → Prop) (h : F55 a0_0 a0_1 a0_2 a1 a2 R) : Own Tryz.prog KK.gl 55 [(AV.agg [a0_0, (intA a0_1), (intA a0_2)]), a1, a2] R := own_of_F fol Tryz.func55 (code := c55) (by kernel_rfl) (by kernel_rfl) (by kernel_rfl) (X := F55 a0_0 a0_1 a0_2 a1 a2 R) (by kernel_rfl) h
/- slices.IndexFunc[[]skyway/api.Volume,skyway/api.Volume] -/
noncomputable def c81 : Code := ((Tryz.f81).body).getD .skip
noncomputable def q81 (R : AV → Mem → Prop) : AExit → St → Prop := retQ Tryz.prog Tryz.f81 R
noncomputable def c81_0 : Code := loopB c81 0
noncomputable def q81_0 (R : AV → Mem → Prop) : AExit → St → Prop := contW Tryz.prog KK 19 0 c81 0 (q81 R)
noncomputable def qq81_0 (R : AV → Mem → Prop) (N0 : St → Prop) : AExit → St → Prop := thenQ N0 (q81_0 R)
def h81_0 (t0 : AV) (t1 : AV) (t4 : Int) (t7 : Int) (t8 : Int) (m : Mem) : St := ⟨[(0, t0), (1, t1), (4, (intA t4)), (7, (intA t7)), (8, (intA t8))], m, 100000⟩
noncomputable def B81_0 (t0 : AV) (t1 : AV) (t4 : Int) (t7 : Int) (t8 : Int) (m : Mem) (R : AV → Mem → Prop) (N0 : St → Prop) : Prop :=
bif (decide (t8 < t7)) then (
opP (idxS 3 t0 (intA t8)) fun v2 =>
opP (ldA (mget m) 3 v2) fun v3 =>
exA3 v3 fun c4 c5 c6 =>
ex_i64 c5 fun z7 =>
ex_i64 c6 fun z8 =>
fnArgs (some t1) (some [(AV.agg [c4, (intA z7), (intA z8)])]) fun f9 a9 => bif KK.pm f9 then callQ Tryz.prog KK.gl m f9 a9 (fun v9 =>
exB v9 fun b10 =>
bif b10 then (
retL R m [some (intA t8)]) else (
N0 ⟨[(0, t0), (1, t1), (4, (intA t4)), (7, (intA t7)), (8, (intA (IntKind.wrap .i64 (t8 + (1))))), (9, (boolA (decide (t8 < t7)))), (10, (intA t8)), (5, (intA t8)), (11, t1), (12, t0), (13, (intA t8)), (14, v2), (15, (AV.agg [c4, (intA z7), (intA z8)])), (16, (boolA b10)), (18, (intA (IntKind.wrap .i64 (t8 + (1)))))], m, 100074⟩)) else callW Tryz.prog KK.gl m 100008 f9 a9 fun v9 m9 =>
exB v9 fun b10 =>
bif b10 then (
retL R m9 [some (intA t8)]) else (
N0 ⟨[(0, t0), (1, t1), (4, (intA t4)), (7, (intA t7)), (8, (intA (IntKind.wrap .i64 (t8 + (1))))), (9, (boolA (decide (t8 < t7)))), (10, (intA t8)), (5, (intA t8)), (11, t1), (12, t0), (13, (intA t8)), (14, v2), (15, (AV.agg [c4, (intA z7), (intA z8)])), (16, (boolA b10)), (18, (intA (IntKind.wrap .i64 (t8 + (1)))))], m9, 100074⟩)) else (
retL R m [some (intA (-1))])
theorem B81_0_eq (t0 : AV) (t1 : AV) (t4 : Int) (t7 : Int) (t8 : Int) (m : Mem) (R : AV → Mem → Prop) (N0 : St → Prop) : W Tryz.prog KK 19 0 c81_0 (h81_0 t0 t1 t4 t7 t8 m) (qq81_0 R N0) = B81_0 t0 t1 t4 t7 t8 m R N0 := by kernel_rfl
theorem L81_0 (R : AV → Mem → Prop) {σ : Type} (I : σ → Prop) (t0 : σ → AV) (t1 : σ → AV) (t4 : σ → Int) (t7 : σ → Int) (t8 : σ → Int) (m : σ → Mem) (μ : σ → Nat) (step : ∀ x, I x → B81_0 (t0 x) (t1 x) (t4 x) (t7 x) (t8 x) (m x) R (fun s' => ∃ y, I y ∧ μ y < μ x ∧ Weak KK 19 0 s' (h81_0 (t0 y) (t1 y) (t4 y) (t7 y) (t8 y) (m y)))) (x : σ) (hx : I x) {s : St} (hw : Weak KK 19 0 s (h81_0 (t0 x) (t1 x) (t4 x) (t7 x) (t8 x) (m x))) : Tri Tryz.prog KK 19 0 (.loop c81_0) s (q81_0 R) :=
  Tri.weak hw (Tri.loops fol I (fun x => h81_0 (t0 x) (t1 x) (t4 x) (t7 x) (t8 x) (m x)) μ (fun x hx => (B81_0_eq (t0 x) (t1 x) (t4 x) (t7 x) (t8 x) (m x) R _).mpr (step x hx)) x hx)
noncomputable def F81 (a0 : AV) (a1 : AV) (R : AV → Mem → Prop) : Prop :=
opP (lenS a0) fun v0 =>
ex_i64 v0 fun z1 =>
Tri Tryz.prog KK 19 0 (.loop c81_0) ⟨[(0, a0), (1, a1), (4, (intA (0))), (6, a0), (7, (intA z1)), (8, (intA (0)))], [], 4⟩ (q81_0 R)
theorem F81_own (a0 : AV) (a1 : AV) (R : AV → Mem → Prop) (h : F81 a0 a1 R) : Own Tryz.prog KK.gl 81 [a0, a1] R := own_of_F fol Tryz.func81 (code := c81) (by kernel_rfl) (by kernel_rfl) (by kernel_rfl) (X := F81 a0 a1 R) (by kernel_rfl) h
/- slices.ContainsFunc[[]skyway/api.Volume,skyway/api.Volume] -/
noncomputable def c54 : Code := ((Tryz.f54).body).getD .skip
noncomputable def q54 (R : AV → Mem → Prop) : AExit → St → Prop := retQ Tryz.prog Tryz.f54 R
noncomputable def F54 (a0 : AV) (a1 : AV) (R : AV → Mem → Prop) : Prop :=
callQ Tryz.prog KK.gl [] 81 [a0, a1] fun v0 =>
ex_i64 v0 fun z1 =>
retL R [] [some (boolA (decide (z1 ≥ (0))))]
theorem F54_own (a0 : AV) (a1 : AV) (R : AV → Mem → Prop) (h : F54 a0 a1 R) : Own Tryz.prog KK.gl 54 [a0, a1] R := own_of_F fol Tryz.func54 (code := c54) (by kernel_rfl) (by kernel_rfl) (by kernel_rfl) (X := F54 a0 a1 R) (by kernel_rfl) h
/- skyway/sector.Place$1 -/
noncomputable def c53 : Code := ((Tryz.f53).body).getD .skip
noncomputable def q53 (R : AV → Mem → Prop) : AExit → St → Prop := retQ Tryz.prog Tryz.f53 R
noncomputable def F53 (a0_0 : ByteArray) (a0_1 : AV) (a1 : AV) (a2 : AV) (R : AV → Mem → Prop) : Prop :=
chk (isCell a0_1) <| callQ Tryz.prog KK.gl ((0, some ⟨[(AV.sc (.string a0_0)), a0_1], 83⟩) :: []) 54 [a0_1, (AV.fn 55 [a1, a2])] fun v0 =>
exB v0 fun b1 =>
retL R ((0, some ⟨[(AV.sc (.string a0_0)), a0_1], 83⟩) :: []) [some (boolA b1)]
theorem F53_own (a0_0 : ByteArray) (a0_1 : AV) (a1 : AV) (a2 : AV) (R : AV → Mem → Prop) (h : F53 a0_0 a0_1 a1 a2 R) : Own Tryz.prog KK.gl 53 [(AV.agg [(AV.sc (.string a0_0)), a0_1]), a1, a2] R := own_of_F fol Tryz.func53 (code := c53) (by kernel_rfl) (by kernel_rfl) (by kernel_rfl) (X := F53 a0_0 a0_1 a1 a2 R) (by kernel_rfl) h
/- slices.IndexFunc[[]skyway/api.Sector,skyway/api.Sector] -/
noncomputable def c47 : Code := ((Tryz.f47).body).getD .skip
noncomputable def q47 (R : AV → Mem → Prop) : AExit → St → Prop := retQ Tryz.prog Tryz.f47 R
noncomputable def c47_0 : Code := loopB c47 0
noncomputable def q47_0 (R : AV → Mem → Prop) : AExit → St → Prop := contW Tryz.prog KK 19 0 c47 0 (q47 R)
noncomputable def qq47_0 (R : AV → Mem → Prop) (N0 : St → Prop) : AExit → St → Prop := thenQ N0 (q47_0 R)
def h47_0 (t0 : AV) (t1 : AV) (t4 : Int) (t7 : Int) (t8 : Int) (m : Mem) : St := ⟨[(0, t0), (1, t1), (4, (intA t4)), (7, (intA t7)), (8, (intA t8))], m, 100000⟩
noncomputable def B47_0 (t0 : AV) (t1 : AV) (t4 : Int) (t7 : Int) (t8 : Int) (m : Mem) (R : AV → Mem → Prop) (N0 : St → Prop) : Prop :=
bif (decide (t8 < t7)) then (
opP (idxS 2 t0 (intA t8)) fun v2 =>
opP (ldA (mget m) 2 v2) fun v3 =>
exA2 v3 fun c4 c5 =>
exStr c4 fun s6 =>
fnArgs (some t1) (some [(AV.agg [(AV.sc (.string s6)), c5])]) fun f7 a7 => bif KK.pm f7 then callQ Tryz.prog KK.gl m f7 a7 (fun v7 =>
exB v7 fun b8 =>
bif b8 then (
retL R m [some (intA t8)]) else (
N0 ⟨[(0, t0), (1, t1), (4, (intA t4)), (7, (intA t7)), (8, (intA (IntKind.wrap .i64 (t8 + (1))))), (9, (boolA (decide (t8 < t7)))), (10, (intA t8)), (5, (intA t8)), (11, t1), (12, t0), (13, (intA t8)), (14, v2), (15, (AV.agg [(AV.sc (.string s6)), c5])), (16, (boolA b8)), (18, (intA (IntKind.wrap .i64 (t8 + (1)))))], m, 100074⟩)) else callW Tryz.prog KK.gl m 100008 f7 a7 fun v7 m7 =>
exB v7 fun b8 =>
bif b8 then (
retL R m7 [some (intA t8)]) else (
N0 ⟨[(0, t0), (1, t1), (4, (intA t4)), (7, (intA t7)), (8, (intA (IntKind.wrap .i64 (t8 + (1))))), (9, (boolA (decide (t8 < t7)))), (10, (intA t8)), (5, (intA t8)), (11, t1), (12, t0), (13, (intA t8)), (14, v2), (15, (AV.agg [(AV.sc (.string s6)), c5])), (16, (boolA b8)), (18, (intA (IntKind.wrap .i64 (t8 + (1)))))], m7, 100074⟩)) else (
retL R m [some (intA (-1))])
theorem B47_0_eq (t0 : AV) (t1 : AV) (t4 : Int) (t7 : Int) (t8 : Int) (m : Mem) (R : AV → Mem → Prop) (N0 : St → Prop) : W Tryz.prog KK 19 0 c47_0 (h47_0 t0 t1 t4 t7 t8 m) (qq47_0 R N0) = B47_0 t0 t1 t4 t7 t8 m R N0 := by kernel_rfl
theorem L47_0 (R : AV → Mem → Prop) {σ : Type} (I : σ → Prop) (t0 : σ → AV) (t1 : σ → AV) (t4 : σ → Int) (t7 : σ → Int) (t8 : σ → Int) (m : σ → Mem) (μ : σ → Nat) (step : ∀ x, I x → B47_0 (t0 x) (t1 x) (t4 x) (t7 x) (t8 x) (m x) R (fun s' => ∃ y, I y ∧ μ y < μ x ∧ Weak KK 19 0 s' (h47_0 (t0 y) (t1 y) (t4 y) (t7 y) (t8 y) (m y)))) (x : σ) (hx : I x) {s : St} (hw : Weak KK 19 0 s (h47_0 (t0 x) (t1 x) (t4 x) (t7 x) (t8 x) (m x))) : Tri Tryz.prog KK 19 0 (.loop c47_0) s (q47_0 R) :=
  Tri.weak hw (Tri.loops fol I (fun x => h47_0 (t0 x) (t1 x) (t4 x) (t7 x) (t8 x) (m x)) μ (fun x hx => (B47_0_eq (t0 x) (t1 x) (t4 x) (t7 x) (t8 x) (m x) R _).mpr (step x hx)) x hx)
noncomputable def F47 (a0 : AV) (a1 : AV) (R : AV → Mem → Prop) : Prop :=
opP (lenS a0) fun v0 =>
ex_i64 v0 fun z1 =>
Tri Tryz.prog KK 19 0 (.loop c47_0) ⟨[(0, a0), (1, a1), (4, (intA (0))), (6, a0), (7, (intA z1)), (8, (intA (0)))], [], 4⟩ (q47_0 R)
theorem F47_own (a0 : AV) (a1 : AV) (R : AV → Mem → Prop) (h : F47 a0 a1 R) : Own Tryz.prog KK.gl 47 [a0, a1] R := own_of_F fol Tryz.func47 (code := c47) (by kernel_rfl) (by kernel_rfl) (by kernel_rfl) (X := F47 a0 a1 R) (by kernel_rfl) h
/- skyway/sector.Place -/
noncomputable def c40 : Code := ((Tryz.f40).body).getD .skip
noncomputable def q40 (R : AV → Mem → Prop) : AExit → St → Prop := retQ Tryz.prog Tryz.f40 R
noncomputable def F40 (a0 : AV) (a1_0 : Int) (a1_1 : Int) (a2 : Int) (R : AV → Mem → Prop) : Prop :=
callQ Tryz.prog KK.gl ((1, some ⟨[(intA a2)], 3⟩) :: (0, some ⟨[(intA a1_0), (intA a1_1)], 60⟩) :: []) 47 [a0, (AV.fn 53 [(AV.ptr 0 0), (AV.ptr 1 0)])] fun v0 =>
ex_i64 v0 fun z1 =>
retL R ((1, some ⟨[(intA a2)], 3⟩) :: (0, some ⟨[(intA a1_0), (intA a1_1)], 60⟩) :: []) [some (intA z1)]
theorem F40_own (a0 : AV) (a1_0 : Int) (a1_1 : Int) (a2 : Int) (R : AV → Mem → Prop) (h : F40 a0 a1_0 a1_1 a2 R) : Own Tryz.prog KK.gl 40 [a0, (AV.agg [(intA a1_0), (intA a1_1)]), (intA a2)] R := own_of_F fol Tryz.func40 (code := c40) (by kernel_rfl) (by kernel_rfl) (by kernel_rfl) (X := F40 a0 a1_0 a1_1 a2 R) (by kernel_rfl) h
/- skyway/chart.Name -/
noncomputable def c45 : Code := ((Tryz.f45).body).getD .skip
noncomputable def q45 (R : AV → Mem → Prop) : AExit → St → Prop := retQ Tryz.prog Tryz.f45 R
noncomputable def c45_0 : Code := loopB c45 0
noncomputable def q45_0 (R : AV → Mem → Prop) : AExit → St → Prop := contW Tryz.prog KK 41 0 c45 0 (q45 R)
noncomputable def qq45_0 (R : AV → Mem → Prop) (N0 : St → Prop) : AExit → St → Prop := thenQ N0 (q45_0 R)
def h45_0 (t2 : Bool) (t14 : AV) (t15 : Int) (t16 : Int) (m : Mem) : St := ⟨[(2, (boolA t2)), (14, t14), (15, (intA t15)), (16, (intA t16))], m, 100000⟩
noncomputable def B45_0 (t2 : Bool) (t14 : AV) (t15 : Int) (t16 : Int) (m : Mem) (R : AV → Mem → Prop) (N0 : St → Prop) : Prop :=
bif (decide (t16 < t15)) then (
opP (idxS 1 t14 (intA t16)) fun v7 =>
opP (ldS (mget m) v7) fun v8 =>
ex_u8 v8 fun z9 =>
bif (decide (z9 ≥ (65))) then (
bif (decide (z9 ≤ (90))) then (
N0 ⟨[(2, (boolA t2)), (14, t14), (15, (intA t15)), (16, (intA (IntKind.wrap .i64 (t16 + (1))))), (17, (boolA (decide (t16 < t15)))), (18, (intA t16)), (19, v7), (20, (AV.sc (.int .u8 z9))), (3, (intA t16)), (4, (AV.sc (.int .u8 z9))), (21, (AV.sc (.int .u8 z9))), (22, (boolA (decide (z9 ≥ (65))))), (23, (boolA true)), (24, (AV.sc (.int .u8 z9))), (25, (boolA (decide (z9 ≤ (90))))), (26, (boolA (decide (z9 ≤ (90))))), (27, (boolA true)), (28, (AV.tup [])), (29, (AV.tup [])), (30, (AV.tup [])), (31, (AV.tup [])), (32, (AV.tup [])), (33, (AV.tup [])), (34, (AV.tup [])), (35, (AV.tup [])), (36, (AV.tup [])), (37, (AV.tup [])), (38, (boolA true)), (39, (boolA false)), (40, (intA (IntKind.wrap .i64 (t16 + (1)))))], m, 100017⟩) else (
bif (decide (t16 > (0))) then (
bif (decide (z9 ≥ (48))) then (
bif (!(decide (z9 ≤ (57)))) then (
retL R m [some (boolA false)]) else (
N0 ⟨[(2, (boolA t2)), (14, t14), (15, (intA t15)), (16, (intA (IntKind.wrap .i64 (t16 + (1))))), (17, (boolA (decide (t16 < t15)))), (18, (intA t16)), (19, v7), (20, (AV.sc (.int .u8 z9))), (3, (intA t16)), (4, (AV.sc (.int .u8 z9))), (21, (AV.sc (.int .u8 z9))), (22, (boolA (decide (z9 ≥ (65))))), (23, (boolA true)), (24, (AV.sc (.int .u8 z9))), (25, (boolA (decide (z9 ≤ (90))))), (26, (boolA (decide (z9 ≤ (90))))), (27, (boolA false)), (28, (intA t16)), (29, (boolA (decide (t16 > (0))))), (30, (boolA true)), (31, (AV.sc (.int .u8 z9))), (32, (boolA (decide (z9 ≥ (48))))), (33, (boolA (decide (z9 ≥ (48))))), (34, (boolA true)), (35, (AV.sc (.int .u8 z9))), (36, (boolA (decide (z9 ≤ (57))))), (37, (boolA (decide (z9 ≤ (57))))), (38, (boolA (decide (z9 ≤ (57))))), (39, (boolA (!(decide (z9 ≤ (57)))))), (40, (intA (IntKind.wrap .i64 (t16 + (1)))))], m, 100027⟩)) else (
retL R m [some (boolA false)])) else (
retL R m [some (boolA false)]))) else (
bif (decide (t16 > (0))) then (
bif (decide (z9 ≥ (48))) then (
bif (!(decide (z9 ≤ (57)))) then (
retL R m [some (boolA false)]) else (
N0 ⟨[(2, (boolA t2)), (14, t14), (15, (intA t15)), (16, (intA (IntKind.wrap .i64 (t16 + (1))))), (17, (boolA (decide (t16 < t15)))), (18, (intA t16)), (19, v7), (20, (AV.sc (.int .u8 z9))), (3, (intA t16)), (4, (AV.sc (.int .u8 z9))), (21, (AV.sc (.int .u8 z9))), (22, (boolA (decide (z9 ≥ (65))))), (23, (boolA false)), (24, (AV.tup [])), (25, (AV.tup [])), (26, (boolA false)), (27, (boolA false)), (28, (intA t16)), (29, (boolA (decide (t16 > (0))))), (30, (boolA true)), (31, (AV.sc (.int .u8 z9))), (32, (boolA (decide (z9 ≥ (48))))), (33, (boolA (decide (z9 ≥ (48))))), (34, (boolA true)), (35, (AV.sc (.int .u8 z9))), (36, (boolA (decide (z9 ≤ (57))))), (37, (boolA (decide (z9 ≤ (57))))), (38, (boolA (decide (z9 ≤ (57))))), (39, (boolA (!(decide (z9 ≤ (57)))))), (40, (intA (IntKind.wrap .i64 (t16 + (1)))))], m, 100025⟩)) else (
retL R m [some (boolA false)])) else (
retL R m [some (boolA false)]))) else (
retL R m [some (boolA true)])
theorem B45_0_eq (t2 : Bool) (t14 : AV) (t15 : Int) (t16 : Int) (m : Mem) (R : AV → Mem → Prop) (N0 : St → Prop) : W Tryz.prog KK 41 0 c45_0 (h45_0 t2 t14 t15 t16 m) (qq45_0 R N0) = B45_0 t2 t14 t15 t16 m R N0 := by kernel_rfl
theorem L45_0 (R : AV → Mem → Prop) {σ : Type} (I : σ → Prop) (t2 : σ → Bool) (t14 : σ → AV) (t15 : σ → Int) (t16 : σ → Int) (m : σ → Mem) (μ : σ → Nat) (step : ∀ x, I x → B45_0 (t2 x) (t14 x) (t15 x) (t16 x) (m x) R (fun s' => ∃ y, I y ∧ μ y < μ x ∧ Weak KK 41 0 s' (h45_0 (t2 y) (t14 y) (t15 y) (t16 y) (m y)))) (x : σ) (hx : I x) {s : St} (hw : Weak KK 41 0 s (h45_0 (t2 x) (t14 x) (t15 x) (t16 x) (m x))) : Tri Tryz.prog KK 41 0 (.loop c45_0) s (q45_0 R) :=
  Tri.weak hw (Tri.loops fol I (fun x => h45_0 (t2 x) (t14 x) (t15 x) (t16 x) (m x)) μ (fun x hx => (B45_0_eq (t2 x) (t14 x) (t15 x) (t16 x) (m x) R _).mpr (step x hx)) x hx)
noncomputable def F45 (a0 : ByteArray) (R : AV → Mem → Prop) : Prop :=
opP (opA Tryz.prog (.call ⟨.builtin .len, #[.tmp 0], #[9]⟩) 3 [(AV.sc (.string a0))] (mget []) 2) fun v0 =>
ex_i64 v0 fun z1 =>
bif (decide (z1 < (1))) then (
retL R [] [some (boolA false)]) else (
opP (opA Tryz.prog (.call ⟨.builtin .len, #[.tmp 0], #[9]⟩) 3 [(AV.sc (.string a0))] (mget []) 6) fun v2 =>
ex_i64 v2 fun z3 =>
bif (decide (z3 > (8))) then (
retL R [] [some (boolA false)]) else (
opP (opA Tryz.prog (.convert 9 129 (.tmp 0)) 129 [(AV.sc (.string a0))] (mget []) 10) fun v4 =>
opP (lenS v4) fun v5 =>
ex_i64 v5 fun z6 =>
Tri Tryz.prog KK 41 0 (.loop c45_0) ⟨[(0, (AV.sc (.string a0))), (2, (boolA false)), (5, (AV.sc (.string a0))), (6, (intA z1)), (7, (boolA (decide (z1 < (1))))), (8, (boolA false)), (9, (AV.sc (.string a0))), (10, (intA z3)), (11, (boolA (decide (z3 > (8))))), (12, (boolA (decide (z3 > (8))))), (13, (AV.sc (.string a0))), (14, v4), (15, (intA z6)), (16, (intA (0)))], [], 13⟩ (q45_0 R)))
theorem F45_own (a0 : ByteArray) (R : AV → Mem → Prop) (h : F45 a0 R) : Own Tryz.prog KK.gl 45 [(AV.sc (.string a0))] R := own_of_F fol Tryz.func45 (code := c45) (by kernel_rfl) (by kernel_rfl) (by kernel_rfl) (X := F45 a0 R) (by kernel_rfl) h
/- skyway/sector.Name -/
noncomputable def c34 : Code := ((Tryz.f34).body).getD .skip
noncomputable def q34 (R : AV → Mem → Prop) : AExit → St → Prop := retQ Tryz.prog Tryz.f34 R
noncomputable def F34 (a0 : ByteArray) (R : AV → Mem → Prop) : Prop :=
callQ Tryz.prog KK.gl [] 45 [(AV.sc (.string a0))] fun v0 =>
exB v0 fun b1 =>
retL R [] [some (boolA b1)]
theorem F34_own (a0 : ByteArray) (R : AV → Mem → Prop) (h : F34 a0 R) : Own Tryz.prog KK.gl 34 [(AV.sc (.string a0))] R := own_of_F fol Tryz.func34 (code := c34) (by kernel_rfl) (by kernel_rfl) (by kernel_rfl) (X := F34 a0 R) (by kernel_rfl) h
/- skyway/polygon.crosses -/
noncomputable def c73 : Code := ((Tryz.f73).body).getD .skip
noncomputable def q73 (R : AV → Mem → Prop) : AExit → St → Prop := retQ Tryz.prog Tryz.f73 R
noncomputable def F73 (a0_0 : Int) (a0_1 : Int) (a1_0 : Int) (a1_1 : Int) (a2_0 : Int) (a2_1 : Int) (a3_0 : Int) (a3_1 : Int) (R : AV → Mem → Prop) : Prop :=
callQ Tryz.prog KK.gl ((3, some ⟨[(intA a3_0), (intA a3_1)], 60⟩) :: (2, some ⟨[(intA a2_0), (intA a2_1)], 60⟩) :: (1, some ⟨[(intA a1_0), (intA a1_1)], 60⟩) :: (0, some ⟨[(intA a0_0), (intA a0_1)], 60⟩) :: []) 69 [(AV.agg [(intA a0_0), (intA a0_1)]), (AV.agg [(intA a1_0), (intA a1_1)]), (AV.agg [(intA a2_0), (intA a2_1)])] fun v0 =>
ex_i64 v0 fun z1 =>
callQ Tryz.prog KK.gl ((3, some ⟨[(intA a3_0), (intA a3_1)], 60⟩) :: (2, some ⟨[(intA a2_0), (intA a2_1)], 60⟩) :: (1, some ⟨[(intA a1_0), (intA a1_1)], 60⟩) :: (0, some ⟨[(intA a0_0), (intA a0_1)], 60⟩) :: []) 69 [(AV.agg [(intA a0_0), (intA a0_1)]), (AV.agg [(intA a1_0), (intA a1_1)]), (AV.agg [(intA a3_0), (intA a3_1)])] fun v2 =>
ex_i64 v2 fun z3 =>
bif (decide ((IntKind.wrap .i64 (z1 * z3)) < (0))) then (
callQ Tryz.prog KK.gl ((3, some ⟨[(intA a3_0), (intA a3_1)], 60⟩) :: (2, some ⟨[(intA a2_0), (intA a2_1)], 60⟩) :: (1, some ⟨[(intA a1_0), (intA a1_1)], 60⟩) :: (0, some ⟨[(intA a0_0), (intA a0_1)], 60⟩) :: []) 69 [(AV.agg [(intA a2_0), (intA a2_1)]), (AV.agg [(intA a3_0), (intA a3_1)]), (AV.agg [(intA a0_0), (intA a0_1)])] fun v4 =>
ex_i64 v4 fun z5 =>
callQ Tryz.prog KK.gl ((3, some ⟨[(intA a3_0), (intA a3_1)], 60⟩) :: (2, some ⟨[(intA a2_0), (intA a2_1)], 60⟩) :: (1, some ⟨[(intA a1_0), (intA a1_1)], 60⟩) :: (0, some ⟨[(intA a0_0), (intA a0_1)], 60⟩) :: []) 69 [(AV.agg [(intA a2_0), (intA a2_1)]), (AV.agg [(intA a3_0), (intA a3_1)]), (AV.agg [(intA a1_0), (intA a1_1)])] fun v6 =>
ex_i64 v6 fun z7 =>
retL R ((3, some ⟨[(intA a3_0), (intA a3_1)], 60⟩) :: (2, some ⟨[(intA a2_0), (intA a2_1)], 60⟩) :: (1, some ⟨[(intA a1_0), (intA a1_1)], 60⟩) :: (0, some ⟨[(intA a0_0), (intA a0_1)], 60⟩) :: []) [some (boolA (decide ((IntKind.wrap .i64 (z5 * z7)) < (0))))]) else (
retL R ((3, some ⟨[(intA a3_0), (intA a3_1)], 60⟩) :: (2, some ⟨[(intA a2_0), (intA a2_1)], 60⟩) :: (1, some ⟨[(intA a1_0), (intA a1_1)], 60⟩) :: (0, some ⟨[(intA a0_0), (intA a0_1)], 60⟩) :: []) [some (boolA false)])
theorem F73_own (a0_0 : Int) (a0_1 : Int) (a1_0 : Int) (a1_1 : Int) (a2_0 : Int) (a2_1 : Int) (a3_0 : Int) (a3_1 : Int) (R : AV → Mem → Prop) (h : F73 a0_0 a0_1 a1_0 a1_1 a2_0 a2_1 a3_0 a3_1 R) : Own Tryz.prog KK.gl 73 [(AV.agg [(intA a0_0), (intA a0_1)]), (AV.agg [(intA a1_0), (intA a1_1)]), (AV.agg [(intA a2_0), (intA a2_1)]), (AV.agg [(intA a3_0), (intA a3_1)])] R := own_of_F fol Tryz.func73 (code := c73) (by kernel_rfl) (by kernel_rfl) (by kernel_rfl) (X := F73 a0_0 a0_1 a1_0 a1_1 a2_0 a2_1 a3_0 a3_1 R) (by kernel_rfl) h
/- skyway/polygon.Common -/
noncomputable def c71 : Code := ((Tryz.f71).body).getD .skip
noncomputable def q71 (R : AV → Mem → Prop) : AExit → St → Prop := retQ Tryz.prog Tryz.f71 R
noncomputable def F71 (a0_0 : Int) (a0_1 : Int) (a1_0 : Int) (a1_1 : Int) (a2_0 : Int) (a2_1 : Int) (a3_0 : Int) (a3_1 : Int) (R : AV → Mem → Prop) : Prop :=
callQ Tryz.prog KK.gl ((3, some ⟨[(intA a3_0), (intA a3_1)], 60⟩) :: (2, some ⟨[(intA a2_0), (intA a2_1)], 60⟩) :: (1, some ⟨[(intA a1_0), (intA a1_1)], 60⟩) :: (0, some ⟨[(intA a0_0), (intA a0_1)], 60⟩) :: []) 73 [(AV.agg [(intA a0_0), (intA a0_1)]), (AV.agg [(intA a1_0), (intA a1_1)]), (AV.agg [(intA a2_0), (intA a2_1)]), (AV.agg [(intA a3_0), (intA a3_1)])] fun v0 =>
exB v0 fun b1 =>
bif b1 then (
retL R ((3, some ⟨[(intA a3_0), (intA a3_1)], 60⟩) :: (2, some ⟨[(intA a2_0), (intA a2_1)], 60⟩) :: (1, some ⟨[(intA a1_0), (intA a1_1)], 60⟩) :: (0, some ⟨[(intA a0_0), (intA a0_1)], 60⟩) :: []) [some (boolA true)]) else (
callQ Tryz.prog KK.gl ((3, some ⟨[(intA a3_0), (intA a3_1)], 60⟩) :: (2, some ⟨[(intA a2_0), (intA a2_1)], 60⟩) :: (1, some ⟨[(intA a1_0), (intA a1_1)], 60⟩) :: (0, some ⟨[(intA a0_0), (intA a0_1)], 60⟩) :: []) 90 [(AV.agg [(intA a0_0), (intA a0_1)]), (AV.agg [(intA a1_0), (intA a1_1)]), (AV.agg [(intA a2_0), (intA a2_1)])] fun v2 =>
exB v2 fun b3 =>
bif b3 then (
retL R ((3, some ⟨[(intA a3_0), (intA a3_1)], 60⟩) :: (2, some ⟨[(intA a2_0), (intA a2_1)], 60⟩) :: (1, some ⟨[(intA a1_0), (intA a1_1)], 60⟩) :: (0, some ⟨[(intA a0_0), (intA a0_1)], 60⟩) :: []) [some (boolA true)]) else (
callQ Tryz.prog KK.gl ((3, some ⟨[(intA a3_0), (intA a3_1)], 60⟩) :: (2, some ⟨[(intA a2_0), (intA a2_1)], 60⟩) :: (1, some ⟨[(intA a1_0), (intA a1_1)], 60⟩) :: (0, some ⟨[(intA a0_0), (intA a0_1)], 60⟩) :: []) 90 [(AV.agg [(intA a0_0), (intA a0_1)]), (AV.agg [(intA a1_0), (intA a1_1)]), (AV.agg [(intA a3_0), (intA a3_1)])] fun v4 =>
exB v4 fun b5 =>
bif b5 then (
retL R ((3, some ⟨[(intA a3_0), (intA a3_1)], 60⟩) :: (2, some ⟨[(intA a2_0), (intA a2_1)], 60⟩) :: (1, some ⟨[(intA a1_0), (intA a1_1)], 60⟩) :: (0, some ⟨[(intA a0_0), (intA a0_1)], 60⟩) :: []) [some (boolA true)]) else (
callQ Tryz.prog KK.gl ((3, some ⟨[(intA a3_0), (intA a3_1)], 60⟩) :: (2, some ⟨[(intA a2_0), (intA a2_1)], 60⟩) :: (1, some ⟨[(intA a1_0), (intA a1_1)], 60⟩) :: (0, some ⟨[(intA a0_0), (intA a0_1)], 60⟩) :: []) 90 [(AV.agg [(intA a2_0), (intA a2_1)]), (AV.agg [(intA a3_0), (intA a3_1)]), (AV.agg [(intA a0_0), (intA a0_1)])] fun v6 =>
exB v6 fun b7 =>
bif b7 then (
retL R ((3, some ⟨[(intA a3_0), (intA a3_1)], 60⟩) :: (2, some ⟨[(intA a2_0), (intA a2_1)], 60⟩) :: (1, some ⟨[(intA a1_0), (intA a1_1)], 60⟩) :: (0, some ⟨[(intA a0_0), (intA a0_1)], 60⟩) :: []) [some (boolA true)]) else (
callQ Tryz.prog KK.gl ((3, some ⟨[(intA a3_0), (intA a3_1)], 60⟩) :: (2, some ⟨[(intA a2_0), (intA a2_1)], 60⟩) :: (1, some ⟨[(intA a1_0), (intA a1_1)], 60⟩) :: (0, some ⟨[(intA a0_0), (intA a0_1)], 60⟩) :: []) 90 [(AV.agg [(intA a2_0), (intA a2_1)]), (AV.agg [(intA a3_0), (intA a3_1)]), (AV.agg [(intA a1_0), (intA a1_1)])] fun v8 =>
exB v8 fun b9 =>
retL R ((3, some ⟨[(intA a3_0), (intA a3_1)], 60⟩) :: (2, some ⟨[(intA a2_0), (intA a2_1)], 60⟩) :: (1, some ⟨[(intA a1_0), (intA a1_1)], 60⟩) :: (0, some ⟨[(intA a0_0), (intA a0_1)], 60⟩) :: []) [some (boolA b9)]))))
theorem F71_own (a0_0 : Int) (a0_1 : Int) (a1_0 : Int) (a1_1 : Int) (a2_0 : Int) (a2_1 : Int) (a3_0 : Int) (a3_1 : Int) (R : AV → Mem → Prop) (h : F71 a0_0 a0_1 a1_0 a1_1 a2_0 a2_1 a3_0 a3_1 R) : Own Tryz.prog KK.gl 71 [(AV.agg [(intA a0_0), (intA a0_1)]), (AV.agg [(intA a1_0), (intA a1_1)]), (AV.agg [(intA a2_0), (intA a2_1)]), (AV.agg [(intA a3_0), (intA a3_1)])] R := own_of_F fol Tryz.func71 (code := c71) (by kernel_rfl) (by kernel_rfl) (by kernel_rfl) (X := F71 a0_0 a0_1 a1_0 a1_1 a2_0 a2_1 a3_0 a3_1 R) (by kernel_rfl) h
/- skyway/polygon.twice -/
noncomputable def c72 : Code := ((Tryz.f72).body).getD .skip
noncomputable def q72 (R : AV → Mem → Prop) : AExit → St → Prop := retQ Tryz.prog Tryz.f72 R
noncomputable def c72_0 : Code := loopB c72 0
noncomputable def q72_0 (R : AV → Mem → Prop) : AExit → St → Prop := contW Tryz.prog KK 22 0 c72 0 (q72 R)
noncomputable def qq72_0 (R : AV → Mem → Prop) (N0 : St → Prop) : AExit → St → Prop := thenQ N0 (q72_0 R)
def h72_0 (t0 : AV) (t2 : Int) (t3 : Int) (t6 : Int) (t7 : Int) (m : Mem) : St := ⟨[(0, t0), (2, (intA t2)), (3, (intA t3)), (6, (intA t6)), (7, (intA t7))], m, 100000⟩
noncomputable def B72_0 (t0 : AV) (t2 : Int) (t3 : Int) (t6 : Int) (t7 : Int) (m : Mem) (R : AV → Mem → Prop) (N0 : St → Prop) : Prop :=
bif (decide (t7 < t6)) then (
opP (idxS 2 t0 (intA t7)) fun v2 =>
opP (ldA (mget m) 2 v2) fun v3 =>
exA2 v3 fun c4 c5 =>
ex_i64 c4 fun z6 =>
ex_i64 c5 fun z7 =>
callQ Tryz.prog KK.gl m 70 [t0, (intA t7)] fun v8 =>
exA2 v8 fun c9 c10 =>
ex_i64 c9 fun z11 =>
ex_i64 c10 fun z12 =>
callQ Tryz.prog KK.gl m 88 [(AV.agg [(intA z6), (intA z7)]), (AV.agg [(intA z11), (intA z12)])] fun v13 =>
ex_i64 v13 fun z14 =>
N0 ⟨[(0, t0), (2, (intA t2)), (3, (intA (IntKind.wrap .i64 (t3 + z14)))), (6, (intA t6)), (7, (intA (IntKind.wrap .i64 (t7 + (1))))), (8, (boolA (decide (t7 < t6)))), (9, (intA t7)), (4, (intA t7)), (10, (intA t3)), (11, t0), (12, (intA t7)), (13, v2), (14, (AV.agg [(intA z6), (intA z7)])), (15, t0), (16, (intA t7)), (17, (AV.agg [(intA z11), (intA z12)])), (18, (intA z14)), (19, (intA (IntKind.wrap .i64 (t3 + z14)))), (20, (intA (IntKind.wrap .i64 (t7 + (1)))))], m, 100016⟩) else (
retL R m [some (intA t3)])
theorem B72_0_eq (t0 : AV) (t2 : Int) (t3 : Int) (t6 : Int) (t7 : Int) (m : Mem) (R : AV → Mem → Prop) (N0 : St → Prop) : W Tryz.prog KK 22 0 c72_0 (h72_0 t0 t2 t3 t6 t7 m) (qq72_0 R N0) = B72_0 t0 t2 t3 t6 t7 m R N0 := by kernel_rfl
theorem L72_0 (R : AV → Mem → Prop) {σ : Type} (I : σ → Prop) (t0 : σ → AV) (t2 : σ → Int) (t3 : σ → Int) (t6 : σ → Int) (t7 : σ → Int) (m : σ → Mem) (μ : σ → Nat) (step : ∀ x, I x → B72_0 (t0 x) (t2 x) (t3 x) (t6 x) (t7 x) (m x) R (fun s' => ∃ y, I y ∧ μ y < μ x ∧ Weak KK 22 0 s' (h72_0 (t0 y) (t2 y) (t3 y) (t6 y) (t7 y) (m y)))) (x : σ) (hx : I x) {s : St} (hw : Weak KK 22 0 s (h72_0 (t0 x) (t2 x) (t3 x) (t6 x) (t7 x) (m x))) : Tri Tryz.prog KK 22 0 (.loop c72_0) s (q72_0 R) :=
  Tri.weak hw (Tri.loops fol I (fun x => h72_0 (t0 x) (t2 x) (t3 x) (t6 x) (t7 x) (m x)) μ (fun x hx => (B72_0_eq (t0 x) (t2 x) (t3 x) (t6 x) (t7 x) (m x) R _).mpr (step x hx)) x hx)
noncomputable def F72 (a0 : AV) (R : AV → Mem → Prop) : Prop :=
opP (lenS a0) fun v0 =>
ex_i64 v0 fun z1 =>
Tri Tryz.prog KK 22 0 (.loop c72_0) ⟨[(0, a0), (2, (intA (0))), (3, (intA (0))), (5, a0), (6, (intA z1)), (7, (intA (0)))], [], 5⟩ (q72_0 R)
theorem F72_own (a0 : AV) (R : AV → Mem → Prop) (h : F72 a0 R) : Own Tryz.prog KK.gl 72 [a0] R := own_of_F fol Tryz.func72 (code := c72) (by kernel_rfl) (by kernel_rfl) (by kernel_rfl) (X := F72 a0 R) (by kernel_rfl) h
/- skyway/polygon.Check -/
noncomputable def c46 : Code := ((Tryz.f46).body).getD .skip
noncomputable def q46 (R : AV → Mem → Prop) : AExit → St → Prop := retQ Tryz.prog Tryz.f46 R
noncomputable def c46_0 : Code := loopB c46 0
noncomputable def q46_0 (R : AV → Mem → Prop) : AExit → St → Prop := contW Tryz.prog KK 84 0 c46 0 (q46 R)
noncomputable def qq46_0 (R : AV → Mem → Prop) (N0 : St → Prop) : AExit → St → Prop := thenQ N0 (q46_0 R)
def h46_0 (t0 : AV) (t2 : Int) (t3 : Int) (t17 : AV) (t18 : Int) (t19 : Int) (m : Mem) : St := ⟨[(0, t0), (2, (intA t2)), (3, (intA t3)), (17, t17), (18, (intA t18)), (19, (intA t19))], m, 100000⟩
noncomputable def c46_1 : Code := loopB c46 1
noncomputable def q46_1 (R : AV → Mem → Prop) : AExit → St → Prop := contW Tryz.prog KK 84 0 c46 1 (q46 R)
noncomputable def qq46_1 (R : AV → Mem → Prop) (N0 : St → Prop) : AExit → St → Prop := thenQ N0 (q46_1 R)
def h46_1 (t0 : AV) (t2 : Int) (t3 : Int) (t30 : Int) (t31 : Int) (m : Mem) : St := ⟨[(0, t0), (2, (intA t2)), (3, (intA t3)), (30, (intA t30)), (31, (intA t31))], m, 200000⟩
noncomputable def c46_1_0 : Code := loopB c46_1 0
noncomputable def q46_1_0 (R : AV → Mem → Prop) (N0 : St → Prop) : AExit → St → Prop := contW Tryz.prog KK 84 0 c46_1 0 (qq46_1 R N0)
noncomputable def qq46_1_0 (R : AV → Mem → Prop) (N0 : St → Prop) (N1 : St → Prop) : AExit → St → Prop := thenQ N1 (q46_1_0 R N0)
def h46_1_0 (t0 : AV) (t2 : Int) (t3 : Int) (t7 : Int) (t8 : Int) (t30 : Int) (t31 : Int) (m : Mem) : St := ⟨[(0, t0), (2, (intA t2)), (3, (intA t3)), (7, (intA t7)), (8, (intA t8)), (30, (intA t30)), (31, (intA t31))], m, 300000⟩
noncomputable def B46_0 (t0 : AV) (t2 : Int) (t3 : Int) (t17 : AV) (t18 : Int) (t19 : Int) (m : Mem) (R : AV → Mem → Prop) (N0 : St → Prop) : Prop :=
bif (decide (t19 < t18)) then (
opP (idxS 2 t17 (intA t19)) fun v4 =>
opP (ldA (mget m) 2 v4) fun v5 =>
exA2 v5 fun c6 c7 =>
ex_i64 c6 fun z8 =>
ex_i64 c7 fun z9 =>
callQ Tryz.prog KK.gl ((100003, some ⟨[(intA z8), (intA z9)], 60⟩) :: (100003, some ⟨[(intA (0)), (intA (0))], 60⟩) :: m) 33 [(AV.agg [(intA z8), (intA z9)])] fun v10 =>
ex_i64 v10 fun z11 =>
bif (z11 != (0)) then (
retL R ((100003, some ⟨[(intA z8), (intA z9)], 60⟩) :: (100003, some ⟨[(intA (0)), (intA (0))], 60⟩) :: m) [some (intA z11)]) else (
N0 ⟨[(0, t0), (2, (intA t2)), (3, (intA t3)), (17, t17), (18, (intA t18)), (19, (intA (IntKind.wrap .i64 (t19 + (1))))), (20, (boolA (decide (t19 < t18)))), (21, v4), (22, (AV.agg [(intA z8), (intA z9)])), (5, (AV.ptr 100003 0)), (23, (AV.agg [(intA z8), (intA z9)])), (24, (intA z11)), (6, (intA z11)), (25, (intA z11)), (26, (boolA (z11 != (0)))), (28, (intA (IntKind.wrap .i64 (t19 + (1)))))], ((100003, some ⟨[(intA z8), (intA z9)], 60⟩) :: (100003, some ⟨[(intA (0)), (intA (0))], 60⟩) :: m), 100075⟩)) else (
opP (lenS t0) fun v12 =>
ex_i64 v12 fun z13 =>
Tri Tryz.prog KK 84 0 (.loop c46_1) ⟨[(0, t0), (2, (intA t2)), (3, (intA t3)), (17, t17), (18, (intA t18)), (19, (intA t19)), (20, (boolA (decide (t19 < t18)))), (29, t0), (30, (intA z13)), (31, (intA (0)))], m, 100004⟩ (q46_1 R))
theorem B46_0_eq (t0 : AV) (t2 : Int) (t3 : Int) (t17 : AV) (t18 : Int) (t19 : Int) (m : Mem) (R : AV → Mem → Prop) (N0 : St → Prop) : W Tryz.prog KK 84 0 c46_0 (h46_0 t0 t2 t3 t17 t18 t19 m) (qq46_0 R N0) = B46_0 t0 t2 t3 t17 t18 t19 m R N0 := by kernel_rfl
theorem L46_0 (R : AV → Mem → Prop) {σ : Type} (I : σ → Prop) (t0 : σ → AV) (t2 : σ → Int) (t3 : σ → Int) (t17 : σ → AV) (t18 : σ → Int) (t19 : σ → Int) (m : σ → Mem) (μ : σ → Nat) (step : ∀ x, I x → B46_0 (t0 x) (t2 x) (t3 x) (t17 x) (t18 x) (t19 x) (m x) R (fun s' => ∃ y, I y ∧ μ y < μ x ∧ Weak KK 84 0 s' (h46_0 (t0 y) (t2 y) (t3 y) (t17 y) (t18 y) (t19 y) (m y)))) (x : σ) (hx : I x) {s : St} (hw : Weak KK 84 0 s (h46_0 (t0 x) (t2 x) (t3 x) (t17 x) (t18 x) (t19 x) (m x))) : Tri Tryz.prog KK 84 0 (.loop c46_0) s (q46_0 R) :=
  Tri.weak hw (Tri.loops fol I (fun x => h46_0 (t0 x) (t2 x) (t3 x) (t17 x) (t18 x) (t19 x) (m x)) μ (fun x hx => (B46_0_eq (t0 x) (t2 x) (t3 x) (t17 x) (t18 x) (t19 x) (m x) R _).mpr (step x hx)) x hx)
noncomputable def B46_1 (t0 : AV) (t2 : Int) (t3 : Int) (t30 : Int) (t31 : Int) (m : Mem) (R : AV → Mem → Prop) (N0 : St → Prop) : Prop :=
bif (decide (t31 < t30)) then (
opP (idxS 2 t0 (intA t31)) fun v14 =>
opP (ldA (mget m) 2 v14) fun v15 =>
exA2 v15 fun c16 c17 =>
ex_i64 c16 fun z18 =>
ex_i64 c17 fun z19 =>
callQ Tryz.prog KK.gl m 70 [t0, (intA t31)] fun v20 =>
exA2 v20 fun c21 c22 =>
ex_i64 c21 fun z23 =>
ex_i64 c22 fun z24 =>
opP (opA Tryz.prog (.binOp .rem 3 (.tmp 0) (.tmp 1) 3) 3 [(intA (IntKind.wrap .i64 (t31 + (2)))), (intA t3)] (mget m) 200014) fun v25 =>
ex_i64 v25 fun z26 =>
opP (idxS 2 t0 (intA z26)) fun v27 =>
opP (ldA (mget m) 2 v27) fun v28 =>
exA2 v28 fun c29 c30 =>
ex_i64 c29 fun z31 =>
ex_i64 c30 fun z32 =>
callQ Tryz.prog KK.gl m 69 [(AV.agg [(intA z18), (intA z19)]), (AV.agg [(intA z23), (intA z24)]), (AV.agg [(intA z31), (intA z32)])] fun v33 =>
ex_i64 v33 fun z34 =>
bif (z34 == (0)) then (
retL R m [some (intA (3))]) else (
Tri Tryz.prog KK 84 0 (.loop c46_1_0) ⟨[(0, t0), (2, (intA t2)), (3, (intA t3)), (30, (intA t30)), (31, (intA t31)), (32, (boolA (decide (t31 < t30)))), (33, (intA t31)), (7, (intA t31)), (34, t0), (35, (intA t31)), (36, v14), (37, (AV.agg [(intA z18), (intA z19)])), (38, t0), (39, (intA t31)), (40, (AV.agg [(intA z23), (intA z24)])), (41, t0), (42, (intA t31)), (43, (intA (IntKind.wrap .i64 (t31 + (2))))), (44, (intA t3)), (45, (intA z26)), (46, v27), (47, (AV.agg [(intA z31), (intA z32)])), (48, (intA z34)), (49, (boolA (z34 == (0)))), (50, (intA t31)), (51, (intA (IntKind.wrap .i64 (t31 + (2))))), (8, (intA (IntKind.wrap .i64 (t31 + (2)))))], m, 200022⟩ (q46_1_0 R N0))) else (
callQ Tryz.prog KK.gl m 72 [t0] fun v61 =>
ex_i64 v61 fun z62 =>
bif (decide (z62 ≤ (0))) then (
retL R m [some (intA (3))]) else (
retL R m [some (intA (0))]))
theorem B46_1_eq (t0 : AV) (t2 : Int) (t3 : Int) (t30 : Int) (t31 : Int) (m : Mem) (R : AV → Mem → Prop) (N0 : St → Prop) : W Tryz.prog KK 84 0 c46_1 (h46_1 t0 t2 t3 t30 t31 m) (qq46_1 R N0) = B46_1 t0 t2 t3 t30 t31 m R N0 := by kernel_rfl
theorem L46_1 (R : AV → Mem → Prop) {σ : Type} (I : σ → Prop) (t0 : σ → AV) (t2 : σ → Int) (t3 : σ → Int) (t30 : σ → Int) (t31 : σ → Int) (m : σ → Mem) (μ : σ → Nat) (step : ∀ x, I x → B46_1 (t0 x) (t2 x) (t3 x) (t30 x) (t31 x) (m x) R (fun s' => ∃ y, I y ∧ μ y < μ x ∧ Weak KK 84 0 s' (h46_1 (t0 y) (t2 y) (t3 y) (t30 y) (t31 y) (m y)))) (x : σ) (hx : I x) {s : St} (hw : Weak KK 84 0 s (h46_1 (t0 x) (t2 x) (t3 x) (t30 x) (t31 x) (m x))) : Tri Tryz.prog KK 84 0 (.loop c46_1) s (q46_1 R) :=
  Tri.weak hw (Tri.loops fol I (fun x => h46_1 (t0 x) (t2 x) (t3 x) (t30 x) (t31 x) (m x)) μ (fun x hx => (B46_1_eq (t0 x) (t2 x) (t3 x) (t30 x) (t31 x) (m x) R _).mpr (step x hx)) x hx)
noncomputable def B46_1_0 (t0 : AV) (t2 : Int) (t3 : Int) (t7 : Int) (t8 : Int) (t30 : Int) (t31 : Int) (m : Mem) (R : AV → Mem → Prop) (N0 : St → Prop) (N1 : St → Prop) : Prop :=
bif (decide (t8 < t3)) then (
opP (opA Tryz.prog (.binOp .rem 3 (.tmp 0) (.tmp 1) 3) 3 [(intA (IntKind.wrap .i64 (t8 + (1)))), (intA t3)] (mget m) 300006) fun v35 =>
ex_i64 v35 fun z36 =>
bif (z36 != t7) then (
opP (idxS 2 t0 (intA t7)) fun v37 =>
opP (ldA (mget m) 2 v37) fun v38 =>
exA2 v38 fun c39 c40 =>
ex_i64 c39 fun z41 =>
ex_i64 c40 fun z42 =>
callQ Tryz.prog KK.gl m 70 [t0, (intA t7)] fun v43 =>
exA2 v43 fun c44 c45 =>
ex_i64 c44 fun z46 =>
ex_i64 c45 fun z47 =>
opP (idxS 2 t0 (intA t8)) fun v48 =>
opP (ldA (mget m) 2 v48) fun v49 =>
exA2 v49 fun c50 c51 =>
ex_i64 c50 fun z52 =>
ex_i64 c51 fun z53 =>
callQ Tryz.prog KK.gl m 70 [t0, (intA t8)] fun v54 =>
exA2 v54 fun c55 c56 =>
ex_i64 c55 fun z57 =>
ex_i64 c56 fun z58 =>
callQ Tryz.prog KK.gl m 71 [(AV.agg [(intA z41), (intA z42)]), (AV.agg [(intA z46), (intA z47)]), (AV.agg [(intA z52), (intA z53)]), (AV.agg [(intA z57), (intA z58)])] fun v59 =>
exB v59 fun b60 =>
bif b60 then (
retL R m [some (intA (3))]) else (
N1 ⟨[(0, t0), (2, (intA t2)), (3, (intA t3)), (7, (intA t7)), (8, (intA (IntKind.wrap .i64 (t8 + (1))))), (30, (intA t30)), (31, (intA t31)), (52, (intA t8)), (53, (intA t3)), (54, (boolA (decide (t8 < t3)))), (57, (intA t8)), (58, (intA (IntKind.wrap .i64 (t8 + (1))))), (59, (intA t3)), (60, (intA z36)), (61, (intA t7)), (62, (boolA (z36 != t7))), (63, (boolA true)), (64, t0), (65, (intA t7)), (66, v37), (67, (AV.agg [(intA z41), (intA z42)])), (68, t0), (69, (intA t7)), (70, (AV.agg [(intA z46), (intA z47)])), (71, t0), (72, (intA t8)), (73, v48), (74, (AV.agg [(intA z52), (intA z53)])), (75, t0), (76, (intA t8)), (77, (AV.agg [(intA z57), (intA z58)])), (78, (boolA b60)), (79, (boolA b60)), (55, (intA t8)), (56, (intA (IntKind.wrap .i64 (t8 + (1)))))], m, 300029⟩)) else (
N1 ⟨[(0, t0), (2, (intA t2)), (3, (intA t3)), (7, (intA t7)), (8, (intA (IntKind.wrap .i64 (t8 + (1))))), (30, (intA t30)), (31, (intA t31)), (52, (intA t8)), (53, (intA t3)), (54, (boolA (decide (t8 < t3)))), (57, (intA t8)), (58, (intA (IntKind.wrap .i64 (t8 + (1))))), (59, (intA t3)), (60, (intA z36)), (61, (intA t7)), (62, (boolA (z36 != t7))), (63, (boolA false)), (64, (AV.tup [])), (65, (AV.tup [])), (66, (AV.tup [])), (67, (AV.tup [])), (68, (AV.tup [])), (69, (AV.tup [])), (70, (AV.tup [])), (71, (AV.tup [])), (72, (AV.tup [])), (73, (AV.tup [])), (74, (AV.tup [])), (75, (AV.tup [])), (76, (AV.tup [])), (77, (AV.tup [])), (78, (AV.tup [])), (79, (boolA false)), (55, (intA t8)), (56, (intA (IntKind.wrap .i64 (t8 + (1)))))], m, 300029⟩)) else (
N0 ⟨[(0, t0), (2, (intA t2)), (3, (intA t3)), (7, (intA t7)), (8, (intA t8)), (30, (intA t30)), (31, (intA (IntKind.wrap .i64 (t31 + (1))))), (52, (intA t8)), (53, (intA t3)), (54, (boolA (decide (t8 < t3)))), (80, (intA (IntKind.wrap .i64 (t31 + (1)))))], m, 300005⟩)
theorem B46_1_0_eq (t0 : AV) (t2 : Int) (t3 : Int) (t7 : Int) (t8 : Int) (t30 : Int) (t31 : Int) (m : Mem) (R : AV → Mem → Prop) (N0 : St → Prop) (N1 : St → Prop) : W Tryz.prog KK 84 0 c46_1_0 (h46_1_0 t0 t2 t3 t7 t8 t30 t31 m) (qq46_1_0 R N0 N1) = B46_1_0 t0 t2 t3 t7 t8 t30 t31 m R N0 N1 := by kernel_rfl
theorem L46_1_0 (R : AV → Mem → Prop) (N0 : St → Prop) {σ : Type} (I : σ → Prop) (t0 : σ → AV) (t2 : σ → Int) (t3 : σ → Int) (t7 : σ → Int) (t8 : σ → Int) (t30 : σ → Int) (t31 : σ → Int) (m : σ → Mem) (μ : σ → Nat) (step : ∀ x, I x → B46_1_0 (t0 x) (t2 x) (t3 x) (t7 x) (t8 x) (t30 x) (t31 x) (m x) R N0 (fun s' => ∃ y, I y ∧ μ y < μ x ∧ Weak KK 84 0 s' (h46_1_0 (t0 y) (t2 y) (t3 y) (t7 y) (t8 y) (t30 y) (t31 y) (m y)))) (x : σ) (hx : I x) {s : St} (hw : Weak KK 84 0 s (h46_1_0 (t0 x) (t2 x) (t3 x) (t7 x) (t8 x) (t30 x) (t31 x) (m x))) : Tri Tryz.prog KK 84 0 (.loop c46_1_0) s (q46_1_0 R N0) :=
  Tri.weak hw (Tri.loops fol I (fun x => h46_1_0 (t0 x) (t2 x) (t3 x) (t7 x) (t8 x) (t30 x) (t31 x) (m x)) μ (fun x hx => (B46_1_0_eq (t0 x) (t2 x) (t3 x) (t7 x) (t8 x) (t30 x) (t31 x) (m x) R N0 _).mpr (step x hx)) x hx)
noncomputable def F46 (a0 : AV) (R : AV → Mem → Prop) : Prop :=
opP (lenS a0) fun v0 =>
ex_i64 v0 fun z1 =>
bif (decide (z1 > (16))) then (
retL R [] [some (intA (2))]) else (
bif (decide (z1 < (3))) then (
retL R [] [some (intA (3))]) else (
opP (lenS a0) fun v2 =>
ex_i64 v2 fun z3 =>
Tri Tryz.prog KK 84 0 (.loop c46_0) ⟨[(0, a0), (2, (intA (0))), (9, a0), (10, (intA z1)), (3, (intA z1)), (12, (intA z1)), (13, (boolA (decide (z1 > (16))))), (11, (boolA (decide (z1 > (16))))), (15, (intA z1)), (16, (boolA (decide (z1 < (3))))), (14, (boolA (decide (z1 < (3))))), (17, a0), (18, (intA z3)), (19, (intA (0)))], [], 13⟩ (q46_0 R)))
theorem F46_own (a0 : AV) (R : AV → Mem → Prop) (h : F46 a0 R) : Own Tryz.prog KK.gl 46 [a0] R := own_of_F fol Tryz.func46 (code := c46) (by kernel_rfl) (by kernel_rfl) (by kernel_rfl) (X := F46 a0 R) (by kernel_rfl) h
/- skyway/volume.Check -/
noncomputable def c35 : Code := ((Tryz.f35).body).getD .skip
noncomputable def q35 (R : AV → Mem → Prop) : AExit → St → Prop := retQ Tryz.prog Tryz.f35 R
noncomputable def F35 (a0_0 : AV) (a0_1 : Int) (a0_2 : Int) (R : AV → Mem → Prop) : Prop :=
chk (isCell a0_0) <| callQ Tryz.prog KK.gl ((0, some ⟨[a0_0, (intA a0_1), (intA a0_2)], 79⟩) :: []) 46 [a0_0] fun v0 =>
ex_i64 v0 fun z1 =>
bif (z1 != (0)) then (
retL R ((0, some ⟨[a0_0, (intA a0_1), (intA a0_2)], 79⟩) :: []) [some (intA z1)]) else (
bif (decide (a0_1 < (0))) then (
retL R ((0, some ⟨[a0_0, (intA a0_1), (intA a0_2)], 79⟩) :: []) [some (intA (4))]) else (
bif (decide (a0_2 > (60001))) then (
retL R ((0, some ⟨[a0_0, (intA a0_1), (intA a0_2)], 79⟩) :: []) [some (intA (4))]) else (
bif (decide (a0_1 ≥ a0_2)) then (
retL R ((0, some ⟨[a0_0, (intA a0_1), (intA a0_2)], 79⟩) :: []) [some (intA (4))]) else (
retL R ((0, some ⟨[a0_0, (intA a0_1), (intA a0_2)], 79⟩) :: []) [some (intA (0))]))))
theorem F35_own (a0_0 : AV) (a0_1 : Int) (a0_2 : Int) (R : AV → Mem → Prop) (h : F35 a0_0 a0_1 a0_2 R) : Own Tryz.prog KK.gl 35 [(AV.agg [a0_0, (intA a0_1), (intA a0_2)])] R := own_of_F fol Tryz.func35 (code := c35) (by kernel_rfl) (by kernel_rfl) (by kernel_rfl) (X := F35 a0_0 a0_1 a0_2 R) (by kernel_rfl) h
/- skyway/sector.Check$1 -/
noncomputable def c37 : Code := ((Tryz.f37).body).getD .skip
noncomputable def q37 (R : AV → Mem → Prop) : AExit → St → Prop := retQ Tryz.prog Tryz.f37 R
noncomputable def F37 (a0_0 : ByteArray) (a0_1 : AV) (a1 : AV) (R : AV → Mem → Prop) : Prop :=
chk (isCell a0_1) <| opP (fldO 0 a1) fun v0 =>
opP (ldS (mget ((0, some ⟨[(AV.sc (.string a0_0)), a0_1], 83⟩) :: [])) v0) fun v1 =>
exStr v1 fun s2 =>
retL R ((0, some ⟨[(AV.sc (.string a0_0)), a0_1], 83⟩) :: []) [some (boolA ((a0_0).toList == (s2).toList))]
theorem F37_own (a0_0 : ByteArray) (a0_1 : AV) (a1 : AV) (R : AV → Mem → Prop) (h : F37 a0_0 a0_1 a1 R) : Own Tryz.prog KK.gl 37 [(AV.agg [(AV.sc (.string a0_0)), a0_1]), a1] R := own_of_F fol Tryz.func37 (code := c37) (by kernel_rfl) (by kernel_rfl) (by kernel_rfl) (X := F37 a0_0 a0_1 a1 R) (by kernel_rfl) h
/- slices.ContainsFunc[[]skyway/api.Sector,skyway/api.Sector] -/
noncomputable def c36 : Code := ((Tryz.f36).body).getD .skip
noncomputable def q36 (R : AV → Mem → Prop) : AExit → St → Prop := retQ Tryz.prog Tryz.f36 R
noncomputable def F36 (a0 : AV) (a1 : AV) (R : AV → Mem → Prop) : Prop :=
callQ Tryz.prog KK.gl [] 47 [a0, a1] fun v0 =>
ex_i64 v0 fun z1 =>
retL R [] [some (boolA (decide (z1 ≥ (0))))]
theorem F36_own (a0 : AV) (a1 : AV) (R : AV → Mem → Prop) (h : F36 a0 a1 R) : Own Tryz.prog KK.gl 36 [a0, a1] R := own_of_F fol Tryz.func36 (code := c36) (by kernel_rfl) (by kernel_rfl) (by kernel_rfl) (X := F36 a0 a1 R) (by kernel_rfl) h
/- skyway/polygon.doubled -/
noncomputable def c74 : Code := ((Tryz.f74).body).getD .skip
noncomputable def q74 (R : AV → Mem → Prop) : AExit → St → Prop := retQ Tryz.prog Tryz.f74 R
noncomputable def c74_0 : Code := loopB c74 0
noncomputable def q74_0 (R : AV → Mem → Prop) : AExit → St → Prop := contW Tryz.prog KK 24 0 c74 0 (q74 R)
noncomputable def qq74_0 (R : AV → Mem → Prop) (N0 : St → Prop) : AExit → St → Prop := thenQ N0 (q74_0 R)
def h74_0 (t2 : AV) (t3 : AV) (t6 : AV) (t7 : Int) (t8 : Int) (m : Mem) : St := ⟨[(2, t2), (3, t3), (6, t6), (7, (intA t7)), (8, (intA t8))], m, 100000⟩
noncomputable def B74_0 (t2 : AV) (t3 : AV) (t6 : AV) (t7 : Int) (t8 : Int) (m : Mem) (R : AV → Mem → Prop) (N0 : St → Prop) : Prop :=
bif (decide (t8 < t7)) then (
opP (idxS 2 t6 (intA t8)) fun v2 =>
opP (ldA (mget m) 2 v2) fun v3 =>
exA2 v3 fun c4 c5 =>
ex_i64 c4 fun z6 =>
ex_i64 c5 fun z7 =>
opP (bld [(intA (0)), (intA (0))] [(0, 1), (1, 1)] [(0, (intA (IntKind.wrap .i64 ((2) * z6)))), (1, (intA (IntKind.wrap .i64 ((2) * z7))))]) fun v8 =>
opN (bsl 100013 60 2 1 [(intA (0)), (intA (0))] [(0, v8)]) ((100003, some ⟨[(intA z6), (intA z7)], 60⟩) :: (100003, some ⟨[(intA (0)), (intA (0))], 60⟩) :: m) fun v9 m9 =>
opN (app (mget m9) 60 2 16 [(intA (0)), (intA (0))] 100014 t3 v9) m9 fun v10 m10 =>
N0 ⟨[(2, t2), (3, v10), (6, t6), (7, (intA t7)), (8, (intA (IntKind.wrap .i64 (t8 + (1))))), (9, (boolA (decide (t8 < t7)))), (10, v2), (11, (AV.agg [(intA z6), (intA z7)])), (5, (AV.ptr 100003 0)), (12, t3), (13, (AV.ptr 100003 0)), (14, (intA z6)), (15, (intA (IntKind.wrap .i64 ((2) * z6)))), (16, (AV.ptr 100003 1)), (17, (intA z7)), (18, (intA (IntKind.wrap .i64 ((2) * z7)))), (19, v8), (20, v9), (21, v10), (22, (intA (IntKind.wrap .i64 (t8 + (1)))))], m10, 100018⟩) else (
retL R m [some t3])
theorem B74_0_eq (t2 : AV) (t3 : AV) (t6 : AV) (t7 : Int) (t8 : Int) (m : Mem) (R : AV → Mem → Prop) (N0 : St → Prop) : W Tryz.prog KK 24 0 c74_0 (h74_0 t2 t3 t6 t7 t8 m) (qq74_0 R N0) = B74_0 t2 t3 t6 t7 t8 m R N0 := by kernel_rfl
theorem L74_0 (R : AV → Mem → Prop) {σ : Type} (I : σ → Prop) (t2 : σ → AV) (t3 : σ → AV) (t6 : σ → AV) (t7 : σ → Int) (t8 : σ → Int) (m : σ → Mem) (μ : σ → Nat) (step : ∀ x, I x → B74_0 (t2 x) (t3 x) (t6 x) (t7 x) (t8 x) (m x) R (fun s' => ∃ y, I y ∧ μ y < μ x ∧ Weak KK 24 0 s' (h74_0 (t2 y) (t3 y) (t6 y) (t7 y) (t8 y) (m y)))) (x : σ) (hx : I x) {s : St} (hw : Weak KK 24 0 s (h74_0 (t2 x) (t3 x) (t6 x) (t7 x) (t8 x) (m x))) : Tri Tryz.prog KK 24 0 (.loop c74_0) s (q74_0 R) :=
  Tri.weak hw (Tri.loops fol I (fun x => h74_0 (t2 x) (t3 x) (t6 x) (t7 x) (t8 x) (m x)) μ (fun x hx => (B74_0_eq (t2 x) (t3 x) (t6 x) (t7 x) (t8 x) (m x) R _).mpr (step x hx)) x hx)
noncomputable def F74 (a0 : AV) (R : AV → Mem → Prop) : Prop :=
opP (lenS a0) fun v0 =>
ex_i64 v0 fun z1 =>
Tri Tryz.prog KK 24 0 (.loop c74_0) ⟨[(0, a0), (2, AV.nils), (3, AV.nils), (6, a0), (7, (intA z1)), (8, (intA (0)))], [], 5⟩ (q74_0 R)
theorem F74_own (a0 : AV) (R : AV → Mem → Prop) (h : F74 a0 R) : Own Tryz.prog KK.gl 74 [a0] R := own_of_F fol Tryz.func74 (code := c74) (by kernel_rfl) (by kernel_rfl) (by kernel_rfl) (X := F74 a0 R) (by kernel_rfl) h
/- skyway/plane.Dot -/
noncomputable def c94 : Code := ((Tryz.f94).body).getD .skip
noncomputable def q94 (R : AV → Mem → Prop) : AExit → St → Prop := retQ Tryz.prog Tryz.f94 R
noncomputable def F94 (a0_0 : Int) (a0_1 : Int) (a1_0 : Int) (a1_1 : Int) (R : AV → Mem → Prop) : Prop :=
retL R ((1, some ⟨[(intA a1_0), (intA a1_1)], 60⟩) :: (0, some ⟨[(intA a0_0), (intA a0_1)], 60⟩) :: []) [some (intA (IntKind.wrap .i64 ((IntKind.wrap .i64 (a0_0 * a1_0)) + (IntKind.wrap .i64 (a0_1 * a1_1)))))]
theorem F94_own (a0_0 : Int) (a0_1 : Int) (a1_0 : Int) (a1_1 : Int) (R : AV → Mem → Prop) (h : F94 a0_0 a0_1 a1_0 a1_1 R) : Own Tryz.prog KK.gl 94 [(AV.agg [(intA a0_0), (intA a0_1)]), (AV.agg [(intA a1_0), (intA a1_1)])] R := own_of_F fol Tryz.func94 (code := c94) (by kernel_rfl) (by kernel_rfl) (by kernel_rfl) (X := F94 a0_0 a0_1 a1_0 a1_1 R) (by kernel_rfl) h
/- skyway/plane.Square -/
noncomputable def c93 : Code := ((Tryz.f93).body).getD .skip
noncomputable def q93 (R : AV → Mem → Prop) : AExit → St → Prop := retQ Tryz.prog Tryz.f93 R
noncomputable def F93 (a0_0 : Int) (a0_1 : Int) (a1_0 : Int) (a1_1 : Int) (R : AV → Mem → Prop) : Prop :=
callQ Tryz.prog KK.gl ((1, some ⟨[(intA a1_0), (intA a1_1)], 60⟩) :: (0, some ⟨[(intA a0_0), (intA a0_1)], 60⟩) :: []) 89 [(AV.agg [(intA a0_0), (intA a0_1)]), (AV.agg [(intA a1_0), (intA a1_1)])] fun v0 =>
exA2 v0 fun c1 c2 =>
ex_i64 c1 fun z3 =>
ex_i64 c2 fun z4 =>
callQ Tryz.prog KK.gl ((69, some ⟨[(intA z3), (intA z4)], 60⟩) :: (69, some ⟨[(intA (0)), (intA (0))], 60⟩) :: (1, some ⟨[(intA a1_0), (intA a1_1)], 60⟩) :: (0, some ⟨[(intA a0_0), (intA a0_1)], 60⟩) :: []) 94 [(AV.agg [(intA z3), (intA z4)]), (AV.agg [(intA z3), (intA z4)])] fun v5 =>
ex_i64 v5 fun z6 =>
retL R ((69, some ⟨[(intA z3), (intA z4)], 60⟩) :: (69, some ⟨[(intA (0)), (intA (0))], 60⟩) :: (1, some ⟨[(intA a1_0), (intA a1_1)], 60⟩) :: (0, some ⟨[(intA a0_0), (intA a0_1)], 60⟩) :: []) [some (intA z6)]
theorem F93_own (a0_0 : Int) (a0_1 : Int) (a1_0 : Int) (a1_1 : Int) (R : AV → Mem → Prop) (h : F93 a0_0 a0_1 a1_0 a1_1 R) : Own Tryz.prog KK.gl 93 [(AV.agg [(intA a0_0), (intA a0_1)]), (AV.agg [(intA a1_0), (intA a1_1)])] R := own_of_F fol Tryz.func93 (code := c93) (by kernel_rfl) (by kernel_rfl) (by kernel_rfl) (X := F93 a0_0 a0_1 a1_0 a1_1 R) (by kernel_rfl) h
/- skyway/polygon.enters$1 -/
noncomputable def c92 : Code := ((Tryz.f92).body).getD .skip
noncomputable def q92 (R : AV → Mem → Prop) : AExit → St → Prop := retQ Tryz.prog Tryz.f92 R
noncomputable def F92 (a0_0 : Int) (a0_1 : Int) (a1_0 : Int) (a1_1 : Int) (a2 : AV) (R : AV → Mem → Prop) : Prop :=
opP (ldA (mget ((1, some ⟨[(intA a1_0), (intA a1_1)], 60⟩) :: (0, some ⟨[(intA a0_0), (intA a0_1)], 60⟩) :: [])) 2 a2) fun v0 =>
exA2 v0 fun c1 c2 =>
ex_i64 c1 fun z3 =>
ex_i64 c2 fun z4 =>
callQ Tryz.prog KK.gl ((1, some ⟨[(intA a1_0), (intA a1_1)], 60⟩) :: (0, some ⟨[(intA a0_0), (intA a0_1)], 60⟩) :: []) 93 [(AV.agg [(intA z3), (intA z4)]), (AV.agg [(intA a0_0), (intA a0_1)])] fun v5 =>
ex_i64 v5 fun z6 =>
opP (ldA (mget ((1, some ⟨[(intA a1_0), (intA a1_1)], 60⟩) :: (0, some ⟨[(intA a0_0), (intA a0_1)], 60⟩) :: [])) 2 a2) fun v7 =>
exA2 v7 fun c8 c9 =>
ex_i64 c8 fun z10 =>
ex_i64 c9 fun z11 =>
callQ Tryz.prog KK.gl ((1, some ⟨[(intA a1_0), (intA a1_1)], 60⟩) :: (0, some ⟨[(intA a0_0), (intA a0_1)], 60⟩) :: []) 93 [(AV.agg [(intA z10), (intA z11)]), (AV.agg [(intA a1_0), (intA a1_1)])] fun v12 =>
ex_i64 v12 fun z13 =>
retL R ((1, some ⟨[(intA a1_0), (intA a1_1)], 60⟩) :: (0, some ⟨[(intA a0_0), (intA a0_1)], 60⟩) :: []) [some (intA (IntKind.wrap .i64 (z6 - z13)))]
theorem F92_own (a0_0 : Int) (a0_1 : Int) (a1_0 : Int) (a1_1 : Int) (a2 : AV) (R : AV → Mem → Prop) (h : F92 a0_0 a0_1 a1_0 a1_1 a2 R) : Own Tryz.prog KK.gl 92 [(AV.agg [(intA a0_0), (intA a0_1)]), (AV.agg [(intA a1_0), (intA a1_1)]), a2] R := own_of_F fol Tryz.func92 (code := c92) (by kernel_rfl) (by kernel_rfl) (by kernel_rfl) (X := F92 a0_0 a0_1 a1_0 a1_1 a2 R) (by kernel_rfl) h
end Go.Proofs.YtldiackagnjlgaaGreat
