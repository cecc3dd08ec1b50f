/- Functions of the program as conditions on their answers; printed by wip/Gen.lean.txt. -/
import Derived.Test.YteaimbiojpjneaaGreatDoorX1T
set_option linter.unusedVariables false
set_option maxRecDepth 100000
set_option maxHeartbeats 4000000
namespace Go.Proofs.YteaimbiojpjneaaGreatDoor
/- skyway/probe.CheckSep -/
noncomputable def c43 : Code := ((Tryz.f43).body).getD .skip
noncomputable def q43 (R : AV → Mem → Prop) : AExit → St → Prop := retQ Tryz.prog Tryz.f43 R
noncomputable def F43 (a0_0 : Int) (a0_1 : Int) (R : AV → Mem → Prop) : Prop :=
bif (decide (a0_0 < (0))) then (
retL R ((0, some ⟨[(intA a0_0), (intA a0_1)], 38⟩) :: []) [some (intA (4))]) else (
bif (decide (a0_0 > (1000000))) then (
retL R ((0, some ⟨[(intA a0_0), (intA a0_1)], 38⟩) :: []) [some (intA (4))]) else (
bif (decide (a0_1 < (0))) then (
retL R ((0, some ⟨[(intA a0_0), (intA a0_1)], 38⟩) :: []) [some (intA (4))]) else (
bif (decide (a0_1 > (60000))) then (
retL R ((0, some ⟨[(intA a0_0), (intA a0_1)], 38⟩) :: []) [some (intA (4))]) else (
retL R ((0, some ⟨[(intA a0_0), (intA a0_1)], 38⟩) :: []) [some (intA (0))]))))
theorem F43_own (a0_0 : Int) (a0_1 : Int) (R : AV → Mem → Prop) (h : F43 a0_0 a0_1 R) : Own Tryz.prog KK.gl 43 [(AV.agg [(intA a0_0), (intA a0_1)])] R := own_of_F fol Tryz.func43 (code := c43) (by kernel_rfl) (by kernel_rfl) (by kernel_rfl) (X := F43 a0_0 a0_1 R) (by kernel_rfl) h
/- skyway/plane.Check -/
noncomputable def c38 : Code := ((Tryz.f38).body).getD .skip
noncomputable def q38 (R : AV → Mem → Prop) : AExit → St → Prop := retQ Tryz.prog Tryz.f38 R
noncomputable def F38 (a0_0 : Int) (a0_1 : Int) (R : AV → Mem → Prop) : Prop :=
bif (decide (a0_0 < (-1000000))) then (
retL R ((0, some ⟨[(intA a0_0), (intA a0_1)], 45⟩) :: []) [some (intA (4))]) else (
bif (decide (a0_0 > (1000000))) then (
retL R ((0, some ⟨[(intA a0_0), (intA a0_1)], 45⟩) :: []) [some (intA (4))]) else (
bif (decide (a0_1 < (-1000000))) then (
retL R ((0, some ⟨[(intA a0_0), (intA a0_1)], 45⟩) :: []) [some (intA (4))]) else (
bif (decide (a0_1 > (1000000))) then (
retL R ((0, some ⟨[(intA a0_0), (intA a0_1)], 45⟩) :: []) [some (intA (4))]) else (
retL R ((0, some ⟨[(intA a0_0), (intA a0_1)], 45⟩) :: []) [some (intA (0))]))))
theorem F38_own (a0_0 : Int) (a0_1 : Int) (R : AV → Mem → Prop) (h : F38 a0_0 a0_1 R) : Own Tryz.prog KK.gl 38 [(AV.agg [(intA a0_0), (intA a0_1)])] R := own_of_F fol Tryz.func38 (code := c38) (by kernel_rfl) (by kernel_rfl) (by kernel_rfl) (X := F38 a0_0 a0_1 R) (by kernel_rfl) h
/- skyway/tube.Check -/
noncomputable def c24 : Code := ((Tryz.f24).body).getD .skip
noncomputable def q24 (R : AV → Mem → Prop) : AExit → St → Prop := retQ Tryz.prog Tryz.f24 R
noncomputable def c24_0 : Code := loopB c24 0
noncomputable def q24_0 (R : AV → Mem → Prop) : AExit → St → Prop := contW Tryz.prog KK 86 0 c24 0 (q24 R)
noncomputable def qq24_0 (R : AV → Mem → Prop) (N0 : St → Prop) : AExit → St → Prop := thenQ N0 (q24_0 R)
def h24_0 (t0 : AV) (t2 : Int) (t14 : AV) (t15 : Int) (t16 : Int) (m : Mem) : St := ⟨[(0, t0), (2, (intA t2)), (14, t14), (15, (intA t15)), (16, (intA t16))], m, 100000⟩
noncomputable def B24_0 (t0 : AV) (t2 : Int) (t14 : AV) (t15 : Int) (t16 : Int) (m : Mem) (R : AV → Mem → Prop) (N0 : St → Prop) : Prop :=
bif (decide (t16 < t15)) then (
opP (idxS 6 t14 (intA t16)) fun v6 =>
opP (ldA (mget m) 6 v6) fun v7 =>
exA6 v7 fun c8 c9 c10 c11 c12 c13 =>
ex_i64 c8 fun z14 =>
ex_i64 c9 fun z15 =>
ex_i64 c10 fun z16 =>
ex_i64 c11 fun z17 =>
ex_i64 c12 fun z18 =>
ex_i64 c13 fun z19 =>
bif (decide (z14 < (0))) then (
retL R ((100004, some ⟨[(intA z14), (intA z15), (intA z16), (intA z17), (intA z18), (intA z19)], 50⟩) :: (100004, some ⟨[(intA (0)), (intA (0)), (intA (0)), (intA (0)), (intA (0)), (intA (0))], 50⟩) :: m) [some (intA (12))]) else (
bif (decide (z14 > (200000))) then (
retL R ((100004, some ⟨[(intA z14), (intA z15), (intA z16), (intA z17), (intA z18), (intA z19)], 50⟩) :: (100004, some ⟨[(intA (0)), (intA (0)), (intA (0)), (intA (0)), (intA (0)), (intA (0))], 50⟩) :: m) [some (intA (12))]) else (
bif (decide (t16 > (0))) then (
opP (idxS 6 t0 (intA (IntKind.wrap .i64 (t16 - (1))))) fun v20 =>
opP (fldO 0 v20) fun v21 =>
opP (fldO 0 v21) fun v22 =>
opP (ldS (mget ((100004, some ⟨[(intA z14), (intA z15), (intA z16), (intA z17), (intA z18), (intA z19)], 50⟩) :: (100004, some ⟨[(intA (0)), (intA (0)), (intA (0)), (intA (0)), (intA (0)), (intA (0))], 50⟩) :: m)) v22) fun v23 =>
ex_i64 v23 fun z24 =>
bif (decide (z14 ≤ z24)) then (
retL R ((100004, some ⟨[(intA z14), (intA z15), (intA z16), (intA z17), (intA z18), (intA z19)], 50⟩) :: (100004, some ⟨[(intA (0)), (intA (0)), (intA (0)), (intA (0)), (intA (0)), (intA (0))], 50⟩) :: m) [some (intA (12))]) else (
callQ Tryz.prog KK.gl ((100004, some ⟨[(intA z14), (intA z15), (intA z16), (intA z17), (intA z18), (intA z19)], 50⟩) :: (100004, some ⟨[(intA (0)), (intA (0)), (intA (0)), (intA (0)), (intA (0)), (intA (0))], 50⟩) :: m) 38 [(AV.agg [(intA z15), (intA z16)])] fun v25 =>
ex_i64 v25 fun z26 =>
bif (z26 != (0)) then (
retL R ((100004, some ⟨[(intA z14), (intA z15), (intA z16), (intA z17), (intA z18), (intA z19)], 50⟩) :: (100004, some ⟨[(intA (0)), (intA (0)), (intA (0)), (intA (0)), (intA (0)), (intA (0))], 50⟩) :: m) [some (intA z26)]) else (
bif (decide (z17 < (0))) then (
retL R ((100004, some ⟨[(intA z14), (intA z15), (intA z16), (intA z17), (intA z18), (intA z19)], 50⟩) :: (100004, some ⟨[(intA (0)), (intA (0)), (intA (0)), (intA (0)), (intA (0)), (intA (0))], 50⟩) :: m) [some (intA (4))]) else (
bif (decide (z17 > (60000))) then (
retL R ((100004, some ⟨[(intA z14), (intA z15), (intA z16), (intA z17), (intA z18), (intA z19)], 50⟩) :: (100004, some ⟨[(intA (0)), (intA (0)), (intA (0)), (intA (0)), (intA (0)), (intA (0))], 50⟩) :: m) [some (intA (4))]) else (
bif (decide (z18 < (0))) then (
retL R ((100004, some ⟨[(intA z14), (intA z15), (intA z16), (intA z17), (intA z18), (intA z19)], 50⟩) :: (100004, some ⟨[(intA (0)), (intA (0)), (intA (0)), (intA (0)), (intA (0)), (intA (0))], 50⟩) :: m) [some (intA (4))]) else (
bif (decide (z18 > (1000000))) then (
retL R ((100004, some ⟨[(intA z14), (intA z15), (intA z16), (intA z17), (intA z18), (intA z19)], 50⟩) :: (100004, some ⟨[(intA (0)), (intA (0)), (intA (0)), (intA (0)), (intA (0)), (intA (0))], 50⟩) :: m) [some (intA (4))]) else (
bif (decide (z19 < (0))) then (
retL R ((100004, some ⟨[(intA z14), (intA z15), (intA z16), (intA z17), (intA z18), (intA z19)], 50⟩) :: (100004, some ⟨[(intA (0)), (intA (0)), (intA (0)), (intA (0)), (intA (0)), (intA (0))], 50⟩) :: m) [some (intA (4))]) else (
bif (decide (z19 > (60000))) then (
retL R ((100004, some ⟨[(intA z14), (intA z15), (intA z16), (intA z17), (intA z18), (intA z19)], 50⟩) :: (100004, some ⟨[(intA (0)), (intA (0)), (intA (0)), (intA (0)), (intA (0)), (intA (0))], 50⟩) :: m) [some (intA (4))]) else (
N0 ⟨[(0, t0), (2, (intA t2)), (14, t14), (15, (intA t15)), (16, (intA (IntKind.wrap .i64 (t16 + (1))))), (17, (boolA (decide (t16 < t15)))), (18, (intA t16)), (19, v6), (20, (AV.agg [(intA z14), (intA z15), (intA z16), (intA z17), (intA z18), (intA z19)])), (4, (AV.ptr 100004 0)), (3, (intA t16)), (21, (AV.ptr 100004 0)), (22, (AV.ptr 100004 0)), (23, (intA z14)), (24, (boolA (decide (z14 < (0))))), (25, (boolA false)), (26, (AV.ptr 100004 0)), (27, (AV.ptr 100004 0)), (28, (intA z14)), (29, (boolA (decide (z14 > (200000))))), (30, (boolA (decide (z14 > (200000))))), (31, (boolA false)), (32, (intA t16)), (33, (boolA (decide (t16 > (0))))), (34, (boolA true)), (35, (AV.ptr 100004 0)), (36, (AV.ptr 100004 0)), (37, (intA z14)), (38, t0), (39, (intA t16)), (40, (intA (IntKind.wrap .i64 (t16 - (1))))), (41, v20), (42, v21), (43, v22), (44, (intA z24)), (45, (boolA (decide (z14 ≤ z24)))), (46, (boolA (decide (z14 ≤ z24)))), (47, (boolA (decide (z14 ≤ z24)))), (48, (AV.ptr 100004 0)), (49, (AV.ptr 100004 1)), (50, (AV.agg [(intA z15), (intA z16)])), (51, (intA z26)), (5, (intA z26)), (52, (intA z26)), (53, (boolA (z26 != (0)))), (55, (AV.ptr 100004 0)), (56, (AV.ptr 100004 3)), (57, (intA z17)), (58, (boolA (decide (z17 < (0))))), (59, (boolA false)), (60, (AV.ptr 100004 0)), (61, (AV.ptr 100004 3)), (62, (intA z17)), (63, (boolA (decide (z17 > (60000))))), (64, (boolA (decide (z17 > (60000))))), (65, (boolA false)), (66, (AV.ptr 100004 4)), (67, (intA z18)), (68, (boolA (decide (z18 < (0))))), (69, (boolA (decide (z18 < (0))))), (70, (boolA false)), (71, (AV.ptr 100004 4)), (72, (intA z18)), (73, (boolA (decide (z18 > (1000000))))), (74, (boolA (decide (z18 > (1000000))))), (75, (boolA false)), (76, (AV.ptr 100004 5)), (77, (intA z19)), (78, (boolA (decide (z19 < (0))))), (79, (boolA (decide (z19 < (0))))), (80, (boolA false)), (81, (AV.ptr 100004 5)), (82, (intA z19)), (83, (boolA (decide (z19 > (60000))))), (84, (boolA (decide (z19 > (60000))))), (85, (intA (IntKind.wrap .i64 (t16 + (1)))))], ((100004, some ⟨[(intA z14), (intA z15), (intA z16), (intA z17), (intA z18), (intA z19)], 50⟩) :: (100004, some ⟨[(intA (0)), (intA (0)), (intA (0)), (intA (0)), (intA (0)), (intA (0))], 50⟩) :: m), 100136⟩))))))))) else (
callQ Tryz.prog KK.gl ((100004, some ⟨[(intA z14), (intA z15), (intA z16), (intA z17), (intA z18), (intA z19)], 50⟩) :: (100004, some ⟨[(intA (0)), (intA (0)), (intA (0)), (intA (0)), (intA (0)), (intA (0))], 50⟩) :: m) 38 [(AV.agg [(intA z15), (intA z16)])] fun v27 =>
ex_i64 v27 fun z28 =>
bif (z28 != (0)) then (
retL R ((100004, some ⟨[(intA z14), (intA z15), (intA z16), (intA z17), (intA z18), (intA z19)], 50⟩) :: (100004, some ⟨[(intA (0)), (intA (0)), (intA (0)), (intA (0)), (intA (0)), (intA (0))], 50⟩) :: m) [some (intA z28)]) else (
bif (decide (z17 < (0))) then (
retL R ((100004, some ⟨[(intA z14), (intA z15), (intA z16), (intA z17), (intA z18), (intA z19)], 50⟩) :: (100004, some ⟨[(intA (0)), (intA (0)), (intA (0)), (intA (0)), (intA (0)), (intA (0))], 50⟩) :: m) [some (intA (4))]) else (
bif (decide (z17 > (60000))) then (
retL R ((100004, some ⟨[(intA z14), (intA z15), (intA z16), (intA z17), (intA z18), (intA z19)], 50⟩) :: (100004, some ⟨[(intA (0)), (intA (0)), (intA (0)), (intA (0)), (intA (0)), (intA (0))], 50⟩) :: m) [some (intA (4))]) else (
bif (decide (z18 < (0))) then (
retL R ((100004, some ⟨[(intA z14), (intA z15), (intA z16), (intA z17), (intA z18), (intA z19)], 50⟩) :: (100004, some ⟨[(intA (0)), (intA (0)), (intA (0)), (intA (0)), (intA (0)), (intA (0))], 50⟩) :: m) [some (intA (4))]) else (
bif (decide (z18 > (1000000))) then (
retL R ((100004, some ⟨[(intA z14), (intA z15), (intA z16), (intA z17), (intA z18), (intA z19)], 50⟩) :: (100004, some ⟨[(intA (0)), (intA (0)), (intA (0)), (intA (0)), (intA (0)), (intA (0))], 50⟩) :: m) [some (intA (4))]) else (
bif (decide (z19 < (0))) then (
retL R ((100004, some ⟨[(intA z14), (intA z15), (intA z16), (intA z17), (intA z18), (intA z19)], 50⟩) :: (100004, some ⟨[(intA (0)), (intA (0)), (intA (0)), (intA (0)), (intA (0)), (intA (0))], 50⟩) :: m) [some (intA (4))]) else (
bif (decide (z19 > (60000))) then (
retL R ((100004, some ⟨[(intA z14), (intA z15), (intA z16), (intA z17), (intA z18), (intA z19)], 50⟩) :: (100004, some ⟨[(intA (0)), (intA (0)), (intA (0)), (intA (0)), (intA (0)), (intA (0))], 50⟩) :: m) [some (intA (4))]) else (
N0 ⟨[(0, t0), (2, (intA t2)), (14, t14), (15, (intA t15)), (16, (intA (IntKind.wrap .i64 (t16 + (1))))), (17, (boolA (decide (t16 < t15)))), (18, (intA t16)), (19, v6), (20, (AV.agg [(intA z14), (intA z15), (intA z16), (intA z17), (intA z18), (intA z19)])), (4, (AV.ptr 100004 0)), (3, (intA t16)), (21, (AV.ptr 100004 0)), (22, (AV.ptr 100004 0)), (23, (intA z14)), (24, (boolA (decide (z14 < (0))))), (25, (boolA false)), (26, (AV.ptr 100004 0)), (27, (AV.ptr 100004 0)), (28, (intA z14)), (29, (boolA (decide (z14 > (200000))))), (30, (boolA (decide (z14 > (200000))))), (31, (boolA false)), (32, (intA t16)), (33, (boolA (decide (t16 > (0))))), (34, (boolA false)), (35, (AV.tup [])), (36, (AV.tup [])), (37, (AV.tup [])), (38, (AV.tup [])), (39, (AV.tup [])), (40, (AV.tup [])), (41, (AV.tup [])), (42, (AV.tup [])), (43, (AV.tup [])), (44, (AV.tup [])), (45, (AV.tup [])), (46, (boolA false)), (47, (boolA false)), (48, (AV.ptr 100004 0)), (49, (AV.ptr 100004 1)), (50, (AV.agg [(intA z15), (intA z16)])), (51, (intA z28)), (5, (intA z28)), (52, (intA z28)), (53, (boolA (z28 != (0)))), (55, (AV.ptr 100004 0)), (56, (AV.ptr 100004 3)), (57, (intA z17)), (58, (boolA (decide (z17 < (0))))), (59, (boolA false)), (60, (AV.ptr 100004 0)), (61, (AV.ptr 100004 3)), (62, (intA z17)), (63, (boolA (decide (z17 > (60000))))), (64, (boolA (decide (z17 > (60000))))), (65, (boolA false)), (66, (AV.ptr 100004 4)), (67, (intA z18)), (68, (boolA (decide (z18 < (0))))), (69, (boolA (decide (z18 < (0))))), (70, (boolA false)), (71, (AV.ptr 100004 4)), (72, (intA z18)), (73, (boolA (decide (z18 > (1000000))))), (74, (boolA (decide (z18 > (1000000))))), (75, (boolA false)), (76, (AV.ptr 100004 5)), (77, (intA z19)), (78, (boolA (decide (z19 < (0))))), (79, (boolA (decide (z19 < (0))))), (80, (boolA false)), (81, (AV.ptr 100004 5)), (82, (intA z19)), (83, (boolA (decide (z19 > (60000))))), (84, (boolA (decide (z19 > (60000))))), (85, (intA (IntKind.wrap .i64 (t16 + (1)))))], ((100004, some ⟨[(intA z14), (intA z15), (intA z16), (intA z17), (intA z18), (intA z19)], 50⟩) :: (100004, some ⟨[(intA (0)), (intA (0)), (intA (0)), (intA (0)), (intA (0)), (intA (0))], 50⟩) :: m), 100136⟩))))))))))) else (
retL R m [some (intA (0))])
theorem B24_0_eq (t0 : AV) (t2 : Int) (t14 : AV) (t15 : Int) (t16 : Int) (m : Mem) (R : AV → Mem → Prop) (N0 : St → Prop) : W Tryz.prog KK 86 0 c24_0 (h24_0 t0 t2 t14 t15 t16 m) (qq24_0 R N0) = B24_0 t0 t2 t14 t15 t16 m R N0 := by kernel_rfl
theorem L24_0 (R : AV → Mem → Prop) {σ : Type} (I : σ → Prop) (t0 : σ → AV) (t2 : σ → Int) (t14 : σ → AV) (t15 : σ → Int) (t16 : σ → Int) (m : σ → Mem) (μ : σ → Nat) (step : ∀ x, I x → B24_0 (t0 x) (t2 x) (t14 x) (t15 x) (t16 x) (m x) R (fun s' => ∃ y, I y ∧ μ y < μ x ∧ Weak KK 86 0 s' (h24_0 (t0 y) (t2 y) (t14 y) (t15 y) (t16 y) (m y)))) (x : σ) (hx : I x) {s : St} (hw : Weak KK 86 0 s (h24_0 (t0 x) (t2 x) (t14 x) (t15 x) (t16 x) (m x))) : Tri Tryz.prog KK 86 0 (.loop c24_0) s (q24_0 R) :=
  Tri.weak hw (Tri.loops fol I (fun x => h24_0 (t0 x) (t2 x) (t14 x) (t15 x) (t16 x) (m x)) μ (fun x hx => (B24_0_eq (t0 x) (t2 x) (t14 x) (t15 x) (t16 x) (m x) R _).mpr (step x hx)) x hx)
noncomputable def F24 (a0 : AV) (R : AV → Mem → Prop) : Prop :=
opP (lenS a0) fun v0 =>
ex_i64 v0 fun z1 =>
bif (decide (z1 > (64))) then (
retL R [] [some (intA (2))]) else (
opP (lenS a0) fun v2 =>
ex_i64 v2 fun z3 =>
bif (z3 == (0)) then (
retL R [] [some (intA (3))]) else (
opP (lenS a0) fun v4 =>
ex_i64 v4 fun z5 =>
Tri Tryz.prog KK 86 0 (.loop c24_0) ⟨[(0, a0), (2, (intA (0))), (7, a0), (8, (intA z1)), (9, (boolA (decide (z1 > (64))))), (6, (boolA (decide (z1 > (64))))), (11, a0), (12, (intA z3)), (13, (boolA (z3 == (0)))), (10, (boolA (z3 == (0)))), (14, a0), (15, (intA z5)), (16, (intA (0)))], [], 12⟩ (q24_0 R)))
theorem F24_own (a0 : AV) (R : AV → Mem → Prop) (h : F24 a0 R) : Own Tryz.prog KK.gl 24 [a0] R := own_of_F fol Tryz.func24 (code := c24) (by kernel_rfl) (by kernel_rfl) (by kernel_rfl) (X := F24 a0 R) (by kernel_rfl) h
/- skyway/probe.check -/
noncomputable def c44 : Code := ((Tryz.f44).body).getD .skip
noncomputable def q44 (R : AV → Mem → Prop) : AExit → St → Prop := retQ Tryz.prog Tryz.f44 R
noncomputable def c44_0 : Code := loopB c44 0
noncomputable def q44_0 (R : AV → Mem → Prop) : AExit → St → Prop := contW Tryz.prog KK 26 0 c44 0 (q44 R)
noncomputable def qq44_0 (R : AV → Mem → Prop) (N0 : St → Prop) : AExit → St → Prop := thenQ N0 (q44_0 R)
def h44_0 (t4 : Int) (t14 : AV) (t15 : Int) (t16 : Int) (m : Mem) : St := ⟨[(4, (intA t4)), (14, t14), (15, (intA t15)), (16, (intA t16))], m, 100000⟩
noncomputable def B44_0 (t4 : Int) (t14 : AV) (t15 : Int) (t16 : Int) (m : Mem) (R : AV → Mem → Prop) (N0 : St → Prop) : Prop :=
bif (decide (t16 < t15)) then (
opP (idxS 1 t14 (intA t16)) fun v4 =>
opP (ldS (mget m) v4) fun v5 =>
callQ Tryz.prog KK.gl m 24 [v5] fun v6 =>
ex_i64 v6 fun z7 =>
bif (z7 != (0)) then (
retL R m [some (intA z7)]) else (
N0 ⟨[(4, (intA t4)), (14, t14), (15, (intA t15)), (16, (intA (IntKind.wrap .i64 (t16 + (1))))), (17, (boolA (decide (t16 < t15)))), (18, v4), (19, v5), (7, v5), (20, v5), (21, (intA z7)), (8, (intA z7)), (22, (intA z7)), (23, (boolA (z7 != (0)))), (25, (intA (IntKind.wrap .i64 (t16 + (1)))))], m, 100074⟩)) else (
retL R m [some (intA (0))])
theorem B44_0_eq (t4 : Int) (t14 : AV) (t15 : Int) (t16 : Int) (m : Mem) (R : AV → Mem → Prop) (N0 : St → Prop) : W Tryz.prog KK 26 0 c44_0 (h44_0 t4 t14 t15 t16 m) (qq44_0 R N0) = B44_0 t4 t14 t15 t16 m R N0 := by kernel_rfl
theorem L44_0 (R : AV → Mem → Prop) {σ : Type} (I : σ → Prop) (t4 : σ → Int) (t14 : σ → AV) (t15 : σ → Int) (t16 : σ → Int) (m : σ → Mem) (μ : σ → Nat) (step : ∀ x, I x → B44_0 (t4 x) (t14 x) (t15 x) (t16 x) (m x) R (fun s' => ∃ y, I y ∧ μ y < μ x ∧ Weak KK 26 0 s' (h44_0 (t4 y) (t14 y) (t15 y) (t16 y) (m y)))) (x : σ) (hx : I x) {s : St} (hw : Weak KK 26 0 s (h44_0 (t4 x) (t14 x) (t15 x) (t16 x) (m x))) : Tri Tryz.prog KK 26 0 (.loop c44_0) s (q44_0 R) :=
  Tri.weak hw (Tri.loops fol I (fun x => h44_0 (t4 x) (t14 x) (t15 x) (t16 x) (m x)) μ (fun x hx => (B44_0_eq (t4 x) (t14 x) (t15 x) (t16 x) (m x) R _).mpr (step x hx)) x hx)
noncomputable def F44 (a0_0 : Int) (a0_1 : Int) (a1 : AV) (R : AV → Mem → Prop) : Prop :=
callQ Tryz.prog KK.gl ((0, some ⟨[(intA a0_0), (intA a0_1)], 38⟩) :: []) 43 [(AV.agg [(intA a0_0), (intA a0_1)])] fun v0 =>
ex_i64 v0 fun z1 =>
bif (z1 != (0)) then (
retL R ((0, some ⟨[(intA a0_0), (intA a0_1)], 38⟩) :: []) [some (intA z1)]) else (
opP (lenS a1) fun v2 =>
ex_i64 v2 fun z3 =>
Tri Tryz.prog KK 26 0 (.loop c44_0) ⟨[(0, (AV.agg [(intA a0_0), (intA a0_1)])), (1, a1), (2, (AV.ptr 0 0)), (4, (intA (0))), (9, (AV.agg [(intA a0_0), (intA a0_1)])), (10, (intA z1)), (5, (intA z1)), (11, (intA z1)), (12, (boolA (z1 != (0)))), (14, a1), (15, (intA z3)), (16, (intA (0)))], ((0, some ⟨[(intA a0_0), (intA a0_1)], 38⟩) :: []), 73⟩ (q44_0 R))
theorem F44_own (a0_0 : Int) (a0_1 : Int) (a1 : AV) (R : AV → Mem → Prop) (h : F44 a0_0 a0_1 a1 R) : Own Tryz.prog KK.gl 44 [(AV.agg [(intA a0_0), (intA a0_1)]), a1] R := own_of_F fol Tryz.func44 (code := c44) (by kernel_rfl) (by kernel_rfl) (by kernel_rfl) (X := F44 a0_0 a0_1 a1 R) (by kernel_rfl) h
/- skyway/probe.common -/
noncomputable def c64 : Code := ((Tryz.f64).body).getD .skip
noncomputable def q64 (R : AV → Mem → Prop) : AExit → St → Prop := retQ Tryz.prog Tryz.f64 R
noncomputable def F64 (a0 : AV) (a1 : AV) (R : AV → Mem → Prop) : Prop :=
opP (idxS 6 a0 (intA (0))) fun v0 =>
opP (fldO 0 v0) fun v1 =>
opP (fldO 0 v1) fun v2 =>
opP (ldS (mget []) v2) fun v3 =>
ex_i64 v3 fun z4 =>
opP (idxS 6 a1 (intA (0))) fun v5 =>
opP (fldO 0 v5) fun v6 =>
opP (fldO 0 v6) fun v7 =>
opP (ldS (mget []) v7) fun v8 =>
ex_i64 v8 fun z9 =>
opP (opA Tryz.prog (.call ⟨.builtin .max, #[.tmp 0, .tmp 1], #[3, 3]⟩) 3 [(intA z4), (intA z9)] (mget []) 12) fun v10 =>
ex_i64 v10 fun z11 =>
opP (lenS a0) fun v12 =>
ex_i64 v12 fun z13 =>
opP (idxS 6 a0 (intA (IntKind.wrap .i64 (z13 - (1))))) fun v14 =>
opP (fldO 0 v14) fun v15 =>
opP (fldO 0 v15) fun v16 =>
opP (ldS (mget []) v16) fun v17 =>
ex_i64 v17 fun z18 =>
opP (lenS a1) fun v19 =>
ex_i64 v19 fun z20 =>
opP (idxS 6 a1 (intA (IntKind.wrap .i64 (z20 - (1))))) fun v21 =>
opP (fldO 0 v21) fun v22 =>
opP (fldO 0 v22) fun v23 =>
opP (ldS (mget []) v23) fun v24 =>
ex_i64 v24 fun z25 =>
opP (opA Tryz.prog (.call ⟨.builtin .min, #[.tmp 0, .tmp 1], #[3, 3]⟩) 3 [(intA z18), (intA z25)] (mget []) 29) fun v26 =>
ex_i64 v26 fun z27 =>
retL R [] [some (intA z11), some (intA z27)]
theorem F64_own (a0 : AV) (a1 : AV) (R : AV → Mem → Prop) (h : F64 a0 a1 R) : Own Tryz.prog KK.gl 64 [a0, a1] R := own_of_F fol Tryz.func64 (code := c64) (by kernel_rfl) (by kernel_rfl) (by kernel_rfl) (X := F64 a0 a1 R) (by kernel_rfl) h
/- skyway/tube.ends -/
noncomputable def c52 : Code := ((Tryz.f52).body).getD .skip
noncomputable def q52 (R : AV → Mem → Prop) : AExit → St → Prop := retQ Tryz.prog Tryz.f52 R
noncomputable def F52 (a0 : AV) (R : AV → Mem → Prop) : Prop :=
opP (idxS 6 a0 (intA (0))) fun v0 =>
opP (fldO 0 v0) fun v1 =>
opP (fldO 0 v1) fun v2 =>
opP (ldS (mget []) v2) fun v3 =>
ex_i64 v3 fun z4 =>
opP (lenS a0) fun v5 =>
ex_i64 v5 fun z6 =>
opP (idxS 6 a0 (intA (IntKind.wrap .i64 (z6 - (1))))) fun v7 =>
opP (fldO 0 v7) fun v8 =>
opP (fldO 0 v8) fun v9 =>
opP (ldS (mget []) v9) fun v10 =>
ex_i64 v10 fun z11 =>
retL R [] [some (intA z4), some (intA z11)]
theorem F52_own (a0 : AV) (R : AV → Mem → Prop) (h : F52 a0 R) : Own Tryz.prog KK.gl 52 [a0] R := own_of_F fol Tryz.func52 (code := c52) (by kernel_rfl) (by kernel_rfl) (by kernel_rfl) (X := F52 a0 R) (by kernel_rfl) h
/- skyway/tube.at$1 -/
noncomputable def c69 : Code := ((Tryz.f69).body).getD .skip
noncomputable def q69 (R : AV → Mem → Prop) : AExit → St → Prop := retQ Tryz.prog Tryz.f69 R
noncomputable def F69 (a0_0 : Int) (a0_1 : Int) (a0_2 : Int) (a0_3 : Int) (a0_4 : Int) (a0_5 : Int) (a1 : Int) (R : AV → Mem → Prop) : Prop :=
retL R ((0, some ⟨[(intA a0_0), (intA a0_1), (intA a0_2), (intA a0_3), (intA a0_4), (intA a0_5)], 50⟩) :: []) [some (intA (IntKind.wrap .i64 (a0_0 - a1)))]
theorem F69_own (a0_0 : Int) (a0_1 : Int) (a0_2 : Int) (a0_3 : Int) (a0_4 : Int) (a0_5 : Int) (a1 : Int) (R : AV → Mem → Prop) (h : F69 a0_0 a0_1 a0_2 a0_3 a0_4 a0_5 a1 R) : Own Tryz.prog KK.gl 69 [(AV.agg [(intA a0_0), (intA a0_1), (intA a0_2), (intA a0_3), (intA a0_4), (intA a0_5)]), (intA a1)] R := own_of_F fol Tryz.func69 (code := c69) (by kernel_rfl) (by kernel_rfl) (by kernel_rfl) (X := F69 a0_0 a0_1 a0_2 a0_3 a0_4 a0_5 a1 R) (by kernel_rfl) h
/- slices.BinarySearchFunc[skyway/api.Tube,skyway/api.TubeNode,int] -/
noncomputable def c68 : Code := ((Tryz.f68).body).getD .skip
noncomputable def q68 (R : AV → Mem → Prop) : AExit → St → Prop := retQ Tryz.prog Tryz.f68 R
noncomputable def c68_0 : Code := loopB c68 0
noncomputable def q68_0 (R : AV → Mem → Prop) : AExit → St → Prop := contW Tryz.prog KK 49 0 c68 0 (q68 R)
noncomputable def qq68_0 (R : AV → Mem → Prop) (N0 : St → Prop) : AExit → St → Prop := thenQ N0 (q68_0 R)
def h68_0 (t0 : AV) (t1 : Int) (t2 : AV) (t6 : Int) (t7 : Bool) (t8 : Int) (t9 : Int) (t10 : Int) (m : Mem) : St := ⟨[(0, t0), (1, (intA t1)), (2, t2), (6, (intA t6)), (7, (boolA t7)), (8, (intA t8)), (9, (intA t9)), (10, (intA t10))], m, 100000⟩
noncomputable def B68_0 (t0 : AV) (t1 : Int) (t2 : AV) (t6 : Int) (t7 : Bool) (t8 : Int) (t9 : Int) (t10 : Int) (m : Mem) (R : AV → Mem → Prop) (N0 : St → Prop) : Prop :=
bif (decide (t9 < t10)) then (
opP (opA Tryz.prog (.convert 3 118 (.tmp 0)) 118 [(intA (IntKind.wrap .i64 (t9 + t10)))] (mget m) 100006) fun v2 =>
ex_u64 v2 fun z3 =>
opP (opA Tryz.prog (.binOp .shr 118 (.tmp 0) (.tmp 1) 118) 118 [(AV.sc (.int .u64 z3)), (AV.sc (.int .u64 (1)))] (mget m) 100007) fun v4 =>
ex_u64 v4 fun z5 =>
opP (opA Tryz.prog (.convert 118 3 (.tmp 0)) 3 [(AV.sc (.int .u64 z5))] (mget m) 100008) fun v6 =>
ex_i64 v6 fun z7 =>
opP (idxS 6 t0 (intA z7)) fun v8 =>
opP (ldA (mget m) 6 v8) fun v9 =>
exA6 v9 fun c10 c11 c12 c13 c14 c15 =>
ex_i64 c10 fun z16 =>
ex_i64 c11 fun z17 =>
ex_i64 c12 fun z18 =>
ex_i64 c13 fun z19 =>
ex_i64 c14 fun z20 =>
ex_i64 c15 fun z21 =>
fnArgs (some t2) (some [(AV.agg [(intA z16), (intA z17), (intA z18), (intA z19), (intA z20), (intA z21)]), (intA t1)]) fun f22 a22 => bif KK.pm f22 then callQ Tryz.prog KK.gl m f22 a22 (fun v22 =>
ex_i64 v22 fun z23 =>
bif (decide (z23 < (0))) then (
N0 ⟨[(0, t0), (1, (intA t1)), (2, t2), (6, (intA t6)), (7, (boolA t7)), (8, (intA t8)), (9, (intA (IntKind.wrap .i64 (z7 + (1))))), (10, (intA t10)), (15, (intA t9)), (16, (intA t10)), (17, (boolA (decide (t9 < t10)))), (18, (intA t9)), (19, (intA t10)), (20, (intA (IntKind.wrap .i64 (t9 + t10)))), (21, (AV.sc (.int .u64 z3))), (22, (AV.sc (.int .u64 z5))), (23, (intA z7)), (11, (intA z7)), (24, t2), (25, t0), (26, (intA z7)), (27, v8), (28, (AV.agg [(intA z16), (intA z17), (intA z18), (intA z19), (intA z20), (intA z21)])), (29, (intA t1)), (30, (intA z23)), (31, (boolA (decide (z23 < (0))))), (32, (intA z7)), (33, (intA (IntKind.wrap .i64 (z7 + (1)))))], m, 100084⟩) else (
N0 ⟨[(0, t0), (1, (intA t1)), (2, t2), (6, (intA t6)), (7, (boolA t7)), (8, (intA t8)), (9, (intA t9)), (10, (intA z7)), (15, (intA t9)), (16, (intA t10)), (17, (boolA (decide (t9 < t10)))), (18, (intA t9)), (19, (intA t10)), (20, (intA (IntKind.wrap .i64 (t9 + t10)))), (21, (AV.sc (.int .u64 z3))), (22, (AV.sc (.int .u64 z5))), (23, (intA z7)), (11, (intA z7)), (24, t2), (25, t0), (26, (intA z7)), (27, v8), (28, (AV.agg [(intA z16), (intA z17), (intA z18), (intA z19), (intA z20), (intA z21)])), (29, (intA t1)), (30, (intA z23)), (31, (boolA (decide (z23 < (0))))), (34, (intA z7))], m, 100083⟩)) else callW Tryz.prog KK.gl m 100016 f22 a22 fun v22 m22 =>
ex_i64 v22 fun z23 =>
bif (decide (z23 < (0))) then (
N0 ⟨[(0, t0), (1, (intA t1)), (2, t2), (6, (intA t6)), (7, (boolA t7)), (8, (intA t8)), (9, (intA (IntKind.wrap .i64 (z7 + (1))))), (10, (intA t10)), (15, (intA t9)), (16, (intA t10)), (17, (boolA (decide (t9 < t10)))), (18, (intA t9)), (19, (intA t10)), (20, (intA (IntKind.wrap .i64 (t9 + t10)))), (21, (AV.sc (.int .u64 z3))), (22, (AV.sc (.int .u64 z5))), (23, (intA z7)), (11, (intA z7)), (24, t2), (25, t0), (26, (intA z7)), (27, v8), (28, (AV.agg [(intA z16), (intA z17), (intA z18), (intA z19), (intA z20), (intA z21)])), (29, (intA t1)), (30, (intA z23)), (31, (boolA (decide (z23 < (0))))), (32, (intA z7)), (33, (intA (IntKind.wrap .i64 (z7 + (1)))))], m22, 100084⟩) else (
N0 ⟨[(0, t0), (1, (intA t1)), (2, t2), (6, (intA t6)), (7, (boolA t7)), (8, (intA t8)), (9, (intA t9)), (10, (intA z7)), (15, (intA t9)), (16, (intA t10)), (17, (boolA (decide (t9 < t10)))), (18, (intA t9)), (19, (intA t10)), (20, (intA (IntKind.wrap .i64 (t9 + t10)))), (21, (AV.sc (.int .u64 z3))), (22, (AV.sc (.int .u64 z5))), (23, (intA z7)), (11, (intA z7)), (24, t2), (25, t0), (26, (intA z7)), (27, v8), (28, (AV.agg [(intA z16), (intA z17), (intA z18), (intA z19), (intA z20), (intA z21)])), (29, (intA t1)), (30, (intA z23)), (31, (boolA (decide (z23 < (0))))), (34, (intA z7))], m22, 100083⟩)) else (
bif (decide (t9 < t8)) then (
opP (idxS 6 t0 (intA t9)) fun v24 =>
opP (ldA (mget m) 6 v24) fun v25 =>
exA6 v25 fun c26 c27 c28 c29 c30 c31 =>
ex_i64 c26 fun z32 =>
ex_i64 c27 fun z33 =>
ex_i64 c28 fun z34 =>
ex_i64 c29 fun z35 =>
ex_i64 c30 fun z36 =>
ex_i64 c31 fun z37 =>
fnArgs (some t2) (some [(AV.agg [(intA z32), (intA z33), (intA z34), (intA z35), (intA z36), (intA z37)]), (intA t1)]) fun f38 a38 => bif KK.pm f38 then callQ Tryz.prog KK.gl m f38 a38 (fun v38 =>
ex_i64 v38 fun z39 =>
retL R m [some (intA t9), some (boolA (z39 == (0)))]) else callW Tryz.prog KK.gl m 100014 f38 a38 fun v38 m38 =>
ex_i64 v38 fun z39 =>
retL R m38 [some (intA t9), some (boolA (z39 == (0)))]) else (
retL R m [some (intA t9), some (boolA false)]))
theorem B68_0_eq (t0 : AV) (t1 : Int) (t2 : AV) (t6 : Int) (t7 : Bool) (t8 : Int) (t9 : Int) (t10 : Int) (m : Mem) (R : AV → Mem → Prop) (N0 : St → Prop) : W Tryz.prog KK 49 0 c68_0 (h68_0 t0 t1 t2 t6 t7 t8 t9 t10 m) (qq68_0 R N0) = B68_0 t0 t1 t2 t6 t7 t8 t9 t10 m R N0 := by kernel_rfl
theorem L68_0 (R : AV → Mem → Prop) {σ : Type} (I : σ → Prop) (t0 : σ → AV) (t1 : σ → Int) (t2 : σ → AV) (t6 : σ → Int) (t7 : σ → Bool) (t8 : σ → Int) (t9 : σ → Int) (t10 : σ → Int) (m : σ → Mem) (μ : σ → Nat) (step : ∀ x, I x → B68_0 (t0 x) (t1 x) (t2 x) (t6 x) (t7 x) (t8 x) (t9 x) (t10 x) (m x) R (fun s' => ∃ y, I y ∧ μ y < μ x ∧ Weak KK 49 0 s' (h68_0 (t0 y) (t1 y) (t2 y) (t6 y) (t7 y) (t8 y) (t9 y) (t10 y) (m y)))) (x : σ) (hx : I x) {s : St} (hw : Weak KK 49 0 s (h68_0 (t0 x) (t1 x) (t2 x) (t6 x) (t7 x) (t8 x) (t9 x) (t10 x) (m x))) : Tri Tryz.prog KK 49 0 (.loop c68_0) s (q68_0 R) :=
  Tri.weak hw (Tri.loops fol I (fun x => h68_0 (t0 x) (t1 x) (t2 x) (t6 x) (t7 x) (t8 x) (t9 x) (t10 x) (m x)) μ (fun x hx => (B68_0_eq (t0 x) (t1 x) (t2 x) (t6 x) (t7 x) (t8 x) (t9 x) (t10 x) (m x) R _).mpr (step x hx)) x hx)
noncomputable def F68 (a0 : AV) (a1 : Int) (a2 : AV) (R : AV → Mem → Prop) : Prop :=
opP (lenS a0) fun v0 =>
ex_i64 v0 fun z1 =>
Tri Tryz.prog KK 49 0 (.loop c68_0) ⟨[(0, a0), (1, (intA a1)), (2, a2), (6, (intA (0))), (7, (boolA false)), (12, a0), (13, (intA z1)), (8, (intA z1)), (14, (intA z1)), (9, (intA (0))), (10, (intA z1))], [], 8⟩ (q68_0 R)
theorem F68_own (a0 : AV) (a1 : Int) (a2 : AV) (R : AV → Mem → Prop) (h : F68 a0 a1 a2 R) : Own Tryz.prog KK.gl 68 [a0, (intA a1), a2] R := own_of_F fol Tryz.func68 (code := c68) (by kernel_rfl) (by kernel_rfl) (by kernel_rfl) (X := F68 a0 a1 a2 R) (by kernel_rfl) h
/- skyway/num.DivDown -/
noncomputable def c71 : Code := ((Tryz.f71).body).getD .skip
noncomputable def q71 (R : AV → Mem → Prop) : AExit → St → Prop := retQ Tryz.prog Tryz.f71 R
noncomputable def F71 (a0 : Int) (a1 : Int) (R : AV → Mem → Prop) : Prop :=
bif (a1 == (0)) then (
retL R [] [some (intA (0)), some (intA (10))]) else (
bif (a0 == (-9223372036854775808)) then (
bif (a1 == (-1)) then (
retL R [] [some (intA (0)), some (intA (2))]) else (
opP (opA Tryz.prog (.binOp .quo 3 (.tmp 0) (.tmp 1) 3) 3 [(intA a0), (intA a1)] (mget []) 14) fun v0 =>
ex_i64 v0 fun z1 =>
opP (opA Tryz.prog (.binOp .rem 3 (.tmp 0) (.tmp 1) 3) 3 [(intA a0), (intA a1)] (mget []) 18) fun v2 =>
ex_i64 v2 fun z3 =>
bif (z3 != (0)) then (
opP (opA Tryz.prog (.binOp .neq 4 (.tmp 0) (.tmp 1) 4) 4 [(boolA (decide (a0 < (0)))), (boolA (decide (a1 < (0))))] (mget []) 25) fun v4 =>
exB v4 fun b5 =>
bif b5 then (
retL R [] [some (intA (IntKind.wrap .i64 (z1 - (1)))), some (intA (0))]) else (
retL R [] [some (intA z1), some (intA (0))])) else (
retL R [] [some (intA z1), some (intA (0))]))) else (
opP (opA Tryz.prog (.binOp .quo 3 (.tmp 0) (.tmp 1) 3) 3 [(intA a0), (intA a1)] (mget []) 12) fun v6 =>
ex_i64 v6 fun z7 =>
opP (opA Tryz.prog (.binOp .rem 3 (.tmp 0) (.tmp 1) 3) 3 [(intA a0), (intA a1)] (mget []) 16) fun v8 =>
ex_i64 v8 fun z9 =>
bif (z9 != (0)) then (
opP (opA Tryz.prog (.binOp .neq 4 (.tmp 0) (.tmp 1) 4) 4 [(boolA (decide (a0 < (0)))), (boolA (decide (a1 < (0))))] (mget []) 23) fun v10 =>
exB v10 fun b11 =>
bif b11 then (
retL R [] [some (intA (IntKind.wrap .i64 (z7 - (1)))), some (intA (0))]) else (
retL R [] [some (intA z7), some (intA (0))])) else (
retL R [] [some (intA z7), some (intA (0))])))
theorem F71_own (a0 : Int) (a1 : Int) (R : AV → Mem → Prop) (h : F71 a0 a1 R) : Own Tryz.prog KK.gl 71 [(intA a0), (intA a1)] R := own_of_F fol Tryz.func71 (code := c71) (by kernel_rfl) (by kernel_rfl) (by kernel_rfl) (X := F71 a0 a1 R) (by kernel_rfl) h
/- skyway/plane.Toward -/
noncomputable def c70 : Code := ((Tryz.f70).body).getD .skip
noncomputable def q70 (R : AV → Mem → Prop) : AExit → St → Prop := retQ Tryz.prog Tryz.f70 R
noncomputable def F70 (a0_0 : Int) (a0_1 : Int) (a1_0 : Int) (a1_1 : Int) (a2 : Int) (a3 : Int) (R : AV → Mem → Prop) : Prop :=
bif (decide (a3 ≤ (0))) then (
opP (bld [(intA (0)), (intA (0))] [(0, 1), (1, 1)] []) fun v0 =>
storeW Tryz.prog (mget ((2, some ⟨[(intA (0)), (intA (0))], 45⟩) :: (1, some ⟨[(intA a1_0), (intA a1_1)], 45⟩) :: (0, some ⟨[(intA a0_0), (intA a0_1)], 45⟩) :: [])) 45 (AV.ptr 2 0) v0 fun v1 d1 =>
retL R (mpushs ((2, some ⟨[(intA (0)), (intA (0))], 45⟩) :: (1, some ⟨[(intA a1_0), (intA a1_1)], 45⟩) :: (0, some ⟨[(intA a0_0), (intA a0_1)], 45⟩) :: []) d1) [(aLoad Tryz.prog (mget (mpushs ((2, some ⟨[(intA (0)), (intA (0))], 45⟩) :: (1, some ⟨[(intA a1_0), (intA a1_1)], 45⟩) :: (0, some ⟨[(intA a0_0), (intA a0_1)], 45⟩) :: []) d1)) 45 (AV.ptr 2 0)).map (·.1), some (intA (10))]) else (
bif (decide (a3 > (200000))) then (
opP (bld [(intA (0)), (intA (0))] [(0, 1), (1, 1)] []) fun v2 =>
storeW Tryz.prog (mget ((2, some ⟨[(intA (0)), (intA (0))], 45⟩) :: (1, some ⟨[(intA a1_0), (intA a1_1)], 45⟩) :: (0, some ⟨[(intA a0_0), (intA a0_1)], 45⟩) :: [])) 45 (AV.ptr 2 0) v2 fun v3 d3 =>
retL R (mpushs ((2, some ⟨[(intA (0)), (intA (0))], 45⟩) :: (1, some ⟨[(intA a1_0), (intA a1_1)], 45⟩) :: (0, some ⟨[(intA a0_0), (intA a0_1)], 45⟩) :: []) d3) [(aLoad Tryz.prog (mget (mpushs ((2, some ⟨[(intA (0)), (intA (0))], 45⟩) :: (1, some ⟨[(intA a1_0), (intA a1_1)], 45⟩) :: (0, some ⟨[(intA a0_0), (intA a0_1)], 45⟩) :: []) d3)) 45 (AV.ptr 2 0)).map (·.1), some (intA (4))]) else (
bif (decide (a2 < (0))) then (
opP (bld [(intA (0)), (intA (0))] [(0, 1), (1, 1)] []) fun v4 =>
storeW Tryz.prog (mget ((2, some ⟨[(intA (0)), (intA (0))], 45⟩) :: (1, some ⟨[(intA a1_0), (intA a1_1)], 45⟩) :: (0, some ⟨[(intA a0_0), (intA a0_1)], 45⟩) :: [])) 45 (AV.ptr 2 0) v4 fun v5 d5 =>
retL R (mpushs ((2, some ⟨[(intA (0)), (intA (0))], 45⟩) :: (1, some ⟨[(intA a1_0), (intA a1_1)], 45⟩) :: (0, some ⟨[(intA a0_0), (intA a0_1)], 45⟩) :: []) d5) [(aLoad Tryz.prog (mget (mpushs ((2, some ⟨[(intA (0)), (intA (0))], 45⟩) :: (1, some ⟨[(intA a1_0), (intA a1_1)], 45⟩) :: (0, some ⟨[(intA a0_0), (intA a0_1)], 45⟩) :: []) d5)) 45 (AV.ptr 2 0)).map (·.1), some (intA (4))]) else (
bif (decide (a2 > a3)) then (
opP (bld [(intA (0)), (intA (0))] [(0, 1), (1, 1)] []) fun v6 =>
storeW Tryz.prog (mget ((2, some ⟨[(intA (0)), (intA (0))], 45⟩) :: (1, some ⟨[(intA a1_0), (intA a1_1)], 45⟩) :: (0, some ⟨[(intA a0_0), (intA a0_1)], 45⟩) :: [])) 45 (AV.ptr 2 0) v6 fun v7 d7 =>
retL R (mpushs ((2, some ⟨[(intA (0)), (intA (0))], 45⟩) :: (1, some ⟨[(intA a1_0), (intA a1_1)], 45⟩) :: (0, some ⟨[(intA a0_0), (intA a0_1)], 45⟩) :: []) d7) [(aLoad Tryz.prog (mget (mpushs ((2, some ⟨[(intA (0)), (intA (0))], 45⟩) :: (1, some ⟨[(intA a1_0), (intA a1_1)], 45⟩) :: (0, some ⟨[(intA a0_0), (intA a0_1)], 45⟩) :: []) d7)) 45 (AV.ptr 2 0)).map (·.1), some (intA (4))]) else (
callQ Tryz.prog KK.gl ((2, some ⟨[(intA (0)), (intA (0))], 45⟩) :: (1, some ⟨[(intA a1_0), (intA a1_1)], 45⟩) :: (0, some ⟨[(intA a0_0), (intA a0_1)], 45⟩) :: []) 38 [(AV.agg [(intA a0_0), (intA a0_1)])] fun v8 =>
ex_i64 v8 fun z9 =>
bif (z9 != (0)) then (
opP (bld [(intA (0)), (intA (0))] [(0, 1), (1, 1)] []) fun v10 =>
callQ Tryz.prog KK.gl ((2, some ⟨[(intA (0)), (intA (0))], 45⟩) :: (1, some ⟨[(intA a1_0), (intA a1_1)], 45⟩) :: (0, some ⟨[(intA a0_0), (intA a0_1)], 45⟩) :: []) 38 [(AV.agg [(intA a0_0), (intA a0_1)])] fun v11 =>
ex_i64 v11 fun z12 =>
storeW Tryz.prog (mget ((2, some ⟨[(intA (0)), (intA (0))], 45⟩) :: (1, some ⟨[(intA a1_0), (intA a1_1)], 45⟩) :: (0, some ⟨[(intA a0_0), (intA a0_1)], 45⟩) :: [])) 45 (AV.ptr 2 0) v10 fun v13 d13 =>
retL R (mpushs ((2, some ⟨[(intA (0)), (intA (0))], 45⟩) :: (1, some ⟨[(intA a1_0), (intA a1_1)], 45⟩) :: (0, some ⟨[(intA a0_0), (intA a0_1)], 45⟩) :: []) d13) [(aLoad Tryz.prog (mget (mpushs ((2, some ⟨[(intA (0)), (intA (0))], 45⟩) :: (1, some ⟨[(intA a1_0), (intA a1_1)], 45⟩) :: (0, some ⟨[(intA a0_0), (intA a0_1)], 45⟩) :: []) d13)) 45 (AV.ptr 2 0)).map (·.1), some (intA z12)]) else (
callQ Tryz.prog KK.gl ((2, some ⟨[(intA (0)), (intA (0))], 45⟩) :: (1, some ⟨[(intA a1_0), (intA a1_1)], 45⟩) :: (0, some ⟨[(intA a0_0), (intA a0_1)], 45⟩) :: []) 38 [(AV.agg [(intA a1_0), (intA a1_1)])] fun v14 =>
ex_i64 v14 fun z15 =>
bif (z15 != (0)) then (
opP (bld [(intA (0)), (intA (0))] [(0, 1), (1, 1)] []) fun v16 =>
callQ Tryz.prog KK.gl ((2, some ⟨[(intA (0)), (intA (0))], 45⟩) :: (1, some ⟨[(intA a1_0), (intA a1_1)], 45⟩) :: (0, some ⟨[(intA a0_0), (intA a0_1)], 45⟩) :: []) 38 [(AV.agg [(intA a1_0), (intA a1_1)])] fun v17 =>
ex_i64 v17 fun z18 =>
storeW Tryz.prog (mget ((2, some ⟨[(intA (0)), (intA (0))], 45⟩) :: (1, some ⟨[(intA a1_0), (intA a1_1)], 45⟩) :: (0, some ⟨[(intA a0_0), (intA a0_1)], 45⟩) :: [])) 45 (AV.ptr 2 0) v16 fun v19 d19 =>
retL R (mpushs ((2, some ⟨[(intA (0)), (intA (0))], 45⟩) :: (1, some ⟨[(intA a1_0), (intA a1_1)], 45⟩) :: (0, some ⟨[(intA a0_0), (intA a0_1)], 45⟩) :: []) d19) [(aLoad Tryz.prog (mget (mpushs ((2, some ⟨[(intA (0)), (intA (0))], 45⟩) :: (1, some ⟨[(intA a1_0), (intA a1_1)], 45⟩) :: (0, some ⟨[(intA a0_0), (intA a0_1)], 45⟩) :: []) d19)) 45 (AV.ptr 2 0)).map (·.1), some (intA z18)]) else (
callQ Tryz.prog KK.gl ((2, some ⟨[(intA (0)), (intA (0))], 45⟩) :: (1, some ⟨[(intA a1_0), (intA a1_1)], 45⟩) :: (0, some ⟨[(intA a0_0), (intA a0_1)], 45⟩) :: []) 71 [(intA (IntKind.wrap .i64 ((IntKind.wrap .i64 (a1_0 - a0_0)) * a2))), (intA a3)] fun v20 =>
exT2 v20 fun c21 c22 =>
ex_i64 c21 fun z23 =>
ex_i64 c22 fun z24 =>
callQ Tryz.prog KK.gl ((2, some ⟨[(intA (0)), (intA (0))], 45⟩) :: (1, some ⟨[(intA a1_0), (intA a1_1)], 45⟩) :: (0, some ⟨[(intA a0_0), (intA a0_1)], 45⟩) :: []) 71 [(intA (IntKind.wrap .i64 ((IntKind.wrap .i64 (a1_1 - a0_1)) * a2))), (intA a3)] fun v25 =>
exT2 v25 fun c26 c27 =>
ex_i64 c26 fun z28 =>
ex_i64 c27 fun z29 =>
opP (bld [(intA (0)), (intA (0))] [(0, 1), (1, 1)] [(0, (intA (IntKind.wrap .i64 (a0_0 + z23)))), (1, (intA (IntKind.wrap .i64 (a0_1 + z28))))]) fun v30 =>
storeW Tryz.prog (mget ((2, some ⟨[(intA (0)), (intA (0))], 45⟩) :: (1, some ⟨[(intA a1_0), (intA a1_1)], 45⟩) :: (0, some ⟨[(intA a0_0), (intA a0_1)], 45⟩) :: [])) 45 (AV.ptr 2 0) v30 fun v31 d31 =>
retL R (mpushs ((2, some ⟨[(intA (0)), (intA (0))], 45⟩) :: (1, some ⟨[(intA a1_0), (intA a1_1)], 45⟩) :: (0, some ⟨[(intA a0_0), (intA a0_1)], 45⟩) :: []) d31) [(aLoad Tryz.prog (mget (mpushs ((2, some ⟨[(intA (0)), (intA (0))], 45⟩) :: (1, some ⟨[(intA a1_0), (intA a1_1)], 45⟩) :: (0, some ⟨[(intA a0_0), (intA a0_1)], 45⟩) :: []) d31)) 45 (AV.ptr 2 0)).map (·.1), some (intA (0))]))))))
theorem F70_own (a0_0 : Int) (a0_1 : Int) (a1_0 : Int) (a1_1 : Int) (a2 : Int) (a3 : Int) (R : AV → Mem → Prop) (h : F70 a0_0 a0_1 a1_0 a1_1 a2 a3 R) : Own Tryz.prog KK.gl 70 [(AV.agg [(intA a0_0), (intA a0_1)]), (AV.agg [(intA a1_0), (intA a1_1)]), (intA a2), (intA a3)] R := own_of_F fol Tryz.func70 (code := c70) (by kernel_rfl) (by kernel_rfl) (by kernel_rfl) (X := F70 a0_0 a0_1 a1_0 a1_1 a2 a3 R) (by kernel_rfl) h
/- skyway/num.DivUp -/
noncomputable def c72 : Code := ((Tryz.f72).body).getD .skip
noncomputable def q72 (R : AV → Mem → Prop) : AExit → St → Prop := retQ Tryz.prog Tryz.f72 R
noncomputable def F72 (a0 : Int) (a1 : Int) (R : AV → Mem → Prop) : Prop :=
callQ Tryz.prog KK.gl [] 71 [(intA a0), (intA a1)] fun v0 =>
exT2 v0 fun c1 c2 =>
ex_i64 c1 fun z3 =>
ex_i64 c2 fun z4 =>
bif (z4 == (0)) then (
opP (opA Tryz.prog (.binOp .rem 3 (.tmp 0) (.tmp 1) 3) 3 [(intA a0), (intA a1)] (mget []) 78) fun v5 =>
ex_i64 v5 fun z6 =>
bif (z6 != (0)) then (
retL R [] [some (intA (IntKind.wrap .i64 (z3 + (1)))), some (intA z4)]) else (
retL R [] [some (intA z3), some (intA z4)])) else (
retL R [] [some (intA z3), some (intA z4)])
theorem F72_own (a0 : Int) (a1 : Int) (R : AV → Mem → Prop) (h : F72 a0 a1 R) : Own Tryz.prog KK.gl 72 [(intA a0), (intA a1)] R := own_of_F fol Tryz.func72 (code := c72) (by kernel_rfl) (by kernel_rfl) (by kernel_rfl) (X := F72 a0 a1 R) (by kernel_rfl) h
/- skyway/tube.at -/
noncomputable def c53 : Code := ((Tryz.f53).body).getD .skip
noncomputable def q53 (R : AV → Mem → Prop) : AExit → St → Prop := retQ Tryz.prog Tryz.f53 R
noncomputable def F53 (a0 : AV) (a1 : Int) (R : AV → Mem → Prop) : Prop :=
callW Tryz.prog KK.gl ((0, some ⟨[(intA (0)), (intA (0)), (intA (0)), (intA (0)), (intA (0)), (intA (0))], 50⟩) :: []) 3 68 [a0, (intA a1), (AV.fn 69 [])] fun v0 m0 =>
exT2 v0 fun c1 c2 =>
ex_i64 c1 fun z3 =>
exB c2 fun b4 =>
bif b4 then (
opP (idxS 6 a0 (intA z3)) fun v5 =>
opP (ldA (mget m0) 6 v5) fun v6 =>
exA6 v6 fun c7 c8 c9 c10 c11 c12 =>
ex_i64 c7 fun z13 =>
ex_i64 c8 fun z14 =>
ex_i64 c9 fun z15 =>
ex_i64 c10 fun z16 =>
ex_i64 c11 fun z17 =>
ex_i64 c12 fun z18 =>
storeW Tryz.prog (mget m0) 50 (AV.ptr 0 0) (AV.agg [(intA z13), (intA z14), (intA z15), (intA z16), (intA z17), (intA z18)]) fun v19 d19 =>
retL R (mpushs m0 d19) [(aLoad Tryz.prog (mget (mpushs m0 d19)) 50 (AV.ptr 0 0)).map (·.1)]) else (
opM (idxS 6 a0 (intA (IntKind.wrap .i64 (z3 - (1))))) fun v20 d20 =>
opM (ldA (look' (mpushs m0 d20) (topId v20 ++ ([]))) 6 v20) fun v21 d21 =>
exA6 v21 fun c22 c23 c24 c25 c26 c27 =>
ex_i64 c22 fun z28 =>
ex_i64 c23 fun z29 =>
ex_i64 c24 fun z30 =>
ex_i64 c25 fun z31 =>
ex_i64 c26 fun z32 =>
ex_i64 c27 fun z33 =>
opM (idxS 6 a0 (intA z3)) fun v34 d34 =>
opM (ldA (look' (mpushs (mpushs (mpushs m0 d20) d21) d34) (topId v34 ++ ([]))) 6 v34) fun v35 d35 =>
exA6 v35 fun c36 c37 c38 c39 c40 c41 =>
ex_i64 c36 fun z42 =>
ex_i64 c37 fun z43 =>
ex_i64 c38 fun z44 =>
ex_i64 c39 fun z45 =>
ex_i64 c40 fun z46 =>
ex_i64 c41 fun z47 =>
storeW Tryz.prog (look' ((83, some ⟨[(intA (0)), (intA (0)), (intA (0)), (intA (0)), (intA (0)), (intA (0))], 50⟩) :: (82, some ⟨[(intA (0)), (intA (0)), (intA (0)), (intA (0)), (intA (0)), (intA (0))], 50⟩) :: (mpushs (mpushs (mpushs (mpushs m0 d20) d21) d34) d35)) (topId (AV.ptr 82 0) ++ (topId (AV.agg [(intA z28), (intA z29), (intA z30), (intA z31), (intA z32), (intA z33)]) ++ ([])))) 50 (AV.ptr 82 0) (AV.agg [(intA z28), (intA z29), (intA z30), (intA z31), (intA z32), (intA z33)]) fun v48 d48 =>
storeW Tryz.prog (look' (mpushs ((83, some ⟨[(intA (0)), (intA (0)), (intA (0)), (intA (0)), (intA (0)), (intA (0))], 50⟩) :: (82, some ⟨[(intA (0)), (intA (0)), (intA (0)), (intA (0)), (intA (0)), (intA (0))], 50⟩) :: (mpushs (mpushs (mpushs (mpushs m0 d20) d21) d34) d35)) d48) (topId (AV.ptr 83 0) ++ (topId (AV.agg [(intA z42), (intA z43), (intA z44), (intA z45), (intA z46), (intA z47)]) ++ ([])))) 50 (AV.ptr 83 0) (AV.agg [(intA z42), (intA z43), (intA z44), (intA z45), (intA z46), (intA z47)]) fun v49 d49 =>
chk (confOk [0, 0, 2, 7, 15, 0, 0, 96, 224, 0, 0, 1567, 4095] [⟨[], []⟩, ⟨[], []⟩, ⟨[], []⟩, ⟨d20, []⟩, ⟨d21, (topId v20 ++ ([]))⟩, ⟨[], []⟩, ⟨[], []⟩, ⟨d34, []⟩, ⟨d35, (topId v34 ++ ([]))⟩, ⟨[(82, some ⟨[(intA (0)), (intA (0)), (intA (0)), (intA (0)), (intA (0)), (intA (0))], 50⟩)], []⟩, ⟨[(83, some ⟨[(intA (0)), (intA (0)), (intA (0)), (intA (0)), (intA (0)), (intA (0))], 50⟩)], []⟩, ⟨d48, (topId (AV.ptr 82 0) ++ (topId (AV.agg [(intA z28), (intA z29), (intA z30), (intA z31), (intA z32), (intA z33)]) ++ ([])))⟩, ⟨d49, (topId (AV.ptr 83 0) ++ (topId (AV.agg [(intA z42), (intA z43), (intA z44), (intA z45), (intA z46), (intA z47)]) ++ ([])))⟩]) (opP (ldS (mget (mpushs (mpushs ((83, some ⟨[(intA (0)), (intA (0)), (intA (0)), (intA (0)), (intA (0)), (intA (0))], 50⟩) :: (82, some ⟨[(intA (0)), (intA (0)), (intA (0)), (intA (0)), (intA (0)), (intA (0))], 50⟩) :: (mpushs (mpushs (mpushs (mpushs m0 d20) d21) d34) d35)) d48) d49)) (AV.ptr 82 0)) fun v50 =>
ex_i64 v50 fun z51 =>
opP (ldS (mget (mpushs (mpushs ((83, some ⟨[(intA (0)), (intA (0)), (intA (0)), (intA (0)), (intA (0)), (intA (0))], 50⟩) :: (82, some ⟨[(intA (0)), (intA (0)), (intA (0)), (intA (0)), (intA (0)), (intA (0))], 50⟩) :: (mpushs (mpushs (mpushs (mpushs m0 d20) d21) d34) d35)) d48) d49)) (AV.ptr 83 0)) fun v52 =>
ex_i64 v52 fun z53 =>
opP (ldS (mget (mpushs (mpushs ((83, some ⟨[(intA (0)), (intA (0)), (intA (0)), (intA (0)), (intA (0)), (intA (0))], 50⟩) :: (82, some ⟨[(intA (0)), (intA (0)), (intA (0)), (intA (0)), (intA (0)), (intA (0))], 50⟩) :: (mpushs (mpushs (mpushs (mpushs m0 d20) d21) d34) d35)) d48) d49)) (AV.ptr 82 0)) fun v54 =>
ex_i64 v54 fun z55 =>
opP (ldA (mget (mpushs (mpushs ((83, some ⟨[(intA (0)), (intA (0)), (intA (0)), (intA (0)), (intA (0)), (intA (0))], 50⟩) :: (82, some ⟨[(intA (0)), (intA (0)), (intA (0)), (intA (0)), (intA (0)), (intA (0))], 50⟩) :: (mpushs (mpushs (mpushs (mpushs m0 d20) d21) d34) d35)) d48) d49)) 2 (AV.ptr 82 1)) fun v56 =>
exA2 v56 fun c57 c58 =>
ex_i64 c57 fun z59 =>
ex_i64 c58 fun z60 =>
opP (ldA (mget (mpushs (mpushs ((83, some ⟨[(intA (0)), (intA (0)), (intA (0)), (intA (0)), (intA (0)), (intA (0))], 50⟩) :: (82, some ⟨[(intA (0)), (intA (0)), (intA (0)), (intA (0)), (intA (0)), (intA (0))], 50⟩) :: (mpushs (mpushs (mpushs (mpushs m0 d20) d21) d34) d35)) d48) d49)) 2 (AV.ptr 83 1)) fun v61 =>
exA2 v61 fun c62 c63 =>
ex_i64 c62 fun z64 =>
ex_i64 c63 fun z65 =>
callQ Tryz.prog KK.gl (mpushs (mpushs ((83, some ⟨[(intA (0)), (intA (0)), (intA (0)), (intA (0)), (intA (0)), (intA (0))], 50⟩) :: (82, some ⟨[(intA (0)), (intA (0)), (intA (0)), (intA (0)), (intA (0)), (intA (0))], 50⟩) :: (mpushs (mpushs (mpushs (mpushs m0 d20) d21) d34) d35)) d48) d49) 70 [(AV.agg [(intA z59), (intA z60)]), (AV.agg [(intA z64), (intA z65)]), (intA (IntKind.wrap .i64 (a1 - z51))), (intA (IntKind.wrap .i64 (z53 - z55)))] fun v66 =>
exT2 v66 fun c67 c68 =>
exA2 c67 fun c69 c70 =>
ex_i64 c69 fun z71 =>
ex_i64 c70 fun z72 =>
ex_i64 c68 fun z73 =>
opP (ldS (mget ((175, some ⟨[(intA z71), (intA z72)], 45⟩) :: (175, some ⟨[(intA (0)), (intA (0))], 45⟩) :: (mpushs (mpushs ((83, some ⟨[(intA (0)), (intA (0)), (intA (0)), (intA (0)), (intA (0)), (intA (0))], 50⟩) :: (82, some ⟨[(intA (0)), (intA (0)), (intA (0)), (intA (0)), (intA (0)), (intA (0))], 50⟩) :: (mpushs (mpushs (mpushs (mpushs m0 d20) d21) d34) d35)) d48) d49))) (AV.ptr 83 3)) fun v74 =>
ex_i64 v74 fun z75 =>
opP (ldS (mget ((175, some ⟨[(intA z71), (intA z72)], 45⟩) :: (175, some ⟨[(intA (0)), (intA (0))], 45⟩) :: (mpushs (mpushs ((83, some ⟨[(intA (0)), (intA (0)), (intA (0)), (intA (0)), (intA (0)), (intA (0))], 50⟩) :: (82, some ⟨[(intA (0)), (intA (0)), (intA (0)), (intA (0)), (intA (0)), (intA (0))], 50⟩) :: (mpushs (mpushs (mpushs (mpushs m0 d20) d21) d34) d35)) d48) d49))) (AV.ptr 82 3)) fun v76 =>
ex_i64 v76 fun z77 =>
callQ Tryz.prog KK.gl ((175, some ⟨[(intA z71), (intA z72)], 45⟩) :: (175, some ⟨[(intA (0)), (intA (0))], 45⟩) :: (mpushs (mpushs ((83, some ⟨[(intA (0)), (intA (0)), (intA (0)), (intA (0)), (intA (0)), (intA (0))], 50⟩) :: (82, some ⟨[(intA (0)), (intA (0)), (intA (0)), (intA (0)), (intA (0)), (intA (0))], 50⟩) :: (mpushs (mpushs (mpushs (mpushs m0 d20) d21) d34) d35)) d48) d49)) 71 [(intA (IntKind.wrap .i64 ((IntKind.wrap .i64 (z75 - z77)) * (IntKind.wrap .i64 (a1 - z51))))), (intA (IntKind.wrap .i64 (z53 - z55)))] fun v78 =>
exT2 v78 fun c79 c80 =>
ex_i64 c79 fun z81 =>
ex_i64 c80 fun z82 =>
opP (ldS (mget ((175, some ⟨[(intA z71), (intA z72)], 45⟩) :: (175, some ⟨[(intA (0)), (intA (0))], 45⟩) :: (mpushs (mpushs ((83, some ⟨[(intA (0)), (intA (0)), (intA (0)), (intA (0)), (intA (0)), (intA (0))], 50⟩) :: (82, some ⟨[(intA (0)), (intA (0)), (intA (0)), (intA (0)), (intA (0)), (intA (0))], 50⟩) :: (mpushs (mpushs (mpushs (mpushs m0 d20) d21) d34) d35)) d48) d49))) (AV.ptr 83 4)) fun v83 =>
ex_i64 v83 fun z84 =>
opP (ldS (mget ((175, some ⟨[(intA z71), (intA z72)], 45⟩) :: (175, some ⟨[(intA (0)), (intA (0))], 45⟩) :: (mpushs (mpushs ((83, some ⟨[(intA (0)), (intA (0)), (intA (0)), (intA (0)), (intA (0)), (intA (0))], 50⟩) :: (82, some ⟨[(intA (0)), (intA (0)), (intA (0)), (intA (0)), (intA (0)), (intA (0))], 50⟩) :: (mpushs (mpushs (mpushs (mpushs m0 d20) d21) d34) d35)) d48) d49))) (AV.ptr 82 4)) fun v85 =>
ex_i64 v85 fun z86 =>
callQ Tryz.prog KK.gl ((175, some ⟨[(intA z71), (intA z72)], 45⟩) :: (175, some ⟨[(intA (0)), (intA (0))], 45⟩) :: (mpushs (mpushs ((83, some ⟨[(intA (0)), (intA (0)), (intA (0)), (intA (0)), (intA (0)), (intA (0))], 50⟩) :: (82, some ⟨[(intA (0)), (intA (0)), (intA (0)), (intA (0)), (intA (0)), (intA (0))], 50⟩) :: (mpushs (mpushs (mpushs (mpushs m0 d20) d21) d34) d35)) d48) d49)) 72 [(intA (IntKind.wrap .i64 ((IntKind.wrap .i64 (z84 - z86)) * (IntKind.wrap .i64 (a1 - z51))))), (intA (IntKind.wrap .i64 (z53 - z55)))] fun v87 =>
exT2 v87 fun c88 c89 =>
ex_i64 c88 fun z90 =>
ex_i64 c89 fun z91 =>
opP (ldS (mget ((175, some ⟨[(intA z71), (intA z72)], 45⟩) :: (175, some ⟨[(intA (0)), (intA (0))], 45⟩) :: (mpushs (mpushs ((83, some ⟨[(intA (0)), (intA (0)), (intA (0)), (intA (0)), (intA (0)), (intA (0))], 50⟩) :: (82, some ⟨[(intA (0)), (intA (0)), (intA (0)), (intA (0)), (intA (0)), (intA (0))], 50⟩) :: (mpushs (mpushs (mpushs (mpushs m0 d20) d21) d34) d35)) d48) d49))) (AV.ptr 83 5)) fun v92 =>
ex_i64 v92 fun z93 =>
opP (ldS (mget ((175, some ⟨[(intA z71), (intA z72)], 45⟩) :: (175, some ⟨[(intA (0)), (intA (0))], 45⟩) :: (mpushs (mpushs ((83, some ⟨[(intA (0)), (intA (0)), (intA (0)), (intA (0)), (intA (0)), (intA (0))], 50⟩) :: (82, some ⟨[(intA (0)), (intA (0)), (intA (0)), (intA (0)), (intA (0)), (intA (0))], 50⟩) :: (mpushs (mpushs (mpushs (mpushs m0 d20) d21) d34) d35)) d48) d49))) (AV.ptr 82 5)) fun v94 =>
ex_i64 v94 fun z95 =>
callQ Tryz.prog KK.gl ((175, some ⟨[(intA z71), (intA z72)], 45⟩) :: (175, some ⟨[(intA (0)), (intA (0))], 45⟩) :: (mpushs (mpushs ((83, some ⟨[(intA (0)), (intA (0)), (intA (0)), (intA (0)), (intA (0)), (intA (0))], 50⟩) :: (82, some ⟨[(intA (0)), (intA (0)), (intA (0)), (intA (0)), (intA (0)), (intA (0))], 50⟩) :: (mpushs (mpushs (mpushs (mpushs m0 d20) d21) d34) d35)) d48) d49)) 72 [(intA (IntKind.wrap .i64 ((IntKind.wrap .i64 (z93 - z95)) * (IntKind.wrap .i64 (a1 - z51))))), (intA (IntKind.wrap .i64 (z53 - z55)))] fun v96 =>
exT2 v96 fun c97 c98 =>
ex_i64 c97 fun z99 =>
ex_i64 c98 fun z100 =>
opP (ldS (mget ((175, some ⟨[(intA z71), (intA z72)], 45⟩) :: (175, some ⟨[(intA (0)), (intA (0))], 45⟩) :: (mpushs (mpushs ((83, some ⟨[(intA (0)), (intA (0)), (intA (0)), (intA (0)), (intA (0)), (intA (0))], 50⟩) :: (82, some ⟨[(intA (0)), (intA (0)), (intA (0)), (intA (0)), (intA (0)), (intA (0))], 50⟩) :: (mpushs (mpushs (mpushs (mpushs m0 d20) d21) d34) d35)) d48) d49))) (AV.ptr 82 3)) fun v101 =>
ex_i64 v101 fun z102 =>
opP (bld [(intA (0)), (intA (0)), (intA (0)), (intA (0))] [(0, 1), (1, 2), (3, 1)] [(0, (intA a1)), (1, (AV.agg [(intA z71), (intA z72)])), (2, (intA (IntKind.wrap .i64 (z102 + z81))))]) fun v103 =>
opP (ldS (mget ((175, some ⟨[(intA z71), (intA z72)], 45⟩) :: (175, some ⟨[(intA (0)), (intA (0))], 45⟩) :: (mpushs (mpushs ((83, some ⟨[(intA (0)), (intA (0)), (intA (0)), (intA (0)), (intA (0)), (intA (0))], 50⟩) :: (82, some ⟨[(intA (0)), (intA (0)), (intA (0)), (intA (0)), (intA (0)), (intA (0))], 50⟩) :: (mpushs (mpushs (mpushs (mpushs m0 d20) d21) d34) d35)) d48) d49))) (AV.ptr 82 4)) fun v104 =>
ex_i64 v104 fun z105 =>
opP (ldS (mget ((175, some ⟨[(intA z71), (intA z72)], 45⟩) :: (175, some ⟨[(intA (0)), (intA (0))], 45⟩) :: (mpushs (mpushs ((83, some ⟨[(intA (0)), (intA (0)), (intA (0)), (intA (0)), (intA (0)), (intA (0))], 50⟩) :: (82, some ⟨[(intA (0)), (intA (0)), (intA (0)), (intA (0)), (intA (0)), (intA (0))], 50⟩) :: (mpushs (mpushs (mpushs (mpushs m0 d20) d21) d34) d35)) d48) d49))) (AV.ptr 82 5)) fun v106 =>
ex_i64 v106 fun z107 =>
opP (bld [(intA (0)), (intA (0)), (intA (0)), (intA (0)), (intA (0)), (intA (0))] [(0, 4), (4, 1), (5, 1)] [(0, v103), (1, (intA (IntKind.wrap .i64 (z105 + z90)))), (2, (intA (IntKind.wrap .i64 (z107 + z99))))]) fun v108 =>
storeW Tryz.prog (mget ((175, some ⟨[(intA z71), (intA z72)], 45⟩) :: (175, some ⟨[(intA (0)), (intA (0))], 45⟩) :: (mpushs (mpushs ((83, some ⟨[(intA (0)), (intA (0)), (intA (0)), (intA (0)), (intA (0)), (intA (0))], 50⟩) :: (82, some ⟨[(intA (0)), (intA (0)), (intA (0)), (intA (0)), (intA (0)), (intA (0))], 50⟩) :: (mpushs (mpushs (mpushs (mpushs m0 d20) d21) d34) d35)) d48) d49))) 50 (AV.ptr 0 0) v108 fun v109 d109 =>
retL R (mpushs ((175, some ⟨[(intA z71), (intA z72)], 45⟩) :: (175, some ⟨[(intA (0)), (intA (0))], 45⟩) :: (mpushs (mpushs ((83, some ⟨[(intA (0)), (intA (0)), (intA (0)), (intA (0)), (intA (0)), (intA (0))], 50⟩) :: (82, some ⟨[(intA (0)), (intA (0)), (intA (0)), (intA (0)), (intA (0)), (intA (0))], 50⟩) :: (mpushs (mpushs (mpushs (mpushs m0 d20) d21) d34) d35)) d48) d49)) d109) [(aLoad Tryz.prog (mget (mpushs ((175, some ⟨[(intA z71), (intA z72)], 45⟩) :: (175, some ⟨[(intA (0)), (intA (0))], 45⟩) :: (mpushs (mpushs ((83, some ⟨[(intA (0)), (intA (0)), (intA (0)), (intA (0)), (intA (0)), (intA (0))], 50⟩) :: (82, some ⟨[(intA (0)), (intA (0)), (intA (0)), (intA (0)), (intA (0)), (intA (0))], 50⟩) :: (mpushs (mpushs (mpushs (mpushs m0 d20) d21) d34) d35)) d48) d49)) d109)) 50 (AV.ptr 0 0)).map (·.1)]))
theorem F53_own (a0 : AV) (a1 : Int) (R : AV → Mem → Prop) (h : F53 a0 a1 R) : Own Tryz.prog KK.gl 53 [a0, (intA a1)] R := own_of_F fol Tryz.func53 (code := c53) (by kernel_rfl) (by kernel_rfl) (by kernel_rfl) (X := F53 a0 a1 R) (by kernel_rfl) h
/- skyway/tube.At -/
noncomputable def c26 : Code := ((Tryz.f26).body).getD .skip
noncomputable def q26 (R : AV → Mem → Prop) : AExit → St → Prop := retQ Tryz.prog Tryz.f26 R
noncomputable def F26 (a0 : AV) (a1 : Int) (R : AV → Mem → Prop) : Prop :=
callQ Tryz.prog KK.gl ((0, some ⟨[(intA (0)), (intA (0)), (intA (0)), (intA (0)), (intA (0)), (intA (0))], 50⟩) :: []) 24 [a0] fun v0 =>
ex_i64 v0 fun z1 =>
bif (z1 != (0)) then (
opP (bld [(intA (0)), (intA (0)), (intA (0)), (intA (0)), (intA (0)), (intA (0))] [(0, 4), (4, 1), (5, 1)] []) fun v2 =>
storeW Tryz.prog (mget ((0, some ⟨[(intA (0)), (intA (0)), (intA (0)), (intA (0)), (intA (0)), (intA (0))], 50⟩) :: [])) 50 (AV.ptr 0 0) v2 fun v3 d3 =>
retL R (mpushs ((0, some ⟨[(intA (0)), (intA (0)), (intA (0)), (intA (0)), (intA (0)), (intA (0))], 50⟩) :: []) d3) [(aLoad Tryz.prog (mget (mpushs ((0, some ⟨[(intA (0)), (intA (0)), (intA (0)), (intA (0)), (intA (0)), (intA (0))], 50⟩) :: []) d3)) 50 (AV.ptr 0 0)).map (·.1), some (intA z1)]) else (
callQ Tryz.prog KK.gl ((0, some ⟨[(intA (0)), (intA (0)), (intA (0)), (intA (0)), (intA (0)), (intA (0))], 50⟩) :: []) 52 [a0] fun v4 =>
exT2 v4 fun c5 c6 =>
ex_i64 c5 fun z7 =>
ex_i64 c6 fun z8 =>
bif (decide (a1 < z7)) then (
opP (bld [(intA (0)), (intA (0)), (intA (0)), (intA (0)), (intA (0)), (intA (0))] [(0, 4), (4, 1), (5, 1)] []) fun v9 =>
storeW Tryz.prog (mget ((0, some ⟨[(intA (0)), (intA (0)), (intA (0)), (intA (0)), (intA (0)), (intA (0))], 50⟩) :: [])) 50 (AV.ptr 0 0) v9 fun v10 d10 =>
retL R (mpushs ((0, some ⟨[(intA (0)), (intA (0)), (intA (0)), (intA (0)), (intA (0)), (intA (0))], 50⟩) :: []) d10) [(aLoad Tryz.prog (mget (mpushs ((0, some ⟨[(intA (0)), (intA (0)), (intA (0)), (intA (0)), (intA (0)), (intA (0))], 50⟩) :: []) d10)) 50 (AV.ptr 0 0)).map (·.1), some (intA (12))]) else (
bif (decide (a1 > z8)) then (
opP (bld [(intA (0)), (intA (0)), (intA (0)), (intA (0)), (intA (0)), (intA (0))] [(0, 4), (4, 1), (5, 1)] []) fun v11 =>
storeW Tryz.prog (mget ((0, some ⟨[(intA (0)), (intA (0)), (intA (0)), (intA (0)), (intA (0)), (intA (0))], 50⟩) :: [])) 50 (AV.ptr 0 0) v11 fun v12 d12 =>
retL R (mpushs ((0, some ⟨[(intA (0)), (intA (0)), (intA (0)), (intA (0)), (intA (0)), (intA (0))], 50⟩) :: []) d12) [(aLoad Tryz.prog (mget (mpushs ((0, some ⟨[(intA (0)), (intA (0)), (intA (0)), (intA (0)), (intA (0)), (intA (0))], 50⟩) :: []) d12)) 50 (AV.ptr 0 0)).map (·.1), some (intA (12))]) else (
callQ Tryz.prog KK.gl ((0, some ⟨[(intA (0)), (intA (0)), (intA (0)), (intA (0)), (intA (0)), (intA (0))], 50⟩) :: []) 53 [a0, (intA a1)] fun v13 =>
exA6 v13 fun c14 c15 c16 c17 c18 c19 =>
ex_i64 c14 fun z20 =>
ex_i64 c15 fun z21 =>
ex_i64 c16 fun z22 =>
ex_i64 c17 fun z23 =>
ex_i64 c18 fun z24 =>
ex_i64 c19 fun z25 =>
retL R ((0, some ⟨[(intA z20), (intA z21), (intA z22), (intA z23), (intA z24), (intA z25)], 50⟩) :: (0, some ⟨[(intA (0)), (intA (0)), (intA (0)), (intA (0)), (intA (0)), (intA (0))], 50⟩) :: []) [some (AV.agg [(intA z20), (intA z21), (intA z22), (intA z23), (intA z24), (intA z25)]), some (intA (0))])))
theorem F26_own (a0 : AV) (a1 : Int) (R : AV → Mem → Prop) (h : F26 a0 a1 R) : Own Tryz.prog KK.gl 26 [a0, (intA a1)] R := own_of_F fol Tryz.func26 (code := c26) (by kernel_rfl) (by kernel_rfl) (by kernel_rfl) (X := F26 a0 a1 R) (by kernel_rfl) h
/- skyway/plane.Sub -/
noncomputable def c55 : Code := ((Tryz.f55).body).getD .skip
noncomputable def q55 (R : AV → Mem → Prop) : AExit → St → Prop := retQ Tryz.prog Tryz.f55 R
noncomputable def F55 (a0_0 : Int) (a0_1 : Int) (a1_0 : Int) (a1_1 : Int) (R : AV → Mem → Prop) : Prop :=
opP (bld [(intA (0)), (intA (0))] [(0, 1), (1, 1)] [(0, (intA (IntKind.wrap .i64 (a0_0 - a1_0)))), (1, (intA (IntKind.wrap .i64 (a0_1 - a1_1))))]) fun v0 =>
storeW Tryz.prog (mget ((2, some ⟨[(intA (0)), (intA (0))], 45⟩) :: (1, some ⟨[(intA a1_0), (intA a1_1)], 45⟩) :: (0, some ⟨[(intA a0_0), (intA a0_1)], 45⟩) :: [])) 45 (AV.ptr 2 0) v0 fun v1 d1 =>
retL R (mpushs ((2, some ⟨[(intA (0)), (intA (0))], 45⟩) :: (1, some ⟨[(intA a1_0), (intA a1_1)], 45⟩) :: (0, some ⟨[(intA a0_0), (intA a0_1)], 45⟩) :: []) d1) [(aLoad Tryz.prog (mget (mpushs ((2, some ⟨[(intA (0)), (intA (0))], 45⟩) :: (1, some ⟨[(intA a1_0), (intA a1_1)], 45⟩) :: (0, some ⟨[(intA a0_0), (intA a0_1)], 45⟩) :: []) d1)) 45 (AV.ptr 2 0)).map (·.1)]
theorem F55_own (a0_0 : Int) (a0_1 : Int) (a1_0 : Int) (a1_1 : Int) (R : AV → Mem → Prop) (h : F55 a0_0 a0_1 a1_0 a1_1 R) : Own Tryz.prog KK.gl 55 [(AV.agg [(intA a0_0), (intA a0_1)]), (AV.agg [(intA a1_0), (intA a1_1)])] R := own_of_F fol Tryz.func55 (code := c55) (by kernel_rfl) (by kernel_rfl) (by kernel_rfl) (X := F55 a0_0 a0_1 a1_0 a1_1 R) (by kernel_rfl) h
/- skyway/plane.Dot -/
noncomputable def c103 : Code := ((Tryz.f103).body).getD .skip
noncomputable def q103 (R : AV → Mem → Prop) : AExit → St → Prop := retQ Tryz.prog Tryz.f103 R
noncomputable def F103 (a0_0 : Int) (a0_1 : Int) (a1_0 : Int) (a1_1 : Int) (R : AV → Mem → Prop) : Prop :=
retL R ((1, some ⟨[(intA a1_0), (intA a1_1)], 45⟩) :: (0, some ⟨[(intA a0_0), (intA a0_1)], 45⟩) :: []) [some (intA (IntKind.wrap .i64 ((IntKind.wrap .i64 (a0_0 * a1_0)) + (IntKind.wrap .i64 (a0_1 * a1_1)))))]
theorem F103_own (a0_0 : Int) (a0_1 : Int) (a1_0 : Int) (a1_1 : Int) (R : AV → Mem → Prop) (h : F103 a0_0 a0_1 a1_0 a1_1 R) : Own Tryz.prog KK.gl 103 [(AV.agg [(intA a0_0), (intA a0_1)]), (AV.agg [(intA a1_0), (intA a1_1)])] R := own_of_F fol Tryz.func103 (code := c103) (by kernel_rfl) (by kernel_rfl) (by kernel_rfl) (X := F103 a0_0 a0_1 a1_0 a1_1 R) (by kernel_rfl) h
/- skyway/plane.Square -/
noncomputable def c77 : Code := ((Tryz.f77).body).getD .skip
noncomputable def q77 (R : AV → Mem → Prop) : AExit → St → Prop := retQ Tryz.prog Tryz.f77 R
noncomputable def F77 (a0_0 : Int) (a0_1 : Int) (a1_0 : Int) (a1_1 : Int) (R : AV → Mem → Prop) : Prop :=
callQ Tryz.prog KK.gl ((1, some ⟨[(intA a1_0), (intA a1_1)], 45⟩) :: (0, some ⟨[(intA a0_0), (intA a0_1)], 45⟩) :: []) 55 [(AV.agg [(intA a0_0), (intA a0_1)]), (AV.agg [(intA a1_0), (intA a1_1)])] fun v0 =>
exA2 v0 fun c1 c2 =>
ex_i64 c1 fun z3 =>
ex_i64 c2 fun z4 =>
callQ Tryz.prog KK.gl ((69, some ⟨[(intA z3), (intA z4)], 45⟩) :: (69, some ⟨[(intA (0)), (intA (0))], 45⟩) :: (1, some ⟨[(intA a1_0), (intA a1_1)], 45⟩) :: (0, some ⟨[(intA a0_0), (intA a0_1)], 45⟩) :: []) 103 [(AV.agg [(intA z3), (intA z4)]), (AV.agg [(intA z3), (intA z4)])] fun v5 =>
ex_i64 v5 fun z6 =>
retL R ((69, some ⟨[(intA z3), (intA z4)], 45⟩) :: (69, some ⟨[(intA (0)), (intA (0))], 45⟩) :: (1, some ⟨[(intA a1_0), (intA a1_1)], 45⟩) :: (0, some ⟨[(intA a0_0), (intA a0_1)], 45⟩) :: []) [some (intA z6)]
theorem F77_own (a0_0 : Int) (a0_1 : Int) (a1_0 : Int) (a1_1 : Int) (R : AV → Mem → Prop) (h : F77 a0_0 a0_1 a1_0 a1_1 R) : Own Tryz.prog KK.gl 77 [(AV.agg [(intA a0_0), (intA a0_1)]), (AV.agg [(intA a1_0), (intA a1_1)])] R := own_of_F fol Tryz.func77 (code := c77) (by kernel_rfl) (by kernel_rfl) (by kernel_rfl) (X := F77 a0_0 a0_1 a1_0 a1_1 R) (by kernel_rfl) h
/- skyway/num.Root -/
noncomputable def c78 : Code := ((Tryz.f78).body).getD .skip
noncomputable def q78 (R : AV → Mem → Prop) : AExit → St → Prop := retQ Tryz.prog Tryz.f78 R
noncomputable def c78_0 : Code := loopB c78 0
noncomputable def q78_0 (R : AV → Mem → Prop) : AExit → St → Prop := contW Tryz.prog KK 27 0 c78 0 (q78 R)
noncomputable def qq78_0 (R : AV → Mem → Prop) (N0 : St → Prop) : AExit → St → Prop := thenQ N0 (q78_0 R)
def h78_0 (t0 : Int) (t2 : Int) (t3 : Int) (t4 : Int) (m : Mem) : St := ⟨[(0, (intA t0)), (2, (intA t2)), (3, (intA t3)), (4, (intA t4))], m, 100000⟩
noncomputable def B78_0 (t0 : Int) (t2 : Int) (t3 : Int) (t4 : Int) (m : Mem) (R : AV → Mem → Prop) (N0 : St → Prop) : Prop :=
bif (decide (t3 < t4)) then (
bif (decide ((IntKind.wrap .i64 ((IntKind.wrap .i64 (t3 + (IntKind.wrap .i64 (Int.tdiv (IntKind.wrap .i64 ((IntKind.wrap .i64 (t4 - t3)) + (1))) (2))))) * (IntKind.wrap .i64 (t3 + (IntKind.wrap .i64 (Int.tdiv (IntKind.wrap .i64 ((IntKind.wrap .i64 (t4 - t3)) + (1))) (2))))))) ≤ t0)) then (
N0 ⟨[(0, (intA t0)), (2, (intA t2)), (3, (intA (IntKind.wrap .i64 (t3 + (IntKind.wrap .i64 (Int.tdiv (IntKind.wrap .i64 ((IntKind.wrap .i64 (t4 - t3)) + (1))) (2))))))), (4, (intA t4)), (8, (intA t3)), (9, (intA t4)), (10, (boolA (decide (t3 < t4)))), (11, (intA t3)), (12, (intA t4)), (13, (intA t3)), (14, (intA (IntKind.wrap .i64 (t4 - t3)))), (15, (intA (IntKind.wrap .i64 ((IntKind.wrap .i64 (t4 - t3)) + (1))))), (16, (intA (IntKind.wrap .i64 (Int.tdiv (IntKind.wrap .i64 ((IntKind.wrap .i64 (t4 - t3)) + (1))) (2))))), (17, (intA (IntKind.wrap .i64 (t3 + (IntKind.wrap .i64 (Int.tdiv (IntKind.wrap .i64 ((IntKind.wrap .i64 (t4 - t3)) + (1))) (2))))))), (5, (intA (IntKind.wrap .i64 (t3 + (IntKind.wrap .i64 (Int.tdiv (IntKind.wrap .i64 ((IntKind.wrap .i64 (t4 - t3)) + (1))) (2))))))), (18, (intA (IntKind.wrap .i64 (t3 + (IntKind.wrap .i64 (Int.tdiv (IntKind.wrap .i64 ((IntKind.wrap .i64 (t4 - t3)) + (1))) (2))))))), (19, (intA (IntKind.wrap .i64 (t3 + (IntKind.wrap .i64 (Int.tdiv (IntKind.wrap .i64 ((IntKind.wrap .i64 (t4 - t3)) + (1))) (2))))))), (20, (intA (IntKind.wrap .i64 ((IntKind.wrap .i64 (t3 + (IntKind.wrap .i64 (Int.tdiv (IntKind.wrap .i64 ((IntKind.wrap .i64 (t4 - t3)) + (1))) (2))))) * (IntKind.wrap .i64 (t3 + (IntKind.wrap .i64 (Int.tdiv (IntKind.wrap .i64 ((IntKind.wrap .i64 (t4 - t3)) + (1))) (2))))))))), (21, (intA t0)), (22, (boolA (decide ((IntKind.wrap .i64 ((IntKind.wrap .i64 (t3 + (IntKind.wrap .i64 (Int.tdiv (IntKind.wrap .i64 ((IntKind.wrap .i64 (t4 - t3)) + (1))) (2))))) * (IntKind.wrap .i64 (t3 + (IntKind.wrap .i64 (Int.tdiv (IntKind.wrap .i64 ((IntKind.wrap .i64 (t4 - t3)) + (1))) (2))))))) ≤ t0)))), (23, (intA (IntKind.wrap .i64 (t3 + (IntKind.wrap .i64 (Int.tdiv (IntKind.wrap .i64 ((IntKind.wrap .i64 (t4 - t3)) + (1))) (2)))))))], m, 100018⟩) else (
N0 ⟨[(0, (intA t0)), (2, (intA t2)), (3, (intA t3)), (4, (intA (IntKind.wrap .i64 ((IntKind.wrap .i64 (t3 + (IntKind.wrap .i64 (Int.tdiv (IntKind.wrap .i64 ((IntKind.wrap .i64 (t4 - t3)) + (1))) (2))))) - (1))))), (8, (intA t3)), (9, (intA t4)), (10, (boolA (decide (t3 < t4)))), (11, (intA t3)), (12, (intA t4)), (13, (intA t3)), (14, (intA (IntKind.wrap .i64 (t4 - t3)))), (15, (intA (IntKind.wrap .i64 ((IntKind.wrap .i64 (t4 - t3)) + (1))))), (16, (intA (IntKind.wrap .i64 (Int.tdiv (IntKind.wrap .i64 ((IntKind.wrap .i64 (t4 - t3)) + (1))) (2))))), (17, (intA (IntKind.wrap .i64 (t3 + (IntKind.wrap .i64 (Int.tdiv (IntKind.wrap .i64 ((IntKind.wrap .i64 (t4 - t3)) + (1))) (2))))))), (5, (intA (IntKind.wrap .i64 (t3 + (IntKind.wrap .i64 (Int.tdiv (IntKind.wrap .i64 ((IntKind.wrap .i64 (t4 - t3)) + (1))) (2))))))), (18, (intA (IntKind.wrap .i64 (t3 + (IntKind.wrap .i64 (Int.tdiv (IntKind.wrap .i64 ((IntKind.wrap .i64 (t4 - t3)) + (1))) (2))))))), (19, (intA (IntKind.wrap .i64 (t3 + (IntKind.wrap .i64 (Int.tdiv (IntKind.wrap .i64 ((IntKind.wrap .i64 (t4 - t3)) + (1))) (2))))))), (20, (intA (IntKind.wrap .i64 ((IntKind.wrap .i64 (t3 + (IntKind.wrap .i64 (Int.tdiv (IntKind.wrap .i64 ((IntKind.wrap .i64 (t4 - t3)) + (1))) (2))))) * (IntKind.wrap .i64 (t3 + (IntKind.wrap .i64 (Int.tdiv (IntKind.wrap .i64 ((IntKind.wrap .i64 (t4 - t3)) + (1))) (2))))))))), (21, (intA t0)), (22, (boolA (decide ((IntKind.wrap .i64 ((IntKind.wrap .i64 (t3 + (IntKind.wrap .i64 (Int.tdiv (IntKind.wrap .i64 ((IntKind.wrap .i64 (t4 - t3)) + (1))) (2))))) * (IntKind.wrap .i64 (t3 + (IntKind.wrap .i64 (Int.tdiv (IntKind.wrap .i64 ((IntKind.wrap .i64 (t4 - t3)) + (1))) (2))))))) ≤ t0)))), (24, (intA (IntKind.wrap .i64 (t3 + (IntKind.wrap .i64 (Int.tdiv (IntKind.wrap .i64 ((IntKind.wrap .i64 (t4 - t3)) + (1))) (2))))))), (25, (intA (IntKind.wrap .i64 ((IntKind.wrap .i64 (t3 + (IntKind.wrap .i64 (Int.tdiv (IntKind.wrap .i64 ((IntKind.wrap .i64 (t4 - t3)) + (1))) (2))))) - (1)))))], m, 100019⟩)) else (
retL R m [some (intA t3)])
theorem B78_0_eq (t0 : Int) (t2 : Int) (t3 : Int) (t4 : Int) (m : Mem) (R : AV → Mem → Prop) (N0 : St → Prop) : W Tryz.prog KK 27 0 c78_0 (h78_0 t0 t2 t3 t4 m) (qq78_0 R N0) = B78_0 t0 t2 t3 t4 m R N0 := by kernel_rfl
theorem L78_0 (R : AV → Mem → Prop) {σ : Type} (I : σ → Prop) (t0 : σ → Int) (t2 : σ → Int) (t3 : σ → Int) (t4 : σ → Int) (m : σ → Mem) (μ : σ → Nat) (step : ∀ x, I x → B78_0 (t0 x) (t2 x) (t3 x) (t4 x) (m x) R (fun s' => ∃ y, I y ∧ μ y < μ x ∧ Weak KK 27 0 s' (h78_0 (t0 y) (t2 y) (t3 y) (t4 y) (m y)))) (x : σ) (hx : I x) {s : St} (hw : Weak KK 27 0 s (h78_0 (t0 x) (t2 x) (t3 x) (t4 x) (m x))) : Tri Tryz.prog KK 27 0 (.loop c78_0) s (q78_0 R) :=
  Tri.weak hw (Tri.loops fol I (fun x => h78_0 (t0 x) (t2 x) (t3 x) (t4 x) (m x)) μ (fun x hx => (B78_0_eq (t0 x) (t2 x) (t3 x) (t4 x) (m x) R _).mpr (step x hx)) x hx)
noncomputable def F78 (a0 : Int) (R : AV → Mem → Prop) : Prop :=
bif (decide (a0 ≤ (0))) then (
retL R [] [some (intA (0))]) else (
Tri Tryz.prog KK 27 0 (.loop c78_0) ⟨[(0, (intA a0)), (2, (intA (0))), (6, (intA a0)), (7, (boolA (decide (a0 ≤ (0))))), (3, (intA (0))), (4, (intA (3037000499)))], [], 5⟩ (q78_0 R))
theorem F78_own (a0 : Int) (R : AV → Mem → Prop) (h : F78 a0 R) : Own Tryz.prog KK.gl 78 [(intA a0)] R := own_of_F fol Tryz.func78 (code := c78) (by kernel_rfl) (by kernel_rfl) (by kernel_rfl) (X := F78 a0 R) (by kernel_rfl) h
/- skyway/plane.Distance -/
noncomputable def c56 : Code := ((Tryz.f56).body).getD .skip
noncomputable def q56 (R : AV → Mem → Prop) : AExit → St → Prop := retQ Tryz.prog Tryz.f56 R
noncomputable def F56 (a0_0 : Int) (a0_1 : Int) (a1_0 : Int) (a1_1 : Int) (R : AV → Mem → Prop) : Prop :=
callQ Tryz.prog KK.gl ((1, some ⟨[(intA a1_0), (intA a1_1)], 45⟩) :: (0, some ⟨[(intA a0_0), (intA a0_1)], 45⟩) :: []) 77 [(AV.agg [(intA a0_0), (intA a0_1)]), (AV.agg [(intA a1_0), (intA a1_1)])] fun v0 =>
ex_i64 v0 fun z1 =>
callQ Tryz.prog KK.gl ((1, some ⟨[(intA a1_0), (intA a1_1)], 45⟩) :: (0, some ⟨[(intA a0_0), (intA a0_1)], 45⟩) :: []) 78 [(intA z1)] fun v2 =>
ex_i64 v2 fun z3 =>
bif (decide ((IntKind.wrap .i64 (z3 * z3)) < z1)) then (
retL R ((1, some ⟨[(intA a1_0), (intA a1_1)], 45⟩) :: (0, some ⟨[(intA a0_0), (intA a0_1)], 45⟩) :: []) [some (intA z3), some (intA (IntKind.wrap .i64 (z3 + (1))))]) else (
retL R ((1, some ⟨[(intA a1_0), (intA a1_1)], 45⟩) :: (0, some ⟨[(intA a0_0), (intA a0_1)], 45⟩) :: []) [some (intA z3), some (intA z3)])
theorem F56_own (a0_0 : Int) (a0_1 : Int) (a1_0 : Int) (a1_1 : Int) (R : AV → Mem → Prop) (h : F56 a0_0 a0_1 a1_0 a1_1 R) : Own Tryz.prog KK.gl 56 [(AV.agg [(intA a0_0), (intA a0_1)]), (AV.agg [(intA a1_0), (intA a1_1)])] R := own_of_F fol Tryz.func56 (code := c56) (by kernel_rfl) (by kernel_rfl) (by kernel_rfl) (X := F56 a0_0 a0_1 a1_0 a1_1 R) (by kernel_rfl) h
/- skyway/probe.separated -/
noncomputable def c65 : Code := ((Tryz.f65).body).getD .skip
noncomputable def q65 (R : AV → Mem → Prop) : AExit → St → Prop := retQ Tryz.prog Tryz.f65 R
noncomputable def F65 (a0_0 : Int) (a0_1 : Int) (a0_2 : Int) (a0_3 : Int) (a0_4 : Int) (a0_5 : Int) (a1_0 : Int) (a1_1 : Int) (a1_2 : Int) (a1_3 : Int) (a1_4 : Int) (a1_5 : Int) (a2_0 : Int) (a2_1 : Int) (R : AV → Mem → Prop) : Prop :=
callQ Tryz.prog KK.gl ((2, some ⟨[(intA a2_0), (intA a2_1)], 38⟩) :: (1, some ⟨[(intA a1_0), (intA a1_1), (intA a1_2), (intA a1_3), (intA a1_4), (intA a1_5)], 50⟩) :: (0, some ⟨[(intA a0_0), (intA a0_1), (intA a0_2), (intA a0_3), (intA a0_4), (intA a0_5)], 50⟩) :: []) 56 [(AV.agg [(intA a0_1), (intA a0_2)]), (AV.agg [(intA a1_1), (intA a1_2)])] fun v0 =>
exT2 v0 fun c1 c2 =>
ex_i64 c1 fun z3 =>
ex_i64 c2 fun z4 =>
bif (decide ((IntKind.wrap .i64 ((IntKind.wrap .i64 (z3 - a0_4)) - a1_4)) ≥ a2_0)) then (
retL R ((2, some ⟨[(intA a2_0), (intA a2_1)], 38⟩) :: (1, some ⟨[(intA a1_0), (intA a1_1), (intA a1_2), (intA a1_3), (intA a1_4), (intA a1_5)], 50⟩) :: (0, some ⟨[(intA a0_0), (intA a0_1), (intA a0_2), (intA a0_3), (intA a0_4), (intA a0_5)], 50⟩) :: []) [some (boolA true)]) else (
opP (opA Tryz.prog (.call ⟨.builtin .max, #[.tmp 0, .tmp 1], #[3, 3]⟩) 3 [(intA (IntKind.wrap .i64 (a0_3 - a1_3))), (intA (IntKind.wrap .i64 (a1_3 - a0_3)))] (mget ((2, some ⟨[(intA a2_0), (intA a2_1)], 38⟩) :: (1, some ⟨[(intA a1_0), (intA a1_1), (intA a1_2), (intA a1_3), (intA a1_4), (intA a1_5)], 50⟩) :: (0, some ⟨[(intA a0_0), (intA a0_1), (intA a0_2), (intA a0_3), (intA a0_4), (intA a0_5)], 50⟩) :: [])) 104) fun v5 =>
ex_i64 v5 fun z6 =>
retL R ((2, some ⟨[(intA a2_0), (intA a2_1)], 38⟩) :: (1, some ⟨[(intA a1_0), (intA a1_1), (intA a1_2), (intA a1_3), (intA a1_4), (intA a1_5)], 50⟩) :: (0, some ⟨[(intA a0_0), (intA a0_1), (intA a0_2), (intA a0_3), (intA a0_4), (intA a0_5)], 50⟩) :: []) [some (boolA (decide ((IntKind.wrap .i64 ((IntKind.wrap .i64 (z6 - a0_5)) - a1_5)) ≥ a2_1)))])
theorem F65_own (a0_0 : Int) (a0_1 : Int) (a0_2 : Int) (a0_3 : Int) (a0_4 : Int) (a0_5 : Int) (a1_0 : Int) (a1_1 : Int) (a1_2 : Int) (a1_3 : Int) (a1_4 : Int) (a1_5 : Int) (a2_0 : Int) (a2_1 : Int) (R : AV → Mem → Prop) (h : F65 a0_0 a0_1 a0_2 a0_3 a0_4 a0_5 a1_0 a1_1 a1_2 a1_3 a1_4 a1_5 a2_0 a2_1 R) : Own Tryz.prog KK.gl 65 [(AV.agg [(intA a0_0), (intA a0_1), (intA a0_2), (intA a0_3), (intA a0_4), (intA a0_5)]), (AV.agg [(intA a1_0), (intA a1_1), (intA a1_2), (intA a1_3), (intA a1_4), (intA a1_5)]), (AV.agg [(intA a2_0), (intA a2_1)])] R := own_of_F fol Tryz.func65 (code := c65) (by kernel_rfl) (by kernel_rfl) (by kernel_rfl) (X := F65 a0_0 a0_1 a0_2 a0_3 a0_4 a0_5 a1_0 a1_1 a1_2 a1_3 a1_4 a1_5 a2_0 a2_1 R) (by kernel_rfl) h
/- skyway/probe.spans -/
noncomputable def c45 : Code := ((Tryz.f45).body).getD .skip
noncomputable def q45 (R : AV → Mem → Prop) : AExit → St → Prop := retQ Tryz.prog Tryz.f45 R
noncomputable def c45_0 : Code := loopB c45 0
noncomputable def q45_0 (R : AV → Mem → Prop) : AExit → St → Prop := contW Tryz.prog KK 73 0 c45 0 (q45 R)
noncomputable def qq45_0 (R : AV → Mem → Prop) (N0 : St → Prop) : AExit → St → Prop := thenQ N0 (q45_0 R)
def h45_0 (t0 : AV) (t1 : AV) (t6 : AV) (t7 : AV) (t9 : Int) (t10 : Int) (b0_0 : Int) (b0_1 : Int) (m : Mem) : St := ⟨[(0, t0), (1, t1), (5, (AV.ptr 0 0)), (6, t6), (7, t7), (9, (intA t9)), (10, (intA t10))], ((0, some ⟨[(intA b0_0), (intA b0_1)], 38⟩) :: m), 100000⟩
noncomputable def B45_0 (t0 : AV) (t1 : AV) (t6 : AV) (t7 : AV) (t9 : Int) (t10 : Int) (b0_0 : Int) (b0_1 : Int) (m : Mem) (R : AV → Mem → Prop) (N0 : St → Prop) : Prop :=
bif (decide (t10 ≤ t9)) then (
callQ Tryz.prog KK.gl ((0, some ⟨[(intA b0_0), (intA b0_1)], 38⟩) :: m) 26 [t0, (intA t10)] fun v5 =>
exT2 v5 fun c6 c7 =>
exA6 c6 fun c8 c9 c10 c11 c12 c13 =>
ex_i64 c8 fun z14 =>
ex_i64 c9 fun z15 =>
ex_i64 c10 fun z16 =>
ex_i64 c11 fun z17 =>
ex_i64 c12 fun z18 =>
ex_i64 c13 fun z19 =>
ex_i64 c7 fun z20 =>
callQ Tryz.prog KK.gl ((100072, some ⟨[(intA z14), (intA z15), (intA z16), (intA z17), (intA z18), (intA z19)], 50⟩) :: (100072, some ⟨[(intA (0)), (intA (0)), (intA (0)), (intA (0)), (intA (0)), (intA (0))], 50⟩) :: (0, some ⟨[(intA b0_0), (intA b0_1)], 38⟩) :: m) 26 [t1, (intA t10)] fun v21 =>
exT2 v21 fun c22 c23 =>
exA6 c22 fun c24 c25 c26 c27 c28 c29 =>
ex_i64 c24 fun z30 =>
ex_i64 c25 fun z31 =>
ex_i64 c26 fun z32 =>
ex_i64 c27 fun z33 =>
ex_i64 c28 fun z34 =>
ex_i64 c29 fun z35 =>
ex_i64 c23 fun z36 =>
callQ Tryz.prog KK.gl ((100144, some ⟨[(intA z30), (intA z31), (intA z32), (intA z33), (intA z34), (intA z35)], 50⟩) :: (100144, some ⟨[(intA (0)), (intA (0)), (intA (0)), (intA (0)), (intA (0)), (intA (0))], 50⟩) :: (100072, some ⟨[(intA z14), (intA z15), (intA z16), (intA z17), (intA z18), (intA z19)], 50⟩) :: (100072, some ⟨[(intA (0)), (intA (0)), (intA (0)), (intA (0)), (intA (0)), (intA (0))], 50⟩) :: (0, some ⟨[(intA b0_0), (intA b0_1)], 38⟩) :: m) 65 [(AV.agg [(intA z14), (intA z15), (intA z16), (intA z17), (intA z18), (intA z19)]), (AV.agg [(intA z30), (intA z31), (intA z32), (intA z33), (intA z34), (intA z35)]), (AV.agg [(intA b0_0), (intA b0_1)])] fun v37 =>
exB v37 fun b38 =>
bif b38 then (
N0 ⟨[(0, t0), (1, t1), (5, (AV.ptr 0 0)), (6, t6), (7, t7), (9, (intA t9)), (10, (intA (IntKind.wrap .i64 (t10 + (1))))), (23, (intA t10)), (24, (intA t9)), (25, (boolA (decide (t10 ≤ t9)))), (29, t0), (30, (intA t10)), (31, (AV.tup [(AV.agg [(intA z14), (intA z15), (intA z16), (intA z17), (intA z18), (intA z19)]), (intA z20)])), (28, (AV.tup [(AV.agg [(intA z14), (intA z15), (intA z16), (intA z17), (intA z18), (intA z19)]), (intA z20)])), (32, (AV.agg [(intA z14), (intA z15), (intA z16), (intA z17), (intA z18), (intA z19)])), (33, (intA z20)), (11, (AV.ptr 100072 0)), (12, (intA z20)), (35, t1), (36, (intA t10)), (37, (AV.tup [(AV.agg [(intA z30), (intA z31), (intA z32), (intA z33), (intA z34), (intA z35)]), (intA z36)])), (34, (AV.tup [(AV.agg [(intA z30), (intA z31), (intA z32), (intA z33), (intA z34), (intA z35)]), (intA z36)])), (38, (AV.agg [(intA z30), (intA z31), (intA z32), (intA z33), (intA z34), (intA z35)])), (39, (intA z36)), (13, (AV.ptr 100144 0)), (14, (intA z36)), (40, (AV.agg [(intA z14), (intA z15), (intA z16), (intA z17), (intA z18), (intA z19)])), (41, (AV.agg [(intA z30), (intA z31), (intA z32), (intA z33), (intA z34), (intA z35)])), (42, (AV.agg [(intA b0_0), (intA b0_1)])), (43, (boolA b38)), (26, (intA t10)), (27, (intA (IntKind.wrap .i64 (t10 + (1)))))], ((100144, some ⟨[(intA z30), (intA z31), (intA z32), (intA z33), (intA z34), (intA z35)], 50⟩) :: (100144, some ⟨[(intA (0)), (intA (0)), (intA (0)), (intA (0)), (intA (0)), (intA (0))], 50⟩) :: (100072, some ⟨[(intA z14), (intA z15), (intA z16), (intA z17), (intA z18), (intA z19)], 50⟩) :: (100072, some ⟨[(intA (0)), (intA (0)), (intA (0)), (intA (0)), (intA (0)), (intA (0))], 50⟩) :: (0, some ⟨[(intA b0_0), (intA b0_1)], 38⟩) :: m), 100217⟩) else (
opP (lenS t7) fun v39 =>
ex_i64 v39 fun z40 =>
bif (decide (z40 > (0))) then (
opP (idxS 2 t7 (intA (IntKind.wrap .i64 (z40 - (1))))) fun v41 =>
opP (fldO 1 v41) fun v42 =>
opP (ldS (mget ((100144, some ⟨[(intA z30), (intA z31), (intA z32), (intA z33), (intA z34), (intA z35)], 50⟩) :: (100144, some ⟨[(intA (0)), (intA (0)), (intA (0)), (intA (0)), (intA (0)), (intA (0))], 50⟩) :: (100072, some ⟨[(intA z14), (intA z15), (intA z16), (intA z17), (intA z18), (intA z19)], 50⟩) :: (100072, some ⟨[(intA (0)), (intA (0)), (intA (0)), (intA (0)), (intA (0)), (intA (0))], 50⟩) :: (0, some ⟨[(intA b0_0), (intA b0_1)], 38⟩) :: m)) v42) fun v43 =>
ex_i64 v43 fun z44 =>
bif (z44 == t10) then (
opP (idxS 2 t7 (intA (IntKind.wrap .i64 (z40 - (1))))) fun v45 =>
opP (fldO 1 v45) fun v46 =>
storeW Tryz.prog (mget ((100144, some ⟨[(intA z30), (intA z31), (intA z32), (intA z33), (intA z34), (intA z35)], 50⟩) :: (100144, some ⟨[(intA (0)), (intA (0)), (intA (0)), (intA (0)), (intA (0)), (intA (0))], 50⟩) :: (100072, some ⟨[(intA z14), (intA z15), (intA z16), (intA z17), (intA z18), (intA z19)], 50⟩) :: (100072, some ⟨[(intA (0)), (intA (0)), (intA (0)), (intA (0)), (intA (0)), (intA (0))], 50⟩) :: (0, some ⟨[(intA b0_0), (intA b0_1)], 38⟩) :: m)) 3 v46 (intA (IntKind.wrap .i64 (t10 + (1)))) fun v47 d47 =>
N0 ⟨[(0, t0), (1, t1), (5, (AV.ptr 0 0)), (6, t6), (7, t7), (9, (intA t9)), (10, (intA (IntKind.wrap .i64 (t10 + (1))))), (23, (intA t10)), (24, (intA t9)), (25, (boolA (decide (t10 ≤ t9)))), (29, t0), (30, (intA t10)), (31, (AV.tup [(AV.agg [(intA z14), (intA z15), (intA z16), (intA z17), (intA z18), (intA z19)]), (intA z20)])), (28, (AV.tup [(AV.agg [(intA z14), (intA z15), (intA z16), (intA z17), (intA z18), (intA z19)]), (intA z20)])), (32, (AV.agg [(intA z14), (intA z15), (intA z16), (intA z17), (intA z18), (intA z19)])), (33, (intA z20)), (11, (AV.ptr 100072 0)), (12, (intA z20)), (35, t1), (36, (intA t10)), (37, (AV.tup [(AV.agg [(intA z30), (intA z31), (intA z32), (intA z33), (intA z34), (intA z35)]), (intA z36)])), (34, (AV.tup [(AV.agg [(intA z30), (intA z31), (intA z32), (intA z33), (intA z34), (intA z35)]), (intA z36)])), (38, (AV.agg [(intA z30), (intA z31), (intA z32), (intA z33), (intA z34), (intA z35)])), (39, (intA z36)), (13, (AV.ptr 100144 0)), (14, (intA z36)), (40, (AV.agg [(intA z14), (intA z15), (intA z16), (intA z17), (intA z18), (intA z19)])), (41, (AV.agg [(intA z30), (intA z31), (intA z32), (intA z33), (intA z34), (intA z35)])), (42, (AV.agg [(intA b0_0), (intA b0_1)])), (43, (boolA b38)), (44, t7), (45, (intA z40)), (15, (intA z40)), (46, (intA z40)), (47, (boolA (decide (z40 > (0))))), (48, (boolA true)), (49, t7), (50, (intA z40)), (51, (intA (IntKind.wrap .i64 (z40 - (1))))), (52, v41), (53, v42), (54, (intA z44)), (55, (intA t10)), (56, (boolA (z44 == t10))), (57, (boolA (z44 == t10))), (58, t7), (59, (intA z40)), (60, (intA (IntKind.wrap .i64 (z40 - (1))))), (61, (intA t10)), (62, (intA (IntKind.wrap .i64 (t10 + (1))))), (63, v45), (64, v46), (26, (intA t10)), (27, (intA (IntKind.wrap .i64 (t10 + (1)))))], (mpushs ((100144, some ⟨[(intA z30), (intA z31), (intA z32), (intA z33), (intA z34), (intA z35)], 50⟩) :: (100144, some ⟨[(intA (0)), (intA (0)), (intA (0)), (intA (0)), (intA (0)), (intA (0))], 50⟩) :: (100072, some ⟨[(intA z14), (intA z15), (intA z16), (intA z17), (intA z18), (intA z19)], 50⟩) :: (100072, some ⟨[(intA (0)), (intA (0)), (intA (0)), (intA (0)), (intA (0)), (intA (0))], 50⟩) :: (0, some ⟨[(intA b0_0), (intA b0_1)], 38⟩) :: m) d47), 100240⟩) else (
opP (bld [(intA (0)), (intA (0))] [(0, 1), (1, 1)] [(0, (intA t10)), (1, (intA (IntKind.wrap .i64 (t10 + (1)))))]) fun v48 =>
opN (bsl 100234 97 2 1 [(intA (0)), (intA (0))] [(0, v48)]) ((100144, some ⟨[(intA z30), (intA z31), (intA z32), (intA z33), (intA z34), (intA z35)], 50⟩) :: (100144, some ⟨[(intA (0)), (intA (0)), (intA (0)), (intA (0)), (intA (0)), (intA (0))], 50⟩) :: (100072, some ⟨[(intA z14), (intA z15), (intA z16), (intA z17), (intA z18), (intA z19)], 50⟩) :: (100072, some ⟨[(intA (0)), (intA (0)), (intA (0)), (intA (0)), (intA (0)), (intA (0))], 50⟩) :: (0, some ⟨[(intA b0_0), (intA b0_1)], 38⟩) :: m) fun v49 m49 =>
opN (app (mget m49) 97 2 16 [(intA (0)), (intA (0))] 100235 t7 v49) m49 fun v50 m50 =>
N0 ⟨[(0, t0), (1, t1), (5, (AV.ptr 0 0)), (6, t6), (7, v50), (9, (intA t9)), (10, (intA (IntKind.wrap .i64 (t10 + (1))))), (23, (intA t10)), (24, (intA t9)), (25, (boolA (decide (t10 ≤ t9)))), (29, t0), (30, (intA t10)), (31, (AV.tup [(AV.agg [(intA z14), (intA z15), (intA z16), (intA z17), (intA z18), (intA z19)]), (intA z20)])), (28, (AV.tup [(AV.agg [(intA z14), (intA z15), (intA z16), (intA z17), (intA z18), (intA z19)]), (intA z20)])), (32, (AV.agg [(intA z14), (intA z15), (intA z16), (intA z17), (intA z18), (intA z19)])), (33, (intA z20)), (11, (AV.ptr 100072 0)), (12, (intA z20)), (35, t1), (36, (intA t10)), (37, (AV.tup [(AV.agg [(intA z30), (intA z31), (intA z32), (intA z33), (intA z34), (intA z35)]), (intA z36)])), (34, (AV.tup [(AV.agg [(intA z30), (intA z31), (intA z32), (intA z33), (intA z34), (intA z35)]), (intA z36)])), (38, (AV.agg [(intA z30), (intA z31), (intA z32), (intA z33), (intA z34), (intA z35)])), (39, (intA z36)), (13, (AV.ptr 100144 0)), (14, (intA z36)), (40, (AV.agg [(intA z14), (intA z15), (intA z16), (intA z17), (intA z18), (intA z19)])), (41, (AV.agg [(intA z30), (intA z31), (intA z32), (intA z33), (intA z34), (intA z35)])), (42, (AV.agg [(intA b0_0), (intA b0_1)])), (43, (boolA b38)), (44, t7), (45, (intA z40)), (15, (intA z40)), (46, (intA z40)), (47, (boolA (decide (z40 > (0))))), (48, (boolA true)), (49, t7), (50, (intA z40)), (51, (intA (IntKind.wrap .i64 (z40 - (1))))), (52, v41), (53, v42), (54, (intA z44)), (55, (intA t10)), (56, (boolA (z44 == t10))), (57, (boolA (z44 == t10))), (65, t7), (66, (intA t10)), (67, (intA t10)), (68, (intA (IntKind.wrap .i64 (t10 + (1))))), (69, v48), (70, v49), (71, v50), (26, (intA t10)), (27, (intA (IntKind.wrap .i64 (t10 + (1)))))], m50, 100240⟩)) else (
opP (bld [(intA (0)), (intA (0))] [(0, 1), (1, 1)] [(0, (intA t10)), (1, (intA (IntKind.wrap .i64 (t10 + (1)))))]) fun v51 =>
opN (bsl 100226 97 2 1 [(intA (0)), (intA (0))] [(0, v51)]) ((100144, some ⟨[(intA z30), (intA z31), (intA z32), (intA z33), (intA z34), (intA z35)], 50⟩) :: (100144, some ⟨[(intA (0)), (intA (0)), (intA (0)), (intA (0)), (intA (0)), (intA (0))], 50⟩) :: (100072, some ⟨[(intA z14), (intA z15), (intA z16), (intA z17), (intA z18), (intA z19)], 50⟩) :: (100072, some ⟨[(intA (0)), (intA (0)), (intA (0)), (intA (0)), (intA (0)), (intA (0))], 50⟩) :: (0, some ⟨[(intA b0_0), (intA b0_1)], 38⟩) :: m) fun v52 m52 =>
opN (app (mget m52) 97 2 16 [(intA (0)), (intA (0))] 100227 t7 v52) m52 fun v53 m53 =>
N0 ⟨[(0, t0), (1, t1), (5, (AV.ptr 0 0)), (6, t6), (7, v53), (9, (intA t9)), (10, (intA (IntKind.wrap .i64 (t10 + (1))))), (23, (intA t10)), (24, (intA t9)), (25, (boolA (decide (t10 ≤ t9)))), (29, t0), (30, (intA t10)), (31, (AV.tup [(AV.agg [(intA z14), (intA z15), (intA z16), (intA z17), (intA z18), (intA z19)]), (intA z20)])), (28, (AV.tup [(AV.agg [(intA z14), (intA z15), (intA z16), (intA z17), (intA z18), (intA z19)]), (intA z20)])), (32, (AV.agg [(intA z14), (intA z15), (intA z16), (intA z17), (intA z18), (intA z19)])), (33, (intA z20)), (11, (AV.ptr 100072 0)), (12, (intA z20)), (35, t1), (36, (intA t10)), (37, (AV.tup [(AV.agg [(intA z30), (intA z31), (intA z32), (intA z33), (intA z34), (intA z35)]), (intA z36)])), (34, (AV.tup [(AV.agg [(intA z30), (intA z31), (intA z32), (intA z33), (intA z34), (intA z35)]), (intA z36)])), (38, (AV.agg [(intA z30), (intA z31), (intA z32), (intA z33), (intA z34), (intA z35)])), (39, (intA z36)), (13, (AV.ptr 100144 0)), (14, (intA z36)), (40, (AV.agg [(intA z14), (intA z15), (intA z16), (intA z17), (intA z18), (intA z19)])), (41, (AV.agg [(intA z30), (intA z31), (intA z32), (intA z33), (intA z34), (intA z35)])), (42, (AV.agg [(intA b0_0), (intA b0_1)])), (43, (boolA b38)), (44, t7), (45, (intA z40)), (15, (intA z40)), (46, (intA z40)), (47, (boolA (decide (z40 > (0))))), (48, (boolA false)), (49, (AV.tup [])), (50, (AV.tup [])), (51, (AV.tup [])), (52, (AV.tup [])), (53, (AV.tup [])), (54, (AV.tup [])), (55, (AV.tup [])), (56, (AV.tup [])), (57, (boolA false)), (65, t7), (66, (intA t10)), (67, (intA t10)), (68, (intA (IntKind.wrap .i64 (t10 + (1))))), (69, v51), (70, v52), (71, v53), (26, (intA t10)), (27, (intA (IntKind.wrap .i64 (t10 + (1)))))], m53, 100232⟩))) else (
retL R ((0, some ⟨[(intA b0_0), (intA b0_1)], 38⟩) :: m) [some t7])
theorem B45_0_eq (t0 : AV) (t1 : AV) (t6 : AV) (t7 : AV) (t9 : Int) (t10 : Int) (b0_0 : Int) (b0_1 : Int) (m : Mem) (R : AV → Mem → Prop) (N0 : St → Prop) : W Tryz.prog KK 73 0 c45_0 (h45_0 t0 t1 t6 t7 t9 t10 b0_0 b0_1 m) (qq45_0 R N0) = B45_0 t0 t1 t6 t7 t9 t10 b0_0 b0_1 m R N0 := by kernel_rfl
theorem L45_0 (R : AV → Mem → Prop) {σ : Type} (I : σ → Prop) (t0 : σ → AV) (t1 : σ → AV) (t6 : σ → AV) (t7 : σ → AV) (t9 : σ → Int) (t10 : σ → Int) (b0_0 : σ → Int) (b0_1 : σ → Int) (m : σ → Mem) (μ : σ → Nat) (step : ∀ x, I x → B45_0 (t0 x) (t1 x) (t6 x) (t7 x) (t9 x) (t10 x) (b0_0 x) (b0_1 x) (m x) R (fun s' => ∃ y, I y ∧ μ y < μ x ∧ Weak KK 73 0 s' (h45_0 (t0 y) (t1 y) (t6 y) (t7 y) (t9 y) (t10 y) (b0_0 y) (b0_1 y) (m y)))) (x : σ) (hx : I x) {s : St} (hw : Weak KK 73 0 s (h45_0 (t0 x) (t1 x) (t6 x) (t7 x) (t9 x) (t10 x) (b0_0 x) (b0_1 x) (m x))) : Tri Tryz.prog KK 73 0 (.loop c45_0) s (q45_0 R) :=
  Tri.weak hw (Tri.loops fol I (fun x => h45_0 (t0 x) (t1 x) (t6 x) (t7 x) (t9 x) (t10 x) (b0_0 x) (b0_1 x) (m x)) μ (fun x hx => (B45_0_eq (t0 x) (t1 x) (t6 x) (t7 x) (t9 x) (t10 x) (b0_0 x) (b0_1 x) (m x) R _).mpr (step x hx)) x hx)
noncomputable def F45 (a0 : AV) (a1 : AV) (a2_0 : Int) (a2_1 : Int) (R : AV → Mem → Prop) : Prop :=
callQ Tryz.prog KK.gl ((0, some ⟨[(intA a2_0), (intA a2_1)], 38⟩) :: []) 64 [a0, a1] fun v0 =>
exT2 v0 fun c1 c2 =>
ex_i64 c1 fun z3 =>
ex_i64 c2 fun z4 =>
Tri Tryz.prog KK 73 0 (.loop c45_0) ⟨[(0, a0), (1, a1), (2, (AV.agg [(intA a2_0), (intA a2_1)])), (5, (AV.ptr 0 0)), (6, AV.nils), (7, AV.nils), (17, a0), (18, a1), (19, (AV.tup [(intA z3), (intA z4)])), (16, (AV.tup [(intA z3), (intA z4)])), (20, (intA z3)), (21, (intA z4)), (8, (intA z3)), (9, (intA z4)), (22, (intA z3)), (10, (intA z3))], ((0, some ⟨[(intA a2_0), (intA a2_1)], 38⟩) :: []), 76⟩ (q45_0 R)
theorem F45_own (a0 : AV) (a1 : AV) (a2_0 : Int) (a2_1 : Int) (R : AV → Mem → Prop) (h : F45 a0 a1 a2_0 a2_1 R) : Own Tryz.prog KK.gl 45 [a0, a1, (AV.agg [(intA a2_0), (intA a2_1)])] R := own_of_F fol Tryz.func45 (code := c45) (by kernel_rfl) (by kernel_rfl) (by kernel_rfl) (X := F45 a0 a1 a2_0 a2_1 R) (by kernel_rfl) h
/- skyway/probe.Pair -/
noncomputable def c63 : Code := ((Tryz.f63).body).getD .skip
noncomputable def q63 (R : AV → Mem → Prop) : AExit → St → Prop := retQ Tryz.prog Tryz.f63 R
noncomputable def F63 (a0 : AV) (a1 : AV) (a2_0 : Int) (a2_1 : Int) (R : AV → Mem → Prop) : Prop :=
opN (bsl 6 23 1 2 [AV.nils] [(0, a0), (1, a1)]) ((0, some ⟨[(intA a2_0), (intA a2_1)], 38⟩) :: []) fun v0 m0 =>
callQ Tryz.prog KK.gl m0 44 [(AV.agg [(intA a2_0), (intA a2_1)]), v0] fun v1 =>
ex_i64 v1 fun z2 =>
bif (z2 != (0)) then (
retL R m0 [some AV.nils, some (intA z2)]) else (
opP (ldA (mget m0) 2 (AV.ptr 0 0)) fun v3 =>
exA2 v3 fun c4 c5 =>
ex_i64 c4 fun z6 =>
ex_i64 c5 fun z7 =>
callQ Tryz.prog KK.gl m0 45 [a0, a1, (AV.agg [(intA z6), (intA z7)])] fun v8 =>
retL R m0 [some v8, some (intA (0))])
theorem F63_own (a0 : AV) (a1 : AV) (a2_0 : Int) (a2_1 : Int) (R : AV → Mem → Prop) (h : F63 a0 a1 a2_0 a2_1 R) : Own Tryz.prog KK.gl 63 [a0, a1, (AV.agg [(intA a2_0), (intA a2_1)])] R := own_of_F fol Tryz.func63 (code := c63) (by kernel_rfl) (by kernel_rfl) (by kernel_rfl) (X := F63 a0 a1 a2_0 a2_1 R) (by kernel_rfl) h
/- skyway/probe.First -/
noncomputable def c42 : Code := ((Tryz.f42).body).getD .skip
noncomputable def q42 (R : AV → Mem → Prop) : AExit → St → Prop := retQ Tryz.prog Tryz.f42 R
noncomputable def F42 (a0 : AV) (a1 : AV) (a2_0 : Int) (a2_1 : Int) (R : AV → Mem → Prop) : Prop :=
callQ Tryz.prog KK.gl ((0, some ⟨[(intA a2_0), (intA a2_1)], 38⟩) :: []) 63 [a0, a1, (AV.agg [(intA a2_0), (intA a2_1)])] fun v0 =>
exT2 v0 fun c1 c2 =>
ex_i64 c2 fun z3 =>
bif (z3 != (0)) then (
retL R ((0, some ⟨[(intA a2_0), (intA a2_1)], 38⟩) :: []) [some (intA (0)), some (intA z3)]) else (
opP (lenS c1) fun v4 =>
ex_i64 v4 fun z5 =>
bif (z5 == (0)) then (
retL R ((0, some ⟨[(intA a2_0), (intA a2_1)], 38⟩) :: []) [some (intA (0)), some (intA (8))]) else (
opP (idxS 2 c1 (intA (0))) fun v6 =>
opP (fldO 0 v6) fun v7 =>
opP (ldS (mget ((0, some ⟨[(intA a2_0), (intA a2_1)], 38⟩) :: [])) v7) fun v8 =>
ex_i64 v8 fun z9 =>
retL R ((0, some ⟨[(intA a2_0), (intA a2_1)], 38⟩) :: []) [some (intA z9), some (intA (0))]))
theorem F42_own (a0 : AV) (a1 : AV) (a2_0 : Int) (a2_1 : Int) (R : AV → Mem → Prop) (h : F42 a0 a1 a2_0 a2_1 R) : Own Tryz.prog KK.gl 42 [a0, a1, (AV.agg [(intA a2_0), (intA a2_1)])] R := own_of_F fol Tryz.func42 (code := c42) (by kernel_rfl) (by kernel_rfl) (by kernel_rfl) (X := F42 a0 a1 a2_0 a2_1 R) (by kernel_rfl) h
/- skyway/skywaykeep3.small -/
noncomputable def c10 : Code := ((Tryz.f10).body).getD .skip
noncomputable def q10 (R : AV → Mem → Prop) : AExit → St → Prop := retQ Tryz.prog Tryz.f10 R
noncomputable def c10_0 : Code := loopB c10 0
noncomputable def q10_0 (R : AV → Mem → Prop) : AExit → St → Prop := contW Tryz.prog KK 41 0 c10 0 (q10 R)
noncomputable def qq10_0 (R : AV → Mem → Prop) (N0 : St → Prop) : AExit → St → Prop := thenQ N0 (q10_0 R)
def h10_0 (t2 : Int) (t6 : Bool) (t13 : AV) (t14 : Int) (t15 : Int) (m : Mem) : St := ⟨[(2, (intA t2)), (6, (boolA t6)), (13, t13), (14, (intA t14)), (15, (intA t15))], m, 100000⟩
noncomputable def B10_0 (t2 : Int) (t6 : Bool) (t13 : AV) (t14 : Int) (t15 : Int) (m : Mem) (R : AV → Mem → Prop) (N0 : St → Prop) : Prop :=
bif (decide (t15 < t14)) then (
opP (idxS 1 t13 (intA t15)) fun v4 =>
opP (ldS (mget m) v4) fun v5 =>
callQ Tryz.prog KK.gl m 24 [v5] fun v6 =>
ex_i64 v6 fun z7 =>
bif (z7 != (0)) then (
retL R m [some (boolA false)]) else (
opP (lenS v5) fun v8 =>
ex_i64 v8 fun z9 =>
opP (idxS 6 v5 (intA (IntKind.wrap .i64 (z9 - (1))))) fun v10 =>
opP (fldO 0 v10) fun v11 =>
opP (fldO 0 v11) fun v12 =>
opP (ldS (mget m) v12) fun v13 =>
ex_i64 v13 fun z14 =>
opP (idxS 6 v5 (intA (0))) fun v15 =>
opP (fldO 0 v15) fun v16 =>
opP (fldO 0 v16) fun v17 =>
opP (ldS (mget m) v17) fun v18 =>
ex_i64 v18 fun z19 =>
bif (decide ((IntKind.wrap .i64 (z14 - z19)) > t2)) then (
retL R m [some (boolA false)]) else (
N0 ⟨[(2, (intA t2)), (6, (boolA t6)), (13, t13), (14, (intA t14)), (15, (intA (IntKind.wrap .i64 (t15 + (1))))), (16, (boolA (decide (t15 < t14)))), (17, v4), (18, v5), (8, v5), (19, v5), (20, (intA z7)), (21, (boolA (z7 != (0)))), (22, (boolA false)), (23, v5), (24, v5), (25, (intA z9)), (26, (intA (IntKind.wrap .i64 (z9 - (1))))), (27, v10), (28, v11), (29, v12), (30, (intA z14)), (31, v5), (32, v15), (33, v16), (34, v17), (35, (intA z19)), (36, (intA (IntKind.wrap .i64 (z14 - z19)))), (37, (intA t2)), (38, (boolA (decide ((IntKind.wrap .i64 (z14 - z19)) > t2)))), (39, (boolA (decide ((IntKind.wrap .i64 (z14 - z19)) > t2)))), (40, (intA (IntKind.wrap .i64 (t15 + (1)))))], m, 100027⟩))) else (
retL R m [some (boolA true)])
theorem B10_0_eq (t2 : Int) (t6 : Bool) (t13 : AV) (t14 : Int) (t15 : Int) (m : Mem) (R : AV → Mem → Prop) (N0 : St → Prop) : W Tryz.prog KK 41 0 c10_0 (h10_0 t2 t6 t13 t14 t15 m) (qq10_0 R N0) = B10_0 t2 t6 t13 t14 t15 m R N0 := by kernel_rfl
theorem L10_0 (R : AV → Mem → Prop) {σ : Type} (I : σ → Prop) (t2 : σ → Int) (t6 : σ → Bool) (t13 : σ → AV) (t14 : σ → Int) (t15 : σ → Int) (m : σ → Mem) (μ : σ → Nat) (step : ∀ x, I x → B10_0 (t2 x) (t6 x) (t13 x) (t14 x) (t15 x) (m x) R (fun s' => ∃ y, I y ∧ μ y < μ x ∧ Weak KK 41 0 s' (h10_0 (t2 y) (t6 y) (t13 y) (t14 y) (t15 y) (m y)))) (x : σ) (hx : I x) {s : St} (hw : Weak KK 41 0 s (h10_0 (t2 x) (t6 x) (t13 x) (t14 x) (t15 x) (m x))) : Tri Tryz.prog KK 41 0 (.loop c10_0) s (q10_0 R) :=
  Tri.weak hw (Tri.loops fol I (fun x => h10_0 (t2 x) (t6 x) (t13 x) (t14 x) (t15 x) (m x)) μ (fun x hx => (B10_0_eq (t2 x) (t6 x) (t13 x) (t14 x) (t15 x) (m x) R _).mpr (step x hx)) x hx)
noncomputable def F10 (a0 : AV) (a1 : Int) (a2 : Int) (R : AV → Mem → Prop) : Prop :=
opP (lenS a0) fun v0 =>
ex_i64 v0 fun z1 =>
bif (decide (z1 > a1)) then (
retL R [] [some (boolA false)]) else (
opP (lenS a0) fun v2 =>
ex_i64 v2 fun z3 =>
Tri Tryz.prog KK 41 0 (.loop c10_0) ⟨[(0, a0), (1, (intA a1)), (2, (intA a2)), (6, (boolA false)), (9, a0), (10, (intA z1)), (11, (intA a1)), (12, (boolA (decide (z1 > a1)))), (13, a0), (14, (intA z3)), (15, (intA (0)))], [], 8⟩ (q10_0 R))
theorem F10_own (a0 : AV) (a1 : Int) (a2 : Int) (R : AV → Mem → Prop) (h : F10 a0 a1 a2 R) : Own Tryz.prog KK.gl 10 [a0, (intA a1), (intA a2)] R := own_of_F fol Tryz.func10 (code := c10) (by kernel_rfl) (by kernel_rfl) (by kernel_rfl) (X := F10 a0 a1 a2 R) (by kernel_rfl) h
/- cmp.Or[int] -/
noncomputable def c48 : Code := ((Tryz.f48).body).getD .skip
noncomputable def q48 (R : AV → Mem → Prop) : AExit → St → Prop := retQ Tryz.prog Tryz.f48 R
noncomputable def c48_0 : Code := loopB c48 0
noncomputable def q48_0 (R : AV → Mem → Prop) : AExit → St → Prop := contW Tryz.prog KK 18 0 c48 0 (q48 R)
noncomputable def qq48_0 (R : AV → Mem → Prop) (N0 : St → Prop) : AExit → St → Prop := thenQ N0 (q48_0 R)
def h48_0 (t2 : Int) (t3 : Int) (t6 : AV) (t7 : Int) (t8 : Int) (m : Mem) : St := ⟨[(2, (intA t2)), (3, (intA t3)), (6, t6), (7, (intA t7)), (8, (intA t8))], m, 100000⟩
noncomputable def B48_0 (t2 : Int) (t3 : Int) (t6 : AV) (t7 : Int) (t8 : Int) (m : Mem) (R : AV → Mem → Prop) (N0 : St → Prop) : Prop :=
bif (decide (t8 < t7)) then (
opP (idxS 1 t6 (intA t8)) fun v2 =>
opP (ldS (mget m) v2) fun v3 =>
ex_i64 v3 fun z4 =>
bif (z4 != t3) then (
retL R m [some (intA z4)]) else (
N0 ⟨[(2, (intA t2)), (3, (intA t3)), (6, t6), (7, (intA t7)), (8, (intA (IntKind.wrap .i64 (t8 + (1))))), (9, (boolA (decide (t8 < t7)))), (10, v2), (11, (intA z4)), (5, (intA z4)), (12, (intA z4)), (13, (intA t3)), (14, (boolA (z4 != t3))), (16, (intA (IntKind.wrap .i64 (t8 + (1)))))], m, 100009⟩)) else (
retL R m [some (intA t3)])
theorem B48_0_eq (t2 : Int) (t3 : Int) (t6 : AV) (t7 : Int) (t8 : Int) (m : Mem) (R : AV → Mem → Prop) (N0 : St → Prop) : W Tryz.prog KK 18 0 c48_0 (h48_0 t2 t3 t6 t7 t8 m) (qq48_0 R N0) = B48_0 t2 t3 t6 t7 t8 m R N0 := by kernel_rfl
theorem L48_0 (R : AV → Mem → Prop) {σ : Type} (I : σ → Prop) (t2 : σ → Int) (t3 : σ → Int) (t6 : σ → AV) (t7 : σ → Int) (t8 : σ → Int) (m : σ → Mem) (μ : σ → Nat) (step : ∀ x, I x → B48_0 (t2 x) (t3 x) (t6 x) (t7 x) (t8 x) (m x) R (fun s' => ∃ y, I y ∧ μ y < μ x ∧ Weak KK 18 0 s' (h48_0 (t2 y) (t3 y) (t6 y) (t7 y) (t8 y) (m y)))) (x : σ) (hx : I x) {s : St} (hw : Weak KK 18 0 s (h48_0 (t2 x) (t3 x) (t6 x) (t7 x) (t8 x) (m x))) : Tri Tryz.prog KK 18 0 (.loop c48_0) s (q48_0 R) :=
  Tri.weak hw (Tri.loops fol I (fun x => h48_0 (t2 x) (t3 x) (t6 x) (t7 x) (t8 x) (m x)) μ (fun x hx => (B48_0_eq (t2 x) (t3 x) (t6 x) (t7 x) (t8 x) (m x) R _).mpr (step x hx)) x hx)
noncomputable def F48 (a0 : AV) (R : AV → Mem → Prop) : Prop :=
opP (lenS a0) fun v0 =>
ex_i64 v0 fun z1 =>
Tri Tryz.prog KK 18 0 (.loop c48_0) ⟨[(0, a0), (2, (intA (0))), (3, (intA (0))), (6, a0), (7, (intA z1)), (8, (intA (0)))], [], 5⟩ (q48_0 R)
theorem F48_own (a0 : AV) (R : AV → Mem → Prop) (h : F48 a0 R) : Own Tryz.prog KK.gl 48 [a0] R := own_of_F fol Tryz.func48 (code := c48) (by kernel_rfl) (by kernel_rfl) (by kernel_rfl) (X := F48 a0 R) (by kernel_rfl) h
/- skyway/probe.All$1 -/
noncomputable def c47 : Code := ((Tryz.f47).body).getD .skip
noncomputable def q47 (R : AV → Mem → Prop) : AExit → St → Prop := retQ Tryz.prog Tryz.f47 R
noncomputable def F47 (a0_0 : Int) (a0_1 : Int) (a0_2 : Int) (a0_3 : Int) (a1_0 : Int) (a1_1 : Int) (a1_2 : Int) (a1_3 : Int) (R : AV → Mem → Prop) : Prop :=
opN (bsl 18 3 1 3 [(intA (0))] [(0, (intA (IntKind.wrap .i64 (a0_2 - a1_2)))), (1, (intA (IntKind.wrap .i64 (a0_0 - a1_0)))), (2, (intA (IntKind.wrap .i64 (a0_1 - a1_1))))]) ((1, some ⟨[(intA a1_0), (intA a1_1), (intA a1_2), (intA a1_3)], 60⟩) :: (0, some ⟨[(intA a0_0), (intA a0_1), (intA a0_2), (intA a0_3)], 60⟩) :: []) fun v0 m0 =>
callQ Tryz.prog KK.gl m0 48 [v0] fun v1 =>
ex_i64 v1 fun z2 =>
retL R m0 [some (intA z2)]
theorem F47_own (a0_0 : Int) (a0_1 : Int) (a0_2 : Int) (a0_3 : Int) (a1_0 : Int) (a1_1 : Int) (a1_2 : Int) (a1_3 : Int) (R : AV → Mem → Prop) (h : F47 a0_0 a0_1 a0_2 a0_3 a1_0 a1_1 a1_2 a1_3 R) : Own Tryz.prog KK.gl 47 [(AV.agg [(intA a0_0), (intA a0_1), (intA a0_2), (intA a0_3)]), (AV.agg [(intA a1_0), (intA a1_1), (intA a1_2), (intA a1_3)])] R := own_of_F fol Tryz.func47 (code := c47) (by kernel_rfl) (by kernel_rfl) (by kernel_rfl) (X := F47 a0_0 a0_1 a0_2 a0_3 a1_0 a1_1 a1_2 a1_3 R) (by kernel_rfl) h
/- skyway/probe.All -/
noncomputable def c15 : Code := ((Tryz.f15).body).getD .skip
noncomputable def q15 (R : AV → Mem → Prop) : AExit → St → Prop := retQ Tryz.prog Tryz.f15 R
noncomputable def c15_0 : Code := loopB c15 0
noncomputable def q15_0 (R : AV → Mem → Prop) : AExit → St → Prop := contW Tryz.prog KK 74 0 c15 0 (q15 R)
noncomputable def qq15_0 (R : AV → Mem → Prop) (N0 : St → Prop) : AExit → St → Prop := thenQ N0 (q15_0 R)
def h15_0 (t0 : AV) (t4 : AV) (t5 : Int) (t8 : AV) (t28 : Int) (t29 : Int) (b0_0 : Int) (b0_1 : Int) (m : Mem) : St := ⟨[(0, t0), (3, (AV.ptr 0 0)), (4, t4), (5, (intA t5)), (8, t8), (28, (intA t28)), (29, (intA t29))], ((0, some ⟨[(intA b0_0), (intA b0_1)], 38⟩) :: m), 100000⟩
noncomputable def c15_0_0 : Code := loopB c15_0 0
noncomputable def q15_0_0 (R : AV → Mem → Prop) (N0 : St → Prop) : AExit → St → Prop := contW Tryz.prog KK 74 0 c15_0 0 (qq15_0 R N0)
noncomputable def qq15_0_0 (R : AV → Mem → Prop) (N0 : St → Prop) (N1 : St → Prop) : AExit → St → Prop := thenQ N1 (q15_0_0 R N0)
def h15_0_0 (t0 : AV) (t4 : AV) (t5 : Int) (t8 : AV) (t9 : Int) (t10 : Int) (t28 : Int) (t29 : Int) (b0_0 : Int) (b0_1 : Int) (m : Mem) : St := ⟨[(0, t0), (3, (AV.ptr 0 0)), (4, t4), (5, (intA t5)), (8, t8), (9, (intA t9)), (10, (intA t10)), (28, (intA t28)), (29, (intA t29))], ((0, some ⟨[(intA b0_0), (intA b0_1)], 38⟩) :: m), 200000⟩
noncomputable def c15_0_0_0 : Code := loopB c15_0_0 0
noncomputable def q15_0_0_0 (R : AV → Mem → Prop) (N0 : St → Prop) (N1 : St → Prop) : AExit → St → Prop := contW Tryz.prog KK 74 0 c15_0_0 0 (qq15_0_0 R N0 N1)
noncomputable def qq15_0_0_0 (R : AV → Mem → Prop) (N0 : St → Prop) (N1 : St → Prop) (N2 : St → Prop) : AExit → St → Prop := thenQ N2 (q15_0_0_0 R N0 N1)
def h15_0_0_0 (t0 : AV) (t4 : AV) (t5 : Int) (t8 : AV) (t9 : Int) (t10 : Int) (t28 : Int) (t29 : Int) (t49 : AV) (t50 : Int) (t51 : Int) (b0_0 : Int) (b0_1 : Int) (m : Mem) : St := ⟨[(0, t0), (3, (AV.ptr 0 0)), (4, t4), (5, (intA t5)), (8, t8), (9, (intA t9)), (10, (intA t10)), (28, (intA t28)), (29, (intA t29)), (49, t49), (50, (intA t50)), (51, (intA t51))], ((0, some ⟨[(intA b0_0), (intA b0_1)], 38⟩) :: m), 300000⟩
noncomputable def B15_0 (t0 : AV) (t4 : AV) (t5 : Int) (t8 : AV) (t28 : Int) (t29 : Int) (b0_0 : Int) (b0_1 : Int) (m : Mem) (R : AV → Mem → Prop) (N0 : St → Prop) : Prop :=
bif (decide (t29 < t28)) then (
Tri Tryz.prog KK 74 0 (.loop c15_0_0) ⟨[(0, t0), (3, (AV.ptr 0 0)), (4, t4), (5, (intA t5)), (8, t8), (28, (intA t28)), (29, (intA t29)), (30, (boolA (decide (t29 < t28)))), (31, (intA t29)), (9, (intA t29)), (32, (intA t29)), (33, (intA (IntKind.wrap .i64 (t29 + (1))))), (10, (intA (IntKind.wrap .i64 (t29 + (1)))))], ((0, some ⟨[(intA b0_0), (intA b0_1)], 38⟩) :: m), 100006⟩ (q15_0_0 R N0)) else (
opP (lenS t8) fun v26 =>
ex_i64 v26 fun z27 =>
bif (decide (z27 > (256))) then (
retL R ((0, some ⟨[(intA b0_0), (intA b0_1)], 38⟩) :: m) [some AV.nils, some (intA (2))]) else (
callW Tryz.prog KK.gl ((0, some ⟨[(intA b0_0), (intA b0_1)], 38⟩) :: m) 100005 46 [t8, (AV.fn 47 [])] fun v28 m28 =>
exT0 v28 <|
retL R m28 [some t8, some (intA (0))]))
theorem B15_0_eq (t0 : AV) (t4 : AV) (t5 : Int) (t8 : AV) (t28 : Int) (t29 : Int) (b0_0 : Int) (b0_1 : Int) (m : Mem) (R : AV → Mem → Prop) (N0 : St → Prop) : W Tryz.prog KK 74 0 c15_0 (h15_0 t0 t4 t5 t8 t28 t29 b0_0 b0_1 m) (qq15_0 R N0) = B15_0 t0 t4 t5 t8 t28 t29 b0_0 b0_1 m R N0 := by kernel_rfl
theorem L15_0 (R : AV → Mem → Prop) {σ : Type} (I : σ → Prop) (t0 : σ → AV) (t4 : σ → AV) (t5 : σ → Int) (t8 : σ → AV) (t28 : σ → Int) (t29 : σ → Int) (b0_0 : σ → Int) (b0_1 : σ → Int) (m : σ → Mem) (μ : σ → Nat) (step : ∀ x, I x → B15_0 (t0 x) (t4 x) (t5 x) (t8 x) (t28 x) (t29 x) (b0_0 x) (b0_1 x) (m x) R (fun s' => ∃ y, I y ∧ μ y < μ x ∧ Weak KK 74 0 s' (h15_0 (t0 y) (t4 y) (t5 y) (t8 y) (t28 y) (t29 y) (b0_0 y) (b0_1 y) (m y)))) (x : σ) (hx : I x) {s : St} (hw : Weak KK 74 0 s (h15_0 (t0 x) (t4 x) (t5 x) (t8 x) (t28 x) (t29 x) (b0_0 x) (b0_1 x) (m x))) : Tri Tryz.prog KK 74 0 (.loop c15_0) s (q15_0 R) :=
  Tri.weak hw (Tri.loops fol I (fun x => h15_0 (t0 x) (t4 x) (t5 x) (t8 x) (t28 x) (t29 x) (b0_0 x) (b0_1 x) (m x)) μ (fun x hx => (B15_0_eq (t0 x) (t4 x) (t5 x) (t8 x) (t28 x) (t29 x) (b0_0 x) (b0_1 x) (m x) R _).mpr (step x hx)) x hx)
noncomputable def B15_0_0 (t0 : AV) (t4 : AV) (t5 : Int) (t8 : AV) (t9 : Int) (t10 : Int) (t28 : Int) (t29 : Int) (b0_0 : Int) (b0_1 : Int) (m : Mem) (R : AV → Mem → Prop) (N0 : St → Prop) (N1 : St → Prop) : Prop :=
opP (lenS t0) fun v8 =>
ex_i64 v8 fun z9 =>
bif (decide (t10 < z9)) then (
opP (idxS 1 t0 (intA t9)) fun v10 =>
opP (ldS (mget ((0, some ⟨[(intA b0_0), (intA b0_1)], 38⟩) :: m)) v10) fun v11 =>
opP (idxS 1 t0 (intA t10)) fun v12 =>
opP (ldS (mget ((0, some ⟨[(intA b0_0), (intA b0_1)], 38⟩) :: m)) v12) fun v13 =>
callQ Tryz.prog KK.gl ((0, some ⟨[(intA b0_0), (intA b0_1)], 38⟩) :: m) 45 [v11, v13, (AV.agg [(intA b0_0), (intA b0_1)])] fun v14 =>
opP (lenS v14) fun v15 =>
ex_i64 v15 fun z16 =>
Tri Tryz.prog KK 74 0 (.loop c15_0_0_0) ⟨[(0, t0), (3, (AV.ptr 0 0)), (4, t4), (5, (intA t5)), (8, t8), (9, (intA t9)), (10, (intA t10)), (28, (intA t28)), (29, (intA t29)), (34, (intA t10)), (35, t0), (36, (intA z9)), (37, (boolA (decide (t10 < z9)))), (40, t0), (41, (intA t9)), (42, v10), (43, v11), (44, t0), (45, (intA t10)), (46, v12), (47, v13), (48, (AV.agg [(intA b0_0), (intA b0_1)])), (49, v14), (50, (intA z16)), (51, (intA (0)))], ((0, some ⟨[(intA b0_0), (intA b0_1)], 38⟩) :: m), 200016⟩ (q15_0_0_0 R N0 N1)) else (
N0 ⟨[(0, t0), (3, (AV.ptr 0 0)), (4, t4), (5, (intA t5)), (8, t8), (9, (intA t9)), (10, (intA t10)), (28, (intA t28)), (29, (intA (IntKind.wrap .i64 (t29 + (1))))), (34, (intA t10)), (35, t0), (36, (intA z9)), (37, (boolA (decide (t10 < z9)))), (67, (intA (IntKind.wrap .i64 (t29 + (1)))))], ((0, some ⟨[(intA b0_0), (intA b0_1)], 38⟩) :: m), 200006⟩)
theorem B15_0_0_eq (t0 : AV) (t4 : AV) (t5 : Int) (t8 : AV) (t9 : Int) (t10 : Int) (t28 : Int) (t29 : Int) (b0_0 : Int) (b0_1 : Int) (m : Mem) (R : AV → Mem → Prop) (N0 : St → Prop) (N1 : St → Prop) : W Tryz.prog KK 74 0 c15_0_0 (h15_0_0 t0 t4 t5 t8 t9 t10 t28 t29 b0_0 b0_1 m) (qq15_0_0 R N0 N1) = B15_0_0 t0 t4 t5 t8 t9 t10 t28 t29 b0_0 b0_1 m R N0 N1 := by kernel_rfl
theorem L15_0_0 (R : AV → Mem → Prop) (N0 : St → Prop) {σ : Type} (I : σ → Prop) (t0 : σ → AV) (t4 : σ → AV) (t5 : σ → Int) (t8 : σ → AV) (t9 : σ → Int) (t10 : σ → Int) (t28 : σ → Int) (t29 : σ → Int) (b0_0 : σ → Int) (b0_1 : σ → Int) (m : σ → Mem) (μ : σ → Nat) (step : ∀ x, I x → B15_0_0 (t0 x) (t4 x) (t5 x) (t8 x) (t9 x) (t10 x) (t28 x) (t29 x) (b0_0 x) (b0_1 x) (m x) R N0 (fun s' => ∃ y, I y ∧ μ y < μ x ∧ Weak KK 74 0 s' (h15_0_0 (t0 y) (t4 y) (t5 y) (t8 y) (t9 y) (t10 y) (t28 y) (t29 y) (b0_0 y) (b0_1 y) (m y)))) (x : σ) (hx : I x) {s : St} (hw : Weak KK 74 0 s (h15_0_0 (t0 x) (t4 x) (t5 x) (t8 x) (t9 x) (t10 x) (t28 x) (t29 x) (b0_0 x) (b0_1 x) (m x))) : Tri Tryz.prog KK 74 0 (.loop c15_0_0) s (q15_0_0 R N0) :=
  Tri.weak hw (Tri.loops fol I (fun x => h15_0_0 (t0 x) (t4 x) (t5 x) (t8 x) (t9 x) (t10 x) (t28 x) (t29 x) (b0_0 x) (b0_1 x) (m x)) μ (fun x hx => (B15_0_0_eq (t0 x) (t4 x) (t5 x) (t8 x) (t9 x) (t10 x) (t28 x) (t29 x) (b0_0 x) (b0_1 x) (m x) R N0 _).mpr (step x hx)) x hx)
noncomputable def B15_0_0_0 (t0 : AV) (t4 : AV) (t5 : Int) (t8 : AV) (t9 : Int) (t10 : Int) (t28 : Int) (t29 : Int) (t49 : AV) (t50 : Int) (t51 : Int) (b0_0 : Int) (b0_1 : Int) (m : Mem) (R : AV → Mem → Prop) (N0 : St → Prop) (N1 : St → Prop) (N2 : St → Prop) : Prop :=
bif (decide (t51 < t50)) then (
opP (idxS 2 t49 (intA t51)) fun v17 =>
opP (ldA (mget ((0, some ⟨[(intA b0_0), (intA b0_1)], 38⟩) :: m)) 2 v17) fun v18 =>
exA2 v18 fun c19 c20 =>
ex_i64 c19 fun z21 =>
ex_i64 c20 fun z22 =>
opP (bld [(intA (0)), (intA (0)), (intA (0)), (intA (0))] [(0, 1), (1, 1), (2, 1), (3, 1)] [(0, (intA t9)), (1, (intA t10)), (2, (intA z21)), (3, (intA (IntKind.wrap .i64 (z22 - (1)))))]) fun v23 =>
opN (bsl 300014 60 4 1 [(intA (0)), (intA (0)), (intA (0)), (intA (0))] [(0, v23)]) ((300003, some ⟨[(intA z21), (intA z22)], 97⟩) :: (300003, some ⟨[(intA (0)), (intA (0))], 97⟩) :: (0, some ⟨[(intA b0_0), (intA b0_1)], 38⟩) :: m) fun v24 m24 =>
opN (app (mget m24) 60 4 32 [(intA (0)), (intA (0)), (intA (0)), (intA (0))] 300015 t8 v24) m24 fun v25 m25 =>
N2 ⟨[(0, t0), (3, (AV.ptr 0 0)), (4, t4), (5, (intA t5)), (8, v25), (9, (intA t9)), (10, (intA t10)), (28, (intA t28)), (29, (intA t29)), (49, t49), (50, (intA t50)), (51, (intA (IntKind.wrap .i64 (t51 + (1))))), (52, (boolA (decide (t51 < t50)))), (53, v17), (54, (AV.agg [(intA z21), (intA z22)])), (12, (AV.ptr 300003 0)), (55, t8), (56, (intA t9)), (57, (intA t10)), (58, (AV.ptr 300003 0)), (59, (intA z21)), (60, (AV.ptr 300003 1)), (61, (intA z22)), (62, (intA (IntKind.wrap .i64 (z22 - (1))))), (63, v23), (64, v24), (65, v25), (66, (intA (IntKind.wrap .i64 (t51 + (1)))))], m25, 300019⟩) else (
N1 ⟨[(0, t0), (3, (AV.ptr 0 0)), (4, t4), (5, (intA t5)), (8, t8), (9, (intA t9)), (10, (intA (IntKind.wrap .i64 (t10 + (1))))), (28, (intA t28)), (29, (intA t29)), (49, t49), (50, (intA t50)), (51, (intA t51)), (52, (boolA (decide (t51 < t50)))), (38, (intA t10)), (39, (intA (IntKind.wrap .i64 (t10 + (1)))))], ((0, some ⟨[(intA b0_0), (intA b0_1)], 38⟩) :: m), 300004⟩)
theorem B15_0_0_0_eq (t0 : AV) (t4 : AV) (t5 : Int) (t8 : AV) (t9 : Int) (t10 : Int) (t28 : Int) (t29 : Int) (t49 : AV) (t50 : Int) (t51 : Int) (b0_0 : Int) (b0_1 : Int) (m : Mem) (R : AV → Mem → Prop) (N0 : St → Prop) (N1 : St → Prop) (N2 : St → Prop) : W Tryz.prog KK 74 0 c15_0_0_0 (h15_0_0_0 t0 t4 t5 t8 t9 t10 t28 t29 t49 t50 t51 b0_0 b0_1 m) (qq15_0_0_0 R N0 N1 N2) = B15_0_0_0 t0 t4 t5 t8 t9 t10 t28 t29 t49 t50 t51 b0_0 b0_1 m R N0 N1 N2 := by kernel_rfl
theorem L15_0_0_0 (R : AV → Mem → Prop) (N0 : St → Prop) (N1 : St → Prop) {σ : Type} (I : σ → Prop) (t0 : σ → AV) (t4 : σ → AV) (t5 : σ → Int) (t8 : σ → AV) (t9 : σ → Int) (t10 : σ → Int) (t28 : σ → Int) (t29 : σ → Int) (t49 : σ → AV) (t50 : σ → Int) (t51 : σ → Int) (b0_0 : σ → Int) (b0_1 : σ → Int) (m : σ → Mem) (μ : σ → Nat) (step : ∀ x, I x → B15_0_0_0 (t0 x) (t4 x) (t5 x) (t8 x) (t9 x) (t10 x) (t28 x) (t29 x) (t49 x) (t50 x) (t51 x) (b0_0 x) (b0_1 x) (m x) R N0 N1 (fun s' => ∃ y, I y ∧ μ y < μ x ∧ Weak KK 74 0 s' (h15_0_0_0 (t0 y) (t4 y) (t5 y) (t8 y) (t9 y) (t10 y) (t28 y) (t29 y) (t49 y) (t50 y) (t51 y) (b0_0 y) (b0_1 y) (m y)))) (x : σ) (hx : I x) {s : St} (hw : Weak KK 74 0 s (h15_0_0_0 (t0 x) (t4 x) (t5 x) (t8 x) (t9 x) (t10 x) (t28 x) (t29 x) (t49 x) (t50 x) (t51 x) (b0_0 x) (b0_1 x) (m x))) : Tri Tryz.prog KK 74 0 (.loop c15_0_0_0) s (q15_0_0_0 R N0 N1) :=
  Tri.weak hw (Tri.loops fol I (fun x => h15_0_0_0 (t0 x) (t4 x) (t5 x) (t8 x) (t9 x) (t10 x) (t28 x) (t29 x) (t49 x) (t50 x) (t51 x) (b0_0 x) (b0_1 x) (m x)) μ (fun x hx => (B15_0_0_0_eq (t0 x) (t4 x) (t5 x) (t8 x) (t9 x) (t10 x) (t28 x) (t29 x) (t49 x) (t50 x) (t51 x) (b0_0 x) (b0_1 x) (m x) R N0 N1 _).mpr (step x hx)) x hx)
noncomputable def F15 (a0 : AV) (a1_0 : Int) (a1_1 : Int) (R : AV → Mem → Prop) : Prop :=
callQ Tryz.prog KK.gl ((0, some ⟨[(intA a1_0), (intA a1_1)], 38⟩) :: []) 43 [(AV.agg [(intA a1_0), (intA a1_1)])] fun v0 =>
ex_i64 v0 fun z1 =>
bif (z1 != (0)) then (
retL R ((0, some ⟨[(intA a1_0), (intA a1_1)], 38⟩) :: []) [some AV.nils, some (intA z1)]) else (
opP (lenS a0) fun v2 =>
ex_i64 v2 fun z3 =>
bif (decide (z3 > (24))) then (
retL R ((0, some ⟨[(intA a1_0), (intA a1_1)], 38⟩) :: []) [some AV.nils, some (intA (2))]) else (
callQ Tryz.prog KK.gl ((0, some ⟨[(intA a1_0), (intA a1_1)], 38⟩) :: []) 44 [(AV.agg [(intA a1_0), (intA a1_1)]), a0] fun v4 =>
ex_i64 v4 fun z5 =>
bif (z5 != (0)) then (
retL R ((0, some ⟨[(intA a1_0), (intA a1_1)], 38⟩) :: []) [some AV.nils, some (intA z5)]) else (
opP (lenS a0) fun v6 =>
ex_i64 v6 fun z7 =>
Tri Tryz.prog KK 74 0 (.loop c15_0) ⟨[(0, a0), (1, (AV.agg [(intA a1_0), (intA a1_1)])), (3, (AV.ptr 0 0)), (4, AV.nils), (5, (intA (0))), (13, (AV.agg [(intA a1_0), (intA a1_1)])), (14, (intA z1)), (6, (intA z1)), (15, (intA z1)), (16, (boolA (z1 != (0)))), (18, a0), (19, (intA z3)), (20, (boolA (decide (z3 > (24))))), (21, (AV.agg [(intA a1_0), (intA a1_1)])), (22, a0), (23, (intA z5)), (7, (intA z5)), (24, (intA z5)), (25, (boolA (z5 != (0)))), (8, AV.nils), (27, a0), (28, (intA z7)), (29, (intA (0)))], ((0, some ⟨[(intA a1_0), (intA a1_1)], 38⟩) :: []), 147⟩ (q15_0 R))))
theorem F15_own (a0 : AV) (a1_0 : Int) (a1_1 : Int) (R : AV → Mem → Prop) (h : F15 a0 a1_0 a1_1 R) : Own Tryz.prog KK.gl 15 [a0, (AV.agg [(intA a1_0), (intA a1_1)])] R := own_of_F fol Tryz.func15 (code := c15) (by kernel_rfl) (by kernel_rfl) (by kernel_rfl) (X := F15 a0 a1_0 a1_1 R) (by kernel_rfl) h
/- skyway/resolve.check -/
noncomputable def c32 : Code := ((Tryz.f32).body).getD .skip
noncomputable def q32 (R : AV → Mem → Prop) : AExit → St → Prop := retQ Tryz.prog Tryz.f32 R
noncomputable def c32_0 : Code := loopB c32 0
noncomputable def q32_0 (R : AV → Mem → Prop) : AExit → St → Prop := contW Tryz.prog KK 39 0 c32 0 (q32 R)
noncomputable def qq32_0 (R : AV → Mem → Prop) (N0 : St → Prop) : AExit → St → Prop := thenQ N0 (q32_0 R)
def h32_0 (t0 : AV) (t1 : Int) (t6 : Int) (t19 : AV) (t20 : Int) (t21 : Int) (m : Mem) : St := ⟨[(0, t0), (1, (intA t1)), (6, (intA t6)), (19, t19), (20, (intA t20)), (21, (intA t21))], m, 100000⟩
noncomputable def B32_0 (t0 : AV) (t1 : Int) (t6 : Int) (t19 : AV) (t20 : Int) (t21 : Int) (m : Mem) (R : AV → Mem → Prop) (N0 : St → Prop) : Prop :=
bif (decide (t21 < t20)) then (
opP (idxS 1 t19 (intA t21)) fun v6 =>
opP (ldS (mget m) v6) fun v7 =>
callQ Tryz.prog KK.gl m 24 [v7] fun v8 =>
ex_i64 v8 fun z9 =>
bif (z9 != (0)) then (
retL R m [some (intA z9)]) else (
N0 ⟨[(0, t0), (1, (intA t1)), (6, (intA t6)), (19, t19), (20, (intA t20)), (21, (intA (IntKind.wrap .i64 (t21 + (1))))), (22, (boolA (decide (t21 < t20)))), (23, v6), (24, v7), (9, v7), (25, v7), (26, (intA z9)), (10, (intA z9)), (27, (intA z9)), (28, (boolA (z9 != (0)))), (30, (intA (IntKind.wrap .i64 (t21 + (1)))))], m, 100074⟩)) else (
bif (decide (t1 < (0))) then (
retL R m [some (intA (4))]) else (
opP (lenS t0) fun v10 =>
ex_i64 v10 fun z11 =>
bif (decide (t1 ≥ z11)) then (
retL R m [some (intA (4))]) else (
retL R m [some (intA (0))])))
theorem B32_0_eq (t0 : AV) (t1 : Int) (t6 : Int) (t19 : AV) (t20 : Int) (t21 : Int) (m : Mem) (R : AV → Mem → Prop) (N0 : St → Prop) : W Tryz.prog KK 39 0 c32_0 (h32_0 t0 t1 t6 t19 t20 t21 m) (qq32_0 R N0) = B32_0 t0 t1 t6 t19 t20 t21 m R N0 := by kernel_rfl
theorem L32_0 (R : AV → Mem → Prop) {σ : Type} (I : σ → Prop) (t0 : σ → AV) (t1 : σ → Int) (t6 : σ → Int) (t19 : σ → AV) (t20 : σ → Int) (t21 : σ → Int) (m : σ → Mem) (μ : σ → Nat) (step : ∀ x, I x → B32_0 (t0 x) (t1 x) (t6 x) (t19 x) (t20 x) (t21 x) (m x) R (fun s' => ∃ y, I y ∧ μ y < μ x ∧ Weak KK 39 0 s' (h32_0 (t0 y) (t1 y) (t6 y) (t19 y) (t20 y) (t21 y) (m y)))) (x : σ) (hx : I x) {s : St} (hw : Weak KK 39 0 s (h32_0 (t0 x) (t1 x) (t6 x) (t19 x) (t20 x) (t21 x) (m x))) : Tri Tryz.prog KK 39 0 (.loop c32_0) s (q32_0 R) :=
  Tri.weak hw (Tri.loops fol I (fun x => h32_0 (t0 x) (t1 x) (t6 x) (t19 x) (t20 x) (t21 x) (m x)) μ (fun x hx => (B32_0_eq (t0 x) (t1 x) (t6 x) (t19 x) (t20 x) (t21 x) (m x) R _).mpr (step x hx)) x hx)
noncomputable def F32 (a0 : AV) (a1 : Int) (a2_0 : Int) (a2_1 : Int) (R : AV → Mem → Prop) : Prop :=
callQ Tryz.prog KK.gl ((0, some ⟨[(intA a2_0), (intA a2_1)], 38⟩) :: []) 43 [(AV.agg [(intA a2_0), (intA a2_1)])] fun v0 =>
ex_i64 v0 fun z1 =>
bif (z1 != (0)) then (
retL R ((0, some ⟨[(intA a2_0), (intA a2_1)], 38⟩) :: []) [some (intA z1)]) else (
opP (lenS a0) fun v2 =>
ex_i64 v2 fun z3 =>
bif (decide (z3 > (24))) then (
retL R ((0, some ⟨[(intA a2_0), (intA a2_1)], 38⟩) :: []) [some (intA (2))]) else (
opP (lenS a0) fun v4 =>
ex_i64 v4 fun z5 =>
Tri Tryz.prog KK 39 0 (.loop c32_0) ⟨[(0, a0), (1, (intA a1)), (2, (AV.agg [(intA a2_0), (intA a2_1)])), (5, (AV.ptr 0 0)), (6, (intA (0))), (11, (AV.agg [(intA a2_0), (intA a2_1)])), (12, (intA z1)), (7, (intA z1)), (13, (intA z1)), (14, (boolA (z1 != (0)))), (16, a0), (17, (intA z3)), (18, (boolA (decide (z3 > (24))))), (19, a0), (20, (intA z5)), (21, (intA (0)))], ((0, some ⟨[(intA a2_0), (intA a2_1)], 38⟩) :: []), 76⟩ (q32_0 R)))
theorem F32_own (a0 : AV) (a1 : Int) (a2_0 : Int) (a2_1 : Int) (R : AV → Mem → Prop) (h : F32 a0 a1 a2_0 a2_1 R) : Own Tryz.prog KK.gl 32 [a0, (intA a1), (AV.agg [(intA a2_0), (intA a2_1)])] R := own_of_F fol Tryz.func32 (code := c32) (by kernel_rfl) (by kernel_rfl) (by kernel_rfl) (X := F32 a0 a1 a2_0 a2_1 R) (by kernel_rfl) h
/- skyway/resolve.free -/
noncomputable def c33 : Code := ((Tryz.f33).body).getD .skip
noncomputable def q33 (R : AV → Mem → Prop) : AExit → St → Prop := retQ Tryz.prog Tryz.f33 R
noncomputable def c33_0 : Code := loopB c33 0
noncomputable def q33_0 (R : AV → Mem → Prop) : AExit → St → Prop := contW Tryz.prog KK 33 0 c33 0 (q33 R)
noncomputable def qq33_0 (R : AV → Mem → Prop) (N0 : St → Prop) : AExit → St → Prop := thenQ N0 (q33_0 R)
def h33_0 (t1 : Int) (t2 : AV) (t8 : Bool) (t13 : AV) (t14 : Int) (t15 : Int) (b0_0 : Int) (b0_1 : Int) (m : Mem) : St := ⟨[(1, (intA t1)), (2, t2), (7, (AV.ptr 0 0)), (8, (boolA t8)), (13, t13), (14, (intA t14)), (15, (intA t15))], ((0, some ⟨[(intA b0_0), (intA b0_1)], 38⟩) :: m), 100000⟩
noncomputable def B33_0 (t1 : Int) (t2 : AV) (t8 : Bool) (t13 : AV) (t14 : Int) (t15 : Int) (b0_0 : Int) (b0_1 : Int) (m : Mem) (R : AV → Mem → Prop) (N0 : St → Prop) : Prop :=
bif (decide (t15 < t14)) then (
opP (idxS 1 t13 (intA t15)) fun v2 =>
opP (ldS (mget ((0, some ⟨[(intA b0_0), (intA b0_1)], 38⟩) :: m)) v2) fun v3 =>
bif (t15 != t1) then (
callQ Tryz.prog KK.gl ((0, some ⟨[(intA b0_0), (intA b0_1)], 38⟩) :: m) 42 [t2, v3, (AV.agg [(intA b0_0), (intA b0_1)])] fun v4 =>
exT2 v4 fun c5 c6 =>
ex_i64 c5 fun z7 =>
ex_i64 c6 fun z8 =>
bif (z8 == (0)) then (
retL R ((0, some ⟨[(intA b0_0), (intA b0_1)], 38⟩) :: m) [some (boolA false)]) else (
N0 ⟨[(1, (intA t1)), (2, t2), (7, (AV.ptr 0 0)), (8, (boolA t8)), (13, t13), (14, (intA t14)), (15, (intA (IntKind.wrap .i64 (t15 + (1))))), (16, (boolA (decide (t15 < t14)))), (17, (intA t15)), (18, v2), (19, v3), (9, (intA t15)), (10, v3), (20, (intA t15)), (21, (intA t1)), (22, (boolA (t15 != t1))), (24, t2), (25, v3), (26, (AV.agg [(intA b0_0), (intA b0_1)])), (27, (AV.tup [(intA z7), (intA z8)])), (23, (AV.tup [(intA z7), (intA z8)])), (28, (intA z7)), (29, (intA z8)), (11, (intA z7)), (12, (intA z8)), (30, (intA z8)), (31, (boolA (z8 == (0)))), (32, (intA (IntKind.wrap .i64 (t15 + (1)))))], ((0, some ⟨[(intA b0_0), (intA b0_1)], 38⟩) :: m), 100085⟩)) else (
N0 ⟨[(1, (intA t1)), (2, t2), (7, (AV.ptr 0 0)), (8, (boolA t8)), (13, t13), (14, (intA t14)), (15, (intA (IntKind.wrap .i64 (t15 + (1))))), (16, (boolA (decide (t15 < t14)))), (17, (intA t15)), (18, v2), (19, v3), (9, (intA t15)), (10, v3), (20, (intA t15)), (21, (intA t1)), (22, (boolA (t15 != t1))), (32, (intA (IntKind.wrap .i64 (t15 + (1)))))], ((0, some ⟨[(intA b0_0), (intA b0_1)], 38⟩) :: m), 100011⟩)) else (
retL R ((0, some ⟨[(intA b0_0), (intA b0_1)], 38⟩) :: m) [some (boolA true)])
theorem B33_0_eq (t1 : Int) (t2 : AV) (t8 : Bool) (t13 : AV) (t14 : Int) (t15 : Int) (b0_0 : Int) (b0_1 : Int) (m : Mem) (R : AV → Mem → Prop) (N0 : St → Prop) : W Tryz.prog KK 33 0 c33_0 (h33_0 t1 t2 t8 t13 t14 t15 b0_0 b0_1 m) (qq33_0 R N0) = B33_0 t1 t2 t8 t13 t14 t15 b0_0 b0_1 m R N0 := by kernel_rfl
theorem L33_0 (R : AV → Mem → Prop) {σ : Type} (I : σ → Prop) (t1 : σ → Int) (t2 : σ → AV) (t8 : σ → Bool) (t13 : σ → AV) (t14 : σ → Int) (t15 : σ → Int) (b0_0 : σ → Int) (b0_1 : σ → Int) (m : σ → Mem) (μ : σ → Nat) (step : ∀ x, I x → B33_0 (t1 x) (t2 x) (t8 x) (t13 x) (t14 x) (t15 x) (b0_0 x) (b0_1 x) (m x) R (fun s' => ∃ y, I y ∧ μ y < μ x ∧ Weak KK 33 0 s' (h33_0 (t1 y) (t2 y) (t8 y) (t13 y) (t14 y) (t15 y) (b0_0 y) (b0_1 y) (m y)))) (x : σ) (hx : I x) {s : St} (hw : Weak KK 33 0 s (h33_0 (t1 x) (t2 x) (t8 x) (t13 x) (t14 x) (t15 x) (b0_0 x) (b0_1 x) (m x))) : Tri Tryz.prog KK 33 0 (.loop c33_0) s (q33_0 R) :=
  Tri.weak hw (Tri.loops fol I (fun x => h33_0 (t1 x) (t2 x) (t8 x) (t13 x) (t14 x) (t15 x) (b0_0 x) (b0_1 x) (m x)) μ (fun x hx => (B33_0_eq (t1 x) (t2 x) (t8 x) (t13 x) (t14 x) (t15 x) (b0_0 x) (b0_1 x) (m x) R _).mpr (step x hx)) x hx)
noncomputable def F33 (a0 : AV) (a1 : Int) (a2 : AV) (a3_0 : Int) (a3_1 : Int) (R : AV → Mem → Prop) : Prop :=
opP (lenS a0) fun v0 =>
ex_i64 v0 fun z1 =>
Tri Tryz.prog KK 33 0 (.loop c33_0) ⟨[(0, a0), (1, (intA a1)), (2, a2), (3, (AV.agg [(intA a3_0), (intA a3_1)])), (7, (AV.ptr 0 0)), (8, (boolA false)), (13, a0), (14, (intA z1)), (15, (intA (0)))], ((0, some ⟨[(intA a3_0), (intA a3_1)], 38⟩) :: []), 5⟩ (q33_0 R)
theorem F33_own (a0 : AV) (a1 : Int) (a2 : AV) (a3_0 : Int) (a3_1 : Int) (R : AV → Mem → Prop) (h : F33 a0 a1 a2 a3_0 a3_1 R) : Own Tryz.prog KK.gl 33 [a0, (intA a1), a2, (AV.agg [(intA a3_0), (intA a3_1)])] R := own_of_F fol Tryz.func33 (code := c33) (by kernel_rfl) (by kernel_rfl) (by kernel_rfl) (X := F33 a0 a1 a2 a3_0 a3_1 R) (by kernel_rfl) h
/- skyway/resolve.Free -/
noncomputable def c16 : Code := ((Tryz.f16).body).getD .skip
noncomputable def q16 (R : AV → Mem → Prop) : AExit → St → Prop := retQ Tryz.prog Tryz.f16 R
noncomputable def F16 (a0 : AV) (a1 : Int) (a2_0 : Int) (a2_1 : Int) (R : AV → Mem → Prop) : Prop :=
callQ Tryz.prog KK.gl ((0, some ⟨[(intA a2_0), (intA a2_1)], 38⟩) :: []) 32 [a0, (intA a1), (AV.agg [(intA a2_0), (intA a2_1)])] fun v0 =>
ex_i64 v0 fun z1 =>
bif (z1 != (0)) then (
retL R ((0, some ⟨[(intA a2_0), (intA a2_1)], 38⟩) :: []) [some (boolA false), some (intA z1)]) else (
opP (idxS 1 a0 (intA a1)) fun v2 =>
opP (ldS (mget ((0, some ⟨[(intA a2_0), (intA a2_1)], 38⟩) :: [])) v2) fun v3 =>
callQ Tryz.prog KK.gl ((0, some ⟨[(intA a2_0), (intA a2_1)], 38⟩) :: []) 33 [a0, (intA a1), v3, (AV.agg [(intA a2_0), (intA a2_1)])] fun v4 =>
exB v4 fun b5 =>
retL R ((0, some ⟨[(intA a2_0), (intA a2_1)], 38⟩) :: []) [some (boolA b5), some (intA (0))])
theorem F16_own (a0 : AV) (a1 : Int) (a2_0 : Int) (a2_1 : Int) (R : AV → Mem → Prop) (h : F16 a0 a1 a2_0 a2_1 R) : Own Tryz.prog KK.gl 16 [a0, (intA a1), (AV.agg [(intA a2_0), (intA a2_1)])] R := own_of_F fol Tryz.func16 (code := c16) (by kernel_rfl) (by kernel_rfl) (by kernel_rfl) (X := F16 a0 a1 a2_0 a2_1 R) (by kernel_rfl) h
/- skyway/skywaykeep3.ResolveAll$1 -/
noncomputable def c18 : Code := ((Tryz.f18).body).getD .skip
noncomputable def q18 (R : AV → Mem → Prop) : AExit → St → Prop := retQ Tryz.prog Tryz.f18 R
noncomputable def F18 (a0_0 : Int) (a0_1 : Int) (a0_2 : Int) (a0_3 : Int) (a1 : AV) (R : AV → Mem → Prop) : Prop :=
opP (ldS (mget ((0, some ⟨[(intA a0_0), (intA a0_1), (intA a0_2), (intA a0_3)], 60⟩) :: [])) a1) fun v0 =>
ex_i64 v0 fun z1 =>
bif (a0_0 == z1) then (
retL R ((0, some ⟨[(intA a0_0), (intA a0_1), (intA a0_2), (intA a0_3)], 60⟩) :: []) [some (boolA true)]) else (
opP (ldS (mget ((0, some ⟨[(intA a0_0), (intA a0_1), (intA a0_2), (intA a0_3)], 60⟩) :: [])) a1) fun v2 =>
ex_i64 v2 fun z3 =>
retL R ((0, some ⟨[(intA a0_0), (intA a0_1), (intA a0_2), (intA a0_3)], 60⟩) :: []) [some (boolA (a0_1 == z3))])
theorem F18_own (a0_0 : Int) (a0_1 : Int) (a0_2 : Int) (a0_3 : Int) (a1 : AV) (R : AV → Mem → Prop) (h : F18 a0_0 a0_1 a0_2 a0_3 a1 R) : Own Tryz.prog KK.gl 18 [(AV.agg [(intA a0_0), (intA a0_1), (intA a0_2), (intA a0_3)]), a1] R := own_of_F fol Tryz.func18 (code := c18) (by kernel_rfl) (by kernel_rfl) (by kernel_rfl) (X := F18 a0_0 a0_1 a0_2 a0_3 a1 R) (by kernel_rfl) h
/- slices.IndexFunc[[]skyway/api.Clash,skyway/api.Clash] -/
noncomputable def c49 : Code := ((Tryz.f49).body).getD .skip
noncomputable def q49 (R : AV → Mem → Prop) : AExit → St → Prop := retQ Tryz.prog Tryz.f49 R
noncomputable def c49_0 : Code := loopB c49 0
noncomputable def q49_0 (R : AV → Mem → Prop) : AExit → St → Prop := contW Tryz.prog KK 19 0 c49 0 (q49 R)
noncomputable def qq49_0 (R : AV → Mem → Prop) (N0 : St → Prop) : AExit → St → Prop := thenQ N0 (q49_0 R)
def h49_0 (t0 : AV) (t1 : AV) (t4 : Int) (t7 : Int) (t8 : Int) (m : Mem) : St := ⟨[(0, t0), (1, t1), (4, (intA t4)), (7, (intA t7)), (8, (intA t8))], m, 100000⟩
noncomputable def B49_0 (t0 : AV) (t1 : AV) (t4 : Int) (t7 : Int) (t8 : Int) (m : Mem) (R : AV → Mem → Prop) (N0 : St → Prop) : Prop :=
bif (decide (t8 < t7)) then (
opP (idxS 4 t0 (intA t8)) fun v2 =>
opP (ldA (mget m) 4 v2) fun v3 =>
exA4 v3 fun c4 c5 c6 c7 =>
ex_i64 c4 fun z8 =>
ex_i64 c5 fun z9 =>
ex_i64 c6 fun z10 =>
ex_i64 c7 fun z11 =>
fnArgs (some t1) (some [(AV.agg [(intA z8), (intA z9), (intA z10), (intA z11)])]) fun f12 a12 => bif KK.pm f12 then callQ Tryz.prog KK.gl m f12 a12 (fun v12 =>
exB v12 fun b13 =>
bif b13 then (
retL R m [some (intA t8)]) else (
N0 ⟨[(0, t0), (1, t1), (4, (intA t4)), (7, (intA t7)), (8, (intA (IntKind.wrap .i64 (t8 + (1))))), (9, (boolA (decide (t8 < t7)))), (10, (intA t8)), (5, (intA t8)), (11, t1), (12, t0), (13, (intA t8)), (14, v2), (15, (AV.agg [(intA z8), (intA z9), (intA z10), (intA z11)])), (16, (boolA b13)), (18, (intA (IntKind.wrap .i64 (t8 + (1)))))], m, 100074⟩)) else callW Tryz.prog KK.gl m 100008 f12 a12 fun v12 m12 =>
exB v12 fun b13 =>
bif b13 then (
retL R m12 [some (intA t8)]) else (
N0 ⟨[(0, t0), (1, t1), (4, (intA t4)), (7, (intA t7)), (8, (intA (IntKind.wrap .i64 (t8 + (1))))), (9, (boolA (decide (t8 < t7)))), (10, (intA t8)), (5, (intA t8)), (11, t1), (12, t0), (13, (intA t8)), (14, v2), (15, (AV.agg [(intA z8), (intA z9), (intA z10), (intA z11)])), (16, (boolA b13)), (18, (intA (IntKind.wrap .i64 (t8 + (1)))))], m12, 100074⟩)) else (
retL R m [some (intA (-1))])
theorem B49_0_eq (t0 : AV) (t1 : AV) (t4 : Int) (t7 : Int) (t8 : Int) (m : Mem) (R : AV → Mem → Prop) (N0 : St → Prop) : W Tryz.prog KK 19 0 c49_0 (h49_0 t0 t1 t4 t7 t8 m) (qq49_0 R N0) = B49_0 t0 t1 t4 t7 t8 m R N0 := by kernel_rfl
theorem L49_0 (R : AV → Mem → Prop) {σ : Type} (I : σ → Prop) (t0 : σ → AV) (t1 : σ → AV) (t4 : σ → Int) (t7 : σ → Int) (t8 : σ → Int) (m : σ → Mem) (μ : σ → Nat) (step : ∀ x, I x → B49_0 (t0 x) (t1 x) (t4 x) (t7 x) (t8 x) (m x) R (fun s' => ∃ y, I y ∧ μ y < μ x ∧ Weak KK 19 0 s' (h49_0 (t0 y) (t1 y) (t4 y) (t7 y) (t8 y) (m y)))) (x : σ) (hx : I x) {s : St} (hw : Weak KK 19 0 s (h49_0 (t0 x) (t1 x) (t4 x) (t7 x) (t8 x) (m x))) : Tri Tryz.prog KK 19 0 (.loop c49_0) s (q49_0 R) :=
  Tri.weak hw (Tri.loops fol I (fun x => h49_0 (t0 x) (t1 x) (t4 x) (t7 x) (t8 x) (m x)) μ (fun x hx => (B49_0_eq (t0 x) (t1 x) (t4 x) (t7 x) (t8 x) (m x) R _).mpr (step x hx)) x hx)
noncomputable def F49 (a0 : AV) (a1 : AV) (R : AV → Mem → Prop) : Prop :=
opP (lenS a0) fun v0 =>
ex_i64 v0 fun z1 =>
Tri Tryz.prog KK 19 0 (.loop c49_0) ⟨[(0, a0), (1, a1), (4, (intA (0))), (6, a0), (7, (intA z1)), (8, (intA (0)))], [], 4⟩ (q49_0 R)
theorem F49_own (a0 : AV) (a1 : AV) (R : AV → Mem → Prop) (h : F49 a0 a1 R) : Own Tryz.prog KK.gl 49 [a0, a1] R := own_of_F fol Tryz.func49 (code := c49) (by kernel_rfl) (by kernel_rfl) (by kernel_rfl) (X := F49 a0 a1 R) (by kernel_rfl) h
/- slices.ContainsFunc[[]skyway/api.Clash,skyway/api.Clash] -/
noncomputable def c17 : Code := ((Tryz.f17).body).getD .skip
noncomputable def q17 (R : AV → Mem → Prop) : AExit → St → Prop := retQ Tryz.prog Tryz.f17 R
noncomputable def F17 (a0 : AV) (a1 : AV) (R : AV → Mem → Prop) : Prop :=
callQ Tryz.prog KK.gl [] 49 [a0, a1] fun v0 =>
ex_i64 v0 fun z1 =>
retL R [] [some (boolA (decide (z1 ≥ (0))))]
theorem F17_own (a0 : AV) (a1 : AV) (R : AV → Mem → Prop) (h : F17 a0 a1 R) : Own Tryz.prog KK.gl 17 [a0, a1] R := own_of_F fol Tryz.func17 (code := c17) (by kernel_rfl) (by kernel_rfl) (by kernel_rfl) (X := F17 a0 a1 R) (by kernel_rfl) h
/- skyway/skywaykeep3.ResolveAll -/
noncomputable def c5 : Code := ((Tryz.f5).body).getD .skip
noncomputable def q5 (R : AV → Mem → Prop) : AExit → St → Prop := retQ Tryz.prog Tryz.f5 R
noncomputable def c5_0 : Code := loopB c5 0
noncomputable def q5_0 (R : AV → Mem → Prop) : AExit → St → Prop := contW Tryz.prog KK 57 0 c5 0 (q5 R)
noncomputable def qq5_0 (R : AV → Mem → Prop) (N0 : St → Prop) : AExit → St → Prop := thenQ N0 (q5_0 R)
def h5_0 (t0 : AV) (t4 : Bool) (t5 : AV) (t7 : Int) (t26 : Int) (t27 : Int) (m : Mem) : St := ⟨[(0, t0), (3, (AV.ptr 0 0)), (4, (boolA t4)), (5, t5), (7, (intA t7)), (26, (intA t26)), (27, (intA t27))], m, 100000⟩
noncomputable def B5_0 (t0 : AV) (t4 : Bool) (t5 : AV) (t7 : Int) (t26 : Int) (t27 : Int) (m : Mem) (R : AV → Mem → Prop) (N0 : St → Prop) : Prop :=
bif (decide (t27 < t26)) then (
opP (ldA (mget ((100002, some ⟨[(intA t27)], 3⟩) :: (100002, some ⟨[(intA (0))], 3⟩) :: m)) 2 (AV.ptr 0 0)) fun v10 =>
exA2 v10 fun c11 c12 =>
ex_i64 c11 fun z13 =>
ex_i64 c12 fun z14 =>
callQ Tryz.prog KK.gl ((100002, some ⟨[(intA t27)], 3⟩) :: (100002, some ⟨[(intA (0))], 3⟩) :: m) 16 [t0, (intA t27), (AV.agg [(intA z13), (intA z14)])] fun v15 =>
exT2 v15 fun c16 c17 =>
exB c16 fun b18 =>
ex_i64 c17 fun z19 =>
bif (z19 != (0)) then (
retL R ((100002, some ⟨[(intA t27)], 3⟩) :: (100002, some ⟨[(intA (0))], 3⟩) :: m) [some (boolA false)]) else (
callQ Tryz.prog KK.gl ((100002, some ⟨[(intA t27)], 3⟩) :: (100002, some ⟨[(intA (0))], 3⟩) :: m) 17 [t5, (AV.fn 18 [(AV.ptr 100002 0)])] fun v20 =>
exB v20 fun b21 =>
opP (opA Tryz.prog (.binOp .eql 4 (.tmp 0) (.tmp 1) 4) 4 [(boolA b18), (boolA b21)] (mget ((100002, some ⟨[(intA t27)], 3⟩) :: (100002, some ⟨[(intA (0))], 3⟩) :: m)) 100147) fun v22 =>
exB v22 fun b23 =>
bif b23 then (
retL R ((100002, some ⟨[(intA t27)], 3⟩) :: (100002, some ⟨[(intA (0))], 3⟩) :: m) [some (boolA false)]) else (
bif b18 then (
N0 ⟨[(0, t0), (3, (AV.ptr 0 0)), (4, (boolA t4)), (5, t5), (7, (intA (IntKind.wrap .i64 (t7 + (1))))), (26, (intA t26)), (27, (intA (IntKind.wrap .i64 (t27 + (1))))), (28, (boolA (decide (t27 < t26)))), (29, (intA t27)), (8, (AV.ptr 100002 0)), (31, t0), (32, (intA t27)), (33, (AV.agg [(intA z13), (intA z14)])), (34, (AV.tup [(boolA b18), (intA z19)])), (30, (AV.tup [(boolA b18), (intA z19)])), (35, (boolA b18)), (36, (intA z19)), (9, (boolA b18)), (10, (intA z19)), (37, (intA z19)), (38, (boolA (z19 != (0)))), (39, t5), (40, (AV.fn 18 [(AV.ptr 100002 0)])), (41, (boolA b21)), (11, (boolA b21)), (42, (boolA b18)), (43, (boolA b21)), (44, (boolA b23)), (45, (boolA b18)), (46, (intA t7)), (47, (intA (IntKind.wrap .i64 (t7 + (1))))), (48, (intA (IntKind.wrap .i64 (t27 + (1)))))], ((100002, some ⟨[(intA t27)], 3⟩) :: (100002, some ⟨[(intA (0))], 3⟩) :: m), 100154⟩) else (
N0 ⟨[(0, t0), (3, (AV.ptr 0 0)), (4, (boolA t4)), (5, t5), (7, (intA t7)), (26, (intA t26)), (27, (intA (IntKind.wrap .i64 (t27 + (1))))), (28, (boolA (decide (t27 < t26)))), (29, (intA t27)), (8, (AV.ptr 100002 0)), (31, t0), (32, (intA t27)), (33, (AV.agg [(intA z13), (intA z14)])), (34, (AV.tup [(boolA b18), (intA z19)])), (30, (AV.tup [(boolA b18), (intA z19)])), (35, (boolA b18)), (36, (intA z19)), (9, (boolA b18)), (10, (intA z19)), (37, (intA z19)), (38, (boolA (z19 != (0)))), (39, t5), (40, (AV.fn 18 [(AV.ptr 100002 0)])), (41, (boolA b21)), (11, (boolA b21)), (42, (boolA b18)), (43, (boolA b21)), (44, (boolA b23)), (45, (boolA b18)), (48, (intA (IntKind.wrap .i64 (t27 + (1)))))], ((100002, some ⟨[(intA t27)], 3⟩) :: (100002, some ⟨[(intA (0))], 3⟩) :: m), 100151⟩)))) else (
opP (lenS t0) fun v24 =>
ex_i64 v24 fun z25 =>
opP (lenS t5) fun v26 =>
ex_i64 v26 fun z27 =>
opP (opA Tryz.prog (.binOp .eql 4 (.tmp 0) (.tmp 1) 4) 4 [(boolA (t7 == z25)), (boolA (z27 == (0)))] (mget m) 100008) fun v28 =>
exB v28 fun b29 =>
retL R m [some (boolA b29)])
theorem B5_0_eq (t0 : AV) (t4 : Bool) (t5 : AV) (t7 : Int) (t26 : Int) (t27 : Int) (m : Mem) (R : AV → Mem → Prop) (N0 : St → Prop) : W Tryz.prog KK 57 0 c5_0 (h5_0 t0 t4 t5 t7 t26 t27 m) (qq5_0 R N0) = B5_0 t0 t4 t5 t7 t26 t27 m R N0 := by kernel_rfl
theorem L5_0 (R : AV → Mem → Prop) {σ : Type} (I : σ → Prop) (t0 : σ → AV) (t4 : σ → Bool) (t5 : σ → AV) (t7 : σ → Int) (t26 : σ → Int) (t27 : σ → Int) (m : σ → Mem) (μ : σ → Nat) (step : ∀ x, I x → B5_0 (t0 x) (t4 x) (t5 x) (t7 x) (t26 x) (t27 x) (m x) R (fun s' => ∃ y, I y ∧ μ y < μ x ∧ Weak KK 57 0 s' (h5_0 (t0 y) (t4 y) (t5 y) (t7 y) (t26 y) (t27 y) (m y)))) (x : σ) (hx : I x) {s : St} (hw : Weak KK 57 0 s (h5_0 (t0 x) (t4 x) (t5 x) (t7 x) (t26 x) (t27 x) (m x))) : Tri Tryz.prog KK 57 0 (.loop c5_0) s (q5_0 R) :=
  Tri.weak hw (Tri.loops fol I (fun x => h5_0 (t0 x) (t4 x) (t5 x) (t7 x) (t26 x) (t27 x) (m x)) μ (fun x hx => (B5_0_eq (t0 x) (t4 x) (t5 x) (t7 x) (t26 x) (t27 x) (m x) R _).mpr (step x hx)) x hx)
noncomputable def F5 (a0 : AV) (a1_0 : Int) (a1_1 : Int) (R : AV → Mem → Prop) : Prop :=
callQ Tryz.prog KK.gl ((0, some ⟨[(intA a1_0), (intA a1_1)], 38⟩) :: []) 6 [] fun v0 =>
exB v0 fun b1 =>
bif (!b1) then (
retL R ((0, some ⟨[(intA a1_0), (intA a1_1)], 38⟩) :: []) [some (boolA false)]) else (
callQ Tryz.prog KK.gl ((0, some ⟨[(intA a1_0), (intA a1_1)], 38⟩) :: []) 10 [a0, (intA (5)), (intA (300))] fun v2 =>
exB v2 fun b3 =>
bif (!b3) then (
retL R ((0, some ⟨[(intA a1_0), (intA a1_1)], 38⟩) :: []) [some (boolA true)]) else (
callW Tryz.prog KK.gl ((0, some ⟨[(intA a1_0), (intA a1_1)], 38⟩) :: []) 135 15 [a0, (AV.agg [(intA a1_0), (intA a1_1)])] fun v4 m4 =>
exT2 v4 fun c5 c6 =>
ex_i64 c6 fun z7 =>
bif (z7 != (0)) then (
retL R m4 [some (boolA true)]) else (
opP (lenS a0) fun v8 =>
ex_i64 v8 fun z9 =>
Tri Tryz.prog KK 57 0 (.loop c5_0) ⟨[(0, a0), (1, (AV.agg [(intA a1_0), (intA a1_1)])), (3, (AV.ptr 0 0)), (4, (boolA false)), (12, (boolA b1)), (13, (boolA (!b1))), (14, a0), (15, (boolA b3)), (16, (boolA (!b3))), (18, a0), (19, (AV.agg [(intA a1_0), (intA a1_1)])), (20, (AV.tup [c5, (intA z7)])), (17, (AV.tup [c5, (intA z7)])), (21, c5), (22, (intA z7)), (5, c5), (6, (intA z7)), (23, (intA z7)), (24, (boolA (z7 != (0)))), (7, (intA (0))), (25, a0), (26, (intA z9)), (27, (intA (0)))], m4, 210⟩ (q5_0 R))))
theorem F5_own (a0 : AV) (a1_0 : Int) (a1_1 : Int) (R : AV → Mem → Prop) (h : F5 a0 a1_0 a1_1 R) : Own Tryz.prog KK.gl 5 [a0, (AV.agg [(intA a1_0), (intA a1_1)])] R := own_of_F fol Tryz.func5 (code := c5) (by kernel_rfl) (by kernel_rfl) (by kernel_rfl) (X := F5 a0 a1_0 a1_1 R) (by kernel_rfl) h
end Go.Proofs.YteaimbiojpjneaaGreatDoor
