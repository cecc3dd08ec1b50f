/- Functions of the program as conditions on their answers; printed by wip/Gen.lean.txt. -/
import Derived.Test.YteaimbiojpjneaaGreatDoorX1T
set_option linter.unusedVariables false
set_option maxRecDepth 100000
set_option maxHeartbeats 4000000
namespace Go.Proofs.YteaimbiojpjneaaGreatDoor
/- skyway/probe.CheckSep -/
noncomputable def c43 : Code := ((Tryz.f43).body).getD .skip
noncomputable def q43 (R : AV → Mem → Prop) : AExit → St → Prop := retQ pg Tryz.f43 R
noncomputable def F43 (a0_0 : Int) (a0_1 : Int) (R : AV → Mem → Prop) : Prop :=
bif (decide (a0_0 < (0))) then (
retL R ((0, some ⟨[(intA a0_0), (intA a0_1)], 38⟩) :: []) [some (intA (4))]) else (
bif (decide (a0_0 > (1000000))) then (
retL R ((0, some ⟨[(intA a0_0), (intA a0_1)], 38⟩) :: []) [some (intA (4))]) else (
bif (decide (a0_1 < (0))) then (
retL R ((0, some ⟨[(intA a0_0), (intA a0_1)], 38⟩) :: []) [some (intA (4))]) else (
bif (decide (a0_1 > (60000))) then (
retL R ((0, some ⟨[(intA a0_0), (intA a0_1)], 38⟩) :: []) [some (intA (4))]) else (
retL R ((0, some ⟨[(intA a0_0), (intA a0_1)], 38⟩) :: []) [some (intA (0))]))))
theorem F43_own (a0_0 : Int) (a0_1 : Int) (R : AV → Mem → Prop) (h : F43 a0_0 a0_1 R) : Own pg KK.gl 43 [(AV.agg [(intA a0_0), (intA a0_1)])] R := own_of_F fol Tryz.func43 (code := c43) (by kernel_rfl) (by kernel_rfl) (by kernel_rfl) (X := F43 a0_0 a0_1 R) (by kernel_rfl) h
/- skyway/plane.Check -/
noncomputable def c38 : Code := ((Tryz.f38).body).getD .skip
noncomputable def q38 (R : AV → Mem → Prop) : AExit → St → Prop := retQ pg Tryz.f38 R
noncomputable def F38 (a0_0 : Int) (a0_1 : Int) (R : AV → Mem → Prop) : Prop :=
bif (decide (a0_0 < (-1000000))) then (
retL R ((0, some ⟨[(intA a0_0), (intA a0_1)], 45⟩) :: []) [some (intA (4))]) else (
bif (decide (a0_0 > (1000000))) then (
retL R ((0, some ⟨[(intA a0_0), (intA a0_1)], 45⟩) :: []) [some (intA (4))]) else (
bif (decide (a0_1 < (-1000000))) then (
retL R ((0, some ⟨[(intA a0_0), (intA a0_1)], 45⟩) :: []) [some (intA (4))]) else (
bif (decide (a0_1 > (1000000))) then (
retL R ((0, some ⟨[(intA a0_0), (intA a0_1)], 45⟩) :: []) [some (intA (4))]) else (
retL R ((0, some ⟨[(intA a0_0), (intA a0_1)], 45⟩) :: []) [some (intA (0))]))))
theorem F38_own (a0_0 : Int) (a0_1 : Int) (R : AV → Mem → Prop) (h : F38 a0_0 a0_1 R) : Own pg KK.gl 38 [(AV.agg [(intA a0_0), (intA a0_1)])] R := own_of_F fol Tryz.func38 (code := c38) (by kernel_rfl) (by kernel_rfl) (by kernel_rfl) (X := F38 a0_0 a0_1 R) (by kernel_rfl) h
/- skyway/tube.Check -/
noncomputable def c24 : Code := ((Tryz.f24).body).getD .skip
noncomputable def q24 (R : AV → Mem → Prop) : AExit → St → Prop := retQ pg Tryz.f24 R
noncomputable def c24_0 : Code := loopB c24 0
noncomputable def q24_0 (R : AV → Mem → Prop) : AExit → St → Prop := contW pg KK 86 0 c24 0 (q24 R)
noncomputable def qq24_0 (R : AV → Mem → Prop) (N0 : St → Prop) : AExit → St → Prop := thenQ N0 (q24_0 R)
def h24_0 (t0 : AV) (t2 : Int) (t14 : AV) (t15 : Int) (t16 : Int) (m : Mem) : St := ⟨[(0, t0), (2, (intA t2)), (14, t14), (15, (intA t15)), (16, (intA t16))], m, 100000⟩
noncomputable def B24_0 (t0 : AV) (t2 : Int) (t14 : AV) (t15 : Int) (t16 : Int) (m : Mem) (R : AV → Mem → Prop) (N0 : St → Prop) : Prop :=
bif (decide (t16 < t15)) then (
opP (idxS 6 t14 (intA t16)) fun v6 =>
opP (ldA (mget m) 6 v6) fun v7 =>
exA6 v7 fun c8 c9 c10 c11 c12 c13 =>
ex_i64 c8 fun z14 =>
ex_i64 c9 fun z15 =>
ex_i64 c10 fun z16 =>
ex_i64 c11 fun z17 =>
ex_i64 c12 fun z18 =>
ex_i64 c13 fun z19 =>
bif (decide (z14 < (0))) then (
retL R ((100004, some ⟨[(intA z14), (intA z15), (intA z16), (intA z17), (intA z18), (intA z19)], 50⟩) :: (100004, some ⟨[(intA (0)), (intA (0)), (intA (0)), (intA (0)), (intA (0)), (intA (0))], 50⟩) :: m) [some (intA (12))]) else (
bif (decide (z14 > (200000))) then (
retL R ((100004, some ⟨[(intA z14), (intA z15), (intA z16), (intA z17), (intA z18), (intA z19)], 50⟩) :: (100004, some ⟨[(intA (0)), (intA (0)), (intA (0)), (intA (0)), (intA (0)), (intA (0))], 50⟩) :: m) [some (intA (12))]) else (
bif (decide (t16 > (0))) then (
opP (idxS 6 t0 (intA (IntKind.wrap .i64 (t16 - (1))))) fun v20 =>
opP (fldO 0 v20) fun v21 =>
opP (fldO 0 v21) fun v22 =>
opP (ldS (mget ((100004, some ⟨[(intA z14), (intA z15), (intA z16), (intA z17), (intA z18), (intA z19)], 50⟩) :: (100004, some ⟨[(intA (0)), (intA (0)), (intA (0)), (intA (0)), (intA (0)), (intA (0))], 50⟩) :: m)) v22) fun v23 =>
ex_i64 v23 fun z24 =>
bif (decide (z14 ≤ z24)) then (
retL R ((100004, some ⟨[(intA z14), (intA z15), (intA z16), (intA z17), (intA z18), (intA z19)], 50⟩) :: (100004, some ⟨[(intA (0)), (intA (0)), (intA (0)), (intA (0)), (intA (0)), (intA (0))], 50⟩) :: m) [some (intA (12))]) else (
callQ pg KK.gl ((100004, some ⟨[(intA z14), (intA z15), (intA z16), (intA z17), (intA z18), (intA z19)], 50⟩) :: (100004, some ⟨[(intA (0)), (intA (0)), (intA (0)), (intA (0)), (intA (0)), (intA (0))], 50⟩) :: m) 38 [(AV.agg [(intA z15), (intA z16)])] fun v25 =>
ex_i64 v25 fun z26 =>
bif (z26 != (0)) then (
retL R ((100004, some ⟨[(intA z14), (intA z15), (intA z16), (intA z17), (intA z18), (intA z19)], 50⟩) :: (100004, some ⟨[(intA (0)), (intA (0)), (intA (0)), (intA (0)), (intA (0)), (intA (0))], 50⟩) :: m) [some (intA z26)]) else (
bif (decide (z17 < (0))) then (
retL R ((100004, some ⟨[(intA z14), (intA z15), (intA z16), (intA z17), (intA z18), (intA z19)], 50⟩) :: (100004, some ⟨[(intA (0)), (intA (0)), (intA (0)), (intA (0)), (intA (0)), (intA (0))], 50⟩) :: m) [some (intA (4))]) else (
bif (decide (z17 > (60000))) then (
retL R ((100004, some ⟨[(intA z14), (intA z15), (intA z16), (intA z17), (intA z18), (intA z19)], 50⟩) :: (100004, some ⟨[(intA (0)), (intA (0)), (intA (0)), (intA (0)), (intA (0)), (intA (0))], 50⟩) :: m) [some (intA (4))]) else (
bif (decide (z18 < (0))) then (
retL R ((100004, some ⟨[(intA z14), (intA z15), (intA z16), (intA z17), (intA z18), (intA z19)], 50⟩) :: (100004, some ⟨[(intA (0)), (intA (0)), (intA (0)), (intA (0)), (intA (0)), (intA (0))], 50⟩) :: m) [some (intA (4))]) else (
bif (decide (z18 > (1000000))) then (
retL R ((100004, some ⟨[(intA z14), (intA z15), (intA z16), (intA z17), (intA z18), (intA z19)], 50⟩) :: (100004, some ⟨[(intA (0)), (intA (0)), (intA (0)), (intA (0)), (intA (0)), (intA (0))], 50⟩) :: m) [some (intA (4))]) else (
bif (decide (z19 < (0))) then (
retL R ((100004, some ⟨[(intA z14), (intA z15), (intA z16), (intA z17), (intA z18), (intA z19)], 50⟩) :: (100004, some ⟨[(intA (0)), (intA (0)), (intA (0)), (intA (0)), (intA (0)), (intA (0))], 50⟩) :: m) [some (intA (4))]) else (
bif (decide (z19 > (60000))) then (
retL R ((100004, some ⟨[(intA z14), (intA z15), (intA z16), (intA z17), (intA z18), (intA z19)], 50⟩) :: (100004, some ⟨[(intA (0)), (intA (0)), (intA (0)), (intA (0)), (intA (0)), (intA (0))], 50⟩) :: m) [some (intA (4))]) else (
N0 ⟨[(0, t0), (2, (intA t2)), (14, t14), (15, (intA t15)), (16, (intA (IntKind.wrap .i64 (t16 + (1))))), (17, (boolA (decide (t16 < t15)))), (18, (intA t16)), (19, v6), (20, (AV.agg [(intA z14), (intA z15), (intA z16), (intA z17), (intA z18), (intA z19)])), (4, (AV.ptr 100004 0)), (3, (intA t16)), (21, (AV.ptr 100004 0)), (22, (AV.ptr 100004 0)), (23, (intA z14)), (24, (boolA (decide (z14 < (0))))), (25, (boolA false)), (26, (AV.ptr 100004 0)), (27, (AV.ptr 100004 0)), (28, (intA z14)), (29, (boolA (decide (z14 > (200000))))), (30, (boolA (decide (z14 > (200000))))), (31, (boolA false)), (32, (intA t16)), (33, (boolA (decide (t16 > (0))))), (34, (boolA true)), (35, (AV.ptr 100004 0)), (36, (AV.ptr 100004 0)), (37, (intA z14)), (38, t0), (39, (intA t16)), (40, (intA (IntKind.wrap .i64 (t16 - (1))))), (41, v20), (42, v21), (43, v22), (44, (intA z24)), (45, (boolA (decide (z14 ≤ z24)))), (46, (boolA (decide (z14 ≤ z24)))), (47, (boolA (decide (z14 ≤ z24)))), (48, (AV.ptr 100004 0)), (49, (AV.ptr 100004 1)), (50, (AV.agg [(intA z15), (intA z16)])), (51, (intA z26)), (5, (intA z26)), (52, (intA z26)), (53, (boolA (z26 != (0)))), (55, (AV.ptr 100004 0)), (56, (AV.ptr 100004 3)), (57, (intA z17)), (58, (boolA (decide (z17 < (0))))), (59, (boolA false)), (60, (AV.ptr 100004 0)), (61, (AV.ptr 100004 3)), (62, (intA z17)), (63, (boolA (decide (z17 > (60000))))), (64, (boolA (decide (z17 > (60000))))), (65, (boolA false)), (66, (AV.ptr 100004 4)), (67, (intA z18)), (68, (boolA (decide (z18 < (0))))), (69, (boolA (decide (z18 < (0))))), (70, (boolA false)), (71, (AV.ptr 100004 4)), (72, (intA z18)), (73, (boolA (decide (z18 > (1000000))))), (74, (boolA (decide (z18 > (1000000))))), (75, (boolA false)), (76, (AV.ptr 100004 5)), (77, (intA z19)), (78, (boolA (decide (z19 < (0))))), (79, (boolA (decide (z19 < (0))))), (80, (boolA false)), (81, (AV.ptr 100004 5)), (82, (intA z19)), (83, (boolA (decide (z19 > (60000))))), (84, (boolA (decide (z19 > (60000))))), (85, (intA (IntKind.wrap .i64 (t16 + (1)))))], ((100004, some ⟨[(intA z14), (intA z15), (intA z16), (intA z17), (intA z18), (intA z19)], 50⟩) :: (100004, some ⟨[(intA (0)), (intA (0)), (intA (0)), (intA (0)), (intA (0)), (intA (0))], 50⟩) :: m), 100136⟩))))))))) else (
callQ pg KK.gl ((100004, some ⟨[(intA z14), (intA z15), (intA z16), (intA z17), (intA z18), (intA z19)], 50⟩) :: (100004, some ⟨[(intA (0)), (intA (0)), (intA (0)), (intA (0)), (intA (0)), (intA (0))], 50⟩) :: m) 38 [(AV.agg [(intA z15), (intA z16)])] fun v27 =>
ex_i64 v27 fun z28 =>
bif (z28 != (0)) then (
retL R ((100004, some ⟨[(intA z14), (intA z15), (intA z16), (intA z17), (intA z18), (intA z19)], 50⟩) :: (100004, some ⟨[(intA (0)), (intA (0)), (intA (0)), (intA (0)), (intA (0)), (intA (0))], 50⟩) :: m) [some (intA z28)]) else (
bif (decide (z17 < (0))) then (
retL R ((100004, some ⟨[(intA z14), (intA z15), (intA z16), (intA z17), (intA z18), (intA z19)], 50⟩) :: (100004, some ⟨[(intA (0)), (intA (0)), (intA (0)), (intA (0)), (intA (0)), (intA (0))], 50⟩) :: m) [some (intA (4))]) else (
bif (decide (z17 > (60000))) then (
retL R ((100004, some ⟨[(intA z14), (intA z15), (intA z16), (intA z17), (intA z18), (intA z19)], 50⟩) :: (100004, some ⟨[(intA (0)), (intA (0)), (intA (0)), (intA (0)), (intA (0)), (intA (0))], 50⟩) :: m) [some (intA (4))]) else (
bif (decide (z18 < (0))) then (
retL R ((100004, some ⟨[(intA z14), (intA z15), (intA z16), (intA z17), (intA z18), (intA z19)], 50⟩) :: (100004, some ⟨[(intA (0)), (intA (0)), (intA (0)), (intA (0)), (intA (0)), (intA (0))], 50⟩) :: m) [some (intA (4))]) else (
bif (decide (z18 > (1000000))) then (
retL R ((100004, some ⟨[(intA z14), (intA z15), (intA z16), (intA z17), (intA z18), (intA z19)], 50⟩) :: (100004, some ⟨[(intA (0)), (intA (0)), (intA (0)), (intA (0)), (intA (0)), (intA (0))], 50⟩) :: m) [some (intA (4))]) else (
bif (decide (z19 < (0))) then (
retL R ((100004, some ⟨[(intA z14), (intA z15), (intA z16), (intA z17), (intA z18), (intA z19)], 50⟩) :: (100004, some ⟨[(intA (0)), (intA (0)), (intA (0)), (intA (0)), (intA (0)), (intA (0))], 50⟩) :: m) [some (intA (4))]) else (
bif (decide (z19 > (60000))) then (
retL R ((100004, some ⟨[(intA z14), (intA z15), (intA z16), (intA z17), (intA z18), (intA z19)], 50⟩) :: (100004, some ⟨[(intA (0)), (intA (0)), (intA (0)), (intA (0)), (intA (0)), (intA (0))], 50⟩) :: m) [some (intA (4))]) else (
N0 ⟨[(0, t0), (2, (intA t2)), (14, t14), (15, (intA t15)), (16, (intA (IntKind.wrap .i64 (t16 + (1))))), (17, (boolA (decide (t16 < t15)))), (18, (intA t16)), (19, v6), (20, (AV.agg [(intA z14), (intA z15), (intA z16), (intA z17), (intA z18), (intA z19)])), (4, (AV.ptr 100004 0)), (3, (intA t16)), (21, (AV.ptr 100004 0)), (22, (AV.ptr 100004 0)), (23, (intA z14)), (24, (boolA (decide (z14 < (0))))), (25, (boolA false)), (26, (AV.ptr 100004 0)), (27, (AV.ptr 100004 0)), (28, (intA z14)), (29, (boolA (decide (z14 > (200000))))), (30, (boolA (decide (z14 > (200000))))), (31, (boolA false)), (32, (intA t16)), (33, (boolA (decide (t16 > (0))))), (34, (boolA false)), (35, (AV.tup [])), (36, (AV.tup [])), (37, (AV.tup [])), (38, (AV.tup [])), (39, (AV.tup [])), (40, (AV.tup [])), (41, (AV.tup [])), (42, (AV.tup [])), (43, (AV.tup [])), (44, (AV.tup [])), (45, (AV.tup [])), (46, (boolA false)), (47, (boolA false)), (48, (AV.ptr 100004 0)), (49, (AV.ptr 100004 1)), (50, (AV.agg [(intA z15), (intA z16)])), (51, (intA z28)), (5, (intA z28)), (52, (intA z28)), (53, (boolA (z28 != (0)))), (55, (AV.ptr 100004 0)), (56, (AV.ptr 100004 3)), (57, (intA z17)), (58, (boolA (decide (z17 < (0))))), (59, (boolA false)), (60, (AV.ptr 100004 0)), (61, (AV.ptr 100004 3)), (62, (intA z17)), (63, (boolA (decide (z17 > (60000))))), (64, (boolA (decide (z17 > (60000))))), (65, (boolA false)), (66, (AV.ptr 100004 4)), (67, (intA z18)), (68, (boolA (decide (z18 < (0))))), (69, (boolA (decide (z18 < (0))))), (70, (boolA false)), (71, (AV.ptr 100004 4)), (72, (intA z18)), (73, (boolA (decide (z18 > (1000000))))), (74, (boolA (decide (z18 > (1000000))))), (75, (boolA false)), (76, (AV.ptr 100004 5)), (77, (intA z19)), (78, (boolA (decide (z19 < (0))))), (79, (boolA (decide (z19 < (0))))), (80, (boolA false)), (81, (AV.ptr 100004 5)), (82, (intA z19)), (83, (boolA (decide (z19 > (60000))))), (84, (boolA (decide (z19 > (60000))))), (85, (intA (IntKind.wrap .i64 (t16 + (1)))))], ((100004, some ⟨[(intA z14), (intA z15), (intA z16), (intA z17), (intA z18), (intA z19)], 50⟩) :: (100004, some ⟨[(intA (0)), (intA (0)), (intA (0)), (intA (0)), (intA (0)), (intA (0))], 50⟩) :: m), 100136⟩))))))))))) else (
retL R m [some (intA (0))])
theorem B24_0_eq (t0 : AV) (t2 : Int) (t14 : AV) (t15 : Int) (t16 : Int) (m : Mem) (R : AV → Mem → Prop) (N0 : St → Prop) : W pg KK 86 0 c24_0 (h24_0 t0 t2 t14 t15 t16 m) (qq24_0 R N0) = B24_0 t0 t2 t14 t15 t16 m R N0 := by kernel_rfl
theorem L24_0 (R : AV → Mem → Prop) {σ : Type} (I : σ → Prop) (t0 : σ → AV) (t2 : σ → Int) (t14 : σ → AV) (t15 : σ → Int) (t16 : σ → Int) (m : σ → Mem) (μ : σ → Nat) (step : ∀ x, I x → B24_0 (t0 x) (t2 x) (t14 x) (t15 x) (t16 x) (m x) R (fun s' => ∃ y, I y ∧ μ y < μ x ∧ Weak KK 86 0 s' (h24_0 (t0 y) (t2 y) (t14 y) (t15 y) (t16 y) (m y)))) (x : σ) (hx : I x) {s : St} (hw : Weak KK 86 0 s (h24_0 (t0 x) (t2 x) (t14 x) (t15 x) (t16 x) (m x))) : Tri pg KK 86 0 (.loop c24_0) s (q24_0 R) :=
  Tri.weak hw (Tri.loops fol I (fun x => h24_0 (t0 x) (t2 x) (t14 x) (t15 x) (t16 x) (m x)) μ (fun x hx => (B24_0_eq (t0 x) (t2 x) (t14 x) (t15 x) (t16 x) (m x) R _).mpr (step x hx)) x hx)
noncomputable def F24 (a0 : AV) (R : AV → Mem → Prop) : Prop :=
opP (lenS a0) fun v0 =>
ex_i64 v0 fun z1 =>
bif (decide (z1 > (64))) then (
retL R [] [some (intA (2))]) else (
opP (lenS a0) fun v2 =>
ex_i64 v2 fun z3 =>
bif (z3 == (0)) then (
retL R [] [some (intA (3))]) else (
opP (lenS a0) fun v4 =>
ex_i64 v4 fun z5 =>
Tri pg KK 86 0 (.loop c24_0) ⟨[(0, a0), (2, (intA (0))), (7, a0), (8, (intA z1)), (9, (boolA (decide (z1 > (64))))), (6, (boolA (decide (z1 > (64))))), (11, a0), (12, (intA z3)), (13, (boolA (z3 == (0)))), (10, (boolA (z3 == (0)))), (14, a0), (15, (intA z5)), (16, (intA (0)))], [], 12⟩ (q24_0 R)))
theorem F24_own (a0 : AV) (R : AV → Mem → Prop) (h : F24 a0 R) : Own pg KK.gl 24 [a0] R := own_of_F fol Tryz.func24 (code := c24) (by kernel_rfl) (by kernel_rfl) (by kernel_rfl) (X := F24 a0 R) (by kernel_rfl) h
/- skyway/probe.check -/
noncomputable def c44 : Code := ((Tryz.f44).body).getD .skip
noncomputable def q44 (R : AV → Mem → Prop) : AExit → St → Prop := retQ pg Tryz.f44 R
noncomputable def c44_0 : Code := loopB c44 0
noncomputable def q44_0 (R : AV → Mem → Prop) : AExit → St → Prop := contW pg KK 26 0 c44 0 (q44 R)
noncomputable def qq44_0 (R : AV → Mem → Prop) (N0 : St → Prop) : AExit → St → Prop := thenQ N0 (q44_0 R)
def h44_0 (t4 : Int) (t14 : AV) (t15 : Int) (t16 : Int) (m : Mem) : St := ⟨[(4, (intA t4)), (14, t14), (15, (intA t15)), (16, (intA t16))], m, 100000⟩
noncomputable def B44_0 (t4 : Int) (t14 : AV) (t15 : Int) (t16 : Int) (m : Mem) (R : AV → Mem → Prop) (N0 : St → Prop) : Prop :=
bif (decide (t16 < t15)) then (
opP (idxS 1 t14 (intA t16)) fun v4 =>
opP (ldS (mget m) v4) fun v5 =>
callQ pg KK.gl m 24 [v5] fun v6 =>
ex_i64 v6 fun z7 =>
bif (z7 != (0)) then (
retL R m [some (intA z7)]) else (
N0 ⟨[(4, (intA t4)), (14, t14), (15, (intA t15)), (16, (intA (IntKind.wrap .i64 (t16 + (1))))), (17, (boolA (decide (t16 < t15)))), (18, v4), (19, v5), (7, v5), (20, v5), (21, (intA z7)), (8, (intA z7)), (22, (intA z7)), (23, (boolA (z7 != (0)))), (25, (intA (IntKind.wrap .i64 (t16 + (1)))))], m, 100074⟩)) else (
retL R m [some (intA (0))])
theorem B44_0_eq (t4 : Int) (t14 : AV) (t15 : Int) (t16 : Int) (m : Mem) (R : AV → Mem → Prop) (N0 : St → Prop) : W pg KK 26 0 c44_0 (h44_0 t4 t14 t15 t16 m) (qq44_0 R N0) = B44_0 t4 t14 t15 t16 m R N0 := by kernel_rfl
theorem L44_0 (R : AV → Mem → Prop) {σ : Type} (I : σ → Prop) (t4 : σ → Int) (t14 : σ → AV) (t15 : σ → Int) (t16 : σ → Int) (m : σ → Mem) (μ : σ → Nat) (step : ∀ x, I x → B44_0 (t4 x) (t14 x) (t15 x) (t16 x) (m x) R (fun s' => ∃ y, I y ∧ μ y < μ x ∧ Weak KK 26 0 s' (h44_0 (t4 y) (t14 y) (t15 y) (t16 y) (m y)))) (x : σ) (hx : I x) {s : St} (hw : Weak KK 26 0 s (h44_0 (t4 x) (t14 x) (t15 x) (t16 x) (m x))) : Tri pg KK 26 0 (.loop c44_0) s (q44_0 R) :=
  Tri.weak hw (Tri.loops fol I (fun x => h44_0 (t4 x) (t14 x) (t15 x) (t16 x) (m x)) μ (fun x hx => (B44_0_eq (t4 x) (t14 x) (t15 x) (t16 x) (m x) R _).mpr (step x hx)) x hx)
noncomputable def F44 (a0_0 : Int) (a0_1 : Int) (a1 : AV) (R : AV → Mem → Prop) : Prop :=
callQ pg KK.gl ((0, some ⟨[(intA a0_0), (intA a0_1)], 38⟩) :: []) 43 [(AV.agg [(intA a0_0), (intA a0_1)])] fun v0 =>
ex_i64 v0 fun z1 =>
bif (z1 != (0)) then (
retL R ((0, some ⟨[(intA a0_0), (intA a0_1)], 38⟩) :: []) [some (intA z1)]) else (
opP (lenS a1) fun v2 =>
ex_i64 v2 fun z3 =>
Tri pg KK 26 0 (.loop c44_0) ⟨[(0, (AV.agg [(intA a0_0), (intA a0_1)])), (1, a1), (2, (AV.ptr 0 0)), (4, (intA (0))), (9, (AV.agg [(intA a0_0), (intA a0_1)])), (10, (intA z1)), (5, (intA z1)), (11, (intA z1)), (12, (boolA (z1 != (0)))), (14, a1), (15, (intA z3)), (16, (intA (0)))], ((0, some ⟨[(intA a0_0), (intA a0_1)], 38⟩) :: []), 73⟩ (q44_0 R))
theorem F44_own (a0_0 : Int) (a0_1 : Int) (a1 : AV) (R : AV → Mem → Prop) (h : F44 a0_0 a0_1 a1 R) : Own pg KK.gl 44 [(AV.agg [(intA a0_0), (intA a0_1)]), a1] R := own_of_F fol Tryz.func44 (code := c44) (by kernel_rfl) (by kernel_rfl) (by kernel_rfl) (X := F44 a0_0 a0_1 a1 R) (by kernel_rfl) h
/- skyway/probe.common -/
noncomputable def c64 : Code := ((Tryz.f64).body).getD .skip
noncomputable def q64 (R : AV → Mem → Prop) : AExit → St → Prop := retQ pg Tryz.f64 R
noncomputable def F64 (a0 : AV) (a1 : AV) (R : AV → Mem → Prop) : Prop :=
opP (idxS 6 a0 (intA (0))) fun v0 =>
opP (fldO 0 v0) fun v1 =>
opP (fldO 0 v1) fun v2 =>
opP (ldS (mget []) v2) fun v3 =>
ex_i64 v3 fun z4 =>
opP (idxS 6 a1 (intA (0))) fun v5 =>
opP (fldO 0 v5) fun v6 =>
opP (fldO 0 v6) fun v7 =>
opP (ldS (mget []) v7) fun v8 =>
ex_i64 v8 fun z9 =>
opP (opA pg (.call ⟨.builtin .max, #[.tmp 0, .tmp 1], #[3, 3]⟩) 3 [(intA z4), (intA z9)] (mget []) 12) fun v10 =>
ex_i64 v10 fun z11 =>
opP (lenS a0) fun v12 =>
ex_i64 v12 fun z13 =>
opP (idxS 6 a0 (intA (IntKind.wrap .i64 (z13 - (1))))) fun v14 =>
opP (fldO 0 v14) fun v15 =>
opP (fldO 0 v15) fun v16 =>
opP (ldS (mget []) v16) fun v17 =>
ex_i64 v17 fun z18 =>
opP (lenS a1) fun v19 =>
ex_i64 v19 fun z20 =>
opP (idxS 6 a1 (intA (IntKind.wrap .i64 (z20 - (1))))) fun v21 =>
opP (fldO 0 v21) fun v22 =>
opP (fldO 0 v22) fun v23 =>
opP (ldS (mget []) v23) fun v24 =>
ex_i64 v24 fun z25 =>
opP (opA pg (.call ⟨.builtin .min, #[.tmp 0, .tmp 1], #[3, 3]⟩) 3 [(intA z18), (intA z25)] (mget []) 29) fun v26 =>
ex_i64 v26 fun z27 =>
retL R [] [some (intA z11), some (intA z27)]
theorem F64_own (a0 : AV) (a1 : AV) (R : AV → Mem → Prop) (h : F64 a0 a1 R) : Own pg KK.gl 64 [a0, a1] R := own_of_F fol Tryz.func64 (code := c64) (by kernel_rfl) (by kernel_rfl) (by kernel_rfl) (X := F64 a0 a1 R) (by kernel_rfl) h
/- skyway/tube.ends -/
noncomputable def c52 : Code := ((Tryz.f52).body).getD .skip
noncomputable def q52 (R : AV → Mem → Prop) : AExit → St → Prop := retQ pg Tryz.f52 R
noncomputable def F52 (a0 : AV) (R : AV → Mem → Prop) : Prop :=
opP (idxS 6 a0 (intA (0))) fun v0 =>
opP (fldO 0 v0) fun v1 =>
opP (fldO 0 v1) fun v2 =>
opP (ldS (mget []) v2) fun v3 =>
ex_i64 v3 fun z4 =>
opP (lenS a0) fun v5 =>
ex_i64 v5 fun z6 =>
opP (idxS 6 a0 (intA (IntKind.wrap .i64 (z6 - (1))))) fun v7 =>
opP (fldO 0 v7) fun v8 =>
opP (fldO 0 v8) fun v9 =>
opP (ldS (mget []) v9) fun v10 =>
ex_i64 v10 fun z11 =>
retL R [] [some (intA z4), some (intA z11)]
theorem F52_own (a0 : AV) (R : AV → Mem → Prop) (h : F52 a0 R) : Own pg KK.gl 52 [a0] R := own_of_F fol Tryz.func52 (code := c52) (by kernel_rfl) (by kernel_rfl) (by kernel_rfl) (X := F52 a0 R) (by kernel_rfl) h
/- skyway/tube.at$1 -/
noncomputable def c69 : Code := ((Tryz.f69).body).getD .skip
noncomputable def q69 (R : AV → Mem → Prop) : AExit → St → Prop := retQ pg Tryz.f69 R
noncomputable def F69 (a0_0 : Int) (a0_1 : Int) (a0_2 : Int) (a0_3 : Int) (a0_4 : Int) (a0_5 : Int) (a1 : Int) (R : AV → Mem → Prop) : Prop :=
retL R ((0, some ⟨[(intA a0_0), (intA a0_1), (intA a0_2), (intA a0_3), (intA a0_4), (intA a0_5)], 50⟩) :: []) [some (intA (IntKind.wrap .i64 (a0_0 - a1)))]
theorem F69_own (a0_0 : Int) (a0_1 : Int) (a0_2 : Int) (a0_3 : Int) (a0_4 : Int) (a0_5 : Int) (a1 : Int) (R : AV → Mem → Prop) (h : F69 a0_0 a0_1 a0_2 a0_3 a0_4 a0_5 a1 R) : Own pg KK.gl 69 [(AV.agg [(intA a0_0), (intA a0_1), (intA a0_2), (intA a0_3), (intA a0_4), (intA a0_5)]), (intA a1)] R := own_of_F fol Tryz.func69 (code := c69) (by kernel_rfl) (by kernel_rfl) (by kernel_rfl) (X := F69 a0_0 a0_1 a0_2 a0_3 a0_4 a0_5 a1 R) (by kernel_rfl) h
/- slices.BinarySearchFunc[skyway/api.Tube,skyway/api.TubeNode,int] -/
noncomputable def c68 : Code := ((Tryz.f68).body).getD .skip
noncomputable def q68 (R : AV → Mem → Prop) : AExit → St → Prop := retQ pg Tryz.f68 R
noncomputable def c68_0 : Code := loopB c68 0
noncomputable def q68_0 (R : AV → Mem → Prop) : AExit → St → Prop := contW pg KK 49 0 c68 0 (q68 R)
noncomputable def qq68_0 (R : AV → Mem → Prop) (N0 : St → Prop) : AExit → St → Prop := thenQ N0 (q68_0 R)
def h68_0 (t0 : AV) (t1 : Int) (t2 : AV) (t6 : Int) (t7 : Bool) (t8 : Int) (t9 : Int) (t10 : Int) (m : Mem) : St := ⟨[(0, t0), (1, (intA t1)), (2, t2), (6, (intA t6)), (7, (boolA t7)), (8, (intA t8)), (9, (intA t9)), (10, (intA t10))], m, 100000⟩
noncomputable def B68_0 (t0 : AV) (t1 : Int) (t2 : AV) (t6 : Int) (t7 : Bool) (t8 : Int) (t9 : Int) (t10 : Int) (m : Mem) (R : AV → Mem → Prop) (N0 : St → Prop) : Prop :=
bif (decide (t9 < t10)) then (
opP (opA pg (.convert 3 118 (.tmp 0)) 118 [(intA (IntKind.wrap .i64 (t9 + t10)))] (mget m) 100006) fun v2 =>
ex_u64 v2 fun z3 =>
opP (opA pg (.binOp .shr 118 (.tmp 0) (.tmp 1) 118) 118 [(AV.sc (.int .u64 z3)), (AV.sc (.int .u64 (1)))] (mget m) 100007) fun v4 =>
ex_u64 v4 fun z5 =>
opP (opA pg (.convert 118 3 (.tmp 0)) 3 [(AV.sc (.int .u64 z5))] (mget m) 100008) fun v6 =>
ex_i64 v6 fun z7 =>
opP (idxS 6 t0 (intA z7)) fun v8 =>
opP (ldA (mget m) 6 v8) fun v9 =>
exA6 v9 fun c10 c11 c12 c13 c14 c15 =>
ex_i64 c10 fun z16 =>
ex_i64 c11 fun z17 =>
ex_i64 c12 fun z18 =>
ex_i64 c13 fun z19 =>
ex_i64 c14 fun z20 =>
ex_i64 c15 fun z21 =>
fnArgs (some t2) (some [(AV.agg [(intA z16), (intA z17), (intA z18), (intA z19), (intA z20), (intA z21)]), (intA t1)]) fun f22 a22 => bif KK.pm f22 then callQ pg KK.gl m f22 a22 (fun v22 =>
ex_i64 v22 fun z23 =>
bif (decide (z23 < (0))) then (
N0 ⟨[(0, t0), (1, (intA t1)), (2, t2), (6, (intA t6)), (7, (boolA t7)), (8, (intA t8)), (9, (intA (IntKind.wrap .i64 (z7 + (1))))), (10, (intA t10)), (15, (intA t9)), (16, (intA t10)), (17, (boolA (decide (t9 < t10)))), (18, (intA t9)), (19, (intA t10)), (20, (intA (IntKind.wrap .i64 (t9 + t10)))), (21, (AV.sc (.int .u64 z3))), (22, (AV.sc (.int .u64 z5))), (23, (intA z7)), (11, (intA z7)), (24, t2), (25, t0), (26, (intA z7)), (27, v8), (28, (AV.agg [(intA z16), (intA z17), (intA z18), (intA z19), (intA z20), (intA z21)])), (29, (intA t1)), (30, (intA z23)), (31, (boolA (decide (z23 < (0))))), (32, (intA z7)), (33, (intA (IntKind.wrap .i64 (z7 + (1)))))], m, 100084⟩) else (
N0 ⟨[(0, t0), (1, (intA t1)), (2, t2), (6, (intA t6)), (7, (boolA t7)), (8, (intA t8)), (9, (intA t9)), (10, (intA z7)), (15, (intA t9)), (16, (intA t10)), (17, (boolA (decide (t9 < t10)))), (18, (intA t9)), (19, (intA t10)), (20, (intA (IntKind.wrap .i64 (t9 + t10)))), (21, (AV.sc (.int .u64 z3))), (22, (AV.sc (.int .u64 z5))), (23, (intA z7)), (11, (intA z7)), (24, t2), (25, t0), (26, (intA z7)), (27, v8), (28, (AV.agg [(intA z16), (intA z17), (intA z18), (intA z19), (intA z20), (intA z21)])), (29, (intA t1)), (30, (intA z23)), (31, (boolA (decide (z23 < (0))))), (34, (intA z7))], m, 100083⟩)) else callW pg KK.gl m 100016 f22 a22 fun v22 m22 =>
ex_i64 v22 fun z23 =>
bif (decide (z23 < (0))) then (
N0 ⟨[(0, t0), (1, (intA t1)), (2, t2), (6, (intA t6)), (7, (boolA t7)), (8, (intA t8)), (9, (intA (IntKind.wrap .i64 (z7 + (1))))), (10, (intA t10)), (15, (intA t9)), (16, (intA t10)), (17, (boolA (decide (t9 < t10)))), (18, (intA t9)), (19, (intA t10)), (20, (intA (IntKind.wrap .i64 (t9 + t10)))), (21, (AV.sc (.int .u64 z3))), (22, (AV.sc (.int .u64 z5))), (23, (intA z7)), (11, (intA z7)), (24, t2), (25, t0), (26, (intA z7)), (27, v8), (28, (AV.agg [(intA z16), (intA z17), (intA z18), (intA z19), (intA z20), (intA z21)])), (29, (intA t1)), (30, (intA z23)), (31, (boolA (decide (z23 < (0))))), (32, (intA z7)), (33, (intA (IntKind.wrap .i64 (z7 + (1)))))], m22, 100084⟩) else (
N0 ⟨[(0, t0), (1, (intA t1)), (2, t2), (6, (intA t6)), (7, (boolA t7)), (8, (intA t8)), (9, (intA t9)), (10, (intA z7)), (15, (intA t9)), (16, (intA t10)), (17, (boolA (decide (t9 < t10)))), (18, (intA t9)), (19, (intA t10)), (20, (intA (IntKind.wrap .i64 (t9 + t10)))), (21, (AV.sc (.int .u64 z3))), (22, (AV.sc (.int .u64 z5))), (23, (intA z7)), (11, (intA z7)), (24, t2), (25, t0), (26, (intA z7)), (27, v8), (28, (AV.agg [(intA z16), (intA z17), (intA z18), (intA z19), (intA z20), (intA z21)])), (29, (intA t1)), (30, (intA z23)), (31, (boolA (decide (z23 < (0))))), (34, (intA z7))], m22, 100083⟩)) else (
bif (decide (t9 < t8)) then (
opP (idxS 6 t0 (intA t9)) fun v24 =>
opP (ldA (mget m) 6 v24) fun v25 =>
exA6 v25 fun c26 c27 c28 c29 c30 c31 =>
ex_i64 c26 fun z32 =>
ex_i64 c27 fun z33 =>
ex_i64 c28 fun z34 =>
ex_i64 c29 fun z35 =>
ex_i64 c30 fun z36 =>
ex_i64 c31 fun z37 =>
fnArgs (some t2) (some [(AV.agg [(intA z32), (intA z33), (intA z34), (intA z35), (intA z36), (intA z37)]), (intA t1)]) fun f38 a38 => bif KK.pm f38 then callQ pg KK.gl m f38 a38 (fun v38 =>
ex_i64 v38 fun z39 =>
retL R m [some (intA t9), some (boolA (z39 == (0)))]) else callW pg KK.gl m 100014 f38 a38 fun v38 m38 =>
ex_i64 v38 fun z39 =>
retL R m38 [some (intA t9), some (boolA (z39 == (0)))]) else (
retL R m [some (intA t9), some (boolA false)]))
theorem B68_0_eq (t0 : AV) (t1 : Int) (t2 : AV) (t6 : Int) (t7 : Bool) (t8 : Int) (t9 : Int) (t10 : Int) (m : Mem) (R : AV → Mem → Prop) (N0 : St → Prop) : W pg KK 49 0 c68_0 (h68_0 t0 t1 t2 t6 t7 t8 t9 t10 m) (qq68_0 R N0) = B68_0 t0 t1 t2 t6 t7 t8 t9 t10 m R N0 := by kernel_rfl
theorem L68_0 (R : AV → Mem → Prop) {σ : Type} (I : σ → Prop) (t0 : σ → AV) (t1 : σ → Int) (t2 : σ → AV) (t6 : σ → Int) (t7 : σ → Bool) (t8 : σ → Int) (t9 : σ → Int) (t10 : σ → Int) (m : σ → Mem) (μ : σ → Nat) (step : ∀ x, I x → B68_0 (t0 x) (t1 x) (t2 x) (t6 x) (t7 x) (t8 x) (t9 x) (t10 x) (m x) R (fun s' => ∃ y, I y ∧ μ y < μ x ∧ Weak KK 49 0 s' (h68_0 (t0 y) (t1 y) (t2 y) (t6 y) (t7 y) (t8 y) (t9 y) (t10 y) (m y)))) (x : σ) (hx : I x) {s : St} (hw : Weak KK 49 0 s (h68_0 (t0 x) (t1 x) (t2 x) (t6 x) (t7 x) (t8 x) (t9 x) (t10 x) (m x))) : Tri pg KK 49 0 (.loop c68_0) s (q68_0 R) :=
  Tri.weak hw (Tri.loops fol I (fun x => h68_0 (t0 x) (t1 x) (t2 x) (t6 x) (t7 x) (t8 x) (t9 x) (t10 x) (m x)) μ (fun x hx => (B68_0_eq (t0 x) (t1 x) (t2 x) (t6 x) (t7 x) (t8 x) (t9 x) (t10 x) (m x) R _).mpr (step x hx)) x hx)
noncomputable def F68 (a0 : AV) (a1 : Int) (a2 : AV) (R : AV → Mem → Prop) : Prop :=
opP (lenS a0) fun v0 =>
ex_i64 v0 fun z1 =>
Tri pg KK 49 0 (.loop c68_0) ⟨[(0, a0), (1, (intA a1)), (2, a2), (6, (intA (0))), (7, (boolA false)), (12, a0), (13, (intA z1)), (8, (intA z1)), (14, (intA z1)), (9, (intA (0))), (10, (intA z1))], [], 8⟩ (q68_0 R)
theorem F68_own (a0 : AV) (a1 : Int) (a2 : AV) (R : AV → Mem → Prop) (h : F68 a0 a1 a2 R) : Own pg KK.gl 68 [a0, (intA a1), a2] R := own_of_F fol Tryz.func68 (code := c68) (by kernel_rfl) (by kernel_rfl) (by kernel_rfl) (X := F68 a0 a1 a2 R) (by kernel_rfl) h
/- skyway/num.DivDown -/
noncomputable def c71 : Code := ((Tryz.f71).body).getD .skip
noncomputable def q71 (R : AV → Mem → Prop) : AExit → St → Prop := retQ pg Tryz.f71 R
noncomputable def F71 (a0 : Int) (a1 : Int) (R : AV → Mem → Prop) : Prop :=
bif (a1 == (0)) then (
retL R [] [some (intA (0)), some (intA (10))]) else (
bif (a0 == (-9223372036854775808)) then (
bif (a1 == (-1)) then (
retL R [] [some (intA (0)), some (intA (2))]) else (
opP (opA pg (.binOp .quo 3 (.tmp 0) (.tmp 1) 3) 3 [(intA a0), (intA a1)] (mget []) 14) fun v0 =>
ex_i64 v0 fun z1 =>
opP (opA pg (.binOp .rem 3 (.tmp 0) (.tmp 1) 3) 3 [(intA a0), (intA a1)] (mget []) 18) fun v2 =>
ex_i64 v2 fun z3 =>
bif (z3 != (0)) then (
opP (opA pg (.binOp .neq 4 (.tmp 0) (.tmp 1) 4) 4 [(boolA (decide (a0 < (0)))), (boolA (decide (a1 < (0))))] (mget []) 25) fun v4 =>
exB v4 fun b5 =>
bif b5 then (
retL R [] [some (intA (IntKind.wrap .i64 (z1 - (1)))), some (intA (0))]) else (
retL R [] [some (intA z1), some (intA (0))])) else (
retL R [] [some (intA z1), some (intA (0))]))) else (
opP (opA pg (.binOp .quo 3 (.tmp 0) (.tmp 1) 3) 3 [(intA a0), (intA a1)] (mget []) 12) fun v6 =>
ex_i64 v6 fun z7 =>
opP (opA pg (.binOp .rem 3 (.tmp 0) (.tmp 1) 3) 3 [(intA a0), (intA a1)] (mget []) 16) fun v8 =>
ex_i64 v8 fun z9 =>
bif (z9 != (0)) then (
opP (opA pg (.binOp .neq 4 (.tmp 0) (.tmp 1) 4) 4 [(boolA (decide (a0 < (0)))), (boolA (decide (a1 < (0))))] (mget []) 23) fun v10 =>
exB v10 fun b11 =>
bif b11 then (
retL R [] [some (intA (IntKind.wrap .i64 (z7 - (1)))), some (intA (0))]) else (
retL R [] [some (intA z7), some (intA (0))])) else (
retL R [] [some (intA z7), some (intA (0))])))
theorem F71_own (a0 : Int) (a1 : Int) (R : AV → Mem → Prop) (h : F71 a0 a1 R) : Own pg KK.gl 71 [(intA a0), (intA a1)] R := own_of_F fol Tryz.func71 (code := c71) (by kernel_rfl) (by kernel_rfl) (by kernel_rfl) (X := F71 a0 a1 R) (by kernel_rfl) h
/- skyway/plane.Toward -/
noncomputable def c70 : Code := ((Tryz.f70).body).getD .skip
noncomputable def q70 (R : AV → Mem → Prop) : AExit → St → Prop := retQ pg Tryz.f70 R
noncomputable def F70 (a0_0 : Int) (a0_1 : Int) (a1_0 : Int) (a1_1 : Int) (a2 : Int) (a3 : Int) (R : AV → Mem → Prop) : Prop :=
bif (decide (a3 ≤ (0))) then (
opP (bld [(intA (0)), (intA (0))] [(0, 1), (1, 1)] []) fun v0 =>
storeW pg (mget ((2, some ⟨[(intA (0)), (intA (0))], 45⟩) :: (1, some ⟨[(intA a1_0), (intA a1_1)], 45⟩) :: (0, some ⟨[(intA a0_0), (intA a0_1)], 45⟩) :: [])) 45 (AV.ptr 2 0) v0 fun v1 d1 =>
retL R (mpushs ((2, some ⟨[(intA (0)), (intA (0))], 45⟩) :: (1, some ⟨[(intA a1_0), (intA a1_1)], 45⟩) :: (0, some ⟨[(intA a0_0), (intA a0_1)], 45⟩) :: []) d1) [(aLoad pg (mget (mpushs ((2, some ⟨[(intA (0)), (intA (0))], 45⟩) :: (1, some ⟨[(intA a1_0), (intA a1_1)], 45⟩) :: (0, some ⟨[(intA a0_0), (intA a0_1)], 45⟩) :: []) d1)) 45 (AV.ptr 2 0)).map (·.1), some (intA (10))]) else (
bif (decide (a3 > (200000))) then (
opP (bld [(intA (0)), (intA (0))] [(0, 1), (1, 1)] []) fun v2 =>
storeW pg (mget ((2, some ⟨[(intA (0)), (intA (0))], 45⟩) :: (1, some ⟨[(intA a1_0), (intA a1_1)], 45⟩) :: (0, some ⟨[(intA a0_0), (intA a0_1)], 45⟩) :: [])) 45 (AV.ptr 2 0) v2 fun v3 d3 =>
retL R (mpushs ((2, some ⟨[(intA (0)), (intA (0))], 45⟩) :: (1, some ⟨[(intA a1_0), (intA a1_1)], 45⟩) :: (0, some ⟨[(intA a0_0), (intA a0_1)], 45⟩) :: []) d3) [(aLoad pg (mget (mpushs ((2, some ⟨[(intA (0)), (intA (0))], 45⟩) :: (1, some ⟨[(intA a1_0), (intA a1_1)], 45⟩) :: (0, some ⟨[(intA a0_0), (intA a0_1)], 45⟩) :: []) d3)) 45 (AV.ptr 2 0)).map (·.1), some (intA (4))]) else (
bif (decide (a2 < (0))) then (
opP (bld [(intA (0)), (intA (0))] [(0, 1), (1, 1)] []) fun v4 =>
storeW pg (mget ((2, some ⟨[(intA (0)), (intA (0))], 45⟩) :: (1, some ⟨[(intA a1_0), (intA a1_1)], 45⟩) :: (0, some ⟨[(intA a0_0), (intA a0_1)], 45⟩) :: [])) 45 (AV.ptr 2 0) v4 fun v5 d5 =>
retL R (mpushs ((2, some ⟨[(intA (0)), (intA (0))], 45⟩) :: (1, some ⟨[(intA a1_0), (intA a1_1)], 45⟩) :: (0, some ⟨[(intA a0_0), (intA a0_1)], 45⟩) :: []) d5) [(aLoad pg (mget (mpushs ((2, some ⟨[(intA (0)), (intA (0))], 45⟩) :: (1, some ⟨[(intA a1_0), (intA a1_1)], 45⟩) :: (0, some ⟨[(intA a0_0), (intA a0_1)], 45⟩) :: []) d5)) 45 (AV.ptr 2 0)).map (·.1), some (intA (4))]) else (
bif (decide (a2 > a3)) then (
opP (bld [(intA (0)), (intA (0))] [(0, 1), (1, 1)] []) fun v6 =>
storeW pg (mget ((2, some ⟨[(intA (0)), (intA (0))], 45⟩) :: (1, some ⟨[(intA a1_0), (intA a1_1)], 45⟩) :: (0, some ⟨[(intA a0_0), (intA a0_1)], 45⟩) :: [])) 45 (AV.ptr 2 0) v6 fun v7 d7 =>
retL R (mpushs ((2, some ⟨[(intA (0)), (intA (0))], 45⟩) :: (1, some ⟨[(intA a1_0), (intA a1_1)], 45⟩) :: (0, some ⟨[(intA a0_0), (intA a0_1)], 45⟩) :: []) d7) [(aLoad pg (mget (mpushs ((2, some ⟨[(intA (0)), (intA (0))], 45⟩) :: (1, some ⟨[(intA a1_0), (intA a1_1)], 45⟩) :: (0, some ⟨[(intA a0_0), (intA a0_1)], 45⟩) :: []) d7)) 45 (AV.ptr 2 0)).map (·.1), some (intA (4))]) else (
callQ pg KK.gl ((2, some ⟨[(intA (0)), (intA (0))], 45⟩) :: (1, some ⟨[(intA a1_0), (intA a1_1)], 45⟩) :: (0, some ⟨[(intA a0_0), (intA a0_1)], 45⟩) :: []) 38 [(AV.agg [(intA a0_0), (intA a0_1)])] fun v8 =>
ex_i64 v8 fun z9 =>
bif (z9 != (0)) then (
opP (bld [(intA (0)), (intA (0))] [(0, 1), (1, 1)] []) fun v10 =>
callQ pg KK.gl ((2, some ⟨[(intA (0)), (intA (0))], 45⟩) :: (1, some ⟨[(intA a1_0), (intA a1_1)], 45⟩) :: (0, some ⟨[(intA a0_0), (intA a0_1)], 45⟩) :: []) 38 [(AV.agg [(intA a0_0), (intA a0_1)])] fun v11 =>
ex_i64 v11 fun z12 =>
storeW pg (mget ((2, some ⟨[(intA (0)), (intA (0))], 45⟩) :: (1, some ⟨[(intA a1_0), (intA a1_1)], 45⟩) :: (0, some ⟨[(intA a0_0), (intA a0_1)], 45⟩) :: [])) 45 (AV.ptr 2 0) v10 fun v13 d13 =>
retL R (mpushs ((2, some ⟨[(intA (0)), (intA (0))], 45⟩) :: (1, some ⟨[(intA a1_0), (intA a1_1)], 45⟩) :: (0, some ⟨[(intA a0_0), (intA a0_1)], 45⟩) :: []) d13) [(aLoad pg (mget (mpushs ((2, some ⟨[(intA (0)), (intA (0))], 45⟩) :: (1, some ⟨[(intA a1_0), (intA a1_1)], 45⟩) :: (0, some ⟨[(intA a0_0), (intA a0_1)], 45⟩) :: []) d13)) 45 (AV.ptr 2 0)).map (·.1), some (intA z12)]) else (
callQ pg KK.gl ((2, some ⟨[(intA (0)), (intA (0))], 45⟩) :: (1, some ⟨[(intA a1_0), (intA a1_1)], 45⟩) :: (0, some ⟨[(intA a0_0), (intA a0_1)], 45⟩) :: []) 38 [(AV.agg [(intA a1_0), (intA a1_1)])] fun v14 =>
ex_i64 v14 fun z15 =>
bif (z15 != (0)) then (
opP (bld [(intA (0)), (intA (0))] [(0, 1), (1, 1)] []) fun v16 =>
callQ pg KK.gl ((2, some ⟨[(intA (0)), (intA (0))], 45⟩) :: (1, some ⟨[(intA a1_0), (intA a1_1)], 45⟩) :: (0, some ⟨[(intA a0_0), (intA a0_1)], 45⟩) :: []) 38 [(AV.agg [(intA a1_0), (intA a1_1)])] fun v17 =>
ex_i64 v17 fun z18 =>
storeW pg (mget ((2, some ⟨[(intA (0)), (intA (0))], 45⟩) :: (1, some ⟨[(intA a1_0), (intA a1_1)], 45⟩) :: (0, some ⟨[(intA a0_0), (intA a0_1)], 45⟩) :: [])) 45 (AV.ptr 2 0) v16 fun v19 d19 =>
retL R (mpushs ((2, some ⟨[(intA (0)), (intA (0))], 45⟩) :: (1, some ⟨[(intA a1_0), (intA a1_1)], 45⟩) :: (0, some ⟨[(intA a0_0), (intA a0_1)], 45⟩) :: []) d19) [(aLoad pg (mget (mpushs ((2, some ⟨[(intA (0)), (intA (0))], 45⟩) :: (1, some ⟨[(intA a1_0), (intA a1_1)], 45⟩) :: (0, some ⟨[(intA a0_0), (intA a0_1)], 45⟩) :: []) d19)) 45 (AV.ptr 2 0)).map (·.1), some (intA z18)]) else (
callQ pg KK.gl ((2, some ⟨[(intA (0)), (intA (0))], 45⟩) :: (1, some ⟨[(intA a1_0), (intA a1_1)], 45⟩) :: (0, some ⟨[(intA a0_0), (intA a0_1)], 45⟩) :: []) 71 [(intA (IntKind.wrap .i64 ((IntKind.wrap .i64 (a1_0 - a0_0)) * a2))), (intA a3)] fun v20 =>
exT2 v20 fun c21 c22 =>
ex_i64 c21 fun z23 =>
ex_i64 c22 fun z24 =>
callQ pg KK.gl ((2, some ⟨[(intA (0)), (intA (0))], 45⟩) :: (1, some ⟨[(intA a1_0), (intA a1_1)], 45⟩) :: (0, some ⟨[(intA a0_0), (intA a0_1)], 45⟩) :: []) 71 [(intA (IntKind.wrap .i64 ((IntKind.wrap .i64 (a1_1 - a0_1)) * a2))), (intA a3)] fun v25 =>
exT2 v25 fun c26 c27 =>
ex_i64 c26 fun z28 =>
ex_i64 c27 fun z29 =>
opP (bld [(intA (0)), (intA (0))] [(0, 1), (1, 1)] [(0, (intA (IntKind.wrap .i64 (a0_0 + z23)))), (1, (intA (IntKind.wrap .i64 (a0_1 + z28))))]) fun v30 =>
storeW pg (mget ((2, some ⟨[(intA (0)), (intA (0))], 45⟩) :: (1, some ⟨[(intA a1_0), (intA a1_1)], 45⟩) :: (0, some ⟨[(intA a0_0), (intA a0_1)], 45⟩) :: [])) 45 (AV.ptr 2 0) v30 fun v31 d31 =>
retL R (mpushs ((2, some ⟨[(intA (0)), (intA (0))], 45⟩) :: (1, some ⟨[(intA a1_0), (intA a1_1)], 45⟩) :: (0, some ⟨[(intA a0_0), (intA a0_1)], 45⟩) :: []) d31) [(aLoad pg (mget (mpushs ((2, some ⟨[(intA (0)), (intA (0))], 45⟩) :: (1, some ⟨[(intA a1_0), (intA a1_1)], 45⟩) :: (0, some ⟨[(intA a0_0), (intA a0_1)], 45⟩) :: []) d31)) 45 (AV.ptr 2 0)).map (·.1), some (intA (0))]))))))
theorem F70_own (a0_0 : Int) (a0_1 : Int) (a1_0 : Int) (a1_1 : Int) (a2 : Int) (a3 : Int) (R : AV → Mem → Prop) (h : F70 a0_0 a0_1 a1_0 a1_1 a2 a3 R) : Own pg KK.gl 70 [(AV.agg [(intA a0_0), (intA a0_1)]), (AV.agg [(intA a1_0), (intA a1_1)]), (intA a2), (intA a3)] R := own_of_F fol Tryz.func70 (code := c70) (by kernel_rfl) (by kernel_rfl) (by kernel_rfl) (X := F70 a0_0 a0_1 a1_0 a1_1 a2 a3 R) (by kernel_rfl) h
/- skyway/num.DivUp -/
noncomputable def c72 : Code := ((Tryz.f72).body).getD .skip
noncomputable def q72 (R : AV → Mem → Prop) : AExit → St → Prop := retQ pg Tryz.f72 R
noncomputable def F72 (a0 : Int) (a1 : Int) (R : AV → Mem → Prop) : Prop :=
callQ pg KK.gl [] 71 [(intA a0), (intA a1)] fun v0 =>
exT2 v0 fun c1 c2 =>
ex_i64 c1 fun z3 =>
ex_i64 c2 fun z4 =>
bif (z4 == (0)) then (
opP (opA pg (.binOp .rem 3 (.tmp 0) (.tmp 1) 3) 3 [(intA a0), (intA a1)] (mget []) 78) fun v5 =>
ex_i64 v5 fun z6 =>
bif (z6 != (0)) then (
retL R [] [some (intA (IntKind.wrap .i64 (z3 + (1)))), some (intA z4)]) else (
retL R [] [some (intA z3), some (intA z4)])) else (
retL R [] [some (intA z3), some (intA z4)])
theorem F72_own (a0 : Int) (a1 : Int) (R : AV → Mem → Prop) (h : F72 a0 a1 R) : Own pg KK.gl 72 [(intA a0), (intA a1)] R := own_of_F fol Tryz.func72 (code := c72) (by kernel_rfl) (by kernel_rfl) (by kernel_rfl) (X := F72 a0 a1 R) (by kernel_rfl) h
/- skyway/tube.at -/
noncomputable def c53 : Code := ((Tryz.f53).body).getD .skip
noncomputable def q53 (R : AV → Mem → Prop) : AExit → St → Prop := retQ pg Tryz.f53 R
noncomputable def F53 (a0 : AV) (a1 : Int) (R : AV → Mem → Prop) : Prop :=
callW pg KK.gl ((0, some ⟨[(intA (0)), (intA (0)), (intA (0)), (intA (0)), (intA (0)), (intA (0))], 50⟩) :: []) 3 68 [a0, (intA a1), (AV.fn 69 [])] fun v0 m0 =>
exT2 v0 fun c1 c2 =>
ex_i64 c1 fun z3 =>
exB c2 fun b4 =>
bif b4 then (
opP (idxS 6 a0 (intA z3)) fun v5 =>
opP (ldA (mget m0) 6 v5) fun v6 =>
exA6 v6 fun c7 c8 c9 c10 c11 c12 =>
ex_i64 c7 fun z13 =>
ex_i64 c8 fun z14 =>
ex_i64 c9 fun z15 =>
ex_i64 c10 fun z16 =>
ex_i64 c11 fun z17 =>
ex_i64 c12 fun z18 =>
storeW pg (mget m0) 50 (AV.ptr 0 0) (AV.agg [(intA z13), (intA z14), (intA z15), (intA z16), (intA z17), (intA z18)]) fun v19 d19 =>
retL R (mpushs m0 d19) [(aLoad pg (mget (mpushs m0 d19)) 50 (AV.ptr 0 0)).map (·.1)]) else (
opM (idxS 6 a0 (intA (IntKind.wrap .i64 (z3 - (1))))) fun v20 d20 =>
opM (ldA (look' (mpushs m0 d20) (topId v20 ++ ([]))) 6 v20) fun v21 d21 =>
exA6 v21 fun c22 c23 c24 c25 c26 c27 =>
ex_i64 c22 fun z28 =>
ex_i64 c23 fun z29 =>
ex_i64 c24 fun z30 =>
ex_i64 c25 fun z31 =>
ex_i64 c26 fun z32 =>
ex_i64 c27 fun z33 =>
opM (idxS 6 a0 (intA z3)) fun v34 d34 =>
opM (ldA (look' (mpushs (mpushs (mpushs m0 d20) d21) d34) (topId v34 ++ ([]))) 6 v34) fun v35 d35 =>
exA6 v35 fun c36 c37 c38 c39 c40 c41 =>
ex_i64 c36 fun z42 =>
ex_i64 c37 fun z43 =>
ex_i64 c38 fun z44 =>
ex_i64 c39 fun z45 =>
ex_i64 c40 fun z46 =>
ex_i64 c41 fun z47 =>
storeW pg (look' ((83, some ⟨[(intA (0)), (intA (0)), (intA (0)), (intA (0)), (intA (0)), (intA (0))], 50⟩) :: (82, some ⟨[(intA (0)), (intA (0)), (intA (0)), (intA (0)), (intA (0)), (intA (0))], 50⟩) :: (mpushs (mpushs (mpushs (mpushs m0 d20) d21) d34) d35)) (topId (AV.ptr 82 0) ++ (topId (AV.agg [(intA z28), (intA z29), (intA z30), (intA z31), (intA z32), (intA z33)]) ++ ([])))) 50 (AV.ptr 82 0) (AV.agg [(intA z28), (intA z29), (intA z30), (intA z31), (intA z32), (intA z33)]) fun v48 d48 =>
storeW pg (look' (mpushs ((83, some ⟨[(intA (0)), (intA (0)), (intA (0)), (intA (0)), (intA (0)), (intA (0))], 50⟩) :: (82, some ⟨[(intA (0)), (intA (0)), (intA (0)), (intA (0)), (intA (0)), (intA (0))], 50⟩) :: (mpushs (mpushs (mpushs (mpushs m0 d20) d21) d34) d35)) d48) (topId (AV.ptr 83 0) ++ (topId (AV.agg [(intA z42), (intA z43), (intA z44), (intA z45), (intA z46), (intA z47)]) ++ ([])))) 50 (AV.ptr 83 0) (AV.agg [(intA z42), (intA z43), (intA z44), (intA z45), (intA z46), (intA z47)]) fun v49 d49 =>
chk (confOk [0, 0, 2, 7, 15, 0, 0, 96, 224, 0, 0, 1567, 4095] [⟨[], []⟩, ⟨[], []⟩, ⟨[], []⟩, ⟨d20, []⟩, ⟨d21, (topId v20 ++ ([]))⟩, ⟨[], []⟩, ⟨[], []⟩, ⟨d34, []⟩, ⟨d35, (topId v34 ++ ([]))⟩, ⟨[(82, some ⟨[(intA (0)), (intA (0)), (intA (0)), (intA (0)), (intA (0)), (intA (0))], 50⟩)], []⟩, ⟨[(83, some ⟨[(intA (0)), (intA (0)), (intA (0)), (intA (0)), (intA (0)), (intA (0))], 50⟩)], []⟩, ⟨d48, (topId (AV.ptr 82 0) ++ (topId (AV.agg [(intA z28), (intA z29), (intA z30), (intA z31), (intA z32), (intA z33)]) ++ ([])))⟩, ⟨d49, (topId (AV.ptr 83 0) ++ (topId (AV.agg [(intA z42), (intA z43), (intA z44), (intA z45), (intA z46), (intA z47)]) ++ ([])))⟩]) (opP (ldS (mget (mpushs (mpushs ((83, some ⟨[(intA (0)), (intA (0)), (intA (0)), (intA (0)), (intA (0)), (intA (0))], 50⟩) :: (82, some ⟨[(intA (0)), (intA (0)), (intA (0)), (intA (0)), (intA (0)), (intA (0))], 50⟩) :: (mpushs (mpushs (mpushs (mpushs m0 d20) d21) d34) d35)) d48) d49)) (AV.ptr 82 0)) fun v50 =>
ex_i64 v50 fun z51 =>
opP (ldS (mget (mpushs (mpushs ((83, some ⟨[(intA (0)), (intA (0)), (intA (0)), (intA (0)), (intA (0)), (intA (0))], 50⟩) :: (82, some ⟨[(intA (0)), (intA (0)), (intA (0)), (intA (0)), (intA (0)), (intA (0))], 50⟩) :: (mpushs (mpushs (mpushs (mpushs m0 d20) d21) d34) d35)) d48) d49)) (AV.ptr 83 0)) fun v52 =>
ex_i64 v52 fun z53 =>
opP (ldS (mget (mpushs (mpushs ((83, some ⟨[(intA (0)), (intA (0)), (intA (0)), (intA (0)), (intA (0)), (intA (0))], 50⟩) :: (82, some ⟨[(intA (0)), (intA (0)), (intA (0)), (intA (0)), (intA (0)), (intA (0))], 50⟩) :: (mpushs (mpushs (mpushs (mpushs m0 d20) d21) d34) d35)) d48) d49)) (AV.ptr 82 0)) fun v54 =>
ex_i64 v54 fun z55 =>
opP (ldA (mget (mpushs (mpushs ((83, some ⟨[(intA (0)), (intA (0)), (intA (0)), (intA (0)), (intA (0)), (intA (0))], 50⟩) :: (82, some ⟨[(intA (0)), (intA (0)), (intA (0)), (intA (0)), (intA (0)), (intA (0))], 50⟩) :: (mpushs (mpushs (mpushs (mpushs m0 d20) d21) d34) d35)) d48) d49)) 2 (AV.ptr 82 1)) fun v56 =>
exA2 v56 fun c57 c58 =>
ex_i64 c57 fun z59 =>
ex_i64 c58 fun z60 =>
opP (ldA (mget (mpushs (mpushs ((83, some ⟨[(intA (0)), (intA (0)), (intA (0)), (intA (0)), (intA (0)), (intA (0))], 50⟩) :: (82, some ⟨[(intA (0)), (intA (0)), (intA (0)), (intA (0)), (intA (0)), (intA (0))], 50⟩) :: (mpushs (mpushs (mpushs (mpushs m0 d20) d21) d34) d35)) d48) d49)) 2 (AV.ptr 83 1)) fun v61 =>
exA2 v61 fun c62 c63 =>
ex_i64 c62 fun z64 =>
ex_i64 c63 fun z65 =>
callQ pg KK.gl (mpushs (mpushs ((83, some ⟨[(intA (0)), (intA (0)), (intA (0)), (intA (0)), (intA (0)), (intA (0))], 50⟩) :: (82, some ⟨[(intA (0)), (intA (0)), (intA (0)), (intA (0)), (intA (0)), (intA (0))], 50⟩) :: (mpushs (mpushs (mpushs (mpushs m0 d20) d21) d34) d35)) d48) d49) 70 [(AV.agg [(intA z59), (intA z60)]), (AV.agg [(intA z64), (intA z65)]), (intA (IntKind.wrap .i64 (a1 - z51))), (intA (IntKind.wrap .i64 (z53 - z55)))] fun v66 =>
exT2 v66 fun c67 c68 =>
exA2 c67 fun c69 c70 =>
ex_i64 c69 fun z71 =>
ex_i64 c70 fun z72 =>
ex_i64 c68 fun z73 =>
opP (ldS (mget ((175, some ⟨[(intA z71), (intA z72)], 45⟩) :: (175, some ⟨[(intA (0)), (intA (0))], 45⟩) :: (mpushs (mpushs ((83, some ⟨[(intA (0)), (intA (0)), (intA (0)), (intA (0)), (intA (0)), (intA (0))], 50⟩) :: (82, some ⟨[(intA (0)), (intA (0)), (intA (0)), (intA (0)), (intA (0)), (intA (0))], 50⟩) :: (mpushs (mpushs (mpushs (mpushs m0 d20) d21) d34) d35)) d48) d49))) (AV.ptr 83 3)) fun v74 =>
ex_i64 v74 fun z75 =>
opP (ldS (mget ((175, some ⟨[(intA z71), (intA z72)], 45⟩) :: (175, some ⟨[(intA (0)), (intA (0))], 45⟩) :: (mpushs (mpushs ((83, some ⟨[(intA (0)), (intA (0)), (intA (0)), (intA (0)), (intA (0)), (intA (0))], 50⟩) :: (82, some ⟨[(intA (0)), (intA (0)), (intA (0)), (intA (0)), (intA (0)), (intA (0))], 50⟩) :: (mpushs (mpushs (mpushs (mpushs m0 d20) d21) d34) d35)) d48) d49))) (AV.ptr 82 3)) fun v76 =>
ex_i64 v76 fun z77 =>
callQ pg KK.gl ((175, some ⟨[(intA z71), (intA z72)], 45⟩) :: (175, some ⟨[(intA (0)), (intA (0))], 45⟩) :: (mpushs (mpushs ((83, some ⟨[(intA (0)), (intA (0)), (intA (0)), (intA (0)), (intA (0)), (intA (0))], 50⟩) :: (82, some ⟨[(intA (0)), (intA (0)), (intA (0)), (intA (0)), (intA (0)), (intA (0))], 50⟩) :: (mpushs (mpushs (mpushs (mpushs m0 d20) d21) d34) d35)) d48) d49)) 71 [(intA (IntKind.wrap .i64 ((IntKind.wrap .i64 (z75 - z77)) * (IntKind.wrap .i64 (a1 - z51))))), (intA (IntKind.wrap .i64 (z53 - z55)))] fun v78 =>
exT2 v78 fun c79 c80 =>
ex_i64 c79 fun z81 =>
ex_i64 c80 fun z82 =>
opP (ldS (mget ((175, some ⟨[(intA z71), (intA z72)], 45⟩) :: (175, some ⟨[(intA (0)), (intA (0))], 45⟩) :: (mpushs (mpushs ((83, some ⟨[(intA (0)), (intA (0)), (intA (0)), (intA (0)), (intA (0)), (intA (0))], 50⟩) :: (82, some ⟨[(intA (0)), (intA (0)), (intA (0)), (intA (0)), (intA (0)), (intA (0))], 50⟩) :: (mpushs (mpushs (mpushs (mpushs m0 d20) d21) d34) d35)) d48) d49))) (AV.ptr 83 4)) fun v83 =>
ex_i64 v83 fun z84 =>
opP (ldS (mget ((175, some ⟨[(intA z71), (intA z72)], 45⟩) :: (175, some ⟨[(intA (0)), (intA (0))], 45⟩) :: (mpushs (mpushs ((83, some ⟨[(intA (0)), (intA (0)), (intA (0)), (intA (0)), (intA (0)), (intA (0))], 50⟩) :: (82, some ⟨[(intA (0)), (intA (0)), (intA (0)), (intA (0)), (intA (0)), (intA (0))], 50⟩) :: (mpushs (mpushs (mpushs (mpushs m0 d20) d21) d34) d35)) d48) d49))) (AV.ptr 82 4)) fun v85 =>
ex_i64 v85 fun z86 =>
callQ pg KK.gl ((175, some ⟨[(intA z71), (intA z72)], 45⟩) :: (175, some ⟨[(intA (0)), (intA (0))], 45⟩) :: (mpushs (mpushs ((83, some ⟨[(intA (0)), (intA (0)), (intA (0)), (intA (0)), (intA (0)), (intA (0))], 50⟩) :: (82, some ⟨[(intA (0)), (intA (0)), (intA (0)), (intA (0)), (intA (0)), (intA (0))], 50⟩) :: (mpushs (mpushs (mpushs (mpushs m0 d20) d21) d34) d35)) d48) d49)) 72 [(intA (IntKind.wrap .i64 ((IntKind.wrap .i64 (z84 - z86)) * (IntKind.wrap .i64 (a1 - z51))))), (intA (IntKind.wrap .i64 (z53 - z55)))] fun v87 =>
exT2 v87 fun c88 c89 =>
ex_i64 c88 fun z90 =>
ex_i64 c89 fun z91 =>
opP (ldS (mget ((175, some ⟨[(intA z71), (intA z72)], 45⟩) :: (175, some ⟨[(intA (0)), (intA (0))], 45⟩) :: (mpushs (mpushs ((83, some ⟨[(intA (0)), (intA (0)), (intA (0)), (intA (0)), (intA (0)), (intA (0))], 50⟩) :: (82, some ⟨[(intA (0)), (intA (0)), (intA (0)), (intA (0)), (intA (0)), (intA (0))], 50⟩) :: (mpushs (mpushs (mpushs (mpushs m0 d20) d21) d34) d35)) d48) d49))) (AV.ptr 83 5)) fun v92 =>
ex_i64 v92 fun z93 =>
opP (ldS (mget ((175, some ⟨[(intA z71), (intA z72)], 45⟩) :: (175, some ⟨[(intA (0)), (intA (0))], 45⟩) :: (mpushs (mpushs ((83, some ⟨[(intA (0)), (intA (0)), (intA (0)), (intA (0)), (intA (0)), (intA (0))], 50⟩) :: (82, some ⟨[(intA (0)), (intA (0)), (intA (0)), (intA (0)), (intA (0)), (intA (0))], 50⟩) :: (mpushs (mpushs (mpushs (mpushs m0 d20) d21) d34) d35)) d48) d49))) (AV.ptr 82 5)) fun v94 =>
ex_i64 v94 fun z95 =>
callQ pg KK.gl ((175, some ⟨[(intA z71), (intA z72)], 45⟩) :: (175, some ⟨[(intA (0)), (intA (0))], 45⟩) :: (mpushs (mpushs ((83, some ⟨[(intA (0)), (intA (0)), (intA (0)), (intA (0)), (intA (0)), (intA (0))], 50⟩) :: (82, some ⟨[(intA (0)), (intA (0)), (intA (0)), (intA (0)), (intA (0)), (intA (0))], 50⟩) :: (mpushs (mpushs (mpushs (mpushs m0 d20) d21) d34) d35)) d48) d49)) 72 [(intA (IntKind.wrap .i64 ((IntKind.wrap .i64 (z93 - z95)) * (IntKind.wrap .i64 (a1 - z51))))), (intA (IntKind.wrap .i64 (z53 - z55)))] fun v96 =>
exT2 v96 fun c97 c98 =>
ex_i64 c97 fun z99 =>
ex_i64 c98 fun z100 =>
opP (ldS (mget ((175, some ⟨[(intA z71), (intA z72)], 45⟩) :: (175, some ⟨[(intA (0)), (intA (0))], 45⟩) :: (mpushs (mpushs ((83, some ⟨[(intA (0)), (intA (0)), (intA (0)), (intA (0)), (intA (0)), (intA (0))], 50⟩) :: (82, some ⟨[(intA (0)), (intA (0)), (intA (0)), (intA (0)), (intA (0)), (intA (0))], 50⟩) :: (mpushs (mpushs (mpushs (mpushs m0 d20) d21) d34) d35)) d48) d49))) (AV.ptr 82 3)) fun v101 =>
ex_i64 v101 fun z102 =>
opP (bld [(intA (0)), (intA (0)), (intA (0)), (intA (0))] [(0, 1), (1, 2), (3, 1)] [(0, (intA a1)), (1, (AV.agg [(intA z71), (intA z72)])), (2, (intA (IntKind.wrap .i64 (z102 + z81))))]) fun v103 =>
opP (ldS (mget ((175, some ⟨[(intA z71), (intA z72)], 45⟩) :: (175, some ⟨[(intA (0)), (intA (0))], 45⟩) :: (mpushs (mpushs ((83, some ⟨[(intA (0)), (intA (0)), (intA (0)), (intA (0)), (intA (0)), (intA (0))], 50⟩) :: (82, some ⟨[(intA (0)), (intA (0)), (intA (0)), (intA (0)), (intA (0)), (intA (0))], 50⟩) :: (mpushs (mpushs (mpushs (mpushs m0 d20) d21) d34) d35)) d48) d49))) (AV.ptr 82 4)) fun v104 =>
ex_i64 v104 fun z105 =>
opP (ldS (mget ((175, some ⟨[(intA z71), (intA z72)], 45⟩) :: (175, some ⟨[(intA (0)), (intA (0))], 45⟩) :: (mpushs (mpushs ((83, some ⟨[(intA (0)), (intA (0)), (intA (0)), (intA (0)), (intA (0)), (intA (0))], 50⟩) :: (82, some ⟨[(intA (0)), (intA (0)), (intA (0)), (intA (0)), (intA (0)), (intA (0))], 50⟩) :: (mpushs (mpushs (mpushs (mpushs m0 d20) d21) d34) d35)) d48) d49))) (AV.ptr 82 5)) fun v106 =>
ex_i64 v106 fun z107 =>
opP (bld [(intA (0)), (intA (0)), (intA (0)), (intA (0)), (intA (0)), (intA (0))] [(0, 4), (4, 1), (5, 1)] [(0, v103), (1, (intA (IntKind.wrap .i64 (z105 + z90)))), (2, (intA (IntKind.wrap .i64 (z107 + z99))))]) fun v108 =>
storeW pg (mget ((175, some ⟨[(intA z71), (intA z72)], 45⟩) :: (175, some ⟨[(intA (0)), (intA (0))], 45⟩) :: (mpushs (mpushs ((83, some ⟨[(intA (0)), (intA (0)), (intA (0)), (intA (0)), (intA (0)), (intA (0))], 50⟩) :: (82, some ⟨[(intA (0)), (intA (0)), (intA (0)), (intA (0)), (intA (0)), (intA (0))], 50⟩) :: (mpushs (mpushs (mpushs (mpushs m0 d20) d21) d34) d35)) d48) d49))) 50 (AV.ptr 0 0) v108 fun v109 d109 =>
retL R (mpushs ((175, some ⟨[(intA z71), (intA z72)], 45⟩) :: (175, some ⟨[(intA (0)), (intA (0))], 45⟩) :: (mpushs (mpushs ((83, some ⟨[(intA (0)), (intA (0)), (intA (0)), (intA (0)), (intA (0)), (intA (0))], 50⟩) :: (82, some ⟨[(intA (0)), (intA (0)), (intA (0)), (intA (0)), (intA (0)), (intA (0))], 50⟩) :: (mpushs (mpushs (mpushs (mpushs m0 d20) d21) d34) d35)) d48) d49)) d109) [(aLoad pg (mget (mpushs ((175, some ⟨[(intA z71), (intA z72)], 45⟩) :: (175, some ⟨[(intA (0)), (intA (0))], 45⟩) :: (mpushs (mpushs ((83, some ⟨[(intA (0)), (intA (0)), (intA (0)), (intA (0)), (intA (0)), (intA (0))], 50⟩) :: (82, some ⟨[(intA (0)), (intA (0)), (intA (0)), (intA (0)), (intA (0)), (intA (0))], 50⟩) :: (mpushs (mpushs (mpushs (mpushs m0 d20) d21) d34) d35)) d48) d49)) d109)) 50 (AV.ptr 0 0)).map (·.1)]))
theorem F53_own (a0 : AV) (a1 : Int) (R : AV → Mem → Prop) (h : F53 a0 a1 R) : Own pg KK.gl 53 [a0, (intA a1)] R := own_of_F fol Tryz.func53 (code := c53) (by kernel_rfl) (by kernel_rfl) (by kernel_rfl) (X := F53 a0 a1 R) (by kernel_rfl) h
/- skyway/tube.At -/
noncomputable def c26 : Code := ((Tryz.f26).body).getD .skip
noncomputable def q26 (R : AV → Mem → Prop) : AExit → St → Prop := retQ pg Tryz.f26 R
noncomputable def F26 (a0 : AV) (a1 : Int) (R : AV → Mem → Prop) : Prop :=
callQ pg KK.gl ((0, some ⟨[(intA (0)), (intA (0)), (intA (0)), (intA (0)), (intA (0)), (intA (0))], 50⟩) :: []) 24 [a0] fun v0 =>
ex_i64 v0 fun z1 =>
bif (z1 != (0)) then (
opP (bld [(intA (0)), (intA (0)), (intA (0)), (intA (0)), (intA (0)), (intA (0))] [(0, 4), (4, 1), (5, 1)] []) fun v2 =>
storeW pg (mget ((0, some ⟨[(intA (0)), (intA (0)), (intA (0)), (intA (0)), (intA (0)), (intA (0))], 50⟩) :: [])) 50 (AV.ptr 0 0) v2 fun v3 d3 =>
retL R (mpushs ((0, some ⟨[(intA (0)), (intA (0)), (intA (0)), (intA (0)), (intA (0)), (intA (0))], 50⟩) :: []) d3) [(aLoad pg (mget (mpushs ((0, some ⟨[(intA (0)), (intA (0)), (intA (0)), (intA (0)), (intA (0)), (intA (0))], 50⟩) :: []) d3)) 50 (AV.ptr 0 0)).map (·.1), some (intA z1)]) else (
callQ pg KK.gl ((0, some ⟨[(intA (0)), (intA (0)), (intA (0)), (intA (0)), (intA (0)), (intA (0))], 50⟩) :: []) 52 [a0] fun v4 =>
exT2 v4 fun c5 c6 =>
ex_i64 c5 fun z7 =>
ex_i64 c6 fun z8 =>
bif (decide (a1 < z7)) then (
opP (bld [(intA (0)), (intA (0)), (intA (0)), (intA (0)), (intA (0)), (intA (0))] [(0, 4), (4, 1), (5, 1)] []) fun v9 =>
storeW pg (mget ((0, some ⟨[(intA (0)), (intA (0)), (intA (0)), (intA (0)), (intA (0)), (intA (0))], 50⟩) :: [])) 50 (AV.ptr 0 0) v9 fun v10 d10 =>
retL R (mpushs ((0, some ⟨[(intA (0)), (intA (0)), (intA (0)), (intA (0)), (intA (0)), (intA (0))], 50⟩) :: []) d10) [(aLoad pg (mget (mpushs ((0, some ⟨[(intA (0)), (intA (0)), (intA (0)), (intA (0)), (intA (0)), (intA (0))], 50⟩) :: []) d10)) 50 (AV.ptr 0 0)).map (·.1), some (intA (12))]) else (
bif (decide (a1 > z8)) then (
opP (bld [(intA (0)), (intA (0)), (intA (0)), (intA (0)), (intA (0)), (intA (0))] [(0, 4), (4, 1), (5, 1)] []) fun v11 =>
storeW pg (mget ((0, some ⟨[(intA (0)), (intA (0)), (intA (0)), (intA (0)), (intA (0)), (intA (0))], 50⟩) :: [])) 50 (AV.ptr 0 0) v11 fun v12 d12 =>
retL R (mpushs ((0, some ⟨[(intA (0)), (intA (0)), (intA (0)), (intA (0)), (intA (0)), (intA (0))], 50⟩) :: []) d12) [(aLoad pg (mget (mpushs ((0, some ⟨[(intA (0)), (intA (0)), (intA (0)), (intA (0)), (intA (0)), (intA (0))], 50⟩) :: []) d12)) 50 (AV.ptr 0 0)).map (·.1), some (intA (12))]) else (
callQ pg KK.gl ((0, some ⟨[(intA (0)), (intA (0)), (intA (0)), (intA (0)), (intA (0)), (intA (0))], 50⟩) :: []) 53 [a0, (intA a1)] fun v13 =>
exA6 v13 fun c14 c15 c16 c17 c18 c19 =>
ex_i64 c14 fun z20 =>
ex_i64 c15 fun z21 =>
ex_i64 c16 fun z22 =>
ex_i64 c17 fun z23 =>
ex_i64 c18 fun z24 =>
ex_i64 c19 fun z25 =>
retL R ((0, some ⟨[(intA z20), (intA z21), (intA z22), (intA z23), (intA z24), (intA z25)], 50⟩) :: (0, some ⟨[(intA (0)), (intA (0)), (intA (0)), (intA (0)), (intA (0)), (intA (0))], 50⟩) :: []) [some (AV.agg [(intA z20), (intA z21), (intA z22), (intA z23), (intA z24), (intA z25)]), some (intA (0))])))
theorem F26_own (a0 : AV) (a1 : Int) (R : AV → Mem → Prop) (h : F26 a0 a1 R) : Own pg KK.gl 26 [a0, (intA a1)] R := own_of_F fol Tryz.func26 (code := c26) (by kernel_rfl) (by kernel_rfl) (by kernel_rfl) (X := F26 a0 a1 R) (by kernel_rfl) h
/- skyway/plane.Sub -/
noncomputable def c55 : Code := ((Tryz.f55).body).getD .skip
noncomputable def q55 (R : AV → Mem → Prop) : AExit → St → Prop := retQ pg Tryz.f55 R
noncomputable def F55 (a0_0 : Int) (a0_1 : Int) (a1_0 : Int) (a1_1 : Int) (R : AV → Mem → Prop) : Prop :=
opP (bld [(intA (0)), (intA (0))] [(0, 1), (1, 1)] [(0, (intA (IntKind.wrap .i64 (a0_0 - a1_0)))), (1, (intA (IntKind.wrap .i64 (a0_1 - a1_1))))]) fun v0 =>
storeW pg (mget ((2, some ⟨[(intA (0)), (intA (0))], 45⟩) :: (1, some ⟨[(intA a1_0), (intA a1_1)], 45⟩) :: (0, some ⟨[(intA a0_0), (intA a0_1)], 45⟩) :: [])) 45 (AV.ptr 2 0) v0 fun v1 d1 =>
retL R (mpushs ((2, some ⟨[(intA (0)), (intA (0))], 45⟩) :: (1, some ⟨[(intA a1_0), (intA a1_1)], 45⟩) :: (0, some ⟨[(intA a0_0), (intA a0_1)], 45⟩) :: []) d1) [(aLoad pg (mget (mpushs ((2, some ⟨[(intA (0)), (intA (0))], 45⟩) :: (1, some ⟨[(intA a1_0), (intA a1_1)], 45⟩) :: (0, some ⟨[(intA a0_0), (intA a0_1)], 45⟩) :: []) d1)) 45 (AV.ptr 2 0)).map (·.1)]
theorem F55_own (a0_0 : Int) (a0_1 : Int) (a1_0 : Int) (a1_1 : Int) (R : AV → Mem → Prop) (h : F55 a0_0 a0_1 a1_0 a1_1 R) : Own pg KK.gl 55 [(AV.agg [(intA a0_0), (intA a0_1)]), (AV.agg [(intA a1_0), (intA a1_1)])] R := own_of_F fol Tryz.func55 (code := c55) (by kernel_rfl) (by kernel_rfl) (by kernel_rfl) (X := F55 a0_0 a0_1 a1_0 a1_1 R) (by kernel_rfl) h
/- skyway/plane.Dot -/
noncomputable def c103 : Code := ((Tryz.f103).body).getD .skip
noncomputable def q103 (R : AV → Mem → Prop) : AExit → St → Prop := retQ pg Tryz.f103 R
noncomputable def F103 (a0_0 : Int) (a0_1 : Int) (a1_0 : Int) (a1_1 : Int) (R : AV → Mem → Prop) : Prop :=
retL R ((1, some ⟨[(intA a1_0), (intA a1_1)], 45⟩) :: (0, some ⟨[(intA a0_0), (intA a0_1)], 45⟩) :: []) [some (intA (IntKind.wrap .i64 ((IntKind.wrap .i64 (a0_0 * a1_0)) + (IntKind.wrap .i64 (a0_1 * a1_1)))))]
theorem F103_own (a0_0 : Int) (a0_1 : Int) (a1_0 : Int) (a1_1 : Int) (R : AV → Mem → Prop) (h : F103 a0_0 a0_1 a1_0 a1_1 R) : Own pg KK.gl 103 [(AV.agg [(intA a0_0), (intA a0_1)]), (AV.agg [(intA a1_0), (intA a1_1)])] R := own_of_F fol Tryz.func103 (code := c103) (by kernel_rfl) (by kernel_rfl) (by kernel_rfl) (X := F103 a0_0 a0_1 a1_0 a1_1 R) (by kernel_rfl) h
/- skyway/plane.Square -/
noncomputable def c77 : Code := ((Tryz.f77).body).getD .skip
noncomputable def q77 (R : AV → Mem → Prop) : AExit → St → Prop := retQ pg Tryz.f77 R
noncomputable def F77 (a0_0 : Int) (a0_1 : Int) (a1_0 : Int) (a1_1 : Int) (R : AV → Mem → Prop) : Prop :=
callQ pg KK.gl ((1, some ⟨[(intA a1_0), (intA a1_1)], 45⟩) :: (0, some ⟨[(intA a0_0), (intA a0_1)], 45⟩) :: []) 55 [(AV.agg [(intA a0_0), (intA a0_1)]), (AV.agg [(intA a1_0), (intA a1_1)])] fun v0 =>
exA2 v0 fun c1 c2 =>
ex_i64 c1 fun z3 =>
ex_i64 c2 fun z4 =>
callQ pg KK.gl ((69, some ⟨[(intA z3), (intA z4)], 45⟩) :: (69, some ⟨[(intA (0)), (intA (0))], 45⟩) :: (1, some ⟨[(intA a1_0), (intA a1_1)], 45⟩) :: (0, some ⟨[(intA a0_0), (intA a0_1)], 45⟩) :: []) 103 [(AV.agg [(intA z3), (intA z4)]), (AV.agg [(intA z3), (intA z4)])] fun v5 =>
ex_i64 v5 fun z6 =>
retL R ((69, some ⟨[(intA z3), (intA z4)], 45⟩) :: (69, some ⟨[(intA (0)), (intA (0))], 45⟩) :: (1, some ⟨[(intA a1_0), (intA a1_1)], 45⟩) :: (0, some ⟨[(intA a0_0), (intA a0_1)], 45⟩) :: []) [some (intA z6)]
theorem F77_own (a0_0 : Int) (a0_1 : Int) (a1_0 : Int) (a1_1 : Int) (R : AV → Mem → Prop) (h : F77 a0_0 a0_1 a1_0 a1_1 R) : Own pg KK.gl 77 [(AV.agg [(intA a0_0), (intA a0_1)]), (AV.agg [(intA a1_0), (intA a1_1)])] R := own_of_F fol Tryz.func77 (code := c77) (by kernel_rfl) (by kernel_rfl) (by kernel_rfl) (X := F77 a0_0 a0_1 a1_0 a1_1 R) (by kernel_rfl) h
/- skyway/num.Root -/
noncomputable def c78 : Code := ((Tryz.f78).body).getD .skip
noncomputable def q78 (R : AV → Mem → Prop) : AExit → St → Prop := retQ pg Tryz.f78 R
noncomputable def c78_0 : Code := loopB c78 0
noncomputable def q78_0 (R : AV → Mem → Prop) : AExit → St → Prop := contW pg KK 27 0 c78 0 (q78 R)
noncomputable def qq78_0 (R : AV → Mem → Prop) (N0 : St → Prop) : AExit → St → Prop := thenQ N0 (q78_0 R)
def h78_0 (t0 : Int) (t2 : Int) (t3 : Int) (t4 : Int) (m : Mem) : St := ⟨[(0, (intA t0)), (2, (intA t2)), (3, (intA t3)), (4, (intA t4))], m, 100000⟩
noncomputable def B78_0 (t0 : Int) (t2 : Int) (t3 : Int) (t4 : Int) (m : Mem) (R : AV → Mem → Prop) (N0 : St → Prop) : Prop :=
bif (decide (t3 < t4)) then (
bif (decide ((IntKind.wrap .i64 ((IntKind.wrap .i64 (t3 + (IntKind.wrap .i64 (Int.tdiv (IntKind.wrap .i64 ((IntKind.wrap .i64 (t4 - t3)) + (1))) (2))))) * (IntKind.wrap .i64 (t3 + (IntKind.wrap .i64 (Int.tdiv (IntKind.wrap .i64 ((IntKind.wrap .i64 (t4 - t3)) + (1))) (2))))))) ≤ t0)) then (
N0 ⟨[(0, (intA t0)), (2, (intA t2)), (3, (intA (IntKind.wrap .i64 (t3 + (IntKind.wrap .i64 (Int.tdiv (IntKind.wrap .i64 ((IntKind.wrap .i64 (t4 - t3)) + (1))) (2))))))), (4, (intA t4)), (8, (intA t3)), (9, (intA t4)), (10, (boolA (decide (t3 < t4)))), (11, (intA t3)), (12, (intA t4)), (13, (intA t3)), (14, (intA (IntKind.wrap .i64 (t4 - t3)))), (15, (intA (IntKind.wrap .i64 ((IntKind.wrap .i64 (t4 - t3)) + (1))))), (16, (intA (IntKind.wrap .i64 (Int.tdiv (IntKind.wrap .i64 ((IntKind.wrap .i64 (t4 - t3)) + (1))) (2))))), (17, (intA (IntKind.wrap .i64 (t3 + (IntKind.wrap .i64 (Int.tdiv (IntKind.wrap .i64 ((IntKind.wrap .i64 (t4 - t3)) + (1))) (2))))))), (5, (intA (IntKind.wrap .i64 (t3 + (IntKind.wrap .i64 (Int.tdiv (IntKind.wrap .i64 ((IntKind.wrap .i64 (t4 - t3)) + (1))) (2))))))), (18, (intA (IntKind.wrap .i64 (t3 + (IntKind.wrap .i64 (Int.tdiv (IntKind.wrap .i64 ((IntKind.wrap .i64 (t4 - t3)) + (1))) (2))))))), (19, (intA (IntKind.wrap .i64 (t3 + (IntKind.wrap .i64 (Int.tdiv (IntKind.wrap .i64 ((IntKind.wrap .i64 (t4 - t3)) + (1))) (2))))))), (20, (intA (IntKind.wrap .i64 ((IntKind.wrap .i64 (t3 + (IntKind.wrap .i64 (Int.tdiv (IntKind.wrap .i64 ((IntKind.wrap .i64 (t4 - t3)) + (1))) (2))))) * (IntKind.wrap .i64 (t3 + (IntKind.wrap .i64 (Int.tdiv (IntKind.wrap .i64 ((IntKind.wrap .i64 (t4 - t3)) + (1))) (2))))))))), (21, (intA t0)), (22, (boolA (decide ((IntKind.wrap .i64 ((IntKind.wrap .i64 (t3 + (IntKind.wrap .i64 (Int.tdiv (IntKind.wrap .i64 ((IntKind.wrap .i64 (t4 - t3)) + (1))) (2))))) * (IntKind.wrap .i64 (t3 + (IntKind.wrap .i64 (Int.tdiv (IntKind.wrap .i64 ((IntKind.wrap .i64 (t4 - t3)) + (1))) (2))))))) ≤ t0)))), (23, (intA (IntKind.wrap .i64 (t3 + (IntKind.wrap .i64 (Int.tdiv (IntKind.wrap .i64 ((IntKind.wrap .i64 (t4 - t3)) + (1))) (2)))))))], m, 100018⟩) else (
N0 ⟨[(0, (intA t0)), (2, (intA t2)), (3, (intA t3)), (4, (intA (IntKind.wrap .i64 ((IntKind.wrap .i64 (t3 + (IntKind.wrap .i64 (Int.tdiv (IntKind.wrap .i64 ((IntKind.wrap .i64 (t4 - t3)) + (1))) (2))))) - (1))))), (8, (intA t3)), (9, (intA t4)), (10, (boolA (decide (t3 < t4)))), (11, (intA t3)), (12, (intA t4)), (13, (intA t3)), (14, (intA (IntKind.wrap .i64 (t4 - t3)))), (15, (intA (IntKind.wrap .i64 ((IntKind.wrap .i64 (t4 - t3)) + (1))))), (16, (intA (IntKind.wrap .i64 (Int.tdiv (IntKind.wrap .i64 ((IntKind.wrap .i64 (t4 - t3)) + (1))) (2))))), (17, (intA (IntKind.wrap .i64 (t3 + (IntKind.wrap .i64 (Int.tdiv (IntKind.wrap .i64 ((IntKind.wrap .i64 (t4 - t3)) + (1))) (2))))))), (5, (intA (IntKind.wrap .i64 (t3 + (IntKind.wrap .i64 (Int.tdiv (IntKind.wrap .i64 ((IntKind.wrap .i64 (t4 - t3)) + (1))) (2))))))), (18, (intA (IntKind.wrap .i64 (t3 + (IntKind.wrap .i64 (Int.tdiv (IntKind.wrap .i64 ((IntKind.wrap .i64 (t4 - t3)) + (1))) (2))))))), (19, (intA (IntKind.wrap .i64 (t3 + (IntKind.wrap .i64 (Int.tdiv (IntKind.wrap .i64 ((IntKind.wrap .i64 (t4 - t3)) + (1))) (2))))))), (20, (intA (IntKind.wrap .i64 ((IntKind.wrap .i64 (t3 + (IntKind.wrap .i64 (Int.tdiv (IntKind.wrap .i64 ((IntKind.wrap .i64 (t4 - t3)) + (1))) (2))))) * (IntKind.wrap .i64 (t3 + (IntKind.wrap .i64 (Int.tdiv (IntKind.wrap .i64 ((IntKind.wrap .i64 (t4 - t3)) + (1))) (2))))))))), (21, (intA t0)), (22, (boolA (decide ((IntKind.wrap .i64 ((IntKind.wrap .i64 (t3 + (IntKind.wrap .i64 (Int.tdiv (IntKind.wrap .i64 ((IntKind.wrap .i64 (t4 - t3)) + (1))) (2))))) * (IntKind.wrap .i64 (t3 + (IntKind.wrap .i64 (Int.tdiv (IntKind.wrap .i64 ((IntKind.wrap .i64 (t4 - t3)) + (1))) (2))))))) ≤ t0)))), (24, (intA (IntKind.wrap .i64 (t3 + (IntKind.wrap .i64 (Int.tdiv (IntKind.wrap .i64 ((IntKind.wrap .i64 (t4 - t3)) + (1))) (2))))))), (25, (intA (IntKind.wrap .i64 ((IntKind.wrap .i64 (t3 + (IntKind.wrap .i64 (Int.tdiv (IntKind.wrap .i64 ((IntKind.wrap .i64 (t4 - t3)) + (1))) (2))))) - (1)))))], m, 100019⟩)) else (
retL R m [some (intA t3)])
theorem B78_0_eq (t0 : Int) (t2 : Int) (t3 : Int) (t4 : Int) (m : Mem) (R : AV → Mem → Prop) (N0 : St → Prop) : W pg KK 27 0 c78_0 (h78_0 t0 t2 t3 t4 m) (qq78_0 R N0) = B78_0 t0 t2 t3 t4 m R N0 := by kernel_rfl
theorem L78_0 (R : AV → Mem → Prop) {σ : Type} (I : σ → Prop) (t0 : σ → Int) (t2 : σ → Int) (t3 : σ → Int) (t4 : σ → Int) (m : σ → Mem) (μ : σ → Nat) (step : ∀ x, I x → B78_0 (t0 x) (t2 x) (t3 x) (t4 x) (m x) R (fun s' => ∃ y, I y ∧ μ y < μ x ∧ Weak KK 27 0 s' (h78_0 (t0 y) (t2 y) (t3 y) (t4 y) (m y)))) (x : σ) (hx : I x) {s : St} (hw : Weak KK 27 0 s (h78_0 (t0 x) (t2 x) (t3 x) (t4 x) (m x))) : Tri pg KK 27 0 (.loop c78_0) s (q78_0 R) :=
  Tri.weak hw (Tri.loops fol I (fun x => h78_0 (t0 x) (t2 x) (t3 x) (t4 x) (m x)) μ (fun x hx => (B78_0_eq (t0 x) (t2 x) (t3 x) (t4 x) (m x) R _).mpr (step x hx)) x hx)
noncomputable def F78 (a0 : Int) (R : AV → Mem → Prop) : Prop :=
bif (decide (a0 ≤ (0))) then (
retL R [] [some (intA (0))]) else (
Tri pg KK 27 0 (.loop c78_0) ⟨[(0, (intA a0)), (2, (intA (0))), (6, (intA a0)), (7, (boolA (decide (a0 ≤ (0))))), (3, (intA (0))), (4, (intA (3037000499)))], [], 5⟩ (q78_0 R))
theorem F78_own (a0 : Int) (R : AV → Mem → Prop) (h : F78 a0 R) : Own pg KK.gl 78 [(intA a0)] R := own_of_F fol Tryz.func78 (code := c78) (by kernel_rfl) (by kernel_rfl) (by kernel_rfl) (X := F78 a0 R) (by kernel_rfl) h
/- skyway/plane.Distance -/
noncomputable def c56 : Code := ((Tryz.f56).body).getD .skip
noncomputable def q56 (R : AV → Mem → Prop) : AExit → St → Prop := retQ pg Tryz.f56 R
noncomputable def F56 (a0_0 : Int) (a0_1 : Int) (a1_0 : Int) (a1_1 : Int) (R : AV → Mem → Prop) : Prop :=
callQ pg KK.gl ((1, some ⟨[(intA a1_0), (intA a1_1)], 45⟩) :: (0, some ⟨[(intA a0_0), (intA a0_1)], 45⟩) :: []) 77 [(AV.agg [(intA a0_0), (intA a0_1)]), (AV.agg [(intA a1_0), (intA a1_1)])] fun v0 =>
ex_i64 v0 fun z1 =>
callQ pg KK.gl ((1, some ⟨[(intA a1_0), (intA a1_1)], 45⟩) :: (0, some ⟨[(intA a0_0), (intA a0_1)], 45⟩) :: []) 78 [(intA z1)] fun v2 =>
ex_i64 v2 fun z3 =>
bif (decide ((IntKind.wrap .i64 (z3 * z3)) < z1)) then (
retL R ((1, some ⟨[(intA a1_0), (intA a1_1)], 45⟩) :: (0, some ⟨[(intA a0_0), (intA a0_1)], 45⟩) :: []) [some (intA z3), some (intA (IntKind.wrap .i64 (z3 + (1))))]) else (
retL R ((1, some ⟨[(intA a1_0), (intA a1_1)], 45⟩) :: (0, some ⟨[(intA a0_0), (intA a0_1)], 45⟩) :: []) [some (intA z3), some (intA z3)])
theorem F56_own (a0_0 : Int) (a0_1 : Int) (a1_0 : Int) (a1_1 : Int) (R : AV → Mem → Prop) (h : F56 a0_0 a0_1 a1_0 a1_1 R) : Own pg KK.gl 56 [(AV.agg [(intA a0_0), (intA a0_1)]), (AV.agg [(intA a1_0), (intA a1_1)])] R := own_of_F fol Tryz.func56 (code := c56) (by kernel_rfl) (by kernel_rfl) (by kernel_rfl) (X := F56 a0_0 a0_1 a1_0 a1_1 R) (by kernel_rfl) h
/- skyway/probe.separated -/
noncomputable def c65 : Code := ((Tryz.f65).body).getD .skip
noncomputable def q65 (R : AV → Mem → Prop) : AExit → St → Prop := retQ pg Tryz.f65 R
noncomputable def F65 (a0_0 : Int) (a0_1 : Int) (a0_2 : Int) (a0_3 : Int) (a0_4 : Int) (a0_5 : Int) (a1_0 : Int) (a1_1 : Int) (a1_2 : Int) (a1_3 : Int) (a1_4 : Int) (a1_5 : Int) (a2_0 : Int) (a2_1 : Int) (R : AV → Mem → Prop) : Prop :=
callQ pg KK.gl ((2, some ⟨[(intA a2_0), (intA a2_1)], 38⟩) :: (1, some ⟨[(intA a1_0), (intA a1_1), (intA a1_2), (intA a1_3), (intA a1_4), (intA a1_5)], 50⟩) :: (0, some ⟨[(intA a0_0), (intA a0_1), (intA a0_2), (intA a0_3), (intA a0_4), (intA a0_5)], 50⟩) :: []) 56 [(AV.agg [(intA a0_1), (intA a0_2)]), (AV.agg [(intA a1_1), (intA a1_2)])] fun v0 =>
exT2 v0 fun c1 c2 =>
ex_i64 c1 fun z3 =>
ex_i64 c2 fun z4 =>
bif (decide ((IntKind.wrap .i64 ((IntKind.wrap .i64 (z3 - a0_4)) - a1_4)) ≥ a2_0)) then (
retL R ((2, some ⟨[(intA a2_0), (intA a2_1)], 38⟩) :: (1, some ⟨[(intA a1_0), (intA a1_1), (intA a1_2), (intA a1_3), (intA a1_4), (intA a1_5)], 50⟩) :: (0, some ⟨[(intA a0_0), (intA a0_1), (intA a0_2), (intA a0_3), (intA a0_4), (intA a0_5)], 50⟩) :: []) [some (boolA true)]) else (
opP (opA pg (.call ⟨.builtin .max, #[.tmp 0, .tmp 1], #[3, 3]⟩) 3 [(intA (IntKind.wrap .i64 (a0_3 - a1_3))), (intA (IntKind.wrap .i64 (a1_3 - a0_3)))] (mget ((2, some ⟨[(intA a2_0), (intA a2_1)], 38⟩) :: (1, some ⟨[(intA a1_0), (intA a1_1), (intA a1_2), (intA a1_3), (intA a1_4), (intA a1_5)], 50⟩) :: (0, some ⟨[(intA a0_0), (intA a0_1), (intA a0_2), (intA a0_3), (intA a0_4), (intA a0_5)], 50⟩) :: [])) 104) fun v5 =>
ex_i64 v5 fun z6 =>
retL R ((2, some ⟨[(intA a2_0), (intA a2_1)], 38⟩) :: (1, some ⟨[(intA a1_0), (intA a1_1), (intA a1_2), (intA a1_3), (intA a1_4), (intA a1_5)], 50⟩) :: (0, some ⟨[(intA a0_0), (intA a0_1), (intA a0_2), (intA a0_3), (intA a0_4), (intA a0_5)], 50⟩) :: []) [some (boolA (decide ((IntKind.wrap .i64 ((IntKind.wrap .i64 (z6 - a0_5)) - a1_5)) ≥ a2_1)))])
theorem F65_own (a0_0 : Int) (a0_1 : Int) (a0_2 : Int) (a0_3 : Int) (a0_4 : Int) (a0_5 : Int) (a1_0 : Int) (a1_1 : Int) (a1_2 : Int) (a1_3 : Int) (a1_4 : Int) (a1_5 : Int) (a2_0 : Int) (a2_1 : Int) (R : AV → Mem → Prop) (h : F65 a0_0 a0_1 a0_2 a0_3 a0_4 a0_5 a1_0 a1_1 a1_2 a1_3 a1_4 a1_5 a2_0 a2_1 R) : Own pg KK.gl 65 [(AV.agg [(intA a0_0), (intA a0_1), (intA a0_2), (intA a0_3), (intA a0_4), (intA a0_5)]), (AV.agg [(intA a1_0), (intA a1_1), (intA a1_2), (intA a1_3), (intA a1_4), (intA a1_5)]), (AV.agg [(intA a2_0), (intA a2_1)])] R := own_of_F fol Tryz.func65 (code := c65) (by kernel_rfl) (by kernel_rfl) (by kernel_rfl) (X := F65 a0_0 a0_1 a0_2 a0_3 a0_4 a0_5 a1_0 a1_1 a1_2 a1_3 a1_4 a1_5 a2_0 a2_1 R) (by kernel_rfl) h
/- skyway/probe.spans -/
noncomputable def c45 : Code := ((Tryz.f45).body).getD .skip
noncomputable def q45 (R : AV → Mem → Prop) : AExit → St → Prop := retQ pg Tryz.f45 R
noncomputable def c45_0 : Code := loopB c45 0
noncomputable def q45_0 (R : AV → Mem → Prop) : AExit → St → Prop := contW pg KK 73 0 c45 0 (q45 R)
noncomputable def qq45_0 (R : AV → Mem → Prop) (N0 : St → Prop) : AExit → St → Prop := thenQ N0 (q45_0 R)
def h45_0 (t0 : AV) (t1 : AV) (t6 : AV) (t7 : AV) (t9 : Int) (t10 : Int) (b0_0 : Int) (b0_1 : Int) (m : Mem) : St := ⟨[(0, t0), (1, t1), (5, (AV.ptr 0 0)), (6, t6), (7, t7), (9, (intA t9)), (10, (intA t10))], ((0, some ⟨[(intA b0_0), (intA b0_1)], 38⟩) :: m), 100000⟩
noncomputable def B45_0 (t0 : AV) (t1 : AV) (t6 : AV) (t7 : AV) (t9 : Int) (t10 : Int) (b0_0 : Int) (b0_1 : Int) (m : Mem) (R : AV → Mem → Prop) (N0 : St → Prop) : Prop :=
bif (decide (t10 ≤ t9)) then (
callQ pg KK.gl ((0, some ⟨[(intA b0_0), (intA b0_1)], 38⟩) :: m) 26 [t0, (intA t10)] fun v5 =>
exT2 v5 fun c6 c7 =>
exA6 c6 fun c8 c9 c10 c11 c12 c13 =>
ex_i64 c8 fun z14 =>
ex_i64 c9 fun z15 =>
ex_i64 c10 fun z16 =>
ex_i64 c11 fun z17 =>
ex_i64 c12 fun z18 =>
ex_i64 c13 fun z19 =>
ex_i64 c7 fun z20 =>
callQ pg KK.gl ((100072, some ⟨[(intA z14), (intA z15), (intA z16), (intA z17), (intA z18), (intA z19)], 50⟩) :: (100072, some ⟨[(intA (0)), (intA (0)), (intA (0)), (intA (0)), (intA (0)), (intA (0))], 50⟩) :: (0, some ⟨[(intA b0_0), (intA b0_1)], 38⟩) :: m) 26 [t1, (intA t10)] fun v21 =>
exT2 v21 fun c22 c23 =>
exA6 c22 fun c24 c25 c26 c27 c28 c29 =>
ex_i64 c24 fun z30 =>
ex_i64 c25 fun z31 =>
ex_i64 c26 fun z32 =>
ex_i64 c27 fun z33 =>
ex_i64 c28 fun z34 =>
ex_i64 c29 fun z35 =>
ex_i64 c23 fun z36 =>
callQ pg KK.gl ((100144, some ⟨[(intA z30), (intA z31), (intA z32), (intA z33), (intA z34), (intA z35)], 50⟩) :: (100144, some ⟨[(intA (0)), (intA (0)), (intA (0)), (intA (0)), (intA (0)), (intA (0))], 50⟩) :: (100072, some ⟨[(intA z14), (intA z15), (intA z16), (intA z17), (intA z18), (intA z19)], 50⟩) :: (100072, some ⟨[(intA (0)), (intA (0)), (intA (0)), (intA (0)), (intA (0)), (intA (0))], 50⟩) :: (0, some ⟨[(intA b0_0), (intA b0_1)], 38⟩) :: m) 65 [(AV.agg [(intA z14), (intA z15), (intA z16), (intA z17), (intA z18), (intA z19)]), (AV.agg [(intA z30), (intA z31), (intA z32), (intA z33), (intA z34), (intA z35)]), (AV.agg [(intA b0_0), (intA b0_1)])] fun v37 =>
exB v37 fun b38 =>
bif b38 then (
N0 ⟨[(0, t0), (1, t1), (5, (AV.ptr 0 0)), (6, t6), (7, t7), (9, (intA t9)), (10, (intA (IntKind.wrap .i64 (t10 + (1))))), (23, (intA t10)), (24, (intA t9)), (25, (boolA (decide (t10 ≤ t9)))), (29, t0), (30, (intA t10)), (31, (AV.tup [(AV.agg [(intA z14), (intA z15), (intA z16), (intA z17), (intA z18), (intA z19)]), (intA z20)])), (28, (AV.tup [(AV.agg [(intA z14), (intA z15), (intA z16), (intA z17), (intA z18), (intA z19)]), (intA z20)])), (32, (AV.agg [(intA z14), (intA z15), (intA z16), (intA z17), (intA z18), (intA z19)])), (33, (intA z20)), (11, (AV.ptr 100072 0)), (12, (intA z20)), (35, t1), (36, (intA t10)), (37, (AV.tup [(AV.agg [(intA z30), (intA z31), (intA z32), (intA z33), (intA z34), (intA z35)]), (intA z36)])), (34, (AV.tup [(AV.agg [(intA z30), (intA z31), (intA z32), (intA z33), (intA z34), (intA z35)]), (intA z36)])), (38, (AV.agg [(intA z30), (intA z31), (intA z32), (intA z33), (intA z34), (intA z35)])), (39, (intA z36)), (13, (AV.ptr 100144 0)), (14, (intA z36)), (40, (AV.agg [(intA z14), (intA z15), (intA z16), (intA z17), (intA z18), (intA z19)])), (41, (AV.agg [(intA z30), (intA z31), (intA z32), (intA z33), (intA z34), (intA z35)])), (42, (AV.agg [(intA b0_0), (intA b0_1)])), (43, (boolA b38)), (26, (intA t10)), (27, (intA (IntKind.wrap .i64 (t10 + (1)))))], ((100144, some ⟨[(intA z30), (intA z31), (intA z32), (intA z33), (intA z34), (intA z35)], 50⟩) :: (100144, some ⟨[(intA (0)), (intA (0)), (intA (0)), (intA (0)), (intA (0)), (intA (0))], 50⟩) :: (100072, some ⟨[(intA z14), (intA z15), (intA z16), (intA z17), (intA z18), (intA z19)], 50⟩) :: (100072, some ⟨[(intA (0)), (intA (0)), (intA (0)), (intA (0)), (intA (0)), (intA (0))], 50⟩) :: (0, some ⟨[(intA b0_0), (intA b0_1)], 38⟩) :: m), 100217⟩) else (
opP (lenS t7) fun v39 =>
ex_i64 v39 fun z40 =>
bif (decide (z40 > (0))) then (
opP (idxS 2 t7 (intA (IntKind.wrap .i64 (z40 - (1))))) fun v41 =>
opP (fldO 1 v41) fun v42 =>
opP (ldS (mget ((100144, some ⟨[(intA z30), (intA z31), (intA z32), (intA z33), (intA z34), (intA z35)], 50⟩) :: (100144, some ⟨[(intA (0)), (intA (0)), (intA (0)), (intA (0)), (intA (0)), (intA (0))], 50⟩) :: (100072, some ⟨[(intA z14), (intA z15), (intA z16), (intA z17), (intA z18), (intA z19)], 50⟩) :: (100072, some ⟨[(intA (0)), (intA (0)), (intA (0)), (intA (0)), (intA (0)), (intA (0))], 50⟩) :: (0, some ⟨[(intA b0_0), (intA b0_1)], 38⟩) :: m)) v42) fun v43 =>
ex_i64 v43 fun z44 =>
bif (z44 == t10) then (
opP (idxS 2 t7 (intA (IntKind.wrap .i64 (z40 - (1))))) fun v45 =>
opP (fldO 1 v45) fun v46 =>
storeW pg (mget ((100144, some ⟨[(intA z30), (intA z31), (intA z32), (intA z33), (intA z34), (intA z35)], 50⟩) :: (100144, some ⟨[(intA (0)), (intA (0)), (intA (0)), (intA (0)), (intA (0)), (intA (0))], 50⟩) :: (100072, some ⟨[(intA z14), (intA z15), (intA z16), (intA z17), (intA z18), (intA z19)], 50⟩) :: (100072, some ⟨[(intA (0)), (intA (0)), (intA (0)), (intA (0)), (intA (0)), (intA (0))], 50⟩) :: (0, some ⟨[(intA b0_0), (intA b0_1)], 38⟩) :: m)) 3 v46 (intA (IntKind.wrap .i64 (t10 + (1)))) fun v47 d47 =>
N0 ⟨[(0, t0), (1, t1), (5, (AV.ptr 0 0)), (6, t6), (7, t7), (9, (intA t9)), (10, (intA (IntKind.wrap .i64 (t10 + (1))))), (23, (intA t10)), (24, (intA t9)), (25, (boolA (decide (t10 ≤ t9)))), (29, t0), (30, (intA t10)), (31, (AV.tup [(AV.agg [(intA z14), (intA z15), (intA z16), (intA z17), (intA z18), (intA z19)]), (intA z20)])), (28, (AV.tup [(AV.agg [(intA z14), (intA z15), (intA z16), (intA z17), (intA z18), (intA z19)]), (intA z20)])), (32, (AV.agg [(intA z14), (intA z15), (intA z16), (intA z17), (intA z18), (intA z19)])), (33, (intA z20)), (11, (AV.ptr 100072 0)), (12, (intA z20)), (35, t1), (36, (intA t10)), (37, (AV.tup [(AV.agg [(intA z30), (intA z31), (intA z32), (intA z33), (intA z34), (intA z35)]), (intA z36)])), (34, (AV.tup [(AV.agg [(intA z30), (intA z31), (intA z32), (intA z33), (intA z34), (intA z35)]), (intA z36)])), (38, (AV.agg [(intA z30), (intA z31), (intA z32), (intA z33), (intA z34), (intA z35)])), (39, (intA z36)), (13, (AV.ptr 100144 0)), (14, (intA z36)), (40, (AV.agg [(intA z14), (intA z15), (intA z16), (intA z17), (intA z18), (intA z19)])), (41, (AV.agg [(intA z30), (intA z31), (intA z32), (intA z33), (intA z34), (intA z35)])), (42, (AV.agg [(intA b0_0), (intA b0_1)])), (43, (boolA b38)), (44, t7), (45, (intA z40)), (15, (intA z40)), (46, (intA z40)), (47, (boolA (decide (z40 > (0))))), (48, (boolA true)), (49, t7), (50, (intA z40)), (51, (intA (IntKind.wrap .i64 (z40 - (1))))), (52, v41), (53, v42), (54, (intA z44)), (55, (intA t10)), (56, (boolA (z44 == t10))), (57, (boolA (z44 == t10))), (58, t7), (59, (intA z40)), (60, (intA (IntKind.wrap .i64 (z40 - (1))))), (61, (intA t10)), (62, (intA (IntKind.wrap .i64 (t10 + (1))))), (63, v45), (64, v46), (26, (intA t10)), (27, (intA (IntKind.wrap .i64 (t10 + (1)))))], (mpushs ((100144, some ⟨[(intA z30), (intA z31), (intA z32), (intA z33), (intA z34), (intA z35)], 50⟩) :: (100144, some ⟨[(intA (0)), (intA (0)), (intA (0)), (intA (0)), (intA (0)), (intA (0))], 50⟩) :: (100072, some ⟨[(intA z14), (intA z15), (intA z16), (intA z17), (intA z18), (intA z19)], 50⟩) :: (100072, some ⟨[(intA (0)), (intA (0)), (intA (0)), (intA (0)), (intA (0)), (intA (0))], 50⟩) :: (0, some ⟨[(intA b0_0), (intA b0_1)], 38⟩) :: m) d47), 100240⟩) else (
opP (bld [(intA (0)), (intA (0))] [(0, 1), (1, 1)] [(0, (intA t10)), (1, (intA (IntKind.wrap .i64 (t10 + (1)))))]) fun v48 =>
opN (bsl 100234 97 2 1 [(intA (0)), (intA (0))] [(0, v48)]) ((100144, some ⟨[(intA z30), (intA z31), (intA z32), (intA z33), (intA z34), (intA z35)], 50⟩) :: (100144, some ⟨[(intA (0)), (intA (0)), (intA (0)), (intA (0)), (intA (0)), (intA (0))], 50⟩) :: (100072, some ⟨[(intA z14), (intA z15), (intA z16), (intA z17), (intA z18), (intA z19)], 50⟩) :: (100072, some ⟨[(intA (0)), (intA (0)), (intA (0)), (intA (0)), (intA (0)), (intA (0))], 50⟩) :: (0, some ⟨[(intA b0_0), (intA b0_1)], 38⟩) :: m) fun v49 m49 =>
opN (app (mget m49) 97 2 16 [(intA (0)), (intA (0))] 100235 t7 v49) m49 fun v50 m50 =>
N0 ⟨[(0, t0), (1, t1), (5, (AV.ptr 0 0)), (6, t6), (7, v50), (9, (intA t9)), (10, (intA (IntKind.wrap .i64 (t10 + (1))))), (23, (intA t10)), (24, (intA t9)), (25, (boolA (decide (t10 ≤ t9)))), (29, t0), (30, (intA t10)), (31, (AV.tup [(AV.agg [(intA z14), (intA z15), (intA z16), (intA z17), (intA z18), (intA z19)]), (intA z20)])), (28, (AV.tup [(AV.agg [(intA z14), (intA z15), (intA z16), (intA z17), (intA z18), (intA z19)]), (intA z20)])), (32, (AV.agg [(intA z14), (intA z15), (intA z16), (intA z17), (intA z18), (intA z19)])), (33, (intA z20)), (11, (AV.ptr 100072 0)), (12, (intA z20)), (35, t1), (36, (intA t10)), (37, (AV.tup [(AV.agg [(intA z30), (intA z31), (intA z32), (intA z33), (intA z34), (intA z35)]), (intA z36)])), (34, (AV.tup [(AV.agg [(intA z30), (intA z31), (intA z32), (intA z33), (intA z34), (intA z35)]), (intA z36)])), (38, (AV.agg [(intA z30), (intA z31), (intA z32), (intA z33), (intA z34), (intA z35)])), (39, (intA z36)), (13, (AV.ptr 100144 0)), (14, (intA z36)), (40, (AV.agg [(intA z14), (intA z15), (intA z16), (intA z17), (intA z18), (intA z19)])), (41, (AV.agg [(intA z30), (intA z31), (intA z32), (intA z33), (intA z34), (intA z35)])), (42, (AV.agg [(intA b0_0), (intA b0_1)])), (43, (boolA b38)), (44, t7), (45, (intA z40)), (15, (intA z40)), (46, (intA z40)), (47, (boolA (decide (z40 > (0))))), (48, (boolA true)), (49, t7), (50, (intA z40)), (51, (intA (IntKind.wrap .i64 (z40 - (1))))), (52, v41), (53, v42), (54, (intA z44)), (55, (intA t10)), (56, (boolA (z44 == t10))), (57, (boolA (z44 == t10))), (65, t7), (66, (intA t10)), (67, (intA t10)), (68, (intA (IntKind.wrap .i64 (t10 + (1))))), (69, v48), (70, v49), (71, v50), (26, (intA t10)), (27, (intA (IntKind.wrap .i64 (t10 + (1)))))], m50, 100240⟩)) else (
opP (bld [(intA (0)), (intA (0))] [(0, 1), (1, 1)] [(0, (intA t10)), (1, (intA (IntKind.wrap .i64 (t10 + (1)))))]) fun v51 =>
opN (bsl 100226 97 2 1 [(intA (0)), (intA (0))] [(0, v51)]) ((100144, some ⟨[(intA z30), (intA z31), (intA z32), (intA z33), (intA z34), (intA z35)], 50⟩) :: (100144, some ⟨[(intA (0)), (intA (0)), (intA (0)), (intA (0)), (intA (0)), (intA (0))], 50⟩) :: (100072, some ⟨[(intA z14), (intA z15), (intA z16), (intA z17), (intA z18), (intA z19)], 50⟩) :: (100072, some ⟨[(intA (0)), (intA (0)), (intA (0)), (intA (0)), (intA (0)), (intA (0))], 50⟩) :: (0, some ⟨[(intA b0_0), (intA b0_1)], 38⟩) :: m) fun v52 m52 =>
opN (app (mget m52) 97 2 16 [(intA (0)), (intA (0))] 100227 t7 v52) m52 fun v53 m53 =>
N0 ⟨[(0, t0), (1, t1), (5, (AV.ptr 0 0)), (6, t6), (7, v53), (9, (intA t9)), (10, (intA (IntKind.wrap .i64 (t10 + (1))))), (23, (intA t10)), (24, (intA t9)), (25, (boolA (decide (t10 ≤ t9)))), (29, t0), (30, (intA t10)), (31, (AV.tup [(AV.agg [(intA z14), (intA z15), (intA z16), (intA z17), (intA z18), (intA z19)]), (intA z20)])), (28, (AV.tup [(AV.agg [(intA z14), (intA z15), (intA z16), (intA z17), (intA z18), (intA z19)]), (intA z20)])), (32, (AV.agg [(intA z14), (intA z15), (intA z16), (intA z17), (intA z18), (intA z19)])), (33, (intA z20)), (11, (AV.ptr 100072 0)), (12, (intA z20)), (35, t1), (36, (intA t10)), (37, (AV.tup [(AV.agg [(intA z30), (intA z31), (intA z32), (intA z33), (intA z34), (intA z35)]), (intA z36)])), (34, (AV.tup [(AV.agg [(intA z30), (intA z31), (intA z32), (intA z33), (intA z34), (intA z35)]), (intA z36)])), (38, (AV.agg [(intA z30), (intA z31), (intA z32), (intA z33), (intA z34), (intA z35)])), (39, (intA z36)), (13, (AV.ptr 100144 0)), (14, (intA z36)), (40, (AV.agg [(intA z14), (intA z15), (intA z16), (intA z17), (intA z18), (intA z19)])), (41, (AV.agg [(intA z30), (intA z31), (intA z32), (intA z33), (intA z34), (intA z35)])), (42, (AV.agg [(intA b0_0), (intA b0_1)])), (43, (boolA b38)), (44, t7), (45, (intA z40)), (15, (intA z40)), (46, (intA z40)), (47, (boolA (decide (z40 > (0))))), (48, (boolA false)), (49, (AV.tup [])), (50, (AV.tup [])), (51, (AV.tup [])), (52, (AV.tup [])), (53, (AV.tup [])), (54, (AV.tup [])), (55, (AV.tup [])), (56, (AV.tup [])), (57, (boolA false)), (65, t7), (66, (intA t10)), (67, (intA t10)), (68, (intA (IntKind.wrap .i64 (t10 + (1))))), (69, v51), (70, v52), (71, v53), (26, (intA t10)), (27, (intA (IntKind.wrap .i64 (t10 + (1)))))], m53, 100232⟩))) else (
retL R ((0, some ⟨[(intA b0_0), (intA b0_1)], 38⟩) :: m) [some t7])
theorem B45_0_eq (t0 : AV) (t1 : AV) (t6 : AV) (t7 : AV) (t9 : Int) (t10 : Int) (b0_0 : Int) (b0_1 : Int) (m : Mem) (R : AV → Mem → Prop) (N0 : St → Prop) : W pg KK 73 0 c45_0 (h45_0 t0 t1 t6 t7 t9 t10 b0_0 b0_1 m) (qq45_0 R N0) = B45_0 t0 t1 t6 t7 t9 t10 b0_0 b0_1 m R N0 := by kernel_rfl
theorem L45_0 (R : AV → Mem → Prop) {σ : Type} (I : σ → Prop) (t0 : σ → AV) (t1 : σ → AV) (t6 : σ → AV) (t7 : σ → AV) (t9 : σ → Int) (t10 : σ → Int) (b0_0 : σ → Int) (b0_1 : σ → Int) (m : σ → Mem) (μ : σ → Nat) (step : ∀ x, I x → B45_0 (t0 x) (t1 x) (t6 x) (t7 x) (t9 x) (t10 x) (b0_0 x) (b0_1 x) (m x) R (fun s' => ∃ y, I y ∧ μ y < μ x ∧ Weak KK 73 0 s' (h45_0 (t0 y) (t1 y) (t6 y) (t7 y) (t9 y) (t10 y) (b0_0 y) (b0_1 y) (m y)))) (x : σ) (hx : I x) {s : St} (hw : Weak KK 73 0 s (h45_0 (t0 x) (t1 x) (t6 x) (t7 x) (t9 x) (t10 x) (b0_0 x) (b0_1 x) (m x))) : Tri pg KK 73 0 (.loop c45_0) s (q45_0 R) :=
  Tri.weak hw (Tri.loops fol I (fun x => h45_0 (t0 x) (t1 x) (t6 x) (t7 x) (t9 x) (t10 x) (b0_0 x) (b0_1 x) (m x)) μ (fun x hx => (B45_0_eq (t0 x) (t1 x) (t6 x) (t7 x) (t9 x) (t10 x) (b0_0 x) (b0_1 x) (m x) R _).mpr (step x hx)) x hx)
noncomputable def F45 (a0 : AV) (a1 : AV) (a2_0 : Int) (a2_1 : Int) (R : AV → Mem → Prop) : Prop :=
callQ pg KK.gl ((0, some ⟨[(intA a2_0), (intA a2_1)], 38⟩) :: []) 64 [a0, a1] fun v0 =>
exT2 v0 fun c1 c2 =>
ex_i64 c1 fun z3 =>
ex_i64 c2 fun z4 =>
Tri pg KK 73 0 (.loop c45_0) ⟨[(0, a0), (1, a1), (2, (AV.agg [(intA a2_0), (intA a2_1)])), (5, (AV.ptr 0 0)), (6, AV.nils), (7, AV.nils), (17, a0), (18, a1), (19, (AV.tup [(intA z3), (intA z4)])), (16, (AV.tup [(intA z3), (intA z4)])), (20, (intA z3)), (21, (intA z4)), (8, (intA z3)), (9, (intA z4)), (22, (intA z3)), (10, (intA z3))], ((0, some ⟨[(intA a2_0), (intA a2_1)], 38⟩) :: []), 76⟩ (q45_0 R)
theorem F45_own (a0 : AV) (a1 : AV) (a2_0 : Int) (a2_1 : Int) (R : AV → Mem → Prop) (h : F45 a0 a1 a2_0 a2_1 R) : Own pg KK.gl 45 [a0, a1, (AV.agg [(intA a2_0), (intA a2_1)])] R := own_of_F fol Tryz.func45 (code := c45) (by kernel_rfl) (by kernel_rfl) (by kernel_rfl) (X := F45 a0 a1 a2_0 a2_1 R) (by kernel_rfl) h
/- skyway/probe.Pair -/
noncomputable def c63 : Code := ((Tryz.f63).body).getD .skip
noncomputable def q63 (R : AV → Mem → Prop) : AExit → St → Prop := retQ pg Tryz.f63 R
noncomputable def F63 (a0 : AV) (a1 : AV) (a2_0 : Int) (a2_1 : Int) (R : AV → Mem → Prop) : Prop :=
opN (bsl 6 23 1 2 [AV.nils] [(0, a0), (1, a1)]) ((0, some ⟨[(intA a2_0), (intA a2_1)], 38⟩) :: []) fun v0 m0 =>
callQ pg KK.gl m0 44 [(AV.agg [(intA a2_0), (intA a2_1)]), v0] fun v1 =>
ex_i64 v1 fun z2 =>
bif (z2 != (0)) then (
retL R m0 [some AV.nils, some (intA z2)]) else (
opP (ldA (mget m0) 2 (AV.ptr 0 0)) fun v3 =>
exA2 v3 fun c4 c5 =>
ex_i64 c4 fun z6 =>
ex_i64 c5 fun z7 =>
callQ pg KK.gl m0 45 [a0, a1, (AV.agg [(intA z6), (intA z7)])] fun v8 =>
retL R m0 [some v8, some (intA (0))])
theorem F63_own (a0 : AV) (a1 : AV) (a2_0 : Int) (a2_1 : Int) (R : AV → Mem → Prop) (h : F63 a0 a1 a2_0 a2_1 R) : Own pg KK.gl 63 [a0, a1, (AV.agg [(intA a2_0), (intA a2_1)])] R := own_of_F fol Tryz.func63 (code := c63) (by kernel_rfl) (by kernel_rfl) (by kernel_rfl) (X := F63 a0 a1 a2_0 a2_1 R) (by kernel_rfl) h
/- skyway/probe.First -/
noncomputable def c42 : Code := ((Tryz.f42).body).getD .skip
noncomputable def q42 (R : AV → Mem → Prop) : AExit → St → Prop := retQ pg Tryz.f42 R
noncomputable def F42 (a0 : AV) (a1 : AV) (a2_0 : Int) (a2_1 : Int) (R : AV → Mem → Prop) : Prop :=
callQ pg KK.gl ((0, some ⟨[(intA a2_0), (intA a2_1)], 38⟩) :: []) 63 [a0, a1, (AV.agg [(intA a2_0), (intA a2_1)])] fun v0 =>
exT2 v0 fun c1 c2 =>
ex_i64 c2 fun z3 =>
bif (z3 != (0)) then (
retL R ((0, some ⟨[(intA a2_0), (intA a2_1)], 38⟩) :: []) [some (intA (0)), some (intA z3)]) else (
opP (lenS c1) fun v4 =>
ex_i64 v4 fun z5 =>
bif (z5 == (0)) then (
retL R ((0, some ⟨[(intA a2_0), (intA a2_1)], 38⟩) :: []) [some (intA (0)), some (intA (8))]) else (
opP (idxS 2 c1 (intA (0))) fun v6 =>
opP (fldO 0 v6) fun v7 =>
opP (ldS (mget ((0, some ⟨[(intA a2_0), (intA a2_1)], 38⟩) :: [])) v7) fun v8 =>
ex_i64 v8 fun z9 =>
retL R ((0, some ⟨[(intA a2_0), (intA a2_1)], 38⟩) :: []) [some (intA z9), some (intA (0))]))
theorem F42_own (a0 : AV) (a1 : AV) (a2_0 : Int) (a2_1 : Int) (R : AV → Mem → Prop) (h : F42 a0 a1 a2_0 a2_1 R) : Own pg KK.gl 42 [a0, a1, (AV.agg [(intA a2_0), (intA a2_1)])] R := own_of_F fol Tryz.func42 (code := c42) (by kernel_rfl) (by kernel_rfl) (by kernel_rfl) (X := F42 a0 a1 a2_0 a2_1 R) (by kernel_rfl) h
/- skyway/angle.Norm -/
noncomputable def c29 : Code := ((Tryz.f29).body).getD .skip
noncomputable def q29 (R : AV → Mem → Prop) : AExit → St → Prop := retQ pg Tryz.f29 R
noncomputable def F29 (a0 : Int) (R : AV → Mem → Prop) : Prop :=
retL R [] [some (intA (Int.tmod (IntKind.wrap .i64 ((Int.tmod a0 (4096)) + (4096))) (4096)))]
theorem F29_own (a0 : Int) (R : AV → Mem → Prop) (h : F29 a0 R) : Own pg KK.gl 29 [(intA a0)] R := own_of_F fol Tryz.func29 (code := c29) (by kernel_rfl) (by kernel_rfl) (by kernel_rfl) (X := F29 a0 R) (by kernel_rfl) h
/- math.IsNaN -/
noncomputable def c112 : Code := ((Tryz.f112).body).getD .skip
noncomputable def q112 (R : AV → Mem → Prop) : AExit → St → Prop := retQ pg Tryz.f112 R
noncomputable def F112 (a0 : Nat) (R : AV → Mem → Prop) : Prop :=
fcm pg .neq 127 4 a0 a0 3 fun b1 =>
retL R [] [some (boolA b1)]
theorem F112_own (a0 : Nat) (R : AV → Mem → Prop) (h : F112 a0 R) : Own pg KK.gl 112 [(AV.sc (.float .f64 a0))] R := own_of_F fol Tryz.func112 (code := c112) (by kernel_rfl) (by kernel_rfl) (by kernel_rfl) (X := F112 a0 R) (by kernel_rfl) h
/- math.Abs -/
noncomputable def c123 : Code := ((Tryz.f123).body).getD .skip
noncomputable def q123 (R : AV → Mem → Prop) : AExit → St → Prop := retQ pg Tryz.f123 R
noncomputable def F123 (a0 : Nat) (R : AV → Mem → Prop) : Prop :=
callQ pg KK.gl [] 126 [(AV.sc (.float .f64 a0))] fun v0 =>
ex_u64 v0 fun z1 =>
opP (opA pg (.binOp .andNot 152 (.tmp 0) (.tmp 1) 152) 152 [(AV.sc (.int .u64 z1)), (AV.sc (.int .u64 (9223372036854775808)))] (mget []) 66) fun v2 =>
ex_u64 v2 fun z3 =>
callQ pg KK.gl [] 125 [(AV.sc (.int .u64 z3))] fun v4 =>
exF v4 fun r5 =>
retL R [] [some (AV.sc (.float .f64 r5))]
theorem F123_own (a0 : Nat) (R : AV → Mem → Prop) (h : F123 a0 R) : Own pg KK.gl 123 [(AV.sc (.float .f64 a0))] R := own_of_F fol Tryz.func123 (code := c123) (by kernel_rfl) (by kernel_rfl) (by kernel_rfl) (X := F123 a0 R) (by kernel_rfl) h
/- math.IsInf -/
noncomputable def c113 : Code := ((Tryz.f113).body).getD .skip
noncomputable def q113 (R : AV → Mem → Prop) : AExit → St → Prop := retQ pg Tryz.f113 R
noncomputable def F113 (a0 : Nat) (a1 : Int) (R : AV → Mem → Prop) : Prop :=
bif (a1 == (0)) then (
callQ pg KK.gl [] 123 [(AV.sc (.float .f64 a0))] fun v0 =>
exF v0 fun r1 =>
fcm pg .gtr 127 4 r1 9218868437227405311 70 fun b3 =>
retL R [] [some (boolA b3)]) else (
bif (decide (a1 < (0))) then (
fng pg 127 a0 6 fun r5 =>
fcm pg .gtr 127 4 r5 9218868437227405311 9 fun b7 =>
retL R [] [some (boolA b7)]) else (
fcm pg .gtr 127 4 a0 9218868437227405311 6 fun b9 =>
retL R [] [some (boolA b9)]))
theorem F113_own (a0 : Nat) (a1 : Int) (R : AV → Mem → Prop) (h : F113 a0 a1 R) : Own pg KK.gl 113 [(AV.sc (.float .f64 a0)), (intA a1)] R := own_of_F fol Tryz.func113 (code := c113) (by kernel_rfl) (by kernel_rfl) (by kernel_rfl) (X := F113 a0 a1 R) (by kernel_rfl) h
/- math.NaN -/
noncomputable def c115 : Code := ((Tryz.f115).body).getD .skip
noncomputable def q115 (R : AV → Mem → Prop) : AExit → St → Prop := retQ pg Tryz.f115 R
noncomputable def F115 (R : AV → Mem → Prop) : Prop :=
callQ pg KK.gl [] 125 [(AV.sc (.int .u64 (9221120237041090561)))] fun v0 =>
exF v0 fun r1 =>
retL R [] [some (AV.sc (.float .f64 r1))]
theorem F115_own (R : AV → Mem → Prop) (h : F115  R) : Own pg KK.gl 115 [] R := own_of_F fol Tryz.func115 (code := c115) (by kernel_rfl) (by kernel_rfl) (by kernel_rfl) (X := F115  R) (by kernel_rfl) h
end Go.Proofs.YteaimbiojpjneaaGreatDoor
