/- Functions of the program as conditions on their answers; printed by wip/Gen.lean.txt. -/
import Derived.Test.YtbnnndfcaehlpaaGreatDoorX1T
set_option linter.unusedVariables false
set_option maxRecDepth 100000
set_option maxHeartbeats 4000000
namespace Go.Proofs.YtbnnndfcaehlpaaGreatDoor
/- skyway/probe.CheckSep -/
noncomputable def c159 : Code := ((Tryz.f159).body).getD .skip
noncomputable def q159 (R : AV → Mem → Prop) : AExit → St → Prop := retQ pg Tryz.f159 R
noncomputable def F159 (a0_0 : Int) (a0_1 : Int) (R : AV → Mem → Prop) : Prop :=
bif (decide (a0_0 < (0))) then (
retL R ((0, some ⟨[(intA a0_0), (intA a0_1)], 91⟩) :: []) [some (intA (4))]) else (
bif (decide (a0_0 > (1000000))) then (
retL R ((0, some ⟨[(intA a0_0), (intA a0_1)], 91⟩) :: []) [some (intA (4))]) else (
bif (decide (a0_1 < (0))) then (
retL R ((0, some ⟨[(intA a0_0), (intA a0_1)], 91⟩) :: []) [some (intA (4))]) else (
bif (decide (a0_1 > (60000))) then (
retL R ((0, some ⟨[(intA a0_0), (intA a0_1)], 91⟩) :: []) [some (intA (4))]) else (
retL R ((0, some ⟨[(intA a0_0), (intA a0_1)], 91⟩) :: []) [some (intA (0))]))))
theorem F159_own (a0_0 : Int) (a0_1 : Int) (R : AV → Mem → Prop) (h : F159 a0_0 a0_1 R) : Own pg KK.gl 159 [(AV.agg [(intA a0_0), (intA a0_1)])] R := own_of_F fol Tryz.func159 (code := c159) (by kernel_rfl) (by kernel_rfl) (by kernel_rfl) (X := F159 a0_0 a0_1 R) (by kernel_rfl) h
/- skyway/plane.Check -/
noncomputable def c72 : Code := ((Tryz.f72).body).getD .skip
noncomputable def q72 (R : AV → Mem → Prop) : AExit → St → Prop := retQ pg Tryz.f72 R
noncomputable def F72 (a0_0 : Int) (a0_1 : Int) (R : AV → Mem → Prop) : Prop :=
bif (decide (a0_0 < (-1000000))) then (
retL R ((0, some ⟨[(intA a0_0), (intA a0_1)], 86⟩) :: []) [some (intA (4))]) else (
bif (decide (a0_0 > (1000000))) then (
retL R ((0, some ⟨[(intA a0_0), (intA a0_1)], 86⟩) :: []) [some (intA (4))]) else (
bif (decide (a0_1 < (-1000000))) then (
retL R ((0, some ⟨[(intA a0_0), (intA a0_1)], 86⟩) :: []) [some (intA (4))]) else (
bif (decide (a0_1 > (1000000))) then (
retL R ((0, some ⟨[(intA a0_0), (intA a0_1)], 86⟩) :: []) [some (intA (4))]) else (
retL R ((0, some ⟨[(intA a0_0), (intA a0_1)], 86⟩) :: []) [some (intA (0))]))))
theorem F72_own (a0_0 : Int) (a0_1 : Int) (R : AV → Mem → Prop) (h : F72 a0_0 a0_1 R) : Own pg KK.gl 72 [(AV.agg [(intA a0_0), (intA a0_1)])] R := own_of_F fol Tryz.func72 (code := c72) (by kernel_rfl) (by kernel_rfl) (by kernel_rfl) (X := F72 a0_0 a0_1 R) (by kernel_rfl) h
/- skyway/tube.Check -/
noncomputable def c67 : Code := ((Tryz.f67).body).getD .skip
noncomputable def q67 (R : AV → Mem → Prop) : AExit → St → Prop := retQ pg Tryz.f67 R
noncomputable def c67_0 : Code := loopB c67 0
noncomputable def q67_0 (R : AV → Mem → Prop) : AExit → St → Prop := contW pg KK 86 0 c67 0 (q67 R)
noncomputable def qq67_0 (R : AV → Mem → Prop) (N0 : St → Prop) : AExit → St → Prop := thenQ N0 (q67_0 R)
def h67_0 (t0 : AV) (t2 : Int) (t14 : AV) (t15 : Int) (t16 : Int) (m : Mem) : St := ⟨[(0, t0), (2, (intA t2)), (14, t14), (15, (intA t15)), (16, (intA t16))], m, 100000⟩
noncomputable def B67_0 (t0 : AV) (t2 : Int) (t14 : AV) (t15 : Int) (t16 : Int) (m : Mem) (R : AV → Mem → Prop) (N0 : St → Prop) : Prop :=
bif (decide (t16 < t15)) then (
opP (idxS 6 t14 (intA t16)) fun v6 =>
opP (ldA (mget m) 6 v6) fun v7 =>
exA6 v7 fun c8 c9 c10 c11 c12 c13 =>
ex_i64 c8 fun z14 =>
ex_i64 c9 fun z15 =>
ex_i64 c10 fun z16 =>
ex_i64 c11 fun z17 =>
ex_i64 c12 fun z18 =>
ex_i64 c13 fun z19 =>
bif (decide (z14 < (0))) then (
retL R ((100004, some ⟨[(intA z14), (intA z15), (intA z16), (intA z17), (intA z18), (intA z19)], 131⟩) :: (100004, some ⟨[(intA (0)), (intA (0)), (intA (0)), (intA (0)), (intA (0)), (intA (0))], 131⟩) :: m) [some (intA (12))]) else (
bif (decide (z14 > (200000))) then (
retL R ((100004, some ⟨[(intA z14), (intA z15), (intA z16), (intA z17), (intA z18), (intA z19)], 131⟩) :: (100004, some ⟨[(intA (0)), (intA (0)), (intA (0)), (intA (0)), (intA (0)), (intA (0))], 131⟩) :: m) [some (intA (12))]) else (
bif (decide (t16 > (0))) then (
opP (idxS 6 t0 (intA (IntKind.wrap .i64 (t16 - (1))))) fun v20 =>
opP (fldO 0 v20) fun v21 =>
opP (fldO 0 v21) fun v22 =>
opP (ldS (mget ((100004, some ⟨[(intA z14), (intA z15), (intA z16), (intA z17), (intA z18), (intA z19)], 131⟩) :: (100004, some ⟨[(intA (0)), (intA (0)), (intA (0)), (intA (0)), (intA (0)), (intA (0))], 131⟩) :: m)) v22) fun v23 =>
ex_i64 v23 fun z24 =>
bif (decide (z14 ≤ z24)) then (
retL R ((100004, some ⟨[(intA z14), (intA z15), (intA z16), (intA z17), (intA z18), (intA z19)], 131⟩) :: (100004, some ⟨[(intA (0)), (intA (0)), (intA (0)), (intA (0)), (intA (0)), (intA (0))], 131⟩) :: m) [some (intA (12))]) else (
callQ pg KK.gl ((100004, some ⟨[(intA z14), (intA z15), (intA z16), (intA z17), (intA z18), (intA z19)], 131⟩) :: (100004, some ⟨[(intA (0)), (intA (0)), (intA (0)), (intA (0)), (intA (0)), (intA (0))], 131⟩) :: m) 72 [(AV.agg [(intA z15), (intA z16)])] fun v25 =>
ex_i64 v25 fun z26 =>
bif (z26 != (0)) then (
retL R ((100004, some ⟨[(intA z14), (intA z15), (intA z16), (intA z17), (intA z18), (intA z19)], 131⟩) :: (100004, some ⟨[(intA (0)), (intA (0)), (intA (0)), (intA (0)), (intA (0)), (intA (0))], 131⟩) :: m) [some (intA z26)]) else (
bif (decide (z17 < (0))) then (
retL R ((100004, some ⟨[(intA z14), (intA z15), (intA z16), (intA z17), (intA z18), (intA z19)], 131⟩) :: (100004, some ⟨[(intA (0)), (intA (0)), (intA (0)), (intA (0)), (intA (0)), (intA (0))], 131⟩) :: m) [some (intA (4))]) else (
bif (decide (z17 > (60000))) then (
retL R ((100004, some ⟨[(intA z14), (intA z15), (intA z16), (intA z17), (intA z18), (intA z19)], 131⟩) :: (100004, some ⟨[(intA (0)), (intA (0)), (intA (0)), (intA (0)), (intA (0)), (intA (0))], 131⟩) :: m) [some (intA (4))]) else (
bif (decide (z18 < (0))) then (
retL R ((100004, some ⟨[(intA z14), (intA z15), (intA z16), (intA z17), (intA z18), (intA z19)], 131⟩) :: (100004, some ⟨[(intA (0)), (intA (0)), (intA (0)), (intA (0)), (intA (0)), (intA (0))], 131⟩) :: m) [some (intA (4))]) else (
bif (decide (z18 > (1000000))) then (
retL R ((100004, some ⟨[(intA z14), (intA z15), (intA z16), (intA z17), (intA z18), (intA z19)], 131⟩) :: (100004, some ⟨[(intA (0)), (intA (0)), (intA (0)), (intA (0)), (intA (0)), (intA (0))], 131⟩) :: m) [some (intA (4))]) else (
bif (decide (z19 < (0))) then (
retL R ((100004, some ⟨[(intA z14), (intA z15), (intA z16), (intA z17), (intA z18), (intA z19)], 131⟩) :: (100004, some ⟨[(intA (0)), (intA (0)), (intA (0)), (intA (0)), (intA (0)), (intA (0))], 131⟩) :: m) [some (intA (4))]) else (
bif (decide (z19 > (60000))) then (
retL R ((100004, some ⟨[(intA z14), (intA z15), (intA z16), (intA z17), (intA z18), (intA z19)], 131⟩) :: (100004, some ⟨[(intA (0)), (intA (0)), (intA (0)), (intA (0)), (intA (0)), (intA (0))], 131⟩) :: m) [some (intA (4))]) else (
N0 ⟨[(0, t0), (2, (intA t2)), (14, t14), (15, (intA t15)), (16, (intA (IntKind.wrap .i64 (t16 + (1))))), (17, (boolA (decide (t16 < t15)))), (18, (intA t16)), (19, v6), (20, (AV.agg [(intA z14), (intA z15), (intA z16), (intA z17), (intA z18), (intA z19)])), (4, (AV.ptr 100004 0)), (3, (intA t16)), (21, (AV.ptr 100004 0)), (22, (AV.ptr 100004 0)), (23, (intA z14)), (24, (boolA (decide (z14 < (0))))), (25, (boolA false)), (26, (AV.ptr 100004 0)), (27, (AV.ptr 100004 0)), (28, (intA z14)), (29, (boolA (decide (z14 > (200000))))), (30, (boolA (decide (z14 > (200000))))), (31, (boolA false)), (32, (intA t16)), (33, (boolA (decide (t16 > (0))))), (34, (boolA true)), (35, (AV.ptr 100004 0)), (36, (AV.ptr 100004 0)), (37, (intA z14)), (38, t0), (39, (intA t16)), (40, (intA (IntKind.wrap .i64 (t16 - (1))))), (41, v20), (42, v21), (43, v22), (44, (intA z24)), (45, (boolA (decide (z14 ≤ z24)))), (46, (boolA (decide (z14 ≤ z24)))), (47, (boolA (decide (z14 ≤ z24)))), (48, (AV.ptr 100004 0)), (49, (AV.ptr 100004 1)), (50, (AV.agg [(intA z15), (intA z16)])), (51, (intA z26)), (5, (intA z26)), (52, (intA z26)), (53, (boolA (z26 != (0)))), (55, (AV.ptr 100004 0)), (56, (AV.ptr 100004 3)), (57, (intA z17)), (58, (boolA (decide (z17 < (0))))), (59, (boolA false)), (60, (AV.ptr 100004 0)), (61, (AV.ptr 100004 3)), (62, (intA z17)), (63, (boolA (decide (z17 > (60000))))), (64, (boolA (decide (z17 > (60000))))), (65, (boolA false)), (66, (AV.ptr 100004 4)), (67, (intA z18)), (68, (boolA (decide (z18 < (0))))), (69, (boolA (decide (z18 < (0))))), (70, (boolA false)), (71, (AV.ptr 100004 4)), (72, (intA z18)), (73, (boolA (decide (z18 > (1000000))))), (74, (boolA (decide (z18 > (1000000))))), (75, (boolA false)), (76, (AV.ptr 100004 5)), (77, (intA z19)), (78, (boolA (decide (z19 < (0))))), (79, (boolA (decide (z19 < (0))))), (80, (boolA false)), (81, (AV.ptr 100004 5)), (82, (intA z19)), (83, (boolA (decide (z19 > (60000))))), (84, (boolA (decide (z19 > (60000))))), (85, (intA (IntKind.wrap .i64 (t16 + (1)))))], ((100004, some ⟨[(intA z14), (intA z15), (intA z16), (intA z17), (intA z18), (intA z19)], 131⟩) :: (100004, some ⟨[(intA (0)), (intA (0)), (intA (0)), (intA (0)), (intA (0)), (intA (0))], 131⟩) :: m), 100136⟩))))))))) else (
callQ pg KK.gl ((100004, some ⟨[(intA z14), (intA z15), (intA z16), (intA z17), (intA z18), (intA z19)], 131⟩) :: (100004, some ⟨[(intA (0)), (intA (0)), (intA (0)), (intA (0)), (intA (0)), (intA (0))], 131⟩) :: m) 72 [(AV.agg [(intA z15), (intA z16)])] fun v27 =>
ex_i64 v27 fun z28 =>
bif (z28 != (0)) then (
retL R ((100004, some ⟨[(intA z14), (intA z15), (intA z16), (intA z17), (intA z18), (intA z19)], 131⟩) :: (100004, some ⟨[(intA (0)), (intA (0)), (intA (0)), (intA (0)), (intA (0)), (intA (0))], 131⟩) :: m) [some (intA z28)]) else (
bif (decide (z17 < (0))) then (
retL R ((100004, some ⟨[(intA z14), (intA z15), (intA z16), (intA z17), (intA z18), (intA z19)], 131⟩) :: (100004, some ⟨[(intA (0)), (intA (0)), (intA (0)), (intA (0)), (intA (0)), (intA (0))], 131⟩) :: m) [some (intA (4))]) else (
bif (decide (z17 > (60000))) then (
retL R ((100004, some ⟨[(intA z14), (intA z15), (intA z16), (intA z17), (intA z18), (intA z19)], 131⟩) :: (100004, some ⟨[(intA (0)), (intA (0)), (intA (0)), (intA (0)), (intA (0)), (intA (0))], 131⟩) :: m) [some (intA (4))]) else (
bif (decide (z18 < (0))) then (
retL R ((100004, some ⟨[(intA z14), (intA z15), (intA z16), (intA z17), (intA z18), (intA z19)], 131⟩) :: (100004, some ⟨[(intA (0)), (intA (0)), (intA (0)), (intA (0)), (intA (0)), (intA (0))], 131⟩) :: m) [some (intA (4))]) else (
bif (decide (z18 > (1000000))) then (
retL R ((100004, some ⟨[(intA z14), (intA z15), (intA z16), (intA z17), (intA z18), (intA z19)], 131⟩) :: (100004, some ⟨[(intA (0)), (intA (0)), (intA (0)), (intA (0)), (intA (0)), (intA (0))], 131⟩) :: m) [some (intA (4))]) else (
bif (decide (z19 < (0))) then (
retL R ((100004, some ⟨[(intA z14), (intA z15), (intA z16), (intA z17), (intA z18), (intA z19)], 131⟩) :: (100004, some ⟨[(intA (0)), (intA (0)), (intA (0)), (intA (0)), (intA (0)), (intA (0))], 131⟩) :: m) [some (intA (4))]) else (
bif (decide (z19 > (60000))) then (
retL R ((100004, some ⟨[(intA z14), (intA z15), (intA z16), (intA z17), (intA z18), (intA z19)], 131⟩) :: (100004, some ⟨[(intA (0)), (intA (0)), (intA (0)), (intA (0)), (intA (0)), (intA (0))], 131⟩) :: m) [some (intA (4))]) else (
N0 ⟨[(0, t0), (2, (intA t2)), (14, t14), (15, (intA t15)), (16, (intA (IntKind.wrap .i64 (t16 + (1))))), (17, (boolA (decide (t16 < t15)))), (18, (intA t16)), (19, v6), (20, (AV.agg [(intA z14), (intA z15), (intA z16), (intA z17), (intA z18), (intA z19)])), (4, (AV.ptr 100004 0)), (3, (intA t16)), (21, (AV.ptr 100004 0)), (22, (AV.ptr 100004 0)), (23, (intA z14)), (24, (boolA (decide (z14 < (0))))), (25, (boolA false)), (26, (AV.ptr 100004 0)), (27, (AV.ptr 100004 0)), (28, (intA z14)), (29, (boolA (decide (z14 > (200000))))), (30, (boolA (decide (z14 > (200000))))), (31, (boolA false)), (32, (intA t16)), (33, (boolA (decide (t16 > (0))))), (34, (boolA false)), (35, (AV.tup [])), (36, (AV.tup [])), (37, (AV.tup [])), (38, (AV.tup [])), (39, (AV.tup [])), (40, (AV.tup [])), (41, (AV.tup [])), (42, (AV.tup [])), (43, (AV.tup [])), (44, (AV.tup [])), (45, (AV.tup [])), (46, (boolA false)), (47, (boolA false)), (48, (AV.ptr 100004 0)), (49, (AV.ptr 100004 1)), (50, (AV.agg [(intA z15), (intA z16)])), (51, (intA z28)), (5, (intA z28)), (52, (intA z28)), (53, (boolA (z28 != (0)))), (55, (AV.ptr 100004 0)), (56, (AV.ptr 100004 3)), (57, (intA z17)), (58, (boolA (decide (z17 < (0))))), (59, (boolA false)), (60, (AV.ptr 100004 0)), (61, (AV.ptr 100004 3)), (62, (intA z17)), (63, (boolA (decide (z17 > (60000))))), (64, (boolA (decide (z17 > (60000))))), (65, (boolA false)), (66, (AV.ptr 100004 4)), (67, (intA z18)), (68, (boolA (decide (z18 < (0))))), (69, (boolA (decide (z18 < (0))))), (70, (boolA false)), (71, (AV.ptr 100004 4)), (72, (intA z18)), (73, (boolA (decide (z18 > (1000000))))), (74, (boolA (decide (z18 > (1000000))))), (75, (boolA false)), (76, (AV.ptr 100004 5)), (77, (intA z19)), (78, (boolA (decide (z19 < (0))))), (79, (boolA (decide (z19 < (0))))), (80, (boolA false)), (81, (AV.ptr 100004 5)), (82, (intA z19)), (83, (boolA (decide (z19 > (60000))))), (84, (boolA (decide (z19 > (60000))))), (85, (intA (IntKind.wrap .i64 (t16 + (1)))))], ((100004, some ⟨[(intA z14), (intA z15), (intA z16), (intA z17), (intA z18), (intA z19)], 131⟩) :: (100004, some ⟨[(intA (0)), (intA (0)), (intA (0)), (intA (0)), (intA (0)), (intA (0))], 131⟩) :: m), 100136⟩))))))))))) else (
retL R m [some (intA (0))])
theorem B67_0_eq (t0 : AV) (t2 : Int) (t14 : AV) (t15 : Int) (t16 : Int) (m : Mem) (R : AV → Mem → Prop) (N0 : St → Prop) : W pg KK 86 0 c67_0 (h67_0 t0 t2 t14 t15 t16 m) (qq67_0 R N0) = B67_0 t0 t2 t14 t15 t16 m R N0 := by kernel_rfl
theorem L67_0 (R : AV → Mem → Prop) {σ : Type} (I : σ → Prop) (t0 : σ → AV) (t2 : σ → Int) (t14 : σ → AV) (t15 : σ → Int) (t16 : σ → Int) (m : σ → Mem) (μ : σ → Nat) (step : ∀ x, I x → B67_0 (t0 x) (t2 x) (t14 x) (t15 x) (t16 x) (m x) R (fun s' => ∃ y, I y ∧ μ y < μ x ∧ Weak KK 86 0 s' (h67_0 (t0 y) (t2 y) (t14 y) (t15 y) (t16 y) (m y)))) (x : σ) (hx : I x) {s : St} (hw : Weak KK 86 0 s (h67_0 (t0 x) (t2 x) (t14 x) (t15 x) (t16 x) (m x))) : Tri pg KK 86 0 (.loop c67_0) s (q67_0 R) :=
  Tri.weak hw (Tri.loops fol I (fun x => h67_0 (t0 x) (t2 x) (t14 x) (t15 x) (t16 x) (m x)) μ (fun x hx => (B67_0_eq (t0 x) (t2 x) (t14 x) (t15 x) (t16 x) (m x) R _).mpr (step x hx)) x hx)
noncomputable def F67 (a0 : AV) (R : AV → Mem → Prop) : Prop :=
opP (lenS a0) fun v0 =>
ex_i64 v0 fun z1 =>
bif (decide (z1 > (64))) then (
retL R [] [some (intA (2))]) else (
opP (lenS a0) fun v2 =>
ex_i64 v2 fun z3 =>
bif (z3 == (0)) then (
retL R [] [some (intA (3))]) else (
opP (lenS a0) fun v4 =>
ex_i64 v4 fun z5 =>
Tri pg KK 86 0 (.loop c67_0) ⟨[(0, a0), (2, (intA (0))), (7, a0), (8, (intA z1)), (9, (boolA (decide (z1 > (64))))), (6, (boolA (decide (z1 > (64))))), (11, a0), (12, (intA z3)), (13, (boolA (z3 == (0)))), (10, (boolA (z3 == (0)))), (14, a0), (15, (intA z5)), (16, (intA (0)))], [], 12⟩ (q67_0 R)))
theorem F67_own (a0 : AV) (R : AV → Mem → Prop) (h : F67 a0 R) : Own pg KK.gl 67 [a0] R := own_of_F fol Tryz.func67 (code := c67) (by kernel_rfl) (by kernel_rfl) (by kernel_rfl) (X := F67 a0 R) (by kernel_rfl) h
/- skyway/probe.check -/
noncomputable def c140 : Code := ((Tryz.f140).body).getD .skip
noncomputable def q140 (R : AV → Mem → Prop) : AExit → St → Prop := retQ pg Tryz.f140 R
noncomputable def c140_0 : Code := loopB c140 0
noncomputable def q140_0 (R : AV → Mem → Prop) : AExit → St → Prop := contW pg KK 26 0 c140 0 (q140 R)
noncomputable def qq140_0 (R : AV → Mem → Prop) (N0 : St → Prop) : AExit → St → Prop := thenQ N0 (q140_0 R)
def h140_0 (t4 : Int) (t14 : AV) (t15 : Int) (t16 : Int) (m : Mem) : St := ⟨[(4, (intA t4)), (14, t14), (15, (intA t15)), (16, (intA t16))], m, 100000⟩
noncomputable def B140_0 (t4 : Int) (t14 : AV) (t15 : Int) (t16 : Int) (m : Mem) (R : AV → Mem → Prop) (N0 : St → Prop) : Prop :=
bif (decide (t16 < t15)) then (
opP (idxS 1 t14 (intA t16)) fun v4 =>
opP (ldS (mget m) v4) fun v5 =>
callQ pg KK.gl m 67 [v5] fun v6 =>
ex_i64 v6 fun z7 =>
bif (z7 != (0)) then (
retL R m [some (intA z7)]) else (
N0 ⟨[(4, (intA t4)), (14, t14), (15, (intA t15)), (16, (intA (IntKind.wrap .i64 (t16 + (1))))), (17, (boolA (decide (t16 < t15)))), (18, v4), (19, v5), (7, v5), (20, v5), (21, (intA z7)), (8, (intA z7)), (22, (intA z7)), (23, (boolA (z7 != (0)))), (25, (intA (IntKind.wrap .i64 (t16 + (1)))))], m, 100074⟩)) else (
retL R m [some (intA (0))])
theorem B140_0_eq (t4 : Int) (t14 : AV) (t15 : Int) (t16 : Int) (m : Mem) (R : AV → Mem → Prop) (N0 : St → Prop) : W pg KK 26 0 c140_0 (h140_0 t4 t14 t15 t16 m) (qq140_0 R N0) = B140_0 t4 t14 t15 t16 m R N0 := by kernel_rfl
theorem L140_0 (R : AV → Mem → Prop) {σ : Type} (I : σ → Prop) (t4 : σ → Int) (t14 : σ → AV) (t15 : σ → Int) (t16 : σ → Int) (m : σ → Mem) (μ : σ → Nat) (step : ∀ x, I x → B140_0 (t4 x) (t14 x) (t15 x) (t16 x) (m x) R (fun s' => ∃ y, I y ∧ μ y < μ x ∧ Weak KK 26 0 s' (h140_0 (t4 y) (t14 y) (t15 y) (t16 y) (m y)))) (x : σ) (hx : I x) {s : St} (hw : Weak KK 26 0 s (h140_0 (t4 x) (t14 x) (t15 x) (t16 x) (m x))) : Tri pg KK 26 0 (.loop c140_0) s (q140_0 R) :=
  Tri.weak hw (Tri.loops fol I (fun x => h140_0 (t4 x) (t14 x) (t15 x) (t16 x) (m x)) μ (fun x hx => (B140_0_eq (t4 x) (t14 x) (t15 x) (t16 x) (m x) R _).mpr (step x hx)) x hx)
noncomputable def F140 (a0_0 : Int) (a0_1 : Int) (a1 : AV) (R : AV → Mem → Prop) : Prop :=
callQ pg KK.gl ((0, some ⟨[(intA a0_0), (intA a0_1)], 91⟩) :: []) 159 [(AV.agg [(intA a0_0), (intA a0_1)])] fun v0 =>
ex_i64 v0 fun z1 =>
bif (z1 != (0)) then (
retL R ((0, some ⟨[(intA a0_0), (intA a0_1)], 91⟩) :: []) [some (intA z1)]) else (
opP (lenS a1) fun v2 =>
ex_i64 v2 fun z3 =>
Tri pg KK 26 0 (.loop c140_0) ⟨[(0, (AV.agg [(intA a0_0), (intA a0_1)])), (1, a1), (2, (AV.ptr 0 0)), (4, (intA (0))), (9, (AV.agg [(intA a0_0), (intA a0_1)])), (10, (intA z1)), (5, (intA z1)), (11, (intA z1)), (12, (boolA (z1 != (0)))), (14, a1), (15, (intA z3)), (16, (intA (0)))], ((0, some ⟨[(intA a0_0), (intA a0_1)], 91⟩) :: []), 73⟩ (q140_0 R))
theorem F140_own (a0_0 : Int) (a0_1 : Int) (a1 : AV) (R : AV → Mem → Prop) (h : F140 a0_0 a0_1 a1 R) : Own pg KK.gl 140 [(AV.agg [(intA a0_0), (intA a0_1)]), a1] R := own_of_F fol Tryz.func140 (code := c140) (by kernel_rfl) (by kernel_rfl) (by kernel_rfl) (X := F140 a0_0 a0_1 a1 R) (by kernel_rfl) h
/- skyway/probe.common -/
noncomputable def c196 : Code := ((Tryz.f196).body).getD .skip
noncomputable def q196 (R : AV → Mem → Prop) : AExit → St → Prop := retQ pg Tryz.f196 R
noncomputable def F196 (a0 : AV) (a1 : AV) (R : AV → Mem → Prop) : Prop :=
opP (idxS 6 a0 (intA (0))) fun v0 =>
opP (fldO 0 v0) fun v1 =>
opP (fldO 0 v1) fun v2 =>
opP (ldS (mget []) v2) fun v3 =>
ex_i64 v3 fun z4 =>
opP (idxS 6 a1 (intA (0))) fun v5 =>
opP (fldO 0 v5) fun v6 =>
opP (fldO 0 v6) fun v7 =>
opP (ldS (mget []) v7) fun v8 =>
ex_i64 v8 fun z9 =>
opP (opA pg (.call ⟨.builtin .max, #[.tmp 0, .tmp 1], #[3, 3]⟩) 3 [(intA z4), (intA z9)] (mget []) 12) fun v10 =>
ex_i64 v10 fun z11 =>
opP (lenS a0) fun v12 =>
ex_i64 v12 fun z13 =>
opP (idxS 6 a0 (intA (IntKind.wrap .i64 (z13 - (1))))) fun v14 =>
opP (fldO 0 v14) fun v15 =>
opP (fldO 0 v15) fun v16 =>
opP (ldS (mget []) v16) fun v17 =>
ex_i64 v17 fun z18 =>
opP (lenS a1) fun v19 =>
ex_i64 v19 fun z20 =>
opP (idxS 6 a1 (intA (IntKind.wrap .i64 (z20 - (1))))) fun v21 =>
opP (fldO 0 v21) fun v22 =>
opP (fldO 0 v22) fun v23 =>
opP (ldS (mget []) v23) fun v24 =>
ex_i64 v24 fun z25 =>
opP (opA pg (.call ⟨.builtin .min, #[.tmp 0, .tmp 1], #[3, 3]⟩) 3 [(intA z18), (intA z25)] (mget []) 29) fun v26 =>
ex_i64 v26 fun z27 =>
retL R [] [some (intA z11), some (intA z27)]
theorem F196_own (a0 : AV) (a1 : AV) (R : AV → Mem → Prop) (h : F196 a0 a1 R) : Own pg KK.gl 196 [a0, a1] R := own_of_F fol Tryz.func196 (code := c196) (by kernel_rfl) (by kernel_rfl) (by kernel_rfl) (X := F196 a0 a1 R) (by kernel_rfl) h
/- skyway/tube.ends -/
noncomputable def c133 : Code := ((Tryz.f133).body).getD .skip
noncomputable def q133 (R : AV → Mem → Prop) : AExit → St → Prop := retQ pg Tryz.f133 R
noncomputable def F133 (a0 : AV) (R : AV → Mem → Prop) : Prop :=
opP (idxS 6 a0 (intA (0))) fun v0 =>
opP (fldO 0 v0) fun v1 =>
opP (fldO 0 v1) fun v2 =>
opP (ldS (mget []) v2) fun v3 =>
ex_i64 v3 fun z4 =>
opP (lenS a0) fun v5 =>
ex_i64 v5 fun z6 =>
opP (idxS 6 a0 (intA (IntKind.wrap .i64 (z6 - (1))))) fun v7 =>
opP (fldO 0 v7) fun v8 =>
opP (fldO 0 v8) fun v9 =>
opP (ldS (mget []) v9) fun v10 =>
ex_i64 v10 fun z11 =>
retL R [] [some (intA z4), some (intA z11)]
theorem F133_own (a0 : AV) (R : AV → Mem → Prop) (h : F133 a0 R) : Own pg KK.gl 133 [a0] R := own_of_F fol Tryz.func133 (code := c133) (by kernel_rfl) (by kernel_rfl) (by kernel_rfl) (X := F133 a0 R) (by kernel_rfl) h
/- skyway/tube.at$1 -/
noncomputable def c185 : Code := ((Tryz.f185).body).getD .skip
noncomputable def q185 (R : AV → Mem → Prop) : AExit → St → Prop := retQ pg Tryz.f185 R
noncomputable def F185 (a0_0 : Int) (a0_1 : Int) (a0_2 : Int) (a0_3 : Int) (a0_4 : Int) (a0_5 : Int) (a1 : Int) (R : AV → Mem → Prop) : Prop :=
retL R ((0, some ⟨[(intA a0_0), (intA a0_1), (intA a0_2), (intA a0_3), (intA a0_4), (intA a0_5)], 131⟩) :: []) [some (intA (IntKind.wrap .i64 (a0_0 - a1)))]
theorem F185_own (a0_0 : Int) (a0_1 : Int) (a0_2 : Int) (a0_3 : Int) (a0_4 : Int) (a0_5 : Int) (a1 : Int) (R : AV → Mem → Prop) (h : F185 a0_0 a0_1 a0_2 a0_3 a0_4 a0_5 a1 R) : Own pg KK.gl 185 [(AV.agg [(intA a0_0), (intA a0_1), (intA a0_2), (intA a0_3), (intA a0_4), (intA a0_5)]), (intA a1)] R := own_of_F fol Tryz.func185 (code := c185) (by kernel_rfl) (by kernel_rfl) (by kernel_rfl) (X := F185 a0_0 a0_1 a0_2 a0_3 a0_4 a0_5 a1 R) (by kernel_rfl) h
/- slices.BinarySearchFunc[skyway/api.Tube,skyway/api.TubeNode,int] -/
noncomputable def c184 : Code := ((Tryz.f184).body).getD .skip
noncomputable def q184 (R : AV → Mem → Prop) : AExit → St → Prop := retQ pg Tryz.f184 R
noncomputable def c184_0 : Code := loopB c184 0
noncomputable def q184_0 (R : AV → Mem → Prop) : AExit → St → Prop := contW pg KK 49 0 c184 0 (q184 R)
noncomputable def qq184_0 (R : AV → Mem → Prop) (N0 : St → Prop) : AExit → St → Prop := thenQ N0 (q184_0 R)
def h184_0 (t0 : AV) (t1 : Int) (t2 : AV) (t6 : Int) (t7 : Bool) (t8 : Int) (t9 : Int) (t10 : Int) (m : Mem) : St := ⟨[(0, t0), (1, (intA t1)), (2, t2), (6, (intA t6)), (7, (boolA t7)), (8, (intA t8)), (9, (intA t9)), (10, (intA t10))], m, 100000⟩
noncomputable def B184_0 (t0 : AV) (t1 : Int) (t2 : AV) (t6 : Int) (t7 : Bool) (t8 : Int) (t9 : Int) (t10 : Int) (m : Mem) (R : AV → Mem → Prop) (N0 : St → Prop) : Prop :=
bif (decide (t9 < t10)) then (
opP (opA pg (.convert 3 135 (.tmp 0)) 135 [(intA (IntKind.wrap .i64 (t9 + t10)))] (mget m) 100006) fun v2 =>
ex_u64 v2 fun z3 =>
opP (opA pg (.binOp .shr 135 (.tmp 0) (.tmp 1) 135) 135 [(AV.sc (.int .u64 z3)), (AV.sc (.int .u64 (1)))] (mget m) 100007) fun v4 =>
ex_u64 v4 fun z5 =>
opP (opA pg (.convert 135 3 (.tmp 0)) 3 [(AV.sc (.int .u64 z5))] (mget m) 100008) fun v6 =>
ex_i64 v6 fun z7 =>
opP (idxS 6 t0 (intA z7)) fun v8 =>
opP (ldA (mget m) 6 v8) fun v9 =>
exA6 v9 fun c10 c11 c12 c13 c14 c15 =>
ex_i64 c10 fun z16 =>
ex_i64 c11 fun z17 =>
ex_i64 c12 fun z18 =>
ex_i64 c13 fun z19 =>
ex_i64 c14 fun z20 =>
ex_i64 c15 fun z21 =>
fnArgs (some t2) (some [(AV.agg [(intA z16), (intA z17), (intA z18), (intA z19), (intA z20), (intA z21)]), (intA t1)]) fun f22 a22 => bif KK.pm f22 then callQ pg KK.gl m f22 a22 (fun v22 =>
ex_i64 v22 fun z23 =>
bif (decide (z23 < (0))) then (
N0 ⟨[(0, t0), (1, (intA t1)), (2, t2), (6, (intA t6)), (7, (boolA t7)), (8, (intA t8)), (9, (intA (IntKind.wrap .i64 (z7 + (1))))), (10, (intA t10)), (15, (intA t9)), (16, (intA t10)), (17, (boolA (decide (t9 < t10)))), (18, (intA t9)), (19, (intA t10)), (20, (intA (IntKind.wrap .i64 (t9 + t10)))), (21, (AV.sc (.int .u64 z3))), (22, (AV.sc (.int .u64 z5))), (23, (intA z7)), (11, (intA z7)), (24, t2), (25, t0), (26, (intA z7)), (27, v8), (28, (AV.agg [(intA z16), (intA z17), (intA z18), (intA z19), (intA z20), (intA z21)])), (29, (intA t1)), (30, (intA z23)), (31, (boolA (decide (z23 < (0))))), (32, (intA z7)), (33, (intA (IntKind.wrap .i64 (z7 + (1)))))], m, 100084⟩) else (
N0 ⟨[(0, t0), (1, (intA t1)), (2, t2), (6, (intA t6)), (7, (boolA t7)), (8, (intA t8)), (9, (intA t9)), (10, (intA z7)), (15, (intA t9)), (16, (intA t10)), (17, (boolA (decide (t9 < t10)))), (18, (intA t9)), (19, (intA t10)), (20, (intA (IntKind.wrap .i64 (t9 + t10)))), (21, (AV.sc (.int .u64 z3))), (22, (AV.sc (.int .u64 z5))), (23, (intA z7)), (11, (intA z7)), (24, t2), (25, t0), (26, (intA z7)), (27, v8), (28, (AV.agg [(intA z16), (intA z17), (intA z18), (intA z19), (intA z20), (intA z21)])), (29, (intA t1)), (30, (intA z23)), (31, (boolA (decide (z23 < (0))))), (34, (intA z7))], m, 100083⟩)) else callW pg KK.gl m 100016 f22 a22 fun v22 m22 =>
ex_i64 v22 fun z23 =>
bif (decide (z23 < (0))) then (
N0 ⟨[(0, t0), (1, (intA t1)), (2, t2), (6, (intA t6)), (7, (boolA t7)), (8, (intA t8)), (9, (intA (IntKind.wrap .i64 (z7 + (1))))), (10, (intA t10)), (15, (intA t9)), (16, (intA t10)), (17, (boolA (decide (t9 < t10)))), (18, (intA t9)), (19, (intA t10)), (20, (intA (IntKind.wrap .i64 (t9 + t10)))), (21, (AV.sc (.int .u64 z3))), (22, (AV.sc (.int .u64 z5))), (23, (intA z7)), (11, (intA z7)), (24, t2), (25, t0), (26, (intA z7)), (27, v8), (28, (AV.agg [(intA z16), (intA z17), (intA z18), (intA z19), (intA z20), (intA z21)])), (29, (intA t1)), (30, (intA z23)), (31, (boolA (decide (z23 < (0))))), (32, (intA z7)), (33, (intA (IntKind.wrap .i64 (z7 + (1)))))], m22, 100084⟩) else (
N0 ⟨[(0, t0), (1, (intA t1)), (2, t2), (6, (intA t6)), (7, (boolA t7)), (8, (intA t8)), (9, (intA t9)), (10, (intA z7)), (15, (intA t9)), (16, (intA t10)), (17, (boolA (decide (t9 < t10)))), (18, (intA t9)), (19, (intA t10)), (20, (intA (IntKind.wrap .i64 (t9 + t10)))), (21, (AV.sc (.int .u64 z3))), (22, (AV.sc (.int .u64 z5))), (23, (intA z7)), (11, (intA z7)), (24, t2), (25, t0), (26, (intA z7)), (27, v8), (28, (AV.agg [(intA z16), (intA z17), (intA z18), (intA z19), (intA z20), (intA z21)])), (29, (intA t1)), (30, (intA z23)), (31, (boolA (decide (z23 < (0))))), (34, (intA z7))], m22, 100083⟩)) else (
bif (decide (t9 < t8)) then (
opP (idxS 6 t0 (intA t9)) fun v24 =>
opP (ldA (mget m) 6 v24) fun v25 =>
exA6 v25 fun c26 c27 c28 c29 c30 c31 =>
ex_i64 c26 fun z32 =>
ex_i64 c27 fun z33 =>
ex_i64 c28 fun z34 =>
ex_i64 c29 fun z35 =>
ex_i64 c30 fun z36 =>
ex_i64 c31 fun z37 =>
fnArgs (some t2) (some [(AV.agg [(intA z32), (intA z33), (intA z34), (intA z35), (intA z36), (intA z37)]), (intA t1)]) fun f38 a38 => bif KK.pm f38 then callQ pg KK.gl m f38 a38 (fun v38 =>
ex_i64 v38 fun z39 =>
retL R m [some (intA t9), some (boolA (z39 == (0)))]) else callW pg KK.gl m 100014 f38 a38 fun v38 m38 =>
ex_i64 v38 fun z39 =>
retL R m38 [some (intA t9), some (boolA (z39 == (0)))]) else (
retL R m [some (intA t9), some (boolA false)]))
theorem B184_0_eq (t0 : AV) (t1 : Int) (t2 : AV) (t6 : Int) (t7 : Bool) (t8 : Int) (t9 : Int) (t10 : Int) (m : Mem) (R : AV → Mem → Prop) (N0 : St → Prop) : W pg KK 49 0 c184_0 (h184_0 t0 t1 t2 t6 t7 t8 t9 t10 m) (qq184_0 R N0) = B184_0 t0 t1 t2 t6 t7 t8 t9 t10 m R N0 := by kernel_rfl
theorem L184_0 (R : AV → Mem → Prop) {σ : Type} (I : σ → Prop) (t0 : σ → AV) (t1 : σ → Int) (t2 : σ → AV) (t6 : σ → Int) (t7 : σ → Bool) (t8 : σ → Int) (t9 : σ → Int) (t10 : σ → Int) (m : σ → Mem) (μ : σ → Nat) (step : ∀ x, I x → B184_0 (t0 x) (t1 x) (t2 x) (t6 x) (t7 x) (t8 x) (t9 x) (t10 x) (m x) R (fun s' => ∃ y, I y ∧ μ y < μ x ∧ Weak KK 49 0 s' (h184_0 (t0 y) (t1 y) (t2 y) (t6 y) (t7 y) (t8 y) (t9 y) (t10 y) (m y)))) (x : σ) (hx : I x) {s : St} (hw : Weak KK 49 0 s (h184_0 (t0 x) (t1 x) (t2 x) (t6 x) (t7 x) (t8 x) (t9 x) (t10 x) (m x))) : Tri pg KK 49 0 (.loop c184_0) s (q184_0 R) :=
  Tri.weak hw (Tri.loops fol I (fun x => h184_0 (t0 x) (t1 x) (t2 x) (t6 x) (t7 x) (t8 x) (t9 x) (t10 x) (m x)) μ (fun x hx => (B184_0_eq (t0 x) (t1 x) (t2 x) (t6 x) (t7 x) (t8 x) (t9 x) (t10 x) (m x) R _).mpr (step x hx)) x hx)
noncomputable def F184 (a0 : AV) (a1 : Int) (a2 : AV) (R : AV → Mem → Prop) : Prop :=
opP (lenS a0) fun v0 =>
ex_i64 v0 fun z1 =>
Tri pg KK 49 0 (.loop c184_0) ⟨[(0, a0), (1, (intA a1)), (2, a2), (6, (intA (0))), (7, (boolA false)), (12, a0), (13, (intA z1)), (8, (intA z1)), (14, (intA z1)), (9, (intA (0))), (10, (intA z1))], [], 8⟩ (q184_0 R)
theorem F184_own (a0 : AV) (a1 : Int) (a2 : AV) (R : AV → Mem → Prop) (h : F184 a0 a1 a2 R) : Own pg KK.gl 184 [a0, (intA a1), a2] R := own_of_F fol Tryz.func184 (code := c184) (by kernel_rfl) (by kernel_rfl) (by kernel_rfl) (X := F184 a0 a1 a2 R) (by kernel_rfl) h
/- skyway/num.DivDown -/
noncomputable def c187 : Code := ((Tryz.f187).body).getD .skip
noncomputable def q187 (R : AV → Mem → Prop) : AExit → St → Prop := retQ pg Tryz.f187 R
noncomputable def F187 (a0 : Int) (a1 : Int) (R : AV → Mem → Prop) : Prop :=
bif (a1 == (0)) then (
retL R [] [some (intA (0)), some (intA (10))]) else (
bif (a0 == (-9223372036854775808)) then (
bif (a1 == (-1)) then (
retL R [] [some (intA (0)), some (intA (2))]) else (
opP (opA pg (.binOp .quo 3 (.tmp 0) (.tmp 1) 3) 3 [(intA a0), (intA a1)] (mget []) 14) fun v0 =>
ex_i64 v0 fun z1 =>
opP (opA pg (.binOp .rem 3 (.tmp 0) (.tmp 1) 3) 3 [(intA a0), (intA a1)] (mget []) 18) fun v2 =>
ex_i64 v2 fun z3 =>
bif (z3 != (0)) then (
opP (opA pg (.binOp .neq 4 (.tmp 0) (.tmp 1) 4) 4 [(boolA (decide (a0 < (0)))), (boolA (decide (a1 < (0))))] (mget []) 25) fun v4 =>
exB v4 fun b5 =>
bif b5 then (
retL R [] [some (intA (IntKind.wrap .i64 (z1 - (1)))), some (intA (0))]) else (
retL R [] [some (intA z1), some (intA (0))])) else (
retL R [] [some (intA z1), some (intA (0))]))) else (
opP (opA pg (.binOp .quo 3 (.tmp 0) (.tmp 1) 3) 3 [(intA a0), (intA a1)] (mget []) 12) fun v6 =>
ex_i64 v6 fun z7 =>
opP (opA pg (.binOp .rem 3 (.tmp 0) (.tmp 1) 3) 3 [(intA a0), (intA a1)] (mget []) 16) fun v8 =>
ex_i64 v8 fun z9 =>
bif (z9 != (0)) then (
opP (opA pg (.binOp .neq 4 (.tmp 0) (.tmp 1) 4) 4 [(boolA (decide (a0 < (0)))), (boolA (decide (a1 < (0))))] (mget []) 23) fun v10 =>
exB v10 fun b11 =>
bif b11 then (
retL R [] [some (intA (IntKind.wrap .i64 (z7 - (1)))), some (intA (0))]) else (
retL R [] [some (intA z7), some (intA (0))])) else (
retL R [] [some (intA z7), some (intA (0))])))
theorem F187_own (a0 : Int) (a1 : Int) (R : AV → Mem → Prop) (h : F187 a0 a1 R) : Own pg KK.gl 187 [(intA a0), (intA a1)] R := own_of_F fol Tryz.func187 (code := c187) (by kernel_rfl) (by kernel_rfl) (by kernel_rfl) (X := F187 a0 a1 R) (by kernel_rfl) h
/- skyway/plane.Toward -/
noncomputable def c186 : Code := ((Tryz.f186).body).getD .skip
noncomputable def q186 (R : AV → Mem → Prop) : AExit → St → Prop := retQ pg Tryz.f186 R
noncomputable def F186 (a0_0 : Int) (a0_1 : Int) (a1_0 : Int) (a1_1 : Int) (a2 : Int) (a3 : Int) (R : AV → Mem → Prop) : Prop :=
bif (decide (a3 ≤ (0))) then (
opP (bld [(intA (0)), (intA (0))] [(0, 1), (1, 1)] []) fun v0 =>
storeW pg (mget ((2, some ⟨[(intA (0)), (intA (0))], 86⟩) :: (1, some ⟨[(intA a1_0), (intA a1_1)], 86⟩) :: (0, some ⟨[(intA a0_0), (intA a0_1)], 86⟩) :: [])) 86 (AV.ptr 2 0) v0 fun v1 d1 =>
retL R (mpushs ((2, some ⟨[(intA (0)), (intA (0))], 86⟩) :: (1, some ⟨[(intA a1_0), (intA a1_1)], 86⟩) :: (0, some ⟨[(intA a0_0), (intA a0_1)], 86⟩) :: []) d1) [(aLoad pg (mget (mpushs ((2, some ⟨[(intA (0)), (intA (0))], 86⟩) :: (1, some ⟨[(intA a1_0), (intA a1_1)], 86⟩) :: (0, some ⟨[(intA a0_0), (intA a0_1)], 86⟩) :: []) d1)) 86 (AV.ptr 2 0)).map (·.1), some (intA (10))]) else (
bif (decide (a3 > (200000))) then (
opP (bld [(intA (0)), (intA (0))] [(0, 1), (1, 1)] []) fun v2 =>
storeW pg (mget ((2, some ⟨[(intA (0)), (intA (0))], 86⟩) :: (1, some ⟨[(intA a1_0), (intA a1_1)], 86⟩) :: (0, some ⟨[(intA a0_0), (intA a0_1)], 86⟩) :: [])) 86 (AV.ptr 2 0) v2 fun v3 d3 =>
retL R (mpushs ((2, some ⟨[(intA (0)), (intA (0))], 86⟩) :: (1, some ⟨[(intA a1_0), (intA a1_1)], 86⟩) :: (0, some ⟨[(intA a0_0), (intA a0_1)], 86⟩) :: []) d3) [(aLoad pg (mget (mpushs ((2, some ⟨[(intA (0)), (intA (0))], 86⟩) :: (1, some ⟨[(intA a1_0), (intA a1_1)], 86⟩) :: (0, some ⟨[(intA a0_0), (intA a0_1)], 86⟩) :: []) d3)) 86 (AV.ptr 2 0)).map (·.1), some (intA (4))]) else (
bif (decide (a2 < (0))) then (
opP (bld [(intA (0)), (intA (0))] [(0, 1), (1, 1)] []) fun v4 =>
storeW pg (mget ((2, some ⟨[(intA (0)), (intA (0))], 86⟩) :: (1, some ⟨[(intA a1_0), (intA a1_1)], 86⟩) :: (0, some ⟨[(intA a0_0), (intA a0_1)], 86⟩) :: [])) 86 (AV.ptr 2 0) v4 fun v5 d5 =>
retL R (mpushs ((2, some ⟨[(intA (0)), (intA (0))], 86⟩) :: (1, some ⟨[(intA a1_0), (intA a1_1)], 86⟩) :: (0, some ⟨[(intA a0_0), (intA a0_1)], 86⟩) :: []) d5) [(aLoad pg (mget (mpushs ((2, some ⟨[(intA (0)), (intA (0))], 86⟩) :: (1, some ⟨[(intA a1_0), (intA a1_1)], 86⟩) :: (0, some ⟨[(intA a0_0), (intA a0_1)], 86⟩) :: []) d5)) 86 (AV.ptr 2 0)).map (·.1), some (intA (4))]) else (
bif (decide (a2 > a3)) then (
opP (bld [(intA (0)), (intA (0))] [(0, 1), (1, 1)] []) fun v6 =>
storeW pg (mget ((2, some ⟨[(intA (0)), (intA (0))], 86⟩) :: (1, some ⟨[(intA a1_0), (intA a1_1)], 86⟩) :: (0, some ⟨[(intA a0_0), (intA a0_1)], 86⟩) :: [])) 86 (AV.ptr 2 0) v6 fun v7 d7 =>
retL R (mpushs ((2, some ⟨[(intA (0)), (intA (0))], 86⟩) :: (1, some ⟨[(intA a1_0), (intA a1_1)], 86⟩) :: (0, some ⟨[(intA a0_0), (intA a0_1)], 86⟩) :: []) d7) [(aLoad pg (mget (mpushs ((2, some ⟨[(intA (0)), (intA (0))], 86⟩) :: (1, some ⟨[(intA a1_0), (intA a1_1)], 86⟩) :: (0, some ⟨[(intA a0_0), (intA a0_1)], 86⟩) :: []) d7)) 86 (AV.ptr 2 0)).map (·.1), some (intA (4))]) else (
callQ pg KK.gl ((2, some ⟨[(intA (0)), (intA (0))], 86⟩) :: (1, some ⟨[(intA a1_0), (intA a1_1)], 86⟩) :: (0, some ⟨[(intA a0_0), (intA a0_1)], 86⟩) :: []) 72 [(AV.agg [(intA a0_0), (intA a0_1)])] fun v8 =>
ex_i64 v8 fun z9 =>
bif (z9 != (0)) then (
opP (bld [(intA (0)), (intA (0))] [(0, 1), (1, 1)] []) fun v10 =>
callQ pg KK.gl ((2, some ⟨[(intA (0)), (intA (0))], 86⟩) :: (1, some ⟨[(intA a1_0), (intA a1_1)], 86⟩) :: (0, some ⟨[(intA a0_0), (intA a0_1)], 86⟩) :: []) 72 [(AV.agg [(intA a0_0), (intA a0_1)])] fun v11 =>
ex_i64 v11 fun z12 =>
storeW pg (mget ((2, some ⟨[(intA (0)), (intA (0))], 86⟩) :: (1, some ⟨[(intA a1_0), (intA a1_1)], 86⟩) :: (0, some ⟨[(intA a0_0), (intA a0_1)], 86⟩) :: [])) 86 (AV.ptr 2 0) v10 fun v13 d13 =>
retL R (mpushs ((2, some ⟨[(intA (0)), (intA (0))], 86⟩) :: (1, some ⟨[(intA a1_0), (intA a1_1)], 86⟩) :: (0, some ⟨[(intA a0_0), (intA a0_1)], 86⟩) :: []) d13) [(aLoad pg (mget (mpushs ((2, some ⟨[(intA (0)), (intA (0))], 86⟩) :: (1, some ⟨[(intA a1_0), (intA a1_1)], 86⟩) :: (0, some ⟨[(intA a0_0), (intA a0_1)], 86⟩) :: []) d13)) 86 (AV.ptr 2 0)).map (·.1), some (intA z12)]) else (
callQ pg KK.gl ((2, some ⟨[(intA (0)), (intA (0))], 86⟩) :: (1, some ⟨[(intA a1_0), (intA a1_1)], 86⟩) :: (0, some ⟨[(intA a0_0), (intA a0_1)], 86⟩) :: []) 72 [(AV.agg [(intA a1_0), (intA a1_1)])] fun v14 =>
ex_i64 v14 fun z15 =>
bif (z15 != (0)) then (
opP (bld [(intA (0)), (intA (0))] [(0, 1), (1, 1)] []) fun v16 =>
callQ pg KK.gl ((2, some ⟨[(intA (0)), (intA (0))], 86⟩) :: (1, some ⟨[(intA a1_0), (intA a1_1)], 86⟩) :: (0, some ⟨[(intA a0_0), (intA a0_1)], 86⟩) :: []) 72 [(AV.agg [(intA a1_0), (intA a1_1)])] fun v17 =>
ex_i64 v17 fun z18 =>
storeW pg (mget ((2, some ⟨[(intA (0)), (intA (0))], 86⟩) :: (1, some ⟨[(intA a1_0), (intA a1_1)], 86⟩) :: (0, some ⟨[(intA a0_0), (intA a0_1)], 86⟩) :: [])) 86 (AV.ptr 2 0) v16 fun v19 d19 =>
retL R (mpushs ((2, some ⟨[(intA (0)), (intA (0))], 86⟩) :: (1, some ⟨[(intA a1_0), (intA a1_1)], 86⟩) :: (0, some ⟨[(intA a0_0), (intA a0_1)], 86⟩) :: []) d19) [(aLoad pg (mget (mpushs ((2, some ⟨[(intA (0)), (intA (0))], 86⟩) :: (1, some ⟨[(intA a1_0), (intA a1_1)], 86⟩) :: (0, some ⟨[(intA a0_0), (intA a0_1)], 86⟩) :: []) d19)) 86 (AV.ptr 2 0)).map (·.1), some (intA z18)]) else (
callQ pg KK.gl ((2, some ⟨[(intA (0)), (intA (0))], 86⟩) :: (1, some ⟨[(intA a1_0), (intA a1_1)], 86⟩) :: (0, some ⟨[(intA a0_0), (intA a0_1)], 86⟩) :: []) 187 [(intA (IntKind.wrap .i64 ((IntKind.wrap .i64 (a1_0 - a0_0)) * a2))), (intA a3)] fun v20 =>
exT2 v20 fun c21 c22 =>
ex_i64 c21 fun z23 =>
ex_i64 c22 fun z24 =>
callQ pg KK.gl ((2, some ⟨[(intA (0)), (intA (0))], 86⟩) :: (1, some ⟨[(intA a1_0), (intA a1_1)], 86⟩) :: (0, some ⟨[(intA a0_0), (intA a0_1)], 86⟩) :: []) 187 [(intA (IntKind.wrap .i64 ((IntKind.wrap .i64 (a1_1 - a0_1)) * a2))), (intA a3)] fun v25 =>
exT2 v25 fun c26 c27 =>
ex_i64 c26 fun z28 =>
ex_i64 c27 fun z29 =>
opP (bld [(intA (0)), (intA (0))] [(0, 1), (1, 1)] [(0, (intA (IntKind.wrap .i64 (a0_0 + z23)))), (1, (intA (IntKind.wrap .i64 (a0_1 + z28))))]) fun v30 =>
storeW pg (mget ((2, some ⟨[(intA (0)), (intA (0))], 86⟩) :: (1, some ⟨[(intA a1_0), (intA a1_1)], 86⟩) :: (0, some ⟨[(intA a0_0), (intA a0_1)], 86⟩) :: [])) 86 (AV.ptr 2 0) v30 fun v31 d31 =>
retL R (mpushs ((2, some ⟨[(intA (0)), (intA (0))], 86⟩) :: (1, some ⟨[(intA a1_0), (intA a1_1)], 86⟩) :: (0, some ⟨[(intA a0_0), (intA a0_1)], 86⟩) :: []) d31) [(aLoad pg (mget (mpushs ((2, some ⟨[(intA (0)), (intA (0))], 86⟩) :: (1, some ⟨[(intA a1_0), (intA a1_1)], 86⟩) :: (0, some ⟨[(intA a0_0), (intA a0_1)], 86⟩) :: []) d31)) 86 (AV.ptr 2 0)).map (·.1), some (intA (0))]))))))
theorem F186_own (a0_0 : Int) (a0_1 : Int) (a1_0 : Int) (a1_1 : Int) (a2 : Int) (a3 : Int) (R : AV → Mem → Prop) (h : F186 a0_0 a0_1 a1_0 a1_1 a2 a3 R) : Own pg KK.gl 186 [(AV.agg [(intA a0_0), (intA a0_1)]), (AV.agg [(intA a1_0), (intA a1_1)]), (intA a2), (intA a3)] R := own_of_F fol Tryz.func186 (code := c186) (by kernel_rfl) (by kernel_rfl) (by kernel_rfl) (X := F186 a0_0 a0_1 a1_0 a1_1 a2 a3 R) (by kernel_rfl) h
/- skyway/num.DivUp -/
noncomputable def c188 : Code := ((Tryz.f188).body).getD .skip
noncomputable def q188 (R : AV → Mem → Prop) : AExit → St → Prop := retQ pg Tryz.f188 R
noncomputable def F188 (a0 : Int) (a1 : Int) (R : AV → Mem → Prop) : Prop :=
callQ pg KK.gl [] 187 [(intA a0), (intA a1)] fun v0 =>
exT2 v0 fun c1 c2 =>
ex_i64 c1 fun z3 =>
ex_i64 c2 fun z4 =>
bif (z4 == (0)) then (
opP (opA pg (.binOp .rem 3 (.tmp 0) (.tmp 1) 3) 3 [(intA a0), (intA a1)] (mget []) 78) fun v5 =>
ex_i64 v5 fun z6 =>
bif (z6 != (0)) then (
retL R [] [some (intA (IntKind.wrap .i64 (z3 + (1)))), some (intA z4)]) else (
retL R [] [some (intA z3), some (intA z4)])) else (
retL R [] [some (intA z3), some (intA z4)])
theorem F188_own (a0 : Int) (a1 : Int) (R : AV → Mem → Prop) (h : F188 a0 a1 R) : Own pg KK.gl 188 [(intA a0), (intA a1)] R := own_of_F fol Tryz.func188 (code := c188) (by kernel_rfl) (by kernel_rfl) (by kernel_rfl) (X := F188 a0 a1 R) (by kernel_rfl) h
/- skyway/tube.at -/
noncomputable def c134 : Code := ((Tryz.f134).body).getD .skip
noncomputable def q134 (R : AV → Mem → Prop) : AExit → St → Prop := retQ pg Tryz.f134 R
noncomputable def F134 (a0 : AV) (a1 : Int) (R : AV → Mem → Prop) : Prop :=
callW pg KK.gl ((0, some ⟨[(intA (0)), (intA (0)), (intA (0)), (intA (0)), (intA (0)), (intA (0))], 131⟩) :: []) 3 184 [a0, (intA a1), (AV.fn 185 [])] fun v0 m0 =>
exT2 v0 fun c1 c2 =>
ex_i64 c1 fun z3 =>
exB c2 fun b4 =>
bif b4 then (
opP (idxS 6 a0 (intA z3)) fun v5 =>
opP (ldA (mget m0) 6 v5) fun v6 =>
exA6 v6 fun c7 c8 c9 c10 c11 c12 =>
ex_i64 c7 fun z13 =>
ex_i64 c8 fun z14 =>
ex_i64 c9 fun z15 =>
ex_i64 c10 fun z16 =>
ex_i64 c11 fun z17 =>
ex_i64 c12 fun z18 =>
storeW pg (mget m0) 131 (AV.ptr 0 0) (AV.agg [(intA z13), (intA z14), (intA z15), (intA z16), (intA z17), (intA z18)]) fun v19 d19 =>
retL R (mpushs m0 d19) [(aLoad pg (mget (mpushs m0 d19)) 131 (AV.ptr 0 0)).map (·.1)]) else (
opM (idxS 6 a0 (intA (IntKind.wrap .i64 (z3 - (1))))) fun v20 d20 =>
opM (ldA (look' (mpushs m0 d20) (topId v20 ++ ([]))) 6 v20) fun v21 d21 =>
exA6 v21 fun c22 c23 c24 c25 c26 c27 =>
ex_i64 c22 fun z28 =>
ex_i64 c23 fun z29 =>
ex_i64 c24 fun z30 =>
ex_i64 c25 fun z31 =>
ex_i64 c26 fun z32 =>
ex_i64 c27 fun z33 =>
opM (idxS 6 a0 (intA z3)) fun v34 d34 =>
opM (ldA (look' (mpushs (mpushs (mpushs m0 d20) d21) d34) (topId v34 ++ ([]))) 6 v34) fun v35 d35 =>
exA6 v35 fun c36 c37 c38 c39 c40 c41 =>
ex_i64 c36 fun z42 =>
ex_i64 c37 fun z43 =>
ex_i64 c38 fun z44 =>
ex_i64 c39 fun z45 =>
ex_i64 c40 fun z46 =>
ex_i64 c41 fun z47 =>
storeW pg (look' ((83, some ⟨[(intA (0)), (intA (0)), (intA (0)), (intA (0)), (intA (0)), (intA (0))], 131⟩) :: (82, some ⟨[(intA (0)), (intA (0)), (intA (0)), (intA (0)), (intA (0)), (intA (0))], 131⟩) :: (mpushs (mpushs (mpushs (mpushs m0 d20) d21) d34) d35)) (topId (AV.ptr 82 0) ++ (topId (AV.agg [(intA z28), (intA z29), (intA z30), (intA z31), (intA z32), (intA z33)]) ++ ([])))) 131 (AV.ptr 82 0) (AV.agg [(intA z28), (intA z29), (intA z30), (intA z31), (intA z32), (intA z33)]) fun v48 d48 =>
storeW pg (look' (mpushs ((83, some ⟨[(intA (0)), (intA (0)), (intA (0)), (intA (0)), (intA (0)), (intA (0))], 131⟩) :: (82, some ⟨[(intA (0)), (intA (0)), (intA (0)), (intA (0)), (intA (0)), (intA (0))], 131⟩) :: (mpushs (mpushs (mpushs (mpushs m0 d20) d21) d34) d35)) d48) (topId (AV.ptr 83 0) ++ (topId (AV.agg [(intA z42), (intA z43), (intA z44), (intA z45), (intA z46), (intA z47)]) ++ ([])))) 131 (AV.ptr 83 0) (AV.agg [(intA z42), (intA z43), (intA z44), (intA z45), (intA z46), (intA z47)]) fun v49 d49 =>
chk (confOk [0, 0, 2, 7, 15, 0, 0, 96, 224, 0, 0, 1567, 4095] [⟨[], []⟩, ⟨[], []⟩, ⟨[], []⟩, ⟨d20, []⟩, ⟨d21, (topId v20 ++ ([]))⟩, ⟨[], []⟩, ⟨[], []⟩, ⟨d34, []⟩, ⟨d35, (topId v34 ++ ([]))⟩, ⟨[(82, some ⟨[(intA (0)), (intA (0)), (intA (0)), (intA (0)), (intA (0)), (intA (0))], 131⟩)], []⟩, ⟨[(83, some ⟨[(intA (0)), (intA (0)), (intA (0)), (intA (0)), (intA (0)), (intA (0))], 131⟩)], []⟩, ⟨d48, (topId (AV.ptr 82 0) ++ (topId (AV.agg [(intA z28), (intA z29), (intA z30), (intA z31), (intA z32), (intA z33)]) ++ ([])))⟩, ⟨d49, (topId (AV.ptr 83 0) ++ (topId (AV.agg [(intA z42), (intA z43), (intA z44), (intA z45), (intA z46), (intA z47)]) ++ ([])))⟩]) (opP (ldS (mget (mpushs (mpushs ((83, some ⟨[(intA (0)), (intA (0)), (intA (0)), (intA (0)), (intA (0)), (intA (0))], 131⟩) :: (82, some ⟨[(intA (0)), (intA (0)), (intA (0)), (intA (0)), (intA (0)), (intA (0))], 131⟩) :: (mpushs (mpushs (mpushs (mpushs m0 d20) d21) d34) d35)) d48) d49)) (AV.ptr 82 0)) fun v50 =>
ex_i64 v50 fun z51 =>
opP (ldS (mget (mpushs (mpushs ((83, some ⟨[(intA (0)), (intA (0)), (intA (0)), (intA (0)), (intA (0)), (intA (0))], 131⟩) :: (82, some ⟨[(intA (0)), (intA (0)), (intA (0)), (intA (0)), (intA (0)), (intA (0))], 131⟩) :: (mpushs (mpushs (mpushs (mpushs m0 d20) d21) d34) d35)) d48) d49)) (AV.ptr 83 0)) fun v52 =>
ex_i64 v52 fun z53 =>
opP (ldS (mget (mpushs (mpushs ((83, some ⟨[(intA (0)), (intA (0)), (intA (0)), (intA (0)), (intA (0)), (intA (0))], 131⟩) :: (82, some ⟨[(intA (0)), (intA (0)), (intA (0)), (intA (0)), (intA (0)), (intA (0))], 131⟩) :: (mpushs (mpushs (mpushs (mpushs m0 d20) d21) d34) d35)) d48) d49)) (AV.ptr 82 0)) fun v54 =>
ex_i64 v54 fun z55 =>
opP (ldA (mget (mpushs (mpushs ((83, some ⟨[(intA (0)), (intA (0)), (intA (0)), (intA (0)), (intA (0)), (intA (0))], 131⟩) :: (82, some ⟨[(intA (0)), (intA (0)), (intA (0)), (intA (0)), (intA (0)), (intA (0))], 131⟩) :: (mpushs (mpushs (mpushs (mpushs m0 d20) d21) d34) d35)) d48) d49)) 2 (AV.ptr 82 1)) fun v56 =>
exA2 v56 fun c57 c58 =>
ex_i64 c57 fun z59 =>
ex_i64 c58 fun z60 =>
opP (ldA (mget (mpushs (mpushs ((83, some ⟨[(intA (0)), (intA (0)), (intA (0)), (intA (0)), (intA (0)), (intA (0))], 131⟩) :: (82, some ⟨[(intA (0)), (intA (0)), (intA (0)), (intA (0)), (intA (0)), (intA (0))], 131⟩) :: (mpushs (mpushs (mpushs (mpushs m0 d20) d21) d34) d35)) d48) d49)) 2 (AV.ptr 83 1)) fun v61 =>
exA2 v61 fun c62 c63 =>
ex_i64 c62 fun z64 =>
ex_i64 c63 fun z65 =>
callQ pg KK.gl (mpushs (mpushs ((83, some ⟨[(intA (0)), (intA (0)), (intA (0)), (intA (0)), (intA (0)), (intA (0))], 131⟩) :: (82, some ⟨[(intA (0)), (intA (0)), (intA (0)), (intA (0)), (intA (0)), (intA (0))], 131⟩) :: (mpushs (mpushs (mpushs (mpushs m0 d20) d21) d34) d35)) d48) d49) 186 [(AV.agg [(intA z59), (intA z60)]), (AV.agg [(intA z64), (intA z65)]), (intA (IntKind.wrap .i64 (a1 - z51))), (intA (IntKind.wrap .i64 (z53 - z55)))] fun v66 =>
exT2 v66 fun c67 c68 =>
exA2 c67 fun c69 c70 =>
ex_i64 c69 fun z71 =>
ex_i64 c70 fun z72 =>
ex_i64 c68 fun z73 =>
opP (ldS (mget ((175, some ⟨[(intA z71), (intA z72)], 86⟩) :: (175, some ⟨[(intA (0)), (intA (0))], 86⟩) :: (mpushs (mpushs ((83, some ⟨[(intA (0)), (intA (0)), (intA (0)), (intA (0)), (intA (0)), (intA (0))], 131⟩) :: (82, some ⟨[(intA (0)), (intA (0)), (intA (0)), (intA (0)), (intA (0)), (intA (0))], 131⟩) :: (mpushs (mpushs (mpushs (mpushs m0 d20) d21) d34) d35)) d48) d49))) (AV.ptr 83 3)) fun v74 =>
ex_i64 v74 fun z75 =>
opP (ldS (mget ((175, some ⟨[(intA z71), (intA z72)], 86⟩) :: (175, some ⟨[(intA (0)), (intA (0))], 86⟩) :: (mpushs (mpushs ((83, some ⟨[(intA (0)), (intA (0)), (intA (0)), (intA (0)), (intA (0)), (intA (0))], 131⟩) :: (82, some ⟨[(intA (0)), (intA (0)), (intA (0)), (intA (0)), (intA (0)), (intA (0))], 131⟩) :: (mpushs (mpushs (mpushs (mpushs m0 d20) d21) d34) d35)) d48) d49))) (AV.ptr 82 3)) fun v76 =>
ex_i64 v76 fun z77 =>
callQ pg KK.gl ((175, some ⟨[(intA z71), (intA z72)], 86⟩) :: (175, some ⟨[(intA (0)), (intA (0))], 86⟩) :: (mpushs (mpushs ((83, some ⟨[(intA (0)), (intA (0)), (intA (0)), (intA (0)), (intA (0)), (intA (0))], 131⟩) :: (82, some ⟨[(intA (0)), (intA (0)), (intA (0)), (intA (0)), (intA (0)), (intA (0))], 131⟩) :: (mpushs (mpushs (mpushs (mpushs m0 d20) d21) d34) d35)) d48) d49)) 187 [(intA (IntKind.wrap .i64 ((IntKind.wrap .i64 (z75 - z77)) * (IntKind.wrap .i64 (a1 - z51))))), (intA (IntKind.wrap .i64 (z53 - z55)))] fun v78 =>
exT2 v78 fun c79 c80 =>
ex_i64 c79 fun z81 =>
ex_i64 c80 fun z82 =>
opP (ldS (mget ((175, some ⟨[(intA z71), (intA z72)], 86⟩) :: (175, some ⟨[(intA (0)), (intA (0))], 86⟩) :: (mpushs (mpushs ((83, some ⟨[(intA (0)), (intA (0)), (intA (0)), (intA (0)), (intA (0)), (intA (0))], 131⟩) :: (82, some ⟨[(intA (0)), (intA (0)), (intA (0)), (intA (0)), (intA (0)), (intA (0))], 131⟩) :: (mpushs (mpushs (mpushs (mpushs m0 d20) d21) d34) d35)) d48) d49))) (AV.ptr 83 4)) fun v83 =>
ex_i64 v83 fun z84 =>
opP (ldS (mget ((175, some ⟨[(intA z71), (intA z72)], 86⟩) :: (175, some ⟨[(intA (0)), (intA (0))], 86⟩) :: (mpushs (mpushs ((83, some ⟨[(intA (0)), (intA (0)), (intA (0)), (intA (0)), (intA (0)), (intA (0))], 131⟩) :: (82, some ⟨[(intA (0)), (intA (0)), (intA (0)), (intA (0)), (intA (0)), (intA (0))], 131⟩) :: (mpushs (mpushs (mpushs (mpushs m0 d20) d21) d34) d35)) d48) d49))) (AV.ptr 82 4)) fun v85 =>
ex_i64 v85 fun z86 =>
callQ pg KK.gl ((175, some ⟨[(intA z71), (intA z72)], 86⟩) :: (175, some ⟨[(intA (0)), (intA (0))], 86⟩) :: (mpushs (mpushs ((83, some ⟨[(intA (0)), (intA (0)), (intA (0)), (intA (0)), (intA (0)), (intA (0))], 131⟩) :: (82, some ⟨[(intA (0)), (intA (0)), (intA (0)), (intA (0)), (intA (0)), (intA (0))], 131⟩) :: (mpushs (mpushs (mpushs (mpushs m0 d20) d21) d34) d35)) d48) d49)) 188 [(intA (IntKind.wrap .i64 ((IntKind.wrap .i64 (z84 - z86)) * (IntKind.wrap .i64 (a1 - z51))))), (intA (IntKind.wrap .i64 (z53 - z55)))] fun v87 =>
exT2 v87 fun c88 c89 =>
ex_i64 c88 fun z90 =>
ex_i64 c89 fun z91 =>
opP (ldS (mget ((175, some ⟨[(intA z71), (intA z72)], 86⟩) :: (175, some ⟨[(intA (0)), (intA (0))], 86⟩) :: (mpushs (mpushs ((83, some ⟨[(intA (0)), (intA (0)), (intA (0)), (intA (0)), (intA (0)), (intA (0))], 131⟩) :: (82, some ⟨[(intA (0)), (intA (0)), (intA (0)), (intA (0)), (intA (0)), (intA (0))], 131⟩) :: (mpushs (mpushs (mpushs (mpushs m0 d20) d21) d34) d35)) d48) d49))) (AV.ptr 83 5)) fun v92 =>
ex_i64 v92 fun z93 =>
opP (ldS (mget ((175, some ⟨[(intA z71), (intA z72)], 86⟩) :: (175, some ⟨[(intA (0)), (intA (0))], 86⟩) :: (mpushs (mpushs ((83, some ⟨[(intA (0)), (intA (0)), (intA (0)), (intA (0)), (intA (0)), (intA (0))], 131⟩) :: (82, some ⟨[(intA (0)), (intA (0)), (intA (0)), (intA (0)), (intA (0)), (intA (0))], 131⟩) :: (mpushs (mpushs (mpushs (mpushs m0 d20) d21) d34) d35)) d48) d49))) (AV.ptr 82 5)) fun v94 =>
ex_i64 v94 fun z95 =>
callQ pg KK.gl ((175, some ⟨[(intA z71), (intA z72)], 86⟩) :: (175, some ⟨[(intA (0)), (intA (0))], 86⟩) :: (mpushs (mpushs ((83, some ⟨[(intA (0)), (intA (0)), (intA (0)), (intA (0)), (intA (0)), (intA (0))], 131⟩) :: (82, some ⟨[(intA (0)), (intA (0)), (intA (0)), (intA (0)), (intA (0)), (intA (0))], 131⟩) :: (mpushs (mpushs (mpushs (mpushs m0 d20) d21) d34) d35)) d48) d49)) 188 [(intA (IntKind.wrap .i64 ((IntKind.wrap .i64 (z93 - z95)) * (IntKind.wrap .i64 (a1 - z51))))), (intA (IntKind.wrap .i64 (z53 - z55)))] fun v96 =>
exT2 v96 fun c97 c98 =>
ex_i64 c97 fun z99 =>
ex_i64 c98 fun z100 =>
opP (ldS (mget ((175, some ⟨[(intA z71), (intA z72)], 86⟩) :: (175, some ⟨[(intA (0)), (intA (0))], 86⟩) :: (mpushs (mpushs ((83, some ⟨[(intA (0)), (intA (0)), (intA (0)), (intA (0)), (intA (0)), (intA (0))], 131⟩) :: (82, some ⟨[(intA (0)), (intA (0)), (intA (0)), (intA (0)), (intA (0)), (intA (0))], 131⟩) :: (mpushs (mpushs (mpushs (mpushs m0 d20) d21) d34) d35)) d48) d49))) (AV.ptr 82 3)) fun v101 =>
ex_i64 v101 fun z102 =>
opP (bld [(intA (0)), (intA (0)), (intA (0)), (intA (0))] [(0, 1), (1, 2), (3, 1)] [(0, (intA a1)), (1, (AV.agg [(intA z71), (intA z72)])), (2, (intA (IntKind.wrap .i64 (z102 + z81))))]) fun v103 =>
opP (ldS (mget ((175, some ⟨[(intA z71), (intA z72)], 86⟩) :: (175, some ⟨[(intA (0)), (intA (0))], 86⟩) :: (mpushs (mpushs ((83, some ⟨[(intA (0)), (intA (0)), (intA (0)), (intA (0)), (intA (0)), (intA (0))], 131⟩) :: (82, some ⟨[(intA (0)), (intA (0)), (intA (0)), (intA (0)), (intA (0)), (intA (0))], 131⟩) :: (mpushs (mpushs (mpushs (mpushs m0 d20) d21) d34) d35)) d48) d49))) (AV.ptr 82 4)) fun v104 =>
ex_i64 v104 fun z105 =>
opP (ldS (mget ((175, some ⟨[(intA z71), (intA z72)], 86⟩) :: (175, some ⟨[(intA (0)), (intA (0))], 86⟩) :: (mpushs (mpushs ((83, some ⟨[(intA (0)), (intA (0)), (intA (0)), (intA (0)), (intA (0)), (intA (0))], 131⟩) :: (82, some ⟨[(intA (0)), (intA (0)), (intA (0)), (intA (0)), (intA (0)), (intA (0))], 131⟩) :: (mpushs (mpushs (mpushs (mpushs m0 d20) d21) d34) d35)) d48) d49))) (AV.ptr 82 5)) fun v106 =>
ex_i64 v106 fun z107 =>
opP (bld [(intA (0)), (intA (0)), (intA (0)), (intA (0)), (intA (0)), (intA (0))] [(0, 4), (4, 1), (5, 1)] [(0, v103), (1, (intA (IntKind.wrap .i64 (z105 + z90)))), (2, (intA (IntKind.wrap .i64 (z107 + z99))))]) fun v108 =>
storeW pg (mget ((175, some ⟨[(intA z71), (intA z72)], 86⟩) :: (175, some ⟨[(intA (0)), (intA (0))], 86⟩) :: (mpushs (mpushs ((83, some ⟨[(intA (0)), (intA (0)), (intA (0)), (intA (0)), (intA (0)), (intA (0))], 131⟩) :: (82, some ⟨[(intA (0)), (intA (0)), (intA (0)), (intA (0)), (intA (0)), (intA (0))], 131⟩) :: (mpushs (mpushs (mpushs (mpushs m0 d20) d21) d34) d35)) d48) d49))) 131 (AV.ptr 0 0) v108 fun v109 d109 =>
retL R (mpushs ((175, some ⟨[(intA z71), (intA z72)], 86⟩) :: (175, some ⟨[(intA (0)), (intA (0))], 86⟩) :: (mpushs (mpushs ((83, some ⟨[(intA (0)), (intA (0)), (intA (0)), (intA (0)), (intA (0)), (intA (0))], 131⟩) :: (82, some ⟨[(intA (0)), (intA (0)), (intA (0)), (intA (0)), (intA (0)), (intA (0))], 131⟩) :: (mpushs (mpushs (mpushs (mpushs m0 d20) d21) d34) d35)) d48) d49)) d109) [(aLoad pg (mget (mpushs ((175, some ⟨[(intA z71), (intA z72)], 86⟩) :: (175, some ⟨[(intA (0)), (intA (0))], 86⟩) :: (mpushs (mpushs ((83, some ⟨[(intA (0)), (intA (0)), (intA (0)), (intA (0)), (intA (0)), (intA (0))], 131⟩) :: (82, some ⟨[(intA (0)), (intA (0)), (intA (0)), (intA (0)), (intA (0)), (intA (0))], 131⟩) :: (mpushs (mpushs (mpushs (mpushs m0 d20) d21) d34) d35)) d48) d49)) d109)) 131 (AV.ptr 0 0)).map (·.1)]))
theorem F134_own (a0 : AV) (a1 : Int) (R : AV → Mem → Prop) (h : F134 a0 a1 R) : Own pg KK.gl 134 [a0, (intA a1)] R := own_of_F fol Tryz.func134 (code := c134) (by kernel_rfl) (by kernel_rfl) (by kernel_rfl) (X := F134 a0 a1 R) (by kernel_rfl) h
/- skyway/tube.At -/
noncomputable def c73 : Code := ((Tryz.f73).body).getD .skip
noncomputable def q73 (R : AV → Mem → Prop) : AExit → St → Prop := retQ pg Tryz.f73 R
noncomputable def F73 (a0 : AV) (a1 : Int) (R : AV → Mem → Prop) : Prop :=
callQ pg KK.gl ((0, some ⟨[(intA (0)), (intA (0)), (intA (0)), (intA (0)), (intA (0)), (intA (0))], 131⟩) :: []) 67 [a0] fun v0 =>
ex_i64 v0 fun z1 =>
bif (z1 != (0)) then (
opP (bld [(intA (0)), (intA (0)), (intA (0)), (intA (0)), (intA (0)), (intA (0))] [(0, 4), (4, 1), (5, 1)] []) fun v2 =>
storeW pg (mget ((0, some ⟨[(intA (0)), (intA (0)), (intA (0)), (intA (0)), (intA (0)), (intA (0))], 131⟩) :: [])) 131 (AV.ptr 0 0) v2 fun v3 d3 =>
retL R (mpushs ((0, some ⟨[(intA (0)), (intA (0)), (intA (0)), (intA (0)), (intA (0)), (intA (0))], 131⟩) :: []) d3) [(aLoad pg (mget (mpushs ((0, some ⟨[(intA (0)), (intA (0)), (intA (0)), (intA (0)), (intA (0)), (intA (0))], 131⟩) :: []) d3)) 131 (AV.ptr 0 0)).map (·.1), some (intA z1)]) else (
callQ pg KK.gl ((0, some ⟨[(intA (0)), (intA (0)), (intA (0)), (intA (0)), (intA (0)), (intA (0))], 131⟩) :: []) 133 [a0] fun v4 =>
exT2 v4 fun c5 c6 =>
ex_i64 c5 fun z7 =>
ex_i64 c6 fun z8 =>
bif (decide (a1 < z7)) then (
opP (bld [(intA (0)), (intA (0)), (intA (0)), (intA (0)), (intA (0)), (intA (0))] [(0, 4), (4, 1), (5, 1)] []) fun v9 =>
storeW pg (mget ((0, some ⟨[(intA (0)), (intA (0)), (intA (0)), (intA (0)), (intA (0)), (intA (0))], 131⟩) :: [])) 131 (AV.ptr 0 0) v9 fun v10 d10 =>
retL R (mpushs ((0, some ⟨[(intA (0)), (intA (0)), (intA (0)), (intA (0)), (intA (0)), (intA (0))], 131⟩) :: []) d10) [(aLoad pg (mget (mpushs ((0, some ⟨[(intA (0)), (intA (0)), (intA (0)), (intA (0)), (intA (0)), (intA (0))], 131⟩) :: []) d10)) 131 (AV.ptr 0 0)).map (·.1), some (intA (12))]) else (
bif (decide (a1 > z8)) then (
opP (bld [(intA (0)), (intA (0)), (intA (0)), (intA (0)), (intA (0)), (intA (0))] [(0, 4), (4, 1), (5, 1)] []) fun v11 =>
storeW pg (mget ((0, some ⟨[(intA (0)), (intA (0)), (intA (0)), (intA (0)), (intA (0)), (intA (0))], 131⟩) :: [])) 131 (AV.ptr 0 0) v11 fun v12 d12 =>
retL R (mpushs ((0, some ⟨[(intA (0)), (intA (0)), (intA (0)), (intA (0)), (intA (0)), (intA (0))], 131⟩) :: []) d12) [(aLoad pg (mget (mpushs ((0, some ⟨[(intA (0)), (intA (0)), (intA (0)), (intA (0)), (intA (0)), (intA (0))], 131⟩) :: []) d12)) 131 (AV.ptr 0 0)).map (·.1), some (intA (12))]) else (
callQ pg KK.gl ((0, some ⟨[(intA (0)), (intA (0)), (intA (0)), (intA (0)), (intA (0)), (intA (0))], 131⟩) :: []) 134 [a0, (intA a1)] fun v13 =>
exA6 v13 fun c14 c15 c16 c17 c18 c19 =>
ex_i64 c14 fun z20 =>
ex_i64 c15 fun z21 =>
ex_i64 c16 fun z22 =>
ex_i64 c17 fun z23 =>
ex_i64 c18 fun z24 =>
ex_i64 c19 fun z25 =>
retL R ((0, some ⟨[(intA z20), (intA z21), (intA z22), (intA z23), (intA z24), (intA z25)], 131⟩) :: (0, some ⟨[(intA (0)), (intA (0)), (intA (0)), (intA (0)), (intA (0)), (intA (0))], 131⟩) :: []) [some (AV.agg [(intA z20), (intA z21), (intA z22), (intA z23), (intA z24), (intA z25)]), some (intA (0))])))
theorem F73_own (a0 : AV) (a1 : Int) (R : AV → Mem → Prop) (h : F73 a0 a1 R) : Own pg KK.gl 73 [a0, (intA a1)] R := own_of_F fol Tryz.func73 (code := c73) (by kernel_rfl) (by kernel_rfl) (by kernel_rfl) (X := F73 a0 a1 R) (by kernel_rfl) h
/- skyway/plane.Sub -/
noncomputable def c221 : Code := ((Tryz.f221).body).getD .skip
noncomputable def q221 (R : AV → Mem → Prop) : AExit → St → Prop := retQ pg Tryz.f221 R
noncomputable def F221 (a0_0 : Int) (a0_1 : Int) (a1_0 : Int) (a1_1 : Int) (R : AV → Mem → Prop) : Prop :=
opP (bld [(intA (0)), (intA (0))] [(0, 1), (1, 1)] [(0, (intA (IntKind.wrap .i64 (a0_0 - a1_0)))), (1, (intA (IntKind.wrap .i64 (a0_1 - a1_1))))]) fun v0 =>
storeW pg (mget ((2, some ⟨[(intA (0)), (intA (0))], 86⟩) :: (1, some ⟨[(intA a1_0), (intA a1_1)], 86⟩) :: (0, some ⟨[(intA a0_0), (intA a0_1)], 86⟩) :: [])) 86 (AV.ptr 2 0) v0 fun v1 d1 =>
retL R (mpushs ((2, some ⟨[(intA (0)), (intA (0))], 86⟩) :: (1, some ⟨[(intA a1_0), (intA a1_1)], 86⟩) :: (0, some ⟨[(intA a0_0), (intA a0_1)], 86⟩) :: []) d1) [(aLoad pg (mget (mpushs ((2, some ⟨[(intA (0)), (intA (0))], 86⟩) :: (1, some ⟨[(intA a1_0), (intA a1_1)], 86⟩) :: (0, some ⟨[(intA a0_0), (intA a0_1)], 86⟩) :: []) d1)) 86 (AV.ptr 2 0)).map (·.1)]
theorem F221_own (a0_0 : Int) (a0_1 : Int) (a1_0 : Int) (a1_1 : Int) (R : AV → Mem → Prop) (h : F221 a0_0 a0_1 a1_0 a1_1 R) : Own pg KK.gl 221 [(AV.agg [(intA a0_0), (intA a0_1)]), (AV.agg [(intA a1_0), (intA a1_1)])] R := own_of_F fol Tryz.func221 (code := c221) (by kernel_rfl) (by kernel_rfl) (by kernel_rfl) (X := F221 a0_0 a0_1 a1_0 a1_1 R) (by kernel_rfl) h
/- skyway/plane.Dot -/
noncomputable def c293 : Code := ((Tryz.f293).body).getD .skip
noncomputable def q293 (R : AV → Mem → Prop) : AExit → St → Prop := retQ pg Tryz.f293 R
noncomputable def F293 (a0_0 : Int) (a0_1 : Int) (a1_0 : Int) (a1_1 : Int) (R : AV → Mem → Prop) : Prop :=
retL R ((1, some ⟨[(intA a1_0), (intA a1_1)], 86⟩) :: (0, some ⟨[(intA a0_0), (intA a0_1)], 86⟩) :: []) [some (intA (IntKind.wrap .i64 ((IntKind.wrap .i64 (a0_0 * a1_0)) + (IntKind.wrap .i64 (a0_1 * a1_1)))))]
theorem F293_own (a0_0 : Int) (a0_1 : Int) (a1_0 : Int) (a1_1 : Int) (R : AV → Mem → Prop) (h : F293 a0_0 a0_1 a1_0 a1_1 R) : Own pg KK.gl 293 [(AV.agg [(intA a0_0), (intA a0_1)]), (AV.agg [(intA a1_0), (intA a1_1)])] R := own_of_F fol Tryz.func293 (code := c293) (by kernel_rfl) (by kernel_rfl) (by kernel_rfl) (X := F293 a0_0 a0_1 a1_0 a1_1 R) (by kernel_rfl) h
/- skyway/plane.Square -/
noncomputable def c253 : Code := ((Tryz.f253).body).getD .skip
noncomputable def q253 (R : AV → Mem → Prop) : AExit → St → Prop := retQ pg Tryz.f253 R
noncomputable def F253 (a0_0 : Int) (a0_1 : Int) (a1_0 : Int) (a1_1 : Int) (R : AV → Mem → Prop) : Prop :=
callQ pg KK.gl ((1, some ⟨[(intA a1_0), (intA a1_1)], 86⟩) :: (0, some ⟨[(intA a0_0), (intA a0_1)], 86⟩) :: []) 221 [(AV.agg [(intA a0_0), (intA a0_1)]), (AV.agg [(intA a1_0), (intA a1_1)])] fun v0 =>
exA2 v0 fun c1 c2 =>
ex_i64 c1 fun z3 =>
ex_i64 c2 fun z4 =>
callQ pg KK.gl ((69, some ⟨[(intA z3), (intA z4)], 86⟩) :: (69, some ⟨[(intA (0)), (intA (0))], 86⟩) :: (1, some ⟨[(intA a1_0), (intA a1_1)], 86⟩) :: (0, some ⟨[(intA a0_0), (intA a0_1)], 86⟩) :: []) 293 [(AV.agg [(intA z3), (intA z4)]), (AV.agg [(intA z3), (intA z4)])] fun v5 =>
ex_i64 v5 fun z6 =>
retL R ((69, some ⟨[(intA z3), (intA z4)], 86⟩) :: (69, some ⟨[(intA (0)), (intA (0))], 86⟩) :: (1, some ⟨[(intA a1_0), (intA a1_1)], 86⟩) :: (0, some ⟨[(intA a0_0), (intA a0_1)], 86⟩) :: []) [some (intA z6)]
theorem F253_own (a0_0 : Int) (a0_1 : Int) (a1_0 : Int) (a1_1 : Int) (R : AV → Mem → Prop) (h : F253 a0_0 a0_1 a1_0 a1_1 R) : Own pg KK.gl 253 [(AV.agg [(intA a0_0), (intA a0_1)]), (AV.agg [(intA a1_0), (intA a1_1)])] R := own_of_F fol Tryz.func253 (code := c253) (by kernel_rfl) (by kernel_rfl) (by kernel_rfl) (X := F253 a0_0 a0_1 a1_0 a1_1 R) (by kernel_rfl) h
/- skyway/num.Root -/
noncomputable def c254 : Code := ((Tryz.f254).body).getD .skip
noncomputable def q254 (R : AV → Mem → Prop) : AExit → St → Prop := retQ pg Tryz.f254 R
noncomputable def c254_0 : Code := loopB c254 0
noncomputable def q254_0 (R : AV → Mem → Prop) : AExit → St → Prop := contW pg KK 27 0 c254 0 (q254 R)
noncomputable def qq254_0 (R : AV → Mem → Prop) (N0 : St → Prop) : AExit → St → Prop := thenQ N0 (q254_0 R)
def h254_0 (t0 : Int) (t2 : Int) (t3 : Int) (t4 : Int) (m : Mem) : St := ⟨[(0, (intA t0)), (2, (intA t2)), (3, (intA t3)), (4, (intA t4))], m, 100000⟩
noncomputable def B254_0 (t0 : Int) (t2 : Int) (t3 : Int) (t4 : Int) (m : Mem) (R : AV → Mem → Prop) (N0 : St → Prop) : Prop :=
bif (decide (t3 < t4)) then (
bif (decide ((IntKind.wrap .i64 ((IntKind.wrap .i64 (t3 + (IntKind.wrap .i64 (Int.tdiv (IntKind.wrap .i64 ((IntKind.wrap .i64 (t4 - t3)) + (1))) (2))))) * (IntKind.wrap .i64 (t3 + (IntKind.wrap .i64 (Int.tdiv (IntKind.wrap .i64 ((IntKind.wrap .i64 (t4 - t3)) + (1))) (2))))))) ≤ t0)) then (
N0 ⟨[(0, (intA t0)), (2, (intA t2)), (3, (intA (IntKind.wrap .i64 (t3 + (IntKind.wrap .i64 (Int.tdiv (IntKind.wrap .i64 ((IntKind.wrap .i64 (t4 - t3)) + (1))) (2))))))), (4, (intA t4)), (8, (intA t3)), (9, (intA t4)), (10, (boolA (decide (t3 < t4)))), (11, (intA t3)), (12, (intA t4)), (13, (intA t3)), (14, (intA (IntKind.wrap .i64 (t4 - t3)))), (15, (intA (IntKind.wrap .i64 ((IntKind.wrap .i64 (t4 - t3)) + (1))))), (16, (intA (IntKind.wrap .i64 (Int.tdiv (IntKind.wrap .i64 ((IntKind.wrap .i64 (t4 - t3)) + (1))) (2))))), (17, (intA (IntKind.wrap .i64 (t3 + (IntKind.wrap .i64 (Int.tdiv (IntKind.wrap .i64 ((IntKind.wrap .i64 (t4 - t3)) + (1))) (2))))))), (5, (intA (IntKind.wrap .i64 (t3 + (IntKind.wrap .i64 (Int.tdiv (IntKind.wrap .i64 ((IntKind.wrap .i64 (t4 - t3)) + (1))) (2))))))), (18, (intA (IntKind.wrap .i64 (t3 + (IntKind.wrap .i64 (Int.tdiv (IntKind.wrap .i64 ((IntKind.wrap .i64 (t4 - t3)) + (1))) (2))))))), (19, (intA (IntKind.wrap .i64 (t3 + (IntKind.wrap .i64 (Int.tdiv (IntKind.wrap .i64 ((IntKind.wrap .i64 (t4 - t3)) + (1))) (2))))))), (20, (intA (IntKind.wrap .i64 ((IntKind.wrap .i64 (t3 + (IntKind.wrap .i64 (Int.tdiv (IntKind.wrap .i64 ((IntKind.wrap .i64 (t4 - t3)) + (1))) (2))))) * (IntKind.wrap .i64 (t3 + (IntKind.wrap .i64 (Int.tdiv (IntKind.wrap .i64 ((IntKind.wrap .i64 (t4 - t3)) + (1))) (2))))))))), (21, (intA t0)), (22, (boolA (decide ((IntKind.wrap .i64 ((IntKind.wrap .i64 (t3 + (IntKind.wrap .i64 (Int.tdiv (IntKind.wrap .i64 ((IntKind.wrap .i64 (t4 - t3)) + (1))) (2))))) * (IntKind.wrap .i64 (t3 + (IntKind.wrap .i64 (Int.tdiv (IntKind.wrap .i64 ((IntKind.wrap .i64 (t4 - t3)) + (1))) (2))))))) ≤ t0)))), (23, (intA (IntKind.wrap .i64 (t3 + (IntKind.wrap .i64 (Int.tdiv (IntKind.wrap .i64 ((IntKind.wrap .i64 (t4 - t3)) + (1))) (2)))))))], m, 100018⟩) else (
N0 ⟨[(0, (intA t0)), (2, (intA t2)), (3, (intA t3)), (4, (intA (IntKind.wrap .i64 ((IntKind.wrap .i64 (t3 + (IntKind.wrap .i64 (Int.tdiv (IntKind.wrap .i64 ((IntKind.wrap .i64 (t4 - t3)) + (1))) (2))))) - (1))))), (8, (intA t3)), (9, (intA t4)), (10, (boolA (decide (t3 < t4)))), (11, (intA t3)), (12, (intA t4)), (13, (intA t3)), (14, (intA (IntKind.wrap .i64 (t4 - t3)))), (15, (intA (IntKind.wrap .i64 ((IntKind.wrap .i64 (t4 - t3)) + (1))))), (16, (intA (IntKind.wrap .i64 (Int.tdiv (IntKind.wrap .i64 ((IntKind.wrap .i64 (t4 - t3)) + (1))) (2))))), (17, (intA (IntKind.wrap .i64 (t3 + (IntKind.wrap .i64 (Int.tdiv (IntKind.wrap .i64 ((IntKind.wrap .i64 (t4 - t3)) + (1))) (2))))))), (5, (intA (IntKind.wrap .i64 (t3 + (IntKind.wrap .i64 (Int.tdiv (IntKind.wrap .i64 ((IntKind.wrap .i64 (t4 - t3)) + (1))) (2))))))), (18, (intA (IntKind.wrap .i64 (t3 + (IntKind.wrap .i64 (Int.tdiv (IntKind.wrap .i64 ((IntKind.wrap .i64 (t4 - t3)) + (1))) (2))))))), (19, (intA (IntKind.wrap .i64 (t3 + (IntKind.wrap .i64 (Int.tdiv (IntKind.wrap .i64 ((IntKind.wrap .i64 (t4 - t3)) + (1))) (2))))))), (20, (intA (IntKind.wrap .i64 ((IntKind.wrap .i64 (t3 + (IntKind.wrap .i64 (Int.tdiv (IntKind.wrap .i64 ((IntKind.wrap .i64 (t4 - t3)) + (1))) (2))))) * (IntKind.wrap .i64 (t3 + (IntKind.wrap .i64 (Int.tdiv (IntKind.wrap .i64 ((IntKind.wrap .i64 (t4 - t3)) + (1))) (2))))))))), (21, (intA t0)), (22, (boolA (decide ((IntKind.wrap .i64 ((IntKind.wrap .i64 (t3 + (IntKind.wrap .i64 (Int.tdiv (IntKind.wrap .i64 ((IntKind.wrap .i64 (t4 - t3)) + (1))) (2))))) * (IntKind.wrap .i64 (t3 + (IntKind.wrap .i64 (Int.tdiv (IntKind.wrap .i64 ((IntKind.wrap .i64 (t4 - t3)) + (1))) (2))))))) ≤ t0)))), (24, (intA (IntKind.wrap .i64 (t3 + (IntKind.wrap .i64 (Int.tdiv (IntKind.wrap .i64 ((IntKind.wrap .i64 (t4 - t3)) + (1))) (2))))))), (25, (intA (IntKind.wrap .i64 ((IntKind.wrap .i64 (t3 + (IntKind.wrap .i64 (Int.tdiv (IntKind.wrap .i64 ((IntKind.wrap .i64 (t4 - t3)) + (1))) (2))))) - (1)))))], m, 100019⟩)) else (
retL R m [some (intA t3)])
theorem B254_0_eq (t0 : Int) (t2 : Int) (t3 : Int) (t4 : Int) (m : Mem) (R : AV → Mem → Prop) (N0 : St → Prop) : W pg KK 27 0 c254_0 (h254_0 t0 t2 t3 t4 m) (qq254_0 R N0) = B254_0 t0 t2 t3 t4 m R N0 := by kernel_rfl
theorem L254_0 (R : AV → Mem → Prop) {σ : Type} (I : σ → Prop) (t0 : σ → Int) (t2 : σ → Int) (t3 : σ → Int) (t4 : σ → Int) (m : σ → Mem) (μ : σ → Nat) (step : ∀ x, I x → B254_0 (t0 x) (t2 x) (t3 x) (t4 x) (m x) R (fun s' => ∃ y, I y ∧ μ y < μ x ∧ Weak KK 27 0 s' (h254_0 (t0 y) (t2 y) (t3 y) (t4 y) (m y)))) (x : σ) (hx : I x) {s : St} (hw : Weak KK 27 0 s (h254_0 (t0 x) (t2 x) (t3 x) (t4 x) (m x))) : Tri pg KK 27 0 (.loop c254_0) s (q254_0 R) :=
  Tri.weak hw (Tri.loops fol I (fun x => h254_0 (t0 x) (t2 x) (t3 x) (t4 x) (m x)) μ (fun x hx => (B254_0_eq (t0 x) (t2 x) (t3 x) (t4 x) (m x) R _).mpr (step x hx)) x hx)
noncomputable def F254 (a0 : Int) (R : AV → Mem → Prop) : Prop :=
bif (decide (a0 ≤ (0))) then (
retL R [] [some (intA (0))]) else (
Tri pg KK 27 0 (.loop c254_0) ⟨[(0, (intA a0)), (2, (intA (0))), (6, (intA a0)), (7, (boolA (decide (a0 ≤ (0))))), (3, (intA (0))), (4, (intA (3037000499)))], [], 5⟩ (q254_0 R))
theorem F254_own (a0 : Int) (R : AV → Mem → Prop) (h : F254 a0 R) : Own pg KK.gl 254 [(intA a0)] R := own_of_F fol Tryz.func254 (code := c254) (by kernel_rfl) (by kernel_rfl) (by kernel_rfl) (X := F254 a0 R) (by kernel_rfl) h
/- skyway/plane.Distance -/
noncomputable def c195 : Code := ((Tryz.f195).body).getD .skip
noncomputable def q195 (R : AV → Mem → Prop) : AExit → St → Prop := retQ pg Tryz.f195 R
noncomputable def F195 (a0_0 : Int) (a0_1 : Int) (a1_0 : Int) (a1_1 : Int) (R : AV → Mem → Prop) : Prop :=
callQ pg KK.gl ((1, some ⟨[(intA a1_0), (intA a1_1)], 86⟩) :: (0, some ⟨[(intA a0_0), (intA a0_1)], 86⟩) :: []) 253 [(AV.agg [(intA a0_0), (intA a0_1)]), (AV.agg [(intA a1_0), (intA a1_1)])] fun v0 =>
ex_i64 v0 fun z1 =>
callQ pg KK.gl ((1, some ⟨[(intA a1_0), (intA a1_1)], 86⟩) :: (0, some ⟨[(intA a0_0), (intA a0_1)], 86⟩) :: []) 254 [(intA z1)] fun v2 =>
ex_i64 v2 fun z3 =>
bif (decide ((IntKind.wrap .i64 (z3 * z3)) < z1)) then (
retL R ((1, some ⟨[(intA a1_0), (intA a1_1)], 86⟩) :: (0, some ⟨[(intA a0_0), (intA a0_1)], 86⟩) :: []) [some (intA z3), some (intA (IntKind.wrap .i64 (z3 + (1))))]) else (
retL R ((1, some ⟨[(intA a1_0), (intA a1_1)], 86⟩) :: (0, some ⟨[(intA a0_0), (intA a0_1)], 86⟩) :: []) [some (intA z3), some (intA z3)])
theorem F195_own (a0_0 : Int) (a0_1 : Int) (a1_0 : Int) (a1_1 : Int) (R : AV → Mem → Prop) (h : F195 a0_0 a0_1 a1_0 a1_1 R) : Own pg KK.gl 195 [(AV.agg [(intA a0_0), (intA a0_1)]), (AV.agg [(intA a1_0), (intA a1_1)])] R := own_of_F fol Tryz.func195 (code := c195) (by kernel_rfl) (by kernel_rfl) (by kernel_rfl) (X := F195 a0_0 a0_1 a1_0 a1_1 R) (by kernel_rfl) h
/- skyway/probe.separated -/
noncomputable def c197 : Code := ((Tryz.f197).body).getD .skip
noncomputable def q197 (R : AV → Mem → Prop) : AExit → St → Prop := retQ pg Tryz.f197 R
noncomputable def F197 (a0_0 : Int) (a0_1 : Int) (a0_2 : Int) (a0_3 : Int) (a0_4 : Int) (a0_5 : Int) (a1_0 : Int) (a1_1 : Int) (a1_2 : Int) (a1_3 : Int) (a1_4 : Int) (a1_5 : Int) (a2_0 : Int) (a2_1 : Int) (R : AV → Mem → Prop) : Prop :=
callQ pg KK.gl ((2, some ⟨[(intA a2_0), (intA a2_1)], 91⟩) :: (1, some ⟨[(intA a1_0), (intA a1_1), (intA a1_2), (intA a1_3), (intA a1_4), (intA a1_5)], 131⟩) :: (0, some ⟨[(intA a0_0), (intA a0_1), (intA a0_2), (intA a0_3), (intA a0_4), (intA a0_5)], 131⟩) :: []) 195 [(AV.agg [(intA a0_1), (intA a0_2)]), (AV.agg [(intA a1_1), (intA a1_2)])] fun v0 =>
exT2 v0 fun c1 c2 =>
ex_i64 c1 fun z3 =>
ex_i64 c2 fun z4 =>
bif (decide ((IntKind.wrap .i64 ((IntKind.wrap .i64 (z3 - a0_4)) - a1_4)) ≥ a2_0)) then (
retL R ((2, some ⟨[(intA a2_0), (intA a2_1)], 91⟩) :: (1, some ⟨[(intA a1_0), (intA a1_1), (intA a1_2), (intA a1_3), (intA a1_4), (intA a1_5)], 131⟩) :: (0, some ⟨[(intA a0_0), (intA a0_1), (intA a0_2), (intA a0_3), (intA a0_4), (intA a0_5)], 131⟩) :: []) [some (boolA true)]) else (
opP (opA pg (.call ⟨.builtin .max, #[.tmp 0, .tmp 1], #[3, 3]⟩) 3 [(intA (IntKind.wrap .i64 (a0_3 - a1_3))), (intA (IntKind.wrap .i64 (a1_3 - a0_3)))] (mget ((2, some ⟨[(intA a2_0), (intA a2_1)], 91⟩) :: (1, some ⟨[(intA a1_0), (intA a1_1), (intA a1_2), (intA a1_3), (intA a1_4), (intA a1_5)], 131⟩) :: (0, some ⟨[(intA a0_0), (intA a0_1), (intA a0_2), (intA a0_3), (intA a0_4), (intA a0_5)], 131⟩) :: [])) 104) fun v5 =>
ex_i64 v5 fun z6 =>
retL R ((2, some ⟨[(intA a2_0), (intA a2_1)], 91⟩) :: (1, some ⟨[(intA a1_0), (intA a1_1), (intA a1_2), (intA a1_3), (intA a1_4), (intA a1_5)], 131⟩) :: (0, some ⟨[(intA a0_0), (intA a0_1), (intA a0_2), (intA a0_3), (intA a0_4), (intA a0_5)], 131⟩) :: []) [some (boolA (decide ((IntKind.wrap .i64 ((IntKind.wrap .i64 (z6 - a0_5)) - a1_5)) ≥ a2_1)))])
theorem F197_own (a0_0 : Int) (a0_1 : Int) (a0_2 : Int) (a0_3 : Int) (a0_4 : Int) (a0_5 : Int) (a1_0 : Int) (a1_1 : Int) (a1_2 : Int) (a1_3 : Int) (a1_4 : Int) (a1_5 : Int) (a2_0 : Int) (a2_1 : Int) (R : AV → Mem → Prop) (h : F197 a0_0 a0_1 a0_2 a0_3 a0_4 a0_5 a1_0 a1_1 a1_2 a1_3 a1_4 a1_5 a2_0 a2_1 R) : Own pg KK.gl 197 [(AV.agg [(intA a0_0), (intA a0_1), (intA a0_2), (intA a0_3), (intA a0_4), (intA a0_5)]), (AV.agg [(intA a1_0), (intA a1_1), (intA a1_2), (intA a1_3), (intA a1_4), (intA a1_5)]), (AV.agg [(intA a2_0), (intA a2_1)])] R := own_of_F fol Tryz.func197 (code := c197) (by kernel_rfl) (by kernel_rfl) (by kernel_rfl) (X := F197 a0_0 a0_1 a0_2 a0_3 a0_4 a0_5 a1_0 a1_1 a1_2 a1_3 a1_4 a1_5 a2_0 a2_1 R) (by kernel_rfl) h
/- skyway/probe.spans -/
noncomputable def c141 : Code := ((Tryz.f141).body).getD .skip
noncomputable def q141 (R : AV → Mem → Prop) : AExit → St → Prop := retQ pg Tryz.f141 R
noncomputable def c141_0 : Code := loopB c141 0
noncomputable def q141_0 (R : AV → Mem → Prop) : AExit → St → Prop := contW pg KK 73 0 c141 0 (q141 R)
noncomputable def qq141_0 (R : AV → Mem → Prop) (N0 : St → Prop) : AExit → St → Prop := thenQ N0 (q141_0 R)
def h141_0 (t0 : AV) (t1 : AV) (t6 : AV) (t7 : AV) (t9 : Int) (t10 : Int) (b0_0 : Int) (b0_1 : Int) (m : Mem) : St := ⟨[(0, t0), (1, t1), (5, (AV.ptr 0 0)), (6, t6), (7, t7), (9, (intA t9)), (10, (intA t10))], ((0, some ⟨[(intA b0_0), (intA b0_1)], 91⟩) :: m), 100000⟩
noncomputable def B141_0 (t0 : AV) (t1 : AV) (t6 : AV) (t7 : AV) (t9 : Int) (t10 : Int) (b0_0 : Int) (b0_1 : Int) (m : Mem) (R : AV → Mem → Prop) (N0 : St → Prop) : Prop :=
bif (decide (t10 ≤ t9)) then (
callQ pg KK.gl ((0, some ⟨[(intA b0_0), (intA b0_1)], 91⟩) :: m) 73 [t0, (intA t10)] fun v5 =>
exT2 v5 fun c6 c7 =>
exA6 c6 fun c8 c9 c10 c11 c12 c13 =>
ex_i64 c8 fun z14 =>
ex_i64 c9 fun z15 =>
ex_i64 c10 fun z16 =>
ex_i64 c11 fun z17 =>
ex_i64 c12 fun z18 =>
ex_i64 c13 fun z19 =>
ex_i64 c7 fun z20 =>
callQ pg KK.gl ((100072, some ⟨[(intA z14), (intA z15), (intA z16), (intA z17), (intA z18), (intA z19)], 131⟩) :: (100072, some ⟨[(intA (0)), (intA (0)), (intA (0)), (intA (0)), (intA (0)), (intA (0))], 131⟩) :: (0, some ⟨[(intA b0_0), (intA b0_1)], 91⟩) :: m) 73 [t1, (intA t10)] fun v21 =>
exT2 v21 fun c22 c23 =>
exA6 c22 fun c24 c25 c26 c27 c28 c29 =>
ex_i64 c24 fun z30 =>
ex_i64 c25 fun z31 =>
ex_i64 c26 fun z32 =>
ex_i64 c27 fun z33 =>
ex_i64 c28 fun z34 =>
ex_i64 c29 fun z35 =>
ex_i64 c23 fun z36 =>
callQ pg KK.gl ((100144, some ⟨[(intA z30), (intA z31), (intA z32), (intA z33), (intA z34), (intA z35)], 131⟩) :: (100144, some ⟨[(intA (0)), (intA (0)), (intA (0)), (intA (0)), (intA (0)), (intA (0))], 131⟩) :: (100072, some ⟨[(intA z14), (intA z15), (intA z16), (intA z17), (intA z18), (intA z19)], 131⟩) :: (100072, some ⟨[(intA (0)), (intA (0)), (intA (0)), (intA (0)), (intA (0)), (intA (0))], 131⟩) :: (0, some ⟨[(intA b0_0), (intA b0_1)], 91⟩) :: m) 197 [(AV.agg [(intA z14), (intA z15), (intA z16), (intA z17), (intA z18), (intA z19)]), (AV.agg [(intA z30), (intA z31), (intA z32), (intA z33), (intA z34), (intA z35)]), (AV.agg [(intA b0_0), (intA b0_1)])] fun v37 =>
exB v37 fun b38 =>
bif b38 then (
N0 ⟨[(0, t0), (1, t1), (5, (AV.ptr 0 0)), (6, t6), (7, t7), (9, (intA t9)), (10, (intA (IntKind.wrap .i64 (t10 + (1))))), (23, (intA t10)), (24, (intA t9)), (25, (boolA (decide (t10 ≤ t9)))), (29, t0), (30, (intA t10)), (31, (AV.tup [(AV.agg [(intA z14), (intA z15), (intA z16), (intA z17), (intA z18), (intA z19)]), (intA z20)])), (28, (AV.tup [(AV.agg [(intA z14), (intA z15), (intA z16), (intA z17), (intA z18), (intA z19)]), (intA z20)])), (32, (AV.agg [(intA z14), (intA z15), (intA z16), (intA z17), (intA z18), (intA z19)])), (33, (intA z20)), (11, (AV.ptr 100072 0)), (12, (intA z20)), (35, t1), (36, (intA t10)), (37, (AV.tup [(AV.agg [(intA z30), (intA z31), (intA z32), (intA z33), (intA z34), (intA z35)]), (intA z36)])), (34, (AV.tup [(AV.agg [(intA z30), (intA z31), (intA z32), (intA z33), (intA z34), (intA z35)]), (intA z36)])), (38, (AV.agg [(intA z30), (intA z31), (intA z32), (intA z33), (intA z34), (intA z35)])), (39, (intA z36)), (13, (AV.ptr 100144 0)), (14, (intA z36)), (40, (AV.agg [(intA z14), (intA z15), (intA z16), (intA z17), (intA z18), (intA z19)])), (41, (AV.agg [(intA z30), (intA z31), (intA z32), (intA z33), (intA z34), (intA z35)])), (42, (AV.agg [(intA b0_0), (intA b0_1)])), (43, (boolA b38)), (26, (intA t10)), (27, (intA (IntKind.wrap .i64 (t10 + (1)))))], ((100144, some ⟨[(intA z30), (intA z31), (intA z32), (intA z33), (intA z34), (intA z35)], 131⟩) :: (100144, some ⟨[(intA (0)), (intA (0)), (intA (0)), (intA (0)), (intA (0)), (intA (0))], 131⟩) :: (100072, some ⟨[(intA z14), (intA z15), (intA z16), (intA z17), (intA z18), (intA z19)], 131⟩) :: (100072, some ⟨[(intA (0)), (intA (0)), (intA (0)), (intA (0)), (intA (0)), (intA (0))], 131⟩) :: (0, some ⟨[(intA b0_0), (intA b0_1)], 91⟩) :: m), 100217⟩) else (
opP (lenS t7) fun v39 =>
ex_i64 v39 fun z40 =>
bif (decide (z40 > (0))) then (
opP (idxS 2 t7 (intA (IntKind.wrap .i64 (z40 - (1))))) fun v41 =>
opP (fldO 1 v41) fun v42 =>
opP (ldS (mget ((100144, some ⟨[(intA z30), (intA z31), (intA z32), (intA z33), (intA z34), (intA z35)], 131⟩) :: (100144, some ⟨[(intA (0)), (intA (0)), (intA (0)), (intA (0)), (intA (0)), (intA (0))], 131⟩) :: (100072, some ⟨[(intA z14), (intA z15), (intA z16), (intA z17), (intA z18), (intA z19)], 131⟩) :: (100072, some ⟨[(intA (0)), (intA (0)), (intA (0)), (intA (0)), (intA (0)), (intA (0))], 131⟩) :: (0, some ⟨[(intA b0_0), (intA b0_1)], 91⟩) :: m)) v42) fun v43 =>
ex_i64 v43 fun z44 =>
bif (z44 == t10) then (
opP (idxS 2 t7 (intA (IntKind.wrap .i64 (z40 - (1))))) fun v45 =>
opP (fldO 1 v45) fun v46 =>
storeW pg (mget ((100144, some ⟨[(intA z30), (intA z31), (intA z32), (intA z33), (intA z34), (intA z35)], 131⟩) :: (100144, some ⟨[(intA (0)), (intA (0)), (intA (0)), (intA (0)), (intA (0)), (intA (0))], 131⟩) :: (100072, some ⟨[(intA z14), (intA z15), (intA z16), (intA z17), (intA z18), (intA z19)], 131⟩) :: (100072, some ⟨[(intA (0)), (intA (0)), (intA (0)), (intA (0)), (intA (0)), (intA (0))], 131⟩) :: (0, some ⟨[(intA b0_0), (intA b0_1)], 91⟩) :: m)) 3 v46 (intA (IntKind.wrap .i64 (t10 + (1)))) fun v47 d47 =>
N0 ⟨[(0, t0), (1, t1), (5, (AV.ptr 0 0)), (6, t6), (7, t7), (9, (intA t9)), (10, (intA (IntKind.wrap .i64 (t10 + (1))))), (23, (intA t10)), (24, (intA t9)), (25, (boolA (decide (t10 ≤ t9)))), (29, t0), (30, (intA t10)), (31, (AV.tup [(AV.agg [(intA z14), (intA z15), (intA z16), (intA z17), (intA z18), (intA z19)]), (intA z20)])), (28, (AV.tup [(AV.agg [(intA z14), (intA z15), (intA z16), (intA z17), (intA z18), (intA z19)]), (intA z20)])), (32, (AV.agg [(intA z14), (intA z15), (intA z16), (intA z17), (intA z18), (intA z19)])), (33, (intA z20)), (11, (AV.ptr 100072 0)), (12, (intA z20)), (35, t1), (36, (intA t10)), (37, (AV.tup [(AV.agg [(intA z30), (intA z31), (intA z32), (intA z33), (intA z34), (intA z35)]), (intA z36)])), (34, (AV.tup [(AV.agg [(intA z30), (intA z31), (intA z32), (intA z33), (intA z34), (intA z35)]), (intA z36)])), (38, (AV.agg [(intA z30), (intA z31), (intA z32), (intA z33), (intA z34), (intA z35)])), (39, (intA z36)), (13, (AV.ptr 100144 0)), (14, (intA z36)), (40, (AV.agg [(intA z14), (intA z15), (intA z16), (intA z17), (intA z18), (intA z19)])), (41, (AV.agg [(intA z30), (intA z31), (intA z32), (intA z33), (intA z34), (intA z35)])), (42, (AV.agg [(intA b0_0), (intA b0_1)])), (43, (boolA b38)), (44, t7), (45, (intA z40)), (15, (intA z40)), (46, (intA z40)), (47, (boolA (decide (z40 > (0))))), (48, (boolA true)), (49, t7), (50, (intA z40)), (51, (intA (IntKind.wrap .i64 (z40 - (1))))), (52, v41), (53, v42), (54, (intA z44)), (55, (intA t10)), (56, (boolA (z44 == t10))), (57, (boolA (z44 == t10))), (58, t7), (59, (intA z40)), (60, (intA (IntKind.wrap .i64 (z40 - (1))))), (61, (intA t10)), (62, (intA (IntKind.wrap .i64 (t10 + (1))))), (63, v45), (64, v46), (26, (intA t10)), (27, (intA (IntKind.wrap .i64 (t10 + (1)))))], (mpushs ((100144, some ⟨[(intA z30), (intA z31), (intA z32), (intA z33), (intA z34), (intA z35)], 131⟩) :: (100144, some ⟨[(intA (0)), (intA (0)), (intA (0)), (intA (0)), (intA (0)), (intA (0))], 131⟩) :: (100072, some ⟨[(intA z14), (intA z15), (intA z16), (intA z17), (intA z18), (intA z19)], 131⟩) :: (100072, some ⟨[(intA (0)), (intA (0)), (intA (0)), (intA (0)), (intA (0)), (intA (0))], 131⟩) :: (0, some ⟨[(intA b0_0), (intA b0_1)], 91⟩) :: m) d47), 100240⟩) else (
opP (bld [(intA (0)), (intA (0))] [(0, 1), (1, 1)] [(0, (intA t10)), (1, (intA (IntKind.wrap .i64 (t10 + (1)))))]) fun v48 =>
opN (bsl 100234 99 2 1 [(intA (0)), (intA (0))] [(0, v48)]) ((100144, some ⟨[(intA z30), (intA z31), (intA z32), (intA z33), (intA z34), (intA z35)], 131⟩) :: (100144, some ⟨[(intA (0)), (intA (0)), (intA (0)), (intA (0)), (intA (0)), (intA (0))], 131⟩) :: (100072, some ⟨[(intA z14), (intA z15), (intA z16), (intA z17), (intA z18), (intA z19)], 131⟩) :: (100072, some ⟨[(intA (0)), (intA (0)), (intA (0)), (intA (0)), (intA (0)), (intA (0))], 131⟩) :: (0, some ⟨[(intA b0_0), (intA b0_1)], 91⟩) :: m) fun v49 m49 =>
opN (app (mget m49) 99 2 16 [(intA (0)), (intA (0))] 100235 t7 v49) m49 fun v50 m50 =>
N0 ⟨[(0, t0), (1, t1), (5, (AV.ptr 0 0)), (6, t6), (7, v50), (9, (intA t9)), (10, (intA (IntKind.wrap .i64 (t10 + (1))))), (23, (intA t10)), (24, (intA t9)), (25, (boolA (decide (t10 ≤ t9)))), (29, t0), (30, (intA t10)), (31, (AV.tup [(AV.agg [(intA z14), (intA z15), (intA z16), (intA z17), (intA z18), (intA z19)]), (intA z20)])), (28, (AV.tup [(AV.agg [(intA z14), (intA z15), (intA z16), (intA z17), (intA z18), (intA z19)]), (intA z20)])), (32, (AV.agg [(intA z14), (intA z15), (intA z16), (intA z17), (intA z18), (intA z19)])), (33, (intA z20)), (11, (AV.ptr 100072 0)), (12, (intA z20)), (35, t1), (36, (intA t10)), (37, (AV.tup [(AV.agg [(intA z30), (intA z31), (intA z32), (intA z33), (intA z34), (intA z35)]), (intA z36)])), (34, (AV.tup [(AV.agg [(intA z30), (intA z31), (intA z32), (intA z33), (intA z34), (intA z35)]), (intA z36)])), (38, (AV.agg [(intA z30), (intA z31), (intA z32), (intA z33), (intA z34), (intA z35)])), (39, (intA z36)), (13, (AV.ptr 100144 0)), (14, (intA z36)), (40, (AV.agg [(intA z14), (intA z15), (intA z16), (intA z17), (intA z18), (intA z19)])), (41, (AV.agg [(intA z30), (intA z31), (intA z32), (intA z33), (intA z34), (intA z35)])), (42, (AV.agg [(intA b0_0), (intA b0_1)])), (43, (boolA b38)), (44, t7), (45, (intA z40)), (15, (intA z40)), (46, (intA z40)), (47, (boolA (decide (z40 > (0))))), (48, (boolA true)), (49, t7), (50, (intA z40)), (51, (intA (IntKind.wrap .i64 (z40 - (1))))), (52, v41), (53, v42), (54, (intA z44)), (55, (intA t10)), (56, (boolA (z44 == t10))), (57, (boolA (z44 == t10))), (65, t7), (66, (intA t10)), (67, (intA t10)), (68, (intA (IntKind.wrap .i64 (t10 + (1))))), (69, v48), (70, v49), (71, v50), (26, (intA t10)), (27, (intA (IntKind.wrap .i64 (t10 + (1)))))], m50, 100240⟩)) else (
opP (bld [(intA (0)), (intA (0))] [(0, 1), (1, 1)] [(0, (intA t10)), (1, (intA (IntKind.wrap .i64 (t10 + (1)))))]) fun v51 =>
opN (bsl 100226 99 2 1 [(intA (0)), (intA (0))] [(0, v51)]) ((100144, some ⟨[(intA z30), (intA z31), (intA z32), (intA z33), (intA z34), (intA z35)], 131⟩) :: (100144, some ⟨[(intA (0)), (intA (0)), (intA (0)), (intA (0)), (intA (0)), (intA (0))], 131⟩) :: (100072, some ⟨[(intA z14), (intA z15), (intA z16), (intA z17), (intA z18), (intA z19)], 131⟩) :: (100072, some ⟨[(intA (0)), (intA (0)), (intA (0)), (intA (0)), (intA (0)), (intA (0))], 131⟩) :: (0, some ⟨[(intA b0_0), (intA b0_1)], 91⟩) :: m) fun v52 m52 =>
opN (app (mget m52) 99 2 16 [(intA (0)), (intA (0))] 100227 t7 v52) m52 fun v53 m53 =>
N0 ⟨[(0, t0), (1, t1), (5, (AV.ptr 0 0)), (6, t6), (7, v53), (9, (intA t9)), (10, (intA (IntKind.wrap .i64 (t10 + (1))))), (23, (intA t10)), (24, (intA t9)), (25, (boolA (decide (t10 ≤ t9)))), (29, t0), (30, (intA t10)), (31, (AV.tup [(AV.agg [(intA z14), (intA z15), (intA z16), (intA z17), (intA z18), (intA z19)]), (intA z20)])), (28, (AV.tup [(AV.agg [(intA z14), (intA z15), (intA z16), (intA z17), (intA z18), (intA z19)]), (intA z20)])), (32, (AV.agg [(intA z14), (intA z15), (intA z16), (intA z17), (intA z18), (intA z19)])), (33, (intA z20)), (11, (AV.ptr 100072 0)), (12, (intA z20)), (35, t1), (36, (intA t10)), (37, (AV.tup [(AV.agg [(intA z30), (intA z31), (intA z32), (intA z33), (intA z34), (intA z35)]), (intA z36)])), (34, (AV.tup [(AV.agg [(intA z30), (intA z31), (intA z32), (intA z33), (intA z34), (intA z35)]), (intA z36)])), (38, (AV.agg [(intA z30), (intA z31), (intA z32), (intA z33), (intA z34), (intA z35)])), (39, (intA z36)), (13, (AV.ptr 100144 0)), (14, (intA z36)), (40, (AV.agg [(intA z14), (intA z15), (intA z16), (intA z17), (intA z18), (intA z19)])), (41, (AV.agg [(intA z30), (intA z31), (intA z32), (intA z33), (intA z34), (intA z35)])), (42, (AV.agg [(intA b0_0), (intA b0_1)])), (43, (boolA b38)), (44, t7), (45, (intA z40)), (15, (intA z40)), (46, (intA z40)), (47, (boolA (decide (z40 > (0))))), (48, (boolA false)), (49, (AV.tup [])), (50, (AV.tup [])), (51, (AV.tup [])), (52, (AV.tup [])), (53, (AV.tup [])), (54, (AV.tup [])), (55, (AV.tup [])), (56, (AV.tup [])), (57, (boolA false)), (65, t7), (66, (intA t10)), (67, (intA t10)), (68, (intA (IntKind.wrap .i64 (t10 + (1))))), (69, v51), (70, v52), (71, v53), (26, (intA t10)), (27, (intA (IntKind.wrap .i64 (t10 + (1)))))], m53, 100232⟩))) else (
retL R ((0, some ⟨[(intA b0_0), (intA b0_1)], 91⟩) :: m) [some t7])
theorem B141_0_eq (t0 : AV) (t1 : AV) (t6 : AV) (t7 : AV) (t9 : Int) (t10 : Int) (b0_0 : Int) (b0_1 : Int) (m : Mem) (R : AV → Mem → Prop) (N0 : St → Prop) : W pg KK 73 0 c141_0 (h141_0 t0 t1 t6 t7 t9 t10 b0_0 b0_1 m) (qq141_0 R N0) = B141_0 t0 t1 t6 t7 t9 t10 b0_0 b0_1 m R N0 := by kernel_rfl
theorem L141_0 (R : AV → Mem → Prop) {σ : Type} (I : σ → Prop) (t0 : σ → AV) (t1 : σ → AV) (t6 : σ → AV) (t7 : σ → AV) (t9 : σ → Int) (t10 : σ → Int) (b0_0 : σ → Int) (b0_1 : σ → Int) (m : σ → Mem) (μ : σ → Nat) (step : ∀ x, I x → B141_0 (t0 x) (t1 x) (t6 x) (t7 x) (t9 x) (t10 x) (b0_0 x) (b0_1 x) (m x) R (fun s' => ∃ y, I y ∧ μ y < μ x ∧ Weak KK 73 0 s' (h141_0 (t0 y) (t1 y) (t6 y) (t7 y) (t9 y) (t10 y) (b0_0 y) (b0_1 y) (m y)))) (x : σ) (hx : I x) {s : St} (hw : Weak KK 73 0 s (h141_0 (t0 x) (t1 x) (t6 x) (t7 x) (t9 x) (t10 x) (b0_0 x) (b0_1 x) (m x))) : Tri pg KK 73 0 (.loop c141_0) s (q141_0 R) :=
  Tri.weak hw (Tri.loops fol I (fun x => h141_0 (t0 x) (t1 x) (t6 x) (t7 x) (t9 x) (t10 x) (b0_0 x) (b0_1 x) (m x)) μ (fun x hx => (B141_0_eq (t0 x) (t1 x) (t6 x) (t7 x) (t9 x) (t10 x) (b0_0 x) (b0_1 x) (m x) R _).mpr (step x hx)) x hx)
noncomputable def F141 (a0 : AV) (a1 : AV) (a2_0 : Int) (a2_1 : Int) (R : AV → Mem → Prop) : Prop :=
callQ pg KK.gl ((0, some ⟨[(intA a2_0), (intA a2_1)], 91⟩) :: []) 196 [a0, a1] fun v0 =>
exT2 v0 fun c1 c2 =>
ex_i64 c1 fun z3 =>
ex_i64 c2 fun z4 =>
Tri pg KK 73 0 (.loop c141_0) ⟨[(0, a0), (1, a1), (2, (AV.agg [(intA a2_0), (intA a2_1)])), (5, (AV.ptr 0 0)), (6, AV.nils), (7, AV.nils), (17, a0), (18, a1), (19, (AV.tup [(intA z3), (intA z4)])), (16, (AV.tup [(intA z3), (intA z4)])), (20, (intA z3)), (21, (intA z4)), (8, (intA z3)), (9, (intA z4)), (22, (intA z3)), (10, (intA z3))], ((0, some ⟨[(intA a2_0), (intA a2_1)], 91⟩) :: []), 76⟩ (q141_0 R)
theorem F141_own (a0 : AV) (a1 : AV) (a2_0 : Int) (a2_1 : Int) (R : AV → Mem → Prop) (h : F141 a0 a1 a2_0 a2_1 R) : Own pg KK.gl 141 [a0, a1, (AV.agg [(intA a2_0), (intA a2_1)])] R := own_of_F fol Tryz.func141 (code := c141) (by kernel_rfl) (by kernel_rfl) (by kernel_rfl) (X := F141 a0 a1 a2_0 a2_1 R) (by kernel_rfl) h
/- skyway/probe.Pair -/
noncomputable def c77 : Code := ((Tryz.f77).body).getD .skip
noncomputable def q77 (R : AV → Mem → Prop) : AExit → St → Prop := retQ pg Tryz.f77 R
noncomputable def F77 (a0 : AV) (a1 : AV) (a2_0 : Int) (a2_1 : Int) (R : AV → Mem → Prop) : Prop :=
opN (bsl 6 78 1 2 [AV.nils] [(0, a0), (1, a1)]) ((0, some ⟨[(intA a2_0), (intA a2_1)], 91⟩) :: []) fun v0 m0 =>
callQ pg KK.gl m0 140 [(AV.agg [(intA a2_0), (intA a2_1)]), v0] fun v1 =>
ex_i64 v1 fun z2 =>
bif (z2 != (0)) then (
retL R m0 [some AV.nils, some (intA z2)]) else (
opP (ldA (mget m0) 2 (AV.ptr 0 0)) fun v3 =>
exA2 v3 fun c4 c5 =>
ex_i64 c4 fun z6 =>
ex_i64 c5 fun z7 =>
callQ pg KK.gl m0 141 [a0, a1, (AV.agg [(intA z6), (intA z7)])] fun v8 =>
retL R m0 [some v8, some (intA (0))])
theorem F77_own (a0 : AV) (a1 : AV) (a2_0 : Int) (a2_1 : Int) (R : AV → Mem → Prop) (h : F77 a0 a1 a2_0 a2_1 R) : Own pg KK.gl 77 [a0, a1, (AV.agg [(intA a2_0), (intA a2_1)])] R := own_of_F fol Tryz.func77 (code := c77) (by kernel_rfl) (by kernel_rfl) (by kernel_rfl) (X := F77 a0 a1 a2_0 a2_1 R) (by kernel_rfl) h
/- skyway/probe.First -/
noncomputable def c23 : Code := ((Tryz.f23).body).getD .skip
noncomputable def q23 (R : AV → Mem → Prop) : AExit → St → Prop := retQ pg Tryz.f23 R
noncomputable def F23 (a0 : AV) (a1 : AV) (a2_0 : Int) (a2_1 : Int) (R : AV → Mem → Prop) : Prop :=
callQ pg KK.gl ((0, some ⟨[(intA a2_0), (intA a2_1)], 91⟩) :: []) 77 [a0, a1, (AV.agg [(intA a2_0), (intA a2_1)])] fun v0 =>
exT2 v0 fun c1 c2 =>
ex_i64 c2 fun z3 =>
bif (z3 != (0)) then (
retL R ((0, some ⟨[(intA a2_0), (intA a2_1)], 91⟩) :: []) [some (intA (0)), some (intA z3)]) else (
opP (lenS c1) fun v4 =>
ex_i64 v4 fun z5 =>
bif (z5 == (0)) then (
retL R ((0, some ⟨[(intA a2_0), (intA a2_1)], 91⟩) :: []) [some (intA (0)), some (intA (8))]) else (
opP (idxS 2 c1 (intA (0))) fun v6 =>
opP (fldO 0 v6) fun v7 =>
opP (ldS (mget ((0, some ⟨[(intA a2_0), (intA a2_1)], 91⟩) :: [])) v7) fun v8 =>
ex_i64 v8 fun z9 =>
retL R ((0, some ⟨[(intA a2_0), (intA a2_1)], 91⟩) :: []) [some (intA z9), some (intA (0))]))
theorem F23_own (a0 : AV) (a1 : AV) (a2_0 : Int) (a2_1 : Int) (R : AV → Mem → Prop) (h : F23 a0 a1 a2_0 a2_1 R) : Own pg KK.gl 23 [a0, a1, (AV.agg [(intA a2_0), (intA a2_1)])] R := own_of_F fol Tryz.func23 (code := c23) (by kernel_rfl) (by kernel_rfl) (by kernel_rfl) (X := F23 a0 a1 a2_0 a2_1 R) (by kernel_rfl) h
/- skyway/skywaytop.shownPick -/
noncomputable def c5 : Code := ((Tryz.f5).body).getD .skip
noncomputable def q5 (R : AV → Mem → Prop) : AExit → St → Prop := retQ pg Tryz.f5 R
noncomputable def F5 (a0 : Int) (a1 : Int) (R : AV → Mem → Prop) : Prop :=
opP (opA pg (.convert 3 135 (.tmp 0)) 135 [(intA a0)] (mget []) 2) fun v0 =>
ex_u64 v0 fun z1 =>
opP (opA pg (.convert 3 135 (.tmp 0)) 135 [(intA a1)] (mget []) 4) fun v2 =>
ex_u64 v2 fun z3 =>
opP (opA pg (.binOp .rem 135 (.tmp 0) (.tmp 1) 135) 135 [(AV.sc (.int .u64 z1)), (AV.sc (.int .u64 z3))] (mget []) 5) fun v4 =>
ex_u64 v4 fun z5 =>
opP (opA pg (.convert 135 3 (.tmp 0)) 3 [(AV.sc (.int .u64 z5))] (mget []) 6) fun v6 =>
ex_i64 v6 fun z7 =>
retL R [] [some (intA z7)]
theorem F5_own (a0 : Int) (a1 : Int) (R : AV → Mem → Prop) (h : F5 a0 a1 R) : Own pg KK.gl 5 [(intA a0), (intA a1)] R := own_of_F fol Tryz.func5 (code := c5) (by kernel_rfl) (by kernel_rfl) (by kernel_rfl) (X := F5 a0 a1 R) (by kernel_rfl) h
/- skyway/wake.Standard -/
noncomputable def c7 : Code := ((Tryz.f7).body).getD .skip
noncomputable def q7 (R : AV → Mem → Prop) : AExit → St → Prop := retQ pg Tryz.f7 R
noncomputable def F7 (R : AV → Mem → Prop) : Prop :=
opP (opA pg (.build 29 #[(0, .tmp 0), (1, .tmp 1), (2, .tmp 2), (3, .tmp 3)]) 29 [(intA (60)), (intA (60)), (intA (60)), (intA (60))] (mget ((0, some ⟨[(intA (0)), (intA (0)), (intA (0)), (intA (0)), (intA (0)), (intA (0)), (intA (0)), (intA (0)), (intA (0)), (intA (0)), (intA (0)), (intA (0)), (intA (0)), (intA (0)), (intA (0)), (intA (0))], 31⟩) :: [])) 1) fun v0 =>
opP (opA pg (.build 29 #[(0, .tmp 0), (1, .tmp 1), (2, .tmp 2), (3, .tmp 3)]) 29 [(intA (120)), (intA (60)), (intA (60)), (intA (60))] (mget ((0, some ⟨[(intA (0)), (intA (0)), (intA (0)), (intA (0)), (intA (0)), (intA (0)), (intA (0)), (intA (0)), (intA (0)), (intA (0)), (intA (0)), (intA (0)), (intA (0)), (intA (0)), (intA (0)), (intA (0))], 31⟩) :: [])) 2) fun v1 =>
opP (opA pg (.build 29 #[(0, .tmp 0), (1, .tmp 1), (2, .tmp 2), (3, .tmp 3)]) 29 [(intA (180)), (intA (120)), (intA (90)), (intA (60))] (mget ((0, some ⟨[(intA (0)), (intA (0)), (intA (0)), (intA (0)), (intA (0)), (intA (0)), (intA (0)), (intA (0)), (intA (0)), (intA (0)), (intA (0)), (intA (0)), (intA (0)), (intA (0)), (intA (0)), (intA (0))], 31⟩) :: [])) 3) fun v2 =>
opP (opA pg (.build 29 #[(0, .tmp 0), (1, .tmp 1), (2, .tmp 2), (3, .tmp 3)]) 29 [(intA (240)), (intA (180)), (intA (120)), (intA (120))] (mget ((0, some ⟨[(intA (0)), (intA (0)), (intA (0)), (intA (0)), (intA (0)), (intA (0)), (intA (0)), (intA (0)), (intA (0)), (intA (0)), (intA (0)), (intA (0)), (intA (0)), (intA (0)), (intA (0)), (intA (0))], 31⟩) :: [])) 4) fun v3 =>
opP (opA pg (.build 31 #[(0, .tmp 0), (1, .tmp 1), (2, .tmp 2), (3, .tmp 3)]) 31 [v0, v1, v2, v3] (mget ((0, some ⟨[(intA (0)), (intA (0)), (intA (0)), (intA (0)), (intA (0)), (intA (0)), (intA (0)), (intA (0)), (intA (0)), (intA (0)), (intA (0)), (intA (0)), (intA (0)), (intA (0)), (intA (0)), (intA (0))], 31⟩) :: [])) 5) fun v4 =>
storeW pg (mget ((0, some ⟨[(intA (0)), (intA (0)), (intA (0)), (intA (0)), (intA (0)), (intA (0)), (intA (0)), (intA (0)), (intA (0)), (intA (0)), (intA (0)), (intA (0)), (intA (0)), (intA (0)), (intA (0)), (intA (0))], 31⟩) :: [])) 31 (AV.ptr 0 0) v4 fun v5 d5 =>
retL R (mpushs ((0, some ⟨[(intA (0)), (intA (0)), (intA (0)), (intA (0)), (intA (0)), (intA (0)), (intA (0)), (intA (0)), (intA (0)), (intA (0)), (intA (0)), (intA (0)), (intA (0)), (intA (0)), (intA (0)), (intA (0))], 31⟩) :: []) d5) [(aLoad pg (mget (mpushs ((0, some ⟨[(intA (0)), (intA (0)), (intA (0)), (intA (0)), (intA (0)), (intA (0)), (intA (0)), (intA (0)), (intA (0)), (intA (0)), (intA (0)), (intA (0)), (intA (0)), (intA (0)), (intA (0)), (intA (0))], 31⟩) :: []) d5)) 31 (AV.ptr 0 0)).map (·.1)]
theorem F7_own (R : AV → Mem → Prop) (h : F7  R) : Own pg KK.gl 7 [] R := own_of_F fol Tryz.func7 (code := c7) (by kernel_rfl) (by kernel_rfl) (by kernel_rfl) (X := F7  R) (by kernel_rfl) h
/- skyway/wake.Check -/
noncomputable def c89 : Code := ((Tryz.f89).body).getD .skip
noncomputable def q89 (R : AV → Mem → Prop) : AExit → St → Prop := retQ pg Tryz.f89 R
noncomputable def c89_0 : Code := loopB c89 0
noncomputable def q89_0 (R : AV → Mem → Prop) : AExit → St → Prop := contW pg KK 55 0 c89 0 (q89 R)
noncomputable def qq89_0 (R : AV → Mem → Prop) (N0 : St → Prop) : AExit → St → Prop := thenQ N0 (q89_0 R)
def h89_0 (t2 : Int) (t10_0 : Int) (t10_1 : Int) (t10_2 : Int) (t10_3 : Int) (t10_4 : Int) (t10_5 : Int) (t10_6 : Int) (t10_7 : Int) (t10_8 : Int) (t10_9 : Int) (t10_10 : Int) (t10_11 : Int) (t10_12 : Int) (t10_13 : Int) (t10_14 : Int) (t10_15 : Int) (t11 : Int) (b0_0 : Int) (b0_1 : Int) (b0_2 : Int) (b0_3 : Int) (b0_4 : Int) (b0_5 : Int) (b0_6 : Int) (b0_7 : Int) (b0_8 : Int) (b0_9 : Int) (b0_10 : Int) (b0_11 : Int) (b0_12 : Int) (b0_13 : Int) (b0_14 : Int) (b0_15 : Int) (m : Mem) : St := ⟨[(1, (AV.ptr 0 0)), (2, (intA t2)), (10, (AV.agg [(intA t10_0), (intA t10_1), (intA t10_2), (intA t10_3), (intA t10_4), (intA t10_5), (intA t10_6), (intA t10_7), (intA t10_8), (intA t10_9), (intA t10_10), (intA t10_11), (intA t10_12), (intA t10_13), (intA t10_14), (intA t10_15)])), (11, (intA t11))], ((0, some ⟨[(intA b0_0), (intA b0_1), (intA b0_2), (intA b0_3), (intA b0_4), (intA b0_5), (intA b0_6), (intA b0_7), (intA b0_8), (intA b0_9), (intA b0_10), (intA b0_11), (intA b0_12), (intA b0_13), (intA b0_14), (intA b0_15)], 31⟩) :: m), 100000⟩
noncomputable def c89_0_0 : Code := loopB c89_0 0
noncomputable def q89_0_0 (R : AV → Mem → Prop) (N0 : St → Prop) : AExit → St → Prop := contW pg KK 55 0 c89_0 0 (qq89_0 R N0)
noncomputable def qq89_0_0 (R : AV → Mem → Prop) (N0 : St → Prop) (N1 : St → Prop) : AExit → St → Prop := thenQ N1 (q89_0_0 R N0)
def h89_0_0 (t2 : Int) (t10_0 : Int) (t10_1 : Int) (t10_2 : Int) (t10_3 : Int) (t10_4 : Int) (t10_5 : Int) (t10_6 : Int) (t10_7 : Int) (t10_8 : Int) (t10_9 : Int) (t10_10 : Int) (t10_11 : Int) (t10_12 : Int) (t10_13 : Int) (t10_14 : Int) (t10_15 : Int) (t11 : Int) (t14_0 : Int) (t14_1 : Int) (t14_2 : Int) (t14_3 : Int) (t15 : Int) (b0_0 : Int) (b0_1 : Int) (b0_2 : Int) (b0_3 : Int) (b0_4 : Int) (b0_5 : Int) (b0_6 : Int) (b0_7 : Int) (b0_8 : Int) (b0_9 : Int) (b0_10 : Int) (b0_11 : Int) (b0_12 : Int) (b0_13 : Int) (b0_14 : Int) (b0_15 : Int) (m : Mem) : St := ⟨[(1, (AV.ptr 0 0)), (2, (intA t2)), (10, (AV.agg [(intA t10_0), (intA t10_1), (intA t10_2), (intA t10_3), (intA t10_4), (intA t10_5), (intA t10_6), (intA t10_7), (intA t10_8), (intA t10_9), (intA t10_10), (intA t10_11), (intA t10_12), (intA t10_13), (intA t10_14), (intA t10_15)])), (11, (intA t11)), (14, (AV.agg [(intA t14_0), (intA t14_1), (intA t14_2), (intA t14_3)])), (15, (intA t15))], ((0, some ⟨[(intA b0_0), (intA b0_1), (intA b0_2), (intA b0_3), (intA b0_4), (intA b0_5), (intA b0_6), (intA b0_7), (intA b0_8), (intA b0_9), (intA b0_10), (intA b0_11), (intA b0_12), (intA b0_13), (intA b0_14), (intA b0_15)], 31⟩) :: m), 200000⟩
noncomputable def c89_1 : Code := loopB c89 1
noncomputable def q89_1 (R : AV → Mem → Prop) : AExit → St → Prop := contW pg KK 55 0 c89 1 (q89 R)
noncomputable def qq89_1 (R : AV → Mem → Prop) (N0 : St → Prop) : AExit → St → Prop := thenQ N0 (q89_1 R)
def h89_1 (t2 : Int) (t26 : Int) (b0_0 : Int) (b0_1 : Int) (b0_2 : Int) (b0_3 : Int) (b0_4 : Int) (b0_5 : Int) (b0_6 : Int) (b0_7 : Int) (b0_8 : Int) (b0_9 : Int) (b0_10 : Int) (b0_11 : Int) (b0_12 : Int) (b0_13 : Int) (b0_14 : Int) (b0_15 : Int) (m : Mem) : St := ⟨[(1, (AV.ptr 0 0)), (2, (intA t2)), (26, (intA t26))], ((0, some ⟨[(intA b0_0), (intA b0_1), (intA b0_2), (intA b0_3), (intA b0_4), (intA b0_5), (intA b0_6), (intA b0_7), (intA b0_8), (intA b0_9), (intA b0_10), (intA b0_11), (intA b0_12), (intA b0_13), (intA b0_14), (intA b0_15)], 31⟩) :: m), 200000⟩
noncomputable def c89_1_0 : Code := loopB c89_1 0
noncomputable def q89_1_0 (R : AV → Mem → Prop) (N0 : St → Prop) : AExit → St → Prop := contW pg KK 55 0 c89_1 0 (qq89_1 R N0)
noncomputable def qq89_1_0 (R : AV → Mem → Prop) (N0 : St → Prop) (N1 : St → Prop) : AExit → St → Prop := thenQ N1 (q89_1_0 R N0)
def h89_1_0 (t2 : Int) (t7 : Int) (t26 : Int) (t29 : Int) (b0_0 : Int) (b0_1 : Int) (b0_2 : Int) (b0_3 : Int) (b0_4 : Int) (b0_5 : Int) (b0_6 : Int) (b0_7 : Int) (b0_8 : Int) (b0_9 : Int) (b0_10 : Int) (b0_11 : Int) (b0_12 : Int) (b0_13 : Int) (b0_14 : Int) (b0_15 : Int) (m : Mem) : St := ⟨[(1, (AV.ptr 0 0)), (2, (intA t2)), (7, (intA t7)), (26, (intA t26)), (29, (intA t29))], ((0, some ⟨[(intA b0_0), (intA b0_1), (intA b0_2), (intA b0_3), (intA b0_4), (intA b0_5), (intA b0_6), (intA b0_7), (intA b0_8), (intA b0_9), (intA b0_10), (intA b0_11), (intA b0_12), (intA b0_13), (intA b0_14), (intA b0_15)], 31⟩) :: m), 300000⟩
noncomputable def c89_1_0_0 : Code := loopB c89_1_0 0
noncomputable def q89_1_0_0 (R : AV → Mem → Prop) (N0 : St → Prop) (N1 : St → Prop) : AExit → St → Prop := contW pg KK 55 0 c89_1_0 0 (qq89_1_0 R N0 N1)
noncomputable def qq89_1_0_0 (R : AV → Mem → Prop) (N0 : St → Prop) (N1 : St → Prop) (N2 : St → Prop) : AExit → St → Prop := thenQ N2 (q89_1_0_0 R N0 N1)
def h89_1_0_0 (t2 : Int) (t7 : Int) (t8 : Int) (t26 : Int) (t29 : Int) (t32 : Int) (b0_0 : Int) (b0_1 : Int) (b0_2 : Int) (b0_3 : Int) (b0_4 : Int) (b0_5 : Int) (b0_6 : Int) (b0_7 : Int) (b0_8 : Int) (b0_9 : Int) (b0_10 : Int) (b0_11 : Int) (b0_12 : Int) (b0_13 : Int) (b0_14 : Int) (b0_15 : Int) (m : Mem) : St := ⟨[(1, (AV.ptr 0 0)), (2, (intA t2)), (7, (intA t7)), (8, (intA t8)), (26, (intA t26)), (29, (intA t29)), (32, (intA t32))], ((0, some ⟨[(intA b0_0), (intA b0_1), (intA b0_2), (intA b0_3), (intA b0_4), (intA b0_5), (intA b0_6), (intA b0_7), (intA b0_8), (intA b0_9), (intA b0_10), (intA b0_11), (intA b0_12), (intA b0_13), (intA b0_14), (intA b0_15)], 31⟩) :: m), 400000⟩
noncomputable def B89_0 (t2 : Int) (t10_0 : Int) (t10_1 : Int) (t10_2 : Int) (t10_3 : Int) (t10_4 : Int) (t10_5 : Int) (t10_6 : Int) (t10_7 : Int) (t10_8 : Int) (t10_9 : Int) (t10_10 : Int) (t10_11 : Int) (t10_12 : Int) (t10_13 : Int) (t10_14 : Int) (t10_15 : Int) (t11 : Int) (b0_0 : Int) (b0_1 : Int) (b0_2 : Int) (b0_3 : Int) (b0_4 : Int) (b0_5 : Int) (b0_6 : Int) (b0_7 : Int) (b0_8 : Int) (b0_9 : Int) (b0_10 : Int) (b0_11 : Int) (b0_12 : Int) (b0_13 : Int) (b0_14 : Int) (b0_15 : Int) (m : Mem) (R : AV → Mem → Prop) (N0 : St → Prop) : Prop :=
bif (decide (t11 < (4))) then (
opP (opA pg (.index 31 (.tmp 0) (.tmp 1)) 29 [(AV.agg [(intA t10_0), (intA t10_1), (intA t10_2), (intA t10_3), (intA t10_4), (intA t10_5), (intA t10_6), (intA t10_7), (intA t10_8), (intA t10_9), (intA t10_10), (intA t10_11), (intA t10_12), (intA t10_13), (intA t10_14), (intA t10_15)]), (intA t11)] (mget ((0, some ⟨[(intA b0_0), (intA b0_1), (intA b0_2), (intA b0_3), (intA b0_4), (intA b0_5), (intA b0_6), (intA b0_7), (intA b0_8), (intA b0_9), (intA b0_10), (intA b0_11), (intA b0_12), (intA b0_13), (intA b0_14), (intA b0_15)], 31⟩) :: m)) 100001) fun v0 =>
exA4 v0 fun c1 c2 c3 c4 =>
ex_i64 c1 fun z5 =>
ex_i64 c2 fun z6 =>
ex_i64 c3 fun z7 =>
ex_i64 c4 fun z8 =>
Tri pg KK 55 0 (.loop c89_0_0) ⟨[(1, (AV.ptr 0 0)), (2, (intA t2)), (10, (AV.agg [(intA t10_0), (intA t10_1), (intA t10_2), (intA t10_3), (intA t10_4), (intA t10_5), (intA t10_6), (intA t10_7), (intA t10_8), (intA t10_9), (intA t10_10), (intA t10_11), (intA t10_12), (intA t10_13), (intA t10_14), (intA t10_15)])), (11, (intA t11)), (12, (boolA (decide (t11 < (4))))), (13, (AV.agg [(intA z5), (intA z6), (intA z7), (intA z8)])), (4, (AV.ptr 100002 0)), (14, (AV.agg [(intA z5), (intA z6), (intA z7), (intA z8)])), (15, (intA (0)))], ((100002, some ⟨[(intA z5), (intA z6), (intA z7), (intA z8)], 29⟩) :: (100002, some ⟨[(intA (0)), (intA (0)), (intA (0)), (intA (0))], 29⟩) :: (0, some ⟨[(intA b0_0), (intA b0_1), (intA b0_2), (intA b0_3), (intA b0_4), (intA b0_5), (intA b0_6), (intA b0_7), (intA b0_8), (intA b0_9), (intA b0_10), (intA b0_11), (intA b0_12), (intA b0_13), (intA b0_14), (intA b0_15)], 31⟩) :: m), 100006⟩ (q89_0_0 R N0)) else (
Tri pg KK 55 0 (.loop c89_1) ⟨[(1, (AV.ptr 0 0)), (2, (intA t2)), (10, (AV.agg [(intA t10_0), (intA t10_1), (intA t10_2), (intA t10_3), (intA t10_4), (intA t10_5), (intA t10_6), (intA t10_7), (intA t10_8), (intA t10_9), (intA t10_10), (intA t10_11), (intA t10_12), (intA t10_13), (intA t10_14), (intA t10_15)])), (11, (intA t11)), (12, (boolA (decide (t11 < (4))))), (26, (intA (0)))], ((0, some ⟨[(intA b0_0), (intA b0_1), (intA b0_2), (intA b0_3), (intA b0_4), (intA b0_5), (intA b0_6), (intA b0_7), (intA b0_8), (intA b0_9), (intA b0_10), (intA b0_11), (intA b0_12), (intA b0_13), (intA b0_14), (intA b0_15)], 31⟩) :: m), 100002⟩ (q89_1 R))
theorem B89_0_eq (t2 : Int) (t10_0 : Int) (t10_1 : Int) (t10_2 : Int) (t10_3 : Int) (t10_4 : Int) (t10_5 : Int) (t10_6 : Int) (t10_7 : Int) (t10_8 : Int) (t10_9 : Int) (t10_10 : Int) (t10_11 : Int) (t10_12 : Int) (t10_13 : Int) (t10_14 : Int) (t10_15 : Int) (t11 : Int) (b0_0 : Int) (b0_1 : Int) (b0_2 : Int) (b0_3 : Int) (b0_4 : Int) (b0_5 : Int) (b0_6 : Int) (b0_7 : Int) (b0_8 : Int) (b0_9 : Int) (b0_10 : Int) (b0_11 : Int) (b0_12 : Int) (b0_13 : Int) (b0_14 : Int) (b0_15 : Int) (m : Mem) (R : AV → Mem → Prop) (N0 : St → Prop) : W pg KK 55 0 c89_0 (h89_0 t2 t10_0 t10_1 t10_2 t10_3 t10_4 t10_5 t10_6 t10_7 t10_8 t10_9 t10_10 t10_11 t10_12 t10_13 t10_14 t10_15 t11 b0_0 b0_1 b0_2 b0_3 b0_4 b0_5 b0_6 b0_7 b0_8 b0_9 b0_10 b0_11 b0_12 b0_13 b0_14 b0_15 m) (qq89_0 R N0) = B89_0 t2 t10_0 t10_1 t10_2 t10_3 t10_4 t10_5 t10_6 t10_7 t10_8 t10_9 t10_10 t10_11 t10_12 t10_13 t10_14 t10_15 t11 b0_0 b0_1 b0_2 b0_3 b0_4 b0_5 b0_6 b0_7 b0_8 b0_9 b0_10 b0_11 b0_12 b0_13 b0_14 b0_15 m R N0 := by kernel_rfl
theorem L89_0 (R : AV → Mem → Prop) {σ : Type} (I : σ → Prop) (t2 : σ → Int) (t10_0 : σ → Int) (t10_1 : σ → Int) (t10_2 : σ → Int) (t10_3 : σ → Int) (t10_4 : σ → Int) (t10_5 : σ → Int) (t10_6 : σ → Int) (t10_7 : σ → Int) (t10_8 : σ → Int) (t10_9 : σ → Int) (t10_10 : σ → Int) (t10_11 : σ → Int) (t10_12 : σ → Int) (t10_13 : σ → Int) (t10_14 : σ → Int) (t10_15 : σ → Int) (t11 : σ → Int) (b0_0 : σ → Int) (b0_1 : σ → Int) (b0_2 : σ → Int) (b0_3 : σ → Int) (b0_4 : σ → Int) (b0_5 : σ → Int) (b0_6 : σ → Int) (b0_7 : σ → Int) (b0_8 : σ → Int) (b0_9 : σ → Int) (b0_10 : σ → Int) (b0_11 : σ → Int) (b0_12 : σ → Int) (b0_13 : σ → Int) (b0_14 : σ → Int) (b0_15 : σ → Int) (m : σ → Mem) (μ : σ → Nat) (step : ∀ x, I x → B89_0 (t2 x) (t10_0 x) (t10_1 x) (t10_2 x) (t10_3 x) (t10_4 x) (t10_5 x) (t10_6 x) (t10_7 x) (t10_8 x) (t10_9 x) (t10_10 x) (t10_11 x) (t10_12 x) (t10_13 x) (t10_14 x) (t10_15 x) (t11 x) (b0_0 x) (b0_1 x) (b0_2 x) (b0_3 x) (b0_4 x) (b0_5 x) (b0_6 x) (b0_7 x) (b0_8 x) (b0_9 x) (b0_10 x) (b0_11 x) (b0_12 x) (b0_13 x) (b0_14 x) (b0_15 x) (m x) R (fun s' => ∃ y, I y ∧ μ y < μ x ∧ Weak KK 55 0 s' (h89_0 (t2 y) (t10_0 y) (t10_1 y) (t10_2 y) (t10_3 y) (t10_4 y) (t10_5 y) (t10_6 y) (t10_7 y) (t10_8 y) (t10_9 y) (t10_10 y) (t10_11 y) (t10_12 y) (t10_13 y) (t10_14 y) (t10_15 y) (t11 y) (b0_0 y) (b0_1 y) (b0_2 y) (b0_3 y) (b0_4 y) (b0_5 y) (b0_6 y) (b0_7 y) (b0_8 y) (b0_9 y) (b0_10 y) (b0_11 y) (b0_12 y) (b0_13 y) (b0_14 y) (b0_15 y) (m y)))) (x : σ) (hx : I x) {s : St} (hw : Weak KK 55 0 s (h89_0 (t2 x) (t10_0 x) (t10_1 x) (t10_2 x) (t10_3 x) (t10_4 x) (t10_5 x) (t10_6 x) (t10_7 x) (t10_8 x) (t10_9 x) (t10_10 x) (t10_11 x) (t10_12 x) (t10_13 x) (t10_14 x) (t10_15 x) (t11 x) (b0_0 x) (b0_1 x) (b0_2 x) (b0_3 x) (b0_4 x) (b0_5 x) (b0_6 x) (b0_7 x) (b0_8 x) (b0_9 x) (b0_10 x) (b0_11 x) (b0_12 x) (b0_13 x) (b0_14 x) (b0_15 x) (m x))) : Tri pg KK 55 0 (.loop c89_0) s (q89_0 R) :=
  Tri.weak hw (Tri.loops fol I (fun x => h89_0 (t2 x) (t10_0 x) (t10_1 x) (t10_2 x) (t10_3 x) (t10_4 x) (t10_5 x) (t10_6 x) (t10_7 x) (t10_8 x) (t10_9 x) (t10_10 x) (t10_11 x) (t10_12 x) (t10_13 x) (t10_14 x) (t10_15 x) (t11 x) (b0_0 x) (b0_1 x) (b0_2 x) (b0_3 x) (b0_4 x) (b0_5 x) (b0_6 x) (b0_7 x) (b0_8 x) (b0_9 x) (b0_10 x) (b0_11 x) (b0_12 x) (b0_13 x) (b0_14 x) (b0_15 x) (m x)) μ (fun x hx => (B89_0_eq (t2 x) (t10_0 x) (t10_1 x) (t10_2 x) (t10_3 x) (t10_4 x) (t10_5 x) (t10_6 x) (t10_7 x) (t10_8 x) (t10_9 x) (t10_10 x) (t10_11 x) (t10_12 x) (t10_13 x) (t10_14 x) (t10_15 x) (t11 x) (b0_0 x) (b0_1 x) (b0_2 x) (b0_3 x) (b0_4 x) (b0_5 x) (b0_6 x) (b0_7 x) (b0_8 x) (b0_9 x) (b0_10 x) (b0_11 x) (b0_12 x) (b0_13 x) (b0_14 x) (b0_15 x) (m x) R _).mpr (step x hx)) x hx)
noncomputable def B89_0_0 (t2 : Int) (t10_0 : Int) (t10_1 : Int) (t10_2 : Int) (t10_3 : Int) (t10_4 : Int) (t10_5 : Int) (t10_6 : Int) (t10_7 : Int) (t10_8 : Int) (t10_9 : Int) (t10_10 : Int) (t10_11 : Int) (t10_12 : Int) (t10_13 : Int) (t10_14 : Int) (t10_15 : Int) (t11 : Int) (t14_0 : Int) (t14_1 : Int) (t14_2 : Int) (t14_3 : Int) (t15 : Int) (b0_0 : Int) (b0_1 : Int) (b0_2 : Int) (b0_3 : Int) (b0_4 : Int) (b0_5 : Int) (b0_6 : Int) (b0_7 : Int) (b0_8 : Int) (b0_9 : Int) (b0_10 : Int) (b0_11 : Int) (b0_12 : Int) (b0_13 : Int) (b0_14 : Int) (b0_15 : Int) (m : Mem) (R : AV → Mem → Prop) (N0 : St → Prop) (N1 : St → Prop) : Prop :=
bif (decide (t15 < (4))) then (
opP (opA pg (.index 29 (.tmp 0) (.tmp 1)) 3 [(AV.agg [(intA t14_0), (intA t14_1), (intA t14_2), (intA t14_3)]), (intA t15)] (mget ((0, some ⟨[(intA b0_0), (intA b0_1), (intA b0_2), (intA b0_3), (intA b0_4), (intA b0_5), (intA b0_6), (intA b0_7), (intA b0_8), (intA b0_9), (intA b0_10), (intA b0_11), (intA b0_12), (intA b0_13), (intA b0_14), (intA b0_15)], 31⟩) :: m)) 200001) fun v9 =>
ex_i64 v9 fun z10 =>
bif (decide (z10 < (30))) then (
retL R ((0, some ⟨[(intA b0_0), (intA b0_1), (intA b0_2), (intA b0_3), (intA b0_4), (intA b0_5), (intA b0_6), (intA b0_7), (intA b0_8), (intA b0_9), (intA b0_10), (intA b0_11), (intA b0_12), (intA b0_13), (intA b0_14), (intA b0_15)], 31⟩) :: m) [some (intA (4))]) else (
bif (decide (z10 > (600))) then (
retL R ((0, some ⟨[(intA b0_0), (intA b0_1), (intA b0_2), (intA b0_3), (intA b0_4), (intA b0_5), (intA b0_6), (intA b0_7), (intA b0_8), (intA b0_9), (intA b0_10), (intA b0_11), (intA b0_12), (intA b0_13), (intA b0_14), (intA b0_15)], 31⟩) :: m) [some (intA (4))]) else (
N1 ⟨[(1, (AV.ptr 0 0)), (2, (intA t2)), (10, (AV.agg [(intA t10_0), (intA t10_1), (intA t10_2), (intA t10_3), (intA t10_4), (intA t10_5), (intA t10_6), (intA t10_7), (intA t10_8), (intA t10_9), (intA t10_10), (intA t10_11), (intA t10_12), (intA t10_13), (intA t10_14), (intA t10_15)])), (11, (intA t11)), (14, (AV.agg [(intA t14_0), (intA t14_1), (intA t14_2), (intA t14_3)])), (15, (intA (IntKind.wrap .i64 (t15 + (1))))), (16, (boolA (decide (t15 < (4))))), (17, (intA z10)), (6, (intA z10)), (18, (intA z10)), (19, (boolA (decide (z10 < (30))))), (20, (boolA false)), (21, (intA z10)), (22, (boolA (decide (z10 > (600))))), (23, (boolA (decide (z10 > (600))))), (24, (intA (IntKind.wrap .i64 (t15 + (1)))))], ((0, some ⟨[(intA b0_0), (intA b0_1), (intA b0_2), (intA b0_3), (intA b0_4), (intA b0_5), (intA b0_6), (intA b0_7), (intA b0_8), (intA b0_9), (intA b0_10), (intA b0_11), (intA b0_12), (intA b0_13), (intA b0_14), (intA b0_15)], 31⟩) :: m), 200011⟩))) else (
N0 ⟨[(1, (AV.ptr 0 0)), (2, (intA t2)), (10, (AV.agg [(intA t10_0), (intA t10_1), (intA t10_2), (intA t10_3), (intA t10_4), (intA t10_5), (intA t10_6), (intA t10_7), (intA t10_8), (intA t10_9), (intA t10_10), (intA t10_11), (intA t10_12), (intA t10_13), (intA t10_14), (intA t10_15)])), (11, (intA (IntKind.wrap .i64 (t11 + (1))))), (14, (AV.agg [(intA t14_0), (intA t14_1), (intA t14_2), (intA t14_3)])), (15, (intA t15)), (16, (boolA (decide (t15 < (4))))), (25, (intA (IntKind.wrap .i64 (t11 + (1)))))], ((0, some ⟨[(intA b0_0), (intA b0_1), (intA b0_2), (intA b0_3), (intA b0_4), (intA b0_5), (intA b0_6), (intA b0_7), (intA b0_8), (intA b0_9), (intA b0_10), (intA b0_11), (intA b0_12), (intA b0_13), (intA b0_14), (intA b0_15)], 31⟩) :: m), 200003⟩)
theorem B89_0_0_eq (t2 : Int) (t10_0 : Int) (t10_1 : Int) (t10_2 : Int) (t10_3 : Int) (t10_4 : Int) (t10_5 : Int) (t10_6 : Int) (t10_7 : Int) (t10_8 : Int) (t10_9 : Int) (t10_10 : Int) (t10_11 : Int) (t10_12 : Int) (t10_13 : Int) (t10_14 : Int) (t10_15 : Int) (t11 : Int) (t14_0 : Int) (t14_1 : Int) (t14_2 : Int) (t14_3 : Int) (t15 : Int) (b0_0 : Int) (b0_1 : Int) (b0_2 : Int) (b0_3 : Int) (b0_4 : Int) (b0_5 : Int) (b0_6 : Int) (b0_7 : Int) (b0_8 : Int) (b0_9 : Int) (b0_10 : Int) (b0_11 : Int) (b0_12 : Int) (b0_13 : Int) (b0_14 : Int) (b0_15 : Int) (m : Mem) (R : AV → Mem → Prop) (N0 : St → Prop) (N1 : St → Prop) : W pg KK 55 0 c89_0_0 (h89_0_0 t2 t10_0 t10_1 t10_2 t10_3 t10_4 t10_5 t10_6 t10_7 t10_8 t10_9 t10_10 t10_11 t10_12 t10_13 t10_14 t10_15 t11 t14_0 t14_1 t14_2 t14_3 t15 b0_0 b0_1 b0_2 b0_3 b0_4 b0_5 b0_6 b0_7 b0_8 b0_9 b0_10 b0_11 b0_12 b0_13 b0_14 b0_15 m) (qq89_0_0 R N0 N1) = B89_0_0 t2 t10_0 t10_1 t10_2 t10_3 t10_4 t10_5 t10_6 t10_7 t10_8 t10_9 t10_10 t10_11 t10_12 t10_13 t10_14 t10_15 t11 t14_0 t14_1 t14_2 t14_3 t15 b0_0 b0_1 b0_2 b0_3 b0_4 b0_5 b0_6 b0_7 b0_8 b0_9 b0_10 b0_11 b0_12 b0_13 b0_14 b0_15 m R N0 N1 := by kernel_rfl
theorem L89_0_0 (R : AV → Mem → Prop) (N0 : St → Prop) {σ : Type} (I : σ → Prop) (t2 : σ → Int) (t10_0 : σ → Int) (t10_1 : σ → Int) (t10_2 : σ → Int) (t10_3 : σ → Int) (t10_4 : σ → Int) (t10_5 : σ → Int) (t10_6 : σ → Int) (t10_7 : σ → Int) (t10_8 : σ → Int) (t10_9 : σ → Int) (t10_10 : σ → Int) (t10_11 : σ → Int) (t10_12 : σ → Int) (t10_13 : σ → Int) (t10_14 : σ → Int) (t10_15 : σ → Int) (t11 : σ → Int) (t14_0 : σ → Int) (t14_1 : σ → Int) (t14_2 : σ → Int) (t14_3 : σ → Int) (t15 : σ → Int) (b0_0 : σ → Int) (b0_1 : σ → Int) (b0_2 : σ → Int) (b0_3 : σ → Int) (b0_4 : σ → Int) (b0_5 : σ → Int) (b0_6 : σ → Int) (b0_7 : σ → Int) (b0_8 : σ → Int) (b0_9 : σ → Int) (b0_10 : σ → Int) (b0_11 : σ → Int) (b0_12 : σ → Int) (b0_13 : σ → Int) (b0_14 : σ → Int) (b0_15 : σ → Int) (m : σ → Mem) (μ : σ → Nat) (step : ∀ x, I x → B89_0_0 (t2 x) (t10_0 x) (t10_1 x) (t10_2 x) (t10_3 x) (t10_4 x) (t10_5 x) (t10_6 x) (t10_7 x) (t10_8 x) (t10_9 x) (t10_10 x) (t10_11 x) (t10_12 x) (t10_13 x) (t10_14 x) (t10_15 x) (t11 x) (t14_0 x) (t14_1 x) (t14_2 x) (t14_3 x) (t15 x) (b0_0 x) (b0_1 x) (b0_2 x) (b0_3 x) (b0_4 x) (b0_5 x) (b0_6 x) (b0_7 x) (b0_8 x) (b0_9 x) (b0_10 x) (b0_11 x) (b0_12 x) (b0_13 x) (b0_14 x) (b0_15 x) (m x) R N0 (fun s' => ∃ y, I y ∧ μ y < μ x ∧ Weak KK 55 0 s' (h89_0_0 (t2 y) (t10_0 y) (t10_1 y) (t10_2 y) (t10_3 y) (t10_4 y) (t10_5 y) (t10_6 y) (t10_7 y) (t10_8 y) (t10_9 y) (t10_10 y) (t10_11 y) (t10_12 y) (t10_13 y) (t10_14 y) (t10_15 y) (t11 y) (t14_0 y) (t14_1 y) (t14_2 y) (t14_3 y) (t15 y) (b0_0 y) (b0_1 y) (b0_2 y) (b0_3 y) (b0_4 y) (b0_5 y) (b0_6 y) (b0_7 y) (b0_8 y) (b0_9 y) (b0_10 y) (b0_11 y) (b0_12 y) (b0_13 y) (b0_14 y) (b0_15 y) (m y)))) (x : σ) (hx : I x) {s : St} (hw : Weak KK 55 0 s (h89_0_0 (t2 x) (t10_0 x) (t10_1 x) (t10_2 x) (t10_3 x) (t10_4 x) (t10_5 x) (t10_6 x) (t10_7 x) (t10_8 x) (t10_9 x) (t10_10 x) (t10_11 x) (t10_12 x) (t10_13 x) (t10_14 x) (t10_15 x) (t11 x) (t14_0 x) (t14_1 x) (t14_2 x) (t14_3 x) (t15 x) (b0_0 x) (b0_1 x) (b0_2 x) (b0_3 x) (b0_4 x) (b0_5 x) (b0_6 x) (b0_7 x) (b0_8 x) (b0_9 x) (b0_10 x) (b0_11 x) (b0_12 x) (b0_13 x) (b0_14 x) (b0_15 x) (m x))) : Tri pg KK 55 0 (.loop c89_0_0) s (q89_0_0 R N0) :=
  Tri.weak hw (Tri.loops fol I (fun x => h89_0_0 (t2 x) (t10_0 x) (t10_1 x) (t10_2 x) (t10_3 x) (t10_4 x) (t10_5 x) (t10_6 x) (t10_7 x) (t10_8 x) (t10_9 x) (t10_10 x) (t10_11 x) (t10_12 x) (t10_13 x) (t10_14 x) (t10_15 x) (t11 x) (t14_0 x) (t14_1 x) (t14_2 x) (t14_3 x) (t15 x) (b0_0 x) (b0_1 x) (b0_2 x) (b0_3 x) (b0_4 x) (b0_5 x) (b0_6 x) (b0_7 x) (b0_8 x) (b0_9 x) (b0_10 x) (b0_11 x) (b0_12 x) (b0_13 x) (b0_14 x) (b0_15 x) (m x)) μ (fun x hx => (B89_0_0_eq (t2 x) (t10_0 x) (t10_1 x) (t10_2 x) (t10_3 x) (t10_4 x) (t10_5 x) (t10_6 x) (t10_7 x) (t10_8 x) (t10_9 x) (t10_10 x) (t10_11 x) (t10_12 x) (t10_13 x) (t10_14 x) (t10_15 x) (t11 x) (t14_0 x) (t14_1 x) (t14_2 x) (t14_3 x) (t15 x) (b0_0 x) (b0_1 x) (b0_2 x) (b0_3 x) (b0_4 x) (b0_5 x) (b0_6 x) (b0_7 x) (b0_8 x) (b0_9 x) (b0_10 x) (b0_11 x) (b0_12 x) (b0_13 x) (b0_14 x) (b0_15 x) (m x) R N0 _).mpr (step x hx)) x hx)
noncomputable def B89_1 (t2 : Int) (t26 : Int) (b0_0 : Int) (b0_1 : Int) (b0_2 : Int) (b0_3 : Int) (b0_4 : Int) (b0_5 : Int) (b0_6 : Int) (b0_7 : Int) (b0_8 : Int) (b0_9 : Int) (b0_10 : Int) (b0_11 : Int) (b0_12 : Int) (b0_13 : Int) (b0_14 : Int) (b0_15 : Int) (m : Mem) (R : AV → Mem → Prop) (N0 : St → Prop) : Prop :=
bif (decide (t26 < (4))) then (
Tri pg KK 55 0 (.loop c89_1_0) ⟨[(1, (AV.ptr 0 0)), (2, (intA t2)), (26, (intA t26)), (27, (boolA (decide (t26 < (4))))), (28, (intA t26)), (7, (intA t26)), (29, (intA (0)))], ((0, some ⟨[(intA b0_0), (intA b0_1), (intA b0_2), (intA b0_3), (intA b0_4), (intA b0_5), (intA b0_6), (intA b0_7), (intA b0_8), (intA b0_9), (intA b0_10), (intA b0_11), (intA b0_12), (intA b0_13), (intA b0_14), (intA b0_15)], 31⟩) :: m), 200004⟩ (q89_1_0 R N0)) else (
retL R ((0, some ⟨[(intA b0_0), (intA b0_1), (intA b0_2), (intA b0_3), (intA b0_4), (intA b0_5), (intA b0_6), (intA b0_7), (intA b0_8), (intA b0_9), (intA b0_10), (intA b0_11), (intA b0_12), (intA b0_13), (intA b0_14), (intA b0_15)], 31⟩) :: m) [some (intA (0))])
theorem B89_1_eq (t2 : Int) (t26 : Int) (b0_0 : Int) (b0_1 : Int) (b0_2 : Int) (b0_3 : Int) (b0_4 : Int) (b0_5 : Int) (b0_6 : Int) (b0_7 : Int) (b0_8 : Int) (b0_9 : Int) (b0_10 : Int) (b0_11 : Int) (b0_12 : Int) (b0_13 : Int) (b0_14 : Int) (b0_15 : Int) (m : Mem) (R : AV → Mem → Prop) (N0 : St → Prop) : W pg KK 55 0 c89_1 (h89_1 t2 t26 b0_0 b0_1 b0_2 b0_3 b0_4 b0_5 b0_6 b0_7 b0_8 b0_9 b0_10 b0_11 b0_12 b0_13 b0_14 b0_15 m) (qq89_1 R N0) = B89_1 t2 t26 b0_0 b0_1 b0_2 b0_3 b0_4 b0_5 b0_6 b0_7 b0_8 b0_9 b0_10 b0_11 b0_12 b0_13 b0_14 b0_15 m R N0 := by kernel_rfl
theorem L89_1 (R : AV → Mem → Prop) {σ : Type} (I : σ → Prop) (t2 : σ → Int) (t26 : σ → Int) (b0_0 : σ → Int) (b0_1 : σ → Int) (b0_2 : σ → Int) (b0_3 : σ → Int) (b0_4 : σ → Int) (b0_5 : σ → Int) (b0_6 : σ → Int) (b0_7 : σ → Int) (b0_8 : σ → Int) (b0_9 : σ → Int) (b0_10 : σ → Int) (b0_11 : σ → Int) (b0_12 : σ → Int) (b0_13 : σ → Int) (b0_14 : σ → Int) (b0_15 : σ → Int) (m : σ → Mem) (μ : σ → Nat) (step : ∀ x, I x → B89_1 (t2 x) (t26 x) (b0_0 x) (b0_1 x) (b0_2 x) (b0_3 x) (b0_4 x) (b0_5 x) (b0_6 x) (b0_7 x) (b0_8 x) (b0_9 x) (b0_10 x) (b0_11 x) (b0_12 x) (b0_13 x) (b0_14 x) (b0_15 x) (m x) R (fun s' => ∃ y, I y ∧ μ y < μ x ∧ Weak KK 55 0 s' (h89_1 (t2 y) (t26 y) (b0_0 y) (b0_1 y) (b0_2 y) (b0_3 y) (b0_4 y) (b0_5 y) (b0_6 y) (b0_7 y) (b0_8 y) (b0_9 y) (b0_10 y) (b0_11 y) (b0_12 y) (b0_13 y) (b0_14 y) (b0_15 y) (m y)))) (x : σ) (hx : I x) {s : St} (hw : Weak KK 55 0 s (h89_1 (t2 x) (t26 x) (b0_0 x) (b0_1 x) (b0_2 x) (b0_3 x) (b0_4 x) (b0_5 x) (b0_6 x) (b0_7 x) (b0_8 x) (b0_9 x) (b0_10 x) (b0_11 x) (b0_12 x) (b0_13 x) (b0_14 x) (b0_15 x) (m x))) : Tri pg KK 55 0 (.loop c89_1) s (q89_1 R) :=
  Tri.weak hw (Tri.loops fol I (fun x => h89_1 (t2 x) (t26 x) (b0_0 x) (b0_1 x) (b0_2 x) (b0_3 x) (b0_4 x) (b0_5 x) (b0_6 x) (b0_7 x) (b0_8 x) (b0_9 x) (b0_10 x) (b0_11 x) (b0_12 x) (b0_13 x) (b0_14 x) (b0_15 x) (m x)) μ (fun x hx => (B89_1_eq (t2 x) (t26 x) (b0_0 x) (b0_1 x) (b0_2 x) (b0_3 x) (b0_4 x) (b0_5 x) (b0_6 x) (b0_7 x) (b0_8 x) (b0_9 x) (b0_10 x) (b0_11 x) (b0_12 x) (b0_13 x) (b0_14 x) (b0_15 x) (m x) R _).mpr (step x hx)) x hx)
noncomputable def B89_1_0 (t2 : Int) (t7 : Int) (t26 : Int) (t29 : Int) (b0_0 : Int) (b0_1 : Int) (b0_2 : Int) (b0_3 : Int) (b0_4 : Int) (b0_5 : Int) (b0_6 : Int) (b0_7 : Int) (b0_8 : Int) (b0_9 : Int) (b0_10 : Int) (b0_11 : Int) (b0_12 : Int) (b0_13 : Int) (b0_14 : Int) (b0_15 : Int) (m : Mem) (R : AV → Mem → Prop) (N0 : St → Prop) (N1 : St → Prop) : Prop :=
bif (decide (t29 < (4))) then (
Tri pg KK 55 0 (.loop c89_1_0_0) ⟨[(1, (AV.ptr 0 0)), (2, (intA t2)), (7, (intA t7)), (26, (intA t26)), (29, (intA t29)), (30, (boolA (decide (t29 < (4))))), (31, (intA t29)), (8, (intA t29)), (32, (intA (0)))], ((0, some ⟨[(intA b0_0), (intA b0_1), (intA b0_2), (intA b0_3), (intA b0_4), (intA b0_5), (intA b0_6), (intA b0_7), (intA b0_8), (intA b0_9), (intA b0_10), (intA b0_11), (intA b0_12), (intA b0_13), (intA b0_14), (intA b0_15)], 31⟩) :: m), 300004⟩ (q89_1_0_0 R N0 N1)) else (
N0 ⟨[(1, (AV.ptr 0 0)), (2, (intA t2)), (7, (intA t7)), (26, (intA (IntKind.wrap .i64 (t26 + (1))))), (29, (intA t29)), (30, (boolA (decide (t29 < (4))))), (54, (intA (IntKind.wrap .i64 (t26 + (1)))))], ((0, some ⟨[(intA b0_0), (intA b0_1), (intA b0_2), (intA b0_3), (intA b0_4), (intA b0_5), (intA b0_6), (intA b0_7), (intA b0_8), (intA b0_9), (intA b0_10), (intA b0_11), (intA b0_12), (intA b0_13), (intA b0_14), (intA b0_15)], 31⟩) :: m), 300003⟩)
theorem B89_1_0_eq (t2 : Int) (t7 : Int) (t26 : Int) (t29 : Int) (b0_0 : Int) (b0_1 : Int) (b0_2 : Int) (b0_3 : Int) (b0_4 : Int) (b0_5 : Int) (b0_6 : Int) (b0_7 : Int) (b0_8 : Int) (b0_9 : Int) (b0_10 : Int) (b0_11 : Int) (b0_12 : Int) (b0_13 : Int) (b0_14 : Int) (b0_15 : Int) (m : Mem) (R : AV → Mem → Prop) (N0 : St → Prop) (N1 : St → Prop) : W pg KK 55 0 c89_1_0 (h89_1_0 t2 t7 t26 t29 b0_0 b0_1 b0_2 b0_3 b0_4 b0_5 b0_6 b0_7 b0_8 b0_9 b0_10 b0_11 b0_12 b0_13 b0_14 b0_15 m) (qq89_1_0 R N0 N1) = B89_1_0 t2 t7 t26 t29 b0_0 b0_1 b0_2 b0_3 b0_4 b0_5 b0_6 b0_7 b0_8 b0_9 b0_10 b0_11 b0_12 b0_13 b0_14 b0_15 m R N0 N1 := by kernel_rfl
theorem L89_1_0 (R : AV → Mem → Prop) (N0 : St → Prop) {σ : Type} (I : σ → Prop) (t2 : σ → Int) (t7 : σ → Int) (t26 : σ → Int) (t29 : σ → Int) (b0_0 : σ → Int) (b0_1 : σ → Int) (b0_2 : σ → Int) (b0_3 : σ → Int) (b0_4 : σ → Int) (b0_5 : σ → Int) (b0_6 : σ → Int) (b0_7 : σ → Int) (b0_8 : σ → Int) (b0_9 : σ → Int) (b0_10 : σ → Int) (b0_11 : σ → Int) (b0_12 : σ → Int) (b0_13 : σ → Int) (b0_14 : σ → Int) (b0_15 : σ → Int) (m : σ → Mem) (μ : σ → Nat) (step : ∀ x, I x → B89_1_0 (t2 x) (t7 x) (t26 x) (t29 x) (b0_0 x) (b0_1 x) (b0_2 x) (b0_3 x) (b0_4 x) (b0_5 x) (b0_6 x) (b0_7 x) (b0_8 x) (b0_9 x) (b0_10 x) (b0_11 x) (b0_12 x) (b0_13 x) (b0_14 x) (b0_15 x) (m x) R N0 (fun s' => ∃ y, I y ∧ μ y < μ x ∧ Weak KK 55 0 s' (h89_1_0 (t2 y) (t7 y) (t26 y) (t29 y) (b0_0 y) (b0_1 y) (b0_2 y) (b0_3 y) (b0_4 y) (b0_5 y) (b0_6 y) (b0_7 y) (b0_8 y) (b0_9 y) (b0_10 y) (b0_11 y) (b0_12 y) (b0_13 y) (b0_14 y) (b0_15 y) (m y)))) (x : σ) (hx : I x) {s : St} (hw : Weak KK 55 0 s (h89_1_0 (t2 x) (t7 x) (t26 x) (t29 x) (b0_0 x) (b0_1 x) (b0_2 x) (b0_3 x) (b0_4 x) (b0_5 x) (b0_6 x) (b0_7 x) (b0_8 x) (b0_9 x) (b0_10 x) (b0_11 x) (b0_12 x) (b0_13 x) (b0_14 x) (b0_15 x) (m x))) : Tri pg KK 55 0 (.loop c89_1_0) s (q89_1_0 R N0) :=
  Tri.weak hw (Tri.loops fol I (fun x => h89_1_0 (t2 x) (t7 x) (t26 x) (t29 x) (b0_0 x) (b0_1 x) (b0_2 x) (b0_3 x) (b0_4 x) (b0_5 x) (b0_6 x) (b0_7 x) (b0_8 x) (b0_9 x) (b0_10 x) (b0_11 x) (b0_12 x) (b0_13 x) (b0_14 x) (b0_15 x) (m x)) μ (fun x hx => (B89_1_0_eq (t2 x) (t7 x) (t26 x) (t29 x) (b0_0 x) (b0_1 x) (b0_2 x) (b0_3 x) (b0_4 x) (b0_5 x) (b0_6 x) (b0_7 x) (b0_8 x) (b0_9 x) (b0_10 x) (b0_11 x) (b0_12 x) (b0_13 x) (b0_14 x) (b0_15 x) (m x) R N0 _).mpr (step x hx)) x hx)
noncomputable def B89_1_0_0 (t2 : Int) (t7 : Int) (t8 : Int) (t26 : Int) (t29 : Int) (t32 : Int) (b0_0 : Int) (b0_1 : Int) (b0_2 : Int) (b0_3 : Int) (b0_4 : Int) (b0_5 : Int) (b0_6 : Int) (b0_7 : Int) (b0_8 : Int) (b0_9 : Int) (b0_10 : Int) (b0_11 : Int) (b0_12 : Int) (b0_13 : Int) (b0_14 : Int) (b0_15 : Int) (m : Mem) (R : AV → Mem → Prop) (N0 : St → Prop) (N1 : St → Prop) (N2 : St → Prop) : Prop :=
bif (decide (t32 < (4))) then (
opP (idxA 4 4 (AV.ptr 0 0) (intA t7)) fun v11 =>
opP (idxA 4 1 v11 (intA t32)) fun v12 =>
opP (ldS (mget ((0, some ⟨[(intA b0_0), (intA b0_1), (intA b0_2), (intA b0_3), (intA b0_4), (intA b0_5), (intA b0_6), (intA b0_7), (intA b0_8), (intA b0_9), (intA b0_10), (intA b0_11), (intA b0_12), (intA b0_13), (intA b0_14), (intA b0_15)], 31⟩) :: m)) v12) fun v13 =>
ex_i64 v13 fun z14 =>
opP (idxA 4 4 (AV.ptr 0 0) (intA t7)) fun v15 =>
opP (idxA 4 1 v15 (intA t8)) fun v16 =>
opP (ldS (mget ((0, some ⟨[(intA b0_0), (intA b0_1), (intA b0_2), (intA b0_3), (intA b0_4), (intA b0_5), (intA b0_6), (intA b0_7), (intA b0_8), (intA b0_9), (intA b0_10), (intA b0_11), (intA b0_12), (intA b0_13), (intA b0_14), (intA b0_15)], 31⟩) :: m)) v16) fun v17 =>
ex_i64 v17 fun z18 =>
opP (idxA 4 4 (AV.ptr 0 0) (intA t8)) fun v19 =>
opP (idxA 4 1 v19 (intA t32)) fun v20 =>
opP (ldS (mget ((0, some ⟨[(intA b0_0), (intA b0_1), (intA b0_2), (intA b0_3), (intA b0_4), (intA b0_5), (intA b0_6), (intA b0_7), (intA b0_8), (intA b0_9), (intA b0_10), (intA b0_11), (intA b0_12), (intA b0_13), (intA b0_14), (intA b0_15)], 31⟩) :: m)) v20) fun v21 =>
ex_i64 v21 fun z22 =>
bif (decide (z14 > (IntKind.wrap .i64 (z18 + z22)))) then (
retL R ((0, some ⟨[(intA b0_0), (intA b0_1), (intA b0_2), (intA b0_3), (intA b0_4), (intA b0_5), (intA b0_6), (intA b0_7), (intA b0_8), (intA b0_9), (intA b0_10), (intA b0_11), (intA b0_12), (intA b0_13), (intA b0_14), (intA b0_15)], 31⟩) :: m) [some (intA (3))]) else (
N2 ⟨[(1, (AV.ptr 0 0)), (2, (intA t2)), (7, (intA t7)), (8, (intA t8)), (26, (intA t26)), (29, (intA t29)), (32, (intA (IntKind.wrap .i64 (t32 + (1))))), (33, (boolA (decide (t32 < (4))))), (34, (intA t32)), (9, (intA t32)), (35, (intA t7)), (36, (intA t32)), (37, v11), (38, v12), (39, (intA z14)), (40, (intA t7)), (41, (intA t8)), (42, v15), (43, v16), (44, (intA z18)), (45, (intA t8)), (46, (intA t32)), (47, v19), (48, v20), (49, (intA z22)), (50, (intA (IntKind.wrap .i64 (z18 + z22)))), (51, (boolA (decide (z14 > (IntKind.wrap .i64 (z18 + z22)))))), (52, (intA (IntKind.wrap .i64 (t32 + (1)))))], ((0, some ⟨[(intA b0_0), (intA b0_1), (intA b0_2), (intA b0_3), (intA b0_4), (intA b0_5), (intA b0_6), (intA b0_7), (intA b0_8), (intA b0_9), (intA b0_10), (intA b0_11), (intA b0_12), (intA b0_13), (intA b0_14), (intA b0_15)], 31⟩) :: m), 400022⟩)) else (
N1 ⟨[(1, (AV.ptr 0 0)), (2, (intA t2)), (7, (intA t7)), (8, (intA t8)), (26, (intA t26)), (29, (intA (IntKind.wrap .i64 (t29 + (1))))), (32, (intA t32)), (33, (boolA (decide (t32 < (4))))), (53, (intA (IntKind.wrap .i64 (t29 + (1)))))], ((0, some ⟨[(intA b0_0), (intA b0_1), (intA b0_2), (intA b0_3), (intA b0_4), (intA b0_5), (intA b0_6), (intA b0_7), (intA b0_8), (intA b0_9), (intA b0_10), (intA b0_11), (intA b0_12), (intA b0_13), (intA b0_14), (intA b0_15)], 31⟩) :: m), 400003⟩)
theorem B89_1_0_0_eq (t2 : Int) (t7 : Int) (t8 : Int) (t26 : Int) (t29 : Int) (t32 : Int) (b0_0 : Int) (b0_1 : Int) (b0_2 : Int) (b0_3 : Int) (b0_4 : Int) (b0_5 : Int) (b0_6 : Int) (b0_7 : Int) (b0_8 : Int) (b0_9 : Int) (b0_10 : Int) (b0_11 : Int) (b0_12 : Int) (b0_13 : Int) (b0_14 : Int) (b0_15 : Int) (m : Mem) (R : AV → Mem → Prop) (N0 : St → Prop) (N1 : St → Prop) (N2 : St → Prop) : W pg KK 55 0 c89_1_0_0 (h89_1_0_0 t2 t7 t8 t26 t29 t32 b0_0 b0_1 b0_2 b0_3 b0_4 b0_5 b0_6 b0_7 b0_8 b0_9 b0_10 b0_11 b0_12 b0_13 b0_14 b0_15 m) (qq89_1_0_0 R N0 N1 N2) = B89_1_0_0 t2 t7 t8 t26 t29 t32 b0_0 b0_1 b0_2 b0_3 b0_4 b0_5 b0_6 b0_7 b0_8 b0_9 b0_10 b0_11 b0_12 b0_13 b0_14 b0_15 m R N0 N1 N2 := by kernel_rfl
theorem L89_1_0_0 (R : AV → Mem → Prop) (N0 : St → Prop) (N1 : St → Prop) {σ : Type} (I : σ → Prop) (t2 : σ → Int) (t7 : σ → Int) (t8 : σ → Int) (t26 : σ → Int) (t29 : σ → Int) (t32 : σ → Int) (b0_0 : σ → Int) (b0_1 : σ → Int) (b0_2 : σ → Int) (b0_3 : σ → Int) (b0_4 : σ → Int) (b0_5 : σ → Int) (b0_6 : σ → Int) (b0_7 : σ → Int) (b0_8 : σ → Int) (b0_9 : σ → Int) (b0_10 : σ → Int) (b0_11 : σ → Int) (b0_12 : σ → Int) (b0_13 : σ → Int) (b0_14 : σ → Int) (b0_15 : σ → Int) (m : σ → Mem) (μ : σ → Nat) (step : ∀ x, I x → B89_1_0_0 (t2 x) (t7 x) (t8 x) (t26 x) (t29 x) (t32 x) (b0_0 x) (b0_1 x) (b0_2 x) (b0_3 x) (b0_4 x) (b0_5 x) (b0_6 x) (b0_7 x) (b0_8 x) (b0_9 x) (b0_10 x) (b0_11 x) (b0_12 x) (b0_13 x) (b0_14 x) (b0_15 x) (m x) R N0 N1 (fun s' => ∃ y, I y ∧ μ y < μ x ∧ Weak KK 55 0 s' (h89_1_0_0 (t2 y) (t7 y) (t8 y) (t26 y) (t29 y) (t32 y) (b0_0 y) (b0_1 y) (b0_2 y) (b0_3 y) (b0_4 y) (b0_5 y) (b0_6 y) (b0_7 y) (b0_8 y) (b0_9 y) (b0_10 y) (b0_11 y) (b0_12 y) (b0_13 y) (b0_14 y) (b0_15 y) (m y)))) (x : σ) (hx : I x) {s : St} (hw : Weak KK 55 0 s (h89_1_0_0 (t2 x) (t7 x) (t8 x) (t26 x) (t29 x) (t32 x) (b0_0 x) (b0_1 x) (b0_2 x) (b0_3 x) (b0_4 x) (b0_5 x) (b0_6 x) (b0_7 x) (b0_8 x) (b0_9 x) (b0_10 x) (b0_11 x) (b0_12 x) (b0_13 x) (b0_14 x) (b0_15 x) (m x))) : Tri pg KK 55 0 (.loop c89_1_0_0) s (q89_1_0_0 R N0 N1) :=
  Tri.weak hw (Tri.loops fol I (fun x => h89_1_0_0 (t2 x) (t7 x) (t8 x) (t26 x) (t29 x) (t32 x) (b0_0 x) (b0_1 x) (b0_2 x) (b0_3 x) (b0_4 x) (b0_5 x) (b0_6 x) (b0_7 x) (b0_8 x) (b0_9 x) (b0_10 x) (b0_11 x) (b0_12 x) (b0_13 x) (b0_14 x) (b0_15 x) (m x)) μ (fun x hx => (B89_1_0_0_eq (t2 x) (t7 x) (t8 x) (t26 x) (t29 x) (t32 x) (b0_0 x) (b0_1 x) (b0_2 x) (b0_3 x) (b0_4 x) (b0_5 x) (b0_6 x) (b0_7 x) (b0_8 x) (b0_9 x) (b0_10 x) (b0_11 x) (b0_12 x) (b0_13 x) (b0_14 x) (b0_15 x) (m x) R N0 N1 _).mpr (step x hx)) x hx)
noncomputable def F89 (a0_0 : Int) (a0_1 : Int) (a0_2 : Int) (a0_3 : Int) (a0_4 : Int) (a0_5 : Int) (a0_6 : Int) (a0_7 : Int) (a0_8 : Int) (a0_9 : Int) (a0_10 : Int) (a0_11 : Int) (a0_12 : Int) (a0_13 : Int) (a0_14 : Int) (a0_15 : Int) (R : AV → Mem → Prop) : Prop :=
Tri pg KK 55 0 (.loop c89_0) ⟨[(0, (AV.agg [(intA a0_0), (intA a0_1), (intA a0_2), (intA a0_3), (intA a0_4), (intA a0_5), (intA a0_6), (intA a0_7), (intA a0_8), (intA a0_9), (intA a0_10), (intA a0_11), (intA a0_12), (intA a0_13), (intA a0_14), (intA a0_15)])), (1, (AV.ptr 0 0)), (2, (intA (0))), (10, (AV.agg [(intA a0_0), (intA a0_1), (intA a0_2), (intA a0_3), (intA a0_4), (intA a0_5), (intA a0_6), (intA a0_7), (intA a0_8), (intA a0_9), (intA a0_10), (intA a0_11), (intA a0_12), (intA a0_13), (intA a0_14), (intA a0_15)])), (11, (intA (0)))], ((0, some ⟨[(intA a0_0), (intA a0_1), (intA a0_2), (intA a0_3), (intA a0_4), (intA a0_5), (intA a0_6), (intA a0_7), (intA a0_8), (intA a0_9), (intA a0_10), (intA a0_11), (intA a0_12), (intA a0_13), (intA a0_14), (intA a0_15)], 31⟩) :: []), 4⟩ (q89_0 R)
theorem F89_own (a0_0 : Int) (a0_1 : Int) (a0_2 : Int) (a0_3 : Int) (a0_4 : Int) (a0_5 : Int) (a0_6 : Int) (a0_7 : Int) (a0_8 : Int) (a0_9 : Int) (a0_10 : Int) (a0_11 : Int) (a0_12 : Int) (a0_13 : Int) (a0_14 : Int) (a0_15 : Int) (R : AV → Mem → Prop) (h : F89 a0_0 a0_1 a0_2 a0_3 a0_4 a0_5 a0_6 a0_7 a0_8 a0_9 a0_10 a0_11 a0_12 a0_13 a0_14 a0_15 R) : Own pg KK.gl 89 [(AV.agg [(intA a0_0), (intA a0_1), (intA a0_2), (intA a0_3), (intA a0_4), (intA a0_5), (intA a0_6), (intA a0_7), (intA a0_8), (intA a0_9), (intA a0_10), (intA a0_11), (intA a0_12), (intA a0_13), (intA a0_14), (intA a0_15)])] R := own_of_F fol Tryz.func89 (code := c89) (by kernel_rfl) (by kernel_rfl) (by kernel_rfl) (X := F89 a0_0 a0_1 a0_2 a0_3 a0_4 a0_5 a0_6 a0_7 a0_8 a0_9 a0_10 a0_11 a0_12 a0_13 a0_14 a0_15 R) (by kernel_rfl) h
/- skyway/wake.Class -/
noncomputable def c38 : Code := ((Tryz.f38).body).getD .skip
noncomputable def q38 (R : AV → Mem → Prop) : AExit → St → Prop := retQ pg Tryz.f38 R
noncomputable def F38 (a0 : Int) (R : AV → Mem → Prop) : Prop :=
bif (decide (a0 < (0))) then (
retL R [] [some (intA (1))]) else (
bif (decide (a0 > (3))) then (
retL R [] [some (intA (1))]) else (
retL R [] [some (intA (0))]))
theorem F38_own (a0 : Int) (R : AV → Mem → Prop) (h : F38 a0 R) : Own pg KK.gl 38 [(intA a0)] R := own_of_F fol Tryz.func38 (code := c38) (by kernel_rfl) (by kernel_rfl) (by kernel_rfl) (X := F38 a0 R) (by kernel_rfl) h
/- skyway/wake.classes -/
noncomputable def c34 : Code := ((Tryz.f34).body).getD .skip
noncomputable def q34 (R : AV → Mem → Prop) : AExit → St → Prop := retQ pg Tryz.f34 R
noncomputable def c34_0 : Code := loopB c34 0
noncomputable def q34_0 (R : AV → Mem → Prop) : AExit → St → Prop := contW pg KK 29 0 c34 0 (q34 R)
noncomputable def qq34_0 (R : AV → Mem → Prop) (N0 : St → Prop) : AExit → St → Prop := thenQ N0 (q34_0 R)
def h34_0 (t4 : Int) (t17 : AV) (t18 : Int) (t19 : Int) (m : Mem) : St := ⟨[(4, (intA t4)), (17, t17), (18, (intA t18)), (19, (intA t19))], m, 100000⟩
noncomputable def B34_0 (t4 : Int) (t17 : AV) (t18 : Int) (t19 : Int) (m : Mem) (R : AV → Mem → Prop) (N0 : St → Prop) : Prop :=
bif (decide (t19 < t18)) then (
opP (idxS 1 t17 (intA t19)) fun v6 =>
opP (ldS (mget m) v6) fun v7 =>
ex_i64 v7 fun z8 =>
callQ pg KK.gl m 38 [(intA z8)] fun v9 =>
ex_i64 v9 fun z10 =>
bif (z10 != (0)) then (
retL R m [some (intA z10)]) else (
N0 ⟨[(4, (intA t4)), (17, t17), (18, (intA t18)), (19, (intA (IntKind.wrap .i64 (t19 + (1))))), (20, (boolA (decide (t19 < t18)))), (21, v6), (22, (intA z8)), (7, (intA z8)), (23, (intA z8)), (24, (intA z10)), (8, (intA z10)), (25, (intA z10)), (26, (boolA (z10 != (0)))), (28, (intA (IntKind.wrap .i64 (t19 + (1)))))], m, 100074⟩)) else (
retL R m [some (intA (0))])
theorem B34_0_eq (t4 : Int) (t17 : AV) (t18 : Int) (t19 : Int) (m : Mem) (R : AV → Mem → Prop) (N0 : St → Prop) : W pg KK 29 0 c34_0 (h34_0 t4 t17 t18 t19 m) (qq34_0 R N0) = B34_0 t4 t17 t18 t19 m R N0 := by kernel_rfl
theorem L34_0 (R : AV → Mem → Prop) {σ : Type} (I : σ → Prop) (t4 : σ → Int) (t17 : σ → AV) (t18 : σ → Int) (t19 : σ → Int) (m : σ → Mem) (μ : σ → Nat) (step : ∀ x, I x → B34_0 (t4 x) (t17 x) (t18 x) (t19 x) (m x) R (fun s' => ∃ y, I y ∧ μ y < μ x ∧ Weak KK 29 0 s' (h34_0 (t4 y) (t17 y) (t18 y) (t19 y) (m y)))) (x : σ) (hx : I x) {s : St} (hw : Weak KK 29 0 s (h34_0 (t4 x) (t17 x) (t18 x) (t19 x) (m x))) : Tri pg KK 29 0 (.loop c34_0) s (q34_0 R) :=
  Tri.weak hw (Tri.loops fol I (fun x => h34_0 (t4 x) (t17 x) (t18 x) (t19 x) (m x)) μ (fun x hx => (B34_0_eq (t4 x) (t17 x) (t18 x) (t19 x) (m x) R _).mpr (step x hx)) x hx)
noncomputable def F34 (a0_0 : Int) (a0_1 : Int) (a0_2 : Int) (a0_3 : Int) (a0_4 : Int) (a0_5 : Int) (a0_6 : Int) (a0_7 : Int) (a0_8 : Int) (a0_9 : Int) (a0_10 : Int) (a0_11 : Int) (a0_12 : Int) (a0_13 : Int) (a0_14 : Int) (a0_15 : Int) (a1 : AV) (R : AV → Mem → Prop) : Prop :=
callQ pg KK.gl ((0, some ⟨[(intA a0_0), (intA a0_1), (intA a0_2), (intA a0_3), (intA a0_4), (intA a0_5), (intA a0_6), (intA a0_7), (intA a0_8), (intA a0_9), (intA a0_10), (intA a0_11), (intA a0_12), (intA a0_13), (intA a0_14), (intA a0_15)], 31⟩) :: []) 89 [(AV.agg [(intA a0_0), (intA a0_1), (intA a0_2), (intA a0_3), (intA a0_4), (intA a0_5), (intA a0_6), (intA a0_7), (intA a0_8), (intA a0_9), (intA a0_10), (intA a0_11), (intA a0_12), (intA a0_13), (intA a0_14), (intA a0_15)])] fun v0 =>
ex_i64 v0 fun z1 =>
bif (z1 != (0)) then (
retL R ((0, some ⟨[(intA a0_0), (intA a0_1), (intA a0_2), (intA a0_3), (intA a0_4), (intA a0_5), (intA a0_6), (intA a0_7), (intA a0_8), (intA a0_9), (intA a0_10), (intA a0_11), (intA a0_12), (intA a0_13), (intA a0_14), (intA a0_15)], 31⟩) :: []) [some (intA z1)]) else (
opP (lenS a1) fun v2 =>
ex_i64 v2 fun z3 =>
bif (decide (z3 > (256))) then (
retL R ((0, some ⟨[(intA a0_0), (intA a0_1), (intA a0_2), (intA a0_3), (intA a0_4), (intA a0_5), (intA a0_6), (intA a0_7), (intA a0_8), (intA a0_9), (intA a0_10), (intA a0_11), (intA a0_12), (intA a0_13), (intA a0_14), (intA a0_15)], 31⟩) :: []) [some (intA (2))]) else (
opP (lenS a1) fun v4 =>
ex_i64 v4 fun z5 =>
Tri pg KK 29 0 (.loop c34_0) ⟨[(0, (AV.agg [(intA a0_0), (intA a0_1), (intA a0_2), (intA a0_3), (intA a0_4), (intA a0_5), (intA a0_6), (intA a0_7), (intA a0_8), (intA a0_9), (intA a0_10), (intA a0_11), (intA a0_12), (intA a0_13), (intA a0_14), (intA a0_15)])), (1, a1), (2, (AV.ptr 0 0)), (4, (intA (0))), (9, (AV.agg [(intA a0_0), (intA a0_1), (intA a0_2), (intA a0_3), (intA a0_4), (intA a0_5), (intA a0_6), (intA a0_7), (intA a0_8), (intA a0_9), (intA a0_10), (intA a0_11), (intA a0_12), (intA a0_13), (intA a0_14), (intA a0_15)])), (10, (intA z1)), (5, (intA z1)), (11, (intA z1)), (12, (boolA (z1 != (0)))), (14, a1), (15, (intA z3)), (16, (boolA (decide (z3 > (256))))), (17, a1), (18, (intA z5)), (19, (intA (0)))], ((0, some ⟨[(intA a0_0), (intA a0_1), (intA a0_2), (intA a0_3), (intA a0_4), (intA a0_5), (intA a0_6), (intA a0_7), (intA a0_8), (intA a0_9), (intA a0_10), (intA a0_11), (intA a0_12), (intA a0_13), (intA a0_14), (intA a0_15)], 31⟩) :: []), 76⟩ (q34_0 R)))
theorem F34_own (a0_0 : Int) (a0_1 : Int) (a0_2 : Int) (a0_3 : Int) (a0_4 : Int) (a0_5 : Int) (a0_6 : Int) (a0_7 : Int) (a0_8 : Int) (a0_9 : Int) (a0_10 : Int) (a0_11 : Int) (a0_12 : Int) (a0_13 : Int) (a0_14 : Int) (a0_15 : Int) (a1 : AV) (R : AV → Mem → Prop) (h : F34 a0_0 a0_1 a0_2 a0_3 a0_4 a0_5 a0_6 a0_7 a0_8 a0_9 a0_10 a0_11 a0_12 a0_13 a0_14 a0_15 a1 R) : Own pg KK.gl 34 [(AV.agg [(intA a0_0), (intA a0_1), (intA a0_2), (intA a0_3), (intA a0_4), (intA a0_5), (intA a0_6), (intA a0_7), (intA a0_8), (intA a0_9), (intA a0_10), (intA a0_11), (intA a0_12), (intA a0_13), (intA a0_14), (intA a0_15)]), a1] R := own_of_F fol Tryz.func34 (code := c34) (by kernel_rfl) (by kernel_rfl) (by kernel_rfl) (X := F34 a0_0 a0_1 a0_2 a0_3 a0_4 a0_5 a0_6 a0_7 a0_8 a0_9 a0_10 a0_11 a0_12 a0_13 a0_14 a0_15 a1 R) (by kernel_rfl) h
/- skyway/wake.Gap -/
noncomputable def c6 : Code := ((Tryz.f6).body).getD .skip
noncomputable def q6 (R : AV → Mem → Prop) : AExit → St → Prop := retQ pg Tryz.f6 R
noncomputable def F6 (a0_0 : Int) (a0_1 : Int) (a0_2 : Int) (a0_3 : Int) (a0_4 : Int) (a0_5 : Int) (a0_6 : Int) (a0_7 : Int) (a0_8 : Int) (a0_9 : Int) (a0_10 : Int) (a0_11 : Int) (a0_12 : Int) (a0_13 : Int) (a0_14 : Int) (a0_15 : Int) (a1 : Int) (a2 : Int) (R : AV → Mem → Prop) : Prop :=
opN (bsl 6 3 1 2 [(intA (0))] [(0, (intA a1)), (1, (intA a2))]) ((0, some ⟨[(intA a0_0), (intA a0_1), (intA a0_2), (intA a0_3), (intA a0_4), (intA a0_5), (intA a0_6), (intA a0_7), (intA a0_8), (intA a0_9), (intA a0_10), (intA a0_11), (intA a0_12), (intA a0_13), (intA a0_14), (intA a0_15)], 31⟩) :: []) fun v0 m0 =>
callQ pg KK.gl m0 34 [(AV.agg [(intA a0_0), (intA a0_1), (intA a0_2), (intA a0_3), (intA a0_4), (intA a0_5), (intA a0_6), (intA a0_7), (intA a0_8), (intA a0_9), (intA a0_10), (intA a0_11), (intA a0_12), (intA a0_13), (intA a0_14), (intA a0_15)]), v0] fun v1 =>
ex_i64 v1 fun z2 =>
bif (z2 != (0)) then (
retL R m0 [some (intA (0)), some (intA z2)]) else (
opP (idxA 4 4 (AV.ptr 0 0) (intA a1)) fun v3 =>
opP (idxA 4 1 v3 (intA a2)) fun v4 =>
opP (ldS (mget m0) v4) fun v5 =>
ex_i64 v5 fun z6 =>
retL R m0 [some (intA z6), some (intA (0))])
theorem F6_own (a0_0 : Int) (a0_1 : Int) (a0_2 : Int) (a0_3 : Int) (a0_4 : Int) (a0_5 : Int) (a0_6 : Int) (a0_7 : Int) (a0_8 : Int) (a0_9 : Int) (a0_10 : Int) (a0_11 : Int) (a0_12 : Int) (a0_13 : Int) (a0_14 : Int) (a0_15 : Int) (a1 : Int) (a2 : Int) (R : AV → Mem → Prop) (h : F6 a0_0 a0_1 a0_2 a0_3 a0_4 a0_5 a0_6 a0_7 a0_8 a0_9 a0_10 a0_11 a0_12 a0_13 a0_14 a0_15 a1 a2 R) : Own pg KK.gl 6 [(AV.agg [(intA a0_0), (intA a0_1), (intA a0_2), (intA a0_3), (intA a0_4), (intA a0_5), (intA a0_6), (intA a0_7), (intA a0_8), (intA a0_9), (intA a0_10), (intA a0_11), (intA a0_12), (intA a0_13), (intA a0_14), (intA a0_15)]), (intA a1), (intA a2)] R := own_of_F fol Tryz.func6 (code := c6) (by kernel_rfl) (by kernel_rfl) (by kernel_rfl) (X := F6 a0_0 a0_1 a0_2 a0_3 a0_4 a0_5 a0_6 a0_7 a0_8 a0_9 a0_10 a0_11 a0_12 a0_13 a0_14 a0_15 a1 a2 R) (by kernel_rfl) h
/- skyway/chart.Name -/
noncomputable def c50 : Code := ((Tryz.f50).body).getD .skip
noncomputable def q50 (R : AV → Mem → Prop) : AExit → St → Prop := retQ pg Tryz.f50 R
noncomputable def c50_0 : Code := loopB c50 0
noncomputable def q50_0 (R : AV → Mem → Prop) : AExit → St → Prop := contW pg KK 41 0 c50 0 (q50 R)
noncomputable def qq50_0 (R : AV → Mem → Prop) (N0 : St → Prop) : AExit → St → Prop := thenQ N0 (q50_0 R)
def h50_0 (t2 : Bool) (t14 : AV) (t15 : Int) (t16 : Int) (m : Mem) : St := ⟨[(2, (boolA t2)), (14, t14), (15, (intA t15)), (16, (intA t16))], m, 100000⟩
noncomputable def B50_0 (t2 : Bool) (t14 : AV) (t15 : Int) (t16 : Int) (m : Mem) (R : AV → Mem → Prop) (N0 : St → Prop) : Prop :=
bif (decide (t16 < t15)) then (
opP (idxS 1 t14 (intA t16)) fun v7 =>
opP (ldS (mget m) v7) fun v8 =>
ex_u8 v8 fun z9 =>
bif (decide (z9 ≥ (65))) then (
bif (decide (z9 ≤ (90))) then (
N0 ⟨[(2, (boolA t2)), (14, t14), (15, (intA t15)), (16, (intA (IntKind.wrap .i64 (t16 + (1))))), (17, (boolA (decide (t16 < t15)))), (18, (intA t16)), (19, v7), (20, (AV.sc (.int .u8 z9))), (3, (intA t16)), (4, (AV.sc (.int .u8 z9))), (21, (AV.sc (.int .u8 z9))), (22, (boolA (decide (z9 ≥ (65))))), (23, (boolA true)), (24, (AV.sc (.int .u8 z9))), (25, (boolA (decide (z9 ≤ (90))))), (26, (boolA (decide (z9 ≤ (90))))), (27, (boolA true)), (28, (AV.tup [])), (29, (AV.tup [])), (30, (AV.tup [])), (31, (AV.tup [])), (32, (AV.tup [])), (33, (AV.tup [])), (34, (AV.tup [])), (35, (AV.tup [])), (36, (AV.tup [])), (37, (AV.tup [])), (38, (boolA true)), (39, (boolA false)), (40, (intA (IntKind.wrap .i64 (t16 + (1)))))], m, 100017⟩) else (
bif (decide (t16 > (0))) then (
bif (decide (z9 ≥ (48))) then (
bif (!(decide (z9 ≤ (57)))) then (
retL R m [some (boolA false)]) else (
N0 ⟨[(2, (boolA t2)), (14, t14), (15, (intA t15)), (16, (intA (IntKind.wrap .i64 (t16 + (1))))), (17, (boolA (decide (t16 < t15)))), (18, (intA t16)), (19, v7), (20, (AV.sc (.int .u8 z9))), (3, (intA t16)), (4, (AV.sc (.int .u8 z9))), (21, (AV.sc (.int .u8 z9))), (22, (boolA (decide (z9 ≥ (65))))), (23, (boolA true)), (24, (AV.sc (.int .u8 z9))), (25, (boolA (decide (z9 ≤ (90))))), (26, (boolA (decide (z9 ≤ (90))))), (27, (boolA false)), (28, (intA t16)), (29, (boolA (decide (t16 > (0))))), (30, (boolA true)), (31, (AV.sc (.int .u8 z9))), (32, (boolA (decide (z9 ≥ (48))))), (33, (boolA (decide (z9 ≥ (48))))), (34, (boolA true)), (35, (AV.sc (.int .u8 z9))), (36, (boolA (decide (z9 ≤ (57))))), (37, (boolA (decide (z9 ≤ (57))))), (38, (boolA (decide (z9 ≤ (57))))), (39, (boolA (!(decide (z9 ≤ (57)))))), (40, (intA (IntKind.wrap .i64 (t16 + (1)))))], m, 100027⟩)) else (
retL R m [some (boolA false)])) else (
retL R m [some (boolA false)]))) else (
bif (decide (t16 > (0))) then (
bif (decide (z9 ≥ (48))) then (
bif (!(decide (z9 ≤ (57)))) then (
retL R m [some (boolA false)]) else (
N0 ⟨[(2, (boolA t2)), (14, t14), (15, (intA t15)), (16, (intA (IntKind.wrap .i64 (t16 + (1))))), (17, (boolA (decide (t16 < t15)))), (18, (intA t16)), (19, v7), (20, (AV.sc (.int .u8 z9))), (3, (intA t16)), (4, (AV.sc (.int .u8 z9))), (21, (AV.sc (.int .u8 z9))), (22, (boolA (decide (z9 ≥ (65))))), (23, (boolA false)), (24, (AV.tup [])), (25, (AV.tup [])), (26, (boolA false)), (27, (boolA false)), (28, (intA t16)), (29, (boolA (decide (t16 > (0))))), (30, (boolA true)), (31, (AV.sc (.int .u8 z9))), (32, (boolA (decide (z9 ≥ (48))))), (33, (boolA (decide (z9 ≥ (48))))), (34, (boolA true)), (35, (AV.sc (.int .u8 z9))), (36, (boolA (decide (z9 ≤ (57))))), (37, (boolA (decide (z9 ≤ (57))))), (38, (boolA (decide (z9 ≤ (57))))), (39, (boolA (!(decide (z9 ≤ (57)))))), (40, (intA (IntKind.wrap .i64 (t16 + (1)))))], m, 100025⟩)) else (
retL R m [some (boolA false)])) else (
retL R m [some (boolA false)]))) else (
retL R m [some (boolA true)])
theorem B50_0_eq (t2 : Bool) (t14 : AV) (t15 : Int) (t16 : Int) (m : Mem) (R : AV → Mem → Prop) (N0 : St → Prop) : W pg KK 41 0 c50_0 (h50_0 t2 t14 t15 t16 m) (qq50_0 R N0) = B50_0 t2 t14 t15 t16 m R N0 := by kernel_rfl
theorem L50_0 (R : AV → Mem → Prop) {σ : Type} (I : σ → Prop) (t2 : σ → Bool) (t14 : σ → AV) (t15 : σ → Int) (t16 : σ → Int) (m : σ → Mem) (μ : σ → Nat) (step : ∀ x, I x → B50_0 (t2 x) (t14 x) (t15 x) (t16 x) (m x) R (fun s' => ∃ y, I y ∧ μ y < μ x ∧ Weak KK 41 0 s' (h50_0 (t2 y) (t14 y) (t15 y) (t16 y) (m y)))) (x : σ) (hx : I x) {s : St} (hw : Weak KK 41 0 s (h50_0 (t2 x) (t14 x) (t15 x) (t16 x) (m x))) : Tri pg KK 41 0 (.loop c50_0) s (q50_0 R) :=
  Tri.weak hw (Tri.loops fol I (fun x => h50_0 (t2 x) (t14 x) (t15 x) (t16 x) (m x)) μ (fun x hx => (B50_0_eq (t2 x) (t14 x) (t15 x) (t16 x) (m x) R _).mpr (step x hx)) x hx)
noncomputable def F50 (a0 : ByteArray) (R : AV → Mem → Prop) : Prop :=
opP (opA pg (.call ⟨.builtin .len, #[.tmp 0], #[9]⟩) 3 [(AV.sc (.string a0))] (mget []) 2) fun v0 =>
ex_i64 v0 fun z1 =>
bif (decide (z1 < (1))) then (
retL R [] [some (boolA false)]) else (
opP (opA pg (.call ⟨.builtin .len, #[.tmp 0], #[9]⟩) 3 [(AV.sc (.string a0))] (mget []) 6) fun v2 =>
ex_i64 v2 fun z3 =>
bif (decide (z3 > (8))) then (
retL R [] [some (boolA false)]) else (
opP (opA pg (.convert 9 228 (.tmp 0)) 228 [(AV.sc (.string a0))] (mget []) 10) fun v4 =>
opP (lenS v4) fun v5 =>
ex_i64 v5 fun z6 =>
Tri pg KK 41 0 (.loop c50_0) ⟨[(0, (AV.sc (.string a0))), (2, (boolA false)), (5, (AV.sc (.string a0))), (6, (intA z1)), (7, (boolA (decide (z1 < (1))))), (8, (boolA false)), (9, (AV.sc (.string a0))), (10, (intA z3)), (11, (boolA (decide (z3 > (8))))), (12, (boolA (decide (z3 > (8))))), (13, (AV.sc (.string a0))), (14, v4), (15, (intA z6)), (16, (intA (0)))], [], 13⟩ (q50_0 R)))
theorem F50_own (a0 : ByteArray) (R : AV → Mem → Prop) (h : F50 a0 R) : Own pg KK.gl 50 [(AV.sc (.string a0))] R := own_of_F fol Tryz.func50 (code := c50) (by kernel_rfl) (by kernel_rfl) (by kernel_rfl) (X := F50 a0 R) (by kernel_rfl) h
/- skyway/taxi.stand$1 -/
noncomputable def c156 : Code := ((Tryz.f156).body).getD .skip
noncomputable def q156 (R : AV → Mem → Prop) : AExit → St → Prop := retQ pg Tryz.f156 R
noncomputable def F156 (a0_0 : ByteArray) (a0_1 : Int) (a1 : AV) (R : AV → Mem → Prop) : Prop :=
opP (ldS (mget ((0, some ⟨[(AV.sc (.string a0_0)), (intA a0_1)], 111⟩) :: [])) a1) fun v0 =>
exStr v0 fun s1 =>
retL R ((0, some ⟨[(AV.sc (.string a0_0)), (intA a0_1)], 111⟩) :: []) [some (boolA ((a0_0).toList == (s1).toList))]
theorem F156_own (a0_0 : ByteArray) (a0_1 : Int) (a1 : AV) (R : AV → Mem → Prop) (h : F156 a0_0 a0_1 a1 R) : Own pg KK.gl 156 [(AV.agg [(AV.sc (.string a0_0)), (intA a0_1)]), a1] R := own_of_F fol Tryz.func156 (code := c156) (by kernel_rfl) (by kernel_rfl) (by kernel_rfl) (X := F156 a0_0 a0_1 a1 R) (by kernel_rfl) h
/- slices.IndexFunc[[]skyway/api.TaxiStand,skyway/api.TaxiStand] -/
noncomputable def c155 : Code := ((Tryz.f155).body).getD .skip
noncomputable def q155 (R : AV → Mem → Prop) : AExit → St → Prop := retQ pg Tryz.f155 R
noncomputable def c155_0 : Code := loopB c155 0
noncomputable def q155_0 (R : AV → Mem → Prop) : AExit → St → Prop := contW pg KK 19 0 c155 0 (q155 R)
noncomputable def qq155_0 (R : AV → Mem → Prop) (N0 : St → Prop) : AExit → St → Prop := thenQ N0 (q155_0 R)
def h155_0 (t0 : AV) (t1 : AV) (t4 : Int) (t7 : Int) (t8 : Int) (m : Mem) : St := ⟨[(0, t0), (1, t1), (4, (intA t4)), (7, (intA t7)), (8, (intA t8))], m, 100000⟩
noncomputable def B155_0 (t0 : AV) (t1 : AV) (t4 : Int) (t7 : Int) (t8 : Int) (m : Mem) (R : AV → Mem → Prop) (N0 : St → Prop) : Prop :=
bif (decide (t8 < t7)) then (
opP (idxS 2 t0 (intA t8)) fun v2 =>
opP (ldA (mget m) 2 v2) fun v3 =>
exA2 v3 fun c4 c5 =>
exStr c4 fun s6 =>
ex_i64 c5 fun z7 =>
fnArgs (some t1) (some [(AV.agg [(AV.sc (.string s6)), (intA z7)])]) fun f8 a8 => bif KK.pm f8 then callQ pg KK.gl m f8 a8 (fun v8 =>
exB v8 fun b9 =>
bif b9 then (
retL R m [some (intA t8)]) else (
N0 ⟨[(0, t0), (1, t1), (4, (intA t4)), (7, (intA t7)), (8, (intA (IntKind.wrap .i64 (t8 + (1))))), (9, (boolA (decide (t8 < t7)))), (10, (intA t8)), (5, (intA t8)), (11, t1), (12, t0), (13, (intA t8)), (14, v2), (15, (AV.agg [(AV.sc (.string s6)), (intA z7)])), (16, (boolA b9)), (18, (intA (IntKind.wrap .i64 (t8 + (1)))))], m, 100074⟩)) else callW pg KK.gl m 100008 f8 a8 fun v8 m8 =>
exB v8 fun b9 =>
bif b9 then (
retL R m8 [some (intA t8)]) else (
N0 ⟨[(0, t0), (1, t1), (4, (intA t4)), (7, (intA t7)), (8, (intA (IntKind.wrap .i64 (t8 + (1))))), (9, (boolA (decide (t8 < t7)))), (10, (intA t8)), (5, (intA t8)), (11, t1), (12, t0), (13, (intA t8)), (14, v2), (15, (AV.agg [(AV.sc (.string s6)), (intA z7)])), (16, (boolA b9)), (18, (intA (IntKind.wrap .i64 (t8 + (1)))))], m8, 100074⟩)) else (
retL R m [some (intA (-1))])
theorem B155_0_eq (t0 : AV) (t1 : AV) (t4 : Int) (t7 : Int) (t8 : Int) (m : Mem) (R : AV → Mem → Prop) (N0 : St → Prop) : W pg KK 19 0 c155_0 (h155_0 t0 t1 t4 t7 t8 m) (qq155_0 R N0) = B155_0 t0 t1 t4 t7 t8 m R N0 := by kernel_rfl
theorem L155_0 (R : AV → Mem → Prop) {σ : Type} (I : σ → Prop) (t0 : σ → AV) (t1 : σ → AV) (t4 : σ → Int) (t7 : σ → Int) (t8 : σ → Int) (m : σ → Mem) (μ : σ → Nat) (step : ∀ x, I x → B155_0 (t0 x) (t1 x) (t4 x) (t7 x) (t8 x) (m x) R (fun s' => ∃ y, I y ∧ μ y < μ x ∧ Weak KK 19 0 s' (h155_0 (t0 y) (t1 y) (t4 y) (t7 y) (t8 y) (m y)))) (x : σ) (hx : I x) {s : St} (hw : Weak KK 19 0 s (h155_0 (t0 x) (t1 x) (t4 x) (t7 x) (t8 x) (m x))) : Tri pg KK 19 0 (.loop c155_0) s (q155_0 R) :=
  Tri.weak hw (Tri.loops fol I (fun x => h155_0 (t0 x) (t1 x) (t4 x) (t7 x) (t8 x) (m x)) μ (fun x hx => (B155_0_eq (t0 x) (t1 x) (t4 x) (t7 x) (t8 x) (m x) R _).mpr (step x hx)) x hx)
noncomputable def F155 (a0 : AV) (a1 : AV) (R : AV → Mem → Prop) : Prop :=
opP (lenS a0) fun v0 =>
ex_i64 v0 fun z1 =>
Tri pg KK 19 0 (.loop c155_0) ⟨[(0, a0), (1, a1), (4, (intA (0))), (6, a0), (7, (intA z1)), (8, (intA (0)))], [], 4⟩ (q155_0 R)
theorem F155_own (a0 : AV) (a1 : AV) (R : AV → Mem → Prop) (h : F155 a0 a1 R) : Own pg KK.gl 155 [a0, a1] R := own_of_F fol Tryz.func155 (code := c155) (by kernel_rfl) (by kernel_rfl) (by kernel_rfl) (X := F155 a0 a1 R) (by kernel_rfl) h
/- skyway/taxi.stand -/
noncomputable def c95 : Code := ((Tryz.f95).body).getD .skip
noncomputable def q95 (R : AV → Mem → Prop) : AExit → St → Prop := retQ pg Tryz.f95 R
noncomputable def F95 (a0 : AV) (a1 : ByteArray) (R : AV → Mem → Prop) : Prop :=
callQ pg KK.gl ((0, some ⟨[(AV.sc (.string a1))], 9⟩) :: []) 155 [a0, (AV.fn 156 [(AV.ptr 0 0)])] fun v0 =>
ex_i64 v0 fun z1 =>
retL R ((0, some ⟨[(AV.sc (.string a1))], 9⟩) :: []) [some (intA z1)]
theorem F95_own (a0 : AV) (a1 : ByteArray) (R : AV → Mem → Prop) (h : F95 a0 a1 R) : Own pg KK.gl 95 [a0, (AV.sc (.string a1))] R := own_of_F fol Tryz.func95 (code := c95) (by kernel_rfl) (by kernel_rfl) (by kernel_rfl) (X := F95 a0 a1 R) (by kernel_rfl) h
/- skyway/taxi.Stands -/
noncomputable def c152 : Code := ((Tryz.f152).body).getD .skip
noncomputable def q152 (R : AV → Mem → Prop) : AExit → St → Prop := retQ pg Tryz.f152 R
noncomputable def c152_0 : Code := loopB c152 0
noncomputable def q152_0 (R : AV → Mem → Prop) : AExit → St → Prop := contW pg KK 38 0 c152 0 (q152 R)
noncomputable def qq152_0 (R : AV → Mem → Prop) (N0 : St → Prop) : AExit → St → Prop := thenQ N0 (q152_0 R)
def h152_0 (t0 : AV) (t2 : Int) (t8 : AV) (t9 : Int) (t10 : Int) (m : Mem) : St := ⟨[(0, t0), (2, (intA t2)), (8, t8), (9, (intA t9)), (10, (intA t10))], m, 100000⟩
noncomputable def B152_0 (t0 : AV) (t2 : Int) (t8 : AV) (t9 : Int) (t10 : Int) (m : Mem) (R : AV → Mem → Prop) (N0 : St → Prop) : Prop :=
bif (decide (t10 < t9)) then (
opP (idxS 2 t8 (intA t10)) fun v4 =>
opP (ldA (mget m) 2 v4) fun v5 =>
exA2 v5 fun c6 c7 =>
exStr c6 fun s8 =>
ex_i64 c7 fun z9 =>
callQ pg KK.gl ((100004, some ⟨[(AV.sc (.string s8)), (intA z9)], 111⟩) :: (100004, some ⟨[(AV.sc (.string ⟨#[]⟩)), (intA (0))], 111⟩) :: m) 50 [(AV.sc (.string s8))] fun v10 =>
exB v10 fun b11 =>
bif (!b11) then (
retL R ((100004, some ⟨[(AV.sc (.string s8)), (intA z9)], 111⟩) :: (100004, some ⟨[(AV.sc (.string ⟨#[]⟩)), (intA (0))], 111⟩) :: m) [some (intA (3))]) else (
bif (decide (z9 < (0))) then (
retL R ((100004, some ⟨[(AV.sc (.string s8)), (intA z9)], 111⟩) :: (100004, some ⟨[(AV.sc (.string ⟨#[]⟩)), (intA (0))], 111⟩) :: m) [some (intA (4))]) else (
bif (decide (z9 > (1800))) then (
retL R ((100004, some ⟨[(AV.sc (.string s8)), (intA z9)], 111⟩) :: (100004, some ⟨[(AV.sc (.string ⟨#[]⟩)), (intA (0))], 111⟩) :: m) [some (intA (4))]) else (
opP (opA pg (.slice 22 (.tmp 0) none (some (.tmp 1)) none) 22 [t0, (intA t10)] (mget ((100004, some ⟨[(AV.sc (.string s8)), (intA z9)], 111⟩) :: (100004, some ⟨[(AV.sc (.string ⟨#[]⟩)), (intA (0))], 111⟩) :: m)) 100086) fun v12 =>
callQ pg KK.gl ((100004, some ⟨[(AV.sc (.string s8)), (intA z9)], 111⟩) :: (100004, some ⟨[(AV.sc (.string ⟨#[]⟩)), (intA (0))], 111⟩) :: m) 95 [v12, (AV.sc (.string s8))] fun v13 =>
ex_i64 v13 fun z14 =>
bif (decide (z14 ≥ (0))) then (
retL R ((100004, some ⟨[(AV.sc (.string s8)), (intA z9)], 111⟩) :: (100004, some ⟨[(AV.sc (.string ⟨#[]⟩)), (intA (0))], 111⟩) :: m) [some (intA (7))]) else (
N0 ⟨[(0, t0), (2, (intA t2)), (8, t8), (9, (intA t9)), (10, (intA (IntKind.wrap .i64 (t10 + (1))))), (11, (boolA (decide (t10 < t9)))), (12, (intA t10)), (13, v4), (14, (AV.agg [(AV.sc (.string s8)), (intA z9)])), (4, (AV.ptr 100004 0)), (3, (intA t10)), (16, (AV.ptr 100004 0)), (17, (AV.sc (.string s8))), (18, (boolA b11)), (19, (boolA (!b11))), (15, (boolA (!b11))), (21, (AV.ptr 100004 1)), (22, (intA z9)), (23, (boolA (decide (z9 < (0))))), (24, (boolA false)), (25, (AV.ptr 100004 1)), (26, (intA z9)), (27, (boolA (decide (z9 > (1800))))), (28, (boolA (decide (z9 > (1800))))), (20, (boolA (decide (z9 > (1800))))), (30, t0), (31, (intA t10)), (32, v12), (33, (AV.ptr 100004 0)), (34, (AV.sc (.string s8))), (35, (intA z14)), (36, (boolA (decide (z14 ≥ (0))))), (29, (boolA (decide (z14 ≥ (0))))), (37, (intA (IntKind.wrap .i64 (t10 + (1)))))], ((100004, some ⟨[(AV.sc (.string s8)), (intA z9)], 111⟩) :: (100004, some ⟨[(AV.sc (.string ⟨#[]⟩)), (intA (0))], 111⟩) :: m), 100094⟩))))) else (
retL R m [some (intA (0))])
theorem B152_0_eq (t0 : AV) (t2 : Int) (t8 : AV) (t9 : Int) (t10 : Int) (m : Mem) (R : AV → Mem → Prop) (N0 : St → Prop) : W pg KK 38 0 c152_0 (h152_0 t0 t2 t8 t9 t10 m) (qq152_0 R N0) = B152_0 t0 t2 t8 t9 t10 m R N0 := by kernel_rfl
theorem L152_0 (R : AV → Mem → Prop) {σ : Type} (I : σ → Prop) (t0 : σ → AV) (t2 : σ → Int) (t8 : σ → AV) (t9 : σ → Int) (t10 : σ → Int) (m : σ → Mem) (μ : σ → Nat) (step : ∀ x, I x → B152_0 (t0 x) (t2 x) (t8 x) (t9 x) (t10 x) (m x) R (fun s' => ∃ y, I y ∧ μ y < μ x ∧ Weak KK 38 0 s' (h152_0 (t0 y) (t2 y) (t8 y) (t9 y) (t10 y) (m y)))) (x : σ) (hx : I x) {s : St} (hw : Weak KK 38 0 s (h152_0 (t0 x) (t2 x) (t8 x) (t9 x) (t10 x) (m x))) : Tri pg KK 38 0 (.loop c152_0) s (q152_0 R) :=
  Tri.weak hw (Tri.loops fol I (fun x => h152_0 (t0 x) (t2 x) (t8 x) (t9 x) (t10 x) (m x)) μ (fun x hx => (B152_0_eq (t0 x) (t2 x) (t8 x) (t9 x) (t10 x) (m x) R _).mpr (step x hx)) x hx)
noncomputable def F152 (a0 : AV) (R : AV → Mem → Prop) : Prop :=
opP (lenS a0) fun v0 =>
ex_i64 v0 fun z1 =>
bif (decide (z1 > (16))) then (
retL R [] [some (intA (2))]) else (
opP (lenS a0) fun v2 =>
ex_i64 v2 fun z3 =>
Tri pg KK 38 0 (.loop c152_0) ⟨[(0, a0), (2, (intA (0))), (5, a0), (6, (intA z1)), (7, (boolA (decide (z1 > (16))))), (8, a0), (9, (intA z3)), (10, (intA (0)))], [], 7⟩ (q152_0 R))
theorem F152_own (a0 : AV) (R : AV → Mem → Prop) (h : F152 a0 R) : Own pg KK.gl 152 [a0] R := own_of_F fol Tryz.func152 (code := c152) (by kernel_rfl) (by kernel_rfl) (by kernel_rfl) (X := F152 a0 R) (by kernel_rfl) h
/- skyway/taxi.Check$1 -/
noncomputable def c154 : Code := ((Tryz.f154).body).getD .skip
noncomputable def q154 (R : AV → Mem → Prop) : AExit → St → Prop := retQ pg Tryz.f154 R
noncomputable def F154 (a0_0 : ByteArray) (a0_1 : ByteArray) (a0_2 : Int) (a1 : AV) (R : AV → Mem → Prop) : Prop :=
opP (fldO 0 a1) fun v0 =>
opP (ldS (mget ((0, some ⟨[(AV.sc (.string a0_0)), (AV.sc (.string a0_1)), (intA a0_2)], 113⟩) :: [])) v0) fun v1 =>
exStr v1 fun s2 =>
retL R ((0, some ⟨[(AV.sc (.string a0_0)), (AV.sc (.string a0_1)), (intA a0_2)], 113⟩) :: []) [some (boolA ((a0_0).toList == (s2).toList))]
theorem F154_own (a0_0 : ByteArray) (a0_1 : ByteArray) (a0_2 : Int) (a1 : AV) (R : AV → Mem → Prop) (h : F154 a0_0 a0_1 a0_2 a1 R) : Own pg KK.gl 154 [(AV.agg [(AV.sc (.string a0_0)), (AV.sc (.string a0_1)), (intA a0_2)]), a1] R := own_of_F fol Tryz.func154 (code := c154) (by kernel_rfl) (by kernel_rfl) (by kernel_rfl) (X := F154 a0_0 a0_1 a0_2 a1 R) (by kernel_rfl) h
/- slices.IndexFunc[[]skyway/api.TaxiAsk,skyway/api.TaxiAsk] -/
noncomputable def c210 : Code := ((Tryz.f210).body).getD .skip
noncomputable def q210 (R : AV → Mem → Prop) : AExit → St → Prop := retQ pg Tryz.f210 R
noncomputable def c210_0 : Code := loopB c210 0
noncomputable def q210_0 (R : AV → Mem → Prop) : AExit → St → Prop := contW pg KK 19 0 c210 0 (q210 R)
noncomputable def qq210_0 (R : AV → Mem → Prop) (N0 : St → Prop) : AExit → St → Prop := thenQ N0 (q210_0 R)
def h210_0 (t0 : AV) (t1 : AV) (t4 : Int) (t7 : Int) (t8 : Int) (m : Mem) : St := ⟨[(0, t0), (1, t1), (4, (intA t4)), (7, (intA t7)), (8, (intA t8))], m, 100000⟩
noncomputable def B210_0 (t0 : AV) (t1 : AV) (t4 : Int) (t7 : Int) (t8 : Int) (m : Mem) (R : AV → Mem → Prop) (N0 : St → Prop) : Prop :=
bif (decide (t8 < t7)) then (
opP (idxS 3 t0 (intA t8)) fun v2 =>
opP (ldA (mget m) 3 v2) fun v3 =>
exA3 v3 fun c4 c5 c6 =>
exStr c4 fun s7 =>
exStr c5 fun s8 =>
ex_i64 c6 fun z9 =>
fnArgs (some t1) (some [(AV.agg [(AV.sc (.string s7)), (AV.sc (.string s8)), (intA z9)])]) fun f10 a10 => bif KK.pm f10 then callQ pg KK.gl m f10 a10 (fun v10 =>
exB v10 fun b11 =>
bif b11 then (
retL R m [some (intA t8)]) else (
N0 ⟨[(0, t0), (1, t1), (4, (intA t4)), (7, (intA t7)), (8, (intA (IntKind.wrap .i64 (t8 + (1))))), (9, (boolA (decide (t8 < t7)))), (10, (intA t8)), (5, (intA t8)), (11, t1), (12, t0), (13, (intA t8)), (14, v2), (15, (AV.agg [(AV.sc (.string s7)), (AV.sc (.string s8)), (intA z9)])), (16, (boolA b11)), (18, (intA (IntKind.wrap .i64 (t8 + (1)))))], m, 100074⟩)) else callW pg KK.gl m 100008 f10 a10 fun v10 m10 =>
exB v10 fun b11 =>
bif b11 then (
retL R m10 [some (intA t8)]) else (
N0 ⟨[(0, t0), (1, t1), (4, (intA t4)), (7, (intA t7)), (8, (intA (IntKind.wrap .i64 (t8 + (1))))), (9, (boolA (decide (t8 < t7)))), (10, (intA t8)), (5, (intA t8)), (11, t1), (12, t0), (13, (intA t8)), (14, v2), (15, (AV.agg [(AV.sc (.string s7)), (AV.sc (.string s8)), (intA z9)])), (16, (boolA b11)), (18, (intA (IntKind.wrap .i64 (t8 + (1)))))], m10, 100074⟩)) else (
retL R m [some (intA (-1))])
theorem B210_0_eq (t0 : AV) (t1 : AV) (t4 : Int) (t7 : Int) (t8 : Int) (m : Mem) (R : AV → Mem → Prop) (N0 : St → Prop) : W pg KK 19 0 c210_0 (h210_0 t0 t1 t4 t7 t8 m) (qq210_0 R N0) = B210_0 t0 t1 t4 t7 t8 m R N0 := by kernel_rfl
theorem L210_0 (R : AV → Mem → Prop) {σ : Type} (I : σ → Prop) (t0 : σ → AV) (t1 : σ → AV) (t4 : σ → Int) (t7 : σ → Int) (t8 : σ → Int) (m : σ → Mem) (μ : σ → Nat) (step : ∀ x, I x → B210_0 (t0 x) (t1 x) (t4 x) (t7 x) (t8 x) (m x) R (fun s' => ∃ y, I y ∧ μ y < μ x ∧ Weak KK 19 0 s' (h210_0 (t0 y) (t1 y) (t4 y) (t7 y) (t8 y) (m y)))) (x : σ) (hx : I x) {s : St} (hw : Weak KK 19 0 s (h210_0 (t0 x) (t1 x) (t4 x) (t7 x) (t8 x) (m x))) : Tri pg KK 19 0 (.loop c210_0) s (q210_0 R) :=
  Tri.weak hw (Tri.loops fol I (fun x => h210_0 (t0 x) (t1 x) (t4 x) (t7 x) (t8 x) (m x)) μ (fun x hx => (B210_0_eq (t0 x) (t1 x) (t4 x) (t7 x) (t8 x) (m x) R _).mpr (step x hx)) x hx)
noncomputable def F210 (a0 : AV) (a1 : AV) (R : AV → Mem → Prop) : Prop :=
opP (lenS a0) fun v0 =>
ex_i64 v0 fun z1 =>
Tri pg KK 19 0 (.loop c210_0) ⟨[(0, a0), (1, a1), (4, (intA (0))), (6, a0), (7, (intA z1)), (8, (intA (0)))], [], 4⟩ (q210_0 R)
theorem F210_own (a0 : AV) (a1 : AV) (R : AV → Mem → Prop) (h : F210 a0 a1 R) : Own pg KK.gl 210 [a0, a1] R := own_of_F fol Tryz.func210 (code := c210) (by kernel_rfl) (by kernel_rfl) (by kernel_rfl) (X := F210 a0 a1 R) (by kernel_rfl) h
/- slices.ContainsFunc[[]skyway/api.TaxiAsk,skyway/api.TaxiAsk] -/
noncomputable def c153 : Code := ((Tryz.f153).body).getD .skip
noncomputable def q153 (R : AV → Mem → Prop) : AExit → St → Prop := retQ pg Tryz.f153 R
noncomputable def F153 (a0 : AV) (a1 : AV) (R : AV → Mem → Prop) : Prop :=
callQ pg KK.gl [] 210 [a0, a1] fun v0 =>
ex_i64 v0 fun z1 =>
retL R [] [some (boolA (decide (z1 ≥ (0))))]
theorem F153_own (a0 : AV) (a1 : AV) (R : AV → Mem → Prop) (h : F153 a0 a1 R) : Own pg KK.gl 153 [a0, a1] R := own_of_F fol Tryz.func153 (code := c153) (by kernel_rfl) (by kernel_rfl) (by kernel_rfl) (X := F153 a0 a1 R) (by kernel_rfl) h
end Go.Proofs.YtbnnndfcaehlpaaGreatDoor
