/- Functions of the program as conditions on their answers; printed by wip/Gen.lean.txt. -/
import Derived.Test.YtlgbioidkbeanaaX1T
set_option linter.unusedVariables false
set_option maxRecDepth 100000
set_option maxHeartbeats 4000000
namespace Go.Proofs.Ytlgbioidkbeanaa
/- skyway/probe.CheckSep -/
noncomputable def c36 : Code := ((Try.f36).body).getD .skip
noncomputable def q36 (R : AV → Mem → Prop) : AExit → St → Prop := retQ Try.prog Try.f36 R
noncomputable def F36 (a0_0 : Int) (a0_1 : Int) (R : AV → Mem → Prop) : Prop :=
bif (decide (a0_0 < (0))) then (
retL R ((0, some ⟨[(intA a0_0), (intA a0_1)], 24⟩) :: []) [some (intA (4))]) else (
bif (decide (a0_0 > (1000000))) then (
retL R ((0, some ⟨[(intA a0_0), (intA a0_1)], 24⟩) :: []) [some (intA (4))]) else (
bif (decide (a0_1 < (0))) then (
retL R ((0, some ⟨[(intA a0_0), (intA a0_1)], 24⟩) :: []) [some (intA (4))]) else (
bif (decide (a0_1 > (60000))) then (
retL R ((0, some ⟨[(intA a0_0), (intA a0_1)], 24⟩) :: []) [some (intA (4))]) else (
retL R ((0, some ⟨[(intA a0_0), (intA a0_1)], 24⟩) :: []) [some (intA (0))]))))
theorem F36_own (a0_0 : Int) (a0_1 : Int) (R : AV → Mem → Prop) (h : F36 a0_0 a0_1 R) : Own Try.prog KK.gl 36 [(AV.agg [(intA a0_0), (intA a0_1)])] R := own_of_F fol Try.func36 (code := c36) (by kernel_rfl) (by kernel_rfl) (by kernel_rfl) (X := F36 a0_0 a0_1 R) (by kernel_rfl) h
/- skyway/plane.Check -/
noncomputable def c45 : Code := ((Try.f45).body).getD .skip
noncomputable def q45 (R : AV → Mem → Prop) : AExit → St → Prop := retQ Try.prog Try.f45 R
noncomputable def F45 (a0_0 : Int) (a0_1 : Int) (R : AV → Mem → Prop) : Prop :=
bif (decide (a0_0 < (-1000000))) then (
retL R ((0, some ⟨[(intA a0_0), (intA a0_1)], 74⟩) :: []) [some (intA (4))]) else (
bif (decide (a0_0 > (1000000))) then (
retL R ((0, some ⟨[(intA a0_0), (intA a0_1)], 74⟩) :: []) [some (intA (4))]) else (
bif (decide (a0_1 < (-1000000))) then (
retL R ((0, some ⟨[(intA a0_0), (intA a0_1)], 74⟩) :: []) [some (intA (4))]) else (
bif (decide (a0_1 > (1000000))) then (
retL R ((0, some ⟨[(intA a0_0), (intA a0_1)], 74⟩) :: []) [some (intA (4))]) else (
retL R ((0, some ⟨[(intA a0_0), (intA a0_1)], 74⟩) :: []) [some (intA (0))]))))
theorem F45_own (a0_0 : Int) (a0_1 : Int) (R : AV → Mem → Prop) (h : F45 a0_0 a0_1 R) : Own Try.prog KK.gl 45 [(AV.agg [(intA a0_0), (intA a0_1)])] R := own_of_F fol Try.func45 (code := c45) (by kernel_rfl) (by kernel_rfl) (by kernel_rfl) (X := F45 a0_0 a0_1 R) (by kernel_rfl) h
/- skyway/tube.Check -/
noncomputable def c33 : Code := ((Try.f33).body).getD .skip
noncomputable def q33 (R : AV → Mem → Prop) : AExit → St → Prop := retQ Try.prog Try.f33 R
noncomputable def c33_0 : Code := loopB c33 0
noncomputable def q33_0 (R : AV → Mem → Prop) : AExit → St → Prop := contW Try.prog KK 86 0 c33 0 (q33 R)
noncomputable def qq33_0 (R : AV → Mem → Prop) (N0 : St → Prop) : AExit → St → Prop := thenQ N0 (q33_0 R)
def h33_0 (t0 : AV) (t2 : Int) (t14 : AV) (t15 : Int) (t16 : Int) (m : Mem) : St := ⟨[(0, t0), (2, (intA t2)), (14, t14), (15, (intA t15)), (16, (intA t16))], m, 100000⟩
noncomputable def B33_0 (t0 : AV) (t2 : Int) (t14 : AV) (t15 : Int) (t16 : Int) (m : Mem) (R : AV → Mem → Prop) (N0 : St → Prop) : Prop :=
bif (decide (t16 < t15)) then (
opP (idxS 6 t14 (intA t16)) fun v6 =>
opP (ldA (mget m) 6 v6) fun v7 =>
exA6 v7 fun c8 c9 c10 c11 c12 c13 =>
ex_i64 c8 fun z14 =>
ex_i64 c9 fun z15 =>
ex_i64 c10 fun z16 =>
ex_i64 c11 fun z17 =>
ex_i64 c12 fun z18 =>
ex_i64 c13 fun z19 =>
bif (decide (z14 < (0))) then (
retL R ((100004, some ⟨[(intA z14), (intA z15), (intA z16), (intA z17), (intA z18), (intA z19)], 78⟩) :: (100004, some ⟨[(intA (0)), (intA (0)), (intA (0)), (intA (0)), (intA (0)), (intA (0))], 78⟩) :: m) [some (intA (12))]) else (
bif (decide (z14 > (200000))) then (
retL R ((100004, some ⟨[(intA z14), (intA z15), (intA z16), (intA z17), (intA z18), (intA z19)], 78⟩) :: (100004, some ⟨[(intA (0)), (intA (0)), (intA (0)), (intA (0)), (intA (0)), (intA (0))], 78⟩) :: m) [some (intA (12))]) else (
bif (decide (t16 > (0))) then (
opP (idxS 6 t0 (intA (IntKind.wrap .i64 (t16 - (1))))) fun v20 =>
opP (fldO 0 v20) fun v21 =>
opP (fldO 0 v21) fun v22 =>
opP (ldS (mget ((100004, some ⟨[(intA z14), (intA z15), (intA z16), (intA z17), (intA z18), (intA z19)], 78⟩) :: (100004, some ⟨[(intA (0)), (intA (0)), (intA (0)), (intA (0)), (intA (0)), (intA (0))], 78⟩) :: m)) v22) fun v23 =>
ex_i64 v23 fun z24 =>
bif (decide (z14 ≤ z24)) then (
retL R ((100004, some ⟨[(intA z14), (intA z15), (intA z16), (intA z17), (intA z18), (intA z19)], 78⟩) :: (100004, some ⟨[(intA (0)), (intA (0)), (intA (0)), (intA (0)), (intA (0)), (intA (0))], 78⟩) :: m) [some (intA (12))]) else (
callQ Try.prog KK.gl ((100004, some ⟨[(intA z14), (intA z15), (intA z16), (intA z17), (intA z18), (intA z19)], 78⟩) :: (100004, some ⟨[(intA (0)), (intA (0)), (intA (0)), (intA (0)), (intA (0)), (intA (0))], 78⟩) :: m) 45 [(AV.agg [(intA z15), (intA z16)])] fun v25 =>
ex_i64 v25 fun z26 =>
bif (z26 != (0)) then (
retL R ((100004, some ⟨[(intA z14), (intA z15), (intA z16), (intA z17), (intA z18), (intA z19)], 78⟩) :: (100004, some ⟨[(intA (0)), (intA (0)), (intA (0)), (intA (0)), (intA (0)), (intA (0))], 78⟩) :: m) [some (intA z26)]) else (
bif (decide (z17 < (0))) then (
retL R ((100004, some ⟨[(intA z14), (intA z15), (intA z16), (intA z17), (intA z18), (intA z19)], 78⟩) :: (100004, some ⟨[(intA (0)), (intA (0)), (intA (0)), (intA (0)), (intA (0)), (intA (0))], 78⟩) :: m) [some (intA (4))]) else (
bif (decide (z17 > (60000))) then (
retL R ((100004, some ⟨[(intA z14), (intA z15), (intA z16), (intA z17), (intA z18), (intA z19)], 78⟩) :: (100004, some ⟨[(intA (0)), (intA (0)), (intA (0)), (intA (0)), (intA (0)), (intA (0))], 78⟩) :: m) [some (intA (4))]) else (
bif (decide (z18 < (0))) then (
retL R ((100004, some ⟨[(intA z14), (intA z15), (intA z16), (intA z17), (intA z18), (intA z19)], 78⟩) :: (100004, some ⟨[(intA (0)), (intA (0)), (intA (0)), (intA (0)), (intA (0)), (intA (0))], 78⟩) :: m) [some (intA (4))]) else (
bif (decide (z18 > (1000000))) then (
retL R ((100004, some ⟨[(intA z14), (intA z15), (intA z16), (intA z17), (intA z18), (intA z19)], 78⟩) :: (100004, some ⟨[(intA (0)), (intA (0)), (intA (0)), (intA (0)), (intA (0)), (intA (0))], 78⟩) :: m) [some (intA (4))]) else (
bif (decide (z19 < (0))) then (
retL R ((100004, some ⟨[(intA z14), (intA z15), (intA z16), (intA z17), (intA z18), (intA z19)], 78⟩) :: (100004, some ⟨[(intA (0)), (intA (0)), (intA (0)), (intA (0)), (intA (0)), (intA (0))], 78⟩) :: m) [some (intA (4))]) else (
bif (decide (z19 > (60000))) then (
retL R ((100004, some ⟨[(intA z14), (intA z15), (intA z16), (intA z17), (intA z18), (intA z19)], 78⟩) :: (100004, some ⟨[(intA (0)), (intA (0)), (intA (0)), (intA (0)), (intA (0)), (intA (0))], 78⟩) :: m) [some (intA (4))]) else (
N0 ⟨[(0, t0), (2, (intA t2)), (14, t14), (15, (intA t15)), (16, (intA (IntKind.wrap .i64 (t16 + (1))))), (17, (boolA (decide (t16 < t15)))), (18, (intA t16)), (19, v6), (20, (AV.agg [(intA z14), (intA z15), (intA z16), (intA z17), (intA z18), (intA z19)])), (4, (AV.ptr 100004 0)), (3, (intA t16)), (21, (AV.ptr 100004 0)), (22, (AV.ptr 100004 0)), (23, (intA z14)), (24, (boolA (decide (z14 < (0))))), (25, (boolA false)), (26, (AV.ptr 100004 0)), (27, (AV.ptr 100004 0)), (28, (intA z14)), (29, (boolA (decide (z14 > (200000))))), (30, (boolA (decide (z14 > (200000))))), (31, (boolA false)), (32, (intA t16)), (33, (boolA (decide (t16 > (0))))), (34, (boolA true)), (35, (AV.ptr 100004 0)), (36, (AV.ptr 100004 0)), (37, (intA z14)), (38, t0), (39, (intA t16)), (40, (intA (IntKind.wrap .i64 (t16 - (1))))), (41, v20), (42, v21), (43, v22), (44, (intA z24)), (45, (boolA (decide (z14 ≤ z24)))), (46, (boolA (decide (z14 ≤ z24)))), (47, (boolA (decide (z14 ≤ z24)))), (48, (AV.ptr 100004 0)), (49, (AV.ptr 100004 1)), (50, (AV.agg [(intA z15), (intA z16)])), (51, (intA z26)), (5, (intA z26)), (52, (intA z26)), (53, (boolA (z26 != (0)))), (55, (AV.ptr 100004 0)), (56, (AV.ptr 100004 3)), (57, (intA z17)), (58, (boolA (decide (z17 < (0))))), (59, (boolA false)), (60, (AV.ptr 100004 0)), (61, (AV.ptr 100004 3)), (62, (intA z17)), (63, (boolA (decide (z17 > (60000))))), (64, (boolA (decide (z17 > (60000))))), (65, (boolA false)), (66, (AV.ptr 100004 4)), (67, (intA z18)), (68, (boolA (decide (z18 < (0))))), (69, (boolA (decide (z18 < (0))))), (70, (boolA false)), (71, (AV.ptr 100004 4)), (72, (intA z18)), (73, (boolA (decide (z18 > (1000000))))), (74, (boolA (decide (z18 > (1000000))))), (75, (boolA false)), (76, (AV.ptr 100004 5)), (77, (intA z19)), (78, (boolA (decide (z19 < (0))))), (79, (boolA (decide (z19 < (0))))), (80, (boolA false)), (81, (AV.ptr 100004 5)), (82, (intA z19)), (83, (boolA (decide (z19 > (60000))))), (84, (boolA (decide (z19 > (60000))))), (85, (intA (IntKind.wrap .i64 (t16 + (1)))))], ((100004, some ⟨[(intA z14), (intA z15), (intA z16), (intA z17), (intA z18), (intA z19)], 78⟩) :: (100004, some ⟨[(intA (0)), (intA (0)), (intA (0)), (intA (0)), (intA (0)), (intA (0))], 78⟩) :: m), 100136⟩))))))))) else (
callQ Try.prog KK.gl ((100004, some ⟨[(intA z14), (intA z15), (intA z16), (intA z17), (intA z18), (intA z19)], 78⟩) :: (100004, some ⟨[(intA (0)), (intA (0)), (intA (0)), (intA (0)), (intA (0)), (intA (0))], 78⟩) :: m) 45 [(AV.agg [(intA z15), (intA z16)])] fun v27 =>
ex_i64 v27 fun z28 =>
bif (z28 != (0)) then (
retL R ((100004, some ⟨[(intA z14), (intA z15), (intA z16), (intA z17), (intA z18), (intA z19)], 78⟩) :: (100004, some ⟨[(intA (0)), (intA (0)), (intA (0)), (intA (0)), (intA (0)), (intA (0))], 78⟩) :: m) [some (intA z28)]) else (
bif (decide (z17 < (0))) then (
retL R ((100004, some ⟨[(intA z14), (intA z15), (intA z16), (intA z17), (intA z18), (intA z19)], 78⟩) :: (100004, some ⟨[(intA (0)), (intA (0)), (intA (0)), (intA (0)), (intA (0)), (intA (0))], 78⟩) :: m) [some (intA (4))]) else (
bif (decide (z17 > (60000))) then (
retL R ((100004, some ⟨[(intA z14), (intA z15), (intA z16), (intA z17), (intA z18), (intA z19)], 78⟩) :: (100004, some ⟨[(intA (0)), (intA (0)), (intA (0)), (intA (0)), (intA (0)), (intA (0))], 78⟩) :: m) [some (intA (4))]) else (
bif (decide (z18 < (0))) then (
retL R ((100004, some ⟨[(intA z14), (intA z15), (intA z16), (intA z17), (intA z18), (intA z19)], 78⟩) :: (100004, some ⟨[(intA (0)), (intA (0)), (intA (0)), (intA (0)), (intA (0)), (intA (0))], 78⟩) :: m) [some (intA (4))]) else (
bif (decide (z18 > (1000000))) then (
retL R ((100004, some ⟨[(intA z14), (intA z15), (intA z16), (intA z17), (intA z18), (intA z19)], 78⟩) :: (100004, some ⟨[(intA (0)), (intA (0)), (intA (0)), (intA (0)), (intA (0)), (intA (0))], 78⟩) :: m) [some (intA (4))]) else (
bif (decide (z19 < (0))) then (
retL R ((100004, some ⟨[(intA z14), (intA z15), (intA z16), (intA z17), (intA z18), (intA z19)], 78⟩) :: (100004, some ⟨[(intA (0)), (intA (0)), (intA (0)), (intA (0)), (intA (0)), (intA (0))], 78⟩) :: m) [some (intA (4))]) else (
bif (decide (z19 > (60000))) then (
retL R ((100004, some ⟨[(intA z14), (intA z15), (intA z16), (intA z17), (intA z18), (intA z19)], 78⟩) :: (100004, some ⟨[(intA (0)), (intA (0)), (intA (0)), (intA (0)), (intA (0)), (intA (0))], 78⟩) :: m) [some (intA (4))]) else (
N0 ⟨[(0, t0), (2, (intA t2)), (14, t14), (15, (intA t15)), (16, (intA (IntKind.wrap .i64 (t16 + (1))))), (17, (boolA (decide (t16 < t15)))), (18, (intA t16)), (19, v6), (20, (AV.agg [(intA z14), (intA z15), (intA z16), (intA z17), (intA z18), (intA z19)])), (4, (AV.ptr 100004 0)), (3, (intA t16)), (21, (AV.ptr 100004 0)), (22, (AV.ptr 100004 0)), (23, (intA z14)), (24, (boolA (decide (z14 < (0))))), (25, (boolA false)), (26, (AV.ptr 100004 0)), (27, (AV.ptr 100004 0)), (28, (intA z14)), (29, (boolA (decide (z14 > (200000))))), (30, (boolA (decide (z14 > (200000))))), (31, (boolA false)), (32, (intA t16)), (33, (boolA (decide (t16 > (0))))), (34, (boolA false)), (35, (AV.tup [])), (36, (AV.tup [])), (37, (AV.tup [])), (38, (AV.tup [])), (39, (AV.tup [])), (40, (AV.tup [])), (41, (AV.tup [])), (42, (AV.tup [])), (43, (AV.tup [])), (44, (AV.tup [])), (45, (AV.tup [])), (46, (boolA false)), (47, (boolA false)), (48, (AV.ptr 100004 0)), (49, (AV.ptr 100004 1)), (50, (AV.agg [(intA z15), (intA z16)])), (51, (intA z28)), (5, (intA z28)), (52, (intA z28)), (53, (boolA (z28 != (0)))), (55, (AV.ptr 100004 0)), (56, (AV.ptr 100004 3)), (57, (intA z17)), (58, (boolA (decide (z17 < (0))))), (59, (boolA false)), (60, (AV.ptr 100004 0)), (61, (AV.ptr 100004 3)), (62, (intA z17)), (63, (boolA (decide (z17 > (60000))))), (64, (boolA (decide (z17 > (60000))))), (65, (boolA false)), (66, (AV.ptr 100004 4)), (67, (intA z18)), (68, (boolA (decide (z18 < (0))))), (69, (boolA (decide (z18 < (0))))), (70, (boolA false)), (71, (AV.ptr 100004 4)), (72, (intA z18)), (73, (boolA (decide (z18 > (1000000))))), (74, (boolA (decide (z18 > (1000000))))), (75, (boolA false)), (76, (AV.ptr 100004 5)), (77, (intA z19)), (78, (boolA (decide (z19 < (0))))), (79, (boolA (decide (z19 < (0))))), (80, (boolA false)), (81, (AV.ptr 100004 5)), (82, (intA z19)), (83, (boolA (decide (z19 > (60000))))), (84, (boolA (decide (z19 > (60000))))), (85, (intA (IntKind.wrap .i64 (t16 + (1)))))], ((100004, some ⟨[(intA z14), (intA z15), (intA z16), (intA z17), (intA z18), (intA z19)], 78⟩) :: (100004, some ⟨[(intA (0)), (intA (0)), (intA (0)), (intA (0)), (intA (0)), (intA (0))], 78⟩) :: m), 100136⟩))))))))))) else (
retL R m [some (intA (0))])
theorem B33_0_eq (t0 : AV) (t2 : Int) (t14 : AV) (t15 : Int) (t16 : Int) (m : Mem) (R : AV → Mem → Prop) (N0 : St → Prop) : W Try.prog KK 86 0 c33_0 (h33_0 t0 t2 t14 t15 t16 m) (qq33_0 R N0) = B33_0 t0 t2 t14 t15 t16 m R N0 := by kernel_rfl
theorem L33_0 (R : AV → Mem → Prop) {σ : Type} (I : σ → Prop) (t0 : σ → AV) (t2 : σ → Int) (t14 : σ → AV) (t15 : σ → Int) (t16 : σ → Int) (m : σ → Mem) (μ : σ → Nat) (step : ∀ x, I x → B33_0 (t0 x) (t2 x) (t14 x) (t15 x) (t16 x) (m x) R (fun s' => ∃ y, I y ∧ μ y < μ x ∧ Weak KK 86 0 s' (h33_0 (t0 y) (t2 y) (t14 y) (t15 y) (t16 y) (m y)))) (x : σ) (hx : I x) {s : St} (hw : Weak KK 86 0 s (h33_0 (t0 x) (t2 x) (t14 x) (t15 x) (t16 x) (m x))) : Tri Try.prog KK 86 0 (.loop c33_0) s (q33_0 R) :=
  Tri.weak hw (Tri.loops fol I (fun x => h33_0 (t0 x) (t2 x) (t14 x) (t15 x) (t16 x) (m x)) μ (fun x hx => (B33_0_eq (t0 x) (t2 x) (t14 x) (t15 x) (t16 x) (m x) R _).mpr (step x hx)) x hx)
noncomputable def F33 (a0 : AV) (R : AV → Mem → Prop) : Prop :=
opP (lenS a0) fun v0 =>
ex_i64 v0 fun z1 =>
bif (decide (z1 > (64))) then (
retL R [] [some (intA (2))]) else (
opP (lenS a0) fun v2 =>
ex_i64 v2 fun z3 =>
bif (z3 == (0)) then (
retL R [] [some (intA (3))]) else (
opP (lenS a0) fun v4 =>
ex_i64 v4 fun z5 =>
Tri Try.prog KK 86 0 (.loop c33_0) ⟨[(0, a0), (2, (intA (0))), (7, a0), (8, (intA z1)), (9, (boolA (decide (z1 > (64))))), (6, (boolA (decide (z1 > (64))))), (11, a0), (12, (intA z3)), (13, (boolA (z3 == (0)))), (10, (boolA (z3 == (0)))), (14, a0), (15, (intA z5)), (16, (intA (0)))], [], 12⟩ (q33_0 R)))
theorem F33_own (a0 : AV) (R : AV → Mem → Prop) (h : F33 a0 R) : Own Try.prog KK.gl 33 [a0] R := own_of_F fol Try.func33 (code := c33) (by kernel_rfl) (by kernel_rfl) (by kernel_rfl) (X := F33 a0 R) (by kernel_rfl) h
/- skyway/joint.Check -/
noncomputable def c23 : Code := ((Try.f23).body).getD .skip
noncomputable def q23 (R : AV → Mem → Prop) : AExit → St → Prop := retQ Try.prog Try.f23 R
noncomputable def c23_0 : Code := loopB c23 0
noncomputable def q23_0 (R : AV → Mem → Prop) : AExit → St → Prop := contW Try.prog KK 54 0 c23 0 (q23 R)
noncomputable def qq23_0 (R : AV → Mem → Prop) (N0 : St → Prop) : AExit → St → Prop := thenQ N0 (q23_0 R)
def h23_0 (t2 : Int) (t3 : Int) (t12 : AV) (t13 : Int) (t14 : Int) (m : Mem) : St := ⟨[(2, (intA t2)), (3, (intA t3)), (12, t12), (13, (intA t13)), (14, (intA t14))], m, 100000⟩
noncomputable def c23_0_0 : Code := loopB c23_0 0
noncomputable def q23_0_0 (R : AV → Mem → Prop) (N0 : St → Prop) : AExit → St → Prop := contW Try.prog KK 54 0 c23_0 0 (qq23_0 R N0)
noncomputable def qq23_0_0 (R : AV → Mem → Prop) (N0 : St → Prop) (N1 : St → Prop) : AExit → St → Prop := thenQ N1 (q23_0_0 R N0)
def h23_0_0 (t2 : Int) (t3 : Int) (t12 : AV) (t13 : Int) (t14 : Int) (t32 : AV) (t33 : Int) (t34 : Int) (m : Mem) : St := ⟨[(2, (intA t2)), (3, (intA t3)), (12, t12), (13, (intA t13)), (14, (intA t14)), (32, t32), (33, (intA t33)), (34, (intA t34))], m, 200000⟩
noncomputable def B23_0 (t2 : Int) (t3 : Int) (t12 : AV) (t13 : Int) (t14 : Int) (m : Mem) (R : AV → Mem → Prop) (N0 : St → Prop) : Prop :=
bif (decide (t14 < t13)) then (
opP (idxS 1 t12 (intA t14)) fun v4 =>
opP (ldS (mget m) v4) fun v5 =>
opP (lenS v5) fun v6 =>
ex_i64 v6 fun z7 =>
bif (z7 == (0)) then (
retL R m [some (intA (8))]) else (
opP (lenS v5) fun v8 =>
ex_i64 v8 fun z9 =>
bif (decide (z9 > (8))) then (
retL R m [some (intA (2))]) else (
opP (lenS v5) fun v10 =>
ex_i64 v10 fun z11 =>
bif (decide ((IntKind.wrap .i64 (t3 * z11)) > (5000))) then (
retL R m [some (intA (2))]) else (
opP (lenS v5) fun v12 =>
ex_i64 v12 fun z13 =>
Tri Try.prog KK 54 0 (.loop c23_0_0) ⟨[(2, (intA t2)), (3, (intA (IntKind.wrap .i64 (t3 * z11)))), (12, t12), (13, (intA t13)), (14, (intA t14)), (15, (boolA (decide (t14 < t13)))), (16, v4), (17, v5), (5, v5), (19, v5), (20, (intA z7)), (21, (boolA (z7 == (0)))), (18, (boolA (z7 == (0)))), (23, v5), (24, (intA z9)), (25, (boolA (decide (z9 > (8))))), (22, (boolA (decide (z9 > (8))))), (26, (intA t3)), (27, v5), (28, (intA z11)), (29, (intA (IntKind.wrap .i64 (t3 * z11)))), (30, (intA (IntKind.wrap .i64 (t3 * z11)))), (31, (boolA (decide ((IntKind.wrap .i64 (t3 * z11)) > (5000))))), (32, v5), (33, (intA z13)), (34, (intA (0)))], m, 100022⟩ (q23_0_0 R N0))))) else (
retL R m [some (intA (0))])
theorem B23_0_eq (t2 : Int) (t3 : Int) (t12 : AV) (t13 : Int) (t14 : Int) (m : Mem) (R : AV → Mem → Prop) (N0 : St → Prop) : W Try.prog KK 54 0 c23_0 (h23_0 t2 t3 t12 t13 t14 m) (qq23_0 R N0) = B23_0 t2 t3 t12 t13 t14 m R N0 := by kernel_rfl
theorem L23_0 (R : AV → Mem → Prop) {σ : Type} (I : σ → Prop) (t2 : σ → Int) (t3 : σ → Int) (t12 : σ → AV) (t13 : σ → Int) (t14 : σ → Int) (m : σ → Mem) (μ : σ → Nat) (step : ∀ x, I x → B23_0 (t2 x) (t3 x) (t12 x) (t13 x) (t14 x) (m x) R (fun s' => ∃ y, I y ∧ μ y < μ x ∧ Weak KK 54 0 s' (h23_0 (t2 y) (t3 y) (t12 y) (t13 y) (t14 y) (m y)))) (x : σ) (hx : I x) {s : St} (hw : Weak KK 54 0 s (h23_0 (t2 x) (t3 x) (t12 x) (t13 x) (t14 x) (m x))) : Tri Try.prog KK 54 0 (.loop c23_0) s (q23_0 R) :=
  Tri.weak hw (Tri.loops fol I (fun x => h23_0 (t2 x) (t3 x) (t12 x) (t13 x) (t14 x) (m x)) μ (fun x hx => (B23_0_eq (t2 x) (t3 x) (t12 x) (t13 x) (t14 x) (m x) R _).mpr (step x hx)) x hx)
noncomputable def B23_0_0 (t2 : Int) (t3 : Int) (t12 : AV) (t13 : Int) (t14 : Int) (t32 : AV) (t33 : Int) (t34 : Int) (m : Mem) (R : AV → Mem → Prop) (N0 : St → Prop) (N1 : St → Prop) : Prop :=
bif (decide (t34 < t33)) then (
opP (idxS 2 t32 (intA t34)) fun v14 =>
opP (ldA (mget m) 2 v14) fun v15 =>
exA2 v15 fun c16 c17 =>
ex_i64 c16 fun z18 =>
chk (isCell c17) <| bif (decide (z18 < (0))) then (
retL R ((200003, some ⟨[(intA z18), c17], 39⟩) :: (200003, some ⟨[(intA (0)), AV.nils], 39⟩) :: m) [some (intA (4))]) else (
bif (decide (z18 > (1000000))) then (
retL R ((200003, some ⟨[(intA z18), c17], 39⟩) :: (200003, some ⟨[(intA (0)), AV.nils], 39⟩) :: m) [some (intA (4))]) else (
callQ Try.prog KK.gl ((200003, some ⟨[(intA z18), c17], 39⟩) :: (200003, some ⟨[(intA (0)), AV.nils], 39⟩) :: m) 33 [c17] fun v19 =>
ex_i64 v19 fun z20 =>
bif (z20 != (0)) then (
retL R ((200003, some ⟨[(intA z18), c17], 39⟩) :: (200003, some ⟨[(intA (0)), AV.nils], 39⟩) :: m) [some (intA z20)]) else (
N1 ⟨[(2, (intA t2)), (3, (intA t3)), (12, t12), (13, (intA t13)), (14, (intA t14)), (32, t32), (33, (intA t33)), (34, (intA (IntKind.wrap .i64 (t34 + (1))))), (35, (boolA (decide (t34 < t33)))), (36, v14), (37, (AV.agg [(intA z18), c17])), (7, (AV.ptr 200003 0)), (38, (AV.ptr 200003 0)), (39, (intA z18)), (40, (boolA (decide (z18 < (0))))), (41, (boolA false)), (42, (AV.ptr 200003 0)), (43, (intA z18)), (44, (boolA (decide (z18 > (1000000))))), (45, (boolA (decide (z18 > (1000000))))), (46, (AV.ptr 200003 1)), (47, c17), (48, (intA z20)), (8, (intA z20)), (49, (intA z20)), (50, (boolA (z20 != (0)))), (52, (intA (IntKind.wrap .i64 (t34 + (1)))))], ((200003, some ⟨[(intA z18), c17], 39⟩) :: (200003, some ⟨[(intA (0)), AV.nils], 39⟩) :: m), 200084⟩)))) else (
N0 ⟨[(2, (intA t2)), (3, (intA t3)), (12, t12), (13, (intA t13)), (14, (intA (IntKind.wrap .i64 (t14 + (1))))), (32, t32), (33, (intA t33)), (34, (intA t34)), (35, (boolA (decide (t34 < t33)))), (53, (intA (IntKind.wrap .i64 (t14 + (1)))))], m, 200003⟩)
theorem B23_0_0_eq (t2 : Int) (t3 : Int) (t12 : AV) (t13 : Int) (t14 : Int) (t32 : AV) (t33 : Int) (t34 : Int) (m : Mem) (R : AV → Mem → Prop) (N0 : St → Prop) (N1 : St → Prop) : W Try.prog KK 54 0 c23_0_0 (h23_0_0 t2 t3 t12 t13 t14 t32 t33 t34 m) (qq23_0_0 R N0 N1) = B23_0_0 t2 t3 t12 t13 t14 t32 t33 t34 m R N0 N1 := by kernel_rfl
theorem L23_0_0 (R : AV → Mem → Prop) (N0 : St → Prop) {σ : Type} (I : σ → Prop) (t2 : σ → Int) (t3 : σ → Int) (t12 : σ → AV) (t13 : σ → Int) (t14 : σ → Int) (t32 : σ → AV) (t33 : σ → Int) (t34 : σ → Int) (m : σ → Mem) (μ : σ → Nat) (step : ∀ x, I x → B23_0_0 (t2 x) (t3 x) (t12 x) (t13 x) (t14 x) (t32 x) (t33 x) (t34 x) (m x) R N0 (fun s' => ∃ y, I y ∧ μ y < μ x ∧ Weak KK 54 0 s' (h23_0_0 (t2 y) (t3 y) (t12 y) (t13 y) (t14 y) (t32 y) (t33 y) (t34 y) (m y)))) (x : σ) (hx : I x) {s : St} (hw : Weak KK 54 0 s (h23_0_0 (t2 x) (t3 x) (t12 x) (t13 x) (t14 x) (t32 x) (t33 x) (t34 x) (m x))) : Tri Try.prog KK 54 0 (.loop c23_0_0) s (q23_0_0 R N0) :=
  Tri.weak hw (Tri.loops fol I (fun x => h23_0_0 (t2 x) (t3 x) (t12 x) (t13 x) (t14 x) (t32 x) (t33 x) (t34 x) (m x)) μ (fun x hx => (B23_0_0_eq (t2 x) (t3 x) (t12 x) (t13 x) (t14 x) (t32 x) (t33 x) (t34 x) (m x) R N0 _).mpr (step x hx)) x hx)
noncomputable def F23 (a0 : AV) (R : AV → Mem → Prop) : Prop :=
opP (lenS a0) fun v0 =>
ex_i64 v0 fun z1 =>
bif (decide (z1 > (6))) then (
retL R [] [some (intA (2))]) else (
opP (lenS a0) fun v2 =>
ex_i64 v2 fun z3 =>
Tri Try.prog KK 54 0 (.loop c23_0) ⟨[(0, a0), (2, (intA (0))), (9, a0), (10, (intA z1)), (11, (boolA (decide (z1 > (6))))), (3, (intA (1))), (12, a0), (13, (intA z3)), (14, (intA (0)))], [], 8⟩ (q23_0 R))
theorem F23_own (a0 : AV) (R : AV → Mem → Prop) (h : F23 a0 R) : Own Try.prog KK.gl 23 [a0] R := own_of_F fol Try.func23 (code := c23) (by kernel_rfl) (by kernel_rfl) (by kernel_rfl) (X := F23 a0 R) (by kernel_rfl) h
/- skyway/probe.check -/
noncomputable def c37 : Code := ((Try.f37).body).getD .skip
noncomputable def q37 (R : AV → Mem → Prop) : AExit → St → Prop := retQ Try.prog Try.f37 R
noncomputable def c37_0 : Code := loopB c37 0
noncomputable def q37_0 (R : AV → Mem → Prop) : AExit → St → Prop := contW Try.prog KK 26 0 c37 0 (q37 R)
noncomputable def qq37_0 (R : AV → Mem → Prop) (N0 : St → Prop) : AExit → St → Prop := thenQ N0 (q37_0 R)
def h37_0 (t4 : Int) (t14 : AV) (t15 : Int) (t16 : Int) (m : Mem) : St := ⟨[(4, (intA t4)), (14, t14), (15, (intA t15)), (16, (intA t16))], m, 100000⟩
noncomputable def B37_0 (t4 : Int) (t14 : AV) (t15 : Int) (t16 : Int) (m : Mem) (R : AV → Mem → Prop) (N0 : St → Prop) : Prop :=
bif (decide (t16 < t15)) then (
opP (idxS 1 t14 (intA t16)) fun v4 =>
opP (ldS (mget m) v4) fun v5 =>
callQ Try.prog KK.gl m 33 [v5] fun v6 =>
ex_i64 v6 fun z7 =>
bif (z7 != (0)) then (
retL R m [some (intA z7)]) else (
N0 ⟨[(4, (intA t4)), (14, t14), (15, (intA t15)), (16, (intA (IntKind.wrap .i64 (t16 + (1))))), (17, (boolA (decide (t16 < t15)))), (18, v4), (19, v5), (7, v5), (20, v5), (21, (intA z7)), (8, (intA z7)), (22, (intA z7)), (23, (boolA (z7 != (0)))), (25, (intA (IntKind.wrap .i64 (t16 + (1)))))], m, 100074⟩)) else (
retL R m [some (intA (0))])
theorem B37_0_eq (t4 : Int) (t14 : AV) (t15 : Int) (t16 : Int) (m : Mem) (R : AV → Mem → Prop) (N0 : St → Prop) : W Try.prog KK 26 0 c37_0 (h37_0 t4 t14 t15 t16 m) (qq37_0 R N0) = B37_0 t4 t14 t15 t16 m R N0 := by kernel_rfl
theorem L37_0 (R : AV → Mem → Prop) {σ : Type} (I : σ → Prop) (t4 : σ → Int) (t14 : σ → AV) (t15 : σ → Int) (t16 : σ → Int) (m : σ → Mem) (μ : σ → Nat) (step : ∀ x, I x → B37_0 (t4 x) (t14 x) (t15 x) (t16 x) (m x) R (fun s' => ∃ y, I y ∧ μ y < μ x ∧ Weak KK 26 0 s' (h37_0 (t4 y) (t14 y) (t15 y) (t16 y) (m y)))) (x : σ) (hx : I x) {s : St} (hw : Weak KK 26 0 s (h37_0 (t4 x) (t14 x) (t15 x) (t16 x) (m x))) : Tri Try.prog KK 26 0 (.loop c37_0) s (q37_0 R) :=
  Tri.weak hw (Tri.loops fol I (fun x => h37_0 (t4 x) (t14 x) (t15 x) (t16 x) (m x)) μ (fun x hx => (B37_0_eq (t4 x) (t14 x) (t15 x) (t16 x) (m x) R _).mpr (step x hx)) x hx)
noncomputable def F37 (a0_0 : Int) (a0_1 : Int) (a1 : AV) (R : AV → Mem → Prop) : Prop :=
callQ Try.prog KK.gl ((0, some ⟨[(intA a0_0), (intA a0_1)], 24⟩) :: []) 36 [(AV.agg [(intA a0_0), (intA a0_1)])] fun v0 =>
ex_i64 v0 fun z1 =>
bif (z1 != (0)) then (
retL R ((0, some ⟨[(intA a0_0), (intA a0_1)], 24⟩) :: []) [some (intA z1)]) else (
opP (lenS a1) fun v2 =>
ex_i64 v2 fun z3 =>
Tri Try.prog KK 26 0 (.loop c37_0) ⟨[(0, (AV.agg [(intA a0_0), (intA a0_1)])), (1, a1), (2, (AV.ptr 0 0)), (4, (intA (0))), (9, (AV.agg [(intA a0_0), (intA a0_1)])), (10, (intA z1)), (5, (intA z1)), (11, (intA z1)), (12, (boolA (z1 != (0)))), (14, a1), (15, (intA z3)), (16, (intA (0)))], ((0, some ⟨[(intA a0_0), (intA a0_1)], 24⟩) :: []), 73⟩ (q37_0 R))
theorem F37_own (a0_0 : Int) (a0_1 : Int) (a1 : AV) (R : AV → Mem → Prop) (h : F37 a0_0 a0_1 a1 R) : Own Try.prog KK.gl 37 [(AV.agg [(intA a0_0), (intA a0_1)]), a1] R := own_of_F fol Try.func37 (code := c37) (by kernel_rfl) (by kernel_rfl) (by kernel_rfl) (X := F37 a0_0 a0_1 a1 R) (by kernel_rfl) h
/- skyway/probe.common -/
noncomputable def c47 : Code := ((Try.f47).body).getD .skip
noncomputable def q47 (R : AV → Mem → Prop) : AExit → St → Prop := retQ Try.prog Try.f47 R
noncomputable def F47 (a0 : AV) (a1 : AV) (R : AV → Mem → Prop) : Prop :=
opP (idxS 6 a0 (intA (0))) fun v0 =>
opP (fldO 0 v0) fun v1 =>
opP (fldO 0 v1) fun v2 =>
opP (ldS (mget []) v2) fun v3 =>
ex_i64 v3 fun z4 =>
opP (idxS 6 a1 (intA (0))) fun v5 =>
opP (fldO 0 v5) fun v6 =>
opP (fldO 0 v6) fun v7 =>
opP (ldS (mget []) v7) fun v8 =>
ex_i64 v8 fun z9 =>
opP (opA Try.prog (.call ⟨.builtin .max, #[.tmp 0, .tmp 1], #[3, 3]⟩) 3 [(intA z4), (intA z9)] (mget []) 12) fun v10 =>
ex_i64 v10 fun z11 =>
opP (lenS a0) fun v12 =>
ex_i64 v12 fun z13 =>
opP (idxS 6 a0 (intA (IntKind.wrap .i64 (z13 - (1))))) fun v14 =>
opP (fldO 0 v14) fun v15 =>
opP (fldO 0 v15) fun v16 =>
opP (ldS (mget []) v16) fun v17 =>
ex_i64 v17 fun z18 =>
opP (lenS a1) fun v19 =>
ex_i64 v19 fun z20 =>
opP (idxS 6 a1 (intA (IntKind.wrap .i64 (z20 - (1))))) fun v21 =>
opP (fldO 0 v21) fun v22 =>
opP (fldO 0 v22) fun v23 =>
opP (ldS (mget []) v23) fun v24 =>
ex_i64 v24 fun z25 =>
opP (opA Try.prog (.call ⟨.builtin .min, #[.tmp 0, .tmp 1], #[3, 3]⟩) 3 [(intA z18), (intA z25)] (mget []) 29) fun v26 =>
ex_i64 v26 fun z27 =>
retL R [] [some (intA z11), some (intA z27)]
theorem F47_own (a0 : AV) (a1 : AV) (R : AV → Mem → Prop) (h : F47 a0 a1 R) : Own Try.prog KK.gl 47 [a0, a1] R := own_of_F fol Try.func47 (code := c47) (by kernel_rfl) (by kernel_rfl) (by kernel_rfl) (X := F47 a0 a1 R) (by kernel_rfl) h
/- skyway/tube.ends -/
noncomputable def c55 : Code := ((Try.f55).body).getD .skip
noncomputable def q55 (R : AV → Mem → Prop) : AExit → St → Prop := retQ Try.prog Try.f55 R
noncomputable def F55 (a0 : AV) (R : AV → Mem → Prop) : Prop :=
opP (idxS 6 a0 (intA (0))) fun v0 =>
opP (fldO 0 v0) fun v1 =>
opP (fldO 0 v1) fun v2 =>
opP (ldS (mget []) v2) fun v3 =>
ex_i64 v3 fun z4 =>
opP (lenS a0) fun v5 =>
ex_i64 v5 fun z6 =>
opP (idxS 6 a0 (intA (IntKind.wrap .i64 (z6 - (1))))) fun v7 =>
opP (fldO 0 v7) fun v8 =>
opP (fldO 0 v8) fun v9 =>
opP (ldS (mget []) v9) fun v10 =>
ex_i64 v10 fun z11 =>
retL R [] [some (intA z4), some (intA z11)]
theorem F55_own (a0 : AV) (R : AV → Mem → Prop) (h : F55 a0 R) : Own Try.prog KK.gl 55 [a0] R := own_of_F fol Try.func55 (code := c55) (by kernel_rfl) (by kernel_rfl) (by kernel_rfl) (X := F55 a0 R) (by kernel_rfl) h
/- skyway/tube.at$1 -/
noncomputable def c69 : Code := ((Try.f69).body).getD .skip
noncomputable def q69 (R : AV → Mem → Prop) : AExit → St → Prop := retQ Try.prog Try.f69 R
noncomputable def F69 (a0_0 : Int) (a0_1 : Int) (a0_2 : Int) (a0_3 : Int) (a0_4 : Int) (a0_5 : Int) (a1 : Int) (R : AV → Mem → Prop) : Prop :=
retL R ((0, some ⟨[(intA a0_0), (intA a0_1), (intA a0_2), (intA a0_3), (intA a0_4), (intA a0_5)], 78⟩) :: []) [some (intA (IntKind.wrap .i64 (a0_0 - a1)))]
theorem F69_own (a0_0 : Int) (a0_1 : Int) (a0_2 : Int) (a0_3 : Int) (a0_4 : Int) (a0_5 : Int) (a1 : Int) (R : AV → Mem → Prop) (h : F69 a0_0 a0_1 a0_2 a0_3 a0_4 a0_5 a1 R) : Own Try.prog KK.gl 69 [(AV.agg [(intA a0_0), (intA a0_1), (intA a0_2), (intA a0_3), (intA a0_4), (intA a0_5)]), (intA a1)] R := own_of_F fol Try.func69 (code := c69) (by kernel_rfl) (by kernel_rfl) (by kernel_rfl) (X := F69 a0_0 a0_1 a0_2 a0_3 a0_4 a0_5 a1 R) (by kernel_rfl) h
/- slices.BinarySearchFunc[skyway/api.Tube,skyway/api.TubeNode,int] -/
noncomputable def c68 : Code := ((Try.f68).body).getD .skip
noncomputable def q68 (R : AV → Mem → Prop) : AExit → St → Prop := retQ Try.prog Try.f68 R
noncomputable def c68_0 : Code := loopB c68 0
noncomputable def q68_0 (R : AV → Mem → Prop) : AExit → St → Prop := contW Try.prog KK 49 0 c68 0 (q68 R)
noncomputable def qq68_0 (R : AV → Mem → Prop) (N0 : St → Prop) : AExit → St → Prop := thenQ N0 (q68_0 R)
def h68_0 (t0 : AV) (t1 : Int) (t2 : AV) (t6 : Int) (t7 : Bool) (t8 : Int) (t9 : Int) (t10 : Int) (m : Mem) : St := ⟨[(0, t0), (1, (intA t1)), (2, t2), (6, (intA t6)), (7, (boolA t7)), (8, (intA t8)), (9, (intA t9)), (10, (intA t10))], m, 100000⟩
noncomputable def B68_0 (t0 : AV) (t1 : Int) (t2 : AV) (t6 : Int) (t7 : Bool) (t8 : Int) (t9 : Int) (t10 : Int) (m : Mem) (R : AV → Mem → Prop) (N0 : St → Prop) : Prop :=
bif (decide (t9 < t10)) then (
opP (opA Try.prog (.convert 3 79 (.tmp 0)) 79 [(intA (IntKind.wrap .i64 (t9 + t10)))] (mget m) 100006) fun v2 =>
ex_u64 v2 fun z3 =>
opP (opA Try.prog (.binOp .shr 79 (.tmp 0) (.tmp 1) 79) 79 [(AV.sc (.int .u64 z3)), (AV.sc (.int .u64 (1)))] (mget m) 100007) fun v4 =>
ex_u64 v4 fun z5 =>
opP (opA Try.prog (.convert 79 3 (.tmp 0)) 3 [(AV.sc (.int .u64 z5))] (mget m) 100008) fun v6 =>
ex_i64 v6 fun z7 =>
opP (idxS 6 t0 (intA z7)) fun v8 =>
opP (ldA (mget m) 6 v8) fun v9 =>
exA6 v9 fun c10 c11 c12 c13 c14 c15 =>
ex_i64 c10 fun z16 =>
ex_i64 c11 fun z17 =>
ex_i64 c12 fun z18 =>
ex_i64 c13 fun z19 =>
ex_i64 c14 fun z20 =>
ex_i64 c15 fun z21 =>
fnArgs (some t2) (some [(AV.agg [(intA z16), (intA z17), (intA z18), (intA z19), (intA z20), (intA z21)]), (intA t1)]) fun f22 a22 => bif KK.pm f22 then callQ Try.prog KK.gl m f22 a22 (fun v22 =>
ex_i64 v22 fun z23 =>
bif (decide (z23 < (0))) then (
N0 ⟨[(0, t0), (1, (intA t1)), (2, t2), (6, (intA t6)), (7, (boolA t7)), (8, (intA t8)), (9, (intA (IntKind.wrap .i64 (z7 + (1))))), (10, (intA t10)), (15, (intA t9)), (16, (intA t10)), (17, (boolA (decide (t9 < t10)))), (18, (intA t9)), (19, (intA t10)), (20, (intA (IntKind.wrap .i64 (t9 + t10)))), (21, (AV.sc (.int .u64 z3))), (22, (AV.sc (.int .u64 z5))), (23, (intA z7)), (11, (intA z7)), (24, t2), (25, t0), (26, (intA z7)), (27, v8), (28, (AV.agg [(intA z16), (intA z17), (intA z18), (intA z19), (intA z20), (intA z21)])), (29, (intA t1)), (30, (intA z23)), (31, (boolA (decide (z23 < (0))))), (32, (intA z7)), (33, (intA (IntKind.wrap .i64 (z7 + (1)))))], m, 100084⟩) else (
N0 ⟨[(0, t0), (1, (intA t1)), (2, t2), (6, (intA t6)), (7, (boolA t7)), (8, (intA t8)), (9, (intA t9)), (10, (intA z7)), (15, (intA t9)), (16, (intA t10)), (17, (boolA (decide (t9 < t10)))), (18, (intA t9)), (19, (intA t10)), (20, (intA (IntKind.wrap .i64 (t9 + t10)))), (21, (AV.sc (.int .u64 z3))), (22, (AV.sc (.int .u64 z5))), (23, (intA z7)), (11, (intA z7)), (24, t2), (25, t0), (26, (intA z7)), (27, v8), (28, (AV.agg [(intA z16), (intA z17), (intA z18), (intA z19), (intA z20), (intA z21)])), (29, (intA t1)), (30, (intA z23)), (31, (boolA (decide (z23 < (0))))), (34, (intA z7))], m, 100083⟩)) else callW Try.prog KK.gl m 100016 f22 a22 fun v22 m22 =>
ex_i64 v22 fun z23 =>
bif (decide (z23 < (0))) then (
N0 ⟨[(0, t0), (1, (intA t1)), (2, t2), (6, (intA t6)), (7, (boolA t7)), (8, (intA t8)), (9, (intA (IntKind.wrap .i64 (z7 + (1))))), (10, (intA t10)), (15, (intA t9)), (16, (intA t10)), (17, (boolA (decide (t9 < t10)))), (18, (intA t9)), (19, (intA t10)), (20, (intA (IntKind.wrap .i64 (t9 + t10)))), (21, (AV.sc (.int .u64 z3))), (22, (AV.sc (.int .u64 z5))), (23, (intA z7)), (11, (intA z7)), (24, t2), (25, t0), (26, (intA z7)), (27, v8), (28, (AV.agg [(intA z16), (intA z17), (intA z18), (intA z19), (intA z20), (intA z21)])), (29, (intA t1)), (30, (intA z23)), (31, (boolA (decide (z23 < (0))))), (32, (intA z7)), (33, (intA (IntKind.wrap .i64 (z7 + (1)))))], m22, 100084⟩) else (
N0 ⟨[(0, t0), (1, (intA t1)), (2, t2), (6, (intA t6)), (7, (boolA t7)), (8, (intA t8)), (9, (intA t9)), (10, (intA z7)), (15, (intA t9)), (16, (intA t10)), (17, (boolA (decide (t9 < t10)))), (18, (intA t9)), (19, (intA t10)), (20, (intA (IntKind.wrap .i64 (t9 + t10)))), (21, (AV.sc (.int .u64 z3))), (22, (AV.sc (.int .u64 z5))), (23, (intA z7)), (11, (intA z7)), (24, t2), (25, t0), (26, (intA z7)), (27, v8), (28, (AV.agg [(intA z16), (intA z17), (intA z18), (intA z19), (intA z20), (intA z21)])), (29, (intA t1)), (30, (intA z23)), (31, (boolA (decide (z23 < (0))))), (34, (intA z7))], m22, 100083⟩)) else (
bif (decide (t9 < t8)) then (
opP (idxS 6 t0 (intA t9)) fun v24 =>
opP (ldA (mget m) 6 v24) fun v25 =>
exA6 v25 fun c26 c27 c28 c29 c30 c31 =>
ex_i64 c26 fun z32 =>
ex_i64 c27 fun z33 =>
ex_i64 c28 fun z34 =>
ex_i64 c29 fun z35 =>
ex_i64 c30 fun z36 =>
ex_i64 c31 fun z37 =>
fnArgs (some t2) (some [(AV.agg [(intA z32), (intA z33), (intA z34), (intA z35), (intA z36), (intA z37)]), (intA t1)]) fun f38 a38 => bif KK.pm f38 then callQ Try.prog KK.gl m f38 a38 (fun v38 =>
ex_i64 v38 fun z39 =>
retL R m [some (intA t9), some (boolA (z39 == (0)))]) else callW Try.prog KK.gl m 100014 f38 a38 fun v38 m38 =>
ex_i64 v38 fun z39 =>
retL R m38 [some (intA t9), some (boolA (z39 == (0)))]) else (
retL R m [some (intA t9), some (boolA false)]))
theorem B68_0_eq (t0 : AV) (t1 : Int) (t2 : AV) (t6 : Int) (t7 : Bool) (t8 : Int) (t9 : Int) (t10 : Int) (m : Mem) (R : AV → Mem → Prop) (N0 : St → Prop) : W Try.prog KK 49 0 c68_0 (h68_0 t0 t1 t2 t6 t7 t8 t9 t10 m) (qq68_0 R N0) = B68_0 t0 t1 t2 t6 t7 t8 t9 t10 m R N0 := by kernel_rfl
theorem L68_0 (R : AV → Mem → Prop) {σ : Type} (I : σ → Prop) (t0 : σ → AV) (t1 : σ → Int) (t2 : σ → AV) (t6 : σ → Int) (t7 : σ → Bool) (t8 : σ → Int) (t9 : σ → Int) (t10 : σ → Int) (m : σ → Mem) (μ : σ → Nat) (step : ∀ x, I x → B68_0 (t0 x) (t1 x) (t2 x) (t6 x) (t7 x) (t8 x) (t9 x) (t10 x) (m x) R (fun s' => ∃ y, I y ∧ μ y < μ x ∧ Weak KK 49 0 s' (h68_0 (t0 y) (t1 y) (t2 y) (t6 y) (t7 y) (t8 y) (t9 y) (t10 y) (m y)))) (x : σ) (hx : I x) {s : St} (hw : Weak KK 49 0 s (h68_0 (t0 x) (t1 x) (t2 x) (t6 x) (t7 x) (t8 x) (t9 x) (t10 x) (m x))) : Tri Try.prog KK 49 0 (.loop c68_0) s (q68_0 R) :=
  Tri.weak hw (Tri.loops fol I (fun x => h68_0 (t0 x) (t1 x) (t2 x) (t6 x) (t7 x) (t8 x) (t9 x) (t10 x) (m x)) μ (fun x hx => (B68_0_eq (t0 x) (t1 x) (t2 x) (t6 x) (t7 x) (t8 x) (t9 x) (t10 x) (m x) R _).mpr (step x hx)) x hx)
noncomputable def F68 (a0 : AV) (a1 : Int) (a2 : AV) (R : AV → Mem → Prop) : Prop :=
opP (lenS a0) fun v0 =>
ex_i64 v0 fun z1 =>
Tri Try.prog KK 49 0 (.loop c68_0) ⟨[(0, a0), (1, (intA a1)), (2, a2), (6, (intA (0))), (7, (boolA false)), (12, a0), (13, (intA z1)), (8, (intA z1)), (14, (intA z1)), (9, (intA (0))), (10, (intA z1))], [], 8⟩ (q68_0 R)
theorem F68_own (a0 : AV) (a1 : Int) (a2 : AV) (R : AV → Mem → Prop) (h : F68 a0 a1 a2 R) : Own Try.prog KK.gl 68 [a0, (intA a1), a2] R := own_of_F fol Try.func68 (code := c68) (by kernel_rfl) (by kernel_rfl) (by kernel_rfl) (X := F68 a0 a1 a2 R) (by kernel_rfl) h
/- skyway/num.DivDown -/
noncomputable def c71 : Code := ((Try.f71).body).getD .skip
noncomputable def q71 (R : AV → Mem → Prop) : AExit → St → Prop := retQ Try.prog Try.f71 R
noncomputable def F71 (a0 : Int) (a1 : Int) (R : AV → Mem → Prop) : Prop :=
bif (a1 == (0)) then (
retL R [] [some (intA (0)), some (intA (10))]) else (
bif (a0 == (-9223372036854775808)) then (
bif (a1 == (-1)) then (
retL R [] [some (intA (0)), some (intA (2))]) else (
opP (opA Try.prog (.binOp .quo 3 (.tmp 0) (.tmp 1) 3) 3 [(intA a0), (intA a1)] (mget []) 14) fun v0 =>
ex_i64 v0 fun z1 =>
opP (opA Try.prog (.binOp .rem 3 (.tmp 0) (.tmp 1) 3) 3 [(intA a0), (intA a1)] (mget []) 18) fun v2 =>
ex_i64 v2 fun z3 =>
bif (z3 != (0)) then (
opP (opA Try.prog (.binOp .neq 4 (.tmp 0) (.tmp 1) 4) 4 [(boolA (decide (a0 < (0)))), (boolA (decide (a1 < (0))))] (mget []) 25) fun v4 =>
exB v4 fun b5 =>
bif b5 then (
retL R [] [some (intA (IntKind.wrap .i64 (z1 - (1)))), some (intA (0))]) else (
retL R [] [some (intA z1), some (intA (0))])) else (
retL R [] [some (intA z1), some (intA (0))]))) else (
opP (opA Try.prog (.binOp .quo 3 (.tmp 0) (.tmp 1) 3) 3 [(intA a0), (intA a1)] (mget []) 12) fun v6 =>
ex_i64 v6 fun z7 =>
opP (opA Try.prog (.binOp .rem 3 (.tmp 0) (.tmp 1) 3) 3 [(intA a0), (intA a1)] (mget []) 16) fun v8 =>
ex_i64 v8 fun z9 =>
bif (z9 != (0)) then (
opP (opA Try.prog (.binOp .neq 4 (.tmp 0) (.tmp 1) 4) 4 [(boolA (decide (a0 < (0)))), (boolA (decide (a1 < (0))))] (mget []) 23) fun v10 =>
exB v10 fun b11 =>
bif b11 then (
retL R [] [some (intA (IntKind.wrap .i64 (z7 - (1)))), some (intA (0))]) else (
retL R [] [some (intA z7), some (intA (0))])) else (
retL R [] [some (intA z7), some (intA (0))])))
theorem F71_own (a0 : Int) (a1 : Int) (R : AV → Mem → Prop) (h : F71 a0 a1 R) : Own Try.prog KK.gl 71 [(intA a0), (intA a1)] R := own_of_F fol Try.func71 (code := c71) (by kernel_rfl) (by kernel_rfl) (by kernel_rfl) (X := F71 a0 a1 R) (by kernel_rfl) h
/- skyway/plane.Toward -/
noncomputable def c70 : Code := ((Try.f70).body).getD .skip
noncomputable def q70 (R : AV → Mem → Prop) : AExit → St → Prop := retQ Try.prog Try.f70 R
noncomputable def F70 (a0_0 : Int) (a0_1 : Int) (a1_0 : Int) (a1_1 : Int) (a2 : Int) (a3 : Int) (R : AV → Mem → Prop) : Prop :=
bif (decide (a3 ≤ (0))) then (
opP (bld [(intA (0)), (intA (0))] [(0, 1), (1, 1)] []) fun v0 =>
storeW Try.prog (mget ((2, some ⟨[(intA (0)), (intA (0))], 74⟩) :: (1, some ⟨[(intA a1_0), (intA a1_1)], 74⟩) :: (0, some ⟨[(intA a0_0), (intA a0_1)], 74⟩) :: [])) 74 (AV.ptr 2 0) v0 fun v1 d1 =>
retL R (mpushs ((2, some ⟨[(intA (0)), (intA (0))], 74⟩) :: (1, some ⟨[(intA a1_0), (intA a1_1)], 74⟩) :: (0, some ⟨[(intA a0_0), (intA a0_1)], 74⟩) :: []) d1) [(aLoad Try.prog (mget (mpushs ((2, some ⟨[(intA (0)), (intA (0))], 74⟩) :: (1, some ⟨[(intA a1_0), (intA a1_1)], 74⟩) :: (0, some ⟨[(intA a0_0), (intA a0_1)], 74⟩) :: []) d1)) 74 (AV.ptr 2 0)).map (·.1), some (intA (10))]) else (
bif (decide (a3 > (200000))) then (
opP (bld [(intA (0)), (intA (0))] [(0, 1), (1, 1)] []) fun v2 =>
storeW Try.prog (mget ((2, some ⟨[(intA (0)), (intA (0))], 74⟩) :: (1, some ⟨[(intA a1_0), (intA a1_1)], 74⟩) :: (0, some ⟨[(intA a0_0), (intA a0_1)], 74⟩) :: [])) 74 (AV.ptr 2 0) v2 fun v3 d3 =>
retL R (mpushs ((2, some ⟨[(intA (0)), (intA (0))], 74⟩) :: (1, some ⟨[(intA a1_0), (intA a1_1)], 74⟩) :: (0, some ⟨[(intA a0_0), (intA a0_1)], 74⟩) :: []) d3) [(aLoad Try.prog (mget (mpushs ((2, some ⟨[(intA (0)), (intA (0))], 74⟩) :: (1, some ⟨[(intA a1_0), (intA a1_1)], 74⟩) :: (0, some ⟨[(intA a0_0), (intA a0_1)], 74⟩) :: []) d3)) 74 (AV.ptr 2 0)).map (·.1), some (intA (4))]) else (
bif (decide (a2 < (0))) then (
opP (bld [(intA (0)), (intA (0))] [(0, 1), (1, 1)] []) fun v4 =>
storeW Try.prog (mget ((2, some ⟨[(intA (0)), (intA (0))], 74⟩) :: (1, some ⟨[(intA a1_0), (intA a1_1)], 74⟩) :: (0, some ⟨[(intA a0_0), (intA a0_1)], 74⟩) :: [])) 74 (AV.ptr 2 0) v4 fun v5 d5 =>
retL R (mpushs ((2, some ⟨[(intA (0)), (intA (0))], 74⟩) :: (1, some ⟨[(intA a1_0), (intA a1_1)], 74⟩) :: (0, some ⟨[(intA a0_0), (intA a0_1)], 74⟩) :: []) d5) [(aLoad Try.prog (mget (mpushs ((2, some ⟨[(intA (0)), (intA (0))], 74⟩) :: (1, some ⟨[(intA a1_0), (intA a1_1)], 74⟩) :: (0, some ⟨[(intA a0_0), (intA a0_1)], 74⟩) :: []) d5)) 74 (AV.ptr 2 0)).map (·.1), some (intA (4))]) else (
bif (decide (a2 > a3)) then (
opP (bld [(intA (0)), (intA (0))] [(0, 1), (1, 1)] []) fun v6 =>
storeW Try.prog (mget ((2, some ⟨[(intA (0)), (intA (0))], 74⟩) :: (1, some ⟨[(intA a1_0), (intA a1_1)], 74⟩) :: (0, some ⟨[(intA a0_0), (intA a0_1)], 74⟩) :: [])) 74 (AV.ptr 2 0) v6 fun v7 d7 =>
retL R (mpushs ((2, some ⟨[(intA (0)), (intA (0))], 74⟩) :: (1, some ⟨[(intA a1_0), (intA a1_1)], 74⟩) :: (0, some ⟨[(intA a0_0), (intA a0_1)], 74⟩) :: []) d7) [(aLoad Try.prog (mget (mpushs ((2, some ⟨[(intA (0)), (intA (0))], 74⟩) :: (1, some ⟨[(intA a1_0), (intA a1_1)], 74⟩) :: (0, some ⟨[(intA a0_0), (intA a0_1)], 74⟩) :: []) d7)) 74 (AV.ptr 2 0)).map (·.1), some (intA (4))]) else (
callQ Try.prog KK.gl ((2, some ⟨[(intA (0)), (intA (0))], 74⟩) :: (1, some ⟨[(intA a1_0), (intA a1_1)], 74⟩) :: (0, some ⟨[(intA a0_0), (intA a0_1)], 74⟩) :: []) 45 [(AV.agg [(intA a0_0), (intA a0_1)])] fun v8 =>
ex_i64 v8 fun z9 =>
bif (z9 != (0)) then (
opP (bld [(intA (0)), (intA (0))] [(0, 1), (1, 1)] []) fun v10 =>
callQ Try.prog KK.gl ((2, some ⟨[(intA (0)), (intA (0))], 74⟩) :: (1, some ⟨[(intA a1_0), (intA a1_1)], 74⟩) :: (0, some ⟨[(intA a0_0), (intA a0_1)], 74⟩) :: []) 45 [(AV.agg [(intA a0_0), (intA a0_1)])] fun v11 =>
ex_i64 v11 fun z12 =>
storeW Try.prog (mget ((2, some ⟨[(intA (0)), (intA (0))], 74⟩) :: (1, some ⟨[(intA a1_0), (intA a1_1)], 74⟩) :: (0, some ⟨[(intA a0_0), (intA a0_1)], 74⟩) :: [])) 74 (AV.ptr 2 0) v10 fun v13 d13 =>
retL R (mpushs ((2, some ⟨[(intA (0)), (intA (0))], 74⟩) :: (1, some ⟨[(intA a1_0), (intA a1_1)], 74⟩) :: (0, some ⟨[(intA a0_0), (intA a0_1)], 74⟩) :: []) d13) [(aLoad Try.prog (mget (mpushs ((2, some ⟨[(intA (0)), (intA (0))], 74⟩) :: (1, some ⟨[(intA a1_0), (intA a1_1)], 74⟩) :: (0, some ⟨[(intA a0_0), (intA a0_1)], 74⟩) :: []) d13)) 74 (AV.ptr 2 0)).map (·.1), some (intA z12)]) else (
callQ Try.prog KK.gl ((2, some ⟨[(intA (0)), (intA (0))], 74⟩) :: (1, some ⟨[(intA a1_0), (intA a1_1)], 74⟩) :: (0, some ⟨[(intA a0_0), (intA a0_1)], 74⟩) :: []) 45 [(AV.agg [(intA a1_0), (intA a1_1)])] fun v14 =>
ex_i64 v14 fun z15 =>
bif (z15 != (0)) then (
opP (bld [(intA (0)), (intA (0))] [(0, 1), (1, 1)] []) fun v16 =>
callQ Try.prog KK.gl ((2, some ⟨[(intA (0)), (intA (0))], 74⟩) :: (1, some ⟨[(intA a1_0), (intA a1_1)], 74⟩) :: (0, some ⟨[(intA a0_0), (intA a0_1)], 74⟩) :: []) 45 [(AV.agg [(intA a1_0), (intA a1_1)])] fun v17 =>
ex_i64 v17 fun z18 =>
storeW Try.prog (mget ((2, some ⟨[(intA (0)), (intA (0))], 74⟩) :: (1, some ⟨[(intA a1_0), (intA a1_1)], 74⟩) :: (0, some ⟨[(intA a0_0), (intA a0_1)], 74⟩) :: [])) 74 (AV.ptr 2 0) v16 fun v19 d19 =>
retL R (mpushs ((2, some ⟨[(intA (0)), (intA (0))], 74⟩) :: (1, some ⟨[(intA a1_0), (intA a1_1)], 74⟩) :: (0, some ⟨[(intA a0_0), (intA a0_1)], 74⟩) :: []) d19) [(aLoad Try.prog (mget (mpushs ((2, some ⟨[(intA (0)), (intA (0))], 74⟩) :: (1, some ⟨[(intA a1_0), (intA a1_1)], 74⟩) :: (0, some ⟨[(intA a0_0), (intA a0_1)], 74⟩) :: []) d19)) 74 (AV.ptr 2 0)).map (·.1), some (intA z18)]) else (
callQ Try.prog KK.gl ((2, some ⟨[(intA (0)), (intA (0))], 74⟩) :: (1, some ⟨[(intA a1_0), (intA a1_1)], 74⟩) :: (0, some ⟨[(intA a0_0), (intA a0_1)], 74⟩) :: []) 71 [(intA (IntKind.wrap .i64 ((IntKind.wrap .i64 (a1_0 - a0_0)) * a2))), (intA a3)] fun v20 =>
exT2 v20 fun c21 c22 =>
ex_i64 c21 fun z23 =>
ex_i64 c22 fun z24 =>
callQ Try.prog KK.gl ((2, some ⟨[(intA (0)), (intA (0))], 74⟩) :: (1, some ⟨[(intA a1_0), (intA a1_1)], 74⟩) :: (0, some ⟨[(intA a0_0), (intA a0_1)], 74⟩) :: []) 71 [(intA (IntKind.wrap .i64 ((IntKind.wrap .i64 (a1_1 - a0_1)) * a2))), (intA a3)] fun v25 =>
exT2 v25 fun c26 c27 =>
ex_i64 c26 fun z28 =>
ex_i64 c27 fun z29 =>
opP (bld [(intA (0)), (intA (0))] [(0, 1), (1, 1)] [(0, (intA (IntKind.wrap .i64 (a0_0 + z23)))), (1, (intA (IntKind.wrap .i64 (a0_1 + z28))))]) fun v30 =>
storeW Try.prog (mget ((2, some ⟨[(intA (0)), (intA (0))], 74⟩) :: (1, some ⟨[(intA a1_0), (intA a1_1)], 74⟩) :: (0, some ⟨[(intA a0_0), (intA a0_1)], 74⟩) :: [])) 74 (AV.ptr 2 0) v30 fun v31 d31 =>
retL R (mpushs ((2, some ⟨[(intA (0)), (intA (0))], 74⟩) :: (1, some ⟨[(intA a1_0), (intA a1_1)], 74⟩) :: (0, some ⟨[(intA a0_0), (intA a0_1)], 74⟩) :: []) d31) [(aLoad Try.prog (mget (mpushs ((2, some ⟨[(intA (0)), (intA (0))], 74⟩) :: (1, some ⟨[(intA a1_0), (intA a1_1)], 74⟩) :: (0, some ⟨[(intA a0_0), (intA a0_1)], 74⟩) :: []) d31)) 74 (AV.ptr 2 0)).map (·.1), some (intA (0))]))))))
theorem F70_own (a0_0 : Int) (a0_1 : Int) (a1_0 : Int) (a1_1 : Int) (a2 : Int) (a3 : Int) (R : AV → Mem → Prop) (h : F70 a0_0 a0_1 a1_0 a1_1 a2 a3 R) : Own Try.prog KK.gl 70 [(AV.agg [(intA a0_0), (intA a0_1)]), (AV.agg [(intA a1_0), (intA a1_1)]), (intA a2), (intA a3)] R := own_of_F fol Try.func70 (code := c70) (by kernel_rfl) (by kernel_rfl) (by kernel_rfl) (X := F70 a0_0 a0_1 a1_0 a1_1 a2 a3 R) (by kernel_rfl) h
/- skyway/num.DivUp -/
noncomputable def c72 : Code := ((Try.f72).body).getD .skip
noncomputable def q72 (R : AV → Mem → Prop) : AExit → St → Prop := retQ Try.prog Try.f72 R
noncomputable def F72 (a0 : Int) (a1 : Int) (R : AV → Mem → Prop) : Prop :=
callQ Try.prog KK.gl [] 71 [(intA a0), (intA a1)] fun v0 =>
exT2 v0 fun c1 c2 =>
ex_i64 c1 fun z3 =>
ex_i64 c2 fun z4 =>
bif (z4 == (0)) then (
opP (opA Try.prog (.binOp .rem 3 (.tmp 0) (.tmp 1) 3) 3 [(intA a0), (intA a1)] (mget []) 78) fun v5 =>
ex_i64 v5 fun z6 =>
bif (z6 != (0)) then (
retL R [] [some (intA (IntKind.wrap .i64 (z3 + (1)))), some (intA z4)]) else (
retL R [] [some (intA z3), some (intA z4)])) else (
retL R [] [some (intA z3), some (intA z4)])
theorem F72_own (a0 : Int) (a1 : Int) (R : AV → Mem → Prop) (h : F72 a0 a1 R) : Own Try.prog KK.gl 72 [(intA a0), (intA a1)] R := own_of_F fol Try.func72 (code := c72) (by kernel_rfl) (by kernel_rfl) (by kernel_rfl) (X := F72 a0 a1 R) (by kernel_rfl) h
/- skyway/tube.at -/
noncomputable def c56 : Code := ((Try.f56).body).getD .skip
noncomputable def q56 (R : AV → Mem → Prop) : AExit → St → Prop := retQ Try.prog Try.f56 R
noncomputable def F56 (a0 : AV) (a1 : Int) (R : AV → Mem → Prop) : Prop :=
callW Try.prog KK.gl ((0, some ⟨[(intA (0)), (intA (0)), (intA (0)), (intA (0)), (intA (0)), (intA (0))], 78⟩) :: []) 3 68 [a0, (intA a1), (AV.fn 69 [])] fun v0 m0 =>
exT2 v0 fun c1 c2 =>
ex_i64 c1 fun z3 =>
exB c2 fun b4 =>
bif b4 then (
opP (idxS 6 a0 (intA z3)) fun v5 =>
opP (ldA (mget m0) 6 v5) fun v6 =>
exA6 v6 fun c7 c8 c9 c10 c11 c12 =>
ex_i64 c7 fun z13 =>
ex_i64 c8 fun z14 =>
ex_i64 c9 fun z15 =>
ex_i64 c10 fun z16 =>
ex_i64 c11 fun z17 =>
ex_i64 c12 fun z18 =>
storeW Try.prog (mget m0) 78 (AV.ptr 0 0) (AV.agg [(intA z13), (intA z14), (intA z15), (intA z16), (intA z17), (intA z18)]) fun v19 d19 =>
retL R (mpushs m0 d19) [(aLoad Try.prog (mget (mpushs m0 d19)) 78 (AV.ptr 0 0)).map (·.1)]) else (
opM (idxS 6 a0 (intA (IntKind.wrap .i64 (z3 - (1))))) fun v20 d20 =>
opM (ldA (look' (mpushs m0 d20) (topId v20 ++ ([]))) 6 v20) fun v21 d21 =>
exA6 v21 fun c22 c23 c24 c25 c26 c27 =>
ex_i64 c22 fun z28 =>
ex_i64 c23 fun z29 =>
ex_i64 c24 fun z30 =>
ex_i64 c25 fun z31 =>
ex_i64 c26 fun z32 =>
ex_i64 c27 fun z33 =>
opM (idxS 6 a0 (intA z3)) fun v34 d34 =>
opM (ldA (look' (mpushs (mpushs (mpushs m0 d20) d21) d34) (topId v34 ++ ([]))) 6 v34) fun v35 d35 =>
exA6 v35 fun c36 c37 c38 c39 c40 c41 =>
ex_i64 c36 fun z42 =>
ex_i64 c37 fun z43 =>
ex_i64 c38 fun z44 =>
ex_i64 c39 fun z45 =>
ex_i64 c40 fun z46 =>
ex_i64 c41 fun z47 =>
storeW Try.prog (look' ((83, some ⟨[(intA (0)), (intA (0)), (intA (0)), (intA (0)), (intA (0)), (intA (0))], 78⟩) :: (82, some ⟨[(intA (0)), (intA (0)), (intA (0)), (intA (0)), (intA (0)), (intA (0))], 78⟩) :: (mpushs (mpushs (mpushs (mpushs m0 d20) d21) d34) d35)) (topId (AV.ptr 82 0) ++ (topId (AV.agg [(intA z28), (intA z29), (intA z30), (intA z31), (intA z32), (intA z33)]) ++ ([])))) 78 (AV.ptr 82 0) (AV.agg [(intA z28), (intA z29), (intA z30), (intA z31), (intA z32), (intA z33)]) fun v48 d48 =>
storeW Try.prog (look' (mpushs ((83, some ⟨[(intA (0)), (intA (0)), (intA (0)), (intA (0)), (intA (0)), (intA (0))], 78⟩) :: (82, some ⟨[(intA (0)), (intA (0)), (intA (0)), (intA (0)), (intA (0)), (intA (0))], 78⟩) :: (mpushs (mpushs (mpushs (mpushs m0 d20) d21) d34) d35)) d48) (topId (AV.ptr 83 0) ++ (topId (AV.agg [(intA z42), (intA z43), (intA z44), (intA z45), (intA z46), (intA z47)]) ++ ([])))) 78 (AV.ptr 83 0) (AV.agg [(intA z42), (intA z43), (intA z44), (intA z45), (intA z46), (intA z47)]) fun v49 d49 =>
chk (confOk [0, 0, 2, 7, 15, 0, 0, 96, 224, 0, 0, 1567, 4095] [⟨[], []⟩, ⟨[], []⟩, ⟨[], []⟩, ⟨d20, []⟩, ⟨d21, (topId v20 ++ ([]))⟩, ⟨[], []⟩, ⟨[], []⟩, ⟨d34, []⟩, ⟨d35, (topId v34 ++ ([]))⟩, ⟨[(82, some ⟨[(intA (0)), (intA (0)), (intA (0)), (intA (0)), (intA (0)), (intA (0))], 78⟩)], []⟩, ⟨[(83, some ⟨[(intA (0)), (intA (0)), (intA (0)), (intA (0)), (intA (0)), (intA (0))], 78⟩)], []⟩, ⟨d48, (topId (AV.ptr 82 0) ++ (topId (AV.agg [(intA z28), (intA z29), (intA z30), (intA z31), (intA z32), (intA z33)]) ++ ([])))⟩, ⟨d49, (topId (AV.ptr 83 0) ++ (topId (AV.agg [(intA z42), (intA z43), (intA z44), (intA z45), (intA z46), (intA z47)]) ++ ([])))⟩]) (opP (ldS (mget (mpushs (mpushs ((83, some ⟨[(intA (0)), (intA (0)), (intA (0)), (intA (0)), (intA (0)), (intA (0))], 78⟩) :: (82, some ⟨[(intA (0)), (intA (0)), (intA (0)), (intA (0)), (intA (0)), (intA (0))], 78⟩) :: (mpushs (mpushs (mpushs (mpushs m0 d20) d21) d34) d35)) d48) d49)) (AV.ptr 82 0)) fun v50 =>
ex_i64 v50 fun z51 =>
opP (ldS (mget (mpushs (mpushs ((83, some ⟨[(intA (0)), (intA (0)), (intA (0)), (intA (0)), (intA (0)), (intA (0))], 78⟩) :: (82, some ⟨[(intA (0)), (intA (0)), (intA (0)), (intA (0)), (intA (0)), (intA (0))], 78⟩) :: (mpushs (mpushs (mpushs (mpushs m0 d20) d21) d34) d35)) d48) d49)) (AV.ptr 83 0)) fun v52 =>
ex_i64 v52 fun z53 =>
opP (ldS (mget (mpushs (mpushs ((83, some ⟨[(intA (0)), (intA (0)), (intA (0)), (intA (0)), (intA (0)), (intA (0))], 78⟩) :: (82, some ⟨[(intA (0)), (intA (0)), (intA (0)), (intA (0)), (intA (0)), (intA (0))], 78⟩) :: (mpushs (mpushs (mpushs (mpushs m0 d20) d21) d34) d35)) d48) d49)) (AV.ptr 82 0)) fun v54 =>
ex_i64 v54 fun z55 =>
opP (ldA (mget (mpushs (mpushs ((83, some ⟨[(intA (0)), (intA (0)), (intA (0)), (intA (0)), (intA (0)), (intA (0))], 78⟩) :: (82, some ⟨[(intA (0)), (intA (0)), (intA (0)), (intA (0)), (intA (0)), (intA (0))], 78⟩) :: (mpushs (mpushs (mpushs (mpushs m0 d20) d21) d34) d35)) d48) d49)) 2 (AV.ptr 82 1)) fun v56 =>
exA2 v56 fun c57 c58 =>
ex_i64 c57 fun z59 =>
ex_i64 c58 fun z60 =>
opP (ldA (mget (mpushs (mpushs ((83, some ⟨[(intA (0)), (intA (0)), (intA (0)), (intA (0)), (intA (0)), (intA (0))], 78⟩) :: (82, some ⟨[(intA (0)), (intA (0)), (intA (0)), (intA (0)), (intA (0)), (intA (0))], 78⟩) :: (mpushs (mpushs (mpushs (mpushs m0 d20) d21) d34) d35)) d48) d49)) 2 (AV.ptr 83 1)) fun v61 =>
exA2 v61 fun c62 c63 =>
ex_i64 c62 fun z64 =>
ex_i64 c63 fun z65 =>
callQ Try.prog KK.gl (mpushs (mpushs ((83, some ⟨[(intA (0)), (intA (0)), (intA (0)), (intA (0)), (intA (0)), (intA (0))], 78⟩) :: (82, some ⟨[(intA (0)), (intA (0)), (intA (0)), (intA (0)), (intA (0)), (intA (0))], 78⟩) :: (mpushs (mpushs (mpushs (mpushs m0 d20) d21) d34) d35)) d48) d49) 70 [(AV.agg [(intA z59), (intA z60)]), (AV.agg [(intA z64), (intA z65)]), (intA (IntKind.wrap .i64 (a1 - z51))), (intA (IntKind.wrap .i64 (z53 - z55)))] fun v66 =>
exT2 v66 fun c67 c68 =>
exA2 c67 fun c69 c70 =>
ex_i64 c69 fun z71 =>
ex_i64 c70 fun z72 =>
ex_i64 c68 fun z73 =>
opP (ldS (mget ((175, some ⟨[(intA z71), (intA z72)], 74⟩) :: (175, some ⟨[(intA (0)), (intA (0))], 74⟩) :: (mpushs (mpushs ((83, some ⟨[(intA (0)), (intA (0)), (intA (0)), (intA (0)), (intA (0)), (intA (0))], 78⟩) :: (82, some ⟨[(intA (0)), (intA (0)), (intA (0)), (intA (0)), (intA (0)), (intA (0))], 78⟩) :: (mpushs (mpushs (mpushs (mpushs m0 d20) d21) d34) d35)) d48) d49))) (AV.ptr 83 3)) fun v74 =>
ex_i64 v74 fun z75 =>
opP (ldS (mget ((175, some ⟨[(intA z71), (intA z72)], 74⟩) :: (175, some ⟨[(intA (0)), (intA (0))], 74⟩) :: (mpushs (mpushs ((83, some ⟨[(intA (0)), (intA (0)), (intA (0)), (intA (0)), (intA (0)), (intA (0))], 78⟩) :: (82, some ⟨[(intA (0)), (intA (0)), (intA (0)), (intA (0)), (intA (0)), (intA (0))], 78⟩) :: (mpushs (mpushs (mpushs (mpushs m0 d20) d21) d34) d35)) d48) d49))) (AV.ptr 82 3)) fun v76 =>
ex_i64 v76 fun z77 =>
callQ Try.prog KK.gl ((175, some ⟨[(intA z71), (intA z72)], 74⟩) :: (175, some ⟨[(intA (0)), (intA (0))], 74⟩) :: (mpushs (mpushs ((83, some ⟨[(intA (0)), (intA (0)), (intA (0)), (intA (0)), (intA (0)), (intA (0))], 78⟩) :: (82, some ⟨[(intA (0)), (intA (0)), (intA (0)), (intA (0)), (intA (0)), (intA (0))], 78⟩) :: (mpushs (mpushs (mpushs (mpushs m0 d20) d21) d34) d35)) d48) d49)) 71 [(intA (IntKind.wrap .i64 ((IntKind.wrap .i64 (z75 - z77)) * (IntKind.wrap .i64 (a1 - z51))))), (intA (IntKind.wrap .i64 (z53 - z55)))] fun v78 =>
exT2 v78 fun c79 c80 =>
ex_i64 c79 fun z81 =>
ex_i64 c80 fun z82 =>
opP (ldS (mget ((175, some ⟨[(intA z71), (intA z72)], 74⟩) :: (175, some ⟨[(intA (0)), (intA (0))], 74⟩) :: (mpushs (mpushs ((83, some ⟨[(intA (0)), (intA (0)), (intA (0)), (intA (0)), (intA (0)), (intA (0))], 78⟩) :: (82, some ⟨[(intA (0)), (intA (0)), (intA (0)), (intA (0)), (intA (0)), (intA (0))], 78⟩) :: (mpushs (mpushs (mpushs (mpushs m0 d20) d21) d34) d35)) d48) d49))) (AV.ptr 83 4)) fun v83 =>
ex_i64 v83 fun z84 =>
opP (ldS (mget ((175, some ⟨[(intA z71), (intA z72)], 74⟩) :: (175, some ⟨[(intA (0)), (intA (0))], 74⟩) :: (mpushs (mpushs ((83, some ⟨[(intA (0)), (intA (0)), (intA (0)), (intA (0)), (intA (0)), (intA (0))], 78⟩) :: (82, some ⟨[(intA (0)), (intA (0)), (intA (0)), (intA (0)), (intA (0)), (intA (0))], 78⟩) :: (mpushs (mpushs (mpushs (mpushs m0 d20) d21) d34) d35)) d48) d49))) (AV.ptr 82 4)) fun v85 =>
ex_i64 v85 fun z86 =>
callQ Try.prog KK.gl ((175, some ⟨[(intA z71), (intA z72)], 74⟩) :: (175, some ⟨[(intA (0)), (intA (0))], 74⟩) :: (mpushs (mpushs ((83, some ⟨[(intA (0)), (intA (0)), (intA (0)), (intA (0)), (intA (0)), (intA (0))], 78⟩) :: (82, some ⟨[(intA (0)), (intA (0)), (intA (0)), (intA (0)), (intA (0)), (intA (0))], 78⟩) :: (mpushs (mpushs (mpushs (mpushs m0 d20) d21) d34) d35)) d48) d49)) 72 [(intA (IntKind.wrap .i64 ((IntKind.wrap .i64 (z84 - z86)) * (IntKind.wrap .i64 (a1 - z51))))), (intA (IntKind.wrap .i64 (z53 - z55)))] fun v87 =>
exT2 v87 fun c88 c89 =>
ex_i64 c88 fun z90 =>
ex_i64 c89 fun z91 =>
opP (ldS (mget ((175, some ⟨[(intA z71), (intA z72)], 74⟩) :: (175, some ⟨[(intA (0)), (intA (0))], 74⟩) :: (mpushs (mpushs ((83, some ⟨[(intA (0)), (intA (0)), (intA (0)), (intA (0)), (intA (0)), (intA (0))], 78⟩) :: (82, some ⟨[(intA (0)), (intA (0)), (intA (0)), (intA (0)), (intA (0)), (intA (0))], 78⟩) :: (mpushs (mpushs (mpushs (mpushs m0 d20) d21) d34) d35)) d48) d49))) (AV.ptr 83 5)) fun v92 =>
ex_i64 v92 fun z93 =>
opP (ldS (mget ((175, some ⟨[(intA z71), (intA z72)], 74⟩) :: (175, some ⟨[(intA (0)), (intA (0))], 74⟩) :: (mpushs (mpushs ((83, some ⟨[(intA (0)), (intA (0)), (intA (0)), (intA (0)), (intA (0)), (intA (0))], 78⟩) :: (82, some ⟨[(intA (0)), (intA (0)), (intA (0)), (intA (0)), (intA (0)), (intA (0))], 78⟩) :: (mpushs (mpushs (mpushs (mpushs m0 d20) d21) d34) d35)) d48) d49))) (AV.ptr 82 5)) fun v94 =>
ex_i64 v94 fun z95 =>
callQ Try.prog KK.gl ((175, some ⟨[(intA z71), (intA z72)], 74⟩) :: (175, some ⟨[(intA (0)), (intA (0))], 74⟩) :: (mpushs (mpushs ((83, some ⟨[(intA (0)), (intA (0)), (intA (0)), (intA (0)), (intA (0)), (intA (0))], 78⟩) :: (82, some ⟨[(intA (0)), (intA (0)), (intA (0)), (intA (0)), (intA (0)), (intA (0))], 78⟩) :: (mpushs (mpushs (mpushs (mpushs m0 d20) d21) d34) d35)) d48) d49)) 72 [(intA (IntKind.wrap .i64 ((IntKind.wrap .i64 (z93 - z95)) * (IntKind.wrap .i64 (a1 - z51))))), (intA (IntKind.wrap .i64 (z53 - z55)))] fun v96 =>
exT2 v96 fun c97 c98 =>
ex_i64 c97 fun z99 =>
ex_i64 c98 fun z100 =>
opP (ldS (mget ((175, some ⟨[(intA z71), (intA z72)], 74⟩) :: (175, some ⟨[(intA (0)), (intA (0))], 74⟩) :: (mpushs (mpushs ((83, some ⟨[(intA (0)), (intA (0)), (intA (0)), (intA (0)), (intA (0)), (intA (0))], 78⟩) :: (82, some ⟨[(intA (0)), (intA (0)), (intA (0)), (intA (0)), (intA (0)), (intA (0))], 78⟩) :: (mpushs (mpushs (mpushs (mpushs m0 d20) d21) d34) d35)) d48) d49))) (AV.ptr 82 3)) fun v101 =>
ex_i64 v101 fun z102 =>
opP (bld [(intA (0)), (intA (0)), (intA (0)), (intA (0))] [(0, 1), (1, 2), (3, 1)] [(0, (intA a1)), (1, (AV.agg [(intA z71), (intA z72)])), (2, (intA (IntKind.wrap .i64 (z102 + z81))))]) fun v103 =>
opP (ldS (mget ((175, some ⟨[(intA z71), (intA z72)], 74⟩) :: (175, some ⟨[(intA (0)), (intA (0))], 74⟩) :: (mpushs (mpushs ((83, some ⟨[(intA (0)), (intA (0)), (intA (0)), (intA (0)), (intA (0)), (intA (0))], 78⟩) :: (82, some ⟨[(intA (0)), (intA (0)), (intA (0)), (intA (0)), (intA (0)), (intA (0))], 78⟩) :: (mpushs (mpushs (mpushs (mpushs m0 d20) d21) d34) d35)) d48) d49))) (AV.ptr 82 4)) fun v104 =>
ex_i64 v104 fun z105 =>
opP (ldS (mget ((175, some ⟨[(intA z71), (intA z72)], 74⟩) :: (175, some ⟨[(intA (0)), (intA (0))], 74⟩) :: (mpushs (mpushs ((83, some ⟨[(intA (0)), (intA (0)), (intA (0)), (intA (0)), (intA (0)), (intA (0))], 78⟩) :: (82, some ⟨[(intA (0)), (intA (0)), (intA (0)), (intA (0)), (intA (0)), (intA (0))], 78⟩) :: (mpushs (mpushs (mpushs (mpushs m0 d20) d21) d34) d35)) d48) d49))) (AV.ptr 82 5)) fun v106 =>
ex_i64 v106 fun z107 =>
opP (bld [(intA (0)), (intA (0)), (intA (0)), (intA (0)), (intA (0)), (intA (0))] [(0, 4), (4, 1), (5, 1)] [(0, v103), (1, (intA (IntKind.wrap .i64 (z105 + z90)))), (2, (intA (IntKind.wrap .i64 (z107 + z99))))]) fun v108 =>
storeW Try.prog (mget ((175, some ⟨[(intA z71), (intA z72)], 74⟩) :: (175, some ⟨[(intA (0)), (intA (0))], 74⟩) :: (mpushs (mpushs ((83, some ⟨[(intA (0)), (intA (0)), (intA (0)), (intA (0)), (intA (0)), (intA (0))], 78⟩) :: (82, some ⟨[(intA (0)), (intA (0)), (intA (0)), (intA (0)), (intA (0)), (intA (0))], 78⟩) :: (mpushs (mpushs (mpushs (mpushs m0 d20) d21) d34) d35)) d48) d49))) 78 (AV.ptr 0 0) v108 fun v109 d109 =>
retL R (mpushs ((175, some ⟨[(intA z71), (intA z72)], 74⟩) :: (175, some ⟨[(intA (0)), (intA (0))], 74⟩) :: (mpushs (mpushs ((83, some ⟨[(intA (0)), (intA (0)), (intA (0)), (intA (0)), (intA (0)), (intA (0))], 78⟩) :: (82, some ⟨[(intA (0)), (intA (0)), (intA (0)), (intA (0)), (intA (0)), (intA (0))], 78⟩) :: (mpushs (mpushs (mpushs (mpushs m0 d20) d21) d34) d35)) d48) d49)) d109) [(aLoad Try.prog (mget (mpushs ((175, some ⟨[(intA z71), (intA z72)], 74⟩) :: (175, some ⟨[(intA (0)), (intA (0))], 74⟩) :: (mpushs (mpushs ((83, some ⟨[(intA (0)), (intA (0)), (intA (0)), (intA (0)), (intA (0)), (intA (0))], 78⟩) :: (82, some ⟨[(intA (0)), (intA (0)), (intA (0)), (intA (0)), (intA (0)), (intA (0))], 78⟩) :: (mpushs (mpushs (mpushs (mpushs m0 d20) d21) d34) d35)) d48) d49)) d109)) 78 (AV.ptr 0 0)).map (·.1)]))
theorem F56_own (a0 : AV) (a1 : Int) (R : AV → Mem → Prop) (h : F56 a0 a1 R) : Own Try.prog KK.gl 56 [a0, (intA a1)] R := own_of_F fol Try.func56 (code := c56) (by kernel_rfl) (by kernel_rfl) (by kernel_rfl) (X := F56 a0 a1 R) (by kernel_rfl) h
/- skyway/tube.At -/
noncomputable def c48 : Code := ((Try.f48).body).getD .skip
noncomputable def q48 (R : AV → Mem → Prop) : AExit → St → Prop := retQ Try.prog Try.f48 R
noncomputable def F48 (a0 : AV) (a1 : Int) (R : AV → Mem → Prop) : Prop :=
callQ Try.prog KK.gl ((0, some ⟨[(intA (0)), (intA (0)), (intA (0)), (intA (0)), (intA (0)), (intA (0))], 78⟩) :: []) 33 [a0] fun v0 =>
ex_i64 v0 fun z1 =>
bif (z1 != (0)) then (
opP (bld [(intA (0)), (intA (0)), (intA (0)), (intA (0)), (intA (0)), (intA (0))] [(0, 4), (4, 1), (5, 1)] []) fun v2 =>
storeW Try.prog (mget ((0, some ⟨[(intA (0)), (intA (0)), (intA (0)), (intA (0)), (intA (0)), (intA (0))], 78⟩) :: [])) 78 (AV.ptr 0 0) v2 fun v3 d3 =>
retL R (mpushs ((0, some ⟨[(intA (0)), (intA (0)), (intA (0)), (intA (0)), (intA (0)), (intA (0))], 78⟩) :: []) d3) [(aLoad Try.prog (mget (mpushs ((0, some ⟨[(intA (0)), (intA (0)), (intA (0)), (intA (0)), (intA (0)), (intA (0))], 78⟩) :: []) d3)) 78 (AV.ptr 0 0)).map (·.1), some (intA z1)]) else (
callQ Try.prog KK.gl ((0, some ⟨[(intA (0)), (intA (0)), (intA (0)), (intA (0)), (intA (0)), (intA (0))], 78⟩) :: []) 55 [a0] fun v4 =>
exT2 v4 fun c5 c6 =>
ex_i64 c5 fun z7 =>
ex_i64 c6 fun z8 =>
bif (decide (a1 < z7)) then (
opP (bld [(intA (0)), (intA (0)), (intA (0)), (intA (0)), (intA (0)), (intA (0))] [(0, 4), (4, 1), (5, 1)] []) fun v9 =>
storeW Try.prog (mget ((0, some ⟨[(intA (0)), (intA (0)), (intA (0)), (intA (0)), (intA (0)), (intA (0))], 78⟩) :: [])) 78 (AV.ptr 0 0) v9 fun v10 d10 =>
retL R (mpushs ((0, some ⟨[(intA (0)), (intA (0)), (intA (0)), (intA (0)), (intA (0)), (intA (0))], 78⟩) :: []) d10) [(aLoad Try.prog (mget (mpushs ((0, some ⟨[(intA (0)), (intA (0)), (intA (0)), (intA (0)), (intA (0)), (intA (0))], 78⟩) :: []) d10)) 78 (AV.ptr 0 0)).map (·.1), some (intA (12))]) else (
bif (decide (a1 > z8)) then (
opP (bld [(intA (0)), (intA (0)), (intA (0)), (intA (0)), (intA (0)), (intA (0))] [(0, 4), (4, 1), (5, 1)] []) fun v11 =>
storeW Try.prog (mget ((0, some ⟨[(intA (0)), (intA (0)), (intA (0)), (intA (0)), (intA (0)), (intA (0))], 78⟩) :: [])) 78 (AV.ptr 0 0) v11 fun v12 d12 =>
retL R (mpushs ((0, some ⟨[(intA (0)), (intA (0)), (intA (0)), (intA (0)), (intA (0)), (intA (0))], 78⟩) :: []) d12) [(aLoad Try.prog (mget (mpushs ((0, some ⟨[(intA (0)), (intA (0)), (intA (0)), (intA (0)), (intA (0)), (intA (0))], 78⟩) :: []) d12)) 78 (AV.ptr 0 0)).map (·.1), some (intA (12))]) else (
callQ Try.prog KK.gl ((0, some ⟨[(intA (0)), (intA (0)), (intA (0)), (intA (0)), (intA (0)), (intA (0))], 78⟩) :: []) 56 [a0, (intA a1)] fun v13 =>
exA6 v13 fun c14 c15 c16 c17 c18 c19 =>
ex_i64 c14 fun z20 =>
ex_i64 c15 fun z21 =>
ex_i64 c16 fun z22 =>
ex_i64 c17 fun z23 =>
ex_i64 c18 fun z24 =>
ex_i64 c19 fun z25 =>
retL R ((0, some ⟨[(intA z20), (intA z21), (intA z22), (intA z23), (intA z24), (intA z25)], 78⟩) :: (0, some ⟨[(intA (0)), (intA (0)), (intA (0)), (intA (0)), (intA (0)), (intA (0))], 78⟩) :: []) [some (AV.agg [(intA z20), (intA z21), (intA z22), (intA z23), (intA z24), (intA z25)]), some (intA (0))])))
theorem F48_own (a0 : AV) (a1 : Int) (R : AV → Mem → Prop) (h : F48 a0 a1 R) : Own Try.prog KK.gl 48 [a0, (intA a1)] R := own_of_F fol Try.func48 (code := c48) (by kernel_rfl) (by kernel_rfl) (by kernel_rfl) (X := F48 a0 a1 R) (by kernel_rfl) h
/- skyway/plane.Sub -/
noncomputable def c80 : Code := ((Try.f80).body).getD .skip
noncomputable def q80 (R : AV → Mem → Prop) : AExit → St → Prop := retQ Try.prog Try.f80 R
noncomputable def F80 (a0_0 : Int) (a0_1 : Int) (a1_0 : Int) (a1_1 : Int) (R : AV → Mem → Prop) : Prop :=
opP (bld [(intA (0)), (intA (0))] [(0, 1), (1, 1)] [(0, (intA (IntKind.wrap .i64 (a0_0 - a1_0)))), (1, (intA (IntKind.wrap .i64 (a0_1 - a1_1))))]) fun v0 =>
storeW Try.prog (mget ((2, some ⟨[(intA (0)), (intA (0))], 74⟩) :: (1, some ⟨[(intA a1_0), (intA a1_1)], 74⟩) :: (0, some ⟨[(intA a0_0), (intA a0_1)], 74⟩) :: [])) 74 (AV.ptr 2 0) v0 fun v1 d1 =>
retL R (mpushs ((2, some ⟨[(intA (0)), (intA (0))], 74⟩) :: (1, some ⟨[(intA a1_0), (intA a1_1)], 74⟩) :: (0, some ⟨[(intA a0_0), (intA a0_1)], 74⟩) :: []) d1) [(aLoad Try.prog (mget (mpushs ((2, some ⟨[(intA (0)), (intA (0))], 74⟩) :: (1, some ⟨[(intA a1_0), (intA a1_1)], 74⟩) :: (0, some ⟨[(intA a0_0), (intA a0_1)], 74⟩) :: []) d1)) 74 (AV.ptr 2 0)).map (·.1)]
theorem F80_own (a0_0 : Int) (a0_1 : Int) (a1_0 : Int) (a1_1 : Int) (R : AV → Mem → Prop) (h : F80 a0_0 a0_1 a1_0 a1_1 R) : Own Try.prog KK.gl 80 [(AV.agg [(intA a0_0), (intA a0_1)]), (AV.agg [(intA a1_0), (intA a1_1)])] R := own_of_F fol Try.func80 (code := c80) (by kernel_rfl) (by kernel_rfl) (by kernel_rfl) (X := F80 a0_0 a0_1 a1_0 a1_1 R) (by kernel_rfl) h
/- skyway/plane.Dot -/
noncomputable def c81 : Code := ((Try.f81).body).getD .skip
noncomputable def q81 (R : AV → Mem → Prop) : AExit → St → Prop := retQ Try.prog Try.f81 R
noncomputable def F81 (a0_0 : Int) (a0_1 : Int) (a1_0 : Int) (a1_1 : Int) (R : AV → Mem → Prop) : Prop :=
retL R ((1, some ⟨[(intA a1_0), (intA a1_1)], 74⟩) :: (0, some ⟨[(intA a0_0), (intA a0_1)], 74⟩) :: []) [some (intA (IntKind.wrap .i64 ((IntKind.wrap .i64 (a0_0 * a1_0)) + (IntKind.wrap .i64 (a0_1 * a1_1)))))]
theorem F81_own (a0_0 : Int) (a0_1 : Int) (a1_0 : Int) (a1_1 : Int) (R : AV → Mem → Prop) (h : F81 a0_0 a0_1 a1_0 a1_1 R) : Own Try.prog KK.gl 81 [(AV.agg [(intA a0_0), (intA a0_1)]), (AV.agg [(intA a1_0), (intA a1_1)])] R := own_of_F fol Try.func81 (code := c81) (by kernel_rfl) (by kernel_rfl) (by kernel_rfl) (X := F81 a0_0 a0_1 a1_0 a1_1 R) (by kernel_rfl) h
/- skyway/plane.Square -/
noncomputable def c73 : Code := ((Try.f73).body).getD .skip
noncomputable def q73 (R : AV → Mem → Prop) : AExit → St → Prop := retQ Try.prog Try.f73 R
noncomputable def F73 (a0_0 : Int) (a0_1 : Int) (a1_0 : Int) (a1_1 : Int) (R : AV → Mem → Prop) : Prop :=
callQ Try.prog KK.gl ((1, some ⟨[(intA a1_0), (intA a1_1)], 74⟩) :: (0, some ⟨[(intA a0_0), (intA a0_1)], 74⟩) :: []) 80 [(AV.agg [(intA a0_0), (intA a0_1)]), (AV.agg [(intA a1_0), (intA a1_1)])] fun v0 =>
exA2 v0 fun c1 c2 =>
ex_i64 c1 fun z3 =>
ex_i64 c2 fun z4 =>
callQ Try.prog KK.gl ((69, some ⟨[(intA z3), (intA z4)], 74⟩) :: (69, some ⟨[(intA (0)), (intA (0))], 74⟩) :: (1, some ⟨[(intA a1_0), (intA a1_1)], 74⟩) :: (0, some ⟨[(intA a0_0), (intA a0_1)], 74⟩) :: []) 81 [(AV.agg [(intA z3), (intA z4)]), (AV.agg [(intA z3), (intA z4)])] fun v5 =>
ex_i64 v5 fun z6 =>
retL R ((69, some ⟨[(intA z3), (intA z4)], 74⟩) :: (69, some ⟨[(intA (0)), (intA (0))], 74⟩) :: (1, some ⟨[(intA a1_0), (intA a1_1)], 74⟩) :: (0, some ⟨[(intA a0_0), (intA a0_1)], 74⟩) :: []) [some (intA z6)]
theorem F73_own (a0_0 : Int) (a0_1 : Int) (a1_0 : Int) (a1_1 : Int) (R : AV → Mem → Prop) (h : F73 a0_0 a0_1 a1_0 a1_1 R) : Own Try.prog KK.gl 73 [(AV.agg [(intA a0_0), (intA a0_1)]), (AV.agg [(intA a1_0), (intA a1_1)])] R := own_of_F fol Try.func73 (code := c73) (by kernel_rfl) (by kernel_rfl) (by kernel_rfl) (X := F73 a0_0 a0_1 a1_0 a1_1 R) (by kernel_rfl) h
/- skyway/num.Root -/
noncomputable def c74 : Code := ((Try.f74).body).getD .skip
noncomputable def q74 (R : AV → Mem → Prop) : AExit → St → Prop := retQ Try.prog Try.f74 R
noncomputable def c74_0 : Code := loopB c74 0
noncomputable def q74_0 (R : AV → Mem → Prop) : AExit → St → Prop := contW Try.prog KK 27 0 c74 0 (q74 R)
noncomputable def qq74_0 (R : AV → Mem → Prop) (N0 : St → Prop) : AExit → St → Prop := thenQ N0 (q74_0 R)
def h74_0 (t0 : Int) (t2 : Int) (t3 : Int) (t4 : Int) (m : Mem) : St := ⟨[(0, (intA t0)), (2, (intA t2)), (3, (intA t3)), (4, (intA t4))], m, 100000⟩
noncomputable def B74_0 (t0 : Int) (t2 : Int) (t3 : Int) (t4 : Int) (m : Mem) (R : AV → Mem → Prop) (N0 : St → Prop) : Prop :=
bif (decide (t3 < t4)) then (
bif (decide ((IntKind.wrap .i64 ((IntKind.wrap .i64 (t3 + (IntKind.wrap .i64 (Int.tdiv (IntKind.wrap .i64 ((IntKind.wrap .i64 (t4 - t3)) + (1))) (2))))) * (IntKind.wrap .i64 (t3 + (IntKind.wrap .i64 (Int.tdiv (IntKind.wrap .i64 ((IntKind.wrap .i64 (t4 - t3)) + (1))) (2))))))) ≤ t0)) then (
N0 ⟨[(0, (intA t0)), (2, (intA t2)), (3, (intA (IntKind.wrap .i64 (t3 + (IntKind.wrap .i64 (Int.tdiv (IntKind.wrap .i64 ((IntKind.wrap .i64 (t4 - t3)) + (1))) (2))))))), (4, (intA t4)), (8, (intA t3)), (9, (intA t4)), (10, (boolA (decide (t3 < t4)))), (11, (intA t3)), (12, (intA t4)), (13, (intA t3)), (14, (intA (IntKind.wrap .i64 (t4 - t3)))), (15, (intA (IntKind.wrap .i64 ((IntKind.wrap .i64 (t4 - t3)) + (1))))), (16, (intA (IntKind.wrap .i64 (Int.tdiv (IntKind.wrap .i64 ((IntKind.wrap .i64 (t4 - t3)) + (1))) (2))))), (17, (intA (IntKind.wrap .i64 (t3 + (IntKind.wrap .i64 (Int.tdiv (IntKind.wrap .i64 ((IntKind.wrap .i64 (t4 - t3)) + (1))) (2))))))), (5, (intA (IntKind.wrap .i64 (t3 + (IntKind.wrap .i64 (Int.tdiv (IntKind.wrap .i64 ((IntKind.wrap .i64 (t4 - t3)) + (1))) (2))))))), (18, (intA (IntKind.wrap .i64 (t3 + (IntKind.wrap .i64 (Int.tdiv (IntKind.wrap .i64 ((IntKind.wrap .i64 (t4 - t3)) + (1))) (2))))))), (19, (intA (IntKind.wrap .i64 (t3 + (IntKind.wrap .i64 (Int.tdiv (IntKind.wrap .i64 ((IntKind.wrap .i64 (t4 - t3)) + (1))) (2))))))), (20, (intA (IntKind.wrap .i64 ((IntKind.wrap .i64 (t3 + (IntKind.wrap .i64 (Int.tdiv (IntKind.wrap .i64 ((IntKind.wrap .i64 (t4 - t3)) + (1))) (2))))) * (IntKind.wrap .i64 (t3 + (IntKind.wrap .i64 (Int.tdiv (IntKind.wrap .i64 ((IntKind.wrap .i64 (t4 - t3)) + (1))) (2))))))))), (21, (intA t0)), (22, (boolA (decide ((IntKind.wrap .i64 ((IntKind.wrap .i64 (t3 + (IntKind.wrap .i64 (Int.tdiv (IntKind.wrap .i64 ((IntKind.wrap .i64 (t4 - t3)) + (1))) (2))))) * (IntKind.wrap .i64 (t3 + (IntKind.wrap .i64 (Int.tdiv (IntKind.wrap .i64 ((IntKind.wrap .i64 (t4 - t3)) + (1))) (2))))))) ≤ t0)))), (23, (intA (IntKind.wrap .i64 (t3 + (IntKind.wrap .i64 (Int.tdiv (IntKind.wrap .i64 ((IntKind.wrap .i64 (t4 - t3)) + (1))) (2)))))))], m, 100018⟩) else (
N0 ⟨[(0, (intA t0)), (2, (intA t2)), (3, (intA t3)), (4, (intA (IntKind.wrap .i64 ((IntKind.wrap .i64 (t3 + (IntKind.wrap .i64 (Int.tdiv (IntKind.wrap .i64 ((IntKind.wrap .i64 (t4 - t3)) + (1))) (2))))) - (1))))), (8, (intA t3)), (9, (intA t4)), (10, (boolA (decide (t3 < t4)))), (11, (intA t3)), (12, (intA t4)), (13, (intA t3)), (14, (intA (IntKind.wrap .i64 (t4 - t3)))), (15, (intA (IntKind.wrap .i64 ((IntKind.wrap .i64 (t4 - t3)) + (1))))), (16, (intA (IntKind.wrap .i64 (Int.tdiv (IntKind.wrap .i64 ((IntKind.wrap .i64 (t4 - t3)) + (1))) (2))))), (17, (intA (IntKind.wrap .i64 (t3 + (IntKind.wrap .i64 (Int.tdiv (IntKind.wrap .i64 ((IntKind.wrap .i64 (t4 - t3)) + (1))) (2))))))), (5, (intA (IntKind.wrap .i64 (t3 + (IntKind.wrap .i64 (Int.tdiv (IntKind.wrap .i64 ((IntKind.wrap .i64 (t4 - t3)) + (1))) (2))))))), (18, (intA (IntKind.wrap .i64 (t3 + (IntKind.wrap .i64 (Int.tdiv (IntKind.wrap .i64 ((IntKind.wrap .i64 (t4 - t3)) + (1))) (2))))))), (19, (intA (IntKind.wrap .i64 (t3 + (IntKind.wrap .i64 (Int.tdiv (IntKind.wrap .i64 ((IntKind.wrap .i64 (t4 - t3)) + (1))) (2))))))), (20, (intA (IntKind.wrap .i64 ((IntKind.wrap .i64 (t3 + (IntKind.wrap .i64 (Int.tdiv (IntKind.wrap .i64 ((IntKind.wrap .i64 (t4 - t3)) + (1))) (2))))) * (IntKind.wrap .i64 (t3 + (IntKind.wrap .i64 (Int.tdiv (IntKind.wrap .i64 ((IntKind.wrap .i64 (t4 - t3)) + (1))) (2))))))))), (21, (intA t0)), (22, (boolA (decide ((IntKind.wrap .i64 ((IntKind.wrap .i64 (t3 + (IntKind.wrap .i64 (Int.tdiv (IntKind.wrap .i64 ((IntKind.wrap .i64 (t4 - t3)) + (1))) (2))))) * (IntKind.wrap .i64 (t3 + (IntKind.wrap .i64 (Int.tdiv (IntKind.wrap .i64 ((IntKind.wrap .i64 (t4 - t3)) + (1))) (2))))))) ≤ t0)))), (24, (intA (IntKind.wrap .i64 (t3 + (IntKind.wrap .i64 (Int.tdiv (IntKind.wrap .i64 ((IntKind.wrap .i64 (t4 - t3)) + (1))) (2))))))), (25, (intA (IntKind.wrap .i64 ((IntKind.wrap .i64 (t3 + (IntKind.wrap .i64 (Int.tdiv (IntKind.wrap .i64 ((IntKind.wrap .i64 (t4 - t3)) + (1))) (2))))) - (1)))))], m, 100019⟩)) else (
retL R m [some (intA t3)])
theorem B74_0_eq (t0 : Int) (t2 : Int) (t3 : Int) (t4 : Int) (m : Mem) (R : AV → Mem → Prop) (N0 : St → Prop) : W Try.prog KK 27 0 c74_0 (h74_0 t0 t2 t3 t4 m) (qq74_0 R N0) = B74_0 t0 t2 t3 t4 m R N0 := by kernel_rfl
theorem L74_0 (R : AV → Mem → Prop) {σ : Type} (I : σ → Prop) (t0 : σ → Int) (t2 : σ → Int) (t3 : σ → Int) (t4 : σ → Int) (m : σ → Mem) (μ : σ → Nat) (step : ∀ x, I x → B74_0 (t0 x) (t2 x) (t3 x) (t4 x) (m x) R (fun s' => ∃ y, I y ∧ μ y < μ x ∧ Weak KK 27 0 s' (h74_0 (t0 y) (t2 y) (t3 y) (t4 y) (m y)))) (x : σ) (hx : I x) {s : St} (hw : Weak KK 27 0 s (h74_0 (t0 x) (t2 x) (t3 x) (t4 x) (m x))) : Tri Try.prog KK 27 0 (.loop c74_0) s (q74_0 R) :=
  Tri.weak hw (Tri.loops fol I (fun x => h74_0 (t0 x) (t2 x) (t3 x) (t4 x) (m x)) μ (fun x hx => (B74_0_eq (t0 x) (t2 x) (t3 x) (t4 x) (m x) R _).mpr (step x hx)) x hx)
noncomputable def F74 (a0 : Int) (R : AV → Mem → Prop) : Prop :=
bif (decide (a0 ≤ (0))) then (
retL R [] [some (intA (0))]) else (
Tri Try.prog KK 27 0 (.loop c74_0) ⟨[(0, (intA a0)), (2, (intA (0))), (6, (intA a0)), (7, (boolA (decide (a0 ≤ (0))))), (3, (intA (0))), (4, (intA (3037000499)))], [], 5⟩ (q74_0 R))
theorem F74_own (a0 : Int) (R : AV → Mem → Prop) (h : F74 a0 R) : Own Try.prog KK.gl 74 [(intA a0)] R := own_of_F fol Try.func74 (code := c74) (by kernel_rfl) (by kernel_rfl) (by kernel_rfl) (X := F74 a0 R) (by kernel_rfl) h
/- skyway/plane.Distance -/
noncomputable def c57 : Code := ((Try.f57).body).getD .skip
noncomputable def q57 (R : AV → Mem → Prop) : AExit → St → Prop := retQ Try.prog Try.f57 R
noncomputable def F57 (a0_0 : Int) (a0_1 : Int) (a1_0 : Int) (a1_1 : Int) (R : AV → Mem → Prop) : Prop :=
callQ Try.prog KK.gl ((1, some ⟨[(intA a1_0), (intA a1_1)], 74⟩) :: (0, some ⟨[(intA a0_0), (intA a0_1)], 74⟩) :: []) 73 [(AV.agg [(intA a0_0), (intA a0_1)]), (AV.agg [(intA a1_0), (intA a1_1)])] fun v0 =>
ex_i64 v0 fun z1 =>
callQ Try.prog KK.gl ((1, some ⟨[(intA a1_0), (intA a1_1)], 74⟩) :: (0, some ⟨[(intA a0_0), (intA a0_1)], 74⟩) :: []) 74 [(intA z1)] fun v2 =>
ex_i64 v2 fun z3 =>
bif (decide ((IntKind.wrap .i64 (z3 * z3)) < z1)) then (
retL R ((1, some ⟨[(intA a1_0), (intA a1_1)], 74⟩) :: (0, some ⟨[(intA a0_0), (intA a0_1)], 74⟩) :: []) [some (intA z3), some (intA (IntKind.wrap .i64 (z3 + (1))))]) else (
retL R ((1, some ⟨[(intA a1_0), (intA a1_1)], 74⟩) :: (0, some ⟨[(intA a0_0), (intA a0_1)], 74⟩) :: []) [some (intA z3), some (intA z3)])
theorem F57_own (a0_0 : Int) (a0_1 : Int) (a1_0 : Int) (a1_1 : Int) (R : AV → Mem → Prop) (h : F57 a0_0 a0_1 a1_0 a1_1 R) : Own Try.prog KK.gl 57 [(AV.agg [(intA a0_0), (intA a0_1)]), (AV.agg [(intA a1_0), (intA a1_1)])] R := own_of_F fol Try.func57 (code := c57) (by kernel_rfl) (by kernel_rfl) (by kernel_rfl) (X := F57 a0_0 a0_1 a1_0 a1_1 R) (by kernel_rfl) h
/- skyway/probe.separated -/
noncomputable def c49 : Code := ((Try.f49).body).getD .skip
noncomputable def q49 (R : AV → Mem → Prop) : AExit → St → Prop := retQ Try.prog Try.f49 R
noncomputable def F49 (a0_0 : Int) (a0_1 : Int) (a0_2 : Int) (a0_3 : Int) (a0_4 : Int) (a0_5 : Int) (a1_0 : Int) (a1_1 : Int) (a1_2 : Int) (a1_3 : Int) (a1_4 : Int) (a1_5 : Int) (a2_0 : Int) (a2_1 : Int) (R : AV → Mem → Prop) : Prop :=
callQ Try.prog KK.gl ((2, some ⟨[(intA a2_0), (intA a2_1)], 24⟩) :: (1, some ⟨[(intA a1_0), (intA a1_1), (intA a1_2), (intA a1_3), (intA a1_4), (intA a1_5)], 78⟩) :: (0, some ⟨[(intA a0_0), (intA a0_1), (intA a0_2), (intA a0_3), (intA a0_4), (intA a0_5)], 78⟩) :: []) 57 [(AV.agg [(intA a0_1), (intA a0_2)]), (AV.agg [(intA a1_1), (intA a1_2)])] fun v0 =>
exT2 v0 fun c1 c2 =>
ex_i64 c1 fun z3 =>
ex_i64 c2 fun z4 =>
bif (decide ((IntKind.wrap .i64 ((IntKind.wrap .i64 (z3 - a0_4)) - a1_4)) ≥ a2_0)) then (
retL R ((2, some ⟨[(intA a2_0), (intA a2_1)], 24⟩) :: (1, some ⟨[(intA a1_0), (intA a1_1), (intA a1_2), (intA a1_3), (intA a1_4), (intA a1_5)], 78⟩) :: (0, some ⟨[(intA a0_0), (intA a0_1), (intA a0_2), (intA a0_3), (intA a0_4), (intA a0_5)], 78⟩) :: []) [some (boolA true)]) else (
opP (opA Try.prog (.call ⟨.builtin .max, #[.tmp 0, .tmp 1], #[3, 3]⟩) 3 [(intA (IntKind.wrap .i64 (a0_3 - a1_3))), (intA (IntKind.wrap .i64 (a1_3 - a0_3)))] (mget ((2, some ⟨[(intA a2_0), (intA a2_1)], 24⟩) :: (1, some ⟨[(intA a1_0), (intA a1_1), (intA a1_2), (intA a1_3), (intA a1_4), (intA a1_5)], 78⟩) :: (0, some ⟨[(intA a0_0), (intA a0_1), (intA a0_2), (intA a0_3), (intA a0_4), (intA a0_5)], 78⟩) :: [])) 104) fun v5 =>
ex_i64 v5 fun z6 =>
retL R ((2, some ⟨[(intA a2_0), (intA a2_1)], 24⟩) :: (1, some ⟨[(intA a1_0), (intA a1_1), (intA a1_2), (intA a1_3), (intA a1_4), (intA a1_5)], 78⟩) :: (0, some ⟨[(intA a0_0), (intA a0_1), (intA a0_2), (intA a0_3), (intA a0_4), (intA a0_5)], 78⟩) :: []) [some (boolA (decide ((IntKind.wrap .i64 ((IntKind.wrap .i64 (z6 - a0_5)) - a1_5)) ≥ a2_1)))])
theorem F49_own (a0_0 : Int) (a0_1 : Int) (a0_2 : Int) (a0_3 : Int) (a0_4 : Int) (a0_5 : Int) (a1_0 : Int) (a1_1 : Int) (a1_2 : Int) (a1_3 : Int) (a1_4 : Int) (a1_5 : Int) (a2_0 : Int) (a2_1 : Int) (R : AV → Mem → Prop) (h : F49 a0_0 a0_1 a0_2 a0_3 a0_4 a0_5 a1_0 a1_1 a1_2 a1_3 a1_4 a1_5 a2_0 a2_1 R) : Own Try.prog KK.gl 49 [(AV.agg [(intA a0_0), (intA a0_1), (intA a0_2), (intA a0_3), (intA a0_4), (intA a0_5)]), (AV.agg [(intA a1_0), (intA a1_1), (intA a1_2), (intA a1_3), (intA a1_4), (intA a1_5)]), (AV.agg [(intA a2_0), (intA a2_1)])] R := own_of_F fol Try.func49 (code := c49) (by kernel_rfl) (by kernel_rfl) (by kernel_rfl) (X := F49 a0_0 a0_1 a0_2 a0_3 a0_4 a0_5 a1_0 a1_1 a1_2 a1_3 a1_4 a1_5 a2_0 a2_1 R) (by kernel_rfl) h
/- skyway/probe.spans -/
noncomputable def c38 : Code := ((Try.f38).body).getD .skip
noncomputable def q38 (R : AV → Mem → Prop) : AExit → St → Prop := retQ Try.prog Try.f38 R
noncomputable def c38_0 : Code := loopB c38 0
noncomputable def q38_0 (R : AV → Mem → Prop) : AExit → St → Prop := contW Try.prog KK 73 0 c38 0 (q38 R)
noncomputable def qq38_0 (R : AV → Mem → Prop) (N0 : St → Prop) : AExit → St → Prop := thenQ N0 (q38_0 R)
def h38_0 (t0 : AV) (t1 : AV) (t6 : AV) (t7 : AV) (t9 : Int) (t10 : Int) (b0_0 : Int) (b0_1 : Int) (m : Mem) : St := ⟨[(0, t0), (1, t1), (5, (AV.ptr 0 0)), (6, t6), (7, t7), (9, (intA t9)), (10, (intA t10))], ((0, some ⟨[(intA b0_0), (intA b0_1)], 24⟩) :: m), 100000⟩
noncomputable def B38_0 (t0 : AV) (t1 : AV) (t6 : AV) (t7 : AV) (t9 : Int) (t10 : Int) (b0_0 : Int) (b0_1 : Int) (m : Mem) (R : AV → Mem → Prop) (N0 : St → Prop) : Prop :=
bif (decide (t10 ≤ t9)) then (
callQ Try.prog KK.gl ((0, some ⟨[(intA b0_0), (intA b0_1)], 24⟩) :: m) 48 [t0, (intA t10)] fun v5 =>
exT2 v5 fun c6 c7 =>
exA6 c6 fun c8 c9 c10 c11 c12 c13 =>
ex_i64 c8 fun z14 =>
ex_i64 c9 fun z15 =>
ex_i64 c10 fun z16 =>
ex_i64 c11 fun z17 =>
ex_i64 c12 fun z18 =>
ex_i64 c13 fun z19 =>
ex_i64 c7 fun z20 =>
callQ Try.prog KK.gl ((100072, some ⟨[(intA z14), (intA z15), (intA z16), (intA z17), (intA z18), (intA z19)], 78⟩) :: (100072, some ⟨[(intA (0)), (intA (0)), (intA (0)), (intA (0)), (intA (0)), (intA (0))], 78⟩) :: (0, some ⟨[(intA b0_0), (intA b0_1)], 24⟩) :: m) 48 [t1, (intA t10)] fun v21 =>
exT2 v21 fun c22 c23 =>
exA6 c22 fun c24 c25 c26 c27 c28 c29 =>
ex_i64 c24 fun z30 =>
ex_i64 c25 fun z31 =>
ex_i64 c26 fun z32 =>
ex_i64 c27 fun z33 =>
ex_i64 c28 fun z34 =>
ex_i64 c29 fun z35 =>
ex_i64 c23 fun z36 =>
callQ Try.prog KK.gl ((100144, some ⟨[(intA z30), (intA z31), (intA z32), (intA z33), (intA z34), (intA z35)], 78⟩) :: (100144, some ⟨[(intA (0)), (intA (0)), (intA (0)), (intA (0)), (intA (0)), (intA (0))], 78⟩) :: (100072, some ⟨[(intA z14), (intA z15), (intA z16), (intA z17), (intA z18), (intA z19)], 78⟩) :: (100072, some ⟨[(intA (0)), (intA (0)), (intA (0)), (intA (0)), (intA (0)), (intA (0))], 78⟩) :: (0, some ⟨[(intA b0_0), (intA b0_1)], 24⟩) :: m) 49 [(AV.agg [(intA z14), (intA z15), (intA z16), (intA z17), (intA z18), (intA z19)]), (AV.agg [(intA z30), (intA z31), (intA z32), (intA z33), (intA z34), (intA z35)]), (AV.agg [(intA b0_0), (intA b0_1)])] fun v37 =>
exB v37 fun b38 =>
bif b38 then (
N0 ⟨[(0, t0), (1, t1), (5, (AV.ptr 0 0)), (6, t6), (7, t7), (9, (intA t9)), (10, (intA (IntKind.wrap .i64 (t10 + (1))))), (23, (intA t10)), (24, (intA t9)), (25, (boolA (decide (t10 ≤ t9)))), (29, t0), (30, (intA t10)), (31, (AV.tup [(AV.agg [(intA z14), (intA z15), (intA z16), (intA z17), (intA z18), (intA z19)]), (intA z20)])), (28, (AV.tup [(AV.agg [(intA z14), (intA z15), (intA z16), (intA z17), (intA z18), (intA z19)]), (intA z20)])), (32, (AV.agg [(intA z14), (intA z15), (intA z16), (intA z17), (intA z18), (intA z19)])), (33, (intA z20)), (11, (AV.ptr 100072 0)), (12, (intA z20)), (35, t1), (36, (intA t10)), (37, (AV.tup [(AV.agg [(intA z30), (intA z31), (intA z32), (intA z33), (intA z34), (intA z35)]), (intA z36)])), (34, (AV.tup [(AV.agg [(intA z30), (intA z31), (intA z32), (intA z33), (intA z34), (intA z35)]), (intA z36)])), (38, (AV.agg [(intA z30), (intA z31), (intA z32), (intA z33), (intA z34), (intA z35)])), (39, (intA z36)), (13, (AV.ptr 100144 0)), (14, (intA z36)), (40, (AV.agg [(intA z14), (intA z15), (intA z16), (intA z17), (intA z18), (intA z19)])), (41, (AV.agg [(intA z30), (intA z31), (intA z32), (intA z33), (intA z34), (intA z35)])), (42, (AV.agg [(intA b0_0), (intA b0_1)])), (43, (boolA b38)), (26, (intA t10)), (27, (intA (IntKind.wrap .i64 (t10 + (1)))))], ((100144, some ⟨[(intA z30), (intA z31), (intA z32), (intA z33), (intA z34), (intA z35)], 78⟩) :: (100144, some ⟨[(intA (0)), (intA (0)), (intA (0)), (intA (0)), (intA (0)), (intA (0))], 78⟩) :: (100072, some ⟨[(intA z14), (intA z15), (intA z16), (intA z17), (intA z18), (intA z19)], 78⟩) :: (100072, some ⟨[(intA (0)), (intA (0)), (intA (0)), (intA (0)), (intA (0)), (intA (0))], 78⟩) :: (0, some ⟨[(intA b0_0), (intA b0_1)], 24⟩) :: m), 100217⟩) else (
opP (lenS t7) fun v39 =>
ex_i64 v39 fun z40 =>
bif (decide (z40 > (0))) then (
opP (idxS 2 t7 (intA (IntKind.wrap .i64 (z40 - (1))))) fun v41 =>
opP (fldO 1 v41) fun v42 =>
opP (ldS (mget ((100144, some ⟨[(intA z30), (intA z31), (intA z32), (intA z33), (intA z34), (intA z35)], 78⟩) :: (100144, some ⟨[(intA (0)), (intA (0)), (intA (0)), (intA (0)), (intA (0)), (intA (0))], 78⟩) :: (100072, some ⟨[(intA z14), (intA z15), (intA z16), (intA z17), (intA z18), (intA z19)], 78⟩) :: (100072, some ⟨[(intA (0)), (intA (0)), (intA (0)), (intA (0)), (intA (0)), (intA (0))], 78⟩) :: (0, some ⟨[(intA b0_0), (intA b0_1)], 24⟩) :: m)) v42) fun v43 =>
ex_i64 v43 fun z44 =>
bif (z44 == t10) then (
opP (idxS 2 t7 (intA (IntKind.wrap .i64 (z40 - (1))))) fun v45 =>
opP (fldO 1 v45) fun v46 =>
storeW Try.prog (mget ((100144, some ⟨[(intA z30), (intA z31), (intA z32), (intA z33), (intA z34), (intA z35)], 78⟩) :: (100144, some ⟨[(intA (0)), (intA (0)), (intA (0)), (intA (0)), (intA (0)), (intA (0))], 78⟩) :: (100072, some ⟨[(intA z14), (intA z15), (intA z16), (intA z17), (intA z18), (intA z19)], 78⟩) :: (100072, some ⟨[(intA (0)), (intA (0)), (intA (0)), (intA (0)), (intA (0)), (intA (0))], 78⟩) :: (0, some ⟨[(intA b0_0), (intA b0_1)], 24⟩) :: m)) 3 v46 (intA (IntKind.wrap .i64 (t10 + (1)))) fun v47 d47 =>
N0 ⟨[(0, t0), (1, t1), (5, (AV.ptr 0 0)), (6, t6), (7, t7), (9, (intA t9)), (10, (intA (IntKind.wrap .i64 (t10 + (1))))), (23, (intA t10)), (24, (intA t9)), (25, (boolA (decide (t10 ≤ t9)))), (29, t0), (30, (intA t10)), (31, (AV.tup [(AV.agg [(intA z14), (intA z15), (intA z16), (intA z17), (intA z18), (intA z19)]), (intA z20)])), (28, (AV.tup [(AV.agg [(intA z14), (intA z15), (intA z16), (intA z17), (intA z18), (intA z19)]), (intA z20)])), (32, (AV.agg [(intA z14), (intA z15), (intA z16), (intA z17), (intA z18), (intA z19)])), (33, (intA z20)), (11, (AV.ptr 100072 0)), (12, (intA z20)), (35, t1), (36, (intA t10)), (37, (AV.tup [(AV.agg [(intA z30), (intA z31), (intA z32), (intA z33), (intA z34), (intA z35)]), (intA z36)])), (34, (AV.tup [(AV.agg [(intA z30), (intA z31), (intA z32), (intA z33), (intA z34), (intA z35)]), (intA z36)])), (38, (AV.agg [(intA z30), (intA z31), (intA z32), (intA z33), (intA z34), (intA z35)])), (39, (intA z36)), (13, (AV.ptr 100144 0)), (14, (intA z36)), (40, (AV.agg [(intA z14), (intA z15), (intA z16), (intA z17), (intA z18), (intA z19)])), (41, (AV.agg [(intA z30), (intA z31), (intA z32), (intA z33), (intA z34), (intA z35)])), (42, (AV.agg [(intA b0_0), (intA b0_1)])), (43, (boolA b38)), (44, t7), (45, (intA z40)), (15, (intA z40)), (46, (intA z40)), (47, (boolA (decide (z40 > (0))))), (48, (boolA true)), (49, t7), (50, (intA z40)), (51, (intA (IntKind.wrap .i64 (z40 - (1))))), (52, v41), (53, v42), (54, (intA z44)), (55, (intA t10)), (56, (boolA (z44 == t10))), (57, (boolA (z44 == t10))), (58, t7), (59, (intA z40)), (60, (intA (IntKind.wrap .i64 (z40 - (1))))), (61, (intA t10)), (62, (intA (IntKind.wrap .i64 (t10 + (1))))), (63, v45), (64, v46), (26, (intA t10)), (27, (intA (IntKind.wrap .i64 (t10 + (1)))))], (mpushs ((100144, some ⟨[(intA z30), (intA z31), (intA z32), (intA z33), (intA z34), (intA z35)], 78⟩) :: (100144, some ⟨[(intA (0)), (intA (0)), (intA (0)), (intA (0)), (intA (0)), (intA (0))], 78⟩) :: (100072, some ⟨[(intA z14), (intA z15), (intA z16), (intA z17), (intA z18), (intA z19)], 78⟩) :: (100072, some ⟨[(intA (0)), (intA (0)), (intA (0)), (intA (0)), (intA (0)), (intA (0))], 78⟩) :: (0, some ⟨[(intA b0_0), (intA b0_1)], 24⟩) :: m) d47), 100240⟩) else (
opP (bld [(intA (0)), (intA (0))] [(0, 1), (1, 1)] [(0, (intA t10)), (1, (intA (IntKind.wrap .i64 (t10 + (1)))))]) fun v48 =>
opN (bsl 100234 87 2 1 [(intA (0)), (intA (0))] [(0, v48)]) ((100144, some ⟨[(intA z30), (intA z31), (intA z32), (intA z33), (intA z34), (intA z35)], 78⟩) :: (100144, some ⟨[(intA (0)), (intA (0)), (intA (0)), (intA (0)), (intA (0)), (intA (0))], 78⟩) :: (100072, some ⟨[(intA z14), (intA z15), (intA z16), (intA z17), (intA z18), (intA z19)], 78⟩) :: (100072, some ⟨[(intA (0)), (intA (0)), (intA (0)), (intA (0)), (intA (0)), (intA (0))], 78⟩) :: (0, some ⟨[(intA b0_0), (intA b0_1)], 24⟩) :: m) fun v49 m49 =>
opN (app (mget m49) 87 2 16 [(intA (0)), (intA (0))] 100235 t7 v49) m49 fun v50 m50 =>
N0 ⟨[(0, t0), (1, t1), (5, (AV.ptr 0 0)), (6, t6), (7, v50), (9, (intA t9)), (10, (intA (IntKind.wrap .i64 (t10 + (1))))), (23, (intA t10)), (24, (intA t9)), (25, (boolA (decide (t10 ≤ t9)))), (29, t0), (30, (intA t10)), (31, (AV.tup [(AV.agg [(intA z14), (intA z15), (intA z16), (intA z17), (intA z18), (intA z19)]), (intA z20)])), (28, (AV.tup [(AV.agg [(intA z14), (intA z15), (intA z16), (intA z17), (intA z18), (intA z19)]), (intA z20)])), (32, (AV.agg [(intA z14), (intA z15), (intA z16), (intA z17), (intA z18), (intA z19)])), (33, (intA z20)), (11, (AV.ptr 100072 0)), (12, (intA z20)), (35, t1), (36, (intA t10)), (37, (AV.tup [(AV.agg [(intA z30), (intA z31), (intA z32), (intA z33), (intA z34), (intA z35)]), (intA z36)])), (34, (AV.tup [(AV.agg [(intA z30), (intA z31), (intA z32), (intA z33), (intA z34), (intA z35)]), (intA z36)])), (38, (AV.agg [(intA z30), (intA z31), (intA z32), (intA z33), (intA z34), (intA z35)])), (39, (intA z36)), (13, (AV.ptr 100144 0)), (14, (intA z36)), (40, (AV.agg [(intA z14), (intA z15), (intA z16), (intA z17), (intA z18), (intA z19)])), (41, (AV.agg [(intA z30), (intA z31), (intA z32), (intA z33), (intA z34), (intA z35)])), (42, (AV.agg [(intA b0_0), (intA b0_1)])), (43, (boolA b38)), (44, t7), (45, (intA z40)), (15, (intA z40)), (46, (intA z40)), (47, (boolA (decide (z40 > (0))))), (48, (boolA true)), (49, t7), (50, (intA z40)), (51, (intA (IntKind.wrap .i64 (z40 - (1))))), (52, v41), (53, v42), (54, (intA z44)), (55, (intA t10)), (56, (boolA (z44 == t10))), (57, (boolA (z44 == t10))), (65, t7), (66, (intA t10)), (67, (intA t10)), (68, (intA (IntKind.wrap .i64 (t10 + (1))))), (69, v48), (70, v49), (71, v50), (26, (intA t10)), (27, (intA (IntKind.wrap .i64 (t10 + (1)))))], m50, 100240⟩)) else (
opP (bld [(intA (0)), (intA (0))] [(0, 1), (1, 1)] [(0, (intA t10)), (1, (intA (IntKind.wrap .i64 (t10 + (1)))))]) fun v51 =>
opN (bsl 100226 87 2 1 [(intA (0)), (intA (0))] [(0, v51)]) ((100144, some ⟨[(intA z30), (intA z31), (intA z32), (intA z33), (intA z34), (intA z35)], 78⟩) :: (100144, some ⟨[(intA (0)), (intA (0)), (intA (0)), (intA (0)), (intA (0)), (intA (0))], 78⟩) :: (100072, some ⟨[(intA z14), (intA z15), (intA z16), (intA z17), (intA z18), (intA z19)], 78⟩) :: (100072, some ⟨[(intA (0)), (intA (0)), (intA (0)), (intA (0)), (intA (0)), (intA (0))], 78⟩) :: (0, some ⟨[(intA b0_0), (intA b0_1)], 24⟩) :: m) fun v52 m52 =>
opN (app (mget m52) 87 2 16 [(intA (0)), (intA (0))] 100227 t7 v52) m52 fun v53 m53 =>
N0 ⟨[(0, t0), (1, t1), (5, (AV.ptr 0 0)), (6, t6), (7, v53), (9, (intA t9)), (10, (intA (IntKind.wrap .i64 (t10 + (1))))), (23, (intA t10)), (24, (intA t9)), (25, (boolA (decide (t10 ≤ t9)))), (29, t0), (30, (intA t10)), (31, (AV.tup [(AV.agg [(intA z14), (intA z15), (intA z16), (intA z17), (intA z18), (intA z19)]), (intA z20)])), (28, (AV.tup [(AV.agg [(intA z14), (intA z15), (intA z16), (intA z17), (intA z18), (intA z19)]), (intA z20)])), (32, (AV.agg [(intA z14), (intA z15), (intA z16), (intA z17), (intA z18), (intA z19)])), (33, (intA z20)), (11, (AV.ptr 100072 0)), (12, (intA z20)), (35, t1), (36, (intA t10)), (37, (AV.tup [(AV.agg [(intA z30), (intA z31), (intA z32), (intA z33), (intA z34), (intA z35)]), (intA z36)])), (34, (AV.tup [(AV.agg [(intA z30), (intA z31), (intA z32), (intA z33), (intA z34), (intA z35)]), (intA z36)])), (38, (AV.agg [(intA z30), (intA z31), (intA z32), (intA z33), (intA z34), (intA z35)])), (39, (intA z36)), (13, (AV.ptr 100144 0)), (14, (intA z36)), (40, (AV.agg [(intA z14), (intA z15), (intA z16), (intA z17), (intA z18), (intA z19)])), (41, (AV.agg [(intA z30), (intA z31), (intA z32), (intA z33), (intA z34), (intA z35)])), (42, (AV.agg [(intA b0_0), (intA b0_1)])), (43, (boolA b38)), (44, t7), (45, (intA z40)), (15, (intA z40)), (46, (intA z40)), (47, (boolA (decide (z40 > (0))))), (48, (boolA false)), (49, (AV.tup [])), (50, (AV.tup [])), (51, (AV.tup [])), (52, (AV.tup [])), (53, (AV.tup [])), (54, (AV.tup [])), (55, (AV.tup [])), (56, (AV.tup [])), (57, (boolA false)), (65, t7), (66, (intA t10)), (67, (intA t10)), (68, (intA (IntKind.wrap .i64 (t10 + (1))))), (69, v51), (70, v52), (71, v53), (26, (intA t10)), (27, (intA (IntKind.wrap .i64 (t10 + (1)))))], m53, 100232⟩))) else (
retL R ((0, some ⟨[(intA b0_0), (intA b0_1)], 24⟩) :: m) [some t7])
theorem B38_0_eq (t0 : AV) (t1 : AV) (t6 : AV) (t7 : AV) (t9 : Int) (t10 : Int) (b0_0 : Int) (b0_1 : Int) (m : Mem) (R : AV → Mem → Prop) (N0 : St → Prop) : W Try.prog KK 73 0 c38_0 (h38_0 t0 t1 t6 t7 t9 t10 b0_0 b0_1 m) (qq38_0 R N0) = B38_0 t0 t1 t6 t7 t9 t10 b0_0 b0_1 m R N0 := by kernel_rfl
theorem L38_0 (R : AV → Mem → Prop) {σ : Type} (I : σ → Prop) (t0 : σ → AV) (t1 : σ → AV) (t6 : σ → AV) (t7 : σ → AV) (t9 : σ → Int) (t10 : σ → Int) (b0_0 : σ → Int) (b0_1 : σ → Int) (m : σ → Mem) (μ : σ → Nat) (step : ∀ x, I x → B38_0 (t0 x) (t1 x) (t6 x) (t7 x) (t9 x) (t10 x) (b0_0 x) (b0_1 x) (m x) R (fun s' => ∃ y, I y ∧ μ y < μ x ∧ Weak KK 73 0 s' (h38_0 (t0 y) (t1 y) (t6 y) (t7 y) (t9 y) (t10 y) (b0_0 y) (b0_1 y) (m y)))) (x : σ) (hx : I x) {s : St} (hw : Weak KK 73 0 s (h38_0 (t0 x) (t1 x) (t6 x) (t7 x) (t9 x) (t10 x) (b0_0 x) (b0_1 x) (m x))) : Tri Try.prog KK 73 0 (.loop c38_0) s (q38_0 R) :=
  Tri.weak hw (Tri.loops fol I (fun x => h38_0 (t0 x) (t1 x) (t6 x) (t7 x) (t9 x) (t10 x) (b0_0 x) (b0_1 x) (m x)) μ (fun x hx => (B38_0_eq (t0 x) (t1 x) (t6 x) (t7 x) (t9 x) (t10 x) (b0_0 x) (b0_1 x) (m x) R _).mpr (step x hx)) x hx)
noncomputable def F38 (a0 : AV) (a1 : AV) (a2_0 : Int) (a2_1 : Int) (R : AV → Mem → Prop) : Prop :=
callQ Try.prog KK.gl ((0, some ⟨[(intA a2_0), (intA a2_1)], 24⟩) :: []) 47 [a0, a1] fun v0 =>
exT2 v0 fun c1 c2 =>
ex_i64 c1 fun z3 =>
ex_i64 c2 fun z4 =>
Tri Try.prog KK 73 0 (.loop c38_0) ⟨[(0, a0), (1, a1), (2, (AV.agg [(intA a2_0), (intA a2_1)])), (5, (AV.ptr 0 0)), (6, AV.nils), (7, AV.nils), (17, a0), (18, a1), (19, (AV.tup [(intA z3), (intA z4)])), (16, (AV.tup [(intA z3), (intA z4)])), (20, (intA z3)), (21, (intA z4)), (8, (intA z3)), (9, (intA z4)), (22, (intA z3)), (10, (intA z3))], ((0, some ⟨[(intA a2_0), (intA a2_1)], 24⟩) :: []), 76⟩ (q38_0 R)
theorem F38_own (a0 : AV) (a1 : AV) (a2_0 : Int) (a2_1 : Int) (R : AV → Mem → Prop) (h : F38 a0 a1 a2_0 a2_1 R) : Own Try.prog KK.gl 38 [a0, a1, (AV.agg [(intA a2_0), (intA a2_1)])] R := own_of_F fol Try.func38 (code := c38) (by kernel_rfl) (by kernel_rfl) (by kernel_rfl) (X := F38 a0 a1 a2_0 a2_1 R) (by kernel_rfl) h
/- skyway/probe.Pair -/
noncomputable def c52 : Code := ((Try.f52).body).getD .skip
noncomputable def q52 (R : AV → Mem → Prop) : AExit → St → Prop := retQ Try.prog Try.f52 R
noncomputable def F52 (a0 : AV) (a1 : AV) (a2_0 : Int) (a2_1 : Int) (R : AV → Mem → Prop) : Prop :=
opN (bsl 6 37 1 2 [AV.nils] [(0, a0), (1, a1)]) ((0, some ⟨[(intA a2_0), (intA a2_1)], 24⟩) :: []) fun v0 m0 =>
callQ Try.prog KK.gl m0 37 [(AV.agg [(intA a2_0), (intA a2_1)]), v0] fun v1 =>
ex_i64 v1 fun z2 =>
bif (z2 != (0)) then (
retL R m0 [some AV.nils, some (intA z2)]) else (
opP (ldA (mget m0) 2 (AV.ptr 0 0)) fun v3 =>
exA2 v3 fun c4 c5 =>
ex_i64 c4 fun z6 =>
ex_i64 c5 fun z7 =>
callQ Try.prog KK.gl m0 38 [a0, a1, (AV.agg [(intA z6), (intA z7)])] fun v8 =>
retL R m0 [some v8, some (intA (0))])
theorem F52_own (a0 : AV) (a1 : AV) (a2_0 : Int) (a2_1 : Int) (R : AV → Mem → Prop) (h : F52 a0 a1 a2_0 a2_1 R) : Own Try.prog KK.gl 52 [a0, a1, (AV.agg [(intA a2_0), (intA a2_1)])] R := own_of_F fol Try.func52 (code := c52) (by kernel_rfl) (by kernel_rfl) (by kernel_rfl) (X := F52 a0 a1 a2_0 a2_1 R) (by kernel_rfl) h
/- skyway/probe.First -/
noncomputable def c42 : Code := ((Try.f42).body).getD .skip
noncomputable def q42 (R : AV → Mem → Prop) : AExit → St → Prop := retQ Try.prog Try.f42 R
noncomputable def F42 (a0 : AV) (a1 : AV) (a2_0 : Int) (a2_1 : Int) (R : AV → Mem → Prop) : Prop :=
callQ Try.prog KK.gl ((0, some ⟨[(intA a2_0), (intA a2_1)], 24⟩) :: []) 52 [a0, a1, (AV.agg [(intA a2_0), (intA a2_1)])] fun v0 =>
exT2 v0 fun c1 c2 =>
ex_i64 c2 fun z3 =>
bif (z3 != (0)) then (
retL R ((0, some ⟨[(intA a2_0), (intA a2_1)], 24⟩) :: []) [some (intA (0)), some (intA z3)]) else (
opP (lenS c1) fun v4 =>
ex_i64 v4 fun z5 =>
bif (z5 == (0)) then (
retL R ((0, some ⟨[(intA a2_0), (intA a2_1)], 24⟩) :: []) [some (intA (0)), some (intA (8))]) else (
opP (idxS 2 c1 (intA (0))) fun v6 =>
opP (fldO 0 v6) fun v7 =>
opP (ldS (mget ((0, some ⟨[(intA a2_0), (intA a2_1)], 24⟩) :: [])) v7) fun v8 =>
ex_i64 v8 fun z9 =>
retL R ((0, some ⟨[(intA a2_0), (intA a2_1)], 24⟩) :: []) [some (intA z9), some (intA (0))]))
theorem F42_own (a0 : AV) (a1 : AV) (a2_0 : Int) (a2_1 : Int) (R : AV → Mem → Prop) (h : F42 a0 a1 a2_0 a2_1 R) : Own Try.prog KK.gl 42 [a0, a1, (AV.agg [(intA a2_0), (intA a2_1)])] R := own_of_F fol Try.func42 (code := c42) (by kernel_rfl) (by kernel_rfl) (by kernel_rfl) (X := F42 a0 a1 a2_0 a2_1 R) (by kernel_rfl) h
/- cmp.isNaN[int] -/
noncomputable def c53 : Code := ((Try.f53).body).getD .skip
noncomputable def q53 (R : AV → Mem → Prop) : AExit → St → Prop := retQ Try.prog Try.f53 R
noncomputable def F53 (a0 : Int) (R : AV → Mem → Prop) : Prop :=
retL R [] [some (boolA (a0 != a0))]
theorem F53_own (a0 : Int) (R : AV → Mem → Prop) (h : F53 a0 R) : Own Try.prog KK.gl 53 [(intA a0)] R := own_of_F fol Try.func53 (code := c53) (by kernel_rfl) (by kernel_rfl) (by kernel_rfl) (X := F53 a0 R) (by kernel_rfl) h
/- cmp.Compare[int] -/
noncomputable def c44 : Code := ((Try.f44).body).getD .skip
noncomputable def q44 (R : AV → Mem → Prop) : AExit → St → Prop := retQ Try.prog Try.f44 R
noncomputable def F44 (a0 : Int) (a1 : Int) (R : AV → Mem → Prop) : Prop :=
callQ Try.prog KK.gl [] 53 [(intA a0)] fun v0 =>
exB v0 fun b1 =>
callQ Try.prog KK.gl [] 53 [(intA a1)] fun v2 =>
exB v2 fun b3 =>
bif b1 then (
bif b3 then (
retL R [] [some (intA (0))]) else (
retL R [] [some (intA (-1))])) else (
bif b3 then (
retL R [] [some (intA (1))]) else (
bif (decide (a0 < a1)) then (
retL R [] [some (intA (-1))]) else (
bif (decide (a0 > a1)) then (
retL R [] [some (intA (1))]) else (
retL R [] [some (intA (0))]))))
theorem F44_own (a0 : Int) (a1 : Int) (R : AV → Mem → Prop) (h : F44 a0 a1 R) : Own Try.prog KK.gl 44 [(intA a0), (intA a1)] R := own_of_F fol Try.func44 (code := c44) (by kernel_rfl) (by kernel_rfl) (by kernel_rfl) (X := F44 a0 a1 R) (by kernel_rfl) h
/- slices.Compare[[]int,int] -/
noncomputable def c32 : Code := ((Try.f32).body).getD .skip
noncomputable def q32 (R : AV → Mem → Prop) : AExit → St → Prop := retQ Try.prog Try.f32 R
noncomputable def c32_0 : Code := loopB c32 0
noncomputable def q32_0 (R : AV → Mem → Prop) : AExit → St → Prop := contW Try.prog KK 36 0 c32 0 (q32 R)
noncomputable def qq32_0 (R : AV → Mem → Prop) (N0 : St → Prop) : AExit → St → Prop := thenQ N0 (q32_0 R)
def h32_0 (t0 : AV) (t1 : AV) (t4 : Int) (t9 : AV) (t10 : Int) (t11 : Int) (m : Mem) : St := ⟨[(0, t0), (1, t1), (4, (intA t4)), (9, t9), (10, (intA t10)), (11, (intA t11))], m, 100000⟩
noncomputable def B32_0 (t0 : AV) (t1 : AV) (t4 : Int) (t9 : AV) (t10 : Int) (t11 : Int) (m : Mem) (R : AV → Mem → Prop) (N0 : St → Prop) : Prop :=
bif (decide (t11 < t10)) then (
opP (idxS 1 t9 (intA t11)) fun v2 =>
opP (ldS (mget m) v2) fun v3 =>
ex_i64 v3 fun z4 =>
opP (lenS t1) fun v5 =>
ex_i64 v5 fun z6 =>
bif (decide (t11 ≥ z6)) then (
retL R m [some (intA (1))]) else (
opP (idxS 1 t1 (intA t11)) fun v7 =>
opP (ldS (mget m) v7) fun v8 =>
ex_i64 v8 fun z9 =>
callQ Try.prog KK.gl m 44 [(intA z4), (intA z9)] fun v10 =>
ex_i64 v10 fun z11 =>
bif (z11 != (0)) then (
retL R m [some (intA z11)]) else (
N0 ⟨[(0, t0), (1, t1), (4, (intA t4)), (9, t9), (10, (intA t10)), (11, (intA (IntKind.wrap .i64 (t11 + (1))))), (12, (boolA (decide (t11 < t10)))), (13, (intA t11)), (14, v2), (15, (intA z4)), (5, (intA t11)), (6, (intA z4)), (16, (intA t11)), (17, t1), (18, (intA z6)), (19, (boolA (decide (t11 ≥ z6)))), (20, t1), (21, (intA t11)), (22, v7), (23, (intA z9)), (7, (intA z9)), (24, (intA z4)), (25, (intA z9)), (26, (intA z11)), (8, (intA z11)), (27, (intA z11)), (28, (boolA (z11 != (0)))), (30, (intA (IntKind.wrap .i64 (t11 + (1)))))], m, 100086⟩))) else (
opP (lenS t0) fun v12 =>
ex_i64 v12 fun z13 =>
opP (lenS t1) fun v14 =>
ex_i64 v14 fun z15 =>
bif (decide (z13 < z15)) then (
retL R m [some (intA (-1))]) else (
retL R m [some (intA (0))]))
theorem B32_0_eq (t0 : AV) (t1 : AV) (t4 : Int) (t9 : AV) (t10 : Int) (t11 : Int) (m : Mem) (R : AV → Mem → Prop) (N0 : St → Prop) : W Try.prog KK 36 0 c32_0 (h32_0 t0 t1 t4 t9 t10 t11 m) (qq32_0 R N0) = B32_0 t0 t1 t4 t9 t10 t11 m R N0 := by kernel_rfl
theorem L32_0 (R : AV → Mem → Prop) {σ : Type} (I : σ → Prop) (t0 : σ → AV) (t1 : σ → AV) (t4 : σ → Int) (t9 : σ → AV) (t10 : σ → Int) (t11 : σ → Int) (m : σ → Mem) (μ : σ → Nat) (step : ∀ x, I x → B32_0 (t0 x) (t1 x) (t4 x) (t9 x) (t10 x) (t11 x) (m x) R (fun s' => ∃ y, I y ∧ μ y < μ x ∧ Weak KK 36 0 s' (h32_0 (t0 y) (t1 y) (t4 y) (t9 y) (t10 y) (t11 y) (m y)))) (x : σ) (hx : I x) {s : St} (hw : Weak KK 36 0 s (h32_0 (t0 x) (t1 x) (t4 x) (t9 x) (t10 x) (t11 x) (m x))) : Tri Try.prog KK 36 0 (.loop c32_0) s (q32_0 R) :=
  Tri.weak hw (Tri.loops fol I (fun x => h32_0 (t0 x) (t1 x) (t4 x) (t9 x) (t10 x) (t11 x) (m x)) μ (fun x hx => (B32_0_eq (t0 x) (t1 x) (t4 x) (t9 x) (t10 x) (t11 x) (m x) R _).mpr (step x hx)) x hx)
noncomputable def F32 (a0 : AV) (a1 : AV) (R : AV → Mem → Prop) : Prop :=
opP (lenS a0) fun v0 =>
ex_i64 v0 fun z1 =>
Tri Try.prog KK 36 0 (.loop c32_0) ⟨[(0, a0), (1, a1), (4, (intA (0))), (9, a0), (10, (intA z1)), (11, (intA (0)))], [], 4⟩ (q32_0 R)
theorem F32_own (a0 : AV) (a1 : AV) (R : AV → Mem → Prop) (h : F32 a0 a1 R) : Own Try.prog KK.gl 32 [a0, a1] R := own_of_F fol Try.func32 (code := c32) (by kernel_rfl) (by kernel_rfl) (by kernel_rfl) (X := F32 a0 a1 R) (by kernel_rfl) h
/- slices.Equal[[]int,int] -/
noncomputable def c22 : Code := ((Try.f22).body).getD .skip
noncomputable def q22 (R : AV → Mem → Prop) : AExit → St → Prop := retQ Try.prog Try.f22 R
noncomputable def c22_0 : Code := loopB c22 0
noncomputable def q22_0 (R : AV → Mem → Prop) : AExit → St → Prop := contW Try.prog KK 26 0 c22 0 (q22 R)
noncomputable def qq22_0 (R : AV → Mem → Prop) (N0 : St → Prop) : AExit → St → Prop := thenQ N0 (q22_0 R)
def h22_0 (t0 : AV) (t1 : AV) (t4 : Bool) (t12 : Int) (t13 : Int) (m : Mem) : St := ⟨[(0, t0), (1, t1), (4, (boolA t4)), (12, (intA t12)), (13, (intA t13))], m, 100000⟩
noncomputable def B22_0 (t0 : AV) (t1 : AV) (t4 : Bool) (t12 : Int) (t13 : Int) (m : Mem) (R : AV → Mem → Prop) (N0 : St → Prop) : Prop :=
bif (decide (t13 < t12)) then (
opP (idxS 1 t0 (intA t13)) fun v6 =>
opP (ldS (mget m) v6) fun v7 =>
ex_i64 v7 fun z8 =>
opP (idxS 1 t1 (intA t13)) fun v9 =>
opP (ldS (mget m) v9) fun v10 =>
ex_i64 v10 fun z11 =>
bif (z8 != z11) then (
retL R m [some (boolA false)]) else (
N0 ⟨[(0, t0), (1, t1), (4, (boolA t4)), (12, (intA t12)), (13, (intA (IntKind.wrap .i64 (t13 + (1))))), (14, (boolA (decide (t13 < t12)))), (15, (intA t13)), (5, (intA t13)), (16, t0), (17, (intA t13)), (18, v6), (19, (intA z8)), (20, t1), (21, (intA t13)), (22, v9), (23, (intA z11)), (24, (boolA (z8 != z11))), (25, (intA (IntKind.wrap .i64 (t13 + (1)))))], m, 100014⟩)) else (
retL R m [some (boolA true)])
theorem B22_0_eq (t0 : AV) (t1 : AV) (t4 : Bool) (t12 : Int) (t13 : Int) (m : Mem) (R : AV → Mem → Prop) (N0 : St → Prop) : W Try.prog KK 26 0 c22_0 (h22_0 t0 t1 t4 t12 t13 m) (qq22_0 R N0) = B22_0 t0 t1 t4 t12 t13 m R N0 := by kernel_rfl
theorem L22_0 (R : AV → Mem → Prop) {σ : Type} (I : σ → Prop) (t0 : σ → AV) (t1 : σ → AV) (t4 : σ → Bool) (t12 : σ → Int) (t13 : σ → Int) (m : σ → Mem) (μ : σ → Nat) (step : ∀ x, I x → B22_0 (t0 x) (t1 x) (t4 x) (t12 x) (t13 x) (m x) R (fun s' => ∃ y, I y ∧ μ y < μ x ∧ Weak KK 26 0 s' (h22_0 (t0 y) (t1 y) (t4 y) (t12 y) (t13 y) (m y)))) (x : σ) (hx : I x) {s : St} (hw : Weak KK 26 0 s (h22_0 (t0 x) (t1 x) (t4 x) (t12 x) (t13 x) (m x))) : Tri Try.prog KK 26 0 (.loop c22_0) s (q22_0 R) :=
  Tri.weak hw (Tri.loops fol I (fun x => h22_0 (t0 x) (t1 x) (t4 x) (t12 x) (t13 x) (m x)) μ (fun x hx => (B22_0_eq (t0 x) (t1 x) (t4 x) (t12 x) (t13 x) (m x) R _).mpr (step x hx)) x hx)
noncomputable def F22 (a0 : AV) (a1 : AV) (R : AV → Mem → Prop) : Prop :=
opP (lenS a0) fun v0 =>
ex_i64 v0 fun z1 =>
opP (lenS a1) fun v2 =>
ex_i64 v2 fun z3 =>
bif (z1 != z3) then (
retL R [] [some (boolA false)]) else (
opP (lenS a0) fun v4 =>
ex_i64 v4 fun z5 =>
Tri Try.prog KK 26 0 (.loop c22_0) ⟨[(0, a0), (1, a1), (4, (boolA false)), (6, a0), (7, (intA z1)), (8, a1), (9, (intA z3)), (10, (boolA (z1 != z3))), (11, a0), (12, (intA z5)), (13, (intA (0)))], [], 9⟩ (q22_0 R))
theorem F22_own (a0 : AV) (a1 : AV) (R : AV → Mem → Prop) (h : F22 a0 a1 R) : Own Try.prog KK.gl 22 [a0, a1] R := own_of_F fol Try.func22 (code := c22) (by kernel_rfl) (by kernel_rfl) (by kernel_rfl) (X := F22 a0 a1 R) (by kernel_rfl) h
/- skyway/skywaykeep3.small -/
noncomputable def c12 : Code := ((Try.f12).body).getD .skip
noncomputable def q12 (R : AV → Mem → Prop) : AExit → St → Prop := retQ Try.prog Try.f12 R
noncomputable def c12_0 : Code := loopB c12 0
noncomputable def q12_0 (R : AV → Mem → Prop) : AExit → St → Prop := contW Try.prog KK 41 0 c12 0 (q12 R)
noncomputable def qq12_0 (R : AV → Mem → Prop) (N0 : St → Prop) : AExit → St → Prop := thenQ N0 (q12_0 R)
def h12_0 (t2 : Int) (t6 : Bool) (t13 : AV) (t14 : Int) (t15 : Int) (m : Mem) : St := ⟨[(2, (intA t2)), (6, (boolA t6)), (13, t13), (14, (intA t14)), (15, (intA t15))], m, 100000⟩
noncomputable def B12_0 (t2 : Int) (t6 : Bool) (t13 : AV) (t14 : Int) (t15 : Int) (m : Mem) (R : AV → Mem → Prop) (N0 : St → Prop) : Prop :=
bif (decide (t15 < t14)) then (
opP (idxS 1 t13 (intA t15)) fun v4 =>
opP (ldS (mget m) v4) fun v5 =>
callQ Try.prog KK.gl m 33 [v5] fun v6 =>
ex_i64 v6 fun z7 =>
bif (z7 != (0)) then (
retL R m [some (boolA false)]) else (
opP (lenS v5) fun v8 =>
ex_i64 v8 fun z9 =>
opP (idxS 6 v5 (intA (IntKind.wrap .i64 (z9 - (1))))) fun v10 =>
opP (fldO 0 v10) fun v11 =>
opP (fldO 0 v11) fun v12 =>
opP (ldS (mget m) v12) fun v13 =>
ex_i64 v13 fun z14 =>
opP (idxS 6 v5 (intA (0))) fun v15 =>
opP (fldO 0 v15) fun v16 =>
opP (fldO 0 v16) fun v17 =>
opP (ldS (mget m) v17) fun v18 =>
ex_i64 v18 fun z19 =>
bif (decide ((IntKind.wrap .i64 (z14 - z19)) > t2)) then (
retL R m [some (boolA false)]) else (
N0 ⟨[(2, (intA t2)), (6, (boolA t6)), (13, t13), (14, (intA t14)), (15, (intA (IntKind.wrap .i64 (t15 + (1))))), (16, (boolA (decide (t15 < t14)))), (17, v4), (18, v5), (8, v5), (19, v5), (20, (intA z7)), (21, (boolA (z7 != (0)))), (22, (boolA false)), (23, v5), (24, v5), (25, (intA z9)), (26, (intA (IntKind.wrap .i64 (z9 - (1))))), (27, v10), (28, v11), (29, v12), (30, (intA z14)), (31, v5), (32, v15), (33, v16), (34, v17), (35, (intA z19)), (36, (intA (IntKind.wrap .i64 (z14 - z19)))), (37, (intA t2)), (38, (boolA (decide ((IntKind.wrap .i64 (z14 - z19)) > t2)))), (39, (boolA (decide ((IntKind.wrap .i64 (z14 - z19)) > t2)))), (40, (intA (IntKind.wrap .i64 (t15 + (1)))))], m, 100027⟩))) else (
retL R m [some (boolA true)])
theorem B12_0_eq (t2 : Int) (t6 : Bool) (t13 : AV) (t14 : Int) (t15 : Int) (m : Mem) (R : AV → Mem → Prop) (N0 : St → Prop) : W Try.prog KK 41 0 c12_0 (h12_0 t2 t6 t13 t14 t15 m) (qq12_0 R N0) = B12_0 t2 t6 t13 t14 t15 m R N0 := by kernel_rfl
theorem L12_0 (R : AV → Mem → Prop) {σ : Type} (I : σ → Prop) (t2 : σ → Int) (t6 : σ → Bool) (t13 : σ → AV) (t14 : σ → Int) (t15 : σ → Int) (m : σ → Mem) (μ : σ → Nat) (step : ∀ x, I x → B12_0 (t2 x) (t6 x) (t13 x) (t14 x) (t15 x) (m x) R (fun s' => ∃ y, I y ∧ μ y < μ x ∧ Weak KK 41 0 s' (h12_0 (t2 y) (t6 y) (t13 y) (t14 y) (t15 y) (m y)))) (x : σ) (hx : I x) {s : St} (hw : Weak KK 41 0 s (h12_0 (t2 x) (t6 x) (t13 x) (t14 x) (t15 x) (m x))) : Tri Try.prog KK 41 0 (.loop c12_0) s (q12_0 R) :=
  Tri.weak hw (Tri.loops fol I (fun x => h12_0 (t2 x) (t6 x) (t13 x) (t14 x) (t15 x) (m x)) μ (fun x hx => (B12_0_eq (t2 x) (t6 x) (t13 x) (t14 x) (t15 x) (m x) R _).mpr (step x hx)) x hx)
noncomputable def F12 (a0 : AV) (a1 : Int) (a2 : Int) (R : AV → Mem → Prop) : Prop :=
opP (lenS a0) fun v0 =>
ex_i64 v0 fun z1 =>
bif (decide (z1 > a1)) then (
retL R [] [some (boolA false)]) else (
opP (lenS a0) fun v2 =>
ex_i64 v2 fun z3 =>
Tri Try.prog KK 41 0 (.loop c12_0) ⟨[(0, a0), (1, (intA a1)), (2, (intA a2)), (6, (boolA false)), (9, a0), (10, (intA z1)), (11, (intA a1)), (12, (boolA (decide (z1 > a1)))), (13, a0), (14, (intA z3)), (15, (intA (0)))], [], 8⟩ (q12_0 R))
theorem F12_own (a0 : AV) (a1 : Int) (a2 : Int) (R : AV → Mem → Prop) (h : F12 a0 a1 a2 R) : Own Try.prog KK.gl 12 [a0, (intA a1), (intA a2)] R := own_of_F fol Try.func12 (code := c12) (by kernel_rfl) (by kernel_rfl) (by kernel_rfl) (X := F12 a0 a1 a2 R) (by kernel_rfl) h
/- skyway/skywaykeep3.few -/
noncomputable def c8 : Code := ((Try.f8).body).getD .skip
noncomputable def q8 (R : AV → Mem → Prop) : AExit → St → Prop := retQ Try.prog Try.f8 R
noncomputable def c8_0 : Code := loopB c8 0
noncomputable def q8_0 (R : AV → Mem → Prop) : AExit → St → Prop := contW Try.prog KK 35 0 c8 0 (q8 R)
noncomputable def qq8_0 (R : AV → Mem → Prop) (N0 : St → Prop) : AExit → St → Prop := thenQ N0 (q8_0 R)
def h8_0 (t2 : Bool) (t3 : Int) (t8 : AV) (t9 : Int) (t10 : Int) (m : Mem) : St := ⟨[(2, (boolA t2)), (3, (intA t3)), (8, t8), (9, (intA t9)), (10, (intA t10))], m, 100000⟩
noncomputable def c8_0_0 : Code := loopB c8_0 0
noncomputable def q8_0_0 (R : AV → Mem → Prop) (N0 : St → Prop) : AExit → St → Prop := contW Try.prog KK 35 0 c8_0 0 (qq8_0 R N0)
noncomputable def qq8_0_0 (R : AV → Mem → Prop) (N0 : St → Prop) (N1 : St → Prop) : AExit → St → Prop := thenQ N1 (q8_0_0 R N0)
def h8_0_0 (t2 : Bool) (t3 : Int) (t8 : AV) (t9 : Int) (t10 : Int) (t20 : AV) (t21 : Int) (t22 : Int) (m : Mem) : St := ⟨[(2, (boolA t2)), (3, (intA t3)), (8, t8), (9, (intA t9)), (10, (intA t10)), (20, t20), (21, (intA t21)), (22, (intA t22))], m, 200000⟩
noncomputable def B8_0 (t2 : Bool) (t3 : Int) (t8 : AV) (t9 : Int) (t10 : Int) (m : Mem) (R : AV → Mem → Prop) (N0 : St → Prop) : Prop :=
bif (decide (t10 < t9)) then (
opP (idxS 1 t8 (intA t10)) fun v2 =>
opP (ldS (mget m) v2) fun v3 =>
opP (lenS v3) fun v4 =>
ex_i64 v4 fun z5 =>
opP (opA Try.prog (.call ⟨.builtin .min, #[.tmp 0, .tmp 1], #[3, 3]⟩) 3 [(intA z5), (intA (9))] (mget m) 100007) fun v6 =>
ex_i64 v6 fun z7 =>
opP (opA Try.prog (.call ⟨.builtin .max, #[.tmp 0, .tmp 1], #[3, 3]⟩) 3 [(intA (1)), (intA z7)] (mget m) 100008) fun v8 =>
ex_i64 v8 fun z9 =>
opP (lenS v3) fun v10 =>
ex_i64 v10 fun z11 =>
Tri Try.prog KK 35 0 (.loop c8_0_0) ⟨[(2, (boolA t2)), (3, (intA (IntKind.wrap .i64 (t3 * z9)))), (8, t8), (9, (intA t9)), (10, (intA t10)), (11, (boolA (decide (t10 < t9)))), (12, v2), (13, v3), (5, v3), (14, (intA t3)), (15, v3), (16, (intA z5)), (17, (intA z7)), (18, (intA z9)), (19, (intA (IntKind.wrap .i64 (t3 * z9)))), (20, v3), (21, (intA z11)), (22, (intA (0)))], m, 100014⟩ (q8_0_0 R N0)) else (
retL R m [some (boolA true)])
theorem B8_0_eq (t2 : Bool) (t3 : Int) (t8 : AV) (t9 : Int) (t10 : Int) (m : Mem) (R : AV → Mem → Prop) (N0 : St → Prop) : W Try.prog KK 35 0 c8_0 (h8_0 t2 t3 t8 t9 t10 m) (qq8_0 R N0) = B8_0 t2 t3 t8 t9 t10 m R N0 := by kernel_rfl
theorem L8_0 (R : AV → Mem → Prop) {σ : Type} (I : σ → Prop) (t2 : σ → Bool) (t3 : σ → Int) (t8 : σ → AV) (t9 : σ → Int) (t10 : σ → Int) (m : σ → Mem) (μ : σ → Nat) (step : ∀ x, I x → B8_0 (t2 x) (t3 x) (t8 x) (t9 x) (t10 x) (m x) R (fun s' => ∃ y, I y ∧ μ y < μ x ∧ Weak KK 35 0 s' (h8_0 (t2 y) (t3 y) (t8 y) (t9 y) (t10 y) (m y)))) (x : σ) (hx : I x) {s : St} (hw : Weak KK 35 0 s (h8_0 (t2 x) (t3 x) (t8 x) (t9 x) (t10 x) (m x))) : Tri Try.prog KK 35 0 (.loop c8_0) s (q8_0 R) :=
  Tri.weak hw (Tri.loops fol I (fun x => h8_0 (t2 x) (t3 x) (t8 x) (t9 x) (t10 x) (m x)) μ (fun x hx => (B8_0_eq (t2 x) (t3 x) (t8 x) (t9 x) (t10 x) (m x) R _).mpr (step x hx)) x hx)
noncomputable def B8_0_0 (t2 : Bool) (t3 : Int) (t8 : AV) (t9 : Int) (t10 : Int) (t20 : AV) (t21 : Int) (t22 : Int) (m : Mem) (R : AV → Mem → Prop) (N0 : St → Prop) (N1 : St → Prop) : Prop :=
bif (decide (t22 < t21)) then (
opP (idxS 2 t20 (intA t22)) fun v12 =>
opP (ldA (mget m) 2 v12) fun v13 =>
exA2 v13 fun c14 c15 =>
ex_i64 c14 fun z16 =>
chk (isCell c15) <| opN (bsl 200007 37 1 1 [AV.nils] [(0, c15)]) ((200003, some ⟨[(intA z16), c15], 39⟩) :: (200003, some ⟨[(intA (0)), AV.nils], 39⟩) :: m) fun v17 m17 =>
callQ Try.prog KK.gl m17 12 [v17, (intA (1)), (intA (100))] fun v18 =>
exB v18 fun b19 =>
bif (!b19) then (
retL R m17 [some (boolA false)]) else (
N1 ⟨[(2, (boolA t2)), (3, (intA t3)), (8, t8), (9, (intA t9)), (10, (intA t10)), (20, t20), (21, (intA t21)), (22, (intA (IntKind.wrap .i64 (t22 + (1))))), (23, (boolA (decide (t22 < t21)))), (24, v12), (25, (AV.agg [(intA z16), c15])), (7, (AV.ptr 200003 0)), (26, (AV.ptr 200003 1)), (27, c15), (28, v17), (29, (boolA b19)), (30, (boolA (!b19))), (31, (intA (IntKind.wrap .i64 (t22 + (1)))))], m17, 200075⟩)) else (
bif (decide (t3 > (200))) then (
retL R m [some (boolA false)]) else (
N0 ⟨[(2, (boolA t2)), (3, (intA t3)), (8, t8), (9, (intA t9)), (10, (intA (IntKind.wrap .i64 (t10 + (1))))), (20, t20), (21, (intA t21)), (22, (intA t22)), (23, (boolA (decide (t22 < t21)))), (32, (intA t3)), (33, (boolA (decide (t3 > (200))))), (34, (intA (IntKind.wrap .i64 (t10 + (1)))))], m, 200005⟩))
theorem B8_0_0_eq (t2 : Bool) (t3 : Int) (t8 : AV) (t9 : Int) (t10 : Int) (t20 : AV) (t21 : Int) (t22 : Int) (m : Mem) (R : AV → Mem → Prop) (N0 : St → Prop) (N1 : St → Prop) : W Try.prog KK 35 0 c8_0_0 (h8_0_0 t2 t3 t8 t9 t10 t20 t21 t22 m) (qq8_0_0 R N0 N1) = B8_0_0 t2 t3 t8 t9 t10 t20 t21 t22 m R N0 N1 := by kernel_rfl
theorem L8_0_0 (R : AV → Mem → Prop) (N0 : St → Prop) {σ : Type} (I : σ → Prop) (t2 : σ → Bool) (t3 : σ → Int) (t8 : σ → AV) (t9 : σ → Int) (t10 : σ → Int) (t20 : σ → AV) (t21 : σ → Int) (t22 : σ → Int) (m : σ → Mem) (μ : σ → Nat) (step : ∀ x, I x → B8_0_0 (t2 x) (t3 x) (t8 x) (t9 x) (t10 x) (t20 x) (t21 x) (t22 x) (m x) R N0 (fun s' => ∃ y, I y ∧ μ y < μ x ∧ Weak KK 35 0 s' (h8_0_0 (t2 y) (t3 y) (t8 y) (t9 y) (t10 y) (t20 y) (t21 y) (t22 y) (m y)))) (x : σ) (hx : I x) {s : St} (hw : Weak KK 35 0 s (h8_0_0 (t2 x) (t3 x) (t8 x) (t9 x) (t10 x) (t20 x) (t21 x) (t22 x) (m x))) : Tri Try.prog KK 35 0 (.loop c8_0_0) s (q8_0_0 R N0) :=
  Tri.weak hw (Tri.loops fol I (fun x => h8_0_0 (t2 x) (t3 x) (t8 x) (t9 x) (t10 x) (t20 x) (t21 x) (t22 x) (m x)) μ (fun x hx => (B8_0_0_eq (t2 x) (t3 x) (t8 x) (t9 x) (t10 x) (t20 x) (t21 x) (t22 x) (m x) R N0 _).mpr (step x hx)) x hx)
noncomputable def F8 (a0 : AV) (R : AV → Mem → Prop) : Prop :=
opP (lenS a0) fun v0 =>
ex_i64 v0 fun z1 =>
Tri Try.prog KK 35 0 (.loop c8_0) ⟨[(0, a0), (2, (boolA false)), (3, (intA (1))), (8, a0), (9, (intA z1)), (10, (intA (0)))], [], 5⟩ (q8_0 R)
theorem F8_own (a0 : AV) (R : AV → Mem → Prop) (h : F8 a0 R) : Own Try.prog KK.gl 8 [a0] R := own_of_F fol Try.func8 (code := c8) (by kernel_rfl) (by kernel_rfl) (by kernel_rfl) (X := F8 a0 R) (by kernel_rfl) h
/- skyway/skywaykeep3.JointEither -/
noncomputable def c3 : Code := ((Try.f3).body).getD .skip
noncomputable def q3 (R : AV → Mem → Prop) : AExit → St → Prop := retQ Try.prog Try.f3 R
noncomputable def F3 (a0 : AV) (a1_0 : Int) (a1_1 : Int) (R : AV → Mem → Prop) : Prop :=
callQ Try.prog KK.gl ((0, some ⟨[(intA a1_0), (intA a1_1)], 24⟩) :: []) 7 [] fun v0 =>
exB v0 fun b1 =>
bif (!b1) then (
retL R ((0, some ⟨[(intA a1_0), (intA a1_1)], 24⟩) :: []) [some (boolA false)]) else (
callQ Try.prog KK.gl ((0, some ⟨[(intA a1_0), (intA a1_1)], 24⟩) :: []) 8 [a0] fun v2 =>
exB v2 fun b3 =>
bif (!b3) then (
retL R ((0, some ⟨[(intA a1_0), (intA a1_1)], 24⟩) :: []) [some (boolA true)]) else (
callW Try.prog KK.gl ((0, some ⟨[(intA a1_0), (intA a1_1)], 24⟩) :: []) 135 9 [a0, (AV.agg [(intA a1_0), (intA a1_1)])] fun v4 m4 =>
exT3 v4 fun c5 c6 c7 =>
ex_i64 c6 fun z8 =>
ex_i64 c7 fun z9 =>
opP (ldA (mget m4) 2 (AV.ptr 0 0)) fun v10 =>
exA2 v10 fun c11 c12 =>
ex_i64 c11 fun z13 =>
ex_i64 c12 fun z14 =>
callW Try.prog KK.gl m4 208 10 [a0, (AV.agg [(intA z13), (intA z14)])] fun v15 m15 =>
exT2 v15 fun c16 c17 =>
ex_i64 c17 fun z18 =>
bif (z9 == (0)) then (
bif (z18 == (11)) then (
opP (lenS c16) fun v19 =>
ex_i64 v19 fun z20 =>
bif (z20 == (0)) then (
opP (lenS c5) fun v21 =>
ex_i64 v21 fun z22 =>
opP (lenS a0) fun v23 =>
ex_i64 v23 fun z24 =>
retL R m15 [some (boolA (z22 == z24))]) else (
retL R m15 [some (boolA false)])) else (
retL R m15 [some (boolA false)])) else (
bif (z9 == (8)) then (
opP (lenS c5) fun v25 =>
ex_i64 v25 fun z26 =>
bif (z26 == (0)) then (
bif (z18 == (0)) then (
opP (ldA (mget m15) 2 (AV.ptr 0 0)) fun v27 =>
exA2 v27 fun c28 c29 =>
ex_i64 c28 fun z30 =>
ex_i64 c29 fun z31 =>
callW Try.prog KK.gl m15 292 11 [a0, (AV.agg [(intA z30), (intA z31)]), c16] fun v32 m32 =>
ex_i64 v32 fun z33 =>
bif (z33 == (0)) then (
retL R m32 [some (boolA true)]) else (
retL R m32 [some (boolA (z18 == (8)))])) else (
retL R m15 [some (boolA (z18 == (8)))])) else (
retL R m15 [some (boolA false)])) else (
bif (z18 == z9) then (
opP (lenS c16) fun v34 =>
ex_i64 v34 fun z35 =>
retL R m15 [some (boolA (z35 == (0)))]) else (
retL R m15 [some (boolA false)])))))
theorem F3_own (a0 : AV) (a1_0 : Int) (a1_1 : Int) (R : AV → Mem → Prop) (h : F3 a0 a1_0 a1_1 R) : Own Try.prog KK.gl 3 [a0, (AV.agg [(intA a1_0), (intA a1_1)])] R := own_of_F fol Try.func3 (code := c3) (by kernel_rfl) (by kernel_rfl) (by kernel_rfl) (X := F3 a0 a1_0 a1_1 R) (by kernel_rfl) h
/- skyway/skywaykeep3.pick -/
noncomputable def c14 : Code := ((Try.f14).body).getD .skip
noncomputable def q14 (R : AV → Mem → Prop) : AExit → St → Prop := retQ Try.prog Try.f14 R
noncomputable def F14 (a0 : Int) (a1 : Int) (R : AV → Mem → Prop) : Prop :=
opP (opA Try.prog (.convert 3 79 (.tmp 0)) 79 [(intA a0)] (mget []) 2) fun v0 =>
ex_u64 v0 fun z1 =>
opP (opA Try.prog (.convert 3 79 (.tmp 0)) 79 [(intA a1)] (mget []) 4) fun v2 =>
ex_u64 v2 fun z3 =>
opP (opA Try.prog (.binOp .rem 79 (.tmp 0) (.tmp 1) 79) 79 [(AV.sc (.int .u64 z1)), (AV.sc (.int .u64 z3))] (mget []) 5) fun v4 =>
ex_u64 v4 fun z5 =>
opP (opA Try.prog (.convert 79 3 (.tmp 0)) 3 [(AV.sc (.int .u64 z5))] (mget []) 6) fun v6 =>
ex_i64 v6 fun z7 =>
retL R [] [some (intA z7)]
theorem F14_own (a0 : Int) (a1 : Int) (R : AV → Mem → Prop) (h : F14 a0 a1 R) : Own Try.prog KK.gl 14 [(intA a0), (intA a1)] R := own_of_F fol Try.func14 (code := c14) (by kernel_rfl) (by kernel_rfl) (by kernel_rfl) (X := F14 a0 a1 R) (by kernel_rfl) h
/- skyway/skywaykeep3.JointNeeds -/
noncomputable def c5 : Code := ((Try.f5).body).getD .skip
noncomputable def q5 (R : AV → Mem → Prop) : AExit → St → Prop := retQ Try.prog Try.f5 R
noncomputable def c5_0 : Code := loopB c5 0
noncomputable def q5_0 (R : AV → Mem → Prop) : AExit → St → Prop := contW Try.prog KK 87 0 c5 0 (q5 R)
noncomputable def qq5_0 (R : AV → Mem → Prop) (N0 : St → Prop) : AExit → St → Prop := thenQ N0 (q5_0 R)
def h5_0 (t0 : AV) (t8 : Bool) (t75 : AV) (t76 : Int) (t77 : Int) (m : Mem) : St := ⟨[(0, t0), (5, (AV.ptr 0 0)), (8, (boolA t8)), (75, t75), (76, (intA t76)), (77, (intA t77))], m, 100000⟩
noncomputable def B5_0 (t0 : AV) (t8 : Bool) (t75 : AV) (t76 : Int) (t77 : Int) (m : Mem) (R : AV → Mem → Prop) (N0 : St → Prop) : Prop :=
bif (decide (t77 < t76)) then (
opP (idxS 1 t75 (intA t77)) fun v42 =>
opP (ldS (mget m) v42) fun v43 =>
opP (ldA (mget m) 2 (AV.ptr 0 0)) fun v44 =>
exA2 v44 fun c45 c46 =>
ex_i64 c45 fun z47 =>
ex_i64 c46 fun z48 =>
callW Try.prog KK.gl m 100007 11 [t0, (AV.agg [(intA z47), (intA z48)]), v43] fun v49 m49 =>
ex_i64 v49 fun z50 =>
bif (z50 != (1)) then (
retL R m49 [some (boolA false)]) else (
N0 ⟨[(0, t0), (5, (AV.ptr 0 0)), (8, (boolA t8)), (75, t75), (76, (intA t76)), (77, (intA (IntKind.wrap .i64 (t77 + (1))))), (78, (boolA (decide (t77 < t76)))), (79, v42), (80, v43), (15, v43), (81, t0), (82, (AV.agg [(intA z47), (intA z48)])), (83, v43), (84, (intA z50)), (85, (boolA (z50 != (1)))), (86, (intA (IntKind.wrap .i64 (t77 + (1)))))], m49, 100074⟩)) else (
retL R m [some (boolA true)])
theorem B5_0_eq (t0 : AV) (t8 : Bool) (t75 : AV) (t76 : Int) (t77 : Int) (m : Mem) (R : AV → Mem → Prop) (N0 : St → Prop) : W Try.prog KK 87 0 c5_0 (h5_0 t0 t8 t75 t76 t77 m) (qq5_0 R N0) = B5_0 t0 t8 t75 t76 t77 m R N0 := by kernel_rfl
theorem L5_0 (R : AV → Mem → Prop) {σ : Type} (I : σ → Prop) (t0 : σ → AV) (t8 : σ → Bool) (t75 : σ → AV) (t76 : σ → Int) (t77 : σ → Int) (m : σ → Mem) (μ : σ → Nat) (step : ∀ x, I x → B5_0 (t0 x) (t8 x) (t75 x) (t76 x) (t77 x) (m x) R (fun s' => ∃ y, I y ∧ μ y < μ x ∧ Weak KK 87 0 s' (h5_0 (t0 y) (t8 y) (t75 y) (t76 y) (t77 y) (m y)))) (x : σ) (hx : I x) {s : St} (hw : Weak KK 87 0 s (h5_0 (t0 x) (t8 x) (t75 x) (t76 x) (t77 x) (m x))) : Tri Try.prog KK 87 0 (.loop c5_0) s (q5_0 R) :=
  Tri.weak hw (Tri.loops fol I (fun x => h5_0 (t0 x) (t8 x) (t75 x) (t76 x) (t77 x) (m x)) μ (fun x hx => (B5_0_eq (t0 x) (t8 x) (t75 x) (t76 x) (t77 x) (m x) R _).mpr (step x hx)) x hx)
noncomputable def F5 (a0 : AV) (a1_0 : Int) (a1_1 : Int) (a2 : Int) (a3 : Int) (R : AV → Mem → Prop) : Prop :=
callQ Try.prog KK.gl ((0, some ⟨[(intA a1_0), (intA a1_1)], 24⟩) :: []) 7 [] fun v0 =>
exB v0 fun b1 =>
bif (!b1) then (
retL R ((0, some ⟨[(intA a1_0), (intA a1_1)], 24⟩) :: []) [some (boolA false)]) else (
callQ Try.prog KK.gl ((0, some ⟨[(intA a1_0), (intA a1_1)], 24⟩) :: []) 8 [a0] fun v2 =>
exB v2 fun b3 =>
bif (!b3) then (
retL R ((0, some ⟨[(intA a1_0), (intA a1_1)], 24⟩) :: []) [some (boolA true)]) else (
callW Try.prog KK.gl ((0, some ⟨[(intA a1_0), (intA a1_1)], 24⟩) :: []) 135 10 [a0, (AV.agg [(intA a1_0), (intA a1_1)])] fun v4 m4 =>
exT2 v4 fun c5 c6 =>
ex_i64 c6 fun z7 =>
bif (z7 != (0)) then (
opP (lenS c5) fun v8 =>
ex_i64 v8 fun z9 =>
retL R m4 [some (boolA (z9 == (0)))]) else (
opP (lenS c5) fun v10 =>
ex_i64 v10 fun z11 =>
bif (z11 == (0)) then (
opP (lenS c5) fun v12 =>
ex_i64 v12 fun z13 =>
retL R m4 [some (boolA (z13 == (0)))]) else (
opP (lenS c5) fun v14 =>
ex_i64 v14 fun z15 =>
callQ Try.prog KK.gl m4 14 [(intA a2), (intA z15)] fun v16 =>
ex_i64 v16 fun z17 =>
callW Try.prog KK.gl m4 280 17 [c5] fun v18 m18 =>
callW Try.prog KK.gl m18 347 16 [v18, (intA z17), (intA (IntKind.wrap .i64 (z17 + (1))))] fun v19 m19 =>
callF Try.prog KK.gl m19 413 17 [c5] fun v20 d20 ft20 =>
opM (idxS 2 c5 (intA z17)) fun v21 d21 =>
opM (ldA (look' (mpushs (mpushs m19 d20) d21) (topId v21 ++ ([]))) 2 v21) fun v22 d22 =>
exA2 v22 fun c23 c24 =>
ex_i64 c24 fun z25 =>
opM (bsl 419 49 2 1 [AV.nils, (intA (0))] [(0, (AV.agg [c23, (intA z25)]))]) fun v26 d26 =>
callF Try.prog KK.gl (mpushs (mpushs (mpushs (mpushs m19 d20) d21) d22) d26) 420 18 [v20, (intA z17), v26] fun v27 d27 ft27 =>
chk (confOk [0, 1, 0, 0, 0, 24, 56, 120, 255, 511] [⟨[], []⟩, ⟨d20, ft20⟩, ⟨[], []⟩, ⟨[], []⟩, ⟨[], []⟩, ⟨d21, []⟩, ⟨d22, (topId v21 ++ ([]))⟩, ⟨d26, []⟩, ⟨d27, ft27⟩, ⟨[], []⟩]) (callW Try.prog KK.gl (mpushs (mpushs (mpushs (mpushs (mpushs m19 d20) d21) d22) d26) d27) 423 17 [c5] fun v28 m28 =>
opM (idxS 2 v28 (intA z17)) fun v29 d29 =>
opM (fldO 0 v29) fun v30 d30 =>
opM (ldS (look' (mpushs (mpushs m28 d29) d30) (topId v30 ++ ([]))) v30) fun v31 d31 =>
opM (lenS v31) fun v32 d32 =>
ex_i64 v32 fun z33 =>
callF Try.prog KK.gl (mpushs (mpushs (mpushs (mpushs m28 d29) d30) d31) d32) 498 14 [(intA a3), (intA (5))] fun v34 d34 ft34 =>
ex_i64 v34 fun z35 =>
opM (idxS 2 v28 (intA z17)) fun v36 d36 =>
opM (fldO 1 v36) fun v37 d37 =>
storeW Try.prog (look' (mpushs (mpushs (mpushs (mpushs (mpushs (mpushs (mpushs m28 d29) d30) d31) d32) d34) d36) d37) (topId v37 ++ (topId (intA (IntKind.wrap .i64 ((IntKind.wrap .i64 (z33 - (1))) + z35))) ++ ([])))) 3 v37 (intA (IntKind.wrap .i64 ((IntKind.wrap .i64 (z33 - (1))) + z35))) fun v38 d38 =>
chk (confOk [0, 0, 0, 0, 12, 28, 60, 124, 252, 0, 512, 2044, 4095, 8191, 16383] [⟨[], []⟩, ⟨[], []⟩, ⟨[], []⟩, ⟨[], []⟩, ⟨d29, []⟩, ⟨d30, []⟩, ⟨d31, (topId v30 ++ ([]))⟩, ⟨d32, (topId v31 ++ ([]))⟩, ⟨[], []⟩, ⟨[], []⟩, ⟨d34, ft34⟩, ⟨[], []⟩, ⟨d36, []⟩, ⟨d37, []⟩, ⟨d38, (topId v37 ++ (topId (intA (IntKind.wrap .i64 ((IntKind.wrap .i64 (z33 - (1))) + z35))) ++ ([])))⟩]) (opN (bsl 506 31 1 3 [AV.nils] [(0, v19), (1, v27), (2, v28)]) (mpushs (mpushs (mpushs (mpushs (mpushs (mpushs (mpushs (mpushs m28 d29) d30) d31) d32) d34) d36) d37) d38) fun v39 m39 =>
opP (lenS v39) fun v40 =>
ex_i64 v40 fun z41 =>
Tri Try.prog KK 87 0 (.loop c5_0) ⟨[(0, a0), (1, (AV.agg [(intA a1_0), (intA a1_1)])), (2, (intA z17)), (3, (intA a3)), (5, (AV.ptr 0 0)), (8, (boolA false)), (16, (boolA b1)), (17, (boolA (!b1))), (18, a0), (19, (boolA b3)), (20, (boolA (!b3))), (22, a0), (23, (AV.agg [(intA a1_0), (intA a1_1)])), (24, (AV.tup [c5, (intA z7)])), (21, (AV.tup [c5, (intA z7)])), (25, c5), (26, (intA z7)), (9, c5), (10, (intA z7)), (27, (intA z7)), (28, (boolA (z7 != (0)))), (29, (boolA false)), (30, c5), (31, (intA z11)), (32, (boolA (z11 == (0)))), (33, (boolA (z11 == (0)))), (37, (intA a2)), (38, c5), (39, (intA z15)), (40, (intA z17)), (41, c5), (42, v18), (43, (intA z17)), (44, (intA z17)), (45, (intA (IntKind.wrap .i64 (z17 + (1))))), (46, v19), (11, v19), (47, c5), (48, v20), (49, (intA z17)), (50, c5), (51, (intA z17)), (52, v21), (53, (AV.agg [c23, (intA z25)])), (54, v26), (55, v27), (12, v27), (56, c5), (57, v28), (13, v28), (58, v28), (59, (intA z17)), (60, v28), (61, (intA z17)), (62, v29), (63, v30), (64, v31), (65, (intA z33)), (66, (intA (IntKind.wrap .i64 (z33 - (1))))), (67, (intA a3)), (68, (intA z35)), (69, (intA (IntKind.wrap .i64 ((IntKind.wrap .i64 (z33 - (1))) + z35)))), (70, v36), (71, v37), (72, v19), (73, v27), (74, v28), (75, v39), (76, (intA z41)), (77, (intA (0)))], m39, 509⟩ (q5_0 R)))))))
theorem F5_own (a0 : AV) (a1_0 : Int) (a1_1 : Int) (a2 : Int) (a3 : Int) (R : AV → Mem → Prop) (h : F5 a0 a1_0 a1_1 a2 a3 R) : Own Try.prog KK.gl 5 [a0, (AV.agg [(intA a1_0), (intA a1_1)]), (intA a2), (intA a3)] R := own_of_F fol Try.func5 (code := c5) (by kernel_rfl) (by kernel_rfl) (by kernel_rfl) (X := F5 a0 a1_0 a1_1 a2 a3 R) (by kernel_rfl) h
/- cmp.Or[int] -/
noncomputable def c41 : Code := ((Try.f41).body).getD .skip
noncomputable def q41 (R : AV → Mem → Prop) : AExit → St → Prop := retQ Try.prog Try.f41 R
noncomputable def c41_0 : Code := loopB c41 0
noncomputable def q41_0 (R : AV → Mem → Prop) : AExit → St → Prop := contW Try.prog KK 18 0 c41 0 (q41 R)
noncomputable def qq41_0 (R : AV → Mem → Prop) (N0 : St → Prop) : AExit → St → Prop := thenQ N0 (q41_0 R)
def h41_0 (t2 : Int) (t3 : Int) (t6 : AV) (t7 : Int) (t8 : Int) (m : Mem) : St := ⟨[(2, (intA t2)), (3, (intA t3)), (6, t6), (7, (intA t7)), (8, (intA t8))], m, 100000⟩
noncomputable def B41_0 (t2 : Int) (t3 : Int) (t6 : AV) (t7 : Int) (t8 : Int) (m : Mem) (R : AV → Mem → Prop) (N0 : St → Prop) : Prop :=
bif (decide (t8 < t7)) then (
opP (idxS 1 t6 (intA t8)) fun v2 =>
opP (ldS (mget m) v2) fun v3 =>
ex_i64 v3 fun z4 =>
bif (z4 != t3) then (
retL R m [some (intA z4)]) else (
N0 ⟨[(2, (intA t2)), (3, (intA t3)), (6, t6), (7, (intA t7)), (8, (intA (IntKind.wrap .i64 (t8 + (1))))), (9, (boolA (decide (t8 < t7)))), (10, v2), (11, (intA z4)), (5, (intA z4)), (12, (intA z4)), (13, (intA t3)), (14, (boolA (z4 != t3))), (16, (intA (IntKind.wrap .i64 (t8 + (1)))))], m, 100009⟩)) else (
retL R m [some (intA t3)])
theorem B41_0_eq (t2 : Int) (t3 : Int) (t6 : AV) (t7 : Int) (t8 : Int) (m : Mem) (R : AV → Mem → Prop) (N0 : St → Prop) : W Try.prog KK 18 0 c41_0 (h41_0 t2 t3 t6 t7 t8 m) (qq41_0 R N0) = B41_0 t2 t3 t6 t7 t8 m R N0 := by kernel_rfl
theorem L41_0 (R : AV → Mem → Prop) {σ : Type} (I : σ → Prop) (t2 : σ → Int) (t3 : σ → Int) (t6 : σ → AV) (t7 : σ → Int) (t8 : σ → Int) (m : σ → Mem) (μ : σ → Nat) (step : ∀ x, I x → B41_0 (t2 x) (t3 x) (t6 x) (t7 x) (t8 x) (m x) R (fun s' => ∃ y, I y ∧ μ y < μ x ∧ Weak KK 18 0 s' (h41_0 (t2 y) (t3 y) (t6 y) (t7 y) (t8 y) (m y)))) (x : σ) (hx : I x) {s : St} (hw : Weak KK 18 0 s (h41_0 (t2 x) (t3 x) (t6 x) (t7 x) (t8 x) (m x))) : Tri Try.prog KK 18 0 (.loop c41_0) s (q41_0 R) :=
  Tri.weak hw (Tri.loops fol I (fun x => h41_0 (t2 x) (t3 x) (t6 x) (t7 x) (t8 x) (m x)) μ (fun x hx => (B41_0_eq (t2 x) (t3 x) (t6 x) (t7 x) (t8 x) (m x) R _).mpr (step x hx)) x hx)
noncomputable def F41 (a0 : AV) (R : AV → Mem → Prop) : Prop :=
opP (lenS a0) fun v0 =>
ex_i64 v0 fun z1 =>
Tri Try.prog KK 18 0 (.loop c41_0) ⟨[(0, a0), (2, (intA (0))), (3, (intA (0))), (6, a0), (7, (intA z1)), (8, (intA (0)))], [], 5⟩ (q41_0 R)
theorem F41_own (a0 : AV) (R : AV → Mem → Prop) (h : F41 a0 R) : Own Try.prog KK.gl 41 [a0] R := own_of_F fol Try.func41 (code := c41) (by kernel_rfl) (by kernel_rfl) (by kernel_rfl) (X := F41 a0 R) (by kernel_rfl) h
/- skyway/probe.All$1 -/
noncomputable def c40 : Code := ((Try.f40).body).getD .skip
noncomputable def q40 (R : AV → Mem → Prop) : AExit → St → Prop := retQ Try.prog Try.f40 R
noncomputable def F40 (a0_0 : Int) (a0_1 : Int) (a0_2 : Int) (a0_3 : Int) (a1_0 : Int) (a1_1 : Int) (a1_2 : Int) (a1_3 : Int) (R : AV → Mem → Prop) : Prop :=
opN (bsl 18 3 1 3 [(intA (0))] [(0, (intA (IntKind.wrap .i64 (a0_2 - a1_2)))), (1, (intA (IntKind.wrap .i64 (a0_0 - a1_0)))), (2, (intA (IntKind.wrap .i64 (a0_1 - a1_1))))]) ((1, some ⟨[(intA a1_0), (intA a1_1), (intA a1_2), (intA a1_3)], 89⟩) :: (0, some ⟨[(intA a0_0), (intA a0_1), (intA a0_2), (intA a0_3)], 89⟩) :: []) fun v0 m0 =>
callQ Try.prog KK.gl m0 41 [v0] fun v1 =>
ex_i64 v1 fun z2 =>
retL R m0 [some (intA z2)]
theorem F40_own (a0_0 : Int) (a0_1 : Int) (a0_2 : Int) (a0_3 : Int) (a1_0 : Int) (a1_1 : Int) (a1_2 : Int) (a1_3 : Int) (R : AV → Mem → Prop) (h : F40 a0_0 a0_1 a0_2 a0_3 a1_0 a1_1 a1_2 a1_3 R) : Own Try.prog KK.gl 40 [(AV.agg [(intA a0_0), (intA a0_1), (intA a0_2), (intA a0_3)]), (AV.agg [(intA a1_0), (intA a1_1), (intA a1_2), (intA a1_3)])] R := own_of_F fol Try.func40 (code := c40) (by kernel_rfl) (by kernel_rfl) (by kernel_rfl) (X := F40 a0_0 a0_1 a0_2 a0_3 a1_0 a1_1 a1_2 a1_3 R) (by kernel_rfl) h
/- skyway/probe.All -/
noncomputable def c19 : Code := ((Try.f19).body).getD .skip
noncomputable def q19 (R : AV → Mem → Prop) : AExit → St → Prop := retQ Try.prog Try.f19 R
noncomputable def c19_0 : Code := loopB c19 0
noncomputable def q19_0 (R : AV → Mem → Prop) : AExit → St → Prop := contW Try.prog KK 74 0 c19 0 (q19 R)
noncomputable def qq19_0 (R : AV → Mem → Prop) (N0 : St → Prop) : AExit → St → Prop := thenQ N0 (q19_0 R)
def h19_0 (t0 : AV) (t4 : AV) (t5 : Int) (t8 : AV) (t28 : Int) (t29 : Int) (b0_0 : Int) (b0_1 : Int) (m : Mem) : St := ⟨[(0, t0), (3, (AV.ptr 0 0)), (4, t4), (5, (intA t5)), (8, t8), (28, (intA t28)), (29, (intA t29))], ((0, some ⟨[(intA b0_0), (intA b0_1)], 24⟩) :: m), 100000⟩
noncomputable def c19_0_0 : Code := loopB c19_0 0
noncomputable def q19_0_0 (R : AV → Mem → Prop) (N0 : St → Prop) : AExit → St → Prop := contW Try.prog KK 74 0 c19_0 0 (qq19_0 R N0)
noncomputable def qq19_0_0 (R : AV → Mem → Prop) (N0 : St → Prop) (N1 : St → Prop) : AExit → St → Prop := thenQ N1 (q19_0_0 R N0)
def h19_0_0 (t0 : AV) (t4 : AV) (t5 : Int) (t8 : AV) (t9 : Int) (t10 : Int) (t28 : Int) (t29 : Int) (b0_0 : Int) (b0_1 : Int) (m : Mem) : St := ⟨[(0, t0), (3, (AV.ptr 0 0)), (4, t4), (5, (intA t5)), (8, t8), (9, (intA t9)), (10, (intA t10)), (28, (intA t28)), (29, (intA t29))], ((0, some ⟨[(intA b0_0), (intA b0_1)], 24⟩) :: m), 200000⟩
noncomputable def c19_0_0_0 : Code := loopB c19_0_0 0
noncomputable def q19_0_0_0 (R : AV → Mem → Prop) (N0 : St → Prop) (N1 : St → Prop) : AExit → St → Prop := contW Try.prog KK 74 0 c19_0_0 0 (qq19_0_0 R N0 N1)
noncomputable def qq19_0_0_0 (R : AV → Mem → Prop) (N0 : St → Prop) (N1 : St → Prop) (N2 : St → Prop) : AExit → St → Prop := thenQ N2 (q19_0_0_0 R N0 N1)
def h19_0_0_0 (t0 : AV) (t4 : AV) (t5 : Int) (t8 : AV) (t9 : Int) (t10 : Int) (t28 : Int) (t29 : Int) (t49 : AV) (t50 : Int) (t51 : Int) (b0_0 : Int) (b0_1 : Int) (m : Mem) : St := ⟨[(0, t0), (3, (AV.ptr 0 0)), (4, t4), (5, (intA t5)), (8, t8), (9, (intA t9)), (10, (intA t10)), (28, (intA t28)), (29, (intA t29)), (49, t49), (50, (intA t50)), (51, (intA t51))], ((0, some ⟨[(intA b0_0), (intA b0_1)], 24⟩) :: m), 300000⟩
noncomputable def B19_0 (t0 : AV) (t4 : AV) (t5 : Int) (t8 : AV) (t28 : Int) (t29 : Int) (b0_0 : Int) (b0_1 : Int) (m : Mem) (R : AV → Mem → Prop) (N0 : St → Prop) : Prop :=
bif (decide (t29 < t28)) then (
Tri Try.prog KK 74 0 (.loop c19_0_0) ⟨[(0, t0), (3, (AV.ptr 0 0)), (4, t4), (5, (intA t5)), (8, t8), (28, (intA t28)), (29, (intA t29)), (30, (boolA (decide (t29 < t28)))), (31, (intA t29)), (9, (intA t29)), (32, (intA t29)), (33, (intA (IntKind.wrap .i64 (t29 + (1))))), (10, (intA (IntKind.wrap .i64 (t29 + (1)))))], ((0, some ⟨[(intA b0_0), (intA b0_1)], 24⟩) :: m), 100006⟩ (q19_0_0 R N0)) else (
opP (lenS t8) fun v26 =>
ex_i64 v26 fun z27 =>
bif (decide (z27 > (256))) then (
retL R ((0, some ⟨[(intA b0_0), (intA b0_1)], 24⟩) :: m) [some AV.nils, some (intA (2))]) else (
callW Try.prog KK.gl ((0, some ⟨[(intA b0_0), (intA b0_1)], 24⟩) :: m) 100005 39 [t8, (AV.fn 40 [])] fun v28 m28 =>
exT0 v28 <|
retL R m28 [some t8, some (intA (0))]))
theorem B19_0_eq (t0 : AV) (t4 : AV) (t5 : Int) (t8 : AV) (t28 : Int) (t29 : Int) (b0_0 : Int) (b0_1 : Int) (m : Mem) (R : AV → Mem → Prop) (N0 : St → Prop) : W Try.prog KK 74 0 c19_0 (h19_0 t0 t4 t5 t8 t28 t29 b0_0 b0_1 m) (qq19_0 R N0) = B19_0 t0 t4 t5 t8 t28 t29 b0_0 b0_1 m R N0 := by kernel_rfl
theorem L19_0 (R : AV → Mem → Prop) {σ : Type} (I : σ → Prop) (t0 : σ → AV) (t4 : σ → AV) (t5 : σ → Int) (t8 : σ → AV) (t28 : σ → Int) (t29 : σ → Int) (b0_0 : σ → Int) (b0_1 : σ → Int) (m : σ → Mem) (μ : σ → Nat) (step : ∀ x, I x → B19_0 (t0 x) (t4 x) (t5 x) (t8 x) (t28 x) (t29 x) (b0_0 x) (b0_1 x) (m x) R (fun s' => ∃ y, I y ∧ μ y < μ x ∧ Weak KK 74 0 s' (h19_0 (t0 y) (t4 y) (t5 y) (t8 y) (t28 y) (t29 y) (b0_0 y) (b0_1 y) (m y)))) (x : σ) (hx : I x) {s : St} (hw : Weak KK 74 0 s (h19_0 (t0 x) (t4 x) (t5 x) (t8 x) (t28 x) (t29 x) (b0_0 x) (b0_1 x) (m x))) : Tri Try.prog KK 74 0 (.loop c19_0) s (q19_0 R) :=
  Tri.weak hw (Tri.loops fol I (fun x => h19_0 (t0 x) (t4 x) (t5 x) (t8 x) (t28 x) (t29 x) (b0_0 x) (b0_1 x) (m x)) μ (fun x hx => (B19_0_eq (t0 x) (t4 x) (t5 x) (t8 x) (t28 x) (t29 x) (b0_0 x) (b0_1 x) (m x) R _).mpr (step x hx)) x hx)
noncomputable def B19_0_0 (t0 : AV) (t4 : AV) (t5 : Int) (t8 : AV) (t9 : Int) (t10 : Int) (t28 : Int) (t29 : Int) (b0_0 : Int) (b0_1 : Int) (m : Mem) (R : AV → Mem → Prop) (N0 : St → Prop) (N1 : St → Prop) : Prop :=
opP (lenS t0) fun v8 =>
ex_i64 v8 fun z9 =>
bif (decide (t10 < z9)) then (
opP (idxS 1 t0 (intA t9)) fun v10 =>
opP (ldS (mget ((0, some ⟨[(intA b0_0), (intA b0_1)], 24⟩) :: m)) v10) fun v11 =>
opP (idxS 1 t0 (intA t10)) fun v12 =>
opP (ldS (mget ((0, some ⟨[(intA b0_0), (intA b0_1)], 24⟩) :: m)) v12) fun v13 =>
callQ Try.prog KK.gl ((0, some ⟨[(intA b0_0), (intA b0_1)], 24⟩) :: m) 38 [v11, v13, (AV.agg [(intA b0_0), (intA b0_1)])] fun v14 =>
opP (lenS v14) fun v15 =>
ex_i64 v15 fun z16 =>
Tri Try.prog KK 74 0 (.loop c19_0_0_0) ⟨[(0, t0), (3, (AV.ptr 0 0)), (4, t4), (5, (intA t5)), (8, t8), (9, (intA t9)), (10, (intA t10)), (28, (intA t28)), (29, (intA t29)), (34, (intA t10)), (35, t0), (36, (intA z9)), (37, (boolA (decide (t10 < z9)))), (40, t0), (41, (intA t9)), (42, v10), (43, v11), (44, t0), (45, (intA t10)), (46, v12), (47, v13), (48, (AV.agg [(intA b0_0), (intA b0_1)])), (49, v14), (50, (intA z16)), (51, (intA (0)))], ((0, some ⟨[(intA b0_0), (intA b0_1)], 24⟩) :: m), 200016⟩ (q19_0_0_0 R N0 N1)) else (
N0 ⟨[(0, t0), (3, (AV.ptr 0 0)), (4, t4), (5, (intA t5)), (8, t8), (9, (intA t9)), (10, (intA t10)), (28, (intA t28)), (29, (intA (IntKind.wrap .i64 (t29 + (1))))), (34, (intA t10)), (35, t0), (36, (intA z9)), (37, (boolA (decide (t10 < z9)))), (67, (intA (IntKind.wrap .i64 (t29 + (1)))))], ((0, some ⟨[(intA b0_0), (intA b0_1)], 24⟩) :: m), 200006⟩)
theorem B19_0_0_eq (t0 : AV) (t4 : AV) (t5 : Int) (t8 : AV) (t9 : Int) (t10 : Int) (t28 : Int) (t29 : Int) (b0_0 : Int) (b0_1 : Int) (m : Mem) (R : AV → Mem → Prop) (N0 : St → Prop) (N1 : St → Prop) : W Try.prog KK 74 0 c19_0_0 (h19_0_0 t0 t4 t5 t8 t9 t10 t28 t29 b0_0 b0_1 m) (qq19_0_0 R N0 N1) = B19_0_0 t0 t4 t5 t8 t9 t10 t28 t29 b0_0 b0_1 m R N0 N1 := by kernel_rfl
theorem L19_0_0 (R : AV → Mem → Prop) (N0 : St → Prop) {σ : Type} (I : σ → Prop) (t0 : σ → AV) (t4 : σ → AV) (t5 : σ → Int) (t8 : σ → AV) (t9 : σ → Int) (t10 : σ → Int) (t28 : σ → Int) (t29 : σ → Int) (b0_0 : σ → Int) (b0_1 : σ → Int) (m : σ → Mem) (μ : σ → Nat) (step : ∀ x, I x → B19_0_0 (t0 x) (t4 x) (t5 x) (t8 x) (t9 x) (t10 x) (t28 x) (t29 x) (b0_0 x) (b0_1 x) (m x) R N0 (fun s' => ∃ y, I y ∧ μ y < μ x ∧ Weak KK 74 0 s' (h19_0_0 (t0 y) (t4 y) (t5 y) (t8 y) (t9 y) (t10 y) (t28 y) (t29 y) (b0_0 y) (b0_1 y) (m y)))) (x : σ) (hx : I x) {s : St} (hw : Weak KK 74 0 s (h19_0_0 (t0 x) (t4 x) (t5 x) (t8 x) (t9 x) (t10 x) (t28 x) (t29 x) (b0_0 x) (b0_1 x) (m x))) : Tri Try.prog KK 74 0 (.loop c19_0_0) s (q19_0_0 R N0) :=
  Tri.weak hw (Tri.loops fol I (fun x => h19_0_0 (t0 x) (t4 x) (t5 x) (t8 x) (t9 x) (t10 x) (t28 x) (t29 x) (b0_0 x) (b0_1 x) (m x)) μ (fun x hx => (B19_0_0_eq (t0 x) (t4 x) (t5 x) (t8 x) (t9 x) (t10 x) (t28 x) (t29 x) (b0_0 x) (b0_1 x) (m x) R N0 _).mpr (step x hx)) x hx)
noncomputable def B19_0_0_0 (t0 : AV) (t4 : AV) (t5 : Int) (t8 : AV) (t9 : Int) (t10 : Int) (t28 : Int) (t29 : Int) (t49 : AV) (t50 : Int) (t51 : Int) (b0_0 : Int) (b0_1 : Int) (m : Mem) (R : AV → Mem → Prop) (N0 : St → Prop) (N1 : St → Prop) (N2 : St → Prop) : Prop :=
bif (decide (t51 < t50)) then (
opP (idxS 2 t49 (intA t51)) fun v17 =>
opP (ldA (mget ((0, some ⟨[(intA b0_0), (intA b0_1)], 24⟩) :: m)) 2 v17) fun v18 =>
exA2 v18 fun c19 c20 =>
ex_i64 c19 fun z21 =>
ex_i64 c20 fun z22 =>
opP (bld [(intA (0)), (intA (0)), (intA (0)), (intA (0))] [(0, 1), (1, 1), (2, 1), (3, 1)] [(0, (intA t9)), (1, (intA t10)), (2, (intA z21)), (3, (intA (IntKind.wrap .i64 (z22 - (1)))))]) fun v23 =>
opN (bsl 300014 89 4 1 [(intA (0)), (intA (0)), (intA (0)), (intA (0))] [(0, v23)]) ((300003, some ⟨[(intA z21), (intA z22)], 87⟩) :: (300003, some ⟨[(intA (0)), (intA (0))], 87⟩) :: (0, some ⟨[(intA b0_0), (intA b0_1)], 24⟩) :: m) fun v24 m24 =>
opN (app (mget m24) 89 4 32 [(intA (0)), (intA (0)), (intA (0)), (intA (0))] 300015 t8 v24) m24 fun v25 m25 =>
N2 ⟨[(0, t0), (3, (AV.ptr 0 0)), (4, t4), (5, (intA t5)), (8, v25), (9, (intA t9)), (10, (intA t10)), (28, (intA t28)), (29, (intA t29)), (49, t49), (50, (intA t50)), (51, (intA (IntKind.wrap .i64 (t51 + (1))))), (52, (boolA (decide (t51 < t50)))), (53, v17), (54, (AV.agg [(intA z21), (intA z22)])), (12, (AV.ptr 300003 0)), (55, t8), (56, (intA t9)), (57, (intA t10)), (58, (AV.ptr 300003 0)), (59, (intA z21)), (60, (AV.ptr 300003 1)), (61, (intA z22)), (62, (intA (IntKind.wrap .i64 (z22 - (1))))), (63, v23), (64, v24), (65, v25), (66, (intA (IntKind.wrap .i64 (t51 + (1)))))], m25, 300019⟩) else (
N1 ⟨[(0, t0), (3, (AV.ptr 0 0)), (4, t4), (5, (intA t5)), (8, t8), (9, (intA t9)), (10, (intA (IntKind.wrap .i64 (t10 + (1))))), (28, (intA t28)), (29, (intA t29)), (49, t49), (50, (intA t50)), (51, (intA t51)), (52, (boolA (decide (t51 < t50)))), (38, (intA t10)), (39, (intA (IntKind.wrap .i64 (t10 + (1)))))], ((0, some ⟨[(intA b0_0), (intA b0_1)], 24⟩) :: m), 300004⟩)
theorem B19_0_0_0_eq (t0 : AV) (t4 : AV) (t5 : Int) (t8 : AV) (t9 : Int) (t10 : Int) (t28 : Int) (t29 : Int) (t49 : AV) (t50 : Int) (t51 : Int) (b0_0 : Int) (b0_1 : Int) (m : Mem) (R : AV → Mem → Prop) (N0 : St → Prop) (N1 : St → Prop) (N2 : St → Prop) : W Try.prog KK 74 0 c19_0_0_0 (h19_0_0_0 t0 t4 t5 t8 t9 t10 t28 t29 t49 t50 t51 b0_0 b0_1 m) (qq19_0_0_0 R N0 N1 N2) = B19_0_0_0 t0 t4 t5 t8 t9 t10 t28 t29 t49 t50 t51 b0_0 b0_1 m R N0 N1 N2 := by kernel_rfl
theorem L19_0_0_0 (R : AV → Mem → Prop) (N0 : St → Prop) (N1 : St → Prop) {σ : Type} (I : σ → Prop) (t0 : σ → AV) (t4 : σ → AV) (t5 : σ → Int) (t8 : σ → AV) (t9 : σ → Int) (t10 : σ → Int) (t28 : σ → Int) (t29 : σ → Int) (t49 : σ → AV) (t50 : σ → Int) (t51 : σ → Int) (b0_0 : σ → Int) (b0_1 : σ → Int) (m : σ → Mem) (μ : σ → Nat) (step : ∀ x, I x → B19_0_0_0 (t0 x) (t4 x) (t5 x) (t8 x) (t9 x) (t10 x) (t28 x) (t29 x) (t49 x) (t50 x) (t51 x) (b0_0 x) (b0_1 x) (m x) R N0 N1 (fun s' => ∃ y, I y ∧ μ y < μ x ∧ Weak KK 74 0 s' (h19_0_0_0 (t0 y) (t4 y) (t5 y) (t8 y) (t9 y) (t10 y) (t28 y) (t29 y) (t49 y) (t50 y) (t51 y) (b0_0 y) (b0_1 y) (m y)))) (x : σ) (hx : I x) {s : St} (hw : Weak KK 74 0 s (h19_0_0_0 (t0 x) (t4 x) (t5 x) (t8 x) (t9 x) (t10 x) (t28 x) (t29 x) (t49 x) (t50 x) (t51 x) (b0_0 x) (b0_1 x) (m x))) : Tri Try.prog KK 74 0 (.loop c19_0_0_0) s (q19_0_0_0 R N0 N1) :=
  Tri.weak hw (Tri.loops fol I (fun x => h19_0_0_0 (t0 x) (t4 x) (t5 x) (t8 x) (t9 x) (t10 x) (t28 x) (t29 x) (t49 x) (t50 x) (t51 x) (b0_0 x) (b0_1 x) (m x)) μ (fun x hx => (B19_0_0_0_eq (t0 x) (t4 x) (t5 x) (t8 x) (t9 x) (t10 x) (t28 x) (t29 x) (t49 x) (t50 x) (t51 x) (b0_0 x) (b0_1 x) (m x) R N0 N1 _).mpr (step x hx)) x hx)
noncomputable def F19 (a0 : AV) (a1_0 : Int) (a1_1 : Int) (R : AV → Mem → Prop) : Prop :=
callQ Try.prog KK.gl ((0, some ⟨[(intA a1_0), (intA a1_1)], 24⟩) :: []) 36 [(AV.agg [(intA a1_0), (intA a1_1)])] fun v0 =>
ex_i64 v0 fun z1 =>
bif (z1 != (0)) then (
retL R ((0, some ⟨[(intA a1_0), (intA a1_1)], 24⟩) :: []) [some AV.nils, some (intA z1)]) else (
opP (lenS a0) fun v2 =>
ex_i64 v2 fun z3 =>
bif (decide (z3 > (24))) then (
retL R ((0, some ⟨[(intA a1_0), (intA a1_1)], 24⟩) :: []) [some AV.nils, some (intA (2))]) else (
callQ Try.prog KK.gl ((0, some ⟨[(intA a1_0), (intA a1_1)], 24⟩) :: []) 37 [(AV.agg [(intA a1_0), (intA a1_1)]), a0] fun v4 =>
ex_i64 v4 fun z5 =>
bif (z5 != (0)) then (
retL R ((0, some ⟨[(intA a1_0), (intA a1_1)], 24⟩) :: []) [some AV.nils, some (intA z5)]) else (
opP (lenS a0) fun v6 =>
ex_i64 v6 fun z7 =>
Tri Try.prog KK 74 0 (.loop c19_0) ⟨[(0, a0), (1, (AV.agg [(intA a1_0), (intA a1_1)])), (3, (AV.ptr 0 0)), (4, AV.nils), (5, (intA (0))), (13, (AV.agg [(intA a1_0), (intA a1_1)])), (14, (intA z1)), (6, (intA z1)), (15, (intA z1)), (16, (boolA (z1 != (0)))), (18, a0), (19, (intA z3)), (20, (boolA (decide (z3 > (24))))), (21, (AV.agg [(intA a1_0), (intA a1_1)])), (22, a0), (23, (intA z5)), (7, (intA z5)), (24, (intA z5)), (25, (boolA (z5 != (0)))), (8, AV.nils), (27, a0), (28, (intA z7)), (29, (intA (0)))], ((0, some ⟨[(intA a1_0), (intA a1_1)], 24⟩) :: []), 147⟩ (q19_0 R))))
theorem F19_own (a0 : AV) (a1_0 : Int) (a1_1 : Int) (R : AV → Mem → Prop) (h : F19 a0 a1_0 a1_1 R) : Own Try.prog KK.gl 19 [a0, (AV.agg [(intA a1_0), (intA a1_1)])] R := own_of_F fol Try.func19 (code := c19) (by kernel_rfl) (by kernel_rfl) (by kernel_rfl) (X := F19 a0 a1_0 a1_1 R) (by kernel_rfl) h
/- skyway/skywaykeep3.JointFree -/
noncomputable def c6 : Code := ((Try.f6).body).getD .skip
noncomputable def q6 (R : AV → Mem → Prop) : AExit → St → Prop := retQ Try.prog Try.f6 R
noncomputable def c6_0 : Code := loopB c6 0
noncomputable def q6_0 (R : AV → Mem → Prop) : AExit → St → Prop := contW Try.prog KK 104 0 c6 0 (q6 R)
noncomputable def qq6_0 (R : AV → Mem → Prop) (N0 : St → Prop) : AExit → St → Prop := thenQ N0 (q6_0 R)
def h6_0 (t0 : AV) (t4 : Bool) (t5 : AV) (t6 : Int) (t8 : AV) (t34 : AV) (t35 : Int) (t36 : Int) (m : Mem) : St := ⟨[(0, t0), (3, (AV.ptr 0 0)), (4, (boolA t4)), (5, t5), (6, (intA t6)), (8, t8), (34, t34), (35, (intA t35)), (36, (intA t36))], m, 100000⟩
noncomputable def B6_0 (t0 : AV) (t4 : Bool) (t5 : AV) (t6 : Int) (t8 : AV) (t34 : AV) (t35 : Int) (t36 : Int) (m : Mem) (R : AV → Mem → Prop) (N0 : St → Prop) : Prop :=
bif (decide (t36 < t35)) then (
opP (idxS 1 t34 (intA t36)) fun v14 =>
opP (ldS (mget m) v14) fun v15 =>
ex_i64 v15 fun z16 =>
opP (lenS t0) fun v17 =>
ex_i64 v17 fun z18 =>
bif (decide (t36 ≥ z18)) then (
retL R m [some (boolA false)]) else (
bif (decide (z16 < (0))) then (
retL R m [some (boolA false)]) else (
opP (idxS 1 t0 (intA t36)) fun v19 =>
opP (ldS (mget m) v19) fun v20 =>
opP (lenS v20) fun v21 =>
ex_i64 v21 fun z22 =>
bif (decide (z16 ≥ z22)) then (
retL R m [some (boolA false)]) else (
opP (idxS 1 t0 (intA t36)) fun v23 =>
opP (ldS (mget m) v23) fun v24 =>
opP (idxS 2 v24 (intA z16)) fun v25 =>
opP (fldO 1 v25) fun v26 =>
opP (ldS (mget m) v26) fun v27 =>
opN (bsl 100032 37 1 1 [AV.nils] [(0, v27)]) m fun v28 m28 =>
opN (app (mget m28) 37 1 24 [AV.nils] 100033 t8 v28) m28 fun v29 m29 =>
opP (idxS 1 t0 (intA t36)) fun v30 =>
opP (ldS (mget m29) v30) fun v31 =>
opP (idxS 2 v31 (intA z16)) fun v32 =>
opP (fldO 0 v32) fun v33 =>
opP (ldS (mget m29) v33) fun v34 =>
ex_i64 v34 fun z35 =>
N0 ⟨[(0, t0), (3, (AV.ptr 0 0)), (4, (boolA t4)), (5, t5), (6, (intA (IntKind.wrap .i64 (t6 - z35)))), (8, v29), (34, t34), (35, (intA t35)), (36, (intA (IntKind.wrap .i64 (t36 + (1))))), (37, (boolA (decide (t36 < t35)))), (38, (intA t36)), (39, v14), (40, (intA z16)), (9, (intA t36)), (10, (intA z16)), (41, (intA t36)), (42, t0), (43, (intA z18)), (44, (boolA (decide (t36 ≥ z18)))), (45, (boolA false)), (46, (intA z16)), (47, (boolA (decide (z16 < (0))))), (48, (boolA (decide (z16 < (0))))), (49, (boolA false)), (50, (intA z16)), (51, t0), (52, (intA t36)), (53, v19), (54, v20), (55, (intA z22)), (56, (boolA (decide (z16 ≥ z22)))), (57, (boolA (decide (z16 ≥ z22)))), (58, t8), (59, t0), (60, (intA t36)), (61, v23), (62, v24), (63, (intA z16)), (64, v25), (65, v26), (66, v27), (67, v28), (68, v29), (69, (intA t6)), (70, t0), (71, (intA t36)), (72, v30), (73, v31), (74, (intA z16)), (75, v32), (76, v33), (77, (intA z35)), (78, (intA (IntKind.wrap .i64 (t6 - z35)))), (79, (intA (IntKind.wrap .i64 (t36 + (1)))))], m29, 100048⟩)))) else (
opP (ldA (mget m) 2 (AV.ptr 0 0)) fun v36 =>
exA2 v36 fun c37 c38 =>
ex_i64 c37 fun z39 =>
ex_i64 c38 fun z40 =>
callW Try.prog KK.gl m 100003 19 [t8, (AV.agg [(intA z39), (intA z40)])] fun v41 m41 =>
exT2 v41 fun c42 c43 =>
ex_i64 c43 fun z44 =>
opP (lenS t5) fun v45 =>
ex_i64 v45 fun z46 =>
opP (lenS t0) fun v47 =>
ex_i64 v47 fun z48 =>
bif (z46 == z48) then (
bif (t6 == (0)) then (
bif (z44 == (0)) then (
opP (lenS c42) fun v49 =>
ex_i64 v49 fun z50 =>
retL R m41 [some (boolA (z50 == (0)))]) else (
retL R m41 [some (boolA false)])) else (
retL R m41 [some (boolA false)])) else (
retL R m41 [some (boolA false)]))
theorem B6_0_eq (t0 : AV) (t4 : Bool) (t5 : AV) (t6 : Int) (t8 : AV) (t34 : AV) (t35 : Int) (t36 : Int) (m : Mem) (R : AV → Mem → Prop) (N0 : St → Prop) : W Try.prog KK 104 0 c6_0 (h6_0 t0 t4 t5 t6 t8 t34 t35 t36 m) (qq6_0 R N0) = B6_0 t0 t4 t5 t6 t8 t34 t35 t36 m R N0 := by kernel_rfl
theorem L6_0 (R : AV → Mem → Prop) {σ : Type} (I : σ → Prop) (t0 : σ → AV) (t4 : σ → Bool) (t5 : σ → AV) (t6 : σ → Int) (t8 : σ → AV) (t34 : σ → AV) (t35 : σ → Int) (t36 : σ → Int) (m : σ → Mem) (μ : σ → Nat) (step : ∀ x, I x → B6_0 (t0 x) (t4 x) (t5 x) (t6 x) (t8 x) (t34 x) (t35 x) (t36 x) (m x) R (fun s' => ∃ y, I y ∧ μ y < μ x ∧ Weak KK 104 0 s' (h6_0 (t0 y) (t4 y) (t5 y) (t6 y) (t8 y) (t34 y) (t35 y) (t36 y) (m y)))) (x : σ) (hx : I x) {s : St} (hw : Weak KK 104 0 s (h6_0 (t0 x) (t4 x) (t5 x) (t6 x) (t8 x) (t34 x) (t35 x) (t36 x) (m x))) : Tri Try.prog KK 104 0 (.loop c6_0) s (q6_0 R) :=
  Tri.weak hw (Tri.loops fol I (fun x => h6_0 (t0 x) (t4 x) (t5 x) (t6 x) (t8 x) (t34 x) (t35 x) (t36 x) (m x)) μ (fun x hx => (B6_0_eq (t0 x) (t4 x) (t5 x) (t6 x) (t8 x) (t34 x) (t35 x) (t36 x) (m x) R _).mpr (step x hx)) x hx)
noncomputable def F6 (a0 : AV) (a1_0 : Int) (a1_1 : Int) (R : AV → Mem → Prop) : Prop :=
callQ Try.prog KK.gl ((0, some ⟨[(intA a1_0), (intA a1_1)], 24⟩) :: []) 7 [] fun v0 =>
exB v0 fun b1 =>
bif (!b1) then (
retL R ((0, some ⟨[(intA a1_0), (intA a1_1)], 24⟩) :: []) [some (boolA false)]) else (
callQ Try.prog KK.gl ((0, some ⟨[(intA a1_0), (intA a1_1)], 24⟩) :: []) 8 [a0] fun v2 =>
exB v2 fun b3 =>
bif (!b3) then (
retL R ((0, some ⟨[(intA a1_0), (intA a1_1)], 24⟩) :: []) [some (boolA true)]) else (
callW Try.prog KK.gl ((0, some ⟨[(intA a1_0), (intA a1_1)], 24⟩) :: []) 135 9 [a0, (AV.agg [(intA a1_0), (intA a1_1)])] fun v4 m4 =>
exT3 v4 fun c5 c6 c7 =>
ex_i64 c6 fun z8 =>
ex_i64 c7 fun z9 =>
bif (z9 != (0)) then (
opP (lenS c5) fun v10 =>
ex_i64 v10 fun z11 =>
bif (z11 == (0)) then (
retL R m4 [some (boolA (z8 == (0)))]) else (
retL R m4 [some (boolA false)])) else (
opP (lenS c5) fun v12 =>
ex_i64 v12 fun z13 =>
Tri Try.prog KK 104 0 (.loop c6_0) ⟨[(0, a0), (1, (AV.agg [(intA a1_0), (intA a1_1)])), (3, (AV.ptr 0 0)), (4, (boolA false)), (13, (boolA b1)), (14, (boolA (!b1))), (15, a0), (16, (boolA b3)), (17, (boolA (!b3))), (19, a0), (20, (AV.agg [(intA a1_0), (intA a1_1)])), (21, (AV.tup [c5, (intA z8), (intA z9)])), (18, (AV.tup [c5, (intA z8), (intA z9)])), (22, c5), (23, (intA z8)), (24, (intA z9)), (5, c5), (6, (intA z8)), (7, (intA z9)), (25, (intA z9)), (26, (boolA (z9 != (0)))), (8, AV.nils), (34, c5), (35, (intA z13)), (36, (intA (0)))], m4, 212⟩ (q6_0 R))))
theorem F6_own (a0 : AV) (a1_0 : Int) (a1_1 : Int) (R : AV → Mem → Prop) (h : F6 a0 a1_0 a1_1 R) : Own Try.prog KK.gl 6 [a0, (AV.agg [(intA a1_0), (intA a1_1)])] R := own_of_F fol Try.func6 (code := c6) (by kernel_rfl) (by kernel_rfl) (by kernel_rfl) (X := F6 a0 a1_0 a1_1 R) (by kernel_rfl) h
/- slices.Clone[[]skyway/api.JointRefuted,skyway/api.JointRefuted] -/
noncomputable def c17 : Code := ((Try.f17).body).getD .skip
noncomputable def q17 (R : AV → Mem → Prop) : AExit → St → Prop := retQ Try.prog Try.f17 R
noncomputable def F17 (a0 : AV) (R : AV → Mem → Prop) : Prop :=
nilK a0 fun b0 =>
bif b0 then (
retL R [] [some AV.nils]) else (
opN (bsl 3 49 2 0 [AV.nils, (intA (0))] []) [] fun v2 m2 =>
opN (app (mget m2) 49 2 32 [AV.nils, (intA (0))] 5 v2 a0) m2 fun v3 m3 =>
retL R m3 [some v3])
theorem F17_own (a0 : AV) (R : AV → Mem → Prop) (h : F17 a0 R) : Own Try.prog KK.gl 17 [a0] R := own_of_F fol Try.func17 (code := c17) (by kernel_rfl) (by kernel_rfl) (by kernel_rfl) (X := F17 a0 R) (by kernel_rfl) h
/- slices.Clone[[][]skyway/api.JointOption,[]skyway/api.JointOption] -/
noncomputable def c13 : Code := ((Try.f13).body).getD .skip
noncomputable def q13 (R : AV → Mem → Prop) : AExit → St → Prop := retQ Try.prog Try.f13 R
noncomputable def F13 (a0 : AV) (R : AV → Mem → Prop) : Prop :=
nilK a0 fun b0 =>
bif b0 then (
retL R [] [some AV.nils]) else (
opN (bsl 3 43 1 0 [AV.nils] []) [] fun v2 m2 =>
opN (app (mget m2) 43 1 24 [AV.nils] 5 v2 a0) m2 fun v3 m3 =>
retL R m3 [some v3])
theorem F13_own (a0 : AV) (R : AV → Mem → Prop) (h : F13 a0 R) : Own Try.prog KK.gl 13 [a0] R := own_of_F fol Try.func13 (code := c13) (by kernel_rfl) (by kernel_rfl) (by kernel_rfl) (X := F13 a0 R) (by kernel_rfl) h
/- slices.Clone[[]skyway/api.JointOption,skyway/api.JointOption] -/
noncomputable def c15 : Code := ((Try.f15).body).getD .skip
noncomputable def q15 (R : AV → Mem → Prop) : AExit → St → Prop := retQ Try.prog Try.f15 R
noncomputable def F15 (a0 : AV) (R : AV → Mem → Prop) : Prop :=
nilK a0 fun b0 =>
bif b0 then (
retL R [] [some AV.nils]) else (
opN (bsl 3 39 2 0 [(intA (0)), AV.nils] []) [] fun v2 m2 =>
opN (app (mget m2) 39 2 32 [(intA (0)), AV.nils] 5 v2 a0) m2 fun v3 m3 =>
retL R m3 [some v3])
theorem F15_own (a0 : AV) (R : AV → Mem → Prop) (h : F15 a0 R) : Own Try.prog KK.gl 15 [a0] R := own_of_F fol Try.func15 (code := c15) (by kernel_rfl) (by kernel_rfl) (by kernel_rfl) (X := F15 a0 R) (by kernel_rfl) h
/- slices.Clone[[]int,int] -/
noncomputable def c30 : Code := ((Try.f30).body).getD .skip
noncomputable def q30 (R : AV → Mem → Prop) : AExit → St → Prop := retQ Try.prog Try.f30 R
noncomputable def F30 (a0 : AV) (R : AV → Mem → Prop) : Prop :=
nilK a0 fun b0 =>
bif b0 then (
retL R [] [some AV.nils]) else (
opN (bsl 3 3 1 0 [(intA (0))] []) [] fun v2 m2 =>
opN (app (mget m2) 3 1 8 [(intA (0))] 5 v2 a0) m2 fun v3 m3 =>
retL R m3 [some v3])
theorem F30_own (a0 : AV) (R : AV → Mem → Prop) (h : F30 a0 R) : Own Try.prog KK.gl 30 [a0] R := own_of_F fol Try.func30 (code := c30) (by kernel_rfl) (by kernel_rfl) (by kernel_rfl) (X := F30 a0 R) (by kernel_rfl) h
/- slices.Delete[[]skyway/api.JointRefuted,skyway/api.JointRefuted] at 1 -/
noncomputable def F16_1 (a0 : AV) (a1 : Int) (a2 : Int) (m : Mem) (R : AV → Mem → Prop) : Prop :=
opP (lenS a0) fun v0 =>
ex_i64 v0 fun z1 =>
opP (opA Try.prog (.slice 31 (.tmp 0) (some (.tmp 1)) (some (.tmp 2)) (some (.tmp 3))) 31 [a0, (intA a1), (intA a2), (intA z1)] (mget m) 7) fun v2 =>
bif (a1 == a2) then (
chk (Nat.ble 13 65) (retL R m [some a0])) else (
opP (lenS a0) fun v3 =>
ex_i64 v3 fun z4 =>
opM (opA Try.prog (.slice 31 (.tmp 0) none (some (.tmp 1)) none) 31 [a0, (intA a1)] (look' m (topId a0 ++ (topId (intA a1) ++ ([])))) 16) fun v5 d5 =>
opM (opA Try.prog (.slice 31 (.tmp 0) (some (.tmp 1)) none none) 31 [a0, (intA a2)] (look' (mpushs m d5) (topId a0 ++ (topId (intA a2) ++ ([])))) 19) fun v6 d6 =>
opM (app (look' (mpushs (mpushs m d5) d6) (topId v5 ++ (topId v6 ++ ([])))) 49 2 32 [AV.nils, (intA (0))] 20 v5 v6) fun v7 d7 =>
chk (confOk [0, 0, 3, 0, 0, 24, 63, 127] [⟨[], []⟩, ⟨[], []⟩, ⟨d5, (topId a0 ++ (topId (intA a1) ++ ([])))⟩, ⟨[], []⟩, ⟨[], []⟩, ⟨d6, (topId a0 ++ (topId (intA a2) ++ ([])))⟩, ⟨d7, (topId v5 ++ (topId v6 ++ ([])))⟩, ⟨[], []⟩]) (opP (lenS v7) fun v8 =>
ex_i64 v8 fun z9 =>
opP (opA Try.prog (.slice 31 (.tmp 0) (some (.tmp 1)) (some (.tmp 2)) none) 31 [v7, (intA z9), (intA z4)] (mget (mpushs (mpushs (mpushs m d5) d6) d7)) 26) fun v10 =>
opN (opA Try.prog (.call ⟨.builtin .clear, #[.tmp 0], #[31]⟩) 0 [v10] (mget (mpushs (mpushs (mpushs m d5) d6) d7)) 27) (mpushs (mpushs (mpushs m d5) d6) d7) fun v11 m11 =>
exT0 v11 <|
chk (Nat.ble 30 65) (retL R m11 [some v7])))
theorem F16_1_call (a0 : AV) (a1 : Int) (a2 : Int) (m : Mem) (R : AV → Mem → Prop) (h : F16_1 a0 a1 a2 m R) : callW Try.prog KK.gl m 1 16 [a0, (intA a1), (intA a2)] R := call_of_F fol Try.func16 (code := ((Try.f16).body).getD .skip) (by kernel_rfl) (by kernel_rfl) (by kernel_rfl) (X := F16_1 a0 a1 a2 m R) (by kernel_rfl) h
/- slices.Insert[[]skyway/api.JointRefuted,skyway/api.JointRefuted] at 1 -/
noncomputable def F18n1 (a0 : AV) (a1 : Int) (a2 : AV) (m : Mem) (R : AV → Mem → Prop) : Prop :=
opP (opA Try.prog (.slice 31 (.tmp 0) (some (.tmp 1)) none none) 31 [a0, (intA a1)] (mget m) 4) fun v0 =>
opP (lenS a2) fun v1 =>
ex_i64 v1 fun z2 =>
bif (z2 == (0)) then (
retL R m [some a0]) else (
opP (lenS a0) fun v3 =>
ex_i64 v3 fun z4 =>
bif (a1 == z4) then (
opN (app (mget m) 49 2 32 [AV.nils, (intA (0))] 18 a0 a2) m fun v5 m5 =>
retL R m5 [some v5]) else (
opP (opA Try.prog (.call ⟨.builtin .cap, #[.tmp 0], #[31]⟩) 3 [a0] (mget m) 20) fun v6 =>
ex_i64 v6 fun z7 =>
bif (decide ((IntKind.wrap .i64 (z4 + z2)) > z7)) then (
opP (opA Try.prog (.slice 31 (.tmp 0) none (some (.tmp 1)) none) 31 [a0, (intA a1)] (mget m) 24) fun v8 =>
opN (opA Try.prog (.call ⟨.builtin .append, #[.tmp 0, .tmp 1], #[31, 3]⟩) 31 [v8, (intA (IntKind.wrap .i64 ((IntKind.wrap .i64 (z4 + z2)) - a1)))] (mget m) 30) m fun v9 m9 =>
opP (opA Try.prog (.slice 31 (.tmp 0) (some (.tmp 1)) none none) 31 [v9, (intA a1)] (mget m9) 34) fun v10 =>
opN (opA Try.prog (.call ⟨.builtin .copy, #[.tmp 0, .tmp 1], #[31, 31]⟩) 3 [v10, a2] (mget m9) 36) m9 fun v11 m11 =>
ex_i64 v11 fun z12 =>
opM (opA Try.prog (.slice 31 (.tmp 0) (some (.tmp 1)) none none) 31 [v9, (intA (IntKind.wrap .i64 (a1 + z2)))] (look' m11 (topId v9 ++ (topId (intA (IntKind.wrap .i64 (a1 + z2))) ++ ([])))) 41) fun v13 d13 =>
opM (opA Try.prog (.slice 31 (.tmp 0) (some (.tmp 1)) none none) 31 [a0, (intA a1)] (look' (mpushs m11 d13) (topId a0 ++ (topId (intA a1) ++ ([])))) 44) fun v14 d14 =>
opM (opA Try.prog (.call ⟨.builtin .copy, #[.tmp 0, .tmp 1], #[31, 31]⟩) 3 [v13, v14] (look' (mpushs (mpushs m11 d13) d14) (topId v13 ++ (topId v14 ++ ([])))) 45) fun v15 d15 =>
ex_i64 v15 fun z16 =>
chk (confOk [0, 0, 0, 6, 15, 0, 0, 96, 255] [⟨[], []⟩, ⟨[], []⟩, ⟨[], []⟩, ⟨[], []⟩, ⟨d13, (topId v9 ++ (topId (intA (IntKind.wrap .i64 (a1 + z2))) ++ ([])))⟩, ⟨[], []⟩, ⟨[], []⟩, ⟨d14, (topId a0 ++ (topId (intA a1) ++ ([])))⟩, ⟨d15, (topId v13 ++ (topId v14 ++ ([])))⟩]) (retL R (mpushs (mpushs (mpushs m11 d13) d14) d15) [some v9])) else (
opP (opA Try.prog (.slice 31 (.tmp 0) none (some (.tmp 1)) none) 31 [a0, (intA (IntKind.wrap .i64 (z4 + z2)))] (mget m) 26) fun v17 =>
opP (opA Try.prog (.slice 31 (.tmp 0) (some (.tmp 1)) none none) 31 [v17, (intA (IntKind.wrap .i64 (a1 + z2)))] (mget m) 33) fun v18 =>
callQ Try.prog KK.gl m 34 [a2, v18] fun v19 =>
exB v19 fun b20 =>
bif (!b20) then (
opM (opA Try.prog (.slice 31 (.tmp 0) (some (.tmp 1)) none none) 31 [v17, (intA (IntKind.wrap .i64 (a1 + z2)))] (look' m (topId v17 ++ (topId (intA (IntKind.wrap .i64 (a1 + z2))) ++ ([])))) 103) fun v21 d21 =>
opM (opA Try.prog (.slice 31 (.tmp 0) (some (.tmp 1)) none none) 31 [v17, (intA a1)] (look' (mpushs m d21) (topId v17 ++ (topId (intA a1) ++ ([])))) 106) fun v22 d22 =>
opM (opA Try.prog (.call ⟨.builtin .copy, #[.tmp 0, .tmp 1], #[31, 31]⟩) 3 [v21, v22] (look' (mpushs (mpushs m d21) d22) (topId v21 ++ (topId v22 ++ ([])))) 107) fun v23 d23 =>
ex_i64 v23 fun z24 =>
chk (confOk [0, 0, 0, 6, 15, 0, 0, 96, 255] [⟨[], []⟩, ⟨[], []⟩, ⟨[], []⟩, ⟨[], []⟩, ⟨d21, (topId v17 ++ (topId (intA (IntKind.wrap .i64 (a1 + z2))) ++ ([])))⟩, ⟨[], []⟩, ⟨[], []⟩, ⟨d22, (topId v17 ++ (topId (intA a1) ++ ([])))⟩, ⟨d23, (topId v21 ++ (topId v22 ++ ([])))⟩]) (opP (opA Try.prog (.slice 31 (.tmp 0) (some (.tmp 1)) none none) 31 [v17, (intA a1)] (mget (mpushs (mpushs (mpushs m d21) d22) d23)) 110) fun v25 =>
opN (opA Try.prog (.call ⟨.builtin .copy, #[.tmp 0, .tmp 1], #[31, 31]⟩) 3 [v25, a2] (mget (mpushs (mpushs (mpushs m d21) d22) d23)) 112) (mpushs (mpushs (mpushs m d21) d22) d23) fun v26 m26 =>
ex_i64 v26 fun z27 =>
retL R m26 [some v17])) else (
opP (opA Try.prog (.slice 31 (.tmp 0) (some (.tmp 1)) none none) 31 [v17, (intA z4)] (mget m) 101) fun v28 =>
opN (opA Try.prog (.call ⟨.builtin .copy, #[.tmp 0, .tmp 1], #[31, 31]⟩) 3 [v28, a2] (mget m) 103) m fun v29 m29 =>
ex_i64 v29 fun z30 =>
opP (opA Try.prog (.slice 31 (.tmp 0) (some (.tmp 1)) none none) 31 [v17, (intA a1)] (mget m29) 106) fun v31 =>
callW Try.prog KK.gl m29 108 35 [v31, (intA z2)] fun v32 m32 =>
exT0 v32 <|
retL R m32 [some v17]))))
theorem F18n1_call (a0 : AV) (a1 : Int) (a2 : AV) (m : Mem) (R : AV → Mem → Prop) (h : F18n1 a0 a1 a2 m R) : callN Try.prog KK.gl m 1 18 [a0, (intA a1), a2] R := callN_of_F fol Try.func18 (code := ((Try.f18).body).getD .skip) (by kernel_rfl) (by kernel_rfl) (by kernel_rfl) (X := F18n1 a0 a1 a2 m R) (by kernel_rfl) h
/- slices.Insert[[]skyway/api.JointRefuted,skyway/api.JointRefuted] at 2 -/
noncomputable def F18n2 (a0 : AV) (a1 : Int) (a2 : AV) (m : Mem) (R : AV → Mem → Prop) : Prop :=
opP (opA Try.prog (.slice 31 (.tmp 0) (some (.tmp 1)) none none) 31 [a0, (intA a1)] (mget m) 5) fun v0 =>
opP (lenS a2) fun v1 =>
ex_i64 v1 fun z2 =>
bif (z2 == (0)) then (
retL R m [some a0]) else (
opP (lenS a0) fun v3 =>
ex_i64 v3 fun z4 =>
bif (a1 == z4) then (
opN (app (mget m) 49 2 32 [AV.nils, (intA (0))] 19 a0 a2) m fun v5 m5 =>
retL R m5 [some v5]) else (
opP (opA Try.prog (.call ⟨.builtin .cap, #[.tmp 0], #[31]⟩) 3 [a0] (mget m) 21) fun v6 =>
ex_i64 v6 fun z7 =>
bif (decide ((IntKind.wrap .i64 (z4 + z2)) > z7)) then (
opP (opA Try.prog (.slice 31 (.tmp 0) none (some (.tmp 1)) none) 31 [a0, (intA a1)] (mget m) 25) fun v8 =>
opN (opA Try.prog (.call ⟨.builtin .append, #[.tmp 0, .tmp 1], #[31, 3]⟩) 31 [v8, (intA (IntKind.wrap .i64 ((IntKind.wrap .i64 (z4 + z2)) - a1)))] (mget m) 31) m fun v9 m9 =>
opP (opA Try.prog (.slice 31 (.tmp 0) (some (.tmp 1)) none none) 31 [v9, (intA a1)] (mget m9) 35) fun v10 =>
opN (opA Try.prog (.call ⟨.builtin .copy, #[.tmp 0, .tmp 1], #[31, 31]⟩) 3 [v10, a2] (mget m9) 37) m9 fun v11 m11 =>
ex_i64 v11 fun z12 =>
opM (opA Try.prog (.slice 31 (.tmp 0) (some (.tmp 1)) none none) 31 [v9, (intA (IntKind.wrap .i64 (a1 + z2)))] (look' m11 (topId v9 ++ (topId (intA (IntKind.wrap .i64 (a1 + z2))) ++ ([])))) 42) fun v13 d13 =>
opM (opA Try.prog (.slice 31 (.tmp 0) (some (.tmp 1)) none none) 31 [a0, (intA a1)] (look' (mpushs m11 d13) (topId a0 ++ (topId (intA a1) ++ ([])))) 45) fun v14 d14 =>
opM (opA Try.prog (.call ⟨.builtin .copy, #[.tmp 0, .tmp 1], #[31, 31]⟩) 3 [v13, v14] (look' (mpushs (mpushs m11 d13) d14) (topId v13 ++ (topId v14 ++ ([])))) 46) fun v15 d15 =>
ex_i64 v15 fun z16 =>
chk (confOk [0, 0, 0, 6, 15, 0, 0, 96, 255] [⟨[], []⟩, ⟨[], []⟩, ⟨[], []⟩, ⟨[], []⟩, ⟨d13, (topId v9 ++ (topId (intA (IntKind.wrap .i64 (a1 + z2))) ++ ([])))⟩, ⟨[], []⟩, ⟨[], []⟩, ⟨d14, (topId a0 ++ (topId (intA a1) ++ ([])))⟩, ⟨d15, (topId v13 ++ (topId v14 ++ ([])))⟩]) (retL R (mpushs (mpushs (mpushs m11 d13) d14) d15) [some v9])) else (
opP (opA Try.prog (.slice 31 (.tmp 0) none (some (.tmp 1)) none) 31 [a0, (intA (IntKind.wrap .i64 (z4 + z2)))] (mget m) 27) fun v17 =>
opP (opA Try.prog (.slice 31 (.tmp 0) (some (.tmp 1)) none none) 31 [v17, (intA (IntKind.wrap .i64 (a1 + z2)))] (mget m) 34) fun v18 =>
callQ Try.prog KK.gl m 34 [a2, v18] fun v19 =>
exB v19 fun b20 =>
bif (!b20) then (
opM (opA Try.prog (.slice 31 (.tmp 0) (some (.tmp 1)) none none) 31 [v17, (intA (IntKind.wrap .i64 (a1 + z2)))] (look' m (topId v17 ++ (topId (intA (IntKind.wrap .i64 (a1 + z2))) ++ ([])))) 104) fun v21 d21 =>
opM (opA Try.prog (.slice 31 (.tmp 0) (some (.tmp 1)) none none) 31 [v17, (intA a1)] (look' (mpushs m d21) (topId v17 ++ (topId (intA a1) ++ ([])))) 107) fun v22 d22 =>
opM (opA Try.prog (.call ⟨.builtin .copy, #[.tmp 0, .tmp 1], #[31, 31]⟩) 3 [v21, v22] (look' (mpushs (mpushs m d21) d22) (topId v21 ++ (topId v22 ++ ([])))) 108) fun v23 d23 =>
ex_i64 v23 fun z24 =>
chk (confOk [0, 0, 0, 6, 15, 0, 0, 96, 255] [⟨[], []⟩, ⟨[], []⟩, ⟨[], []⟩, ⟨[], []⟩, ⟨d21, (topId v17 ++ (topId (intA (IntKind.wrap .i64 (a1 + z2))) ++ ([])))⟩, ⟨[], []⟩, ⟨[], []⟩, ⟨d22, (topId v17 ++ (topId (intA a1) ++ ([])))⟩, ⟨d23, (topId v21 ++ (topId v22 ++ ([])))⟩]) (opP (opA Try.prog (.slice 31 (.tmp 0) (some (.tmp 1)) none none) 31 [v17, (intA a1)] (mget (mpushs (mpushs (mpushs m d21) d22) d23)) 111) fun v25 =>
opN (opA Try.prog (.call ⟨.builtin .copy, #[.tmp 0, .tmp 1], #[31, 31]⟩) 3 [v25, a2] (mget (mpushs (mpushs (mpushs m d21) d22) d23)) 113) (mpushs (mpushs (mpushs m d21) d22) d23) fun v26 m26 =>
ex_i64 v26 fun z27 =>
retL R m26 [some v17])) else (
opP (opA Try.prog (.slice 31 (.tmp 0) (some (.tmp 1)) none none) 31 [v17, (intA z4)] (mget m) 102) fun v28 =>
opN (opA Try.prog (.call ⟨.builtin .copy, #[.tmp 0, .tmp 1], #[31, 31]⟩) 3 [v28, a2] (mget m) 104) m fun v29 m29 =>
ex_i64 v29 fun z30 =>
opP (opA Try.prog (.slice 31 (.tmp 0) (some (.tmp 1)) none none) 31 [v17, (intA a1)] (mget m29) 107) fun v31 =>
callW Try.prog KK.gl m29 109 35 [v31, (intA z2)] fun v32 m32 =>
exT0 v32 <|
retL R m32 [some v17]))))
theorem F18n2_call (a0 : AV) (a1 : Int) (a2 : AV) (m : Mem) (R : AV → Mem → Prop) (h : F18n2 a0 a1 a2 m R) : callN Try.prog KK.gl m 2 18 [a0, (intA a1), a2] R := callN_of_F fol Try.func18 (code := ((Try.f18).body).getD .skip) (by kernel_rfl) (by kernel_rfl) (by kernel_rfl) (X := F18n2 a0 a1 a2 m R) (by kernel_rfl) h
end Go.Proofs.Ytlgbioidkbeanaa
