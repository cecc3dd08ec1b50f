/- Functions of the program as conditions on their answers; printed by wip/Gen.lean.txt. -/
import Derived.Test.YtfncpfnanmoapaaX1T
set_option linter.unusedVariables false
set_option maxRecDepth 100000
set_option maxHeartbeats 4000000
namespace Go.Proofs.Ytfncpfnanmoapaa
/- skyway/plane.Check -/
noncomputable def c19 : Code := ((Try.f19).body).getD .skip
noncomputable def q19 (R : AV → Mem → Prop) : AExit → St → Prop := retQ Try.prog Try.f19 R
noncomputable def F19 (a0_0 : Int) (a0_1 : Int) (R : AV → Mem → Prop) : Prop :=
bif (decide (a0_0 < (-1000000))) then (
retL R ((0, some ⟨[(intA a0_0), (intA a0_1)], 24⟩) :: []) [some (intA (4))]) else (
bif (decide (a0_0 > (1000000))) then (
retL R ((0, some ⟨[(intA a0_0), (intA a0_1)], 24⟩) :: []) [some (intA (4))]) else (
bif (decide (a0_1 < (-1000000))) then (
retL R ((0, some ⟨[(intA a0_0), (intA a0_1)], 24⟩) :: []) [some (intA (4))]) else (
bif (decide (a0_1 > (1000000))) then (
retL R ((0, some ⟨[(intA a0_0), (intA a0_1)], 24⟩) :: []) [some (intA (4))]) else (
retL R ((0, some ⟨[(intA a0_0), (intA a0_1)], 24⟩) :: []) [some (intA (0))]))))
theorem F19_own (a0_0 : Int) (a0_1 : Int) (R : AV → Mem → Prop) (h : F19 a0_0 a0_1 R) : Own Try.prog KK.gl 19 [(AV.agg [(intA a0_0), (intA a0_1)])] R := own_of_F fol Try.func19 (code := c19) (by kernel_rfl) (by kernel_rfl) (by kernel_rfl) (X := F19 a0_0 a0_1 R) (by kernel_rfl) h
/- skyway/tube.Check -/
noncomputable def c22 : Code := ((Try.f22).body).getD .skip
noncomputable def q22 (R : AV → Mem → Prop) : AExit → St → Prop := retQ Try.prog Try.f22 R
noncomputable def c22_0 : Code := loopB c22 0
noncomputable def q22_0 (R : AV → Mem → Prop) : AExit → St → Prop := contW Try.prog KK 86 0 c22 0 (q22 R)
noncomputable def qq22_0 (R : AV → Mem → Prop) (N0 : St → Prop) : AExit → St → Prop := thenQ N0 (q22_0 R)
def h22_0 (t0 : AV) (t2 : Int) (t14 : AV) (t15 : Int) (t16 : Int) (m : Mem) : St := ⟨[(0, t0), (2, (intA t2)), (14, t14), (15, (intA t15)), (16, (intA t16))], m, 100000⟩
noncomputable def B22_0 (t0 : AV) (t2 : Int) (t14 : AV) (t15 : Int) (t16 : Int) (m : Mem) (R : AV → Mem → Prop) (N0 : St → Prop) : Prop :=
bif (decide (t16 < t15)) then (
opP (idxS 6 t14 (intA t16)) fun v6 =>
opP (ldA (mget m) 6 v6) fun v7 =>
exA6 v7 fun c8 c9 c10 c11 c12 c13 =>
ex_i64 c8 fun z14 =>
ex_i64 c9 fun z15 =>
ex_i64 c10 fun z16 =>
ex_i64 c11 fun z17 =>
ex_i64 c12 fun z18 =>
ex_i64 c13 fun z19 =>
bif (decide (z14 < (0))) then (
retL R ((100004, some ⟨[(intA z14), (intA z15), (intA z16), (intA z17), (intA z18), (intA z19)], 66⟩) :: (100004, some ⟨[(intA (0)), (intA (0)), (intA (0)), (intA (0)), (intA (0)), (intA (0))], 66⟩) :: m) [some (intA (12))]) else (
bif (decide (z14 > (200000))) then (
retL R ((100004, some ⟨[(intA z14), (intA z15), (intA z16), (intA z17), (intA z18), (intA z19)], 66⟩) :: (100004, some ⟨[(intA (0)), (intA (0)), (intA (0)), (intA (0)), (intA (0)), (intA (0))], 66⟩) :: m) [some (intA (12))]) else (
bif (decide (t16 > (0))) then (
opP (idxS 6 t0 (intA (IntKind.wrap .i64 (t16 - (1))))) fun v20 =>
opP (fldO 0 v20) fun v21 =>
opP (fldO 0 v21) fun v22 =>
opP (ldS (mget ((100004, some ⟨[(intA z14), (intA z15), (intA z16), (intA z17), (intA z18), (intA z19)], 66⟩) :: (100004, some ⟨[(intA (0)), (intA (0)), (intA (0)), (intA (0)), (intA (0)), (intA (0))], 66⟩) :: m)) v22) fun v23 =>
ex_i64 v23 fun z24 =>
bif (decide (z14 ≤ z24)) then (
retL R ((100004, some ⟨[(intA z14), (intA z15), (intA z16), (intA z17), (intA z18), (intA z19)], 66⟩) :: (100004, some ⟨[(intA (0)), (intA (0)), (intA (0)), (intA (0)), (intA (0)), (intA (0))], 66⟩) :: m) [some (intA (12))]) else (
callQ Try.prog KK.gl ((100004, some ⟨[(intA z14), (intA z15), (intA z16), (intA z17), (intA z18), (intA z19)], 66⟩) :: (100004, some ⟨[(intA (0)), (intA (0)), (intA (0)), (intA (0)), (intA (0)), (intA (0))], 66⟩) :: m) 19 [(AV.agg [(intA z15), (intA z16)])] fun v25 =>
ex_i64 v25 fun z26 =>
bif (z26 != (0)) then (
retL R ((100004, some ⟨[(intA z14), (intA z15), (intA z16), (intA z17), (intA z18), (intA z19)], 66⟩) :: (100004, some ⟨[(intA (0)), (intA (0)), (intA (0)), (intA (0)), (intA (0)), (intA (0))], 66⟩) :: m) [some (intA z26)]) else (
bif (decide (z17 < (0))) then (
retL R ((100004, some ⟨[(intA z14), (intA z15), (intA z16), (intA z17), (intA z18), (intA z19)], 66⟩) :: (100004, some ⟨[(intA (0)), (intA (0)), (intA (0)), (intA (0)), (intA (0)), (intA (0))], 66⟩) :: m) [some (intA (4))]) else (
bif (decide (z17 > (60000))) then (
retL R ((100004, some ⟨[(intA z14), (intA z15), (intA z16), (intA z17), (intA z18), (intA z19)], 66⟩) :: (100004, some ⟨[(intA (0)), (intA (0)), (intA (0)), (intA (0)), (intA (0)), (intA (0))], 66⟩) :: m) [some (intA (4))]) else (
bif (decide (z18 < (0))) then (
retL R ((100004, some ⟨[(intA z14), (intA z15), (intA z16), (intA z17), (intA z18), (intA z19)], 66⟩) :: (100004, some ⟨[(intA (0)), (intA (0)), (intA (0)), (intA (0)), (intA (0)), (intA (0))], 66⟩) :: m) [some (intA (4))]) else (
bif (decide (z18 > (1000000))) then (
retL R ((100004, some ⟨[(intA z14), (intA z15), (intA z16), (intA z17), (intA z18), (intA z19)], 66⟩) :: (100004, some ⟨[(intA (0)), (intA (0)), (intA (0)), (intA (0)), (intA (0)), (intA (0))], 66⟩) :: m) [some (intA (4))]) else (
bif (decide (z19 < (0))) then (
retL R ((100004, some ⟨[(intA z14), (intA z15), (intA z16), (intA z17), (intA z18), (intA z19)], 66⟩) :: (100004, some ⟨[(intA (0)), (intA (0)), (intA (0)), (intA (0)), (intA (0)), (intA (0))], 66⟩) :: m) [some (intA (4))]) else (
bif (decide (z19 > (60000))) then (
retL R ((100004, some ⟨[(intA z14), (intA z15), (intA z16), (intA z17), (intA z18), (intA z19)], 66⟩) :: (100004, some ⟨[(intA (0)), (intA (0)), (intA (0)), (intA (0)), (intA (0)), (intA (0))], 66⟩) :: m) [some (intA (4))]) else (
N0 ⟨[(0, t0), (2, (intA t2)), (14, t14), (15, (intA t15)), (16, (intA (IntKind.wrap .i64 (t16 + (1))))), (17, (boolA (decide (t16 < t15)))), (18, (intA t16)), (19, v6), (20, (AV.agg [(intA z14), (intA z15), (intA z16), (intA z17), (intA z18), (intA z19)])), (4, (AV.ptr 100004 0)), (3, (intA t16)), (21, (AV.ptr 100004 0)), (22, (AV.ptr 100004 0)), (23, (intA z14)), (24, (boolA (decide (z14 < (0))))), (25, (boolA false)), (26, (AV.ptr 100004 0)), (27, (AV.ptr 100004 0)), (28, (intA z14)), (29, (boolA (decide (z14 > (200000))))), (30, (boolA (decide (z14 > (200000))))), (31, (boolA false)), (32, (intA t16)), (33, (boolA (decide (t16 > (0))))), (34, (boolA true)), (35, (AV.ptr 100004 0)), (36, (AV.ptr 100004 0)), (37, (intA z14)), (38, t0), (39, (intA t16)), (40, (intA (IntKind.wrap .i64 (t16 - (1))))), (41, v20), (42, v21), (43, v22), (44, (intA z24)), (45, (boolA (decide (z14 ≤ z24)))), (46, (boolA (decide (z14 ≤ z24)))), (47, (boolA (decide (z14 ≤ z24)))), (48, (AV.ptr 100004 0)), (49, (AV.ptr 100004 1)), (50, (AV.agg [(intA z15), (intA z16)])), (51, (intA z26)), (5, (intA z26)), (52, (intA z26)), (53, (boolA (z26 != (0)))), (55, (AV.ptr 100004 0)), (56, (AV.ptr 100004 3)), (57, (intA z17)), (58, (boolA (decide (z17 < (0))))), (59, (boolA false)), (60, (AV.ptr 100004 0)), (61, (AV.ptr 100004 3)), (62, (intA z17)), (63, (boolA (decide (z17 > (60000))))), (64, (boolA (decide (z17 > (60000))))), (65, (boolA false)), (66, (AV.ptr 100004 4)), (67, (intA z18)), (68, (boolA (decide (z18 < (0))))), (69, (boolA (decide (z18 < (0))))), (70, (boolA false)), (71, (AV.ptr 100004 4)), (72, (intA z18)), (73, (boolA (decide (z18 > (1000000))))), (74, (boolA (decide (z18 > (1000000))))), (75, (boolA false)), (76, (AV.ptr 100004 5)), (77, (intA z19)), (78, (boolA (decide (z19 < (0))))), (79, (boolA (decide (z19 < (0))))), (80, (boolA false)), (81, (AV.ptr 100004 5)), (82, (intA z19)), (83, (boolA (decide (z19 > (60000))))), (84, (boolA (decide (z19 > (60000))))), (85, (intA (IntKind.wrap .i64 (t16 + (1)))))], ((100004, some ⟨[(intA z14), (intA z15), (intA z16), (intA z17), (intA z18), (intA z19)], 66⟩) :: (100004, some ⟨[(intA (0)), (intA (0)), (intA (0)), (intA (0)), (intA (0)), (intA (0))], 66⟩) :: m), 100136⟩))))))))) else (
callQ Try.prog KK.gl ((100004, some ⟨[(intA z14), (intA z15), (intA z16), (intA z17), (intA z18), (intA z19)], 66⟩) :: (100004, some ⟨[(intA (0)), (intA (0)), (intA (0)), (intA (0)), (intA (0)), (intA (0))], 66⟩) :: m) 19 [(AV.agg [(intA z15), (intA z16)])] fun v27 =>
ex_i64 v27 fun z28 =>
bif (z28 != (0)) then (
retL R ((100004, some ⟨[(intA z14), (intA z15), (intA z16), (intA z17), (intA z18), (intA z19)], 66⟩) :: (100004, some ⟨[(intA (0)), (intA (0)), (intA (0)), (intA (0)), (intA (0)), (intA (0))], 66⟩) :: m) [some (intA z28)]) else (
bif (decide (z17 < (0))) then (
retL R ((100004, some ⟨[(intA z14), (intA z15), (intA z16), (intA z17), (intA z18), (intA z19)], 66⟩) :: (100004, some ⟨[(intA (0)), (intA (0)), (intA (0)), (intA (0)), (intA (0)), (intA (0))], 66⟩) :: m) [some (intA (4))]) else (
bif (decide (z17 > (60000))) then (
retL R ((100004, some ⟨[(intA z14), (intA z15), (intA z16), (intA z17), (intA z18), (intA z19)], 66⟩) :: (100004, some ⟨[(intA (0)), (intA (0)), (intA (0)), (intA (0)), (intA (0)), (intA (0))], 66⟩) :: m) [some (intA (4))]) else (
bif (decide (z18 < (0))) then (
retL R ((100004, some ⟨[(intA z14), (intA z15), (intA z16), (intA z17), (intA z18), (intA z19)], 66⟩) :: (100004, some ⟨[(intA (0)), (intA (0)), (intA (0)), (intA (0)), (intA (0)), (intA (0))], 66⟩) :: m) [some (intA (4))]) else (
bif (decide (z18 > (1000000))) then (
retL R ((100004, some ⟨[(intA z14), (intA z15), (intA z16), (intA z17), (intA z18), (intA z19)], 66⟩) :: (100004, some ⟨[(intA (0)), (intA (0)), (intA (0)), (intA (0)), (intA (0)), (intA (0))], 66⟩) :: m) [some (intA (4))]) else (
bif (decide (z19 < (0))) then (
retL R ((100004, some ⟨[(intA z14), (intA z15), (intA z16), (intA z17), (intA z18), (intA z19)], 66⟩) :: (100004, some ⟨[(intA (0)), (intA (0)), (intA (0)), (intA (0)), (intA (0)), (intA (0))], 66⟩) :: m) [some (intA (4))]) else (
bif (decide (z19 > (60000))) then (
retL R ((100004, some ⟨[(intA z14), (intA z15), (intA z16), (intA z17), (intA z18), (intA z19)], 66⟩) :: (100004, some ⟨[(intA (0)), (intA (0)), (intA (0)), (intA (0)), (intA (0)), (intA (0))], 66⟩) :: m) [some (intA (4))]) else (
N0 ⟨[(0, t0), (2, (intA t2)), (14, t14), (15, (intA t15)), (16, (intA (IntKind.wrap .i64 (t16 + (1))))), (17, (boolA (decide (t16 < t15)))), (18, (intA t16)), (19, v6), (20, (AV.agg [(intA z14), (intA z15), (intA z16), (intA z17), (intA z18), (intA z19)])), (4, (AV.ptr 100004 0)), (3, (intA t16)), (21, (AV.ptr 100004 0)), (22, (AV.ptr 100004 0)), (23, (intA z14)), (24, (boolA (decide (z14 < (0))))), (25, (boolA false)), (26, (AV.ptr 100004 0)), (27, (AV.ptr 100004 0)), (28, (intA z14)), (29, (boolA (decide (z14 > (200000))))), (30, (boolA (decide (z14 > (200000))))), (31, (boolA false)), (32, (intA t16)), (33, (boolA (decide (t16 > (0))))), (34, (boolA false)), (35, (AV.tup [])), (36, (AV.tup [])), (37, (AV.tup [])), (38, (AV.tup [])), (39, (AV.tup [])), (40, (AV.tup [])), (41, (AV.tup [])), (42, (AV.tup [])), (43, (AV.tup [])), (44, (AV.tup [])), (45, (AV.tup [])), (46, (boolA false)), (47, (boolA false)), (48, (AV.ptr 100004 0)), (49, (AV.ptr 100004 1)), (50, (AV.agg [(intA z15), (intA z16)])), (51, (intA z28)), (5, (intA z28)), (52, (intA z28)), (53, (boolA (z28 != (0)))), (55, (AV.ptr 100004 0)), (56, (AV.ptr 100004 3)), (57, (intA z17)), (58, (boolA (decide (z17 < (0))))), (59, (boolA false)), (60, (AV.ptr 100004 0)), (61, (AV.ptr 100004 3)), (62, (intA z17)), (63, (boolA (decide (z17 > (60000))))), (64, (boolA (decide (z17 > (60000))))), (65, (boolA false)), (66, (AV.ptr 100004 4)), (67, (intA z18)), (68, (boolA (decide (z18 < (0))))), (69, (boolA (decide (z18 < (0))))), (70, (boolA false)), (71, (AV.ptr 100004 4)), (72, (intA z18)), (73, (boolA (decide (z18 > (1000000))))), (74, (boolA (decide (z18 > (1000000))))), (75, (boolA false)), (76, (AV.ptr 100004 5)), (77, (intA z19)), (78, (boolA (decide (z19 < (0))))), (79, (boolA (decide (z19 < (0))))), (80, (boolA false)), (81, (AV.ptr 100004 5)), (82, (intA z19)), (83, (boolA (decide (z19 > (60000))))), (84, (boolA (decide (z19 > (60000))))), (85, (intA (IntKind.wrap .i64 (t16 + (1)))))], ((100004, some ⟨[(intA z14), (intA z15), (intA z16), (intA z17), (intA z18), (intA z19)], 66⟩) :: (100004, some ⟨[(intA (0)), (intA (0)), (intA (0)), (intA (0)), (intA (0)), (intA (0))], 66⟩) :: m), 100136⟩))))))))))) else (
retL R m [some (intA (0))])
theorem B22_0_eq (t0 : AV) (t2 : Int) (t14 : AV) (t15 : Int) (t16 : Int) (m : Mem) (R : AV → Mem → Prop) (N0 : St → Prop) : W Try.prog KK 86 0 c22_0 (h22_0 t0 t2 t14 t15 t16 m) (qq22_0 R N0) = B22_0 t0 t2 t14 t15 t16 m R N0 := by kernel_rfl
theorem L22_0 (R : AV → Mem → Prop) {σ : Type} (I : σ → Prop) (t0 : σ → AV) (t2 : σ → Int) (t14 : σ → AV) (t15 : σ → Int) (t16 : σ → Int) (m : σ → Mem) (μ : σ → Nat) (step : ∀ x, I x → B22_0 (t0 x) (t2 x) (t14 x) (t15 x) (t16 x) (m x) R (fun s' => ∃ y, I y ∧ μ y < μ x ∧ Weak KK 86 0 s' (h22_0 (t0 y) (t2 y) (t14 y) (t15 y) (t16 y) (m y)))) (x : σ) (hx : I x) {s : St} (hw : Weak KK 86 0 s (h22_0 (t0 x) (t2 x) (t14 x) (t15 x) (t16 x) (m x))) : Tri Try.prog KK 86 0 (.loop c22_0) s (q22_0 R) :=
  Tri.weak hw (Tri.loops fol I (fun x => h22_0 (t0 x) (t2 x) (t14 x) (t15 x) (t16 x) (m x)) μ (fun x hx => (B22_0_eq (t0 x) (t2 x) (t14 x) (t15 x) (t16 x) (m x) R _).mpr (step x hx)) x hx)
noncomputable def F22 (a0 : AV) (R : AV → Mem → Prop) : Prop :=
opP (lenS a0) fun v0 =>
ex_i64 v0 fun z1 =>
bif (decide (z1 > (64))) then (
retL R [] [some (intA (2))]) else (
opP (lenS a0) fun v2 =>
ex_i64 v2 fun z3 =>
bif (z3 == (0)) then (
retL R [] [some (intA (3))]) else (
opP (lenS a0) fun v4 =>
ex_i64 v4 fun z5 =>
Tri Try.prog KK 86 0 (.loop c22_0) ⟨[(0, a0), (2, (intA (0))), (7, a0), (8, (intA z1)), (9, (boolA (decide (z1 > (64))))), (6, (boolA (decide (z1 > (64))))), (11, a0), (12, (intA z3)), (13, (boolA (z3 == (0)))), (10, (boolA (z3 == (0)))), (14, a0), (15, (intA z5)), (16, (intA (0)))], [], 12⟩ (q22_0 R)))
theorem F22_own (a0 : AV) (R : AV → Mem → Prop) (h : F22 a0 R) : Own Try.prog KK.gl 22 [a0] R := own_of_F fol Try.func22 (code := c22) (by kernel_rfl) (by kernel_rfl) (by kernel_rfl) (X := F22 a0 R) (by kernel_rfl) h
/- skyway/tube.ends -/
noncomputable def c46 : Code := ((Try.f46).body).getD .skip
noncomputable def q46 (R : AV → Mem → Prop) : AExit → St → Prop := retQ Try.prog Try.f46 R
noncomputable def F46 (a0 : AV) (R : AV → Mem → Prop) : Prop :=
opP (idxS 6 a0 (intA (0))) fun v0 =>
opP (fldO 0 v0) fun v1 =>
opP (fldO 0 v1) fun v2 =>
opP (ldS (mget []) v2) fun v3 =>
ex_i64 v3 fun z4 =>
opP (lenS a0) fun v5 =>
ex_i64 v5 fun z6 =>
opP (idxS 6 a0 (intA (IntKind.wrap .i64 (z6 - (1))))) fun v7 =>
opP (fldO 0 v7) fun v8 =>
opP (fldO 0 v8) fun v9 =>
opP (ldS (mget []) v9) fun v10 =>
ex_i64 v10 fun z11 =>
retL R [] [some (intA z4), some (intA z11)]
theorem F46_own (a0 : AV) (R : AV → Mem → Prop) (h : F46 a0 R) : Own Try.prog KK.gl 46 [a0] R := own_of_F fol Try.func46 (code := c46) (by kernel_rfl) (by kernel_rfl) (by kernel_rfl) (X := F46 a0 R) (by kernel_rfl) h
/- skyway/polygon.next -/
noncomputable def c39 : Code := ((Try.f39).body).getD .skip
noncomputable def q39 (R : AV → Mem → Prop) : AExit → St → Prop := retQ Try.prog Try.f39 R
noncomputable def F39 (a0 : AV) (a1 : Int) (R : AV → Mem → Prop) : Prop :=
opP (lenS a0) fun v0 =>
ex_i64 v0 fun z1 =>
opP (opA Try.prog (.binOp .rem 3 (.tmp 0) (.tmp 1) 3) 3 [(intA (IntKind.wrap .i64 (a1 + (1)))), (intA z1)] (mget ((0, some ⟨[(intA (0)), (intA (0))], 24⟩) :: [])) 6) fun v2 =>
ex_i64 v2 fun z3 =>
opP (idxS 2 a0 (intA z3)) fun v4 =>
opP (ldA (mget ((0, some ⟨[(intA (0)), (intA (0))], 24⟩) :: [])) 2 v4) fun v5 =>
exA2 v5 fun c6 c7 =>
ex_i64 c6 fun z8 =>
ex_i64 c7 fun z9 =>
retL R ((0, some ⟨[(intA z8), (intA z9)], 24⟩) :: (0, some ⟨[(intA (0)), (intA (0))], 24⟩) :: []) [some (AV.agg [(intA z8), (intA z9)])]
theorem F39_own (a0 : AV) (a1 : Int) (R : AV → Mem → Prop) (h : F39 a0 a1 R) : Own Try.prog KK.gl 39 [a0, (intA a1)] R := own_of_F fol Try.func39 (code := c39) (by kernel_rfl) (by kernel_rfl) (by kernel_rfl) (X := F39 a0 a1 R) (by kernel_rfl) h
/- skyway/plane.Sub -/
noncomputable def c51 : Code := ((Try.f51).body).getD .skip
noncomputable def q51 (R : AV → Mem → Prop) : AExit → St → Prop := retQ Try.prog Try.f51 R
noncomputable def F51 (a0_0 : Int) (a0_1 : Int) (a1_0 : Int) (a1_1 : Int) (R : AV → Mem → Prop) : Prop :=
opP (bld [(intA (0)), (intA (0))] [(0, 1), (1, 1)] [(0, (intA (IntKind.wrap .i64 (a0_0 - a1_0)))), (1, (intA (IntKind.wrap .i64 (a0_1 - a1_1))))]) fun v0 =>
storeW Try.prog (mget ((2, some ⟨[(intA (0)), (intA (0))], 24⟩) :: (1, some ⟨[(intA a1_0), (intA a1_1)], 24⟩) :: (0, some ⟨[(intA a0_0), (intA a0_1)], 24⟩) :: [])) 24 (AV.ptr 2 0) v0 fun v1 d1 =>
retL R (mpushs ((2, some ⟨[(intA (0)), (intA (0))], 24⟩) :: (1, some ⟨[(intA a1_0), (intA a1_1)], 24⟩) :: (0, some ⟨[(intA a0_0), (intA a0_1)], 24⟩) :: []) d1) [(aLoad Try.prog (mget (mpushs ((2, some ⟨[(intA (0)), (intA (0))], 24⟩) :: (1, some ⟨[(intA a1_0), (intA a1_1)], 24⟩) :: (0, some ⟨[(intA a0_0), (intA a0_1)], 24⟩) :: []) d1)) 24 (AV.ptr 2 0)).map (·.1)]
theorem F51_own (a0_0 : Int) (a0_1 : Int) (a1_0 : Int) (a1_1 : Int) (R : AV → Mem → Prop) (h : F51 a0_0 a0_1 a1_0 a1_1 R) : Own Try.prog KK.gl 51 [(AV.agg [(intA a0_0), (intA a0_1)]), (AV.agg [(intA a1_0), (intA a1_1)])] R := own_of_F fol Try.func51 (code := c51) (by kernel_rfl) (by kernel_rfl) (by kernel_rfl) (X := F51 a0_0 a0_1 a1_0 a1_1 R) (by kernel_rfl) h
/- skyway/plane.Cross -/
noncomputable def c41 : Code := ((Try.f41).body).getD .skip
noncomputable def q41 (R : AV → Mem → Prop) : AExit → St → Prop := retQ Try.prog Try.f41 R
noncomputable def F41 (a0_0 : Int) (a0_1 : Int) (a1_0 : Int) (a1_1 : Int) (R : AV → Mem → Prop) : Prop :=
retL R ((1, some ⟨[(intA a1_0), (intA a1_1)], 24⟩) :: (0, some ⟨[(intA a0_0), (intA a0_1)], 24⟩) :: []) [some (intA (IntKind.wrap .i64 ((IntKind.wrap .i64 (a0_0 * a1_1)) - (IntKind.wrap .i64 (a0_1 * a1_0)))))]
theorem F41_own (a0_0 : Int) (a0_1 : Int) (a1_0 : Int) (a1_1 : Int) (R : AV → Mem → Prop) (h : F41 a0_0 a0_1 a1_0 a1_1 R) : Own Try.prog KK.gl 41 [(AV.agg [(intA a0_0), (intA a0_1)]), (AV.agg [(intA a1_0), (intA a1_1)])] R := own_of_F fol Try.func41 (code := c41) (by kernel_rfl) (by kernel_rfl) (by kernel_rfl) (X := F41 a0_0 a0_1 a1_0 a1_1 R) (by kernel_rfl) h
/- skyway/plane.Turn -/
noncomputable def c38 : Code := ((Try.f38).body).getD .skip
noncomputable def q38 (R : AV → Mem → Prop) : AExit → St → Prop := retQ Try.prog Try.f38 R
noncomputable def F38 (a0_0 : Int) (a0_1 : Int) (a1_0 : Int) (a1_1 : Int) (a2_0 : Int) (a2_1 : Int) (R : AV → Mem → Prop) : Prop :=
callQ Try.prog KK.gl ((2, some ⟨[(intA a2_0), (intA a2_1)], 24⟩) :: (1, some ⟨[(intA a1_0), (intA a1_1)], 24⟩) :: (0, some ⟨[(intA a0_0), (intA a0_1)], 24⟩) :: []) 51 [(AV.agg [(intA a1_0), (intA a1_1)]), (AV.agg [(intA a0_0), (intA a0_1)])] fun v0 =>
exA2 v0 fun c1 c2 =>
ex_i64 c1 fun z3 =>
ex_i64 c2 fun z4 =>
callQ Try.prog KK.gl ((2, some ⟨[(intA a2_0), (intA a2_1)], 24⟩) :: (1, some ⟨[(intA a1_0), (intA a1_1)], 24⟩) :: (0, some ⟨[(intA a0_0), (intA a0_1)], 24⟩) :: []) 51 [(AV.agg [(intA a2_0), (intA a2_1)]), (AV.agg [(intA a0_0), (intA a0_1)])] fun v5 =>
exA2 v5 fun c6 c7 =>
ex_i64 c6 fun z8 =>
ex_i64 c7 fun z9 =>
callQ Try.prog KK.gl ((2, some ⟨[(intA a2_0), (intA a2_1)], 24⟩) :: (1, some ⟨[(intA a1_0), (intA a1_1)], 24⟩) :: (0, some ⟨[(intA a0_0), (intA a0_1)], 24⟩) :: []) 41 [(AV.agg [(intA z3), (intA z4)]), (AV.agg [(intA z8), (intA z9)])] fun v10 =>
ex_i64 v10 fun z11 =>
bif (decide (z11 > (0))) then (
retL R ((2, some ⟨[(intA a2_0), (intA a2_1)], 24⟩) :: (1, some ⟨[(intA a1_0), (intA a1_1)], 24⟩) :: (0, some ⟨[(intA a0_0), (intA a0_1)], 24⟩) :: []) [some (intA (1))]) else (
bif (decide (z11 < (0))) then (
retL R ((2, some ⟨[(intA a2_0), (intA a2_1)], 24⟩) :: (1, some ⟨[(intA a1_0), (intA a1_1)], 24⟩) :: (0, some ⟨[(intA a0_0), (intA a0_1)], 24⟩) :: []) [some (intA (-1))]) else (
retL R ((2, some ⟨[(intA a2_0), (intA a2_1)], 24⟩) :: (1, some ⟨[(intA a1_0), (intA a1_1)], 24⟩) :: (0, some ⟨[(intA a0_0), (intA a0_1)], 24⟩) :: []) [some (intA (0))]))
theorem F38_own (a0_0 : Int) (a0_1 : Int) (a1_0 : Int) (a1_1 : Int) (a2_0 : Int) (a2_1 : Int) (R : AV → Mem → Prop) (h : F38 a0_0 a0_1 a1_0 a1_1 a2_0 a2_1 R) : Own Try.prog KK.gl 38 [(AV.agg [(intA a0_0), (intA a0_1)]), (AV.agg [(intA a1_0), (intA a1_1)]), (AV.agg [(intA a2_0), (intA a2_1)])] R := own_of_F fol Try.func38 (code := c38) (by kernel_rfl) (by kernel_rfl) (by kernel_rfl) (X := F38 a0_0 a0_1 a1_0 a1_1 a2_0 a2_1 R) (by kernel_rfl) h
/- skyway/polygon.between -/
noncomputable def c62 : Code := ((Try.f62).body).getD .skip
noncomputable def q62 (R : AV → Mem → Prop) : AExit → St → Prop := retQ Try.prog Try.f62 R
noncomputable def F62 (a0_0 : Int) (a0_1 : Int) (a1_0 : Int) (a1_1 : Int) (a2_0 : Int) (a2_1 : Int) (R : AV → Mem → Prop) : Prop :=
opP (opA Try.prog (.call ⟨.builtin .min, #[.tmp 0, .tmp 1], #[3, 3]⟩) 3 [(intA a0_0), (intA a1_0)] (mget ((2, some ⟨[(intA a2_0), (intA a2_1)], 24⟩) :: (1, some ⟨[(intA a1_0), (intA a1_1)], 24⟩) :: (0, some ⟨[(intA a0_0), (intA a0_1)], 24⟩) :: [])) 8) fun v0 =>
ex_i64 v0 fun z1 =>
bif (decide (z1 ≤ a2_0)) then (
opP (opA Try.prog (.call ⟨.builtin .max, #[.tmp 0, .tmp 1], #[3, 3]⟩) 3 [(intA a0_0), (intA a1_0)] (mget ((2, some ⟨[(intA a2_0), (intA a2_1)], 24⟩) :: (1, some ⟨[(intA a1_0), (intA a1_1)], 24⟩) :: (0, some ⟨[(intA a0_0), (intA a0_1)], 24⟩) :: [])) 19) fun v2 =>
ex_i64 v2 fun z3 =>
bif (decide (a2_0 ≤ z3)) then (
opP (opA Try.prog (.call ⟨.builtin .min, #[.tmp 0, .tmp 1], #[3, 3]⟩) 3 [(intA a0_1), (intA a1_1)] (mget ((2, some ⟨[(intA a2_0), (intA a2_1)], 24⟩) :: (1, some ⟨[(intA a1_0), (intA a1_1)], 24⟩) :: (0, some ⟨[(intA a0_0), (intA a0_1)], 24⟩) :: [])) 27) fun v4 =>
ex_i64 v4 fun z5 =>
bif (decide (z5 ≤ a2_1)) then (
opP (opA Try.prog (.call ⟨.builtin .max, #[.tmp 0, .tmp 1], #[3, 3]⟩) 3 [(intA a0_1), (intA a1_1)] (mget ((2, some ⟨[(intA a2_0), (intA a2_1)], 24⟩) :: (1, some ⟨[(intA a1_0), (intA a1_1)], 24⟩) :: (0, some ⟨[(intA a0_0), (intA a0_1)], 24⟩) :: [])) 39) fun v6 =>
ex_i64 v6 fun z7 =>
retL R ((2, some ⟨[(intA a2_0), (intA a2_1)], 24⟩) :: (1, some ⟨[(intA a1_0), (intA a1_1)], 24⟩) :: (0, some ⟨[(intA a0_0), (intA a0_1)], 24⟩) :: []) [some (boolA (decide (a2_1 ≤ z7)))]) else (
retL R ((2, some ⟨[(intA a2_0), (intA a2_1)], 24⟩) :: (1, some ⟨[(intA a1_0), (intA a1_1)], 24⟩) :: (0, some ⟨[(intA a0_0), (intA a0_1)], 24⟩) :: []) [some (boolA false)])) else (
retL R ((2, some ⟨[(intA a2_0), (intA a2_1)], 24⟩) :: (1, some ⟨[(intA a1_0), (intA a1_1)], 24⟩) :: (0, some ⟨[(intA a0_0), (intA a0_1)], 24⟩) :: []) [some (boolA false)])) else (
retL R ((2, some ⟨[(intA a2_0), (intA a2_1)], 24⟩) :: (1, some ⟨[(intA a1_0), (intA a1_1)], 24⟩) :: (0, some ⟨[(intA a0_0), (intA a0_1)], 24⟩) :: []) [some (boolA false)])
theorem F62_own (a0_0 : Int) (a0_1 : Int) (a1_0 : Int) (a1_1 : Int) (a2_0 : Int) (a2_1 : Int) (R : AV → Mem → Prop) (h : F62 a0_0 a0_1 a1_0 a1_1 a2_0 a2_1 R) : Own Try.prog KK.gl 62 [(AV.agg [(intA a0_0), (intA a0_1)]), (AV.agg [(intA a1_0), (intA a1_1)]), (AV.agg [(intA a2_0), (intA a2_1)])] R := own_of_F fol Try.func62 (code := c62) (by kernel_rfl) (by kernel_rfl) (by kernel_rfl) (X := F62 a0_0 a0_1 a1_0 a1_1 a2_0 a2_1 R) (by kernel_rfl) h
/- skyway/polygon.on -/
noncomputable def c52 : Code := ((Try.f52).body).getD .skip
noncomputable def q52 (R : AV → Mem → Prop) : AExit → St → Prop := retQ Try.prog Try.f52 R
noncomputable def F52 (a0_0 : Int) (a0_1 : Int) (a1_0 : Int) (a1_1 : Int) (a2_0 : Int) (a2_1 : Int) (R : AV → Mem → Prop) : Prop :=
callQ Try.prog KK.gl ((2, some ⟨[(intA a2_0), (intA a2_1)], 24⟩) :: (1, some ⟨[(intA a1_0), (intA a1_1)], 24⟩) :: (0, some ⟨[(intA a0_0), (intA a0_1)], 24⟩) :: []) 38 [(AV.agg [(intA a0_0), (intA a0_1)]), (AV.agg [(intA a1_0), (intA a1_1)]), (AV.agg [(intA a2_0), (intA a2_1)])] fun v0 =>
ex_i64 v0 fun z1 =>
bif (z1 == (0)) then (
callQ Try.prog KK.gl ((2, some ⟨[(intA a2_0), (intA a2_1)], 24⟩) :: (1, some ⟨[(intA a1_0), (intA a1_1)], 24⟩) :: (0, some ⟨[(intA a0_0), (intA a0_1)], 24⟩) :: []) 62 [(AV.agg [(intA a0_0), (intA a0_1)]), (AV.agg [(intA a1_0), (intA a1_1)]), (AV.agg [(intA a2_0), (intA a2_1)])] fun v2 =>
exB v2 fun b3 =>
retL R ((2, some ⟨[(intA a2_0), (intA a2_1)], 24⟩) :: (1, some ⟨[(intA a1_0), (intA a1_1)], 24⟩) :: (0, some ⟨[(intA a0_0), (intA a0_1)], 24⟩) :: []) [some (boolA b3)]) else (
retL R ((2, some ⟨[(intA a2_0), (intA a2_1)], 24⟩) :: (1, some ⟨[(intA a1_0), (intA a1_1)], 24⟩) :: (0, some ⟨[(intA a0_0), (intA a0_1)], 24⟩) :: []) [some (boolA false)])
theorem F52_own (a0_0 : Int) (a0_1 : Int) (a1_0 : Int) (a1_1 : Int) (a2_0 : Int) (a2_1 : Int) (R : AV → Mem → Prop) (h : F52 a0_0 a0_1 a1_0 a1_1 a2_0 a2_1 R) : Own Try.prog KK.gl 52 [(AV.agg [(intA a0_0), (intA a0_1)]), (AV.agg [(intA a1_0), (intA a1_1)]), (AV.agg [(intA a2_0), (intA a2_1)])] R := own_of_F fol Try.func52 (code := c52) (by kernel_rfl) (by kernel_rfl) (by kernel_rfl) (X := F52 a0_0 a0_1 a1_0 a1_1 a2_0 a2_1 R) (by kernel_rfl) h
/- skyway/polygon.Place -/
noncomputable def c43 : Code := ((Try.f43).body).getD .skip
noncomputable def q43 (R : AV → Mem → Prop) : AExit → St → Prop := retQ Try.prog Try.f43 R
noncomputable def c43_0 : Code := loopB c43 0
noncomputable def q43_0 (R : AV → Mem → Prop) : AExit → St → Prop := contW Try.prog KK 65 0 c43 0 (q43 R)
noncomputable def qq43_0 (R : AV → Mem → Prop) (N0 : St → Prop) : AExit → St → Prop := thenQ N0 (q43_0 R)
def h43_0 (t0 : AV) (t4 : Int) (t5 : Int) (t11 : Int) (t12 : Int) (b0_0 : Int) (b0_1 : Int) (m : Mem) : St := ⟨[(0, t0), (3, (AV.ptr 0 0)), (4, (intA t4)), (5, (intA t5)), (11, (intA t11)), (12, (intA t12))], ((0, some ⟨[(intA b0_0), (intA b0_1)], 24⟩) :: m), 100000⟩
noncomputable def B43_0 (t0 : AV) (t4 : Int) (t5 : Int) (t11 : Int) (t12 : Int) (b0_0 : Int) (b0_1 : Int) (m : Mem) (R : AV → Mem → Prop) (N0 : St → Prop) : Prop :=
bif (decide (t12 < t11)) then (
opM (idxS 2 t0 (intA t12)) fun v2 d2 =>
opM (ldA (look' (mpushs ((0, some ⟨[(intA b0_0), (intA b0_1)], 24⟩) :: m) d2) (topId v2 ++ ([]))) 2 v2) fun v3 d3 =>
exA2 v3 fun c4 c5 =>
ex_i64 c4 fun z6 =>
ex_i64 c5 fun z7 =>
callF Try.prog KK.gl (mpushs (mpushs ((0, some ⟨[(intA b0_0), (intA b0_1)], 24⟩) :: m) d2) d3) 100009 39 [t0, (intA t12)] fun v8 d8 ft8 =>
exA2 v8 fun c9 c10 =>
ex_i64 c9 fun z11 =>
ex_i64 c10 fun z12 =>
storeW Try.prog (look' ((100011, some ⟨[(intA (0)), (intA (0))], 24⟩) :: (100010, some ⟨[(intA (0)), (intA (0))], 24⟩) :: (mpushs (mpushs (mpushs ((0, some ⟨[(intA b0_0), (intA b0_1)], 24⟩) :: m) d2) d3) d8)) (topId (AV.ptr 100010 0) ++ (topId (AV.agg [(intA z6), (intA z7)]) ++ ([])))) 24 (AV.ptr 100010 0) (AV.agg [(intA z6), (intA z7)]) fun v13 d13 =>
storeW Try.prog (look' (mpushs ((100011, some ⟨[(intA (0)), (intA (0))], 24⟩) :: (100010, some ⟨[(intA (0)), (intA (0))], 24⟩) :: (mpushs (mpushs (mpushs ((0, some ⟨[(intA b0_0), (intA b0_1)], 24⟩) :: m) d2) d3) d8)) d13) (topId (AV.ptr 100011 0) ++ (topId (AV.agg [(intA z11), (intA z12)]) ++ ([])))) 24 (AV.ptr 100011 0) (AV.agg [(intA z11), (intA z12)]) fun v14 d14 =>
chk (confOk [0, 0, 3, 7, 0, 0, 48, 0, 0, 511, 1023] [⟨[], []⟩, ⟨[], []⟩, ⟨d2, []⟩, ⟨d3, (topId v2 ++ ([]))⟩, ⟨[], []⟩, ⟨[], []⟩, ⟨d8, ft8⟩, ⟨[(100010, some ⟨[(intA (0)), (intA (0))], 24⟩)], []⟩, ⟨[(100011, some ⟨[(intA (0)), (intA (0))], 24⟩)], []⟩, ⟨d13, (topId (AV.ptr 100010 0) ++ (topId (AV.agg [(intA z6), (intA z7)]) ++ ([])))⟩, ⟨d14, (topId (AV.ptr 100011 0) ++ (topId (AV.agg [(intA z11), (intA z12)]) ++ ([])))⟩]) (opP (ldA (mget (mpushs (mpushs ((100011, some ⟨[(intA (0)), (intA (0))], 24⟩) :: (100010, some ⟨[(intA (0)), (intA (0))], 24⟩) :: (mpushs (mpushs (mpushs ((0, some ⟨[(intA b0_0), (intA b0_1)], 24⟩) :: m) d2) d3) d8)) d13) d14)) 2 (AV.ptr 100010 0)) fun v15 =>
exA2 v15 fun c16 c17 =>
ex_i64 c16 fun z18 =>
ex_i64 c17 fun z19 =>
opP (ldA (mget (mpushs (mpushs ((100011, some ⟨[(intA (0)), (intA (0))], 24⟩) :: (100010, some ⟨[(intA (0)), (intA (0))], 24⟩) :: (mpushs (mpushs (mpushs ((0, some ⟨[(intA b0_0), (intA b0_1)], 24⟩) :: m) d2) d3) d8)) d13) d14)) 2 (AV.ptr 100011 0)) fun v20 =>
exA2 v20 fun c21 c22 =>
ex_i64 c21 fun z23 =>
ex_i64 c22 fun z24 =>
opP (ldA (mget (mpushs (mpushs ((100011, some ⟨[(intA (0)), (intA (0))], 24⟩) :: (100010, some ⟨[(intA (0)), (intA (0))], 24⟩) :: (mpushs (mpushs (mpushs ((0, some ⟨[(intA b0_0), (intA b0_1)], 24⟩) :: m) d2) d3) d8)) d13) d14)) 2 (AV.ptr 0 0)) fun v25 =>
exA2 v25 fun c26 c27 =>
ex_i64 c26 fun z28 =>
ex_i64 c27 fun z29 =>
callQ Try.prog KK.gl (mpushs (mpushs ((100011, some ⟨[(intA (0)), (intA (0))], 24⟩) :: (100010, some ⟨[(intA (0)), (intA (0))], 24⟩) :: (mpushs (mpushs (mpushs ((0, some ⟨[(intA b0_0), (intA b0_1)], 24⟩) :: m) d2) d3) d8)) d13) d14) 52 [(AV.agg [(intA z18), (intA z19)]), (AV.agg [(intA z23), (intA z24)]), (AV.agg [(intA z28), (intA z29)])] fun v30 =>
exB v30 fun b31 =>
bif b31 then (
retL R (mpushs (mpushs ((100011, some ⟨[(intA (0)), (intA (0))], 24⟩) :: (100010, some ⟨[(intA (0)), (intA (0))], 24⟩) :: (mpushs (mpushs (mpushs ((0, some ⟨[(intA b0_0), (intA b0_1)], 24⟩) :: m) d2) d3) d8)) d13) d14) [some (intA (0))]) else (
opP (ldS (mget (mpushs (mpushs ((100011, some ⟨[(intA (0)), (intA (0))], 24⟩) :: (100010, some ⟨[(intA (0)), (intA (0))], 24⟩) :: (mpushs (mpushs (mpushs ((0, some ⟨[(intA b0_0), (intA b0_1)], 24⟩) :: m) d2) d3) d8)) d13) d14)) (AV.ptr 100010 1)) fun v32 =>
ex_i64 v32 fun z33 =>
opP (ldS (mget (mpushs (mpushs ((100011, some ⟨[(intA (0)), (intA (0))], 24⟩) :: (100010, some ⟨[(intA (0)), (intA (0))], 24⟩) :: (mpushs (mpushs (mpushs ((0, some ⟨[(intA b0_0), (intA b0_1)], 24⟩) :: m) d2) d3) d8)) d13) d14)) (AV.ptr 0 1)) fun v34 =>
ex_i64 v34 fun z35 =>
opP (ldS (mget (mpushs (mpushs ((100011, some ⟨[(intA (0)), (intA (0))], 24⟩) :: (100010, some ⟨[(intA (0)), (intA (0))], 24⟩) :: (mpushs (mpushs (mpushs ((0, some ⟨[(intA b0_0), (intA b0_1)], 24⟩) :: m) d2) d3) d8)) d13) d14)) (AV.ptr 100011 1)) fun v36 =>
ex_i64 v36 fun z37 =>
opP (ldS (mget (mpushs (mpushs ((100011, some ⟨[(intA (0)), (intA (0))], 24⟩) :: (100010, some ⟨[(intA (0)), (intA (0))], 24⟩) :: (mpushs (mpushs (mpushs ((0, some ⟨[(intA b0_0), (intA b0_1)], 24⟩) :: m) d2) d3) d8)) d13) d14)) (AV.ptr 0 1)) fun v38 =>
ex_i64 v38 fun z39 =>
opP (opA Try.prog (.binOp .neq 4 (.tmp 0) (.tmp 1) 4) 4 [(boolA (decide (z33 > z35))), (boolA (decide (z37 > z39)))] (mget (mpushs (mpushs ((100011, some ⟨[(intA (0)), (intA (0))], 24⟩) :: (100010, some ⟨[(intA (0)), (intA (0))], 24⟩) :: (mpushs (mpushs (mpushs ((0, some ⟨[(intA b0_0), (intA b0_1)], 24⟩) :: m) d2) d3) d8)) d13) d14)) 100091) fun v40 =>
exB v40 fun b41 =>
bif b41 then (
opP (ldA (mget (mpushs (mpushs ((100011, some ⟨[(intA (0)), (intA (0))], 24⟩) :: (100010, some ⟨[(intA (0)), (intA (0))], 24⟩) :: (mpushs (mpushs (mpushs ((0, some ⟨[(intA b0_0), (intA b0_1)], 24⟩) :: m) d2) d3) d8)) d13) d14)) 2 (AV.ptr 100010 0)) fun v42 =>
exA2 v42 fun c43 c44 =>
ex_i64 c43 fun z45 =>
ex_i64 c44 fun z46 =>
opP (ldA (mget (mpushs (mpushs ((100011, some ⟨[(intA (0)), (intA (0))], 24⟩) :: (100010, some ⟨[(intA (0)), (intA (0))], 24⟩) :: (mpushs (mpushs (mpushs ((0, some ⟨[(intA b0_0), (intA b0_1)], 24⟩) :: m) d2) d3) d8)) d13) d14)) 2 (AV.ptr 100011 0)) fun v47 =>
exA2 v47 fun c48 c49 =>
ex_i64 c48 fun z50 =>
ex_i64 c49 fun z51 =>
opP (ldA (mget (mpushs (mpushs ((100011, some ⟨[(intA (0)), (intA (0))], 24⟩) :: (100010, some ⟨[(intA (0)), (intA (0))], 24⟩) :: (mpushs (mpushs (mpushs ((0, some ⟨[(intA b0_0), (intA b0_1)], 24⟩) :: m) d2) d3) d8)) d13) d14)) 2 (AV.ptr 0 0)) fun v52 =>
exA2 v52 fun c53 c54 =>
ex_i64 c53 fun z55 =>
ex_i64 c54 fun z56 =>
callQ Try.prog KK.gl (mpushs (mpushs ((100011, some ⟨[(intA (0)), (intA (0))], 24⟩) :: (100010, some ⟨[(intA (0)), (intA (0))], 24⟩) :: (mpushs (mpushs (mpushs ((0, some ⟨[(intA b0_0), (intA b0_1)], 24⟩) :: m) d2) d3) d8)) d13) d14) 38 [(AV.agg [(intA z45), (intA z46)]), (AV.agg [(intA z50), (intA z51)]), (AV.agg [(intA z55), (intA z56)])] fun v57 =>
ex_i64 v57 fun z58 =>
opP (ldS (mget (mpushs (mpushs ((100011, some ⟨[(intA (0)), (intA (0))], 24⟩) :: (100010, some ⟨[(intA (0)), (intA (0))], 24⟩) :: (mpushs (mpushs (mpushs ((0, some ⟨[(intA b0_0), (intA b0_1)], 24⟩) :: m) d2) d3) d8)) d13) d14)) (AV.ptr 100011 1)) fun v59 =>
ex_i64 v59 fun z60 =>
opP (ldS (mget (mpushs (mpushs ((100011, some ⟨[(intA (0)), (intA (0))], 24⟩) :: (100010, some ⟨[(intA (0)), (intA (0))], 24⟩) :: (mpushs (mpushs (mpushs ((0, some ⟨[(intA b0_0), (intA b0_1)], 24⟩) :: m) d2) d3) d8)) d13) d14)) (AV.ptr 100010 1)) fun v61 =>
ex_i64 v61 fun z62 =>
bif (decide (z60 > z62)) then (
bif (decide (z58 > (0))) then (
opP (opA Try.prog (.unOp .neg 3 (.tmp 0)) 3 [(intA t5)] (mget (mpushs (mpushs ((100011, some ⟨[(intA (0)), (intA (0))], 24⟩) :: (100010, some ⟨[(intA (0)), (intA (0))], 24⟩) :: (mpushs (mpushs (mpushs ((0, some ⟨[(intA b0_0), (intA b0_1)], 24⟩) :: m) d2) d3) d8)) d13) d14)) 100172) fun v63 =>
ex_i64 v63 fun z64 =>
N0 ⟨[(0, t0), (3, (AV.ptr 0 0)), (4, (intA t4)), (5, (intA z64)), (11, (intA t11)), (12, (intA (IntKind.wrap .i64 (t12 + (1))))), (13, (boolA (decide (t12 < t11)))), (14, (intA t12)), (6, (intA t12)), (15, t0), (16, (intA t12)), (17, v2), (18, (AV.agg [(intA z6), (intA z7)])), (19, t0), (20, (intA t12)), (21, (AV.agg [(intA z11), (intA z12)])), (7, (AV.ptr 100010 0)), (8, (AV.ptr 100011 0)), (22, (AV.agg [(intA z18), (intA z19)])), (23, (AV.agg [(intA z23), (intA z24)])), (24, (AV.agg [(intA z28), (intA z29)])), (25, (boolA b31)), (26, (AV.ptr 100010 1)), (27, (intA z33)), (28, (AV.ptr 0 1)), (29, (intA z35)), (30, (boolA (decide (z33 > z35)))), (31, (AV.ptr 100011 1)), (32, (intA z37)), (33, (AV.ptr 0 1)), (34, (intA z39)), (35, (boolA (decide (z37 > z39)))), (36, (boolA b41)), (37, (AV.agg [(intA z45), (intA z46)])), (38, (AV.agg [(intA z50), (intA z51)])), (39, (AV.agg [(intA z55), (intA z56)])), (40, (intA z58)), (9, (intA z58)), (41, (AV.ptr 100011 1)), (42, (intA z60)), (43, (AV.ptr 100010 1)), (44, (intA z62)), (45, (boolA (decide (z60 > z62)))), (46, (boolA true)), (47, (intA z58)), (48, (boolA (decide (z58 > (0))))), (49, (boolA (decide (z58 > (0))))), (50, (boolA true)), (51, (AV.tup [])), (52, (AV.tup [])), (53, (AV.tup [])), (54, (AV.tup [])), (55, (AV.tup [])), (56, (AV.tup [])), (57, (AV.tup [])), (58, (AV.tup [])), (59, (AV.tup [])), (60, (boolA true)), (61, (intA t5)), (62, (intA z64)), (63, (intA (IntKind.wrap .i64 (t12 + (1)))))], (mpushs (mpushs ((100011, some ⟨[(intA (0)), (intA (0))], 24⟩) :: (100010, some ⟨[(intA (0)), (intA (0))], 24⟩) :: (mpushs (mpushs (mpushs ((0, some ⟨[(intA b0_0), (intA b0_1)], 24⟩) :: m) d2) d3) d8)) d13) d14), 100176⟩) else (
opP (ldS (mget (mpushs (mpushs ((100011, some ⟨[(intA (0)), (intA (0))], 24⟩) :: (100010, some ⟨[(intA (0)), (intA (0))], 24⟩) :: (mpushs (mpushs (mpushs ((0, some ⟨[(intA b0_0), (intA b0_1)], 24⟩) :: m) d2) d3) d8)) d13) d14)) (AV.ptr 100011 1)) fun v65 =>
ex_i64 v65 fun z66 =>
opP (ldS (mget (mpushs (mpushs ((100011, some ⟨[(intA (0)), (intA (0))], 24⟩) :: (100010, some ⟨[(intA (0)), (intA (0))], 24⟩) :: (mpushs (mpushs (mpushs ((0, some ⟨[(intA b0_0), (intA b0_1)], 24⟩) :: m) d2) d3) d8)) d13) d14)) (AV.ptr 100010 1)) fun v67 =>
ex_i64 v67 fun z68 =>
bif (decide (z66 < z68)) then (
bif (decide (z58 < (0))) then (
opP (opA Try.prog (.unOp .neg 3 (.tmp 0)) 3 [(intA t5)] (mget (mpushs (mpushs ((100011, some ⟨[(intA (0)), (intA (0))], 24⟩) :: (100010, some ⟨[(intA (0)), (intA (0))], 24⟩) :: (mpushs (mpushs (mpushs ((0, some ⟨[(intA b0_0), (intA b0_1)], 24⟩) :: m) d2) d3) d8)) d13) d14)) 100181) fun v69 =>
ex_i64 v69 fun z70 =>
N0 ⟨[(0, t0), (3, (AV.ptr 0 0)), (4, (intA t4)), (5, (intA z70)), (11, (intA t11)), (12, (intA (IntKind.wrap .i64 (t12 + (1))))), (13, (boolA (decide (t12 < t11)))), (14, (intA t12)), (6, (intA t12)), (15, t0), (16, (intA t12)), (17, v2), (18, (AV.agg [(intA z6), (intA z7)])), (19, t0), (20, (intA t12)), (21, (AV.agg [(intA z11), (intA z12)])), (7, (AV.ptr 100010 0)), (8, (AV.ptr 100011 0)), (22, (AV.agg [(intA z18), (intA z19)])), (23, (AV.agg [(intA z23), (intA z24)])), (24, (AV.agg [(intA z28), (intA z29)])), (25, (boolA b31)), (26, (AV.ptr 100010 1)), (27, (intA z33)), (28, (AV.ptr 0 1)), (29, (intA z35)), (30, (boolA (decide (z33 > z35)))), (31, (AV.ptr 100011 1)), (32, (intA z37)), (33, (AV.ptr 0 1)), (34, (intA z39)), (35, (boolA (decide (z37 > z39)))), (36, (boolA b41)), (37, (AV.agg [(intA z45), (intA z46)])), (38, (AV.agg [(intA z50), (intA z51)])), (39, (AV.agg [(intA z55), (intA z56)])), (40, (intA z58)), (9, (intA z58)), (41, (AV.ptr 100011 1)), (42, (intA z60)), (43, (AV.ptr 100010 1)), (44, (intA z62)), (45, (boolA (decide (z60 > z62)))), (46, (boolA true)), (47, (intA z58)), (48, (boolA (decide (z58 > (0))))), (49, (boolA (decide (z58 > (0))))), (50, (boolA false)), (51, (AV.ptr 100011 1)), (52, (intA z66)), (53, (AV.ptr 100010 1)), (54, (intA z68)), (55, (boolA (decide (z66 < z68)))), (56, (boolA true)), (57, (intA z58)), (58, (boolA (decide (z58 < (0))))), (59, (boolA (decide (z58 < (0))))), (60, (boolA (decide (z58 < (0))))), (61, (intA t5)), (62, (intA z70)), (63, (intA (IntKind.wrap .i64 (t12 + (1)))))], (mpushs (mpushs ((100011, some ⟨[(intA (0)), (intA (0))], 24⟩) :: (100010, some ⟨[(intA (0)), (intA (0))], 24⟩) :: (mpushs (mpushs (mpushs ((0, some ⟨[(intA b0_0), (intA b0_1)], 24⟩) :: m) d2) d3) d8)) d13) d14), 100185⟩) else (
N0 ⟨[(0, t0), (3, (AV.ptr 0 0)), (4, (intA t4)), (5, (intA t5)), (11, (intA t11)), (12, (intA (IntKind.wrap .i64 (t12 + (1))))), (13, (boolA (decide (t12 < t11)))), (14, (intA t12)), (6, (intA t12)), (15, t0), (16, (intA t12)), (17, v2), (18, (AV.agg [(intA z6), (intA z7)])), (19, t0), (20, (intA t12)), (21, (AV.agg [(intA z11), (intA z12)])), (7, (AV.ptr 100010 0)), (8, (AV.ptr 100011 0)), (22, (AV.agg [(intA z18), (intA z19)])), (23, (AV.agg [(intA z23), (intA z24)])), (24, (AV.agg [(intA z28), (intA z29)])), (25, (boolA b31)), (26, (AV.ptr 100010 1)), (27, (intA z33)), (28, (AV.ptr 0 1)), (29, (intA z35)), (30, (boolA (decide (z33 > z35)))), (31, (AV.ptr 100011 1)), (32, (intA z37)), (33, (AV.ptr 0 1)), (34, (intA z39)), (35, (boolA (decide (z37 > z39)))), (36, (boolA b41)), (37, (AV.agg [(intA z45), (intA z46)])), (38, (AV.agg [(intA z50), (intA z51)])), (39, (AV.agg [(intA z55), (intA z56)])), (40, (intA z58)), (9, (intA z58)), (41, (AV.ptr 100011 1)), (42, (intA z60)), (43, (AV.ptr 100010 1)), (44, (intA z62)), (45, (boolA (decide (z60 > z62)))), (46, (boolA true)), (47, (intA z58)), (48, (boolA (decide (z58 > (0))))), (49, (boolA (decide (z58 > (0))))), (50, (boolA false)), (51, (AV.ptr 100011 1)), (52, (intA z66)), (53, (AV.ptr 100010 1)), (54, (intA z68)), (55, (boolA (decide (z66 < z68)))), (56, (boolA true)), (57, (intA z58)), (58, (boolA (decide (z58 < (0))))), (59, (boolA (decide (z58 < (0))))), (60, (boolA (decide (z58 < (0))))), (63, (intA (IntKind.wrap .i64 (t12 + (1)))))], (mpushs (mpushs ((100011, some ⟨[(intA (0)), (intA (0))], 24⟩) :: (100010, some ⟨[(intA (0)), (intA (0))], 24⟩) :: (mpushs (mpushs (mpushs ((0, some ⟨[(intA b0_0), (intA b0_1)], 24⟩) :: m) d2) d3) d8)) d13) d14), 100182⟩)) else (
N0 ⟨[(0, t0), (3, (AV.ptr 0 0)), (4, (intA t4)), (5, (intA t5)), (11, (intA t11)), (12, (intA (IntKind.wrap .i64 (t12 + (1))))), (13, (boolA (decide (t12 < t11)))), (14, (intA t12)), (6, (intA t12)), (15, t0), (16, (intA t12)), (17, v2), (18, (AV.agg [(intA z6), (intA z7)])), (19, t0), (20, (intA t12)), (21, (AV.agg [(intA z11), (intA z12)])), (7, (AV.ptr 100010 0)), (8, (AV.ptr 100011 0)), (22, (AV.agg [(intA z18), (intA z19)])), (23, (AV.agg [(intA z23), (intA z24)])), (24, (AV.agg [(intA z28), (intA z29)])), (25, (boolA b31)), (26, (AV.ptr 100010 1)), (27, (intA z33)), (28, (AV.ptr 0 1)), (29, (intA z35)), (30, (boolA (decide (z33 > z35)))), (31, (AV.ptr 100011 1)), (32, (intA z37)), (33, (AV.ptr 0 1)), (34, (intA z39)), (35, (boolA (decide (z37 > z39)))), (36, (boolA b41)), (37, (AV.agg [(intA z45), (intA z46)])), (38, (AV.agg [(intA z50), (intA z51)])), (39, (AV.agg [(intA z55), (intA z56)])), (40, (intA z58)), (9, (intA z58)), (41, (AV.ptr 100011 1)), (42, (intA z60)), (43, (AV.ptr 100010 1)), (44, (intA z62)), (45, (boolA (decide (z60 > z62)))), (46, (boolA true)), (47, (intA z58)), (48, (boolA (decide (z58 > (0))))), (49, (boolA (decide (z58 > (0))))), (50, (boolA false)), (51, (AV.ptr 100011 1)), (52, (intA z66)), (53, (AV.ptr 100010 1)), (54, (intA z68)), (55, (boolA (decide (z66 < z68)))), (56, (boolA false)), (57, (AV.tup [])), (58, (AV.tup [])), (59, (boolA false)), (60, (boolA false)), (63, (intA (IntKind.wrap .i64 (t12 + (1)))))], (mpushs (mpushs ((100011, some ⟨[(intA (0)), (intA (0))], 24⟩) :: (100010, some ⟨[(intA (0)), (intA (0))], 24⟩) :: (mpushs (mpushs (mpushs ((0, some ⟨[(intA b0_0), (intA b0_1)], 24⟩) :: m) d2) d3) d8)) d13) d14), 100180⟩))) else (
opP (ldS (mget (mpushs (mpushs ((100011, some ⟨[(intA (0)), (intA (0))], 24⟩) :: (100010, some ⟨[(intA (0)), (intA (0))], 24⟩) :: (mpushs (mpushs (mpushs ((0, some ⟨[(intA b0_0), (intA b0_1)], 24⟩) :: m) d2) d3) d8)) d13) d14)) (AV.ptr 100011 1)) fun v71 =>
ex_i64 v71 fun z72 =>
opP (ldS (mget (mpushs (mpushs ((100011, some ⟨[(intA (0)), (intA (0))], 24⟩) :: (100010, some ⟨[(intA (0)), (intA (0))], 24⟩) :: (mpushs (mpushs (mpushs ((0, some ⟨[(intA b0_0), (intA b0_1)], 24⟩) :: m) d2) d3) d8)) d13) d14)) (AV.ptr 100010 1)) fun v73 =>
ex_i64 v73 fun z74 =>
bif (decide (z72 < z74)) then (
bif (decide (z58 < (0))) then (
opP (opA Try.prog (.unOp .neg 3 (.tmp 0)) 3 [(intA t5)] (mget (mpushs (mpushs ((100011, some ⟨[(intA (0)), (intA (0))], 24⟩) :: (100010, some ⟨[(intA (0)), (intA (0))], 24⟩) :: (mpushs (mpushs (mpushs ((0, some ⟨[(intA b0_0), (intA b0_1)], 24⟩) :: m) d2) d3) d8)) d13) d14)) 100179) fun v75 =>
ex_i64 v75 fun z76 =>
N0 ⟨[(0, t0), (3, (AV.ptr 0 0)), (4, (intA t4)), (5, (intA z76)), (11, (intA t11)), (12, (intA (IntKind.wrap .i64 (t12 + (1))))), (13, (boolA (decide (t12 < t11)))), (14, (intA t12)), (6, (intA t12)), (15, t0), (16, (intA t12)), (17, v2), (18, (AV.agg [(intA z6), (intA z7)])), (19, t0), (20, (intA t12)), (21, (AV.agg [(intA z11), (intA z12)])), (7, (AV.ptr 100010 0)), (8, (AV.ptr 100011 0)), (22, (AV.agg [(intA z18), (intA z19)])), (23, (AV.agg [(intA z23), (intA z24)])), (24, (AV.agg [(intA z28), (intA z29)])), (25, (boolA b31)), (26, (AV.ptr 100010 1)), (27, (intA z33)), (28, (AV.ptr 0 1)), (29, (intA z35)), (30, (boolA (decide (z33 > z35)))), (31, (AV.ptr 100011 1)), (32, (intA z37)), (33, (AV.ptr 0 1)), (34, (intA z39)), (35, (boolA (decide (z37 > z39)))), (36, (boolA b41)), (37, (AV.agg [(intA z45), (intA z46)])), (38, (AV.agg [(intA z50), (intA z51)])), (39, (AV.agg [(intA z55), (intA z56)])), (40, (intA z58)), (9, (intA z58)), (41, (AV.ptr 100011 1)), (42, (intA z60)), (43, (AV.ptr 100010 1)), (44, (intA z62)), (45, (boolA (decide (z60 > z62)))), (46, (boolA false)), (47, (AV.tup [])), (48, (AV.tup [])), (49, (boolA false)), (50, (boolA false)), (51, (AV.ptr 100011 1)), (52, (intA z72)), (53, (AV.ptr 100010 1)), (54, (intA z74)), (55, (boolA (decide (z72 < z74)))), (56, (boolA true)), (57, (intA z58)), (58, (boolA (decide (z58 < (0))))), (59, (boolA (decide (z58 < (0))))), (60, (boolA (decide (z58 < (0))))), (61, (intA t5)), (62, (intA z76)), (63, (intA (IntKind.wrap .i64 (t12 + (1)))))], (mpushs (mpushs ((100011, some ⟨[(intA (0)), (intA (0))], 24⟩) :: (100010, some ⟨[(intA (0)), (intA (0))], 24⟩) :: (mpushs (mpushs (mpushs ((0, some ⟨[(intA b0_0), (intA b0_1)], 24⟩) :: m) d2) d3) d8)) d13) d14), 100183⟩) else (
N0 ⟨[(0, t0), (3, (AV.ptr 0 0)), (4, (intA t4)), (5, (intA t5)), (11, (intA t11)), (12, (intA (IntKind.wrap .i64 (t12 + (1))))), (13, (boolA (decide (t12 < t11)))), (14, (intA t12)), (6, (intA t12)), (15, t0), (16, (intA t12)), (17, v2), (18, (AV.agg [(intA z6), (intA z7)])), (19, t0), (20, (intA t12)), (21, (AV.agg [(intA z11), (intA z12)])), (7, (AV.ptr 100010 0)), (8, (AV.ptr 100011 0)), (22, (AV.agg [(intA z18), (intA z19)])), (23, (AV.agg [(intA z23), (intA z24)])), (24, (AV.agg [(intA z28), (intA z29)])), (25, (boolA b31)), (26, (AV.ptr 100010 1)), (27, (intA z33)), (28, (AV.ptr 0 1)), (29, (intA z35)), (30, (boolA (decide (z33 > z35)))), (31, (AV.ptr 100011 1)), (32, (intA z37)), (33, (AV.ptr 0 1)), (34, (intA z39)), (35, (boolA (decide (z37 > z39)))), (36, (boolA b41)), (37, (AV.agg [(intA z45), (intA z46)])), (38, (AV.agg [(intA z50), (intA z51)])), (39, (AV.agg [(intA z55), (intA z56)])), (40, (intA z58)), (9, (intA z58)), (41, (AV.ptr 100011 1)), (42, (intA z60)), (43, (AV.ptr 100010 1)), (44, (intA z62)), (45, (boolA (decide (z60 > z62)))), (46, (boolA false)), (47, (AV.tup [])), (48, (AV.tup [])), (49, (boolA false)), (50, (boolA false)), (51, (AV.ptr 100011 1)), (52, (intA z72)), (53, (AV.ptr 100010 1)), (54, (intA z74)), (55, (boolA (decide (z72 < z74)))), (56, (boolA true)), (57, (intA z58)), (58, (boolA (decide (z58 < (0))))), (59, (boolA (decide (z58 < (0))))), (60, (boolA (decide (z58 < (0))))), (63, (intA (IntKind.wrap .i64 (t12 + (1)))))], (mpushs (mpushs ((100011, some ⟨[(intA (0)), (intA (0))], 24⟩) :: (100010, some ⟨[(intA (0)), (intA (0))], 24⟩) :: (mpushs (mpushs (mpushs ((0, some ⟨[(intA b0_0), (intA b0_1)], 24⟩) :: m) d2) d3) d8)) d13) d14), 100180⟩)) else (
N0 ⟨[(0, t0), (3, (AV.ptr 0 0)), (4, (intA t4)), (5, (intA t5)), (11, (intA t11)), (12, (intA (IntKind.wrap .i64 (t12 + (1))))), (13, (boolA (decide (t12 < t11)))), (14, (intA t12)), (6, (intA t12)), (15, t0), (16, (intA t12)), (17, v2), (18, (AV.agg [(intA z6), (intA z7)])), (19, t0), (20, (intA t12)), (21, (AV.agg [(intA z11), (intA z12)])), (7, (AV.ptr 100010 0)), (8, (AV.ptr 100011 0)), (22, (AV.agg [(intA z18), (intA z19)])), (23, (AV.agg [(intA z23), (intA z24)])), (24, (AV.agg [(intA z28), (intA z29)])), (25, (boolA b31)), (26, (AV.ptr 100010 1)), (27, (intA z33)), (28, (AV.ptr 0 1)), (29, (intA z35)), (30, (boolA (decide (z33 > z35)))), (31, (AV.ptr 100011 1)), (32, (intA z37)), (33, (AV.ptr 0 1)), (34, (intA z39)), (35, (boolA (decide (z37 > z39)))), (36, (boolA b41)), (37, (AV.agg [(intA z45), (intA z46)])), (38, (AV.agg [(intA z50), (intA z51)])), (39, (AV.agg [(intA z55), (intA z56)])), (40, (intA z58)), (9, (intA z58)), (41, (AV.ptr 100011 1)), (42, (intA z60)), (43, (AV.ptr 100010 1)), (44, (intA z62)), (45, (boolA (decide (z60 > z62)))), (46, (boolA false)), (47, (AV.tup [])), (48, (AV.tup [])), (49, (boolA false)), (50, (boolA false)), (51, (AV.ptr 100011 1)), (52, (intA z72)), (53, (AV.ptr 100010 1)), (54, (intA z74)), (55, (boolA (decide (z72 < z74)))), (56, (boolA false)), (57, (AV.tup [])), (58, (AV.tup [])), (59, (boolA false)), (60, (boolA false)), (63, (intA (IntKind.wrap .i64 (t12 + (1)))))], (mpushs (mpushs ((100011, some ⟨[(intA (0)), (intA (0))], 24⟩) :: (100010, some ⟨[(intA (0)), (intA (0))], 24⟩) :: (mpushs (mpushs (mpushs ((0, some ⟨[(intA b0_0), (intA b0_1)], 24⟩) :: m) d2) d3) d8)) d13) d14), 100178⟩))) else (
N0 ⟨[(0, t0), (3, (AV.ptr 0 0)), (4, (intA t4)), (5, (intA t5)), (11, (intA t11)), (12, (intA (IntKind.wrap .i64 (t12 + (1))))), (13, (boolA (decide (t12 < t11)))), (14, (intA t12)), (6, (intA t12)), (15, t0), (16, (intA t12)), (17, v2), (18, (AV.agg [(intA z6), (intA z7)])), (19, t0), (20, (intA t12)), (21, (AV.agg [(intA z11), (intA z12)])), (7, (AV.ptr 100010 0)), (8, (AV.ptr 100011 0)), (22, (AV.agg [(intA z18), (intA z19)])), (23, (AV.agg [(intA z23), (intA z24)])), (24, (AV.agg [(intA z28), (intA z29)])), (25, (boolA b31)), (26, (AV.ptr 100010 1)), (27, (intA z33)), (28, (AV.ptr 0 1)), (29, (intA z35)), (30, (boolA (decide (z33 > z35)))), (31, (AV.ptr 100011 1)), (32, (intA z37)), (33, (AV.ptr 0 1)), (34, (intA z39)), (35, (boolA (decide (z37 > z39)))), (36, (boolA b41)), (63, (intA (IntKind.wrap .i64 (t12 + (1)))))], (mpushs (mpushs ((100011, some ⟨[(intA (0)), (intA (0))], 24⟩) :: (100010, some ⟨[(intA (0)), (intA (0))], 24⟩) :: (mpushs (mpushs (mpushs ((0, some ⟨[(intA b0_0), (intA b0_1)], 24⟩) :: m) d2) d3) d8)) d13) d14), 100094⟩)))) else (
retL R ((0, some ⟨[(intA b0_0), (intA b0_1)], 24⟩) :: m) [some (intA t5)])
theorem B43_0_eq (t0 : AV) (t4 : Int) (t5 : Int) (t11 : Int) (t12 : Int) (b0_0 : Int) (b0_1 : Int) (m : Mem) (R : AV → Mem → Prop) (N0 : St → Prop) : W Try.prog KK 65 0 c43_0 (h43_0 t0 t4 t5 t11 t12 b0_0 b0_1 m) (qq43_0 R N0) = B43_0 t0 t4 t5 t11 t12 b0_0 b0_1 m R N0 := by kernel_rfl
theorem L43_0 (R : AV → Mem → Prop) {σ : Type} (I : σ → Prop) (t0 : σ → AV) (t4 : σ → Int) (t5 : σ → Int) (t11 : σ → Int) (t12 : σ → Int) (b0_0 : σ → Int) (b0_1 : σ → Int) (m : σ → Mem) (μ : σ → Nat) (step : ∀ x, I x → B43_0 (t0 x) (t4 x) (t5 x) (t11 x) (t12 x) (b0_0 x) (b0_1 x) (m x) R (fun s' => ∃ y, I y ∧ μ y < μ x ∧ Weak KK 65 0 s' (h43_0 (t0 y) (t4 y) (t5 y) (t11 y) (t12 y) (b0_0 y) (b0_1 y) (m y)))) (x : σ) (hx : I x) {s : St} (hw : Weak KK 65 0 s (h43_0 (t0 x) (t4 x) (t5 x) (t11 x) (t12 x) (b0_0 x) (b0_1 x) (m x))) : Tri Try.prog KK 65 0 (.loop c43_0) s (q43_0 R) :=
  Tri.weak hw (Tri.loops fol I (fun x => h43_0 (t0 x) (t4 x) (t5 x) (t11 x) (t12 x) (b0_0 x) (b0_1 x) (m x)) μ (fun x hx => (B43_0_eq (t0 x) (t4 x) (t5 x) (t11 x) (t12 x) (b0_0 x) (b0_1 x) (m x) R _).mpr (step x hx)) x hx)
noncomputable def F43 (a0 : AV) (a1_0 : Int) (a1_1 : Int) (R : AV → Mem → Prop) : Prop :=
opP (lenS a0) fun v0 =>
ex_i64 v0 fun z1 =>
Tri Try.prog KK 65 0 (.loop c43_0) ⟨[(0, a0), (1, (AV.agg [(intA a1_0), (intA a1_1)])), (3, (AV.ptr 0 0)), (4, (intA (0))), (5, (intA (-1))), (10, a0), (11, (intA z1)), (12, (intA (0)))], ((0, some ⟨[(intA a1_0), (intA a1_1)], 24⟩) :: []), 6⟩ (q43_0 R)
theorem F43_own (a0 : AV) (a1_0 : Int) (a1_1 : Int) (R : AV → Mem → Prop) (h : F43 a0 a1_0 a1_1 R) : Own Try.prog KK.gl 43 [a0, (AV.agg [(intA a1_0), (intA a1_1)])] R := own_of_F fol Try.func43 (code := c43) (by kernel_rfl) (by kernel_rfl) (by kernel_rfl) (X := F43 a0 a1_0 a1_1 R) (by kernel_rfl) h
/- skyway/volume.Contains -/
noncomputable def c35 : Code := ((Try.f35).body).getD .skip
noncomputable def q35 (R : AV → Mem → Prop) : AExit → St → Prop := retQ Try.prog Try.f35 R
noncomputable def F35 (a0_0 : AV) (a0_1 : Int) (a0_2 : Int) (a1_0 : Int) (a1_1 : Int) (a2 : Int) (R : AV → Mem → Prop) : Prop :=
chk (isCell a0_0) <| bif (decide (a2 ≥ a0_1)) then (
bif (decide (a2 < a0_2)) then (
callQ Try.prog KK.gl ((1, some ⟨[(intA a1_0), (intA a1_1)], 24⟩) :: (0, some ⟨[a0_0, (intA a0_1), (intA a0_2)], 56⟩) :: []) 43 [a0_0, (AV.agg [(intA a1_0), (intA a1_1)])] fun v0 =>
ex_i64 v0 fun z1 =>
retL R ((1, some ⟨[(intA a1_0), (intA a1_1)], 24⟩) :: (0, some ⟨[a0_0, (intA a0_1), (intA a0_2)], 56⟩) :: []) [some (boolA (decide (z1 ≥ (0))))]) else (
retL R ((1, some ⟨[(intA a1_0), (intA a1_1)], 24⟩) :: (0, some ⟨[a0_0, (intA a0_1), (intA a0_2)], 56⟩) :: []) [some (boolA false)])) else (
retL R ((1, some ⟨[(intA a1_0), (intA a1_1)], 24⟩) :: (0, some ⟨[a0_0, (intA a0_1), (intA a0_2)], 56⟩) :: []) [some (boolA false)])
theorem F35_own (a0_0 : AV) (a0_1 : Int) (a0_2 : Int) (a1_0 : Int) (a1_1 : Int) (a2 : Int) (R : AV → Mem → Prop) (h : F35 a0_0 a0_1 a0_2 a1_0 a1_1 a2 R) : Own Try.prog KK.gl 35 [(AV.agg [a0_0, (intA a0_1), (intA a0_2)]), (AV.agg [(intA a1_0), (intA a1_1)]), (intA a2)] R := own_of_F fol Try.func35 (code := c35) (by kernel_rfl) (by kernel_rfl) (by kernel_rfl) (X := F35 a0_0 a0_1 a0_2 a1_0 a1_1 a2 R) (by kernel_rfl) h
/- skyway/sector.Place$1$1 -/
noncomputable def c34 : Code := ((Try.f34).body).getD .skip
noncomputable def q34 (R : AV → Mem → Prop) : AExit → St → Prop := retQ Try.prog Try.f34 R
noncomputable def F34 (a0_0 : AV) (a0_1 : Int) (a0_2 : Int) (a1 : AV) (a2 : AV) (R : AV → Mem → Prop) : Prop :=
chk (isCell a0_0) <| opP (ldA (mget ((0, some ⟨[a0_0, (intA a0_1), (intA a0_2)], 56⟩) :: [])) 2 a1) fun v0 =>
exA2 v0 fun c1 c2 =>
ex_i64 c1 fun z3 =>
ex_i64 c2 fun z4 =>
opP (ldS (mget ((0, some ⟨[a0_0, (intA a0_1), (intA a0_2)], 56⟩) :: [])) a2) fun v5 =>
ex_i64 v5 fun z6 =>
callQ Try.prog KK.gl ((0, some ⟨[a0_0, (intA a0_1), (intA a0_2)], 56⟩) :: []) 35 [(AV.agg [a0_0, (intA a0_1), (intA a0_2)]), (AV.agg [(intA z3), (intA z4)]), (intA z6)] fun v7 =>
exB v7 fun b8 =>
retL R ((0, some ⟨[a0_0, (intA a0_1), (intA a0_2)], 56⟩) :: []) [some (boolA b8)]
theorem F34_own (a0_0 : AV) (a0_1 : Int) (a0_2 : Int) (a1 : AV) (a2 : AV) (R : AV → Mem → Prop) (h : F34 a0_0 a0_1 a0_2 a1 a2 R) : Own Try.prog KK.gl 34 [(AV.agg [a0_0, (intA a0_1), (intA a0_2)]), a1, a2] R := own_of_F fol Try.func34 (code := c34) (by kernel_rfl) (by kernel_rfl) (by kernel_rfl) (X := F34 a0_0 a0_1 a0_2 a1 a2 R) (by kernel_rfl) h
/- slices.IndexFunc[[]skyway/api.Volume,skyway/api.Volume] -/
noncomputable def c42 : Code := ((Try.f42).body).getD .skip
noncomputable def q42 (R : AV → Mem → Prop) : AExit → St → Prop := retQ Try.prog Try.f42 R
noncomputable def c42_0 : Code := loopB c42 0
noncomputable def q42_0 (R : AV → Mem → Prop) : AExit → St → Prop := contW Try.prog KK 19 0 c42 0 (q42 R)
noncomputable def qq42_0 (R : AV → Mem → Prop) (N0 : St → Prop) : AExit → St → Prop := thenQ N0 (q42_0 R)
def h42_0 (t0 : AV) (t1 : AV) (t4 : Int) (t7 : Int) (t8 : Int) (m : Mem) : St := ⟨[(0, t0), (1, t1), (4, (intA t4)), (7, (intA t7)), (8, (intA t8))], m, 100000⟩
noncomputable def B42_0 (t0 : AV) (t1 : AV) (t4 : Int) (t7 : Int) (t8 : Int) (m : Mem) (R : AV → Mem → Prop) (N0 : St → Prop) : Prop :=
bif (decide (t8 < t7)) then (
opP (idxS 3 t0 (intA t8)) fun v2 =>
opP (ldA (mget m) 3 v2) fun v3 =>
exA3 v3 fun c4 c5 c6 =>
ex_i64 c5 fun z7 =>
ex_i64 c6 fun z8 =>
fnArgs (some t1) (some [(AV.agg [c4, (intA z7), (intA z8)])]) fun f9 a9 => bif KK.pm f9 then callQ Try.prog KK.gl m f9 a9 (fun v9 =>
exB v9 fun b10 =>
bif b10 then (
retL R m [some (intA t8)]) else (
N0 ⟨[(0, t0), (1, t1), (4, (intA t4)), (7, (intA t7)), (8, (intA (IntKind.wrap .i64 (t8 + (1))))), (9, (boolA (decide (t8 < t7)))), (10, (intA t8)), (5, (intA t8)), (11, t1), (12, t0), (13, (intA t8)), (14, v2), (15, (AV.agg [c4, (intA z7), (intA z8)])), (16, (boolA b10)), (18, (intA (IntKind.wrap .i64 (t8 + (1)))))], m, 100074⟩)) else callW Try.prog KK.gl m 100008 f9 a9 fun v9 m9 =>
exB v9 fun b10 =>
bif b10 then (
retL R m9 [some (intA t8)]) else (
N0 ⟨[(0, t0), (1, t1), (4, (intA t4)), (7, (intA t7)), (8, (intA (IntKind.wrap .i64 (t8 + (1))))), (9, (boolA (decide (t8 < t7)))), (10, (intA t8)), (5, (intA t8)), (11, t1), (12, t0), (13, (intA t8)), (14, v2), (15, (AV.agg [c4, (intA z7), (intA z8)])), (16, (boolA b10)), (18, (intA (IntKind.wrap .i64 (t8 + (1)))))], m9, 100074⟩)) else (
retL R m [some (intA (-1))])
theorem B42_0_eq (t0 : AV) (t1 : AV) (t4 : Int) (t7 : Int) (t8 : Int) (m : Mem) (R : AV → Mem → Prop) (N0 : St → Prop) : W Try.prog KK 19 0 c42_0 (h42_0 t0 t1 t4 t7 t8 m) (qq42_0 R N0) = B42_0 t0 t1 t4 t7 t8 m R N0 := by kernel_rfl
theorem L42_0 (R : AV → Mem → Prop) {σ : Type} (I : σ → Prop) (t0 : σ → AV) (t1 : σ → AV) (t4 : σ → Int) (t7 : σ → Int) (t8 : σ → Int) (m : σ → Mem) (μ : σ → Nat) (step : ∀ x, I x → B42_0 (t0 x) (t1 x) (t4 x) (t7 x) (t8 x) (m x) R (fun s' => ∃ y, I y ∧ μ y < μ x ∧ Weak KK 19 0 s' (h42_0 (t0 y) (t1 y) (t4 y) (t7 y) (t8 y) (m y)))) (x : σ) (hx : I x) {s : St} (hw : Weak KK 19 0 s (h42_0 (t0 x) (t1 x) (t4 x) (t7 x) (t8 x) (m x))) : Tri Try.prog KK 19 0 (.loop c42_0) s (q42_0 R) :=
  Tri.weak hw (Tri.loops fol I (fun x => h42_0 (t0 x) (t1 x) (t4 x) (t7 x) (t8 x) (m x)) μ (fun x hx => (B42_0_eq (t0 x) (t1 x) (t4 x) (t7 x) (t8 x) (m x) R _).mpr (step x hx)) x hx)
noncomputable def F42 (a0 : AV) (a1 : AV) (R : AV → Mem → Prop) : Prop :=
opP (lenS a0) fun v0 =>
ex_i64 v0 fun z1 =>
Tri Try.prog KK 19 0 (.loop c42_0) ⟨[(0, a0), (1, a1), (4, (intA (0))), (6, a0), (7, (intA z1)), (8, (intA (0)))], [], 4⟩ (q42_0 R)
theorem F42_own (a0 : AV) (a1 : AV) (R : AV → Mem → Prop) (h : F42 a0 a1 R) : Own Try.prog KK.gl 42 [a0, a1] R := own_of_F fol Try.func42 (code := c42) (by kernel_rfl) (by kernel_rfl) (by kernel_rfl) (X := F42 a0 a1 R) (by kernel_rfl) h
/- slices.ContainsFunc[[]skyway/api.Volume,skyway/api.Volume] -/
noncomputable def c33 : Code := ((Try.f33).body).getD .skip
noncomputable def q33 (R : AV → Mem → Prop) : AExit → St → Prop := retQ Try.prog Try.f33 R
noncomputable def F33 (a0 : AV) (a1 : AV) (R : AV → Mem → Prop) : Prop :=
callQ Try.prog KK.gl [] 42 [a0, a1] fun v0 =>
ex_i64 v0 fun z1 =>
retL R [] [some (boolA (decide (z1 ≥ (0))))]
theorem F33_own (a0 : AV) (a1 : AV) (R : AV → Mem → Prop) (h : F33 a0 a1 R) : Own Try.prog KK.gl 33 [a0, a1] R := own_of_F fol Try.func33 (code := c33) (by kernel_rfl) (by kernel_rfl) (by kernel_rfl) (X := F33 a0 a1 R) (by kernel_rfl) h
/- skyway/sector.Place$1 -/
noncomputable def c32 : Code := ((Try.f32).body).getD .skip
noncomputable def q32 (R : AV → Mem → Prop) : AExit → St → Prop := retQ Try.prog Try.f32 R
noncomputable def F32 (a0_0 : ByteArray) (a0_1 : AV) (a1 : AV) (a2 : AV) (R : AV → Mem → Prop) : Prop :=
chk (isCell a0_1) <| callQ Try.prog KK.gl ((0, some ⟨[(AV.sc (.string a0_0)), a0_1], 37⟩) :: []) 33 [a0_1, (AV.fn 34 [a1, a2])] fun v0 =>
exB v0 fun b1 =>
retL R ((0, some ⟨[(AV.sc (.string a0_0)), a0_1], 37⟩) :: []) [some (boolA b1)]
theorem F32_own (a0_0 : ByteArray) (a0_1 : AV) (a1 : AV) (a2 : AV) (R : AV → Mem → Prop) (h : F32 a0_0 a0_1 a1 a2 R) : Own Try.prog KK.gl 32 [(AV.agg [(AV.sc (.string a0_0)), a0_1]), a1, a2] R := own_of_F fol Try.func32 (code := c32) (by kernel_rfl) (by kernel_rfl) (by kernel_rfl) (X := F32 a0_0 a0_1 a1 a2 R) (by kernel_rfl) h
/- slices.IndexFunc[[]skyway/api.Sector,skyway/api.Sector] -/
noncomputable def c31 : Code := ((Try.f31).body).getD .skip
noncomputable def q31 (R : AV → Mem → Prop) : AExit → St → Prop := retQ Try.prog Try.f31 R
noncomputable def c31_0 : Code := loopB c31 0
noncomputable def q31_0 (R : AV → Mem → Prop) : AExit → St → Prop := contW Try.prog KK 19 0 c31 0 (q31 R)
noncomputable def qq31_0 (R : AV → Mem → Prop) (N0 : St → Prop) : AExit → St → Prop := thenQ N0 (q31_0 R)
def h31_0 (t0 : AV) (t1 : AV) (t4 : Int) (t7 : Int) (t8 : Int) (m : Mem) : St := ⟨[(0, t0), (1, t1), (4, (intA t4)), (7, (intA t7)), (8, (intA t8))], m, 100000⟩
noncomputable def B31_0 (t0 : AV) (t1 : AV) (t4 : Int) (t7 : Int) (t8 : Int) (m : Mem) (R : AV → Mem → Prop) (N0 : St → Prop) : Prop :=
bif (decide (t8 < t7)) then (
opP (idxS 2 t0 (intA t8)) fun v2 =>
opP (ldA (mget m) 2 v2) fun v3 =>
exA2 v3 fun c4 c5 =>
exStr c4 fun s6 =>
fnArgs (some t1) (some [(AV.agg [(AV.sc (.string s6)), c5])]) fun f7 a7 => bif KK.pm f7 then callQ Try.prog KK.gl m f7 a7 (fun v7 =>
exB v7 fun b8 =>
bif b8 then (
retL R m [some (intA t8)]) else (
N0 ⟨[(0, t0), (1, t1), (4, (intA t4)), (7, (intA t7)), (8, (intA (IntKind.wrap .i64 (t8 + (1))))), (9, (boolA (decide (t8 < t7)))), (10, (intA t8)), (5, (intA t8)), (11, t1), (12, t0), (13, (intA t8)), (14, v2), (15, (AV.agg [(AV.sc (.string s6)), c5])), (16, (boolA b8)), (18, (intA (IntKind.wrap .i64 (t8 + (1)))))], m, 100074⟩)) else callW Try.prog KK.gl m 100008 f7 a7 fun v7 m7 =>
exB v7 fun b8 =>
bif b8 then (
retL R m7 [some (intA t8)]) else (
N0 ⟨[(0, t0), (1, t1), (4, (intA t4)), (7, (intA t7)), (8, (intA (IntKind.wrap .i64 (t8 + (1))))), (9, (boolA (decide (t8 < t7)))), (10, (intA t8)), (5, (intA t8)), (11, t1), (12, t0), (13, (intA t8)), (14, v2), (15, (AV.agg [(AV.sc (.string s6)), c5])), (16, (boolA b8)), (18, (intA (IntKind.wrap .i64 (t8 + (1)))))], m7, 100074⟩)) else (
retL R m [some (intA (-1))])
theorem B31_0_eq (t0 : AV) (t1 : AV) (t4 : Int) (t7 : Int) (t8 : Int) (m : Mem) (R : AV → Mem → Prop) (N0 : St → Prop) : W Try.prog KK 19 0 c31_0 (h31_0 t0 t1 t4 t7 t8 m) (qq31_0 R N0) = B31_0 t0 t1 t4 t7 t8 m R N0 := by kernel_rfl
theorem L31_0 (R : AV → Mem → Prop) {σ : Type} (I : σ → Prop) (t0 : σ → AV) (t1 : σ → AV) (t4 : σ → Int) (t7 : σ → Int) (t8 : σ → Int) (m : σ → Mem) (μ : σ → Nat) (step : ∀ x, I x → B31_0 (t0 x) (t1 x) (t4 x) (t7 x) (t8 x) (m x) R (fun s' => ∃ y, I y ∧ μ y < μ x ∧ Weak KK 19 0 s' (h31_0 (t0 y) (t1 y) (t4 y) (t7 y) (t8 y) (m y)))) (x : σ) (hx : I x) {s : St} (hw : Weak KK 19 0 s (h31_0 (t0 x) (t1 x) (t4 x) (t7 x) (t8 x) (m x))) : Tri Try.prog KK 19 0 (.loop c31_0) s (q31_0 R) :=
  Tri.weak hw (Tri.loops fol I (fun x => h31_0 (t0 x) (t1 x) (t4 x) (t7 x) (t8 x) (m x)) μ (fun x hx => (B31_0_eq (t0 x) (t1 x) (t4 x) (t7 x) (t8 x) (m x) R _).mpr (step x hx)) x hx)
noncomputable def F31 (a0 : AV) (a1 : AV) (R : AV → Mem → Prop) : Prop :=
opP (lenS a0) fun v0 =>
ex_i64 v0 fun z1 =>
Tri Try.prog KK 19 0 (.loop c31_0) ⟨[(0, a0), (1, a1), (4, (intA (0))), (6, a0), (7, (intA z1)), (8, (intA (0)))], [], 4⟩ (q31_0 R)
theorem F31_own (a0 : AV) (a1 : AV) (R : AV → Mem → Prop) (h : F31 a0 a1 R) : Own Try.prog KK.gl 31 [a0, a1] R := own_of_F fol Try.func31 (code := c31) (by kernel_rfl) (by kernel_rfl) (by kernel_rfl) (X := F31 a0 a1 R) (by kernel_rfl) h
/- skyway/sector.Place -/
noncomputable def c20 : Code := ((Try.f20).body).getD .skip
noncomputable def q20 (R : AV → Mem → Prop) : AExit → St → Prop := retQ Try.prog Try.f20 R
noncomputable def F20 (a0 : AV) (a1_0 : Int) (a1_1 : Int) (a2 : Int) (R : AV → Mem → Prop) : Prop :=
callQ Try.prog KK.gl ((1, some ⟨[(intA a2)], 3⟩) :: (0, some ⟨[(intA a1_0), (intA a1_1)], 24⟩) :: []) 31 [a0, (AV.fn 32 [(AV.ptr 0 0), (AV.ptr 1 0)])] fun v0 =>
ex_i64 v0 fun z1 =>
retL R ((1, some ⟨[(intA a2)], 3⟩) :: (0, some ⟨[(intA a1_0), (intA a1_1)], 24⟩) :: []) [some (intA z1)]
theorem F20_own (a0 : AV) (a1_0 : Int) (a1_1 : Int) (a2 : Int) (R : AV → Mem → Prop) (h : F20 a0 a1_0 a1_1 a2 R) : Own Try.prog KK.gl 20 [a0, (AV.agg [(intA a1_0), (intA a1_1)]), (intA a2)] R := own_of_F fol Try.func20 (code := c20) (by kernel_rfl) (by kernel_rfl) (by kernel_rfl) (X := F20 a0 a1_0 a1_1 a2 R) (by kernel_rfl) h
/- skyway/chart.Name -/
noncomputable def c28 : Code := ((Try.f28).body).getD .skip
noncomputable def q28 (R : AV → Mem → Prop) : AExit → St → Prop := retQ Try.prog Try.f28 R
noncomputable def c28_0 : Code := loopB c28 0
noncomputable def q28_0 (R : AV → Mem → Prop) : AExit → St → Prop := contW Try.prog KK 41 0 c28 0 (q28 R)
noncomputable def qq28_0 (R : AV → Mem → Prop) (N0 : St → Prop) : AExit → St → Prop := thenQ N0 (q28_0 R)
def h28_0 (t2 : Bool) (t14 : AV) (t15 : Int) (t16 : Int) (m : Mem) : St := ⟨[(2, (boolA t2)), (14, t14), (15, (intA t15)), (16, (intA t16))], m, 100000⟩
noncomputable def B28_0 (t2 : Bool) (t14 : AV) (t15 : Int) (t16 : Int) (m : Mem) (R : AV → Mem → Prop) (N0 : St → Prop) : Prop :=
bif (decide (t16 < t15)) then (
opP (idxS 1 t14 (intA t16)) fun v7 =>
opP (ldS (mget m) v7) fun v8 =>
ex_u8 v8 fun z9 =>
bif (decide (z9 ≥ (65))) then (
bif (decide (z9 ≤ (90))) then (
N0 ⟨[(2, (boolA t2)), (14, t14), (15, (intA t15)), (16, (intA (IntKind.wrap .i64 (t16 + (1))))), (17, (boolA (decide (t16 < t15)))), (18, (intA t16)), (19, v7), (20, (AV.sc (.int .u8 z9))), (3, (intA t16)), (4, (AV.sc (.int .u8 z9))), (21, (AV.sc (.int .u8 z9))), (22, (boolA (decide (z9 ≥ (65))))), (23, (boolA true)), (24, (AV.sc (.int .u8 z9))), (25, (boolA (decide (z9 ≤ (90))))), (26, (boolA (decide (z9 ≤ (90))))), (27, (boolA true)), (28, (AV.tup [])), (29, (AV.tup [])), (30, (AV.tup [])), (31, (AV.tup [])), (32, (AV.tup [])), (33, (AV.tup [])), (34, (AV.tup [])), (35, (AV.tup [])), (36, (AV.tup [])), (37, (AV.tup [])), (38, (boolA true)), (39, (boolA false)), (40, (intA (IntKind.wrap .i64 (t16 + (1)))))], m, 100017⟩) else (
bif (decide (t16 > (0))) then (
bif (decide (z9 ≥ (48))) then (
bif (!(decide (z9 ≤ (57)))) then (
retL R m [some (boolA false)]) else (
N0 ⟨[(2, (boolA t2)), (14, t14), (15, (intA t15)), (16, (intA (IntKind.wrap .i64 (t16 + (1))))), (17, (boolA (decide (t16 < t15)))), (18, (intA t16)), (19, v7), (20, (AV.sc (.int .u8 z9))), (3, (intA t16)), (4, (AV.sc (.int .u8 z9))), (21, (AV.sc (.int .u8 z9))), (22, (boolA (decide (z9 ≥ (65))))), (23, (boolA true)), (24, (AV.sc (.int .u8 z9))), (25, (boolA (decide (z9 ≤ (90))))), (26, (boolA (decide (z9 ≤ (90))))), (27, (boolA false)), (28, (intA t16)), (29, (boolA (decide (t16 > (0))))), (30, (boolA true)), (31, (AV.sc (.int .u8 z9))), (32, (boolA (decide (z9 ≥ (48))))), (33, (boolA (decide (z9 ≥ (48))))), (34, (boolA true)), (35, (AV.sc (.int .u8 z9))), (36, (boolA (decide (z9 ≤ (57))))), (37, (boolA (decide (z9 ≤ (57))))), (38, (boolA (decide (z9 ≤ (57))))), (39, (boolA (!(decide (z9 ≤ (57)))))), (40, (intA (IntKind.wrap .i64 (t16 + (1)))))], m, 100027⟩)) else (
retL R m [some (boolA false)])) else (
retL R m [some (boolA false)]))) else (
bif (decide (t16 > (0))) then (
bif (decide (z9 ≥ (48))) then (
bif (!(decide (z9 ≤ (57)))) then (
retL R m [some (boolA false)]) else (
N0 ⟨[(2, (boolA t2)), (14, t14), (15, (intA t15)), (16, (intA (IntKind.wrap .i64 (t16 + (1))))), (17, (boolA (decide (t16 < t15)))), (18, (intA t16)), (19, v7), (20, (AV.sc (.int .u8 z9))), (3, (intA t16)), (4, (AV.sc (.int .u8 z9))), (21, (AV.sc (.int .u8 z9))), (22, (boolA (decide (z9 ≥ (65))))), (23, (boolA false)), (24, (AV.tup [])), (25, (AV.tup [])), (26, (boolA false)), (27, (boolA false)), (28, (intA t16)), (29, (boolA (decide (t16 > (0))))), (30, (boolA true)), (31, (AV.sc (.int .u8 z9))), (32, (boolA (decide (z9 ≥ (48))))), (33, (boolA (decide (z9 ≥ (48))))), (34, (boolA true)), (35, (AV.sc (.int .u8 z9))), (36, (boolA (decide (z9 ≤ (57))))), (37, (boolA (decide (z9 ≤ (57))))), (38, (boolA (decide (z9 ≤ (57))))), (39, (boolA (!(decide (z9 ≤ (57)))))), (40, (intA (IntKind.wrap .i64 (t16 + (1)))))], m, 100025⟩)) else (
retL R m [some (boolA false)])) else (
retL R m [some (boolA false)]))) else (
retL R m [some (boolA true)])
theorem B28_0_eq (t2 : Bool) (t14 : AV) (t15 : Int) (t16 : Int) (m : Mem) (R : AV → Mem → Prop) (N0 : St → Prop) : W Try.prog KK 41 0 c28_0 (h28_0 t2 t14 t15 t16 m) (qq28_0 R N0) = B28_0 t2 t14 t15 t16 m R N0 := by kernel_rfl
theorem L28_0 (R : AV → Mem → Prop) {σ : Type} (I : σ → Prop) (t2 : σ → Bool) (t14 : σ → AV) (t15 : σ → Int) (t16 : σ → Int) (m : σ → Mem) (μ : σ → Nat) (step : ∀ x, I x → B28_0 (t2 x) (t14 x) (t15 x) (t16 x) (m x) R (fun s' => ∃ y, I y ∧ μ y < μ x ∧ Weak KK 41 0 s' (h28_0 (t2 y) (t14 y) (t15 y) (t16 y) (m y)))) (x : σ) (hx : I x) {s : St} (hw : Weak KK 41 0 s (h28_0 (t2 x) (t14 x) (t15 x) (t16 x) (m x))) : Tri Try.prog KK 41 0 (.loop c28_0) s (q28_0 R) :=
  Tri.weak hw (Tri.loops fol I (fun x => h28_0 (t2 x) (t14 x) (t15 x) (t16 x) (m x)) μ (fun x hx => (B28_0_eq (t2 x) (t14 x) (t15 x) (t16 x) (m x) R _).mpr (step x hx)) x hx)
noncomputable def F28 (a0 : ByteArray) (R : AV → Mem → Prop) : Prop :=
opP (opA Try.prog (.call ⟨.builtin .len, #[.tmp 0], #[9]⟩) 3 [(AV.sc (.string a0))] (mget []) 2) fun v0 =>
ex_i64 v0 fun z1 =>
bif (decide (z1 < (1))) then (
retL R [] [some (boolA false)]) else (
opP (opA Try.prog (.call ⟨.builtin .len, #[.tmp 0], #[9]⟩) 3 [(AV.sc (.string a0))] (mget []) 6) fun v2 =>
ex_i64 v2 fun z3 =>
bif (decide (z3 > (8))) then (
retL R [] [some (boolA false)]) else (
opP (opA Try.prog (.convert 9 84 (.tmp 0)) 84 [(AV.sc (.string a0))] (mget []) 10) fun v4 =>
opP (lenS v4) fun v5 =>
ex_i64 v5 fun z6 =>
Tri Try.prog KK 41 0 (.loop c28_0) ⟨[(0, (AV.sc (.string a0))), (2, (boolA false)), (5, (AV.sc (.string a0))), (6, (intA z1)), (7, (boolA (decide (z1 < (1))))), (8, (boolA false)), (9, (AV.sc (.string a0))), (10, (intA z3)), (11, (boolA (decide (z3 > (8))))), (12, (boolA (decide (z3 > (8))))), (13, (AV.sc (.string a0))), (14, v4), (15, (intA z6)), (16, (intA (0)))], [], 13⟩ (q28_0 R)))
theorem F28_own (a0 : ByteArray) (R : AV → Mem → Prop) (h : F28 a0 R) : Own Try.prog KK.gl 28 [(AV.sc (.string a0))] R := own_of_F fol Try.func28 (code := c28) (by kernel_rfl) (by kernel_rfl) (by kernel_rfl) (X := F28 a0 R) (by kernel_rfl) h
/- skyway/sector.Name -/
noncomputable def c16 : Code := ((Try.f16).body).getD .skip
noncomputable def q16 (R : AV → Mem → Prop) : AExit → St → Prop := retQ Try.prog Try.f16 R
noncomputable def F16 (a0 : ByteArray) (R : AV → Mem → Prop) : Prop :=
callQ Try.prog KK.gl [] 28 [(AV.sc (.string a0))] fun v0 =>
exB v0 fun b1 =>
retL R [] [some (boolA b1)]
theorem F16_own (a0 : ByteArray) (R : AV → Mem → Prop) (h : F16 a0 R) : Own Try.prog KK.gl 16 [(AV.sc (.string a0))] R := own_of_F fol Try.func16 (code := c16) (by kernel_rfl) (by kernel_rfl) (by kernel_rfl) (X := F16 a0 R) (by kernel_rfl) h
/- skyway/polygon.crosses -/
noncomputable def c48 : Code := ((Try.f48).body).getD .skip
noncomputable def q48 (R : AV → Mem → Prop) : AExit → St → Prop := retQ Try.prog Try.f48 R
noncomputable def F48 (a0_0 : Int) (a0_1 : Int) (a1_0 : Int) (a1_1 : Int) (a2_0 : Int) (a2_1 : Int) (a3_0 : Int) (a3_1 : Int) (R : AV → Mem → Prop) : Prop :=
callQ Try.prog KK.gl ((3, some ⟨[(intA a3_0), (intA a3_1)], 24⟩) :: (2, some ⟨[(intA a2_0), (intA a2_1)], 24⟩) :: (1, some ⟨[(intA a1_0), (intA a1_1)], 24⟩) :: (0, some ⟨[(intA a0_0), (intA a0_1)], 24⟩) :: []) 38 [(AV.agg [(intA a0_0), (intA a0_1)]), (AV.agg [(intA a1_0), (intA a1_1)]), (AV.agg [(intA a2_0), (intA a2_1)])] fun v0 =>
ex_i64 v0 fun z1 =>
callQ Try.prog KK.gl ((3, some ⟨[(intA a3_0), (intA a3_1)], 24⟩) :: (2, some ⟨[(intA a2_0), (intA a2_1)], 24⟩) :: (1, some ⟨[(intA a1_0), (intA a1_1)], 24⟩) :: (0, some ⟨[(intA a0_0), (intA a0_1)], 24⟩) :: []) 38 [(AV.agg [(intA a0_0), (intA a0_1)]), (AV.agg [(intA a1_0), (intA a1_1)]), (AV.agg [(intA a3_0), (intA a3_1)])] fun v2 =>
ex_i64 v2 fun z3 =>
bif (decide ((IntKind.wrap .i64 (z1 * z3)) < (0))) then (
callQ Try.prog KK.gl ((3, some ⟨[(intA a3_0), (intA a3_1)], 24⟩) :: (2, some ⟨[(intA a2_0), (intA a2_1)], 24⟩) :: (1, some ⟨[(intA a1_0), (intA a1_1)], 24⟩) :: (0, some ⟨[(intA a0_0), (intA a0_1)], 24⟩) :: []) 38 [(AV.agg [(intA a2_0), (intA a2_1)]), (AV.agg [(intA a3_0), (intA a3_1)]), (AV.agg [(intA a0_0), (intA a0_1)])] fun v4 =>
ex_i64 v4 fun z5 =>
callQ Try.prog KK.gl ((3, some ⟨[(intA a3_0), (intA a3_1)], 24⟩) :: (2, some ⟨[(intA a2_0), (intA a2_1)], 24⟩) :: (1, some ⟨[(intA a1_0), (intA a1_1)], 24⟩) :: (0, some ⟨[(intA a0_0), (intA a0_1)], 24⟩) :: []) 38 [(AV.agg [(intA a2_0), (intA a2_1)]), (AV.agg [(intA a3_0), (intA a3_1)]), (AV.agg [(intA a1_0), (intA a1_1)])] fun v6 =>
ex_i64 v6 fun z7 =>
retL R ((3, some ⟨[(intA a3_0), (intA a3_1)], 24⟩) :: (2, some ⟨[(intA a2_0), (intA a2_1)], 24⟩) :: (1, some ⟨[(intA a1_0), (intA a1_1)], 24⟩) :: (0, some ⟨[(intA a0_0), (intA a0_1)], 24⟩) :: []) [some (boolA (decide ((IntKind.wrap .i64 (z5 * z7)) < (0))))]) else (
retL R ((3, some ⟨[(intA a3_0), (intA a3_1)], 24⟩) :: (2, some ⟨[(intA a2_0), (intA a2_1)], 24⟩) :: (1, some ⟨[(intA a1_0), (intA a1_1)], 24⟩) :: (0, some ⟨[(intA a0_0), (intA a0_1)], 24⟩) :: []) [some (boolA false)])
theorem F48_own (a0_0 : Int) (a0_1 : Int) (a1_0 : Int) (a1_1 : Int) (a2_0 : Int) (a2_1 : Int) (a3_0 : Int) (a3_1 : Int) (R : AV → Mem → Prop) (h : F48 a0_0 a0_1 a1_0 a1_1 a2_0 a2_1 a3_0 a3_1 R) : Own Try.prog KK.gl 48 [(AV.agg [(intA a0_0), (intA a0_1)]), (AV.agg [(intA a1_0), (intA a1_1)]), (AV.agg [(intA a2_0), (intA a2_1)]), (AV.agg [(intA a3_0), (intA a3_1)])] R := own_of_F fol Try.func48 (code := c48) (by kernel_rfl) (by kernel_rfl) (by kernel_rfl) (X := F48 a0_0 a0_1 a1_0 a1_1 a2_0 a2_1 a3_0 a3_1 R) (by kernel_rfl) h
/- skyway/polygon.Common -/
noncomputable def c40 : Code := ((Try.f40).body).getD .skip
noncomputable def q40 (R : AV → Mem → Prop) : AExit → St → Prop := retQ Try.prog Try.f40 R
noncomputable def F40 (a0_0 : Int) (a0_1 : Int) (a1_0 : Int) (a1_1 : Int) (a2_0 : Int) (a2_1 : Int) (a3_0 : Int) (a3_1 : Int) (R : AV → Mem → Prop) : Prop :=
callQ Try.prog KK.gl ((3, some ⟨[(intA a3_0), (intA a3_1)], 24⟩) :: (2, some ⟨[(intA a2_0), (intA a2_1)], 24⟩) :: (1, some ⟨[(intA a1_0), (intA a1_1)], 24⟩) :: (0, some ⟨[(intA a0_0), (intA a0_1)], 24⟩) :: []) 48 [(AV.agg [(intA a0_0), (intA a0_1)]), (AV.agg [(intA a1_0), (intA a1_1)]), (AV.agg [(intA a2_0), (intA a2_1)]), (AV.agg [(intA a3_0), (intA a3_1)])] fun v0 =>
exB v0 fun b1 =>
bif b1 then (
retL R ((3, some ⟨[(intA a3_0), (intA a3_1)], 24⟩) :: (2, some ⟨[(intA a2_0), (intA a2_1)], 24⟩) :: (1, some ⟨[(intA a1_0), (intA a1_1)], 24⟩) :: (0, some ⟨[(intA a0_0), (intA a0_1)], 24⟩) :: []) [some (boolA true)]) else (
callQ Try.prog KK.gl ((3, some ⟨[(intA a3_0), (intA a3_1)], 24⟩) :: (2, some ⟨[(intA a2_0), (intA a2_1)], 24⟩) :: (1, some ⟨[(intA a1_0), (intA a1_1)], 24⟩) :: (0, some ⟨[(intA a0_0), (intA a0_1)], 24⟩) :: []) 52 [(AV.agg [(intA a0_0), (intA a0_1)]), (AV.agg [(intA a1_0), (intA a1_1)]), (AV.agg [(intA a2_0), (intA a2_1)])] fun v2 =>
exB v2 fun b3 =>
bif b3 then (
retL R ((3, some ⟨[(intA a3_0), (intA a3_1)], 24⟩) :: (2, some ⟨[(intA a2_0), (intA a2_1)], 24⟩) :: (1, some ⟨[(intA a1_0), (intA a1_1)], 24⟩) :: (0, some ⟨[(intA a0_0), (intA a0_1)], 24⟩) :: []) [some (boolA true)]) else (
callQ Try.prog KK.gl ((3, some ⟨[(intA a3_0), (intA a3_1)], 24⟩) :: (2, some ⟨[(intA a2_0), (intA a2_1)], 24⟩) :: (1, some ⟨[(intA a1_0), (intA a1_1)], 24⟩) :: (0, some ⟨[(intA a0_0), (intA a0_1)], 24⟩) :: []) 52 [(AV.agg [(intA a0_0), (intA a0_1)]), (AV.agg [(intA a1_0), (intA a1_1)]), (AV.agg [(intA a3_0), (intA a3_1)])] fun v4 =>
exB v4 fun b5 =>
bif b5 then (
retL R ((3, some ⟨[(intA a3_0), (intA a3_1)], 24⟩) :: (2, some ⟨[(intA a2_0), (intA a2_1)], 24⟩) :: (1, some ⟨[(intA a1_0), (intA a1_1)], 24⟩) :: (0, some ⟨[(intA a0_0), (intA a0_1)], 24⟩) :: []) [some (boolA true)]) else (
callQ Try.prog KK.gl ((3, some ⟨[(intA a3_0), (intA a3_1)], 24⟩) :: (2, some ⟨[(intA a2_0), (intA a2_1)], 24⟩) :: (1, some ⟨[(intA a1_0), (intA a1_1)], 24⟩) :: (0, some ⟨[(intA a0_0), (intA a0_1)], 24⟩) :: []) 52 [(AV.agg [(intA a2_0), (intA a2_1)]), (AV.agg [(intA a3_0), (intA a3_1)]), (AV.agg [(intA a0_0), (intA a0_1)])] fun v6 =>
exB v6 fun b7 =>
bif b7 then (
retL R ((3, some ⟨[(intA a3_0), (intA a3_1)], 24⟩) :: (2, some ⟨[(intA a2_0), (intA a2_1)], 24⟩) :: (1, some ⟨[(intA a1_0), (intA a1_1)], 24⟩) :: (0, some ⟨[(intA a0_0), (intA a0_1)], 24⟩) :: []) [some (boolA true)]) else (
callQ Try.prog KK.gl ((3, some ⟨[(intA a3_0), (intA a3_1)], 24⟩) :: (2, some ⟨[(intA a2_0), (intA a2_1)], 24⟩) :: (1, some ⟨[(intA a1_0), (intA a1_1)], 24⟩) :: (0, some ⟨[(intA a0_0), (intA a0_1)], 24⟩) :: []) 52 [(AV.agg [(intA a2_0), (intA a2_1)]), (AV.agg [(intA a3_0), (intA a3_1)]), (AV.agg [(intA a1_0), (intA a1_1)])] fun v8 =>
exB v8 fun b9 =>
retL R ((3, some ⟨[(intA a3_0), (intA a3_1)], 24⟩) :: (2, some ⟨[(intA a2_0), (intA a2_1)], 24⟩) :: (1, some ⟨[(intA a1_0), (intA a1_1)], 24⟩) :: (0, some ⟨[(intA a0_0), (intA a0_1)], 24⟩) :: []) [some (boolA b9)]))))
theorem F40_own (a0_0 : Int) (a0_1 : Int) (a1_0 : Int) (a1_1 : Int) (a2_0 : Int) (a2_1 : Int) (a3_0 : Int) (a3_1 : Int) (R : AV → Mem → Prop) (h : F40 a0_0 a0_1 a1_0 a1_1 a2_0 a2_1 a3_0 a3_1 R) : Own Try.prog KK.gl 40 [(AV.agg [(intA a0_0), (intA a0_1)]), (AV.agg [(intA a1_0), (intA a1_1)]), (AV.agg [(intA a2_0), (intA a2_1)]), (AV.agg [(intA a3_0), (intA a3_1)])] R := own_of_F fol Try.func40 (code := c40) (by kernel_rfl) (by kernel_rfl) (by kernel_rfl) (X := F40 a0_0 a0_1 a1_0 a1_1 a2_0 a2_1 a3_0 a3_1 R) (by kernel_rfl) h
/- skyway/polygon.twice -/
noncomputable def c30 : Code := ((Try.f30).body).getD .skip
noncomputable def q30 (R : AV → Mem → Prop) : AExit → St → Prop := retQ Try.prog Try.f30 R
noncomputable def c30_0 : Code := loopB c30 0
noncomputable def q30_0 (R : AV → Mem → Prop) : AExit → St → Prop := contW Try.prog KK 22 0 c30 0 (q30 R)
noncomputable def qq30_0 (R : AV → Mem → Prop) (N0 : St → Prop) : AExit → St → Prop := thenQ N0 (q30_0 R)
def h30_0 (t0 : AV) (t2 : Int) (t3 : Int) (t6 : Int) (t7 : Int) (m : Mem) : St := ⟨[(0, t0), (2, (intA t2)), (3, (intA t3)), (6, (intA t6)), (7, (intA t7))], m, 100000⟩
noncomputable def B30_0 (t0 : AV) (t2 : Int) (t3 : Int) (t6 : Int) (t7 : Int) (m : Mem) (R : AV → Mem → Prop) (N0 : St → Prop) : Prop :=
bif (decide (t7 < t6)) then (
opP (idxS 2 t0 (intA t7)) fun v2 =>
opP (ldA (mget m) 2 v2) fun v3 =>
exA2 v3 fun c4 c5 =>
ex_i64 c4 fun z6 =>
ex_i64 c5 fun z7 =>
callQ Try.prog KK.gl m 39 [t0, (intA t7)] fun v8 =>
exA2 v8 fun c9 c10 =>
ex_i64 c9 fun z11 =>
ex_i64 c10 fun z12 =>
callQ Try.prog KK.gl m 41 [(AV.agg [(intA z6), (intA z7)]), (AV.agg [(intA z11), (intA z12)])] fun v13 =>
ex_i64 v13 fun z14 =>
N0 ⟨[(0, t0), (2, (intA t2)), (3, (intA (IntKind.wrap .i64 (t3 + z14)))), (6, (intA t6)), (7, (intA (IntKind.wrap .i64 (t7 + (1))))), (8, (boolA (decide (t7 < t6)))), (9, (intA t7)), (4, (intA t7)), (10, (intA t3)), (11, t0), (12, (intA t7)), (13, v2), (14, (AV.agg [(intA z6), (intA z7)])), (15, t0), (16, (intA t7)), (17, (AV.agg [(intA z11), (intA z12)])), (18, (intA z14)), (19, (intA (IntKind.wrap .i64 (t3 + z14)))), (20, (intA (IntKind.wrap .i64 (t7 + (1)))))], m, 100016⟩) else (
retL R m [some (intA t3)])
theorem B30_0_eq (t0 : AV) (t2 : Int) (t3 : Int) (t6 : Int) (t7 : Int) (m : Mem) (R : AV → Mem → Prop) (N0 : St → Prop) : W Try.prog KK 22 0 c30_0 (h30_0 t0 t2 t3 t6 t7 m) (qq30_0 R N0) = B30_0 t0 t2 t3 t6 t7 m R N0 := by kernel_rfl
theorem L30_0 (R : AV → Mem → Prop) {σ : Type} (I : σ → Prop) (t0 : σ → AV) (t2 : σ → Int) (t3 : σ → Int) (t6 : σ → Int) (t7 : σ → Int) (m : σ → Mem) (μ : σ → Nat) (step : ∀ x, I x → B30_0 (t0 x) (t2 x) (t3 x) (t6 x) (t7 x) (m x) R (fun s' => ∃ y, I y ∧ μ y < μ x ∧ Weak KK 22 0 s' (h30_0 (t0 y) (t2 y) (t3 y) (t6 y) (t7 y) (m y)))) (x : σ) (hx : I x) {s : St} (hw : Weak KK 22 0 s (h30_0 (t0 x) (t2 x) (t3 x) (t6 x) (t7 x) (m x))) : Tri Try.prog KK 22 0 (.loop c30_0) s (q30_0 R) :=
  Tri.weak hw (Tri.loops fol I (fun x => h30_0 (t0 x) (t2 x) (t3 x) (t6 x) (t7 x) (m x)) μ (fun x hx => (B30_0_eq (t0 x) (t2 x) (t3 x) (t6 x) (t7 x) (m x) R _).mpr (step x hx)) x hx)
noncomputable def F30 (a0 : AV) (R : AV → Mem → Prop) : Prop :=
opP (lenS a0) fun v0 =>
ex_i64 v0 fun z1 =>
Tri Try.prog KK 22 0 (.loop c30_0) ⟨[(0, a0), (2, (intA (0))), (3, (intA (0))), (5, a0), (6, (intA z1)), (7, (intA (0)))], [], 5⟩ (q30_0 R)
theorem F30_own (a0 : AV) (R : AV → Mem → Prop) (h : F30 a0 R) : Own Try.prog KK.gl 30 [a0] R := own_of_F fol Try.func30 (code := c30) (by kernel_rfl) (by kernel_rfl) (by kernel_rfl) (X := F30 a0 R) (by kernel_rfl) h
/- skyway/polygon.Check -/
noncomputable def c29 : Code := ((Try.f29).body).getD .skip
noncomputable def q29 (R : AV → Mem → Prop) : AExit → St → Prop := retQ Try.prog Try.f29 R
noncomputable def c29_0 : Code := loopB c29 0
noncomputable def q29_0 (R : AV → Mem → Prop) : AExit → St → Prop := contW Try.prog KK 84 0 c29 0 (q29 R)
noncomputable def qq29_0 (R : AV → Mem → Prop) (N0 : St → Prop) : AExit → St → Prop := thenQ N0 (q29_0 R)
def h29_0 (t0 : AV) (t2 : Int) (t3 : Int) (t17 : AV) (t18 : Int) (t19 : Int) (m : Mem) : St := ⟨[(0, t0), (2, (intA t2)), (3, (intA t3)), (17, t17), (18, (intA t18)), (19, (intA t19))], m, 100000⟩
noncomputable def c29_1 : Code := loopB c29 1
noncomputable def q29_1 (R : AV → Mem → Prop) : AExit → St → Prop := contW Try.prog KK 84 0 c29 1 (q29 R)
noncomputable def qq29_1 (R : AV → Mem → Prop) (N0 : St → Prop) : AExit → St → Prop := thenQ N0 (q29_1 R)
def h29_1 (t0 : AV) (t2 : Int) (t3 : Int) (t30 : Int) (t31 : Int) (m : Mem) : St := ⟨[(0, t0), (2, (intA t2)), (3, (intA t3)), (30, (intA t30)), (31, (intA t31))], m, 200000⟩
noncomputable def c29_1_0 : Code := loopB c29_1 0
noncomputable def q29_1_0 (R : AV → Mem → Prop) (N0 : St → Prop) : AExit → St → Prop := contW Try.prog KK 84 0 c29_1 0 (qq29_1 R N0)
noncomputable def qq29_1_0 (R : AV → Mem → Prop) (N0 : St → Prop) (N1 : St → Prop) : AExit → St → Prop := thenQ N1 (q29_1_0 R N0)
def h29_1_0 (t0 : AV) (t2 : Int) (t3 : Int) (t7 : Int) (t8 : Int) (t30 : Int) (t31 : Int) (m : Mem) : St := ⟨[(0, t0), (2, (intA t2)), (3, (intA t3)), (7, (intA t7)), (8, (intA t8)), (30, (intA t30)), (31, (intA t31))], m, 300000⟩
noncomputable def B29_0 (t0 : AV) (t2 : Int) (t3 : Int) (t17 : AV) (t18 : Int) (t19 : Int) (m : Mem) (R : AV → Mem → Prop) (N0 : St → Prop) : Prop :=
bif (decide (t19 < t18)) then (
opP (idxS 2 t17 (intA t19)) fun v4 =>
opP (ldA (mget m) 2 v4) fun v5 =>
exA2 v5 fun c6 c7 =>
ex_i64 c6 fun z8 =>
ex_i64 c7 fun z9 =>
callQ Try.prog KK.gl ((100003, some ⟨[(intA z8), (intA z9)], 24⟩) :: (100003, some ⟨[(intA (0)), (intA (0))], 24⟩) :: m) 19 [(AV.agg [(intA z8), (intA z9)])] fun v10 =>
ex_i64 v10 fun z11 =>
bif (z11 != (0)) then (
retL R ((100003, some ⟨[(intA z8), (intA z9)], 24⟩) :: (100003, some ⟨[(intA (0)), (intA (0))], 24⟩) :: m) [some (intA z11)]) else (
N0 ⟨[(0, t0), (2, (intA t2)), (3, (intA t3)), (17, t17), (18, (intA t18)), (19, (intA (IntKind.wrap .i64 (t19 + (1))))), (20, (boolA (decide (t19 < t18)))), (21, v4), (22, (AV.agg [(intA z8), (intA z9)])), (5, (AV.ptr 100003 0)), (23, (AV.agg [(intA z8), (intA z9)])), (24, (intA z11)), (6, (intA z11)), (25, (intA z11)), (26, (boolA (z11 != (0)))), (28, (intA (IntKind.wrap .i64 (t19 + (1)))))], ((100003, some ⟨[(intA z8), (intA z9)], 24⟩) :: (100003, some ⟨[(intA (0)), (intA (0))], 24⟩) :: m), 100075⟩)) else (
opP (lenS t0) fun v12 =>
ex_i64 v12 fun z13 =>
Tri Try.prog KK 84 0 (.loop c29_1) ⟨[(0, t0), (2, (intA t2)), (3, (intA t3)), (17, t17), (18, (intA t18)), (19, (intA t19)), (20, (boolA (decide (t19 < t18)))), (29, t0), (30, (intA z13)), (31, (intA (0)))], m, 100004⟩ (q29_1 R))
theorem B29_0_eq (t0 : AV) (t2 : Int) (t3 : Int) (t17 : AV) (t18 : Int) (t19 : Int) (m : Mem) (R : AV → Mem → Prop) (N0 : St → Prop) : W Try.prog KK 84 0 c29_0 (h29_0 t0 t2 t3 t17 t18 t19 m) (qq29_0 R N0) = B29_0 t0 t2 t3 t17 t18 t19 m R N0 := by kernel_rfl
theorem L29_0 (R : AV → Mem → Prop) {σ : Type} (I : σ → Prop) (t0 : σ → AV) (t2 : σ → Int) (t3 : σ → Int) (t17 : σ → AV) (t18 : σ → Int) (t19 : σ → Int) (m : σ → Mem) (μ : σ → Nat) (step : ∀ x, I x → B29_0 (t0 x) (t2 x) (t3 x) (t17 x) (t18 x) (t19 x) (m x) R (fun s' => ∃ y, I y ∧ μ y < μ x ∧ Weak KK 84 0 s' (h29_0 (t0 y) (t2 y) (t3 y) (t17 y) (t18 y) (t19 y) (m y)))) (x : σ) (hx : I x) {s : St} (hw : Weak KK 84 0 s (h29_0 (t0 x) (t2 x) (t3 x) (t17 x) (t18 x) (t19 x) (m x))) : Tri Try.prog KK 84 0 (.loop c29_0) s (q29_0 R) :=
  Tri.weak hw (Tri.loops fol I (fun x => h29_0 (t0 x) (t2 x) (t3 x) (t17 x) (t18 x) (t19 x) (m x)) μ (fun x hx => (B29_0_eq (t0 x) (t2 x) (t3 x) (t17 x) (t18 x) (t19 x) (m x) R _).mpr (step x hx)) x hx)
noncomputable def B29_1 (t0 : AV) (t2 : Int) (t3 : Int) (t30 : Int) (t31 : Int) (m : Mem) (R : AV → Mem → Prop) (N0 : St → Prop) : Prop :=
bif (decide (t31 < t30)) then (
opP (idxS 2 t0 (intA t31)) fun v14 =>
opP (ldA (mget m) 2 v14) fun v15 =>
exA2 v15 fun c16 c17 =>
ex_i64 c16 fun z18 =>
ex_i64 c17 fun z19 =>
callQ Try.prog KK.gl m 39 [t0, (intA t31)] fun v20 =>
exA2 v20 fun c21 c22 =>
ex_i64 c21 fun z23 =>
ex_i64 c22 fun z24 =>
opP (opA Try.prog (.binOp .rem 3 (.tmp 0) (.tmp 1) 3) 3 [(intA (IntKind.wrap .i64 (t31 + (2)))), (intA t3)] (mget m) 200014) fun v25 =>
ex_i64 v25 fun z26 =>
opP (idxS 2 t0 (intA z26)) fun v27 =>
opP (ldA (mget m) 2 v27) fun v28 =>
exA2 v28 fun c29 c30 =>
ex_i64 c29 fun z31 =>
ex_i64 c30 fun z32 =>
callQ Try.prog KK.gl m 38 [(AV.agg [(intA z18), (intA z19)]), (AV.agg [(intA z23), (intA z24)]), (AV.agg [(intA z31), (intA z32)])] fun v33 =>
ex_i64 v33 fun z34 =>
bif (z34 == (0)) then (
retL R m [some (intA (3))]) else (
Tri Try.prog KK 84 0 (.loop c29_1_0) ⟨[(0, t0), (2, (intA t2)), (3, (intA t3)), (30, (intA t30)), (31, (intA t31)), (32, (boolA (decide (t31 < t30)))), (33, (intA t31)), (7, (intA t31)), (34, t0), (35, (intA t31)), (36, v14), (37, (AV.agg [(intA z18), (intA z19)])), (38, t0), (39, (intA t31)), (40, (AV.agg [(intA z23), (intA z24)])), (41, t0), (42, (intA t31)), (43, (intA (IntKind.wrap .i64 (t31 + (2))))), (44, (intA t3)), (45, (intA z26)), (46, v27), (47, (AV.agg [(intA z31), (intA z32)])), (48, (intA z34)), (49, (boolA (z34 == (0)))), (50, (intA t31)), (51, (intA (IntKind.wrap .i64 (t31 + (2))))), (8, (intA (IntKind.wrap .i64 (t31 + (2)))))], m, 200022⟩ (q29_1_0 R N0))) else (
callQ Try.prog KK.gl m 30 [t0] fun v61 =>
ex_i64 v61 fun z62 =>
bif (decide (z62 ≤ (0))) then (
retL R m [some (intA (3))]) else (
retL R m [some (intA (0))]))
theorem B29_1_eq (t0 : AV) (t2 : Int) (t3 : Int) (t30 : Int) (t31 : Int) (m : Mem) (R : AV → Mem → Prop) (N0 : St → Prop) : W Try.prog KK 84 0 c29_1 (h29_1 t0 t2 t3 t30 t31 m) (qq29_1 R N0) = B29_1 t0 t2 t3 t30 t31 m R N0 := by kernel_rfl
theorem L29_1 (R : AV → Mem → Prop) {σ : Type} (I : σ → Prop) (t0 : σ → AV) (t2 : σ → Int) (t3 : σ → Int) (t30 : σ → Int) (t31 : σ → Int) (m : σ → Mem) (μ : σ → Nat) (step : ∀ x, I x → B29_1 (t0 x) (t2 x) (t3 x) (t30 x) (t31 x) (m x) R (fun s' => ∃ y, I y ∧ μ y < μ x ∧ Weak KK 84 0 s' (h29_1 (t0 y) (t2 y) (t3 y) (t30 y) (t31 y) (m y)))) (x : σ) (hx : I x) {s : St} (hw : Weak KK 84 0 s (h29_1 (t0 x) (t2 x) (t3 x) (t30 x) (t31 x) (m x))) : Tri Try.prog KK 84 0 (.loop c29_1) s (q29_1 R) :=
  Tri.weak hw (Tri.loops fol I (fun x => h29_1 (t0 x) (t2 x) (t3 x) (t30 x) (t31 x) (m x)) μ (fun x hx => (B29_1_eq (t0 x) (t2 x) (t3 x) (t30 x) (t31 x) (m x) R _).mpr (step x hx)) x hx)
noncomputable def B29_1_0 (t0 : AV) (t2 : Int) (t3 : Int) (t7 : Int) (t8 : Int) (t30 : Int) (t31 : Int) (m : Mem) (R : AV → Mem → Prop) (N0 : St → Prop) (N1 : St → Prop) : Prop :=
bif (decide (t8 < t3)) then (
opP (opA Try.prog (.binOp .rem 3 (.tmp 0) (.tmp 1) 3) 3 [(intA (IntKind.wrap .i64 (t8 + (1)))), (intA t3)] (mget m) 300006) fun v35 =>
ex_i64 v35 fun z36 =>
bif (z36 != t7) then (
opP (idxS 2 t0 (intA t7)) fun v37 =>
opP (ldA (mget m) 2 v37) fun v38 =>
exA2 v38 fun c39 c40 =>
ex_i64 c39 fun z41 =>
ex_i64 c40 fun z42 =>
callQ Try.prog KK.gl m 39 [t0, (intA t7)] fun v43 =>
exA2 v43 fun c44 c45 =>
ex_i64 c44 fun z46 =>
ex_i64 c45 fun z47 =>
opP (idxS 2 t0 (intA t8)) fun v48 =>
opP (ldA (mget m) 2 v48) fun v49 =>
exA2 v49 fun c50 c51 =>
ex_i64 c50 fun z52 =>
ex_i64 c51 fun z53 =>
callQ Try.prog KK.gl m 39 [t0, (intA t8)] fun v54 =>
exA2 v54 fun c55 c56 =>
ex_i64 c55 fun z57 =>
ex_i64 c56 fun z58 =>
callQ Try.prog KK.gl m 40 [(AV.agg [(intA z41), (intA z42)]), (AV.agg [(intA z46), (intA z47)]), (AV.agg [(intA z52), (intA z53)]), (AV.agg [(intA z57), (intA z58)])] fun v59 =>
exB v59 fun b60 =>
bif b60 then (
retL R m [some (intA (3))]) else (
N1 ⟨[(0, t0), (2, (intA t2)), (3, (intA t3)), (7, (intA t7)), (8, (intA (IntKind.wrap .i64 (t8 + (1))))), (30, (intA t30)), (31, (intA t31)), (52, (intA t8)), (53, (intA t3)), (54, (boolA (decide (t8 < t3)))), (57, (intA t8)), (58, (intA (IntKind.wrap .i64 (t8 + (1))))), (59, (intA t3)), (60, (intA z36)), (61, (intA t7)), (62, (boolA (z36 != t7))), (63, (boolA true)), (64, t0), (65, (intA t7)), (66, v37), (67, (AV.agg [(intA z41), (intA z42)])), (68, t0), (69, (intA t7)), (70, (AV.agg [(intA z46), (intA z47)])), (71, t0), (72, (intA t8)), (73, v48), (74, (AV.agg [(intA z52), (intA z53)])), (75, t0), (76, (intA t8)), (77, (AV.agg [(intA z57), (intA z58)])), (78, (boolA b60)), (79, (boolA b60)), (55, (intA t8)), (56, (intA (IntKind.wrap .i64 (t8 + (1)))))], m, 300029⟩)) else (
N1 ⟨[(0, t0), (2, (intA t2)), (3, (intA t3)), (7, (intA t7)), (8, (intA (IntKind.wrap .i64 (t8 + (1))))), (30, (intA t30)), (31, (intA t31)), (52, (intA t8)), (53, (intA t3)), (54, (boolA (decide (t8 < t3)))), (57, (intA t8)), (58, (intA (IntKind.wrap .i64 (t8 + (1))))), (59, (intA t3)), (60, (intA z36)), (61, (intA t7)), (62, (boolA (z36 != t7))), (63, (boolA false)), (64, (AV.tup [])), (65, (AV.tup [])), (66, (AV.tup [])), (67, (AV.tup [])), (68, (AV.tup [])), (69, (AV.tup [])), (70, (AV.tup [])), (71, (AV.tup [])), (72, (AV.tup [])), (73, (AV.tup [])), (74, (AV.tup [])), (75, (AV.tup [])), (76, (AV.tup [])), (77, (AV.tup [])), (78, (AV.tup [])), (79, (boolA false)), (55, (intA t8)), (56, (intA (IntKind.wrap .i64 (t8 + (1)))))], m, 300029⟩)) else (
N0 ⟨[(0, t0), (2, (intA t2)), (3, (intA t3)), (7, (intA t7)), (8, (intA t8)), (30, (intA t30)), (31, (intA (IntKind.wrap .i64 (t31 + (1))))), (52, (intA t8)), (53, (intA t3)), (54, (boolA (decide (t8 < t3)))), (80, (intA (IntKind.wrap .i64 (t31 + (1)))))], m, 300005⟩)
theorem B29_1_0_eq (t0 : AV) (t2 : Int) (t3 : Int) (t7 : Int) (t8 : Int) (t30 : Int) (t31 : Int) (m : Mem) (R : AV → Mem → Prop) (N0 : St → Prop) (N1 : St → Prop) : W Try.prog KK 84 0 c29_1_0 (h29_1_0 t0 t2 t3 t7 t8 t30 t31 m) (qq29_1_0 R N0 N1) = B29_1_0 t0 t2 t3 t7 t8 t30 t31 m R N0 N1 := by kernel_rfl
theorem L29_1_0 (R : AV → Mem → Prop) (N0 : St → Prop) {σ : Type} (I : σ → Prop) (t0 : σ → AV) (t2 : σ → Int) (t3 : σ → Int) (t7 : σ → Int) (t8 : σ → Int) (t30 : σ → Int) (t31 : σ → Int) (m : σ → Mem) (μ : σ → Nat) (step : ∀ x, I x → B29_1_0 (t0 x) (t2 x) (t3 x) (t7 x) (t8 x) (t30 x) (t31 x) (m x) R N0 (fun s' => ∃ y, I y ∧ μ y < μ x ∧ Weak KK 84 0 s' (h29_1_0 (t0 y) (t2 y) (t3 y) (t7 y) (t8 y) (t30 y) (t31 y) (m y)))) (x : σ) (hx : I x) {s : St} (hw : Weak KK 84 0 s (h29_1_0 (t0 x) (t2 x) (t3 x) (t7 x) (t8 x) (t30 x) (t31 x) (m x))) : Tri Try.prog KK 84 0 (.loop c29_1_0) s (q29_1_0 R N0) :=
  Tri.weak hw (Tri.loops fol I (fun x => h29_1_0 (t0 x) (t2 x) (t3 x) (t7 x) (t8 x) (t30 x) (t31 x) (m x)) μ (fun x hx => (B29_1_0_eq (t0 x) (t2 x) (t3 x) (t7 x) (t8 x) (t30 x) (t31 x) (m x) R N0 _).mpr (step x hx)) x hx)
noncomputable def F29 (a0 : AV) (R : AV → Mem → Prop) : Prop :=
opP (lenS a0) fun v0 =>
ex_i64 v0 fun z1 =>
bif (decide (z1 > (16))) then (
retL R [] [some (intA (2))]) else (
bif (decide (z1 < (3))) then (
retL R [] [some (intA (3))]) else (
opP (lenS a0) fun v2 =>
ex_i64 v2 fun z3 =>
Tri Try.prog KK 84 0 (.loop c29_0) ⟨[(0, a0), (2, (intA (0))), (9, a0), (10, (intA z1)), (3, (intA z1)), (12, (intA z1)), (13, (boolA (decide (z1 > (16))))), (11, (boolA (decide (z1 > (16))))), (15, (intA z1)), (16, (boolA (decide (z1 < (3))))), (14, (boolA (decide (z1 < (3))))), (17, a0), (18, (intA z3)), (19, (intA (0)))], [], 13⟩ (q29_0 R)))
theorem F29_own (a0 : AV) (R : AV → Mem → Prop) (h : F29 a0 R) : Own Try.prog KK.gl 29 [a0] R := own_of_F fol Try.func29 (code := c29) (by kernel_rfl) (by kernel_rfl) (by kernel_rfl) (X := F29 a0 R) (by kernel_rfl) h
/- skyway/volume.Check -/
noncomputable def c24 : Code := ((Try.f24).body).getD .skip
noncomputable def q24 (R : AV → Mem → Prop) : AExit → St → Prop := retQ Try.prog Try.f24 R
noncomputable def F24 (a0_0 : AV) (a0_1 : Int) (a0_2 : Int) (R : AV → Mem → Prop) : Prop :=
chk (isCell a0_0) <| callQ Try.prog KK.gl ((0, some ⟨[a0_0, (intA a0_1), (intA a0_2)], 56⟩) :: []) 29 [a0_0] fun v0 =>
ex_i64 v0 fun z1 =>
bif (z1 != (0)) then (
retL R ((0, some ⟨[a0_0, (intA a0_1), (intA a0_2)], 56⟩) :: []) [some (intA z1)]) else (
bif (decide (a0_1 < (0))) then (
retL R ((0, some ⟨[a0_0, (intA a0_1), (intA a0_2)], 56⟩) :: []) [some (intA (4))]) else (
bif (decide (a0_2 > (60001))) then (
retL R ((0, some ⟨[a0_0, (intA a0_1), (intA a0_2)], 56⟩) :: []) [some (intA (4))]) else (
bif (decide (a0_1 ≥ a0_2)) then (
retL R ((0, some ⟨[a0_0, (intA a0_1), (intA a0_2)], 56⟩) :: []) [some (intA (4))]) else (
retL R ((0, some ⟨[a0_0, (intA a0_1), (intA a0_2)], 56⟩) :: []) [some (intA (0))]))))
theorem F24_own (a0_0 : AV) (a0_1 : Int) (a0_2 : Int) (R : AV → Mem → Prop) (h : F24 a0_0 a0_1 a0_2 R) : Own Try.prog KK.gl 24 [(AV.agg [a0_0, (intA a0_1), (intA a0_2)])] R := own_of_F fol Try.func24 (code := c24) (by kernel_rfl) (by kernel_rfl) (by kernel_rfl) (X := F24 a0_0 a0_1 a0_2 R) (by kernel_rfl) h
/- skyway/sector.Check$1 -/
noncomputable def c26 : Code := ((Try.f26).body).getD .skip
noncomputable def q26 (R : AV → Mem → Prop) : AExit → St → Prop := retQ Try.prog Try.f26 R
noncomputable def F26 (a0_0 : ByteArray) (a0_1 : AV) (a1 : AV) (R : AV → Mem → Prop) : Prop :=
chk (isCell a0_1) <| opP (fldO 0 a1) fun v0 =>
opP (ldS (mget ((0, some ⟨[(AV.sc (.string a0_0)), a0_1], 37⟩) :: [])) v0) fun v1 =>
exStr v1 fun s2 =>
retL R ((0, some ⟨[(AV.sc (.string a0_0)), a0_1], 37⟩) :: []) [some (boolA ((a0_0).toList == (s2).toList))]
theorem F26_own (a0_0 : ByteArray) (a0_1 : AV) (a1 : AV) (R : AV → Mem → Prop) (h : F26 a0_0 a0_1 a1 R) : Own Try.prog KK.gl 26 [(AV.agg [(AV.sc (.string a0_0)), a0_1]), a1] R := own_of_F fol Try.func26 (code := c26) (by kernel_rfl) (by kernel_rfl) (by kernel_rfl) (X := F26 a0_0 a0_1 a1 R) (by kernel_rfl) h
/- slices.ContainsFunc[[]skyway/api.Sector,skyway/api.Sector] -/
noncomputable def c25 : Code := ((Try.f25).body).getD .skip
noncomputable def q25 (R : AV → Mem → Prop) : AExit → St → Prop := retQ Try.prog Try.f25 R
noncomputable def F25 (a0 : AV) (a1 : AV) (R : AV → Mem → Prop) : Prop :=
callQ Try.prog KK.gl [] 31 [a0, a1] fun v0 =>
ex_i64 v0 fun z1 =>
retL R [] [some (boolA (decide (z1 ≥ (0))))]
theorem F25_own (a0 : AV) (a1 : AV) (R : AV → Mem → Prop) (h : F25 a0 a1 R) : Own Try.prog KK.gl 25 [a0, a1] R := own_of_F fol Try.func25 (code := c25) (by kernel_rfl) (by kernel_rfl) (by kernel_rfl) (X := F25 a0 a1 R) (by kernel_rfl) h
/- skyway/polygon.doubled -/
noncomputable def c49 : Code := ((Try.f49).body).getD .skip
noncomputable def q49 (R : AV → Mem → Prop) : AExit → St → Prop := retQ Try.prog Try.f49 R
noncomputable def c49_0 : Code := loopB c49 0
noncomputable def q49_0 (R : AV → Mem → Prop) : AExit → St → Prop := contW Try.prog KK 24 0 c49 0 (q49 R)
noncomputable def qq49_0 (R : AV → Mem → Prop) (N0 : St → Prop) : AExit → St → Prop := thenQ N0 (q49_0 R)
def h49_0 (t2 : AV) (t3 : AV) (t6 : AV) (t7 : Int) (t8 : Int) (m : Mem) : St := ⟨[(2, t2), (3, t3), (6, t6), (7, (intA t7)), (8, (intA t8))], m, 100000⟩
noncomputable def B49_0 (t2 : AV) (t3 : AV) (t6 : AV) (t7 : Int) (t8 : Int) (m : Mem) (R : AV → Mem → Prop) (N0 : St → Prop) : Prop :=
bif (decide (t8 < t7)) then (
opP (idxS 2 t6 (intA t8)) fun v2 =>
opP (ldA (mget m) 2 v2) fun v3 =>
exA2 v3 fun c4 c5 =>
ex_i64 c4 fun z6 =>
ex_i64 c5 fun z7 =>
opP (bld [(intA (0)), (intA (0))] [(0, 1), (1, 1)] [(0, (intA (IntKind.wrap .i64 ((2) * z6)))), (1, (intA (IntKind.wrap .i64 ((2) * z7))))]) fun v8 =>
opN (bsl 100013 24 2 1 [(intA (0)), (intA (0))] [(0, v8)]) ((100003, some ⟨[(intA z6), (intA z7)], 24⟩) :: (100003, some ⟨[(intA (0)), (intA (0))], 24⟩) :: m) fun v9 m9 =>
opN (app (mget m9) 24 2 16 [(intA (0)), (intA (0))] 100014 t3 v9) m9 fun v10 m10 =>
N0 ⟨[(2, t2), (3, v10), (6, t6), (7, (intA t7)), (8, (intA (IntKind.wrap .i64 (t8 + (1))))), (9, (boolA (decide (t8 < t7)))), (10, v2), (11, (AV.agg [(intA z6), (intA z7)])), (5, (AV.ptr 100003 0)), (12, t3), (13, (AV.ptr 100003 0)), (14, (intA z6)), (15, (intA (IntKind.wrap .i64 ((2) * z6)))), (16, (AV.ptr 100003 1)), (17, (intA z7)), (18, (intA (IntKind.wrap .i64 ((2) * z7)))), (19, v8), (20, v9), (21, v10), (22, (intA (IntKind.wrap .i64 (t8 + (1)))))], m10, 100018⟩) else (
retL R m [some t3])
theorem B49_0_eq (t2 : AV) (t3 : AV) (t6 : AV) (t7 : Int) (t8 : Int) (m : Mem) (R : AV → Mem → Prop) (N0 : St → Prop) : W Try.prog KK 24 0 c49_0 (h49_0 t2 t3 t6 t7 t8 m) (qq49_0 R N0) = B49_0 t2 t3 t6 t7 t8 m R N0 := by kernel_rfl
theorem L49_0 (R : AV → Mem → Prop) {σ : Type} (I : σ → Prop) (t2 : σ → AV) (t3 : σ → AV) (t6 : σ → AV) (t7 : σ → Int) (t8 : σ → Int) (m : σ → Mem) (μ : σ → Nat) (step : ∀ x, I x → B49_0 (t2 x) (t3 x) (t6 x) (t7 x) (t8 x) (m x) R (fun s' => ∃ y, I y ∧ μ y < μ x ∧ Weak KK 24 0 s' (h49_0 (t2 y) (t3 y) (t6 y) (t7 y) (t8 y) (m y)))) (x : σ) (hx : I x) {s : St} (hw : Weak KK 24 0 s (h49_0 (t2 x) (t3 x) (t6 x) (t7 x) (t8 x) (m x))) : Tri Try.prog KK 24 0 (.loop c49_0) s (q49_0 R) :=
  Tri.weak hw (Tri.loops fol I (fun x => h49_0 (t2 x) (t3 x) (t6 x) (t7 x) (t8 x) (m x)) μ (fun x hx => (B49_0_eq (t2 x) (t3 x) (t6 x) (t7 x) (t8 x) (m x) R _).mpr (step x hx)) x hx)
noncomputable def F49 (a0 : AV) (R : AV → Mem → Prop) : Prop :=
opP (lenS a0) fun v0 =>
ex_i64 v0 fun z1 =>
Tri Try.prog KK 24 0 (.loop c49_0) ⟨[(0, a0), (2, AV.nils), (3, AV.nils), (6, a0), (7, (intA z1)), (8, (intA (0)))], [], 5⟩ (q49_0 R)
theorem F49_own (a0 : AV) (R : AV → Mem → Prop) (h : F49 a0 R) : Own Try.prog KK.gl 49 [a0] R := own_of_F fol Try.func49 (code := c49) (by kernel_rfl) (by kernel_rfl) (by kernel_rfl) (X := F49 a0 R) (by kernel_rfl) h
/- skyway/plane.Dot -/
noncomputable def c61 : Code := ((Try.f61).body).getD .skip
noncomputable def q61 (R : AV → Mem → Prop) : AExit → St → Prop := retQ Try.prog Try.f61 R
noncomputable def F61 (a0_0 : Int) (a0_1 : Int) (a1_0 : Int) (a1_1 : Int) (R : AV → Mem → Prop) : Prop :=
retL R ((1, some ⟨[(intA a1_0), (intA a1_1)], 24⟩) :: (0, some ⟨[(intA a0_0), (intA a0_1)], 24⟩) :: []) [some (intA (IntKind.wrap .i64 ((IntKind.wrap .i64 (a0_0 * a1_0)) + (IntKind.wrap .i64 (a0_1 * a1_1)))))]
theorem F61_own (a0_0 : Int) (a0_1 : Int) (a1_0 : Int) (a1_1 : Int) (R : AV → Mem → Prop) (h : F61 a0_0 a0_1 a1_0 a1_1 R) : Own Try.prog KK.gl 61 [(AV.agg [(intA a0_0), (intA a0_1)]), (AV.agg [(intA a1_0), (intA a1_1)])] R := own_of_F fol Try.func61 (code := c61) (by kernel_rfl) (by kernel_rfl) (by kernel_rfl) (X := F61 a0_0 a0_1 a1_0 a1_1 R) (by kernel_rfl) h
/- skyway/plane.Square -/
noncomputable def c60 : Code := ((Try.f60).body).getD .skip
noncomputable def q60 (R : AV → Mem → Prop) : AExit → St → Prop := retQ Try.prog Try.f60 R
noncomputable def F60 (a0_0 : Int) (a0_1 : Int) (a1_0 : Int) (a1_1 : Int) (R : AV → Mem → Prop) : Prop :=
callQ Try.prog KK.gl ((1, some ⟨[(intA a1_0), (intA a1_1)], 24⟩) :: (0, some ⟨[(intA a0_0), (intA a0_1)], 24⟩) :: []) 51 [(AV.agg [(intA a0_0), (intA a0_1)]), (AV.agg [(intA a1_0), (intA a1_1)])] fun v0 =>
exA2 v0 fun c1 c2 =>
ex_i64 c1 fun z3 =>
ex_i64 c2 fun z4 =>
callQ Try.prog KK.gl ((69, some ⟨[(intA z3), (intA z4)], 24⟩) :: (69, some ⟨[(intA (0)), (intA (0))], 24⟩) :: (1, some ⟨[(intA a1_0), (intA a1_1)], 24⟩) :: (0, some ⟨[(intA a0_0), (intA a0_1)], 24⟩) :: []) 61 [(AV.agg [(intA z3), (intA z4)]), (AV.agg [(intA z3), (intA z4)])] fun v5 =>
ex_i64 v5 fun z6 =>
retL R ((69, some ⟨[(intA z3), (intA z4)], 24⟩) :: (69, some ⟨[(intA (0)), (intA (0))], 24⟩) :: (1, some ⟨[(intA a1_0), (intA a1_1)], 24⟩) :: (0, some ⟨[(intA a0_0), (intA a0_1)], 24⟩) :: []) [some (intA z6)]
theorem F60_own (a0_0 : Int) (a0_1 : Int) (a1_0 : Int) (a1_1 : Int) (R : AV → Mem → Prop) (h : F60 a0_0 a0_1 a1_0 a1_1 R) : Own Try.prog KK.gl 60 [(AV.agg [(intA a0_0), (intA a0_1)]), (AV.agg [(intA a1_0), (intA a1_1)])] R := own_of_F fol Try.func60 (code := c60) (by kernel_rfl) (by kernel_rfl) (by kernel_rfl) (X := F60 a0_0 a0_1 a1_0 a1_1 R) (by kernel_rfl) h
/- skyway/polygon.enters$1 -/
noncomputable def c59 : Code := ((Try.f59).body).getD .skip
noncomputable def q59 (R : AV → Mem → Prop) : AExit → St → Prop := retQ Try.prog Try.f59 R
noncomputable def F59 (a0_0 : Int) (a0_1 : Int) (a1_0 : Int) (a1_1 : Int) (a2 : AV) (R : AV → Mem → Prop) : Prop :=
opP (ldA (mget ((1, some ⟨[(intA a1_0), (intA a1_1)], 24⟩) :: (0, some ⟨[(intA a0_0), (intA a0_1)], 24⟩) :: [])) 2 a2) fun v0 =>
exA2 v0 fun c1 c2 =>
ex_i64 c1 fun z3 =>
ex_i64 c2 fun z4 =>
callQ Try.prog KK.gl ((1, some ⟨[(intA a1_0), (intA a1_1)], 24⟩) :: (0, some ⟨[(intA a0_0), (intA a0_1)], 24⟩) :: []) 60 [(AV.agg [(intA z3), (intA z4)]), (AV.agg [(intA a0_0), (intA a0_1)])] fun v5 =>
ex_i64 v5 fun z6 =>
opP (ldA (mget ((1, some ⟨[(intA a1_0), (intA a1_1)], 24⟩) :: (0, some ⟨[(intA a0_0), (intA a0_1)], 24⟩) :: [])) 2 a2) fun v7 =>
exA2 v7 fun c8 c9 =>
ex_i64 c8 fun z10 =>
ex_i64 c9 fun z11 =>
callQ Try.prog KK.gl ((1, some ⟨[(intA a1_0), (intA a1_1)], 24⟩) :: (0, some ⟨[(intA a0_0), (intA a0_1)], 24⟩) :: []) 60 [(AV.agg [(intA z10), (intA z11)]), (AV.agg [(intA a1_0), (intA a1_1)])] fun v12 =>
ex_i64 v12 fun z13 =>
retL R ((1, some ⟨[(intA a1_0), (intA a1_1)], 24⟩) :: (0, some ⟨[(intA a0_0), (intA a0_1)], 24⟩) :: []) [some (intA (IntKind.wrap .i64 (z6 - z13)))]
theorem F59_own (a0_0 : Int) (a0_1 : Int) (a1_0 : Int) (a1_1 : Int) (a2 : AV) (R : AV → Mem → Prop) (h : F59 a0_0 a0_1 a1_0 a1_1 a2 R) : Own Try.prog KK.gl 59 [(AV.agg [(intA a0_0), (intA a0_1)]), (AV.agg [(intA a1_0), (intA a1_1)]), a2] R := own_of_F fol Try.func59 (code := c59) (by kernel_rfl) (by kernel_rfl) (by kernel_rfl) (X := F59 a0_0 a0_1 a1_0 a1_1 a2 R) (by kernel_rfl) h
/- skyway/polygon.enters -/
noncomputable def c50 : Code := ((Try.f50).body).getD .skip
noncomputable def q50 (R : AV → Mem → Prop) : AExit → St → Prop := retQ Try.prog Try.f50 R
noncomputable def c50_0 : Code := loopB c50 0
noncomputable def q50_0 (R : AV → Mem → Prop) : AExit → St → Prop := contW Try.prog KK 127 0 c50 0 (q50 R)
noncomputable def qq50_0 (R : AV → Mem → Prop) (N0 : St → Prop) : AExit → St → Prop := thenQ N0 (q50_0 R)
def h50_0 (t0 : AV) (t1 : AV) (t4 : Bool) (t17 : Int) (t18 : Int) (m : Mem) : St := ⟨[(0, t0), (1, t1), (4, (boolA t4)), (17, (intA t17)), (18, (intA t18))], m, 100000⟩
noncomputable def c50_0_0 : Code := loopB c50_0 0
noncomputable def q50_0_0 (R : AV → Mem → Prop) (N0 : St → Prop) : AExit → St → Prop := contW Try.prog KK 127 0 c50_0 0 (qq50_0 R N0)
noncomputable def qq50_0_0 (R : AV → Mem → Prop) (N0 : St → Prop) (N1 : St → Prop) : AExit → St → Prop := thenQ N1 (q50_0_0 R N0)
def h50_0_0 (t0 : AV) (t1 : AV) (t4 : Bool) (t8 : AV) (t17 : Int) (t18 : Int) (t31 : AV) (t32 : Int) (t33 : Int) (m : Mem) : St := ⟨[(0, t0), (1, t1), (4, (boolA t4)), (6, (AV.ptr 100010 0)), (7, (AV.ptr 100011 0)), (8, t8), (17, (intA t17)), (18, (intA t18)), (31, t31), (32, (intA t32)), (33, (intA t33))], m, 200000⟩
noncomputable def c50_0_1 : Code := loopB c50_0 1
noncomputable def q50_0_1 (R : AV → Mem → Prop) (N0 : St → Prop) : AExit → St → Prop := contW Try.prog KK 127 0 c50_0 1 (qq50_0 R N0)
noncomputable def qq50_0_1 (R : AV → Mem → Prop) (N0 : St → Prop) (N1 : St → Prop) : AExit → St → Prop := thenQ N1 (q50_0_1 R N0)
def h50_0_1 (t0 : AV) (t1 : AV) (t4 : Bool) (t8 : AV) (t11 : Int) (t17 : Int) (t18 : Int) (m : Mem) : St := ⟨[(0, t0), (1, t1), (4, (boolA t4)), (6, (AV.ptr 100010 0)), (7, (AV.ptr 100011 0)), (8, t8), (11, (intA t11)), (17, (intA t17)), (18, (intA t18))], m, 300000⟩
noncomputable def c50_0_1_0 : Code := loopB c50_0_1 0
noncomputable def q50_0_1_0 (R : AV → Mem → Prop) (N0 : St → Prop) (N1 : St → Prop) : AExit → St → Prop := contW Try.prog KK 127 0 c50_0_1 0 (qq50_0_1 R N0 N1)
noncomputable def qq50_0_1_0 (R : AV → Mem → Prop) (N0 : St → Prop) (N1 : St → Prop) (N2 : St → Prop) : AExit → St → Prop := thenQ N2 (q50_0_1_0 R N0 N1)
def h50_0_1_0 (t0 : AV) (t1 : AV) (t4 : Bool) (t8 : AV) (t11 : Int) (t17 : Int) (t18 : Int) (t100 : Int) (t101 : Int) (m : Mem) : St := ⟨[(0, t0), (1, t1), (4, (boolA t4)), (6, (AV.ptr 100010 0)), (7, (AV.ptr 100011 0)), (8, t8), (11, (intA t11)), (12, (AV.ptr 300041 0)), (17, (intA t17)), (18, (intA t18)), (100, (intA t100)), (101, (intA t101))], m, 400000⟩
noncomputable def B50_0 (t0 : AV) (t1 : AV) (t4 : Bool) (t17 : Int) (t18 : Int) (m : Mem) (R : AV → Mem → Prop) (N0 : St → Prop) : Prop :=
bif (decide (t18 < t17)) then (
opM (idxS 2 t0 (intA t18)) fun v2 d2 =>
opM (ldA (look' (mpushs m d2) (topId v2 ++ ([]))) 2 v2) fun v3 d3 =>
exA2 v3 fun c4 c5 =>
ex_i64 c4 fun z6 =>
ex_i64 c5 fun z7 =>
callF Try.prog KK.gl (mpushs (mpushs m d2) d3) 100009 39 [t0, (intA t18)] fun v8 d8 ft8 =>
exA2 v8 fun c9 c10 =>
ex_i64 c9 fun z11 =>
ex_i64 c10 fun z12 =>
storeW Try.prog (look' ((100011, some ⟨[(intA (0)), (intA (0))], 24⟩) :: (100010, some ⟨[(intA (0)), (intA (0))], 24⟩) :: (mpushs (mpushs (mpushs m d2) d3) d8)) (topId (AV.ptr 100010 0) ++ (topId (AV.agg [(intA z6), (intA z7)]) ++ ([])))) 24 (AV.ptr 100010 0) (AV.agg [(intA z6), (intA z7)]) fun v13 d13 =>
storeW Try.prog (look' (mpushs ((100011, some ⟨[(intA (0)), (intA (0))], 24⟩) :: (100010, some ⟨[(intA (0)), (intA (0))], 24⟩) :: (mpushs (mpushs (mpushs m d2) d3) d8)) d13) (topId (AV.ptr 100011 0) ++ (topId (AV.agg [(intA z11), (intA z12)]) ++ ([])))) 24 (AV.ptr 100011 0) (AV.agg [(intA z11), (intA z12)]) fun v14 d14 =>
chk (confOk [0, 0, 3, 7, 0, 0, 48, 0, 0, 511, 1023] [⟨[], []⟩, ⟨[], []⟩, ⟨d2, []⟩, ⟨d3, (topId v2 ++ ([]))⟩, ⟨[], []⟩, ⟨[], []⟩, ⟨d8, ft8⟩, ⟨[(100010, some ⟨[(intA (0)), (intA (0))], 24⟩)], []⟩, ⟨[(100011, some ⟨[(intA (0)), (intA (0))], 24⟩)], []⟩, ⟨d13, (topId (AV.ptr 100010 0) ++ (topId (AV.agg [(intA z6), (intA z7)]) ++ ([])))⟩, ⟨d14, (topId (AV.ptr 100011 0) ++ (topId (AV.agg [(intA z11), (intA z12)]) ++ ([])))⟩]) (opP (ldA (mget (mpushs (mpushs ((100011, some ⟨[(intA (0)), (intA (0))], 24⟩) :: (100010, some ⟨[(intA (0)), (intA (0))], 24⟩) :: (mpushs (mpushs (mpushs m d2) d3) d8)) d13) d14)) 2 (AV.ptr 100010 0)) fun v15 =>
exA2 v15 fun c16 c17 =>
ex_i64 c16 fun z18 =>
ex_i64 c17 fun z19 =>
opP (ldA (mget (mpushs (mpushs ((100011, some ⟨[(intA (0)), (intA (0))], 24⟩) :: (100010, some ⟨[(intA (0)), (intA (0))], 24⟩) :: (mpushs (mpushs (mpushs m d2) d3) d8)) d13) d14)) 2 (AV.ptr 100011 0)) fun v20 =>
exA2 v20 fun c21 c22 =>
ex_i64 c21 fun z23 =>
ex_i64 c22 fun z24 =>
opN (bsl 100016 24 2 2 [(intA (0)), (intA (0))] [(0, (AV.agg [(intA z18), (intA z19)])), (1, (AV.agg [(intA z23), (intA z24)]))]) (mpushs (mpushs ((100011, some ⟨[(intA (0)), (intA (0))], 24⟩) :: (100010, some ⟨[(intA (0)), (intA (0))], 24⟩) :: (mpushs (mpushs (mpushs m d2) d3) d8)) d13) d14) fun v25 m25 =>
opP (lenS t1) fun v26 =>
ex_i64 v26 fun z27 =>
Tri Try.prog KK 127 0 (.loop c50_0_0) ⟨[(0, t0), (1, t1), (4, (boolA t4)), (17, (intA t17)), (18, (intA t18)), (19, (boolA (decide (t18 < t17)))), (20, (intA t18)), (5, (intA t18)), (21, t0), (22, (intA t18)), (23, v2), (24, (AV.agg [(intA z6), (intA z7)])), (25, t0), (26, (intA t18)), (27, (AV.agg [(intA z11), (intA z12)])), (6, (AV.ptr 100010 0)), (7, (AV.ptr 100011 0)), (28, (AV.agg [(intA z18), (intA z19)])), (29, (AV.agg [(intA z23), (intA z24)])), (30, v25), (8, v25), (31, t1), (32, (intA z27)), (33, (intA (0)))], m25, 100021⟩ (q50_0_0 R N0))) else (
retL R m [some (boolA false)])
theorem B50_0_eq (t0 : AV) (t1 : AV) (t4 : Bool) (t17 : Int) (t18 : Int) (m : Mem) (R : AV → Mem → Prop) (N0 : St → Prop) : W Try.prog KK 127 0 c50_0 (h50_0 t0 t1 t4 t17 t18 m) (qq50_0 R N0) = B50_0 t0 t1 t4 t17 t18 m R N0 := by kernel_rfl
theorem L50_0 (R : AV → Mem → Prop) {σ : Type} (I : σ → Prop) (t0 : σ → AV) (t1 : σ → AV) (t4 : σ → Bool) (t17 : σ → Int) (t18 : σ → Int) (m : σ → Mem) (μ : σ → Nat) (step : ∀ x, I x → B50_0 (t0 x) (t1 x) (t4 x) (t17 x) (t18 x) (m x) R (fun s' => ∃ y, I y ∧ μ y < μ x ∧ Weak KK 127 0 s' (h50_0 (t0 y) (t1 y) (t4 y) (t17 y) (t18 y) (m y)))) (x : σ) (hx : I x) {s : St} (hw : Weak KK 127 0 s (h50_0 (t0 x) (t1 x) (t4 x) (t17 x) (t18 x) (m x))) : Tri Try.prog KK 127 0 (.loop c50_0) s (q50_0 R) :=
  Tri.weak hw (Tri.loops fol I (fun x => h50_0 (t0 x) (t1 x) (t4 x) (t17 x) (t18 x) (m x)) μ (fun x hx => (B50_0_eq (t0 x) (t1 x) (t4 x) (t17 x) (t18 x) (m x) R _).mpr (step x hx)) x hx)
noncomputable def B50_0_0 (t0 : AV) (t1 : AV) (t4 : Bool) (t8 : AV) (t17 : Int) (t18 : Int) (t31 : AV) (t32 : Int) (t33 : Int) (m : Mem) (R : AV → Mem → Prop) (N0 : St → Prop) (N1 : St → Prop) : Prop :=
bif (decide (t33 < t32)) then (
opP (idxS 2 t31 (intA t33)) fun v28 =>
opP (ldA (mget m) 2 v28) fun v29 =>
exA2 v29 fun c30 c31 =>
ex_i64 c30 fun z32 =>
ex_i64 c31 fun z33 =>
opP (ldA (mget ((200003, some ⟨[(intA z32), (intA z33)], 24⟩) :: (200003, some ⟨[(intA (0)), (intA (0))], 24⟩) :: m)) 2 (AV.ptr 100010 0)) fun v34 =>
exA2 v34 fun c35 c36 =>
ex_i64 c35 fun z37 =>
ex_i64 c36 fun z38 =>
opP (ldA (mget ((200003, some ⟨[(intA z32), (intA z33)], 24⟩) :: (200003, some ⟨[(intA (0)), (intA (0))], 24⟩) :: m)) 2 (AV.ptr 100011 0)) fun v39 =>
exA2 v39 fun c40 c41 =>
ex_i64 c40 fun z42 =>
ex_i64 c41 fun z43 =>
callQ Try.prog KK.gl ((200003, some ⟨[(intA z32), (intA z33)], 24⟩) :: (200003, some ⟨[(intA (0)), (intA (0))], 24⟩) :: m) 52 [(AV.agg [(intA z37), (intA z38)]), (AV.agg [(intA z42), (intA z43)]), (AV.agg [(intA z32), (intA z33)])] fun v44 =>
exB v44 fun b45 =>
bif b45 then (
opN (bsl 200074 24 2 1 [(intA (0)), (intA (0))] [(0, (AV.agg [(intA z32), (intA z33)]))]) ((200003, some ⟨[(intA z32), (intA z33)], 24⟩) :: (200003, some ⟨[(intA (0)), (intA (0))], 24⟩) :: m) fun v46 m46 =>
opN (app (mget m46) 24 2 16 [(intA (0)), (intA (0))] 200075 t8 v46) m46 fun v47 m47 =>
N1 ⟨[(0, t0), (1, t1), (4, (boolA t4)), (6, (AV.ptr 100010 0)), (7, (AV.ptr 100011 0)), (8, v47), (17, (intA t17)), (18, (intA t18)), (31, t31), (32, (intA t32)), (33, (intA (IntKind.wrap .i64 (t33 + (1))))), (34, (boolA (decide (t33 < t32)))), (35, v28), (36, (AV.agg [(intA z32), (intA z33)])), (10, (AV.ptr 200003 0)), (37, (AV.agg [(intA z37), (intA z38)])), (38, (AV.agg [(intA z42), (intA z43)])), (39, (AV.agg [(intA z32), (intA z33)])), (40, (boolA b45)), (41, t8), (42, (AV.agg [(intA z32), (intA z33)])), (43, v46), (44, v47), (45, (intA (IntKind.wrap .i64 (t33 + (1)))))], m47, 200079⟩) else (
N1 ⟨[(0, t0), (1, t1), (4, (boolA t4)), (6, (AV.ptr 100010 0)), (7, (AV.ptr 100011 0)), (8, t8), (17, (intA t17)), (18, (intA t18)), (31, t31), (32, (intA t32)), (33, (intA (IntKind.wrap .i64 (t33 + (1))))), (34, (boolA (decide (t33 < t32)))), (35, v28), (36, (AV.agg [(intA z32), (intA z33)])), (10, (AV.ptr 200003 0)), (37, (AV.agg [(intA z37), (intA z38)])), (38, (AV.agg [(intA z42), (intA z43)])), (39, (AV.agg [(intA z32), (intA z33)])), (40, (boolA b45)), (45, (intA (IntKind.wrap .i64 (t33 + (1)))))], ((200003, some ⟨[(intA z32), (intA z33)], 24⟩) :: (200003, some ⟨[(intA (0)), (intA (0))], 24⟩) :: m), 200074⟩)) else (
callW Try.prog KK.gl m 200003 58 [t8, (AV.fn 59 [(AV.ptr 100010 0)])] fun v48 m48 =>
exT0 v48 <|
Tri Try.prog KK 127 0 (.loop c50_0_1) ⟨[(0, t0), (1, t1), (4, (boolA t4)), (6, (AV.ptr 100010 0)), (7, (AV.ptr 100011 0)), (8, t8), (17, (intA t17)), (18, (intA t18)), (31, t31), (32, (intA t32)), (33, (intA t33)), (34, (boolA (decide (t33 < t32)))), (46, t8), (47, (AV.fn 59 [(AV.ptr 100010 0)])), (48, (AV.tup [])), (11, (intA (1)))], m48, 200068⟩ (q50_0_1 R N0))
theorem B50_0_0_eq (t0 : AV) (t1 : AV) (t4 : Bool) (t8 : AV) (t17 : Int) (t18 : Int) (t31 : AV) (t32 : Int) (t33 : Int) (m : Mem) (R : AV → Mem → Prop) (N0 : St → Prop) (N1 : St → Prop) : W Try.prog KK 127 0 c50_0_0 (h50_0_0 t0 t1 t4 t8 t17 t18 t31 t32 t33 m) (qq50_0_0 R N0 N1) = B50_0_0 t0 t1 t4 t8 t17 t18 t31 t32 t33 m R N0 N1 := by kernel_rfl
theorem L50_0_0 (R : AV → Mem → Prop) (N0 : St → Prop) {σ : Type} (I : σ → Prop) (t0 : σ → AV) (t1 : σ → AV) (t4 : σ → Bool) (t8 : σ → AV) (t17 : σ → Int) (t18 : σ → Int) (t31 : σ → AV) (t32 : σ → Int) (t33 : σ → Int) (m : σ → Mem) (μ : σ → Nat) (step : ∀ x, I x → B50_0_0 (t0 x) (t1 x) (t4 x) (t8 x) (t17 x) (t18 x) (t31 x) (t32 x) (t33 x) (m x) R N0 (fun s' => ∃ y, I y ∧ μ y < μ x ∧ Weak KK 127 0 s' (h50_0_0 (t0 y) (t1 y) (t4 y) (t8 y) (t17 y) (t18 y) (t31 y) (t32 y) (t33 y) (m y)))) (x : σ) (hx : I x) {s : St} (hw : Weak KK 127 0 s (h50_0_0 (t0 x) (t1 x) (t4 x) (t8 x) (t17 x) (t18 x) (t31 x) (t32 x) (t33 x) (m x))) : Tri Try.prog KK 127 0 (.loop c50_0_0) s (q50_0_0 R N0) :=
  Tri.weak hw (Tri.loops fol I (fun x => h50_0_0 (t0 x) (t1 x) (t4 x) (t8 x) (t17 x) (t18 x) (t31 x) (t32 x) (t33 x) (m x)) μ (fun x hx => (B50_0_0_eq (t0 x) (t1 x) (t4 x) (t8 x) (t17 x) (t18 x) (t31 x) (t32 x) (t33 x) (m x) R N0 _).mpr (step x hx)) x hx)
noncomputable def B50_0_1 (t0 : AV) (t1 : AV) (t4 : Bool) (t8 : AV) (t11 : Int) (t17 : Int) (t18 : Int) (m : Mem) (R : AV → Mem → Prop) (N0 : St → Prop) (N1 : St → Prop) : Prop :=
opP (lenS t8) fun v49 =>
ex_i64 v49 fun z50 =>
bif (decide (t11 < z50)) then (
opP (idxS 2 t8 (intA t11)) fun v51 =>
opP (ldA (mget m) 2 v51) fun v52 =>
exA2 v52 fun c53 c54 =>
ex_i64 c53 fun z55 =>
ex_i64 c54 fun z56 =>
opP (idxS 2 t8 (intA (IntKind.wrap .i64 (t11 - (1))))) fun v57 =>
opP (ldA (mget m) 2 v57) fun v58 =>
exA2 v58 fun c59 c60 =>
ex_i64 c59 fun z61 =>
ex_i64 c60 fun z62 =>
opP (opA Try.prog (.binOp .eql 24 (.tmp 0) (.tmp 1) 24) 4 [(AV.agg [(intA z55), (intA z56)]), (AV.agg [(intA z61), (intA z62)])] (mget m) 300013) fun v63 =>
exB v63 fun b64 =>
bif b64 then (
N1 ⟨[(0, t0), (1, t1), (4, (boolA t4)), (6, (AV.ptr 100010 0)), (7, (AV.ptr 100011 0)), (8, t8), (11, (intA (IntKind.wrap .i64 (t11 + (1))))), (17, (intA t17)), (18, (intA t18)), (49, (intA t11)), (50, t8), (51, (intA z50)), (52, (boolA (decide (t11 < z50)))), (55, t8), (56, (intA t11)), (57, v51), (58, (AV.agg [(intA z55), (intA z56)])), (59, t8), (60, (intA t11)), (61, (intA (IntKind.wrap .i64 (t11 - (1))))), (62, v57), (63, (AV.agg [(intA z61), (intA z62)])), (64, (boolA b64)), (53, (intA t11)), (54, (intA (IntKind.wrap .i64 (t11 + (1)))))], m, 300017⟩) else (
opM (idxS 2 t8 (intA t11)) fun v65 d65 =>
opM (fldO 0 v65) fun v66 d66 =>
opM (ldS (look' (mpushs (mpushs m d65) d66) (topId v66 ++ ([]))) v66) fun v67 d67 =>
ex_i64 v67 fun z68 =>
opM (idxS 2 t8 (intA (IntKind.wrap .i64 (t11 - (1))))) fun v69 d69 =>
opM (fldO 0 v69) fun v70 d70 =>
opM (ldS (look' (mpushs (mpushs (mpushs (mpushs (mpushs m d65) d66) d67) d69) d70) (topId v70 ++ ([]))) v70) fun v71 d71 =>
ex_i64 v71 fun z72 =>
opM (idxS 2 t8 (intA t11)) fun v73 d73 =>
opM (fldO 1 v73) fun v74 d74 =>
opM (ldS (look' (mpushs (mpushs (mpushs (mpushs (mpushs (mpushs (mpushs (mpushs m d65) d66) d67) d69) d70) d71) d73) d74) (topId v74 ++ ([]))) v74) fun v75 d75 =>
ex_i64 v75 fun z76 =>
opM (idxS 2 t8 (intA (IntKind.wrap .i64 (t11 - (1))))) fun v77 d77 =>
opM (fldO 1 v77) fun v78 d78 =>
opM (ldS (look' (mpushs (mpushs (mpushs (mpushs (mpushs (mpushs (mpushs (mpushs (mpushs (mpushs (mpushs m d65) d66) d67) d69) d70) d71) d73) d74) d75) d77) d78) (topId v78 ++ ([]))) v78) fun v79 d79 =>
ex_i64 v79 fun z80 =>
opM (bld [(intA (0)), (intA (0))] [(0, 1), (1, 1)] [(0, (intA (IntKind.wrap .i64 (Int.tdiv (IntKind.wrap .i64 (z68 + z72)) (2))))), (1, (intA (IntKind.wrap .i64 (Int.tdiv (IntKind.wrap .i64 (z76 + z80)) (2)))))]) fun v81 d81 =>
storeW Try.prog (look' ((300041, some ⟨[(intA (0)), (intA (0))], 24⟩) :: (mpushs (mpushs (mpushs (mpushs (mpushs (mpushs (mpushs (mpushs (mpushs (mpushs (mpushs (mpushs (mpushs m d65) d66) d67) d69) d70) d71) d73) d74) d75) d77) d78) d79) d81)) (topId (AV.ptr 300041 0) ++ (topId v81 ++ ([])))) 24 (AV.ptr 300041 0) v81 fun v82 d82 =>
chk (confOk [0, 0, 3, 7, 15, 0, 0, 64, 224, 480, 992, 2047, 4095, 0, 0, 24576, 57344, 122880, 0, 0, 524288, 1835008, 3932160, 8126464, 16769024, 33546240, 67108863, 0, 268435455] [⟨[], []⟩, ⟨[], []⟩, ⟨d65, []⟩, ⟨d66, []⟩, ⟨d67, (topId v66 ++ ([]))⟩, ⟨[], []⟩, ⟨[], []⟩, ⟨[], []⟩, ⟨d69, []⟩, ⟨d70, []⟩, ⟨d71, (topId v70 ++ ([]))⟩, ⟨[], []⟩, ⟨[], []⟩, ⟨[], []⟩, ⟨[], []⟩, ⟨d73, []⟩, ⟨d74, []⟩, ⟨d75, (topId v74 ++ ([]))⟩, ⟨[], []⟩, ⟨[], []⟩, ⟨[], []⟩, ⟨d77, []⟩, ⟨d78, []⟩, ⟨d79, (topId v78 ++ ([]))⟩, ⟨[], []⟩, ⟨[], []⟩, ⟨d81, []⟩, ⟨[(300041, some ⟨[(intA (0)), (intA (0))], 24⟩)], []⟩, ⟨d82, (topId (AV.ptr 300041 0) ++ (topId v81 ++ ([])))⟩]) (opP (ldA (mget (mpushs ((300041, some ⟨[(intA (0)), (intA (0))], 24⟩) :: (mpushs (mpushs (mpushs (mpushs (mpushs (mpushs (mpushs (mpushs (mpushs (mpushs (mpushs (mpushs (mpushs m d65) d66) d67) d69) d70) d71) d73) d74) d75) d77) d78) d79) d81)) d82)) 2 (AV.ptr 300041 0)) fun v83 =>
exA2 v83 fun c84 c85 =>
ex_i64 c84 fun z86 =>
ex_i64 c85 fun z87 =>
callQ Try.prog KK.gl (mpushs ((300041, some ⟨[(intA (0)), (intA (0))], 24⟩) :: (mpushs (mpushs (mpushs (mpushs (mpushs (mpushs (mpushs (mpushs (mpushs (mpushs (mpushs (mpushs (mpushs m d65) d66) d67) d69) d70) d71) d73) d74) d75) d77) d78) d79) d81)) d82) 43 [t1, (AV.agg [(intA z86), (intA z87)])] fun v88 =>
ex_i64 v88 fun z89 =>
bif (z89 == (1)) then (
retL R (mpushs ((300041, some ⟨[(intA (0)), (intA (0))], 24⟩) :: (mpushs (mpushs (mpushs (mpushs (mpushs (mpushs (mpushs (mpushs (mpushs (mpushs (mpushs (mpushs (mpushs m d65) d66) d67) d69) d70) d71) d73) d74) d75) d77) d78) d79) d81)) d82) [some (boolA true)]) else (
bif (z89 == (0)) then (
opP (lenS t1) fun v90 =>
ex_i64 v90 fun z91 =>
Tri Try.prog KK 127 0 (.loop c50_0_1_0) ⟨[(0, t0), (1, t1), (4, (boolA t4)), (6, (AV.ptr 100010 0)), (7, (AV.ptr 100011 0)), (8, t8), (11, (intA t11)), (17, (intA t17)), (18, (intA t18)), (49, (intA t11)), (50, t8), (51, (intA z50)), (52, (boolA (decide (t11 < z50)))), (55, t8), (56, (intA t11)), (57, v51), (58, (AV.agg [(intA z55), (intA z56)])), (59, t8), (60, (intA t11)), (61, (intA (IntKind.wrap .i64 (t11 - (1))))), (62, v57), (63, (AV.agg [(intA z61), (intA z62)])), (64, (boolA b64)), (65, t8), (66, (intA t11)), (67, v65), (68, v66), (69, (intA z68)), (70, t8), (71, (intA t11)), (72, (intA (IntKind.wrap .i64 (t11 - (1))))), (73, v69), (74, v70), (75, (intA z72)), (76, (intA (IntKind.wrap .i64 (z68 + z72)))), (77, (intA (IntKind.wrap .i64 (Int.tdiv (IntKind.wrap .i64 (z68 + z72)) (2))))), (78, t8), (79, (intA t11)), (80, v73), (81, v74), (82, (intA z76)), (83, t8), (84, (intA t11)), (85, (intA (IntKind.wrap .i64 (t11 - (1))))), (86, v77), (87, v78), (88, (intA z80)), (89, (intA (IntKind.wrap .i64 (z76 + z80)))), (90, (intA (IntKind.wrap .i64 (Int.tdiv (IntKind.wrap .i64 (z76 + z80)) (2))))), (91, v81), (12, (AV.ptr 300041 0)), (92, t1), (93, (AV.agg [(intA z86), (intA z87)])), (94, (intA z89)), (96, (boolA (z89 == (1)))), (95, (boolA (z89 == (1)))), (98, (boolA (z89 == (0)))), (97, (boolA (z89 == (0)))), (99, t1), (100, (intA z91)), (101, (intA (0)))], (mpushs ((300041, some ⟨[(intA (0)), (intA (0))], 24⟩) :: (mpushs (mpushs (mpushs (mpushs (mpushs (mpushs (mpushs (mpushs (mpushs (mpushs (mpushs (mpushs (mpushs m d65) d66) d67) d69) d70) d71) d73) d74) d75) d77) d78) d79) d81)) d82), 300116⟩ (q50_0_1_0 R N0 N1)) else (
N1 ⟨[(0, t0), (1, t1), (4, (boolA t4)), (6, (AV.ptr 100010 0)), (7, (AV.ptr 100011 0)), (8, t8), (11, (intA (IntKind.wrap .i64 (t11 + (1))))), (17, (intA t17)), (18, (intA t18)), (49, (intA t11)), (50, t8), (51, (intA z50)), (52, (boolA (decide (t11 < z50)))), (55, t8), (56, (intA t11)), (57, v51), (58, (AV.agg [(intA z55), (intA z56)])), (59, t8), (60, (intA t11)), (61, (intA (IntKind.wrap .i64 (t11 - (1))))), (62, v57), (63, (AV.agg [(intA z61), (intA z62)])), (64, (boolA b64)), (65, t8), (66, (intA t11)), (67, v65), (68, v66), (69, (intA z68)), (70, t8), (71, (intA t11)), (72, (intA (IntKind.wrap .i64 (t11 - (1))))), (73, v69), (74, v70), (75, (intA z72)), (76, (intA (IntKind.wrap .i64 (z68 + z72)))), (77, (intA (IntKind.wrap .i64 (Int.tdiv (IntKind.wrap .i64 (z68 + z72)) (2))))), (78, t8), (79, (intA t11)), (80, v73), (81, v74), (82, (intA z76)), (83, t8), (84, (intA t11)), (85, (intA (IntKind.wrap .i64 (t11 - (1))))), (86, v77), (87, v78), (88, (intA z80)), (89, (intA (IntKind.wrap .i64 (z76 + z80)))), (90, (intA (IntKind.wrap .i64 (Int.tdiv (IntKind.wrap .i64 (z76 + z80)) (2))))), (91, v81), (12, (AV.ptr 300041 0)), (92, t1), (93, (AV.agg [(intA z86), (intA z87)])), (94, (intA z89)), (96, (boolA (z89 == (1)))), (95, (boolA (z89 == (1)))), (98, (boolA (z89 == (0)))), (97, (boolA (z89 == (0)))), (53, (intA t11)), (54, (intA (IntKind.wrap .i64 (t11 + (1)))))], (mpushs ((300041, some ⟨[(intA (0)), (intA (0))], 24⟩) :: (mpushs (mpushs (mpushs (mpushs (mpushs (mpushs (mpushs (mpushs (mpushs (mpushs (mpushs (mpushs (mpushs m d65) d66) d67) d69) d70) d71) d73) d74) d75) d77) d78) d79) d81)) d82), 300116⟩))))) else (
N0 ⟨[(0, t0), (1, t1), (4, (boolA t4)), (6, (AV.ptr 100010 0)), (7, (AV.ptr 100011 0)), (8, t8), (11, (intA t11)), (17, (intA t17)), (18, (intA (IntKind.wrap .i64 (t18 + (1))))), (49, (intA t11)), (50, t8), (51, (intA z50)), (52, (boolA (decide (t11 < z50)))), (126, (intA (IntKind.wrap .i64 (t18 + (1)))))], m, 300006⟩)
theorem B50_0_1_eq (t0 : AV) (t1 : AV) (t4 : Bool) (t8 : AV) (t11 : Int) (t17 : Int) (t18 : Int) (m : Mem) (R : AV → Mem → Prop) (N0 : St → Prop) (N1 : St → Prop) : W Try.prog KK 127 0 c50_0_1 (h50_0_1 t0 t1 t4 t8 t11 t17 t18 m) (qq50_0_1 R N0 N1) = B50_0_1 t0 t1 t4 t8 t11 t17 t18 m R N0 N1 := by kernel_rfl
theorem L50_0_1 (R : AV → Mem → Prop) (N0 : St → Prop) {σ : Type} (I : σ → Prop) (t0 : σ → AV) (t1 : σ → AV) (t4 : σ → Bool) (t8 : σ → AV) (t11 : σ → Int) (t17 : σ → Int) (t18 : σ → Int) (m : σ → Mem) (μ : σ → Nat) (step : ∀ x, I x → B50_0_1 (t0 x) (t1 x) (t4 x) (t8 x) (t11 x) (t17 x) (t18 x) (m x) R N0 (fun s' => ∃ y, I y ∧ μ y < μ x ∧ Weak KK 127 0 s' (h50_0_1 (t0 y) (t1 y) (t4 y) (t8 y) (t11 y) (t17 y) (t18 y) (m y)))) (x : σ) (hx : I x) {s : St} (hw : Weak KK 127 0 s (h50_0_1 (t0 x) (t1 x) (t4 x) (t8 x) (t11 x) (t17 x) (t18 x) (m x))) : Tri Try.prog KK 127 0 (.loop c50_0_1) s (q50_0_1 R N0) :=
  Tri.weak hw (Tri.loops fol I (fun x => h50_0_1 (t0 x) (t1 x) (t4 x) (t8 x) (t11 x) (t17 x) (t18 x) (m x)) μ (fun x hx => (B50_0_1_eq (t0 x) (t1 x) (t4 x) (t8 x) (t11 x) (t17 x) (t18 x) (m x) R N0 _).mpr (step x hx)) x hx)
noncomputable def B50_0_1_0 (t0 : AV) (t1 : AV) (t4 : Bool) (t8 : AV) (t11 : Int) (t17 : Int) (t18 : Int) (t100 : Int) (t101 : Int) (m : Mem) (R : AV → Mem → Prop) (N0 : St → Prop) (N1 : St → Prop) (N2 : St → Prop) : Prop :=
bif (decide (t101 < t100)) then (
opM (idxS 2 t1 (intA t101)) fun v92 d92 =>
opM (ldA (look' (mpushs m d92) (topId v92 ++ ([]))) 2 v92) fun v93 d93 =>
exA2 v93 fun c94 c95 =>
ex_i64 c94 fun z96 =>
ex_i64 c95 fun z97 =>
callF Try.prog KK.gl (mpushs (mpushs m d92) d93) 400009 39 [t1, (intA t101)] fun v98 d98 ft98 =>
exA2 v98 fun c99 c100 =>
ex_i64 c99 fun z101 =>
ex_i64 c100 fun z102 =>
storeW Try.prog (look' ((400011, some ⟨[(intA (0)), (intA (0))], 24⟩) :: (400010, some ⟨[(intA (0)), (intA (0))], 24⟩) :: (mpushs (mpushs (mpushs m d92) d93) d98)) (topId (AV.ptr 400010 0) ++ (topId (AV.agg [(intA z96), (intA z97)]) ++ ([])))) 24 (AV.ptr 400010 0) (AV.agg [(intA z96), (intA z97)]) fun v103 d103 =>
storeW Try.prog (look' (mpushs ((400011, some ⟨[(intA (0)), (intA (0))], 24⟩) :: (400010, some ⟨[(intA (0)), (intA (0))], 24⟩) :: (mpushs (mpushs (mpushs m d92) d93) d98)) d103) (topId (AV.ptr 400011 0) ++ (topId (AV.agg [(intA z101), (intA z102)]) ++ ([])))) 24 (AV.ptr 400011 0) (AV.agg [(intA z101), (intA z102)]) fun v104 d104 =>
chk (confOk [0, 0, 3, 7, 0, 0, 48, 0, 0, 511, 1023] [⟨[], []⟩, ⟨[], []⟩, ⟨d92, []⟩, ⟨d93, (topId v92 ++ ([]))⟩, ⟨[], []⟩, ⟨[], []⟩, ⟨d98, ft98⟩, ⟨[(400010, some ⟨[(intA (0)), (intA (0))], 24⟩)], []⟩, ⟨[(400011, some ⟨[(intA (0)), (intA (0))], 24⟩)], []⟩, ⟨d103, (topId (AV.ptr 400010 0) ++ (topId (AV.agg [(intA z96), (intA z97)]) ++ ([])))⟩, ⟨d104, (topId (AV.ptr 400011 0) ++ (topId (AV.agg [(intA z101), (intA z102)]) ++ ([])))⟩]) (opP (ldA (mget (mpushs (mpushs ((400011, some ⟨[(intA (0)), (intA (0))], 24⟩) :: (400010, some ⟨[(intA (0)), (intA (0))], 24⟩) :: (mpushs (mpushs (mpushs m d92) d93) d98)) d103) d104)) 2 (AV.ptr 400010 0)) fun v105 =>
exA2 v105 fun c106 c107 =>
ex_i64 c106 fun z108 =>
ex_i64 c107 fun z109 =>
opP (ldA (mget (mpushs (mpushs ((400011, some ⟨[(intA (0)), (intA (0))], 24⟩) :: (400010, some ⟨[(intA (0)), (intA (0))], 24⟩) :: (mpushs (mpushs (mpushs m d92) d93) d98)) d103) d104)) 2 (AV.ptr 400011 0)) fun v110 =>
exA2 v110 fun c111 c112 =>
ex_i64 c111 fun z113 =>
ex_i64 c112 fun z114 =>
opP (ldA (mget (mpushs (mpushs ((400011, some ⟨[(intA (0)), (intA (0))], 24⟩) :: (400010, some ⟨[(intA (0)), (intA (0))], 24⟩) :: (mpushs (mpushs (mpushs m d92) d93) d98)) d103) d104)) 2 (AV.ptr 300041 0)) fun v115 =>
exA2 v115 fun c116 c117 =>
ex_i64 c116 fun z118 =>
ex_i64 c117 fun z119 =>
callQ Try.prog KK.gl (mpushs (mpushs ((400011, some ⟨[(intA (0)), (intA (0))], 24⟩) :: (400010, some ⟨[(intA (0)), (intA (0))], 24⟩) :: (mpushs (mpushs (mpushs m d92) d93) d98)) d103) d104) 52 [(AV.agg [(intA z108), (intA z109)]), (AV.agg [(intA z113), (intA z114)]), (AV.agg [(intA z118), (intA z119)])] fun v120 =>
exB v120 fun b121 =>
bif b121 then (
opP (ldA (mget (mpushs (mpushs ((400011, some ⟨[(intA (0)), (intA (0))], 24⟩) :: (400010, some ⟨[(intA (0)), (intA (0))], 24⟩) :: (mpushs (mpushs (mpushs m d92) d93) d98)) d103) d104)) 2 (AV.ptr 100011 0)) fun v122 =>
exA2 v122 fun c123 c124 =>
ex_i64 c123 fun z125 =>
ex_i64 c124 fun z126 =>
opP (ldA (mget (mpushs (mpushs ((400011, some ⟨[(intA (0)), (intA (0))], 24⟩) :: (400010, some ⟨[(intA (0)), (intA (0))], 24⟩) :: (mpushs (mpushs (mpushs m d92) d93) d98)) d103) d104)) 2 (AV.ptr 100010 0)) fun v127 =>
exA2 v127 fun c128 c129 =>
ex_i64 c128 fun z130 =>
ex_i64 c129 fun z131 =>
callQ Try.prog KK.gl (mpushs (mpushs ((400011, some ⟨[(intA (0)), (intA (0))], 24⟩) :: (400010, some ⟨[(intA (0)), (intA (0))], 24⟩) :: (mpushs (mpushs (mpushs m d92) d93) d98)) d103) d104) 51 [(AV.agg [(intA z125), (intA z126)]), (AV.agg [(intA z130), (intA z131)])] fun v132 =>
exA2 v132 fun c133 c134 =>
ex_i64 c133 fun z135 =>
ex_i64 c134 fun z136 =>
opP (ldA (mget (mpushs (mpushs ((400011, some ⟨[(intA (0)), (intA (0))], 24⟩) :: (400010, some ⟨[(intA (0)), (intA (0))], 24⟩) :: (mpushs (mpushs (mpushs m d92) d93) d98)) d103) d104)) 2 (AV.ptr 400011 0)) fun v137 =>
exA2 v137 fun c138 c139 =>
ex_i64 c138 fun z140 =>
ex_i64 c139 fun z141 =>
opP (ldA (mget (mpushs (mpushs ((400011, some ⟨[(intA (0)), (intA (0))], 24⟩) :: (400010, some ⟨[(intA (0)), (intA (0))], 24⟩) :: (mpushs (mpushs (mpushs m d92) d93) d98)) d103) d104)) 2 (AV.ptr 400010 0)) fun v142 =>
exA2 v142 fun c143 c144 =>
ex_i64 c143 fun z145 =>
ex_i64 c144 fun z146 =>
callQ Try.prog KK.gl (mpushs (mpushs ((400011, some ⟨[(intA (0)), (intA (0))], 24⟩) :: (400010, some ⟨[(intA (0)), (intA (0))], 24⟩) :: (mpushs (mpushs (mpushs m d92) d93) d98)) d103) d104) 51 [(AV.agg [(intA z140), (intA z141)]), (AV.agg [(intA z145), (intA z146)])] fun v147 =>
exA2 v147 fun c148 c149 =>
ex_i64 c148 fun z150 =>
ex_i64 c149 fun z151 =>
callQ Try.prog KK.gl (mpushs (mpushs ((400011, some ⟨[(intA (0)), (intA (0))], 24⟩) :: (400010, some ⟨[(intA (0)), (intA (0))], 24⟩) :: (mpushs (mpushs (mpushs m d92) d93) d98)) d103) d104) 61 [(AV.agg [(intA z135), (intA z136)]), (AV.agg [(intA z150), (intA z151)])] fun v152 =>
ex_i64 v152 fun z153 =>
bif (decide (z153 > (0))) then (
retL R (mpushs (mpushs ((400011, some ⟨[(intA (0)), (intA (0))], 24⟩) :: (400010, some ⟨[(intA (0)), (intA (0))], 24⟩) :: (mpushs (mpushs (mpushs m d92) d93) d98)) d103) d104) [some (boolA true)]) else (
N2 ⟨[(0, t0), (1, t1), (4, (boolA t4)), (6, (AV.ptr 100010 0)), (7, (AV.ptr 100011 0)), (8, t8), (11, (intA t11)), (12, (AV.ptr 300041 0)), (17, (intA t17)), (18, (intA t18)), (100, (intA t100)), (101, (intA (IntKind.wrap .i64 (t101 + (1))))), (102, (boolA (decide (t101 < t100)))), (103, (intA t101)), (13, (intA t101)), (104, t1), (105, (intA t101)), (106, v92), (107, (AV.agg [(intA z96), (intA z97)])), (108, t1), (109, (intA t101)), (110, (AV.agg [(intA z101), (intA z102)])), (14, (AV.ptr 400010 0)), (15, (AV.ptr 400011 0)), (111, (AV.agg [(intA z108), (intA z109)])), (112, (AV.agg [(intA z113), (intA z114)])), (113, (AV.agg [(intA z118), (intA z119)])), (114, (boolA b121)), (115, (boolA true)), (116, (AV.agg [(intA z125), (intA z126)])), (117, (AV.agg [(intA z130), (intA z131)])), (118, (AV.agg [(intA z135), (intA z136)])), (119, (AV.agg [(intA z140), (intA z141)])), (120, (AV.agg [(intA z145), (intA z146)])), (121, (AV.agg [(intA z150), (intA z151)])), (122, (intA z153)), (123, (boolA (decide (z153 > (0))))), (124, (boolA (decide (z153 > (0))))), (125, (intA (IntKind.wrap .i64 (t101 + (1)))))], (mpushs (mpushs ((400011, some ⟨[(intA (0)), (intA (0))], 24⟩) :: (400010, some ⟨[(intA (0)), (intA (0))], 24⟩) :: (mpushs (mpushs (mpushs m d92) d93) d98)) d103) d104), 400030⟩)) else (
N2 ⟨[(0, t0), (1, t1), (4, (boolA t4)), (6, (AV.ptr 100010 0)), (7, (AV.ptr 100011 0)), (8, t8), (11, (intA t11)), (12, (AV.ptr 300041 0)), (17, (intA t17)), (18, (intA t18)), (100, (intA t100)), (101, (intA (IntKind.wrap .i64 (t101 + (1))))), (102, (boolA (decide (t101 < t100)))), (103, (intA t101)), (13, (intA t101)), (104, t1), (105, (intA t101)), (106, v92), (107, (AV.agg [(intA z96), (intA z97)])), (108, t1), (109, (intA t101)), (110, (AV.agg [(intA z101), (intA z102)])), (14, (AV.ptr 400010 0)), (15, (AV.ptr 400011 0)), (111, (AV.agg [(intA z108), (intA z109)])), (112, (AV.agg [(intA z113), (intA z114)])), (113, (AV.agg [(intA z118), (intA z119)])), (114, (boolA b121)), (115, (boolA false)), (116, (AV.tup [])), (117, (AV.tup [])), (118, (AV.tup [])), (119, (AV.tup [])), (120, (AV.tup [])), (121, (AV.tup [])), (122, (AV.tup [])), (123, (AV.tup [])), (124, (boolA false)), (125, (intA (IntKind.wrap .i64 (t101 + (1)))))], (mpushs (mpushs ((400011, some ⟨[(intA (0)), (intA (0))], 24⟩) :: (400010, some ⟨[(intA (0)), (intA (0))], 24⟩) :: (mpushs (mpushs (mpushs m d92) d93) d98)) d103) d104), 400030⟩))) else (
N1 ⟨[(0, t0), (1, t1), (4, (boolA t4)), (6, (AV.ptr 100010 0)), (7, (AV.ptr 100011 0)), (8, t8), (11, (intA (IntKind.wrap .i64 (t11 + (1))))), (12, (AV.ptr 300041 0)), (17, (intA t17)), (18, (intA t18)), (100, (intA t100)), (101, (intA t101)), (102, (boolA (decide (t101 < t100)))), (53, (intA t11)), (54, (intA (IntKind.wrap .i64 (t11 + (1)))))], m, 400004⟩)
theorem B50_0_1_0_eq (t0 : AV) (t1 : AV) (t4 : Bool) (t8 : AV) (t11 : Int) (t17 : Int) (t18 : Int) (t100 : Int) (t101 : Int) (m : Mem) (R : AV → Mem → Prop) (N0 : St → Prop) (N1 : St → Prop) (N2 : St → Prop) : W Try.prog KK 127 0 c50_0_1_0 (h50_0_1_0 t0 t1 t4 t8 t11 t17 t18 t100 t101 m) (qq50_0_1_0 R N0 N1 N2) = B50_0_1_0 t0 t1 t4 t8 t11 t17 t18 t100 t101 m R N0 N1 N2 := by kernel_rfl
theorem L50_0_1_0 (R : AV → Mem → Prop) (N0 : St → Prop) (N1 : St → Prop) {σ : Type} (I : σ → Prop) (t0 : σ → AV) (t1 : σ → AV) (t4 : σ → Bool) (t8 : σ → AV) (t11 : σ → Int) (t17 : σ → Int) (t18 : σ → Int) (t100 : σ → Int) (t101 : σ → Int) (m : σ → Mem) (μ : σ → Nat) (step : ∀ x, I x → B50_0_1_0 (t0 x) (t1 x) (t4 x) (t8 x) (t11 x) (t17 x) (t18 x) (t100 x) (t101 x) (m x) R N0 N1 (fun s' => ∃ y, I y ∧ μ y < μ x ∧ Weak KK 127 0 s' (h50_0_1_0 (t0 y) (t1 y) (t4 y) (t8 y) (t11 y) (t17 y) (t18 y) (t100 y) (t101 y) (m y)))) (x : σ) (hx : I x) {s : St} (hw : Weak KK 127 0 s (h50_0_1_0 (t0 x) (t1 x) (t4 x) (t8 x) (t11 x) (t17 x) (t18 x) (t100 x) (t101 x) (m x))) : Tri Try.prog KK 127 0 (.loop c50_0_1_0) s (q50_0_1_0 R N0 N1) :=
  Tri.weak hw (Tri.loops fol I (fun x => h50_0_1_0 (t0 x) (t1 x) (t4 x) (t8 x) (t11 x) (t17 x) (t18 x) (t100 x) (t101 x) (m x)) μ (fun x hx => (B50_0_1_0_eq (t0 x) (t1 x) (t4 x) (t8 x) (t11 x) (t17 x) (t18 x) (t100 x) (t101 x) (m x) R N0 N1 _).mpr (step x hx)) x hx)
noncomputable def F50 (a0 : AV) (a1 : AV) (R : AV → Mem → Prop) : Prop :=
opP (lenS a0) fun v0 =>
ex_i64 v0 fun z1 =>
Tri Try.prog KK 127 0 (.loop c50_0) ⟨[(0, a0), (1, a1), (4, (boolA false)), (16, a0), (17, (intA z1)), (18, (intA (0)))], [], 4⟩ (q50_0 R)
theorem F50_own (a0 : AV) (a1 : AV) (R : AV → Mem → Prop) (h : F50 a0 a1 R) : Own Try.prog KK.gl 50 [a0, a1] R := own_of_F fol Try.func50 (code := c50) (by kernel_rfl) (by kernel_rfl) (by kernel_rfl) (X := F50 a0 a1 R) (by kernel_rfl) h
/- skyway/polygon.Overlap -/
noncomputable def c37 : Code := ((Try.f37).body).getD .skip
noncomputable def q37 (R : AV → Mem → Prop) : AExit → St → Prop := retQ Try.prog Try.f37 R
noncomputable def c37_0 : Code := loopB c37 0
noncomputable def q37_0 (R : AV → Mem → Prop) : AExit → St → Prop := contW Try.prog KK 64 0 c37 0 (q37 R)
noncomputable def qq37_0 (R : AV → Mem → Prop) (N0 : St → Prop) : AExit → St → Prop := thenQ N0 (q37_0 R)
def h37_0 (t0 : AV) (t1 : AV) (t4 : Bool) (t5 : Int) (t13 : AV) (t14 : Int) (t15 : Int) (m : Mem) : St := ⟨[(0, t0), (1, t1), (4, (boolA t4)), (5, (intA t5)), (13, t13), (14, (intA t14)), (15, (intA t15))], m, 100000⟩
noncomputable def c37_1 : Code := loopB c37 1
noncomputable def q37_1 (R : AV → Mem → Prop) : AExit → St → Prop := contW Try.prog KK 64 0 c37 1 (q37 R)
noncomputable def qq37_1 (R : AV → Mem → Prop) (N0 : St → Prop) : AExit → St → Prop := thenQ N0 (q37_1 R)
def h37_1 (t0 : AV) (t1 : AV) (t4 : Bool) (t5 : Int) (t26 : Int) (t27 : Int) (m : Mem) : St := ⟨[(0, t0), (1, t1), (4, (boolA t4)), (5, (intA t5)), (26, (intA t26)), (27, (intA t27))], m, 200000⟩
noncomputable def c37_1_0 : Code := loopB c37_1 0
noncomputable def q37_1_0 (R : AV → Mem → Prop) (N0 : St → Prop) : AExit → St → Prop := contW Try.prog KK 64 0 c37_1 0 (qq37_1 R N0)
noncomputable def qq37_1_0 (R : AV → Mem → Prop) (N0 : St → Prop) (N1 : St → Prop) : AExit → St → Prop := thenQ N1 (q37_1_0 R N0)
def h37_1_0 (t0 : AV) (t1 : AV) (t4 : Bool) (t5 : Int) (t9 : Int) (t26 : Int) (t27 : Int) (t31 : Int) (t32 : Int) (m : Mem) : St := ⟨[(0, t0), (1, t1), (4, (boolA t4)), (5, (intA t5)), (9, (intA t9)), (26, (intA t26)), (27, (intA t27)), (31, (intA t31)), (32, (intA t32))], m, 300000⟩
noncomputable def B37_0 (t0 : AV) (t1 : AV) (t4 : Bool) (t5 : Int) (t13 : AV) (t14 : Int) (t15 : Int) (m : Mem) (R : AV → Mem → Prop) (N0 : St → Prop) : Prop :=
bif (decide (t15 < t14)) then (
opP (idxS 1 t13 (intA t15)) fun v3 =>
opP (ldS (mget m) v3) fun v4 =>
callQ Try.prog KK.gl m 29 [v4] fun v5 =>
ex_i64 v5 fun z6 =>
bif (z6 != (0)) then (
retL R m [some (boolA false), some (intA z6)]) else (
N0 ⟨[(0, t0), (1, t1), (4, (boolA t4)), (5, (intA t5)), (13, t13), (14, (intA t14)), (15, (intA (IntKind.wrap .i64 (t15 + (1))))), (16, (boolA (decide (t15 < t14)))), (17, v3), (18, v4), (7, v4), (19, v4), (20, (intA z6)), (8, (intA z6)), (21, (intA z6)), (22, (boolA (z6 != (0)))), (24, (intA (IntKind.wrap .i64 (t15 + (1)))))], m, 100074⟩)) else (
opP (lenS t0) fun v7 =>
ex_i64 v7 fun z8 =>
Tri Try.prog KK 64 0 (.loop c37_1) ⟨[(0, t0), (1, t1), (4, (boolA t4)), (5, (intA t5)), (13, t13), (14, (intA t14)), (15, (intA t15)), (16, (boolA (decide (t15 < t14)))), (25, t0), (26, (intA z8)), (27, (intA (0)))], m, 100004⟩ (q37_1 R))
theorem B37_0_eq (t0 : AV) (t1 : AV) (t4 : Bool) (t5 : Int) (t13 : AV) (t14 : Int) (t15 : Int) (m : Mem) (R : AV → Mem → Prop) (N0 : St → Prop) : W Try.prog KK 64 0 c37_0 (h37_0 t0 t1 t4 t5 t13 t14 t15 m) (qq37_0 R N0) = B37_0 t0 t1 t4 t5 t13 t14 t15 m R N0 := by kernel_rfl
theorem L37_0 (R : AV → Mem → Prop) {σ : Type} (I : σ → Prop) (t0 : σ → AV) (t1 : σ → AV) (t4 : σ → Bool) (t5 : σ → Int) (t13 : σ → AV) (t14 : σ → Int) (t15 : σ → Int) (m : σ → Mem) (μ : σ → Nat) (step : ∀ x, I x → B37_0 (t0 x) (t1 x) (t4 x) (t5 x) (t13 x) (t14 x) (t15 x) (m x) R (fun s' => ∃ y, I y ∧ μ y < μ x ∧ Weak KK 64 0 s' (h37_0 (t0 y) (t1 y) (t4 y) (t5 y) (t13 y) (t14 y) (t15 y) (m y)))) (x : σ) (hx : I x) {s : St} (hw : Weak KK 64 0 s (h37_0 (t0 x) (t1 x) (t4 x) (t5 x) (t13 x) (t14 x) (t15 x) (m x))) : Tri Try.prog KK 64 0 (.loop c37_0) s (q37_0 R) :=
  Tri.weak hw (Tri.loops fol I (fun x => h37_0 (t0 x) (t1 x) (t4 x) (t5 x) (t13 x) (t14 x) (t15 x) (m x)) μ (fun x hx => (B37_0_eq (t0 x) (t1 x) (t4 x) (t5 x) (t13 x) (t14 x) (t15 x) (m x) R _).mpr (step x hx)) x hx)
noncomputable def B37_1 (t0 : AV) (t1 : AV) (t4 : Bool) (t5 : Int) (t26 : Int) (t27 : Int) (m : Mem) (R : AV → Mem → Prop) (N0 : St → Prop) : Prop :=
bif (decide (t27 < t26)) then (
opP (lenS t1) fun v9 =>
ex_i64 v9 fun z10 =>
Tri Try.prog KK 64 0 (.loop c37_1_0) ⟨[(0, t0), (1, t1), (4, (boolA t4)), (5, (intA t5)), (26, (intA t26)), (27, (intA t27)), (28, (boolA (decide (t27 < t26)))), (29, (intA t27)), (9, (intA t27)), (30, t1), (31, (intA z10)), (32, (intA (0)))], m, 200006⟩ (q37_1_0 R N0)) else (
callQ Try.prog KK.gl m 49 [t0] fun v35 =>
callQ Try.prog KK.gl m 49 [t1] fun v36 =>
callQ Try.prog KK.gl m 50 [v35, v36] fun v37 =>
exB v37 fun b38 =>
bif b38 then (
retL R m [some (boolA true), some (intA (0))]) else (
callQ Try.prog KK.gl m 50 [v36, v35] fun v39 =>
exB v39 fun b40 =>
retL R m [some (boolA b40), some (intA (0))]))
theorem B37_1_eq (t0 : AV) (t1 : AV) (t4 : Bool) (t5 : Int) (t26 : Int) (t27 : Int) (m : Mem) (R : AV → Mem → Prop) (N0 : St → Prop) : W Try.prog KK 64 0 c37_1 (h37_1 t0 t1 t4 t5 t26 t27 m) (qq37_1 R N0) = B37_1 t0 t1 t4 t5 t26 t27 m R N0 := by kernel_rfl
theorem L37_1 (R : AV → Mem → Prop) {σ : Type} (I : σ → Prop) (t0 : σ → AV) (t1 : σ → AV) (t4 : σ → Bool) (t5 : σ → Int) (t26 : σ → Int) (t27 : σ → Int) (m : σ → Mem) (μ : σ → Nat) (step : ∀ x, I x → B37_1 (t0 x) (t1 x) (t4 x) (t5 x) (t26 x) (t27 x) (m x) R (fun s' => ∃ y, I y ∧ μ y < μ x ∧ Weak KK 64 0 s' (h37_1 (t0 y) (t1 y) (t4 y) (t5 y) (t26 y) (t27 y) (m y)))) (x : σ) (hx : I x) {s : St} (hw : Weak KK 64 0 s (h37_1 (t0 x) (t1 x) (t4 x) (t5 x) (t26 x) (t27 x) (m x))) : Tri Try.prog KK 64 0 (.loop c37_1) s (q37_1 R) :=
  Tri.weak hw (Tri.loops fol I (fun x => h37_1 (t0 x) (t1 x) (t4 x) (t5 x) (t26 x) (t27 x) (m x)) μ (fun x hx => (B37_1_eq (t0 x) (t1 x) (t4 x) (t5 x) (t26 x) (t27 x) (m x) R _).mpr (step x hx)) x hx)
noncomputable def B37_1_0 (t0 : AV) (t1 : AV) (t4 : Bool) (t5 : Int) (t9 : Int) (t26 : Int) (t27 : Int) (t31 : Int) (t32 : Int) (m : Mem) (R : AV → Mem → Prop) (N0 : St → Prop) (N1 : St → Prop) : Prop :=
bif (decide (t32 < t31)) then (
opP (idxS 2 t0 (intA t9)) fun v11 =>
opP (ldA (mget m) 2 v11) fun v12 =>
exA2 v12 fun c13 c14 =>
ex_i64 c13 fun z15 =>
ex_i64 c14 fun z16 =>
callQ Try.prog KK.gl m 39 [t0, (intA t9)] fun v17 =>
exA2 v17 fun c18 c19 =>
ex_i64 c18 fun z20 =>
ex_i64 c19 fun z21 =>
opP (idxS 2 t1 (intA t32)) fun v22 =>
opP (ldA (mget m) 2 v22) fun v23 =>
exA2 v23 fun c24 c25 =>
ex_i64 c24 fun z26 =>
ex_i64 c25 fun z27 =>
callQ Try.prog KK.gl m 39 [t1, (intA t32)] fun v28 =>
exA2 v28 fun c29 c30 =>
ex_i64 c29 fun z31 =>
ex_i64 c30 fun z32 =>
callQ Try.prog KK.gl m 48 [(AV.agg [(intA z15), (intA z16)]), (AV.agg [(intA z20), (intA z21)]), (AV.agg [(intA z26), (intA z27)]), (AV.agg [(intA z31), (intA z32)])] fun v33 =>
exB v33 fun b34 =>
bif b34 then (
retL R m [some (boolA true), some (intA (0))]) else (
N1 ⟨[(0, t0), (1, t1), (4, (boolA t4)), (5, (intA t5)), (9, (intA t9)), (26, (intA t26)), (27, (intA t27)), (31, (intA t31)), (32, (intA (IntKind.wrap .i64 (t32 + (1))))), (33, (boolA (decide (t32 < t31)))), (34, (intA t32)), (10, (intA t32)), (35, t0), (36, (intA t9)), (37, v11), (38, (AV.agg [(intA z15), (intA z16)])), (39, t0), (40, (intA t9)), (41, (AV.agg [(intA z20), (intA z21)])), (42, t1), (43, (intA t32)), (44, v22), (45, (AV.agg [(intA z26), (intA z27)])), (46, t1), (47, (intA t32)), (48, (AV.agg [(intA z31), (intA z32)])), (49, (boolA b34)), (50, (intA (IntKind.wrap .i64 (t32 + (1)))))], m, 300020⟩)) else (
N0 ⟨[(0, t0), (1, t1), (4, (boolA t4)), (5, (intA t5)), (9, (intA t9)), (26, (intA t26)), (27, (intA (IntKind.wrap .i64 (t27 + (1))))), (31, (intA t31)), (32, (intA t32)), (33, (boolA (decide (t32 < t31)))), (51, (intA (IntKind.wrap .i64 (t27 + (1)))))], m, 300003⟩)
theorem B37_1_0_eq (t0 : AV) (t1 : AV) (t4 : Bool) (t5 : Int) (t9 : Int) (t26 : Int) (t27 : Int) (t31 : Int) (t32 : Int) (m : Mem) (R : AV → Mem → Prop) (N0 : St → Prop) (N1 : St → Prop) : W Try.prog KK 64 0 c37_1_0 (h37_1_0 t0 t1 t4 t5 t9 t26 t27 t31 t32 m) (qq37_1_0 R N0 N1) = B37_1_0 t0 t1 t4 t5 t9 t26 t27 t31 t32 m R N0 N1 := by kernel_rfl
theorem L37_1_0 (R : AV → Mem → Prop) (N0 : St → Prop) {σ : Type} (I : σ → Prop) (t0 : σ → AV) (t1 : σ → AV) (t4 : σ → Bool) (t5 : σ → Int) (t9 : σ → Int) (t26 : σ → Int) (t27 : σ → Int) (t31 : σ → Int) (t32 : σ → Int) (m : σ → Mem) (μ : σ → Nat) (step : ∀ x, I x → B37_1_0 (t0 x) (t1 x) (t4 x) (t5 x) (t9 x) (t26 x) (t27 x) (t31 x) (t32 x) (m x) R N0 (fun s' => ∃ y, I y ∧ μ y < μ x ∧ Weak KK 64 0 s' (h37_1_0 (t0 y) (t1 y) (t4 y) (t5 y) (t9 y) (t26 y) (t27 y) (t31 y) (t32 y) (m y)))) (x : σ) (hx : I x) {s : St} (hw : Weak KK 64 0 s (h37_1_0 (t0 x) (t1 x) (t4 x) (t5 x) (t9 x) (t26 x) (t27 x) (t31 x) (t32 x) (m x))) : Tri Try.prog KK 64 0 (.loop c37_1_0) s (q37_1_0 R N0) :=
  Tri.weak hw (Tri.loops fol I (fun x => h37_1_0 (t0 x) (t1 x) (t4 x) (t5 x) (t9 x) (t26 x) (t27 x) (t31 x) (t32 x) (m x)) μ (fun x hx => (B37_1_0_eq (t0 x) (t1 x) (t4 x) (t5 x) (t9 x) (t26 x) (t27 x) (t31 x) (t32 x) (m x) R N0 _).mpr (step x hx)) x hx)
noncomputable def F37 (a0 : AV) (a1 : AV) (R : AV → Mem → Prop) : Prop :=
opN (bsl 4 54 1 2 [AV.nils] [(0, a0), (1, a1)]) [] fun v0 m0 =>
opP (lenS v0) fun v1 =>
ex_i64 v1 fun z2 =>
Tri Try.prog KK 64 0 (.loop c37_0) ⟨[(0, a0), (1, a1), (4, (boolA false)), (5, (intA (0))), (11, a0), (12, a1), (13, v0), (14, (intA z2)), (15, (intA (0)))], m0, 7⟩ (q37_0 R)
theorem F37_own (a0 : AV) (a1 : AV) (R : AV → Mem → Prop) (h : F37 a0 a1 R) : Own Try.prog KK.gl 37 [a0, a1] R := own_of_F fol Try.func37 (code := c37) (by kernel_rfl) (by kernel_rfl) (by kernel_rfl) (X := F37 a0 a1 R) (by kernel_rfl) h
/- skyway/volume.Overlap -/
noncomputable def c27 : Code := ((Try.f27).body).getD .skip
noncomputable def q27 (R : AV → Mem → Prop) : AExit → St → Prop := retQ Try.prog Try.f27 R
noncomputable def c27_0 : Code := loopB c27 0
noncomputable def q27_0 (R : AV → Mem → Prop) : AExit → St → Prop := contW Try.prog KK 52 0 c27 0 (q27 R)
noncomputable def qq27_0 (R : AV → Mem → Prop) (N0 : St → Prop) : AExit → St → Prop := thenQ N0 (q27_0 R)
def h27_0 (t4 : Bool) (t5 : Int) (t13 : AV) (t14 : Int) (t15 : Int) (m : Mem) : St := ⟨[(2, (AV.ptr 0 0)), (3, (AV.ptr 1 0)), (4, (boolA t4)), (5, (intA t5)), (13, t13), (14, (intA t14)), (15, (intA t15))], m, 100000⟩
noncomputable def B27_0 (t4 : Bool) (t5 : Int) (t13 : AV) (t14 : Int) (t15 : Int) (m : Mem) (R : AV → Mem → Prop) (N0 : St → Prop) : Prop :=
bif (decide (t15 < t14)) then (
opP (idxS 3 t13 (intA t15)) fun v3 =>
opP (ldA (mget m) 3 v3) fun v4 =>
exA3 v4 fun c5 c6 c7 =>
ex_i64 c6 fun z8 =>
ex_i64 c7 fun z9 =>
chk (isCell c5) <| callQ Try.prog KK.gl ((100003, some ⟨[c5, (intA z8), (intA z9)], 56⟩) :: (100003, some ⟨[AV.nils, (intA (0)), (intA (0))], 56⟩) :: m) 24 [(AV.agg [c5, (intA z8), (intA z9)])] fun v10 =>
ex_i64 v10 fun z11 =>
bif (z11 != (0)) then (
retL R ((100003, some ⟨[c5, (intA z8), (intA z9)], 56⟩) :: (100003, some ⟨[AV.nils, (intA (0)), (intA (0))], 56⟩) :: m) [some (boolA false), some (intA z11)]) else (
N0 ⟨[(2, (AV.ptr 0 0)), (3, (AV.ptr 1 0)), (4, (boolA t4)), (5, (intA t5)), (13, t13), (14, (intA t14)), (15, (intA (IntKind.wrap .i64 (t15 + (1))))), (16, (boolA (decide (t15 < t14)))), (17, v3), (18, (AV.agg [c5, (intA z8), (intA z9)])), (7, (AV.ptr 100003 0)), (19, (AV.agg [c5, (intA z8), (intA z9)])), (20, (intA z11)), (8, (intA z11)), (21, (intA z11)), (22, (boolA (z11 != (0)))), (24, (intA (IntKind.wrap .i64 (t15 + (1)))))], ((100003, some ⟨[c5, (intA z8), (intA z9)], 56⟩) :: (100003, some ⟨[AV.nils, (intA (0)), (intA (0))], 56⟩) :: m), 100075⟩)) else (
opP (ldS (mget m) (AV.ptr 0 0)) fun v12 =>
opP (ldS (mget m) (AV.ptr 1 0)) fun v13 =>
callQ Try.prog KK.gl m 37 [v12, v13] fun v14 =>
exT2 v14 fun c15 c16 =>
exB c15 fun b17 =>
ex_i64 c16 fun z18 =>
bif (z18 == (0)) then (
bif b17 then (
opP (ldS (mget m) (AV.ptr 0 1)) fun v19 =>
ex_i64 v19 fun z20 =>
opP (ldS (mget m) (AV.ptr 1 1)) fun v21 =>
ex_i64 v21 fun z22 =>
opP (opA Try.prog (.call ⟨.builtin .max, #[.tmp 0, .tmp 1], #[3, 3]⟩) 3 [(intA z20), (intA z22)] (mget m) 100084) fun v23 =>
ex_i64 v23 fun z24 =>
opP (ldS (mget m) (AV.ptr 0 2)) fun v25 =>
ex_i64 v25 fun z26 =>
opP (ldS (mget m) (AV.ptr 1 2)) fun v27 =>
ex_i64 v27 fun z28 =>
opP (opA Try.prog (.call ⟨.builtin .min, #[.tmp 0, .tmp 1], #[3, 3]⟩) 3 [(intA z26), (intA z28)] (mget m) 100089) fun v29 =>
ex_i64 v29 fun z30 =>
retL R m [some (boolA (decide (z24 < z30))), some (intA z18)]) else (
retL R m [some (boolA false), some (intA z18)])) else (
retL R m [some (boolA false), some (intA z18)]))
theorem B27_0_eq (t4 : Bool) (t5 : Int) (t13 : AV) (t14 : Int) (t15 : Int) (m : Mem) (R : AV → Mem → Prop) (N0 : St → Prop) : W Try.prog KK 52 0 c27_0 (h27_0 t4 t5 t13 t14 t15 m) (qq27_0 R N0) = B27_0 t4 t5 t13 t14 t15 m R N0 := by kernel_rfl
theorem L27_0 (R : AV → Mem → Prop) {σ : Type} (I : σ → Prop) (t4 : σ → Bool) (t5 : σ → Int) (t13 : σ → AV) (t14 : σ → Int) (t15 : σ → Int) (m : σ → Mem) (μ : σ → Nat) (step : ∀ x, I x → B27_0 (t4 x) (t5 x) (t13 x) (t14 x) (t15 x) (m x) R (fun s' => ∃ y, I y ∧ μ y < μ x ∧ Weak KK 52 0 s' (h27_0 (t4 y) (t5 y) (t13 y) (t14 y) (t15 y) (m y)))) (x : σ) (hx : I x) {s : St} (hw : Weak KK 52 0 s (h27_0 (t4 x) (t5 x) (t13 x) (t14 x) (t15 x) (m x))) : Tri Try.prog KK 52 0 (.loop c27_0) s (q27_0 R) :=
  Tri.weak hw (Tri.loops fol I (fun x => h27_0 (t4 x) (t5 x) (t13 x) (t14 x) (t15 x) (m x)) μ (fun x hx => (B27_0_eq (t4 x) (t5 x) (t13 x) (t14 x) (t15 x) (m x) R _).mpr (step x hx)) x hx)
noncomputable def F27 (a0_0 : AV) (a0_1 : Int) (a0_2 : Int) (a1_0 : AV) (a1_1 : Int) (a1_2 : Int) (R : AV → Mem → Prop) : Prop :=
chk (isCell a0_0) <| chk (isCell a1_0) <| opN (bsl 6 56 3 2 [AV.nils, (intA (0)), (intA (0))] [(0, (AV.agg [a0_0, (intA a0_1), (intA a0_2)])), (1, (AV.agg [a1_0, (intA a1_1), (intA a1_2)]))]) ((1, some ⟨[a1_0, (intA a1_1), (intA a1_2)], 56⟩) :: (0, some ⟨[a0_0, (intA a0_1), (intA a0_2)], 56⟩) :: []) fun v0 m0 =>
opP (lenS v0) fun v1 =>
ex_i64 v1 fun z2 =>
Tri Try.prog KK 52 0 (.loop c27_0) ⟨[(0, (AV.agg [a0_0, (intA a0_1), (intA a0_2)])), (1, (AV.agg [a1_0, (intA a1_1), (intA a1_2)])), (2, (AV.ptr 0 0)), (3, (AV.ptr 1 0)), (4, (boolA false)), (5, (intA (0))), (11, (AV.agg [a0_0, (intA a0_1), (intA a0_2)])), (12, (AV.agg [a1_0, (intA a1_1), (intA a1_2)])), (13, v0), (14, (intA z2)), (15, (intA (0)))], m0, 9⟩ (q27_0 R)
theorem F27_own (a0_0 : AV) (a0_1 : Int) (a0_2 : Int) (a1_0 : AV) (a1_1 : Int) (a1_2 : Int) (R : AV → Mem → Prop) (h : F27 a0_0 a0_1 a0_2 a1_0 a1_1 a1_2 R) : Own Try.prog KK.gl 27 [(AV.agg [a0_0, (intA a0_1), (intA a0_2)]), (AV.agg [a1_0, (intA a1_1), (intA a1_2)])] R := own_of_F fol Try.func27 (code := c27) (by kernel_rfl) (by kernel_rfl) (by kernel_rfl) (X := F27 a0_0 a0_1 a0_2 a1_0 a1_1 a1_2 R) (by kernel_rfl) h
/- skyway/sector.Check -/
noncomputable def c14 : Code := ((Try.f14).body).getD .skip
noncomputable def q14 (R : AV → Mem → Prop) : AExit → St → Prop := retQ Try.prog Try.f14 R
noncomputable def c14_0 : Code := loopB c14 0
noncomputable def q14_0 (R : AV → Mem → Prop) : AExit → St → Prop := contW Try.prog KK 87 0 c14 0 (q14 R)
noncomputable def qq14_0 (R : AV → Mem → Prop) (N0 : St → Prop) : AExit → St → Prop := thenQ N0 (q14_0 R)
def h14_0 (t0 : AV) (t2 : Int) (t3 : AV) (t18 : AV) (t19 : Int) (t20 : Int) (m : Mem) : St := ⟨[(0, t0), (2, (intA t2)), (3, t3), (18, t18), (19, (intA t19)), (20, (intA t20))], m, 100000⟩
noncomputable def c14_0_0 : Code := loopB c14_0 0
noncomputable def q14_0_0 (R : AV → Mem → Prop) (N0 : St → Prop) : AExit → St → Prop := contW Try.prog KK 87 0 c14_0 0 (qq14_0 R N0)
noncomputable def qq14_0_0 (R : AV → Mem → Prop) (N0 : St → Prop) (N1 : St → Prop) : AExit → St → Prop := thenQ N1 (q14_0_0 R N0)
def h14_0_0 (t0 : AV) (t2 : Int) (t3 : AV) (t4 : Int) (t18 : AV) (t19 : Int) (t20 : Int) (t41 : AV) (t42 : Int) (t43 : Int) (b100004_0 : ByteArray) (b100004_1 : AV) (m : Mem) : St := ⟨[(0, t0), (2, (intA t2)), (3, t3), (4, (intA t4)), (5, (AV.ptr 100004 0)), (18, t18), (19, (intA t19)), (20, (intA t20)), (41, t41), (42, (intA t42)), (43, (intA t43))], ((100004, some ⟨[(AV.sc (.string b100004_0)), b100004_1], 37⟩) :: m), 200000⟩
noncomputable def c14_1 : Code := loopB c14 1
noncomputable def q14_1 (R : AV → Mem → Prop) : AExit → St → Prop := contW Try.prog KK 87 0 c14 1 (q14 R)
noncomputable def qq14_1 (R : AV → Mem → Prop) (N0 : St → Prop) : AExit → St → Prop := thenQ N0 (q14_1 R)
def h14_1 (t2 : Int) (t3 : AV) (t63 : AV) (t64 : Int) (t65 : Int) (m : Mem) : St := ⟨[(2, (intA t2)), (3, t3), (63, t63), (64, (intA t64)), (65, (intA t65))], m, 200000⟩
noncomputable def c14_1_0 : Code := loopB c14_1 0
noncomputable def q14_1_0 (R : AV → Mem → Prop) (N0 : St → Prop) : AExit → St → Prop := contW Try.prog KK 87 0 c14_1 0 (qq14_1 R N0)
noncomputable def qq14_1_0 (R : AV → Mem → Prop) (N0 : St → Prop) (N1 : St → Prop) : AExit → St → Prop := thenQ N1 (q14_1_0 R N0)
def h14_1_0 (t2 : Int) (t3 : AV) (t63 : AV) (t64 : Int) (t65 : Int) (t72 : AV) (t73 : Int) (t74 : Int) (b200004_0 : AV) (b200004_1 : Int) (b200004_2 : Int) (m : Mem) : St := ⟨[(2, (intA t2)), (3, t3), (10, (AV.ptr 200004 0)), (63, t63), (64, (intA t64)), (65, (intA t65)), (72, t72), (73, (intA t73)), (74, (intA t74))], ((200004, some ⟨[b200004_0, (intA b200004_1), (intA b200004_2)], 56⟩) :: m), 300000⟩
noncomputable def B14_0 (t0 : AV) (t2 : Int) (t3 : AV) (t18 : AV) (t19 : Int) (t20 : Int) (m : Mem) (R : AV → Mem → Prop) (N0 : St → Prop) : Prop :=
bif (decide (t20 < t19)) then (
opP (idxS 2 t18 (intA t20)) fun v4 =>
opP (ldA (mget m) 2 v4) fun v5 =>
exA2 v5 fun c6 c7 =>
exStr c6 fun s8 =>
chk (isCell c7) <| callQ Try.prog KK.gl ((100004, some ⟨[(AV.sc (.string s8)), c7], 37⟩) :: (100004, some ⟨[(AV.sc (.string ⟨#[]⟩)), AV.nils], 37⟩) :: m) 16 [(AV.sc (.string s8))] fun v9 =>
exB v9 fun b10 =>
bif (!b10) then (
retL R ((100004, some ⟨[(AV.sc (.string s8)), c7], 37⟩) :: (100004, some ⟨[(AV.sc (.string ⟨#[]⟩)), AV.nils], 37⟩) :: m) [some (intA (3))]) else (
opP (lenS c7) fun v11 =>
ex_i64 v11 fun z12 =>
bif (z12 == (0)) then (
retL R ((100004, some ⟨[(AV.sc (.string s8)), c7], 37⟩) :: (100004, some ⟨[(AV.sc (.string ⟨#[]⟩)), AV.nils], 37⟩) :: m) [some (intA (8))]) else (
opP (lenS c7) fun v13 =>
ex_i64 v13 fun z14 =>
bif (decide (z14 > (4))) then (
retL R ((100004, some ⟨[(AV.sc (.string s8)), c7], 37⟩) :: (100004, some ⟨[(AV.sc (.string ⟨#[]⟩)), AV.nils], 37⟩) :: m) [some (intA (2))]) else (
opP (lenS c7) fun v15 =>
ex_i64 v15 fun z16 =>
Tri Try.prog KK 87 0 (.loop c14_0_0) ⟨[(0, t0), (2, (intA t2)), (3, t3), (18, t18), (19, (intA t19)), (20, (intA t20)), (21, (boolA (decide (t20 < t19)))), (22, (intA t20)), (23, v4), (24, (AV.agg [(AV.sc (.string s8)), c7])), (5, (AV.ptr 100004 0)), (4, (intA t20)), (26, (AV.ptr 100004 0)), (27, (AV.sc (.string s8))), (28, (boolA b10)), (29, (boolA (!b10))), (25, (boolA (!b10))), (31, (AV.ptr 100004 1)), (32, c7), (33, (intA z12)), (34, (boolA (z12 == (0)))), (30, (boolA (z12 == (0)))), (36, (AV.ptr 100004 1)), (37, c7), (38, (intA z14)), (39, (boolA (decide (z14 > (4))))), (35, (boolA (decide (z14 > (4))))), (40, (AV.ptr 100004 1)), (41, c7), (42, (intA z16)), (43, (intA (0)))], ((100004, some ⟨[(AV.sc (.string s8)), c7], 37⟩) :: (100004, some ⟨[(AV.sc (.string ⟨#[]⟩)), AV.nils], 37⟩) :: m), 100089⟩ (q14_0_0 R N0))))) else (
opP (lenS t3) fun v30 =>
ex_i64 v30 fun z31 =>
Tri Try.prog KK 87 0 (.loop c14_1) ⟨[(0, t0), (2, (intA t2)), (3, t3), (18, t18), (19, (intA t19)), (20, (intA t20)), (21, (boolA (decide (t20 < t19)))), (63, t3), (64, (intA z31)), (65, (intA (0)))], m, 100004⟩ (q14_1 R))
theorem B14_0_eq (t0 : AV) (t2 : Int) (t3 : AV) (t18 : AV) (t19 : Int) (t20 : Int) (m : Mem) (R : AV → Mem → Prop) (N0 : St → Prop) : W Try.prog KK 87 0 c14_0 (h14_0 t0 t2 t3 t18 t19 t20 m) (qq14_0 R N0) = B14_0 t0 t2 t3 t18 t19 t20 m R N0 := by kernel_rfl
theorem L14_0 (R : AV → Mem → Prop) {σ : Type} (I : σ → Prop) (t0 : σ → AV) (t2 : σ → Int) (t3 : σ → AV) (t18 : σ → AV) (t19 : σ → Int) (t20 : σ → Int) (m : σ → Mem) (μ : σ → Nat) (step : ∀ x, I x → B14_0 (t0 x) (t2 x) (t3 x) (t18 x) (t19 x) (t20 x) (m x) R (fun s' => ∃ y, I y ∧ μ y < μ x ∧ Weak KK 87 0 s' (h14_0 (t0 y) (t2 y) (t3 y) (t18 y) (t19 y) (t20 y) (m y)))) (x : σ) (hx : I x) {s : St} (hw : Weak KK 87 0 s (h14_0 (t0 x) (t2 x) (t3 x) (t18 x) (t19 x) (t20 x) (m x))) : Tri Try.prog KK 87 0 (.loop c14_0) s (q14_0 R) :=
  Tri.weak hw (Tri.loops fol I (fun x => h14_0 (t0 x) (t2 x) (t3 x) (t18 x) (t19 x) (t20 x) (m x)) μ (fun x hx => (B14_0_eq (t0 x) (t2 x) (t3 x) (t18 x) (t19 x) (t20 x) (m x) R _).mpr (step x hx)) x hx)
noncomputable def B14_0_0 (t0 : AV) (t2 : Int) (t3 : AV) (t4 : Int) (t18 : AV) (t19 : Int) (t20 : Int) (t41 : AV) (t42 : Int) (t43 : Int) (b100004_0 : ByteArray) (b100004_1 : AV) (m : Mem) (R : AV → Mem → Prop) (N0 : St → Prop) (N1 : St → Prop) : Prop :=
bif (decide (t43 < t42)) then (
opP (idxS 3 t41 (intA t43)) fun v17 =>
opP (ldA (mget ((100004, some ⟨[(AV.sc (.string b100004_0)), b100004_1], 37⟩) :: m)) 3 v17) fun v18 =>
exA3 v18 fun c19 c20 c21 =>
ex_i64 c20 fun z22 =>
ex_i64 c21 fun z23 =>
chk (isCell c19) <| callQ Try.prog KK.gl ((200003, some ⟨[c19, (intA z22), (intA z23)], 56⟩) :: (200003, some ⟨[AV.nils, (intA (0)), (intA (0))], 56⟩) :: (100004, some ⟨[(AV.sc (.string b100004_0)), b100004_1], 37⟩) :: m) 24 [(AV.agg [c19, (intA z22), (intA z23)])] fun v24 =>
ex_i64 v24 fun z25 =>
bif (z25 != (0)) then (
retL R ((200003, some ⟨[c19, (intA z22), (intA z23)], 56⟩) :: (200003, some ⟨[AV.nils, (intA (0)), (intA (0))], 56⟩) :: (100004, some ⟨[(AV.sc (.string b100004_0)), b100004_1], 37⟩) :: m) [some (intA z25)]) else (
N1 ⟨[(0, t0), (2, (intA t2)), (3, t3), (4, (intA t4)), (5, (AV.ptr 100004 0)), (18, t18), (19, (intA t19)), (20, (intA t20)), (41, t41), (42, (intA t42)), (43, (intA (IntKind.wrap .i64 (t43 + (1))))), (44, (boolA (decide (t43 < t42)))), (45, v17), (46, (AV.agg [c19, (intA z22), (intA z23)])), (7, (AV.ptr 200003 0)), (47, (AV.agg [c19, (intA z22), (intA z23)])), (48, (intA z25)), (8, (intA z25)), (49, (intA z25)), (50, (boolA (z25 != (0)))), (52, (intA (IntKind.wrap .i64 (t43 + (1)))))], ((200003, some ⟨[c19, (intA z22), (intA z23)], 56⟩) :: (200003, some ⟨[AV.nils, (intA (0)), (intA (0))], 56⟩) :: (100004, some ⟨[(AV.sc (.string b100004_0)), b100004_1], 37⟩) :: m), 200075⟩)) else (
opP (opA Try.prog (.slice 22 (.tmp 0) none (some (.tmp 1)) none) 22 [t0, (intA t4)] (mget ((100004, some ⟨[(AV.sc (.string b100004_0)), b100004_1], 37⟩) :: m)) 200003) fun v26 =>
callQ Try.prog KK.gl ((100004, some ⟨[(AV.sc (.string b100004_0)), b100004_1], 37⟩) :: m) 25 [v26, (AV.fn 26 [(AV.ptr 100004 0)])] fun v27 =>
exB v27 fun b28 =>
bif b28 then (
retL R ((100004, some ⟨[(AV.sc (.string b100004_0)), b100004_1], 37⟩) :: m) [some (intA (7))]) else (
opN (app (mget ((100004, some ⟨[(AV.sc (.string b100004_0)), b100004_1], 37⟩) :: m)) 56 3 40 [AV.nils, (intA (0)), (intA (0))] 200072 t3 b100004_1) ((100004, some ⟨[(AV.sc (.string b100004_0)), b100004_1], 37⟩) :: m) fun v29 m29 =>
N0 ⟨[(0, t0), (2, (intA t2)), (3, v29), (4, (intA t4)), (5, (AV.ptr 100004 0)), (18, t18), (19, (intA t19)), (20, (intA (IntKind.wrap .i64 (t20 + (1))))), (41, t41), (42, (intA t42)), (43, (intA t43)), (44, (boolA (decide (t43 < t42)))), (53, t0), (54, (intA t4)), (55, v26), (56, (AV.fn 26 [(AV.ptr 100004 0)])), (57, (boolA b28)), (58, t3), (59, (AV.ptr 100004 1)), (60, b100004_1), (61, v29), (62, (intA (IntKind.wrap .i64 (t20 + (1)))))], m29, 200076⟩))
theorem B14_0_0_eq (t0 : AV) (t2 : Int) (t3 : AV) (t4 : Int) (t18 : AV) (t19 : Int) (t20 : Int) (t41 : AV) (t42 : Int) (t43 : Int) (b100004_0 : ByteArray) (b100004_1 : AV) (m : Mem) (R : AV → Mem → Prop) (N0 : St → Prop) (N1 : St → Prop) : W Try.prog KK 87 0 c14_0_0 (h14_0_0 t0 t2 t3 t4 t18 t19 t20 t41 t42 t43 b100004_0 b100004_1 m) (qq14_0_0 R N0 N1) = B14_0_0 t0 t2 t3 t4 t18 t19 t20 t41 t42 t43 b100004_0 b100004_1 m R N0 N1 := by kernel_rfl
theorem L14_0_0 (R : AV → Mem → Prop) (N0 : St → Prop) {σ : Type} (I : σ → Prop) (t0 : σ → AV) (t2 : σ → Int) (t3 : σ → AV) (t4 : σ → Int) (t18 : σ → AV) (t19 : σ → Int) (t20 : σ → Int) (t41 : σ → AV) (t42 : σ → Int) (t43 : σ → Int) (b100004_0 : σ → ByteArray) (b100004_1 : σ → AV) (m : σ → Mem) (μ : σ → Nat) (step : ∀ x, I x → B14_0_0 (t0 x) (t2 x) (t3 x) (t4 x) (t18 x) (t19 x) (t20 x) (t41 x) (t42 x) (t43 x) (b100004_0 x) (b100004_1 x) (m x) R N0 (fun s' => ∃ y, I y ∧ μ y < μ x ∧ Weak KK 87 0 s' (h14_0_0 (t0 y) (t2 y) (t3 y) (t4 y) (t18 y) (t19 y) (t20 y) (t41 y) (t42 y) (t43 y) (b100004_0 y) (b100004_1 y) (m y)))) (x : σ) (hx : I x) {s : St} (hw : Weak KK 87 0 s (h14_0_0 (t0 x) (t2 x) (t3 x) (t4 x) (t18 x) (t19 x) (t20 x) (t41 x) (t42 x) (t43 x) (b100004_0 x) (b100004_1 x) (m x))) : Tri Try.prog KK 87 0 (.loop c14_0_0) s (q14_0_0 R N0) :=
  Tri.weak hw (Tri.loops fol I (fun x => h14_0_0 (t0 x) (t2 x) (t3 x) (t4 x) (t18 x) (t19 x) (t20 x) (t41 x) (t42 x) (t43 x) (b100004_0 x) (b100004_1 x) (m x)) μ (fun x hx => (B14_0_0_eq (t0 x) (t2 x) (t3 x) (t4 x) (t18 x) (t19 x) (t20 x) (t41 x) (t42 x) (t43 x) (b100004_0 x) (b100004_1 x) (m x) R N0 _).mpr (step x hx)) x hx)
noncomputable def B14_1 (t2 : Int) (t3 : AV) (t63 : AV) (t64 : Int) (t65 : Int) (m : Mem) (R : AV → Mem → Prop) (N0 : St → Prop) : Prop :=
bif (decide (t65 < t64)) then (
opP (idxS 3 t63 (intA t65)) fun v32 =>
opP (ldA (mget m) 3 v32) fun v33 =>
exA3 v33 fun c34 c35 c36 =>
ex_i64 c35 fun z37 =>
ex_i64 c36 fun z38 =>
chk (isCell c34) <| opP (opA Try.prog (.slice 35 (.tmp 0) none (some (.tmp 1)) none) 35 [t3, (intA t65)] (mget ((200004, some ⟨[c34, (intA z37), (intA z38)], 56⟩) :: (200004, some ⟨[AV.nils, (intA (0)), (intA (0))], 56⟩) :: m)) 200009) fun v39 =>
opP (lenS v39) fun v40 =>
ex_i64 v40 fun z41 =>
Tri Try.prog KK 87 0 (.loop c14_1_0) ⟨[(2, (intA t2)), (3, t3), (63, t63), (64, (intA t64)), (65, (intA t65)), (66, (boolA (decide (t65 < t64)))), (67, (intA t65)), (68, v32), (69, (AV.agg [c34, (intA z37), (intA z38)])), (10, (AV.ptr 200004 0)), (9, (intA t65)), (70, t3), (71, (intA t65)), (72, v39), (73, (intA z41)), (74, (intA (0)))], ((200004, some ⟨[c34, (intA z37), (intA z38)], 56⟩) :: (200004, some ⟨[AV.nils, (intA (0)), (intA (0))], 56⟩) :: m), 200012⟩ (q14_1_0 R N0)) else (
retL R m [some (intA (0))])
theorem B14_1_eq (t2 : Int) (t3 : AV) (t63 : AV) (t64 : Int) (t65 : Int) (m : Mem) (R : AV → Mem → Prop) (N0 : St → Prop) : W Try.prog KK 87 0 c14_1 (h14_1 t2 t3 t63 t64 t65 m) (qq14_1 R N0) = B14_1 t2 t3 t63 t64 t65 m R N0 := by kernel_rfl
theorem L14_1 (R : AV → Mem → Prop) {σ : Type} (I : σ → Prop) (t2 : σ → Int) (t3 : σ → AV) (t63 : σ → AV) (t64 : σ → Int) (t65 : σ → Int) (m : σ → Mem) (μ : σ → Nat) (step : ∀ x, I x → B14_1 (t2 x) (t3 x) (t63 x) (t64 x) (t65 x) (m x) R (fun s' => ∃ y, I y ∧ μ y < μ x ∧ Weak KK 87 0 s' (h14_1 (t2 y) (t3 y) (t63 y) (t64 y) (t65 y) (m y)))) (x : σ) (hx : I x) {s : St} (hw : Weak KK 87 0 s (h14_1 (t2 x) (t3 x) (t63 x) (t64 x) (t65 x) (m x))) : Tri Try.prog KK 87 0 (.loop c14_1) s (q14_1 R) :=
  Tri.weak hw (Tri.loops fol I (fun x => h14_1 (t2 x) (t3 x) (t63 x) (t64 x) (t65 x) (m x)) μ (fun x hx => (B14_1_eq (t2 x) (t3 x) (t63 x) (t64 x) (t65 x) (m x) R _).mpr (step x hx)) x hx)
noncomputable def B14_1_0 (t2 : Int) (t3 : AV) (t63 : AV) (t64 : Int) (t65 : Int) (t72 : AV) (t73 : Int) (t74 : Int) (b200004_0 : AV) (b200004_1 : Int) (b200004_2 : Int) (m : Mem) (R : AV → Mem → Prop) (N0 : St → Prop) (N1 : St → Prop) : Prop :=
bif (decide (t74 < t73)) then (
opP (idxS 3 t72 (intA t74)) fun v42 =>
opP (ldA (mget ((200004, some ⟨[b200004_0, (intA b200004_1), (intA b200004_2)], 56⟩) :: m)) 3 v42) fun v43 =>
exA3 v43 fun c44 c45 c46 =>
ex_i64 c45 fun z47 =>
ex_i64 c46 fun z48 =>
chk (isCell c44) <| callQ Try.prog KK.gl ((300003, some ⟨[c44, (intA z47), (intA z48)], 56⟩) :: (300003, some ⟨[AV.nils, (intA (0)), (intA (0))], 56⟩) :: (200004, some ⟨[b200004_0, (intA b200004_1), (intA b200004_2)], 56⟩) :: m) 27 [(AV.agg [b200004_0, (intA b200004_1), (intA b200004_2)]), (AV.agg [c44, (intA z47), (intA z48)])] fun v49 =>
exT2 v49 fun c50 c51 =>
exB c50 fun b52 =>
ex_i64 c51 fun z53 =>
bif b52 then (
retL R ((300003, some ⟨[c44, (intA z47), (intA z48)], 56⟩) :: (300003, some ⟨[AV.nils, (intA (0)), (intA (0))], 56⟩) :: (200004, some ⟨[b200004_0, (intA b200004_1), (intA b200004_2)], 56⟩) :: m) [some (intA (19))]) else (
N1 ⟨[(2, (intA t2)), (3, t3), (10, (AV.ptr 200004 0)), (63, t63), (64, (intA t64)), (65, (intA t65)), (72, t72), (73, (intA t73)), (74, (intA (IntKind.wrap .i64 (t74 + (1))))), (75, (boolA (decide (t74 < t73)))), (76, v42), (77, (AV.agg [c44, (intA z47), (intA z48)])), (12, (AV.ptr 300003 0)), (79, (AV.agg [b200004_0, (intA b200004_1), (intA b200004_2)])), (80, (AV.agg [c44, (intA z47), (intA z48)])), (81, (AV.tup [(boolA b52), (intA z53)])), (78, (AV.tup [(boolA b52), (intA z53)])), (82, (boolA b52)), (83, (intA z53)), (13, (boolA b52)), (14, (intA z53)), (84, (boolA b52)), (85, (intA (IntKind.wrap .i64 (t74 + (1)))))], ((300003, some ⟨[c44, (intA z47), (intA z48)], 56⟩) :: (300003, some ⟨[AV.nils, (intA (0)), (intA (0))], 56⟩) :: (200004, some ⟨[b200004_0, (intA b200004_1), (intA b200004_2)], 56⟩) :: m), 300079⟩)) else (
N0 ⟨[(2, (intA t2)), (3, t3), (10, (AV.ptr 200004 0)), (63, t63), (64, (intA t64)), (65, (intA (IntKind.wrap .i64 (t65 + (1))))), (72, t72), (73, (intA t73)), (74, (intA t74)), (75, (boolA (decide (t74 < t73)))), (86, (intA (IntKind.wrap .i64 (t65 + (1)))))], ((200004, some ⟨[b200004_0, (intA b200004_1), (intA b200004_2)], 56⟩) :: m), 300003⟩)
theorem B14_1_0_eq (t2 : Int) (t3 : AV) (t63 : AV) (t64 : Int) (t65 : Int) (t72 : AV) (t73 : Int) (t74 : Int) (b200004_0 : AV) (b200004_1 : Int) (b200004_2 : Int) (m : Mem) (R : AV → Mem → Prop) (N0 : St → Prop) (N1 : St → Prop) : W Try.prog KK 87 0 c14_1_0 (h14_1_0 t2 t3 t63 t64 t65 t72 t73 t74 b200004_0 b200004_1 b200004_2 m) (qq14_1_0 R N0 N1) = B14_1_0 t2 t3 t63 t64 t65 t72 t73 t74 b200004_0 b200004_1 b200004_2 m R N0 N1 := by kernel_rfl
theorem L14_1_0 (R : AV → Mem → Prop) (N0 : St → Prop) {σ : Type} (I : σ → Prop) (t2 : σ → Int) (t3 : σ → AV) (t63 : σ → AV) (t64 : σ → Int) (t65 : σ → Int) (t72 : σ → AV) (t73 : σ → Int) (t74 : σ → Int) (b200004_0 : σ → AV) (b200004_1 : σ → Int) (b200004_2 : σ → Int) (m : σ → Mem) (μ : σ → Nat) (step : ∀ x, I x → B14_1_0 (t2 x) (t3 x) (t63 x) (t64 x) (t65 x) (t72 x) (t73 x) (t74 x) (b200004_0 x) (b200004_1 x) (b200004_2 x) (m x) R N0 (fun s' => ∃ y, I y ∧ μ y < μ x ∧ Weak KK 87 0 s' (h14_1_0 (t2 y) (t3 y) (t63 y) (t64 y) (t65 y) (t72 y) (t73 y) (t74 y) (b200004_0 y) (b200004_1 y) (b200004_2 y) (m y)))) (x : σ) (hx : I x) {s : St} (hw : Weak KK 87 0 s (h14_1_0 (t2 x) (t3 x) (t63 x) (t64 x) (t65 x) (t72 x) (t73 x) (t74 x) (b200004_0 x) (b200004_1 x) (b200004_2 x) (m x))) : Tri Try.prog KK 87 0 (.loop c14_1_0) s (q14_1_0 R N0) :=
  Tri.weak hw (Tri.loops fol I (fun x => h14_1_0 (t2 x) (t3 x) (t63 x) (t64 x) (t65 x) (t72 x) (t73 x) (t74 x) (b200004_0 x) (b200004_1 x) (b200004_2 x) (m x)) μ (fun x hx => (B14_1_0_eq (t2 x) (t3 x) (t63 x) (t64 x) (t65 x) (t72 x) (t73 x) (t74 x) (b200004_0 x) (b200004_1 x) (b200004_2 x) (m x) R N0 _).mpr (step x hx)) x hx)
noncomputable def F14 (a0 : AV) (R : AV → Mem → Prop) : Prop :=
opP (lenS a0) fun v0 =>
ex_i64 v0 fun z1 =>
bif (decide (z1 > (12))) then (
retL R [] [some (intA (2))]) else (
opP (lenS a0) fun v2 =>
ex_i64 v2 fun z3 =>
Tri Try.prog KK 87 0 (.loop c14_0) ⟨[(0, a0), (2, (intA (0))), (15, a0), (16, (intA z1)), (17, (boolA (decide (z1 > (12))))), (3, AV.nils), (18, a0), (19, (intA z3)), (20, (intA (0)))], [], 8⟩ (q14_0 R))
theorem F14_own (a0 : AV) (R : AV → Mem → Prop) (h : F14 a0 R) : Own Try.prog KK.gl 14 [a0] R := own_of_F fol Try.func14 (code := c14) (by kernel_rfl) (by kernel_rfl) (by kernel_rfl) (X := F14 a0 R) (by kernel_rfl) h
/- skyway/tube.at$1 -/
noncomputable def c54 : Code := ((Try.f54).body).getD .skip
noncomputable def q54 (R : AV → Mem → Prop) : AExit → St → Prop := retQ Try.prog Try.f54 R
noncomputable def F54 (a0_0 : Int) (a0_1 : Int) (a0_2 : Int) (a0_3 : Int) (a0_4 : Int) (a0_5 : Int) (a1 : Int) (R : AV → Mem → Prop) : Prop :=
retL R ((0, some ⟨[(intA a0_0), (intA a0_1), (intA a0_2), (intA a0_3), (intA a0_4), (intA a0_5)], 66⟩) :: []) [some (intA (IntKind.wrap .i64 (a0_0 - a1)))]
theorem F54_own (a0_0 : Int) (a0_1 : Int) (a0_2 : Int) (a0_3 : Int) (a0_4 : Int) (a0_5 : Int) (a1 : Int) (R : AV → Mem → Prop) (h : F54 a0_0 a0_1 a0_2 a0_3 a0_4 a0_5 a1 R) : Own Try.prog KK.gl 54 [(AV.agg [(intA a0_0), (intA a0_1), (intA a0_2), (intA a0_3), (intA a0_4), (intA a0_5)]), (intA a1)] R := own_of_F fol Try.func54 (code := c54) (by kernel_rfl) (by kernel_rfl) (by kernel_rfl) (X := F54 a0_0 a0_1 a0_2 a0_3 a0_4 a0_5 a1 R) (by kernel_rfl) h
end Go.Proofs.Ytfncpfnanmoapaa
