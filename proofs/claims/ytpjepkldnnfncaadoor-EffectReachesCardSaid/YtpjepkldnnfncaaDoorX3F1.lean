/- Functions of the program as conditions on their answers; printed by wip/Gen.lean.txt. -/
import Derived.Test.YtpjepkldnnfncaaDoorX3T
set_option linter.unusedVariables false
set_option maxRecDepth 100000
set_option maxHeartbeats 4000000
namespace Go.Proofs.YtpjepkldnnfncaaDoor
/- skyway/skywaykeep3.level -/
noncomputable def c21 : Code := ((Tryd.f21).body).getD .skip
noncomputable def q21 (R : AV → Mem → Prop) : AExit → St → Prop := retQ Tryd.prog Tryd.f21 R
noncomputable def F21 (R : AV → Mem → Prop) : Prop :=
opP (bld [(intA (0)), (intA (0)), (intA (0)), (intA (0))] [(0, 1), (1, 2), (3, 1)] [(2, (intA (9000)))]) fun v0 =>
opP (bld [(intA (0)), (intA (0)), (intA (0)), (intA (0)), (intA (0)), (intA (0))] [(0, 4), (4, 1), (5, 1)] [(0, v0), (1, (intA (100))), (2, (intA (50)))]) fun v1 =>
storeW Tryd.prog (mget ((3, some ⟨[(intA (0)), (intA (0)), (intA (0)), (intA (0)), (intA (0)), (intA (0))], 40⟩) :: [])) 40 (AV.ptr 3 0) v1 fun v2 d2 =>
opP (ldA (mget (mpushs ((3, some ⟨[(intA (0)), (intA (0)), (intA (0)), (intA (0)), (intA (0)), (intA (0))], 40⟩) :: []) d2)) 6 (AV.ptr 3 0)) fun v3 =>
exA6 v3 fun c4 c5 c6 c7 c8 c9 =>
ex_i64 c4 fun z10 =>
ex_i64 c5 fun z11 =>
ex_i64 c6 fun z12 =>
ex_i64 c7 fun z13 =>
ex_i64 c8 fun z14 =>
ex_i64 c9 fun z15 =>
opP (ldA (mget ((6, some ⟨[(intA (100)), (intA (10000)), (intA z12), (intA z13), (intA z14), (intA z15)], 40⟩) :: (6, some ⟨[(intA (100)), (intA z11), (intA z12), (intA z13), (intA z14), (intA z15)], 40⟩) :: (6, some ⟨[(intA z10), (intA z11), (intA z12), (intA z13), (intA z14), (intA z15)], 40⟩) :: (6, some ⟨[(intA (0)), (intA (0)), (intA (0)), (intA (0)), (intA (0)), (intA (0))], 40⟩) :: (mpushs ((3, some ⟨[(intA (0)), (intA (0)), (intA (0)), (intA (0)), (intA (0)), (intA (0))], 40⟩) :: []) d2))) 6 (AV.ptr 3 0)) fun v16 =>
exA6 v16 fun c17 c18 c19 c20 c21 c22 =>
ex_i64 c17 fun z23 =>
ex_i64 c18 fun z24 =>
ex_i64 c19 fun z25 =>
ex_i64 c20 fun z26 =>
ex_i64 c21 fun z27 =>
ex_i64 c22 fun z28 =>
opN (bsl 17 40 6 2 [(intA (0)), (intA (0)), (intA (0)), (intA (0)), (intA (0)), (intA (0))] [(0, (AV.agg [(intA z23), (intA z24), (intA z25), (intA z26), (intA z27), (intA z28)])), (1, (AV.agg [(intA (100)), (intA (10000)), (intA z12), (intA z13), (intA z14), (intA z15)]))]) ((6, some ⟨[(intA (100)), (intA (10000)), (intA z12), (intA z13), (intA z14), (intA z15)], 40⟩) :: (6, some ⟨[(intA (100)), (intA z11), (intA z12), (intA z13), (intA z14), (intA z15)], 40⟩) :: (6, some ⟨[(intA z10), (intA z11), (intA z12), (intA z13), (intA z14), (intA z15)], 40⟩) :: (6, some ⟨[(intA (0)), (intA (0)), (intA (0)), (intA (0)), (intA (0)), (intA (0))], 40⟩) :: (mpushs ((3, some ⟨[(intA (0)), (intA (0)), (intA (0)), (intA (0)), (intA (0)), (intA (0))], 40⟩) :: []) d2)) fun v29 m29 =>
retL R m29 [some v29]
theorem F21_own (R : AV → Mem → Prop) (h : F21  R) : Own Tryd.prog KK.gl 21 [] R := own_of_F fol Tryd.func21 (code := c21) (by kernel_rfl) (by kernel_rfl) (by kernel_rfl) (X := F21  R) (by kernel_rfl) h
/- skyway/skywaykeep3.climbed -/
noncomputable def c22 : Code := ((Tryd.f22).body).getD .skip
noncomputable def q22 (R : AV → Mem → Prop) : AExit → St → Prop := retQ Tryd.prog Tryd.f22 R
noncomputable def F22 (a0 : Int) (R : AV → Mem → Prop) : Prop :=
opP (bld [(AV.sc (.string ⟨#[]⟩)), (intA (0)), (intA (0)), (AV.sc (.string ⟨#[]⟩))] [(0, 1), (1, 1), (2, 1), (3, 1)] [(0, (AV.sc (.string ⟨#[65, 49]⟩))), (2, (intA a0))]) fun v0 =>
storeW Tryd.prog (mget ((0, some ⟨[(AV.sc (.string ⟨#[]⟩)), (intA (0)), (intA (0)), (AV.sc (.string ⟨#[]⟩))], 25⟩) :: [])) 25 (AV.ptr 0 0) v0 fun v1 d1 =>
retL R (mpushs ((0, some ⟨[(AV.sc (.string ⟨#[]⟩)), (intA (0)), (intA (0)), (AV.sc (.string ⟨#[]⟩))], 25⟩) :: []) d1) [(aLoad Tryd.prog (mget (mpushs ((0, some ⟨[(AV.sc (.string ⟨#[]⟩)), (intA (0)), (intA (0)), (AV.sc (.string ⟨#[]⟩))], 25⟩) :: []) d1)) 25 (AV.ptr 0 0)).map (·.1)]
theorem F22_own (a0 : Int) (R : AV → Mem → Prop) (h : F22 a0 R) : Own Tryd.prog KK.gl 22 [(intA a0)] R := own_of_F fol Tryd.func22 (code := c22) (by kernel_rfl) (by kernel_rfl) (by kernel_rfl) (X := F22 a0 R) (by kernel_rfl) h
/- skyway/skywaykeep3.jet -/
noncomputable def c23 : Code := ((Tryd.f23).body).getD .skip
noncomputable def q23 (R : AV → Mem → Prop) : AExit → St → Prop := retQ Tryd.prog Tryd.f23 R
noncomputable def F23 (R : AV → Mem → Prop) : Prop :=
opP (bld [(AV.sc (.string ⟨#[]⟩)), (intA (0)), (intA (0)), (intA (0)), (intA (0)), (intA (0)), (intA (0))] [(0, 1), (1, 1), (2, 1), (3, 1), (4, 1), (5, 1), (6, 1)] [(0, (AV.sc (.string ⟨#[74, 69, 84]⟩))), (1, (intA (1))), (2, (intA (40000))), (3, (intA (50))), (4, (intA (40))), (5, (intA (50))), (6, (intA (300)))]) fun v0 =>
storeW Tryd.prog (mget ((0, some ⟨[(AV.sc (.string ⟨#[]⟩)), (intA (0)), (intA (0)), (intA (0)), (intA (0)), (intA (0)), (intA (0))], 27⟩) :: [])) 27 (AV.ptr 0 0) v0 fun v1 d1 =>
retL R (mpushs ((0, some ⟨[(AV.sc (.string ⟨#[]⟩)), (intA (0)), (intA (0)), (intA (0)), (intA (0)), (intA (0)), (intA (0))], 27⟩) :: []) d1) [(aLoad Tryd.prog (mget (mpushs ((0, some ⟨[(AV.sc (.string ⟨#[]⟩)), (intA (0)), (intA (0)), (intA (0)), (intA (0)), (intA (0)), (intA (0))], 27⟩) :: []) d1)) 27 (AV.ptr 0 0)).map (·.1)]
theorem F23_own (R : AV → Mem → Prop) (h : F23  R) : Own Tryd.prog KK.gl 23 [] R := own_of_F fol Tryd.func23 (code := c23) (by kernel_rfl) (by kernel_rfl) (by kernel_rfl) (X := F23  R) (by kernel_rfl) h
/- skyway/plane.Check -/
noncomputable def c30 : Code := ((Tryd.f30).body).getD .skip
noncomputable def q30 (R : AV → Mem → Prop) : AExit → St → Prop := retQ Tryd.prog Tryd.f30 R
noncomputable def F30 (a0_0 : Int) (a0_1 : Int) (R : AV → Mem → Prop) : Prop :=
bif (decide (a0_0 < (-1000000))) then (
retL R ((0, some ⟨[(intA a0_0), (intA a0_1)], 29⟩) :: []) [some (intA (4))]) else (
bif (decide (a0_0 > (1000000))) then (
retL R ((0, some ⟨[(intA a0_0), (intA a0_1)], 29⟩) :: []) [some (intA (4))]) else (
bif (decide (a0_1 < (-1000000))) then (
retL R ((0, some ⟨[(intA a0_0), (intA a0_1)], 29⟩) :: []) [some (intA (4))]) else (
bif (decide (a0_1 > (1000000))) then (
retL R ((0, some ⟨[(intA a0_0), (intA a0_1)], 29⟩) :: []) [some (intA (4))]) else (
retL R ((0, some ⟨[(intA a0_0), (intA a0_1)], 29⟩) :: []) [some (intA (0))]))))
theorem F30_own (a0_0 : Int) (a0_1 : Int) (R : AV → Mem → Prop) (h : F30 a0_0 a0_1 R) : Own Tryd.prog KK.gl 30 [(AV.agg [(intA a0_0), (intA a0_1)])] R := own_of_F fol Tryd.func30 (code := c30) (by kernel_rfl) (by kernel_rfl) (by kernel_rfl) (X := F30 a0_0 a0_1 R) (by kernel_rfl) h
/- skyway/tube.Check -/
noncomputable def c12 : Code := ((Tryd.f12).body).getD .skip
noncomputable def q12 (R : AV → Mem → Prop) : AExit → St → Prop := retQ Tryd.prog Tryd.f12 R
noncomputable def c12_0 : Code := loopB c12 0
noncomputable def q12_0 (R : AV → Mem → Prop) : AExit → St → Prop := contW Tryd.prog KK 86 0 c12 0 (q12 R)
noncomputable def qq12_0 (R : AV → Mem → Prop) (N0 : St → Prop) : AExit → St → Prop := thenQ N0 (q12_0 R)
def h12_0 (t0 : AV) (t2 : Int) (t14 : AV) (t15 : Int) (t16 : Int) (m : Mem) : St := ⟨[(0, t0), (2, (intA t2)), (14, t14), (15, (intA t15)), (16, (intA t16))], m, 100000⟩
noncomputable def B12_0 (t0 : AV) (t2 : Int) (t14 : AV) (t15 : Int) (t16 : Int) (m : Mem) (R : AV → Mem → Prop) (N0 : St → Prop) : Prop :=
bif (decide (t16 < t15)) then (
opP (idxS 6 t14 (intA t16)) fun v6 =>
opP (ldA (mget m) 6 v6) fun v7 =>
exA6 v7 fun c8 c9 c10 c11 c12 c13 =>
ex_i64 c8 fun z14 =>
ex_i64 c9 fun z15 =>
ex_i64 c10 fun z16 =>
ex_i64 c11 fun z17 =>
ex_i64 c12 fun z18 =>
ex_i64 c13 fun z19 =>
bif (decide (z14 < (0))) then (
retL R ((100004, some ⟨[(intA z14), (intA z15), (intA z16), (intA z17), (intA z18), (intA z19)], 40⟩) :: (100004, some ⟨[(intA (0)), (intA (0)), (intA (0)), (intA (0)), (intA (0)), (intA (0))], 40⟩) :: m) [some (intA (12))]) else (
bif (decide (z14 > (200000))) then (
retL R ((100004, some ⟨[(intA z14), (intA z15), (intA z16), (intA z17), (intA z18), (intA z19)], 40⟩) :: (100004, some ⟨[(intA (0)), (intA (0)), (intA (0)), (intA (0)), (intA (0)), (intA (0))], 40⟩) :: m) [some (intA (12))]) else (
bif (decide (t16 > (0))) then (
opP (idxS 6 t0 (intA (IntKind.wrap .i64 (t16 - (1))))) fun v20 =>
opP (fldO 0 v20) fun v21 =>
opP (fldO 0 v21) fun v22 =>
opP (ldS (mget ((100004, some ⟨[(intA z14), (intA z15), (intA z16), (intA z17), (intA z18), (intA z19)], 40⟩) :: (100004, some ⟨[(intA (0)), (intA (0)), (intA (0)), (intA (0)), (intA (0)), (intA (0))], 40⟩) :: m)) v22) fun v23 =>
ex_i64 v23 fun z24 =>
bif (decide (z14 ≤ z24)) then (
retL R ((100004, some ⟨[(intA z14), (intA z15), (intA z16), (intA z17), (intA z18), (intA z19)], 40⟩) :: (100004, some ⟨[(intA (0)), (intA (0)), (intA (0)), (intA (0)), (intA (0)), (intA (0))], 40⟩) :: m) [some (intA (12))]) else (
callQ Tryd.prog KK.gl ((100004, some ⟨[(intA z14), (intA z15), (intA z16), (intA z17), (intA z18), (intA z19)], 40⟩) :: (100004, some ⟨[(intA (0)), (intA (0)), (intA (0)), (intA (0)), (intA (0)), (intA (0))], 40⟩) :: m) 30 [(AV.agg [(intA z15), (intA z16)])] fun v25 =>
ex_i64 v25 fun z26 =>
bif (z26 != (0)) then (
retL R ((100004, some ⟨[(intA z14), (intA z15), (intA z16), (intA z17), (intA z18), (intA z19)], 40⟩) :: (100004, some ⟨[(intA (0)), (intA (0)), (intA (0)), (intA (0)), (intA (0)), (intA (0))], 40⟩) :: m) [some (intA z26)]) else (
bif (decide (z17 < (0))) then (
retL R ((100004, some ⟨[(intA z14), (intA z15), (intA z16), (intA z17), (intA z18), (intA z19)], 40⟩) :: (100004, some ⟨[(intA (0)), (intA (0)), (intA (0)), (intA (0)), (intA (0)), (intA (0))], 40⟩) :: m) [some (intA (4))]) else (
bif (decide (z17 > (60000))) then (
retL R ((100004, some ⟨[(intA z14), (intA z15), (intA z16), (intA z17), (intA z18), (intA z19)], 40⟩) :: (100004, some ⟨[(intA (0)), (intA (0)), (intA (0)), (intA (0)), (intA (0)), (intA (0))], 40⟩) :: m) [some (intA (4))]) else (
bif (decide (z18 < (0))) then (
retL R ((100004, some ⟨[(intA z14), (intA z15), (intA z16), (intA z17), (intA z18), (intA z19)], 40⟩) :: (100004, some ⟨[(intA (0)), (intA (0)), (intA (0)), (intA (0)), (intA (0)), (intA (0))], 40⟩) :: m) [some (intA (4))]) else (
bif (decide (z18 > (1000000))) then (
retL R ((100004, some ⟨[(intA z14), (intA z15), (intA z16), (intA z17), (intA z18), (intA z19)], 40⟩) :: (100004, some ⟨[(intA (0)), (intA (0)), (intA (0)), (intA (0)), (intA (0)), (intA (0))], 40⟩) :: m) [some (intA (4))]) else (
bif (decide (z19 < (0))) then (
retL R ((100004, some ⟨[(intA z14), (intA z15), (intA z16), (intA z17), (intA z18), (intA z19)], 40⟩) :: (100004, some ⟨[(intA (0)), (intA (0)), (intA (0)), (intA (0)), (intA (0)), (intA (0))], 40⟩) :: m) [some (intA (4))]) else (
bif (decide (z19 > (60000))) then (
retL R ((100004, some ⟨[(intA z14), (intA z15), (intA z16), (intA z17), (intA z18), (intA z19)], 40⟩) :: (100004, some ⟨[(intA (0)), (intA (0)), (intA (0)), (intA (0)), (intA (0)), (intA (0))], 40⟩) :: m) [some (intA (4))]) else (
N0 ⟨[(0, t0), (2, (intA t2)), (14, t14), (15, (intA t15)), (16, (intA (IntKind.wrap .i64 (t16 + (1))))), (17, (boolA (decide (t16 < t15)))), (18, (intA t16)), (19, v6), (20, (AV.agg [(intA z14), (intA z15), (intA z16), (intA z17), (intA z18), (intA z19)])), (4, (AV.ptr 100004 0)), (3, (intA t16)), (21, (AV.ptr 100004 0)), (22, (AV.ptr 100004 0)), (23, (intA z14)), (24, (boolA (decide (z14 < (0))))), (25, (boolA false)), (26, (AV.ptr 100004 0)), (27, (AV.ptr 100004 0)), (28, (intA z14)), (29, (boolA (decide (z14 > (200000))))), (30, (boolA (decide (z14 > (200000))))), (31, (boolA false)), (32, (intA t16)), (33, (boolA (decide (t16 > (0))))), (34, (boolA true)), (35, (AV.ptr 100004 0)), (36, (AV.ptr 100004 0)), (37, (intA z14)), (38, t0), (39, (intA t16)), (40, (intA (IntKind.wrap .i64 (t16 - (1))))), (41, v20), (42, v21), (43, v22), (44, (intA z24)), (45, (boolA (decide (z14 ≤ z24)))), (46, (boolA (decide (z14 ≤ z24)))), (47, (boolA (decide (z14 ≤ z24)))), (48, (AV.ptr 100004 0)), (49, (AV.ptr 100004 1)), (50, (AV.agg [(intA z15), (intA z16)])), (51, (intA z26)), (5, (intA z26)), (52, (intA z26)), (53, (boolA (z26 != (0)))), (55, (AV.ptr 100004 0)), (56, (AV.ptr 100004 3)), (57, (intA z17)), (58, (boolA (decide (z17 < (0))))), (59, (boolA false)), (60, (AV.ptr 100004 0)), (61, (AV.ptr 100004 3)), (62, (intA z17)), (63, (boolA (decide (z17 > (60000))))), (64, (boolA (decide (z17 > (60000))))), (65, (boolA false)), (66, (AV.ptr 100004 4)), (67, (intA z18)), (68, (boolA (decide (z18 < (0))))), (69, (boolA (decide (z18 < (0))))), (70, (boolA false)), (71, (AV.ptr 100004 4)), (72, (intA z18)), (73, (boolA (decide (z18 > (1000000))))), (74, (boolA (decide (z18 > (1000000))))), (75, (boolA false)), (76, (AV.ptr 100004 5)), (77, (intA z19)), (78, (boolA (decide (z19 < (0))))), (79, (boolA (decide (z19 < (0))))), (80, (boolA false)), (81, (AV.ptr 100004 5)), (82, (intA z19)), (83, (boolA (decide (z19 > (60000))))), (84, (boolA (decide (z19 > (60000))))), (85, (intA (IntKind.wrap .i64 (t16 + (1)))))], ((100004, some ⟨[(intA z14), (intA z15), (intA z16), (intA z17), (intA z18), (intA z19)], 40⟩) :: (100004, some ⟨[(intA (0)), (intA (0)), (intA (0)), (intA (0)), (intA (0)), (intA (0))], 40⟩) :: m), 100136⟩))))))))) else (
callQ Tryd.prog KK.gl ((100004, some ⟨[(intA z14), (intA z15), (intA z16), (intA z17), (intA z18), (intA z19)], 40⟩) :: (100004, some ⟨[(intA (0)), (intA (0)), (intA (0)), (intA (0)), (intA (0)), (intA (0))], 40⟩) :: m) 30 [(AV.agg [(intA z15), (intA z16)])] fun v27 =>
ex_i64 v27 fun z28 =>
bif (z28 != (0)) then (
retL R ((100004, some ⟨[(intA z14), (intA z15), (intA z16), (intA z17), (intA z18), (intA z19)], 40⟩) :: (100004, some ⟨[(intA (0)), (intA (0)), (intA (0)), (intA (0)), (intA (0)), (intA (0))], 40⟩) :: m) [some (intA z28)]) else (
bif (decide (z17 < (0))) then (
retL R ((100004, some ⟨[(intA z14), (intA z15), (intA z16), (intA z17), (intA z18), (intA z19)], 40⟩) :: (100004, some ⟨[(intA (0)), (intA (0)), (intA (0)), (intA (0)), (intA (0)), (intA (0))], 40⟩) :: m) [some (intA (4))]) else (
bif (decide (z17 > (60000))) then (
retL R ((100004, some ⟨[(intA z14), (intA z15), (intA z16), (intA z17), (intA z18), (intA z19)], 40⟩) :: (100004, some ⟨[(intA (0)), (intA (0)), (intA (0)), (intA (0)), (intA (0)), (intA (0))], 40⟩) :: m) [some (intA (4))]) else (
bif (decide (z18 < (0))) then (
retL R ((100004, some ⟨[(intA z14), (intA z15), (intA z16), (intA z17), (intA z18), (intA z19)], 40⟩) :: (100004, some ⟨[(intA (0)), (intA (0)), (intA (0)), (intA (0)), (intA (0)), (intA (0))], 40⟩) :: m) [some (intA (4))]) else (
bif (decide (z18 > (1000000))) then (
retL R ((100004, some ⟨[(intA z14), (intA z15), (intA z16), (intA z17), (intA z18), (intA z19)], 40⟩) :: (100004, some ⟨[(intA (0)), (intA (0)), (intA (0)), (intA (0)), (intA (0)), (intA (0))], 40⟩) :: m) [some (intA (4))]) else (
bif (decide (z19 < (0))) then (
retL R ((100004, some ⟨[(intA z14), (intA z15), (intA z16), (intA z17), (intA z18), (intA z19)], 40⟩) :: (100004, some ⟨[(intA (0)), (intA (0)), (intA (0)), (intA (0)), (intA (0)), (intA (0))], 40⟩) :: m) [some (intA (4))]) else (
bif (decide (z19 > (60000))) then (
retL R ((100004, some ⟨[(intA z14), (intA z15), (intA z16), (intA z17), (intA z18), (intA z19)], 40⟩) :: (100004, some ⟨[(intA (0)), (intA (0)), (intA (0)), (intA (0)), (intA (0)), (intA (0))], 40⟩) :: m) [some (intA (4))]) else (
N0 ⟨[(0, t0), (2, (intA t2)), (14, t14), (15, (intA t15)), (16, (intA (IntKind.wrap .i64 (t16 + (1))))), (17, (boolA (decide (t16 < t15)))), (18, (intA t16)), (19, v6), (20, (AV.agg [(intA z14), (intA z15), (intA z16), (intA z17), (intA z18), (intA z19)])), (4, (AV.ptr 100004 0)), (3, (intA t16)), (21, (AV.ptr 100004 0)), (22, (AV.ptr 100004 0)), (23, (intA z14)), (24, (boolA (decide (z14 < (0))))), (25, (boolA false)), (26, (AV.ptr 100004 0)), (27, (AV.ptr 100004 0)), (28, (intA z14)), (29, (boolA (decide (z14 > (200000))))), (30, (boolA (decide (z14 > (200000))))), (31, (boolA false)), (32, (intA t16)), (33, (boolA (decide (t16 > (0))))), (34, (boolA false)), (35, (AV.tup [])), (36, (AV.tup [])), (37, (AV.tup [])), (38, (AV.tup [])), (39, (AV.tup [])), (40, (AV.tup [])), (41, (AV.tup [])), (42, (AV.tup [])), (43, (AV.tup [])), (44, (AV.tup [])), (45, (AV.tup [])), (46, (boolA false)), (47, (boolA false)), (48, (AV.ptr 100004 0)), (49, (AV.ptr 100004 1)), (50, (AV.agg [(intA z15), (intA z16)])), (51, (intA z28)), (5, (intA z28)), (52, (intA z28)), (53, (boolA (z28 != (0)))), (55, (AV.ptr 100004 0)), (56, (AV.ptr 100004 3)), (57, (intA z17)), (58, (boolA (decide (z17 < (0))))), (59, (boolA false)), (60, (AV.ptr 100004 0)), (61, (AV.ptr 100004 3)), (62, (intA z17)), (63, (boolA (decide (z17 > (60000))))), (64, (boolA (decide (z17 > (60000))))), (65, (boolA false)), (66, (AV.ptr 100004 4)), (67, (intA z18)), (68, (boolA (decide (z18 < (0))))), (69, (boolA (decide (z18 < (0))))), (70, (boolA false)), (71, (AV.ptr 100004 4)), (72, (intA z18)), (73, (boolA (decide (z18 > (1000000))))), (74, (boolA (decide (z18 > (1000000))))), (75, (boolA false)), (76, (AV.ptr 100004 5)), (77, (intA z19)), (78, (boolA (decide (z19 < (0))))), (79, (boolA (decide (z19 < (0))))), (80, (boolA false)), (81, (AV.ptr 100004 5)), (82, (intA z19)), (83, (boolA (decide (z19 > (60000))))), (84, (boolA (decide (z19 > (60000))))), (85, (intA (IntKind.wrap .i64 (t16 + (1)))))], ((100004, some ⟨[(intA z14), (intA z15), (intA z16), (intA z17), (intA z18), (intA z19)], 40⟩) :: (100004, some ⟨[(intA (0)), (intA (0)), (intA (0)), (intA (0)), (intA (0)), (intA (0))], 40⟩) :: m), 100136⟩))))))))))) else (
retL R m [some (intA (0))])
theorem B12_0_eq (t0 : AV) (t2 : Int) (t14 : AV) (t15 : Int) (t16 : Int) (m : Mem) (R : AV → Mem → Prop) (N0 : St → Prop) : W Tryd.prog KK 86 0 c12_0 (h12_0 t0 t2 t14 t15 t16 m) (qq12_0 R N0) = B12_0 t0 t2 t14 t15 t16 m R N0 := by kernel_rfl
theorem L12_0 (R : AV → Mem → Prop) {σ : Type} (I : σ → Prop) (t0 : σ → AV) (t2 : σ → Int) (t14 : σ → AV) (t15 : σ → Int) (t16 : σ → Int) (m : σ → Mem) (μ : σ → Nat) (step : ∀ x, I x → B12_0 (t0 x) (t2 x) (t14 x) (t15 x) (t16 x) (m x) R (fun s' => ∃ y, I y ∧ μ y < μ x ∧ Weak KK 86 0 s' (h12_0 (t0 y) (t2 y) (t14 y) (t15 y) (t16 y) (m y)))) (x : σ) (hx : I x) {s : St} (hw : Weak KK 86 0 s (h12_0 (t0 x) (t2 x) (t14 x) (t15 x) (t16 x) (m x))) : Tri Tryd.prog KK 86 0 (.loop c12_0) s (q12_0 R) :=
  Tri.weak hw (Tri.loops fol I (fun x => h12_0 (t0 x) (t2 x) (t14 x) (t15 x) (t16 x) (m x)) μ (fun x hx => (B12_0_eq (t0 x) (t2 x) (t14 x) (t15 x) (t16 x) (m x) R _).mpr (step x hx)) x hx)
noncomputable def F12 (a0 : AV) (R : AV → Mem → Prop) : Prop :=
opP (lenS a0) fun v0 =>
ex_i64 v0 fun z1 =>
bif (decide (z1 > (64))) then (
retL R [] [some (intA (2))]) else (
opP (lenS a0) fun v2 =>
ex_i64 v2 fun z3 =>
bif (z3 == (0)) then (
retL R [] [some (intA (3))]) else (
opP (lenS a0) fun v4 =>
ex_i64 v4 fun z5 =>
Tri Tryd.prog KK 86 0 (.loop c12_0) ⟨[(0, a0), (2, (intA (0))), (7, a0), (8, (intA z1)), (9, (boolA (decide (z1 > (64))))), (6, (boolA (decide (z1 > (64))))), (11, a0), (12, (intA z3)), (13, (boolA (z3 == (0)))), (10, (boolA (z3 == (0)))), (14, a0), (15, (intA z5)), (16, (intA (0)))], [], 12⟩ (q12_0 R)))
theorem F12_own (a0 : AV) (R : AV → Mem → Prop) (h : F12 a0 R) : Own Tryd.prog KK.gl 12 [a0] R := own_of_F fol Tryd.func12 (code := c12) (by kernel_rfl) (by kernel_rfl) (by kernel_rfl) (X := F12 a0 R) (by kernel_rfl) h
/- skyway/effect.Of$1 -/
noncomputable def c24 : Code := ((Tryd.f24).body).getD .skip
noncomputable def q24 (R : AV → Mem → Prop) : AExit → St → Prop := retQ Tryd.prog Tryd.f24 R
noncomputable def F24 (a0 : AV) (R : AV → Mem → Prop) : Prop :=
opP (ldS (mget []) a0) fun v0 =>
callQ Tryd.prog KK.gl [] 12 [v0] fun v1 =>
ex_i64 v1 fun z2 =>
retL R [] [some (intA z2)]
theorem F24_own (a0 : AV) (R : AV → Mem → Prop) (h : F24 a0 R) : Own Tryd.prog KK.gl 24 [a0] R := own_of_F fol Tryd.func24 (code := c24) (by kernel_rfl) (by kernel_rfl) (by kernel_rfl) (X := F24 a0 R) (by kernel_rfl) h
/- skyway/chart.Name -/
noncomputable def c41 : Code := ((Tryd.f41).body).getD .skip
noncomputable def q41 (R : AV → Mem → Prop) : AExit → St → Prop := retQ Tryd.prog Tryd.f41 R
noncomputable def c41_0 : Code := loopB c41 0
noncomputable def q41_0 (R : AV → Mem → Prop) : AExit → St → Prop := contW Tryd.prog KK 41 0 c41 0 (q41 R)
noncomputable def qq41_0 (R : AV → Mem → Prop) (N0 : St → Prop) : AExit → St → Prop := thenQ N0 (q41_0 R)
def h41_0 (t2 : Bool) (t14 : AV) (t15 : Int) (t16 : Int) (m : Mem) : St := ⟨[(2, (boolA t2)), (14, t14), (15, (intA t15)), (16, (intA t16))], m, 100000⟩
noncomputable def B41_0 (t2 : Bool) (t14 : AV) (t15 : Int) (t16 : Int) (m : Mem) (R : AV → Mem → Prop) (N0 : St → Prop) : Prop :=
bif (decide (t16 < t15)) then (
opP (idxS 1 t14 (intA t16)) fun v7 =>
opP (ldS (mget m) v7) fun v8 =>
ex_u8 v8 fun z9 =>
bif (decide (z9 ≥ (65))) then (
bif (decide (z9 ≤ (90))) then (
N0 ⟨[(2, (boolA t2)), (14, t14), (15, (intA t15)), (16, (intA (IntKind.wrap .i64 (t16 + (1))))), (17, (boolA (decide (t16 < t15)))), (18, (intA t16)), (19, v7), (20, (AV.sc (.int .u8 z9))), (3, (intA t16)), (4, (AV.sc (.int .u8 z9))), (21, (AV.sc (.int .u8 z9))), (22, (boolA (decide (z9 ≥ (65))))), (23, (boolA true)), (24, (AV.sc (.int .u8 z9))), (25, (boolA (decide (z9 ≤ (90))))), (26, (boolA (decide (z9 ≤ (90))))), (27, (boolA true)), (28, (AV.tup [])), (29, (AV.tup [])), (30, (AV.tup [])), (31, (AV.tup [])), (32, (AV.tup [])), (33, (AV.tup [])), (34, (AV.tup [])), (35, (AV.tup [])), (36, (AV.tup [])), (37, (AV.tup [])), (38, (boolA true)), (39, (boolA false)), (40, (intA (IntKind.wrap .i64 (t16 + (1)))))], m, 100017⟩) else (
bif (decide (t16 > (0))) then (
bif (decide (z9 ≥ (48))) then (
bif (!(decide (z9 ≤ (57)))) then (
retL R m [some (boolA false)]) else (
N0 ⟨[(2, (boolA t2)), (14, t14), (15, (intA t15)), (16, (intA (IntKind.wrap .i64 (t16 + (1))))), (17, (boolA (decide (t16 < t15)))), (18, (intA t16)), (19, v7), (20, (AV.sc (.int .u8 z9))), (3, (intA t16)), (4, (AV.sc (.int .u8 z9))), (21, (AV.sc (.int .u8 z9))), (22, (boolA (decide (z9 ≥ (65))))), (23, (boolA true)), (24, (AV.sc (.int .u8 z9))), (25, (boolA (decide (z9 ≤ (90))))), (26, (boolA (decide (z9 ≤ (90))))), (27, (boolA false)), (28, (intA t16)), (29, (boolA (decide (t16 > (0))))), (30, (boolA true)), (31, (AV.sc (.int .u8 z9))), (32, (boolA (decide (z9 ≥ (48))))), (33, (boolA (decide (z9 ≥ (48))))), (34, (boolA true)), (35, (AV.sc (.int .u8 z9))), (36, (boolA (decide (z9 ≤ (57))))), (37, (boolA (decide (z9 ≤ (57))))), (38, (boolA (decide (z9 ≤ (57))))), (39, (boolA (!(decide (z9 ≤ (57)))))), (40, (intA (IntKind.wrap .i64 (t16 + (1)))))], m, 100027⟩)) else (
retL R m [some (boolA false)])) else (
retL R m [some (boolA false)]))) else (
bif (decide (t16 > (0))) then (
bif (decide (z9 ≥ (48))) then (
bif (!(decide (z9 ≤ (57)))) then (
retL R m [some (boolA false)]) else (
N0 ⟨[(2, (boolA t2)), (14, t14), (15, (intA t15)), (16, (intA (IntKind.wrap .i64 (t16 + (1))))), (17, (boolA (decide (t16 < t15)))), (18, (intA t16)), (19, v7), (20, (AV.sc (.int .u8 z9))), (3, (intA t16)), (4, (AV.sc (.int .u8 z9))), (21, (AV.sc (.int .u8 z9))), (22, (boolA (decide (z9 ≥ (65))))), (23, (boolA false)), (24, (AV.tup [])), (25, (AV.tup [])), (26, (boolA false)), (27, (boolA false)), (28, (intA t16)), (29, (boolA (decide (t16 > (0))))), (30, (boolA true)), (31, (AV.sc (.int .u8 z9))), (32, (boolA (decide (z9 ≥ (48))))), (33, (boolA (decide (z9 ≥ (48))))), (34, (boolA true)), (35, (AV.sc (.int .u8 z9))), (36, (boolA (decide (z9 ≤ (57))))), (37, (boolA (decide (z9 ≤ (57))))), (38, (boolA (decide (z9 ≤ (57))))), (39, (boolA (!(decide (z9 ≤ (57)))))), (40, (intA (IntKind.wrap .i64 (t16 + (1)))))], m, 100025⟩)) else (
retL R m [some (boolA false)])) else (
retL R m [some (boolA false)]))) else (
retL R m [some (boolA true)])
theorem B41_0_eq (t2 : Bool) (t14 : AV) (t15 : Int) (t16 : Int) (m : Mem) (R : AV → Mem → Prop) (N0 : St → Prop) : W Tryd.prog KK 41 0 c41_0 (h41_0 t2 t14 t15 t16 m) (qq41_0 R N0) = B41_0 t2 t14 t15 t16 m R N0 := by kernel_rfl
theorem L41_0 (R : AV → Mem → Prop) {σ : Type} (I : σ → Prop) (t2 : σ → Bool) (t14 : σ → AV) (t15 : σ → Int) (t16 : σ → Int) (m : σ → Mem) (μ : σ → Nat) (step : ∀ x, I x → B41_0 (t2 x) (t14 x) (t15 x) (t16 x) (m x) R (fun s' => ∃ y, I y ∧ μ y < μ x ∧ Weak KK 41 0 s' (h41_0 (t2 y) (t14 y) (t15 y) (t16 y) (m y)))) (x : σ) (hx : I x) {s : St} (hw : Weak KK 41 0 s (h41_0 (t2 x) (t14 x) (t15 x) (t16 x) (m x))) : Tri Tryd.prog KK 41 0 (.loop c41_0) s (q41_0 R) :=
  Tri.weak hw (Tri.loops fol I (fun x => h41_0 (t2 x) (t14 x) (t15 x) (t16 x) (m x)) μ (fun x hx => (B41_0_eq (t2 x) (t14 x) (t15 x) (t16 x) (m x) R _).mpr (step x hx)) x hx)
noncomputable def F41 (a0 : ByteArray) (R : AV → Mem → Prop) : Prop :=
opP (opA Tryd.prog (.call ⟨.builtin .len, #[.tmp 0], #[9]⟩) 3 [(AV.sc (.string a0))] (mget []) 2) fun v0 =>
ex_i64 v0 fun z1 =>
bif (decide (z1 < (1))) then (
retL R [] [some (boolA false)]) else (
opP (opA Tryd.prog (.call ⟨.builtin .len, #[.tmp 0], #[9]⟩) 3 [(AV.sc (.string a0))] (mget []) 6) fun v2 =>
ex_i64 v2 fun z3 =>
bif (decide (z3 > (8))) then (
retL R [] [some (boolA false)]) else (
opP (opA Tryd.prog (.convert 9 87 (.tmp 0)) 87 [(AV.sc (.string a0))] (mget []) 10) fun v4 =>
opP (lenS v4) fun v5 =>
ex_i64 v5 fun z6 =>
Tri Tryd.prog KK 41 0 (.loop c41_0) ⟨[(0, (AV.sc (.string a0))), (2, (boolA false)), (5, (AV.sc (.string a0))), (6, (intA z1)), (7, (boolA (decide (z1 < (1))))), (8, (boolA false)), (9, (AV.sc (.string a0))), (10, (intA z3)), (11, (boolA (decide (z3 > (8))))), (12, (boolA (decide (z3 > (8))))), (13, (AV.sc (.string a0))), (14, v4), (15, (intA z6)), (16, (intA (0)))], [], 13⟩ (q41_0 R)))
theorem F41_own (a0 : ByteArray) (R : AV → Mem → Prop) (h : F41 a0 R) : Own Tryd.prog KK.gl 41 [(AV.sc (.string a0))] R := own_of_F fol Tryd.func41 (code := c41) (by kernel_rfl) (by kernel_rfl) (by kernel_rfl) (X := F41 a0 R) (by kernel_rfl) h
/- slices.Index[[]string,string] -/
noncomputable def c59 : Code := ((Tryd.f59).body).getD .skip
noncomputable def q59 (R : AV → Mem → Prop) : AExit → St → Prop := retQ Tryd.prog Tryd.f59 R
noncomputable def c59_0 : Code := loopB c59 0
noncomputable def q59_0 (R : AV → Mem → Prop) : AExit → St → Prop := contW Tryd.prog KK 19 0 c59 0 (q59 R)
noncomputable def qq59_0 (R : AV → Mem → Prop) (N0 : St → Prop) : AExit → St → Prop := thenQ N0 (q59_0 R)
def h59_0 (t0 : AV) (t1 : ByteArray) (t4 : Int) (t7 : Int) (t8 : Int) (m : Mem) : St := ⟨[(0, t0), (1, (AV.sc (.string t1))), (4, (intA t4)), (7, (intA t7)), (8, (intA t8))], m, 100000⟩
noncomputable def B59_0 (t0 : AV) (t1 : ByteArray) (t4 : Int) (t7 : Int) (t8 : Int) (m : Mem) (R : AV → Mem → Prop) (N0 : St → Prop) : Prop :=
bif (decide (t8 < t7)) then (
opP (idxS 1 t0 (intA t8)) fun v2 =>
opP (ldS (mget m) v2) fun v3 =>
exStr v3 fun s4 =>
bif ((t1).toList == (s4).toList) then (
retL R m [some (intA t8)]) else (
N0 ⟨[(0, t0), (1, (AV.sc (.string t1))), (4, (intA t4)), (7, (intA t7)), (8, (intA (IntKind.wrap .i64 (t8 + (1))))), (9, (boolA (decide (t8 < t7)))), (10, (intA t8)), (5, (intA t8)), (11, (AV.sc (.string t1))), (12, t0), (13, (intA t8)), (14, v2), (15, (AV.sc (.string s4))), (16, (boolA ((t1).toList == (s4).toList))), (18, (intA (IntKind.wrap .i64 (t8 + (1)))))], m, 100011⟩)) else (
retL R m [some (intA (-1))])
theorem B59_0_eq (t0 : AV) (t1 : ByteArray) (t4 : Int) (t7 : Int) (t8 : Int) (m : Mem) (R : AV → Mem → Prop) (N0 : St → Prop) : W Tryd.prog KK 19 0 c59_0 (h59_0 t0 t1 t4 t7 t8 m) (qq59_0 R N0) = B59_0 t0 t1 t4 t7 t8 m R N0 := by kernel_rfl
theorem L59_0 (R : AV → Mem → Prop) {σ : Type} (I : σ → Prop) (t0 : σ → AV) (t1 : σ → ByteArray) (t4 : σ → Int) (t7 : σ → Int) (t8 : σ → Int) (m : σ → Mem) (μ : σ → Nat) (step : ∀ x, I x → B59_0 (t0 x) (t1 x) (t4 x) (t7 x) (t8 x) (m x) R (fun s' => ∃ y, I y ∧ μ y < μ x ∧ Weak KK 19 0 s' (h59_0 (t0 y) (t1 y) (t4 y) (t7 y) (t8 y) (m y)))) (x : σ) (hx : I x) {s : St} (hw : Weak KK 19 0 s (h59_0 (t0 x) (t1 x) (t4 x) (t7 x) (t8 x) (m x))) : Tri Tryd.prog KK 19 0 (.loop c59_0) s (q59_0 R) :=
  Tri.weak hw (Tri.loops fol I (fun x => h59_0 (t0 x) (t1 x) (t4 x) (t7 x) (t8 x) (m x)) μ (fun x hx => (B59_0_eq (t0 x) (t1 x) (t4 x) (t7 x) (t8 x) (m x) R _).mpr (step x hx)) x hx)
noncomputable def F59 (a0 : AV) (a1 : ByteArray) (R : AV → Mem → Prop) : Prop :=
opP (lenS a0) fun v0 =>
ex_i64 v0 fun z1 =>
Tri Tryd.prog KK 19 0 (.loop c59_0) ⟨[(0, a0), (1, (AV.sc (.string a1))), (4, (intA (0))), (6, a0), (7, (intA z1)), (8, (intA (0)))], [], 4⟩ (q59_0 R)
theorem F59_own (a0 : AV) (a1 : ByteArray) (R : AV → Mem → Prop) (h : F59 a0 a1 R) : Own Tryd.prog KK.gl 59 [a0, (AV.sc (.string a1))] R := own_of_F fol Tryd.func59 (code := c59) (by kernel_rfl) (by kernel_rfl) (by kernel_rfl) (X := F59 a0 a1 R) (by kernel_rfl) h
/- skyway/phrase.kind -/
noncomputable def c52 : Code := ((Tryd.f52).body).getD .skip
noncomputable def q52 (R : AV → Mem → Prop) : AExit → St → Prop := retQ Tryd.prog Tryd.f52 R
noncomputable def F52 (a0 : ByteArray) (R : AV → Mem → Prop) : Prop :=
opP (opA Tryd.prog (.slice 96 (.tmp 0) none none none) 95 [(gval 1)] (mget []) 1) fun v0 =>
callQ Tryd.prog KK.gl [] 59 [v0, (AV.sc (.string a0))] fun v1 =>
ex_i64 v1 fun z2 =>
retL R [] [some (intA z2)]
theorem F52_own (a0 : ByteArray) (R : AV → Mem → Prop) (h : F52 a0 R) : Own Tryd.prog KK.gl 52 [(AV.sc (.string a0))] R := own_of_F fol Tryd.func52 (code := c52) (by kernel_rfl) (by kernel_rfl) (by kernel_rfl) (X := F52 a0 R) (by kernel_rfl) h
/- skyway/phrase.name -/
noncomputable def c39 : Code := ((Tryd.f39).body).getD .skip
noncomputable def q39 (R : AV → Mem → Prop) : AExit → St → Prop := retQ Tryd.prog Tryd.f39 R
noncomputable def F39 (a0 : ByteArray) (R : AV → Mem → Prop) : Prop :=
callQ Tryd.prog KK.gl [] 41 [(AV.sc (.string a0))] fun v0 =>
exB v0 fun b1 =>
bif b1 then (
callQ Tryd.prog KK.gl [] 52 [(AV.sc (.string a0))] fun v2 =>
ex_i64 v2 fun z3 =>
retL R [] [some (boolA (decide (z3 < (0))))]) else (
retL R [] [some (boolA false)])
theorem F39_own (a0 : ByteArray) (R : AV → Mem → Prop) (h : F39 a0 R) : Own Tryd.prog KK.gl 39 [(AV.sc (.string a0))] R := own_of_F fol Tryd.func39 (code := c39) (by kernel_rfl) (by kernel_rfl) (by kernel_rfl) (X := F39 a0 R) (by kernel_rfl) h
/- skyway/phrase.Check -/
noncomputable def c26 : Code := ((Tryd.f26).body).getD .skip
noncomputable def q26 (R : AV → Mem → Prop) : AExit → St → Prop := retQ Tryd.prog Tryd.f26 R
noncomputable def F26 (a0_0 : ByteArray) (a0_1 : Int) (a0_2 : Int) (a0_3 : ByteArray) (R : AV → Mem → Prop) : Prop :=
callQ Tryd.prog KK.gl ((0, some ⟨[(AV.sc (.string a0_0)), (intA a0_1), (intA a0_2), (AV.sc (.string a0_3))], 25⟩) :: []) 39 [(AV.sc (.string a0_0))] fun v0 =>
exB v0 fun b1 =>
bif (!b1) then (
retL R ((0, some ⟨[(AV.sc (.string a0_0)), (intA a0_1), (intA a0_2), (AV.sc (.string a0_3))], 25⟩) :: []) [some (intA (3))]) else (
bif (decide (a0_1 < (0))) then (
retL R ((0, some ⟨[(AV.sc (.string a0_0)), (intA a0_1), (intA a0_2), (AV.sc (.string a0_3))], 25⟩) :: []) [some (intA (1))]) else (
bif (decide (a0_1 > (6))) then (
retL R ((0, some ⟨[(AV.sc (.string a0_0)), (intA a0_1), (intA a0_2), (AV.sc (.string a0_3))], 25⟩) :: []) [some (intA (1))]) else (
bif (decide (a0_1 > (2))) then (
bif (a0_2 != (0)) then (
retL R ((0, some ⟨[(AV.sc (.string a0_0)), (intA a0_1), (intA a0_2), (AV.sc (.string a0_3))], 25⟩) :: []) [some (intA (3))]) else (
callQ Tryd.prog KK.gl ((0, some ⟨[(AV.sc (.string a0_0)), (intA a0_1), (intA a0_2), (AV.sc (.string a0_3))], 25⟩) :: []) 39 [(AV.sc (.string a0_3))] fun v2 =>
exB v2 fun b3 =>
bif (!b3) then (
retL R ((0, some ⟨[(AV.sc (.string a0_0)), (intA a0_1), (intA a0_2), (AV.sc (.string a0_3))], 25⟩) :: []) [some (intA (3))]) else (
retL R ((0, some ⟨[(AV.sc (.string a0_0)), (intA a0_1), (intA a0_2), (AV.sc (.string a0_3))], 25⟩) :: []) [some (intA (0))]))) else (
bif (!((a0_3).toList == ((⟨#[]⟩ : ByteArray)).toList)) then (
retL R ((0, some ⟨[(AV.sc (.string a0_0)), (intA a0_1), (intA a0_2), (AV.sc (.string a0_3))], 25⟩) :: []) [some (intA (3))]) else (
bif (decide (a0_2 < (0))) then (
retL R ((0, some ⟨[(AV.sc (.string a0_0)), (intA a0_1), (intA a0_2), (AV.sc (.string a0_3))], 25⟩) :: []) [some (intA (4))]) else (
opP (idxA 3 1 (gval 0) (intA a0_1)) fun v4 =>
opP (ldS (mget ((0, some ⟨[(AV.sc (.string a0_0)), (intA a0_1), (intA a0_2), (AV.sc (.string a0_3))], 25⟩) :: [])) v4) fun v5 =>
ex_i64 v5 fun z6 =>
bif (decide (a0_2 > z6)) then (
retL R ((0, some ⟨[(AV.sc (.string a0_0)), (intA a0_1), (intA a0_2), (AV.sc (.string a0_3))], 25⟩) :: []) [some (intA (4))]) else (
retL R ((0, some ⟨[(AV.sc (.string a0_0)), (intA a0_1), (intA a0_2), (AV.sc (.string a0_3))], 25⟩) :: []) [some (intA (0))])))))))
theorem F26_own (a0_0 : ByteArray) (a0_1 : Int) (a0_2 : Int) (a0_3 : ByteArray) (R : AV → Mem → Prop) (h : F26 a0_0 a0_1 a0_2 a0_3 R) : Own Tryd.prog KK.gl 26 [(AV.agg [(AV.sc (.string a0_0)), (intA a0_1), (intA a0_2), (AV.sc (.string a0_3))])] R := own_of_F fol Tryd.func26 (code := c26) (by kernel_rfl) (by kernel_rfl) (by kernel_rfl) (X := F26 a0_0 a0_1 a0_2 a0_3 R) (by kernel_rfl) h
/- skyway/effect.Of$2 -/
noncomputable def c25 : Code := ((Tryd.f25).body).getD .skip
noncomputable def q25 (R : AV → Mem → Prop) : AExit → St → Prop := retQ Tryd.prog Tryd.f25 R
noncomputable def F25 (a0 : AV) (R : AV → Mem → Prop) : Prop :=
opP (ldA (mget []) 4 a0) fun v0 =>
exA4 v0 fun c1 c2 c3 c4 =>
exStr c1 fun s5 =>
ex_i64 c2 fun z6 =>
ex_i64 c3 fun z7 =>
exStr c4 fun s8 =>
callQ Tryd.prog KK.gl [] 26 [(AV.agg [(AV.sc (.string s5)), (intA z6), (intA z7), (AV.sc (.string s8))])] fun v9 =>
ex_i64 v9 fun z10 =>
retL R [] [some (intA z10)]
theorem F25_own (a0 : AV) (R : AV → Mem → Prop) (h : F25 a0 R) : Own Tryd.prog KK.gl 25 [a0] R := own_of_F fol Tryd.func25 (code := c25) (by kernel_rfl) (by kernel_rfl) (by kernel_rfl) (X := F25 a0 R) (by kernel_rfl) h
/- skyway/aircraft.Check$1 -/
noncomputable def c40 : Code := ((Tryd.f40).body).getD .skip
noncomputable def q40 (R : AV → Mem → Prop) : AExit → St → Prop := retQ Tryd.prog Tryd.f40 R
noncomputable def F40 (a0 : Int) (a1 : Int) (R : AV → Mem → Prop) : Prop :=
bif (decide (a0 < (1))) then (
retL R [] [some (boolA true)]) else (
retL R [] [some (boolA (decide (a0 > a1)))])
theorem F40_own (a0 : Int) (a1 : Int) (R : AV → Mem → Prop) (h : F40 a0 a1 R) : Own Tryd.prog KK.gl 40 [(intA a0), (intA a1)] R := own_of_F fol Tryd.func40 (code := c40) (by kernel_rfl) (by kernel_rfl) (by kernel_rfl) (X := F40 a0 a1 R) (by kernel_rfl) h
/- skyway/aircraft.Check -/
noncomputable def c28 : Code := ((Tryd.f28).body).getD .skip
noncomputable def q28 (R : AV → Mem → Prop) : AExit → St → Prop := retQ Tryd.prog Tryd.f28 R
noncomputable def F28 (a0_0 : ByteArray) (a0_1 : Int) (a0_2 : Int) (a0_3 : Int) (a0_4 : Int) (a0_5 : Int) (a0_6 : Int) (R : AV → Mem → Prop) : Prop :=
callQ Tryd.prog KK.gl ((0, some ⟨[(AV.sc (.string a0_0)), (intA a0_1), (intA a0_2), (intA a0_3), (intA a0_4), (intA a0_5), (intA a0_6)], 27⟩) :: []) 41 [(AV.sc (.string a0_0))] fun v0 =>
exB v0 fun b1 =>
bif (!b1) then (
retL R ((0, some ⟨[(AV.sc (.string a0_0)), (intA a0_1), (intA a0_2), (intA a0_3), (intA a0_4), (intA a0_5), (intA a0_6)], 27⟩) :: []) [some (intA (5))]) else (
bif (decide (a0_1 < (0))) then (
retL R ((0, some ⟨[(AV.sc (.string a0_0)), (intA a0_1), (intA a0_2), (intA a0_3), (intA a0_4), (intA a0_5), (intA a0_6)], 27⟩) :: []) [some (intA (1))]) else (
bif (decide (a0_1 > (3))) then (
retL R ((0, some ⟨[(AV.sc (.string a0_0)), (intA a0_1), (intA a0_2), (intA a0_3), (intA a0_4), (intA a0_5), (intA a0_6)], 27⟩) :: []) [some (intA (1))]) else (
callQ Tryd.prog KK.gl ((0, some ⟨[(AV.sc (.string a0_0)), (intA a0_1), (intA a0_2), (intA a0_3), (intA a0_4), (intA a0_5), (intA a0_6)], 27⟩) :: []) 40 [(intA a0_2), (intA (60000))] fun v2 =>
exB v2 fun b3 =>
bif b3 then (
retL R ((0, some ⟨[(AV.sc (.string a0_0)), (intA a0_1), (intA a0_2), (intA a0_3), (intA a0_4), (intA a0_5), (intA a0_6)], 27⟩) :: []) [some (intA (4))]) else (
callQ Tryd.prog KK.gl ((0, some ⟨[(AV.sc (.string a0_0)), (intA a0_1), (intA a0_2), (intA a0_3), (intA a0_4), (intA a0_5), (intA a0_6)], 27⟩) :: []) 40 [(intA a0_3), (intA (200))] fun v4 =>
exB v4 fun b5 =>
bif b5 then (
retL R ((0, some ⟨[(AV.sc (.string a0_0)), (intA a0_1), (intA a0_2), (intA a0_3), (intA a0_4), (intA a0_5), (intA a0_6)], 27⟩) :: []) [some (intA (4))]) else (
callQ Tryd.prog KK.gl ((0, some ⟨[(AV.sc (.string a0_0)), (intA a0_1), (intA a0_2), (intA a0_3), (intA a0_4), (intA a0_5), (intA a0_6)], 27⟩) :: []) 40 [(intA a0_4), (intA (200))] fun v6 =>
exB v6 fun b7 =>
bif b7 then (
retL R ((0, some ⟨[(AV.sc (.string a0_0)), (intA a0_1), (intA a0_2), (intA a0_3), (intA a0_4), (intA a0_5), (intA a0_6)], 27⟩) :: []) [some (intA (4))]) else (
callQ Tryd.prog KK.gl ((0, some ⟨[(AV.sc (.string a0_0)), (intA a0_1), (intA a0_2), (intA a0_3), (intA a0_4), (intA a0_5), (intA a0_6)], 27⟩) :: []) 40 [(intA a0_5), (intA (400))] fun v8 =>
exB v8 fun b9 =>
bif b9 then (
retL R ((0, some ⟨[(AV.sc (.string a0_0)), (intA a0_1), (intA a0_2), (intA a0_3), (intA a0_4), (intA a0_5), (intA a0_6)], 27⟩) :: []) [some (intA (4))]) else (
callQ Tryd.prog KK.gl ((0, some ⟨[(AV.sc (.string a0_0)), (intA a0_1), (intA a0_2), (intA a0_3), (intA a0_4), (intA a0_5), (intA a0_6)], 27⟩) :: []) 40 [(intA a0_6), (intA (400))] fun v10 =>
exB v10 fun b11 =>
bif b11 then (
retL R ((0, some ⟨[(AV.sc (.string a0_0)), (intA a0_1), (intA a0_2), (intA a0_3), (intA a0_4), (intA a0_5), (intA a0_6)], 27⟩) :: []) [some (intA (4))]) else (
bif (decide (a0_5 > a0_6)) then (
retL R ((0, some ⟨[(AV.sc (.string a0_0)), (intA a0_1), (intA a0_2), (intA a0_3), (intA a0_4), (intA a0_5), (intA a0_6)], 27⟩) :: []) [some (intA (3))]) else (
retL R ((0, some ⟨[(AV.sc (.string a0_0)), (intA a0_1), (intA a0_2), (intA a0_3), (intA a0_4), (intA a0_5), (intA a0_6)], 27⟩) :: []) [some (intA (0))])))))))))
theorem F28_own (a0_0 : ByteArray) (a0_1 : Int) (a0_2 : Int) (a0_3 : Int) (a0_4 : Int) (a0_5 : Int) (a0_6 : Int) (R : AV → Mem → Prop) (h : F28 a0_0 a0_1 a0_2 a0_3 a0_4 a0_5 a0_6 R) : Own Tryd.prog KK.gl 28 [(AV.agg [(AV.sc (.string a0_0)), (intA a0_1), (intA a0_2), (intA a0_3), (intA a0_4), (intA a0_5), (intA a0_6)])] R := own_of_F fol Tryd.func28 (code := c28) (by kernel_rfl) (by kernel_rfl) (by kernel_rfl) (X := F28 a0_0 a0_1 a0_2 a0_3 a0_4 a0_5 a0_6 R) (by kernel_rfl) h
/- skyway/effect.Of$3 -/
noncomputable def c27 : Code := ((Tryd.f27).body).getD .skip
noncomputable def q27 (R : AV → Mem → Prop) : AExit → St → Prop := retQ Tryd.prog Tryd.f27 R
noncomputable def F27 (a0 : AV) (R : AV → Mem → Prop) : Prop :=
opP (ldA (mget []) 7 a0) fun v0 =>
exA7 v0 fun c1 c2 c3 c4 c5 c6 c7 =>
exStr c1 fun s8 =>
ex_i64 c2 fun z9 =>
ex_i64 c3 fun z10 =>
ex_i64 c4 fun z11 =>
ex_i64 c5 fun z12 =>
ex_i64 c6 fun z13 =>
ex_i64 c7 fun z14 =>
callQ Tryd.prog KK.gl [] 28 [(AV.agg [(AV.sc (.string s8)), (intA z9), (intA z10), (intA z11), (intA z12), (intA z13), (intA z14)])] fun v15 =>
ex_i64 v15 fun z16 =>
retL R [] [some (intA z16)]
theorem F27_own (a0 : AV) (R : AV → Mem → Prop) (h : F27 a0 R) : Own Tryd.prog KK.gl 27 [a0] R := own_of_F fol Tryd.func27 (code := c27) (by kernel_rfl) (by kernel_rfl) (by kernel_rfl) (X := F27 a0 R) (by kernel_rfl) h
/- skyway/effect.Of$4 -/
noncomputable def c29 : Code := ((Tryd.f29).body).getD .skip
noncomputable def q29 (R : AV → Mem → Prop) : AExit → St → Prop := retQ Tryd.prog Tryd.f29 R
noncomputable def F29 (a0 : AV) (R : AV → Mem → Prop) : Prop :=
opP (ldA (mget []) 2 a0) fun v0 =>
exA2 v0 fun c1 c2 =>
ex_i64 c1 fun z3 =>
ex_i64 c2 fun z4 =>
callQ Tryd.prog KK.gl [] 30 [(AV.agg [(intA z3), (intA z4)])] fun v5 =>
ex_i64 v5 fun z6 =>
retL R [] [some (intA z6)]
theorem F29_own (a0 : AV) (R : AV → Mem → Prop) (h : F29 a0 R) : Own Tryd.prog KK.gl 29 [a0] R := own_of_F fol Tryd.func29 (code := c29) (by kernel_rfl) (by kernel_rfl) (by kernel_rfl) (X := F29 a0 R) (by kernel_rfl) h
/- skyway/tube.ends -/
noncomputable def c34 : Code := ((Tryd.f34).body).getD .skip
noncomputable def q34 (R : AV → Mem → Prop) : AExit → St → Prop := retQ Tryd.prog Tryd.f34 R
noncomputable def F34 (a0 : AV) (R : AV → Mem → Prop) : Prop :=
opP (idxS 6 a0 (intA (0))) fun v0 =>
opP (fldO 0 v0) fun v1 =>
opP (fldO 0 v1) fun v2 =>
opP (ldS (mget []) v2) fun v3 =>
ex_i64 v3 fun z4 =>
opP (lenS a0) fun v5 =>
ex_i64 v5 fun z6 =>
opP (idxS 6 a0 (intA (IntKind.wrap .i64 (z6 - (1))))) fun v7 =>
opP (fldO 0 v7) fun v8 =>
opP (fldO 0 v8) fun v9 =>
opP (ldS (mget []) v9) fun v10 =>
ex_i64 v10 fun z11 =>
retL R [] [some (intA z4), some (intA z11)]
theorem F34_own (a0 : AV) (R : AV → Mem → Prop) (h : F34 a0 R) : Own Tryd.prog KK.gl 34 [a0] R := own_of_F fol Tryd.func34 (code := c34) (by kernel_rfl) (by kernel_rfl) (by kernel_rfl) (X := F34 a0 R) (by kernel_rfl) h
/- skyway/tube.at$1 -/
noncomputable def c48 : Code := ((Tryd.f48).body).getD .skip
noncomputable def q48 (R : AV → Mem → Prop) : AExit → St → Prop := retQ Tryd.prog Tryd.f48 R
noncomputable def F48 (a0_0 : Int) (a0_1 : Int) (a0_2 : Int) (a0_3 : Int) (a0_4 : Int) (a0_5 : Int) (a1 : Int) (R : AV → Mem → Prop) : Prop :=
retL R ((0, some ⟨[(intA a0_0), (intA a0_1), (intA a0_2), (intA a0_3), (intA a0_4), (intA a0_5)], 40⟩) :: []) [some (intA (IntKind.wrap .i64 (a0_0 - a1)))]
theorem F48_own (a0_0 : Int) (a0_1 : Int) (a0_2 : Int) (a0_3 : Int) (a0_4 : Int) (a0_5 : Int) (a1 : Int) (R : AV → Mem → Prop) (h : F48 a0_0 a0_1 a0_2 a0_3 a0_4 a0_5 a1 R) : Own Tryd.prog KK.gl 48 [(AV.agg [(intA a0_0), (intA a0_1), (intA a0_2), (intA a0_3), (intA a0_4), (intA a0_5)]), (intA a1)] R := own_of_F fol Tryd.func48 (code := c48) (by kernel_rfl) (by kernel_rfl) (by kernel_rfl) (X := F48 a0_0 a0_1 a0_2 a0_3 a0_4 a0_5 a1 R) (by kernel_rfl) h
/- slices.BinarySearchFunc[skyway/api.Tube,skyway/api.TubeNode,int] -/
noncomputable def c47 : Code := ((Tryd.f47).body).getD .skip
noncomputable def q47 (R : AV → Mem → Prop) : AExit → St → Prop := retQ Tryd.prog Tryd.f47 R
noncomputable def c47_0 : Code := loopB c47 0
noncomputable def q47_0 (R : AV → Mem → Prop) : AExit → St → Prop := contW Tryd.prog KK 49 0 c47 0 (q47 R)
noncomputable def qq47_0 (R : AV → Mem → Prop) (N0 : St → Prop) : AExit → St → Prop := thenQ N0 (q47_0 R)
def h47_0 (t0 : AV) (t1 : Int) (t2 : AV) (t6 : Int) (t7 : Bool) (t8 : Int) (t9 : Int) (t10 : Int) (m : Mem) : St := ⟨[(0, t0), (1, (intA t1)), (2, t2), (6, (intA t6)), (7, (boolA t7)), (8, (intA t8)), (9, (intA t9)), (10, (intA t10))], m, 100000⟩
noncomputable def B47_0 (t0 : AV) (t1 : Int) (t2 : AV) (t6 : Int) (t7 : Bool) (t8 : Int) (t9 : Int) (t10 : Int) (m : Mem) (R : AV → Mem → Prop) (N0 : St → Prop) : Prop :=
bif (decide (t9 < t10)) then (
opP (opA Tryd.prog (.convert 3 75 (.tmp 0)) 75 [(intA (IntKind.wrap .i64 (t9 + t10)))] (mget m) 100006) fun v2 =>
ex_u64 v2 fun z3 =>
opP (opA Tryd.prog (.binOp .shr 75 (.tmp 0) (.tmp 1) 75) 75 [(AV.sc (.int .u64 z3)), (AV.sc (.int .u64 (1)))] (mget m) 100007) fun v4 =>
ex_u64 v4 fun z5 =>
opP (opA Tryd.prog (.convert 75 3 (.tmp 0)) 3 [(AV.sc (.int .u64 z5))] (mget m) 100008) fun v6 =>
ex_i64 v6 fun z7 =>
opP (idxS 6 t0 (intA z7)) fun v8 =>
opP (ldA (mget m) 6 v8) fun v9 =>
exA6 v9 fun c10 c11 c12 c13 c14 c15 =>
ex_i64 c10 fun z16 =>
ex_i64 c11 fun z17 =>
ex_i64 c12 fun z18 =>
ex_i64 c13 fun z19 =>
ex_i64 c14 fun z20 =>
ex_i64 c15 fun z21 =>
fnArgs (some t2) (some [(AV.agg [(intA z16), (intA z17), (intA z18), (intA z19), (intA z20), (intA z21)]), (intA t1)]) fun f22 a22 => bif KK.pm f22 then callQ Tryd.prog KK.gl m f22 a22 (fun v22 =>
ex_i64 v22 fun z23 =>
bif (decide (z23 < (0))) then (
N0 ⟨[(0, t0), (1, (intA t1)), (2, t2), (6, (intA t6)), (7, (boolA t7)), (8, (intA t8)), (9, (intA (IntKind.wrap .i64 (z7 + (1))))), (10, (intA t10)), (15, (intA t9)), (16, (intA t10)), (17, (boolA (decide (t9 < t10)))), (18, (intA t9)), (19, (intA t10)), (20, (intA (IntKind.wrap .i64 (t9 + t10)))), (21, (AV.sc (.int .u64 z3))), (22, (AV.sc (.int .u64 z5))), (23, (intA z7)), (11, (intA z7)), (24, t2), (25, t0), (26, (intA z7)), (27, v8), (28, (AV.agg [(intA z16), (intA z17), (intA z18), (intA z19), (intA z20), (intA z21)])), (29, (intA t1)), (30, (intA z23)), (31, (boolA (decide (z23 < (0))))), (32, (intA z7)), (33, (intA (IntKind.wrap .i64 (z7 + (1)))))], m, 100084⟩) else (
N0 ⟨[(0, t0), (1, (intA t1)), (2, t2), (6, (intA t6)), (7, (boolA t7)), (8, (intA t8)), (9, (intA t9)), (10, (intA z7)), (15, (intA t9)), (16, (intA t10)), (17, (boolA (decide (t9 < t10)))), (18, (intA t9)), (19, (intA t10)), (20, (intA (IntKind.wrap .i64 (t9 + t10)))), (21, (AV.sc (.int .u64 z3))), (22, (AV.sc (.int .u64 z5))), (23, (intA z7)), (11, (intA z7)), (24, t2), (25, t0), (26, (intA z7)), (27, v8), (28, (AV.agg [(intA z16), (intA z17), (intA z18), (intA z19), (intA z20), (intA z21)])), (29, (intA t1)), (30, (intA z23)), (31, (boolA (decide (z23 < (0))))), (34, (intA z7))], m, 100083⟩)) else callW Tryd.prog KK.gl m 100016 f22 a22 fun v22 m22 =>
ex_i64 v22 fun z23 =>
bif (decide (z23 < (0))) then (
N0 ⟨[(0, t0), (1, (intA t1)), (2, t2), (6, (intA t6)), (7, (boolA t7)), (8, (intA t8)), (9, (intA (IntKind.wrap .i64 (z7 + (1))))), (10, (intA t10)), (15, (intA t9)), (16, (intA t10)), (17, (boolA (decide (t9 < t10)))), (18, (intA t9)), (19, (intA t10)), (20, (intA (IntKind.wrap .i64 (t9 + t10)))), (21, (AV.sc (.int .u64 z3))), (22, (AV.sc (.int .u64 z5))), (23, (intA z7)), (11, (intA z7)), (24, t2), (25, t0), (26, (intA z7)), (27, v8), (28, (AV.agg [(intA z16), (intA z17), (intA z18), (intA z19), (intA z20), (intA z21)])), (29, (intA t1)), (30, (intA z23)), (31, (boolA (decide (z23 < (0))))), (32, (intA z7)), (33, (intA (IntKind.wrap .i64 (z7 + (1)))))], m22, 100084⟩) else (
N0 ⟨[(0, t0), (1, (intA t1)), (2, t2), (6, (intA t6)), (7, (boolA t7)), (8, (intA t8)), (9, (intA t9)), (10, (intA z7)), (15, (intA t9)), (16, (intA t10)), (17, (boolA (decide (t9 < t10)))), (18, (intA t9)), (19, (intA t10)), (20, (intA (IntKind.wrap .i64 (t9 + t10)))), (21, (AV.sc (.int .u64 z3))), (22, (AV.sc (.int .u64 z5))), (23, (intA z7)), (11, (intA z7)), (24, t2), (25, t0), (26, (intA z7)), (27, v8), (28, (AV.agg [(intA z16), (intA z17), (intA z18), (intA z19), (intA z20), (intA z21)])), (29, (intA t1)), (30, (intA z23)), (31, (boolA (decide (z23 < (0))))), (34, (intA z7))], m22, 100083⟩)) else (
bif (decide (t9 < t8)) then (
opP (idxS 6 t0 (intA t9)) fun v24 =>
opP (ldA (mget m) 6 v24) fun v25 =>
exA6 v25 fun c26 c27 c28 c29 c30 c31 =>
ex_i64 c26 fun z32 =>
ex_i64 c27 fun z33 =>
ex_i64 c28 fun z34 =>
ex_i64 c29 fun z35 =>
ex_i64 c30 fun z36 =>
ex_i64 c31 fun z37 =>
fnArgs (some t2) (some [(AV.agg [(intA z32), (intA z33), (intA z34), (intA z35), (intA z36), (intA z37)]), (intA t1)]) fun f38 a38 => bif KK.pm f38 then callQ Tryd.prog KK.gl m f38 a38 (fun v38 =>
ex_i64 v38 fun z39 =>
retL R m [some (intA t9), some (boolA (z39 == (0)))]) else callW Tryd.prog KK.gl m 100014 f38 a38 fun v38 m38 =>
ex_i64 v38 fun z39 =>
retL R m38 [some (intA t9), some (boolA (z39 == (0)))]) else (
retL R m [some (intA t9), some (boolA false)]))
theorem B47_0_eq (t0 : AV) (t1 : Int) (t2 : AV) (t6 : Int) (t7 : Bool) (t8 : Int) (t9 : Int) (t10 : Int) (m : Mem) (R : AV → Mem → Prop) (N0 : St → Prop) : W Tryd.prog KK 49 0 c47_0 (h47_0 t0 t1 t2 t6 t7 t8 t9 t10 m) (qq47_0 R N0) = B47_0 t0 t1 t2 t6 t7 t8 t9 t10 m R N0 := by kernel_rfl
theorem L47_0 (R : AV → Mem → Prop) {σ : Type} (I : σ → Prop) (t0 : σ → AV) (t1 : σ → Int) (t2 : σ → AV) (t6 : σ → Int) (t7 : σ → Bool) (t8 : σ → Int) (t9 : σ → Int) (t10 : σ → Int) (m : σ → Mem) (μ : σ → Nat) (step : ∀ x, I x → B47_0 (t0 x) (t1 x) (t2 x) (t6 x) (t7 x) (t8 x) (t9 x) (t10 x) (m x) R (fun s' => ∃ y, I y ∧ μ y < μ x ∧ Weak KK 49 0 s' (h47_0 (t0 y) (t1 y) (t2 y) (t6 y) (t7 y) (t8 y) (t9 y) (t10 y) (m y)))) (x : σ) (hx : I x) {s : St} (hw : Weak KK 49 0 s (h47_0 (t0 x) (t1 x) (t2 x) (t6 x) (t7 x) (t8 x) (t9 x) (t10 x) (m x))) : Tri Tryd.prog KK 49 0 (.loop c47_0) s (q47_0 R) :=
  Tri.weak hw (Tri.loops fol I (fun x => h47_0 (t0 x) (t1 x) (t2 x) (t6 x) (t7 x) (t8 x) (t9 x) (t10 x) (m x)) μ (fun x hx => (B47_0_eq (t0 x) (t1 x) (t2 x) (t6 x) (t7 x) (t8 x) (t9 x) (t10 x) (m x) R _).mpr (step x hx)) x hx)
noncomputable def F47 (a0 : AV) (a1 : Int) (a2 : AV) (R : AV → Mem → Prop) : Prop :=
opP (lenS a0) fun v0 =>
ex_i64 v0 fun z1 =>
Tri Tryd.prog KK 49 0 (.loop c47_0) ⟨[(0, a0), (1, (intA a1)), (2, a2), (6, (intA (0))), (7, (boolA false)), (12, a0), (13, (intA z1)), (8, (intA z1)), (14, (intA z1)), (9, (intA (0))), (10, (intA z1))], [], 8⟩ (q47_0 R)
theorem F47_own (a0 : AV) (a1 : Int) (a2 : AV) (R : AV → Mem → Prop) (h : F47 a0 a1 a2 R) : Own Tryd.prog KK.gl 47 [a0, (intA a1), a2] R := own_of_F fol Tryd.func47 (code := c47) (by kernel_rfl) (by kernel_rfl) (by kernel_rfl) (X := F47 a0 a1 a2 R) (by kernel_rfl) h
/- skyway/num.DivDown -/
noncomputable def c50 : Code := ((Tryd.f50).body).getD .skip
noncomputable def q50 (R : AV → Mem → Prop) : AExit → St → Prop := retQ Tryd.prog Tryd.f50 R
noncomputable def F50 (a0 : Int) (a1 : Int) (R : AV → Mem → Prop) : Prop :=
bif (a1 == (0)) then (
retL R [] [some (intA (0)), some (intA (10))]) else (
bif (a0 == (-9223372036854775808)) then (
bif (a1 == (-1)) then (
retL R [] [some (intA (0)), some (intA (2))]) else (
opP (opA Tryd.prog (.binOp .quo 3 (.tmp 0) (.tmp 1) 3) 3 [(intA a0), (intA a1)] (mget []) 14) fun v0 =>
ex_i64 v0 fun z1 =>
opP (opA Tryd.prog (.binOp .rem 3 (.tmp 0) (.tmp 1) 3) 3 [(intA a0), (intA a1)] (mget []) 18) fun v2 =>
ex_i64 v2 fun z3 =>
bif (z3 != (0)) then (
opP (opA Tryd.prog (.binOp .neq 4 (.tmp 0) (.tmp 1) 4) 4 [(boolA (decide (a0 < (0)))), (boolA (decide (a1 < (0))))] (mget []) 25) fun v4 =>
exB v4 fun b5 =>
bif b5 then (
retL R [] [some (intA (IntKind.wrap .i64 (z1 - (1)))), some (intA (0))]) else (
retL R [] [some (intA z1), some (intA (0))])) else (
retL R [] [some (intA z1), some (intA (0))]))) else (
opP (opA Tryd.prog (.binOp .quo 3 (.tmp 0) (.tmp 1) 3) 3 [(intA a0), (intA a1)] (mget []) 12) fun v6 =>
ex_i64 v6 fun z7 =>
opP (opA Tryd.prog (.binOp .rem 3 (.tmp 0) (.tmp 1) 3) 3 [(intA a0), (intA a1)] (mget []) 16) fun v8 =>
ex_i64 v8 fun z9 =>
bif (z9 != (0)) then (
opP (opA Tryd.prog (.binOp .neq 4 (.tmp 0) (.tmp 1) 4) 4 [(boolA (decide (a0 < (0)))), (boolA (decide (a1 < (0))))] (mget []) 23) fun v10 =>
exB v10 fun b11 =>
bif b11 then (
retL R [] [some (intA (IntKind.wrap .i64 (z7 - (1)))), some (intA (0))]) else (
retL R [] [some (intA z7), some (intA (0))])) else (
retL R [] [some (intA z7), some (intA (0))])))
theorem F50_own (a0 : Int) (a1 : Int) (R : AV → Mem → Prop) (h : F50 a0 a1 R) : Own Tryd.prog KK.gl 50 [(intA a0), (intA a1)] R := own_of_F fol Tryd.func50 (code := c50) (by kernel_rfl) (by kernel_rfl) (by kernel_rfl) (X := F50 a0 a1 R) (by kernel_rfl) h
/- skyway/plane.Toward -/
noncomputable def c49 : Code := ((Tryd.f49).body).getD .skip
noncomputable def q49 (R : AV → Mem → Prop) : AExit → St → Prop := retQ Tryd.prog Tryd.f49 R
noncomputable def F49 (a0_0 : Int) (a0_1 : Int) (a1_0 : Int) (a1_1 : Int) (a2 : Int) (a3 : Int) (R : AV → Mem → Prop) : Prop :=
bif (decide (a3 ≤ (0))) then (
opP (bld [(intA (0)), (intA (0))] [(0, 1), (1, 1)] []) fun v0 =>
storeW Tryd.prog (mget ((2, some ⟨[(intA (0)), (intA (0))], 29⟩) :: (1, some ⟨[(intA a1_0), (intA a1_1)], 29⟩) :: (0, some ⟨[(intA a0_0), (intA a0_1)], 29⟩) :: [])) 29 (AV.ptr 2 0) v0 fun v1 d1 =>
retL R (mpushs ((2, some ⟨[(intA (0)), (intA (0))], 29⟩) :: (1, some ⟨[(intA a1_0), (intA a1_1)], 29⟩) :: (0, some ⟨[(intA a0_0), (intA a0_1)], 29⟩) :: []) d1) [(aLoad Tryd.prog (mget (mpushs ((2, some ⟨[(intA (0)), (intA (0))], 29⟩) :: (1, some ⟨[(intA a1_0), (intA a1_1)], 29⟩) :: (0, some ⟨[(intA a0_0), (intA a0_1)], 29⟩) :: []) d1)) 29 (AV.ptr 2 0)).map (·.1), some (intA (10))]) else (
bif (decide (a3 > (200000))) then (
opP (bld [(intA (0)), (intA (0))] [(0, 1), (1, 1)] []) fun v2 =>
storeW Tryd.prog (mget ((2, some ⟨[(intA (0)), (intA (0))], 29⟩) :: (1, some ⟨[(intA a1_0), (intA a1_1)], 29⟩) :: (0, some ⟨[(intA a0_0), (intA a0_1)], 29⟩) :: [])) 29 (AV.ptr 2 0) v2 fun v3 d3 =>
retL R (mpushs ((2, some ⟨[(intA (0)), (intA (0))], 29⟩) :: (1, some ⟨[(intA a1_0), (intA a1_1)], 29⟩) :: (0, some ⟨[(intA a0_0), (intA a0_1)], 29⟩) :: []) d3) [(aLoad Tryd.prog (mget (mpushs ((2, some ⟨[(intA (0)), (intA (0))], 29⟩) :: (1, some ⟨[(intA a1_0), (intA a1_1)], 29⟩) :: (0, some ⟨[(intA a0_0), (intA a0_1)], 29⟩) :: []) d3)) 29 (AV.ptr 2 0)).map (·.1), some (intA (4))]) else (
bif (decide (a2 < (0))) then (
opP (bld [(intA (0)), (intA (0))] [(0, 1), (1, 1)] []) fun v4 =>
storeW Tryd.prog (mget ((2, some ⟨[(intA (0)), (intA (0))], 29⟩) :: (1, some ⟨[(intA a1_0), (intA a1_1)], 29⟩) :: (0, some ⟨[(intA a0_0), (intA a0_1)], 29⟩) :: [])) 29 (AV.ptr 2 0) v4 fun v5 d5 =>
retL R (mpushs ((2, some ⟨[(intA (0)), (intA (0))], 29⟩) :: (1, some ⟨[(intA a1_0), (intA a1_1)], 29⟩) :: (0, some ⟨[(intA a0_0), (intA a0_1)], 29⟩) :: []) d5) [(aLoad Tryd.prog (mget (mpushs ((2, some ⟨[(intA (0)), (intA (0))], 29⟩) :: (1, some ⟨[(intA a1_0), (intA a1_1)], 29⟩) :: (0, some ⟨[(intA a0_0), (intA a0_1)], 29⟩) :: []) d5)) 29 (AV.ptr 2 0)).map (·.1), some (intA (4))]) else (
bif (decide (a2 > a3)) then (
opP (bld [(intA (0)), (intA (0))] [(0, 1), (1, 1)] []) fun v6 =>
storeW Tryd.prog (mget ((2, some ⟨[(intA (0)), (intA (0))], 29⟩) :: (1, some ⟨[(intA a1_0), (intA a1_1)], 29⟩) :: (0, some ⟨[(intA a0_0), (intA a0_1)], 29⟩) :: [])) 29 (AV.ptr 2 0) v6 fun v7 d7 =>
retL R (mpushs ((2, some ⟨[(intA (0)), (intA (0))], 29⟩) :: (1, some ⟨[(intA a1_0), (intA a1_1)], 29⟩) :: (0, some ⟨[(intA a0_0), (intA a0_1)], 29⟩) :: []) d7) [(aLoad Tryd.prog (mget (mpushs ((2, some ⟨[(intA (0)), (intA (0))], 29⟩) :: (1, some ⟨[(intA a1_0), (intA a1_1)], 29⟩) :: (0, some ⟨[(intA a0_0), (intA a0_1)], 29⟩) :: []) d7)) 29 (AV.ptr 2 0)).map (·.1), some (intA (4))]) else (
callQ Tryd.prog KK.gl ((2, some ⟨[(intA (0)), (intA (0))], 29⟩) :: (1, some ⟨[(intA a1_0), (intA a1_1)], 29⟩) :: (0, some ⟨[(intA a0_0), (intA a0_1)], 29⟩) :: []) 30 [(AV.agg [(intA a0_0), (intA a0_1)])] fun v8 =>
ex_i64 v8 fun z9 =>
bif (z9 != (0)) then (
opP (bld [(intA (0)), (intA (0))] [(0, 1), (1, 1)] []) fun v10 =>
callQ Tryd.prog KK.gl ((2, some ⟨[(intA (0)), (intA (0))], 29⟩) :: (1, some ⟨[(intA a1_0), (intA a1_1)], 29⟩) :: (0, some ⟨[(intA a0_0), (intA a0_1)], 29⟩) :: []) 30 [(AV.agg [(intA a0_0), (intA a0_1)])] fun v11 =>
ex_i64 v11 fun z12 =>
storeW Tryd.prog (mget ((2, some ⟨[(intA (0)), (intA (0))], 29⟩) :: (1, some ⟨[(intA a1_0), (intA a1_1)], 29⟩) :: (0, some ⟨[(intA a0_0), (intA a0_1)], 29⟩) :: [])) 29 (AV.ptr 2 0) v10 fun v13 d13 =>
retL R (mpushs ((2, some ⟨[(intA (0)), (intA (0))], 29⟩) :: (1, some ⟨[(intA a1_0), (intA a1_1)], 29⟩) :: (0, some ⟨[(intA a0_0), (intA a0_1)], 29⟩) :: []) d13) [(aLoad Tryd.prog (mget (mpushs ((2, some ⟨[(intA (0)), (intA (0))], 29⟩) :: (1, some ⟨[(intA a1_0), (intA a1_1)], 29⟩) :: (0, some ⟨[(intA a0_0), (intA a0_1)], 29⟩) :: []) d13)) 29 (AV.ptr 2 0)).map (·.1), some (intA z12)]) else (
callQ Tryd.prog KK.gl ((2, some ⟨[(intA (0)), (intA (0))], 29⟩) :: (1, some ⟨[(intA a1_0), (intA a1_1)], 29⟩) :: (0, some ⟨[(intA a0_0), (intA a0_1)], 29⟩) :: []) 30 [(AV.agg [(intA a1_0), (intA a1_1)])] fun v14 =>
ex_i64 v14 fun z15 =>
bif (z15 != (0)) then (
opP (bld [(intA (0)), (intA (0))] [(0, 1), (1, 1)] []) fun v16 =>
callQ Tryd.prog KK.gl ((2, some ⟨[(intA (0)), (intA (0))], 29⟩) :: (1, some ⟨[(intA a1_0), (intA a1_1)], 29⟩) :: (0, some ⟨[(intA a0_0), (intA a0_1)], 29⟩) :: []) 30 [(AV.agg [(intA a1_0), (intA a1_1)])] fun v17 =>
ex_i64 v17 fun z18 =>
storeW Tryd.prog (mget ((2, some ⟨[(intA (0)), (intA (0))], 29⟩) :: (1, some ⟨[(intA a1_0), (intA a1_1)], 29⟩) :: (0, some ⟨[(intA a0_0), (intA a0_1)], 29⟩) :: [])) 29 (AV.ptr 2 0) v16 fun v19 d19 =>
retL R (mpushs ((2, some ⟨[(intA (0)), (intA (0))], 29⟩) :: (1, some ⟨[(intA a1_0), (intA a1_1)], 29⟩) :: (0, some ⟨[(intA a0_0), (intA a0_1)], 29⟩) :: []) d19) [(aLoad Tryd.prog (mget (mpushs ((2, some ⟨[(intA (0)), (intA (0))], 29⟩) :: (1, some ⟨[(intA a1_0), (intA a1_1)], 29⟩) :: (0, some ⟨[(intA a0_0), (intA a0_1)], 29⟩) :: []) d19)) 29 (AV.ptr 2 0)).map (·.1), some (intA z18)]) else (
callQ Tryd.prog KK.gl ((2, some ⟨[(intA (0)), (intA (0))], 29⟩) :: (1, some ⟨[(intA a1_0), (intA a1_1)], 29⟩) :: (0, some ⟨[(intA a0_0), (intA a0_1)], 29⟩) :: []) 50 [(intA (IntKind.wrap .i64 ((IntKind.wrap .i64 (a1_0 - a0_0)) * a2))), (intA a3)] fun v20 =>
exT2 v20 fun c21 c22 =>
ex_i64 c21 fun z23 =>
ex_i64 c22 fun z24 =>
callQ Tryd.prog KK.gl ((2, some ⟨[(intA (0)), (intA (0))], 29⟩) :: (1, some ⟨[(intA a1_0), (intA a1_1)], 29⟩) :: (0, some ⟨[(intA a0_0), (intA a0_1)], 29⟩) :: []) 50 [(intA (IntKind.wrap .i64 ((IntKind.wrap .i64 (a1_1 - a0_1)) * a2))), (intA a3)] fun v25 =>
exT2 v25 fun c26 c27 =>
ex_i64 c26 fun z28 =>
ex_i64 c27 fun z29 =>
opP (bld [(intA (0)), (intA (0))] [(0, 1), (1, 1)] [(0, (intA (IntKind.wrap .i64 (a0_0 + z23)))), (1, (intA (IntKind.wrap .i64 (a0_1 + z28))))]) fun v30 =>
storeW Tryd.prog (mget ((2, some ⟨[(intA (0)), (intA (0))], 29⟩) :: (1, some ⟨[(intA a1_0), (intA a1_1)], 29⟩) :: (0, some ⟨[(intA a0_0), (intA a0_1)], 29⟩) :: [])) 29 (AV.ptr 2 0) v30 fun v31 d31 =>
retL R (mpushs ((2, some ⟨[(intA (0)), (intA (0))], 29⟩) :: (1, some ⟨[(intA a1_0), (intA a1_1)], 29⟩) :: (0, some ⟨[(intA a0_0), (intA a0_1)], 29⟩) :: []) d31) [(aLoad Tryd.prog (mget (mpushs ((2, some ⟨[(intA (0)), (intA (0))], 29⟩) :: (1, some ⟨[(intA a1_0), (intA a1_1)], 29⟩) :: (0, some ⟨[(intA a0_0), (intA a0_1)], 29⟩) :: []) d31)) 29 (AV.ptr 2 0)).map (·.1), some (intA (0))]))))))
theorem F49_own (a0_0 : Int) (a0_1 : Int) (a1_0 : Int) (a1_1 : Int) (a2 : Int) (a3 : Int) (R : AV → Mem → Prop) (h : F49 a0_0 a0_1 a1_0 a1_1 a2 a3 R) : Own Tryd.prog KK.gl 49 [(AV.agg [(intA a0_0), (intA a0_1)]), (AV.agg [(intA a1_0), (intA a1_1)]), (intA a2), (intA a3)] R := own_of_F fol Tryd.func49 (code := c49) (by kernel_rfl) (by kernel_rfl) (by kernel_rfl) (X := F49 a0_0 a0_1 a1_0 a1_1 a2 a3 R) (by kernel_rfl) h
/- skyway/num.DivUp -/
noncomputable def c36 : Code := ((Tryd.f36).body).getD .skip
noncomputable def q36 (R : AV → Mem → Prop) : AExit → St → Prop := retQ Tryd.prog Tryd.f36 R
noncomputable def F36 (a0 : Int) (a1 : Int) (R : AV → Mem → Prop) : Prop :=
callQ Tryd.prog KK.gl [] 50 [(intA a0), (intA a1)] fun v0 =>
exT2 v0 fun c1 c2 =>
ex_i64 c1 fun z3 =>
ex_i64 c2 fun z4 =>
bif (z4 == (0)) then (
opP (opA Tryd.prog (.binOp .rem 3 (.tmp 0) (.tmp 1) 3) 3 [(intA a0), (intA a1)] (mget []) 78) fun v5 =>
ex_i64 v5 fun z6 =>
bif (z6 != (0)) then (
retL R [] [some (intA (IntKind.wrap .i64 (z3 + (1)))), some (intA z4)]) else (
retL R [] [some (intA z3), some (intA z4)])) else (
retL R [] [some (intA z3), some (intA z4)])
theorem F36_own (a0 : Int) (a1 : Int) (R : AV → Mem → Prop) (h : F36 a0 a1 R) : Own Tryd.prog KK.gl 36 [(intA a0), (intA a1)] R := own_of_F fol Tryd.func36 (code := c36) (by kernel_rfl) (by kernel_rfl) (by kernel_rfl) (X := F36 a0 a1 R) (by kernel_rfl) h
/- skyway/tube.at -/
noncomputable def c35 : Code := ((Tryd.f35).body).getD .skip
noncomputable def q35 (R : AV → Mem → Prop) : AExit → St → Prop := retQ Tryd.prog Tryd.f35 R
noncomputable def F35 (a0 : AV) (a1 : Int) (R : AV → Mem → Prop) : Prop :=
callW Tryd.prog KK.gl ((0, some ⟨[(intA (0)), (intA (0)), (intA (0)), (intA (0)), (intA (0)), (intA (0))], 40⟩) :: []) 3 47 [a0, (intA a1), (AV.fn 48 [])] fun v0 m0 =>
exT2 v0 fun c1 c2 =>
ex_i64 c1 fun z3 =>
exB c2 fun b4 =>
bif b4 then (
opP (idxS 6 a0 (intA z3)) fun v5 =>
opP (ldA (mget m0) 6 v5) fun v6 =>
exA6 v6 fun c7 c8 c9 c10 c11 c12 =>
ex_i64 c7 fun z13 =>
ex_i64 c8 fun z14 =>
ex_i64 c9 fun z15 =>
ex_i64 c10 fun z16 =>
ex_i64 c11 fun z17 =>
ex_i64 c12 fun z18 =>
storeW Tryd.prog (mget m0) 40 (AV.ptr 0 0) (AV.agg [(intA z13), (intA z14), (intA z15), (intA z16), (intA z17), (intA z18)]) fun v19 d19 =>
retL R (mpushs m0 d19) [(aLoad Tryd.prog (mget (mpushs m0 d19)) 40 (AV.ptr 0 0)).map (·.1)]) else (
opM (idxS 6 a0 (intA (IntKind.wrap .i64 (z3 - (1))))) fun v20 d20 =>
opM (ldA (look' (mpushs m0 d20) (topId v20 ++ ([]))) 6 v20) fun v21 d21 =>
exA6 v21 fun c22 c23 c24 c25 c26 c27 =>
ex_i64 c22 fun z28 =>
ex_i64 c23 fun z29 =>
ex_i64 c24 fun z30 =>
ex_i64 c25 fun z31 =>
ex_i64 c26 fun z32 =>
ex_i64 c27 fun z33 =>
opM (idxS 6 a0 (intA z3)) fun v34 d34 =>
opM (ldA (look' (mpushs (mpushs (mpushs m0 d20) d21) d34) (topId v34 ++ ([]))) 6 v34) fun v35 d35 =>
exA6 v35 fun c36 c37 c38 c39 c40 c41 =>
ex_i64 c36 fun z42 =>
ex_i64 c37 fun z43 =>
ex_i64 c38 fun z44 =>
ex_i64 c39 fun z45 =>
ex_i64 c40 fun z46 =>
ex_i64 c41 fun z47 =>
storeW Tryd.prog (look' ((83, some ⟨[(intA (0)), (intA (0)), (intA (0)), (intA (0)), (intA (0)), (intA (0))], 40⟩) :: (82, some ⟨[(intA (0)), (intA (0)), (intA (0)), (intA (0)), (intA (0)), (intA (0))], 40⟩) :: (mpushs (mpushs (mpushs (mpushs m0 d20) d21) d34) d35)) (topId (AV.ptr 82 0) ++ (topId (AV.agg [(intA z28), (intA z29), (intA z30), (intA z31), (intA z32), (intA z33)]) ++ ([])))) 40 (AV.ptr 82 0) (AV.agg [(intA z28), (intA z29), (intA z30), (intA z31), (intA z32), (intA z33)]) fun v48 d48 =>
storeW Tryd.prog (look' (mpushs ((83, some ⟨[(intA (0)), (intA (0)), (intA (0)), (intA (0)), (intA (0)), (intA (0))], 40⟩) :: (82, some ⟨[(intA (0)), (intA (0)), (intA (0)), (intA (0)), (intA (0)), (intA (0))], 40⟩) :: (mpushs (mpushs (mpushs (mpushs m0 d20) d21) d34) d35)) d48) (topId (AV.ptr 83 0) ++ (topId (AV.agg [(intA z42), (intA z43), (intA z44), (intA z45), (intA z46), (intA z47)]) ++ ([])))) 40 (AV.ptr 83 0) (AV.agg [(intA z42), (intA z43), (intA z44), (intA z45), (intA z46), (intA z47)]) fun v49 d49 =>
chk (confOk [0, 0, 2, 7, 15, 0, 0, 96, 224, 0, 0, 1567, 4095] [⟨[], []⟩, ⟨[], []⟩, ⟨[], []⟩, ⟨d20, []⟩, ⟨d21, (topId v20 ++ ([]))⟩, ⟨[], []⟩, ⟨[], []⟩, ⟨d34, []⟩, ⟨d35, (topId v34 ++ ([]))⟩, ⟨[(82, some ⟨[(intA (0)), (intA (0)), (intA (0)), (intA (0)), (intA (0)), (intA (0))], 40⟩)], []⟩, ⟨[(83, some ⟨[(intA (0)), (intA (0)), (intA (0)), (intA (0)), (intA (0)), (intA (0))], 40⟩)], []⟩, ⟨d48, (topId (AV.ptr 82 0) ++ (topId (AV.agg [(intA z28), (intA z29), (intA z30), (intA z31), (intA z32), (intA z33)]) ++ ([])))⟩, ⟨d49, (topId (AV.ptr 83 0) ++ (topId (AV.agg [(intA z42), (intA z43), (intA z44), (intA z45), (intA z46), (intA z47)]) ++ ([])))⟩]) (opP (ldS (mget (mpushs (mpushs ((83, some ⟨[(intA (0)), (intA (0)), (intA (0)), (intA (0)), (intA (0)), (intA (0))], 40⟩) :: (82, some ⟨[(intA (0)), (intA (0)), (intA (0)), (intA (0)), (intA (0)), (intA (0))], 40⟩) :: (mpushs (mpushs (mpushs (mpushs m0 d20) d21) d34) d35)) d48) d49)) (AV.ptr 82 0)) fun v50 =>
ex_i64 v50 fun z51 =>
opP (ldS (mget (mpushs (mpushs ((83, some ⟨[(intA (0)), (intA (0)), (intA (0)), (intA (0)), (intA (0)), (intA (0))], 40⟩) :: (82, some ⟨[(intA (0)), (intA (0)), (intA (0)), (intA (0)), (intA (0)), (intA (0))], 40⟩) :: (mpushs (mpushs (mpushs (mpushs m0 d20) d21) d34) d35)) d48) d49)) (AV.ptr 83 0)) fun v52 =>
ex_i64 v52 fun z53 =>
opP (ldS (mget (mpushs (mpushs ((83, some ⟨[(intA (0)), (intA (0)), (intA (0)), (intA (0)), (intA (0)), (intA (0))], 40⟩) :: (82, some ⟨[(intA (0)), (intA (0)), (intA (0)), (intA (0)), (intA (0)), (intA (0))], 40⟩) :: (mpushs (mpushs (mpushs (mpushs m0 d20) d21) d34) d35)) d48) d49)) (AV.ptr 82 0)) fun v54 =>
ex_i64 v54 fun z55 =>
opP (ldA (mget (mpushs (mpushs ((83, some ⟨[(intA (0)), (intA (0)), (intA (0)), (intA (0)), (intA (0)), (intA (0))], 40⟩) :: (82, some ⟨[(intA (0)), (intA (0)), (intA (0)), (intA (0)), (intA (0)), (intA (0))], 40⟩) :: (mpushs (mpushs (mpushs (mpushs m0 d20) d21) d34) d35)) d48) d49)) 2 (AV.ptr 82 1)) fun v56 =>
exA2 v56 fun c57 c58 =>
ex_i64 c57 fun z59 =>
ex_i64 c58 fun z60 =>
opP (ldA (mget (mpushs (mpushs ((83, some ⟨[(intA (0)), (intA (0)), (intA (0)), (intA (0)), (intA (0)), (intA (0))], 40⟩) :: (82, some ⟨[(intA (0)), (intA (0)), (intA (0)), (intA (0)), (intA (0)), (intA (0))], 40⟩) :: (mpushs (mpushs (mpushs (mpushs m0 d20) d21) d34) d35)) d48) d49)) 2 (AV.ptr 83 1)) fun v61 =>
exA2 v61 fun c62 c63 =>
ex_i64 c62 fun z64 =>
ex_i64 c63 fun z65 =>
callQ Tryd.prog KK.gl (mpushs (mpushs ((83, some ⟨[(intA (0)), (intA (0)), (intA (0)), (intA (0)), (intA (0)), (intA (0))], 40⟩) :: (82, some ⟨[(intA (0)), (intA (0)), (intA (0)), (intA (0)), (intA (0)), (intA (0))], 40⟩) :: (mpushs (mpushs (mpushs (mpushs m0 d20) d21) d34) d35)) d48) d49) 49 [(AV.agg [(intA z59), (intA z60)]), (AV.agg [(intA z64), (intA z65)]), (intA (IntKind.wrap .i64 (a1 - z51))), (intA (IntKind.wrap .i64 (z53 - z55)))] fun v66 =>
exT2 v66 fun c67 c68 =>
exA2 c67 fun c69 c70 =>
ex_i64 c69 fun z71 =>
ex_i64 c70 fun z72 =>
ex_i64 c68 fun z73 =>
opP (ldS (mget ((175, some ⟨[(intA z71), (intA z72)], 29⟩) :: (175, some ⟨[(intA (0)), (intA (0))], 29⟩) :: (mpushs (mpushs ((83, some ⟨[(intA (0)), (intA (0)), (intA (0)), (intA (0)), (intA (0)), (intA (0))], 40⟩) :: (82, some ⟨[(intA (0)), (intA (0)), (intA (0)), (intA (0)), (intA (0)), (intA (0))], 40⟩) :: (mpushs (mpushs (mpushs (mpushs m0 d20) d21) d34) d35)) d48) d49))) (AV.ptr 83 3)) fun v74 =>
ex_i64 v74 fun z75 =>
opP (ldS (mget ((175, some ⟨[(intA z71), (intA z72)], 29⟩) :: (175, some ⟨[(intA (0)), (intA (0))], 29⟩) :: (mpushs (mpushs ((83, some ⟨[(intA (0)), (intA (0)), (intA (0)), (intA (0)), (intA (0)), (intA (0))], 40⟩) :: (82, some ⟨[(intA (0)), (intA (0)), (intA (0)), (intA (0)), (intA (0)), (intA (0))], 40⟩) :: (mpushs (mpushs (mpushs (mpushs m0 d20) d21) d34) d35)) d48) d49))) (AV.ptr 82 3)) fun v76 =>
ex_i64 v76 fun z77 =>
callQ Tryd.prog KK.gl ((175, some ⟨[(intA z71), (intA z72)], 29⟩) :: (175, some ⟨[(intA (0)), (intA (0))], 29⟩) :: (mpushs (mpushs ((83, some ⟨[(intA (0)), (intA (0)), (intA (0)), (intA (0)), (intA (0)), (intA (0))], 40⟩) :: (82, some ⟨[(intA (0)), (intA (0)), (intA (0)), (intA (0)), (intA (0)), (intA (0))], 40⟩) :: (mpushs (mpushs (mpushs (mpushs m0 d20) d21) d34) d35)) d48) d49)) 50 [(intA (IntKind.wrap .i64 ((IntKind.wrap .i64 (z75 - z77)) * (IntKind.wrap .i64 (a1 - z51))))), (intA (IntKind.wrap .i64 (z53 - z55)))] fun v78 =>
exT2 v78 fun c79 c80 =>
ex_i64 c79 fun z81 =>
ex_i64 c80 fun z82 =>
opP (ldS (mget ((175, some ⟨[(intA z71), (intA z72)], 29⟩) :: (175, some ⟨[(intA (0)), (intA (0))], 29⟩) :: (mpushs (mpushs ((83, some ⟨[(intA (0)), (intA (0)), (intA (0)), (intA (0)), (intA (0)), (intA (0))], 40⟩) :: (82, some ⟨[(intA (0)), (intA (0)), (intA (0)), (intA (0)), (intA (0)), (intA (0))], 40⟩) :: (mpushs (mpushs (mpushs (mpushs m0 d20) d21) d34) d35)) d48) d49))) (AV.ptr 83 4)) fun v83 =>
ex_i64 v83 fun z84 =>
opP (ldS (mget ((175, some ⟨[(intA z71), (intA z72)], 29⟩) :: (175, some ⟨[(intA (0)), (intA (0))], 29⟩) :: (mpushs (mpushs ((83, some ⟨[(intA (0)), (intA (0)), (intA (0)), (intA (0)), (intA (0)), (intA (0))], 40⟩) :: (82, some ⟨[(intA (0)), (intA (0)), (intA (0)), (intA (0)), (intA (0)), (intA (0))], 40⟩) :: (mpushs (mpushs (mpushs (mpushs m0 d20) d21) d34) d35)) d48) d49))) (AV.ptr 82 4)) fun v85 =>
ex_i64 v85 fun z86 =>
callQ Tryd.prog KK.gl ((175, some ⟨[(intA z71), (intA z72)], 29⟩) :: (175, some ⟨[(intA (0)), (intA (0))], 29⟩) :: (mpushs (mpushs ((83, some ⟨[(intA (0)), (intA (0)), (intA (0)), (intA (0)), (intA (0)), (intA (0))], 40⟩) :: (82, some ⟨[(intA (0)), (intA (0)), (intA (0)), (intA (0)), (intA (0)), (intA (0))], 40⟩) :: (mpushs (mpushs (mpushs (mpushs m0 d20) d21) d34) d35)) d48) d49)) 36 [(intA (IntKind.wrap .i64 ((IntKind.wrap .i64 (z84 - z86)) * (IntKind.wrap .i64 (a1 - z51))))), (intA (IntKind.wrap .i64 (z53 - z55)))] fun v87 =>
exT2 v87 fun c88 c89 =>
ex_i64 c88 fun z90 =>
ex_i64 c89 fun z91 =>
opP (ldS (mget ((175, some ⟨[(intA z71), (intA z72)], 29⟩) :: (175, some ⟨[(intA (0)), (intA (0))], 29⟩) :: (mpushs (mpushs ((83, some ⟨[(intA (0)), (intA (0)), (intA (0)), (intA (0)), (intA (0)), (intA (0))], 40⟩) :: (82, some ⟨[(intA (0)), (intA (0)), (intA (0)), (intA (0)), (intA (0)), (intA (0))], 40⟩) :: (mpushs (mpushs (mpushs (mpushs m0 d20) d21) d34) d35)) d48) d49))) (AV.ptr 83 5)) fun v92 =>
ex_i64 v92 fun z93 =>
opP (ldS (mget ((175, some ⟨[(intA z71), (intA z72)], 29⟩) :: (175, some ⟨[(intA (0)), (intA (0))], 29⟩) :: (mpushs (mpushs ((83, some ⟨[(intA (0)), (intA (0)), (intA (0)), (intA (0)), (intA (0)), (intA (0))], 40⟩) :: (82, some ⟨[(intA (0)), (intA (0)), (intA (0)), (intA (0)), (intA (0)), (intA (0))], 40⟩) :: (mpushs (mpushs (mpushs (mpushs m0 d20) d21) d34) d35)) d48) d49))) (AV.ptr 82 5)) fun v94 =>
ex_i64 v94 fun z95 =>
callQ Tryd.prog KK.gl ((175, some ⟨[(intA z71), (intA z72)], 29⟩) :: (175, some ⟨[(intA (0)), (intA (0))], 29⟩) :: (mpushs (mpushs ((83, some ⟨[(intA (0)), (intA (0)), (intA (0)), (intA (0)), (intA (0)), (intA (0))], 40⟩) :: (82, some ⟨[(intA (0)), (intA (0)), (intA (0)), (intA (0)), (intA (0)), (intA (0))], 40⟩) :: (mpushs (mpushs (mpushs (mpushs m0 d20) d21) d34) d35)) d48) d49)) 36 [(intA (IntKind.wrap .i64 ((IntKind.wrap .i64 (z93 - z95)) * (IntKind.wrap .i64 (a1 - z51))))), (intA (IntKind.wrap .i64 (z53 - z55)))] fun v96 =>
exT2 v96 fun c97 c98 =>
ex_i64 c97 fun z99 =>
ex_i64 c98 fun z100 =>
opP (ldS (mget ((175, some ⟨[(intA z71), (intA z72)], 29⟩) :: (175, some ⟨[(intA (0)), (intA (0))], 29⟩) :: (mpushs (mpushs ((83, some ⟨[(intA (0)), (intA (0)), (intA (0)), (intA (0)), (intA (0)), (intA (0))], 40⟩) :: (82, some ⟨[(intA (0)), (intA (0)), (intA (0)), (intA (0)), (intA (0)), (intA (0))], 40⟩) :: (mpushs (mpushs (mpushs (mpushs m0 d20) d21) d34) d35)) d48) d49))) (AV.ptr 82 3)) fun v101 =>
ex_i64 v101 fun z102 =>
opP (bld [(intA (0)), (intA (0)), (intA (0)), (intA (0))] [(0, 1), (1, 2), (3, 1)] [(0, (intA a1)), (1, (AV.agg [(intA z71), (intA z72)])), (2, (intA (IntKind.wrap .i64 (z102 + z81))))]) fun v103 =>
opP (ldS (mget ((175, some ⟨[(intA z71), (intA z72)], 29⟩) :: (175, some ⟨[(intA (0)), (intA (0))], 29⟩) :: (mpushs (mpushs ((83, some ⟨[(intA (0)), (intA (0)), (intA (0)), (intA (0)), (intA (0)), (intA (0))], 40⟩) :: (82, some ⟨[(intA (0)), (intA (0)), (intA (0)), (intA (0)), (intA (0)), (intA (0))], 40⟩) :: (mpushs (mpushs (mpushs (mpushs m0 d20) d21) d34) d35)) d48) d49))) (AV.ptr 82 4)) fun v104 =>
ex_i64 v104 fun z105 =>
opP (ldS (mget ((175, some ⟨[(intA z71), (intA z72)], 29⟩) :: (175, some ⟨[(intA (0)), (intA (0))], 29⟩) :: (mpushs (mpushs ((83, some ⟨[(intA (0)), (intA (0)), (intA (0)), (intA (0)), (intA (0)), (intA (0))], 40⟩) :: (82, some ⟨[(intA (0)), (intA (0)), (intA (0)), (intA (0)), (intA (0)), (intA (0))], 40⟩) :: (mpushs (mpushs (mpushs (mpushs m0 d20) d21) d34) d35)) d48) d49))) (AV.ptr 82 5)) fun v106 =>
ex_i64 v106 fun z107 =>
opP (bld [(intA (0)), (intA (0)), (intA (0)), (intA (0)), (intA (0)), (intA (0))] [(0, 4), (4, 1), (5, 1)] [(0, v103), (1, (intA (IntKind.wrap .i64 (z105 + z90)))), (2, (intA (IntKind.wrap .i64 (z107 + z99))))]) fun v108 =>
storeW Tryd.prog (mget ((175, some ⟨[(intA z71), (intA z72)], 29⟩) :: (175, some ⟨[(intA (0)), (intA (0))], 29⟩) :: (mpushs (mpushs ((83, some ⟨[(intA (0)), (intA (0)), (intA (0)), (intA (0)), (intA (0)), (intA (0))], 40⟩) :: (82, some ⟨[(intA (0)), (intA (0)), (intA (0)), (intA (0)), (intA (0)), (intA (0))], 40⟩) :: (mpushs (mpushs (mpushs (mpushs m0 d20) d21) d34) d35)) d48) d49))) 40 (AV.ptr 0 0) v108 fun v109 d109 =>
retL R (mpushs ((175, some ⟨[(intA z71), (intA z72)], 29⟩) :: (175, some ⟨[(intA (0)), (intA (0))], 29⟩) :: (mpushs (mpushs ((83, some ⟨[(intA (0)), (intA (0)), (intA (0)), (intA (0)), (intA (0)), (intA (0))], 40⟩) :: (82, some ⟨[(intA (0)), (intA (0)), (intA (0)), (intA (0)), (intA (0)), (intA (0))], 40⟩) :: (mpushs (mpushs (mpushs (mpushs m0 d20) d21) d34) d35)) d48) d49)) d109) [(aLoad Tryd.prog (mget (mpushs ((175, some ⟨[(intA z71), (intA z72)], 29⟩) :: (175, some ⟨[(intA (0)), (intA (0))], 29⟩) :: (mpushs (mpushs ((83, some ⟨[(intA (0)), (intA (0)), (intA (0)), (intA (0)), (intA (0)), (intA (0))], 40⟩) :: (82, some ⟨[(intA (0)), (intA (0)), (intA (0)), (intA (0)), (intA (0)), (intA (0))], 40⟩) :: (mpushs (mpushs (mpushs (mpushs m0 d20) d21) d34) d35)) d48) d49)) d109)) 40 (AV.ptr 0 0)).map (·.1)]))
theorem F35_own (a0 : AV) (a1 : Int) (R : AV → Mem → Prop) (h : F35 a0 a1 R) : Own Tryd.prog KK.gl 35 [a0, (intA a1)] R := own_of_F fol Tryd.func35 (code := c35) (by kernel_rfl) (by kernel_rfl) (by kernel_rfl) (X := F35 a0 a1 R) (by kernel_rfl) h
/- skyway/tube.At -/
noncomputable def c13 : Code := ((Tryd.f13).body).getD .skip
noncomputable def q13 (R : AV → Mem → Prop) : AExit → St → Prop := retQ Tryd.prog Tryd.f13 R
noncomputable def F13 (a0 : AV) (a1 : Int) (R : AV → Mem → Prop) : Prop :=
callQ Tryd.prog KK.gl ((0, some ⟨[(intA (0)), (intA (0)), (intA (0)), (intA (0)), (intA (0)), (intA (0))], 40⟩) :: []) 12 [a0] fun v0 =>
ex_i64 v0 fun z1 =>
bif (z1 != (0)) then (
opP (bld [(intA (0)), (intA (0)), (intA (0)), (intA (0)), (intA (0)), (intA (0))] [(0, 4), (4, 1), (5, 1)] []) fun v2 =>
storeW Tryd.prog (mget ((0, some ⟨[(intA (0)), (intA (0)), (intA (0)), (intA (0)), (intA (0)), (intA (0))], 40⟩) :: [])) 40 (AV.ptr 0 0) v2 fun v3 d3 =>
retL R (mpushs ((0, some ⟨[(intA (0)), (intA (0)), (intA (0)), (intA (0)), (intA (0)), (intA (0))], 40⟩) :: []) d3) [(aLoad Tryd.prog (mget (mpushs ((0, some ⟨[(intA (0)), (intA (0)), (intA (0)), (intA (0)), (intA (0)), (intA (0))], 40⟩) :: []) d3)) 40 (AV.ptr 0 0)).map (·.1), some (intA z1)]) else (
callQ Tryd.prog KK.gl ((0, some ⟨[(intA (0)), (intA (0)), (intA (0)), (intA (0)), (intA (0)), (intA (0))], 40⟩) :: []) 34 [a0] fun v4 =>
exT2 v4 fun c5 c6 =>
ex_i64 c5 fun z7 =>
ex_i64 c6 fun z8 =>
bif (decide (a1 < z7)) then (
opP (bld [(intA (0)), (intA (0)), (intA (0)), (intA (0)), (intA (0)), (intA (0))] [(0, 4), (4, 1), (5, 1)] []) fun v9 =>
storeW Tryd.prog (mget ((0, some ⟨[(intA (0)), (intA (0)), (intA (0)), (intA (0)), (intA (0)), (intA (0))], 40⟩) :: [])) 40 (AV.ptr 0 0) v9 fun v10 d10 =>
retL R (mpushs ((0, some ⟨[(intA (0)), (intA (0)), (intA (0)), (intA (0)), (intA (0)), (intA (0))], 40⟩) :: []) d10) [(aLoad Tryd.prog (mget (mpushs ((0, some ⟨[(intA (0)), (intA (0)), (intA (0)), (intA (0)), (intA (0)), (intA (0))], 40⟩) :: []) d10)) 40 (AV.ptr 0 0)).map (·.1), some (intA (12))]) else (
bif (decide (a1 > z8)) then (
opP (bld [(intA (0)), (intA (0)), (intA (0)), (intA (0)), (intA (0)), (intA (0))] [(0, 4), (4, 1), (5, 1)] []) fun v11 =>
storeW Tryd.prog (mget ((0, some ⟨[(intA (0)), (intA (0)), (intA (0)), (intA (0)), (intA (0)), (intA (0))], 40⟩) :: [])) 40 (AV.ptr 0 0) v11 fun v12 d12 =>
retL R (mpushs ((0, some ⟨[(intA (0)), (intA (0)), (intA (0)), (intA (0)), (intA (0)), (intA (0))], 40⟩) :: []) d12) [(aLoad Tryd.prog (mget (mpushs ((0, some ⟨[(intA (0)), (intA (0)), (intA (0)), (intA (0)), (intA (0)), (intA (0))], 40⟩) :: []) d12)) 40 (AV.ptr 0 0)).map (·.1), some (intA (12))]) else (
callQ Tryd.prog KK.gl ((0, some ⟨[(intA (0)), (intA (0)), (intA (0)), (intA (0)), (intA (0)), (intA (0))], 40⟩) :: []) 35 [a0, (intA a1)] fun v13 =>
exA6 v13 fun c14 c15 c16 c17 c18 c19 =>
ex_i64 c14 fun z20 =>
ex_i64 c15 fun z21 =>
ex_i64 c16 fun z22 =>
ex_i64 c17 fun z23 =>
ex_i64 c18 fun z24 =>
ex_i64 c19 fun z25 =>
retL R ((0, some ⟨[(intA z20), (intA z21), (intA z22), (intA z23), (intA z24), (intA z25)], 40⟩) :: (0, some ⟨[(intA (0)), (intA (0)), (intA (0)), (intA (0)), (intA (0)), (intA (0))], 40⟩) :: []) [some (AV.agg [(intA z20), (intA z21), (intA z22), (intA z23), (intA z24), (intA z25)]), some (intA (0))])))
theorem F13_own (a0 : AV) (a1 : Int) (R : AV → Mem → Prop) (h : F13 a0 a1 R) : Own Tryd.prog KK.gl 13 [a0, (intA a1)] R := own_of_F fol Tryd.func13 (code := c13) (by kernel_rfl) (by kernel_rfl) (by kernel_rfl) (X := F13 a0 a1 R) (by kernel_rfl) h
/- skyway/aircraft.Climb -/
noncomputable def c15 : Code := ((Tryd.f15).body).getD .skip
noncomputable def q15 (R : AV → Mem → Prop) : AExit → St → Prop := retQ Tryd.prog Tryd.f15 R
noncomputable def F15 (a0_0 : ByteArray) (a0_1 : Int) (a0_2 : Int) (a0_3 : Int) (a0_4 : Int) (a0_5 : Int) (a0_6 : Int) (a1 : Int) (a2 : Int) (R : AV → Mem → Prop) : Prop :=
callQ Tryd.prog KK.gl ((0, some ⟨[(AV.sc (.string a0_0)), (intA a0_1), (intA a0_2), (intA a0_3), (intA a0_4), (intA a0_5), (intA a0_6)], 27⟩) :: []) 28 [(AV.agg [(AV.sc (.string a0_0)), (intA a0_1), (intA a0_2), (intA a0_3), (intA a0_4), (intA a0_5), (intA a0_6)])] fun v0 =>
ex_i64 v0 fun z1 =>
bif (z1 != (0)) then (
retL R ((0, some ⟨[(AV.sc (.string a0_0)), (intA a0_1), (intA a0_2), (intA a0_3), (intA a0_4), (intA a0_5), (intA a0_6)], 27⟩) :: []) [some (intA (0)), some (intA z1)]) else (
bif (decide (a1 < (0))) then (
retL R ((0, some ⟨[(AV.sc (.string a0_0)), (intA a0_1), (intA a0_2), (intA a0_3), (intA a0_4), (intA a0_5), (intA a0_6)], 27⟩) :: []) [some (intA (0)), some (intA (4))]) else (
bif (decide (a1 > (60000))) then (
retL R ((0, some ⟨[(AV.sc (.string a0_0)), (intA a0_1), (intA a0_2), (intA a0_3), (intA a0_4), (intA a0_5), (intA a0_6)], 27⟩) :: []) [some (intA (0)), some (intA (4))]) else (
bif (decide (a2 < (0))) then (
retL R ((0, some ⟨[(AV.sc (.string a0_0)), (intA a0_1), (intA a0_2), (intA a0_3), (intA a0_4), (intA a0_5), (intA a0_6)], 27⟩) :: []) [some (intA (0)), some (intA (4))]) else (
bif (decide (a2 > (60000))) then (
retL R ((0, some ⟨[(AV.sc (.string a0_0)), (intA a0_1), (intA a0_2), (intA a0_3), (intA a0_4), (intA a0_5), (intA a0_6)], 27⟩) :: []) [some (intA (0)), some (intA (4))]) else (
bif (decide (a1 > a0_2)) then (
retL R ((0, some ⟨[(AV.sc (.string a0_0)), (intA a0_1), (intA a0_2), (intA a0_3), (intA a0_4), (intA a0_5), (intA a0_6)], 27⟩) :: []) [some (intA (0)), some (intA (20))]) else (
bif (decide (a2 > a0_2)) then (
retL R ((0, some ⟨[(AV.sc (.string a0_0)), (intA a0_1), (intA a0_2), (intA a0_3), (intA a0_4), (intA a0_5), (intA a0_6)], 27⟩) :: []) [some (intA (0)), some (intA (20))]) else (
bif (decide (a2 ≥ a1)) then (
callQ Tryd.prog KK.gl ((0, some ⟨[(AV.sc (.string a0_0)), (intA a0_1), (intA a0_2), (intA a0_3), (intA a0_4), (intA a0_5), (intA a0_6)], 27⟩) :: []) 36 [(intA (IntKind.wrap .i64 (a2 - a1))), (intA a0_3)] fun v2 =>
exT2 v2 fun c3 c4 =>
ex_i64 c3 fun z5 =>
ex_i64 c4 fun z6 =>
retL R ((0, some ⟨[(AV.sc (.string a0_0)), (intA a0_1), (intA a0_2), (intA a0_3), (intA a0_4), (intA a0_5), (intA a0_6)], 27⟩) :: []) [some (intA z5), some (intA z6)]) else (
callQ Tryd.prog KK.gl ((0, some ⟨[(AV.sc (.string a0_0)), (intA a0_1), (intA a0_2), (intA a0_3), (intA a0_4), (intA a0_5), (intA a0_6)], 27⟩) :: []) 36 [(intA (IntKind.wrap .i64 (a1 - a2))), (intA a0_4)] fun v7 =>
exT2 v7 fun c8 c9 =>
ex_i64 c8 fun z10 =>
ex_i64 c9 fun z11 =>
retL R ((0, some ⟨[(AV.sc (.string a0_0)), (intA a0_1), (intA a0_2), (intA a0_3), (intA a0_4), (intA a0_5), (intA a0_6)], 27⟩) :: []) [some (intA z10), some (intA z11)]))))))))
theorem F15_own (a0_0 : ByteArray) (a0_1 : Int) (a0_2 : Int) (a0_3 : Int) (a0_4 : Int) (a0_5 : Int) (a0_6 : Int) (a1 : Int) (a2 : Int) (R : AV → Mem → Prop) (h : F15 a0_0 a0_1 a0_2 a0_3 a0_4 a0_5 a0_6 a1 a2 R) : Own Tryd.prog KK.gl 15 [(AV.agg [(AV.sc (.string a0_0)), (intA a0_1), (intA a0_2), (intA a0_3), (intA a0_4), (intA a0_5), (intA a0_6)]), (intA a1), (intA a2)] R := own_of_F fol Tryd.func15 (code := c15) (by kernel_rfl) (by kernel_rfl) (by kernel_rfl) (X := F15 a0_0 a0_1 a0_2 a0_3 a0_4 a0_5 a0_6 a1 a2 R) (by kernel_rfl) h
/- (skyway/effect.task).height$1 -/
noncomputable def c54 : Code := ((Tryd.f54).body).getD .skip
noncomputable def q54 (R : AV → Mem → Prop) : AExit → St → Prop := retQ Tryd.prog Tryd.f54 R
noncomputable def F54 (a0_0 : Int) (a0_1 : Int) (a0_2 : Int) (a0_3 : Int) (a0_4 : Int) (a0_5 : Int) (a1 : AV) (R : AV → Mem → Prop) : Prop :=
opP (ldS (mget ((0, some ⟨[(intA a0_0), (intA a0_1), (intA a0_2), (intA a0_3), (intA a0_4), (intA a0_5)], 40⟩) :: [])) a1) fun v0 =>
ex_i64 v0 fun z1 =>
retL R ((0, some ⟨[(intA a0_0), (intA a0_1), (intA a0_2), (intA a0_3), (intA a0_4), (intA a0_5)], 40⟩) :: []) [some (boolA (decide (a0_0 ≥ z1)))]
theorem F54_own (a0_0 : Int) (a0_1 : Int) (a0_2 : Int) (a0_3 : Int) (a0_4 : Int) (a0_5 : Int) (a1 : AV) (R : AV → Mem → Prop) (h : F54 a0_0 a0_1 a0_2 a0_3 a0_4 a0_5 a1 R) : Own Tryd.prog KK.gl 54 [(AV.agg [(intA a0_0), (intA a0_1), (intA a0_2), (intA a0_3), (intA a0_4), (intA a0_5)]), a1] R := own_of_F fol Tryd.func54 (code := c54) (by kernel_rfl) (by kernel_rfl) (by kernel_rfl) (X := F54 a0_0 a0_1 a0_2 a0_3 a0_4 a0_5 a1 R) (by kernel_rfl) h
/- slices.IndexFunc[skyway/api.Tube,skyway/api.TubeNode] -/
noncomputable def c53 : Code := ((Tryd.f53).body).getD .skip
noncomputable def q53 (R : AV → Mem → Prop) : AExit → St → Prop := retQ Tryd.prog Tryd.f53 R
noncomputable def c53_0 : Code := loopB c53 0
noncomputable def q53_0 (R : AV → Mem → Prop) : AExit → St → Prop := contW Tryd.prog KK 19 0 c53 0 (q53 R)
noncomputable def qq53_0 (R : AV → Mem → Prop) (N0 : St → Prop) : AExit → St → Prop := thenQ N0 (q53_0 R)
def h53_0 (t0 : AV) (t1 : AV) (t4 : Int) (t7 : Int) (t8 : Int) (m : Mem) : St := ⟨[(0, t0), (1, t1), (4, (intA t4)), (7, (intA t7)), (8, (intA t8))], m, 100000⟩
noncomputable def B53_0 (t0 : AV) (t1 : AV) (t4 : Int) (t7 : Int) (t8 : Int) (m : Mem) (R : AV → Mem → Prop) (N0 : St → Prop) : Prop :=
bif (decide (t8 < t7)) then (
opP (idxS 6 t0 (intA t8)) fun v2 =>
opP (ldA (mget m) 6 v2) fun v3 =>
exA6 v3 fun c4 c5 c6 c7 c8 c9 =>
ex_i64 c4 fun z10 =>
ex_i64 c5 fun z11 =>
ex_i64 c6 fun z12 =>
ex_i64 c7 fun z13 =>
ex_i64 c8 fun z14 =>
ex_i64 c9 fun z15 =>
fnArgs (some t1) (some [(AV.agg [(intA z10), (intA z11), (intA z12), (intA z13), (intA z14), (intA z15)])]) fun f16 a16 => bif KK.pm f16 then callQ Tryd.prog KK.gl m f16 a16 (fun v16 =>
exB v16 fun b17 =>
bif b17 then (
retL R m [some (intA t8)]) else (
N0 ⟨[(0, t0), (1, t1), (4, (intA t4)), (7, (intA t7)), (8, (intA (IntKind.wrap .i64 (t8 + (1))))), (9, (boolA (decide (t8 < t7)))), (10, (intA t8)), (5, (intA t8)), (11, t1), (12, t0), (13, (intA t8)), (14, v2), (15, (AV.agg [(intA z10), (intA z11), (intA z12), (intA z13), (intA z14), (intA z15)])), (16, (boolA b17)), (18, (intA (IntKind.wrap .i64 (t8 + (1)))))], m, 100074⟩)) else callW Tryd.prog KK.gl m 100008 f16 a16 fun v16 m16 =>
exB v16 fun b17 =>
bif b17 then (
retL R m16 [some (intA t8)]) else (
N0 ⟨[(0, t0), (1, t1), (4, (intA t4)), (7, (intA t7)), (8, (intA (IntKind.wrap .i64 (t8 + (1))))), (9, (boolA (decide (t8 < t7)))), (10, (intA t8)), (5, (intA t8)), (11, t1), (12, t0), (13, (intA t8)), (14, v2), (15, (AV.agg [(intA z10), (intA z11), (intA z12), (intA z13), (intA z14), (intA z15)])), (16, (boolA b17)), (18, (intA (IntKind.wrap .i64 (t8 + (1)))))], m16, 100074⟩)) else (
retL R m [some (intA (-1))])
theorem B53_0_eq (t0 : AV) (t1 : AV) (t4 : Int) (t7 : Int) (t8 : Int) (m : Mem) (R : AV → Mem → Prop) (N0 : St → Prop) : W Tryd.prog KK 19 0 c53_0 (h53_0 t0 t1 t4 t7 t8 m) (qq53_0 R N0) = B53_0 t0 t1 t4 t7 t8 m R N0 := by kernel_rfl
theorem L53_0 (R : AV → Mem → Prop) {σ : Type} (I : σ → Prop) (t0 : σ → AV) (t1 : σ → AV) (t4 : σ → Int) (t7 : σ → Int) (t8 : σ → Int) (m : σ → Mem) (μ : σ → Nat) (step : ∀ x, I x → B53_0 (t0 x) (t1 x) (t4 x) (t7 x) (t8 x) (m x) R (fun s' => ∃ y, I y ∧ μ y < μ x ∧ Weak KK 19 0 s' (h53_0 (t0 y) (t1 y) (t4 y) (t7 y) (t8 y) (m y)))) (x : σ) (hx : I x) {s : St} (hw : Weak KK 19 0 s (h53_0 (t0 x) (t1 x) (t4 x) (t7 x) (t8 x) (m x))) : Tri Tryd.prog KK 19 0 (.loop c53_0) s (q53_0 R) :=
  Tri.weak hw (Tri.loops fol I (fun x => h53_0 (t0 x) (t1 x) (t4 x) (t7 x) (t8 x) (m x)) μ (fun x hx => (B53_0_eq (t0 x) (t1 x) (t4 x) (t7 x) (t8 x) (m x) R _).mpr (step x hx)) x hx)
noncomputable def F53 (a0 : AV) (a1 : AV) (R : AV → Mem → Prop) : Prop :=
opP (lenS a0) fun v0 =>
ex_i64 v0 fun z1 =>
Tri Tryd.prog KK 19 0 (.loop c53_0) ⟨[(0, a0), (1, a1), (4, (intA (0))), (6, a0), (7, (intA z1)), (8, (intA (0)))], [], 4⟩ (q53_0 R)
theorem F53_own (a0 : AV) (a1 : AV) (R : AV → Mem → Prop) (h : F53 a0 a1 R) : Own Tryd.prog KK.gl 53 [a0, a1] R := own_of_F fol Tryd.func53 (code := c53) (by kernel_rfl) (by kernel_rfl) (by kernel_rfl) (X := F53 a0 a1 R) (by kernel_rfl) h
/- (skyway/effect.task).height -/
noncomputable def c42 : Code := ((Tryd.f42).body).getD .skip
noncomputable def q42 (R : AV → Mem → Prop) : AExit → St → Prop := retQ Tryd.prog Tryd.f42 R
noncomputable def c42_0 : Code := loopB c42 0
noncomputable def q42_0 (R : AV → Mem → Prop) : AExit → St → Prop := contW Tryd.prog KK 141 0 c42 0 (q42 R)
noncomputable def qq42_0 (R : AV → Mem → Prop) (N0 : St → Prop) : AExit → St → Prop := thenQ N0 (q42_0 R)
def h42_0 (t2 : AV) (t3 : Int) (t4 : Int) (t7 : AV) (t84 : Int) (t85 : Int) (m : Mem) : St := ⟨[(1, (AV.ptr 0 0)), (2, t2), (3, (intA t3)), (4, (intA t4)), (6, (AV.ptr 89 0)), (7, t7), (84, (intA t84)), (85, (intA t85))], m, 100000⟩
noncomputable def B42_0 (t2 : AV) (t3 : Int) (t4 : Int) (t7 : AV) (t84 : Int) (t85 : Int) (m : Mem) (R : AV → Mem → Prop) (N0 : St → Prop) : Prop :=
bif (decide (t85 < t84)) then (
opP (idxS 6 t7 (intA t85)) fun v47 =>
opP (opA Tryd.prog (.nilCheck (.tmp 0)) 0 [v47] (mget m) 100008) fun v48 =>
opP (fldO 0 v48) fun v49 =>
opP (fldO 0 v49) fun v50 =>
opP (ldS (mget m) v50) fun v51 =>
ex_i64 v51 fun z52 =>
opP (ldS (mget m) (AV.ptr 89 0)) fun v53 =>
ex_i64 v53 fun z54 =>
bif (decide (z52 ≥ z54)) then (
opP (ldS (mget m) (AV.ptr 0 2)) fun v55 =>
ex_i64 v55 fun z56 =>
opP (opA Tryd.prog (.nilCheck (.tmp 0)) 0 [v47] (mget m) 100018) fun v57 =>
opP (fldO 0 v57) fun v58 =>
opP (fldO 3 v58) fun v59 =>
storeW Tryd.prog (mget m) 3 v59 (intA z56) fun v60 d60 =>
N0 ⟨[(1, (AV.ptr 0 0)), (2, t2), (3, (intA t3)), (4, (intA t4)), (6, (AV.ptr 89 0)), (7, t7), (84, (intA t84)), (85, (intA (IntKind.wrap .i64 (t85 + (1))))), (86, (boolA (decide (t85 < t84)))), (87, (intA t85)), (12, (intA t85)), (88, t7), (89, (intA t85)), (90, v47), (13, v47), (91, v47), (92, v48), (93, v49), (94, v50), (95, (intA z52)), (96, (intA z54)), (97, (boolA (decide (z52 ≥ z54)))), (98, v47), (99, (AV.ptr 0 0)), (100, (AV.ptr 0 2)), (101, (intA z56)), (102, v57), (103, v58), (104, v59), (139, (intA (IntKind.wrap .i64 (t85 + (1)))))], (mpushs m d60), 100024⟩) else (
opP (ldS (mget m) (AV.ptr 0 2)) fun v61 =>
ex_i64 v61 fun z62 =>
opP (ldS (mget m) (AV.ptr 0 9)) fun v63 =>
ex_i64 v63 fun z64 =>
opP (opA Tryd.prog (.nilCheck (.tmp 0)) 0 [v47] (mget m) 100023) fun v65 =>
opP (fldO 0 v65) fun v66 =>
opP (fldO 0 v66) fun v67 =>
opP (ldS (mget m) v67) fun v68 =>
ex_i64 v68 fun z69 =>
opP (ldS (mget m) (AV.ptr 0 6)) fun v70 =>
ex_i64 v70 fun z71 =>
callQ Tryd.prog KK.gl m 50 [(intA (IntKind.wrap .i64 ((IntKind.wrap .i64 (z62 - z64)) * (IntKind.wrap .i64 (z69 - z71))))), (intA t4)] fun v72 =>
exT2 v72 fun c73 c74 =>
ex_i64 c73 fun z75 =>
ex_i64 c74 fun z76 =>
opP (ldS (mget m) (AV.ptr 0 9)) fun v77 =>
ex_i64 v77 fun z78 =>
opP (opA Tryd.prog (.nilCheck (.tmp 0)) 0 [v47] (mget m) 100047) fun v79 =>
opP (fldO 0 v79) fun v80 =>
opP (fldO 3 v80) fun v81 =>
storeW Tryd.prog (mget m) 3 v81 (intA (IntKind.wrap .i64 (z78 + z75))) fun v82 d82 =>
N0 ⟨[(1, (AV.ptr 0 0)), (2, t2), (3, (intA t3)), (4, (intA t4)), (6, (AV.ptr 89 0)), (7, t7), (84, (intA t84)), (85, (intA (IntKind.wrap .i64 (t85 + (1))))), (86, (boolA (decide (t85 < t84)))), (87, (intA t85)), (12, (intA t85)), (88, t7), (89, (intA t85)), (90, v47), (13, v47), (91, v47), (92, v48), (93, v49), (94, v50), (95, (intA z52)), (96, (intA z54)), (97, (boolA (decide (z52 ≥ z54)))), (106, (AV.ptr 0 0)), (107, (AV.ptr 0 2)), (108, (intA z62)), (109, (AV.ptr 0 6)), (110, (AV.ptr 0 6)), (111, (AV.ptr 0 9)), (112, (intA z64)), (113, (intA (IntKind.wrap .i64 (z62 - z64)))), (114, v47), (115, v65), (116, v66), (117, v67), (118, (intA z69)), (119, (AV.ptr 0 6)), (120, (AV.ptr 0 6)), (121, (AV.ptr 0 6)), (122, (intA z71)), (123, (intA (IntKind.wrap .i64 (z69 - z71)))), (124, (intA (IntKind.wrap .i64 ((IntKind.wrap .i64 (z62 - z64)) * (IntKind.wrap .i64 (z69 - z71)))))), (125, (intA t4)), (126, (AV.tup [(intA z75), (intA z76)])), (105, (AV.tup [(intA z75), (intA z76)])), (127, (intA z75)), (128, (intA z76)), (14, (intA z75)), (15, (intA z76)), (129, v47), (130, (AV.ptr 0 6)), (131, (AV.ptr 0 6)), (132, (AV.ptr 0 9)), (133, (intA z78)), (134, (intA z75)), (135, (intA (IntKind.wrap .i64 (z78 + z75)))), (136, v79), (137, v80), (138, v81), (139, (intA (IntKind.wrap .i64 (t85 + (1)))))], (mpushs m d82), 100053⟩)) else (
retL R m [some t7, some (intA (0))])
theorem B42_0_eq (t2 : AV) (t3 : Int) (t4 : Int) (t7 : AV) (t84 : Int) (t85 : Int) (m : Mem) (R : AV → Mem → Prop) (N0 : St → Prop) : W Tryd.prog KK 141 0 c42_0 (h42_0 t2 t3 t4 t7 t84 t85 m) (qq42_0 R N0) = B42_0 t2 t3 t4 t7 t84 t85 m R N0 := by kernel_rfl
theorem L42_0 (R : AV → Mem → Prop) {σ : Type} (I : σ → Prop) (t2 : σ → AV) (t3 : σ → Int) (t4 : σ → Int) (t7 : σ → AV) (t84 : σ → Int) (t85 : σ → Int) (m : σ → Mem) (μ : σ → Nat) (step : ∀ x, I x → B42_0 (t2 x) (t3 x) (t4 x) (t7 x) (t84 x) (t85 x) (m x) R (fun s' => ∃ y, I y ∧ μ y < μ x ∧ Weak KK 141 0 s' (h42_0 (t2 y) (t3 y) (t4 y) (t7 y) (t84 y) (t85 y) (m y)))) (x : σ) (hx : I x) {s : St} (hw : Weak KK 141 0 s (h42_0 (t2 x) (t3 x) (t4 x) (t7 x) (t84 x) (t85 x) (m x))) : Tri Tryd.prog KK 141 0 (.loop c42_0) s (q42_0 R) :=
  Tri.weak hw (Tri.loops fol I (fun x => h42_0 (t2 x) (t3 x) (t4 x) (t7 x) (t84 x) (t85 x) (m x)) μ (fun x hx => (B42_0_eq (t2 x) (t3 x) (t4 x) (t7 x) (t84 x) (t85 x) (m x) R _).mpr (step x hx)) x hx)
noncomputable def F42 (a0_0 : ByteArray) (a0_1 : Int) (a0_2 : Int) (a0_3 : ByteArray) (a0_4 : AV) (a0_5 : AV) (a0_6 : Int) (a0_7 : Int) (a0_8 : Int) (a0_9 : Int) (a0_10 : Int) (a0_11 : Int) (a0_12 : ByteArray) (a0_13 : Int) (a0_14 : Int) (a0_15 : Int) (a0_16 : Int) (a0_17 : Int) (a0_18 : Int) (a0_19 : Int) (a0_20 : Int) (a0_21 : AV) (R : AV → Mem → Prop) : Prop :=
chk (isCell a0_4) <| chk (isCell a0_5) <| chk (isCell a0_21) <| callQ Tryd.prog KK.gl ((0, some ⟨[(AV.sc (.string a0_0)), (intA a0_1), (intA a0_2), (AV.sc (.string a0_3)), a0_4, a0_5, (intA a0_6), (intA a0_7), (intA a0_8), (intA a0_9), (intA a0_10), (intA a0_11), (AV.sc (.string a0_12)), (intA a0_13), (intA a0_14), (intA a0_15), (intA a0_16), (intA a0_17), (intA a0_18), (intA a0_19), (intA a0_20), a0_21], 65⟩) :: []) 15 [(AV.agg [(AV.sc (.string a0_12)), (intA a0_13), (intA a0_14), (intA a0_15), (intA a0_16), (intA a0_17), (intA a0_18)]), (intA a0_9), (intA a0_2)] fun v0 =>
exT2 v0 fun c1 c2 =>
ex_i64 c1 fun z3 =>
ex_i64 c2 fun z4 =>
bif (z4 != (0)) then (
retL R ((0, some ⟨[(AV.sc (.string a0_0)), (intA a0_1), (intA a0_2), (AV.sc (.string a0_3)), a0_4, a0_5, (intA a0_6), (intA a0_7), (intA a0_8), (intA a0_9), (intA a0_10), (intA a0_11), (AV.sc (.string a0_12)), (intA a0_13), (intA a0_14), (intA a0_15), (intA a0_16), (intA a0_17), (intA a0_18), (intA a0_19), (intA a0_20), a0_21], 65⟩) :: []) [some AV.nils, some (intA z4)]) else (
callW Tryd.prog KK.gl ((89, some ⟨[(intA (IntKind.wrap .i64 (a0_6 + z3)))], 3⟩) :: (89, some ⟨[(intA (0))], 3⟩) :: (0, some ⟨[(AV.sc (.string a0_0)), (intA a0_1), (intA a0_2), (AV.sc (.string a0_3)), a0_4, a0_5, (intA a0_6), (intA a0_7), (intA a0_8), (intA a0_9), (intA a0_10), (intA a0_11), (AV.sc (.string a0_12)), (intA a0_13), (intA a0_14), (intA a0_15), (intA a0_16), (intA a0_17), (intA a0_18), (intA a0_19), (intA a0_20), a0_21], 65⟩) :: []) 93 32 [a0_5] fun v5 m5 =>
opP (lenS v5) fun v6 =>
ex_i64 v6 fun z7 =>
bif (decide (z3 > (0))) then (
bif (decide (z7 > (0))) then (
opP (ldS (mget m5) (AV.ptr 89 0)) fun v8 =>
ex_i64 v8 fun z9 =>
opP (idxS 6 v5 (intA (IntKind.wrap .i64 (z7 - (1))))) fun v10 =>
opP (fldO 0 v10) fun v11 =>
opP (fldO 0 v11) fun v12 =>
opP (ldS (mget m5) v12) fun v13 =>
ex_i64 v13 fun z14 =>
bif (decide (z9 < z14)) then (
callQ Tryd.prog KK.gl m5 53 [v5, (AV.fn 54 [(AV.ptr 89 0)])] fun v15 =>
ex_i64 v15 fun z16 =>
opP (idxS 6 v5 (intA z16)) fun v17 =>
opP (fldO 0 v17) fun v18 =>
opP (fldO 0 v18) fun v19 =>
opP (ldS (mget m5) v19) fun v20 =>
ex_i64 v20 fun z21 =>
opP (ldS (mget m5) (AV.ptr 89 0)) fun v22 =>
ex_i64 v22 fun z23 =>
bif (z21 != z23) then (
opP (ldS (mget m5) (AV.ptr 0 21)) fun v24 =>
opP (ldS (mget m5) (AV.ptr 89 0)) fun v25 =>
ex_i64 v25 fun z26 =>
callQ Tryd.prog KK.gl m5 13 [v24, (intA z26)] fun v27 =>
exT2 v27 fun c28 c29 =>
exA6 c28 fun c30 c31 c32 c33 c34 c35 =>
ex_i64 c30 fun z36 =>
ex_i64 c31 fun z37 =>
ex_i64 c32 fun z38 =>
ex_i64 c33 fun z39 =>
ex_i64 c34 fun z40 =>
ex_i64 c35 fun z41 =>
ex_i64 c29 fun z42 =>
opN (bsl 329 40 6 1 [(intA (0)), (intA (0)), (intA (0)), (intA (0)), (intA (0)), (intA (0))] [(0, (AV.agg [(intA z36), (intA z37), (intA z38), (intA z39), (intA z40), (intA z41)]))]) ((323, some ⟨[(intA z36), (intA z37), (intA z38), (intA z39), (intA z40), (intA z41)], 40⟩) :: (323, some ⟨[(intA (0)), (intA (0)), (intA (0)), (intA (0)), (intA (0)), (intA (0))], 40⟩) :: m5) fun v43 m43 =>
callW Tryd.prog KK.gl m43 330 55 [v5, (intA z16), v43] fun v44 m44 =>
opP (lenS v44) fun v45 =>
ex_i64 v45 fun z46 =>
Tri Tryd.prog KK 141 0 (.loop c42_0) ⟨[(0, (AV.agg [(AV.sc (.string a0_0)), (intA a0_1), (intA a0_2), (AV.sc (.string a0_3)), a0_4, a0_5, (intA a0_6), (intA a0_7), (intA a0_8), (intA a0_9), (intA a0_10), (intA a0_11), (AV.sc (.string a0_12)), (intA a0_13), (intA a0_14), (intA a0_15), (intA a0_16), (intA a0_17), (intA a0_18), (intA a0_19), (intA a0_20), a0_21])), (1, (AV.ptr 0 0)), (2, AV.nils), (3, (intA (0))), (17, (AV.ptr 0 12)), (18, (AV.agg [(AV.sc (.string a0_12)), (intA a0_13), (intA a0_14), (intA a0_15), (intA a0_16), (intA a0_17), (intA a0_18)])), (19, (AV.ptr 0 6)), (20, (AV.ptr 0 6)), (21, (AV.ptr 0 9)), (22, (intA a0_9)), (23, (AV.ptr 0 0)), (24, (AV.ptr 0 2)), (25, (intA a0_2)), (26, (AV.tup [(intA z3), (intA z4)])), (16, (AV.tup [(intA z3), (intA z4)])), (27, (intA z3)), (28, (intA z4)), (4, (intA z3)), (5, (intA z4)), (29, (intA z4)), (30, (boolA (z4 != (0)))), (32, (AV.ptr 0 6)), (33, (AV.ptr 0 6)), (34, (AV.ptr 0 6)), (35, (intA a0_6)), (36, (intA z3)), (37, (intA (IntKind.wrap .i64 (a0_6 + z3)))), (6, (AV.ptr 89 0)), (38, (AV.ptr 0 5)), (39, a0_5), (40, v5), (7, v44), (41, v5), (42, (intA z7)), (8, (intA z7)), (43, (intA z3)), (44, (boolA (decide (z3 > (0))))), (45, (boolA true)), (46, (intA z7)), (47, (boolA (decide (z7 > (0))))), (48, (boolA (decide (z7 > (0))))), (49, (boolA true)), (50, (intA z9)), (51, v5), (52, (intA z7)), (53, (intA (IntKind.wrap .i64 (z7 - (1))))), (54, v10), (55, v11), (56, v12), (57, (intA z14)), (58, (boolA (decide (z9 < z14)))), (59, (boolA (decide (z9 < z14)))), (60, v5), (61, (AV.fn 54 [(AV.ptr 89 0)])), (62, (intA z16)), (9, (intA z16)), (63, v5), (64, (intA z16)), (65, v17), (66, v18), (67, v19), (68, (intA z21)), (69, (intA z23)), (70, (boolA (z21 != z23))), (72, (AV.ptr 0 21)), (73, v24), (74, (intA z26)), (75, (AV.tup [(AV.agg [(intA z36), (intA z37), (intA z38), (intA z39), (intA z40), (intA z41)]), (intA z42)])), (71, (AV.tup [(AV.agg [(intA z36), (intA z37), (intA z38), (intA z39), (intA z40), (intA z41)]), (intA z42)])), (76, (AV.agg [(intA z36), (intA z37), (intA z38), (intA z39), (intA z40), (intA z41)])), (77, (intA z42)), (10, (AV.ptr 323 0)), (11, (intA z42)), (78, v5), (79, (intA z16)), (80, (AV.agg [(intA z36), (intA z37), (intA z38), (intA z39), (intA z40), (intA z41)])), (81, v43), (82, v44), (83, v44), (84, (intA z46)), (85, (intA (0)))], m44, 398⟩ (q42_0 R)) else (
opP (lenS v5) fun v83 =>
ex_i64 v83 fun z84 =>
Tri Tryd.prog KK 141 0 (.loop c42_0) ⟨[(0, (AV.agg [(AV.sc (.string a0_0)), (intA a0_1), (intA a0_2), (AV.sc (.string a0_3)), a0_4, a0_5, (intA a0_6), (intA a0_7), (intA a0_8), (intA a0_9), (intA a0_10), (intA a0_11), (AV.sc (.string a0_12)), (intA a0_13), (intA a0_14), (intA a0_15), (intA a0_16), (intA a0_17), (intA a0_18), (intA a0_19), (intA a0_20), a0_21])), (1, (AV.ptr 0 0)), (2, AV.nils), (3, (intA (0))), (17, (AV.ptr 0 12)), (18, (AV.agg [(AV.sc (.string a0_12)), (intA a0_13), (intA a0_14), (intA a0_15), (intA a0_16), (intA a0_17), (intA a0_18)])), (19, (AV.ptr 0 6)), (20, (AV.ptr 0 6)), (21, (AV.ptr 0 9)), (22, (intA a0_9)), (23, (AV.ptr 0 0)), (24, (AV.ptr 0 2)), (25, (intA a0_2)), (26, (AV.tup [(intA z3), (intA z4)])), (16, (AV.tup [(intA z3), (intA z4)])), (27, (intA z3)), (28, (intA z4)), (4, (intA z3)), (5, (intA z4)), (29, (intA z4)), (30, (boolA (z4 != (0)))), (32, (AV.ptr 0 6)), (33, (AV.ptr 0 6)), (34, (AV.ptr 0 6)), (35, (intA a0_6)), (36, (intA z3)), (37, (intA (IntKind.wrap .i64 (a0_6 + z3)))), (6, (AV.ptr 89 0)), (38, (AV.ptr 0 5)), (39, a0_5), (40, v5), (7, v5), (41, v5), (42, (intA z7)), (8, (intA z7)), (43, (intA z3)), (44, (boolA (decide (z3 > (0))))), (45, (boolA true)), (46, (intA z7)), (47, (boolA (decide (z7 > (0))))), (48, (boolA (decide (z7 > (0))))), (49, (boolA true)), (50, (intA z9)), (51, v5), (52, (intA z7)), (53, (intA (IntKind.wrap .i64 (z7 - (1))))), (54, v10), (55, v11), (56, v12), (57, (intA z14)), (58, (boolA (decide (z9 < z14)))), (59, (boolA (decide (z9 < z14)))), (60, v5), (61, (AV.fn 54 [(AV.ptr 89 0)])), (62, (intA z16)), (9, (intA z16)), (63, v5), (64, (intA z16)), (65, v17), (66, v18), (67, v19), (68, (intA z21)), (69, (intA z23)), (70, (boolA (z21 != z23))), (83, v5), (84, (intA z84)), (85, (intA (0)))], m5, 256⟩ (q42_0 R))) else (
opP (lenS v5) fun v85 =>
ex_i64 v85 fun z86 =>
Tri Tryd.prog KK 141 0 (.loop c42_0) ⟨[(0, (AV.agg [(AV.sc (.string a0_0)), (intA a0_1), (intA a0_2), (AV.sc (.string a0_3)), a0_4, a0_5, (intA a0_6), (intA a0_7), (intA a0_8), (intA a0_9), (intA a0_10), (intA a0_11), (AV.sc (.string a0_12)), (intA a0_13), (intA a0_14), (intA a0_15), (intA a0_16), (intA a0_17), (intA a0_18), (intA a0_19), (intA a0_20), a0_21])), (1, (AV.ptr 0 0)), (2, AV.nils), (3, (intA (0))), (17, (AV.ptr 0 12)), (18, (AV.agg [(AV.sc (.string a0_12)), (intA a0_13), (intA a0_14), (intA a0_15), (intA a0_16), (intA a0_17), (intA a0_18)])), (19, (AV.ptr 0 6)), (20, (AV.ptr 0 6)), (21, (AV.ptr 0 9)), (22, (intA a0_9)), (23, (AV.ptr 0 0)), (24, (AV.ptr 0 2)), (25, (intA a0_2)), (26, (AV.tup [(intA z3), (intA z4)])), (16, (AV.tup [(intA z3), (intA z4)])), (27, (intA z3)), (28, (intA z4)), (4, (intA z3)), (5, (intA z4)), (29, (intA z4)), (30, (boolA (z4 != (0)))), (32, (AV.ptr 0 6)), (33, (AV.ptr 0 6)), (34, (AV.ptr 0 6)), (35, (intA a0_6)), (36, (intA z3)), (37, (intA (IntKind.wrap .i64 (a0_6 + z3)))), (6, (AV.ptr 89 0)), (38, (AV.ptr 0 5)), (39, a0_5), (40, v5), (7, v5), (41, v5), (42, (intA z7)), (8, (intA z7)), (43, (intA z3)), (44, (boolA (decide (z3 > (0))))), (45, (boolA true)), (46, (intA z7)), (47, (boolA (decide (z7 > (0))))), (48, (boolA (decide (z7 > (0))))), (49, (boolA true)), (50, (intA z9)), (51, v5), (52, (intA z7)), (53, (intA (IntKind.wrap .i64 (z7 - (1))))), (54, v10), (55, v11), (56, v12), (57, (intA z14)), (58, (boolA (decide (z9 < z14)))), (59, (boolA (decide (z9 < z14)))), (83, v5), (84, (intA z86)), (85, (intA (0)))], m5, 181⟩ (q42_0 R))) else (
opP (lenS v5) fun v87 =>
ex_i64 v87 fun z88 =>
Tri Tryd.prog KK 141 0 (.loop c42_0) ⟨[(0, (AV.agg [(AV.sc (.string a0_0)), (intA a0_1), (intA a0_2), (AV.sc (.string a0_3)), a0_4, a0_5, (intA a0_6), (intA a0_7), (intA a0_8), (intA a0_9), (intA a0_10), (intA a0_11), (AV.sc (.string a0_12)), (intA a0_13), (intA a0_14), (intA a0_15), (intA a0_16), (intA a0_17), (intA a0_18), (intA a0_19), (intA a0_20), a0_21])), (1, (AV.ptr 0 0)), (2, AV.nils), (3, (intA (0))), (17, (AV.ptr 0 12)), (18, (AV.agg [(AV.sc (.string a0_12)), (intA a0_13), (intA a0_14), (intA a0_15), (intA a0_16), (intA a0_17), (intA a0_18)])), (19, (AV.ptr 0 6)), (20, (AV.ptr 0 6)), (21, (AV.ptr 0 9)), (22, (intA a0_9)), (23, (AV.ptr 0 0)), (24, (AV.ptr 0 2)), (25, (intA a0_2)), (26, (AV.tup [(intA z3), (intA z4)])), (16, (AV.tup [(intA z3), (intA z4)])), (27, (intA z3)), (28, (intA z4)), (4, (intA z3)), (5, (intA z4)), (29, (intA z4)), (30, (boolA (z4 != (0)))), (32, (AV.ptr 0 6)), (33, (AV.ptr 0 6)), (34, (AV.ptr 0 6)), (35, (intA a0_6)), (36, (intA z3)), (37, (intA (IntKind.wrap .i64 (a0_6 + z3)))), (6, (AV.ptr 89 0)), (38, (AV.ptr 0 5)), (39, a0_5), (40, v5), (7, v5), (41, v5), (42, (intA z7)), (8, (intA z7)), (43, (intA z3)), (44, (boolA (decide (z3 > (0))))), (45, (boolA true)), (46, (intA z7)), (47, (boolA (decide (z7 > (0))))), (48, (boolA (decide (z7 > (0))))), (49, (boolA false)), (50, (AV.tup [])), (51, (AV.tup [])), (52, (AV.tup [])), (53, (AV.tup [])), (54, (AV.tup [])), (55, (AV.tup [])), (56, (AV.tup [])), (57, (AV.tup [])), (58, (AV.tup [])), (59, (boolA false)), (83, v5), (84, (intA z88)), (85, (intA (0)))], m5, 181⟩ (q42_0 R))) else (
opP (lenS v5) fun v89 =>
ex_i64 v89 fun z90 =>
Tri Tryd.prog KK 141 0 (.loop c42_0) ⟨[(0, (AV.agg [(AV.sc (.string a0_0)), (intA a0_1), (intA a0_2), (AV.sc (.string a0_3)), a0_4, a0_5, (intA a0_6), (intA a0_7), (intA a0_8), (intA a0_9), (intA a0_10), (intA a0_11), (AV.sc (.string a0_12)), (intA a0_13), (intA a0_14), (intA a0_15), (intA a0_16), (intA a0_17), (intA a0_18), (intA a0_19), (intA a0_20), a0_21])), (1, (AV.ptr 0 0)), (2, AV.nils), (3, (intA (0))), (17, (AV.ptr 0 12)), (18, (AV.agg [(AV.sc (.string a0_12)), (intA a0_13), (intA a0_14), (intA a0_15), (intA a0_16), (intA a0_17), (intA a0_18)])), (19, (AV.ptr 0 6)), (20, (AV.ptr 0 6)), (21, (AV.ptr 0 9)), (22, (intA a0_9)), (23, (AV.ptr 0 0)), (24, (AV.ptr 0 2)), (25, (intA a0_2)), (26, (AV.tup [(intA z3), (intA z4)])), (16, (AV.tup [(intA z3), (intA z4)])), (27, (intA z3)), (28, (intA z4)), (4, (intA z3)), (5, (intA z4)), (29, (intA z4)), (30, (boolA (z4 != (0)))), (32, (AV.ptr 0 6)), (33, (AV.ptr 0 6)), (34, (AV.ptr 0 6)), (35, (intA a0_6)), (36, (intA z3)), (37, (intA (IntKind.wrap .i64 (a0_6 + z3)))), (6, (AV.ptr 89 0)), (38, (AV.ptr 0 5)), (39, a0_5), (40, v5), (7, v5), (41, v5), (42, (intA z7)), (8, (intA z7)), (43, (intA z3)), (44, (boolA (decide (z3 > (0))))), (45, (boolA false)), (46, (AV.tup [])), (47, (AV.tup [])), (48, (boolA false)), (49, (boolA false)), (50, (AV.tup [])), (51, (AV.tup [])), (52, (AV.tup [])), (53, (AV.tup [])), (54, (AV.tup [])), (55, (AV.tup [])), (56, (AV.tup [])), (57, (AV.tup [])), (58, (AV.tup [])), (59, (boolA false)), (83, v5), (84, (intA z90)), (85, (intA (0)))], m5, 181⟩ (q42_0 R)))
theorem F42_own (a0_0 : ByteArray) (a0_1 : Int) (a0_2 : Int) (a0_3 : ByteArray) (a0_4 : AV) (a0_5 : AV) (a0_6 : Int) (a0_7 : Int) (a0_8 : Int) (a0_9 : Int) (a0_10 : Int) (a0_11 : Int) (a0_12 : ByteArray) (a0_13 : Int) (a0_14 : Int) (a0_15 : Int) (a0_16 : Int) (a0_17 : Int) (a0_18 : Int) (a0_19 : Int) (a0_20 : Int) (a0_21 : AV) (R : AV → Mem → Prop) (h : F42 a0_0 a0_1 a0_2 a0_3 a0_4 a0_5 a0_6 a0_7 a0_8 a0_9 a0_10 a0_11 a0_12 a0_13 a0_14 a0_15 a0_16 a0_17 a0_18 a0_19 a0_20 a0_21 R) : Own Tryd.prog KK.gl 42 [(AV.agg [(AV.sc (.string a0_0)), (intA a0_1), (intA a0_2), (AV.sc (.string a0_3)), a0_4, a0_5, (intA a0_6), (intA a0_7), (intA a0_8), (intA a0_9), (intA a0_10), (intA a0_11), (AV.sc (.string a0_12)), (intA a0_13), (intA a0_14), (intA a0_15), (intA a0_16), (intA a0_17), (intA a0_18), (intA a0_19), (intA a0_20), a0_21])] R := own_of_F fol Tryd.func42 (code := c42) (by kernel_rfl) (by kernel_rfl) (by kernel_rfl) (X := F42 a0_0 a0_1 a0_2 a0_3 a0_4 a0_5 a0_6 a0_7 a0_8 a0_9 a0_10 a0_11 a0_12 a0_13 a0_14 a0_15 a0_16 a0_17 a0_18 a0_19 a0_20 a0_21 R) (by kernel_rfl) h
/- (skyway/effect.task).carried -/
noncomputable def c31 : Code := ((Tryd.f31).body).getD .skip
noncomputable def q31 (R : AV → Mem → Prop) : AExit → St → Prop := retQ Tryd.prog Tryd.f31 R
noncomputable def F31 (a0_0 : ByteArray) (a0_1 : Int) (a0_2 : Int) (a0_3 : ByteArray) (a0_4 : AV) (a0_5 : AV) (a0_6 : Int) (a0_7 : Int) (a0_8 : Int) (a0_9 : Int) (a0_10 : Int) (a0_11 : Int) (a0_12 : ByteArray) (a0_13 : Int) (a0_14 : Int) (a0_15 : Int) (a0_16 : Int) (a0_17 : Int) (a0_18 : Int) (a0_19 : Int) (a0_20 : Int) (a0_21 : AV) (R : AV → Mem → Prop) : Prop :=
chk (isCell a0_4) <| chk (isCell a0_5) <| chk (isCell a0_21) <| bif (a0_1 == (0)) then (
callW Tryd.prog KK.gl ((0, some ⟨[(AV.sc (.string a0_0)), (intA a0_1), (intA a0_2), (AV.sc (.string a0_3)), a0_4, a0_5, (intA a0_6), (intA a0_7), (intA a0_8), (intA a0_9), (intA a0_10), (intA a0_11), (AV.sc (.string a0_12)), (intA a0_13), (intA a0_14), (intA a0_15), (intA a0_16), (intA a0_17), (intA a0_18), (intA a0_19), (intA a0_20), a0_21], 65⟩) :: []) 10 42 [(AV.agg [(AV.sc (.string a0_0)), (intA a0_1), (intA a0_2), (AV.sc (.string a0_3)), a0_4, a0_5, (intA a0_6), (intA a0_7), (intA a0_8), (intA a0_9), (intA a0_10), (intA a0_11), (AV.sc (.string a0_12)), (intA a0_13), (intA a0_14), (intA a0_15), (intA a0_16), (intA a0_17), (intA a0_18), (intA a0_19), (intA a0_20), a0_21])] fun v0 m0 =>
exT2 v0 fun c1 c2 =>
ex_i64 c2 fun z3 =>
retL R m0 [some c1, some (boolA false), some (intA z3)]) else (
opP (lenS a0_5) fun v4 =>
ex_i64 v4 fun z5 =>
bif (z5 == (0)) then (
retL R ((0, some ⟨[(AV.sc (.string a0_0)), (intA a0_1), (intA a0_2), (AV.sc (.string a0_3)), a0_4, a0_5, (intA a0_6), (intA a0_7), (intA a0_8), (intA a0_9), (intA a0_10), (intA a0_11), (AV.sc (.string a0_12)), (intA a0_13), (intA a0_14), (intA a0_15), (intA a0_16), (intA a0_17), (intA a0_18), (intA a0_19), (intA a0_20), a0_21], 65⟩) :: []) [some AV.nils, some (boolA true), some (intA (0))]) else (
bif (a0_1 == (1)) then (
callW Tryd.prog KK.gl ((0, some ⟨[(AV.sc (.string a0_0)), (intA a0_1), (intA a0_2), (AV.sc (.string a0_3)), a0_4, a0_5, (intA a0_6), (intA a0_7), (intA a0_8), (intA a0_9), (intA a0_10), (intA a0_11), (AV.sc (.string a0_12)), (intA a0_13), (intA a0_14), (intA a0_15), (intA a0_16), (intA a0_17), (intA a0_18), (intA a0_19), (intA a0_20), a0_21], 65⟩) :: []) 20 43 [(AV.agg [(AV.sc (.string a0_0)), (intA a0_1), (intA a0_2), (AV.sc (.string a0_3)), a0_4, a0_5, (intA a0_6), (intA a0_7), (intA a0_8), (intA a0_9), (intA a0_10), (intA a0_11), (AV.sc (.string a0_12)), (intA a0_13), (intA a0_14), (intA a0_15), (intA a0_16), (intA a0_17), (intA a0_18), (intA a0_19), (intA a0_20), a0_21])] fun v6 m6 =>
exT2 v6 fun c7 c8 =>
ex_i64 c8 fun z9 =>
retL R m6 [some c7, some (boolA false), some (intA z9)]) else (
bif (a0_1 == (2)) then (
callW Tryd.prog KK.gl ((0, some ⟨[(AV.sc (.string a0_0)), (intA a0_1), (intA a0_2), (AV.sc (.string a0_3)), a0_4, a0_5, (intA a0_6), (intA a0_7), (intA a0_8), (intA a0_9), (intA a0_10), (intA a0_11), (AV.sc (.string a0_12)), (intA a0_13), (intA a0_14), (intA a0_15), (intA a0_16), (intA a0_17), (intA a0_18), (intA a0_19), (intA a0_20), a0_21], 65⟩) :: []) 25 44 [(AV.agg [(AV.sc (.string a0_0)), (intA a0_1), (intA a0_2), (AV.sc (.string a0_3)), a0_4, a0_5, (intA a0_6), (intA a0_7), (intA a0_8), (intA a0_9), (intA a0_10), (intA a0_11), (AV.sc (.string a0_12)), (intA a0_13), (intA a0_14), (intA a0_15), (intA a0_16), (intA a0_17), (intA a0_18), (intA a0_19), (intA a0_20), a0_21])] fun v10 m10 =>
exT2 v10 fun c11 c12 =>
ex_i64 c12 fun z13 =>
retL R m10 [some c11, some (boolA false), some (intA z13)]) else (
bif (a0_1 == (3)) then (
callW Tryd.prog KK.gl ((0, some ⟨[(AV.sc (.string a0_0)), (intA a0_1), (intA a0_2), (AV.sc (.string a0_3)), a0_4, a0_5, (intA a0_6), (intA a0_7), (intA a0_8), (intA a0_9), (intA a0_10), (intA a0_11), (AV.sc (.string a0_12)), (intA a0_13), (intA a0_14), (intA a0_15), (intA a0_16), (intA a0_17), (intA a0_18), (intA a0_19), (intA a0_20), a0_21], 65⟩) :: []) 30 45 [(AV.agg [(AV.sc (.string a0_0)), (intA a0_1), (intA a0_2), (AV.sc (.string a0_3)), a0_4, a0_5, (intA a0_6), (intA a0_7), (intA a0_8), (intA a0_9), (intA a0_10), (intA a0_11), (AV.sc (.string a0_12)), (intA a0_13), (intA a0_14), (intA a0_15), (intA a0_16), (intA a0_17), (intA a0_18), (intA a0_19), (intA a0_20), a0_21])] fun v14 m14 =>
exT2 v14 fun c15 c16 =>
ex_i64 c16 fun z17 =>
retL R m14 [some c15, some (boolA false), some (intA z17)]) else (
retL R ((0, some ⟨[(AV.sc (.string a0_0)), (intA a0_1), (intA a0_2), (AV.sc (.string a0_3)), a0_4, a0_5, (intA a0_6), (intA a0_7), (intA a0_8), (intA a0_9), (intA a0_10), (intA a0_11), (AV.sc (.string a0_12)), (intA a0_13), (intA a0_14), (intA a0_15), (intA a0_16), (intA a0_17), (intA a0_18), (intA a0_19), (intA a0_20), a0_21], 65⟩) :: []) [some AV.nils, some (boolA true), some (intA (0))])))))
theorem F31_own (a0_0 : ByteArray) (a0_1 : Int) (a0_2 : Int) (a0_3 : ByteArray) (a0_4 : AV) (a0_5 : AV) (a0_6 : Int) (a0_7 : Int) (a0_8 : Int) (a0_9 : Int) (a0_10 : Int) (a0_11 : Int) (a0_12 : ByteArray) (a0_13 : Int) (a0_14 : Int) (a0_15 : Int) (a0_16 : Int) (a0_17 : Int) (a0_18 : Int) (a0_19 : Int) (a0_20 : Int) (a0_21 : AV) (R : AV → Mem → Prop) (h : F31 a0_0 a0_1 a0_2 a0_3 a0_4 a0_5 a0_6 a0_7 a0_8 a0_9 a0_10 a0_11 a0_12 a0_13 a0_14 a0_15 a0_16 a0_17 a0_18 a0_19 a0_20 a0_21 R) : Own Tryd.prog KK.gl 31 [(AV.agg [(AV.sc (.string a0_0)), (intA a0_1), (intA a0_2), (AV.sc (.string a0_3)), a0_4, a0_5, (intA a0_6), (intA a0_7), (intA a0_8), (intA a0_9), (intA a0_10), (intA a0_11), (AV.sc (.string a0_12)), (intA a0_13), (intA a0_14), (intA a0_15), (intA a0_16), (intA a0_17), (intA a0_18), (intA a0_19), (intA a0_20), a0_21])] R := own_of_F fol Tryd.func31 (code := c31) (by kernel_rfl) (by kernel_rfl) (by kernel_rfl) (X := F31 a0_0 a0_1 a0_2 a0_3 a0_4 a0_5 a0_6 a0_7 a0_8 a0_9 a0_10 a0_11 a0_12 a0_13 a0_14 a0_15 a0_16 a0_17 a0_18 a0_19 a0_20 a0_21 R) (by kernel_rfl) h
/- skyway/effect.Of -/
noncomputable def c11 : Code := ((Tryd.f11).body).getD .skip
noncomputable def q11 (R : AV → Mem → Prop) : AExit → St → Prop := retQ Tryd.prog Tryd.f11 R
noncomputable def c11_0 : Code := loopB c11 0
noncomputable def q11_0 (R : AV → Mem → Prop) : AExit → St → Prop := contW Tryd.prog KK 108 0 c11 0 (q11 R)
noncomputable def qq11_0 (R : AV → Mem → Prop) (N0 : St → Prop) : AExit → St → Prop := thenQ N0 (q11_0 R)
def h11_0 (t2 : Int) (t10 : AV) (t11 : Int) (t27 : AV) (t28 : Int) (t29 : Int) (m : Mem) : St := ⟨[(2, (intA t2)), (5, (AV.ptr 0 0)), (6, (AV.ptr 1 0)), (8, (AV.ptr 2 0)), (9, (AV.ptr 3 0)), (10, t10), (11, (intA t11)), (27, t27), (28, (intA t28)), (29, (intA t29))], m, 100000⟩
noncomputable def c11_1 : Code := loopB c11 1
noncomputable def q11_1 (R : AV → Mem → Prop) : AExit → St → Prop := contW Tryd.prog KK 108 0 c11 1 (q11 R)
noncomputable def qq11_1 (R : AV → Mem → Prop) (N0 : St → Prop) : AExit → St → Prop := thenQ N0 (q11_1 R)
def h11_1 (t2 : Int) (t10 : AV) (t11 : Int) (t16 : Int) (t54 : AV) (t55 : Int) (t56 : Int) (m : Mem) : St := ⟨[(2, (intA t2)), (5, (AV.ptr 0 0)), (10, t10), (11, (intA t11)), (15, (AV.ptr 100070 0)), (16, (intA t16)), (17, (AV.ptr 100081 0)), (54, t54), (55, (intA t55)), (56, (intA t56))], m, 200000⟩
noncomputable def B11_0 (t2 : Int) (t10 : AV) (t11 : Int) (t27 : AV) (t28 : Int) (t29 : Int) (m : Mem) (R : AV → Mem → Prop) (N0 : St → Prop) : Prop :=
bif (decide (t29 < t28)) then (
opP (idxS 1 t27 (intA t29)) fun v3 =>
opP (ldS (mget m) v3) fun v4 =>
fnArgs (some v4) (some []) fun f5 a5 => bif KK.pm f5 then callQ Tryd.prog KK.gl m f5 a5 (fun v5 =>
ex_i64 v5 fun z6 =>
bif (z6 != (0)) then (
retL R m [some AV.nils, some (intA z6)]) else (
N0 ⟨[(2, (intA t2)), (5, (AV.ptr 0 0)), (6, (AV.ptr 1 0)), (8, (AV.ptr 2 0)), (9, (AV.ptr 3 0)), (10, t10), (11, (intA t11)), (27, t27), (28, (intA t28)), (29, (intA (IntKind.wrap .i64 (t29 + (1))))), (30, (boolA (decide (t29 < t28)))), (31, v3), (32, v4), (13, v4), (33, v4), (34, (intA z6)), (14, (intA z6)), (35, (intA z6)), (36, (boolA (z6 != (0)))), (38, (intA (IntKind.wrap .i64 (t29 + (1)))))], m, 100074⟩)) else callW Tryd.prog KK.gl m 100005 f5 a5 fun v5 m5 =>
ex_i64 v5 fun z6 =>
bif (z6 != (0)) then (
retL R m5 [some AV.nils, some (intA z6)]) else (
N0 ⟨[(2, (intA t2)), (5, (AV.ptr 0 0)), (6, (AV.ptr 1 0)), (8, (AV.ptr 2 0)), (9, (AV.ptr 3 0)), (10, t10), (11, (intA t11)), (27, t27), (28, (intA t28)), (29, (intA (IntKind.wrap .i64 (t29 + (1))))), (30, (boolA (decide (t29 < t28)))), (31, v3), (32, v4), (13, v4), (33, v4), (34, (intA z6)), (14, (intA z6)), (35, (intA z6)), (36, (boolA (z6 != (0)))), (38, (intA (IntKind.wrap .i64 (t29 + (1)))))], m5, 100074⟩)) else (
opP (ldS (mget m) (AV.ptr 0 0)) fun v7 =>
callQ Tryd.prog KK.gl m 13 [v7, (intA t2)] fun v8 =>
exT2 v8 fun c9 c10 =>
exA6 c9 fun c11 c12 c13 c14 c15 c16 =>
ex_i64 c11 fun z17 =>
ex_i64 c12 fun z18 =>
ex_i64 c13 fun z19 =>
ex_i64 c14 fun z20 =>
ex_i64 c15 fun z21 =>
ex_i64 c16 fun z22 =>
ex_i64 c10 fun z23 =>
bif (z23 != (0)) then (
retL R ((100070, some ⟨[(intA z17), (intA z18), (intA z19), (intA z20), (intA z21), (intA z22)], 40⟩) :: (100070, some ⟨[(intA (0)), (intA (0)), (intA (0)), (intA (0)), (intA (0)), (intA (0))], 40⟩) :: m) [some AV.nils, some (intA z23)]) else (
opP (ldA (mget ((100070, some ⟨[(intA z17), (intA z18), (intA z19), (intA z20), (intA z21), (intA z22)], 40⟩) :: (100070, some ⟨[(intA (0)), (intA (0)), (intA (0)), (intA (0)), (intA (0)), (intA (0))], 40⟩) :: m)) 4 (AV.ptr 1 0)) fun v24 =>
exA4 v24 fun c25 c26 c27 c28 =>
exStr c25 fun s29 =>
ex_i64 c26 fun z30 =>
ex_i64 c27 fun z31 =>
exStr c28 fun s32 =>
opP (ldA (mget ((100070, some ⟨[(intA z17), (intA z18), (intA z19), (intA z20), (intA z21), (intA z22)], 40⟩) :: (100070, some ⟨[(intA (0)), (intA (0)), (intA (0)), (intA (0)), (intA (0)), (intA (0))], 40⟩) :: m)) 7 (AV.ptr 2 0)) fun v33 =>
exA7 v33 fun c34 c35 c36 c37 c38 c39 c40 =>
exStr c34 fun s41 =>
ex_i64 c35 fun z42 =>
ex_i64 c36 fun z43 =>
ex_i64 c37 fun z44 =>
ex_i64 c38 fun z45 =>
ex_i64 c39 fun z46 =>
ex_i64 c40 fun z47 =>
opP (ldA (mget ((100070, some ⟨[(intA z17), (intA z18), (intA z19), (intA z20), (intA z21), (intA z22)], 40⟩) :: (100070, some ⟨[(intA (0)), (intA (0)), (intA (0)), (intA (0)), (intA (0)), (intA (0))], 40⟩) :: m)) 2 (AV.ptr 3 0)) fun v48 =>
exA2 v48 fun c49 c50 =>
ex_i64 c49 fun z51 =>
ex_i64 c50 fun z52 =>
opP (ldS (mget ((100070, some ⟨[(intA z17), (intA z18), (intA z19), (intA z20), (intA z21), (intA z22)], 40⟩) :: (100070, some ⟨[(intA (0)), (intA (0)), (intA (0)), (intA (0)), (intA (0)), (intA (0))], 40⟩) :: m)) (AV.ptr 0 0)) fun v53 =>
opP (bld [(AV.sc (.string ⟨#[]⟩)), (intA (0)), (intA (0)), (AV.sc (.string ⟨#[]⟩)), AV.nils, AV.nils, (intA (0)), (intA (0)), (intA (0)), (intA (0)), (intA (0)), (intA (0)), (AV.sc (.string ⟨#[]⟩)), (intA (0)), (intA (0)), (intA (0)), (intA (0)), (intA (0)), (intA (0)), (intA (0)), (intA (0)), AV.nils] [(0, 4), (4, 1), (5, 1), (6, 6), (12, 7), (19, 2), (21, 1)] [(0, (AV.agg [(AV.sc (.string s29)), (intA z30), (intA z31), (AV.sc (.string s32))])), (3, (AV.agg [(intA z17), (intA z18), (intA z19), (intA z20), (intA z21), (intA z22)])), (4, (AV.agg [(AV.sc (.string s41)), (intA z42), (intA z43), (intA z44), (intA z45), (intA z46), (intA z47)])), (5, (AV.agg [(intA z51), (intA z52)])), (6, v53)]) fun v54 =>
storeW Tryd.prog (mget ((100081, some ⟨[(AV.sc (.string ⟨#[]⟩)), (intA (0)), (intA (0)), (AV.sc (.string ⟨#[]⟩)), AV.nils, AV.nils, (intA (0)), (intA (0)), (intA (0)), (intA (0)), (intA (0)), (intA (0)), (AV.sc (.string ⟨#[]⟩)), (intA (0)), (intA (0)), (intA (0)), (intA (0)), (intA (0)), (intA (0)), (intA (0)), (intA (0)), AV.nils], 65⟩) :: (100070, some ⟨[(intA z17), (intA z18), (intA z19), (intA z20), (intA z21), (intA z22)], 40⟩) :: (100070, some ⟨[(intA (0)), (intA (0)), (intA (0)), (intA (0)), (intA (0)), (intA (0))], 40⟩) :: m)) 65 (AV.ptr 100081 0) v54 fun v55 d55 =>
opP (ldS (mget (mpushs ((100081, some ⟨[(AV.sc (.string ⟨#[]⟩)), (intA (0)), (intA (0)), (AV.sc (.string ⟨#[]⟩)), AV.nils, AV.nils, (intA (0)), (intA (0)), (intA (0)), (intA (0)), (intA (0)), (intA (0)), (AV.sc (.string ⟨#[]⟩)), (intA (0)), (intA (0)), (intA (0)), (intA (0)), (intA (0)), (intA (0)), (intA (0)), (intA (0)), AV.nils], 65⟩) :: (100070, some ⟨[(intA z17), (intA z18), (intA z19), (intA z20), (intA z21), (intA z22)], 40⟩) :: (100070, some ⟨[(intA (0)), (intA (0)), (intA (0)), (intA (0)), (intA (0)), (intA (0))], 40⟩) :: m) d55)) (AV.ptr 0 0)) fun v56 =>
opP (lenS v56) fun v57 =>
ex_i64 v57 fun z58 =>
Tri Tryd.prog KK 108 0 (.loop c11_1) ⟨[(2, (intA t2)), (5, (AV.ptr 0 0)), (6, (AV.ptr 1 0)), (8, (AV.ptr 2 0)), (9, (AV.ptr 3 0)), (10, t10), (11, (intA t11)), (27, t27), (28, (intA t28)), (29, (intA t29)), (30, (boolA (decide (t29 < t28)))), (40, v7), (41, (intA t2)), (42, (AV.tup [(AV.agg [(intA z17), (intA z18), (intA z19), (intA z20), (intA z21), (intA z22)]), (intA z23)])), (39, (AV.tup [(AV.agg [(intA z17), (intA z18), (intA z19), (intA z20), (intA z21), (intA z22)]), (intA z23)])), (43, (AV.agg [(intA z17), (intA z18), (intA z19), (intA z20), (intA z21), (intA z22)])), (44, (intA z23)), (15, (AV.ptr 100070 0)), (16, (intA z23)), (45, (intA z23)), (46, (boolA (z23 != (0)))), (48, (AV.agg [(AV.sc (.string s29)), (intA z30), (intA z31), (AV.sc (.string s32))])), (49, (AV.agg [(intA z17), (intA z18), (intA z19), (intA z20), (intA z21), (intA z22)])), (50, (AV.agg [(AV.sc (.string s41)), (intA z42), (intA z43), (intA z44), (intA z45), (intA z46), (intA z47)])), (51, (AV.agg [(intA z51), (intA z52)])), (52, v53), (53, v54), (17, (AV.ptr 100081 0)), (54, v56), (55, (intA z58)), (56, (intA (0)))], (mpushs ((100081, some ⟨[(AV.sc (.string ⟨#[]⟩)), (intA (0)), (intA (0)), (AV.sc (.string ⟨#[]⟩)), AV.nils, AV.nils, (intA (0)), (intA (0)), (intA (0)), (intA (0)), (intA (0)), (intA (0)), (AV.sc (.string ⟨#[]⟩)), (intA (0)), (intA (0)), (intA (0)), (intA (0)), (intA (0)), (intA (0)), (intA (0)), (intA (0)), AV.nils], 65⟩) :: (100070, some ⟨[(intA z17), (intA z18), (intA z19), (intA z20), (intA z21), (intA z22)], 40⟩) :: (100070, some ⟨[(intA (0)), (intA (0)), (intA (0)), (intA (0)), (intA (0)), (intA (0))], 40⟩) :: m) d55), 100086⟩ (q11_1 R)))
theorem B11_0_eq (t2 : Int) (t10 : AV) (t11 : Int) (t27 : AV) (t28 : Int) (t29 : Int) (m : Mem) (R : AV → Mem → Prop) (N0 : St → Prop) : W Tryd.prog KK 108 0 c11_0 (h11_0 t2 t10 t11 t27 t28 t29 m) (qq11_0 R N0) = B11_0 t2 t10 t11 t27 t28 t29 m R N0 := by kernel_rfl
theorem L11_0 (R : AV → Mem → Prop) {σ : Type} (I : σ → Prop) (t2 : σ → Int) (t10 : σ → AV) (t11 : σ → Int) (t27 : σ → AV) (t28 : σ → Int) (t29 : σ → Int) (m : σ → Mem) (μ : σ → Nat) (step : ∀ x, I x → B11_0 (t2 x) (t10 x) (t11 x) (t27 x) (t28 x) (t29 x) (m x) R (fun s' => ∃ y, I y ∧ μ y < μ x ∧ Weak KK 108 0 s' (h11_0 (t2 y) (t10 y) (t11 y) (t27 y) (t28 y) (t29 y) (m y)))) (x : σ) (hx : I x) {s : St} (hw : Weak KK 108 0 s (h11_0 (t2 x) (t10 x) (t11 x) (t27 x) (t28 x) (t29 x) (m x))) : Tri Tryd.prog KK 108 0 (.loop c11_0) s (q11_0 R) :=
  Tri.weak hw (Tri.loops fol I (fun x => h11_0 (t2 x) (t10 x) (t11 x) (t27 x) (t28 x) (t29 x) (m x)) μ (fun x hx => (B11_0_eq (t2 x) (t10 x) (t11 x) (t27 x) (t28 x) (t29 x) (m x) R _).mpr (step x hx)) x hx)
noncomputable def B11_1 (t2 : Int) (t10 : AV) (t11 : Int) (t16 : Int) (t54 : AV) (t55 : Int) (t56 : Int) (m : Mem) (R : AV → Mem → Prop) (N0 : St → Prop) : Prop :=
bif (decide (t56 < t55)) then (
opP (idxS 6 t54 (intA t56)) fun v59 =>
opP (ldA (mget m) 6 v59) fun v60 =>
exA6 v60 fun c61 c62 c63 c64 c65 c66 =>
ex_i64 c61 fun z67 =>
ex_i64 c62 fun z68 =>
ex_i64 c63 fun z69 =>
ex_i64 c64 fun z70 =>
ex_i64 c65 fun z71 =>
ex_i64 c66 fun z72 =>
bif (decide (z67 < t2)) then (
opP (ldS (mget ((200003, some ⟨[(intA z67), (intA z68), (intA z69), (intA z70), (intA z71), (intA z72)], 40⟩) :: (200003, some ⟨[(intA (0)), (intA (0)), (intA (0)), (intA (0)), (intA (0)), (intA (0))], 40⟩) :: m)) (AV.ptr 100081 4)) fun v73 =>
opN (bsl 200013 40 6 1 [(intA (0)), (intA (0)), (intA (0)), (intA (0)), (intA (0)), (intA (0))] [(0, (AV.agg [(intA z67), (intA z68), (intA z69), (intA z70), (intA z71), (intA z72)]))]) ((200003, some ⟨[(intA z67), (intA z68), (intA z69), (intA z70), (intA z71), (intA z72)], 40⟩) :: (200003, some ⟨[(intA (0)), (intA (0)), (intA (0)), (intA (0)), (intA (0)), (intA (0))], 40⟩) :: m) fun v74 m74 =>
opN (app (mget m74) 40 6 48 [(intA (0)), (intA (0)), (intA (0)), (intA (0)), (intA (0)), (intA (0))] 200014 v73 v74) m74 fun v75 m75 =>
storeW Tryd.prog (mget m75) 23 (AV.ptr 100081 4) v75 fun v76 d76 =>
opP (ldS (mget (mpushs m75 d76)) (AV.ptr 200003 0)) fun v77 =>
ex_i64 v77 fun z78 =>
bif (decide (z78 > t2)) then (
opP (ldS (mget (mpushs m75 d76)) (AV.ptr 100081 5)) fun v79 =>
opP (ldA (mget (mpushs m75 d76)) 6 (AV.ptr 200003 0)) fun v80 =>
exA6 v80 fun c81 c82 c83 c84 c85 c86 =>
ex_i64 c81 fun z87 =>
ex_i64 c82 fun z88 =>
ex_i64 c83 fun z89 =>
ex_i64 c84 fun z90 =>
ex_i64 c85 fun z91 =>
ex_i64 c86 fun z92 =>
opN (bsl 200025 40 6 1 [(intA (0)), (intA (0)), (intA (0)), (intA (0)), (intA (0)), (intA (0))] [(0, (AV.agg [(intA z87), (intA z88), (intA z89), (intA z90), (intA z91), (intA z92)]))]) (mpushs m75 d76) fun v93 m93 =>
opN (app (mget m93) 40 6 48 [(intA (0)), (intA (0)), (intA (0)), (intA (0)), (intA (0)), (intA (0))] 200026 v79 v93) m93 fun v94 m94 =>
storeW Tryd.prog (mget m94) 23 (AV.ptr 100081 5) v94 fun v95 d95 =>
N0 ⟨[(2, (intA t2)), (5, (AV.ptr 0 0)), (10, t10), (11, (intA t11)), (15, (AV.ptr 100070 0)), (16, (intA t16)), (17, (AV.ptr 100081 0)), (54, t54), (55, (intA t55)), (56, (intA (IntKind.wrap .i64 (t56 + (1))))), (57, (boolA (decide (t56 < t55)))), (58, v59), (59, (AV.agg [(intA z67), (intA z68), (intA z69), (intA z70), (intA z71), (intA z72)])), (19, (AV.ptr 200003 0)), (60, (AV.ptr 200003 0)), (61, (AV.ptr 200003 0)), (62, (intA z67)), (63, (intA t2)), (64, (boolA (decide (z67 < t2)))), (65, (AV.ptr 100081 4)), (66, v73), (67, (AV.agg [(intA z67), (intA z68), (intA z69), (intA z70), (intA z71), (intA z72)])), (68, v74), (69, v75), (70, (AV.ptr 100081 4)), (71, (AV.ptr 200003 0)), (72, (AV.ptr 200003 0)), (73, (intA z78)), (74, (intA t2)), (75, (boolA (decide (z78 > t2)))), (76, (AV.ptr 100081 5)), (77, v79), (78, (AV.agg [(intA z87), (intA z88), (intA z89), (intA z90), (intA z91), (intA z92)])), (79, v93), (80, v94), (81, (AV.ptr 100081 5)), (82, (intA (IntKind.wrap .i64 (t56 + (1)))))], (mpushs m94 d95), 200031⟩) else (
N0 ⟨[(2, (intA t2)), (5, (AV.ptr 0 0)), (10, t10), (11, (intA t11)), (15, (AV.ptr 100070 0)), (16, (intA t16)), (17, (AV.ptr 100081 0)), (54, t54), (55, (intA t55)), (56, (intA (IntKind.wrap .i64 (t56 + (1))))), (57, (boolA (decide (t56 < t55)))), (58, v59), (59, (AV.agg [(intA z67), (intA z68), (intA z69), (intA z70), (intA z71), (intA z72)])), (19, (AV.ptr 200003 0)), (60, (AV.ptr 200003 0)), (61, (AV.ptr 200003 0)), (62, (intA z67)), (63, (intA t2)), (64, (boolA (decide (z67 < t2)))), (65, (AV.ptr 100081 4)), (66, v73), (67, (AV.agg [(intA z67), (intA z68), (intA z69), (intA z70), (intA z71), (intA z72)])), (68, v74), (69, v75), (70, (AV.ptr 100081 4)), (71, (AV.ptr 200003 0)), (72, (AV.ptr 200003 0)), (73, (intA z78)), (74, (intA t2)), (75, (boolA (decide (z78 > t2)))), (82, (intA (IntKind.wrap .i64 (t56 + (1)))))], (mpushs m75 d76), 200024⟩)) else (
bif (decide (z67 > t2)) then (
opP (ldS (mget ((200003, some ⟨[(intA z67), (intA z68), (intA z69), (intA z70), (intA z71), (intA z72)], 40⟩) :: (200003, some ⟨[(intA (0)), (intA (0)), (intA (0)), (intA (0)), (intA (0)), (intA (0))], 40⟩) :: m)) (AV.ptr 100081 5)) fun v96 =>
opN (bsl 200018 40 6 1 [(intA (0)), (intA (0)), (intA (0)), (intA (0)), (intA (0)), (intA (0))] [(0, (AV.agg [(intA z67), (intA z68), (intA z69), (intA z70), (intA z71), (intA z72)]))]) ((200003, some ⟨[(intA z67), (intA z68), (intA z69), (intA z70), (intA z71), (intA z72)], 40⟩) :: (200003, some ⟨[(intA (0)), (intA (0)), (intA (0)), (intA (0)), (intA (0)), (intA (0))], 40⟩) :: m) fun v97 m97 =>
opN (app (mget m97) 40 6 48 [(intA (0)), (intA (0)), (intA (0)), (intA (0)), (intA (0)), (intA (0))] 200019 v96 v97) m97 fun v98 m98 =>
storeW Tryd.prog (mget m98) 23 (AV.ptr 100081 5) v98 fun v99 d99 =>
N0 ⟨[(2, (intA t2)), (5, (AV.ptr 0 0)), (10, t10), (11, (intA t11)), (15, (AV.ptr 100070 0)), (16, (intA t16)), (17, (AV.ptr 100081 0)), (54, t54), (55, (intA t55)), (56, (intA (IntKind.wrap .i64 (t56 + (1))))), (57, (boolA (decide (t56 < t55)))), (58, v59), (59, (AV.agg [(intA z67), (intA z68), (intA z69), (intA z70), (intA z71), (intA z72)])), (19, (AV.ptr 200003 0)), (60, (AV.ptr 200003 0)), (61, (AV.ptr 200003 0)), (62, (intA z67)), (63, (intA t2)), (64, (boolA (decide (z67 < t2)))), (71, (AV.ptr 200003 0)), (72, (AV.ptr 200003 0)), (73, (intA z67)), (74, (intA t2)), (75, (boolA (decide (z67 > t2)))), (76, (AV.ptr 100081 5)), (77, v96), (78, (AV.agg [(intA z67), (intA z68), (intA z69), (intA z70), (intA z71), (intA z72)])), (79, v97), (80, v98), (81, (AV.ptr 100081 5)), (82, (intA (IntKind.wrap .i64 (t56 + (1)))))], (mpushs m98 d99), 200024⟩) else (
N0 ⟨[(2, (intA t2)), (5, (AV.ptr 0 0)), (10, t10), (11, (intA t11)), (15, (AV.ptr 100070 0)), (16, (intA t16)), (17, (AV.ptr 100081 0)), (54, t54), (55, (intA t55)), (56, (intA (IntKind.wrap .i64 (t56 + (1))))), (57, (boolA (decide (t56 < t55)))), (58, v59), (59, (AV.agg [(intA z67), (intA z68), (intA z69), (intA z70), (intA z71), (intA z72)])), (19, (AV.ptr 200003 0)), (60, (AV.ptr 200003 0)), (61, (AV.ptr 200003 0)), (62, (intA z67)), (63, (intA t2)), (64, (boolA (decide (z67 < t2)))), (71, (AV.ptr 200003 0)), (72, (AV.ptr 200003 0)), (73, (intA z67)), (74, (intA t2)), (75, (boolA (decide (z67 > t2)))), (82, (intA (IntKind.wrap .i64 (t56 + (1)))))], ((200003, some ⟨[(intA z67), (intA z68), (intA z69), (intA z70), (intA z71), (intA z72)], 40⟩) :: (200003, some ⟨[(intA (0)), (intA (0)), (intA (0)), (intA (0)), (intA (0)), (intA (0))], 40⟩) :: m), 200017⟩))) else (
opP (ldA (mget m) 22 (AV.ptr 100081 0)) fun v100 =>
exA22 v100 fun c101 c102 c103 c104 c105 c106 c107 c108 c109 c110 c111 c112 c113 c114 c115 c116 c117 c118 c119 c120 c121 c122 =>
exStr c101 fun s123 =>
ex_i64 c102 fun z124 =>
ex_i64 c103 fun z125 =>
exStr c104 fun s126 =>
ex_i64 c107 fun z127 =>
ex_i64 c108 fun z128 =>
ex_i64 c109 fun z129 =>
ex_i64 c110 fun z130 =>
ex_i64 c111 fun z131 =>
ex_i64 c112 fun z132 =>
exStr c113 fun s133 =>
ex_i64 c114 fun z134 =>
ex_i64 c115 fun z135 =>
ex_i64 c116 fun z136 =>
ex_i64 c117 fun z137 =>
ex_i64 c118 fun z138 =>
ex_i64 c119 fun z139 =>
ex_i64 c120 fun z140 =>
ex_i64 c121 fun z141 =>
callW Tryd.prog KK.gl m 200002 31 [(AV.agg [(AV.sc (.string s123)), (intA z124), (intA z125), (AV.sc (.string s126)), c105, c106, (intA z127), (intA z128), (intA z129), (intA z130), (intA z131), (intA z132), (AV.sc (.string s133)), (intA z134), (intA z135), (intA z136), (intA z137), (intA z138), (intA z139), (intA z140), (intA z141), c122])] fun v142 m142 =>
exT3 v142 fun c143 c144 c145 =>
exB c144 fun b146 =>
ex_i64 c145 fun z147 =>
bif (z147 != (0)) then (
retL R m142 [some AV.nils, some (intA z147)]) else (
bif b146 then (
opP (ldS (mget m142) (AV.ptr 0 0)) fun v148 =>
callW Tryd.prog KK.gl m142 200079 32 [v148] fun v149 m149 =>
retL R m149 [some v149, some (intA (0))]) else (
opP (ldS (mget m142) (AV.ptr 100081 4)) fun v150 =>
opP (ldA (mget m142) 6 (AV.ptr 100070 0)) fun v151 =>
exA6 v151 fun c152 c153 c154 c155 c156 c157 =>
ex_i64 c152 fun z158 =>
ex_i64 c153 fun z159 =>
ex_i64 c154 fun z160 =>
ex_i64 c155 fun z161 =>
ex_i64 c156 fun z162 =>
ex_i64 c157 fun z163 =>
opN (bsl 200081 40 6 1 [(intA (0)), (intA (0)), (intA (0)), (intA (0)), (intA (0)), (intA (0))] [(0, (AV.agg [(intA z158), (intA z159), (intA z160), (intA z161), (intA z162), (intA z163)]))]) m142 fun v164 m164 =>
opN (bsl 200083 23 1 3 [AV.nils] [(0, v150), (1, v164), (2, c143)]) m164 fun v165 m165 =>
callW Tryd.prog KK.gl m165 200084 33 [v165] fun v166 m166 =>
opP (lenS v166) fun v167 =>
ex_i64 v167 fun z168 =>
bif (decide (z168 > (64))) then (
retL R m166 [some AV.nils, some (intA (2))]) else (
retL R m166 [some v166, some (intA (0))]))))
theorem B11_1_eq (t2 : Int) (t10 : AV) (t11 : Int) (t16 : Int) (t54 : AV) (t55 : Int) (t56 : Int) (m : Mem) (R : AV → Mem → Prop) (N0 : St → Prop) : W Tryd.prog KK 108 0 c11_1 (h11_1 t2 t10 t11 t16 t54 t55 t56 m) (qq11_1 R N0) = B11_1 t2 t10 t11 t16 t54 t55 t56 m R N0 := by kernel_rfl
theorem L11_1 (R : AV → Mem → Prop) {σ : Type} (I : σ → Prop) (t2 : σ → Int) (t10 : σ → AV) (t11 : σ → Int) (t16 : σ → Int) (t54 : σ → AV) (t55 : σ → Int) (t56 : σ → Int) (m : σ → Mem) (μ : σ → Nat) (step : ∀ x, I x → B11_1 (t2 x) (t10 x) (t11 x) (t16 x) (t54 x) (t55 x) (t56 x) (m x) R (fun s' => ∃ y, I y ∧ μ y < μ x ∧ Weak KK 108 0 s' (h11_1 (t2 y) (t10 y) (t11 y) (t16 y) (t54 y) (t55 y) (t56 y) (m y)))) (x : σ) (hx : I x) {s : St} (hw : Weak KK 108 0 s (h11_1 (t2 x) (t10 x) (t11 x) (t16 x) (t54 x) (t55 x) (t56 x) (m x))) : Tri Tryd.prog KK 108 0 (.loop c11_1) s (q11_1 R) :=
  Tri.weak hw (Tri.loops fol I (fun x => h11_1 (t2 x) (t10 x) (t11 x) (t16 x) (t54 x) (t55 x) (t56 x) (m x)) μ (fun x hx => (B11_1_eq (t2 x) (t10 x) (t11 x) (t16 x) (t54 x) (t55 x) (t56 x) (m x) R _).mpr (step x hx)) x hx)
noncomputable def F11 (a0 : AV) (a1_0 : ByteArray) (a1_1 : Int) (a1_2 : Int) (a1_3 : ByteArray) (a2 : Int) (a3_0 : ByteArray) (a3_1 : Int) (a3_2 : Int) (a3_3 : Int) (a3_4 : Int) (a3_5 : Int) (a3_6 : Int) (a4_0 : Int) (a4_1 : Int) (R : AV → Mem → Prop) : Prop :=
chk (isCell a0) <| opN (opA Tryd.prog (.buildSlice 63 4 #[(0, .tmp 0), (1, .tmp 1), (2, .tmp 2), (3, .tmp 3)]) 63 [(AV.fn 24 [(AV.ptr 0 0)]), (AV.fn 25 [(AV.ptr 1 0)]), (AV.fn 27 [(AV.ptr 2 0)]), (AV.fn 29 [(AV.ptr 3 0)])] (mget ((3, some ⟨[(intA a4_0), (intA a4_1)], 29⟩) :: (2, some ⟨[(AV.sc (.string a3_0)), (intA a3_1), (intA a3_2), (intA a3_3), (intA a3_4), (intA a3_5), (intA a3_6)], 27⟩) :: (1, some ⟨[(AV.sc (.string a1_0)), (intA a1_1), (intA a1_2), (AV.sc (.string a1_3))], 25⟩) :: (0, some ⟨[a0], 23⟩) :: [])) 10) ((3, some ⟨[(intA a4_0), (intA a4_1)], 29⟩) :: (2, some ⟨[(AV.sc (.string a3_0)), (intA a3_1), (intA a3_2), (intA a3_3), (intA a3_4), (intA a3_5), (intA a3_6)], 27⟩) :: (1, some ⟨[(AV.sc (.string a1_0)), (intA a1_1), (intA a1_2), (AV.sc (.string a1_3))], 25⟩) :: (0, some ⟨[a0], 23⟩) :: []) fun v0 m0 =>
opP (lenS v0) fun v1 =>
ex_i64 v1 fun z2 =>
Tri Tryd.prog KK 108 0 (.loop c11_0) ⟨[(0, a0), (1, (AV.agg [(AV.sc (.string a1_0)), (intA a1_1), (intA a1_2), (AV.sc (.string a1_3))])), (2, (intA a2)), (3, (AV.agg [(AV.sc (.string a3_0)), (intA a3_1), (intA a3_2), (intA a3_3), (intA a3_4), (intA a3_5), (intA a3_6)])), (4, (AV.agg [(intA a4_0), (intA a4_1)])), (5, (AV.ptr 0 0)), (6, (AV.ptr 1 0)), (8, (AV.ptr 2 0)), (9, (AV.ptr 3 0)), (10, AV.nils), (11, (intA (0))), (23, (AV.fn 24 [(AV.ptr 0 0)])), (24, (AV.fn 25 [(AV.ptr 1 0)])), (25, (AV.fn 27 [(AV.ptr 2 0)])), (26, (AV.fn 29 [(AV.ptr 3 0)])), (27, v0), (28, (intA z2)), (29, (intA (0)))], m0, 13⟩ (q11_0 R)
theorem F11_own (a0 : AV) (a1_0 : ByteArray) (a1_1 : Int) (a1_2 : Int) (a1_3 : ByteArray) (a2 : Int) (a3_0 : ByteArray) (a3_1 : Int) (a3_2 : Int) (a3_3 : Int) (a3_4 : Int) (a3_5 : Int) (a3_6 : Int) (a4_0 : Int) (a4_1 : Int) (R : AV → Mem → Prop) (h : F11 a0 a1_0 a1_1 a1_2 a1_3 a2 a3_0 a3_1 a3_2 a3_3 a3_4 a3_5 a3_6 a4_0 a4_1 R) : Own Tryd.prog KK.gl 11 [a0, (AV.agg [(AV.sc (.string a1_0)), (intA a1_1), (intA a1_2), (AV.sc (.string a1_3))]), (intA a2), (AV.agg [(AV.sc (.string a3_0)), (intA a3_1), (intA a3_2), (intA a3_3), (intA a3_4), (intA a3_5), (intA a3_6)]), (AV.agg [(intA a4_0), (intA a4_1)])] R := own_of_F fol Tryd.func11 (code := c11) (by kernel_rfl) (by kernel_rfl) (by kernel_rfl) (X := F11 a0 a1_0 a1_1 a1_2 a1_3 a2 a3_0 a3_1 a3_2 a3_3 a3_4 a3_5 a3_6 a4_0 a4_1 R) (by kernel_rfl) h
/- skyway/effect.Differs -/
noncomputable def c16 : Code := ((Tryd.f16).body).getD .skip
noncomputable def q16 (R : AV → Mem → Prop) : AExit → St → Prop := retQ Tryd.prog Tryd.f16 R
noncomputable def c16_0 : Code := loopB c16 0
noncomputable def q16_0 (R : AV → Mem → Prop) : AExit → St → Prop := contW Tryd.prog KK 102 0 c16 0 (q16 R)
noncomputable def qq16_0 (R : AV → Mem → Prop) (N0 : St → Prop) : AExit → St → Prop := thenQ N0 (q16_0 R)
def h16_0 (t0 : AV) (t1 : AV) (t4 : Int) (t5 : Int) (t18 : AV) (t19 : Int) (t20 : Int) (m : Mem) : St := ⟨[(0, t0), (1, t1), (4, (intA t4)), (5, (intA t5)), (18, t18), (19, (intA t19)), (20, (intA t20))], m, 100000⟩
noncomputable def c16_1 : Code := loopB c16 1
noncomputable def q16_1 (R : AV → Mem → Prop) : AExit → St → Prop := contW Tryd.prog KK 102 0 c16 1 (q16 R)
noncomputable def qq16_1 (R : AV → Mem → Prop) (N0 : St → Prop) : AExit → St → Prop := thenQ N0 (q16_1 R)
def h16_1 (t0 : AV) (t1 : AV) (t4 : Int) (t5 : Int) (t10 : Int) (t11 : Int) (m : Mem) : St := ⟨[(0, t0), (1, t1), (4, (intA t4)), (5, (intA t5)), (10, (intA t10)), (11, (intA t11))], m, 200000⟩
noncomputable def B16_0 (t0 : AV) (t1 : AV) (t4 : Int) (t5 : Int) (t18 : AV) (t19 : Int) (t20 : Int) (m : Mem) (R : AV → Mem → Prop) (N0 : St → Prop) : Prop :=
bif (decide (t20 < t19)) then (
opP (idxS 1 t18 (intA t20)) fun v3 =>
opP (ldS (mget m) v3) fun v4 =>
callQ Tryd.prog KK.gl m 12 [v4] fun v5 =>
ex_i64 v5 fun z6 =>
bif (z6 != (0)) then (
retL R m [some (intA (0)), some (intA z6)]) else (
N0 ⟨[(0, t0), (1, t1), (4, (intA t4)), (5, (intA t5)), (18, t18), (19, (intA t19)), (20, (intA (IntKind.wrap .i64 (t20 + (1))))), (21, (boolA (decide (t20 < t19)))), (22, v3), (23, v4), (7, v4), (24, v4), (25, (intA z6)), (8, (intA z6)), (26, (intA z6)), (27, (boolA (z6 != (0)))), (29, (intA (IntKind.wrap .i64 (t20 + (1)))))], m, 100074⟩)) else (
opP (idxS 6 t0 (intA (0))) fun v7 =>
opP (fldO 0 v7) fun v8 =>
opP (fldO 0 v8) fun v9 =>
opP (ldS (mget m) v9) fun v10 =>
ex_i64 v10 fun z11 =>
opP (idxS 6 t1 (intA (0))) fun v12 =>
opP (fldO 0 v12) fun v13 =>
opP (fldO 0 v13) fun v14 =>
opP (ldS (mget m) v14) fun v15 =>
ex_i64 v15 fun z16 =>
opP (opA Tryd.prog (.call ⟨.builtin .min, #[.tmp 0, .tmp 1], #[3, 3]⟩) 3 [(intA z11), (intA z16)] (mget m) 100011) fun v17 =>
ex_i64 v17 fun z18 =>
opP (lenS t0) fun v19 =>
ex_i64 v19 fun z20 =>
opP (idxS 6 t0 (intA (IntKind.wrap .i64 (z20 - (1))))) fun v21 =>
opP (fldO 0 v21) fun v22 =>
opP (fldO 0 v22) fun v23 =>
opP (ldS (mget m) v23) fun v24 =>
ex_i64 v24 fun z25 =>
opP (lenS t1) fun v26 =>
ex_i64 v26 fun z27 =>
opP (idxS 6 t1 (intA (IntKind.wrap .i64 (z27 - (1))))) fun v28 =>
opP (fldO 0 v28) fun v29 =>
opP (fldO 0 v29) fun v30 =>
opP (ldS (mget m) v30) fun v31 =>
ex_i64 v31 fun z32 =>
opP (opA Tryd.prog (.call ⟨.builtin .max, #[.tmp 0, .tmp 1], #[3, 3]⟩) 3 [(intA z25), (intA z32)] (mget m) 100028) fun v33 =>
ex_i64 v33 fun z34 =>
bif (decide ((IntKind.wrap .i64 (z34 - z18)) > (20000))) then (
retL R m [some (intA (0)), some (intA (2))]) else (
Tri Tryd.prog KK 102 0 (.loop c16_1) ⟨[(0, t0), (1, t1), (4, (intA t4)), (5, (intA t5)), (18, t18), (19, (intA t19)), (20, (intA t20)), (21, (boolA (decide (t20 < t19)))), (30, t0), (31, v7), (32, v8), (33, v9), (34, (intA z11)), (35, t1), (36, v12), (37, v13), (38, v14), (39, (intA z16)), (40, (intA z18)), (41, t0), (42, t0), (43, (intA z20)), (44, (intA (IntKind.wrap .i64 (z20 - (1))))), (45, v21), (46, v22), (47, v23), (48, (intA z25)), (49, t1), (50, t1), (51, (intA z27)), (52, (intA (IntKind.wrap .i64 (z27 - (1))))), (53, v28), (54, v29), (55, v30), (56, (intA z32)), (57, (intA z34)), (9, (intA z18)), (10, (intA z34)), (58, (intA z34)), (59, (intA z18)), (60, (intA (IntKind.wrap .i64 (z34 - z18)))), (61, (boolA (decide ((IntKind.wrap .i64 (z34 - z18)) > (20000))))), (62, (intA z18)), (11, (intA z18))], m, 100037⟩ (q16_1 R)))
theorem B16_0_eq (t0 : AV) (t1 : AV) (t4 : Int) (t5 : Int) (t18 : AV) (t19 : Int) (t20 : Int) (m : Mem) (R : AV → Mem → Prop) (N0 : St → Prop) : W Tryd.prog KK 102 0 c16_0 (h16_0 t0 t1 t4 t5 t18 t19 t20 m) (qq16_0 R N0) = B16_0 t0 t1 t4 t5 t18 t19 t20 m R N0 := by kernel_rfl
theorem L16_0 (R : AV → Mem → Prop) {σ : Type} (I : σ → Prop) (t0 : σ → AV) (t1 : σ → AV) (t4 : σ → Int) (t5 : σ → Int) (t18 : σ → AV) (t19 : σ → Int) (t20 : σ → Int) (m : σ → Mem) (μ : σ → Nat) (step : ∀ x, I x → B16_0 (t0 x) (t1 x) (t4 x) (t5 x) (t18 x) (t19 x) (t20 x) (m x) R (fun s' => ∃ y, I y ∧ μ y < μ x ∧ Weak KK 102 0 s' (h16_0 (t0 y) (t1 y) (t4 y) (t5 y) (t18 y) (t19 y) (t20 y) (m y)))) (x : σ) (hx : I x) {s : St} (hw : Weak KK 102 0 s (h16_0 (t0 x) (t1 x) (t4 x) (t5 x) (t18 x) (t19 x) (t20 x) (m x))) : Tri Tryd.prog KK 102 0 (.loop c16_0) s (q16_0 R) :=
  Tri.weak hw (Tri.loops fol I (fun x => h16_0 (t0 x) (t1 x) (t4 x) (t5 x) (t18 x) (t19 x) (t20 x) (m x)) μ (fun x hx => (B16_0_eq (t0 x) (t1 x) (t4 x) (t5 x) (t18 x) (t19 x) (t20 x) (m x) R _).mpr (step x hx)) x hx)
noncomputable def B16_1 (t0 : AV) (t1 : AV) (t4 : Int) (t5 : Int) (t10 : Int) (t11 : Int) (m : Mem) (R : AV → Mem → Prop) (N0 : St → Prop) : Prop :=
bif (decide (t11 ≤ t10)) then (
callQ Tryd.prog KK.gl m 13 [t0, (intA t11)] fun v35 =>
exT2 v35 fun c36 c37 =>
exA6 c36 fun c38 c39 c40 c41 c42 c43 =>
ex_i64 c38 fun z44 =>
ex_i64 c39 fun z45 =>
ex_i64 c40 fun z46 =>
ex_i64 c41 fun z47 =>
ex_i64 c42 fun z48 =>
ex_i64 c43 fun z49 =>
ex_i64 c37 fun z50 =>
callQ Tryd.prog KK.gl ((200072, some ⟨[(intA z44), (intA z45), (intA z46), (intA z47), (intA z48), (intA z49)], 40⟩) :: (200072, some ⟨[(intA (0)), (intA (0)), (intA (0)), (intA (0)), (intA (0)), (intA (0))], 40⟩) :: m) 13 [t1, (intA t11)] fun v51 =>
exT2 v51 fun c52 c53 =>
exA6 c52 fun c54 c55 c56 c57 c58 c59 =>
ex_i64 c54 fun z60 =>
ex_i64 c55 fun z61 =>
ex_i64 c56 fun z62 =>
ex_i64 c57 fun z63 =>
ex_i64 c58 fun z64 =>
ex_i64 c59 fun z65 =>
ex_i64 c53 fun z66 =>
bif (z50 != z66) then (
retL R ((200144, some ⟨[(intA z60), (intA z61), (intA z62), (intA z63), (intA z64), (intA z65)], 40⟩) :: (200144, some ⟨[(intA (0)), (intA (0)), (intA (0)), (intA (0)), (intA (0)), (intA (0))], 40⟩) :: (200072, some ⟨[(intA z44), (intA z45), (intA z46), (intA z47), (intA z48), (intA z49)], 40⟩) :: (200072, some ⟨[(intA (0)), (intA (0)), (intA (0)), (intA (0)), (intA (0)), (intA (0))], 40⟩) :: m) [some (intA t11), some (intA (0))]) else (
opP (opA Tryd.prog (.binOp .neq 29 (.tmp 0) (.tmp 1) 29) 4 [(AV.agg [(intA z45), (intA z46)]), (AV.agg [(intA z61), (intA z62)])] (mget ((200144, some ⟨[(intA z60), (intA z61), (intA z62), (intA z63), (intA z64), (intA z65)], 40⟩) :: (200144, some ⟨[(intA (0)), (intA (0)), (intA (0)), (intA (0)), (intA (0)), (intA (0))], 40⟩) :: (200072, some ⟨[(intA z44), (intA z45), (intA z46), (intA z47), (intA z48), (intA z49)], 40⟩) :: (200072, some ⟨[(intA (0)), (intA (0)), (intA (0)), (intA (0)), (intA (0)), (intA (0))], 40⟩) :: m)) 200157) fun v67 =>
exB v67 fun b68 =>
bif b68 then (
retL R ((200144, some ⟨[(intA z60), (intA z61), (intA z62), (intA z63), (intA z64), (intA z65)], 40⟩) :: (200144, some ⟨[(intA (0)), (intA (0)), (intA (0)), (intA (0)), (intA (0)), (intA (0))], 40⟩) :: (200072, some ⟨[(intA z44), (intA z45), (intA z46), (intA z47), (intA z48), (intA z49)], 40⟩) :: (200072, some ⟨[(intA (0)), (intA (0)), (intA (0)), (intA (0)), (intA (0)), (intA (0))], 40⟩) :: m) [some (intA t11), some (intA (0))]) else (
bif (z47 != z63) then (
retL R ((200144, some ⟨[(intA z60), (intA z61), (intA z62), (intA z63), (intA z64), (intA z65)], 40⟩) :: (200144, some ⟨[(intA (0)), (intA (0)), (intA (0)), (intA (0)), (intA (0)), (intA (0))], 40⟩) :: (200072, some ⟨[(intA z44), (intA z45), (intA z46), (intA z47), (intA z48), (intA z49)], 40⟩) :: (200072, some ⟨[(intA (0)), (intA (0)), (intA (0)), (intA (0)), (intA (0)), (intA (0))], 40⟩) :: m) [some (intA t11), some (intA (0))]) else (
N0 ⟨[(0, t0), (1, t1), (4, (intA t4)), (5, (intA t5)), (10, (intA t10)), (11, (intA (IntKind.wrap .i64 (t11 + (1))))), (63, (intA t11)), (64, (intA t10)), (65, (boolA (decide (t11 ≤ t10)))), (69, t0), (70, (intA t11)), (71, (AV.tup [(AV.agg [(intA z44), (intA z45), (intA z46), (intA z47), (intA z48), (intA z49)]), (intA z50)])), (68, (AV.tup [(AV.agg [(intA z44), (intA z45), (intA z46), (intA z47), (intA z48), (intA z49)]), (intA z50)])), (72, (AV.agg [(intA z44), (intA z45), (intA z46), (intA z47), (intA z48), (intA z49)])), (73, (intA z50)), (12, (AV.ptr 200072 0)), (13, (intA z50)), (75, t1), (76, (intA t11)), (77, (AV.tup [(AV.agg [(intA z60), (intA z61), (intA z62), (intA z63), (intA z64), (intA z65)]), (intA z66)])), (74, (AV.tup [(AV.agg [(intA z60), (intA z61), (intA z62), (intA z63), (intA z64), (intA z65)]), (intA z66)])), (78, (AV.agg [(intA z60), (intA z61), (intA z62), (intA z63), (intA z64), (intA z65)])), (79, (intA z66)), (14, (AV.ptr 200144 0)), (15, (intA z66)), (80, (intA z50)), (81, (intA z66)), (82, (boolA (z50 != z66))), (83, (boolA false)), (84, (AV.ptr 200072 0)), (85, (AV.ptr 200072 1)), (86, (AV.agg [(intA z45), (intA z46)])), (87, (AV.ptr 200144 0)), (88, (AV.ptr 200144 1)), (89, (AV.agg [(intA z61), (intA z62)])), (90, (boolA b68)), (91, (boolA b68)), (92, (boolA false)), (93, (AV.ptr 200072 0)), (94, (AV.ptr 200072 3)), (95, (intA z47)), (96, (AV.ptr 200144 0)), (97, (AV.ptr 200144 3)), (98, (intA z63)), (99, (boolA (z47 != z63))), (100, (boolA (z47 != z63))), (66, (intA t11)), (67, (intA (IntKind.wrap .i64 (t11 + (1)))))], ((200144, some ⟨[(intA z60), (intA z61), (intA z62), (intA z63), (intA z64), (intA z65)], 40⟩) :: (200144, some ⟨[(intA (0)), (intA (0)), (intA (0)), (intA (0)), (intA (0)), (intA (0))], 40⟩) :: (200072, some ⟨[(intA z44), (intA z45), (intA z46), (intA z47), (intA z48), (intA z49)], 40⟩) :: (200072, some ⟨[(intA (0)), (intA (0)), (intA (0)), (intA (0)), (intA (0)), (intA (0))], 40⟩) :: m), 200171⟩)))) else (
retL R m [some (intA (0)), some (intA (8))])
theorem B16_1_eq (t0 : AV) (t1 : AV) (t4 : Int) (t5 : Int) (t10 : Int) (t11 : Int) (m : Mem) (R : AV → Mem → Prop) (N0 : St → Prop) : W Tryd.prog KK 102 0 c16_1 (h16_1 t0 t1 t4 t5 t10 t11 m) (qq16_1 R N0) = B16_1 t0 t1 t4 t5 t10 t11 m R N0 := by kernel_rfl
theorem L16_1 (R : AV → Mem → Prop) {σ : Type} (I : σ → Prop) (t0 : σ → AV) (t1 : σ → AV) (t4 : σ → Int) (t5 : σ → Int) (t10 : σ → Int) (t11 : σ → Int) (m : σ → Mem) (μ : σ → Nat) (step : ∀ x, I x → B16_1 (t0 x) (t1 x) (t4 x) (t5 x) (t10 x) (t11 x) (m x) R (fun s' => ∃ y, I y ∧ μ y < μ x ∧ Weak KK 102 0 s' (h16_1 (t0 y) (t1 y) (t4 y) (t5 y) (t10 y) (t11 y) (m y)))) (x : σ) (hx : I x) {s : St} (hw : Weak KK 102 0 s (h16_1 (t0 x) (t1 x) (t4 x) (t5 x) (t10 x) (t11 x) (m x))) : Tri Tryd.prog KK 102 0 (.loop c16_1) s (q16_1 R) :=
  Tri.weak hw (Tri.loops fol I (fun x => h16_1 (t0 x) (t1 x) (t4 x) (t5 x) (t10 x) (t11 x) (m x)) μ (fun x hx => (B16_1_eq (t0 x) (t1 x) (t4 x) (t5 x) (t10 x) (t11 x) (m x) R _).mpr (step x hx)) x hx)
noncomputable def F16 (a0 : AV) (a1 : AV) (R : AV → Mem → Prop) : Prop :=
opN (bsl 4 23 1 2 [AV.nils] [(0, a0), (1, a1)]) [] fun v0 m0 =>
opP (lenS v0) fun v1 =>
ex_i64 v1 fun z2 =>
Tri Tryd.prog KK 102 0 (.loop c16_0) ⟨[(0, a0), (1, a1), (4, (intA (0))), (5, (intA (0))), (16, a0), (17, a1), (18, v0), (19, (intA z2)), (20, (intA (0)))], m0, 7⟩ (q16_0 R)
theorem F16_own (a0 : AV) (a1 : AV) (R : AV → Mem → Prop) (h : F16 a0 a1 R) : Own Tryd.prog KK.gl 16 [a0, a1] R := own_of_F fol Tryd.func16 (code := c16) (by kernel_rfl) (by kernel_rfl) (by kernel_rfl) (X := F16 a0 a1 R) (by kernel_rfl) h
/- skyway/skywaykeep3.effectFact -/
noncomputable def c9 : Code := ((Tryd.f9).body).getD .skip
noncomputable def q9 (R : AV → Mem → Prop) : AExit → St → Prop := retQ Tryd.prog Tryd.f9 R
noncomputable def F9 (R : AV → Mem → Prop) : Prop :=
callQ Tryd.prog KK.gl [] 21 [] fun v0 =>
callQ Tryd.prog KK.gl [] 22 [(intA (9500))] fun v1 =>
exA4 v1 fun c2 c3 c4 c5 =>
exStr c2 fun s6 =>
ex_i64 c3 fun z7 =>
ex_i64 c4 fun z8 =>
exStr c5 fun s9 =>
callQ Tryd.prog KK.gl [] 23 [] fun v10 =>
exA7 v10 fun c11 c12 c13 c14 c15 c16 c17 =>
exStr c11 fun s18 =>
ex_i64 c12 fun z19 =>
ex_i64 c13 fun z20 =>
ex_i64 c14 fun z21 =>
ex_i64 c15 fun z22 =>
ex_i64 c16 fun z23 =>
ex_i64 c17 fun z24 =>
opP (bld [(intA (0)), (intA (0))] [(0, 1), (1, 1)] []) fun v25 =>
callQ Tryd.prog KK.gl [] 11 [v0, (AV.agg [(AV.sc (.string s6)), (intA z7), (intA z8), (AV.sc (.string s9))]), (intA (0)), (AV.agg [(AV.sc (.string s18)), (intA z19), (intA z20), (intA z21), (intA z22), (intA z23), (intA z24)]), v25] fun v26 =>
exT2 v26 fun c27 c28 =>
ex_i64 c28 fun z29 =>
callQ Tryd.prog KK.gl [] 21 [] fun v30 =>
callQ Tryd.prog KK.gl [] 16 [v30, c27] fun v31 =>
exT2 v31 fun c32 c33 =>
ex_i64 c32 fun z34 =>
ex_i64 c33 fun z35 =>
bif (z29 == (0)) then (
bif (z35 == (0)) then (
opP (lenS c27) fun v36 =>
ex_i64 v36 fun z37 =>
bif (z37 == (3)) then (
opP (idxS 6 c27 (intA (1))) fun v38 =>
opP (fldO 0 v38) fun v39 =>
opP (fldO 0 v39) fun v40 =>
opP (ldS (mget []) v40) fun v41 =>
ex_i64 v41 fun z42 =>
bif (z42 == (10)) then (
opP (idxS 6 c27 (intA (1))) fun v43 =>
opP (fldO 0 v43) fun v44 =>
opP (fldO 3 v44) fun v45 =>
opP (ldS (mget []) v45) fun v46 =>
ex_i64 v46 fun z47 =>
bif (z47 == (9500)) then (
opP (idxS 6 c27 (intA (1))) fun v48 =>
opP (fldO 0 v48) fun v49 =>
opP (fldO 1 v49) fun v50 =>
opP (fldO 0 v50) fun v51 =>
opP (ldS (mget []) v51) fun v52 =>
ex_i64 v52 fun z53 =>
bif (z53 == (1000)) then (
opP (idxS 6 c27 (intA (2))) fun v54 =>
opP (fldO 0 v54) fun v55 =>
opP (fldO 3 v55) fun v56 =>
opP (ldS (mget []) v56) fun v57 =>
ex_i64 v57 fun z58 =>
bif (z58 == (9500)) then (
opP (idxS 6 c27 (intA (1))) fun v59 =>
opP (fldO 4 v59) fun v60 =>
opP (ldS (mget []) v60) fun v61 =>
ex_i64 v61 fun z62 =>
bif (z62 == (100)) then (
retL R [] [some (boolA (z34 == (1)))]) else (
retL R [] [some (boolA false)])) else (
retL R [] [some (boolA false)])) else (
retL R [] [some (boolA false)])) else (
retL R [] [some (boolA false)])) else (
retL R [] [some (boolA false)])) else (
retL R [] [some (boolA false)])) else (
retL R [] [some (boolA false)])) else (
retL R [] [some (boolA false)])
theorem F9_own (R : AV → Mem → Prop) (h : F9  R) : Own Tryd.prog KK.gl 9 [] R := own_of_F fol Tryd.func9 (code := c9) (by kernel_rfl) (by kernel_rfl) (by kernel_rfl) (X := F9  R) (by kernel_rfl) h
/- skyway/skywaykeep3.small -/
noncomputable def c10 : Code := ((Tryd.f10).body).getD .skip
noncomputable def q10 (R : AV → Mem → Prop) : AExit → St → Prop := retQ Tryd.prog Tryd.f10 R
noncomputable def c10_0 : Code := loopB c10 0
noncomputable def q10_0 (R : AV → Mem → Prop) : AExit → St → Prop := contW Tryd.prog KK 41 0 c10 0 (q10 R)
noncomputable def qq10_0 (R : AV → Mem → Prop) (N0 : St → Prop) : AExit → St → Prop := thenQ N0 (q10_0 R)
def h10_0 (t2 : Int) (t6 : Bool) (t13 : AV) (t14 : Int) (t15 : Int) (m : Mem) : St := ⟨[(2, (intA t2)), (6, (boolA t6)), (13, t13), (14, (intA t14)), (15, (intA t15))], m, 100000⟩
noncomputable def B10_0 (t2 : Int) (t6 : Bool) (t13 : AV) (t14 : Int) (t15 : Int) (m : Mem) (R : AV → Mem → Prop) (N0 : St → Prop) : Prop :=
bif (decide (t15 < t14)) then (
opP (idxS 1 t13 (intA t15)) fun v4 =>
opP (ldS (mget m) v4) fun v5 =>
callQ Tryd.prog KK.gl m 12 [v5] fun v6 =>
ex_i64 v6 fun z7 =>
bif (z7 != (0)) then (
retL R m [some (boolA false)]) else (
opP (lenS v5) fun v8 =>
ex_i64 v8 fun z9 =>
opP (idxS 6 v5 (intA (IntKind.wrap .i64 (z9 - (1))))) fun v10 =>
opP (fldO 0 v10) fun v11 =>
opP (fldO 0 v11) fun v12 =>
opP (ldS (mget m) v12) fun v13 =>
ex_i64 v13 fun z14 =>
opP (idxS 6 v5 (intA (0))) fun v15 =>
opP (fldO 0 v15) fun v16 =>
opP (fldO 0 v16) fun v17 =>
opP (ldS (mget m) v17) fun v18 =>
ex_i64 v18 fun z19 =>
bif (decide ((IntKind.wrap .i64 (z14 - z19)) > t2)) then (
retL R m [some (boolA false)]) else (
N0 ⟨[(2, (intA t2)), (6, (boolA t6)), (13, t13), (14, (intA t14)), (15, (intA (IntKind.wrap .i64 (t15 + (1))))), (16, (boolA (decide (t15 < t14)))), (17, v4), (18, v5), (8, v5), (19, v5), (20, (intA z7)), (21, (boolA (z7 != (0)))), (22, (boolA false)), (23, v5), (24, v5), (25, (intA z9)), (26, (intA (IntKind.wrap .i64 (z9 - (1))))), (27, v10), (28, v11), (29, v12), (30, (intA z14)), (31, v5), (32, v15), (33, v16), (34, v17), (35, (intA z19)), (36, (intA (IntKind.wrap .i64 (z14 - z19)))), (37, (intA t2)), (38, (boolA (decide ((IntKind.wrap .i64 (z14 - z19)) > t2)))), (39, (boolA (decide ((IntKind.wrap .i64 (z14 - z19)) > t2)))), (40, (intA (IntKind.wrap .i64 (t15 + (1)))))], m, 100027⟩))) else (
retL R m [some (boolA true)])
theorem B10_0_eq (t2 : Int) (t6 : Bool) (t13 : AV) (t14 : Int) (t15 : Int) (m : Mem) (R : AV → Mem → Prop) (N0 : St → Prop) : W Tryd.prog KK 41 0 c10_0 (h10_0 t2 t6 t13 t14 t15 m) (qq10_0 R N0) = B10_0 t2 t6 t13 t14 t15 m R N0 := by kernel_rfl
theorem L10_0 (R : AV → Mem → Prop) {σ : Type} (I : σ → Prop) (t2 : σ → Int) (t6 : σ → Bool) (t13 : σ → AV) (t14 : σ → Int) (t15 : σ → Int) (m : σ → Mem) (μ : σ → Nat) (step : ∀ x, I x → B10_0 (t2 x) (t6 x) (t13 x) (t14 x) (t15 x) (m x) R (fun s' => ∃ y, I y ∧ μ y < μ x ∧ Weak KK 41 0 s' (h10_0 (t2 y) (t6 y) (t13 y) (t14 y) (t15 y) (m y)))) (x : σ) (hx : I x) {s : St} (hw : Weak KK 41 0 s (h10_0 (t2 x) (t6 x) (t13 x) (t14 x) (t15 x) (m x))) : Tri Tryd.prog KK 41 0 (.loop c10_0) s (q10_0 R) :=
  Tri.weak hw (Tri.loops fol I (fun x => h10_0 (t2 x) (t6 x) (t13 x) (t14 x) (t15 x) (m x)) μ (fun x hx => (B10_0_eq (t2 x) (t6 x) (t13 x) (t14 x) (t15 x) (m x) R _).mpr (step x hx)) x hx)
noncomputable def F10 (a0 : AV) (a1 : Int) (a2 : Int) (R : AV → Mem → Prop) : Prop :=
opP (lenS a0) fun v0 =>
ex_i64 v0 fun z1 =>
bif (decide (z1 > a1)) then (
retL R [] [some (boolA false)]) else (
opP (lenS a0) fun v2 =>
ex_i64 v2 fun z3 =>
Tri Tryd.prog KK 41 0 (.loop c10_0) ⟨[(0, a0), (1, (intA a1)), (2, (intA a2)), (6, (boolA false)), (9, a0), (10, (intA z1)), (11, (intA a1)), (12, (boolA (decide (z1 > a1)))), (13, a0), (14, (intA z3)), (15, (intA (0)))], [], 8⟩ (q10_0 R))
theorem F10_own (a0 : AV) (a1 : Int) (a2 : Int) (R : AV → Mem → Prop) (h : F10 a0 a1 a2 R) : Own Tryd.prog KK.gl 10 [a0, (intA a1), (intA a2)] R := own_of_F fol Tryd.func10 (code := c10) (by kernel_rfl) (by kernel_rfl) (by kernel_rfl) (X := F10 a0 a1 a2 R) (by kernel_rfl) h
end Go.Proofs.YtpjepkldnnfncaaDoor
