/- Functions of the program as conditions on their answers; printed by wip/Gen.lean.txt. -/
import Derived.Test.YtfmodgffhbljoaaX1T
set_option linter.unusedVariables false
set_option maxRecDepth 100000
namespace Go.Proofs.Ytfmodgffhbljoaa
/- skyway/runway.Change -/
noncomputable def c18 : Code := ((Try.f18).body).getD .skip
noncomputable def q18 (R : AV → Mem → Prop) : AExit → St → Prop := retQ Try.prog Try.f18 R
noncomputable def F18 (a0 : AV) (a1 : AV) (a2 : Int) (R : AV → Mem → Prop) : Prop :=
callQ Try.prog KK.gl [] 40 [a0] fun v0 =>
ex_i64 v0 fun z1 =>
bif (z1 != (0)) then (
retL R [] [some AV.nils, some (AV.sc (.int .i64 z1))]) else (
callQ Try.prog KK.gl [] 41 [a1] fun v2 =>
ex_i64 v2 fun z3 =>
bif (z3 != (0)) then (
retL R [] [some AV.nils, some (AV.sc (.int .i64 z3))]) else (
opP (lenS a1) fun v4 =>
ex_i64 v4 fun z5 =>
opP (idxS 2 a1 (AV.sc (.int .i64 (IntKind.wrap .i64 (z5 - (1)))))) fun v6 =>
opP (ldA (mget []) 2 v6) fun v7 =>
exA2 v7 fun c8 c9 =>
ex_i64 c8 fun z10 =>
ex_i64 c9 fun z11 =>
opP (lenS a1) fun v12 =>
ex_i64 v12 fun z13 =>
bif (z13 == (24)) then (
retL R ((144, some ⟨[(AV.sc (.int .i64 z10)), (AV.sc (.int .i64 z11))], 45⟩) :: (144, some ⟨[(AV.sc (.int .i64 (0))), (AV.sc (.int .i64 (0)))], 45⟩) :: []) [some AV.nils, some (AV.sc (.int .i64 (9)))]) else (
callQ Try.prog KK.gl ((144, some ⟨[(AV.sc (.int .i64 z10)), (AV.sc (.int .i64 z11))], 45⟩) :: (144, some ⟨[(AV.sc (.int .i64 (0))), (AV.sc (.int .i64 (0)))], 45⟩) :: []) 42 [(AV.sc (.int .i64 a2))] fun v14 =>
exB v14 fun b15 =>
bif b15 then (
retL R ((144, some ⟨[(AV.sc (.int .i64 z10)), (AV.sc (.int .i64 z11))], 45⟩) :: (144, some ⟨[(AV.sc (.int .i64 (0))), (AV.sc (.int .i64 (0)))], 45⟩) :: []) [some AV.nils, some (AV.sc (.int .i64 (12)))]) else (
bif (decide (a2 < (IntKind.wrap .i64 (z10 + (360))))) then (
retL R ((144, some ⟨[(AV.sc (.int .i64 z10)), (AV.sc (.int .i64 z11))], 45⟩) :: (144, some ⟨[(AV.sc (.int .i64 (0))), (AV.sc (.int .i64 (0)))], 45⟩) :: []) [some AV.nils, some (AV.sc (.int .i64 (12)))]) else (
opP (lenS a0) fun v16 =>
ex_i64 v16 fun z17 =>
bif (decide (z17 > (0))) then (
opP (lenS a0) fun v18 =>
ex_i64 v18 fun z19 =>
opP (idxS 4 a0 (AV.sc (.int .i64 (IntKind.wrap .i64 (z19 - (1)))))) fun v20 =>
opP (fldO 0 v20) fun v21 =>
opP (ldS (mget ((144, some ⟨[(AV.sc (.int .i64 z10)), (AV.sc (.int .i64 z11))], 45⟩) :: (144, some ⟨[(AV.sc (.int .i64 (0))), (AV.sc (.int .i64 (0)))], 45⟩) :: [])) v21) fun v22 =>
ex_i64 v22 fun z23 =>
bif (decide (z23 > (IntKind.wrap .i64 (a2 - (180))))) then (
retL R ((144, some ⟨[(AV.sc (.int .i64 z10)), (AV.sc (.int .i64 z11))], 45⟩) :: (144, some ⟨[(AV.sc (.int .i64 (0))), (AV.sc (.int .i64 (0)))], 45⟩) :: []) [some AV.nils, some (AV.sc (.int .i64 (15)))]) else (
callF Try.prog KK.gl ((144, some ⟨[(AV.sc (.int .i64 z10)), (AV.sc (.int .i64 z11))], 45⟩) :: (144, some ⟨[(AV.sc (.int .i64 (0))), (AV.sc (.int .i64 (0)))], 45⟩) :: []) 240 43 [a1] fun v24 d24 ft24 =>
opM (ldS (look' (mpushs ((144, some ⟨[(AV.sc (.int .i64 z10)), (AV.sc (.int .i64 z11))], 45⟩) :: (144, some ⟨[(AV.sc (.int .i64 (0))), (AV.sc (.int .i64 (0)))], 45⟩) :: []) d24) (topId (AV.ptr 144 1) ++ ([]))) (AV.ptr 144 1)) fun v25 d25 =>
ex_i64 v25 fun z26 =>
opM (bld [(AV.sc (.int .i64 (0))), (AV.sc (.int .i64 (0)))] [(0, 1), (1, 1)] [(0, (AV.sc (.int .i64 a2))), (1, (AV.sc (.int .i64 (IntKind.wrap .i64 ((1) - z26)))))]) fun v27 d27 =>
opM (bsl 246 45 2 1 [(AV.sc (.int .i64 (0))), (AV.sc (.int .i64 (0)))] [(0, v27)]) fun v28 d28 =>
opM (app (look' (mpushs (mpushs (mpushs (mpushs ((144, some ⟨[(AV.sc (.int .i64 z10)), (AV.sc (.int .i64 z11))], 45⟩) :: (144, some ⟨[(AV.sc (.int .i64 (0))), (AV.sc (.int .i64 (0)))], 45⟩) :: []) d24) d25) d27) d28) (topId v24 ++ (topId v28 ++ ([])))) 45 2 16 [(AV.sc (.int .i64 (0))), (AV.sc (.int .i64 (0)))] 247 v24 v28) fun v29 d29 =>
chk (confOk [0, 1, 0, 0, 8, 24, 60, 124, 255, 511, 1023] [⟨[], []⟩, ⟨d24, ft24⟩, ⟨[], []⟩, ⟨[], []⟩, ⟨d25, (topId (AV.ptr 144 1) ++ ([]))⟩, ⟨[], []⟩, ⟨d27, []⟩, ⟨d28, []⟩, ⟨d29, (topId v24 ++ (topId v28 ++ ([])))⟩, ⟨[], []⟩, ⟨[], []⟩]) (retL R (mpushs (mpushs (mpushs (mpushs (mpushs ((144, some ⟨[(AV.sc (.int .i64 z10)), (AV.sc (.int .i64 z11))], 45⟩) :: (144, some ⟨[(AV.sc (.int .i64 (0))), (AV.sc (.int .i64 (0)))], 45⟩) :: []) d24) d25) d27) d28) d29) [some v29, some (AV.sc (.int .i64 (0)))]))) else (
callF Try.prog KK.gl ((144, some ⟨[(AV.sc (.int .i64 z10)), (AV.sc (.int .i64 z11))], 45⟩) :: (144, some ⟨[(AV.sc (.int .i64 (0))), (AV.sc (.int .i64 (0)))], 45⟩) :: []) 230 43 [a1] fun v30 d30 ft30 =>
opM (ldS (look' (mpushs ((144, some ⟨[(AV.sc (.int .i64 z10)), (AV.sc (.int .i64 z11))], 45⟩) :: (144, some ⟨[(AV.sc (.int .i64 (0))), (AV.sc (.int .i64 (0)))], 45⟩) :: []) d30) (topId (AV.ptr 144 1) ++ ([]))) (AV.ptr 144 1)) fun v31 d31 =>
ex_i64 v31 fun z32 =>
opM (bld [(AV.sc (.int .i64 (0))), (AV.sc (.int .i64 (0)))] [(0, 1), (1, 1)] [(0, (AV.sc (.int .i64 a2))), (1, (AV.sc (.int .i64 (IntKind.wrap .i64 ((1) - z32)))))]) fun v33 d33 =>
opM (bsl 236 45 2 1 [(AV.sc (.int .i64 (0))), (AV.sc (.int .i64 (0)))] [(0, v33)]) fun v34 d34 =>
opM (app (look' (mpushs (mpushs (mpushs (mpushs ((144, some ⟨[(AV.sc (.int .i64 z10)), (AV.sc (.int .i64 z11))], 45⟩) :: (144, some ⟨[(AV.sc (.int .i64 (0))), (AV.sc (.int .i64 (0)))], 45⟩) :: []) d30) d31) d33) d34) (topId v30 ++ (topId v34 ++ ([])))) 45 2 16 [(AV.sc (.int .i64 (0))), (AV.sc (.int .i64 (0)))] 237 v30 v34) fun v35 d35 =>
chk (confOk [0, 1, 0, 0, 8, 24, 60, 124, 255, 511, 1023] [⟨[], []⟩, ⟨d30, ft30⟩, ⟨[], []⟩, ⟨[], []⟩, ⟨d31, (topId (AV.ptr 144 1) ++ ([]))⟩, ⟨[], []⟩, ⟨d33, []⟩, ⟨d34, []⟩, ⟨d35, (topId v30 ++ (topId v34 ++ ([])))⟩, ⟨[], []⟩, ⟨[], []⟩]) (retL R (mpushs (mpushs (mpushs (mpushs (mpushs ((144, some ⟨[(AV.sc (.int .i64 z10)), (AV.sc (.int .i64 z11))], 45⟩) :: (144, some ⟨[(AV.sc (.int .i64 (0))), (AV.sc (.int .i64 (0)))], 45⟩) :: []) d30) d31) d33) d34) d35) [some v35, some (AV.sc (.int .i64 (0)))])))))))
theorem F18_own (a0 : AV) (a1 : AV) (a2 : Int) (R : AV → Mem → Prop) (h : F18 a0 a1 a2 R) : Own Try.prog KK.gl 18 [a0, a1, (AV.sc (.int .i64 a2))] R := own_of_F fol Try.func18 (code := c18) (by kernel_rfl) (by kernel_rfl) (by kernel_rfl) (X := F18 a0 a1 a2 R) (by kernel_rfl) h
/- skyway/runway.Direction -/
noncomputable def c20 : Code := ((Try.f20).body).getD .skip
noncomputable def q20 (R : AV → Mem → Prop) : AExit → St → Prop := retQ Try.prog Try.f20 R
noncomputable def F20 (a0 : AV) (a1 : Int) (R : AV → Mem → Prop) : Prop :=
callQ Try.prog KK.gl [] 41 [a0] fun v0 =>
ex_i64 v0 fun z1 =>
bif (z1 != (0)) then (
retL R [] [some (AV.sc (.int .i64 (0))), some (AV.sc (.int .i64 z1))]) else (
callQ Try.prog KK.gl [] 42 [(AV.sc (.int .i64 a1))] fun v2 =>
exB v2 fun b3 =>
bif b3 then (
retL R [] [some (AV.sc (.int .i64 (0))), some (AV.sc (.int .i64 (12)))]) else (
callQ Try.prog KK.gl [] 44 [a0, (AV.sc (.int .i64 a1))] fun v4 =>
exT2 v4 fun c5 c6 =>
ex_i64 c5 fun z7 =>
exB c6 fun b8 =>
bif (!b8) then (
retL R [] [some (AV.sc (.int .i64 (0))), some (AV.sc (.int .i64 (14)))]) else (
retL R [] [some (AV.sc (.int .i64 z7)), some (AV.sc (.int .i64 (0)))])))
theorem F20_own (a0 : AV) (a1 : Int) (R : AV → Mem → Prop) (h : F20 a0 a1 R) : Own Try.prog KK.gl 20 [a0, (AV.sc (.int .i64 a1))] R := own_of_F fol Try.func20 (code := c20) (by kernel_rfl) (by kernel_rfl) (by kernel_rfl) (X := F20 a0 a1 R) (by kernel_rfl) h
/- skyway/runway.Gap -/
noncomputable def c39 : Code := ((Try.f39).body).getD .skip
noncomputable def q39 (R : AV → Mem → Prop) : AExit → St → Prop := retQ Try.prog Try.f39 R
noncomputable def c39_0 : Code := loopB c39 0
noncomputable def q39_0 (R : AV → Mem → Prop) : AExit → St → Prop := contW Try.prog KK 34 0 c39 0 (q39 R)
noncomputable def qq39_0 (R : AV → Mem → Prop) (N0 : St → Prop) : AExit → St → Prop := thenQ N0 (q39_0 R)
def h39_0 (t6 : Int) (t7 : Int) (t19 : AV) (t20 : Int) (b0_0 : Int) (b0_1 : Int) (b0_2 : Int) (b0_3 : Int) (b0_4 : Int) (b0_5 : Int) (b0_6 : Int) (b0_7 : Int) (b0_8 : Int) (b0_9 : Int) (b0_10 : Int) (b0_11 : Int) (b0_12 : Int) (b0_13 : Int) (b0_14 : Int) (b0_15 : Int) (b1_0 : Int) (b1_1 : Int) (b1_2 : Bool) (b1_3 : Int) (b2_0 : Int) (b2_1 : Int) (b2_2 : Bool) (b2_3 : Int) (m : Mem) : St := ⟨[(3, (AV.ptr 0 0)), (4, (AV.ptr 1 0)), (5, (AV.ptr 2 0)), (6, (AV.sc (.int .i64 t6))), (7, (AV.sc (.int .i64 t7))), (19, t19), (20, (AV.sc (.int .i64 t20)))], ((0, some ⟨[(AV.sc (.int .i64 b0_0)), (AV.sc (.int .i64 b0_1)), (AV.sc (.int .i64 b0_2)), (AV.sc (.int .i64 b0_3)), (AV.sc (.int .i64 b0_4)), (AV.sc (.int .i64 b0_5)), (AV.sc (.int .i64 b0_6)), (AV.sc (.int .i64 b0_7)), (AV.sc (.int .i64 b0_8)), (AV.sc (.int .i64 b0_9)), (AV.sc (.int .i64 b0_10)), (AV.sc (.int .i64 b0_11)), (AV.sc (.int .i64 b0_12)), (AV.sc (.int .i64 b0_13)), (AV.sc (.int .i64 b0_14)), (AV.sc (.int .i64 b0_15))], 24⟩) :: (1, some ⟨[(AV.sc (.int .i64 b1_0)), (AV.sc (.int .i64 b1_1)), (AV.sc (.bool b1_2)), (AV.sc (.int .i64 b1_3))], 52⟩) :: (2, some ⟨[(AV.sc (.int .i64 b2_0)), (AV.sc (.int .i64 b2_1)), (AV.sc (.bool b2_2)), (AV.sc (.int .i64 b2_3))], 52⟩) :: m), 100000⟩
noncomputable def B39_0 (t6 : Int) (t7 : Int) (t19 : AV) (t20 : Int) (b0_0 : Int) (b0_1 : Int) (b0_2 : Int) (b0_3 : Int) (b0_4 : Int) (b0_5 : Int) (b0_6 : Int) (b0_7 : Int) (b0_8 : Int) (b0_9 : Int) (b0_10 : Int) (b0_11 : Int) (b0_12 : Int) (b0_13 : Int) (b0_14 : Int) (b0_15 : Int) (b1_0 : Int) (b1_1 : Int) (b1_2 : Bool) (b1_3 : Int) (b2_0 : Int) (b2_1 : Int) (b2_2 : Bool) (b2_3 : Int) (m : Mem) (R : AV → Mem → Prop) (N0 : St → Prop) : Prop :=
bif (decide (t20 < (2))) then (
opP (opA Try.prog (.index 100 (.tmp 0) (.tmp 1)) 52 [t19, (AV.sc (.int .i64 t20))] (mget ((0, some ⟨[(AV.sc (.int .i64 b0_0)), (AV.sc (.int .i64 b0_1)), (AV.sc (.int .i64 b0_2)), (AV.sc (.int .i64 b0_3)), (AV.sc (.int .i64 b0_4)), (AV.sc (.int .i64 b0_5)), (AV.sc (.int .i64 b0_6)), (AV.sc (.int .i64 b0_7)), (AV.sc (.int .i64 b0_8)), (AV.sc (.int .i64 b0_9)), (AV.sc (.int .i64 b0_10)), (AV.sc (.int .i64 b0_11)), (AV.sc (.int .i64 b0_12)), (AV.sc (.int .i64 b0_13)), (AV.sc (.int .i64 b0_14)), (AV.sc (.int .i64 b0_15))], 24⟩) :: (1, some ⟨[(AV.sc (.int .i64 b1_0)), (AV.sc (.int .i64 b1_1)), (AV.sc (.bool b1_2)), (AV.sc (.int .i64 b1_3))], 52⟩) :: (2, some ⟨[(AV.sc (.int .i64 b2_0)), (AV.sc (.int .i64 b2_1)), (AV.sc (.bool b2_2)), (AV.sc (.int .i64 b2_3))], 52⟩) :: m)) 100001) fun v3 =>
exA4 v3 fun c4 c5 c6 c7 =>
ex_i64 c4 fun z8 =>
ex_i64 c5 fun z9 =>
exB c6 fun b10 =>
ex_i64 c7 fun z11 =>
opN (bsl 100005 52 4 1 [(AV.sc (.int .i64 (0))), (AV.sc (.int .i64 (0))), (AV.sc (.bool false)), (AV.sc (.int .i64 (0)))] [(0, (AV.agg [(AV.sc (.int .i64 z8)), (AV.sc (.int .i64 z9)), (AV.sc (.bool b10)), (AV.sc (.int .i64 z11))]))]) ((100002, some ⟨[(AV.sc (.int .i64 z8)), (AV.sc (.int .i64 z9)), (AV.sc (.bool b10)), (AV.sc (.int .i64 z11))], 52⟩) :: (100002, some ⟨[(AV.sc (.int .i64 (0))), (AV.sc (.int .i64 (0))), (AV.sc (.bool false)), (AV.sc (.int .i64 (0)))], 52⟩) :: (0, some ⟨[(AV.sc (.int .i64 b0_0)), (AV.sc (.int .i64 b0_1)), (AV.sc (.int .i64 b0_2)), (AV.sc (.int .i64 b0_3)), (AV.sc (.int .i64 b0_4)), (AV.sc (.int .i64 b0_5)), (AV.sc (.int .i64 b0_6)), (AV.sc (.int .i64 b0_7)), (AV.sc (.int .i64 b0_8)), (AV.sc (.int .i64 b0_9)), (AV.sc (.int .i64 b0_10)), (AV.sc (.int .i64 b0_11)), (AV.sc (.int .i64 b0_12)), (AV.sc (.int .i64 b0_13)), (AV.sc (.int .i64 b0_14)), (AV.sc (.int .i64 b0_15))], 24⟩) :: (1, some ⟨[(AV.sc (.int .i64 b1_0)), (AV.sc (.int .i64 b1_1)), (AV.sc (.bool b1_2)), (AV.sc (.int .i64 b1_3))], 52⟩) :: (2, some ⟨[(AV.sc (.int .i64 b2_0)), (AV.sc (.int .i64 b2_1)), (AV.sc (.bool b2_2)), (AV.sc (.int .i64 b2_3))], 52⟩) :: m) fun v12 m12 =>
callQ Try.prog KK.gl m12 40 [v12] fun v13 =>
ex_i64 v13 fun z14 =>
bif (z14 != (0)) then (
retL R m12 [some (AV.sc (.int .i64 (0))), some (AV.sc (.int .i64 z14))]) else (
N0 ⟨[(3, (AV.ptr 0 0)), (4, (AV.ptr 1 0)), (5, (AV.ptr 2 0)), (6, (AV.sc (.int .i64 t6))), (7, (AV.sc (.int .i64 t7))), (19, t19), (20, (AV.sc (.int .i64 (IntKind.wrap .i64 (t20 + (1)))))), (21, (AV.sc (.bool (decide (t20 < (2)))))), (22, (AV.agg [(AV.sc (.int .i64 z8)), (AV.sc (.int .i64 z9)), (AV.sc (.bool b10)), (AV.sc (.int .i64 z11))])), (10, (AV.ptr 100002 0)), (23, (AV.agg [(AV.sc (.int .i64 z8)), (AV.sc (.int .i64 z9)), (AV.sc (.bool b10)), (AV.sc (.int .i64 z11))])), (24, v12), (25, (AV.sc (.int .i64 z14))), (11, (AV.sc (.int .i64 z14))), (26, (AV.sc (.int .i64 z14))), (27, (AV.sc (.bool (z14 != (0))))), (29, (AV.sc (.int .i64 (IntKind.wrap .i64 (t20 + (1))))))], m12, 100075⟩)) else (
callQ Try.prog KK.gl ((0, some ⟨[(AV.sc (.int .i64 b0_0)), (AV.sc (.int .i64 b0_1)), (AV.sc (.int .i64 b0_2)), (AV.sc (.int .i64 b0_3)), (AV.sc (.int .i64 b0_4)), (AV.sc (.int .i64 b0_5)), (AV.sc (.int .i64 b0_6)), (AV.sc (.int .i64 b0_7)), (AV.sc (.int .i64 b0_8)), (AV.sc (.int .i64 b0_9)), (AV.sc (.int .i64 b0_10)), (AV.sc (.int .i64 b0_11)), (AV.sc (.int .i64 b0_12)), (AV.sc (.int .i64 b0_13)), (AV.sc (.int .i64 b0_14)), (AV.sc (.int .i64 b0_15))], 24⟩) :: (1, some ⟨[(AV.sc (.int .i64 b1_0)), (AV.sc (.int .i64 b1_1)), (AV.sc (.bool b1_2)), (AV.sc (.int .i64 b1_3))], 52⟩) :: (2, some ⟨[(AV.sc (.int .i64 b2_0)), (AV.sc (.int .i64 b2_1)), (AV.sc (.bool b2_2)), (AV.sc (.int .i64 b2_3))], 52⟩) :: m) 45 [(AV.agg [(AV.sc (.int .i64 b0_0)), (AV.sc (.int .i64 b0_1)), (AV.sc (.int .i64 b0_2)), (AV.sc (.int .i64 b0_3)), (AV.sc (.int .i64 b0_4)), (AV.sc (.int .i64 b0_5)), (AV.sc (.int .i64 b0_6)), (AV.sc (.int .i64 b0_7)), (AV.sc (.int .i64 b0_8)), (AV.sc (.int .i64 b0_9)), (AV.sc (.int .i64 b0_10)), (AV.sc (.int .i64 b0_11)), (AV.sc (.int .i64 b0_12)), (AV.sc (.int .i64 b0_13)), (AV.sc (.int .i64 b0_14)), (AV.sc (.int .i64 b0_15))]), (AV.agg [(AV.sc (.int .i64 b1_0)), (AV.sc (.int .i64 b1_1)), (AV.sc (.bool b1_2)), (AV.sc (.int .i64 b1_3))]), (AV.agg [(AV.sc (.int .i64 b2_0)), (AV.sc (.int .i64 b2_1)), (AV.sc (.bool b2_2)), (AV.sc (.int .i64 b2_3))])] fun v15 =>
ex_i64 v15 fun z16 =>
retL R ((0, some ⟨[(AV.sc (.int .i64 b0_0)), (AV.sc (.int .i64 b0_1)), (AV.sc (.int .i64 b0_2)), (AV.sc (.int .i64 b0_3)), (AV.sc (.int .i64 b0_4)), (AV.sc (.int .i64 b0_5)), (AV.sc (.int .i64 b0_6)), (AV.sc (.int .i64 b0_7)), (AV.sc (.int .i64 b0_8)), (AV.sc (.int .i64 b0_9)), (AV.sc (.int .i64 b0_10)), (AV.sc (.int .i64 b0_11)), (AV.sc (.int .i64 b0_12)), (AV.sc (.int .i64 b0_13)), (AV.sc (.int .i64 b0_14)), (AV.sc (.int .i64 b0_15))], 24⟩) :: (1, some ⟨[(AV.sc (.int .i64 b1_0)), (AV.sc (.int .i64 b1_1)), (AV.sc (.bool b1_2)), (AV.sc (.int .i64 b1_3))], 52⟩) :: (2, some ⟨[(AV.sc (.int .i64 b2_0)), (AV.sc (.int .i64 b2_1)), (AV.sc (.bool b2_2)), (AV.sc (.int .i64 b2_3))], 52⟩) :: m) [some (AV.sc (.int .i64 z16)), some (AV.sc (.int .i64 (0)))])
theorem B39_0_eq (t6 : Int) (t7 : Int) (t19 : AV) (t20 : Int) (b0_0 : Int) (b0_1 : Int) (b0_2 : Int) (b0_3 : Int) (b0_4 : Int) (b0_5 : Int) (b0_6 : Int) (b0_7 : Int) (b0_8 : Int) (b0_9 : Int) (b0_10 : Int) (b0_11 : Int) (b0_12 : Int) (b0_13 : Int) (b0_14 : Int) (b0_15 : Int) (b1_0 : Int) (b1_1 : Int) (b1_2 : Bool) (b1_3 : Int) (b2_0 : Int) (b2_1 : Int) (b2_2 : Bool) (b2_3 : Int) (m : Mem) (R : AV → Mem → Prop) (N0 : St → Prop) : W Try.prog KK 34 0 c39_0 (h39_0 t6 t7 t19 t20 b0_0 b0_1 b0_2 b0_3 b0_4 b0_5 b0_6 b0_7 b0_8 b0_9 b0_10 b0_11 b0_12 b0_13 b0_14 b0_15 b1_0 b1_1 b1_2 b1_3 b2_0 b2_1 b2_2 b2_3 m) (qq39_0 R N0) = B39_0 t6 t7 t19 t20 b0_0 b0_1 b0_2 b0_3 b0_4 b0_5 b0_6 b0_7 b0_8 b0_9 b0_10 b0_11 b0_12 b0_13 b0_14 b0_15 b1_0 b1_1 b1_2 b1_3 b2_0 b2_1 b2_2 b2_3 m R N0 := by kernel_rfl
theorem L39_0 (R : AV → Mem → Prop) {σ : Type} (I : σ → Prop) (t6 : σ → Int) (t7 : σ → Int) (t19 : σ → AV) (t20 : σ → Int) (b0_0 : σ → Int) (b0_1 : σ → Int) (b0_2 : σ → Int) (b0_3 : σ → Int) (b0_4 : σ → Int) (b0_5 : σ → Int) (b0_6 : σ → Int) (b0_7 : σ → Int) (b0_8 : σ → Int) (b0_9 : σ → Int) (b0_10 : σ → Int) (b0_11 : σ → Int) (b0_12 : σ → Int) (b0_13 : σ → Int) (b0_14 : σ → Int) (b0_15 : σ → Int) (b1_0 : σ → Int) (b1_1 : σ → Int) (b1_2 : σ → Bool) (b1_3 : σ → Int) (b2_0 : σ → Int) (b2_1 : σ → Int) (b2_2 : σ → Bool) (b2_3 : σ → Int) (m : σ → Mem) (μ : σ → Nat) (step : ∀ x, I x → B39_0 (t6 x) (t7 x) (t19 x) (t20 x) (b0_0 x) (b0_1 x) (b0_2 x) (b0_3 x) (b0_4 x) (b0_5 x) (b0_6 x) (b0_7 x) (b0_8 x) (b0_9 x) (b0_10 x) (b0_11 x) (b0_12 x) (b0_13 x) (b0_14 x) (b0_15 x) (b1_0 x) (b1_1 x) (b1_2 x) (b1_3 x) (b2_0 x) (b2_1 x) (b2_2 x) (b2_3 x) (m x) R (fun s' => ∃ y, I y ∧ μ y < μ x ∧ Weak KK 34 0 s' (h39_0 (t6 y) (t7 y) (t19 y) (t20 y) (b0_0 y) (b0_1 y) (b0_2 y) (b0_3 y) (b0_4 y) (b0_5 y) (b0_6 y) (b0_7 y) (b0_8 y) (b0_9 y) (b0_10 y) (b0_11 y) (b0_12 y) (b0_13 y) (b0_14 y) (b0_15 y) (b1_0 y) (b1_1 y) (b1_2 y) (b1_3 y) (b2_0 y) (b2_1 y) (b2_2 y) (b2_3 y) (m y)))) (x : σ) (hx : I x) {s : St} (hw : Weak KK 34 0 s (h39_0 (t6 x) (t7 x) (t19 x) (t20 x) (b0_0 x) (b0_1 x) (b0_2 x) (b0_3 x) (b0_4 x) (b0_5 x) (b0_6 x) (b0_7 x) (b0_8 x) (b0_9 x) (b0_10 x) (b0_11 x) (b0_12 x) (b0_13 x) (b0_14 x) (b0_15 x) (b1_0 x) (b1_1 x) (b1_2 x) (b1_3 x) (b2_0 x) (b2_1 x) (b2_2 x) (b2_3 x) (m x))) : Tri Try.prog KK 34 0 (.loop c39_0) s (q39_0 R) :=
  Tri.weak hw (Tri.loops fol I (fun x => h39_0 (t6 x) (t7 x) (t19 x) (t20 x) (b0_0 x) (b0_1 x) (b0_2 x) (b0_3 x) (b0_4 x) (b0_5 x) (b0_6 x) (b0_7 x) (b0_8 x) (b0_9 x) (b0_10 x) (b0_11 x) (b0_12 x) (b0_13 x) (b0_14 x) (b0_15 x) (b1_0 x) (b1_1 x) (b1_2 x) (b1_3 x) (b2_0 x) (b2_1 x) (b2_2 x) (b2_3 x) (m x)) μ (fun x hx => (B39_0_eq (t6 x) (t7 x) (t19 x) (t20 x) (b0_0 x) (b0_1 x) (b0_2 x) (b0_3 x) (b0_4 x) (b0_5 x) (b0_6 x) (b0_7 x) (b0_8 x) (b0_9 x) (b0_10 x) (b0_11 x) (b0_12 x) (b0_13 x) (b0_14 x) (b0_15 x) (b1_0 x) (b1_1 x) (b1_2 x) (b1_3 x) (b2_0 x) (b2_1 x) (b2_2 x) (b2_3 x) (m x) R _).mpr (step x hx)) x hx)
noncomputable def F39 (a0_0 : Int) (a0_1 : Int) (a0_2 : Int) (a0_3 : Int) (a0_4 : Int) (a0_5 : Int) (a0_6 : Int) (a0_7 : Int) (a0_8 : Int) (a0_9 : Int) (a0_10 : Int) (a0_11 : Int) (a0_12 : Int) (a0_13 : Int) (a0_14 : Int) (a0_15 : Int) (a1_0 : Int) (a1_1 : Int) (a1_2 : Bool) (a1_3 : Int) (a2_0 : Int) (a2_1 : Int) (a2_2 : Bool) (a2_3 : Int) (R : AV → Mem → Prop) : Prop :=
callQ Try.prog KK.gl ((2, some ⟨[(AV.sc (.int .i64 a2_0)), (AV.sc (.int .i64 a2_1)), (AV.sc (.bool a2_2)), (AV.sc (.int .i64 a2_3))], 52⟩) :: (1, some ⟨[(AV.sc (.int .i64 a1_0)), (AV.sc (.int .i64 a1_1)), (AV.sc (.bool a1_2)), (AV.sc (.int .i64 a1_3))], 52⟩) :: (0, some ⟨[(AV.sc (.int .i64 a0_0)), (AV.sc (.int .i64 a0_1)), (AV.sc (.int .i64 a0_2)), (AV.sc (.int .i64 a0_3)), (AV.sc (.int .i64 a0_4)), (AV.sc (.int .i64 a0_5)), (AV.sc (.int .i64 a0_6)), (AV.sc (.int .i64 a0_7)), (AV.sc (.int .i64 a0_8)), (AV.sc (.int .i64 a0_9)), (AV.sc (.int .i64 a0_10)), (AV.sc (.int .i64 a0_11)), (AV.sc (.int .i64 a0_12)), (AV.sc (.int .i64 a0_13)), (AV.sc (.int .i64 a0_14)), (AV.sc (.int .i64 a0_15))], 24⟩) :: []) 36 [(AV.agg [(AV.sc (.int .i64 a0_0)), (AV.sc (.int .i64 a0_1)), (AV.sc (.int .i64 a0_2)), (AV.sc (.int .i64 a0_3)), (AV.sc (.int .i64 a0_4)), (AV.sc (.int .i64 a0_5)), (AV.sc (.int .i64 a0_6)), (AV.sc (.int .i64 a0_7)), (AV.sc (.int .i64 a0_8)), (AV.sc (.int .i64 a0_9)), (AV.sc (.int .i64 a0_10)), (AV.sc (.int .i64 a0_11)), (AV.sc (.int .i64 a0_12)), (AV.sc (.int .i64 a0_13)), (AV.sc (.int .i64 a0_14)), (AV.sc (.int .i64 a0_15))])] fun v0 =>
ex_i64 v0 fun z1 =>
bif (z1 != (0)) then (
retL R ((2, some ⟨[(AV.sc (.int .i64 a2_0)), (AV.sc (.int .i64 a2_1)), (AV.sc (.bool a2_2)), (AV.sc (.int .i64 a2_3))], 52⟩) :: (1, some ⟨[(AV.sc (.int .i64 a1_0)), (AV.sc (.int .i64 a1_1)), (AV.sc (.bool a1_2)), (AV.sc (.int .i64 a1_3))], 52⟩) :: (0, some ⟨[(AV.sc (.int .i64 a0_0)), (AV.sc (.int .i64 a0_1)), (AV.sc (.int .i64 a0_2)), (AV.sc (.int .i64 a0_3)), (AV.sc (.int .i64 a0_4)), (AV.sc (.int .i64 a0_5)), (AV.sc (.int .i64 a0_6)), (AV.sc (.int .i64 a0_7)), (AV.sc (.int .i64 a0_8)), (AV.sc (.int .i64 a0_9)), (AV.sc (.int .i64 a0_10)), (AV.sc (.int .i64 a0_11)), (AV.sc (.int .i64 a0_12)), (AV.sc (.int .i64 a0_13)), (AV.sc (.int .i64 a0_14)), (AV.sc (.int .i64 a0_15))], 24⟩) :: []) [some (AV.sc (.int .i64 (0))), some (AV.sc (.int .i64 z1))]) else (
opP (opA Try.prog (.build 100 #[(0, .tmp 0), (1, .tmp 1)]) 100 [(AV.agg [(AV.sc (.int .i64 a1_0)), (AV.sc (.int .i64 a1_1)), (AV.sc (.bool a1_2)), (AV.sc (.int .i64 a1_3))]), (AV.agg [(AV.sc (.int .i64 a2_0)), (AV.sc (.int .i64 a2_1)), (AV.sc (.bool a2_2)), (AV.sc (.int .i64 a2_3))])] (mget ((2, some ⟨[(AV.sc (.int .i64 a2_0)), (AV.sc (.int .i64 a2_1)), (AV.sc (.bool a2_2)), (AV.sc (.int .i64 a2_3))], 52⟩) :: (1, some ⟨[(AV.sc (.int .i64 a1_0)), (AV.sc (.int .i64 a1_1)), (AV.sc (.bool a1_2)), (AV.sc (.int .i64 a1_3))], 52⟩) :: (0, some ⟨[(AV.sc (.int .i64 a0_0)), (AV.sc (.int .i64 a0_1)), (AV.sc (.int .i64 a0_2)), (AV.sc (.int .i64 a0_3)), (AV.sc (.int .i64 a0_4)), (AV.sc (.int .i64 a0_5)), (AV.sc (.int .i64 a0_6)), (AV.sc (.int .i64 a0_7)), (AV.sc (.int .i64 a0_8)), (AV.sc (.int .i64 a0_9)), (AV.sc (.int .i64 a0_10)), (AV.sc (.int .i64 a0_11)), (AV.sc (.int .i64 a0_12)), (AV.sc (.int .i64 a0_13)), (AV.sc (.int .i64 a0_14)), (AV.sc (.int .i64 a0_15))], 24⟩) :: [])) 75) fun v2 =>
Tri Try.prog KK 34 0 (.loop c39_0) ⟨[(0, (AV.agg [(AV.sc (.int .i64 a0_0)), (AV.sc (.int .i64 a0_1)), (AV.sc (.int .i64 a0_2)), (AV.sc (.int .i64 a0_3)), (AV.sc (.int .i64 a0_4)), (AV.sc (.int .i64 a0_5)), (AV.sc (.int .i64 a0_6)), (AV.sc (.int .i64 a0_7)), (AV.sc (.int .i64 a0_8)), (AV.sc (.int .i64 a0_9)), (AV.sc (.int .i64 a0_10)), (AV.sc (.int .i64 a0_11)), (AV.sc (.int .i64 a0_12)), (AV.sc (.int .i64 a0_13)), (AV.sc (.int .i64 a0_14)), (AV.sc (.int .i64 a0_15))])), (1, (AV.agg [(AV.sc (.int .i64 a1_0)), (AV.sc (.int .i64 a1_1)), (AV.sc (.bool a1_2)), (AV.sc (.int .i64 a1_3))])), (2, (AV.agg [(AV.sc (.int .i64 a2_0)), (AV.sc (.int .i64 a2_1)), (AV.sc (.bool a2_2)), (AV.sc (.int .i64 a2_3))])), (3, (AV.ptr 0 0)), (4, (AV.ptr 1 0)), (5, (AV.ptr 2 0)), (6, (AV.sc (.int .i64 (0)))), (7, (AV.sc (.int .i64 (0)))), (12, (AV.agg [(AV.sc (.int .i64 a0_0)), (AV.sc (.int .i64 a0_1)), (AV.sc (.int .i64 a0_2)), (AV.sc (.int .i64 a0_3)), (AV.sc (.int .i64 a0_4)), (AV.sc (.int .i64 a0_5)), (AV.sc (.int .i64 a0_6)), (AV.sc (.int .i64 a0_7)), (AV.sc (.int .i64 a0_8)), (AV.sc (.int .i64 a0_9)), (AV.sc (.int .i64 a0_10)), (AV.sc (.int .i64 a0_11)), (AV.sc (.int .i64 a0_12)), (AV.sc (.int .i64 a0_13)), (AV.sc (.int .i64 a0_14)), (AV.sc (.int .i64 a0_15))])), (13, (AV.sc (.int .i64 z1))), (8, (AV.sc (.int .i64 z1))), (14, (AV.sc (.int .i64 z1))), (15, (AV.sc (.bool (z1 != (0))))), (17, (AV.agg [(AV.sc (.int .i64 a1_0)), (AV.sc (.int .i64 a1_1)), (AV.sc (.bool a1_2)), (AV.sc (.int .i64 a1_3))])), (18, (AV.agg [(AV.sc (.int .i64 a2_0)), (AV.sc (.int .i64 a2_1)), (AV.sc (.bool a2_2)), (AV.sc (.int .i64 a2_3))])), (19, v2), (20, (AV.sc (.int .i64 (0))))], ((2, some ⟨[(AV.sc (.int .i64 a2_0)), (AV.sc (.int .i64 a2_1)), (AV.sc (.bool a2_2)), (AV.sc (.int .i64 a2_3))], 52⟩) :: (1, some ⟨[(AV.sc (.int .i64 a1_0)), (AV.sc (.int .i64 a1_1)), (AV.sc (.bool a1_2)), (AV.sc (.int .i64 a1_3))], 52⟩) :: (0, some ⟨[(AV.sc (.int .i64 a0_0)), (AV.sc (.int .i64 a0_1)), (AV.sc (.int .i64 a0_2)), (AV.sc (.int .i64 a0_3)), (AV.sc (.int .i64 a0_4)), (AV.sc (.int .i64 a0_5)), (AV.sc (.int .i64 a0_6)), (AV.sc (.int .i64 a0_7)), (AV.sc (.int .i64 a0_8)), (AV.sc (.int .i64 a0_9)), (AV.sc (.int .i64 a0_10)), (AV.sc (.int .i64 a0_11)), (AV.sc (.int .i64 a0_12)), (AV.sc (.int .i64 a0_13)), (AV.sc (.int .i64 a0_14)), (AV.sc (.int .i64 a0_15))], 24⟩) :: []), 77⟩ (q39_0 R))
theorem F39_own (a0_0 : Int) (a0_1 : Int) (a0_2 : Int) (a0_3 : Int) (a0_4 : Int) (a0_5 : Int) (a0_6 : Int) (a0_7 : Int) (a0_8 : Int) (a0_9 : Int) (a0_10 : Int) (a0_11 : Int) (a0_12 : Int) (a0_13 : Int) (a0_14 : Int) (a0_15 : Int) (a1_0 : Int) (a1_1 : Int) (a1_2 : Bool) (a1_3 : Int) (a2_0 : Int) (a2_1 : Int) (a2_2 : Bool) (a2_3 : Int) (R : AV → Mem → Prop) (h : F39 a0_0 a0_1 a0_2 a0_3 a0_4 a0_5 a0_6 a0_7 a0_8 a0_9 a0_10 a0_11 a0_12 a0_13 a0_14 a0_15 a1_0 a1_1 a1_2 a1_3 a2_0 a2_1 a2_2 a2_3 R) : Own Try.prog KK.gl 39 [(AV.agg [(AV.sc (.int .i64 a0_0)), (AV.sc (.int .i64 a0_1)), (AV.sc (.int .i64 a0_2)), (AV.sc (.int .i64 a0_3)), (AV.sc (.int .i64 a0_4)), (AV.sc (.int .i64 a0_5)), (AV.sc (.int .i64 a0_6)), (AV.sc (.int .i64 a0_7)), (AV.sc (.int .i64 a0_8)), (AV.sc (.int .i64 a0_9)), (AV.sc (.int .i64 a0_10)), (AV.sc (.int .i64 a0_11)), (AV.sc (.int .i64 a0_12)), (AV.sc (.int .i64 a0_13)), (AV.sc (.int .i64 a0_14)), (AV.sc (.int .i64 a0_15))]), (AV.agg [(AV.sc (.int .i64 a1_0)), (AV.sc (.int .i64 a1_1)), (AV.sc (.bool a1_2)), (AV.sc (.int .i64 a1_3))]), (AV.agg [(AV.sc (.int .i64 a2_0)), (AV.sc (.int .i64 a2_1)), (AV.sc (.bool a2_2)), (AV.sc (.int .i64 a2_3))])] R := own_of_F fol Try.func39 (code := c39) (by kernel_rfl) (by kernel_rfl) (by kernel_rfl) (X := F39 a0_0 a0_1 a0_2 a0_3 a0_4 a0_5 a0_6 a0_7 a0_8 a0_9 a0_10 a0_11 a0_12 a0_13 a0_14 a0_15 a1_0 a1_1 a1_2 a1_3 a2_0 a2_1 a2_2 a2_3 R) (by kernel_rfl) h
/- skyway/skywaykeep3.runwayFact -/
noncomputable def c17 : Code := ((Try.f17).body).getD .skip
noncomputable def q17 (R : AV → Mem → Prop) : AExit → St → Prop := retQ Try.prog Try.f17 R
noncomputable def F17 (R : AV → Mem → Prop) : Prop :=
opP (bld [(AV.sc (.int .i64 (0))), (AV.sc (.int .i64 (0))), (AV.sc (.bool false)), (AV.sc (.int .i64 (0)))] [(0, 1), (1, 1), (2, 1), (3, 1)] [(0, (AV.sc (.int .i64 (100)))), (1, (AV.sc (.int .i64 (1))))]) fun v0 =>
opN (bsl 2 52 4 1 [(AV.sc (.int .i64 (0))), (AV.sc (.int .i64 (0))), (AV.sc (.bool false)), (AV.sc (.int .i64 (0)))] [(0, v0)]) [] fun v1 m1 =>
opP (bld [(AV.sc (.int .i64 (0))), (AV.sc (.int .i64 (0)))] [(0, 1), (1, 1)] []) fun v2 =>
opN (bsl 4 45 2 1 [(AV.sc (.int .i64 (0))), (AV.sc (.int .i64 (0)))] [(0, v2)]) m1 fun v3 m3 =>
callQ Try.prog KK.gl m3 35 [] fun v4 =>
exA16 v4 fun c5 c6 c7 c8 c9 c10 c11 c12 c13 c14 c15 c16 c17 c18 c19 c20 =>
ex_i64 c5 fun z21 =>
ex_i64 c6 fun z22 =>
ex_i64 c7 fun z23 =>
ex_i64 c8 fun z24 =>
ex_i64 c9 fun z25 =>
ex_i64 c10 fun z26 =>
ex_i64 c11 fun z27 =>
ex_i64 c12 fun z28 =>
ex_i64 c13 fun z29 =>
ex_i64 c14 fun z30 =>
ex_i64 c15 fun z31 =>
ex_i64 c16 fun z32 =>
ex_i64 c17 fun z33 =>
ex_i64 c18 fun z34 =>
ex_i64 c19 fun z35 =>
ex_i64 c20 fun z36 =>
opP (bld [(AV.sc (.int .i64 (0))), (AV.sc (.int .i64 (0)))] [(0, 1), (1, 1)] [(0, (AV.sc (.int .i64 (100)))), (1, (AV.sc (.int .i64 (1))))]) fun v37 =>
opN (bsl 77 78 2 1 [(AV.sc (.int .i64 (0))), (AV.sc (.int .i64 (0)))] [(0, v37)]) ((69, some ⟨[(AV.sc (.int .i64 z21)), (AV.sc (.int .i64 z22)), (AV.sc (.int .i64 z23)), (AV.sc (.int .i64 z24)), (AV.sc (.int .i64 z25)), (AV.sc (.int .i64 z26)), (AV.sc (.int .i64 z27)), (AV.sc (.int .i64 z28)), (AV.sc (.int .i64 z29)), (AV.sc (.int .i64 z30)), (AV.sc (.int .i64 z31)), (AV.sc (.int .i64 z32)), (AV.sc (.int .i64 z33)), (AV.sc (.int .i64 z34)), (AV.sc (.int .i64 z35)), (AV.sc (.int .i64 z36))], 24⟩) :: (69, some ⟨[(AV.sc (.int .i64 (0))), (AV.sc (.int .i64 (0))), (AV.sc (.int .i64 (0))), (AV.sc (.int .i64 (0))), (AV.sc (.int .i64 (0))), (AV.sc (.int .i64 (0))), (AV.sc (.int .i64 (0))), (AV.sc (.int .i64 (0))), (AV.sc (.int .i64 (0))), (AV.sc (.int .i64 (0))), (AV.sc (.int .i64 (0))), (AV.sc (.int .i64 (0))), (AV.sc (.int .i64 (0))), (AV.sc (.int .i64 (0))), (AV.sc (.int .i64 (0))), (AV.sc (.int .i64 (0)))], 24⟩) :: m3) fun v38 m38 =>
callW Try.prog KK.gl m38 78 21 [v1, v3, (AV.agg [(AV.sc (.int .i64 z21)), (AV.sc (.int .i64 z22)), (AV.sc (.int .i64 z23)), (AV.sc (.int .i64 z24)), (AV.sc (.int .i64 z25)), (AV.sc (.int .i64 z26)), (AV.sc (.int .i64 z27)), (AV.sc (.int .i64 z28)), (AV.sc (.int .i64 z29)), (AV.sc (.int .i64 z30)), (AV.sc (.int .i64 z31)), (AV.sc (.int .i64 z32)), (AV.sc (.int .i64 z33)), (AV.sc (.int .i64 z34)), (AV.sc (.int .i64 z35)), (AV.sc (.int .i64 z36))]), v38] fun v39 m39 =>
exT2 v39 fun c40 c41 =>
ex_i64 c41 fun z42 =>
opP (ldA (mget m39) 16 (AV.ptr 69 0)) fun v43 =>
exA16 v43 fun c44 c45 c46 c47 c48 c49 c50 c51 c52 c53 c54 c55 c56 c57 c58 c59 =>
ex_i64 c44 fun z60 =>
ex_i64 c45 fun z61 =>
ex_i64 c46 fun z62 =>
ex_i64 c47 fun z63 =>
ex_i64 c48 fun z64 =>
ex_i64 c49 fun z65 =>
ex_i64 c50 fun z66 =>
ex_i64 c51 fun z67 =>
ex_i64 c52 fun z68 =>
ex_i64 c53 fun z69 =>
ex_i64 c54 fun z70 =>
ex_i64 c55 fun z71 =>
ex_i64 c56 fun z72 =>
ex_i64 c57 fun z73 =>
ex_i64 c58 fun z74 =>
ex_i64 c59 fun z75 =>
callQ Try.prog KK.gl m39 19 [c40, v3, (AV.agg [(AV.sc (.int .i64 z60)), (AV.sc (.int .i64 z61)), (AV.sc (.int .i64 z62)), (AV.sc (.int .i64 z63)), (AV.sc (.int .i64 z64)), (AV.sc (.int .i64 z65)), (AV.sc (.int .i64 z66)), (AV.sc (.int .i64 z67)), (AV.sc (.int .i64 z68)), (AV.sc (.int .i64 z69)), (AV.sc (.int .i64 z70)), (AV.sc (.int .i64 z71)), (AV.sc (.int .i64 z72)), (AV.sc (.int .i64 z73)), (AV.sc (.int .i64 z74)), (AV.sc (.int .i64 z75))])] fun v76 =>
exT3 v76 fun c77 c78 c79 =>
ex_i64 c77 fun z80 =>
ex_i64 c78 fun z81 =>
ex_i64 c79 fun z82 =>
callW Try.prog KK.gl m39 223 18 [c40, v3, (AV.sc (.int .i64 (1000)))] fun v83 m83 =>
exT2 v83 fun c84 c85 =>
ex_i64 c85 fun z86 =>
callQ Try.prog KK.gl m83 20 [c84, (AV.sc (.int .i64 (821)))] fun v87 =>
exT2 v87 fun c88 c89 =>
ex_i64 c88 fun z90 =>
ex_i64 c89 fun z91 =>
callQ Try.prog KK.gl m83 20 [c84, (AV.sc (.int .i64 (1180)))] fun v92 =>
exT2 v92 fun c93 c94 =>
ex_i64 c93 fun z95 =>
ex_i64 c94 fun z96 =>
opP (lenS c40) fun v97 =>
ex_i64 v97 fun z98 =>
bif (z98 != (2)) then (
retL R m83 [some (AV.sc (.bool false))]) else (
opP (ldA (mget m83) 16 (AV.ptr 69 0)) fun v99 =>
exA16 v99 fun c100 c101 c102 c103 c104 c105 c106 c107 c108 c109 c110 c111 c112 c113 c114 c115 =>
ex_i64 c100 fun z116 =>
ex_i64 c101 fun z117 =>
ex_i64 c102 fun z118 =>
ex_i64 c103 fun z119 =>
ex_i64 c104 fun z120 =>
ex_i64 c105 fun z121 =>
ex_i64 c106 fun z122 =>
ex_i64 c107 fun z123 =>
ex_i64 c108 fun z124 =>
ex_i64 c109 fun z125 =>
ex_i64 c110 fun z126 =>
ex_i64 c111 fun z127 =>
ex_i64 c112 fun z128 =>
ex_i64 c113 fun z129 =>
ex_i64 c114 fun z130 =>
ex_i64 c115 fun z131 =>
opP (idxS 4 c40 (AV.sc (.int .i64 (0)))) fun v132 =>
opP (ldA (mget m83) 4 v132) fun v133 =>
exA4 v133 fun c134 c135 c136 c137 =>
ex_i64 c134 fun z138 =>
ex_i64 c135 fun z139 =>
exB c136 fun b140 =>
ex_i64 c137 fun z141 =>
opP (idxS 4 c40 (AV.sc (.int .i64 (1)))) fun v142 =>
opP (ldA (mget m83) 4 v142) fun v143 =>
exA4 v143 fun c144 c145 c146 c147 =>
ex_i64 c144 fun z148 =>
ex_i64 c145 fun z149 =>
exB c146 fun b150 =>
ex_i64 c147 fun z151 =>
callQ Try.prog KK.gl m83 39 [(AV.agg [(AV.sc (.int .i64 z116)), (AV.sc (.int .i64 z117)), (AV.sc (.int .i64 z118)), (AV.sc (.int .i64 z119)), (AV.sc (.int .i64 z120)), (AV.sc (.int .i64 z121)), (AV.sc (.int .i64 z122)), (AV.sc (.int .i64 z123)), (AV.sc (.int .i64 z124)), (AV.sc (.int .i64 z125)), (AV.sc (.int .i64 z126)), (AV.sc (.int .i64 z127)), (AV.sc (.int .i64 z128)), (AV.sc (.int .i64 z129)), (AV.sc (.int .i64 z130)), (AV.sc (.int .i64 z131))]), (AV.agg [(AV.sc (.int .i64 z138)), (AV.sc (.int .i64 z139)), (AV.sc (.bool b140)), (AV.sc (.int .i64 z141))]), (AV.agg [(AV.sc (.int .i64 z148)), (AV.sc (.int .i64 z149)), (AV.sc (.bool b150)), (AV.sc (.int .i64 z151))])] fun v152 =>
exT2 v152 fun c153 c154 =>
ex_i64 c153 fun z155 =>
ex_i64 c154 fun z156 =>
opM (idxS 4 v1 (AV.sc (.int .i64 (0)))) fun v157 d157 =>
opM (ldA (look' (mpushs m83 d157) (topId v157 ++ ([]))) 4 v157) fun v158 d158 =>
exA4 v158 fun c159 c160 c161 c162 =>
ex_i64 c159 fun z163 =>
ex_i64 c160 fun z164 =>
exB c161 fun b165 =>
ex_i64 c162 fun z166 =>
opM (idxS 4 v1 (AV.sc (.int .i64 (0)))) fun v167 d167 =>
opM (ldA (look' (mpushs (mpushs (mpushs m83 d157) d158) d167) (topId v167 ++ ([]))) 4 v167) fun v168 d168 =>
exA4 v168 fun c169 c170 c171 c172 =>
ex_i64 c169 fun z173 =>
ex_i64 c170 fun z174 =>
exB c171 fun b175 =>
ex_i64 c172 fun z176 =>
opM (bsl 454 52 4 2 [(AV.sc (.int .i64 (0))), (AV.sc (.int .i64 (0))), (AV.sc (.bool false)), (AV.sc (.int .i64 (0)))] [(0, (AV.agg [(AV.sc (.int .i64 z163)), (AV.sc (.int .i64 z164)), (AV.sc (.bool b165)), (AV.sc (.int .i64 z166))])), (1, (AV.agg [(AV.sc (.int .i64 z173)), (AV.sc (.int .i64 z174)), (AV.sc (.bool b175)), (AV.sc (.int .i64 z176))]))]) fun v177 d177 =>
opM (ldA (look' (mpushs (mpushs (mpushs (mpushs (mpushs m83 d157) d158) d167) d168) d177) (topId (AV.ptr 69 0) ++ ([]))) 16 (AV.ptr 69 0)) fun v178 d178 =>
exA16 v178 fun c179 c180 c181 c182 c183 c184 c185 c186 c187 c188 c189 c190 c191 c192 c193 c194 =>
ex_i64 c179 fun z195 =>
ex_i64 c180 fun z196 =>
ex_i64 c181 fun z197 =>
ex_i64 c182 fun z198 =>
ex_i64 c183 fun z199 =>
ex_i64 c184 fun z200 =>
ex_i64 c185 fun z201 =>
ex_i64 c186 fun z202 =>
ex_i64 c187 fun z203 =>
ex_i64 c188 fun z204 =>
ex_i64 c189 fun z205 =>
ex_i64 c190 fun z206 =>
ex_i64 c191 fun z207 =>
ex_i64 c192 fun z208 =>
ex_i64 c193 fun z209 =>
ex_i64 c194 fun z210 =>
callF Try.prog KK.gl (mpushs (mpushs (mpushs (mpushs (mpushs (mpushs m83 d157) d158) d167) d168) d177) d178) 457 19 [v177, v3, (AV.agg [(AV.sc (.int .i64 z195)), (AV.sc (.int .i64 z196)), (AV.sc (.int .i64 z197)), (AV.sc (.int .i64 z198)), (AV.sc (.int .i64 z199)), (AV.sc (.int .i64 z200)), (AV.sc (.int .i64 z201)), (AV.sc (.int .i64 z202)), (AV.sc (.int .i64 z203)), (AV.sc (.int .i64 z204)), (AV.sc (.int .i64 z205)), (AV.sc (.int .i64 z206)), (AV.sc (.int .i64 z207)), (AV.sc (.int .i64 z208)), (AV.sc (.int .i64 z209)), (AV.sc (.int .i64 z210))])] fun v211 d211 ft211 =>
exT3 v211 fun c212 c213 c214 =>
ex_i64 c212 fun z215 =>
ex_i64 c213 fun z216 =>
ex_i64 c214 fun z217 =>
chk (confOk [0, 1, 3, 0, 8, 24, 63, 0, 0, 511, 1023, 2047, 2047, 2047, 4095, 24575, 65535] [⟨[], []⟩, ⟨d157, []⟩, ⟨d158, (topId v157 ++ ([]))⟩, ⟨[], []⟩, ⟨d167, []⟩, ⟨d168, (topId v167 ++ ([]))⟩, ⟨d177, []⟩, ⟨[], []⟩, ⟨d178, (topId (AV.ptr 69 0) ++ ([]))⟩, ⟨d211, ft211⟩, ⟨[], []⟩, ⟨[], []⟩, ⟨[], []⟩, ⟨[], []⟩, ⟨[], []⟩, ⟨[], []⟩, ⟨[], []⟩]) (bif (z42 == (0)) then (
bif (z82 == (0)) then (
bif (z86 == (0)) then (
bif (z91 == (14)) then (
bif (z96 == (0)) then (
bif (z156 == (0)) then (
bif (z217 == (15)) then (
bif (z215 == (0)) then (
bif (z216 == (1)) then (
bif (z95 == (1)) then (
bif (z155 == (60)) then (
opP (idxS 4 c40 (AV.sc (.int .i64 (1)))) fun v218 =>
opP (ldA (mget (mpushs (mpushs (mpushs (mpushs (mpushs (mpushs (mpushs m83 d157) d158) d167) d168) d177) d178) d211)) 4 v218) fun v219 =>
exA4 v219 fun c220 c221 c222 c223 =>
ex_i64 c220 fun z224 =>
ex_i64 c221 fun z225 =>
exB c222 fun b226 =>
ex_i64 c223 fun z227 =>
opP (bld [(AV.sc (.int .i64 (0))), (AV.sc (.int .i64 (0))), (AV.sc (.bool false)), (AV.sc (.int .i64 (0)))] [(0, 1), (1, 1), (2, 1), (3, 1)] [(0, (AV.sc (.int .i64 (160)))), (1, (AV.sc (.int .i64 (1)))), (2, (AV.sc (.bool true)))]) fun v228 =>
opP (opA Try.prog (.binOp .eql 52 (.tmp 0) (.tmp 1) 52) 4 [(AV.agg [(AV.sc (.int .i64 z224)), (AV.sc (.int .i64 z225)), (AV.sc (.bool b226)), (AV.sc (.int .i64 z227))]), v228] (mget (mpushs (mpushs (mpushs (mpushs (mpushs (mpushs (mpushs m83 d157) d158) d167) d168) d177) d178) d211)) 512) fun v229 =>
exB v229 fun b230 =>
bif b230 then (
opP (bld [(AV.sc (.int .i64 (0))), (AV.sc (.int .i64 (0))), (AV.sc (.bool false)), (AV.sc (.int .i64 (0)))] [(0, 1), (1, 1), (2, 1), (3, 1)] [(3, (AV.sc (.int .i64 (2))))]) fun v231 =>
opN (bsl 516 52 4 1 [(AV.sc (.int .i64 (0))), (AV.sc (.int .i64 (0))), (AV.sc (.bool false)), (AV.sc (.int .i64 (0)))] [(0, v231)]) (mpushs (mpushs (mpushs (mpushs (mpushs (mpushs (mpushs m83 d157) d158) d167) d168) d177) d178) d211) fun v232 m232 =>
callQ Try.prog KK.gl m232 40 [v232] fun v233 =>
ex_i64 v233 fun z234 =>
bif (z234 == (1)) then (
callQ Try.prog KK.gl m232 41 [AV.nils] fun v235 =>
ex_i64 v235 fun z236 =>
retL R m232 [some (AV.sc (.bool (z236 == (8))))]) else (
retL R m232 [some (AV.sc (.bool false))])) else (
retL R (mpushs (mpushs (mpushs (mpushs (mpushs (mpushs (mpushs m83 d157) d158) d167) d168) d177) d178) d211) [some (AV.sc (.bool false))])) else (
retL R (mpushs (mpushs (mpushs (mpushs (mpushs (mpushs (mpushs m83 d157) d158) d167) d168) d177) d178) d211) [some (AV.sc (.bool false))])) else (
retL R (mpushs (mpushs (mpushs (mpushs (mpushs (mpushs (mpushs m83 d157) d158) d167) d168) d177) d178) d211) [some (AV.sc (.bool false))])) else (
retL R (mpushs (mpushs (mpushs (mpushs (mpushs (mpushs (mpushs m83 d157) d158) d167) d168) d177) d178) d211) [some (AV.sc (.bool false))])) else (
retL R (mpushs (mpushs (mpushs (mpushs (mpushs (mpushs (mpushs m83 d157) d158) d167) d168) d177) d178) d211) [some (AV.sc (.bool false))])) else (
retL R (mpushs (mpushs (mpushs (mpushs (mpushs (mpushs (mpushs m83 d157) d158) d167) d168) d177) d178) d211) [some (AV.sc (.bool false))])) else (
retL R (mpushs (mpushs (mpushs (mpushs (mpushs (mpushs (mpushs m83 d157) d158) d167) d168) d177) d178) d211) [some (AV.sc (.bool false))])) else (
retL R (mpushs (mpushs (mpushs (mpushs (mpushs (mpushs (mpushs m83 d157) d158) d167) d168) d177) d178) d211) [some (AV.sc (.bool false))])) else (
retL R (mpushs (mpushs (mpushs (mpushs (mpushs (mpushs (mpushs m83 d157) d158) d167) d168) d177) d178) d211) [some (AV.sc (.bool false))])) else (
retL R (mpushs (mpushs (mpushs (mpushs (mpushs (mpushs (mpushs m83 d157) d158) d167) d168) d177) d178) d211) [some (AV.sc (.bool false))])) else (
retL R (mpushs (mpushs (mpushs (mpushs (mpushs (mpushs (mpushs m83 d157) d158) d167) d168) d177) d178) d211) [some (AV.sc (.bool false))])) else (
retL R (mpushs (mpushs (mpushs (mpushs (mpushs (mpushs (mpushs m83 d157) d158) d167) d168) d177) d178) d211) [some (AV.sc (.bool false))])))
theorem F17_own (R : AV → Mem → Prop) (h : F17  R) : Own Try.prog KK.gl 17 [] R := own_of_F fol Try.func17 (code := c17) (by kernel_rfl) (by kernel_rfl) (by kernel_rfl) (X := F17  R) (by kernel_rfl) h
/- skyway/skywaykeep3.RunwayTurns -/
noncomputable def c5 : Code := ((Try.f5).body).getD .skip
noncomputable def q5 (R : AV → Mem → Prop) : AExit → St → Prop := retQ Try.prog Try.f5 R
noncomputable def F5 (a0 : AV) (a1 : AV) (a2_0 : Int) (a2_1 : Int) (a2_2 : Int) (a2_3 : Int) (a2_4 : Int) (a2_5 : Int) (a2_6 : Int) (a2_7 : Int) (a2_8 : Int) (a2_9 : Int) (a2_10 : Int) (a2_11 : Int) (a2_12 : Int) (a2_13 : Int) (a2_14 : Int) (a2_15 : Int) (a3 : Int) (R : AV → Mem → Prop) : Prop :=
callQ Try.prog KK.gl ((0, some ⟨[(AV.sc (.int .i64 a2_0)), (AV.sc (.int .i64 a2_1)), (AV.sc (.int .i64 a2_2)), (AV.sc (.int .i64 a2_3)), (AV.sc (.int .i64 a2_4)), (AV.sc (.int .i64 a2_5)), (AV.sc (.int .i64 a2_6)), (AV.sc (.int .i64 a2_7)), (AV.sc (.int .i64 a2_8)), (AV.sc (.int .i64 a2_9)), (AV.sc (.int .i64 a2_10)), (AV.sc (.int .i64 a2_11)), (AV.sc (.int .i64 a2_12)), (AV.sc (.int .i64 a2_13)), (AV.sc (.int .i64 a2_14)), (AV.sc (.int .i64 a2_15))], 24⟩) :: []) 17 [] fun v0 =>
exB v0 fun b1 =>
bif (!b1) then (
retL R ((0, some ⟨[(AV.sc (.int .i64 a2_0)), (AV.sc (.int .i64 a2_1)), (AV.sc (.int .i64 a2_2)), (AV.sc (.int .i64 a2_3)), (AV.sc (.int .i64 a2_4)), (AV.sc (.int .i64 a2_5)), (AV.sc (.int .i64 a2_6)), (AV.sc (.int .i64 a2_7)), (AV.sc (.int .i64 a2_8)), (AV.sc (.int .i64 a2_9)), (AV.sc (.int .i64 a2_10)), (AV.sc (.int .i64 a2_11)), (AV.sc (.int .i64 a2_12)), (AV.sc (.int .i64 a2_13)), (AV.sc (.int .i64 a2_14)), (AV.sc (.int .i64 a2_15))], 24⟩) :: []) [some (AV.sc (.bool false))]) else (
callW Try.prog KK.gl ((0, some ⟨[(AV.sc (.int .i64 a2_0)), (AV.sc (.int .i64 a2_1)), (AV.sc (.int .i64 a2_2)), (AV.sc (.int .i64 a2_3)), (AV.sc (.int .i64 a2_4)), (AV.sc (.int .i64 a2_5)), (AV.sc (.int .i64 a2_6)), (AV.sc (.int .i64 a2_7)), (AV.sc (.int .i64 a2_8)), (AV.sc (.int .i64 a2_9)), (AV.sc (.int .i64 a2_10)), (AV.sc (.int .i64 a2_11)), (AV.sc (.int .i64 a2_12)), (AV.sc (.int .i64 a2_13)), (AV.sc (.int .i64 a2_14)), (AV.sc (.int .i64 a2_15))], 24⟩) :: []) 70 18 [a0, a1, (AV.sc (.int .i64 a3))] fun v2 m2 =>
exT2 v2 fun c3 c4 =>
ex_i64 c4 fun z5 =>
bif (z5 != (0)) then (
opP (lenS c3) fun v6 =>
ex_i64 v6 fun z7 =>
retL R m2 [some (AV.sc (.bool (z7 == (0))))]) else (
opP (lenS a1) fun v8 =>
ex_i64 v8 fun z9 =>
bif (z9 == (0)) then (
opP (lenS c3) fun v10 =>
ex_i64 v10 fun z11 =>
retL R m2 [some (AV.sc (.bool (z11 == (0))))]) else (
opP (ldA (mget m2) 16 (AV.ptr 0 0)) fun v12 =>
exA16 v12 fun c13 c14 c15 c16 c17 c18 c19 c20 c21 c22 c23 c24 c25 c26 c27 c28 =>
ex_i64 c13 fun z29 =>
ex_i64 c14 fun z30 =>
ex_i64 c15 fun z31 =>
ex_i64 c16 fun z32 =>
ex_i64 c17 fun z33 =>
ex_i64 c18 fun z34 =>
ex_i64 c19 fun z35 =>
ex_i64 c20 fun z36 =>
ex_i64 c21 fun z37 =>
ex_i64 c22 fun z38 =>
ex_i64 c23 fun z39 =>
ex_i64 c24 fun z40 =>
ex_i64 c25 fun z41 =>
ex_i64 c26 fun z42 =>
ex_i64 c27 fun z43 =>
ex_i64 c28 fun z44 =>
callQ Try.prog KK.gl m2 19 [a0, a1, (AV.agg [(AV.sc (.int .i64 z29)), (AV.sc (.int .i64 z30)), (AV.sc (.int .i64 z31)), (AV.sc (.int .i64 z32)), (AV.sc (.int .i64 z33)), (AV.sc (.int .i64 z34)), (AV.sc (.int .i64 z35)), (AV.sc (.int .i64 z36)), (AV.sc (.int .i64 z37)), (AV.sc (.int .i64 z38)), (AV.sc (.int .i64 z39)), (AV.sc (.int .i64 z40)), (AV.sc (.int .i64 z41)), (AV.sc (.int .i64 z42)), (AV.sc (.int .i64 z43)), (AV.sc (.int .i64 z44))])] fun v45 =>
exT3 v45 fun c46 c47 c48 =>
ex_i64 c46 fun z49 =>
ex_i64 c47 fun z50 =>
ex_i64 c48 fun z51 =>
opP (ldA (mget m2) 16 (AV.ptr 0 0)) fun v52 =>
exA16 v52 fun c53 c54 c55 c56 c57 c58 c59 c60 c61 c62 c63 c64 c65 c66 c67 c68 =>
ex_i64 c53 fun z69 =>
ex_i64 c54 fun z70 =>
ex_i64 c55 fun z71 =>
ex_i64 c56 fun z72 =>
ex_i64 c57 fun z73 =>
ex_i64 c58 fun z74 =>
ex_i64 c59 fun z75 =>
ex_i64 c60 fun z76 =>
ex_i64 c61 fun z77 =>
ex_i64 c62 fun z78 =>
ex_i64 c63 fun z79 =>
ex_i64 c64 fun z80 =>
ex_i64 c65 fun z81 =>
ex_i64 c66 fun z82 =>
ex_i64 c67 fun z83 =>
ex_i64 c68 fun z84 =>
callQ Try.prog KK.gl m2 19 [a0, c3, (AV.agg [(AV.sc (.int .i64 z69)), (AV.sc (.int .i64 z70)), (AV.sc (.int .i64 z71)), (AV.sc (.int .i64 z72)), (AV.sc (.int .i64 z73)), (AV.sc (.int .i64 z74)), (AV.sc (.int .i64 z75)), (AV.sc (.int .i64 z76)), (AV.sc (.int .i64 z77)), (AV.sc (.int .i64 z78)), (AV.sc (.int .i64 z79)), (AV.sc (.int .i64 z80)), (AV.sc (.int .i64 z81)), (AV.sc (.int .i64 z82)), (AV.sc (.int .i64 z83)), (AV.sc (.int .i64 z84))])] fun v85 =>
exT3 v85 fun c86 c87 c88 =>
ex_i64 c86 fun z89 =>
ex_i64 c87 fun z90 =>
ex_i64 c88 fun z91 =>
bif (z51 != z91) then (
retL R m2 [some (AV.sc (.bool false))]) else (
bif (z49 != z89) then (
retL R m2 [some (AV.sc (.bool false))]) else (
bif (z50 != z90) then (
retL R m2 [some (AV.sc (.bool false))]) else (
callQ Try.prog KK.gl m2 20 [c3, (AV.sc (.int .i64 a3))] fun v92 =>
exT2 v92 fun c93 c94 =>
ex_i64 c93 fun z95 =>
ex_i64 c94 fun z96 =>
bif (decide ((IntKind.wrap .i64 (a3 + (180))) > (200000))) then (
retL R m2 [some (AV.sc (.bool (z96 == (14))))]) else (
callQ Try.prog KK.gl m2 20 [c3, (AV.sc (.int .i64 (IntKind.wrap .i64 (a3 + (180)))))] fun v97 =>
exT2 v97 fun c98 c99 =>
ex_i64 c98 fun z100 =>
ex_i64 c99 fun z101 =>
bif (z96 == (14)) then (
bif (z101 == (0)) then (
opP (lenS a1) fun v102 =>
ex_i64 v102 fun z103 =>
opP (idxS 2 a1 (AV.sc (.int .i64 (IntKind.wrap .i64 (z103 - (1)))))) fun v104 =>
opP (fldO 1 v104) fun v105 =>
opP (ldS (mget m2) v105) fun v106 =>
ex_i64 v106 fun z107 =>
retL R m2 [some (AV.sc (.bool (z100 == (IntKind.wrap .i64 ((1) - z107)))))]) else (
retL R m2 [some (AV.sc (.bool false))])) else (
retL R m2 [some (AV.sc (.bool false))]))))))))
theorem F5_own (a0 : AV) (a1 : AV) (a2_0 : Int) (a2_1 : Int) (a2_2 : Int) (a2_3 : Int) (a2_4 : Int) (a2_5 : Int) (a2_6 : Int) (a2_7 : Int) (a2_8 : Int) (a2_9 : Int) (a2_10 : Int) (a2_11 : Int) (a2_12 : Int) (a2_13 : Int) (a2_14 : Int) (a2_15 : Int) (a3 : Int) (R : AV → Mem → Prop) (h : F5 a0 a1 a2_0 a2_1 a2_2 a2_3 a2_4 a2_5 a2_6 a2_7 a2_8 a2_9 a2_10 a2_11 a2_12 a2_13 a2_14 a2_15 a3 R) : Own Try.prog KK.gl 5 [a0, a1, (AV.agg [(AV.sc (.int .i64 a2_0)), (AV.sc (.int .i64 a2_1)), (AV.sc (.int .i64 a2_2)), (AV.sc (.int .i64 a2_3)), (AV.sc (.int .i64 a2_4)), (AV.sc (.int .i64 a2_5)), (AV.sc (.int .i64 a2_6)), (AV.sc (.int .i64 a2_7)), (AV.sc (.int .i64 a2_8)), (AV.sc (.int .i64 a2_9)), (AV.sc (.int .i64 a2_10)), (AV.sc (.int .i64 a2_11)), (AV.sc (.int .i64 a2_12)), (AV.sc (.int .i64 a2_13)), (AV.sc (.int .i64 a2_14)), (AV.sc (.int .i64 a2_15))]), (AV.sc (.int .i64 a3))] R := own_of_F fol Try.func5 (code := c5) (by kernel_rfl) (by kernel_rfl) (by kernel_rfl) (X := F5 a0 a1 a2_0 a2_1 a2_2 a2_3 a2_4 a2_5 a2_6 a2_7 a2_8 a2_9 a2_10 a2_11 a2_12 a2_13 a2_14 a2_15 a3 R) (by kernel_rfl) h
/- skyway/chart.Name -/
noncomputable def c62 : Code := ((Try.f62).body).getD .skip
noncomputable def q62 (R : AV → Mem → Prop) : AExit → St → Prop := retQ Try.prog Try.f62 R
noncomputable def c62_0 : Code := loopB c62 0
noncomputable def q62_0 (R : AV → Mem → Prop) : AExit → St → Prop := contW Try.prog KK 41 0 c62 0 (q62 R)
noncomputable def qq62_0 (R : AV → Mem → Prop) (N0 : St → Prop) : AExit → St → Prop := thenQ N0 (q62_0 R)
def h62_0 (t2 : Bool) (t14 : AV) (t15 : Int) (t16 : Int) (m : Mem) : St := ⟨[(2, (AV.sc (.bool t2))), (14, t14), (15, (AV.sc (.int .i64 t15))), (16, (AV.sc (.int .i64 t16)))], m, 100000⟩
noncomputable def B62_0 (t2 : Bool) (t14 : AV) (t15 : Int) (t16 : Int) (m : Mem) (R : AV → Mem → Prop) (N0 : St → Prop) : Prop :=
bif (decide (t16 < t15)) then (
opP (idxS 1 t14 (AV.sc (.int .i64 t16))) fun v7 =>
opP (ldS (mget m) v7) fun v8 =>
ex_u8 v8 fun z9 =>
bif (decide (z9 ≥ (65))) then (
bif (decide (z9 ≤ (90))) then (
N0 ⟨[(2, (AV.sc (.bool t2))), (14, t14), (15, (AV.sc (.int .i64 t15))), (16, (AV.sc (.int .i64 (IntKind.wrap .i64 (t16 + (1)))))), (17, (AV.sc (.bool (decide (t16 < t15))))), (18, (AV.sc (.int .i64 t16))), (19, v7), (20, (AV.sc (.int .u8 z9))), (3, (AV.sc (.int .i64 t16))), (4, (AV.sc (.int .u8 z9))), (21, (AV.sc (.int .u8 z9))), (22, (AV.sc (.bool (decide (z9 ≥ (65)))))), (23, (AV.sc (.bool true))), (24, (AV.sc (.int .u8 z9))), (25, (AV.sc (.bool (decide (z9 ≤ (90)))))), (26, (AV.sc (.bool (decide (z9 ≤ (90)))))), (27, (AV.sc (.bool true))), (28, (AV.tup [])), (29, (AV.tup [])), (30, (AV.tup [])), (31, (AV.tup [])), (32, (AV.tup [])), (33, (AV.tup [])), (34, (AV.tup [])), (35, (AV.tup [])), (36, (AV.tup [])), (37, (AV.tup [])), (38, (AV.sc (.bool true))), (39, (AV.sc (.bool false))), (40, (AV.sc (.int .i64 (IntKind.wrap .i64 (t16 + (1))))))], m, 100017⟩) else (
bif (decide (t16 > (0))) then (
bif (decide (z9 ≥ (48))) then (
bif (!(decide (z9 ≤ (57)))) then (
retL R m [some (AV.sc (.bool false))]) else (
N0 ⟨[(2, (AV.sc (.bool t2))), (14, t14), (15, (AV.sc (.int .i64 t15))), (16, (AV.sc (.int .i64 (IntKind.wrap .i64 (t16 + (1)))))), (17, (AV.sc (.bool (decide (t16 < t15))))), (18, (AV.sc (.int .i64 t16))), (19, v7), (20, (AV.sc (.int .u8 z9))), (3, (AV.sc (.int .i64 t16))), (4, (AV.sc (.int .u8 z9))), (21, (AV.sc (.int .u8 z9))), (22, (AV.sc (.bool (decide (z9 ≥ (65)))))), (23, (AV.sc (.bool true))), (24, (AV.sc (.int .u8 z9))), (25, (AV.sc (.bool (decide (z9 ≤ (90)))))), (26, (AV.sc (.bool (decide (z9 ≤ (90)))))), (27, (AV.sc (.bool false))), (28, (AV.sc (.int .i64 t16))), (29, (AV.sc (.bool (decide (t16 > (0)))))), (30, (AV.sc (.bool true))), (31, (AV.sc (.int .u8 z9))), (32, (AV.sc (.bool (decide (z9 ≥ (48)))))), (33, (AV.sc (.bool (decide (z9 ≥ (48)))))), (34, (AV.sc (.bool true))), (35, (AV.sc (.int .u8 z9))), (36, (AV.sc (.bool (decide (z9 ≤ (57)))))), (37, (AV.sc (.bool (decide (z9 ≤ (57)))))), (38, (AV.sc (.bool (decide (z9 ≤ (57)))))), (39, (AV.sc (.bool (!(decide (z9 ≤ (57))))))), (40, (AV.sc (.int .i64 (IntKind.wrap .i64 (t16 + (1))))))], m, 100027⟩)) else (
retL R m [some (AV.sc (.bool false))])) else (
retL R m [some (AV.sc (.bool false))]))) else (
bif (decide (t16 > (0))) then (
bif (decide (z9 ≥ (48))) then (
bif (!(decide (z9 ≤ (57)))) then (
retL R m [some (AV.sc (.bool false))]) else (
N0 ⟨[(2, (AV.sc (.bool t2))), (14, t14), (15, (AV.sc (.int .i64 t15))), (16, (AV.sc (.int .i64 (IntKind.wrap .i64 (t16 + (1)))))), (17, (AV.sc (.bool (decide (t16 < t15))))), (18, (AV.sc (.int .i64 t16))), (19, v7), (20, (AV.sc (.int .u8 z9))), (3, (AV.sc (.int .i64 t16))), (4, (AV.sc (.int .u8 z9))), (21, (AV.sc (.int .u8 z9))), (22, (AV.sc (.bool (decide (z9 ≥ (65)))))), (23, (AV.sc (.bool false))), (24, (AV.tup [])), (25, (AV.tup [])), (26, (AV.sc (.bool false))), (27, (AV.sc (.bool false))), (28, (AV.sc (.int .i64 t16))), (29, (AV.sc (.bool (decide (t16 > (0)))))), (30, (AV.sc (.bool true))), (31, (AV.sc (.int .u8 z9))), (32, (AV.sc (.bool (decide (z9 ≥ (48)))))), (33, (AV.sc (.bool (decide (z9 ≥ (48)))))), (34, (AV.sc (.bool true))), (35, (AV.sc (.int .u8 z9))), (36, (AV.sc (.bool (decide (z9 ≤ (57)))))), (37, (AV.sc (.bool (decide (z9 ≤ (57)))))), (38, (AV.sc (.bool (decide (z9 ≤ (57)))))), (39, (AV.sc (.bool (!(decide (z9 ≤ (57))))))), (40, (AV.sc (.int .i64 (IntKind.wrap .i64 (t16 + (1))))))], m, 100025⟩)) else (
retL R m [some (AV.sc (.bool false))])) else (
retL R m [some (AV.sc (.bool false))]))) else (
retL R m [some (AV.sc (.bool true))])
theorem B62_0_eq (t2 : Bool) (t14 : AV) (t15 : Int) (t16 : Int) (m : Mem) (R : AV → Mem → Prop) (N0 : St → Prop) : W Try.prog KK 41 0 c62_0 (h62_0 t2 t14 t15 t16 m) (qq62_0 R N0) = B62_0 t2 t14 t15 t16 m R N0 := by kernel_rfl
theorem L62_0 (R : AV → Mem → Prop) {σ : Type} (I : σ → Prop) (t2 : σ → Bool) (t14 : σ → AV) (t15 : σ → Int) (t16 : σ → Int) (m : σ → Mem) (μ : σ → Nat) (step : ∀ x, I x → B62_0 (t2 x) (t14 x) (t15 x) (t16 x) (m x) R (fun s' => ∃ y, I y ∧ μ y < μ x ∧ Weak KK 41 0 s' (h62_0 (t2 y) (t14 y) (t15 y) (t16 y) (m y)))) (x : σ) (hx : I x) {s : St} (hw : Weak KK 41 0 s (h62_0 (t2 x) (t14 x) (t15 x) (t16 x) (m x))) : Tri Try.prog KK 41 0 (.loop c62_0) s (q62_0 R) :=
  Tri.weak hw (Tri.loops fol I (fun x => h62_0 (t2 x) (t14 x) (t15 x) (t16 x) (m x)) μ (fun x hx => (B62_0_eq (t2 x) (t14 x) (t15 x) (t16 x) (m x) R _).mpr (step x hx)) x hx)
noncomputable def F62 (a0 : ByteArray) (R : AV → Mem → Prop) : Prop :=
opP (opA Try.prog (.call ⟨.builtin .len, #[.tmp 0], #[9]⟩) 3 [(AV.sc (.string a0))] (mget []) 2) fun v0 =>
ex_i64 v0 fun z1 =>
bif (decide (z1 < (1))) then (
retL R [] [some (AV.sc (.bool false))]) else (
opP (opA Try.prog (.call ⟨.builtin .len, #[.tmp 0], #[9]⟩) 3 [(AV.sc (.string a0))] (mget []) 6) fun v2 =>
ex_i64 v2 fun z3 =>
bif (decide (z3 > (8))) then (
retL R [] [some (AV.sc (.bool false))]) else (
opP (opA Try.prog (.convert 9 109 (.tmp 0)) 109 [(AV.sc (.string a0))] (mget []) 10) fun v4 =>
opP (lenS v4) fun v5 =>
ex_i64 v5 fun z6 =>
Tri Try.prog KK 41 0 (.loop c62_0) ⟨[(0, (AV.sc (.string a0))), (2, (AV.sc (.bool false))), (5, (AV.sc (.string a0))), (6, (AV.sc (.int .i64 z1))), (7, (AV.sc (.bool (decide (z1 < (1)))))), (8, (AV.sc (.bool false))), (9, (AV.sc (.string a0))), (10, (AV.sc (.int .i64 z3))), (11, (AV.sc (.bool (decide (z3 > (8)))))), (12, (AV.sc (.bool (decide (z3 > (8)))))), (13, (AV.sc (.string a0))), (14, v4), (15, (AV.sc (.int .i64 z6))), (16, (AV.sc (.int .i64 (0))))], [], 13⟩ (q62_0 R)))
theorem F62_own (a0 : ByteArray) (R : AV → Mem → Prop) (h : F62 a0 R) : Own Try.prog KK.gl 62 [(AV.sc (.string a0))] R := own_of_F fol Try.func62 (code := c62) (by kernel_rfl) (by kernel_rfl) (by kernel_rfl) (X := F62 a0 R) (by kernel_rfl) h
/- skyway/sequence.Check$1 -/
noncomputable def c64 : Code := ((Try.f64).body).getD .skip
noncomputable def q64 (R : AV → Mem → Prop) : AExit → St → Prop := retQ Try.prog Try.f64 R
noncomputable def F64 (a0_0 : ByteArray) (a0_1 : Int) (a0_2 : Int) (a0_3 : Int) (a1 : AV) (R : AV → Mem → Prop) : Prop :=
opP (fldO 0 a1) fun v0 =>
opP (ldS (mget ((0, some ⟨[(AV.sc (.string a0_0)), (AV.sc (.int .i64 a0_1)), (AV.sc (.int .i64 a0_2)), (AV.sc (.int .i64 a0_3))], 69⟩) :: [])) v0) fun v1 =>
exStr v1 fun s2 =>
retL R ((0, some ⟨[(AV.sc (.string a0_0)), (AV.sc (.int .i64 a0_1)), (AV.sc (.int .i64 a0_2)), (AV.sc (.int .i64 a0_3))], 69⟩) :: []) [some (AV.sc (.bool ((a0_0).toList == (s2).toList)))]
theorem F64_own (a0_0 : ByteArray) (a0_1 : Int) (a0_2 : Int) (a0_3 : Int) (a1 : AV) (R : AV → Mem → Prop) (h : F64 a0_0 a0_1 a0_2 a0_3 a1 R) : Own Try.prog KK.gl 64 [(AV.agg [(AV.sc (.string a0_0)), (AV.sc (.int .i64 a0_1)), (AV.sc (.int .i64 a0_2)), (AV.sc (.int .i64 a0_3))]), a1] R := own_of_F fol Try.func64 (code := c64) (by kernel_rfl) (by kernel_rfl) (by kernel_rfl) (X := F64 a0_0 a0_1 a0_2 a0_3 a1 R) (by kernel_rfl) h
/- slices.IndexFunc[[]skyway/api.SequenceArrival,skyway/api.SequenceArrival] -/
noncomputable def c71 : Code := ((Try.f71).body).getD .skip
noncomputable def q71 (R : AV → Mem → Prop) : AExit → St → Prop := retQ Try.prog Try.f71 R
noncomputable def c71_0 : Code := loopB c71 0
noncomputable def q71_0 (R : AV → Mem → Prop) : AExit → St → Prop := contW Try.prog KK 19 0 c71 0 (q71 R)
noncomputable def qq71_0 (R : AV → Mem → Prop) (N0 : St → Prop) : AExit → St → Prop := thenQ N0 (q71_0 R)
def h71_0 (t0 : AV) (t1 : AV) (t4 : Int) (t7 : Int) (t8 : Int) (m : Mem) : St := ⟨[(0, t0), (1, t1), (4, (AV.sc (.int .i64 t4))), (7, (AV.sc (.int .i64 t7))), (8, (AV.sc (.int .i64 t8)))], m, 100000⟩
noncomputable def B71_0 (t0 : AV) (t1 : AV) (t4 : Int) (t7 : Int) (t8 : Int) (m : Mem) (R : AV → Mem → Prop) (N0 : St → Prop) : Prop :=
bif (decide (t8 < t7)) then (
opP (idxS 4 t0 (AV.sc (.int .i64 t8))) fun v2 =>
opP (ldA (mget m) 4 v2) fun v3 =>
exA4 v3 fun c4 c5 c6 c7 =>
exStr c4 fun s8 =>
ex_i64 c5 fun z9 =>
ex_i64 c6 fun z10 =>
ex_i64 c7 fun z11 =>
fnArgs (some t1) (some [(AV.agg [(AV.sc (.string s8)), (AV.sc (.int .i64 z9)), (AV.sc (.int .i64 z10)), (AV.sc (.int .i64 z11))])]) fun f12 a12 => bif KK.pm f12 then callQ Try.prog KK.gl m f12 a12 (fun v12 =>
exB v12 fun b13 =>
bif b13 then (
retL R m [some (AV.sc (.int .i64 t8))]) else (
N0 ⟨[(0, t0), (1, t1), (4, (AV.sc (.int .i64 t4))), (7, (AV.sc (.int .i64 t7))), (8, (AV.sc (.int .i64 (IntKind.wrap .i64 (t8 + (1)))))), (9, (AV.sc (.bool (decide (t8 < t7))))), (10, (AV.sc (.int .i64 t8))), (5, (AV.sc (.int .i64 t8))), (11, t1), (12, t0), (13, (AV.sc (.int .i64 t8))), (14, v2), (15, (AV.agg [(AV.sc (.string s8)), (AV.sc (.int .i64 z9)), (AV.sc (.int .i64 z10)), (AV.sc (.int .i64 z11))])), (16, (AV.sc (.bool b13))), (18, (AV.sc (.int .i64 (IntKind.wrap .i64 (t8 + (1))))))], m, 100074⟩)) else callW Try.prog KK.gl m 100008 f12 a12 fun v12 m12 =>
exB v12 fun b13 =>
bif b13 then (
retL R m12 [some (AV.sc (.int .i64 t8))]) else (
N0 ⟨[(0, t0), (1, t1), (4, (AV.sc (.int .i64 t4))), (7, (AV.sc (.int .i64 t7))), (8, (AV.sc (.int .i64 (IntKind.wrap .i64 (t8 + (1)))))), (9, (AV.sc (.bool (decide (t8 < t7))))), (10, (AV.sc (.int .i64 t8))), (5, (AV.sc (.int .i64 t8))), (11, t1), (12, t0), (13, (AV.sc (.int .i64 t8))), (14, v2), (15, (AV.agg [(AV.sc (.string s8)), (AV.sc (.int .i64 z9)), (AV.sc (.int .i64 z10)), (AV.sc (.int .i64 z11))])), (16, (AV.sc (.bool b13))), (18, (AV.sc (.int .i64 (IntKind.wrap .i64 (t8 + (1))))))], m12, 100074⟩)) else (
retL R m [some (AV.sc (.int .i64 (-1)))])
theorem B71_0_eq (t0 : AV) (t1 : AV) (t4 : Int) (t7 : Int) (t8 : Int) (m : Mem) (R : AV → Mem → Prop) (N0 : St → Prop) : W Try.prog KK 19 0 c71_0 (h71_0 t0 t1 t4 t7 t8 m) (qq71_0 R N0) = B71_0 t0 t1 t4 t7 t8 m R N0 := by kernel_rfl
theorem L71_0 (R : AV → Mem → Prop) {σ : Type} (I : σ → Prop) (t0 : σ → AV) (t1 : σ → AV) (t4 : σ → Int) (t7 : σ → Int) (t8 : σ → Int) (m : σ → Mem) (μ : σ → Nat) (step : ∀ x, I x → B71_0 (t0 x) (t1 x) (t4 x) (t7 x) (t8 x) (m x) R (fun s' => ∃ y, I y ∧ μ y < μ x ∧ Weak KK 19 0 s' (h71_0 (t0 y) (t1 y) (t4 y) (t7 y) (t8 y) (m y)))) (x : σ) (hx : I x) {s : St} (hw : Weak KK 19 0 s (h71_0 (t0 x) (t1 x) (t4 x) (t7 x) (t8 x) (m x))) : Tri Try.prog KK 19 0 (.loop c71_0) s (q71_0 R) :=
  Tri.weak hw (Tri.loops fol I (fun x => h71_0 (t0 x) (t1 x) (t4 x) (t7 x) (t8 x) (m x)) μ (fun x hx => (B71_0_eq (t0 x) (t1 x) (t4 x) (t7 x) (t8 x) (m x) R _).mpr (step x hx)) x hx)
noncomputable def F71 (a0 : AV) (a1 : AV) (R : AV → Mem → Prop) : Prop :=
opP (lenS a0) fun v0 =>
ex_i64 v0 fun z1 =>
Tri Try.prog KK 19 0 (.loop c71_0) ⟨[(0, a0), (1, a1), (4, (AV.sc (.int .i64 (0)))), (6, a0), (7, (AV.sc (.int .i64 z1))), (8, (AV.sc (.int .i64 (0))))], [], 4⟩ (q71_0 R)
theorem F71_own (a0 : AV) (a1 : AV) (R : AV → Mem → Prop) (h : F71 a0 a1 R) : Own Try.prog KK.gl 71 [a0, a1] R := own_of_F fol Try.func71 (code := c71) (by kernel_rfl) (by kernel_rfl) (by kernel_rfl) (X := F71 a0 a1 R) (by kernel_rfl) h
/- slices.ContainsFunc[[]skyway/api.SequenceArrival,skyway/api.SequenceArrival] -/
noncomputable def c63 : Code := ((Try.f63).body).getD .skip
noncomputable def q63 (R : AV → Mem → Prop) : AExit → St → Prop := retQ Try.prog Try.f63 R
noncomputable def F63 (a0 : AV) (a1 : AV) (R : AV → Mem → Prop) : Prop :=
callQ Try.prog KK.gl [] 71 [a0, a1] fun v0 =>
ex_i64 v0 fun z1 =>
retL R [] [some (AV.sc (.bool (decide (z1 ≥ (0)))))]
theorem F63_own (a0 : AV) (a1 : AV) (R : AV → Mem → Prop) (h : F63 a0 a1 R) : Own Try.prog KK.gl 63 [a0, a1] R := own_of_F fol Try.func63 (code := c63) (by kernel_rfl) (by kernel_rfl) (by kernel_rfl) (X := F63 a0 a1 R) (by kernel_rfl) h
/- skyway/sequence.Check -/
noncomputable def c50 : Code := ((Try.f50).body).getD .skip
noncomputable def q50 (R : AV → Mem → Prop) : AExit → St → Prop := retQ Try.prog Try.f50 R
noncomputable def c50_0 : Code := loopB c50 0
noncomputable def q50_0 (R : AV → Mem → Prop) : AExit → St → Prop := contW Try.prog KK 49 0 c50 0 (q50 R)
noncomputable def qq50_0 (R : AV → Mem → Prop) (N0 : St → Prop) : AExit → St → Prop := thenQ N0 (q50_0 R)
def h50_0 (t0 : AV) (t2 : Int) (t9 : AV) (t10 : Int) (t11 : Int) (m : Mem) : St := ⟨[(0, t0), (2, (AV.sc (.int .i64 t2))), (9, t9), (10, (AV.sc (.int .i64 t10))), (11, (AV.sc (.int .i64 t11)))], m, 100000⟩
noncomputable def B50_0 (t0 : AV) (t2 : Int) (t9 : AV) (t10 : Int) (t11 : Int) (m : Mem) (R : AV → Mem → Prop) (N0 : St → Prop) : Prop :=
bif (decide (t11 < t10)) then (
opP (idxS 4 t9 (AV.sc (.int .i64 t11))) fun v4 =>
opP (ldA (mget m) 4 v4) fun v5 =>
exA4 v5 fun c6 c7 c8 c9 =>
exStr c6 fun s10 =>
ex_i64 c7 fun z11 =>
ex_i64 c8 fun z12 =>
ex_i64 c9 fun z13 =>
callQ Try.prog KK.gl ((100004, some ⟨[(AV.sc (.string s10)), (AV.sc (.int .i64 z11)), (AV.sc (.int .i64 z12)), (AV.sc (.int .i64 z13))], 69⟩) :: (100004, some ⟨[(AV.sc (.string ⟨#[]⟩)), (AV.sc (.int .i64 (0))), (AV.sc (.int .i64 (0))), (AV.sc (.int .i64 (0)))], 69⟩) :: m) 62 [(AV.sc (.string s10))] fun v14 =>
exB v14 fun b15 =>
bif (!b15) then (
retL R ((100004, some ⟨[(AV.sc (.string s10)), (AV.sc (.int .i64 z11)), (AV.sc (.int .i64 z12)), (AV.sc (.int .i64 z13))], 69⟩) :: (100004, some ⟨[(AV.sc (.string ⟨#[]⟩)), (AV.sc (.int .i64 (0))), (AV.sc (.int .i64 (0))), (AV.sc (.int .i64 (0)))], 69⟩) :: m) [some (AV.sc (.int .i64 (3)))]) else (
callQ Try.prog KK.gl ((100004, some ⟨[(AV.sc (.string s10)), (AV.sc (.int .i64 z11)), (AV.sc (.int .i64 z12)), (AV.sc (.int .i64 z13))], 69⟩) :: (100004, some ⟨[(AV.sc (.string ⟨#[]⟩)), (AV.sc (.int .i64 (0))), (AV.sc (.int .i64 (0))), (AV.sc (.int .i64 (0)))], 69⟩) :: m) 37 [(AV.sc (.int .i64 z11))] fun v16 =>
ex_i64 v16 fun z17 =>
bif (z17 != (0)) then (
retL R ((100004, some ⟨[(AV.sc (.string s10)), (AV.sc (.int .i64 z11)), (AV.sc (.int .i64 z12)), (AV.sc (.int .i64 z13))], 69⟩) :: (100004, some ⟨[(AV.sc (.string ⟨#[]⟩)), (AV.sc (.int .i64 (0))), (AV.sc (.int .i64 (0))), (AV.sc (.int .i64 (0)))], 69⟩) :: m) [some (AV.sc (.int .i64 z17))]) else (
bif (decide (z12 < (0))) then (
retL R ((100004, some ⟨[(AV.sc (.string s10)), (AV.sc (.int .i64 z11)), (AV.sc (.int .i64 z12)), (AV.sc (.int .i64 z13))], 69⟩) :: (100004, some ⟨[(AV.sc (.string ⟨#[]⟩)), (AV.sc (.int .i64 (0))), (AV.sc (.int .i64 (0))), (AV.sc (.int .i64 (0)))], 69⟩) :: m) [some (AV.sc (.int .i64 (12)))]) else (
bif (decide (z12 > z13)) then (
retL R ((100004, some ⟨[(AV.sc (.string s10)), (AV.sc (.int .i64 z11)), (AV.sc (.int .i64 z12)), (AV.sc (.int .i64 z13))], 69⟩) :: (100004, some ⟨[(AV.sc (.string ⟨#[]⟩)), (AV.sc (.int .i64 (0))), (AV.sc (.int .i64 (0))), (AV.sc (.int .i64 (0)))], 69⟩) :: m) [some (AV.sc (.int .i64 (12)))]) else (
bif (decide (z13 > (200000))) then (
retL R ((100004, some ⟨[(AV.sc (.string s10)), (AV.sc (.int .i64 z11)), (AV.sc (.int .i64 z12)), (AV.sc (.int .i64 z13))], 69⟩) :: (100004, some ⟨[(AV.sc (.string ⟨#[]⟩)), (AV.sc (.int .i64 (0))), (AV.sc (.int .i64 (0))), (AV.sc (.int .i64 (0)))], 69⟩) :: m) [some (AV.sc (.int .i64 (12)))]) else (
opP (opA Try.prog (.slice 59 (.tmp 0) none (some (.tmp 1)) none) 59 [t0, (AV.sc (.int .i64 t11))] (mget ((100004, some ⟨[(AV.sc (.string s10)), (AV.sc (.int .i64 z11)), (AV.sc (.int .i64 z12)), (AV.sc (.int .i64 z13))], 69⟩) :: (100004, some ⟨[(AV.sc (.string ⟨#[]⟩)), (AV.sc (.int .i64 (0))), (AV.sc (.int .i64 (0))), (AV.sc (.int .i64 (0)))], 69⟩) :: m)) 100161) fun v18 =>
callQ Try.prog KK.gl ((100004, some ⟨[(AV.sc (.string s10)), (AV.sc (.int .i64 z11)), (AV.sc (.int .i64 z12)), (AV.sc (.int .i64 z13))], 69⟩) :: (100004, some ⟨[(AV.sc (.string ⟨#[]⟩)), (AV.sc (.int .i64 (0))), (AV.sc (.int .i64 (0))), (AV.sc (.int .i64 (0)))], 69⟩) :: m) 63 [v18, (AV.fn 64 [(AV.ptr 100004 0)])] fun v19 =>
exB v19 fun b20 =>
bif b20 then (
retL R ((100004, some ⟨[(AV.sc (.string s10)), (AV.sc (.int .i64 z11)), (AV.sc (.int .i64 z12)), (AV.sc (.int .i64 z13))], 69⟩) :: (100004, some ⟨[(AV.sc (.string ⟨#[]⟩)), (AV.sc (.int .i64 (0))), (AV.sc (.int .i64 (0))), (AV.sc (.int .i64 (0)))], 69⟩) :: m) [some (AV.sc (.int .i64 (7)))]) else (
N0 ⟨[(0, t0), (2, (AV.sc (.int .i64 t2))), (9, t9), (10, (AV.sc (.int .i64 t10))), (11, (AV.sc (.int .i64 (IntKind.wrap .i64 (t11 + (1)))))), (12, (AV.sc (.bool (decide (t11 < t10))))), (13, (AV.sc (.int .i64 t11))), (14, v4), (15, (AV.agg [(AV.sc (.string s10)), (AV.sc (.int .i64 z11)), (AV.sc (.int .i64 z12)), (AV.sc (.int .i64 z13))])), (4, (AV.ptr 100004 0)), (3, (AV.sc (.int .i64 t11))), (16, (AV.ptr 100004 0)), (17, (AV.sc (.string s10))), (18, (AV.sc (.bool b15))), (19, (AV.sc (.bool (!b15)))), (20, (AV.ptr 100004 1)), (21, (AV.sc (.int .i64 z11))), (22, (AV.sc (.int .i64 z17))), (5, (AV.sc (.int .i64 z17))), (23, (AV.sc (.int .i64 z17))), (24, (AV.sc (.bool (z17 != (0))))), (27, (AV.ptr 100004 2)), (28, (AV.sc (.int .i64 z12))), (29, (AV.sc (.bool (decide (z12 < (0)))))), (30, (AV.sc (.bool false))), (31, (AV.ptr 100004 2)), (32, (AV.sc (.int .i64 z12))), (33, (AV.ptr 100004 3)), (34, (AV.sc (.int .i64 z13))), (35, (AV.sc (.bool (decide (z12 > z13))))), (36, (AV.sc (.bool (decide (z12 > z13))))), (37, (AV.sc (.bool false))), (38, (AV.ptr 100004 3)), (39, (AV.sc (.int .i64 z13))), (40, (AV.sc (.bool (decide (z13 > (200000)))))), (41, (AV.sc (.bool (decide (z13 > (200000)))))), (26, (AV.sc (.bool (decide (z13 > (200000)))))), (43, t0), (44, (AV.sc (.int .i64 t11))), (45, v18), (46, (AV.fn 64 [(AV.ptr 100004 0)])), (47, (AV.sc (.bool b20))), (42, (AV.sc (.bool b20))), (48, (AV.sc (.int .i64 (IntKind.wrap .i64 (t11 + (1))))))], ((100004, some ⟨[(AV.sc (.string s10)), (AV.sc (.int .i64 z11)), (AV.sc (.int .i64 z12)), (AV.sc (.int .i64 z13))], 69⟩) :: (100004, some ⟨[(AV.sc (.string ⟨#[]⟩)), (AV.sc (.int .i64 (0))), (AV.sc (.int .i64 (0))), (AV.sc (.int .i64 (0)))], 69⟩) :: m), 100230⟩))))))) else (
retL R m [some (AV.sc (.int .i64 (0)))])
theorem B50_0_eq (t0 : AV) (t2 : Int) (t9 : AV) (t10 : Int) (t11 : Int) (m : Mem) (R : AV → Mem → Prop) (N0 : St → Prop) : W Try.prog KK 49 0 c50_0 (h50_0 t0 t2 t9 t10 t11 m) (qq50_0 R N0) = B50_0 t0 t2 t9 t10 t11 m R N0 := by kernel_rfl
theorem L50_0 (R : AV → Mem → Prop) {σ : Type} (I : σ → Prop) (t0 : σ → AV) (t2 : σ → Int) (t9 : σ → AV) (t10 : σ → Int) (t11 : σ → Int) (m : σ → Mem) (μ : σ → Nat) (step : ∀ x, I x → B50_0 (t0 x) (t2 x) (t9 x) (t10 x) (t11 x) (m x) R (fun s' => ∃ y, I y ∧ μ y < μ x ∧ Weak KK 49 0 s' (h50_0 (t0 y) (t2 y) (t9 y) (t10 y) (t11 y) (m y)))) (x : σ) (hx : I x) {s : St} (hw : Weak KK 49 0 s (h50_0 (t0 x) (t2 x) (t9 x) (t10 x) (t11 x) (m x))) : Tri Try.prog KK 49 0 (.loop c50_0) s (q50_0 R) :=
  Tri.weak hw (Tri.loops fol I (fun x => h50_0 (t0 x) (t2 x) (t9 x) (t10 x) (t11 x) (m x)) μ (fun x hx => (B50_0_eq (t0 x) (t2 x) (t9 x) (t10 x) (t11 x) (m x) R _).mpr (step x hx)) x hx)
noncomputable def F50 (a0 : AV) (R : AV → Mem → Prop) : Prop :=
opP (lenS a0) fun v0 =>
ex_i64 v0 fun z1 =>
bif (decide (z1 > (8))) then (
retL R [] [some (AV.sc (.int .i64 (2)))]) else (
opP (lenS a0) fun v2 =>
ex_i64 v2 fun z3 =>
Tri Try.prog KK 49 0 (.loop c50_0) ⟨[(0, a0), (2, (AV.sc (.int .i64 (0)))), (6, a0), (7, (AV.sc (.int .i64 z1))), (8, (AV.sc (.bool (decide (z1 > (8)))))), (9, a0), (10, (AV.sc (.int .i64 z3))), (11, (AV.sc (.int .i64 (0))))], [], 7⟩ (q50_0 R))
theorem F50_own (a0 : AV) (R : AV → Mem → Prop) (h : F50 a0 R) : Own Try.prog KK.gl 50 [a0] R := own_of_F fol Try.func50 (code := c50) (by kernel_rfl) (by kernel_rfl) (by kernel_rfl) (X := F50 a0 R) (by kernel_rfl) h
/- skyway/sequence.isOrder -/
noncomputable def c55 : Code := ((Try.f55).body).getD .skip
noncomputable def q55 (R : AV → Mem → Prop) : AExit → St → Prop := retQ Try.prog Try.f55 R
noncomputable def c55_0 : Code := loopB c55 0
noncomputable def q55_0 (R : AV → Mem → Prop) : AExit → St → Prop := contW Try.prog KK 37 0 c55 0 (q55 R)
noncomputable def qq55_0 (R : AV → Mem → Prop) (N0 : St → Prop) : AExit → St → Prop := thenQ N0 (q55_0 R)
def h55_0 (t0 : AV) (t1 : Int) (t4 : Bool) (t5 : AV) (t10 : AV) (t11 : Int) (t12 : Int) (m : Mem) : St := ⟨[(0, t0), (1, (AV.sc (.int .i64 t1))), (4, (AV.sc (.bool t4))), (5, t5), (10, t10), (11, (AV.sc (.int .i64 t11))), (12, (AV.sc (.int .i64 t12)))], m, 100000⟩
noncomputable def B55_0 (t0 : AV) (t1 : Int) (t4 : Bool) (t5 : AV) (t10 : AV) (t11 : Int) (t12 : Int) (m : Mem) (R : AV → Mem → Prop) (N0 : St → Prop) : Prop :=
bif (decide (t12 < t11)) then (
opP (idxS 1 t10 (AV.sc (.int .i64 t12))) fun v3 =>
opP (ldS (mget m) v3) fun v4 =>
ex_i64 v4 fun z5 =>
bif (decide (z5 < (0))) then (
retL R m [some (AV.sc (.bool false))]) else (
bif (decide (z5 ≥ t1)) then (
retL R m [some (AV.sc (.bool false))]) else (
opP (idxS 1 t5 (AV.sc (.int .i64 z5))) fun v6 =>
opP (ldS (mget m) v6) fun v7 =>
exB v7 fun b8 =>
bif b8 then (
retL R m [some (AV.sc (.bool false))]) else (
opP (idxS 1 t5 (AV.sc (.int .i64 z5))) fun v9 =>
storeW Try.prog (mget m) 4 v9 (AV.sc (.bool true)) fun v10 d10 =>
N0 ⟨[(0, t0), (1, (AV.sc (.int .i64 t1))), (4, (AV.sc (.bool t4))), (5, t5), (10, t10), (11, (AV.sc (.int .i64 t11))), (12, (AV.sc (.int .i64 (IntKind.wrap .i64 (t12 + (1)))))), (13, (AV.sc (.bool (decide (t12 < t11))))), (14, v3), (15, (AV.sc (.int .i64 z5))), (7, (AV.sc (.int .i64 z5))), (16, (AV.sc (.int .i64 z5))), (17, (AV.sc (.bool (decide (z5 < (0)))))), (18, (AV.sc (.bool false))), (19, (AV.sc (.int .i64 z5))), (20, (AV.sc (.int .i64 t1))), (21, (AV.sc (.bool (decide (z5 ≥ t1))))), (22, (AV.sc (.bool (decide (z5 ≥ t1))))), (23, (AV.sc (.bool false))), (24, t5), (25, (AV.sc (.int .i64 z5))), (26, v6), (27, (AV.sc (.bool b8))), (28, (AV.sc (.bool b8))), (29, t5), (30, (AV.sc (.int .i64 z5))), (31, v9), (32, (AV.sc (.int .i64 (IntKind.wrap .i64 (t12 + (1))))))], (mpushs m d10), 100023⟩)))) else (
opP (lenS t0) fun v11 =>
ex_i64 v11 fun z12 =>
retL R m [some (AV.sc (.bool (z12 == t1)))])
theorem B55_0_eq (t0 : AV) (t1 : Int) (t4 : Bool) (t5 : AV) (t10 : AV) (t11 : Int) (t12 : Int) (m : Mem) (R : AV → Mem → Prop) (N0 : St → Prop) : W Try.prog KK 37 0 c55_0 (h55_0 t0 t1 t4 t5 t10 t11 t12 m) (qq55_0 R N0) = B55_0 t0 t1 t4 t5 t10 t11 t12 m R N0 := by kernel_rfl
theorem L55_0 (R : AV → Mem → Prop) {σ : Type} (I : σ → Prop) (t0 : σ → AV) (t1 : σ → Int) (t4 : σ → Bool) (t5 : σ → AV) (t10 : σ → AV) (t11 : σ → Int) (t12 : σ → Int) (m : σ → Mem) (μ : σ → Nat) (step : ∀ x, I x → B55_0 (t0 x) (t1 x) (t4 x) (t5 x) (t10 x) (t11 x) (t12 x) (m x) R (fun s' => ∃ y, I y ∧ μ y < μ x ∧ Weak KK 37 0 s' (h55_0 (t0 y) (t1 y) (t4 y) (t5 y) (t10 y) (t11 y) (t12 y) (m y)))) (x : σ) (hx : I x) {s : St} (hw : Weak KK 37 0 s (h55_0 (t0 x) (t1 x) (t4 x) (t5 x) (t10 x) (t11 x) (t12 x) (m x))) : Tri Try.prog KK 37 0 (.loop c55_0) s (q55_0 R) :=
  Tri.weak hw (Tri.loops fol I (fun x => h55_0 (t0 x) (t1 x) (t4 x) (t5 x) (t10 x) (t11 x) (t12 x) (m x)) μ (fun x hx => (B55_0_eq (t0 x) (t1 x) (t4 x) (t5 x) (t10 x) (t11 x) (t12 x) (m x) R _).mpr (step x hx)) x hx)
noncomputable def F55 (a0 : AV) (a1 : Int) (R : AV → Mem → Prop) : Prop :=
opN (mks 2 4 1 1 [(AV.sc (.bool false))] (AV.sc (.int .i64 a1)) (AV.sc (.int .i64 a1))) [] fun v0 m0 =>
opP (lenS a0) fun v1 =>
ex_i64 v1 fun z2 =>
Tri Try.prog KK 37 0 (.loop c55_0) ⟨[(0, a0), (1, (AV.sc (.int .i64 a1))), (4, (AV.sc (.bool false))), (8, (AV.sc (.int .i64 a1))), (9, v0), (5, v0), (10, a0), (11, (AV.sc (.int .i64 z2))), (12, (AV.sc (.int .i64 (0))))], m0, 7⟩ (q55_0 R)
theorem F55_own (a0 : AV) (a1 : Int) (R : AV → Mem → Prop) (h : F55 a0 a1 R) : Own Try.prog KK.gl 55 [a0, (AV.sc (.int .i64 a1))] R := own_of_F fol Try.func55 (code := c55) (by kernel_rfl) (by kernel_rfl) (by kernel_rfl) (X := F55 a0 a1 R) (by kernel_rfl) h
/- skyway/sequence.times -/
noncomputable def c53 : Code := ((Try.f53).body).getD .skip
noncomputable def q53 (R : AV → Mem → Prop) : AExit → St → Prop := retQ Try.prog Try.f53 R
noncomputable def c53_0 : Code := loopB c53 0
noncomputable def q53_0 (R : AV → Mem → Prop) : AExit → St → Prop := contW Try.prog KK 64 0 c53 0 (q53 R)
noncomputable def qq53_0 (R : AV → Mem → Prop) (N0 : St → Prop) : AExit → St → Prop := thenQ N0 (q53_0 R)
def h53_0 (t0 : AV) (t1 : AV) (t6 : AV) (t7 : Bool) (t8 : AV) (t12 : AV) (t13 : Int) (t14 : Int) (b0_0 : Int) (b0_1 : Int) (b0_2 : Int) (b0_3 : Int) (b0_4 : Int) (b0_5 : Int) (b0_6 : Int) (b0_7 : Int) (b0_8 : Int) (b0_9 : Int) (b0_10 : Int) (b0_11 : Int) (b0_12 : Int) (b0_13 : Int) (b0_14 : Int) (b0_15 : Int) (m : Mem) : St := ⟨[(0, t0), (1, t1), (5, (AV.ptr 0 0)), (6, t6), (7, (AV.sc (.bool t7))), (8, t8), (12, t12), (13, (AV.sc (.int .i64 t13))), (14, (AV.sc (.int .i64 t14)))], ((0, some ⟨[(AV.sc (.int .i64 b0_0)), (AV.sc (.int .i64 b0_1)), (AV.sc (.int .i64 b0_2)), (AV.sc (.int .i64 b0_3)), (AV.sc (.int .i64 b0_4)), (AV.sc (.int .i64 b0_5)), (AV.sc (.int .i64 b0_6)), (AV.sc (.int .i64 b0_7)), (AV.sc (.int .i64 b0_8)), (AV.sc (.int .i64 b0_9)), (AV.sc (.int .i64 b0_10)), (AV.sc (.int .i64 b0_11)), (AV.sc (.int .i64 b0_12)), (AV.sc (.int .i64 b0_13)), (AV.sc (.int .i64 b0_14)), (AV.sc (.int .i64 b0_15))], 24⟩) :: m), 100000⟩
noncomputable def B53_0 (t0 : AV) (t1 : AV) (t6 : AV) (t7 : Bool) (t8 : AV) (t12 : AV) (t13 : Int) (t14 : Int) (b0_0 : Int) (b0_1 : Int) (b0_2 : Int) (b0_3 : Int) (b0_4 : Int) (b0_5 : Int) (b0_6 : Int) (b0_7 : Int) (b0_8 : Int) (b0_9 : Int) (b0_10 : Int) (b0_11 : Int) (b0_12 : Int) (b0_13 : Int) (b0_14 : Int) (b0_15 : Int) (m : Mem) (R : AV → Mem → Prop) (N0 : St → Prop) : Prop :=
bif (decide (t14 < t13)) then (
opP (idxS 1 t12 (AV.sc (.int .i64 t14))) fun v2 =>
opP (ldS (mget ((0, some ⟨[(AV.sc (.int .i64 b0_0)), (AV.sc (.int .i64 b0_1)), (AV.sc (.int .i64 b0_2)), (AV.sc (.int .i64 b0_3)), (AV.sc (.int .i64 b0_4)), (AV.sc (.int .i64 b0_5)), (AV.sc (.int .i64 b0_6)), (AV.sc (.int .i64 b0_7)), (AV.sc (.int .i64 b0_8)), (AV.sc (.int .i64 b0_9)), (AV.sc (.int .i64 b0_10)), (AV.sc (.int .i64 b0_11)), (AV.sc (.int .i64 b0_12)), (AV.sc (.int .i64 b0_13)), (AV.sc (.int .i64 b0_14)), (AV.sc (.int .i64 b0_15))], 24⟩) :: m)) v2) fun v3 =>
ex_i64 v3 fun z4 =>
opP (idxS 4 t0 (AV.sc (.int .i64 z4))) fun v5 =>
opP (fldO 2 v5) fun v6 =>
opP (ldS (mget ((0, some ⟨[(AV.sc (.int .i64 b0_0)), (AV.sc (.int .i64 b0_1)), (AV.sc (.int .i64 b0_2)), (AV.sc (.int .i64 b0_3)), (AV.sc (.int .i64 b0_4)), (AV.sc (.int .i64 b0_5)), (AV.sc (.int .i64 b0_6)), (AV.sc (.int .i64 b0_7)), (AV.sc (.int .i64 b0_8)), (AV.sc (.int .i64 b0_9)), (AV.sc (.int .i64 b0_10)), (AV.sc (.int .i64 b0_11)), (AV.sc (.int .i64 b0_12)), (AV.sc (.int .i64 b0_13)), (AV.sc (.int .i64 b0_14)), (AV.sc (.int .i64 b0_15))], 24⟩) :: m)) v6) fun v7 =>
ex_i64 v7 fun z8 =>
bif (decide (t14 > (0))) then (
opP (idxS 1 t8 (AV.sc (.int .i64 (IntKind.wrap .i64 (t14 - (1)))))) fun v9 =>
opP (ldS (mget ((0, some ⟨[(AV.sc (.int .i64 b0_0)), (AV.sc (.int .i64 b0_1)), (AV.sc (.int .i64 b0_2)), (AV.sc (.int .i64 b0_3)), (AV.sc (.int .i64 b0_4)), (AV.sc (.int .i64 b0_5)), (AV.sc (.int .i64 b0_6)), (AV.sc (.int .i64 b0_7)), (AV.sc (.int .i64 b0_8)), (AV.sc (.int .i64 b0_9)), (AV.sc (.int .i64 b0_10)), (AV.sc (.int .i64 b0_11)), (AV.sc (.int .i64 b0_12)), (AV.sc (.int .i64 b0_13)), (AV.sc (.int .i64 b0_14)), (AV.sc (.int .i64 b0_15))], 24⟩) :: m)) v9) fun v10 =>
ex_i64 v10 fun z11 =>
opP (idxS 1 t1 (AV.sc (.int .i64 (IntKind.wrap .i64 (t14 - (1)))))) fun v12 =>
opP (ldS (mget ((0, some ⟨[(AV.sc (.int .i64 b0_0)), (AV.sc (.int .i64 b0_1)), (AV.sc (.int .i64 b0_2)), (AV.sc (.int .i64 b0_3)), (AV.sc (.int .i64 b0_4)), (AV.sc (.int .i64 b0_5)), (AV.sc (.int .i64 b0_6)), (AV.sc (.int .i64 b0_7)), (AV.sc (.int .i64 b0_8)), (AV.sc (.int .i64 b0_9)), (AV.sc (.int .i64 b0_10)), (AV.sc (.int .i64 b0_11)), (AV.sc (.int .i64 b0_12)), (AV.sc (.int .i64 b0_13)), (AV.sc (.int .i64 b0_14)), (AV.sc (.int .i64 b0_15))], 24⟩) :: m)) v12) fun v13 =>
ex_i64 v13 fun z14 =>
opP (idxS 4 t0 (AV.sc (.int .i64 z14))) fun v15 =>
opP (fldO 1 v15) fun v16 =>
opP (ldS (mget ((0, some ⟨[(AV.sc (.int .i64 b0_0)), (AV.sc (.int .i64 b0_1)), (AV.sc (.int .i64 b0_2)), (AV.sc (.int .i64 b0_3)), (AV.sc (.int .i64 b0_4)), (AV.sc (.int .i64 b0_5)), (AV.sc (.int .i64 b0_6)), (AV.sc (.int .i64 b0_7)), (AV.sc (.int .i64 b0_8)), (AV.sc (.int .i64 b0_9)), (AV.sc (.int .i64 b0_10)), (AV.sc (.int .i64 b0_11)), (AV.sc (.int .i64 b0_12)), (AV.sc (.int .i64 b0_13)), (AV.sc (.int .i64 b0_14)), (AV.sc (.int .i64 b0_15))], 24⟩) :: m)) v16) fun v17 =>
ex_i64 v17 fun z18 =>
opP (idxS 4 t0 (AV.sc (.int .i64 z4))) fun v19 =>
opP (fldO 1 v19) fun v20 =>
opP (ldS (mget ((0, some ⟨[(AV.sc (.int .i64 b0_0)), (AV.sc (.int .i64 b0_1)), (AV.sc (.int .i64 b0_2)), (AV.sc (.int .i64 b0_3)), (AV.sc (.int .i64 b0_4)), (AV.sc (.int .i64 b0_5)), (AV.sc (.int .i64 b0_6)), (AV.sc (.int .i64 b0_7)), (AV.sc (.int .i64 b0_8)), (AV.sc (.int .i64 b0_9)), (AV.sc (.int .i64 b0_10)), (AV.sc (.int .i64 b0_11)), (AV.sc (.int .i64 b0_12)), (AV.sc (.int .i64 b0_13)), (AV.sc (.int .i64 b0_14)), (AV.sc (.int .i64 b0_15))], 24⟩) :: m)) v20) fun v21 =>
ex_i64 v21 fun z22 =>
opP (idxA 4 4 (AV.ptr 0 0) (AV.sc (.int .i64 z18))) fun v23 =>
opP (idxA 4 1 v23 (AV.sc (.int .i64 z22))) fun v24 =>
opP (ldS (mget ((0, some ⟨[(AV.sc (.int .i64 b0_0)), (AV.sc (.int .i64 b0_1)), (AV.sc (.int .i64 b0_2)), (AV.sc (.int .i64 b0_3)), (AV.sc (.int .i64 b0_4)), (AV.sc (.int .i64 b0_5)), (AV.sc (.int .i64 b0_6)), (AV.sc (.int .i64 b0_7)), (AV.sc (.int .i64 b0_8)), (AV.sc (.int .i64 b0_9)), (AV.sc (.int .i64 b0_10)), (AV.sc (.int .i64 b0_11)), (AV.sc (.int .i64 b0_12)), (AV.sc (.int .i64 b0_13)), (AV.sc (.int .i64 b0_14)), (AV.sc (.int .i64 b0_15))], 24⟩) :: m)) v24) fun v25 =>
ex_i64 v25 fun z26 =>
opP (opA Try.prog (.call ⟨.builtin .max, #[.tmp 0, .tmp 1], #[3, 3]⟩) 3 [(AV.sc (.int .i64 z8)), (AV.sc (.int .i64 (IntKind.wrap .i64 (z11 + z26))))] (mget ((0, some ⟨[(AV.sc (.int .i64 b0_0)), (AV.sc (.int .i64 b0_1)), (AV.sc (.int .i64 b0_2)), (AV.sc (.int .i64 b0_3)), (AV.sc (.int .i64 b0_4)), (AV.sc (.int .i64 b0_5)), (AV.sc (.int .i64 b0_6)), (AV.sc (.int .i64 b0_7)), (AV.sc (.int .i64 b0_8)), (AV.sc (.int .i64 b0_9)), (AV.sc (.int .i64 b0_10)), (AV.sc (.int .i64 b0_11)), (AV.sc (.int .i64 b0_12)), (AV.sc (.int .i64 b0_13)), (AV.sc (.int .i64 b0_14)), (AV.sc (.int .i64 b0_15))], 24⟩) :: m)) 100038) fun v27 =>
ex_i64 v27 fun z28 =>
opP (idxS 4 t0 (AV.sc (.int .i64 z4))) fun v29 =>
opP (fldO 3 v29) fun v30 =>
opP (ldS (mget ((0, some ⟨[(AV.sc (.int .i64 b0_0)), (AV.sc (.int .i64 b0_1)), (AV.sc (.int .i64 b0_2)), (AV.sc (.int .i64 b0_3)), (AV.sc (.int .i64 b0_4)), (AV.sc (.int .i64 b0_5)), (AV.sc (.int .i64 b0_6)), (AV.sc (.int .i64 b0_7)), (AV.sc (.int .i64 b0_8)), (AV.sc (.int .i64 b0_9)), (AV.sc (.int .i64 b0_10)), (AV.sc (.int .i64 b0_11)), (AV.sc (.int .i64 b0_12)), (AV.sc (.int .i64 b0_13)), (AV.sc (.int .i64 b0_14)), (AV.sc (.int .i64 b0_15))], 24⟩) :: m)) v30) fun v31 =>
ex_i64 v31 fun z32 =>
bif (decide (z28 > z32)) then (
retL R ((0, some ⟨[(AV.sc (.int .i64 b0_0)), (AV.sc (.int .i64 b0_1)), (AV.sc (.int .i64 b0_2)), (AV.sc (.int .i64 b0_3)), (AV.sc (.int .i64 b0_4)), (AV.sc (.int .i64 b0_5)), (AV.sc (.int .i64 b0_6)), (AV.sc (.int .i64 b0_7)), (AV.sc (.int .i64 b0_8)), (AV.sc (.int .i64 b0_9)), (AV.sc (.int .i64 b0_10)), (AV.sc (.int .i64 b0_11)), (AV.sc (.int .i64 b0_12)), (AV.sc (.int .i64 b0_13)), (AV.sc (.int .i64 b0_14)), (AV.sc (.int .i64 b0_15))], 24⟩) :: m) [some AV.nils, some (AV.sc (.bool false))]) else (
opN (bsl 100049 3 1 1 [(AV.sc (.int .i64 (0)))] [(0, (AV.sc (.int .i64 z28)))]) ((0, some ⟨[(AV.sc (.int .i64 b0_0)), (AV.sc (.int .i64 b0_1)), (AV.sc (.int .i64 b0_2)), (AV.sc (.int .i64 b0_3)), (AV.sc (.int .i64 b0_4)), (AV.sc (.int .i64 b0_5)), (AV.sc (.int .i64 b0_6)), (AV.sc (.int .i64 b0_7)), (AV.sc (.int .i64 b0_8)), (AV.sc (.int .i64 b0_9)), (AV.sc (.int .i64 b0_10)), (AV.sc (.int .i64 b0_11)), (AV.sc (.int .i64 b0_12)), (AV.sc (.int .i64 b0_13)), (AV.sc (.int .i64 b0_14)), (AV.sc (.int .i64 b0_15))], 24⟩) :: m) fun v33 m33 =>
opN (app (mget m33) 3 1 8 [(AV.sc (.int .i64 (0)))] 100050 t8 v33) m33 fun v34 m34 =>
N0 ⟨[(0, t0), (1, t1), (5, (AV.ptr 0 0)), (6, t6), (7, (AV.sc (.bool t7))), (8, v34), (12, t12), (13, (AV.sc (.int .i64 t13))), (14, (AV.sc (.int .i64 (IntKind.wrap .i64 (t14 + (1)))))), (15, (AV.sc (.bool (decide (t14 < t13))))), (16, (AV.sc (.int .i64 t14))), (17, v2), (18, (AV.sc (.int .i64 z4))), (9, (AV.sc (.int .i64 t14))), (10, (AV.sc (.int .i64 z4))), (19, t0), (20, (AV.sc (.int .i64 z4))), (21, v5), (22, v6), (23, (AV.sc (.int .i64 z8))), (11, (AV.sc (.int .i64 z28))), (24, (AV.sc (.int .i64 t14))), (25, (AV.sc (.bool (decide (t14 > (0)))))), (26, (AV.sc (.int .i64 z8))), (27, t8), (28, (AV.sc (.int .i64 t14))), (29, (AV.sc (.int .i64 (IntKind.wrap .i64 (t14 - (1)))))), (30, v9), (31, (AV.sc (.int .i64 z11))), (32, t0), (33, t1), (34, (AV.sc (.int .i64 t14))), (35, (AV.sc (.int .i64 (IntKind.wrap .i64 (t14 - (1)))))), (36, v12), (37, (AV.sc (.int .i64 z14))), (38, v15), (39, v16), (40, (AV.sc (.int .i64 z18))), (41, t0), (42, (AV.sc (.int .i64 z4))), (43, v19), (44, v20), (45, (AV.sc (.int .i64 z22))), (46, v23), (47, v24), (48, (AV.sc (.int .i64 z26))), (49, (AV.sc (.int .i64 (IntKind.wrap .i64 (z11 + z26))))), (50, (AV.sc (.int .i64 z28))), (51, (AV.sc (.int .i64 z28))), (52, t0), (53, (AV.sc (.int .i64 z4))), (54, v29), (55, v30), (56, (AV.sc (.int .i64 z32))), (57, (AV.sc (.bool (decide (z28 > z32))))), (58, t8), (59, (AV.sc (.int .i64 z28))), (60, v33), (61, v34), (62, (AV.sc (.int .i64 (IntKind.wrap .i64 (t14 + (1))))))], m34, 100054⟩)) else (
opP (idxS 4 t0 (AV.sc (.int .i64 z4))) fun v35 =>
opP (fldO 3 v35) fun v36 =>
opP (ldS (mget ((0, some ⟨[(AV.sc (.int .i64 b0_0)), (AV.sc (.int .i64 b0_1)), (AV.sc (.int .i64 b0_2)), (AV.sc (.int .i64 b0_3)), (AV.sc (.int .i64 b0_4)), (AV.sc (.int .i64 b0_5)), (AV.sc (.int .i64 b0_6)), (AV.sc (.int .i64 b0_7)), (AV.sc (.int .i64 b0_8)), (AV.sc (.int .i64 b0_9)), (AV.sc (.int .i64 b0_10)), (AV.sc (.int .i64 b0_11)), (AV.sc (.int .i64 b0_12)), (AV.sc (.int .i64 b0_13)), (AV.sc (.int .i64 b0_14)), (AV.sc (.int .i64 b0_15))], 24⟩) :: m)) v36) fun v37 =>
ex_i64 v37 fun z38 =>
bif (decide (z8 > z38)) then (
retL R ((0, some ⟨[(AV.sc (.int .i64 b0_0)), (AV.sc (.int .i64 b0_1)), (AV.sc (.int .i64 b0_2)), (AV.sc (.int .i64 b0_3)), (AV.sc (.int .i64 b0_4)), (AV.sc (.int .i64 b0_5)), (AV.sc (.int .i64 b0_6)), (AV.sc (.int .i64 b0_7)), (AV.sc (.int .i64 b0_8)), (AV.sc (.int .i64 b0_9)), (AV.sc (.int .i64 b0_10)), (AV.sc (.int .i64 b0_11)), (AV.sc (.int .i64 b0_12)), (AV.sc (.int .i64 b0_13)), (AV.sc (.int .i64 b0_14)), (AV.sc (.int .i64 b0_15))], 24⟩) :: m) [some AV.nils, some (AV.sc (.bool false))]) else (
opN (bsl 100023 3 1 1 [(AV.sc (.int .i64 (0)))] [(0, (AV.sc (.int .i64 z8)))]) ((0, some ⟨[(AV.sc (.int .i64 b0_0)), (AV.sc (.int .i64 b0_1)), (AV.sc (.int .i64 b0_2)), (AV.sc (.int .i64 b0_3)), (AV.sc (.int .i64 b0_4)), (AV.sc (.int .i64 b0_5)), (AV.sc (.int .i64 b0_6)), (AV.sc (.int .i64 b0_7)), (AV.sc (.int .i64 b0_8)), (AV.sc (.int .i64 b0_9)), (AV.sc (.int .i64 b0_10)), (AV.sc (.int .i64 b0_11)), (AV.sc (.int .i64 b0_12)), (AV.sc (.int .i64 b0_13)), (AV.sc (.int .i64 b0_14)), (AV.sc (.int .i64 b0_15))], 24⟩) :: m) fun v39 m39 =>
opN (app (mget m39) 3 1 8 [(AV.sc (.int .i64 (0)))] 100024 t8 v39) m39 fun v40 m40 =>
N0 ⟨[(0, t0), (1, t1), (5, (AV.ptr 0 0)), (6, t6), (7, (AV.sc (.bool t7))), (8, v40), (12, t12), (13, (AV.sc (.int .i64 t13))), (14, (AV.sc (.int .i64 (IntKind.wrap .i64 (t14 + (1)))))), (15, (AV.sc (.bool (decide (t14 < t13))))), (16, (AV.sc (.int .i64 t14))), (17, v2), (18, (AV.sc (.int .i64 z4))), (9, (AV.sc (.int .i64 t14))), (10, (AV.sc (.int .i64 z4))), (19, t0), (20, (AV.sc (.int .i64 z4))), (21, v5), (22, v6), (23, (AV.sc (.int .i64 z8))), (11, (AV.sc (.int .i64 z8))), (24, (AV.sc (.int .i64 t14))), (25, (AV.sc (.bool (decide (t14 > (0)))))), (51, (AV.sc (.int .i64 z8))), (52, t0), (53, (AV.sc (.int .i64 z4))), (54, v35), (55, v36), (56, (AV.sc (.int .i64 z38))), (57, (AV.sc (.bool (decide (z8 > z38))))), (58, t8), (59, (AV.sc (.int .i64 z8))), (60, v39), (61, v40), (62, (AV.sc (.int .i64 (IntKind.wrap .i64 (t14 + (1))))))], m40, 100028⟩))) else (
retL R ((0, some ⟨[(AV.sc (.int .i64 b0_0)), (AV.sc (.int .i64 b0_1)), (AV.sc (.int .i64 b0_2)), (AV.sc (.int .i64 b0_3)), (AV.sc (.int .i64 b0_4)), (AV.sc (.int .i64 b0_5)), (AV.sc (.int .i64 b0_6)), (AV.sc (.int .i64 b0_7)), (AV.sc (.int .i64 b0_8)), (AV.sc (.int .i64 b0_9)), (AV.sc (.int .i64 b0_10)), (AV.sc (.int .i64 b0_11)), (AV.sc (.int .i64 b0_12)), (AV.sc (.int .i64 b0_13)), (AV.sc (.int .i64 b0_14)), (AV.sc (.int .i64 b0_15))], 24⟩) :: m) [some t8, some (AV.sc (.bool true))])
theorem B53_0_eq (t0 : AV) (t1 : AV) (t6 : AV) (t7 : Bool) (t8 : AV) (t12 : AV) (t13 : Int) (t14 : Int) (b0_0 : Int) (b0_1 : Int) (b0_2 : Int) (b0_3 : Int) (b0_4 : Int) (b0_5 : Int) (b0_6 : Int) (b0_7 : Int) (b0_8 : Int) (b0_9 : Int) (b0_10 : Int) (b0_11 : Int) (b0_12 : Int) (b0_13 : Int) (b0_14 : Int) (b0_15 : Int) (m : Mem) (R : AV → Mem → Prop) (N0 : St → Prop) : W Try.prog KK 64 0 c53_0 (h53_0 t0 t1 t6 t7 t8 t12 t13 t14 b0_0 b0_1 b0_2 b0_3 b0_4 b0_5 b0_6 b0_7 b0_8 b0_9 b0_10 b0_11 b0_12 b0_13 b0_14 b0_15 m) (qq53_0 R N0) = B53_0 t0 t1 t6 t7 t8 t12 t13 t14 b0_0 b0_1 b0_2 b0_3 b0_4 b0_5 b0_6 b0_7 b0_8 b0_9 b0_10 b0_11 b0_12 b0_13 b0_14 b0_15 m R N0 := by kernel_rfl
theorem L53_0 (R : AV → Mem → Prop) {σ : Type} (I : σ → Prop) (t0 : σ → AV) (t1 : σ → AV) (t6 : σ → AV) (t7 : σ → Bool) (t8 : σ → AV) (t12 : σ → AV) (t13 : σ → Int) (t14 : σ → Int) (b0_0 : σ → Int) (b0_1 : σ → Int) (b0_2 : σ → Int) (b0_3 : σ → Int) (b0_4 : σ → Int) (b0_5 : σ → Int) (b0_6 : σ → Int) (b0_7 : σ → Int) (b0_8 : σ → Int) (b0_9 : σ → Int) (b0_10 : σ → Int) (b0_11 : σ → Int) (b0_12 : σ → Int) (b0_13 : σ → Int) (b0_14 : σ → Int) (b0_15 : σ → Int) (m : σ → Mem) (μ : σ → Nat) (step : ∀ x, I x → B53_0 (t0 x) (t1 x) (t6 x) (t7 x) (t8 x) (t12 x) (t13 x) (t14 x) (b0_0 x) (b0_1 x) (b0_2 x) (b0_3 x) (b0_4 x) (b0_5 x) (b0_6 x) (b0_7 x) (b0_8 x) (b0_9 x) (b0_10 x) (b0_11 x) (b0_12 x) (b0_13 x) (b0_14 x) (b0_15 x) (m x) R (fun s' => ∃ y, I y ∧ μ y < μ x ∧ Weak KK 64 0 s' (h53_0 (t0 y) (t1 y) (t6 y) (t7 y) (t8 y) (t12 y) (t13 y) (t14 y) (b0_0 y) (b0_1 y) (b0_2 y) (b0_3 y) (b0_4 y) (b0_5 y) (b0_6 y) (b0_7 y) (b0_8 y) (b0_9 y) (b0_10 y) (b0_11 y) (b0_12 y) (b0_13 y) (b0_14 y) (b0_15 y) (m y)))) (x : σ) (hx : I x) {s : St} (hw : Weak KK 64 0 s (h53_0 (t0 x) (t1 x) (t6 x) (t7 x) (t8 x) (t12 x) (t13 x) (t14 x) (b0_0 x) (b0_1 x) (b0_2 x) (b0_3 x) (b0_4 x) (b0_5 x) (b0_6 x) (b0_7 x) (b0_8 x) (b0_9 x) (b0_10 x) (b0_11 x) (b0_12 x) (b0_13 x) (b0_14 x) (b0_15 x) (m x))) : Tri Try.prog KK 64 0 (.loop c53_0) s (q53_0 R) :=
  Tri.weak hw (Tri.loops fol I (fun x => h53_0 (t0 x) (t1 x) (t6 x) (t7 x) (t8 x) (t12 x) (t13 x) (t14 x) (b0_0 x) (b0_1 x) (b0_2 x) (b0_3 x) (b0_4 x) (b0_5 x) (b0_6 x) (b0_7 x) (b0_8 x) (b0_9 x) (b0_10 x) (b0_11 x) (b0_12 x) (b0_13 x) (b0_14 x) (b0_15 x) (m x)) μ (fun x hx => (B53_0_eq (t0 x) (t1 x) (t6 x) (t7 x) (t8 x) (t12 x) (t13 x) (t14 x) (b0_0 x) (b0_1 x) (b0_2 x) (b0_3 x) (b0_4 x) (b0_5 x) (b0_6 x) (b0_7 x) (b0_8 x) (b0_9 x) (b0_10 x) (b0_11 x) (b0_12 x) (b0_13 x) (b0_14 x) (b0_15 x) (m x) R _).mpr (step x hx)) x hx)
noncomputable def F53 (a0 : AV) (a1 : AV) (a2_0 : Int) (a2_1 : Int) (a2_2 : Int) (a2_3 : Int) (a2_4 : Int) (a2_5 : Int) (a2_6 : Int) (a2_7 : Int) (a2_8 : Int) (a2_9 : Int) (a2_10 : Int) (a2_11 : Int) (a2_12 : Int) (a2_13 : Int) (a2_14 : Int) (a2_15 : Int) (R : AV → Mem → Prop) : Prop :=
opP (lenS a1) fun v0 =>
ex_i64 v0 fun z1 =>
Tri Try.prog KK 64 0 (.loop c53_0) ⟨[(0, a0), (1, a1), (2, (AV.agg [(AV.sc (.int .i64 a2_0)), (AV.sc (.int .i64 a2_1)), (AV.sc (.int .i64 a2_2)), (AV.sc (.int .i64 a2_3)), (AV.sc (.int .i64 a2_4)), (AV.sc (.int .i64 a2_5)), (AV.sc (.int .i64 a2_6)), (AV.sc (.int .i64 a2_7)), (AV.sc (.int .i64 a2_8)), (AV.sc (.int .i64 a2_9)), (AV.sc (.int .i64 a2_10)), (AV.sc (.int .i64 a2_11)), (AV.sc (.int .i64 a2_12)), (AV.sc (.int .i64 a2_13)), (AV.sc (.int .i64 a2_14)), (AV.sc (.int .i64 a2_15))])), (5, (AV.ptr 0 0)), (6, AV.nils), (7, (AV.sc (.bool false))), (8, AV.nils), (12, a1), (13, (AV.sc (.int .i64 z1))), (14, (AV.sc (.int .i64 (0))))], ((0, some ⟨[(AV.sc (.int .i64 a2_0)), (AV.sc (.int .i64 a2_1)), (AV.sc (.int .i64 a2_2)), (AV.sc (.int .i64 a2_3)), (AV.sc (.int .i64 a2_4)), (AV.sc (.int .i64 a2_5)), (AV.sc (.int .i64 a2_6)), (AV.sc (.int .i64 a2_7)), (AV.sc (.int .i64 a2_8)), (AV.sc (.int .i64 a2_9)), (AV.sc (.int .i64 a2_10)), (AV.sc (.int .i64 a2_11)), (AV.sc (.int .i64 a2_12)), (AV.sc (.int .i64 a2_13)), (AV.sc (.int .i64 a2_14)), (AV.sc (.int .i64 a2_15))], 24⟩) :: []), 7⟩ (q53_0 R)
theorem F53_own (a0 : AV) (a1 : AV) (a2_0 : Int) (a2_1 : Int) (a2_2 : Int) (a2_3 : Int) (a2_4 : Int) (a2_5 : Int) (a2_6 : Int) (a2_7 : Int) (a2_8 : Int) (a2_9 : Int) (a2_10 : Int) (a2_11 : Int) (a2_12 : Int) (a2_13 : Int) (a2_14 : Int) (a2_15 : Int) (R : AV → Mem → Prop) (h : F53 a0 a1 a2_0 a2_1 a2_2 a2_3 a2_4 a2_5 a2_6 a2_7 a2_8 a2_9 a2_10 a2_11 a2_12 a2_13 a2_14 a2_15 R) : Own Try.prog KK.gl 53 [a0, a1, (AV.agg [(AV.sc (.int .i64 a2_0)), (AV.sc (.int .i64 a2_1)), (AV.sc (.int .i64 a2_2)), (AV.sc (.int .i64 a2_3)), (AV.sc (.int .i64 a2_4)), (AV.sc (.int .i64 a2_5)), (AV.sc (.int .i64 a2_6)), (AV.sc (.int .i64 a2_7)), (AV.sc (.int .i64 a2_8)), (AV.sc (.int .i64 a2_9)), (AV.sc (.int .i64 a2_10)), (AV.sc (.int .i64 a2_11)), (AV.sc (.int .i64 a2_12)), (AV.sc (.int .i64 a2_13)), (AV.sc (.int .i64 a2_14)), (AV.sc (.int .i64 a2_15))])] R := own_of_F fol Try.func53 (code := c53) (by kernel_rfl) (by kernel_rfl) (by kernel_rfl) (X := F53 a0 a1 a2_0 a2_1 a2_2 a2_3 a2_4 a2_5 a2_6 a2_7 a2_8 a2_9 a2_10 a2_11 a2_12 a2_13 a2_14 a2_15 R) (by kernel_rfl) h
/- skyway/sequence.Times -/
noncomputable def c32 : Code := ((Try.f32).body).getD .skip
noncomputable def q32 (R : AV → Mem → Prop) : AExit → St → Prop := retQ Try.prog Try.f32 R
noncomputable def F32 (a0 : AV) (a1 : AV) (a2_0 : Int) (a2_1 : Int) (a2_2 : Int) (a2_3 : Int) (a2_4 : Int) (a2_5 : Int) (a2_6 : Int) (a2_7 : Int) (a2_8 : Int) (a2_9 : Int) (a2_10 : Int) (a2_11 : Int) (a2_12 : Int) (a2_13 : Int) (a2_14 : Int) (a2_15 : Int) (R : AV → Mem → Prop) : Prop :=
callQ Try.prog KK.gl ((0, some ⟨[(AV.sc (.int .i64 a2_0)), (AV.sc (.int .i64 a2_1)), (AV.sc (.int .i64 a2_2)), (AV.sc (.int .i64 a2_3)), (AV.sc (.int .i64 a2_4)), (AV.sc (.int .i64 a2_5)), (AV.sc (.int .i64 a2_6)), (AV.sc (.int .i64 a2_7)), (AV.sc (.int .i64 a2_8)), (AV.sc (.int .i64 a2_9)), (AV.sc (.int .i64 a2_10)), (AV.sc (.int .i64 a2_11)), (AV.sc (.int .i64 a2_12)), (AV.sc (.int .i64 a2_13)), (AV.sc (.int .i64 a2_14)), (AV.sc (.int .i64 a2_15))], 24⟩) :: []) 50 [a0] fun v0 =>
ex_i64 v0 fun z1 =>
bif (z1 != (0)) then (
retL R ((0, some ⟨[(AV.sc (.int .i64 a2_0)), (AV.sc (.int .i64 a2_1)), (AV.sc (.int .i64 a2_2)), (AV.sc (.int .i64 a2_3)), (AV.sc (.int .i64 a2_4)), (AV.sc (.int .i64 a2_5)), (AV.sc (.int .i64 a2_6)), (AV.sc (.int .i64 a2_7)), (AV.sc (.int .i64 a2_8)), (AV.sc (.int .i64 a2_9)), (AV.sc (.int .i64 a2_10)), (AV.sc (.int .i64 a2_11)), (AV.sc (.int .i64 a2_12)), (AV.sc (.int .i64 a2_13)), (AV.sc (.int .i64 a2_14)), (AV.sc (.int .i64 a2_15))], 24⟩) :: []) [some AV.nils, some (AV.sc (.int .i64 z1))]) else (
callQ Try.prog KK.gl ((0, some ⟨[(AV.sc (.int .i64 a2_0)), (AV.sc (.int .i64 a2_1)), (AV.sc (.int .i64 a2_2)), (AV.sc (.int .i64 a2_3)), (AV.sc (.int .i64 a2_4)), (AV.sc (.int .i64 a2_5)), (AV.sc (.int .i64 a2_6)), (AV.sc (.int .i64 a2_7)), (AV.sc (.int .i64 a2_8)), (AV.sc (.int .i64 a2_9)), (AV.sc (.int .i64 a2_10)), (AV.sc (.int .i64 a2_11)), (AV.sc (.int .i64 a2_12)), (AV.sc (.int .i64 a2_13)), (AV.sc (.int .i64 a2_14)), (AV.sc (.int .i64 a2_15))], 24⟩) :: []) 36 [(AV.agg [(AV.sc (.int .i64 a2_0)), (AV.sc (.int .i64 a2_1)), (AV.sc (.int .i64 a2_2)), (AV.sc (.int .i64 a2_3)), (AV.sc (.int .i64 a2_4)), (AV.sc (.int .i64 a2_5)), (AV.sc (.int .i64 a2_6)), (AV.sc (.int .i64 a2_7)), (AV.sc (.int .i64 a2_8)), (AV.sc (.int .i64 a2_9)), (AV.sc (.int .i64 a2_10)), (AV.sc (.int .i64 a2_11)), (AV.sc (.int .i64 a2_12)), (AV.sc (.int .i64 a2_13)), (AV.sc (.int .i64 a2_14)), (AV.sc (.int .i64 a2_15))])] fun v2 =>
ex_i64 v2 fun z3 =>
bif (z3 != (0)) then (
retL R ((0, some ⟨[(AV.sc (.int .i64 a2_0)), (AV.sc (.int .i64 a2_1)), (AV.sc (.int .i64 a2_2)), (AV.sc (.int .i64 a2_3)), (AV.sc (.int .i64 a2_4)), (AV.sc (.int .i64 a2_5)), (AV.sc (.int .i64 a2_6)), (AV.sc (.int .i64 a2_7)), (AV.sc (.int .i64 a2_8)), (AV.sc (.int .i64 a2_9)), (AV.sc (.int .i64 a2_10)), (AV.sc (.int .i64 a2_11)), (AV.sc (.int .i64 a2_12)), (AV.sc (.int .i64 a2_13)), (AV.sc (.int .i64 a2_14)), (AV.sc (.int .i64 a2_15))], 24⟩) :: []) [some AV.nils, some (AV.sc (.int .i64 z3))]) else (
opP (lenS a0) fun v4 =>
ex_i64 v4 fun z5 =>
callQ Try.prog KK.gl ((0, some ⟨[(AV.sc (.int .i64 a2_0)), (AV.sc (.int .i64 a2_1)), (AV.sc (.int .i64 a2_2)), (AV.sc (.int .i64 a2_3)), (AV.sc (.int .i64 a2_4)), (AV.sc (.int .i64 a2_5)), (AV.sc (.int .i64 a2_6)), (AV.sc (.int .i64 a2_7)), (AV.sc (.int .i64 a2_8)), (AV.sc (.int .i64 a2_9)), (AV.sc (.int .i64 a2_10)), (AV.sc (.int .i64 a2_11)), (AV.sc (.int .i64 a2_12)), (AV.sc (.int .i64 a2_13)), (AV.sc (.int .i64 a2_14)), (AV.sc (.int .i64 a2_15))], 24⟩) :: []) 55 [a1, (AV.sc (.int .i64 z5))] fun v6 =>
exB v6 fun b7 =>
bif (!b7) then (
retL R ((0, some ⟨[(AV.sc (.int .i64 a2_0)), (AV.sc (.int .i64 a2_1)), (AV.sc (.int .i64 a2_2)), (AV.sc (.int .i64 a2_3)), (AV.sc (.int .i64 a2_4)), (AV.sc (.int .i64 a2_5)), (AV.sc (.int .i64 a2_6)), (AV.sc (.int .i64 a2_7)), (AV.sc (.int .i64 a2_8)), (AV.sc (.int .i64 a2_9)), (AV.sc (.int .i64 a2_10)), (AV.sc (.int .i64 a2_11)), (AV.sc (.int .i64 a2_12)), (AV.sc (.int .i64 a2_13)), (AV.sc (.int .i64 a2_14)), (AV.sc (.int .i64 a2_15))], 24⟩) :: []) [some AV.nils, some (AV.sc (.int .i64 (3)))]) else (
callQ Try.prog KK.gl ((0, some ⟨[(AV.sc (.int .i64 a2_0)), (AV.sc (.int .i64 a2_1)), (AV.sc (.int .i64 a2_2)), (AV.sc (.int .i64 a2_3)), (AV.sc (.int .i64 a2_4)), (AV.sc (.int .i64 a2_5)), (AV.sc (.int .i64 a2_6)), (AV.sc (.int .i64 a2_7)), (AV.sc (.int .i64 a2_8)), (AV.sc (.int .i64 a2_9)), (AV.sc (.int .i64 a2_10)), (AV.sc (.int .i64 a2_11)), (AV.sc (.int .i64 a2_12)), (AV.sc (.int .i64 a2_13)), (AV.sc (.int .i64 a2_14)), (AV.sc (.int .i64 a2_15))], 24⟩) :: []) 53 [a0, a1, (AV.agg [(AV.sc (.int .i64 a2_0)), (AV.sc (.int .i64 a2_1)), (AV.sc (.int .i64 a2_2)), (AV.sc (.int .i64 a2_3)), (AV.sc (.int .i64 a2_4)), (AV.sc (.int .i64 a2_5)), (AV.sc (.int .i64 a2_6)), (AV.sc (.int .i64 a2_7)), (AV.sc (.int .i64 a2_8)), (AV.sc (.int .i64 a2_9)), (AV.sc (.int .i64 a2_10)), (AV.sc (.int .i64 a2_11)), (AV.sc (.int .i64 a2_12)), (AV.sc (.int .i64 a2_13)), (AV.sc (.int .i64 a2_14)), (AV.sc (.int .i64 a2_15))])] fun v8 =>
exT2 v8 fun c9 c10 =>
exB c10 fun b11 =>
bif (!b11) then (
retL R ((0, some ⟨[(AV.sc (.int .i64 a2_0)), (AV.sc (.int .i64 a2_1)), (AV.sc (.int .i64 a2_2)), (AV.sc (.int .i64 a2_3)), (AV.sc (.int .i64 a2_4)), (AV.sc (.int .i64 a2_5)), (AV.sc (.int .i64 a2_6)), (AV.sc (.int .i64 a2_7)), (AV.sc (.int .i64 a2_8)), (AV.sc (.int .i64 a2_9)), (AV.sc (.int .i64 a2_10)), (AV.sc (.int .i64 a2_11)), (AV.sc (.int .i64 a2_12)), (AV.sc (.int .i64 a2_13)), (AV.sc (.int .i64 a2_14)), (AV.sc (.int .i64 a2_15))], 24⟩) :: []) [some AV.nils, some (AV.sc (.int .i64 (8)))]) else (
retL R ((0, some ⟨[(AV.sc (.int .i64 a2_0)), (AV.sc (.int .i64 a2_1)), (AV.sc (.int .i64 a2_2)), (AV.sc (.int .i64 a2_3)), (AV.sc (.int .i64 a2_4)), (AV.sc (.int .i64 a2_5)), (AV.sc (.int .i64 a2_6)), (AV.sc (.int .i64 a2_7)), (AV.sc (.int .i64 a2_8)), (AV.sc (.int .i64 a2_9)), (AV.sc (.int .i64 a2_10)), (AV.sc (.int .i64 a2_11)), (AV.sc (.int .i64 a2_12)), (AV.sc (.int .i64 a2_13)), (AV.sc (.int .i64 a2_14)), (AV.sc (.int .i64 a2_15))], 24⟩) :: []) [some c9, some (AV.sc (.int .i64 (0)))]))))
theorem F32_own (a0 : AV) (a1 : AV) (a2_0 : Int) (a2_1 : Int) (a2_2 : Int) (a2_3 : Int) (a2_4 : Int) (a2_5 : Int) (a2_6 : Int) (a2_7 : Int) (a2_8 : Int) (a2_9 : Int) (a2_10 : Int) (a2_11 : Int) (a2_12 : Int) (a2_13 : Int) (a2_14 : Int) (a2_15 : Int) (R : AV → Mem → Prop) (h : F32 a0 a1 a2_0 a2_1 a2_2 a2_3 a2_4 a2_5 a2_6 a2_7 a2_8 a2_9 a2_10 a2_11 a2_12 a2_13 a2_14 a2_15 R) : Own Try.prog KK.gl 32 [a0, a1, (AV.agg [(AV.sc (.int .i64 a2_0)), (AV.sc (.int .i64 a2_1)), (AV.sc (.int .i64 a2_2)), (AV.sc (.int .i64 a2_3)), (AV.sc (.int .i64 a2_4)), (AV.sc (.int .i64 a2_5)), (AV.sc (.int .i64 a2_6)), (AV.sc (.int .i64 a2_7)), (AV.sc (.int .i64 a2_8)), (AV.sc (.int .i64 a2_9)), (AV.sc (.int .i64 a2_10)), (AV.sc (.int .i64 a2_11)), (AV.sc (.int .i64 a2_12)), (AV.sc (.int .i64 a2_13)), (AV.sc (.int .i64 a2_14)), (AV.sc (.int .i64 a2_15))])] R := own_of_F fol Try.func32 (code := c32) (by kernel_rfl) (by kernel_rfl) (by kernel_rfl) (X := F32 a0 a1 a2_0 a2_1 a2_2 a2_3 a2_4 a2_5 a2_6 a2_7 a2_8 a2_9 a2_10 a2_11 a2_12 a2_13 a2_14 a2_15 R) (by kernel_rfl) h
/- skyway/wake.Valid -/
noncomputable def c16 : Code := ((Try.f16).body).getD .skip
noncomputable def q16 (R : AV → Mem → Prop) : AExit → St → Prop := retQ Try.prog Try.f16 R
noncomputable def c16_0 : Code := loopB c16 0
noncomputable def q16_0 (R : AV → Mem → Prop) : AExit → St → Prop := contW Try.prog KK 87 0 c16 0 (q16 R)
noncomputable def qq16_0 (R : AV → Mem → Prop) (N0 : St → Prop) : AExit → St → Prop := thenQ N0 (q16_0 R)
def h16_0 (t1 : AV) (t2 : AV) (t6 : Bool) (t7 : Int) (t33 : AV) (t34 : Int) (t35 : Int) (b0_0 : Int) (b0_1 : Int) (b0_2 : Int) (b0_3 : Int) (b0_4 : Int) (b0_5 : Int) (b0_6 : Int) (b0_7 : Int) (b0_8 : Int) (b0_9 : Int) (b0_10 : Int) (b0_11 : Int) (b0_12 : Int) (b0_13 : Int) (b0_14 : Int) (b0_15 : Int) (m : Mem) : St := ⟨[(1, t1), (2, t2), (3, (AV.ptr 0 0)), (6, (AV.sc (.bool t6))), (7, (AV.sc (.int .i64 t7))), (33, t33), (34, (AV.sc (.int .i64 t34))), (35, (AV.sc (.int .i64 t35)))], ((0, some ⟨[(AV.sc (.int .i64 b0_0)), (AV.sc (.int .i64 b0_1)), (AV.sc (.int .i64 b0_2)), (AV.sc (.int .i64 b0_3)), (AV.sc (.int .i64 b0_4)), (AV.sc (.int .i64 b0_5)), (AV.sc (.int .i64 b0_6)), (AV.sc (.int .i64 b0_7)), (AV.sc (.int .i64 b0_8)), (AV.sc (.int .i64 b0_9)), (AV.sc (.int .i64 b0_10)), (AV.sc (.int .i64 b0_11)), (AV.sc (.int .i64 b0_12)), (AV.sc (.int .i64 b0_13)), (AV.sc (.int .i64 b0_14)), (AV.sc (.int .i64 b0_15))], 24⟩) :: m), 100000⟩
noncomputable def c16_1 : Code := loopB c16 1
noncomputable def q16_1 (R : AV → Mem → Prop) : AExit → St → Prop := contW Try.prog KK 87 0 c16 1 (q16 R)
noncomputable def qq16_1 (R : AV → Mem → Prop) (N0 : St → Prop) : AExit → St → Prop := thenQ N0 (q16_1 R)
def h16_1 (t1 : AV) (t2 : AV) (t6 : Bool) (t7 : Int) (t12 : Int) (b0_0 : Int) (b0_1 : Int) (b0_2 : Int) (b0_3 : Int) (b0_4 : Int) (b0_5 : Int) (b0_6 : Int) (b0_7 : Int) (b0_8 : Int) (b0_9 : Int) (b0_10 : Int) (b0_11 : Int) (b0_12 : Int) (b0_13 : Int) (b0_14 : Int) (b0_15 : Int) (m : Mem) : St := ⟨[(1, t1), (2, t2), (3, (AV.ptr 0 0)), (6, (AV.sc (.bool t6))), (7, (AV.sc (.int .i64 t7))), (12, (AV.sc (.int .i64 t12)))], ((0, some ⟨[(AV.sc (.int .i64 b0_0)), (AV.sc (.int .i64 b0_1)), (AV.sc (.int .i64 b0_2)), (AV.sc (.int .i64 b0_3)), (AV.sc (.int .i64 b0_4)), (AV.sc (.int .i64 b0_5)), (AV.sc (.int .i64 b0_6)), (AV.sc (.int .i64 b0_7)), (AV.sc (.int .i64 b0_8)), (AV.sc (.int .i64 b0_9)), (AV.sc (.int .i64 b0_10)), (AV.sc (.int .i64 b0_11)), (AV.sc (.int .i64 b0_12)), (AV.sc (.int .i64 b0_13)), (AV.sc (.int .i64 b0_14)), (AV.sc (.int .i64 b0_15))], 24⟩) :: m), 200000⟩
noncomputable def B16_0 (t1 : AV) (t2 : AV) (t6 : Bool) (t7 : Int) (t33 : AV) (t34 : Int) (t35 : Int) (b0_0 : Int) (b0_1 : Int) (b0_2 : Int) (b0_3 : Int) (b0_4 : Int) (b0_5 : Int) (b0_6 : Int) (b0_7 : Int) (b0_8 : Int) (b0_9 : Int) (b0_10 : Int) (b0_11 : Int) (b0_12 : Int) (b0_13 : Int) (b0_14 : Int) (b0_15 : Int) (m : Mem) (R : AV → Mem → Prop) (N0 : St → Prop) : Prop :=
bif (decide (t35 < t34)) then (
opP (idxS 1 t33 (AV.sc (.int .i64 t35))) fun v12 =>
opP (ldS (mget ((0, some ⟨[(AV.sc (.int .i64 b0_0)), (AV.sc (.int .i64 b0_1)), (AV.sc (.int .i64 b0_2)), (AV.sc (.int .i64 b0_3)), (AV.sc (.int .i64 b0_4)), (AV.sc (.int .i64 b0_5)), (AV.sc (.int .i64 b0_6)), (AV.sc (.int .i64 b0_7)), (AV.sc (.int .i64 b0_8)), (AV.sc (.int .i64 b0_9)), (AV.sc (.int .i64 b0_10)), (AV.sc (.int .i64 b0_11)), (AV.sc (.int .i64 b0_12)), (AV.sc (.int .i64 b0_13)), (AV.sc (.int .i64 b0_14)), (AV.sc (.int .i64 b0_15))], 24⟩) :: m)) v12) fun v13 =>
ex_i64 v13 fun z14 =>
callQ Try.prog KK.gl ((0, some ⟨[(AV.sc (.int .i64 b0_0)), (AV.sc (.int .i64 b0_1)), (AV.sc (.int .i64 b0_2)), (AV.sc (.int .i64 b0_3)), (AV.sc (.int .i64 b0_4)), (AV.sc (.int .i64 b0_5)), (AV.sc (.int .i64 b0_6)), (AV.sc (.int .i64 b0_7)), (AV.sc (.int .i64 b0_8)), (AV.sc (.int .i64 b0_9)), (AV.sc (.int .i64 b0_10)), (AV.sc (.int .i64 b0_11)), (AV.sc (.int .i64 b0_12)), (AV.sc (.int .i64 b0_13)), (AV.sc (.int .i64 b0_14)), (AV.sc (.int .i64 b0_15))], 24⟩) :: m) 37 [(AV.sc (.int .i64 z14))] fun v15 =>
ex_i64 v15 fun z16 =>
bif (z16 != (0)) then (
retL R ((0, some ⟨[(AV.sc (.int .i64 b0_0)), (AV.sc (.int .i64 b0_1)), (AV.sc (.int .i64 b0_2)), (AV.sc (.int .i64 b0_3)), (AV.sc (.int .i64 b0_4)), (AV.sc (.int .i64 b0_5)), (AV.sc (.int .i64 b0_6)), (AV.sc (.int .i64 b0_7)), (AV.sc (.int .i64 b0_8)), (AV.sc (.int .i64 b0_9)), (AV.sc (.int .i64 b0_10)), (AV.sc (.int .i64 b0_11)), (AV.sc (.int .i64 b0_12)), (AV.sc (.int .i64 b0_13)), (AV.sc (.int .i64 b0_14)), (AV.sc (.int .i64 b0_15))], 24⟩) :: m) [some (AV.sc (.bool false)), some (AV.sc (.int .i64 z16))]) else (
opP (idxS 1 t2 (AV.sc (.int .i64 t35))) fun v17 =>
opP (ldS (mget ((0, some ⟨[(AV.sc (.int .i64 b0_0)), (AV.sc (.int .i64 b0_1)), (AV.sc (.int .i64 b0_2)), (AV.sc (.int .i64 b0_3)), (AV.sc (.int .i64 b0_4)), (AV.sc (.int .i64 b0_5)), (AV.sc (.int .i64 b0_6)), (AV.sc (.int .i64 b0_7)), (AV.sc (.int .i64 b0_8)), (AV.sc (.int .i64 b0_9)), (AV.sc (.int .i64 b0_10)), (AV.sc (.int .i64 b0_11)), (AV.sc (.int .i64 b0_12)), (AV.sc (.int .i64 b0_13)), (AV.sc (.int .i64 b0_14)), (AV.sc (.int .i64 b0_15))], 24⟩) :: m)) v17) fun v18 =>
ex_i64 v18 fun z19 =>
bif (decide (z19 < (0))) then (
retL R ((0, some ⟨[(AV.sc (.int .i64 b0_0)), (AV.sc (.int .i64 b0_1)), (AV.sc (.int .i64 b0_2)), (AV.sc (.int .i64 b0_3)), (AV.sc (.int .i64 b0_4)), (AV.sc (.int .i64 b0_5)), (AV.sc (.int .i64 b0_6)), (AV.sc (.int .i64 b0_7)), (AV.sc (.int .i64 b0_8)), (AV.sc (.int .i64 b0_9)), (AV.sc (.int .i64 b0_10)), (AV.sc (.int .i64 b0_11)), (AV.sc (.int .i64 b0_12)), (AV.sc (.int .i64 b0_13)), (AV.sc (.int .i64 b0_14)), (AV.sc (.int .i64 b0_15))], 24⟩) :: m) [some (AV.sc (.bool false)), some (AV.sc (.int .i64 (12)))]) else (
opP (idxS 1 t2 (AV.sc (.int .i64 t35))) fun v20 =>
opP (ldS (mget ((0, some ⟨[(AV.sc (.int .i64 b0_0)), (AV.sc (.int .i64 b0_1)), (AV.sc (.int .i64 b0_2)), (AV.sc (.int .i64 b0_3)), (AV.sc (.int .i64 b0_4)), (AV.sc (.int .i64 b0_5)), (AV.sc (.int .i64 b0_6)), (AV.sc (.int .i64 b0_7)), (AV.sc (.int .i64 b0_8)), (AV.sc (.int .i64 b0_9)), (AV.sc (.int .i64 b0_10)), (AV.sc (.int .i64 b0_11)), (AV.sc (.int .i64 b0_12)), (AV.sc (.int .i64 b0_13)), (AV.sc (.int .i64 b0_14)), (AV.sc (.int .i64 b0_15))], 24⟩) :: m)) v20) fun v21 =>
ex_i64 v21 fun z22 =>
bif (decide (z22 > (200000))) then (
retL R ((0, some ⟨[(AV.sc (.int .i64 b0_0)), (AV.sc (.int .i64 b0_1)), (AV.sc (.int .i64 b0_2)), (AV.sc (.int .i64 b0_3)), (AV.sc (.int .i64 b0_4)), (AV.sc (.int .i64 b0_5)), (AV.sc (.int .i64 b0_6)), (AV.sc (.int .i64 b0_7)), (AV.sc (.int .i64 b0_8)), (AV.sc (.int .i64 b0_9)), (AV.sc (.int .i64 b0_10)), (AV.sc (.int .i64 b0_11)), (AV.sc (.int .i64 b0_12)), (AV.sc (.int .i64 b0_13)), (AV.sc (.int .i64 b0_14)), (AV.sc (.int .i64 b0_15))], 24⟩) :: m) [some (AV.sc (.bool false)), some (AV.sc (.int .i64 (12)))]) else (
N0 ⟨[(1, t1), (2, t2), (3, (AV.ptr 0 0)), (6, (AV.sc (.bool t6))), (7, (AV.sc (.int .i64 t7))), (33, t33), (34, (AV.sc (.int .i64 t34))), (35, (AV.sc (.int .i64 (IntKind.wrap .i64 (t35 + (1)))))), (36, (AV.sc (.bool (decide (t35 < t34))))), (37, (AV.sc (.int .i64 t35))), (38, v12), (39, (AV.sc (.int .i64 z14))), (9, (AV.sc (.int .i64 t35))), (10, (AV.sc (.int .i64 z14))), (40, (AV.sc (.int .i64 z14))), (41, (AV.sc (.int .i64 z16))), (11, (AV.sc (.int .i64 z16))), (42, (AV.sc (.int .i64 z16))), (43, (AV.sc (.bool (z16 != (0))))), (45, t2), (46, (AV.sc (.int .i64 t35))), (47, v17), (48, (AV.sc (.int .i64 z19))), (49, (AV.sc (.bool (decide (z19 < (0)))))), (50, (AV.sc (.bool false))), (51, t2), (52, (AV.sc (.int .i64 t35))), (53, v20), (54, (AV.sc (.int .i64 z22))), (55, (AV.sc (.bool (decide (z22 > (200000)))))), (56, (AV.sc (.bool (decide (z22 > (200000)))))), (57, (AV.sc (.int .i64 (IntKind.wrap .i64 (t35 + (1))))))], ((0, some ⟨[(AV.sc (.int .i64 b0_0)), (AV.sc (.int .i64 b0_1)), (AV.sc (.int .i64 b0_2)), (AV.sc (.int .i64 b0_3)), (AV.sc (.int .i64 b0_4)), (AV.sc (.int .i64 b0_5)), (AV.sc (.int .i64 b0_6)), (AV.sc (.int .i64 b0_7)), (AV.sc (.int .i64 b0_8)), (AV.sc (.int .i64 b0_9)), (AV.sc (.int .i64 b0_10)), (AV.sc (.int .i64 b0_11)), (AV.sc (.int .i64 b0_12)), (AV.sc (.int .i64 b0_13)), (AV.sc (.int .i64 b0_14)), (AV.sc (.int .i64 b0_15))], 24⟩) :: m), 100088⟩)))) else (
Tri Try.prog KK 87 0 (.loop c16_1) ⟨[(1, t1), (2, t2), (3, (AV.ptr 0 0)), (6, (AV.sc (.bool t6))), (7, (AV.sc (.int .i64 t7))), (33, t33), (34, (AV.sc (.int .i64 t34))), (35, (AV.sc (.int .i64 t35))), (36, (AV.sc (.bool (decide (t35 < t34))))), (12, (AV.sc (.int .i64 (1))))], ((0, some ⟨[(AV.sc (.int .i64 b0_0)), (AV.sc (.int .i64 b0_1)), (AV.sc (.int .i64 b0_2)), (AV.sc (.int .i64 b0_3)), (AV.sc (.int .i64 b0_4)), (AV.sc (.int .i64 b0_5)), (AV.sc (.int .i64 b0_6)), (AV.sc (.int .i64 b0_7)), (AV.sc (.int .i64 b0_8)), (AV.sc (.int .i64 b0_9)), (AV.sc (.int .i64 b0_10)), (AV.sc (.int .i64 b0_11)), (AV.sc (.int .i64 b0_12)), (AV.sc (.int .i64 b0_13)), (AV.sc (.int .i64 b0_14)), (AV.sc (.int .i64 b0_15))], 24⟩) :: m), 100002⟩ (q16_1 R))
theorem B16_0_eq (t1 : AV) (t2 : AV) (t6 : Bool) (t7 : Int) (t33 : AV) (t34 : Int) (t35 : Int) (b0_0 : Int) (b0_1 : Int) (b0_2 : Int) (b0_3 : Int) (b0_4 : Int) (b0_5 : Int) (b0_6 : Int) (b0_7 : Int) (b0_8 : Int) (b0_9 : Int) (b0_10 : Int) (b0_11 : Int) (b0_12 : Int) (b0_13 : Int) (b0_14 : Int) (b0_15 : Int) (m : Mem) (R : AV → Mem → Prop) (N0 : St → Prop) : W Try.prog KK 87 0 c16_0 (h16_0 t1 t2 t6 t7 t33 t34 t35 b0_0 b0_1 b0_2 b0_3 b0_4 b0_5 b0_6 b0_7 b0_8 b0_9 b0_10 b0_11 b0_12 b0_13 b0_14 b0_15 m) (qq16_0 R N0) = B16_0 t1 t2 t6 t7 t33 t34 t35 b0_0 b0_1 b0_2 b0_3 b0_4 b0_5 b0_6 b0_7 b0_8 b0_9 b0_10 b0_11 b0_12 b0_13 b0_14 b0_15 m R N0 := by kernel_rfl
theorem L16_0 (R : AV → Mem → Prop) {σ : Type} (I : σ → Prop) (t1 : σ → AV) (t2 : σ → AV) (t6 : σ → Bool) (t7 : σ → Int) (t33 : σ → AV) (t34 : σ → Int) (t35 : σ → Int) (b0_0 : σ → Int) (b0_1 : σ → Int) (b0_2 : σ → Int) (b0_3 : σ → Int) (b0_4 : σ → Int) (b0_5 : σ → Int) (b0_6 : σ → Int) (b0_7 : σ → Int) (b0_8 : σ → Int) (b0_9 : σ → Int) (b0_10 : σ → Int) (b0_11 : σ → Int) (b0_12 : σ → Int) (b0_13 : σ → Int) (b0_14 : σ → Int) (b0_15 : σ → Int) (m : σ → Mem) (μ : σ → Nat) (step : ∀ x, I x → B16_0 (t1 x) (t2 x) (t6 x) (t7 x) (t33 x) (t34 x) (t35 x) (b0_0 x) (b0_1 x) (b0_2 x) (b0_3 x) (b0_4 x) (b0_5 x) (b0_6 x) (b0_7 x) (b0_8 x) (b0_9 x) (b0_10 x) (b0_11 x) (b0_12 x) (b0_13 x) (b0_14 x) (b0_15 x) (m x) R (fun s' => ∃ y, I y ∧ μ y < μ x ∧ Weak KK 87 0 s' (h16_0 (t1 y) (t2 y) (t6 y) (t7 y) (t33 y) (t34 y) (t35 y) (b0_0 y) (b0_1 y) (b0_2 y) (b0_3 y) (b0_4 y) (b0_5 y) (b0_6 y) (b0_7 y) (b0_8 y) (b0_9 y) (b0_10 y) (b0_11 y) (b0_12 y) (b0_13 y) (b0_14 y) (b0_15 y) (m y)))) (x : σ) (hx : I x) {s : St} (hw : Weak KK 87 0 s (h16_0 (t1 x) (t2 x) (t6 x) (t7 x) (t33 x) (t34 x) (t35 x) (b0_0 x) (b0_1 x) (b0_2 x) (b0_3 x) (b0_4 x) (b0_5 x) (b0_6 x) (b0_7 x) (b0_8 x) (b0_9 x) (b0_10 x) (b0_11 x) (b0_12 x) (b0_13 x) (b0_14 x) (b0_15 x) (m x))) : Tri Try.prog KK 87 0 (.loop c16_0) s (q16_0 R) :=
  Tri.weak hw (Tri.loops fol I (fun x => h16_0 (t1 x) (t2 x) (t6 x) (t7 x) (t33 x) (t34 x) (t35 x) (b0_0 x) (b0_1 x) (b0_2 x) (b0_3 x) (b0_4 x) (b0_5 x) (b0_6 x) (b0_7 x) (b0_8 x) (b0_9 x) (b0_10 x) (b0_11 x) (b0_12 x) (b0_13 x) (b0_14 x) (b0_15 x) (m x)) μ (fun x hx => (B16_0_eq (t1 x) (t2 x) (t6 x) (t7 x) (t33 x) (t34 x) (t35 x) (b0_0 x) (b0_1 x) (b0_2 x) (b0_3 x) (b0_4 x) (b0_5 x) (b0_6 x) (b0_7 x) (b0_8 x) (b0_9 x) (b0_10 x) (b0_11 x) (b0_12 x) (b0_13 x) (b0_14 x) (b0_15 x) (m x) R _).mpr (step x hx)) x hx)
noncomputable def B16_1 (t1 : AV) (t2 : AV) (t6 : Bool) (t7 : Int) (t12 : Int) (b0_0 : Int) (b0_1 : Int) (b0_2 : Int) (b0_3 : Int) (b0_4 : Int) (b0_5 : Int) (b0_6 : Int) (b0_7 : Int) (b0_8 : Int) (b0_9 : Int) (b0_10 : Int) (b0_11 : Int) (b0_12 : Int) (b0_13 : Int) (b0_14 : Int) (b0_15 : Int) (m : Mem) (R : AV → Mem → Prop) (N0 : St → Prop) : Prop :=
opP (lenS t1) fun v23 =>
ex_i64 v23 fun z24 =>
bif (decide (t12 < z24)) then (
opP (idxS 1 t2 (AV.sc (.int .i64 t12))) fun v25 =>
opP (ldS (mget ((0, some ⟨[(AV.sc (.int .i64 b0_0)), (AV.sc (.int .i64 b0_1)), (AV.sc (.int .i64 b0_2)), (AV.sc (.int .i64 b0_3)), (AV.sc (.int .i64 b0_4)), (AV.sc (.int .i64 b0_5)), (AV.sc (.int .i64 b0_6)), (AV.sc (.int .i64 b0_7)), (AV.sc (.int .i64 b0_8)), (AV.sc (.int .i64 b0_9)), (AV.sc (.int .i64 b0_10)), (AV.sc (.int .i64 b0_11)), (AV.sc (.int .i64 b0_12)), (AV.sc (.int .i64 b0_13)), (AV.sc (.int .i64 b0_14)), (AV.sc (.int .i64 b0_15))], 24⟩) :: m)) v25) fun v26 =>
ex_i64 v26 fun z27 =>
opP (idxS 1 t2 (AV.sc (.int .i64 (IntKind.wrap .i64 (t12 - (1)))))) fun v28 =>
opP (ldS (mget ((0, some ⟨[(AV.sc (.int .i64 b0_0)), (AV.sc (.int .i64 b0_1)), (AV.sc (.int .i64 b0_2)), (AV.sc (.int .i64 b0_3)), (AV.sc (.int .i64 b0_4)), (AV.sc (.int .i64 b0_5)), (AV.sc (.int .i64 b0_6)), (AV.sc (.int .i64 b0_7)), (AV.sc (.int .i64 b0_8)), (AV.sc (.int .i64 b0_9)), (AV.sc (.int .i64 b0_10)), (AV.sc (.int .i64 b0_11)), (AV.sc (.int .i64 b0_12)), (AV.sc (.int .i64 b0_13)), (AV.sc (.int .i64 b0_14)), (AV.sc (.int .i64 b0_15))], 24⟩) :: m)) v28) fun v29 =>
ex_i64 v29 fun z30 =>
opP (idxS 1 t1 (AV.sc (.int .i64 (IntKind.wrap .i64 (t12 - (1)))))) fun v31 =>
opP (ldS (mget ((0, some ⟨[(AV.sc (.int .i64 b0_0)), (AV.sc (.int .i64 b0_1)), (AV.sc (.int .i64 b0_2)), (AV.sc (.int .i64 b0_3)), (AV.sc (.int .i64 b0_4)), (AV.sc (.int .i64 b0_5)), (AV.sc (.int .i64 b0_6)), (AV.sc (.int .i64 b0_7)), (AV.sc (.int .i64 b0_8)), (AV.sc (.int .i64 b0_9)), (AV.sc (.int .i64 b0_10)), (AV.sc (.int .i64 b0_11)), (AV.sc (.int .i64 b0_12)), (AV.sc (.int .i64 b0_13)), (AV.sc (.int .i64 b0_14)), (AV.sc (.int .i64 b0_15))], 24⟩) :: m)) v31) fun v32 =>
ex_i64 v32 fun z33 =>
opP (idxS 1 t1 (AV.sc (.int .i64 t12))) fun v34 =>
opP (ldS (mget ((0, some ⟨[(AV.sc (.int .i64 b0_0)), (AV.sc (.int .i64 b0_1)), (AV.sc (.int .i64 b0_2)), (AV.sc (.int .i64 b0_3)), (AV.sc (.int .i64 b0_4)), (AV.sc (.int .i64 b0_5)), (AV.sc (.int .i64 b0_6)), (AV.sc (.int .i64 b0_7)), (AV.sc (.int .i64 b0_8)), (AV.sc (.int .i64 b0_9)), (AV.sc (.int .i64 b0_10)), (AV.sc (.int .i64 b0_11)), (AV.sc (.int .i64 b0_12)), (AV.sc (.int .i64 b0_13)), (AV.sc (.int .i64 b0_14)), (AV.sc (.int .i64 b0_15))], 24⟩) :: m)) v34) fun v35 =>
ex_i64 v35 fun z36 =>
opP (idxA 4 4 (AV.ptr 0 0) (AV.sc (.int .i64 z33))) fun v37 =>
opP (idxA 4 1 v37 (AV.sc (.int .i64 z36))) fun v38 =>
opP (ldS (mget ((0, some ⟨[(AV.sc (.int .i64 b0_0)), (AV.sc (.int .i64 b0_1)), (AV.sc (.int .i64 b0_2)), (AV.sc (.int .i64 b0_3)), (AV.sc (.int .i64 b0_4)), (AV.sc (.int .i64 b0_5)), (AV.sc (.int .i64 b0_6)), (AV.sc (.int .i64 b0_7)), (AV.sc (.int .i64 b0_8)), (AV.sc (.int .i64 b0_9)), (AV.sc (.int .i64 b0_10)), (AV.sc (.int .i64 b0_11)), (AV.sc (.int .i64 b0_12)), (AV.sc (.int .i64 b0_13)), (AV.sc (.int .i64 b0_14)), (AV.sc (.int .i64 b0_15))], 24⟩) :: m)) v38) fun v39 =>
ex_i64 v39 fun z40 =>
bif (decide ((IntKind.wrap .i64 (z27 - z30)) < z40)) then (
retL R ((0, some ⟨[(AV.sc (.int .i64 b0_0)), (AV.sc (.int .i64 b0_1)), (AV.sc (.int .i64 b0_2)), (AV.sc (.int .i64 b0_3)), (AV.sc (.int .i64 b0_4)), (AV.sc (.int .i64 b0_5)), (AV.sc (.int .i64 b0_6)), (AV.sc (.int .i64 b0_7)), (AV.sc (.int .i64 b0_8)), (AV.sc (.int .i64 b0_9)), (AV.sc (.int .i64 b0_10)), (AV.sc (.int .i64 b0_11)), (AV.sc (.int .i64 b0_12)), (AV.sc (.int .i64 b0_13)), (AV.sc (.int .i64 b0_14)), (AV.sc (.int .i64 b0_15))], 24⟩) :: m) [some (AV.sc (.bool false)), some (AV.sc (.int .i64 (0)))]) else (
N0 ⟨[(1, t1), (2, t2), (3, (AV.ptr 0 0)), (6, (AV.sc (.bool t6))), (7, (AV.sc (.int .i64 t7))), (12, (AV.sc (.int .i64 (IntKind.wrap .i64 (t12 + (1)))))), (58, (AV.sc (.int .i64 t12))), (59, t1), (60, (AV.sc (.int .i64 z24))), (61, (AV.sc (.bool (decide (t12 < z24))))), (64, t2), (65, (AV.sc (.int .i64 t12))), (66, v25), (67, (AV.sc (.int .i64 z27))), (68, t2), (69, (AV.sc (.int .i64 t12))), (70, (AV.sc (.int .i64 (IntKind.wrap .i64 (t12 - (1)))))), (71, v28), (72, (AV.sc (.int .i64 z30))), (73, (AV.sc (.int .i64 (IntKind.wrap .i64 (z27 - z30))))), (74, t1), (75, (AV.sc (.int .i64 t12))), (76, (AV.sc (.int .i64 (IntKind.wrap .i64 (t12 - (1)))))), (77, v31), (78, (AV.sc (.int .i64 z33))), (79, t1), (80, (AV.sc (.int .i64 t12))), (81, v34), (82, (AV.sc (.int .i64 z36))), (83, v37), (84, v38), (85, (AV.sc (.int .i64 z40))), (86, (AV.sc (.bool (decide ((IntKind.wrap .i64 (z27 - z30)) < z40))))), (62, (AV.sc (.int .i64 t12))), (63, (AV.sc (.int .i64 (IntKind.wrap .i64 (t12 + (1))))))], ((0, some ⟨[(AV.sc (.int .i64 b0_0)), (AV.sc (.int .i64 b0_1)), (AV.sc (.int .i64 b0_2)), (AV.sc (.int .i64 b0_3)), (AV.sc (.int .i64 b0_4)), (AV.sc (.int .i64 b0_5)), (AV.sc (.int .i64 b0_6)), (AV.sc (.int .i64 b0_7)), (AV.sc (.int .i64 b0_8)), (AV.sc (.int .i64 b0_9)), (AV.sc (.int .i64 b0_10)), (AV.sc (.int .i64 b0_11)), (AV.sc (.int .i64 b0_12)), (AV.sc (.int .i64 b0_13)), (AV.sc (.int .i64 b0_14)), (AV.sc (.int .i64 b0_15))], 24⟩) :: m), 200030⟩)) else (
retL R ((0, some ⟨[(AV.sc (.int .i64 b0_0)), (AV.sc (.int .i64 b0_1)), (AV.sc (.int .i64 b0_2)), (AV.sc (.int .i64 b0_3)), (AV.sc (.int .i64 b0_4)), (AV.sc (.int .i64 b0_5)), (AV.sc (.int .i64 b0_6)), (AV.sc (.int .i64 b0_7)), (AV.sc (.int .i64 b0_8)), (AV.sc (.int .i64 b0_9)), (AV.sc (.int .i64 b0_10)), (AV.sc (.int .i64 b0_11)), (AV.sc (.int .i64 b0_12)), (AV.sc (.int .i64 b0_13)), (AV.sc (.int .i64 b0_14)), (AV.sc (.int .i64 b0_15))], 24⟩) :: m) [some (AV.sc (.bool true)), some (AV.sc (.int .i64 (0)))])
theorem B16_1_eq (t1 : AV) (t2 : AV) (t6 : Bool) (t7 : Int) (t12 : Int) (b0_0 : Int) (b0_1 : Int) (b0_2 : Int) (b0_3 : Int) (b0_4 : Int) (b0_5 : Int) (b0_6 : Int) (b0_7 : Int) (b0_8 : Int) (b0_9 : Int) (b0_10 : Int) (b0_11 : Int) (b0_12 : Int) (b0_13 : Int) (b0_14 : Int) (b0_15 : Int) (m : Mem) (R : AV → Mem → Prop) (N0 : St → Prop) : W Try.prog KK 87 0 c16_1 (h16_1 t1 t2 t6 t7 t12 b0_0 b0_1 b0_2 b0_3 b0_4 b0_5 b0_6 b0_7 b0_8 b0_9 b0_10 b0_11 b0_12 b0_13 b0_14 b0_15 m) (qq16_1 R N0) = B16_1 t1 t2 t6 t7 t12 b0_0 b0_1 b0_2 b0_3 b0_4 b0_5 b0_6 b0_7 b0_8 b0_9 b0_10 b0_11 b0_12 b0_13 b0_14 b0_15 m R N0 := by kernel_rfl
theorem L16_1 (R : AV → Mem → Prop) {σ : Type} (I : σ → Prop) (t1 : σ → AV) (t2 : σ → AV) (t6 : σ → Bool) (t7 : σ → Int) (t12 : σ → Int) (b0_0 : σ → Int) (b0_1 : σ → Int) (b0_2 : σ → Int) (b0_3 : σ → Int) (b0_4 : σ → Int) (b0_5 : σ → Int) (b0_6 : σ → Int) (b0_7 : σ → Int) (b0_8 : σ → Int) (b0_9 : σ → Int) (b0_10 : σ → Int) (b0_11 : σ → Int) (b0_12 : σ → Int) (b0_13 : σ → Int) (b0_14 : σ → Int) (b0_15 : σ → Int) (m : σ → Mem) (μ : σ → Nat) (step : ∀ x, I x → B16_1 (t1 x) (t2 x) (t6 x) (t7 x) (t12 x) (b0_0 x) (b0_1 x) (b0_2 x) (b0_3 x) (b0_4 x) (b0_5 x) (b0_6 x) (b0_7 x) (b0_8 x) (b0_9 x) (b0_10 x) (b0_11 x) (b0_12 x) (b0_13 x) (b0_14 x) (b0_15 x) (m x) R (fun s' => ∃ y, I y ∧ μ y < μ x ∧ Weak KK 87 0 s' (h16_1 (t1 y) (t2 y) (t6 y) (t7 y) (t12 y) (b0_0 y) (b0_1 y) (b0_2 y) (b0_3 y) (b0_4 y) (b0_5 y) (b0_6 y) (b0_7 y) (b0_8 y) (b0_9 y) (b0_10 y) (b0_11 y) (b0_12 y) (b0_13 y) (b0_14 y) (b0_15 y) (m y)))) (x : σ) (hx : I x) {s : St} (hw : Weak KK 87 0 s (h16_1 (t1 x) (t2 x) (t6 x) (t7 x) (t12 x) (b0_0 x) (b0_1 x) (b0_2 x) (b0_3 x) (b0_4 x) (b0_5 x) (b0_6 x) (b0_7 x) (b0_8 x) (b0_9 x) (b0_10 x) (b0_11 x) (b0_12 x) (b0_13 x) (b0_14 x) (b0_15 x) (m x))) : Tri Try.prog KK 87 0 (.loop c16_1) s (q16_1 R) :=
  Tri.weak hw (Tri.loops fol I (fun x => h16_1 (t1 x) (t2 x) (t6 x) (t7 x) (t12 x) (b0_0 x) (b0_1 x) (b0_2 x) (b0_3 x) (b0_4 x) (b0_5 x) (b0_6 x) (b0_7 x) (b0_8 x) (b0_9 x) (b0_10 x) (b0_11 x) (b0_12 x) (b0_13 x) (b0_14 x) (b0_15 x) (m x)) μ (fun x hx => (B16_1_eq (t1 x) (t2 x) (t6 x) (t7 x) (t12 x) (b0_0 x) (b0_1 x) (b0_2 x) (b0_3 x) (b0_4 x) (b0_5 x) (b0_6 x) (b0_7 x) (b0_8 x) (b0_9 x) (b0_10 x) (b0_11 x) (b0_12 x) (b0_13 x) (b0_14 x) (b0_15 x) (m x) R _).mpr (step x hx)) x hx)
noncomputable def F16 (a0_0 : Int) (a0_1 : Int) (a0_2 : Int) (a0_3 : Int) (a0_4 : Int) (a0_5 : Int) (a0_6 : Int) (a0_7 : Int) (a0_8 : Int) (a0_9 : Int) (a0_10 : Int) (a0_11 : Int) (a0_12 : Int) (a0_13 : Int) (a0_14 : Int) (a0_15 : Int) (a1 : AV) (a2 : AV) (R : AV → Mem → Prop) : Prop :=
callQ Try.prog KK.gl ((0, some ⟨[(AV.sc (.int .i64 a0_0)), (AV.sc (.int .i64 a0_1)), (AV.sc (.int .i64 a0_2)), (AV.sc (.int .i64 a0_3)), (AV.sc (.int .i64 a0_4)), (AV.sc (.int .i64 a0_5)), (AV.sc (.int .i64 a0_6)), (AV.sc (.int .i64 a0_7)), (AV.sc (.int .i64 a0_8)), (AV.sc (.int .i64 a0_9)), (AV.sc (.int .i64 a0_10)), (AV.sc (.int .i64 a0_11)), (AV.sc (.int .i64 a0_12)), (AV.sc (.int .i64 a0_13)), (AV.sc (.int .i64 a0_14)), (AV.sc (.int .i64 a0_15))], 24⟩) :: []) 36 [(AV.agg [(AV.sc (.int .i64 a0_0)), (AV.sc (.int .i64 a0_1)), (AV.sc (.int .i64 a0_2)), (AV.sc (.int .i64 a0_3)), (AV.sc (.int .i64 a0_4)), (AV.sc (.int .i64 a0_5)), (AV.sc (.int .i64 a0_6)), (AV.sc (.int .i64 a0_7)), (AV.sc (.int .i64 a0_8)), (AV.sc (.int .i64 a0_9)), (AV.sc (.int .i64 a0_10)), (AV.sc (.int .i64 a0_11)), (AV.sc (.int .i64 a0_12)), (AV.sc (.int .i64 a0_13)), (AV.sc (.int .i64 a0_14)), (AV.sc (.int .i64 a0_15))])] fun v0 =>
ex_i64 v0 fun z1 =>
bif (z1 != (0)) then (
retL R ((0, some ⟨[(AV.sc (.int .i64 a0_0)), (AV.sc (.int .i64 a0_1)), (AV.sc (.int .i64 a0_2)), (AV.sc (.int .i64 a0_3)), (AV.sc (.int .i64 a0_4)), (AV.sc (.int .i64 a0_5)), (AV.sc (.int .i64 a0_6)), (AV.sc (.int .i64 a0_7)), (AV.sc (.int .i64 a0_8)), (AV.sc (.int .i64 a0_9)), (AV.sc (.int .i64 a0_10)), (AV.sc (.int .i64 a0_11)), (AV.sc (.int .i64 a0_12)), (AV.sc (.int .i64 a0_13)), (AV.sc (.int .i64 a0_14)), (AV.sc (.int .i64 a0_15))], 24⟩) :: []) [some (AV.sc (.bool false)), some (AV.sc (.int .i64 z1))]) else (
opP (lenS a1) fun v2 =>
ex_i64 v2 fun z3 =>
bif (decide (z3 > (256))) then (
retL R ((0, some ⟨[(AV.sc (.int .i64 a0_0)), (AV.sc (.int .i64 a0_1)), (AV.sc (.int .i64 a0_2)), (AV.sc (.int .i64 a0_3)), (AV.sc (.int .i64 a0_4)), (AV.sc (.int .i64 a0_5)), (AV.sc (.int .i64 a0_6)), (AV.sc (.int .i64 a0_7)), (AV.sc (.int .i64 a0_8)), (AV.sc (.int .i64 a0_9)), (AV.sc (.int .i64 a0_10)), (AV.sc (.int .i64 a0_11)), (AV.sc (.int .i64 a0_12)), (AV.sc (.int .i64 a0_13)), (AV.sc (.int .i64 a0_14)), (AV.sc (.int .i64 a0_15))], 24⟩) :: []) [some (AV.sc (.bool false)), some (AV.sc (.int .i64 (2)))]) else (
opP (lenS a2) fun v4 =>
ex_i64 v4 fun z5 =>
bif (decide (z5 > (256))) then (
retL R ((0, some ⟨[(AV.sc (.int .i64 a0_0)), (AV.sc (.int .i64 a0_1)), (AV.sc (.int .i64 a0_2)), (AV.sc (.int .i64 a0_3)), (AV.sc (.int .i64 a0_4)), (AV.sc (.int .i64 a0_5)), (AV.sc (.int .i64 a0_6)), (AV.sc (.int .i64 a0_7)), (AV.sc (.int .i64 a0_8)), (AV.sc (.int .i64 a0_9)), (AV.sc (.int .i64 a0_10)), (AV.sc (.int .i64 a0_11)), (AV.sc (.int .i64 a0_12)), (AV.sc (.int .i64 a0_13)), (AV.sc (.int .i64 a0_14)), (AV.sc (.int .i64 a0_15))], 24⟩) :: []) [some (AV.sc (.bool false)), some (AV.sc (.int .i64 (2)))]) else (
opP (lenS a1) fun v6 =>
ex_i64 v6 fun z7 =>
opP (lenS a2) fun v8 =>
ex_i64 v8 fun z9 =>
bif (z7 != z9) then (
retL R ((0, some ⟨[(AV.sc (.int .i64 a0_0)), (AV.sc (.int .i64 a0_1)), (AV.sc (.int .i64 a0_2)), (AV.sc (.int .i64 a0_3)), (AV.sc (.int .i64 a0_4)), (AV.sc (.int .i64 a0_5)), (AV.sc (.int .i64 a0_6)), (AV.sc (.int .i64 a0_7)), (AV.sc (.int .i64 a0_8)), (AV.sc (.int .i64 a0_9)), (AV.sc (.int .i64 a0_10)), (AV.sc (.int .i64 a0_11)), (AV.sc (.int .i64 a0_12)), (AV.sc (.int .i64 a0_13)), (AV.sc (.int .i64 a0_14)), (AV.sc (.int .i64 a0_15))], 24⟩) :: []) [some (AV.sc (.bool false)), some (AV.sc (.int .i64 (3)))]) else (
opP (lenS a1) fun v10 =>
ex_i64 v10 fun z11 =>
Tri Try.prog KK 87 0 (.loop c16_0) ⟨[(0, (AV.agg [(AV.sc (.int .i64 a0_0)), (AV.sc (.int .i64 a0_1)), (AV.sc (.int .i64 a0_2)), (AV.sc (.int .i64 a0_3)), (AV.sc (.int .i64 a0_4)), (AV.sc (.int .i64 a0_5)), (AV.sc (.int .i64 a0_6)), (AV.sc (.int .i64 a0_7)), (AV.sc (.int .i64 a0_8)), (AV.sc (.int .i64 a0_9)), (AV.sc (.int .i64 a0_10)), (AV.sc (.int .i64 a0_11)), (AV.sc (.int .i64 a0_12)), (AV.sc (.int .i64 a0_13)), (AV.sc (.int .i64 a0_14)), (AV.sc (.int .i64 a0_15))])), (1, a1), (2, a2), (3, (AV.ptr 0 0)), (6, (AV.sc (.bool false))), (7, (AV.sc (.int .i64 (0)))), (13, (AV.agg [(AV.sc (.int .i64 a0_0)), (AV.sc (.int .i64 a0_1)), (AV.sc (.int .i64 a0_2)), (AV.sc (.int .i64 a0_3)), (AV.sc (.int .i64 a0_4)), (AV.sc (.int .i64 a0_5)), (AV.sc (.int .i64 a0_6)), (AV.sc (.int .i64 a0_7)), (AV.sc (.int .i64 a0_8)), (AV.sc (.int .i64 a0_9)), (AV.sc (.int .i64 a0_10)), (AV.sc (.int .i64 a0_11)), (AV.sc (.int .i64 a0_12)), (AV.sc (.int .i64 a0_13)), (AV.sc (.int .i64 a0_14)), (AV.sc (.int .i64 a0_15))])), (14, (AV.sc (.int .i64 z1))), (8, (AV.sc (.int .i64 z1))), (15, (AV.sc (.int .i64 z1))), (16, (AV.sc (.bool (z1 != (0))))), (19, a1), (20, (AV.sc (.int .i64 z3))), (21, (AV.sc (.bool (decide (z3 > (256)))))), (22, (AV.sc (.bool false))), (23, a2), (24, (AV.sc (.int .i64 z5))), (25, (AV.sc (.bool (decide (z5 > (256)))))), (26, (AV.sc (.bool (decide (z5 > (256)))))), (18, (AV.sc (.bool (decide (z5 > (256)))))), (28, a1), (29, (AV.sc (.int .i64 z7))), (30, a2), (31, (AV.sc (.int .i64 z9))), (32, (AV.sc (.bool (z7 != z9)))), (27, (AV.sc (.bool (z7 != z9)))), (33, a1), (34, (AV.sc (.int .i64 z11))), (35, (AV.sc (.int .i64 (0))))], ((0, some ⟨[(AV.sc (.int .i64 a0_0)), (AV.sc (.int .i64 a0_1)), (AV.sc (.int .i64 a0_2)), (AV.sc (.int .i64 a0_3)), (AV.sc (.int .i64 a0_4)), (AV.sc (.int .i64 a0_5)), (AV.sc (.int .i64 a0_6)), (AV.sc (.int .i64 a0_7)), (AV.sc (.int .i64 a0_8)), (AV.sc (.int .i64 a0_9)), (AV.sc (.int .i64 a0_10)), (AV.sc (.int .i64 a0_11)), (AV.sc (.int .i64 a0_12)), (AV.sc (.int .i64 a0_13)), (AV.sc (.int .i64 a0_14)), (AV.sc (.int .i64 a0_15))], 24⟩) :: []), 89⟩ (q16_0 R)))))
theorem F16_own (a0_0 : Int) (a0_1 : Int) (a0_2 : Int) (a0_3 : Int) (a0_4 : Int) (a0_5 : Int) (a0_6 : Int) (a0_7 : Int) (a0_8 : Int) (a0_9 : Int) (a0_10 : Int) (a0_11 : Int) (a0_12 : Int) (a0_13 : Int) (a0_14 : Int) (a0_15 : Int) (a1 : AV) (a2 : AV) (R : AV → Mem → Prop) (h : F16 a0_0 a0_1 a0_2 a0_3 a0_4 a0_5 a0_6 a0_7 a0_8 a0_9 a0_10 a0_11 a0_12 a0_13 a0_14 a0_15 a1 a2 R) : Own Try.prog KK.gl 16 [(AV.agg [(AV.sc (.int .i64 a0_0)), (AV.sc (.int .i64 a0_1)), (AV.sc (.int .i64 a0_2)), (AV.sc (.int .i64 a0_3)), (AV.sc (.int .i64 a0_4)), (AV.sc (.int .i64 a0_5)), (AV.sc (.int .i64 a0_6)), (AV.sc (.int .i64 a0_7)), (AV.sc (.int .i64 a0_8)), (AV.sc (.int .i64 a0_9)), (AV.sc (.int .i64 a0_10)), (AV.sc (.int .i64 a0_11)), (AV.sc (.int .i64 a0_12)), (AV.sc (.int .i64 a0_13)), (AV.sc (.int .i64 a0_14)), (AV.sc (.int .i64 a0_15))]), a1, a2] R := own_of_F fol Try.func16 (code := c16) (by kernel_rfl) (by kernel_rfl) (by kernel_rfl) (X := F16 a0_0 a0_1 a0_2 a0_3 a0_4 a0_5 a0_6 a0_7 a0_8 a0_9 a0_10 a0_11 a0_12 a0_13 a0_14 a0_15 a1 a2 R) (by kernel_rfl) h
/- skyway/skywaykeep3.SequenceValid -/
noncomputable def c10 : Code := ((Try.f10).body).getD .skip
noncomputable def q10 (R : AV → Mem → Prop) : AExit → St → Prop := retQ Try.prog Try.f10 R
noncomputable def c10_0 : Code := loopB c10 0
noncomputable def q10_0 (R : AV → Mem → Prop) : AExit → St → Prop := contW Try.prog KK 96 0 c10 0 (q10 R)
noncomputable def qq10_0 (R : AV → Mem → Prop) (N0 : St → Prop) : AExit → St → Prop := thenQ N0 (q10_0 R)
def h10_0 (t0 : AV) (t1 : AV) (t6 : Bool) (t7 : AV) (t9 : AV) (t30 : AV) (t31 : Int) (t32 : Int) (b0_0 : Int) (b0_1 : Int) (b0_2 : Int) (b0_3 : Int) (b0_4 : Int) (b0_5 : Int) (b0_6 : Int) (b0_7 : Int) (b0_8 : Int) (b0_9 : Int) (b0_10 : Int) (b0_11 : Int) (b0_12 : Int) (b0_13 : Int) (b0_14 : Int) (b0_15 : Int) (m : Mem) : St := ⟨[(0, t0), (1, t1), (5, (AV.ptr 0 0)), (6, (AV.sc (.bool t6))), (7, t7), (9, t9), (30, t30), (31, (AV.sc (.int .i64 t31))), (32, (AV.sc (.int .i64 t32)))], ((0, some ⟨[(AV.sc (.int .i64 b0_0)), (AV.sc (.int .i64 b0_1)), (AV.sc (.int .i64 b0_2)), (AV.sc (.int .i64 b0_3)), (AV.sc (.int .i64 b0_4)), (AV.sc (.int .i64 b0_5)), (AV.sc (.int .i64 b0_6)), (AV.sc (.int .i64 b0_7)), (AV.sc (.int .i64 b0_8)), (AV.sc (.int .i64 b0_9)), (AV.sc (.int .i64 b0_10)), (AV.sc (.int .i64 b0_11)), (AV.sc (.int .i64 b0_12)), (AV.sc (.int .i64 b0_13)), (AV.sc (.int .i64 b0_14)), (AV.sc (.int .i64 b0_15))], 24⟩) :: m), 100000⟩
noncomputable def c10_1 : Code := loopB c10 1
noncomputable def q10_1 (R : AV → Mem → Prop) : AExit → St → Prop := contW Try.prog KK 96 0 c10 1 (q10 R)
noncomputable def qq10_1 (R : AV → Mem → Prop) (N0 : St → Prop) : AExit → St → Prop := thenQ N0 (q10_1 R)
def h10_1 (t0 : AV) (t6 : Bool) (t7 : AV) (t66 : AV) (t67 : Int) (t68 : Int) (m : Mem) : St := ⟨[(0, t0), (6, (AV.sc (.bool t6))), (7, t7), (66, t66), (67, (AV.sc (.int .i64 t67))), (68, (AV.sc (.int .i64 t68)))], m, 200000⟩
noncomputable def B10_0 (t0 : AV) (t1 : AV) (t6 : Bool) (t7 : AV) (t9 : AV) (t30 : AV) (t31 : Int) (t32 : Int) (b0_0 : Int) (b0_1 : Int) (b0_2 : Int) (b0_3 : Int) (b0_4 : Int) (b0_5 : Int) (b0_6 : Int) (b0_7 : Int) (b0_8 : Int) (b0_9 : Int) (b0_10 : Int) (b0_11 : Int) (b0_12 : Int) (b0_13 : Int) (b0_14 : Int) (b0_15 : Int) (m : Mem) (R : AV → Mem → Prop) (N0 : St → Prop) : Prop :=
bif (decide (t32 < t31)) then (
opP (idxS 1 t30 (AV.sc (.int .i64 t32))) fun v10 =>
opP (ldS (mget ((0, some ⟨[(AV.sc (.int .i64 b0_0)), (AV.sc (.int .i64 b0_1)), (AV.sc (.int .i64 b0_2)), (AV.sc (.int .i64 b0_3)), (AV.sc (.int .i64 b0_4)), (AV.sc (.int .i64 b0_5)), (AV.sc (.int .i64 b0_6)), (AV.sc (.int .i64 b0_7)), (AV.sc (.int .i64 b0_8)), (AV.sc (.int .i64 b0_9)), (AV.sc (.int .i64 b0_10)), (AV.sc (.int .i64 b0_11)), (AV.sc (.int .i64 b0_12)), (AV.sc (.int .i64 b0_13)), (AV.sc (.int .i64 b0_14)), (AV.sc (.int .i64 b0_15))], 24⟩) :: m)) v10) fun v11 =>
ex_i64 v11 fun z12 =>
bif (decide (z12 < (0))) then (
retL R ((0, some ⟨[(AV.sc (.int .i64 b0_0)), (AV.sc (.int .i64 b0_1)), (AV.sc (.int .i64 b0_2)), (AV.sc (.int .i64 b0_3)), (AV.sc (.int .i64 b0_4)), (AV.sc (.int .i64 b0_5)), (AV.sc (.int .i64 b0_6)), (AV.sc (.int .i64 b0_7)), (AV.sc (.int .i64 b0_8)), (AV.sc (.int .i64 b0_9)), (AV.sc (.int .i64 b0_10)), (AV.sc (.int .i64 b0_11)), (AV.sc (.int .i64 b0_12)), (AV.sc (.int .i64 b0_13)), (AV.sc (.int .i64 b0_14)), (AV.sc (.int .i64 b0_15))], 24⟩) :: m) [some (AV.sc (.bool false))]) else (
opP (lenS t0) fun v13 =>
ex_i64 v13 fun z14 =>
bif (decide (z12 ≥ z14)) then (
retL R ((0, some ⟨[(AV.sc (.int .i64 b0_0)), (AV.sc (.int .i64 b0_1)), (AV.sc (.int .i64 b0_2)), (AV.sc (.int .i64 b0_3)), (AV.sc (.int .i64 b0_4)), (AV.sc (.int .i64 b0_5)), (AV.sc (.int .i64 b0_6)), (AV.sc (.int .i64 b0_7)), (AV.sc (.int .i64 b0_8)), (AV.sc (.int .i64 b0_9)), (AV.sc (.int .i64 b0_10)), (AV.sc (.int .i64 b0_11)), (AV.sc (.int .i64 b0_12)), (AV.sc (.int .i64 b0_13)), (AV.sc (.int .i64 b0_14)), (AV.sc (.int .i64 b0_15))], 24⟩) :: m) [some (AV.sc (.bool false))]) else (
opP (idxS 4 t0 (AV.sc (.int .i64 z12))) fun v15 =>
opP (fldO 1 v15) fun v16 =>
opP (ldS (mget ((0, some ⟨[(AV.sc (.int .i64 b0_0)), (AV.sc (.int .i64 b0_1)), (AV.sc (.int .i64 b0_2)), (AV.sc (.int .i64 b0_3)), (AV.sc (.int .i64 b0_4)), (AV.sc (.int .i64 b0_5)), (AV.sc (.int .i64 b0_6)), (AV.sc (.int .i64 b0_7)), (AV.sc (.int .i64 b0_8)), (AV.sc (.int .i64 b0_9)), (AV.sc (.int .i64 b0_10)), (AV.sc (.int .i64 b0_11)), (AV.sc (.int .i64 b0_12)), (AV.sc (.int .i64 b0_13)), (AV.sc (.int .i64 b0_14)), (AV.sc (.int .i64 b0_15))], 24⟩) :: m)) v16) fun v17 =>
ex_i64 v17 fun z18 =>
opN (bsl 100018 3 1 1 [(AV.sc (.int .i64 (0)))] [(0, (AV.sc (.int .i64 z18)))]) ((0, some ⟨[(AV.sc (.int .i64 b0_0)), (AV.sc (.int .i64 b0_1)), (AV.sc (.int .i64 b0_2)), (AV.sc (.int .i64 b0_3)), (AV.sc (.int .i64 b0_4)), (AV.sc (.int .i64 b0_5)), (AV.sc (.int .i64 b0_6)), (AV.sc (.int .i64 b0_7)), (AV.sc (.int .i64 b0_8)), (AV.sc (.int .i64 b0_9)), (AV.sc (.int .i64 b0_10)), (AV.sc (.int .i64 b0_11)), (AV.sc (.int .i64 b0_12)), (AV.sc (.int .i64 b0_13)), (AV.sc (.int .i64 b0_14)), (AV.sc (.int .i64 b0_15))], 24⟩) :: m) fun v19 m19 =>
opN (app (mget m19) 3 1 8 [(AV.sc (.int .i64 (0)))] 100019 t9 v19) m19 fun v20 m20 =>
N0 ⟨[(0, t0), (1, t1), (5, (AV.ptr 0 0)), (6, (AV.sc (.bool t6))), (7, t7), (9, v20), (30, t30), (31, (AV.sc (.int .i64 t31))), (32, (AV.sc (.int .i64 (IntKind.wrap .i64 (t32 + (1)))))), (33, (AV.sc (.bool (decide (t32 < t31))))), (34, v10), (35, (AV.sc (.int .i64 z12))), (11, (AV.sc (.int .i64 z12))), (36, (AV.sc (.int .i64 z12))), (37, (AV.sc (.bool (decide (z12 < (0)))))), (38, (AV.sc (.bool false))), (39, (AV.sc (.int .i64 z12))), (40, t0), (41, (AV.sc (.int .i64 z14))), (42, (AV.sc (.bool (decide (z12 ≥ z14))))), (43, (AV.sc (.bool (decide (z12 ≥ z14))))), (44, t9), (45, t0), (46, (AV.sc (.int .i64 z12))), (47, v15), (48, v16), (49, (AV.sc (.int .i64 z18))), (50, v19), (51, v20), (52, (AV.sc (.int .i64 (IntKind.wrap .i64 (t32 + (1))))))], m20, 100023⟩))) else (
callQ Try.prog KK.gl ((0, some ⟨[(AV.sc (.int .i64 b0_0)), (AV.sc (.int .i64 b0_1)), (AV.sc (.int .i64 b0_2)), (AV.sc (.int .i64 b0_3)), (AV.sc (.int .i64 b0_4)), (AV.sc (.int .i64 b0_5)), (AV.sc (.int .i64 b0_6)), (AV.sc (.int .i64 b0_7)), (AV.sc (.int .i64 b0_8)), (AV.sc (.int .i64 b0_9)), (AV.sc (.int .i64 b0_10)), (AV.sc (.int .i64 b0_11)), (AV.sc (.int .i64 b0_12)), (AV.sc (.int .i64 b0_13)), (AV.sc (.int .i64 b0_14)), (AV.sc (.int .i64 b0_15))], 24⟩) :: m) 16 [(AV.agg [(AV.sc (.int .i64 b0_0)), (AV.sc (.int .i64 b0_1)), (AV.sc (.int .i64 b0_2)), (AV.sc (.int .i64 b0_3)), (AV.sc (.int .i64 b0_4)), (AV.sc (.int .i64 b0_5)), (AV.sc (.int .i64 b0_6)), (AV.sc (.int .i64 b0_7)), (AV.sc (.int .i64 b0_8)), (AV.sc (.int .i64 b0_9)), (AV.sc (.int .i64 b0_10)), (AV.sc (.int .i64 b0_11)), (AV.sc (.int .i64 b0_12)), (AV.sc (.int .i64 b0_13)), (AV.sc (.int .i64 b0_14)), (AV.sc (.int .i64 b0_15))]), t9, t7] fun v21 =>
exT2 v21 fun c22 c23 =>
exB c22 fun b24 =>
ex_i64 c23 fun z25 =>
bif (z25 != (0)) then (
retL R ((0, some ⟨[(AV.sc (.int .i64 b0_0)), (AV.sc (.int .i64 b0_1)), (AV.sc (.int .i64 b0_2)), (AV.sc (.int .i64 b0_3)), (AV.sc (.int .i64 b0_4)), (AV.sc (.int .i64 b0_5)), (AV.sc (.int .i64 b0_6)), (AV.sc (.int .i64 b0_7)), (AV.sc (.int .i64 b0_8)), (AV.sc (.int .i64 b0_9)), (AV.sc (.int .i64 b0_10)), (AV.sc (.int .i64 b0_11)), (AV.sc (.int .i64 b0_12)), (AV.sc (.int .i64 b0_13)), (AV.sc (.int .i64 b0_14)), (AV.sc (.int .i64 b0_15))], 24⟩) :: m) [some (AV.sc (.bool false))]) else (
bif (!b24) then (
retL R ((0, some ⟨[(AV.sc (.int .i64 b0_0)), (AV.sc (.int .i64 b0_1)), (AV.sc (.int .i64 b0_2)), (AV.sc (.int .i64 b0_3)), (AV.sc (.int .i64 b0_4)), (AV.sc (.int .i64 b0_5)), (AV.sc (.int .i64 b0_6)), (AV.sc (.int .i64 b0_7)), (AV.sc (.int .i64 b0_8)), (AV.sc (.int .i64 b0_9)), (AV.sc (.int .i64 b0_10)), (AV.sc (.int .i64 b0_11)), (AV.sc (.int .i64 b0_12)), (AV.sc (.int .i64 b0_13)), (AV.sc (.int .i64 b0_14)), (AV.sc (.int .i64 b0_15))], 24⟩) :: m) [some (AV.sc (.bool false))]) else (
opP (lenS t1) fun v26 =>
ex_i64 v26 fun z27 =>
Tri Try.prog KK 96 0 (.loop c10_1) ⟨[(0, t0), (1, t1), (5, (AV.ptr 0 0)), (6, (AV.sc (.bool t6))), (7, t7), (9, t9), (30, t30), (31, (AV.sc (.int .i64 t31))), (32, (AV.sc (.int .i64 t32))), (33, (AV.sc (.bool (decide (t32 < t31))))), (54, (AV.agg [(AV.sc (.int .i64 b0_0)), (AV.sc (.int .i64 b0_1)), (AV.sc (.int .i64 b0_2)), (AV.sc (.int .i64 b0_3)), (AV.sc (.int .i64 b0_4)), (AV.sc (.int .i64 b0_5)), (AV.sc (.int .i64 b0_6)), (AV.sc (.int .i64 b0_7)), (AV.sc (.int .i64 b0_8)), (AV.sc (.int .i64 b0_9)), (AV.sc (.int .i64 b0_10)), (AV.sc (.int .i64 b0_11)), (AV.sc (.int .i64 b0_12)), (AV.sc (.int .i64 b0_13)), (AV.sc (.int .i64 b0_14)), (AV.sc (.int .i64 b0_15))])), (55, t9), (56, t7), (57, (AV.tup [(AV.sc (.bool b24)), (AV.sc (.int .i64 z25))])), (53, (AV.tup [(AV.sc (.bool b24)), (AV.sc (.int .i64 z25))])), (58, (AV.sc (.bool b24))), (59, (AV.sc (.int .i64 z25))), (12, (AV.sc (.bool b24))), (13, (AV.sc (.int .i64 z25))), (60, (AV.sc (.int .i64 z25))), (61, (AV.sc (.bool (z25 != (0))))), (62, (AV.sc (.bool false))), (63, (AV.sc (.bool b24))), (64, (AV.sc (.bool (!b24)))), (65, (AV.sc (.bool (!b24)))), (66, t1), (67, (AV.sc (.int .i64 z27))), (68, (AV.sc (.int .i64 (0))))], ((0, some ⟨[(AV.sc (.int .i64 b0_0)), (AV.sc (.int .i64 b0_1)), (AV.sc (.int .i64 b0_2)), (AV.sc (.int .i64 b0_3)), (AV.sc (.int .i64 b0_4)), (AV.sc (.int .i64 b0_5)), (AV.sc (.int .i64 b0_6)), (AV.sc (.int .i64 b0_7)), (AV.sc (.int .i64 b0_8)), (AV.sc (.int .i64 b0_9)), (AV.sc (.int .i64 b0_10)), (AV.sc (.int .i64 b0_11)), (AV.sc (.int .i64 b0_12)), (AV.sc (.int .i64 b0_13)), (AV.sc (.int .i64 b0_14)), (AV.sc (.int .i64 b0_15))], 24⟩) :: m), 100082⟩ (q10_1 R))))
theorem B10_0_eq (t0 : AV) (t1 : AV) (t6 : Bool) (t7 : AV) (t9 : AV) (t30 : AV) (t31 : Int) (t32 : Int) (b0_0 : Int) (b0_1 : Int) (b0_2 : Int) (b0_3 : Int) (b0_4 : Int) (b0_5 : Int) (b0_6 : Int) (b0_7 : Int) (b0_8 : Int) (b0_9 : Int) (b0_10 : Int) (b0_11 : Int) (b0_12 : Int) (b0_13 : Int) (b0_14 : Int) (b0_15 : Int) (m : Mem) (R : AV → Mem → Prop) (N0 : St → Prop) : W Try.prog KK 96 0 c10_0 (h10_0 t0 t1 t6 t7 t9 t30 t31 t32 b0_0 b0_1 b0_2 b0_3 b0_4 b0_5 b0_6 b0_7 b0_8 b0_9 b0_10 b0_11 b0_12 b0_13 b0_14 b0_15 m) (qq10_0 R N0) = B10_0 t0 t1 t6 t7 t9 t30 t31 t32 b0_0 b0_1 b0_2 b0_3 b0_4 b0_5 b0_6 b0_7 b0_8 b0_9 b0_10 b0_11 b0_12 b0_13 b0_14 b0_15 m R N0 := by kernel_rfl
theorem L10_0 (R : AV → Mem → Prop) {σ : Type} (I : σ → Prop) (t0 : σ → AV) (t1 : σ → AV) (t6 : σ → Bool) (t7 : σ → AV) (t9 : σ → AV) (t30 : σ → AV) (t31 : σ → Int) (t32 : σ → Int) (b0_0 : σ → Int) (b0_1 : σ → Int) (b0_2 : σ → Int) (b0_3 : σ → Int) (b0_4 : σ → Int) (b0_5 : σ → Int) (b0_6 : σ → Int) (b0_7 : σ → Int) (b0_8 : σ → Int) (b0_9 : σ → Int) (b0_10 : σ → Int) (b0_11 : σ → Int) (b0_12 : σ → Int) (b0_13 : σ → Int) (b0_14 : σ → Int) (b0_15 : σ → Int) (m : σ → Mem) (μ : σ → Nat) (step : ∀ x, I x → B10_0 (t0 x) (t1 x) (t6 x) (t7 x) (t9 x) (t30 x) (t31 x) (t32 x) (b0_0 x) (b0_1 x) (b0_2 x) (b0_3 x) (b0_4 x) (b0_5 x) (b0_6 x) (b0_7 x) (b0_8 x) (b0_9 x) (b0_10 x) (b0_11 x) (b0_12 x) (b0_13 x) (b0_14 x) (b0_15 x) (m x) R (fun s' => ∃ y, I y ∧ μ y < μ x ∧ Weak KK 96 0 s' (h10_0 (t0 y) (t1 y) (t6 y) (t7 y) (t9 y) (t30 y) (t31 y) (t32 y) (b0_0 y) (b0_1 y) (b0_2 y) (b0_3 y) (b0_4 y) (b0_5 y) (b0_6 y) (b0_7 y) (b0_8 y) (b0_9 y) (b0_10 y) (b0_11 y) (b0_12 y) (b0_13 y) (b0_14 y) (b0_15 y) (m y)))) (x : σ) (hx : I x) {s : St} (hw : Weak KK 96 0 s (h10_0 (t0 x) (t1 x) (t6 x) (t7 x) (t9 x) (t30 x) (t31 x) (t32 x) (b0_0 x) (b0_1 x) (b0_2 x) (b0_3 x) (b0_4 x) (b0_5 x) (b0_6 x) (b0_7 x) (b0_8 x) (b0_9 x) (b0_10 x) (b0_11 x) (b0_12 x) (b0_13 x) (b0_14 x) (b0_15 x) (m x))) : Tri Try.prog KK 96 0 (.loop c10_0) s (q10_0 R) :=
  Tri.weak hw (Tri.loops fol I (fun x => h10_0 (t0 x) (t1 x) (t6 x) (t7 x) (t9 x) (t30 x) (t31 x) (t32 x) (b0_0 x) (b0_1 x) (b0_2 x) (b0_3 x) (b0_4 x) (b0_5 x) (b0_6 x) (b0_7 x) (b0_8 x) (b0_9 x) (b0_10 x) (b0_11 x) (b0_12 x) (b0_13 x) (b0_14 x) (b0_15 x) (m x)) μ (fun x hx => (B10_0_eq (t0 x) (t1 x) (t6 x) (t7 x) (t9 x) (t30 x) (t31 x) (t32 x) (b0_0 x) (b0_1 x) (b0_2 x) (b0_3 x) (b0_4 x) (b0_5 x) (b0_6 x) (b0_7 x) (b0_8 x) (b0_9 x) (b0_10 x) (b0_11 x) (b0_12 x) (b0_13 x) (b0_14 x) (b0_15 x) (m x) R _).mpr (step x hx)) x hx)
noncomputable def B10_1 (t0 : AV) (t6 : Bool) (t7 : AV) (t66 : AV) (t67 : Int) (t68 : Int) (m : Mem) (R : AV → Mem → Prop) (N0 : St → Prop) : Prop :=
bif (decide (t68 < t67)) then (
opP (idxS 1 t66 (AV.sc (.int .i64 t68))) fun v28 =>
opP (ldS (mget m) v28) fun v29 =>
ex_i64 v29 fun z30 =>
opP (idxS 1 t7 (AV.sc (.int .i64 t68))) fun v31 =>
opP (ldS (mget m) v31) fun v32 =>
ex_i64 v32 fun z33 =>
opP (idxS 4 t0 (AV.sc (.int .i64 z30))) fun v34 =>
opP (fldO 2 v34) fun v35 =>
opP (ldS (mget m) v35) fun v36 =>
ex_i64 v36 fun z37 =>
bif (decide (z33 < z37)) then (
retL R m [some (AV.sc (.bool false))]) else (
opP (idxS 1 t7 (AV.sc (.int .i64 t68))) fun v38 =>
opP (ldS (mget m) v38) fun v39 =>
ex_i64 v39 fun z40 =>
opP (idxS 4 t0 (AV.sc (.int .i64 z30))) fun v41 =>
opP (fldO 3 v41) fun v42 =>
opP (ldS (mget m) v42) fun v43 =>
ex_i64 v43 fun z44 =>
bif (decide (z40 > z44)) then (
retL R m [some (AV.sc (.bool false))]) else (
N0 ⟨[(0, t0), (6, (AV.sc (.bool t6))), (7, t7), (66, t66), (67, (AV.sc (.int .i64 t67))), (68, (AV.sc (.int .i64 (IntKind.wrap .i64 (t68 + (1)))))), (69, (AV.sc (.bool (decide (t68 < t67))))), (70, (AV.sc (.int .i64 t68))), (71, v28), (72, (AV.sc (.int .i64 z30))), (14, (AV.sc (.int .i64 t68))), (15, (AV.sc (.int .i64 z30))), (73, t7), (74, (AV.sc (.int .i64 t68))), (75, v31), (76, (AV.sc (.int .i64 z33))), (77, t0), (78, (AV.sc (.int .i64 z30))), (79, v34), (80, v35), (81, (AV.sc (.int .i64 z37))), (82, (AV.sc (.bool (decide (z33 < z37))))), (83, (AV.sc (.bool false))), (84, t7), (85, (AV.sc (.int .i64 t68))), (86, v38), (87, (AV.sc (.int .i64 z40))), (88, t0), (89, (AV.sc (.int .i64 z30))), (90, v41), (91, v42), (92, (AV.sc (.int .i64 z44))), (93, (AV.sc (.bool (decide (z40 > z44))))), (94, (AV.sc (.bool (decide (z40 > z44))))), (95, (AV.sc (.int .i64 (IntKind.wrap .i64 (t68 + (1))))))], m, 200030⟩))) else (
retL R m [some (AV.sc (.bool true))])
theorem B10_1_eq (t0 : AV) (t6 : Bool) (t7 : AV) (t66 : AV) (t67 : Int) (t68 : Int) (m : Mem) (R : AV → Mem → Prop) (N0 : St → Prop) : W Try.prog KK 96 0 c10_1 (h10_1 t0 t6 t7 t66 t67 t68 m) (qq10_1 R N0) = B10_1 t0 t6 t7 t66 t67 t68 m R N0 := by kernel_rfl
theorem L10_1 (R : AV → Mem → Prop) {σ : Type} (I : σ → Prop) (t0 : σ → AV) (t6 : σ → Bool) (t7 : σ → AV) (t66 : σ → AV) (t67 : σ → Int) (t68 : σ → Int) (m : σ → Mem) (μ : σ → Nat) (step : ∀ x, I x → B10_1 (t0 x) (t6 x) (t7 x) (t66 x) (t67 x) (t68 x) (m x) R (fun s' => ∃ y, I y ∧ μ y < μ x ∧ Weak KK 96 0 s' (h10_1 (t0 y) (t6 y) (t7 y) (t66 y) (t67 y) (t68 y) (m y)))) (x : σ) (hx : I x) {s : St} (hw : Weak KK 96 0 s (h10_1 (t0 x) (t6 x) (t7 x) (t66 x) (t67 x) (t68 x) (m x))) : Tri Try.prog KK 96 0 (.loop c10_1) s (q10_1 R) :=
  Tri.weak hw (Tri.loops fol I (fun x => h10_1 (t0 x) (t6 x) (t7 x) (t66 x) (t67 x) (t68 x) (m x)) μ (fun x hx => (B10_1_eq (t0 x) (t6 x) (t7 x) (t66 x) (t67 x) (t68 x) (m x) R _).mpr (step x hx)) x hx)
noncomputable def F10 (a0 : AV) (a1 : AV) (a2_0 : Int) (a2_1 : Int) (a2_2 : Int) (a2_3 : Int) (a2_4 : Int) (a2_5 : Int) (a2_6 : Int) (a2_7 : Int) (a2_8 : Int) (a2_9 : Int) (a2_10 : Int) (a2_11 : Int) (a2_12 : Int) (a2_13 : Int) (a2_14 : Int) (a2_15 : Int) (R : AV → Mem → Prop) : Prop :=
callQ Try.prog KK.gl ((0, some ⟨[(AV.sc (.int .i64 a2_0)), (AV.sc (.int .i64 a2_1)), (AV.sc (.int .i64 a2_2)), (AV.sc (.int .i64 a2_3)), (AV.sc (.int .i64 a2_4)), (AV.sc (.int .i64 a2_5)), (AV.sc (.int .i64 a2_6)), (AV.sc (.int .i64 a2_7)), (AV.sc (.int .i64 a2_8)), (AV.sc (.int .i64 a2_9)), (AV.sc (.int .i64 a2_10)), (AV.sc (.int .i64 a2_11)), (AV.sc (.int .i64 a2_12)), (AV.sc (.int .i64 a2_13)), (AV.sc (.int .i64 a2_14)), (AV.sc (.int .i64 a2_15))], 24⟩) :: []) 28 [] fun v0 =>
exB v0 fun b1 =>
bif (!b1) then (
retL R ((0, some ⟨[(AV.sc (.int .i64 a2_0)), (AV.sc (.int .i64 a2_1)), (AV.sc (.int .i64 a2_2)), (AV.sc (.int .i64 a2_3)), (AV.sc (.int .i64 a2_4)), (AV.sc (.int .i64 a2_5)), (AV.sc (.int .i64 a2_6)), (AV.sc (.int .i64 a2_7)), (AV.sc (.int .i64 a2_8)), (AV.sc (.int .i64 a2_9)), (AV.sc (.int .i64 a2_10)), (AV.sc (.int .i64 a2_11)), (AV.sc (.int .i64 a2_12)), (AV.sc (.int .i64 a2_13)), (AV.sc (.int .i64 a2_14)), (AV.sc (.int .i64 a2_15))], 24⟩) :: []) [some (AV.sc (.bool false))]) else (
callQ Try.prog KK.gl ((0, some ⟨[(AV.sc (.int .i64 a2_0)), (AV.sc (.int .i64 a2_1)), (AV.sc (.int .i64 a2_2)), (AV.sc (.int .i64 a2_3)), (AV.sc (.int .i64 a2_4)), (AV.sc (.int .i64 a2_5)), (AV.sc (.int .i64 a2_6)), (AV.sc (.int .i64 a2_7)), (AV.sc (.int .i64 a2_8)), (AV.sc (.int .i64 a2_9)), (AV.sc (.int .i64 a2_10)), (AV.sc (.int .i64 a2_11)), (AV.sc (.int .i64 a2_12)), (AV.sc (.int .i64 a2_13)), (AV.sc (.int .i64 a2_14)), (AV.sc (.int .i64 a2_15))], 24⟩) :: []) 32 [a0, a1, (AV.agg [(AV.sc (.int .i64 a2_0)), (AV.sc (.int .i64 a2_1)), (AV.sc (.int .i64 a2_2)), (AV.sc (.int .i64 a2_3)), (AV.sc (.int .i64 a2_4)), (AV.sc (.int .i64 a2_5)), (AV.sc (.int .i64 a2_6)), (AV.sc (.int .i64 a2_7)), (AV.sc (.int .i64 a2_8)), (AV.sc (.int .i64 a2_9)), (AV.sc (.int .i64 a2_10)), (AV.sc (.int .i64 a2_11)), (AV.sc (.int .i64 a2_12)), (AV.sc (.int .i64 a2_13)), (AV.sc (.int .i64 a2_14)), (AV.sc (.int .i64 a2_15))])] fun v2 =>
exT2 v2 fun c3 c4 =>
ex_i64 c4 fun z5 =>
bif (z5 != (0)) then (
opP (lenS c3) fun v6 =>
ex_i64 v6 fun z7 =>
retL R ((0, some ⟨[(AV.sc (.int .i64 a2_0)), (AV.sc (.int .i64 a2_1)), (AV.sc (.int .i64 a2_2)), (AV.sc (.int .i64 a2_3)), (AV.sc (.int .i64 a2_4)), (AV.sc (.int .i64 a2_5)), (AV.sc (.int .i64 a2_6)), (AV.sc (.int .i64 a2_7)), (AV.sc (.int .i64 a2_8)), (AV.sc (.int .i64 a2_9)), (AV.sc (.int .i64 a2_10)), (AV.sc (.int .i64 a2_11)), (AV.sc (.int .i64 a2_12)), (AV.sc (.int .i64 a2_13)), (AV.sc (.int .i64 a2_14)), (AV.sc (.int .i64 a2_15))], 24⟩) :: []) [some (AV.sc (.bool (z7 == (0))))]) else (
opP (lenS a1) fun v8 =>
ex_i64 v8 fun z9 =>
Tri Try.prog KK 96 0 (.loop c10_0) ⟨[(0, a0), (1, a1), (2, (AV.agg [(AV.sc (.int .i64 a2_0)), (AV.sc (.int .i64 a2_1)), (AV.sc (.int .i64 a2_2)), (AV.sc (.int .i64 a2_3)), (AV.sc (.int .i64 a2_4)), (AV.sc (.int .i64 a2_5)), (AV.sc (.int .i64 a2_6)), (AV.sc (.int .i64 a2_7)), (AV.sc (.int .i64 a2_8)), (AV.sc (.int .i64 a2_9)), (AV.sc (.int .i64 a2_10)), (AV.sc (.int .i64 a2_11)), (AV.sc (.int .i64 a2_12)), (AV.sc (.int .i64 a2_13)), (AV.sc (.int .i64 a2_14)), (AV.sc (.int .i64 a2_15))])), (5, (AV.ptr 0 0)), (6, (AV.sc (.bool false))), (16, (AV.sc (.bool b1))), (17, (AV.sc (.bool (!b1)))), (19, a0), (20, a1), (21, (AV.agg [(AV.sc (.int .i64 a2_0)), (AV.sc (.int .i64 a2_1)), (AV.sc (.int .i64 a2_2)), (AV.sc (.int .i64 a2_3)), (AV.sc (.int .i64 a2_4)), (AV.sc (.int .i64 a2_5)), (AV.sc (.int .i64 a2_6)), (AV.sc (.int .i64 a2_7)), (AV.sc (.int .i64 a2_8)), (AV.sc (.int .i64 a2_9)), (AV.sc (.int .i64 a2_10)), (AV.sc (.int .i64 a2_11)), (AV.sc (.int .i64 a2_12)), (AV.sc (.int .i64 a2_13)), (AV.sc (.int .i64 a2_14)), (AV.sc (.int .i64 a2_15))])), (22, (AV.tup [c3, (AV.sc (.int .i64 z5))])), (18, (AV.tup [c3, (AV.sc (.int .i64 z5))])), (23, c3), (24, (AV.sc (.int .i64 z5))), (7, c3), (8, (AV.sc (.int .i64 z5))), (25, (AV.sc (.int .i64 z5))), (26, (AV.sc (.bool (z5 != (0))))), (9, AV.nils), (30, a1), (31, (AV.sc (.int .i64 z9))), (32, (AV.sc (.int .i64 (0))))], ((0, some ⟨[(AV.sc (.int .i64 a2_0)), (AV.sc (.int .i64 a2_1)), (AV.sc (.int .i64 a2_2)), (AV.sc (.int .i64 a2_3)), (AV.sc (.int .i64 a2_4)), (AV.sc (.int .i64 a2_5)), (AV.sc (.int .i64 a2_6)), (AV.sc (.int .i64 a2_7)), (AV.sc (.int .i64 a2_8)), (AV.sc (.int .i64 a2_9)), (AV.sc (.int .i64 a2_10)), (AV.sc (.int .i64 a2_11)), (AV.sc (.int .i64 a2_12)), (AV.sc (.int .i64 a2_13)), (AV.sc (.int .i64 a2_14)), (AV.sc (.int .i64 a2_15))], 24⟩) :: []), 145⟩ (q10_0 R)))
theorem F10_own (a0 : AV) (a1 : AV) (a2_0 : Int) (a2_1 : Int) (a2_2 : Int) (a2_3 : Int) (a2_4 : Int) (a2_5 : Int) (a2_6 : Int) (a2_7 : Int) (a2_8 : Int) (a2_9 : Int) (a2_10 : Int) (a2_11 : Int) (a2_12 : Int) (a2_13 : Int) (a2_14 : Int) (a2_15 : Int) (R : AV → Mem → Prop) (h : F10 a0 a1 a2_0 a2_1 a2_2 a2_3 a2_4 a2_5 a2_6 a2_7 a2_8 a2_9 a2_10 a2_11 a2_12 a2_13 a2_14 a2_15 R) : Own Try.prog KK.gl 10 [a0, a1, (AV.agg [(AV.sc (.int .i64 a2_0)), (AV.sc (.int .i64 a2_1)), (AV.sc (.int .i64 a2_2)), (AV.sc (.int .i64 a2_3)), (AV.sc (.int .i64 a2_4)), (AV.sc (.int .i64 a2_5)), (AV.sc (.int .i64 a2_6)), (AV.sc (.int .i64 a2_7)), (AV.sc (.int .i64 a2_8)), (AV.sc (.int .i64 a2_9)), (AV.sc (.int .i64 a2_10)), (AV.sc (.int .i64 a2_11)), (AV.sc (.int .i64 a2_12)), (AV.sc (.int .i64 a2_13)), (AV.sc (.int .i64 a2_14)), (AV.sc (.int .i64 a2_15))])] R := own_of_F fol Try.func10 (code := c10) (by kernel_rfl) (by kernel_rfl) (by kernel_rfl) (X := F10 a0 a1 a2_0 a2_1 a2_2 a2_3 a2_4 a2_5 a2_6 a2_7 a2_8 a2_9 a2_10 a2_11 a2_12 a2_13 a2_14 a2_15 R) (by kernel_rfl) h
/- slices.Clone[[]skyway/api.RunwayMove,skyway/api.RunwayMove] -/
noncomputable def c23 : Code := ((Try.f23).body).getD .skip
noncomputable def q23 (R : AV → Mem → Prop) : AExit → St → Prop := retQ Try.prog Try.f23 R
noncomputable def F23 (a0 : AV) (R : AV → Mem → Prop) : Prop :=
nilK a0 fun b0 =>
bif b0 then (
retL R [] [some AV.nils]) else (
opN (bsl 3 52 4 0 [(AV.sc (.int .i64 (0))), (AV.sc (.int .i64 (0))), (AV.sc (.bool false)), (AV.sc (.int .i64 (0)))] []) [] fun v2 m2 =>
opN (app (mget m2) 52 4 32 [(AV.sc (.int .i64 (0))), (AV.sc (.int .i64 (0))), (AV.sc (.bool false)), (AV.sc (.int .i64 (0)))] 5 v2 a0) m2 fun v3 m3 =>
retL R m3 [some v3])
theorem F23_own (a0 : AV) (R : AV → Mem → Prop) (h : F23 a0 R) : Own Try.prog KK.gl 23 [a0] R := own_of_F fol Try.func23 (code := c23) (by kernel_rfl) (by kernel_rfl) (by kernel_rfl) (X := F23 a0 R) (by kernel_rfl) h
/- slices.Clone[[]skyway/api.RunwaySpan,skyway/api.RunwaySpan] -/
noncomputable def c43 : Code := ((Try.f43).body).getD .skip
noncomputable def q43 (R : AV → Mem → Prop) : AExit → St → Prop := retQ Try.prog Try.f43 R
noncomputable def F43 (a0 : AV) (R : AV → Mem → Prop) : Prop :=
nilK a0 fun b0 =>
bif b0 then (
retL R [] [some AV.nils]) else (
opN (bsl 3 45 2 0 [(AV.sc (.int .i64 (0))), (AV.sc (.int .i64 (0)))] []) [] fun v2 m2 =>
opN (app (mget m2) 45 2 16 [(AV.sc (.int .i64 (0))), (AV.sc (.int .i64 (0)))] 5 v2 a0) m2 fun v3 m3 =>
retL R m3 [some v3])
theorem F43_own (a0 : AV) (R : AV → Mem → Prop) (h : F43 a0 R) : Own Try.prog KK.gl 43 [a0] R := own_of_F fol Try.func43 (code := c43) (by kernel_rfl) (by kernel_rfl) (by kernel_rfl) (X := F43 a0 R) (by kernel_rfl) h
end Go.Proofs.Ytfmodgffhbljoaa
