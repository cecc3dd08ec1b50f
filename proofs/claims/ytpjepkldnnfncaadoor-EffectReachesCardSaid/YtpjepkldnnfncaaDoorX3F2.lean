/- Functions of the program as conditions on their answers; printed by wip/Gen.lean.txt. -/
import Derived.Test.YtpjepkldnnfncaaDoorX3T
set_option linter.unusedVariables false
set_option maxRecDepth 100000
set_option maxHeartbeats 4000000
namespace Go.Proofs.YtpjepkldnnfncaaDoor
/- skyway/skywaykeep3.EffectReaches -/
noncomputable def c4 : Code := ((Tryd.f4).body).getD .skip
noncomputable def q4 (R : AV → Mem → Prop) : AExit → St → Prop := retQ Tryd.prog Tryd.f4 R
noncomputable def c4_0 : Code := loopB c4 0
noncomputable def q4_0 (R : AV → Mem → Prop) : AExit → St → Prop := contW Tryd.prog KK 150 0 c4 0 (q4 R)
noncomputable def qq4_0 (R : AV → Mem → Prop) (N0 : St → Prop) : AExit → St → Prop := thenQ N0 (q4_0 R)
def h4_0 (t2 : Int) (t3 : Int) (t10 : Bool) (t11 : AV) (t14 : Int) (t15 : Int) (b281_0 : Int) (b281_1 : Int) (b281_2 : Int) (b281_3 : Int) (b281_4 : Int) (b281_5 : Int) (m : Mem) : St := ⟨[(2, (intA t2)), (3, (intA t3)), (9, (AV.ptr 0 0)), (10, (boolA t10)), (11, t11), (13, (AV.ptr 281 0)), (14, (intA t14)), (15, (intA t15))], ((281, some ⟨[(intA b281_0), (intA b281_1), (intA b281_2), (intA b281_3), (intA b281_4), (intA b281_5)], 40⟩) :: m), 100000⟩
noncomputable def B4_0 (t2 : Int) (t3 : Int) (t10 : Bool) (t11 : AV) (t14 : Int) (t15 : Int) (b281_0 : Int) (b281_1 : Int) (b281_2 : Int) (b281_3 : Int) (b281_4 : Int) (b281_5 : Int) (m : Mem) (R : AV → Mem → Prop) (N0 : St → Prop) : Prop :=
opP (lenS t11) fun v66 =>
ex_i64 v66 fun z67 =>
opP (idxS 6 t11 (intA (IntKind.wrap .i64 (z67 - (1))))) fun v68 =>
opP (fldO 0 v68) fun v69 =>
opP (fldO 0 v69) fun v70 =>
opP (ldS (mget ((281, some ⟨[(intA b281_0), (intA b281_1), (intA b281_2), (intA b281_3), (intA b281_4), (intA b281_5)], 40⟩) :: m)) v70) fun v71 =>
ex_i64 v71 fun z72 =>
bif (decide (t15 ≤ z72)) then (
callQ Tryd.prog KK.gl ((281, some ⟨[(intA b281_0), (intA b281_1), (intA b281_2), (intA b281_3), (intA b281_4), (intA b281_5)], 40⟩) :: m) 13 [t11, (intA t15)] fun v73 =>
exT2 v73 fun c74 c75 =>
exA6 c74 fun c76 c77 c78 c79 c80 c81 =>
ex_i64 c76 fun z82 =>
ex_i64 c77 fun z83 =>
ex_i64 c78 fun z84 =>
ex_i64 c79 fun z85 =>
ex_i64 c80 fun z86 =>
ex_i64 c81 fun z87 =>
ex_i64 c75 fun z88 =>
bif (z88 != (0)) then (
retL R ((100079, some ⟨[(intA z82), (intA z83), (intA z84), (intA z85), (intA z86), (intA z87)], 40⟩) :: (100079, some ⟨[(intA (0)), (intA (0)), (intA (0)), (intA (0)), (intA (0)), (intA (0))], 40⟩) :: (281, some ⟨[(intA b281_0), (intA b281_1), (intA b281_2), (intA b281_3), (intA b281_4), (intA b281_5)], 40⟩) :: m) [some (boolA false)]) else (
opP (opA Tryd.prog (.call ⟨.builtin .min, #[.tmp 0, .tmp 1], #[3, 3]⟩) 3 [(intA b281_3), (intA t2)] (mget ((100079, some ⟨[(intA z82), (intA z83), (intA z84), (intA z85), (intA z86), (intA z87)], 40⟩) :: (100079, some ⟨[(intA (0)), (intA (0)), (intA (0)), (intA (0)), (intA (0)), (intA (0))], 40⟩) :: (281, some ⟨[(intA b281_0), (intA b281_1), (intA b281_2), (intA b281_3), (intA b281_4), (intA b281_5)], 40⟩) :: m)) 100092) fun v89 =>
ex_i64 v89 fun z90 =>
bif (decide (z85 < z90)) then (
retL R ((100079, some ⟨[(intA z82), (intA z83), (intA z84), (intA z85), (intA z86), (intA z87)], 40⟩) :: (100079, some ⟨[(intA (0)), (intA (0)), (intA (0)), (intA (0)), (intA (0)), (intA (0))], 40⟩) :: (281, some ⟨[(intA b281_0), (intA b281_1), (intA b281_2), (intA b281_3), (intA b281_4), (intA b281_5)], 40⟩) :: m) [some (boolA false)]) else (
opP (opA Tryd.prog (.call ⟨.builtin .max, #[.tmp 0, .tmp 1], #[3, 3]⟩) 3 [(intA b281_3), (intA t2)] (mget ((100079, some ⟨[(intA z82), (intA z83), (intA z84), (intA z85), (intA z86), (intA z87)], 40⟩) :: (100079, some ⟨[(intA (0)), (intA (0)), (intA (0)), (intA (0)), (intA (0)), (intA (0))], 40⟩) :: (281, some ⟨[(intA b281_0), (intA b281_1), (intA b281_2), (intA b281_3), (intA b281_4), (intA b281_5)], 40⟩) :: m)) 100103) fun v91 =>
ex_i64 v91 fun z92 =>
bif (decide (z85 > z92)) then (
retL R ((100079, some ⟨[(intA z82), (intA z83), (intA z84), (intA z85), (intA z86), (intA z87)], 40⟩) :: (100079, some ⟨[(intA (0)), (intA (0)), (intA (0)), (intA (0)), (intA (0)), (intA (0))], 40⟩) :: (281, some ⟨[(intA b281_0), (intA b281_1), (intA b281_2), (intA b281_3), (intA b281_4), (intA b281_5)], 40⟩) :: m) [some (boolA false)]) else (
bif (decide (t15 ≥ (IntKind.wrap .i64 (t3 + t14)))) then (
bif (z85 != t2) then (
retL R ((100079, some ⟨[(intA z82), (intA z83), (intA z84), (intA z85), (intA z86), (intA z87)], 40⟩) :: (100079, some ⟨[(intA (0)), (intA (0)), (intA (0)), (intA (0)), (intA (0)), (intA (0))], 40⟩) :: (281, some ⟨[(intA b281_0), (intA b281_1), (intA b281_2), (intA b281_3), (intA b281_4), (intA b281_5)], 40⟩) :: m) [some (boolA false)]) else (
opP (ldS (mget ((100079, some ⟨[(intA z82), (intA z83), (intA z84), (intA z85), (intA z86), (intA z87)], 40⟩) :: (100079, some ⟨[(intA (0)), (intA (0)), (intA (0)), (intA (0)), (intA (0)), (intA (0))], 40⟩) :: (281, some ⟨[(intA b281_0), (intA b281_1), (intA b281_2), (intA b281_3), (intA b281_4), (intA b281_5)], 40⟩) :: m)) (AV.ptr 0 3)) fun v93 =>
ex_i64 v93 fun z94 =>
bif (decide ((IntKind.wrap .i64 (z85 - b281_3)) > (IntKind.wrap .i64 (z94 * (IntKind.wrap .i64 (t15 - t3)))))) then (
retL R ((100079, some ⟨[(intA z82), (intA z83), (intA z84), (intA z85), (intA z86), (intA z87)], 40⟩) :: (100079, some ⟨[(intA (0)), (intA (0)), (intA (0)), (intA (0)), (intA (0)), (intA (0))], 40⟩) :: (281, some ⟨[(intA b281_0), (intA b281_1), (intA b281_2), (intA b281_3), (intA b281_4), (intA b281_5)], 40⟩) :: m) [some (boolA false)]) else (
opP (opA Tryd.prog (.unOp .neg 3 (.tmp 0)) 3 [(intA (IntKind.wrap .i64 (z85 - b281_3)))] (mget ((100079, some ⟨[(intA z82), (intA z83), (intA z84), (intA z85), (intA z86), (intA z87)], 40⟩) :: (100079, some ⟨[(intA (0)), (intA (0)), (intA (0)), (intA (0)), (intA (0)), (intA (0))], 40⟩) :: (281, some ⟨[(intA b281_0), (intA b281_1), (intA b281_2), (intA b281_3), (intA b281_4), (intA b281_5)], 40⟩) :: m)) 100138) fun v95 =>
ex_i64 v95 fun z96 =>
opP (ldS (mget ((100079, some ⟨[(intA z82), (intA z83), (intA z84), (intA z85), (intA z86), (intA z87)], 40⟩) :: (100079, some ⟨[(intA (0)), (intA (0)), (intA (0)), (intA (0)), (intA (0)), (intA (0))], 40⟩) :: (281, some ⟨[(intA b281_0), (intA b281_1), (intA b281_2), (intA b281_3), (intA b281_4), (intA b281_5)], 40⟩) :: m)) (AV.ptr 0 4)) fun v97 =>
ex_i64 v97 fun z98 =>
bif (decide (z96 > (IntKind.wrap .i64 ((IntKind.wrap .i64 (z98 * (IntKind.wrap .i64 (t15 - t3)))) + (2))))) then (
retL R ((100079, some ⟨[(intA z82), (intA z83), (intA z84), (intA z85), (intA z86), (intA z87)], 40⟩) :: (100079, some ⟨[(intA (0)), (intA (0)), (intA (0)), (intA (0)), (intA (0)), (intA (0))], 40⟩) :: (281, some ⟨[(intA b281_0), (intA b281_1), (intA b281_2), (intA b281_3), (intA b281_4), (intA b281_5)], 40⟩) :: m) [some (boolA false)]) else (
N0 ⟨[(2, (intA t2)), (3, (intA t3)), (9, (AV.ptr 0 0)), (10, (boolA t10)), (11, t11), (13, (AV.ptr 281 0)), (14, (intA t14)), (15, (intA (IntKind.wrap .i64 (t15 + (1))))), (67, (intA t15)), (68, t11), (69, t11), (70, (intA z67)), (71, (intA (IntKind.wrap .i64 (z67 - (1))))), (72, v68), (73, v69), (74, v70), (75, (intA z72)), (76, (boolA (decide (t15 ≤ z72)))), (80, t11), (81, (intA t15)), (82, (AV.tup [(AV.agg [(intA z82), (intA z83), (intA z84), (intA z85), (intA z86), (intA z87)]), (intA z88)])), (79, (AV.tup [(AV.agg [(intA z82), (intA z83), (intA z84), (intA z85), (intA z86), (intA z87)]), (intA z88)])), (83, (AV.agg [(intA z82), (intA z83), (intA z84), (intA z85), (intA z86), (intA z87)])), (84, (intA z88)), (16, (AV.ptr 100079 0)), (17, (intA z88)), (85, (intA z88)), (86, (boolA (z88 != (0)))), (87, (boolA false)), (88, (AV.ptr 100079 0)), (89, (AV.ptr 100079 3)), (90, (intA z85)), (91, (AV.ptr 281 0)), (92, (AV.ptr 281 3)), (93, (intA b281_3)), (94, (intA t2)), (95, (intA z90)), (96, (boolA (decide (z85 < z90)))), (97, (boolA (decide (z85 < z90)))), (98, (boolA false)), (99, (AV.ptr 100079 0)), (100, (AV.ptr 100079 3)), (101, (intA z85)), (102, (AV.ptr 281 0)), (103, (AV.ptr 281 3)), (104, (intA b281_3)), (105, (intA t2)), (106, (intA z92)), (107, (boolA (decide (z85 > z92)))), (108, (boolA (decide (z85 > z92)))), (109, (boolA false)), (110, (intA t15)), (111, (intA t3)), (112, (intA t14)), (113, (intA (IntKind.wrap .i64 (t3 + t14)))), (114, (boolA (decide (t15 ≥ (IntKind.wrap .i64 (t3 + t14)))))), (115, (boolA true)), (116, (AV.ptr 100079 0)), (117, (AV.ptr 100079 3)), (118, (intA z85)), (119, (intA t2)), (120, (boolA (z85 != t2))), (121, (boolA (z85 != t2))), (122, (boolA (z85 != t2))), (123, (AV.ptr 100079 0)), (124, (AV.ptr 100079 3)), (125, (intA z85)), (126, (AV.ptr 281 0)), (127, (AV.ptr 281 3)), (128, (intA b281_3)), (129, (intA (IntKind.wrap .i64 (z85 - b281_3)))), (18, (intA (IntKind.wrap .i64 (z85 - b281_3)))), (130, (intA (IntKind.wrap .i64 (z85 - b281_3)))), (131, (AV.ptr 0 3)), (132, (intA z94)), (133, (intA t15)), (134, (intA t3)), (135, (intA (IntKind.wrap .i64 (t15 - t3)))), (136, (intA (IntKind.wrap .i64 (z94 * (IntKind.wrap .i64 (t15 - t3)))))), (137, (boolA (decide ((IntKind.wrap .i64 (z85 - b281_3)) > (IntKind.wrap .i64 (z94 * (IntKind.wrap .i64 (t15 - t3)))))))), (138, (boolA false)), (139, (intA (IntKind.wrap .i64 (z85 - b281_3)))), (140, (intA z96)), (141, (AV.ptr 0 4)), (142, (intA z98)), (143, (intA t15)), (144, (intA t3)), (145, (intA (IntKind.wrap .i64 (t15 - t3)))), (146, (intA (IntKind.wrap .i64 (z98 * (IntKind.wrap .i64 (t15 - t3)))))), (147, (intA (IntKind.wrap .i64 ((IntKind.wrap .i64 (z98 * (IntKind.wrap .i64 (t15 - t3)))) + (2))))), (148, (boolA (decide (z96 > (IntKind.wrap .i64 ((IntKind.wrap .i64 (z98 * (IntKind.wrap .i64 (t15 - t3)))) + (2))))))), (149, (boolA (decide (z96 > (IntKind.wrap .i64 ((IntKind.wrap .i64 (z98 * (IntKind.wrap .i64 (t15 - t3)))) + (2))))))), (77, (intA t15)), (78, (intA (IntKind.wrap .i64 (t15 + (1)))))], ((100079, some ⟨[(intA z82), (intA z83), (intA z84), (intA z85), (intA z86), (intA z87)], 40⟩) :: (100079, some ⟨[(intA (0)), (intA (0)), (intA (0)), (intA (0)), (intA (0)), (intA (0))], 40⟩) :: (281, some ⟨[(intA b281_0), (intA b281_1), (intA b281_2), (intA b281_3), (intA b281_4), (intA b281_5)], 40⟩) :: m), 100151⟩)))) else (
opP (ldS (mget ((100079, some ⟨[(intA z82), (intA z83), (intA z84), (intA z85), (intA z86), (intA z87)], 40⟩) :: (100079, some ⟨[(intA (0)), (intA (0)), (intA (0)), (intA (0)), (intA (0)), (intA (0))], 40⟩) :: (281, some ⟨[(intA b281_0), (intA b281_1), (intA b281_2), (intA b281_3), (intA b281_4), (intA b281_5)], 40⟩) :: m)) (AV.ptr 0 3)) fun v99 =>
ex_i64 v99 fun z100 =>
bif (decide ((IntKind.wrap .i64 (z85 - b281_3)) > (IntKind.wrap .i64 (z100 * (IntKind.wrap .i64 (t15 - t3)))))) then (
retL R ((100079, some ⟨[(intA z82), (intA z83), (intA z84), (intA z85), (intA z86), (intA z87)], 40⟩) :: (100079, some ⟨[(intA (0)), (intA (0)), (intA (0)), (intA (0)), (intA (0)), (intA (0))], 40⟩) :: (281, some ⟨[(intA b281_0), (intA b281_1), (intA b281_2), (intA b281_3), (intA b281_4), (intA b281_5)], 40⟩) :: m) [some (boolA false)]) else (
opP (opA Tryd.prog (.unOp .neg 3 (.tmp 0)) 3 [(intA (IntKind.wrap .i64 (z85 - b281_3)))] (mget ((100079, some ⟨[(intA z82), (intA z83), (intA z84), (intA z85), (intA z86), (intA z87)], 40⟩) :: (100079, some ⟨[(intA (0)), (intA (0)), (intA (0)), (intA (0)), (intA (0)), (intA (0))], 40⟩) :: (281, some ⟨[(intA b281_0), (intA b281_1), (intA b281_2), (intA b281_3), (intA b281_4), (intA b281_5)], 40⟩) :: m)) 100133) fun v101 =>
ex_i64 v101 fun z102 =>
opP (ldS (mget ((100079, some ⟨[(intA z82), (intA z83), (intA z84), (intA z85), (intA z86), (intA z87)], 40⟩) :: (100079, some ⟨[(intA (0)), (intA (0)), (intA (0)), (intA (0)), (intA (0)), (intA (0))], 40⟩) :: (281, some ⟨[(intA b281_0), (intA b281_1), (intA b281_2), (intA b281_3), (intA b281_4), (intA b281_5)], 40⟩) :: m)) (AV.ptr 0 4)) fun v103 =>
ex_i64 v103 fun z104 =>
bif (decide (z102 > (IntKind.wrap .i64 ((IntKind.wrap .i64 (z104 * (IntKind.wrap .i64 (t15 - t3)))) + (2))))) then (
retL R ((100079, some ⟨[(intA z82), (intA z83), (intA z84), (intA z85), (intA z86), (intA z87)], 40⟩) :: (100079, some ⟨[(intA (0)), (intA (0)), (intA (0)), (intA (0)), (intA (0)), (intA (0))], 40⟩) :: (281, some ⟨[(intA b281_0), (intA b281_1), (intA b281_2), (intA b281_3), (intA b281_4), (intA b281_5)], 40⟩) :: m) [some (boolA false)]) else (
N0 ⟨[(2, (intA t2)), (3, (intA t3)), (9, (AV.ptr 0 0)), (10, (boolA t10)), (11, t11), (13, (AV.ptr 281 0)), (14, (intA t14)), (15, (intA (IntKind.wrap .i64 (t15 + (1))))), (67, (intA t15)), (68, t11), (69, t11), (70, (intA z67)), (71, (intA (IntKind.wrap .i64 (z67 - (1))))), (72, v68), (73, v69), (74, v70), (75, (intA z72)), (76, (boolA (decide (t15 ≤ z72)))), (80, t11), (81, (intA t15)), (82, (AV.tup [(AV.agg [(intA z82), (intA z83), (intA z84), (intA z85), (intA z86), (intA z87)]), (intA z88)])), (79, (AV.tup [(AV.agg [(intA z82), (intA z83), (intA z84), (intA z85), (intA z86), (intA z87)]), (intA z88)])), (83, (AV.agg [(intA z82), (intA z83), (intA z84), (intA z85), (intA z86), (intA z87)])), (84, (intA z88)), (16, (AV.ptr 100079 0)), (17, (intA z88)), (85, (intA z88)), (86, (boolA (z88 != (0)))), (87, (boolA false)), (88, (AV.ptr 100079 0)), (89, (AV.ptr 100079 3)), (90, (intA z85)), (91, (AV.ptr 281 0)), (92, (AV.ptr 281 3)), (93, (intA b281_3)), (94, (intA t2)), (95, (intA z90)), (96, (boolA (decide (z85 < z90)))), (97, (boolA (decide (z85 < z90)))), (98, (boolA false)), (99, (AV.ptr 100079 0)), (100, (AV.ptr 100079 3)), (101, (intA z85)), (102, (AV.ptr 281 0)), (103, (AV.ptr 281 3)), (104, (intA b281_3)), (105, (intA t2)), (106, (intA z92)), (107, (boolA (decide (z85 > z92)))), (108, (boolA (decide (z85 > z92)))), (109, (boolA false)), (110, (intA t15)), (111, (intA t3)), (112, (intA t14)), (113, (intA (IntKind.wrap .i64 (t3 + t14)))), (114, (boolA (decide (t15 ≥ (IntKind.wrap .i64 (t3 + t14)))))), (115, (boolA false)), (116, (AV.tup [])), (117, (AV.tup [])), (118, (AV.tup [])), (119, (AV.tup [])), (120, (AV.tup [])), (121, (boolA false)), (122, (boolA false)), (123, (AV.ptr 100079 0)), (124, (AV.ptr 100079 3)), (125, (intA z85)), (126, (AV.ptr 281 0)), (127, (AV.ptr 281 3)), (128, (intA b281_3)), (129, (intA (IntKind.wrap .i64 (z85 - b281_3)))), (18, (intA (IntKind.wrap .i64 (z85 - b281_3)))), (130, (intA (IntKind.wrap .i64 (z85 - b281_3)))), (131, (AV.ptr 0 3)), (132, (intA z100)), (133, (intA t15)), (134, (intA t3)), (135, (intA (IntKind.wrap .i64 (t15 - t3)))), (136, (intA (IntKind.wrap .i64 (z100 * (IntKind.wrap .i64 (t15 - t3)))))), (137, (boolA (decide ((IntKind.wrap .i64 (z85 - b281_3)) > (IntKind.wrap .i64 (z100 * (IntKind.wrap .i64 (t15 - t3)))))))), (138, (boolA false)), (139, (intA (IntKind.wrap .i64 (z85 - b281_3)))), (140, (intA z102)), (141, (AV.ptr 0 4)), (142, (intA z104)), (143, (intA t15)), (144, (intA t3)), (145, (intA (IntKind.wrap .i64 (t15 - t3)))), (146, (intA (IntKind.wrap .i64 (z104 * (IntKind.wrap .i64 (t15 - t3)))))), (147, (intA (IntKind.wrap .i64 ((IntKind.wrap .i64 (z104 * (IntKind.wrap .i64 (t15 - t3)))) + (2))))), (148, (boolA (decide (z102 > (IntKind.wrap .i64 ((IntKind.wrap .i64 (z104 * (IntKind.wrap .i64 (t15 - t3)))) + (2))))))), (149, (boolA (decide (z102 > (IntKind.wrap .i64 ((IntKind.wrap .i64 (z104 * (IntKind.wrap .i64 (t15 - t3)))) + (2))))))), (77, (intA t15)), (78, (intA (IntKind.wrap .i64 (t15 + (1)))))], ((100079, some ⟨[(intA z82), (intA z83), (intA z84), (intA z85), (intA z86), (intA z87)], 40⟩) :: (100079, some ⟨[(intA (0)), (intA (0)), (intA (0)), (intA (0)), (intA (0)), (intA (0))], 40⟩) :: (281, some ⟨[(intA b281_0), (intA b281_1), (intA b281_2), (intA b281_3), (intA b281_4), (intA b281_5)], 40⟩) :: m), 100146⟩))))))) else (
retL R ((281, some ⟨[(intA b281_0), (intA b281_1), (intA b281_2), (intA b281_3), (intA b281_4), (intA b281_5)], 40⟩) :: m) [some (boolA true)])
theorem B4_0_eq (t2 : Int) (t3 : Int) (t10 : Bool) (t11 : AV) (t14 : Int) (t15 : Int) (b281_0 : Int) (b281_1 : Int) (b281_2 : Int) (b281_3 : Int) (b281_4 : Int) (b281_5 : Int) (m : Mem) (R : AV → Mem → Prop) (N0 : St → Prop) : W Tryd.prog KK 150 0 c4_0 (h4_0 t2 t3 t10 t11 t14 t15 b281_0 b281_1 b281_2 b281_3 b281_4 b281_5 m) (qq4_0 R N0) = B4_0 t2 t3 t10 t11 t14 t15 b281_0 b281_1 b281_2 b281_3 b281_4 b281_5 m R N0 := by kernel_rfl
theorem L4_0 (R : AV → Mem → Prop) {σ : Type} (I : σ → Prop) (t2 : σ → Int) (t3 : σ → Int) (t10 : σ → Bool) (t11 : σ → AV) (t14 : σ → Int) (t15 : σ → Int) (b281_0 : σ → Int) (b281_1 : σ → Int) (b281_2 : σ → Int) (b281_3 : σ → Int) (b281_4 : σ → Int) (b281_5 : σ → Int) (m : σ → Mem) (μ : σ → Nat) (step : ∀ x, I x → B4_0 (t2 x) (t3 x) (t10 x) (t11 x) (t14 x) (t15 x) (b281_0 x) (b281_1 x) (b281_2 x) (b281_3 x) (b281_4 x) (b281_5 x) (m x) R (fun s' => ∃ y, I y ∧ μ y < μ x ∧ Weak KK 150 0 s' (h4_0 (t2 y) (t3 y) (t10 y) (t11 y) (t14 y) (t15 y) (b281_0 y) (b281_1 y) (b281_2 y) (b281_3 y) (b281_4 y) (b281_5 y) (m y)))) (x : σ) (hx : I x) {s : St} (hw : Weak KK 150 0 s (h4_0 (t2 x) (t3 x) (t10 x) (t11 x) (t14 x) (t15 x) (b281_0 x) (b281_1 x) (b281_2 x) (b281_3 x) (b281_4 x) (b281_5 x) (m x))) : Tri Tryd.prog KK 150 0 (.loop c4_0) s (q4_0 R) :=
  Tri.weak hw (Tri.loops fol I (fun x => h4_0 (t2 x) (t3 x) (t10 x) (t11 x) (t14 x) (t15 x) (b281_0 x) (b281_1 x) (b281_2 x) (b281_3 x) (b281_4 x) (b281_5 x) (m x)) μ (fun x hx => (B4_0_eq (t2 x) (t3 x) (t10 x) (t11 x) (t14 x) (t15 x) (b281_0 x) (b281_1 x) (b281_2 x) (b281_3 x) (b281_4 x) (b281_5 x) (m x) R _).mpr (step x hx)) x hx)
noncomputable def F4 (a0 : AV) (a1 : ByteArray) (a2 : Int) (a3 : Int) (a4_0 : ByteArray) (a4_1 : Int) (a4_2 : Int) (a4_3 : Int) (a4_4 : Int) (a4_5 : Int) (a4_6 : Int) (R : AV → Mem → Prop) : Prop :=
callQ Tryd.prog KK.gl ((0, some ⟨[(AV.sc (.string a4_0)), (intA a4_1), (intA a4_2), (intA a4_3), (intA a4_4), (intA a4_5), (intA a4_6)], 27⟩) :: []) 9 [] fun v0 =>
exB v0 fun b1 =>
bif (!b1) then (
retL R ((0, some ⟨[(AV.sc (.string a4_0)), (intA a4_1), (intA a4_2), (intA a4_3), (intA a4_4), (intA a4_5), (intA a4_6)], 27⟩) :: []) [some (boolA false)]) else (
opN (bsl 68 23 1 1 [AV.nils] [(0, a0)]) ((0, some ⟨[(AV.sc (.string a4_0)), (intA a4_1), (intA a4_2), (intA a4_3), (intA a4_4), (intA a4_5), (intA a4_6)], 27⟩) :: []) fun v2 m2 =>
callQ Tryd.prog KK.gl m2 10 [v2, (intA (1)), (intA (400))] fun v3 =>
exB v3 fun b4 =>
bif (!b4) then (
retL R m2 [some (boolA true)]) else (
opP (bld [(AV.sc (.string ⟨#[]⟩)), (intA (0)), (intA (0)), (AV.sc (.string ⟨#[]⟩))] [(0, 1), (1, 1), (2, 1), (3, 1)] [(0, (AV.sc (.string a1))), (2, (intA a2))]) fun v5 =>
opP (ldA (mget m2) 7 (AV.ptr 0 0)) fun v6 =>
exA7 v6 fun c7 c8 c9 c10 c11 c12 c13 =>
exStr c7 fun s14 =>
ex_i64 c8 fun z15 =>
ex_i64 c9 fun z16 =>
ex_i64 c10 fun z17 =>
ex_i64 c11 fun z18 =>
ex_i64 c12 fun z19 =>
ex_i64 c13 fun z20 =>
opP (bld [(intA (0)), (intA (0))] [(0, 1), (1, 1)] []) fun v21 =>
callQ Tryd.prog KK.gl m2 11 [a0, v5, (intA a3), (AV.agg [(AV.sc (.string s14)), (intA z15), (intA z16), (intA z17), (intA z18), (intA z19), (intA z20)]), v21] fun v22 =>
exT2 v22 fun c23 c24 =>
ex_i64 c24 fun z25 =>
bif (z25 != (0)) then (
opP (lenS c23) fun v26 =>
ex_i64 v26 fun z27 =>
retL R m2 [some (boolA (z27 == (0)))]) else (
callQ Tryd.prog KK.gl m2 13 [a0, (intA a3)] fun v28 =>
exT2 v28 fun c29 c30 =>
exA6 c29 fun c31 c32 c33 c34 c35 c36 =>
ex_i64 c31 fun z37 =>
ex_i64 c32 fun z38 =>
ex_i64 c33 fun z39 =>
ex_i64 c34 fun z40 =>
ex_i64 c35 fun z41 =>
ex_i64 c36 fun z42 =>
ex_i64 c30 fun z43 =>
bif (z43 != (0)) then (
retL R ((281, some ⟨[(intA z37), (intA z38), (intA z39), (intA z40), (intA z41), (intA z42)], 40⟩) :: (281, some ⟨[(intA (0)), (intA (0)), (intA (0)), (intA (0)), (intA (0)), (intA (0))], 40⟩) :: m2) [some (boolA false)]) else (
opP (ldA (mget ((281, some ⟨[(intA z37), (intA z38), (intA z39), (intA z40), (intA z41), (intA z42)], 40⟩) :: (281, some ⟨[(intA (0)), (intA (0)), (intA (0)), (intA (0)), (intA (0)), (intA (0))], 40⟩) :: m2)) 7 (AV.ptr 0 0)) fun v44 =>
exA7 v44 fun c45 c46 c47 c48 c49 c50 c51 =>
exStr c45 fun s52 =>
ex_i64 c46 fun z53 =>
ex_i64 c47 fun z54 =>
ex_i64 c48 fun z55 =>
ex_i64 c49 fun z56 =>
ex_i64 c50 fun z57 =>
ex_i64 c51 fun z58 =>
callQ Tryd.prog KK.gl ((281, some ⟨[(intA z37), (intA z38), (intA z39), (intA z40), (intA z41), (intA z42)], 40⟩) :: (281, some ⟨[(intA (0)), (intA (0)), (intA (0)), (intA (0)), (intA (0)), (intA (0))], 40⟩) :: m2) 15 [(AV.agg [(AV.sc (.string s52)), (intA z53), (intA z54), (intA z55), (intA z56), (intA z57), (intA z58)]), (intA z40), (intA a2)] fun v59 =>
exT2 v59 fun c60 c61 =>
ex_i64 c60 fun z62 =>
ex_i64 c61 fun z63 =>
bif (z63 != (0)) then (
retL R ((281, some ⟨[(intA z37), (intA z38), (intA z39), (intA z40), (intA z41), (intA z42)], 40⟩) :: (281, some ⟨[(intA (0)), (intA (0)), (intA (0)), (intA (0)), (intA (0)), (intA (0))], 40⟩) :: m2) [some (boolA false)]) else (
opP (lenS c23) fun v64 =>
ex_i64 v64 fun z65 =>
bif (z65 == (0)) then (
retL R ((281, some ⟨[(intA z37), (intA z38), (intA z39), (intA z40), (intA z41), (intA z42)], 40⟩) :: (281, some ⟨[(intA (0)), (intA (0)), (intA (0)), (intA (0)), (intA (0)), (intA (0))], 40⟩) :: m2) [some (boolA false)]) else (
Tri Tryd.prog KK 150 0 (.loop c4_0) ⟨[(0, a0), (1, (AV.sc (.string a1))), (2, (intA a2)), (3, (intA a3)), (4, (AV.agg [(AV.sc (.string a4_0)), (intA a4_1), (intA a4_2), (intA a4_3), (intA a4_4), (intA a4_5), (intA a4_6)])), (9, (AV.ptr 0 0)), (10, (boolA false)), (19, (boolA b1)), (20, (boolA (!b1))), (21, a0), (22, v2), (23, (boolA b4)), (24, (boolA (!b4))), (26, a0), (27, (AV.sc (.string a1))), (28, (intA a2)), (29, v5), (30, (intA a3)), (31, (AV.agg [(AV.sc (.string s14)), (intA z15), (intA z16), (intA z17), (intA z18), (intA z19), (intA z20)])), (32, v21), (33, (AV.tup [c23, (intA z25)])), (25, (AV.tup [c23, (intA z25)])), (34, c23), (35, (intA z25)), (11, c23), (12, (intA z63)), (36, (intA z25)), (37, (boolA (z25 != (0)))), (42, a0), (43, (intA a3)), (44, (AV.tup [(AV.agg [(intA z37), (intA z38), (intA z39), (intA z40), (intA z41), (intA z42)]), (intA z43)])), (41, (AV.tup [(AV.agg [(intA z37), (intA z38), (intA z39), (intA z40), (intA z41), (intA z42)]), (intA z43)])), (45, (AV.agg [(intA z37), (intA z38), (intA z39), (intA z40), (intA z41), (intA z42)])), (46, (intA z43)), (13, (AV.ptr 281 0)), (47, (intA z43)), (48, (boolA (z43 != (0)))), (50, (AV.agg [(AV.sc (.string s52)), (intA z53), (intA z54), (intA z55), (intA z56), (intA z57), (intA z58)])), (51, (AV.ptr 281 0)), (52, (AV.ptr 281 3)), (53, (intA z40)), (54, (intA a2)), (55, (AV.tup [(intA z62), (intA z63)])), (49, (AV.tup [(intA z62), (intA z63)])), (56, (intA z62)), (57, (intA z63)), (14, (intA z62)), (58, (intA z63)), (59, (boolA (z63 != (0)))), (60, (boolA false)), (61, c23), (62, (intA z65)), (63, (boolA (z65 == (0)))), (64, (boolA (z65 == (0)))), (65, (intA a3)), (66, (intA (IntKind.wrap .i64 (a3 + (1))))), (15, (intA (IntKind.wrap .i64 (a3 + (1)))))], ((281, some ⟨[(intA z37), (intA z38), (intA z39), (intA z40), (intA z41), (intA z42)], 40⟩) :: (281, some ⟨[(intA (0)), (intA (0)), (intA (0)), (intA (0)), (intA (0)), (intA (0))], 40⟩) :: m2), 370⟩ (q4_0 R)))))))
theorem F4_own (a0 : AV) (a1 : ByteArray) (a2 : Int) (a3 : Int) (a4_0 : ByteArray) (a4_1 : Int) (a4_2 : Int) (a4_3 : Int) (a4_4 : Int) (a4_5 : Int) (a4_6 : Int) (R : AV → Mem → Prop) (h : F4 a0 a1 a2 a3 a4_0 a4_1 a4_2 a4_3 a4_4 a4_5 a4_6 R) : Own Tryd.prog KK.gl 4 [a0, (AV.sc (.string a1)), (intA a2), (intA a3), (AV.agg [(AV.sc (.string a4_0)), (intA a4_1), (intA a4_2), (intA a4_3), (intA a4_4), (intA a4_5), (intA a4_6)])] R := own_of_F fol Tryd.func4 (code := c4) (by kernel_rfl) (by kernel_rfl) (by kernel_rfl) (X := F4 a0 a1 a2 a3 a4_0 a4_1 a4_2 a4_3 a4_4 a4_5 a4_6 R) (by kernel_rfl) h
/- slices.Clone[skyway/api.Tube,skyway/api.TubeNode] -/
noncomputable def c32 : Code := ((Tryd.f32).body).getD .skip
noncomputable def q32 (R : AV → Mem → Prop) : AExit → St → Prop := retQ Tryd.prog Tryd.f32 R
noncomputable def F32 (a0 : AV) (R : AV → Mem → Prop) : Prop :=
nilK a0 fun b0 =>
bif b0 then (
retL R [] [some AV.nils]) else (
opN (bsl 3 40 6 0 [(intA (0)), (intA (0)), (intA (0)), (intA (0)), (intA (0)), (intA (0))] []) [] fun v2 m2 =>
opN (app (mget m2) 40 6 48 [(intA (0)), (intA (0)), (intA (0)), (intA (0)), (intA (0)), (intA (0))] 5 v2 a0) m2 fun v3 m3 =>
retL R m3 [some v3])
theorem F32_own (a0 : AV) (R : AV → Mem → Prop) (h : F32 a0 R) : Own Tryd.prog KK.gl 32 [a0] R := own_of_F fol Tryd.func32 (code := c32) (by kernel_rfl) (by kernel_rfl) (by kernel_rfl) (X := F32 a0 R) (by kernel_rfl) h
/- slices.Concat[skyway/api.Tube,skyway/api.TubeNode] -/
noncomputable def c33 : Code := ((Tryd.f33).body).getD .skip
noncomputable def q33 (R : AV → Mem → Prop) : AExit → St → Prop := retQ Tryd.prog Tryd.f33 R
noncomputable def c33_0 : Code := loopB c33 0
noncomputable def q33_0 (R : AV → Mem → Prop) : AExit → St → Prop := contW Tryd.prog KK 36 0 c33 0 (q33 R)
noncomputable def qq33_0 (R : AV → Mem → Prop) (N0 : St → Prop) : AExit → St → Prop := thenQ N0 (q33_0 R)
def h33_0 (t0 : AV) (t2 : AV) (t3 : Int) (t9 : AV) (t10 : Int) (t11 : Int) (m : Mem) : St := ⟨[(0, t0), (2, t2), (3, (intA t3)), (9, t9), (10, (intA t10)), (11, (intA t11))], m, 100000⟩
noncomputable def c33_1 : Code := loopB c33 1
noncomputable def q33_1 (R : AV → Mem → Prop) : AExit → St → Prop := contW Tryd.prog KK 36 0 c33 1 (q33 R)
noncomputable def qq33_1 (R : AV → Mem → Prop) (N0 : St → Prop) : AExit → St → Prop := thenQ N0 (q33_1 R)
def h33_1 (t2 : AV) (t6 : AV) (t25 : AV) (t26 : Int) (t27 : Int) (m : Mem) : St := ⟨[(2, t2), (6, t6), (25, t25), (26, (intA t26)), (27, (intA t27))], m, 200000⟩
noncomputable def B33_0 (t0 : AV) (t2 : AV) (t3 : Int) (t9 : AV) (t10 : Int) (t11 : Int) (m : Mem) (R : AV → Mem → Prop) (N0 : St → Prop) : Prop :=
bif (decide (t11 < t10)) then (
opP (idxS 1 t9 (intA t11)) fun v2 =>
opP (ldS (mget m) v2) fun v3 =>
opP (lenS v3) fun v4 =>
ex_i64 v4 fun z5 =>
bif (decide ((IntKind.wrap .i64 (t3 + z5)) < (0))) then (
opP (opA Tryd.prog (.makeInterface 9 (.tmp 0)) 20 [(AV.sc (.string ⟨#[108, 101, 110, 32, 111, 117, 116, 32, 111, 102, 32, 114, 97, 110, 103, 101]⟩))] (mget m) 100011) fun v6 =>
opP (opA Tryd.prog (.panic (.tmp 0)) 0 [v6] (mget m) 100012) fun v7 =>
N0 ⟨[(0, t0), (2, t2), (3, (intA (IntKind.wrap .i64 (t3 + z5)))), (9, t9), (10, (intA t10)), (11, (intA (IntKind.wrap .i64 (t11 + (1))))), (12, (boolA (decide (t11 < t10)))), (13, v2), (14, v3), (5, v3), (15, (intA t3)), (16, v3), (17, (intA z5)), (18, (intA (IntKind.wrap .i64 (t3 + z5)))), (19, (intA (IntKind.wrap .i64 (t3 + z5)))), (20, (boolA (decide ((IntKind.wrap .i64 (t3 + z5)) < (0))))), (21, v6), (22, (intA (IntKind.wrap .i64 (t11 + (1)))))], m, 100015⟩) else (
N0 ⟨[(0, t0), (2, t2), (3, (intA (IntKind.wrap .i64 (t3 + z5)))), (9, t9), (10, (intA t10)), (11, (intA (IntKind.wrap .i64 (t11 + (1))))), (12, (boolA (decide (t11 < t10)))), (13, v2), (14, v3), (5, v3), (15, (intA t3)), (16, v3), (17, (intA z5)), (18, (intA (IntKind.wrap .i64 (t3 + z5)))), (19, (intA (IntKind.wrap .i64 (t3 + z5)))), (20, (boolA (decide ((IntKind.wrap .i64 (t3 + z5)) < (0))))), (22, (intA (IntKind.wrap .i64 (t11 + (1)))))], m, 100013⟩)) else (
callW Tryd.prog KK.gl m 100002 46 [AV.nils, (intA t3)] fun v8 m8 =>
opP (lenS t0) fun v9 =>
ex_i64 v9 fun z10 =>
Tri Tryd.prog KK 36 0 (.loop c33_1) ⟨[(0, t0), (2, t2), (3, (intA t3)), (9, t9), (10, (intA t10)), (11, (intA t11)), (12, (boolA (decide (t11 < t10)))), (23, (intA t3)), (24, v8), (6, v8), (25, t0), (26, (intA z10)), (27, (intA (0)))], m8, 100070⟩ (q33_1 R))
theorem B33_0_eq (t0 : AV) (t2 : AV) (t3 : Int) (t9 : AV) (t10 : Int) (t11 : Int) (m : Mem) (R : AV → Mem → Prop) (N0 : St → Prop) : W Tryd.prog KK 36 0 c33_0 (h33_0 t0 t2 t3 t9 t10 t11 m) (qq33_0 R N0) = B33_0 t0 t2 t3 t9 t10 t11 m R N0 := by kernel_rfl
theorem L33_0 (R : AV → Mem → Prop) {σ : Type} (I : σ → Prop) (t0 : σ → AV) (t2 : σ → AV) (t3 : σ → Int) (t9 : σ → AV) (t10 : σ → Int) (t11 : σ → Int) (m : σ → Mem) (μ : σ → Nat) (step : ∀ x, I x → B33_0 (t0 x) (t2 x) (t3 x) (t9 x) (t10 x) (t11 x) (m x) R (fun s' => ∃ y, I y ∧ μ y < μ x ∧ Weak KK 36 0 s' (h33_0 (t0 y) (t2 y) (t3 y) (t9 y) (t10 y) (t11 y) (m y)))) (x : σ) (hx : I x) {s : St} (hw : Weak KK 36 0 s (h33_0 (t0 x) (t2 x) (t3 x) (t9 x) (t10 x) (t11 x) (m x))) : Tri Tryd.prog KK 36 0 (.loop c33_0) s (q33_0 R) :=
  Tri.weak hw (Tri.loops fol I (fun x => h33_0 (t0 x) (t2 x) (t3 x) (t9 x) (t10 x) (t11 x) (m x)) μ (fun x hx => (B33_0_eq (t0 x) (t2 x) (t3 x) (t9 x) (t10 x) (t11 x) (m x) R _).mpr (step x hx)) x hx)
noncomputable def B33_1 (t2 : AV) (t6 : AV) (t25 : AV) (t26 : Int) (t27 : Int) (m : Mem) (R : AV → Mem → Prop) (N0 : St → Prop) : Prop :=
bif (decide (t27 < t26)) then (
opP (idxS 1 t25 (intA t27)) fun v11 =>
opP (ldS (mget m) v11) fun v12 =>
opN (app (mget m) 40 6 48 [(intA (0)), (intA (0)), (intA (0)), (intA (0)), (intA (0)), (intA (0))] 200006 t6 v12) m fun v13 m13 =>
N0 ⟨[(2, t2), (6, v13), (25, t25), (26, (intA t26)), (27, (intA (IntKind.wrap .i64 (t27 + (1))))), (28, (boolA (decide (t27 < t26)))), (29, v11), (30, v12), (8, v12), (31, t6), (32, v12), (33, v13), (34, (intA (IntKind.wrap .i64 (t27 + (1)))))], m13, 200010⟩) else (
retL R m [some t6])
theorem B33_1_eq (t2 : AV) (t6 : AV) (t25 : AV) (t26 : Int) (t27 : Int) (m : Mem) (R : AV → Mem → Prop) (N0 : St → Prop) : W Tryd.prog KK 36 0 c33_1 (h33_1 t2 t6 t25 t26 t27 m) (qq33_1 R N0) = B33_1 t2 t6 t25 t26 t27 m R N0 := by kernel_rfl
theorem L33_1 (R : AV → Mem → Prop) {σ : Type} (I : σ → Prop) (t2 : σ → AV) (t6 : σ → AV) (t25 : σ → AV) (t26 : σ → Int) (t27 : σ → Int) (m : σ → Mem) (μ : σ → Nat) (step : ∀ x, I x → B33_1 (t2 x) (t6 x) (t25 x) (t26 x) (t27 x) (m x) R (fun s' => ∃ y, I y ∧ μ y < μ x ∧ Weak KK 36 0 s' (h33_1 (t2 y) (t6 y) (t25 y) (t26 y) (t27 y) (m y)))) (x : σ) (hx : I x) {s : St} (hw : Weak KK 36 0 s (h33_1 (t2 x) (t6 x) (t25 x) (t26 x) (t27 x) (m x))) : Tri Tryd.prog KK 36 0 (.loop c33_1) s (q33_1 R) :=
  Tri.weak hw (Tri.loops fol I (fun x => h33_1 (t2 x) (t6 x) (t25 x) (t26 x) (t27 x) (m x)) μ (fun x hx => (B33_1_eq (t2 x) (t6 x) (t25 x) (t26 x) (t27 x) (m x) R _).mpr (step x hx)) x hx)
noncomputable def F33 (a0 : AV) (R : AV → Mem → Prop) : Prop :=
opP (lenS a0) fun v0 =>
ex_i64 v0 fun z1 =>
Tri Tryd.prog KK 36 0 (.loop c33_0) ⟨[(0, a0), (2, AV.nils), (3, (intA (0))), (9, a0), (10, (intA z1)), (11, (intA (0)))], [], 5⟩ (q33_0 R)
theorem F33_own (a0 : AV) (R : AV → Mem → Prop) (h : F33 a0 R) : Own Tryd.prog KK.gl 33 [a0] R := own_of_F fol Tryd.func33 (code := c33) (by kernel_rfl) (by kernel_rfl) (by kernel_rfl) (X := F33 a0 R) (by kernel_rfl) h
/- slices.Grow[skyway/api.Tube,skyway/api.TubeNode] -/
noncomputable def c46 : Code := ((Tryd.f46).body).getD .skip
noncomputable def q46 (R : AV → Mem → Prop) : AExit → St → Prop := retQ Tryd.prog Tryd.f46 R
noncomputable def F46 (a0 : AV) (a1 : Int) (R : AV → Mem → Prop) : Prop :=
bif (decide (a1 < (0))) then (
opP (opA Tryd.prog (.makeInterface 9 (.tmp 0)) 20 [(AV.sc (.string ⟨#[99, 97, 110, 110, 111, 116, 32, 98, 101, 32, 110, 101, 103, 97, 116, 105, 118, 101]⟩))] (mget []) 3) fun v0 =>
opP (opA Tryd.prog (.panic (.tmp 0)) 0 [v0] (mget []) 4) fun v1 =>
opP (opA Tryd.prog (.call ⟨.builtin .cap, #[.tmp 0], #[23]⟩) 3 [a0] (mget []) 7) fun v2 =>
ex_i64 v2 fun z3 =>
opP (lenS a0) fun v4 =>
ex_i64 v4 fun z5 =>
bif (decide ((IntKind.wrap .i64 (a1 - (IntKind.wrap .i64 (z3 - z5)))) > (0))) then (
opP (opA Tryd.prog (.call ⟨.builtin .cap, #[.tmp 0], #[23]⟩) 3 [a0] (mget []) 17) fun v6 =>
ex_i64 v6 fun z7 =>
opP (opA Tryd.prog (.slice 23 (.tmp 0) none (some (.tmp 1)) none) 23 [a0, (intA z7)] (mget []) 18) fun v8 =>
opN (opA Tryd.prog (.call ⟨.builtin .append, #[.tmp 0, .tmp 1], #[23, 3]⟩) 23 [v8, (intA (IntKind.wrap .i64 (a1 - (IntKind.wrap .i64 (z3 - z5)))))] (mget []) 20) [] fun v9 m9 =>
opP (lenS a0) fun v10 =>
ex_i64 v10 fun z11 =>
opP (opA Tryd.prog (.slice 23 (.tmp 0) none (some (.tmp 1)) none) 23 [v9, (intA z11)] (mget m9) 23) fun v12 =>
retL R m9 [some v12]) else (
retL R [] [some a0])) else (
opP (opA Tryd.prog (.call ⟨.builtin .cap, #[.tmp 0], #[23]⟩) 3 [a0] (mget []) 5) fun v13 =>
ex_i64 v13 fun z14 =>
opP (lenS a0) fun v15 =>
ex_i64 v15 fun z16 =>
bif (decide ((IntKind.wrap .i64 (a1 - (IntKind.wrap .i64 (z14 - z16)))) > (0))) then (
opP (opA Tryd.prog (.call ⟨.builtin .cap, #[.tmp 0], #[23]⟩) 3 [a0] (mget []) 15) fun v17 =>
ex_i64 v17 fun z18 =>
opP (opA Tryd.prog (.slice 23 (.tmp 0) none (some (.tmp 1)) none) 23 [a0, (intA z18)] (mget []) 16) fun v19 =>
opN (opA Tryd.prog (.call ⟨.builtin .append, #[.tmp 0, .tmp 1], #[23, 3]⟩) 23 [v19, (intA (IntKind.wrap .i64 (a1 - (IntKind.wrap .i64 (z14 - z16)))))] (mget []) 18) [] fun v20 m20 =>
opP (lenS a0) fun v21 =>
ex_i64 v21 fun z22 =>
opP (opA Tryd.prog (.slice 23 (.tmp 0) none (some (.tmp 1)) none) 23 [v20, (intA z22)] (mget m20) 21) fun v23 =>
retL R m20 [some v23]) else (
retL R [] [some a0]))
theorem F46_own (a0 : AV) (a1 : Int) (R : AV → Mem → Prop) (h : F46 a0 a1 R) : Own Tryd.prog KK.gl 46 [a0, (intA a1)] R := own_of_F fol Tryd.func46 (code := c46) (by kernel_rfl) (by kernel_rfl) (by kernel_rfl) (X := F46 a0 a1 R) (by kernel_rfl) h
/- slices.Insert[skyway/api.Tube,skyway/api.TubeNode] at 1 -/
noncomputable def F55n1 (a0 : AV) (a1 : Int) (a2 : AV) (m : Mem) (R : AV → Mem → Prop) : Prop :=
opP (opA Tryd.prog (.slice 23 (.tmp 0) (some (.tmp 1)) none none) 23 [a0, (intA a1)] (mget m) 4) fun v0 =>
opP (lenS a2) fun v1 =>
ex_i64 v1 fun z2 =>
bif (z2 == (0)) then (
retL R m [some a0]) else (
opP (lenS a0) fun v3 =>
ex_i64 v3 fun z4 =>
bif (a1 == z4) then (
opN (app (mget m) 40 6 48 [(intA (0)), (intA (0)), (intA (0)), (intA (0)), (intA (0)), (intA (0))] 18 a0 a2) m fun v5 m5 =>
retL R m5 [some v5]) else (
opP (opA Tryd.prog (.call ⟨.builtin .cap, #[.tmp 0], #[23]⟩) 3 [a0] (mget m) 20) fun v6 =>
ex_i64 v6 fun z7 =>
bif (decide ((IntKind.wrap .i64 (z4 + z2)) > z7)) then (
opP (opA Tryd.prog (.slice 23 (.tmp 0) none (some (.tmp 1)) none) 23 [a0, (intA a1)] (mget m) 24) fun v8 =>
opN (opA Tryd.prog (.call ⟨.builtin .append, #[.tmp 0, .tmp 1], #[23, 3]⟩) 23 [v8, (intA (IntKind.wrap .i64 ((IntKind.wrap .i64 (z4 + z2)) - a1)))] (mget m) 30) m fun v9 m9 =>
opP (opA Tryd.prog (.slice 23 (.tmp 0) (some (.tmp 1)) none none) 23 [v9, (intA a1)] (mget m9) 34) fun v10 =>
opN (opA Tryd.prog (.call ⟨.builtin .copy, #[.tmp 0, .tmp 1], #[23, 22]⟩) 3 [v10, a2] (mget m9) 36) m9 fun v11 m11 =>
ex_i64 v11 fun z12 =>
opM (opA Tryd.prog (.slice 23 (.tmp 0) (some (.tmp 1)) none none) 23 [v9, (intA (IntKind.wrap .i64 (a1 + z2)))] (look' m11 (topId v9 ++ (topId (intA (IntKind.wrap .i64 (a1 + z2))) ++ ([])))) 41) fun v13 d13 =>
opM (opA Tryd.prog (.slice 23 (.tmp 0) (some (.tmp 1)) none none) 23 [a0, (intA a1)] (look' (mpushs m11 d13) (topId a0 ++ (topId (intA a1) ++ ([])))) 44) fun v14 d14 =>
opM (opA Tryd.prog (.call ⟨.builtin .copy, #[.tmp 0, .tmp 1], #[23, 23]⟩) 3 [v13, v14] (look' (mpushs (mpushs m11 d13) d14) (topId v13 ++ (topId v14 ++ ([])))) 45) fun v15 d15 =>
ex_i64 v15 fun z16 =>
chk (confOk [0, 0, 0, 6, 15, 0, 0, 96, 255] [⟨[], []⟩, ⟨[], []⟩, ⟨[], []⟩, ⟨[], []⟩, ⟨d13, (topId v9 ++ (topId (intA (IntKind.wrap .i64 (a1 + z2))) ++ ([])))⟩, ⟨[], []⟩, ⟨[], []⟩, ⟨d14, (topId a0 ++ (topId (intA a1) ++ ([])))⟩, ⟨d15, (topId v13 ++ (topId v14 ++ ([])))⟩]) (retL R (mpushs (mpushs (mpushs m11 d13) d14) d15) [some v9])) else (
opP (opA Tryd.prog (.slice 23 (.tmp 0) none (some (.tmp 1)) none) 23 [a0, (intA (IntKind.wrap .i64 (z4 + z2)))] (mget m) 26) fun v17 =>
opP (opA Tryd.prog (.slice 23 (.tmp 0) (some (.tmp 1)) none none) 23 [v17, (intA (IntKind.wrap .i64 (a1 + z2)))] (mget m) 33) fun v18 =>
callQ Tryd.prog KK.gl m 60 [a2, v18] fun v19 =>
exB v19 fun b20 =>
bif (!b20) then (
opM (opA Tryd.prog (.slice 23 (.tmp 0) (some (.tmp 1)) none none) 23 [v17, (intA (IntKind.wrap .i64 (a1 + z2)))] (look' m (topId v17 ++ (topId (intA (IntKind.wrap .i64 (a1 + z2))) ++ ([])))) 103) fun v21 d21 =>
opM (opA Tryd.prog (.slice 23 (.tmp 0) (some (.tmp 1)) none none) 23 [v17, (intA a1)] (look' (mpushs m d21) (topId v17 ++ (topId (intA a1) ++ ([])))) 106) fun v22 d22 =>
opM (opA Tryd.prog (.call ⟨.builtin .copy, #[.tmp 0, .tmp 1], #[23, 23]⟩) 3 [v21, v22] (look' (mpushs (mpushs m d21) d22) (topId v21 ++ (topId v22 ++ ([])))) 107) fun v23 d23 =>
ex_i64 v23 fun z24 =>
chk (confOk [0, 0, 0, 6, 15, 0, 0, 96, 255] [⟨[], []⟩, ⟨[], []⟩, ⟨[], []⟩, ⟨[], []⟩, ⟨d21, (topId v17 ++ (topId (intA (IntKind.wrap .i64 (a1 + z2))) ++ ([])))⟩, ⟨[], []⟩, ⟨[], []⟩, ⟨d22, (topId v17 ++ (topId (intA a1) ++ ([])))⟩, ⟨d23, (topId v21 ++ (topId v22 ++ ([])))⟩]) (opP (opA Tryd.prog (.slice 23 (.tmp 0) (some (.tmp 1)) none none) 23 [v17, (intA a1)] (mget (mpushs (mpushs (mpushs m d21) d22) d23)) 110) fun v25 =>
opN (opA Tryd.prog (.call ⟨.builtin .copy, #[.tmp 0, .tmp 1], #[23, 22]⟩) 3 [v25, a2] (mget (mpushs (mpushs (mpushs m d21) d22) d23)) 112) (mpushs (mpushs (mpushs m d21) d22) d23) fun v26 m26 =>
ex_i64 v26 fun z27 =>
retL R m26 [some v17])) else (
opP (opA Tryd.prog (.slice 23 (.tmp 0) (some (.tmp 1)) none none) 23 [v17, (intA z4)] (mget m) 101) fun v28 =>
opN (opA Tryd.prog (.call ⟨.builtin .copy, #[.tmp 0, .tmp 1], #[23, 22]⟩) 3 [v28, a2] (mget m) 103) m fun v29 m29 =>
ex_i64 v29 fun z30 =>
opP (opA Tryd.prog (.slice 23 (.tmp 0) (some (.tmp 1)) none none) 23 [v17, (intA a1)] (mget m29) 106) fun v31 =>
callW Tryd.prog KK.gl m29 108 61 [v31, (intA z2)] fun v32 m32 =>
exT0 v32 <|
retL R m32 [some v17]))))
theorem F55n1_call (a0 : AV) (a1 : Int) (a2 : AV) (m : Mem) (R : AV → Mem → Prop) (h : F55n1 a0 a1 a2 m R) : callN Tryd.prog KK.gl m 1 55 [a0, (intA a1), a2] R := callN_of_F fol Tryd.func55 (code := ((Tryd.f55).body).getD .skip) (by kernel_rfl) (by kernel_rfl) (by kernel_rfl) (X := F55n1 a0 a1 a2 m R) (by kernel_rfl) h
/- slices.Insert[skyway/api.Tube,skyway/api.TubeNode] at 2 -/
noncomputable def F55n2 (a0 : AV) (a1 : Int) (a2 : AV) (m : Mem) (R : AV → Mem → Prop) : Prop :=
opP (opA Tryd.prog (.slice 23 (.tmp 0) (some (.tmp 1)) none none) 23 [a0, (intA a1)] (mget m) 5) fun v0 =>
opP (lenS a2) fun v1 =>
ex_i64 v1 fun z2 =>
bif (z2 == (0)) then (
retL R m [some a0]) else (
opP (lenS a0) fun v3 =>
ex_i64 v3 fun z4 =>
bif (a1 == z4) then (
opN (app (mget m) 40 6 48 [(intA (0)), (intA (0)), (intA (0)), (intA (0)), (intA (0)), (intA (0))] 19 a0 a2) m fun v5 m5 =>
retL R m5 [some v5]) else (
opP (opA Tryd.prog (.call ⟨.builtin .cap, #[.tmp 0], #[23]⟩) 3 [a0] (mget m) 21) fun v6 =>
ex_i64 v6 fun z7 =>
bif (decide ((IntKind.wrap .i64 (z4 + z2)) > z7)) then (
opP (opA Tryd.prog (.slice 23 (.tmp 0) none (some (.tmp 1)) none) 23 [a0, (intA a1)] (mget m) 25) fun v8 =>
opN (opA Tryd.prog (.call ⟨.builtin .append, #[.tmp 0, .tmp 1], #[23, 3]⟩) 23 [v8, (intA (IntKind.wrap .i64 ((IntKind.wrap .i64 (z4 + z2)) - a1)))] (mget m) 31) m fun v9 m9 =>
opP (opA Tryd.prog (.slice 23 (.tmp 0) (some (.tmp 1)) none none) 23 [v9, (intA a1)] (mget m9) 35) fun v10 =>
opN (opA Tryd.prog (.call ⟨.builtin .copy, #[.tmp 0, .tmp 1], #[23, 22]⟩) 3 [v10, a2] (mget m9) 37) m9 fun v11 m11 =>
ex_i64 v11 fun z12 =>
opM (opA Tryd.prog (.slice 23 (.tmp 0) (some (.tmp 1)) none none) 23 [v9, (intA (IntKind.wrap .i64 (a1 + z2)))] (look' m11 (topId v9 ++ (topId (intA (IntKind.wrap .i64 (a1 + z2))) ++ ([])))) 42) fun v13 d13 =>
opM (opA Tryd.prog (.slice 23 (.tmp 0) (some (.tmp 1)) none none) 23 [a0, (intA a1)] (look' (mpushs m11 d13) (topId a0 ++ (topId (intA a1) ++ ([])))) 45) fun v14 d14 =>
opM (opA Tryd.prog (.call ⟨.builtin .copy, #[.tmp 0, .tmp 1], #[23, 23]⟩) 3 [v13, v14] (look' (mpushs (mpushs m11 d13) d14) (topId v13 ++ (topId v14 ++ ([])))) 46) fun v15 d15 =>
ex_i64 v15 fun z16 =>
chk (confOk [0, 0, 0, 6, 15, 0, 0, 96, 255] [⟨[], []⟩, ⟨[], []⟩, ⟨[], []⟩, ⟨[], []⟩, ⟨d13, (topId v9 ++ (topId (intA (IntKind.wrap .i64 (a1 + z2))) ++ ([])))⟩, ⟨[], []⟩, ⟨[], []⟩, ⟨d14, (topId a0 ++ (topId (intA a1) ++ ([])))⟩, ⟨d15, (topId v13 ++ (topId v14 ++ ([])))⟩]) (retL R (mpushs (mpushs (mpushs m11 d13) d14) d15) [some v9])) else (
opP (opA Tryd.prog (.slice 23 (.tmp 0) none (some (.tmp 1)) none) 23 [a0, (intA (IntKind.wrap .i64 (z4 + z2)))] (mget m) 27) fun v17 =>
opP (opA Tryd.prog (.slice 23 (.tmp 0) (some (.tmp 1)) none none) 23 [v17, (intA (IntKind.wrap .i64 (a1 + z2)))] (mget m) 34) fun v18 =>
callQ Tryd.prog KK.gl m 60 [a2, v18] fun v19 =>
exB v19 fun b20 =>
bif (!b20) then (
opM (opA Tryd.prog (.slice 23 (.tmp 0) (some (.tmp 1)) none none) 23 [v17, (intA (IntKind.wrap .i64 (a1 + z2)))] (look' m (topId v17 ++ (topId (intA (IntKind.wrap .i64 (a1 + z2))) ++ ([])))) 104) fun v21 d21 =>
opM (opA Tryd.prog (.slice 23 (.tmp 0) (some (.tmp 1)) none none) 23 [v17, (intA a1)] (look' (mpushs m d21) (topId v17 ++ (topId (intA a1) ++ ([])))) 107) fun v22 d22 =>
opM (opA Tryd.prog (.call ⟨.builtin .copy, #[.tmp 0, .tmp 1], #[23, 23]⟩) 3 [v21, v22] (look' (mpushs (mpushs m d21) d22) (topId v21 ++ (topId v22 ++ ([])))) 108) fun v23 d23 =>
ex_i64 v23 fun z24 =>
chk (confOk [0, 0, 0, 6, 15, 0, 0, 96, 255] [⟨[], []⟩, ⟨[], []⟩, ⟨[], []⟩, ⟨[], []⟩, ⟨d21, (topId v17 ++ (topId (intA (IntKind.wrap .i64 (a1 + z2))) ++ ([])))⟩, ⟨[], []⟩, ⟨[], []⟩, ⟨d22, (topId v17 ++ (topId (intA a1) ++ ([])))⟩, ⟨d23, (topId v21 ++ (topId v22 ++ ([])))⟩]) (opP (opA Tryd.prog (.slice 23 (.tmp 0) (some (.tmp 1)) none none) 23 [v17, (intA a1)] (mget (mpushs (mpushs (mpushs m d21) d22) d23)) 111) fun v25 =>
opN (opA Tryd.prog (.call ⟨.builtin .copy, #[.tmp 0, .tmp 1], #[23, 22]⟩) 3 [v25, a2] (mget (mpushs (mpushs (mpushs m d21) d22) d23)) 113) (mpushs (mpushs (mpushs m d21) d22) d23) fun v26 m26 =>
ex_i64 v26 fun z27 =>
retL R m26 [some v17])) else (
opP (opA Tryd.prog (.slice 23 (.tmp 0) (some (.tmp 1)) none none) 23 [v17, (intA z4)] (mget m) 102) fun v28 =>
opN (opA Tryd.prog (.call ⟨.builtin .copy, #[.tmp 0, .tmp 1], #[23, 22]⟩) 3 [v28, a2] (mget m) 104) m fun v29 m29 =>
ex_i64 v29 fun z30 =>
opP (opA Tryd.prog (.slice 23 (.tmp 0) (some (.tmp 1)) none none) 23 [v17, (intA a1)] (mget m29) 107) fun v31 =>
callW Tryd.prog KK.gl m29 109 61 [v31, (intA z2)] fun v32 m32 =>
exT0 v32 <|
retL R m32 [some v17]))))
theorem F55n2_call (a0 : AV) (a1 : Int) (a2 : AV) (m : Mem) (R : AV → Mem → Prop) (h : F55n2 a0 a1 a2 m R) : callN Tryd.prog KK.gl m 2 55 [a0, (intA a1), a2] R := callN_of_F fol Tryd.func55 (code := ((Tryd.f55).body).getD .skip) (by kernel_rfl) (by kernel_rfl) (by kernel_rfl) (X := F55n2 a0 a1 a2 m R) (by kernel_rfl) h
end Go.Proofs.YtpjepkldnnfncaaDoor
