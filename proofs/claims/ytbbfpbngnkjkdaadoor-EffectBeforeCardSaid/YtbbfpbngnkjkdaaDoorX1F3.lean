/- Functions of the program as conditions on their answers; printed by wip/Gen.lean.txt. -/
import Derived.Test.YtbbfpbngnkjkdaaDoorX1T
set_option linter.unusedVariables false
set_option maxRecDepth 100000
set_option maxHeartbeats 4000000
namespace Go.Proofs.YtbbfpbngnkjkdaaDoor
/- skyway/skywaykeep3.EffectBefore -/
noncomputable def c3 : Code := ((Tryd.f3).body).getD .skip
noncomputable def q3 (R : AV → Mem → Prop) : AExit → St → Prop := retQ pg Tryd.f3 R
noncomputable def c3_0 : Code := loopB c3 0
noncomputable def q3_0 (R : AV → Mem → Prop) : AExit → St → Prop := contW pg KK 128 0 c3 0 (q3 R)
noncomputable def qq3_0 (R : AV → Mem → Prop) (N0 : St → Prop) : AExit → St → Prop := thenQ N0 (q3_0 R)
def h3_0 (t0 : AV) (t2 : Int) (t10 : Bool) (t11 : AV) (t13 : Int) (m : Mem) : St := ⟨[(0, t0), (2, (intA t2)), (10, (boolA t10)), (11, t11), (13, (intA t13))], m, 100000⟩
noncomputable def B3_0 (t0 : AV) (t2 : Int) (t10 : Bool) (t11 : AV) (t13 : Int) (m : Mem) (R : AV → Mem → Prop) (N0 : St → Prop) : Prop :=
bif (decide (t13 ≤ t2)) then (
callQ pg KK.gl m 8 [t0, (intA t13)] fun v57 =>
exT2 v57 fun c58 c59 =>
exA6 c58 fun c60 c61 c62 c63 c64 c65 =>
ex_i64 c60 fun z66 =>
ex_i64 c61 fun z67 =>
ex_i64 c62 fun z68 =>
ex_i64 c63 fun z69 =>
ex_i64 c64 fun z70 =>
ex_i64 c65 fun z71 =>
ex_i64 c59 fun z72 =>
callQ pg KK.gl ((100072, some ⟨[(intA z66), (intA z67), (intA z68), (intA z69), (intA z70), (intA z71)], 40⟩) :: (100072, some ⟨[(intA (0)), (intA (0)), (intA (0)), (intA (0)), (intA (0)), (intA (0))], 40⟩) :: m) 8 [t11, (intA t13)] fun v73 =>
exT2 v73 fun c74 c75 =>
exA6 c74 fun c76 c77 c78 c79 c80 c81 =>
ex_i64 c76 fun z82 =>
ex_i64 c77 fun z83 =>
ex_i64 c78 fun z84 =>
ex_i64 c79 fun z85 =>
ex_i64 c80 fun z86 =>
ex_i64 c81 fun z87 =>
ex_i64 c75 fun z88 =>
bif (z72 != (0)) then (
retL R ((100144, some ⟨[(intA z82), (intA z83), (intA z84), (intA z85), (intA z86), (intA z87)], 40⟩) :: (100144, some ⟨[(intA (0)), (intA (0)), (intA (0)), (intA (0)), (intA (0)), (intA (0))], 40⟩) :: (100072, some ⟨[(intA z66), (intA z67), (intA z68), (intA z69), (intA z70), (intA z71)], 40⟩) :: (100072, some ⟨[(intA (0)), (intA (0)), (intA (0)), (intA (0)), (intA (0)), (intA (0))], 40⟩) :: m) [some (boolA false)]) else (
bif (z88 != (0)) then (
retL R ((100144, some ⟨[(intA z82), (intA z83), (intA z84), (intA z85), (intA z86), (intA z87)], 40⟩) :: (100144, some ⟨[(intA (0)), (intA (0)), (intA (0)), (intA (0)), (intA (0)), (intA (0))], 40⟩) :: (100072, some ⟨[(intA z66), (intA z67), (intA z68), (intA z69), (intA z70), (intA z71)], 40⟩) :: (100072, some ⟨[(intA (0)), (intA (0)), (intA (0)), (intA (0)), (intA (0)), (intA (0))], 40⟩) :: m) [some (boolA false)]) else (
callQ pg KK.gl ((100144, some ⟨[(intA z82), (intA z83), (intA z84), (intA z85), (intA z86), (intA z87)], 40⟩) :: (100144, some ⟨[(intA (0)), (intA (0)), (intA (0)), (intA (0)), (intA (0)), (intA (0))], 40⟩) :: (100072, some ⟨[(intA z66), (intA z67), (intA z68), (intA z69), (intA z70), (intA z71)], 40⟩) :: (100072, some ⟨[(intA (0)), (intA (0)), (intA (0)), (intA (0)), (intA (0)), (intA (0))], 40⟩) :: m) 9 [(AV.agg [(intA z67), (intA z68)]), (AV.agg [(intA z83), (intA z84)])] fun v89 =>
exA2 v89 fun c90 c91 =>
ex_i64 c90 fun z92 =>
ex_i64 c91 fun z93 =>
opP (opA pg (.unOp .neg 3 (.tmp 0)) 3 [(intA z92)] (mget ((100223, some ⟨[(intA z92), (intA z93)], 29⟩) :: (100223, some ⟨[(intA (0)), (intA (0))], 29⟩) :: (100144, some ⟨[(intA z82), (intA z83), (intA z84), (intA z85), (intA z86), (intA z87)], 40⟩) :: (100144, some ⟨[(intA (0)), (intA (0)), (intA (0)), (intA (0)), (intA (0)), (intA (0))], 40⟩) :: (100072, some ⟨[(intA z66), (intA z67), (intA z68), (intA z69), (intA z70), (intA z71)], 40⟩) :: (100072, some ⟨[(intA (0)), (intA (0)), (intA (0)), (intA (0)), (intA (0)), (intA (0))], 40⟩) :: m)) 100229) fun v94 =>
ex_i64 v94 fun z95 =>
opP (opA pg (.unOp .neg 3 (.tmp 0)) 3 [(intA z93)] (mget ((100223, some ⟨[(intA z92), (intA z93)], 29⟩) :: (100223, some ⟨[(intA (0)), (intA (0))], 29⟩) :: (100144, some ⟨[(intA z82), (intA z83), (intA z84), (intA z85), (intA z86), (intA z87)], 40⟩) :: (100144, some ⟨[(intA (0)), (intA (0)), (intA (0)), (intA (0)), (intA (0)), (intA (0))], 40⟩) :: (100072, some ⟨[(intA z66), (intA z67), (intA z68), (intA z69), (intA z70), (intA z71)], 40⟩) :: (100072, some ⟨[(intA (0)), (intA (0)), (intA (0)), (intA (0)), (intA (0)), (intA (0))], 40⟩) :: m)) 100234) fun v96 =>
ex_i64 v96 fun z97 =>
opP (opA pg (.call ⟨.builtin .max, #[.tmp 0, .tmp 1, .tmp 2, .tmp 3, .tmp 4, .tmp 5], #[3, 3, 3, 3, 3, 3]⟩) 3 [(intA z92), (intA z95), (intA z93), (intA z97), (intA (IntKind.wrap .i64 (z69 - z85))), (intA (IntKind.wrap .i64 (z85 - z69)))] (mget ((100223, some ⟨[(intA z92), (intA z93)], 29⟩) :: (100223, some ⟨[(intA (0)), (intA (0))], 29⟩) :: (100144, some ⟨[(intA z82), (intA z83), (intA z84), (intA z85), (intA z86), (intA z87)], 40⟩) :: (100144, some ⟨[(intA (0)), (intA (0)), (intA (0)), (intA (0)), (intA (0)), (intA (0))], 40⟩) :: (100072, some ⟨[(intA z66), (intA z67), (intA z68), (intA z69), (intA z70), (intA z71)], 40⟩) :: (100072, some ⟨[(intA (0)), (intA (0)), (intA (0)), (intA (0)), (intA (0)), (intA (0))], 40⟩) :: m)) 100249) fun v98 =>
ex_i64 v98 fun z99 =>
bif (decide (z99 > (1))) then (
retL R ((100223, some ⟨[(intA z92), (intA z93)], 29⟩) :: (100223, some ⟨[(intA (0)), (intA (0))], 29⟩) :: (100144, some ⟨[(intA z82), (intA z83), (intA z84), (intA z85), (intA z86), (intA z87)], 40⟩) :: (100144, some ⟨[(intA (0)), (intA (0)), (intA (0)), (intA (0)), (intA (0)), (intA (0))], 40⟩) :: (100072, some ⟨[(intA z66), (intA z67), (intA z68), (intA z69), (intA z70), (intA z71)], 40⟩) :: (100072, some ⟨[(intA (0)), (intA (0)), (intA (0)), (intA (0)), (intA (0)), (intA (0))], 40⟩) :: m) [some (boolA false)]) else (
bif (t13 == t2) then (
opP (opA pg (.binOp .neq 38 (.tmp 0) (.tmp 1) 38) 4 [(AV.agg [(intA z66), (intA z67), (intA z68), (intA z69)]), (AV.agg [(intA z82), (intA z83), (intA z84), (intA z85)])] (mget ((100223, some ⟨[(intA z92), (intA z93)], 29⟩) :: (100223, some ⟨[(intA (0)), (intA (0))], 29⟩) :: (100144, some ⟨[(intA z82), (intA z83), (intA z84), (intA z85), (intA z86), (intA z87)], 40⟩) :: (100144, some ⟨[(intA (0)), (intA (0)), (intA (0)), (intA (0)), (intA (0)), (intA (0))], 40⟩) :: (100072, some ⟨[(intA z66), (intA z67), (intA z68), (intA z69), (intA z70), (intA z71)], 40⟩) :: (100072, some ⟨[(intA (0)), (intA (0)), (intA (0)), (intA (0)), (intA (0)), (intA (0))], 40⟩) :: m)) 100260) fun v100 =>
exB v100 fun b101 =>
bif b101 then (
retL R ((100223, some ⟨[(intA z92), (intA z93)], 29⟩) :: (100223, some ⟨[(intA (0)), (intA (0))], 29⟩) :: (100144, some ⟨[(intA z82), (intA z83), (intA z84), (intA z85), (intA z86), (intA z87)], 40⟩) :: (100144, some ⟨[(intA (0)), (intA (0)), (intA (0)), (intA (0)), (intA (0)), (intA (0))], 40⟩) :: (100072, some ⟨[(intA z66), (intA z67), (intA z68), (intA z69), (intA z70), (intA z71)], 40⟩) :: (100072, some ⟨[(intA (0)), (intA (0)), (intA (0)), (intA (0)), (intA (0)), (intA (0))], 40⟩) :: m) [some (boolA false)]) else (
N0 ⟨[(0, t0), (2, (intA t2)), (10, (boolA t10)), (11, t11), (13, (intA (IntKind.wrap .i64 (t13 + (1))))), (60, (intA t13)), (61, (intA t2)), (62, (boolA (decide (t13 ≤ t2)))), (66, t0), (67, (intA t13)), (68, (AV.tup [(AV.agg [(intA z66), (intA z67), (intA z68), (intA z69), (intA z70), (intA z71)]), (intA z72)])), (65, (AV.tup [(AV.agg [(intA z66), (intA z67), (intA z68), (intA z69), (intA z70), (intA z71)]), (intA z72)])), (69, (AV.agg [(intA z66), (intA z67), (intA z68), (intA z69), (intA z70), (intA z71)])), (70, (intA z72)), (14, (AV.ptr 100072 0)), (15, (intA z72)), (72, t11), (73, (intA t13)), (74, (AV.tup [(AV.agg [(intA z82), (intA z83), (intA z84), (intA z85), (intA z86), (intA z87)]), (intA z88)])), (71, (AV.tup [(AV.agg [(intA z82), (intA z83), (intA z84), (intA z85), (intA z86), (intA z87)]), (intA z88)])), (75, (AV.agg [(intA z82), (intA z83), (intA z84), (intA z85), (intA z86), (intA z87)])), (76, (intA z88)), (16, (AV.ptr 100144 0)), (17, (intA z88)), (77, (intA z72)), (78, (boolA (z72 != (0)))), (79, (boolA false)), (80, (intA z88)), (81, (boolA (z88 != (0)))), (82, (boolA (z88 != (0)))), (83, (AV.ptr 100072 0)), (84, (AV.ptr 100072 1)), (85, (AV.agg [(intA z67), (intA z68)])), (86, (AV.ptr 100144 0)), (87, (AV.ptr 100144 1)), (88, (AV.agg [(intA z83), (intA z84)])), (89, (AV.agg [(intA z92), (intA z93)])), (18, (AV.ptr 100223 0)), (90, (AV.ptr 100223 0)), (91, (intA z92)), (92, (AV.ptr 100223 0)), (93, (intA z92)), (94, (intA z95)), (95, (AV.ptr 100223 1)), (96, (intA z93)), (97, (AV.ptr 100223 1)), (98, (intA z93)), (99, (intA z97)), (100, (AV.ptr 100072 0)), (101, (AV.ptr 100072 3)), (102, (intA z69)), (103, (AV.ptr 100144 0)), (104, (AV.ptr 100144 3)), (105, (intA z85)), (106, (intA (IntKind.wrap .i64 (z69 - z85)))), (107, (AV.ptr 100144 0)), (108, (AV.ptr 100144 3)), (109, (intA z85)), (110, (AV.ptr 100072 0)), (111, (AV.ptr 100072 3)), (112, (intA z69)), (113, (intA (IntKind.wrap .i64 (z85 - z69)))), (114, (intA z99)), (115, (boolA (decide (z99 > (1))))), (116, (boolA false)), (117, (intA t13)), (118, (intA t2)), (119, (boolA (t13 == t2))), (120, (boolA true)), (121, (AV.ptr 100072 0)), (122, (AV.agg [(intA z66), (intA z67), (intA z68), (intA z69)])), (123, (AV.ptr 100144 0)), (124, (AV.agg [(intA z82), (intA z83), (intA z84), (intA z85)])), (125, (boolA b101)), (126, (boolA b101)), (127, (boolA b101)), (63, (intA t13)), (64, (intA (IntKind.wrap .i64 (t13 + (1)))))], ((100223, some ⟨[(intA z92), (intA z93)], 29⟩) :: (100223, some ⟨[(intA (0)), (intA (0))], 29⟩) :: (100144, some ⟨[(intA z82), (intA z83), (intA z84), (intA z85), (intA z86), (intA z87)], 40⟩) :: (100144, some ⟨[(intA (0)), (intA (0)), (intA (0)), (intA (0)), (intA (0)), (intA (0))], 40⟩) :: (100072, some ⟨[(intA z66), (intA z67), (intA z68), (intA z69), (intA z70), (intA z71)], 40⟩) :: (100072, some ⟨[(intA (0)), (intA (0)), (intA (0)), (intA (0)), (intA (0)), (intA (0))], 40⟩) :: m), 100266⟩)) else (
N0 ⟨[(0, t0), (2, (intA t2)), (10, (boolA t10)), (11, t11), (13, (intA (IntKind.wrap .i64 (t13 + (1))))), (60, (intA t13)), (61, (intA t2)), (62, (boolA (decide (t13 ≤ t2)))), (66, t0), (67, (intA t13)), (68, (AV.tup [(AV.agg [(intA z66), (intA z67), (intA z68), (intA z69), (intA z70), (intA z71)]), (intA z72)])), (65, (AV.tup [(AV.agg [(intA z66), (intA z67), (intA z68), (intA z69), (intA z70), (intA z71)]), (intA z72)])), (69, (AV.agg [(intA z66), (intA z67), (intA z68), (intA z69), (intA z70), (intA z71)])), (70, (intA z72)), (14, (AV.ptr 100072 0)), (15, (intA z72)), (72, t11), (73, (intA t13)), (74, (AV.tup [(AV.agg [(intA z82), (intA z83), (intA z84), (intA z85), (intA z86), (intA z87)]), (intA z88)])), (71, (AV.tup [(AV.agg [(intA z82), (intA z83), (intA z84), (intA z85), (intA z86), (intA z87)]), (intA z88)])), (75, (AV.agg [(intA z82), (intA z83), (intA z84), (intA z85), (intA z86), (intA z87)])), (76, (intA z88)), (16, (AV.ptr 100144 0)), (17, (intA z88)), (77, (intA z72)), (78, (boolA (z72 != (0)))), (79, (boolA false)), (80, (intA z88)), (81, (boolA (z88 != (0)))), (82, (boolA (z88 != (0)))), (83, (AV.ptr 100072 0)), (84, (AV.ptr 100072 1)), (85, (AV.agg [(intA z67), (intA z68)])), (86, (AV.ptr 100144 0)), (87, (AV.ptr 100144 1)), (88, (AV.agg [(intA z83), (intA z84)])), (89, (AV.agg [(intA z92), (intA z93)])), (18, (AV.ptr 100223 0)), (90, (AV.ptr 100223 0)), (91, (intA z92)), (92, (AV.ptr 100223 0)), (93, (intA z92)), (94, (intA z95)), (95, (AV.ptr 100223 1)), (96, (intA z93)), (97, (AV.ptr 100223 1)), (98, (intA z93)), (99, (intA z97)), (100, (AV.ptr 100072 0)), (101, (AV.ptr 100072 3)), (102, (intA z69)), (103, (AV.ptr 100144 0)), (104, (AV.ptr 100144 3)), (105, (intA z85)), (106, (intA (IntKind.wrap .i64 (z69 - z85)))), (107, (AV.ptr 100144 0)), (108, (AV.ptr 100144 3)), (109, (intA z85)), (110, (AV.ptr 100072 0)), (111, (AV.ptr 100072 3)), (112, (intA z69)), (113, (intA (IntKind.wrap .i64 (z85 - z69)))), (114, (intA z99)), (115, (boolA (decide (z99 > (1))))), (116, (boolA false)), (117, (intA t13)), (118, (intA t2)), (119, (boolA (t13 == t2))), (120, (boolA false)), (121, (AV.tup [])), (122, (AV.tup [])), (123, (AV.tup [])), (124, (AV.tup [])), (125, (AV.tup [])), (126, (boolA false)), (127, (boolA false)), (63, (intA t13)), (64, (intA (IntKind.wrap .i64 (t13 + (1)))))], ((100223, some ⟨[(intA z92), (intA z93)], 29⟩) :: (100223, some ⟨[(intA (0)), (intA (0))], 29⟩) :: (100144, some ⟨[(intA z82), (intA z83), (intA z84), (intA z85), (intA z86), (intA z87)], 40⟩) :: (100144, some ⟨[(intA (0)), (intA (0)), (intA (0)), (intA (0)), (intA (0)), (intA (0))], 40⟩) :: (100072, some ⟨[(intA z66), (intA z67), (intA z68), (intA z69), (intA z70), (intA z71)], 40⟩) :: (100072, some ⟨[(intA (0)), (intA (0)), (intA (0)), (intA (0)), (intA (0)), (intA (0))], 40⟩) :: m), 100261⟩))))) else (
retL R m [some (boolA true)])
theorem B3_0_eq (t0 : AV) (t2 : Int) (t10 : Bool) (t11 : AV) (t13 : Int) (m : Mem) (R : AV → Mem → Prop) (N0 : St → Prop) : W pg KK 128 0 c3_0 (h3_0 t0 t2 t10 t11 t13 m) (qq3_0 R N0) = B3_0 t0 t2 t10 t11 t13 m R N0 := by kernel_rfl
theorem L3_0 (R : AV → Mem → Prop) {σ : Type} (I : σ → Prop) (t0 : σ → AV) (t2 : σ → Int) (t10 : σ → Bool) (t11 : σ → AV) (t13 : σ → Int) (m : σ → Mem) (μ : σ → Nat) (step : ∀ x, I x → B3_0 (t0 x) (t2 x) (t10 x) (t11 x) (t13 x) (m x) R (fun s' => ∃ y, I y ∧ μ y < μ x ∧ Weak KK 128 0 s' (h3_0 (t0 y) (t2 y) (t10 y) (t11 y) (t13 y) (m y)))) (x : σ) (hx : I x) {s : St} (hw : Weak KK 128 0 s (h3_0 (t0 x) (t2 x) (t10 x) (t11 x) (t13 x) (m x))) : Tri pg KK 128 0 (.loop c3_0) s (q3_0 R) :=
  Tri.weak hw (Tri.loops fol I (fun x => h3_0 (t0 x) (t2 x) (t10 x) (t11 x) (t13 x) (m x)) μ (fun x hx => (B3_0_eq (t0 x) (t2 x) (t10 x) (t11 x) (t13 x) (m x) R _).mpr (step x hx)) x hx)
noncomputable def F3 (a0 : AV) (a1_0 : ByteArray) (a1_1 : Int) (a1_2 : Int) (a1_3 : ByteArray) (a2 : Int) (a3_0 : ByteArray) (a3_1 : Int) (a3_2 : Int) (a3_3 : Int) (a3_4 : Int) (a3_5 : Int) (a3_6 : Int) (a4_0 : Int) (a4_1 : Int) (R : AV → Mem → Prop) : Prop :=
callQ pg KK.gl ((2, some ⟨[(intA a4_0), (intA a4_1)], 29⟩) :: (1, some ⟨[(AV.sc (.string a3_0)), (intA a3_1), (intA a3_2), (intA a3_3), (intA a3_4), (intA a3_5), (intA a3_6)], 27⟩) :: (0, some ⟨[(AV.sc (.string a1_0)), (intA a1_1), (intA a1_2), (AV.sc (.string a1_3))], 25⟩) :: []) 4 [] fun v0 =>
exB v0 fun b1 =>
bif (!b1) then (
retL R ((2, some ⟨[(intA a4_0), (intA a4_1)], 29⟩) :: (1, some ⟨[(AV.sc (.string a3_0)), (intA a3_1), (intA a3_2), (intA a3_3), (intA a3_4), (intA a3_5), (intA a3_6)], 27⟩) :: (0, some ⟨[(AV.sc (.string a1_0)), (intA a1_1), (intA a1_2), (AV.sc (.string a1_3))], 25⟩) :: []) [some (boolA false)]) else (
opN (bsl 70 23 1 1 [AV.nils] [(0, a0)]) ((2, some ⟨[(intA a4_0), (intA a4_1)], 29⟩) :: (1, some ⟨[(AV.sc (.string a3_0)), (intA a3_1), (intA a3_2), (intA a3_3), (intA a3_4), (intA a3_5), (intA a3_6)], 27⟩) :: (0, some ⟨[(AV.sc (.string a1_0)), (intA a1_1), (intA a1_2), (AV.sc (.string a1_3))], 25⟩) :: []) fun v2 m2 =>
callQ pg KK.gl m2 5 [v2, (intA (1)), (intA (400))] fun v3 =>
exB v3 fun b4 =>
bif (!b4) then (
retL R m2 [some (boolA true)]) else (
opP (ldA (mget m2) 4 (AV.ptr 0 0)) fun v5 =>
exA4 v5 fun c6 c7 c8 c9 =>
exStr c6 fun s10 =>
ex_i64 c7 fun z11 =>
ex_i64 c8 fun z12 =>
exStr c9 fun s13 =>
opP (ldA (mget m2) 7 (AV.ptr 1 0)) fun v14 =>
exA7 v14 fun c15 c16 c17 c18 c19 c20 c21 =>
exStr c15 fun s22 =>
ex_i64 c16 fun z23 =>
ex_i64 c17 fun z24 =>
ex_i64 c18 fun z25 =>
ex_i64 c19 fun z26 =>
ex_i64 c20 fun z27 =>
ex_i64 c21 fun z28 =>
opP (ldA (mget m2) 2 (AV.ptr 2 0)) fun v29 =>
exA2 v29 fun c30 c31 =>
ex_i64 c30 fun z32 =>
ex_i64 c31 fun z33 =>
callQ pg KK.gl m2 6 [a0, (AV.agg [(AV.sc (.string s10)), (intA z11), (intA z12), (AV.sc (.string s13))]), (intA a2), (AV.agg [(AV.sc (.string s22)), (intA z23), (intA z24), (intA z25), (intA z26), (intA z27), (intA z28)]), (AV.agg [(intA z32), (intA z33)])] fun v34 =>
exT2 v34 fun c35 c36 =>
ex_i64 c36 fun z37 =>
bif (z37 != (0)) then (
opP (lenS c35) fun v38 =>
ex_i64 v38 fun z39 =>
retL R m2 [some (boolA (z39 == (0)))]) else (
callQ pg KK.gl m2 7 [c35] fun v40 =>
ex_i64 v40 fun z41 =>
bif (z41 != (0)) then (
retL R m2 [some (boolA false)]) else (
opP (idxS 6 c35 (intA (0))) fun v42 =>
opP (fldO 0 v42) fun v43 =>
opP (fldO 0 v43) fun v44 =>
opP (ldS (mget m2) v44) fun v45 =>
ex_i64 v45 fun z46 =>
opP (idxS 6 a0 (intA (0))) fun v47 =>
opP (fldO 0 v47) fun v48 =>
opP (fldO 0 v48) fun v49 =>
opP (ldS (mget m2) v49) fun v50 =>
ex_i64 v50 fun z51 =>
bif (z46 != z51) then (
retL R m2 [some (boolA false)]) else (
opP (idxS 6 a0 (intA (0))) fun v52 =>
opP (fldO 0 v52) fun v53 =>
opP (fldO 0 v53) fun v54 =>
opP (ldS (mget m2) v54) fun v55 =>
ex_i64 v55 fun z56 =>
Tri pg KK 128 0 (.loop c3_0) ⟨[(0, a0), (1, (AV.agg [(AV.sc (.string a1_0)), (intA a1_1), (intA a1_2), (AV.sc (.string a1_3))])), (2, (intA a2)), (3, (AV.agg [(AV.sc (.string a3_0)), (intA a3_1), (intA a3_2), (intA a3_3), (intA a3_4), (intA a3_5), (intA a3_6)])), (4, (AV.agg [(intA a4_0), (intA a4_1)])), (6, (AV.ptr 0 0)), (8, (AV.ptr 1 0)), (9, (AV.ptr 2 0)), (10, (boolA false)), (19, (boolA b1)), (20, (boolA (!b1))), (21, a0), (22, v2), (23, (boolA b4)), (24, (boolA (!b4))), (26, a0), (27, (AV.agg [(AV.sc (.string s10)), (intA z11), (intA z12), (AV.sc (.string s13))])), (28, (intA a2)), (29, (AV.agg [(AV.sc (.string s22)), (intA z23), (intA z24), (intA z25), (intA z26), (intA z27), (intA z28)])), (30, (AV.agg [(intA z32), (intA z33)])), (31, (AV.tup [c35, (intA z37)])), (25, (AV.tup [c35, (intA z37)])), (32, c35), (33, (intA z37)), (11, c35), (12, (intA z37)), (34, (intA z37)), (35, (boolA (z37 != (0)))), (39, c35), (40, (intA z41)), (41, (boolA (z41 != (0)))), (42, (boolA false)), (43, c35), (44, v42), (45, v43), (46, v44), (47, (intA z46)), (48, a0), (49, v47), (50, v48), (51, v49), (52, (intA z51)), (53, (boolA (z46 != z51))), (54, (boolA (z46 != z51))), (55, a0), (56, v52), (57, v53), (58, v54), (59, (intA z56)), (13, (intA z56))], m2, 234⟩ (q3_0 R))))))
theorem F3_own (a0 : AV) (a1_0 : ByteArray) (a1_1 : Int) (a1_2 : Int) (a1_3 : ByteArray) (a2 : Int) (a3_0 : ByteArray) (a3_1 : Int) (a3_2 : Int) (a3_3 : Int) (a3_4 : Int) (a3_5 : Int) (a3_6 : Int) (a4_0 : Int) (a4_1 : Int) (R : AV → Mem → Prop) (h : F3 a0 a1_0 a1_1 a1_2 a1_3 a2 a3_0 a3_1 a3_2 a3_3 a3_4 a3_5 a3_6 a4_0 a4_1 R) : Own pg KK.gl 3 [a0, (AV.agg [(AV.sc (.string a1_0)), (intA a1_1), (intA a1_2), (AV.sc (.string a1_3))]), (intA a2), (AV.agg [(AV.sc (.string a3_0)), (intA a3_1), (intA a3_2), (intA a3_3), (intA a3_4), (intA a3_5), (intA a3_6)]), (AV.agg [(intA a4_0), (intA a4_1)])] R := own_of_F fol Tryd.func3 (code := c3) (by kernel_rfl) (by kernel_rfl) (by kernel_rfl) (X := F3 a0 a1_0 a1_1 a1_2 a1_3 a2 a3_0 a3_1 a3_2 a3_3 a3_4 a3_5 a3_6 a4_0 a4_1 R) (by kernel_rfl) h
/- slices.Clone[skyway/api.Tube,skyway/api.TubeNode] -/
noncomputable def c22 : Code := ((Tryd.f22).body).getD .skip
noncomputable def q22 (R : AV → Mem → Prop) : AExit → St → Prop := retQ pg Tryd.f22 R
noncomputable def F22 (a0 : AV) (R : AV → Mem → Prop) : Prop :=
nilK a0 fun b0 =>
bif b0 then (
retL R [] [some AV.nils]) else (
opN (bsl 3 40 6 0 [(intA (0)), (intA (0)), (intA (0)), (intA (0)), (intA (0)), (intA (0))] []) [] fun v2 m2 =>
opN (app (mget m2) 40 6 48 [(intA (0)), (intA (0)), (intA (0)), (intA (0)), (intA (0)), (intA (0))] 5 v2 a0) m2 fun v3 m3 =>
retL R m3 [some v3])
theorem F22_own (a0 : AV) (R : AV → Mem → Prop) (h : F22 a0 R) : Own pg KK.gl 22 [a0] R := own_of_F fol Tryd.func22 (code := c22) (by kernel_rfl) (by kernel_rfl) (by kernel_rfl) (X := F22 a0 R) (by kernel_rfl) h
/- slices.Concat[skyway/api.Tube,skyway/api.TubeNode] -/
noncomputable def c23 : Code := ((Tryd.f23).body).getD .skip
noncomputable def q23 (R : AV → Mem → Prop) : AExit → St → Prop := retQ pg Tryd.f23 R
noncomputable def c23_0 : Code := loopB c23 0
noncomputable def q23_0 (R : AV → Mem → Prop) : AExit → St → Prop := contW pg KK 36 0 c23 0 (q23 R)
noncomputable def qq23_0 (R : AV → Mem → Prop) (N0 : St → Prop) : AExit → St → Prop := thenQ N0 (q23_0 R)
def h23_0 (t0 : AV) (t2 : AV) (t3 : Int) (t9 : AV) (t10 : Int) (t11 : Int) (m : Mem) : St := ⟨[(0, t0), (2, t2), (3, (intA t3)), (9, t9), (10, (intA t10)), (11, (intA t11))], m, 100000⟩
noncomputable def c23_1 : Code := loopB c23 1
noncomputable def q23_1 (R : AV → Mem → Prop) : AExit → St → Prop := contW pg KK 36 0 c23 1 (q23 R)
noncomputable def qq23_1 (R : AV → Mem → Prop) (N0 : St → Prop) : AExit → St → Prop := thenQ N0 (q23_1 R)
def h23_1 (t2 : AV) (t6 : AV) (t25 : AV) (t26 : Int) (t27 : Int) (m : Mem) : St := ⟨[(2, t2), (6, t6), (25, t25), (26, (intA t26)), (27, (intA t27))], m, 200000⟩
noncomputable def B23_0 (t0 : AV) (t2 : AV) (t3 : Int) (t9 : AV) (t10 : Int) (t11 : Int) (m : Mem) (R : AV → Mem → Prop) (N0 : St → Prop) : Prop :=
bif (decide (t11 < t10)) then (
opP (idxS 1 t9 (intA t11)) fun v2 =>
opP (ldS (mget m) v2) fun v3 =>
opP (lenS v3) fun v4 =>
ex_i64 v4 fun z5 =>
bif (decide ((IntKind.wrap .i64 (t3 + z5)) < (0))) then (
opP (opA pg (.makeInterface 9 (.tmp 0)) 20 [(AV.sc (.string ⟨#[108, 101, 110, 32, 111, 117, 116, 32, 111, 102, 32, 114, 97, 110, 103, 101]⟩))] (mget m) 100011) fun v6 =>
opP (opA pg (.panic (.tmp 0)) 0 [v6] (mget m) 100012) fun v7 =>
N0 ⟨[(0, t0), (2, t2), (3, (intA (IntKind.wrap .i64 (t3 + z5)))), (9, t9), (10, (intA t10)), (11, (intA (IntKind.wrap .i64 (t11 + (1))))), (12, (boolA (decide (t11 < t10)))), (13, v2), (14, v3), (5, v3), (15, (intA t3)), (16, v3), (17, (intA z5)), (18, (intA (IntKind.wrap .i64 (t3 + z5)))), (19, (intA (IntKind.wrap .i64 (t3 + z5)))), (20, (boolA (decide ((IntKind.wrap .i64 (t3 + z5)) < (0))))), (21, v6), (22, (intA (IntKind.wrap .i64 (t11 + (1)))))], m, 100015⟩) else (
N0 ⟨[(0, t0), (2, t2), (3, (intA (IntKind.wrap .i64 (t3 + z5)))), (9, t9), (10, (intA t10)), (11, (intA (IntKind.wrap .i64 (t11 + (1))))), (12, (boolA (decide (t11 < t10)))), (13, v2), (14, v3), (5, v3), (15, (intA t3)), (16, v3), (17, (intA z5)), (18, (intA (IntKind.wrap .i64 (t3 + z5)))), (19, (intA (IntKind.wrap .i64 (t3 + z5)))), (20, (boolA (decide ((IntKind.wrap .i64 (t3 + z5)) < (0))))), (22, (intA (IntKind.wrap .i64 (t11 + (1)))))], m, 100013⟩)) else (
callW pg KK.gl m 100002 33 [AV.nils, (intA t3)] fun v8 m8 =>
opP (lenS t0) fun v9 =>
ex_i64 v9 fun z10 =>
Tri pg KK 36 0 (.loop c23_1) ⟨[(0, t0), (2, t2), (3, (intA t3)), (9, t9), (10, (intA t10)), (11, (intA t11)), (12, (boolA (decide (t11 < t10)))), (23, (intA t3)), (24, v8), (6, v8), (25, t0), (26, (intA z10)), (27, (intA (0)))], m8, 100070⟩ (q23_1 R))
theorem B23_0_eq (t0 : AV) (t2 : AV) (t3 : Int) (t9 : AV) (t10 : Int) (t11 : Int) (m : Mem) (R : AV → Mem → Prop) (N0 : St → Prop) : W pg KK 36 0 c23_0 (h23_0 t0 t2 t3 t9 t10 t11 m) (qq23_0 R N0) = B23_0 t0 t2 t3 t9 t10 t11 m R N0 := by kernel_rfl
theorem L23_0 (R : AV → Mem → Prop) {σ : Type} (I : σ → Prop) (t0 : σ → AV) (t2 : σ → AV) (t3 : σ → Int) (t9 : σ → AV) (t10 : σ → Int) (t11 : σ → Int) (m : σ → Mem) (μ : σ → Nat) (step : ∀ x, I x → B23_0 (t0 x) (t2 x) (t3 x) (t9 x) (t10 x) (t11 x) (m x) R (fun s' => ∃ y, I y ∧ μ y < μ x ∧ Weak KK 36 0 s' (h23_0 (t0 y) (t2 y) (t3 y) (t9 y) (t10 y) (t11 y) (m y)))) (x : σ) (hx : I x) {s : St} (hw : Weak KK 36 0 s (h23_0 (t0 x) (t2 x) (t3 x) (t9 x) (t10 x) (t11 x) (m x))) : Tri pg KK 36 0 (.loop c23_0) s (q23_0 R) :=
  Tri.weak hw (Tri.loops fol I (fun x => h23_0 (t0 x) (t2 x) (t3 x) (t9 x) (t10 x) (t11 x) (m x)) μ (fun x hx => (B23_0_eq (t0 x) (t2 x) (t3 x) (t9 x) (t10 x) (t11 x) (m x) R _).mpr (step x hx)) x hx)
noncomputable def B23_1 (t2 : AV) (t6 : AV) (t25 : AV) (t26 : Int) (t27 : Int) (m : Mem) (R : AV → Mem → Prop) (N0 : St → Prop) : Prop :=
bif (decide (t27 < t26)) then (
opP (idxS 1 t25 (intA t27)) fun v11 =>
opP (ldS (mget m) v11) fun v12 =>
opN (app (mget m) 40 6 48 [(intA (0)), (intA (0)), (intA (0)), (intA (0)), (intA (0)), (intA (0))] 200006 t6 v12) m fun v13 m13 =>
N0 ⟨[(2, t2), (6, v13), (25, t25), (26, (intA t26)), (27, (intA (IntKind.wrap .i64 (t27 + (1))))), (28, (boolA (decide (t27 < t26)))), (29, v11), (30, v12), (8, v12), (31, t6), (32, v12), (33, v13), (34, (intA (IntKind.wrap .i64 (t27 + (1)))))], m13, 200010⟩) else (
retL R m [some t6])
theorem B23_1_eq (t2 : AV) (t6 : AV) (t25 : AV) (t26 : Int) (t27 : Int) (m : Mem) (R : AV → Mem → Prop) (N0 : St → Prop) : W pg KK 36 0 c23_1 (h23_1 t2 t6 t25 t26 t27 m) (qq23_1 R N0) = B23_1 t2 t6 t25 t26 t27 m R N0 := by kernel_rfl
theorem L23_1 (R : AV → Mem → Prop) {σ : Type} (I : σ → Prop) (t2 : σ → AV) (t6 : σ → AV) (t25 : σ → AV) (t26 : σ → Int) (t27 : σ → Int) (m : σ → Mem) (μ : σ → Nat) (step : ∀ x, I x → B23_1 (t2 x) (t6 x) (t25 x) (t26 x) (t27 x) (m x) R (fun s' => ∃ y, I y ∧ μ y < μ x ∧ Weak KK 36 0 s' (h23_1 (t2 y) (t6 y) (t25 y) (t26 y) (t27 y) (m y)))) (x : σ) (hx : I x) {s : St} (hw : Weak KK 36 0 s (h23_1 (t2 x) (t6 x) (t25 x) (t26 x) (t27 x) (m x))) : Tri pg KK 36 0 (.loop c23_1) s (q23_1 R) :=
  Tri.weak hw (Tri.loops fol I (fun x => h23_1 (t2 x) (t6 x) (t25 x) (t26 x) (t27 x) (m x)) μ (fun x hx => (B23_1_eq (t2 x) (t6 x) (t25 x) (t26 x) (t27 x) (m x) R _).mpr (step x hx)) x hx)
noncomputable def F23 (a0 : AV) (R : AV → Mem → Prop) : Prop :=
opP (lenS a0) fun v0 =>
ex_i64 v0 fun z1 =>
Tri pg KK 36 0 (.loop c23_0) ⟨[(0, a0), (2, AV.nils), (3, (intA (0))), (9, a0), (10, (intA z1)), (11, (intA (0)))], [], 5⟩ (q23_0 R)
theorem F23_own (a0 : AV) (R : AV → Mem → Prop) (h : F23 a0 R) : Own pg KK.gl 23 [a0] R := own_of_F fol Tryd.func23 (code := c23) (by kernel_rfl) (by kernel_rfl) (by kernel_rfl) (X := F23 a0 R) (by kernel_rfl) h
/- slices.Grow[skyway/api.Tube,skyway/api.TubeNode] -/
noncomputable def c33 : Code := ((Tryd.f33).body).getD .skip
noncomputable def q33 (R : AV → Mem → Prop) : AExit → St → Prop := retQ pg Tryd.f33 R
noncomputable def F33 (a0 : AV) (a1 : Int) (R : AV → Mem → Prop) : Prop :=
bif (decide (a1 < (0))) then (
opP (opA pg (.makeInterface 9 (.tmp 0)) 20 [(AV.sc (.string ⟨#[99, 97, 110, 110, 111, 116, 32, 98, 101, 32, 110, 101, 103, 97, 116, 105, 118, 101]⟩))] (mget []) 3) fun v0 =>
opP (opA pg (.panic (.tmp 0)) 0 [v0] (mget []) 4) fun v1 =>
opP (opA pg (.call ⟨.builtin .cap, #[.tmp 0], #[23]⟩) 3 [a0] (mget []) 7) fun v2 =>
ex_i64 v2 fun z3 =>
opP (lenS a0) fun v4 =>
ex_i64 v4 fun z5 =>
bif (decide ((IntKind.wrap .i64 (a1 - (IntKind.wrap .i64 (z3 - z5)))) > (0))) then (
opP (opA pg (.call ⟨.builtin .cap, #[.tmp 0], #[23]⟩) 3 [a0] (mget []) 17) fun v6 =>
ex_i64 v6 fun z7 =>
opP (opA pg (.slice 23 (.tmp 0) none (some (.tmp 1)) none) 23 [a0, (intA z7)] (mget []) 18) fun v8 =>
opN (opA pg (.call ⟨.builtin .append, #[.tmp 0, .tmp 1], #[23, 3]⟩) 23 [v8, (intA (IntKind.wrap .i64 (a1 - (IntKind.wrap .i64 (z3 - z5)))))] (mget []) 20) [] fun v9 m9 =>
opP (lenS a0) fun v10 =>
ex_i64 v10 fun z11 =>
opP (opA pg (.slice 23 (.tmp 0) none (some (.tmp 1)) none) 23 [v9, (intA z11)] (mget m9) 23) fun v12 =>
retL R m9 [some v12]) else (
retL R [] [some a0])) else (
opP (opA pg (.call ⟨.builtin .cap, #[.tmp 0], #[23]⟩) 3 [a0] (mget []) 5) fun v13 =>
ex_i64 v13 fun z14 =>
opP (lenS a0) fun v15 =>
ex_i64 v15 fun z16 =>
bif (decide ((IntKind.wrap .i64 (a1 - (IntKind.wrap .i64 (z14 - z16)))) > (0))) then (
opP (opA pg (.call ⟨.builtin .cap, #[.tmp 0], #[23]⟩) 3 [a0] (mget []) 15) fun v17 =>
ex_i64 v17 fun z18 =>
opP (opA pg (.slice 23 (.tmp 0) none (some (.tmp 1)) none) 23 [a0, (intA z18)] (mget []) 16) fun v19 =>
opN (opA pg (.call ⟨.builtin .append, #[.tmp 0, .tmp 1], #[23, 3]⟩) 23 [v19, (intA (IntKind.wrap .i64 (a1 - (IntKind.wrap .i64 (z14 - z16)))))] (mget []) 18) [] fun v20 m20 =>
opP (lenS a0) fun v21 =>
ex_i64 v21 fun z22 =>
opP (opA pg (.slice 23 (.tmp 0) none (some (.tmp 1)) none) 23 [v20, (intA z22)] (mget m20) 21) fun v23 =>
retL R m20 [some v23]) else (
retL R [] [some a0]))
theorem F33_own (a0 : AV) (a1 : Int) (R : AV → Mem → Prop) (h : F33 a0 a1 R) : Own pg KK.gl 33 [a0, (intA a1)] R := own_of_F fol Tryd.func33 (code := c33) (by kernel_rfl) (by kernel_rfl) (by kernel_rfl) (X := F33 a0 a1 R) (by kernel_rfl) h
/- slices.Insert[skyway/api.Tube,skyway/api.TubeNode] at 1 -/
noncomputable def F43n1 (a0 : AV) (a1 : Int) (a2 : AV) (m : Mem) (R : AV → Mem → Prop) : Prop :=
opP (opA pg (.slice 23 (.tmp 0) (some (.tmp 1)) none none) 23 [a0, (intA a1)] (mget m) 4) fun v0 =>
opP (lenS a2) fun v1 =>
ex_i64 v1 fun z2 =>
bif (z2 == (0)) then (
retL R m [some a0]) else (
opP (lenS a0) fun v3 =>
ex_i64 v3 fun z4 =>
bif (a1 == z4) then (
opN (app (mget m) 40 6 48 [(intA (0)), (intA (0)), (intA (0)), (intA (0)), (intA (0)), (intA (0))] 18 a0 a2) m fun v5 m5 =>
retL R m5 [some v5]) else (
opP (opA pg (.call ⟨.builtin .cap, #[.tmp 0], #[23]⟩) 3 [a0] (mget m) 20) fun v6 =>
ex_i64 v6 fun z7 =>
bif (decide ((IntKind.wrap .i64 (z4 + z2)) > z7)) then (
opP (opA pg (.slice 23 (.tmp 0) none (some (.tmp 1)) none) 23 [a0, (intA a1)] (mget m) 24) fun v8 =>
opN (opA pg (.call ⟨.builtin .append, #[.tmp 0, .tmp 1], #[23, 3]⟩) 23 [v8, (intA (IntKind.wrap .i64 ((IntKind.wrap .i64 (z4 + z2)) - a1)))] (mget m) 30) m fun v9 m9 =>
opP (opA pg (.slice 23 (.tmp 0) (some (.tmp 1)) none none) 23 [v9, (intA a1)] (mget m9) 34) fun v10 =>
opN (opA pg (.call ⟨.builtin .copy, #[.tmp 0, .tmp 1], #[23, 22]⟩) 3 [v10, a2] (mget m9) 36) m9 fun v11 m11 =>
ex_i64 v11 fun z12 =>
opM (opA pg (.slice 23 (.tmp 0) (some (.tmp 1)) none none) 23 [v9, (intA (IntKind.wrap .i64 (a1 + z2)))] (look' m11 (topId v9 ++ (topId (intA (IntKind.wrap .i64 (a1 + z2))) ++ ([])))) 41) fun v13 d13 =>
opM (opA pg (.slice 23 (.tmp 0) (some (.tmp 1)) none none) 23 [a0, (intA a1)] (look' (mpushs m11 d13) (topId a0 ++ (topId (intA a1) ++ ([])))) 44) fun v14 d14 =>
opM (opA pg (.call ⟨.builtin .copy, #[.tmp 0, .tmp 1], #[23, 23]⟩) 3 [v13, v14] (look' (mpushs (mpushs m11 d13) d14) (topId v13 ++ (topId v14 ++ ([])))) 45) fun v15 d15 =>
ex_i64 v15 fun z16 =>
chk (confOk [0, 0, 0, 6, 15, 0, 0, 96, 255] [⟨[], []⟩, ⟨[], []⟩, ⟨[], []⟩, ⟨[], []⟩, ⟨d13, (topId v9 ++ (topId (intA (IntKind.wrap .i64 (a1 + z2))) ++ ([])))⟩, ⟨[], []⟩, ⟨[], []⟩, ⟨d14, (topId a0 ++ (topId (intA a1) ++ ([])))⟩, ⟨d15, (topId v13 ++ (topId v14 ++ ([])))⟩]) (retL R (mpushs (mpushs (mpushs m11 d13) d14) d15) [some v9])) else (
opP (opA pg (.slice 23 (.tmp 0) none (some (.tmp 1)) none) 23 [a0, (intA (IntKind.wrap .i64 (z4 + z2)))] (mget m) 26) fun v17 =>
opP (opA pg (.slice 23 (.tmp 0) (some (.tmp 1)) none none) 23 [v17, (intA (IntKind.wrap .i64 (a1 + z2)))] (mget m) 33) fun v18 =>
callQ pg KK.gl m 49 [a2, v18] fun v19 =>
exB v19 fun b20 =>
bif (!b20) then (
opM (opA pg (.slice 23 (.tmp 0) (some (.tmp 1)) none none) 23 [v17, (intA (IntKind.wrap .i64 (a1 + z2)))] (look' m (topId v17 ++ (topId (intA (IntKind.wrap .i64 (a1 + z2))) ++ ([])))) 103) fun v21 d21 =>
opM (opA pg (.slice 23 (.tmp 0) (some (.tmp 1)) none none) 23 [v17, (intA a1)] (look' (mpushs m d21) (topId v17 ++ (topId (intA a1) ++ ([])))) 106) fun v22 d22 =>
opM (opA pg (.call ⟨.builtin .copy, #[.tmp 0, .tmp 1], #[23, 23]⟩) 3 [v21, v22] (look' (mpushs (mpushs m d21) d22) (topId v21 ++ (topId v22 ++ ([])))) 107) fun v23 d23 =>
ex_i64 v23 fun z24 =>
chk (confOk [0, 0, 0, 6, 15, 0, 0, 96, 255] [⟨[], []⟩, ⟨[], []⟩, ⟨[], []⟩, ⟨[], []⟩, ⟨d21, (topId v17 ++ (topId (intA (IntKind.wrap .i64 (a1 + z2))) ++ ([])))⟩, ⟨[], []⟩, ⟨[], []⟩, ⟨d22, (topId v17 ++ (topId (intA a1) ++ ([])))⟩, ⟨d23, (topId v21 ++ (topId v22 ++ ([])))⟩]) (opP (opA pg (.slice 23 (.tmp 0) (some (.tmp 1)) none none) 23 [v17, (intA a1)] (mget (mpushs (mpushs (mpushs m d21) d22) d23)) 110) fun v25 =>
opN (opA pg (.call ⟨.builtin .copy, #[.tmp 0, .tmp 1], #[23, 22]⟩) 3 [v25, a2] (mget (mpushs (mpushs (mpushs m d21) d22) d23)) 112) (mpushs (mpushs (mpushs m d21) d22) d23) fun v26 m26 =>
ex_i64 v26 fun z27 =>
retL R m26 [some v17])) else (
opP (opA pg (.slice 23 (.tmp 0) (some (.tmp 1)) none none) 23 [v17, (intA z4)] (mget m) 101) fun v28 =>
opN (opA pg (.call ⟨.builtin .copy, #[.tmp 0, .tmp 1], #[23, 22]⟩) 3 [v28, a2] (mget m) 103) m fun v29 m29 =>
ex_i64 v29 fun z30 =>
opP (opA pg (.slice 23 (.tmp 0) (some (.tmp 1)) none none) 23 [v17, (intA a1)] (mget m29) 106) fun v31 =>
callW pg KK.gl m29 108 50 [v31, (intA z2)] fun v32 m32 =>
exT0 v32 <|
retL R m32 [some v17]))))
theorem F43n1_call (a0 : AV) (a1 : Int) (a2 : AV) (m : Mem) (R : AV → Mem → Prop) (h : F43n1 a0 a1 a2 m R) : callN pg KK.gl m 1 43 [a0, (intA a1), a2] R := callN_of_F fol Tryd.func43 (code := ((Tryd.f43).body).getD .skip) (by kernel_rfl) (by kernel_rfl) (by kernel_rfl) (X := F43n1 a0 a1 a2 m R) (by kernel_rfl) h
/- slices.Insert[skyway/api.Tube,skyway/api.TubeNode] at 2 -/
noncomputable def F43n2 (a0 : AV) (a1 : Int) (a2 : AV) (m : Mem) (R : AV → Mem → Prop) : Prop :=
opP (opA pg (.slice 23 (.tmp 0) (some (.tmp 1)) none none) 23 [a0, (intA a1)] (mget m) 5) fun v0 =>
opP (lenS a2) fun v1 =>
ex_i64 v1 fun z2 =>
bif (z2 == (0)) then (
retL R m [some a0]) else (
opP (lenS a0) fun v3 =>
ex_i64 v3 fun z4 =>
bif (a1 == z4) then (
opN (app (mget m) 40 6 48 [(intA (0)), (intA (0)), (intA (0)), (intA (0)), (intA (0)), (intA (0))] 19 a0 a2) m fun v5 m5 =>
retL R m5 [some v5]) else (
opP (opA pg (.call ⟨.builtin .cap, #[.tmp 0], #[23]⟩) 3 [a0] (mget m) 21) fun v6 =>
ex_i64 v6 fun z7 =>
bif (decide ((IntKind.wrap .i64 (z4 + z2)) > z7)) then (
opP (opA pg (.slice 23 (.tmp 0) none (some (.tmp 1)) none) 23 [a0, (intA a1)] (mget m) 25) fun v8 =>
opN (opA pg (.call ⟨.builtin .append, #[.tmp 0, .tmp 1], #[23, 3]⟩) 23 [v8, (intA (IntKind.wrap .i64 ((IntKind.wrap .i64 (z4 + z2)) - a1)))] (mget m) 31) m fun v9 m9 =>
opP (opA pg (.slice 23 (.tmp 0) (some (.tmp 1)) none none) 23 [v9, (intA a1)] (mget m9) 35) fun v10 =>
opN (opA pg (.call ⟨.builtin .copy, #[.tmp 0, .tmp 1], #[23, 22]⟩) 3 [v10, a2] (mget m9) 37) m9 fun v11 m11 =>
ex_i64 v11 fun z12 =>
opM (opA pg (.slice 23 (.tmp 0) (some (.tmp 1)) none none) 23 [v9, (intA (IntKind.wrap .i64 (a1 + z2)))] (look' m11 (topId v9 ++ (topId (intA (IntKind.wrap .i64 (a1 + z2))) ++ ([])))) 42) fun v13 d13 =>
opM (opA pg (.slice 23 (.tmp 0) (some (.tmp 1)) none none) 23 [a0, (intA a1)] (look' (mpushs m11 d13) (topId a0 ++ (topId (intA a1) ++ ([])))) 45) fun v14 d14 =>
opM (opA pg (.call ⟨.builtin .copy, #[.tmp 0, .tmp 1], #[23, 23]⟩) 3 [v13, v14] (look' (mpushs (mpushs m11 d13) d14) (topId v13 ++ (topId v14 ++ ([])))) 46) fun v15 d15 =>
ex_i64 v15 fun z16 =>
chk (confOk [0, 0, 0, 6, 15, 0, 0, 96, 255] [⟨[], []⟩, ⟨[], []⟩, ⟨[], []⟩, ⟨[], []⟩, ⟨d13, (topId v9 ++ (topId (intA (IntKind.wrap .i64 (a1 + z2))) ++ ([])))⟩, ⟨[], []⟩, ⟨[], []⟩, ⟨d14, (topId a0 ++ (topId (intA a1) ++ ([])))⟩, ⟨d15, (topId v13 ++ (topId v14 ++ ([])))⟩]) (retL R (mpushs (mpushs (mpushs m11 d13) d14) d15) [some v9])) else (
opP (opA pg (.slice 23 (.tmp 0) none (some (.tmp 1)) none) 23 [a0, (intA (IntKind.wrap .i64 (z4 + z2)))] (mget m) 27) fun v17 =>
opP (opA pg (.slice 23 (.tmp 0) (some (.tmp 1)) none none) 23 [v17, (intA (IntKind.wrap .i64 (a1 + z2)))] (mget m) 34) fun v18 =>
callQ pg KK.gl m 49 [a2, v18] fun v19 =>
exB v19 fun b20 =>
bif (!b20) then (
opM (opA pg (.slice 23 (.tmp 0) (some (.tmp 1)) none none) 23 [v17, (intA (IntKind.wrap .i64 (a1 + z2)))] (look' m (topId v17 ++ (topId (intA (IntKind.wrap .i64 (a1 + z2))) ++ ([])))) 104) fun v21 d21 =>
opM (opA pg (.slice 23 (.tmp 0) (some (.tmp 1)) none none) 23 [v17, (intA a1)] (look' (mpushs m d21) (topId v17 ++ (topId (intA a1) ++ ([])))) 107) fun v22 d22 =>
opM (opA pg (.call ⟨.builtin .copy, #[.tmp 0, .tmp 1], #[23, 23]⟩) 3 [v21, v22] (look' (mpushs (mpushs m d21) d22) (topId v21 ++ (topId v22 ++ ([])))) 108) fun v23 d23 =>
ex_i64 v23 fun z24 =>
chk (confOk [0, 0, 0, 6, 15, 0, 0, 96, 255] [⟨[], []⟩, ⟨[], []⟩, ⟨[], []⟩, ⟨[], []⟩, ⟨d21, (topId v17 ++ (topId (intA (IntKind.wrap .i64 (a1 + z2))) ++ ([])))⟩, ⟨[], []⟩, ⟨[], []⟩, ⟨d22, (topId v17 ++ (topId (intA a1) ++ ([])))⟩, ⟨d23, (topId v21 ++ (topId v22 ++ ([])))⟩]) (opP (opA pg (.slice 23 (.tmp 0) (some (.tmp 1)) none none) 23 [v17, (intA a1)] (mget (mpushs (mpushs (mpushs m d21) d22) d23)) 111) fun v25 =>
opN (opA pg (.call ⟨.builtin .copy, #[.tmp 0, .tmp 1], #[23, 22]⟩) 3 [v25, a2] (mget (mpushs (mpushs (mpushs m d21) d22) d23)) 113) (mpushs (mpushs (mpushs m d21) d22) d23) fun v26 m26 =>
ex_i64 v26 fun z27 =>
retL R m26 [some v17])) else (
opP (opA pg (.slice 23 (.tmp 0) (some (.tmp 1)) none none) 23 [v17, (intA z4)] (mget m) 102) fun v28 =>
opN (opA pg (.call ⟨.builtin .copy, #[.tmp 0, .tmp 1], #[23, 22]⟩) 3 [v28, a2] (mget m) 104) m fun v29 m29 =>
ex_i64 v29 fun z30 =>
opP (opA pg (.slice 23 (.tmp 0) (some (.tmp 1)) none none) 23 [v17, (intA a1)] (mget m29) 107) fun v31 =>
callW pg KK.gl m29 109 50 [v31, (intA z2)] fun v32 m32 =>
exT0 v32 <|
retL R m32 [some v17]))))
theorem F43n2_call (a0 : AV) (a1 : Int) (a2 : AV) (m : Mem) (R : AV → Mem → Prop) (h : F43n2 a0 a1 a2 m R) : callN pg KK.gl m 2 43 [a0, (intA a1), a2] R := callN_of_F fol Tryd.func43 (code := ((Tryd.f43).body).getD .skip) (by kernel_rfl) (by kernel_rfl) (by kernel_rfl) (X := F43n2 a0 a1 a2 m R) (by kernel_rfl) h
end Go.Proofs.YtbbfpbngnkjkdaaDoor
