/- Functions of the program as conditions on their answers; printed by wip/Gen.lean.txt. -/
import Derived.Test.YtfncpfnanmoapaaX1T
set_option linter.unusedVariables false
set_option maxRecDepth 100000
set_option maxHeartbeats 4000000
namespace Go.Proofs.Ytfncpfnanmoapaa
/- slices.BinarySearchFunc[skyway/api.Tube,skyway/api.TubeNode,int] -/
noncomputable def c53 : Code := ((Try.f53).body).getD .skip
noncomputable def q53 (R : AV → Mem → Prop) : AExit → St → Prop := retQ Try.prog Try.f53 R
noncomputable def c53_0 : Code := loopB c53 0
noncomputable def q53_0 (R : AV → Mem → Prop) : AExit → St → Prop := contW Try.prog KK 49 0 c53 0 (q53 R)
noncomputable def qq53_0 (R : AV → Mem → Prop) (N0 : St → Prop) : AExit → St → Prop := thenQ N0 (q53_0 R)
def h53_0 (t0 : AV) (t1 : Int) (t2 : AV) (t6 : Int) (t7 : Bool) (t8 : Int) (t9 : Int) (t10 : Int) (m : Mem) : St := ⟨[(0, t0), (1, (intA t1)), (2, t2), (6, (intA t6)), (7, (boolA t7)), (8, (intA t8)), (9, (intA t9)), (10, (intA t10))], m, 100000⟩
noncomputable def B53_0 (t0 : AV) (t1 : Int) (t2 : AV) (t6 : Int) (t7 : Bool) (t8 : Int) (t9 : Int) (t10 : Int) (m : Mem) (R : AV → Mem → Prop) (N0 : St → Prop) : Prop :=
bif (decide (t9 < t10)) then (
opP (opA Try.prog (.convert 3 58 (.tmp 0)) 58 [(intA (IntKind.wrap .i64 (t9 + t10)))] (mget m) 100006) fun v2 =>
ex_u64 v2 fun z3 =>
opP (opA Try.prog (.binOp .shr 58 (.tmp 0) (.tmp 1) 58) 58 [(AV.sc (.int .u64 z3)), (AV.sc (.int .u64 (1)))] (mget m) 100007) fun v4 =>
ex_u64 v4 fun z5 =>
opP (opA Try.prog (.convert 58 3 (.tmp 0)) 3 [(AV.sc (.int .u64 z5))] (mget m) 100008) fun v6 =>
ex_i64 v6 fun z7 =>
opP (idxS 6 t0 (intA z7)) fun v8 =>
opP (ldA (mget m) 6 v8) fun v9 =>
exA6 v9 fun c10 c11 c12 c13 c14 c15 =>
ex_i64 c10 fun z16 =>
ex_i64 c11 fun z17 =>
ex_i64 c12 fun z18 =>
ex_i64 c13 fun z19 =>
ex_i64 c14 fun z20 =>
ex_i64 c15 fun z21 =>
fnArgs (some t2) (some [(AV.agg [(intA z16), (intA z17), (intA z18), (intA z19), (intA z20), (intA z21)]), (intA t1)]) fun f22 a22 => bif KK.pm f22 then callQ Try.prog KK.gl m f22 a22 (fun v22 =>
ex_i64 v22 fun z23 =>
bif (decide (z23 < (0))) then (
N0 ⟨[(0, t0), (1, (intA t1)), (2, t2), (6, (intA t6)), (7, (boolA t7)), (8, (intA t8)), (9, (intA (IntKind.wrap .i64 (z7 + (1))))), (10, (intA t10)), (15, (intA t9)), (16, (intA t10)), (17, (boolA (decide (t9 < t10)))), (18, (intA t9)), (19, (intA t10)), (20, (intA (IntKind.wrap .i64 (t9 + t10)))), (21, (AV.sc (.int .u64 z3))), (22, (AV.sc (.int .u64 z5))), (23, (intA z7)), (11, (intA z7)), (24, t2), (25, t0), (26, (intA z7)), (27, v8), (28, (AV.agg [(intA z16), (intA z17), (intA z18), (intA z19), (intA z20), (intA z21)])), (29, (intA t1)), (30, (intA z23)), (31, (boolA (decide (z23 < (0))))), (32, (intA z7)), (33, (intA (IntKind.wrap .i64 (z7 + (1)))))], m, 100084⟩) else (
N0 ⟨[(0, t0), (1, (intA t1)), (2, t2), (6, (intA t6)), (7, (boolA t7)), (8, (intA t8)), (9, (intA t9)), (10, (intA z7)), (15, (intA t9)), (16, (intA t10)), (17, (boolA (decide (t9 < t10)))), (18, (intA t9)), (19, (intA t10)), (20, (intA (IntKind.wrap .i64 (t9 + t10)))), (21, (AV.sc (.int .u64 z3))), (22, (AV.sc (.int .u64 z5))), (23, (intA z7)), (11, (intA z7)), (24, t2), (25, t0), (26, (intA z7)), (27, v8), (28, (AV.agg [(intA z16), (intA z17), (intA z18), (intA z19), (intA z20), (intA z21)])), (29, (intA t1)), (30, (intA z23)), (31, (boolA (decide (z23 < (0))))), (34, (intA z7))], m, 100083⟩)) else callW Try.prog KK.gl m 100016 f22 a22 fun v22 m22 =>
ex_i64 v22 fun z23 =>
bif (decide (z23 < (0))) then (
N0 ⟨[(0, t0), (1, (intA t1)), (2, t2), (6, (intA t6)), (7, (boolA t7)), (8, (intA t8)), (9, (intA (IntKind.wrap .i64 (z7 + (1))))), (10, (intA t10)), (15, (intA t9)), (16, (intA t10)), (17, (boolA (decide (t9 < t10)))), (18, (intA t9)), (19, (intA t10)), (20, (intA (IntKind.wrap .i64 (t9 + t10)))), (21, (AV.sc (.int .u64 z3))), (22, (AV.sc (.int .u64 z5))), (23, (intA z7)), (11, (intA z7)), (24, t2), (25, t0), (26, (intA z7)), (27, v8), (28, (AV.agg [(intA z16), (intA z17), (intA z18), (intA z19), (intA z20), (intA z21)])), (29, (intA t1)), (30, (intA z23)), (31, (boolA (decide (z23 < (0))))), (32, (intA z7)), (33, (intA (IntKind.wrap .i64 (z7 + (1)))))], m22, 100084⟩) else (
N0 ⟨[(0, t0), (1, (intA t1)), (2, t2), (6, (intA t6)), (7, (boolA t7)), (8, (intA t8)), (9, (intA t9)), (10, (intA z7)), (15, (intA t9)), (16, (intA t10)), (17, (boolA (decide (t9 < t10)))), (18, (intA t9)), (19, (intA t10)), (20, (intA (IntKind.wrap .i64 (t9 + t10)))), (21, (AV.sc (.int .u64 z3))), (22, (AV.sc (.int .u64 z5))), (23, (intA z7)), (11, (intA z7)), (24, t2), (25, t0), (26, (intA z7)), (27, v8), (28, (AV.agg [(intA z16), (intA z17), (intA z18), (intA z19), (intA z20), (intA z21)])), (29, (intA t1)), (30, (intA z23)), (31, (boolA (decide (z23 < (0))))), (34, (intA z7))], m22, 100083⟩)) else (
bif (decide (t9 < t8)) then (
opP (idxS 6 t0 (intA t9)) fun v24 =>
opP (ldA (mget m) 6 v24) fun v25 =>
exA6 v25 fun c26 c27 c28 c29 c30 c31 =>
ex_i64 c26 fun z32 =>
ex_i64 c27 fun z33 =>
ex_i64 c28 fun z34 =>
ex_i64 c29 fun z35 =>
ex_i64 c30 fun z36 =>
ex_i64 c31 fun z37 =>
fnArgs (some t2) (some [(AV.agg [(intA z32), (intA z33), (intA z34), (intA z35), (intA z36), (intA z37)]), (intA t1)]) fun f38 a38 => bif KK.pm f38 then callQ Try.prog KK.gl m f38 a38 (fun v38 =>
ex_i64 v38 fun z39 =>
retL R m [some (intA t9), some (boolA (z39 == (0)))]) else callW Try.prog KK.gl m 100014 f38 a38 fun v38 m38 =>
ex_i64 v38 fun z39 =>
retL R m38 [some (intA t9), some (boolA (z39 == (0)))]) else (
retL R m [some (intA t9), some (boolA false)]))
theorem B53_0_eq (t0 : AV) (t1 : Int) (t2 : AV) (t6 : Int) (t7 : Bool) (t8 : Int) (t9 : Int) (t10 : Int) (m : Mem) (R : AV → Mem → Prop) (N0 : St → Prop) : W Try.prog KK 49 0 c53_0 (h53_0 t0 t1 t2 t6 t7 t8 t9 t10 m) (qq53_0 R N0) = B53_0 t0 t1 t2 t6 t7 t8 t9 t10 m R N0 := by kernel_rfl
theorem L53_0 (R : AV → Mem → Prop) {σ : Type} (I : σ → Prop) (t0 : σ → AV) (t1 : σ → Int) (t2 : σ → AV) (t6 : σ → Int) (t7 : σ → Bool) (t8 : σ → Int) (t9 : σ → Int) (t10 : σ → Int) (m : σ → Mem) (μ : σ → Nat) (step : ∀ x, I x → B53_0 (t0 x) (t1 x) (t2 x) (t6 x) (t7 x) (t8 x) (t9 x) (t10 x) (m x) R (fun s' => ∃ y, I y ∧ μ y < μ x ∧ Weak KK 49 0 s' (h53_0 (t0 y) (t1 y) (t2 y) (t6 y) (t7 y) (t8 y) (t9 y) (t10 y) (m y)))) (x : σ) (hx : I x) {s : St} (hw : Weak KK 49 0 s (h53_0 (t0 x) (t1 x) (t2 x) (t6 x) (t7 x) (t8 x) (t9 x) (t10 x) (m x))) : Tri Try.prog KK 49 0 (.loop c53_0) s (q53_0 R) :=
  Tri.weak hw (Tri.loops fol I (fun x => h53_0 (t0 x) (t1 x) (t2 x) (t6 x) (t7 x) (t8 x) (t9 x) (t10 x) (m x)) μ (fun x hx => (B53_0_eq (t0 x) (t1 x) (t2 x) (t6 x) (t7 x) (t8 x) (t9 x) (t10 x) (m x) R _).mpr (step x hx)) x hx)
noncomputable def F53 (a0 : AV) (a1 : Int) (a2 : AV) (R : AV → Mem → Prop) : Prop :=
opP (lenS a0) fun v0 =>
ex_i64 v0 fun z1 =>
Tri Try.prog KK 49 0 (.loop c53_0) ⟨[(0, a0), (1, (intA a1)), (2, a2), (6, (intA (0))), (7, (boolA false)), (12, a0), (13, (intA z1)), (8, (intA z1)), (14, (intA z1)), (9, (intA (0))), (10, (intA z1))], [], 8⟩ (q53_0 R)
theorem F53_own (a0 : AV) (a1 : Int) (a2 : AV) (R : AV → Mem → Prop) (h : F53 a0 a1 a2 R) : Own Try.prog KK.gl 53 [a0, (intA a1), a2] R := own_of_F fol Try.func53 (code := c53) (by kernel_rfl) (by kernel_rfl) (by kernel_rfl) (X := F53 a0 a1 a2 R) (by kernel_rfl) h
/- skyway/num.DivDown -/
noncomputable def c56 : Code := ((Try.f56).body).getD .skip
noncomputable def q56 (R : AV → Mem → Prop) : AExit → St → Prop := retQ Try.prog Try.f56 R
noncomputable def F56 (a0 : Int) (a1 : Int) (R : AV → Mem → Prop) : Prop :=
bif (a1 == (0)) then (
retL R [] [some (intA (0)), some (intA (10))]) else (
bif (a0 == (-9223372036854775808)) then (
bif (a1 == (-1)) then (
retL R [] [some (intA (0)), some (intA (2))]) else (
opP (opA Try.prog (.binOp .quo 3 (.tmp 0) (.tmp 1) 3) 3 [(intA a0), (intA a1)] (mget []) 14) fun v0 =>
ex_i64 v0 fun z1 =>
opP (opA Try.prog (.binOp .rem 3 (.tmp 0) (.tmp 1) 3) 3 [(intA a0), (intA a1)] (mget []) 18) fun v2 =>
ex_i64 v2 fun z3 =>
bif (z3 != (0)) then (
opP (opA Try.prog (.binOp .neq 4 (.tmp 0) (.tmp 1) 4) 4 [(boolA (decide (a0 < (0)))), (boolA (decide (a1 < (0))))] (mget []) 25) fun v4 =>
exB v4 fun b5 =>
bif b5 then (
retL R [] [some (intA (IntKind.wrap .i64 (z1 - (1)))), some (intA (0))]) else (
retL R [] [some (intA z1), some (intA (0))])) else (
retL R [] [some (intA z1), some (intA (0))]))) else (
opP (opA Try.prog (.binOp .quo 3 (.tmp 0) (.tmp 1) 3) 3 [(intA a0), (intA a1)] (mget []) 12) fun v6 =>
ex_i64 v6 fun z7 =>
opP (opA Try.prog (.binOp .rem 3 (.tmp 0) (.tmp 1) 3) 3 [(intA a0), (intA a1)] (mget []) 16) fun v8 =>
ex_i64 v8 fun z9 =>
bif (z9 != (0)) then (
opP (opA Try.prog (.binOp .neq 4 (.tmp 0) (.tmp 1) 4) 4 [(boolA (decide (a0 < (0)))), (boolA (decide (a1 < (0))))] (mget []) 23) fun v10 =>
exB v10 fun b11 =>
bif b11 then (
retL R [] [some (intA (IntKind.wrap .i64 (z7 - (1)))), some (intA (0))]) else (
retL R [] [some (intA z7), some (intA (0))])) else (
retL R [] [some (intA z7), some (intA (0))])))
theorem F56_own (a0 : Int) (a1 : Int) (R : AV → Mem → Prop) (h : F56 a0 a1 R) : Own Try.prog KK.gl 56 [(intA a0), (intA a1)] R := own_of_F fol Try.func56 (code := c56) (by kernel_rfl) (by kernel_rfl) (by kernel_rfl) (X := F56 a0 a1 R) (by kernel_rfl) h
/- skyway/plane.Toward -/
noncomputable def c55 : Code := ((Try.f55).body).getD .skip
noncomputable def q55 (R : AV → Mem → Prop) : AExit → St → Prop := retQ Try.prog Try.f55 R
noncomputable def F55 (a0_0 : Int) (a0_1 : Int) (a1_0 : Int) (a1_1 : Int) (a2 : Int) (a3 : Int) (R : AV → Mem → Prop) : Prop :=
bif (decide (a3 ≤ (0))) then (
opP (bld [(intA (0)), (intA (0))] [(0, 1), (1, 1)] []) fun v0 =>
storeW Try.prog (mget ((2, some ⟨[(intA (0)), (intA (0))], 24⟩) :: (1, some ⟨[(intA a1_0), (intA a1_1)], 24⟩) :: (0, some ⟨[(intA a0_0), (intA a0_1)], 24⟩) :: [])) 24 (AV.ptr 2 0) v0 fun v1 d1 =>
retL R (mpushs ((2, some ⟨[(intA (0)), (intA (0))], 24⟩) :: (1, some ⟨[(intA a1_0), (intA a1_1)], 24⟩) :: (0, some ⟨[(intA a0_0), (intA a0_1)], 24⟩) :: []) d1) [(aLoad Try.prog (mget (mpushs ((2, some ⟨[(intA (0)), (intA (0))], 24⟩) :: (1, some ⟨[(intA a1_0), (intA a1_1)], 24⟩) :: (0, some ⟨[(intA a0_0), (intA a0_1)], 24⟩) :: []) d1)) 24 (AV.ptr 2 0)).map (·.1), some (intA (10))]) else (
bif (decide (a3 > (200000))) then (
opP (bld [(intA (0)), (intA (0))] [(0, 1), (1, 1)] []) fun v2 =>
storeW Try.prog (mget ((2, some ⟨[(intA (0)), (intA (0))], 24⟩) :: (1, some ⟨[(intA a1_0), (intA a1_1)], 24⟩) :: (0, some ⟨[(intA a0_0), (intA a0_1)], 24⟩) :: [])) 24 (AV.ptr 2 0) v2 fun v3 d3 =>
retL R (mpushs ((2, some ⟨[(intA (0)), (intA (0))], 24⟩) :: (1, some ⟨[(intA a1_0), (intA a1_1)], 24⟩) :: (0, some ⟨[(intA a0_0), (intA a0_1)], 24⟩) :: []) d3) [(aLoad Try.prog (mget (mpushs ((2, some ⟨[(intA (0)), (intA (0))], 24⟩) :: (1, some ⟨[(intA a1_0), (intA a1_1)], 24⟩) :: (0, some ⟨[(intA a0_0), (intA a0_1)], 24⟩) :: []) d3)) 24 (AV.ptr 2 0)).map (·.1), some (intA (4))]) else (
bif (decide (a2 < (0))) then (
opP (bld [(intA (0)), (intA (0))] [(0, 1), (1, 1)] []) fun v4 =>
storeW Try.prog (mget ((2, some ⟨[(intA (0)), (intA (0))], 24⟩) :: (1, some ⟨[(intA a1_0), (intA a1_1)], 24⟩) :: (0, some ⟨[(intA a0_0), (intA a0_1)], 24⟩) :: [])) 24 (AV.ptr 2 0) v4 fun v5 d5 =>
retL R (mpushs ((2, some ⟨[(intA (0)), (intA (0))], 24⟩) :: (1, some ⟨[(intA a1_0), (intA a1_1)], 24⟩) :: (0, some ⟨[(intA a0_0), (intA a0_1)], 24⟩) :: []) d5) [(aLoad Try.prog (mget (mpushs ((2, some ⟨[(intA (0)), (intA (0))], 24⟩) :: (1, some ⟨[(intA a1_0), (intA a1_1)], 24⟩) :: (0, some ⟨[(intA a0_0), (intA a0_1)], 24⟩) :: []) d5)) 24 (AV.ptr 2 0)).map (·.1), some (intA (4))]) else (
bif (decide (a2 > a3)) then (
opP (bld [(intA (0)), (intA (0))] [(0, 1), (1, 1)] []) fun v6 =>
storeW Try.prog (mget ((2, some ⟨[(intA (0)), (intA (0))], 24⟩) :: (1, some ⟨[(intA a1_0), (intA a1_1)], 24⟩) :: (0, some ⟨[(intA a0_0), (intA a0_1)], 24⟩) :: [])) 24 (AV.ptr 2 0) v6 fun v7 d7 =>
retL R (mpushs ((2, some ⟨[(intA (0)), (intA (0))], 24⟩) :: (1, some ⟨[(intA a1_0), (intA a1_1)], 24⟩) :: (0, some ⟨[(intA a0_0), (intA a0_1)], 24⟩) :: []) d7) [(aLoad Try.prog (mget (mpushs ((2, some ⟨[(intA (0)), (intA (0))], 24⟩) :: (1, some ⟨[(intA a1_0), (intA a1_1)], 24⟩) :: (0, some ⟨[(intA a0_0), (intA a0_1)], 24⟩) :: []) d7)) 24 (AV.ptr 2 0)).map (·.1), some (intA (4))]) else (
callQ Try.prog KK.gl ((2, some ⟨[(intA (0)), (intA (0))], 24⟩) :: (1, some ⟨[(intA a1_0), (intA a1_1)], 24⟩) :: (0, some ⟨[(intA a0_0), (intA a0_1)], 24⟩) :: []) 19 [(AV.agg [(intA a0_0), (intA a0_1)])] fun v8 =>
ex_i64 v8 fun z9 =>
bif (z9 != (0)) then (
opP (bld [(intA (0)), (intA (0))] [(0, 1), (1, 1)] []) fun v10 =>
callQ Try.prog KK.gl ((2, some ⟨[(intA (0)), (intA (0))], 24⟩) :: (1, some ⟨[(intA a1_0), (intA a1_1)], 24⟩) :: (0, some ⟨[(intA a0_0), (intA a0_1)], 24⟩) :: []) 19 [(AV.agg [(intA a0_0), (intA a0_1)])] fun v11 =>
ex_i64 v11 fun z12 =>
storeW Try.prog (mget ((2, some ⟨[(intA (0)), (intA (0))], 24⟩) :: (1, some ⟨[(intA a1_0), (intA a1_1)], 24⟩) :: (0, some ⟨[(intA a0_0), (intA a0_1)], 24⟩) :: [])) 24 (AV.ptr 2 0) v10 fun v13 d13 =>
retL R (mpushs ((2, some ⟨[(intA (0)), (intA (0))], 24⟩) :: (1, some ⟨[(intA a1_0), (intA a1_1)], 24⟩) :: (0, some ⟨[(intA a0_0), (intA a0_1)], 24⟩) :: []) d13) [(aLoad Try.prog (mget (mpushs ((2, some ⟨[(intA (0)), (intA (0))], 24⟩) :: (1, some ⟨[(intA a1_0), (intA a1_1)], 24⟩) :: (0, some ⟨[(intA a0_0), (intA a0_1)], 24⟩) :: []) d13)) 24 (AV.ptr 2 0)).map (·.1), some (intA z12)]) else (
callQ Try.prog KK.gl ((2, some ⟨[(intA (0)), (intA (0))], 24⟩) :: (1, some ⟨[(intA a1_0), (intA a1_1)], 24⟩) :: (0, some ⟨[(intA a0_0), (intA a0_1)], 24⟩) :: []) 19 [(AV.agg [(intA a1_0), (intA a1_1)])] fun v14 =>
ex_i64 v14 fun z15 =>
bif (z15 != (0)) then (
opP (bld [(intA (0)), (intA (0))] [(0, 1), (1, 1)] []) fun v16 =>
callQ Try.prog KK.gl ((2, some ⟨[(intA (0)), (intA (0))], 24⟩) :: (1, some ⟨[(intA a1_0), (intA a1_1)], 24⟩) :: (0, some ⟨[(intA a0_0), (intA a0_1)], 24⟩) :: []) 19 [(AV.agg [(intA a1_0), (intA a1_1)])] fun v17 =>
ex_i64 v17 fun z18 =>
storeW Try.prog (mget ((2, some ⟨[(intA (0)), (intA (0))], 24⟩) :: (1, some ⟨[(intA a1_0), (intA a1_1)], 24⟩) :: (0, some ⟨[(intA a0_0), (intA a0_1)], 24⟩) :: [])) 24 (AV.ptr 2 0) v16 fun v19 d19 =>
retL R (mpushs ((2, some ⟨[(intA (0)), (intA (0))], 24⟩) :: (1, some ⟨[(intA a1_0), (intA a1_1)], 24⟩) :: (0, some ⟨[(intA a0_0), (intA a0_1)], 24⟩) :: []) d19) [(aLoad Try.prog (mget (mpushs ((2, some ⟨[(intA (0)), (intA (0))], 24⟩) :: (1, some ⟨[(intA a1_0), (intA a1_1)], 24⟩) :: (0, some ⟨[(intA a0_0), (intA a0_1)], 24⟩) :: []) d19)) 24 (AV.ptr 2 0)).map (·.1), some (intA z18)]) else (
callQ Try.prog KK.gl ((2, some ⟨[(intA (0)), (intA (0))], 24⟩) :: (1, some ⟨[(intA a1_0), (intA a1_1)], 24⟩) :: (0, some ⟨[(intA a0_0), (intA a0_1)], 24⟩) :: []) 56 [(intA (IntKind.wrap .i64 ((IntKind.wrap .i64 (a1_0 - a0_0)) * a2))), (intA a3)] fun v20 =>
exT2 v20 fun c21 c22 =>
ex_i64 c21 fun z23 =>
ex_i64 c22 fun z24 =>
callQ Try.prog KK.gl ((2, some ⟨[(intA (0)), (intA (0))], 24⟩) :: (1, some ⟨[(intA a1_0), (intA a1_1)], 24⟩) :: (0, some ⟨[(intA a0_0), (intA a0_1)], 24⟩) :: []) 56 [(intA (IntKind.wrap .i64 ((IntKind.wrap .i64 (a1_1 - a0_1)) * a2))), (intA a3)] fun v25 =>
exT2 v25 fun c26 c27 =>
ex_i64 c26 fun z28 =>
ex_i64 c27 fun z29 =>
opP (bld [(intA (0)), (intA (0))] [(0, 1), (1, 1)] [(0, (intA (IntKind.wrap .i64 (a0_0 + z23)))), (1, (intA (IntKind.wrap .i64 (a0_1 + z28))))]) fun v30 =>
storeW Try.prog (mget ((2, some ⟨[(intA (0)), (intA (0))], 24⟩) :: (1, some ⟨[(intA a1_0), (intA a1_1)], 24⟩) :: (0, some ⟨[(intA a0_0), (intA a0_1)], 24⟩) :: [])) 24 (AV.ptr 2 0) v30 fun v31 d31 =>
retL R (mpushs ((2, some ⟨[(intA (0)), (intA (0))], 24⟩) :: (1, some ⟨[(intA a1_0), (intA a1_1)], 24⟩) :: (0, some ⟨[(intA a0_0), (intA a0_1)], 24⟩) :: []) d31) [(aLoad Try.prog (mget (mpushs ((2, some ⟨[(intA (0)), (intA (0))], 24⟩) :: (1, some ⟨[(intA a1_0), (intA a1_1)], 24⟩) :: (0, some ⟨[(intA a0_0), (intA a0_1)], 24⟩) :: []) d31)) 24 (AV.ptr 2 0)).map (·.1), some (intA (0))]))))))
theorem F55_own (a0_0 : Int) (a0_1 : Int) (a1_0 : Int) (a1_1 : Int) (a2 : Int) (a3 : Int) (R : AV → Mem → Prop) (h : F55 a0_0 a0_1 a1_0 a1_1 a2 a3 R) : Own Try.prog KK.gl 55 [(AV.agg [(intA a0_0), (intA a0_1)]), (AV.agg [(intA a1_0), (intA a1_1)]), (intA a2), (intA a3)] R := own_of_F fol Try.func55 (code := c55) (by kernel_rfl) (by kernel_rfl) (by kernel_rfl) (X := F55 a0_0 a0_1 a1_0 a1_1 a2 a3 R) (by kernel_rfl) h
/- skyway/num.DivUp -/
noncomputable def c57 : Code := ((Try.f57).body).getD .skip
noncomputable def q57 (R : AV → Mem → Prop) : AExit → St → Prop := retQ Try.prog Try.f57 R
noncomputable def F57 (a0 : Int) (a1 : Int) (R : AV → Mem → Prop) : Prop :=
callQ Try.prog KK.gl [] 56 [(intA a0), (intA a1)] fun v0 =>
exT2 v0 fun c1 c2 =>
ex_i64 c1 fun z3 =>
ex_i64 c2 fun z4 =>
bif (z4 == (0)) then (
opP (opA Try.prog (.binOp .rem 3 (.tmp 0) (.tmp 1) 3) 3 [(intA a0), (intA a1)] (mget []) 78) fun v5 =>
ex_i64 v5 fun z6 =>
bif (z6 != (0)) then (
retL R [] [some (intA (IntKind.wrap .i64 (z3 + (1)))), some (intA z4)]) else (
retL R [] [some (intA z3), some (intA z4)])) else (
retL R [] [some (intA z3), some (intA z4)])
theorem F57_own (a0 : Int) (a1 : Int) (R : AV → Mem → Prop) (h : F57 a0 a1 R) : Own Try.prog KK.gl 57 [(intA a0), (intA a1)] R := own_of_F fol Try.func57 (code := c57) (by kernel_rfl) (by kernel_rfl) (by kernel_rfl) (X := F57 a0 a1 R) (by kernel_rfl) h
/- skyway/tube.at -/
noncomputable def c47 : Code := ((Try.f47).body).getD .skip
noncomputable def q47 (R : AV → Mem → Prop) : AExit → St → Prop := retQ Try.prog Try.f47 R
noncomputable def F47 (a0 : AV) (a1 : Int) (R : AV → Mem → Prop) : Prop :=
callW Try.prog KK.gl ((0, some ⟨[(intA (0)), (intA (0)), (intA (0)), (intA (0)), (intA (0)), (intA (0))], 66⟩) :: []) 3 53 [a0, (intA a1), (AV.fn 54 [])] fun v0 m0 =>
exT2 v0 fun c1 c2 =>
ex_i64 c1 fun z3 =>
exB c2 fun b4 =>
bif b4 then (
opP (idxS 6 a0 (intA z3)) fun v5 =>
opP (ldA (mget m0) 6 v5) fun v6 =>
exA6 v6 fun c7 c8 c9 c10 c11 c12 =>
ex_i64 c7 fun z13 =>
ex_i64 c8 fun z14 =>
ex_i64 c9 fun z15 =>
ex_i64 c10 fun z16 =>
ex_i64 c11 fun z17 =>
ex_i64 c12 fun z18 =>
storeW Try.prog (mget m0) 66 (AV.ptr 0 0) (AV.agg [(intA z13), (intA z14), (intA z15), (intA z16), (intA z17), (intA z18)]) fun v19 d19 =>
retL R (mpushs m0 d19) [(aLoad Try.prog (mget (mpushs m0 d19)) 66 (AV.ptr 0 0)).map (·.1)]) else (
opM (idxS 6 a0 (intA (IntKind.wrap .i64 (z3 - (1))))) fun v20 d20 =>
opM (ldA (look' (mpushs m0 d20) (topId v20 ++ ([]))) 6 v20) fun v21 d21 =>
exA6 v21 fun c22 c23 c24 c25 c26 c27 =>
ex_i64 c22 fun z28 =>
ex_i64 c23 fun z29 =>
ex_i64 c24 fun z30 =>
ex_i64 c25 fun z31 =>
ex_i64 c26 fun z32 =>
ex_i64 c27 fun z33 =>
opM (idxS 6 a0 (intA z3)) fun v34 d34 =>
opM (ldA (look' (mpushs (mpushs (mpushs m0 d20) d21) d34) (topId v34 ++ ([]))) 6 v34) fun v35 d35 =>
exA6 v35 fun c36 c37 c38 c39 c40 c41 =>
ex_i64 c36 fun z42 =>
ex_i64 c37 fun z43 =>
ex_i64 c38 fun z44 =>
ex_i64 c39 fun z45 =>
ex_i64 c40 fun z46 =>
ex_i64 c41 fun z47 =>
storeW Try.prog (look' ((83, some ⟨[(intA (0)), (intA (0)), (intA (0)), (intA (0)), (intA (0)), (intA (0))], 66⟩) :: (82, some ⟨[(intA (0)), (intA (0)), (intA (0)), (intA (0)), (intA (0)), (intA (0))], 66⟩) :: (mpushs (mpushs (mpushs (mpushs m0 d20) d21) d34) d35)) (topId (AV.ptr 82 0) ++ (topId (AV.agg [(intA z28), (intA z29), (intA z30), (intA z31), (intA z32), (intA z33)]) ++ ([])))) 66 (AV.ptr 82 0) (AV.agg [(intA z28), (intA z29), (intA z30), (intA z31), (intA z32), (intA z33)]) fun v48 d48 =>
storeW Try.prog (look' (mpushs ((83, some ⟨[(intA (0)), (intA (0)), (intA (0)), (intA (0)), (intA (0)), (intA (0))], 66⟩) :: (82, some ⟨[(intA (0)), (intA (0)), (intA (0)), (intA (0)), (intA (0)), (intA (0))], 66⟩) :: (mpushs (mpushs (mpushs (mpushs m0 d20) d21) d34) d35)) d48) (topId (AV.ptr 83 0) ++ (topId (AV.agg [(intA z42), (intA z43), (intA z44), (intA z45), (intA z46), (intA z47)]) ++ ([])))) 66 (AV.ptr 83 0) (AV.agg [(intA z42), (intA z43), (intA z44), (intA z45), (intA z46), (intA z47)]) fun v49 d49 =>
chk (confOk [0, 0, 2, 7, 15, 0, 0, 96, 224, 0, 0, 1567, 4095] [⟨[], []⟩, ⟨[], []⟩, ⟨[], []⟩, ⟨d20, []⟩, ⟨d21, (topId v20 ++ ([]))⟩, ⟨[], []⟩, ⟨[], []⟩, ⟨d34, []⟩, ⟨d35, (topId v34 ++ ([]))⟩, ⟨[(82, some ⟨[(intA (0)), (intA (0)), (intA (0)), (intA (0)), (intA (0)), (intA (0))], 66⟩)], []⟩, ⟨[(83, some ⟨[(intA (0)), (intA (0)), (intA (0)), (intA (0)), (intA (0)), (intA (0))], 66⟩)], []⟩, ⟨d48, (topId (AV.ptr 82 0) ++ (topId (AV.agg [(intA z28), (intA z29), (intA z30), (intA z31), (intA z32), (intA z33)]) ++ ([])))⟩, ⟨d49, (topId (AV.ptr 83 0) ++ (topId (AV.agg [(intA z42), (intA z43), (intA z44), (intA z45), (intA z46), (intA z47)]) ++ ([])))⟩]) (opP (ldS (mget (mpushs (mpushs ((83, some ⟨[(intA (0)), (intA (0)), (intA (0)), (intA (0)), (intA (0)), (intA (0))], 66⟩) :: (82, some ⟨[(intA (0)), (intA (0)), (intA (0)), (intA (0)), (intA (0)), (intA (0))], 66⟩) :: (mpushs (mpushs (mpushs (mpushs m0 d20) d21) d34) d35)) d48) d49)) (AV.ptr 82 0)) fun v50 =>
ex_i64 v50 fun z51 =>
opP (ldS (mget (mpushs (mpushs ((83, some ⟨[(intA (0)), (intA (0)), (intA (0)), (intA (0)), (intA (0)), (intA (0))], 66⟩) :: (82, some ⟨[(intA (0)), (intA (0)), (intA (0)), (intA (0)), (intA (0)), (intA (0))], 66⟩) :: (mpushs (mpushs (mpushs (mpushs m0 d20) d21) d34) d35)) d48) d49)) (AV.ptr 83 0)) fun v52 =>
ex_i64 v52 fun z53 =>
opP (ldS (mget (mpushs (mpushs ((83, some ⟨[(intA (0)), (intA (0)), (intA (0)), (intA (0)), (intA (0)), (intA (0))], 66⟩) :: (82, some ⟨[(intA (0)), (intA (0)), (intA (0)), (intA (0)), (intA (0)), (intA (0))], 66⟩) :: (mpushs (mpushs (mpushs (mpushs m0 d20) d21) d34) d35)) d48) d49)) (AV.ptr 82 0)) fun v54 =>
ex_i64 v54 fun z55 =>
opP (ldA (mget (mpushs (mpushs ((83, some ⟨[(intA (0)), (intA (0)), (intA (0)), (intA (0)), (intA (0)), (intA (0))], 66⟩) :: (82, some ⟨[(intA (0)), (intA (0)), (intA (0)), (intA (0)), (intA (0)), (intA (0))], 66⟩) :: (mpushs (mpushs (mpushs (mpushs m0 d20) d21) d34) d35)) d48) d49)) 2 (AV.ptr 82 1)) fun v56 =>
exA2 v56 fun c57 c58 =>
ex_i64 c57 fun z59 =>
ex_i64 c58 fun z60 =>
opP (ldA (mget (mpushs (mpushs ((83, some ⟨[(intA (0)), (intA (0)), (intA (0)), (intA (0)), (intA (0)), (intA (0))], 66⟩) :: (82, some ⟨[(intA (0)), (intA (0)), (intA (0)), (intA (0)), (intA (0)), (intA (0))], 66⟩) :: (mpushs (mpushs (mpushs (mpushs m0 d20) d21) d34) d35)) d48) d49)) 2 (AV.ptr 83 1)) fun v61 =>
exA2 v61 fun c62 c63 =>
ex_i64 c62 fun z64 =>
ex_i64 c63 fun z65 =>
callQ Try.prog KK.gl (mpushs (mpushs ((83, some ⟨[(intA (0)), (intA (0)), (intA (0)), (intA (0)), (intA (0)), (intA (0))], 66⟩) :: (82, some ⟨[(intA (0)), (intA (0)), (intA (0)), (intA (0)), (intA (0)), (intA (0))], 66⟩) :: (mpushs (mpushs (mpushs (mpushs m0 d20) d21) d34) d35)) d48) d49) 55 [(AV.agg [(intA z59), (intA z60)]), (AV.agg [(intA z64), (intA z65)]), (intA (IntKind.wrap .i64 (a1 - z51))), (intA (IntKind.wrap .i64 (z53 - z55)))] fun v66 =>
exT2 v66 fun c67 c68 =>
exA2 c67 fun c69 c70 =>
ex_i64 c69 fun z71 =>
ex_i64 c70 fun z72 =>
ex_i64 c68 fun z73 =>
opP (ldS (mget ((175, some ⟨[(intA z71), (intA z72)], 24⟩) :: (175, some ⟨[(intA (0)), (intA (0))], 24⟩) :: (mpushs (mpushs ((83, some ⟨[(intA (0)), (intA (0)), (intA (0)), (intA (0)), (intA (0)), (intA (0))], 66⟩) :: (82, some ⟨[(intA (0)), (intA (0)), (intA (0)), (intA (0)), (intA (0)), (intA (0))], 66⟩) :: (mpushs (mpushs (mpushs (mpushs m0 d20) d21) d34) d35)) d48) d49))) (AV.ptr 83 3)) fun v74 =>
ex_i64 v74 fun z75 =>
opP (ldS (mget ((175, some ⟨[(intA z71), (intA z72)], 24⟩) :: (175, some ⟨[(intA (0)), (intA (0))], 24⟩) :: (mpushs (mpushs ((83, some ⟨[(intA (0)), (intA (0)), (intA (0)), (intA (0)), (intA (0)), (intA (0))], 66⟩) :: (82, some ⟨[(intA (0)), (intA (0)), (intA (0)), (intA (0)), (intA (0)), (intA (0))], 66⟩) :: (mpushs (mpushs (mpushs (mpushs m0 d20) d21) d34) d35)) d48) d49))) (AV.ptr 82 3)) fun v76 =>
ex_i64 v76 fun z77 =>
callQ Try.prog KK.gl ((175, some ⟨[(intA z71), (intA z72)], 24⟩) :: (175, some ⟨[(intA (0)), (intA (0))], 24⟩) :: (mpushs (mpushs ((83, some ⟨[(intA (0)), (intA (0)), (intA (0)), (intA (0)), (intA (0)), (intA (0))], 66⟩) :: (82, some ⟨[(intA (0)), (intA (0)), (intA (0)), (intA (0)), (intA (0)), (intA (0))], 66⟩) :: (mpushs (mpushs (mpushs (mpushs m0 d20) d21) d34) d35)) d48) d49)) 56 [(intA (IntKind.wrap .i64 ((IntKind.wrap .i64 (z75 - z77)) * (IntKind.wrap .i64 (a1 - z51))))), (intA (IntKind.wrap .i64 (z53 - z55)))] fun v78 =>
exT2 v78 fun c79 c80 =>
ex_i64 c79 fun z81 =>
ex_i64 c80 fun z82 =>
opP (ldS (mget ((175, some ⟨[(intA z71), (intA z72)], 24⟩) :: (175, some ⟨[(intA (0)), (intA (0))], 24⟩) :: (mpushs (mpushs ((83, some ⟨[(intA (0)), (intA (0)), (intA (0)), (intA (0)), (intA (0)), (intA (0))], 66⟩) :: (82, some ⟨[(intA (0)), (intA (0)), (intA (0)), (intA (0)), (intA (0)), (intA (0))], 66⟩) :: (mpushs (mpushs (mpushs (mpushs m0 d20) d21) d34) d35)) d48) d49))) (AV.ptr 83 4)) fun v83 =>
ex_i64 v83 fun z84 =>
opP (ldS (mget ((175, some ⟨[(intA z71), (intA z72)], 24⟩) :: (175, some ⟨[(intA (0)), (intA (0))], 24⟩) :: (mpushs (mpushs ((83, some ⟨[(intA (0)), (intA (0)), (intA (0)), (intA (0)), (intA (0)), (intA (0))], 66⟩) :: (82, some ⟨[(intA (0)), (intA (0)), (intA (0)), (intA (0)), (intA (0)), (intA (0))], 66⟩) :: (mpushs (mpushs (mpushs (mpushs m0 d20) d21) d34) d35)) d48) d49))) (AV.ptr 82 4)) fun v85 =>
ex_i64 v85 fun z86 =>
callQ Try.prog KK.gl ((175, some ⟨[(intA z71), (intA z72)], 24⟩) :: (175, some ⟨[(intA (0)), (intA (0))], 24⟩) :: (mpushs (mpushs ((83, some ⟨[(intA (0)), (intA (0)), (intA (0)), (intA (0)), (intA (0)), (intA (0))], 66⟩) :: (82, some ⟨[(intA (0)), (intA (0)), (intA (0)), (intA (0)), (intA (0)), (intA (0))], 66⟩) :: (mpushs (mpushs (mpushs (mpushs m0 d20) d21) d34) d35)) d48) d49)) 57 [(intA (IntKind.wrap .i64 ((IntKind.wrap .i64 (z84 - z86)) * (IntKind.wrap .i64 (a1 - z51))))), (intA (IntKind.wrap .i64 (z53 - z55)))] fun v87 =>
exT2 v87 fun c88 c89 =>
ex_i64 c88 fun z90 =>
ex_i64 c89 fun z91 =>
opP (ldS (mget ((175, some ⟨[(intA z71), (intA z72)], 24⟩) :: (175, some ⟨[(intA (0)), (intA (0))], 24⟩) :: (mpushs (mpushs ((83, some ⟨[(intA (0)), (intA (0)), (intA (0)), (intA (0)), (intA (0)), (intA (0))], 66⟩) :: (82, some ⟨[(intA (0)), (intA (0)), (intA (0)), (intA (0)), (intA (0)), (intA (0))], 66⟩) :: (mpushs (mpushs (mpushs (mpushs m0 d20) d21) d34) d35)) d48) d49))) (AV.ptr 83 5)) fun v92 =>
ex_i64 v92 fun z93 =>
opP (ldS (mget ((175, some ⟨[(intA z71), (intA z72)], 24⟩) :: (175, some ⟨[(intA (0)), (intA (0))], 24⟩) :: (mpushs (mpushs ((83, some ⟨[(intA (0)), (intA (0)), (intA (0)), (intA (0)), (intA (0)), (intA (0))], 66⟩) :: (82, some ⟨[(intA (0)), (intA (0)), (intA (0)), (intA (0)), (intA (0)), (intA (0))], 66⟩) :: (mpushs (mpushs (mpushs (mpushs m0 d20) d21) d34) d35)) d48) d49))) (AV.ptr 82 5)) fun v94 =>
ex_i64 v94 fun z95 =>
callQ Try.prog KK.gl ((175, some ⟨[(intA z71), (intA z72)], 24⟩) :: (175, some ⟨[(intA (0)), (intA (0))], 24⟩) :: (mpushs (mpushs ((83, some ⟨[(intA (0)), (intA (0)), (intA (0)), (intA (0)), (intA (0)), (intA (0))], 66⟩) :: (82, some ⟨[(intA (0)), (intA (0)), (intA (0)), (intA (0)), (intA (0)), (intA (0))], 66⟩) :: (mpushs (mpushs (mpushs (mpushs m0 d20) d21) d34) d35)) d48) d49)) 57 [(intA (IntKind.wrap .i64 ((IntKind.wrap .i64 (z93 - z95)) * (IntKind.wrap .i64 (a1 - z51))))), (intA (IntKind.wrap .i64 (z53 - z55)))] fun v96 =>
exT2 v96 fun c97 c98 =>
ex_i64 c97 fun z99 =>
ex_i64 c98 fun z100 =>
opP (ldS (mget ((175, some ⟨[(intA z71), (intA z72)], 24⟩) :: (175, some ⟨[(intA (0)), (intA (0))], 24⟩) :: (mpushs (mpushs ((83, some ⟨[(intA (0)), (intA (0)), (intA (0)), (intA (0)), (intA (0)), (intA (0))], 66⟩) :: (82, some ⟨[(intA (0)), (intA (0)), (intA (0)), (intA (0)), (intA (0)), (intA (0))], 66⟩) :: (mpushs (mpushs (mpushs (mpushs m0 d20) d21) d34) d35)) d48) d49))) (AV.ptr 82 3)) fun v101 =>
ex_i64 v101 fun z102 =>
opP (bld [(intA (0)), (intA (0)), (intA (0)), (intA (0))] [(0, 1), (1, 2), (3, 1)] [(0, (intA a1)), (1, (AV.agg [(intA z71), (intA z72)])), (2, (intA (IntKind.wrap .i64 (z102 + z81))))]) fun v103 =>
opP (ldS (mget ((175, some ⟨[(intA z71), (intA z72)], 24⟩) :: (175, some ⟨[(intA (0)), (intA (0))], 24⟩) :: (mpushs (mpushs ((83, some ⟨[(intA (0)), (intA (0)), (intA (0)), (intA (0)), (intA (0)), (intA (0))], 66⟩) :: (82, some ⟨[(intA (0)), (intA (0)), (intA (0)), (intA (0)), (intA (0)), (intA (0))], 66⟩) :: (mpushs (mpushs (mpushs (mpushs m0 d20) d21) d34) d35)) d48) d49))) (AV.ptr 82 4)) fun v104 =>
ex_i64 v104 fun z105 =>
opP (ldS (mget ((175, some ⟨[(intA z71), (intA z72)], 24⟩) :: (175, some ⟨[(intA (0)), (intA (0))], 24⟩) :: (mpushs (mpushs ((83, some ⟨[(intA (0)), (intA (0)), (intA (0)), (intA (0)), (intA (0)), (intA (0))], 66⟩) :: (82, some ⟨[(intA (0)), (intA (0)), (intA (0)), (intA (0)), (intA (0)), (intA (0))], 66⟩) :: (mpushs (mpushs (mpushs (mpushs m0 d20) d21) d34) d35)) d48) d49))) (AV.ptr 82 5)) fun v106 =>
ex_i64 v106 fun z107 =>
opP (bld [(intA (0)), (intA (0)), (intA (0)), (intA (0)), (intA (0)), (intA (0))] [(0, 4), (4, 1), (5, 1)] [(0, v103), (1, (intA (IntKind.wrap .i64 (z105 + z90)))), (2, (intA (IntKind.wrap .i64 (z107 + z99))))]) fun v108 =>
storeW Try.prog (mget ((175, some ⟨[(intA z71), (intA z72)], 24⟩) :: (175, some ⟨[(intA (0)), (intA (0))], 24⟩) :: (mpushs (mpushs ((83, some ⟨[(intA (0)), (intA (0)), (intA (0)), (intA (0)), (intA (0)), (intA (0))], 66⟩) :: (82, some ⟨[(intA (0)), (intA (0)), (intA (0)), (intA (0)), (intA (0)), (intA (0))], 66⟩) :: (mpushs (mpushs (mpushs (mpushs m0 d20) d21) d34) d35)) d48) d49))) 66 (AV.ptr 0 0) v108 fun v109 d109 =>
retL R (mpushs ((175, some ⟨[(intA z71), (intA z72)], 24⟩) :: (175, some ⟨[(intA (0)), (intA (0))], 24⟩) :: (mpushs (mpushs ((83, some ⟨[(intA (0)), (intA (0)), (intA (0)), (intA (0)), (intA (0)), (intA (0))], 66⟩) :: (82, some ⟨[(intA (0)), (intA (0)), (intA (0)), (intA (0)), (intA (0)), (intA (0))], 66⟩) :: (mpushs (mpushs (mpushs (mpushs m0 d20) d21) d34) d35)) d48) d49)) d109) [(aLoad Try.prog (mget (mpushs ((175, some ⟨[(intA z71), (intA z72)], 24⟩) :: (175, some ⟨[(intA (0)), (intA (0))], 24⟩) :: (mpushs (mpushs ((83, some ⟨[(intA (0)), (intA (0)), (intA (0)), (intA (0)), (intA (0)), (intA (0))], 66⟩) :: (82, some ⟨[(intA (0)), (intA (0)), (intA (0)), (intA (0)), (intA (0)), (intA (0))], 66⟩) :: (mpushs (mpushs (mpushs (mpushs m0 d20) d21) d34) d35)) d48) d49)) d109)) 66 (AV.ptr 0 0)).map (·.1)]))
theorem F47_own (a0 : AV) (a1 : Int) (R : AV → Mem → Prop) (h : F47 a0 a1 R) : Own Try.prog KK.gl 47 [a0, (intA a1)] R := own_of_F fol Try.func47 (code := c47) (by kernel_rfl) (by kernel_rfl) (by kernel_rfl) (X := F47 a0 a1 R) (by kernel_rfl) h
/- skyway/sector.Path -/
noncomputable def c12 : Code := ((Try.f12).body).getD .skip
noncomputable def q12 (R : AV → Mem → Prop) : AExit → St → Prop := retQ Try.prog Try.f12 R
noncomputable def F12 (a0 : AV) (a1 : AV) (R : AV → Mem → Prop) : Prop :=
callQ Try.prog KK.gl [] 14 [a0] fun v0 =>
ex_i64 v0 fun z1 =>
bif (z1 != (0)) then (
retL R [] [some AV.nils, some (intA z1)]) else (
callQ Try.prog KK.gl [] 22 [a1] fun v2 =>
ex_i64 v2 fun z3 =>
bif (z3 != (0)) then (
retL R [] [some AV.nils, some (intA z3)]) else (
opP (lenS a1) fun v4 =>
ex_i64 v4 fun z5 =>
opP (idxS 6 a1 (intA (IntKind.wrap .i64 (z5 - (1))))) fun v6 =>
opP (fldO 0 v6) fun v7 =>
opP (fldO 0 v7) fun v8 =>
opP (ldS (mget []) v8) fun v9 =>
ex_i64 v9 fun z10 =>
opP (idxS 6 a1 (intA (0))) fun v11 =>
opP (fldO 0 v11) fun v12 =>
opP (fldO 0 v12) fun v13 =>
opP (ldS (mget []) v13) fun v14 =>
ex_i64 v14 fun z15 =>
bif (decide ((IntKind.wrap .i64 (z10 - z15)) > (20000))) then (
retL R [] [some AV.nils, some (intA (2))]) else (
callQ Try.prog KK.gl [] 23 [a0, a1] fun v16 =>
retL R [] [some v16, some (intA (0))])))
/- skyway/sector.Box -/
noncomputable def c17 : Code := ((Try.f17).body).getD .skip
noncomputable def q17 (R : AV → Mem → Prop) : AExit → St → Prop := retQ Try.prog Try.f17 R
noncomputable def c17_0 : Code := loopB c17 0
noncomputable def q17_0 (R : AV → Mem → Prop) : AExit → St → Prop := contW Try.prog KK 53 0 c17 0 (q17 R)
noncomputable def qq17_0 (R : AV → Mem → Prop) (N0 : St → Prop) : AExit → St → Prop := thenQ N0 (q17_0 R)
def h17_0 (t2 : Int) (t10 : AV) (t11 : Int) (b0_0 : Int) (b0_1 : Int) (b0_2 : Int) (b0_3 : Int) (b0_4 : Int) (b0_5 : Int) (m : Mem) : St := ⟨[(1, (AV.ptr 0 0)), (2, (intA t2)), (10, t10), (11, (intA t11))], ((0, some ⟨[(intA b0_0), (intA b0_1), (intA b0_2), (intA b0_3), (intA b0_4), (intA b0_5)], 26⟩) :: m), 100000⟩
noncomputable def B17_0 (t2 : Int) (t10 : AV) (t11 : Int) (b0_0 : Int) (b0_1 : Int) (b0_2 : Int) (b0_3 : Int) (b0_4 : Int) (b0_5 : Int) (m : Mem) (R : AV → Mem → Prop) (N0 : St → Prop) : Prop :=
bif (decide (t11 < (2))) then (
opP (opA Try.prog (.index 73 (.tmp 0) (.tmp 1)) 24 [t10, (intA t11)] (mget ((0, some ⟨[(intA b0_0), (intA b0_1), (intA b0_2), (intA b0_3), (intA b0_4), (intA b0_5)], 26⟩) :: m)) 100001) fun v1 =>
exA2 v1 fun c2 c3 =>
ex_i64 c2 fun z4 =>
ex_i64 c3 fun z5 =>
callQ Try.prog KK.gl ((100002, some ⟨[(intA z4), (intA z5)], 24⟩) :: (100002, some ⟨[(intA (0)), (intA (0))], 24⟩) :: (0, some ⟨[(intA b0_0), (intA b0_1), (intA b0_2), (intA b0_3), (intA b0_4), (intA b0_5)], 26⟩) :: m) 19 [(AV.agg [(intA z4), (intA z5)])] fun v6 =>
ex_i64 v6 fun z7 =>
bif (z7 != (0)) then (
retL R ((100002, some ⟨[(intA z4), (intA z5)], 24⟩) :: (100002, some ⟨[(intA (0)), (intA (0))], 24⟩) :: (0, some ⟨[(intA b0_0), (intA b0_1), (intA b0_2), (intA b0_3), (intA b0_4), (intA b0_5)], 26⟩) :: m) [some (intA z7)]) else (
N0 ⟨[(1, (AV.ptr 0 0)), (2, (intA t2)), (10, t10), (11, (intA (IntKind.wrap .i64 (t11 + (1))))), (12, (boolA (decide (t11 < (2))))), (13, (AV.agg [(intA z4), (intA z5)])), (4, (AV.ptr 100002 0)), (14, (AV.agg [(intA z4), (intA z5)])), (15, (intA z7)), (5, (intA z7)), (16, (intA z7)), (17, (boolA (z7 != (0)))), (19, (intA (IntKind.wrap .i64 (t11 + (1)))))], ((100002, some ⟨[(intA z4), (intA z5)], 24⟩) :: (100002, some ⟨[(intA (0)), (intA (0))], 24⟩) :: (0, some ⟨[(intA b0_0), (intA b0_1), (intA b0_2), (intA b0_3), (intA b0_4), (intA b0_5)], 26⟩) :: m), 100074⟩)) else (
bif (decide (b0_0 ≥ b0_2)) then (
retL R ((0, some ⟨[(intA b0_0), (intA b0_1), (intA b0_2), (intA b0_3), (intA b0_4), (intA b0_5)], 26⟩) :: m) [some (intA (4))]) else (
bif (decide (b0_1 ≥ b0_3)) then (
retL R ((0, some ⟨[(intA b0_0), (intA b0_1), (intA b0_2), (intA b0_3), (intA b0_4), (intA b0_5)], 26⟩) :: m) [some (intA (4))]) else (
bif (decide (b0_4 < (0))) then (
retL R ((0, some ⟨[(intA b0_0), (intA b0_1), (intA b0_2), (intA b0_3), (intA b0_4), (intA b0_5)], 26⟩) :: m) [some (intA (4))]) else (
bif (decide (b0_4 ≥ b0_5)) then (
retL R ((0, some ⟨[(intA b0_0), (intA b0_1), (intA b0_2), (intA b0_3), (intA b0_4), (intA b0_5)], 26⟩) :: m) [some (intA (4))]) else (
bif (decide (b0_5 > (60001))) then (
retL R ((0, some ⟨[(intA b0_0), (intA b0_1), (intA b0_2), (intA b0_3), (intA b0_4), (intA b0_5)], 26⟩) :: m) [some (intA (4))]) else (
retL R ((0, some ⟨[(intA b0_0), (intA b0_1), (intA b0_2), (intA b0_3), (intA b0_4), (intA b0_5)], 26⟩) :: m) [some (intA (0))]))))))
theorem B17_0_eq (t2 : Int) (t10 : AV) (t11 : Int) (b0_0 : Int) (b0_1 : Int) (b0_2 : Int) (b0_3 : Int) (b0_4 : Int) (b0_5 : Int) (m : Mem) (R : AV → Mem → Prop) (N0 : St → Prop) : W Try.prog KK 53 0 c17_0 (h17_0 t2 t10 t11 b0_0 b0_1 b0_2 b0_3 b0_4 b0_5 m) (qq17_0 R N0) = B17_0 t2 t10 t11 b0_0 b0_1 b0_2 b0_3 b0_4 b0_5 m R N0 := by kernel_rfl
theorem L17_0 (R : AV → Mem → Prop) {σ : Type} (I : σ → Prop) (t2 : σ → Int) (t10 : σ → AV) (t11 : σ → Int) (b0_0 : σ → Int) (b0_1 : σ → Int) (b0_2 : σ → Int) (b0_3 : σ → Int) (b0_4 : σ → Int) (b0_5 : σ → Int) (m : σ → Mem) (μ : σ → Nat) (step : ∀ x, I x → B17_0 (t2 x) (t10 x) (t11 x) (b0_0 x) (b0_1 x) (b0_2 x) (b0_3 x) (b0_4 x) (b0_5 x) (m x) R (fun s' => ∃ y, I y ∧ μ y < μ x ∧ Weak KK 53 0 s' (h17_0 (t2 y) (t10 y) (t11 y) (b0_0 y) (b0_1 y) (b0_2 y) (b0_3 y) (b0_4 y) (b0_5 y) (m y)))) (x : σ) (hx : I x) {s : St} (hw : Weak KK 53 0 s (h17_0 (t2 x) (t10 x) (t11 x) (b0_0 x) (b0_1 x) (b0_2 x) (b0_3 x) (b0_4 x) (b0_5 x) (m x))) : Tri Try.prog KK 53 0 (.loop c17_0) s (q17_0 R) :=
  Tri.weak hw (Tri.loops fol I (fun x => h17_0 (t2 x) (t10 x) (t11 x) (b0_0 x) (b0_1 x) (b0_2 x) (b0_3 x) (b0_4 x) (b0_5 x) (m x)) μ (fun x hx => (B17_0_eq (t2 x) (t10 x) (t11 x) (b0_0 x) (b0_1 x) (b0_2 x) (b0_3 x) (b0_4 x) (b0_5 x) (m x) R _).mpr (step x hx)) x hx)
noncomputable def F17 (a0_0 : Int) (a0_1 : Int) (a0_2 : Int) (a0_3 : Int) (a0_4 : Int) (a0_5 : Int) (R : AV → Mem → Prop) : Prop :=
opP (opA Try.prog (.build 73 #[(0, .tmp 0), (1, .tmp 1)]) 73 [(AV.agg [(intA a0_0), (intA a0_1)]), (AV.agg [(intA a0_2), (intA a0_3)])] (mget ((0, some ⟨[(intA a0_0), (intA a0_1), (intA a0_2), (intA a0_3), (intA a0_4), (intA a0_5)], 26⟩) :: [])) 6) fun v0 =>
Tri Try.prog KK 53 0 (.loop c17_0) ⟨[(0, (AV.agg [(intA a0_0), (intA a0_1), (intA a0_2), (intA a0_3), (intA a0_4), (intA a0_5)])), (1, (AV.ptr 0 0)), (2, (intA (0))), (6, (AV.ptr 0 0)), (7, (AV.agg [(intA a0_0), (intA a0_1)])), (8, (AV.ptr 0 2)), (9, (AV.agg [(intA a0_2), (intA a0_3)])), (10, v0), (11, (intA (0)))], ((0, some ⟨[(intA a0_0), (intA a0_1), (intA a0_2), (intA a0_3), (intA a0_4), (intA a0_5)], 26⟩) :: []), 8⟩ (q17_0 R)
theorem F17_own (a0_0 : Int) (a0_1 : Int) (a0_2 : Int) (a0_3 : Int) (a0_4 : Int) (a0_5 : Int) (R : AV → Mem → Prop) (h : F17 a0_0 a0_1 a0_2 a0_3 a0_4 a0_5 R) : Own Try.prog KK.gl 17 [(AV.agg [(intA a0_0), (intA a0_1), (intA a0_2), (intA a0_3), (intA a0_4), (intA a0_5)])] R := own_of_F fol Try.func17 (code := c17) (by kernel_rfl) (by kernel_rfl) (by kernel_rfl) (X := F17 a0_0 a0_1 a0_2 a0_3 a0_4 a0_5 R) (by kernel_rfl) h
/- skyway/polygon.Area -/
noncomputable def c18 : Code := ((Try.f18).body).getD .skip
noncomputable def q18 (R : AV → Mem → Prop) : AExit → St → Prop := retQ Try.prog Try.f18 R
noncomputable def F18 (a0 : AV) (R : AV → Mem → Prop) : Prop :=
callQ Try.prog KK.gl [] 29 [a0] fun v0 =>
ex_i64 v0 fun z1 =>
bif (z1 != (0)) then (
retL R [] [some (intA (0)), some (intA z1)]) else (
callQ Try.prog KK.gl [] 30 [a0] fun v2 =>
ex_i64 v2 fun z3 =>
retL R [] [some (intA z3), some (intA (0))])
theorem F18_own (a0 : AV) (R : AV → Mem → Prop) (h : F18 a0 R) : Own Try.prog KK.gl 18 [a0] R := own_of_F fol Try.func18 (code := c18) (by kernel_rfl) (by kernel_rfl) (by kernel_rfl) (X := F18 a0 R) (by kernel_rfl) h
/- skyway/sector.Left -/
noncomputable def c6 : Code := ((Try.f6).body).getD .skip
noncomputable def q6 (R : AV → Mem → Prop) : AExit → St → Prop := retQ Try.prog Try.f6 R
noncomputable def c6_0 : Code := loopB c6 0
noncomputable def q6_0 (R : AV → Mem → Prop) : AExit → St → Prop := contW Try.prog KK 130 0 c6 0 (q6 R)
noncomputable def qq6_0 (R : AV → Mem → Prop) (N0 : St → Prop) : AExit → St → Prop := thenQ N0 (q6_0 R)
def h6_0 (t4 : Int) (t5 : Int) (t8 : Int) (t49 : AV) (t50 : Int) (t51 : Int) (b0_0 : Int) (b0_1 : Int) (b0_2 : Int) (b0_3 : Int) (b0_4 : Int) (b0_5 : Int) (m : Mem) : St := ⟨[(3, (AV.ptr 0 0)), (4, (intA t4)), (5, (intA t5)), (8, (intA t8)), (49, t49), (50, (intA t50)), (51, (intA t51))], ((0, some ⟨[(intA b0_0), (intA b0_1), (intA b0_2), (intA b0_3), (intA b0_4), (intA b0_5)], 26⟩) :: m), 100000⟩
noncomputable def c6_0_0 : Code := loopB c6_0 0
noncomputable def q6_0_0 (R : AV → Mem → Prop) (N0 : St → Prop) : AExit → St → Prop := contW Try.prog KK 130 0 c6_0 0 (qq6_0 R N0)
noncomputable def qq6_0_0 (R : AV → Mem → Prop) (N0 : St → Prop) (N1 : St → Prop) : AExit → St → Prop := thenQ N1 (q6_0_0 R N0)
def h6_0_0 (t4 : Int) (t5 : Int) (t8 : Int) (t49 : AV) (t50 : Int) (t51 : Int) (t56 : AV) (t57 : Int) (t58 : Int) (b0_0 : Int) (b0_1 : Int) (b0_2 : Int) (b0_3 : Int) (b0_4 : Int) (b0_5 : Int) (m : Mem) : St := ⟨[(3, (AV.ptr 0 0)), (4, (intA t4)), (5, (intA t5)), (8, (intA t8)), (49, t49), (50, (intA t50)), (51, (intA t51)), (56, t56), (57, (intA t57)), (58, (intA t58))], ((0, some ⟨[(intA b0_0), (intA b0_1), (intA b0_2), (intA b0_3), (intA b0_4), (intA b0_5)], 26⟩) :: m), 200000⟩
noncomputable def c6_0_0_0 : Code := loopB c6_0_0 0
noncomputable def q6_0_0_0 (R : AV → Mem → Prop) (N0 : St → Prop) (N1 : St → Prop) : AExit → St → Prop := contW Try.prog KK 130 0 c6_0_0 0 (qq6_0_0 R N0 N1)
noncomputable def qq6_0_0_0 (R : AV → Mem → Prop) (N0 : St → Prop) (N1 : St → Prop) (N2 : St → Prop) : AExit → St → Prop := thenQ N2 (q6_0_0_0 R N0 N1)
def h6_0_0_0 (t4 : Int) (t5 : Int) (t8 : Int) (t49 : AV) (t50 : Int) (t51 : Int) (t56 : AV) (t57 : Int) (t58 : Int) (t75 : AV) (t76 : Int) (t77 : Int) (b0_0 : Int) (b0_1 : Int) (b0_2 : Int) (b0_3 : Int) (b0_4 : Int) (b0_5 : Int) (b200003_0 : AV) (b200003_1 : Int) (b200003_2 : Int) (m : Mem) : St := ⟨[(3, (AV.ptr 0 0)), (4, (intA t4)), (5, (intA t5)), (8, (intA t8)), (12, (AV.ptr 200003 0)), (49, t49), (50, (intA t50)), (51, (intA t51)), (56, t56), (57, (intA t57)), (58, (intA t58)), (75, t75), (76, (intA t76)), (77, (intA t77))], ((0, some ⟨[(intA b0_0), (intA b0_1), (intA b0_2), (intA b0_3), (intA b0_4), (intA b0_5)], 26⟩) :: (200003, some ⟨[b200003_0, (intA b200003_1), (intA b200003_2)], 56⟩) :: m), 300000⟩
noncomputable def B6_0 (t4 : Int) (t5 : Int) (t8 : Int) (t49 : AV) (t50 : Int) (t51 : Int) (b0_0 : Int) (b0_1 : Int) (b0_2 : Int) (b0_3 : Int) (b0_4 : Int) (b0_5 : Int) (m : Mem) (R : AV → Mem → Prop) (N0 : St → Prop) : Prop :=
bif (decide (t51 < t50)) then (
opP (idxS 2 t49 (intA t51)) fun v6 =>
opP (ldA (mget ((0, some ⟨[(intA b0_0), (intA b0_1), (intA b0_2), (intA b0_3), (intA b0_4), (intA b0_5)], 26⟩) :: m)) 2 v6) fun v7 =>
exA2 v7 fun c8 c9 =>
exStr c8 fun s10 =>
chk (isCell c9) <| opP (lenS c9) fun v11 =>
ex_i64 v11 fun z12 =>
Tri Try.prog KK 130 0 (.loop c6_0_0) ⟨[(3, (AV.ptr 0 0)), (4, (intA t4)), (5, (intA t5)), (8, (intA t8)), (49, t49), (50, (intA t50)), (51, (intA t51)), (52, (boolA (decide (t51 < t50)))), (53, v6), (54, (AV.agg [(AV.sc (.string s10)), c9])), (10, (AV.ptr 100003 0)), (55, (AV.ptr 100003 1)), (56, c9), (57, (intA z12)), (58, (intA (0)))], ((100003, some ⟨[(AV.sc (.string s10)), c9], 37⟩) :: (100003, some ⟨[(AV.sc (.string ⟨#[]⟩)), AV.nils], 37⟩) :: (0, some ⟨[(intA b0_0), (intA b0_1), (intA b0_2), (intA b0_3), (intA b0_4), (intA b0_5)], 26⟩) :: m), 100009⟩ (q6_0_0 R N0)) else (
retL R ((0, some ⟨[(intA b0_0), (intA b0_1), (intA b0_2), (intA b0_3), (intA b0_4), (intA b0_5)], 26⟩) :: m) [some (intA t8), some (intA (0))])
theorem B6_0_eq (t4 : Int) (t5 : Int) (t8 : Int) (t49 : AV) (t50 : Int) (t51 : Int) (b0_0 : Int) (b0_1 : Int) (b0_2 : Int) (b0_3 : Int) (b0_4 : Int) (b0_5 : Int) (m : Mem) (R : AV → Mem → Prop) (N0 : St → Prop) : W Try.prog KK 130 0 c6_0 (h6_0 t4 t5 t8 t49 t50 t51 b0_0 b0_1 b0_2 b0_3 b0_4 b0_5 m) (qq6_0 R N0) = B6_0 t4 t5 t8 t49 t50 t51 b0_0 b0_1 b0_2 b0_3 b0_4 b0_5 m R N0 := by kernel_rfl
theorem L6_0 (R : AV → Mem → Prop) {σ : Type} (I : σ → Prop) (t4 : σ → Int) (t5 : σ → Int) (t8 : σ → Int) (t49 : σ → AV) (t50 : σ → Int) (t51 : σ → Int) (b0_0 : σ → Int) (b0_1 : σ → Int) (b0_2 : σ → Int) (b0_3 : σ → Int) (b0_4 : σ → Int) (b0_5 : σ → Int) (m : σ → Mem) (μ : σ → Nat) (step : ∀ x, I x → B6_0 (t4 x) (t5 x) (t8 x) (t49 x) (t50 x) (t51 x) (b0_0 x) (b0_1 x) (b0_2 x) (b0_3 x) (b0_4 x) (b0_5 x) (m x) R (fun s' => ∃ y, I y ∧ μ y < μ x ∧ Weak KK 130 0 s' (h6_0 (t4 y) (t5 y) (t8 y) (t49 y) (t50 y) (t51 y) (b0_0 y) (b0_1 y) (b0_2 y) (b0_3 y) (b0_4 y) (b0_5 y) (m y)))) (x : σ) (hx : I x) {s : St} (hw : Weak KK 130 0 s (h6_0 (t4 x) (t5 x) (t8 x) (t49 x) (t50 x) (t51 x) (b0_0 x) (b0_1 x) (b0_2 x) (b0_3 x) (b0_4 x) (b0_5 x) (m x))) : Tri Try.prog KK 130 0 (.loop c6_0) s (q6_0 R) :=
  Tri.weak hw (Tri.loops fol I (fun x => h6_0 (t4 x) (t5 x) (t8 x) (t49 x) (t50 x) (t51 x) (b0_0 x) (b0_1 x) (b0_2 x) (b0_3 x) (b0_4 x) (b0_5 x) (m x)) μ (fun x hx => (B6_0_eq (t4 x) (t5 x) (t8 x) (t49 x) (t50 x) (t51 x) (b0_0 x) (b0_1 x) (b0_2 x) (b0_3 x) (b0_4 x) (b0_5 x) (m x) R _).mpr (step x hx)) x hx)
noncomputable def B6_0_0 (t4 : Int) (t5 : Int) (t8 : Int) (t49 : AV) (t50 : Int) (t51 : Int) (t56 : AV) (t57 : Int) (t58 : Int) (b0_0 : Int) (b0_1 : Int) (b0_2 : Int) (b0_3 : Int) (b0_4 : Int) (b0_5 : Int) (m : Mem) (R : AV → Mem → Prop) (N0 : St → Prop) (N1 : St → Prop) : Prop :=
bif (decide (t58 < t57)) then (
opP (idxS 3 t56 (intA t58)) fun v13 =>
opP (ldA (mget ((0, some ⟨[(intA b0_0), (intA b0_1), (intA b0_2), (intA b0_3), (intA b0_4), (intA b0_5)], 26⟩) :: m)) 3 v13) fun v14 =>
exA3 v14 fun c15 c16 c17 =>
ex_i64 c16 fun z18 =>
ex_i64 c17 fun z19 =>
chk (isCell c15) <| bif (decide (z18 < b0_4)) then (
retL R ((200003, some ⟨[c15, (intA z18), (intA z19)], 56⟩) :: (200003, some ⟨[AV.nils, (intA (0)), (intA (0))], 56⟩) :: (0, some ⟨[(intA b0_0), (intA b0_1), (intA b0_2), (intA b0_3), (intA b0_4), (intA b0_5)], 26⟩) :: m) [some (intA (0)), some (intA (19))]) else (
bif (decide (z19 > b0_5)) then (
retL R ((200003, some ⟨[c15, (intA z18), (intA z19)], 56⟩) :: (200003, some ⟨[AV.nils, (intA (0)), (intA (0))], 56⟩) :: (0, some ⟨[(intA b0_0), (intA b0_1), (intA b0_2), (intA b0_3), (intA b0_4), (intA b0_5)], 26⟩) :: m) [some (intA (0)), some (intA (19))]) else (
opP (lenS c15) fun v20 =>
ex_i64 v20 fun z21 =>
Tri Try.prog KK 130 0 (.loop c6_0_0_0) ⟨[(3, (AV.ptr 0 0)), (4, (intA t4)), (5, (intA t5)), (8, (intA t8)), (49, t49), (50, (intA t50)), (51, (intA t51)), (56, t56), (57, (intA t57)), (58, (intA t58)), (59, (boolA (decide (t58 < t57)))), (60, v13), (61, (AV.agg [c15, (intA z18), (intA z19)])), (12, (AV.ptr 200003 0)), (62, (AV.ptr 200003 1)), (63, (intA z18)), (64, (AV.ptr 0 4)), (65, (intA b0_4)), (66, (boolA (decide (z18 < b0_4)))), (67, (boolA false)), (68, (AV.ptr 200003 2)), (69, (intA z19)), (70, (AV.ptr 0 5)), (71, (intA b0_5)), (72, (boolA (decide (z19 > b0_5)))), (73, (boolA (decide (z19 > b0_5)))), (74, (AV.ptr 200003 0)), (75, c15), (76, (intA z21)), (77, (intA (0)))], ((200003, some ⟨[c15, (intA z18), (intA z19)], 56⟩) :: (200003, some ⟨[AV.nils, (intA (0)), (intA (0))], 56⟩) :: (0, some ⟨[(intA b0_0), (intA b0_1), (intA b0_2), (intA b0_3), (intA b0_4), (intA b0_5)], 26⟩) :: m), 200021⟩ (q6_0_0_0 R N0 N1)))) else (
N0 ⟨[(3, (AV.ptr 0 0)), (4, (intA t4)), (5, (intA t5)), (8, (intA t8)), (49, t49), (50, (intA t50)), (51, (intA (IntKind.wrap .i64 (t51 + (1))))), (56, t56), (57, (intA t57)), (58, (intA t58)), (59, (boolA (decide (t58 < t57)))), (128, (intA (IntKind.wrap .i64 (t51 + (1)))))], ((0, some ⟨[(intA b0_0), (intA b0_1), (intA b0_2), (intA b0_3), (intA b0_4), (intA b0_5)], 26⟩) :: m), 200003⟩)
theorem B6_0_0_eq (t4 : Int) (t5 : Int) (t8 : Int) (t49 : AV) (t50 : Int) (t51 : Int) (t56 : AV) (t57 : Int) (t58 : Int) (b0_0 : Int) (b0_1 : Int) (b0_2 : Int) (b0_3 : Int) (b0_4 : Int) (b0_5 : Int) (m : Mem) (R : AV → Mem → Prop) (N0 : St → Prop) (N1 : St → Prop) : W Try.prog KK 130 0 c6_0_0 (h6_0_0 t4 t5 t8 t49 t50 t51 t56 t57 t58 b0_0 b0_1 b0_2 b0_3 b0_4 b0_5 m) (qq6_0_0 R N0 N1) = B6_0_0 t4 t5 t8 t49 t50 t51 t56 t57 t58 b0_0 b0_1 b0_2 b0_3 b0_4 b0_5 m R N0 N1 := by kernel_rfl
theorem L6_0_0 (R : AV → Mem → Prop) (N0 : St → Prop) {σ : Type} (I : σ → Prop) (t4 : σ → Int) (t5 : σ → Int) (t8 : σ → Int) (t49 : σ → AV) (t50 : σ → Int) (t51 : σ → Int) (t56 : σ → AV) (t57 : σ → Int) (t58 : σ → Int) (b0_0 : σ → Int) (b0_1 : σ → Int) (b0_2 : σ → Int) (b0_3 : σ → Int) (b0_4 : σ → Int) (b0_5 : σ → Int) (m : σ → Mem) (μ : σ → Nat) (step : ∀ x, I x → B6_0_0 (t4 x) (t5 x) (t8 x) (t49 x) (t50 x) (t51 x) (t56 x) (t57 x) (t58 x) (b0_0 x) (b0_1 x) (b0_2 x) (b0_3 x) (b0_4 x) (b0_5 x) (m x) R N0 (fun s' => ∃ y, I y ∧ μ y < μ x ∧ Weak KK 130 0 s' (h6_0_0 (t4 y) (t5 y) (t8 y) (t49 y) (t50 y) (t51 y) (t56 y) (t57 y) (t58 y) (b0_0 y) (b0_1 y) (b0_2 y) (b0_3 y) (b0_4 y) (b0_5 y) (m y)))) (x : σ) (hx : I x) {s : St} (hw : Weak KK 130 0 s (h6_0_0 (t4 x) (t5 x) (t8 x) (t49 x) (t50 x) (t51 x) (t56 x) (t57 x) (t58 x) (b0_0 x) (b0_1 x) (b0_2 x) (b0_3 x) (b0_4 x) (b0_5 x) (m x))) : Tri Try.prog KK 130 0 (.loop c6_0_0) s (q6_0_0 R N0) :=
  Tri.weak hw (Tri.loops fol I (fun x => h6_0_0 (t4 x) (t5 x) (t8 x) (t49 x) (t50 x) (t51 x) (t56 x) (t57 x) (t58 x) (b0_0 x) (b0_1 x) (b0_2 x) (b0_3 x) (b0_4 x) (b0_5 x) (m x)) μ (fun x hx => (B6_0_0_eq (t4 x) (t5 x) (t8 x) (t49 x) (t50 x) (t51 x) (t56 x) (t57 x) (t58 x) (b0_0 x) (b0_1 x) (b0_2 x) (b0_3 x) (b0_4 x) (b0_5 x) (m x) R N0 _).mpr (step x hx)) x hx)
noncomputable def B6_0_0_0 (t4 : Int) (t5 : Int) (t8 : Int) (t49 : AV) (t50 : Int) (t51 : Int) (t56 : AV) (t57 : Int) (t58 : Int) (t75 : AV) (t76 : Int) (t77 : Int) (b0_0 : Int) (b0_1 : Int) (b0_2 : Int) (b0_3 : Int) (b0_4 : Int) (b0_5 : Int) (b200003_0 : AV) (b200003_1 : Int) (b200003_2 : Int) (m : Mem) (R : AV → Mem → Prop) (N0 : St → Prop) (N1 : St → Prop) (N2 : St → Prop) : Prop :=
bif (decide (t77 < t76)) then (
opP (idxS 2 t75 (intA t77)) fun v22 =>
opP (ldA (mget ((0, some ⟨[(intA b0_0), (intA b0_1), (intA b0_2), (intA b0_3), (intA b0_4), (intA b0_5)], 26⟩) :: (200003, some ⟨[b200003_0, (intA b200003_1), (intA b200003_2)], 56⟩) :: m)) 2 v22) fun v23 =>
exA2 v23 fun c24 c25 =>
ex_i64 c24 fun z26 =>
ex_i64 c25 fun z27 =>
bif (decide (z26 < b0_0)) then (
retL R ((300003, some ⟨[(intA z26), (intA z27)], 24⟩) :: (300003, some ⟨[(intA (0)), (intA (0))], 24⟩) :: (0, some ⟨[(intA b0_0), (intA b0_1), (intA b0_2), (intA b0_3), (intA b0_4), (intA b0_5)], 26⟩) :: (200003, some ⟨[b200003_0, (intA b200003_1), (intA b200003_2)], 56⟩) :: m) [some (intA (0)), some (intA (19))]) else (
bif (decide (z26 > b0_2)) then (
retL R ((300003, some ⟨[(intA z26), (intA z27)], 24⟩) :: (300003, some ⟨[(intA (0)), (intA (0))], 24⟩) :: (0, some ⟨[(intA b0_0), (intA b0_1), (intA b0_2), (intA b0_3), (intA b0_4), (intA b0_5)], 26⟩) :: (200003, some ⟨[b200003_0, (intA b200003_1), (intA b200003_2)], 56⟩) :: m) [some (intA (0)), some (intA (19))]) else (
bif (decide (z27 < b0_1)) then (
retL R ((300003, some ⟨[(intA z26), (intA z27)], 24⟩) :: (300003, some ⟨[(intA (0)), (intA (0))], 24⟩) :: (0, some ⟨[(intA b0_0), (intA b0_1), (intA b0_2), (intA b0_3), (intA b0_4), (intA b0_5)], 26⟩) :: (200003, some ⟨[b200003_0, (intA b200003_1), (intA b200003_2)], 56⟩) :: m) [some (intA (0)), some (intA (19))]) else (
bif (decide (z27 > b0_3)) then (
retL R ((300003, some ⟨[(intA z26), (intA z27)], 24⟩) :: (300003, some ⟨[(intA (0)), (intA (0))], 24⟩) :: (0, some ⟨[(intA b0_0), (intA b0_1), (intA b0_2), (intA b0_3), (intA b0_4), (intA b0_5)], 26⟩) :: (200003, some ⟨[b200003_0, (intA b200003_1), (intA b200003_2)], 56⟩) :: m) [some (intA (0)), some (intA (19))]) else (
N2 ⟨[(3, (AV.ptr 0 0)), (4, (intA t4)), (5, (intA t5)), (8, (intA t8)), (12, (AV.ptr 200003 0)), (49, t49), (50, (intA t50)), (51, (intA t51)), (56, t56), (57, (intA t57)), (58, (intA t58)), (75, t75), (76, (intA t76)), (77, (intA (IntKind.wrap .i64 (t77 + (1))))), (78, (boolA (decide (t77 < t76)))), (79, v22), (80, (AV.agg [(intA z26), (intA z27)])), (14, (AV.ptr 300003 0)), (81, (AV.ptr 300003 0)), (82, (intA z26)), (83, (AV.ptr 0 0)), (84, (AV.ptr 0 0)), (85, (intA b0_0)), (86, (boolA (decide (z26 < b0_0)))), (87, (boolA false)), (88, (AV.ptr 300003 0)), (89, (intA z26)), (90, (AV.ptr 0 2)), (91, (AV.ptr 0 2)), (92, (intA b0_2)), (93, (boolA (decide (z26 > b0_2)))), (94, (boolA (decide (z26 > b0_2)))), (95, (boolA false)), (96, (AV.ptr 300003 1)), (97, (intA z27)), (98, (AV.ptr 0 0)), (99, (AV.ptr 0 1)), (100, (intA b0_1)), (101, (boolA (decide (z27 < b0_1)))), (102, (boolA (decide (z27 < b0_1)))), (103, (boolA false)), (104, (AV.ptr 300003 1)), (105, (intA z27)), (106, (AV.ptr 0 2)), (107, (AV.ptr 0 3)), (108, (intA b0_3)), (109, (boolA (decide (z27 > b0_3)))), (110, (boolA (decide (z27 > b0_3)))), (111, (intA (IntKind.wrap .i64 (t77 + (1)))))], ((300003, some ⟨[(intA z26), (intA z27)], 24⟩) :: (300003, some ⟨[(intA (0)), (intA (0))], 24⟩) :: (0, some ⟨[(intA b0_0), (intA b0_1), (intA b0_2), (intA b0_3), (intA b0_4), (intA b0_5)], 26⟩) :: (200003, some ⟨[b200003_0, (intA b200003_1), (intA b200003_2)], 56⟩) :: m), 300037⟩))))) else (
callQ Try.prog KK.gl ((0, some ⟨[(intA b0_0), (intA b0_1), (intA b0_2), (intA b0_3), (intA b0_4), (intA b0_5)], 26⟩) :: (200003, some ⟨[b200003_0, (intA b200003_1), (intA b200003_2)], 56⟩) :: m) 18 [b200003_0] fun v28 =>
exT2 v28 fun c29 c30 =>
ex_i64 c29 fun z31 =>
ex_i64 c30 fun z32 =>
N1 ⟨[(3, (AV.ptr 0 0)), (4, (intA t4)), (5, (intA t5)), (8, (intA (IntKind.wrap .i64 (t8 - (IntKind.wrap .i64 (z31 * (IntKind.wrap .i64 (b200003_2 - b200003_1)))))))), (12, (AV.ptr 200003 0)), (49, t49), (50, (intA t50)), (51, (intA t51)), (56, t56), (57, (intA t57)), (58, (intA (IntKind.wrap .i64 (t58 + (1))))), (75, t75), (76, (intA t76)), (77, (intA t77)), (78, (boolA (decide (t77 < t76)))), (113, (AV.ptr 200003 0)), (114, b200003_0), (115, (AV.tup [(intA z31), (intA z32)])), (112, (AV.tup [(intA z31), (intA z32)])), (116, (intA z31)), (117, (intA z32)), (15, (intA z31)), (16, (intA z32)), (118, (intA t8)), (119, (intA z31)), (120, (AV.ptr 200003 2)), (121, (intA b200003_2)), (122, (AV.ptr 200003 1)), (123, (intA b200003_1)), (124, (intA (IntKind.wrap .i64 (b200003_2 - b200003_1)))), (125, (intA (IntKind.wrap .i64 (z31 * (IntKind.wrap .i64 (b200003_2 - b200003_1)))))), (126, (intA (IntKind.wrap .i64 (t8 - (IntKind.wrap .i64 (z31 * (IntKind.wrap .i64 (b200003_2 - b200003_1)))))))), (127, (intA (IntKind.wrap .i64 (t58 + (1)))))], ((0, some ⟨[(intA b0_0), (intA b0_1), (intA b0_2), (intA b0_3), (intA b0_4), (intA b0_5)], 26⟩) :: (200003, some ⟨[b200003_0, (intA b200003_1), (intA b200003_2)], 56⟩) :: m), 300084⟩)
theorem B6_0_0_0_eq (t4 : Int) (t5 : Int) (t8 : Int) (t49 : AV) (t50 : Int) (t51 : Int) (t56 : AV) (t57 : Int) (t58 : Int) (t75 : AV) (t76 : Int) (t77 : Int) (b0_0 : Int) (b0_1 : Int) (b0_2 : Int) (b0_3 : Int) (b0_4 : Int) (b0_5 : Int) (b200003_0 : AV) (b200003_1 : Int) (b200003_2 : Int) (m : Mem) (R : AV → Mem → Prop) (N0 : St → Prop) (N1 : St → Prop) (N2 : St → Prop) : W Try.prog KK 130 0 c6_0_0_0 (h6_0_0_0 t4 t5 t8 t49 t50 t51 t56 t57 t58 t75 t76 t77 b0_0 b0_1 b0_2 b0_3 b0_4 b0_5 b200003_0 b200003_1 b200003_2 m) (qq6_0_0_0 R N0 N1 N2) = B6_0_0_0 t4 t5 t8 t49 t50 t51 t56 t57 t58 t75 t76 t77 b0_0 b0_1 b0_2 b0_3 b0_4 b0_5 b200003_0 b200003_1 b200003_2 m R N0 N1 N2 := by kernel_rfl
theorem L6_0_0_0 (R : AV → Mem → Prop) (N0 : St → Prop) (N1 : St → Prop) {σ : Type} (I : σ → Prop) (t4 : σ → Int) (t5 : σ → Int) (t8 : σ → Int) (t49 : σ → AV) (t50 : σ → Int) (t51 : σ → Int) (t56 : σ → AV) (t57 : σ → Int) (t58 : σ → Int) (t75 : σ → AV) (t76 : σ → Int) (t77 : σ → Int) (b0_0 : σ → Int) (b0_1 : σ → Int) (b0_2 : σ → Int) (b0_3 : σ → Int) (b0_4 : σ → Int) (b0_5 : σ → Int) (b200003_0 : σ → AV) (b200003_1 : σ → Int) (b200003_2 : σ → Int) (m : σ → Mem) (μ : σ → Nat) (step : ∀ x, I x → B6_0_0_0 (t4 x) (t5 x) (t8 x) (t49 x) (t50 x) (t51 x) (t56 x) (t57 x) (t58 x) (t75 x) (t76 x) (t77 x) (b0_0 x) (b0_1 x) (b0_2 x) (b0_3 x) (b0_4 x) (b0_5 x) (b200003_0 x) (b200003_1 x) (b200003_2 x) (m x) R N0 N1 (fun s' => ∃ y, I y ∧ μ y < μ x ∧ Weak KK 130 0 s' (h6_0_0_0 (t4 y) (t5 y) (t8 y) (t49 y) (t50 y) (t51 y) (t56 y) (t57 y) (t58 y) (t75 y) (t76 y) (t77 y) (b0_0 y) (b0_1 y) (b0_2 y) (b0_3 y) (b0_4 y) (b0_5 y) (b200003_0 y) (b200003_1 y) (b200003_2 y) (m y)))) (x : σ) (hx : I x) {s : St} (hw : Weak KK 130 0 s (h6_0_0_0 (t4 x) (t5 x) (t8 x) (t49 x) (t50 x) (t51 x) (t56 x) (t57 x) (t58 x) (t75 x) (t76 x) (t77 x) (b0_0 x) (b0_1 x) (b0_2 x) (b0_3 x) (b0_4 x) (b0_5 x) (b200003_0 x) (b200003_1 x) (b200003_2 x) (m x))) : Tri Try.prog KK 130 0 (.loop c6_0_0_0) s (q6_0_0_0 R N0 N1) :=
  Tri.weak hw (Tri.loops fol I (fun x => h6_0_0_0 (t4 x) (t5 x) (t8 x) (t49 x) (t50 x) (t51 x) (t56 x) (t57 x) (t58 x) (t75 x) (t76 x) (t77 x) (b0_0 x) (b0_1 x) (b0_2 x) (b0_3 x) (b0_4 x) (b0_5 x) (b200003_0 x) (b200003_1 x) (b200003_2 x) (m x)) μ (fun x hx => (B6_0_0_0_eq (t4 x) (t5 x) (t8 x) (t49 x) (t50 x) (t51 x) (t56 x) (t57 x) (t58 x) (t75 x) (t76 x) (t77 x) (b0_0 x) (b0_1 x) (b0_2 x) (b0_3 x) (b0_4 x) (b0_5 x) (b200003_0 x) (b200003_1 x) (b200003_2 x) (m x) R N0 N1 _).mpr (step x hx)) x hx)
noncomputable def F6 (a0 : AV) (a1_0 : Int) (a1_1 : Int) (a1_2 : Int) (a1_3 : Int) (a1_4 : Int) (a1_5 : Int) (R : AV → Mem → Prop) : Prop :=
callQ Try.prog KK.gl ((0, some ⟨[(intA a1_0), (intA a1_1), (intA a1_2), (intA a1_3), (intA a1_4), (intA a1_5)], 26⟩) :: []) 14 [a0] fun v0 =>
ex_i64 v0 fun z1 =>
bif (z1 != (0)) then (
retL R ((0, some ⟨[(intA a1_0), (intA a1_1), (intA a1_2), (intA a1_3), (intA a1_4), (intA a1_5)], 26⟩) :: []) [some (intA (0)), some (intA z1)]) else (
callQ Try.prog KK.gl ((0, some ⟨[(intA a1_0), (intA a1_1), (intA a1_2), (intA a1_3), (intA a1_4), (intA a1_5)], 26⟩) :: []) 17 [(AV.agg [(intA a1_0), (intA a1_1), (intA a1_2), (intA a1_3), (intA a1_4), (intA a1_5)])] fun v2 =>
ex_i64 v2 fun z3 =>
bif (z3 != (0)) then (
retL R ((0, some ⟨[(intA a1_0), (intA a1_1), (intA a1_2), (intA a1_3), (intA a1_4), (intA a1_5)], 26⟩) :: []) [some (intA (0)), some (intA z3)]) else (
opP (lenS a0) fun v4 =>
ex_i64 v4 fun z5 =>
Tri Try.prog KK 130 0 (.loop c6_0) ⟨[(0, a0), (1, (AV.agg [(intA a1_0), (intA a1_1), (intA a1_2), (intA a1_3), (intA a1_4), (intA a1_5)])), (3, (AV.ptr 0 0)), (4, (intA (0))), (5, (intA (0))), (17, a0), (18, (intA z1)), (6, (intA z1)), (19, (intA z1)), (20, (boolA (z1 != (0)))), (22, (AV.agg [(intA a1_0), (intA a1_1), (intA a1_2), (intA a1_3), (intA a1_4), (intA a1_5)])), (23, (intA z3)), (7, (intA z3)), (24, (intA z3)), (25, (boolA (z3 != (0)))), (27, (AV.ptr 0 2)), (28, (AV.ptr 0 2)), (29, (intA a1_2)), (30, (AV.ptr 0 0)), (31, (AV.ptr 0 0)), (32, (intA a1_0)), (33, (intA (IntKind.wrap .i64 (a1_2 - a1_0)))), (34, (intA (IntKind.wrap .i64 ((2) * (IntKind.wrap .i64 (a1_2 - a1_0)))))), (35, (AV.ptr 0 2)), (36, (AV.ptr 0 3)), (37, (intA a1_3)), (38, (AV.ptr 0 0)), (39, (AV.ptr 0 1)), (40, (intA a1_1)), (41, (intA (IntKind.wrap .i64 (a1_3 - a1_1)))), (42, (intA (IntKind.wrap .i64 ((IntKind.wrap .i64 ((2) * (IntKind.wrap .i64 (a1_2 - a1_0)))) * (IntKind.wrap .i64 (a1_3 - a1_1)))))), (43, (AV.ptr 0 5)), (44, (intA a1_5)), (45, (AV.ptr 0 4)), (46, (intA a1_4)), (47, (intA (IntKind.wrap .i64 (a1_5 - a1_4)))), (48, (intA (IntKind.wrap .i64 ((IntKind.wrap .i64 ((IntKind.wrap .i64 ((2) * (IntKind.wrap .i64 (a1_2 - a1_0)))) * (IntKind.wrap .i64 (a1_3 - a1_1)))) * (IntKind.wrap .i64 (a1_5 - a1_4)))))), (8, (intA (IntKind.wrap .i64 ((IntKind.wrap .i64 ((IntKind.wrap .i64 ((2) * (IntKind.wrap .i64 (a1_2 - a1_0)))) * (IntKind.wrap .i64 (a1_3 - a1_1)))) * (IntKind.wrap .i64 (a1_5 - a1_4)))))), (49, a0), (50, (intA z5)), (51, (intA (0)))], ((0, some ⟨[(intA a1_0), (intA a1_1), (intA a1_2), (intA a1_3), (intA a1_4), (intA a1_5)], 26⟩) :: []), 165⟩ (q6_0 R)))
theorem F6_own (a0 : AV) (a1_0 : Int) (a1_1 : Int) (a1_2 : Int) (a1_3 : Int) (a1_4 : Int) (a1_5 : Int) (R : AV → Mem → Prop) (h : F6 a0 a1_0 a1_1 a1_2 a1_3 a1_4 a1_5 R) : Own Try.prog KK.gl 6 [a0, (AV.agg [(intA a1_0), (intA a1_1), (intA a1_2), (intA a1_3), (intA a1_4), (intA a1_5)])] R := own_of_F fol Try.func6 (code := c6) (by kernel_rfl) (by kernel_rfl) (by kernel_rfl) (X := F6 a0 a1_0 a1_1 a1_2 a1_3 a1_4 a1_5 R) (by kernel_rfl) h
/- skyway/skywaykeep3.pick -/
noncomputable def c7 : Code := ((Try.f7).body).getD .skip
noncomputable def q7 (R : AV → Mem → Prop) : AExit → St → Prop := retQ Try.prog Try.f7 R
noncomputable def F7 (a0 : Int) (a1 : Int) (R : AV → Mem → Prop) : Prop :=
opP (opA Try.prog (.convert 3 58 (.tmp 0)) 58 [(intA a0)] (mget []) 2) fun v0 =>
ex_u64 v0 fun z1 =>
opP (opA Try.prog (.convert 3 58 (.tmp 0)) 58 [(intA a1)] (mget []) 4) fun v2 =>
ex_u64 v2 fun z3 =>
opP (opA Try.prog (.binOp .rem 58 (.tmp 0) (.tmp 1) 58) 58 [(AV.sc (.int .u64 z1)), (AV.sc (.int .u64 z3))] (mget []) 5) fun v4 =>
ex_u64 v4 fun z5 =>
opP (opA Try.prog (.convert 58 3 (.tmp 0)) 3 [(AV.sc (.int .u64 z5))] (mget []) 6) fun v6 =>
ex_i64 v6 fun z7 =>
retL R [] [some (intA z7)]
theorem F7_own (a0 : Int) (a1 : Int) (R : AV → Mem → Prop) (h : F7 a0 a1 R) : Own Try.prog KK.gl 7 [(intA a0), (intA a1)] R := own_of_F fol Try.func7 (code := c7) (by kernel_rfl) (by kernel_rfl) (by kernel_rfl) (X := F7 a0 a1 R) (by kernel_rfl) h
/- skyway/skywaykeep3.SectorShares -/
noncomputable def c4 : Code := ((Try.f4).body).getD .skip
noncomputable def q4 (R : AV → Mem → Prop) : AExit → St → Prop := retQ Try.prog Try.f4 R
noncomputable def F4 (a0 : AV) (a1_0 : Int) (a1_1 : Int) (a1_2 : Int) (a1_3 : Int) (a1_4 : Int) (a1_5 : Int) (a2 : Int) (R : AV → Mem → Prop) : Prop :=
callQ Try.prog KK.gl ((0, some ⟨[(intA a1_0), (intA a1_1), (intA a1_2), (intA a1_3), (intA a1_4), (intA a1_5)], 26⟩) :: []) 5 [] fun v0 =>
exB v0 fun b1 =>
bif (!b1) then (
retL R ((0, some ⟨[(intA a1_0), (intA a1_1), (intA a1_2), (intA a1_3), (intA a1_4), (intA a1_5)], 26⟩) :: []) [some (boolA false)]) else (
callQ Try.prog KK.gl ((0, some ⟨[(intA a1_0), (intA a1_1), (intA a1_2), (intA a1_3), (intA a1_4), (intA a1_5)], 26⟩) :: []) 6 [a0, (AV.agg [(intA a1_0), (intA a1_1), (intA a1_2), (intA a1_3), (intA a1_4), (intA a1_5)])] fun v2 =>
exT2 v2 fun c3 c4 =>
ex_i64 c3 fun z5 =>
ex_i64 c4 fun z6 =>
bif (z6 != (0)) then (
bif (z5 == (0)) then (
retL R ((0, some ⟨[(intA a1_0), (intA a1_1), (intA a1_2), (intA a1_3), (intA a1_4), (intA a1_5)], 26⟩) :: []) [some (boolA true)]) else (
retL R ((0, some ⟨[(intA a1_0), (intA a1_1), (intA a1_2), (intA a1_3), (intA a1_4), (intA a1_5)], 26⟩) :: []) [some (boolA (z6 == (0)))])) else (
opP (lenS a0) fun v7 =>
ex_i64 v7 fun z8 =>
bif (z8 == (0)) then (
bif (z5 == (0)) then (
retL R ((0, some ⟨[(intA a1_0), (intA a1_1), (intA a1_2), (intA a1_3), (intA a1_4), (intA a1_5)], 26⟩) :: []) [some (boolA true)]) else (
retL R ((0, some ⟨[(intA a1_0), (intA a1_1), (intA a1_2), (intA a1_3), (intA a1_4), (intA a1_5)], 26⟩) :: []) [some (boolA (z6 == (0)))])) else (
opP (lenS a0) fun v9 =>
ex_i64 v9 fun z10 =>
callQ Try.prog KK.gl ((0, some ⟨[(intA a1_0), (intA a1_1), (intA a1_2), (intA a1_3), (intA a1_4), (intA a1_5)], 26⟩) :: []) 7 [(intA a2), (intA z10)] fun v11 =>
ex_i64 v11 fun z12 =>
callF Try.prog KK.gl ((0, some ⟨[(intA a1_0), (intA a1_1), (intA a1_2), (intA a1_3), (intA a1_4), (intA a1_5)], 26⟩) :: []) 214 10 [a0] fun v13 d13 ft13 =>
callF Try.prog KK.gl (mpushs ((0, some ⟨[(intA a1_0), (intA a1_1), (intA a1_2), (intA a1_3), (intA a1_4), (intA a1_5)], 26⟩) :: []) d13) 218 9 [v13, (intA z12), (intA (IntKind.wrap .i64 (z12 + (1))))] fun v14 d14 ft14 =>
opM (ldA (look' (mpushs (mpushs ((0, some ⟨[(intA a1_0), (intA a1_1), (intA a1_2), (intA a1_3), (intA a1_4), (intA a1_5)], 26⟩) :: []) d13) d14) (topId (AV.ptr 0 0) ++ ([]))) 6 (AV.ptr 0 0)) fun v15 d15 =>
exA6 v15 fun c16 c17 c18 c19 c20 c21 =>
ex_i64 c16 fun z22 =>
ex_i64 c17 fun z23 =>
ex_i64 c18 fun z24 =>
ex_i64 c19 fun z25 =>
ex_i64 c20 fun z26 =>
ex_i64 c21 fun z27 =>
callF Try.prog KK.gl (mpushs (mpushs (mpushs ((0, some ⟨[(intA a1_0), (intA a1_1), (intA a1_2), (intA a1_3), (intA a1_4), (intA a1_5)], 26⟩) :: []) d13) d14) d15) 220 6 [v14, (AV.agg [(intA z22), (intA z23), (intA z24), (intA z25), (intA z26), (intA z27)])] fun v28 d28 ft28 =>
exT2 v28 fun c29 c30 =>
ex_i64 c29 fun z31 =>
ex_i64 c30 fun z32 =>
chk (confOk [0, 1, 0, 0, 8, 31, 0, 127, 255, 511, 511, 1023, 4095] [⟨[], []⟩, ⟨d13, ft13⟩, ⟨[], []⟩, ⟨[], []⟩, ⟨[], []⟩, ⟨d14, ft14⟩, ⟨d15, (topId (AV.ptr 0 0) ++ ([]))⟩, ⟨d28, ft28⟩, ⟨[], []⟩, ⟨[], []⟩, ⟨[], []⟩, ⟨[], []⟩, ⟨[], []⟩]) (opP (opA Try.prog (.slice 22 (.tmp 0) (some (.tmp 1)) (some (.tmp 2)) none) 22 [a0, (intA z12), (intA (IntKind.wrap .i64 (z12 + (1))))] (mget (mpushs (mpushs (mpushs (mpushs ((0, some ⟨[(intA a1_0), (intA a1_1), (intA a1_2), (intA a1_3), (intA a1_4), (intA a1_5)], 26⟩) :: []) d13) d14) d15) d28)) 230) fun v33 =>
opP (ldA (mget (mpushs (mpushs (mpushs (mpushs ((0, some ⟨[(intA a1_0), (intA a1_1), (intA a1_2), (intA a1_3), (intA a1_4), (intA a1_5)], 26⟩) :: []) d13) d14) d15) d28)) 6 (AV.ptr 0 0)) fun v34 =>
exA6 v34 fun c35 c36 c37 c38 c39 c40 =>
ex_i64 c35 fun z41 =>
ex_i64 c36 fun z42 =>
ex_i64 c37 fun z43 =>
ex_i64 c38 fun z44 =>
ex_i64 c39 fun z45 =>
ex_i64 c40 fun z46 =>
callQ Try.prog KK.gl (mpushs (mpushs (mpushs (mpushs ((0, some ⟨[(intA a1_0), (intA a1_1), (intA a1_2), (intA a1_3), (intA a1_4), (intA a1_5)], 26⟩) :: []) d13) d14) d15) d28) 6 [v33, (AV.agg [(intA z41), (intA z42), (intA z43), (intA z44), (intA z45), (intA z46)])] fun v47 =>
exT2 v47 fun c48 c49 =>
ex_i64 c48 fun z50 =>
ex_i64 c49 fun z51 =>
opP (ldA (mget (mpushs (mpushs (mpushs (mpushs ((0, some ⟨[(intA a1_0), (intA a1_1), (intA a1_2), (intA a1_3), (intA a1_4), (intA a1_5)], 26⟩) :: []) d13) d14) d15) d28)) 6 (AV.ptr 0 0)) fun v52 =>
exA6 v52 fun c53 c54 c55 c56 c57 c58 =>
ex_i64 c53 fun z59 =>
ex_i64 c54 fun z60 =>
ex_i64 c55 fun z61 =>
ex_i64 c56 fun z62 =>
ex_i64 c57 fun z63 =>
ex_i64 c58 fun z64 =>
callQ Try.prog KK.gl (mpushs (mpushs (mpushs (mpushs ((0, some ⟨[(intA a1_0), (intA a1_1), (intA a1_2), (intA a1_3), (intA a1_4), (intA a1_5)], 26⟩) :: []) d13) d14) d15) d28) 6 [AV.nils, (AV.agg [(intA z59), (intA z60), (intA z61), (intA z62), (intA z63), (intA z64)])] fun v65 =>
exT2 v65 fun c66 c67 =>
ex_i64 c66 fun z68 =>
ex_i64 c67 fun z69 =>
bif (z32 == (0)) then (
bif (z51 == (0)) then (
bif (z69 == (0)) then (
bif ((IntKind.wrap .i64 (z31 - z5)) == (IntKind.wrap .i64 (z68 - z50))) then (
bif (decide (z5 ≥ (0))) then (
bif (decide (z31 > z5)) then (
retL R (mpushs (mpushs (mpushs (mpushs ((0, some ⟨[(intA a1_0), (intA a1_1), (intA a1_2), (intA a1_3), (intA a1_4), (intA a1_5)], 26⟩) :: []) d13) d14) d15) d28) [some (boolA (decide (z68 ≥ z31)))]) else (
retL R (mpushs (mpushs (mpushs (mpushs ((0, some ⟨[(intA a1_0), (intA a1_1), (intA a1_2), (intA a1_3), (intA a1_4), (intA a1_5)], 26⟩) :: []) d13) d14) d15) d28) [some (boolA false)])) else (
retL R (mpushs (mpushs (mpushs (mpushs ((0, some ⟨[(intA a1_0), (intA a1_1), (intA a1_2), (intA a1_3), (intA a1_4), (intA a1_5)], 26⟩) :: []) d13) d14) d15) d28) [some (boolA false)])) else (
retL R (mpushs (mpushs (mpushs (mpushs ((0, some ⟨[(intA a1_0), (intA a1_1), (intA a1_2), (intA a1_3), (intA a1_4), (intA a1_5)], 26⟩) :: []) d13) d14) d15) d28) [some (boolA false)])) else (
retL R (mpushs (mpushs (mpushs (mpushs ((0, some ⟨[(intA a1_0), (intA a1_1), (intA a1_2), (intA a1_3), (intA a1_4), (intA a1_5)], 26⟩) :: []) d13) d14) d15) d28) [some (boolA false)])) else (
retL R (mpushs (mpushs (mpushs (mpushs ((0, some ⟨[(intA a1_0), (intA a1_1), (intA a1_2), (intA a1_3), (intA a1_4), (intA a1_5)], 26⟩) :: []) d13) d14) d15) d28) [some (boolA false)])) else (
retL R (mpushs (mpushs (mpushs (mpushs ((0, some ⟨[(intA a1_0), (intA a1_1), (intA a1_2), (intA a1_3), (intA a1_4), (intA a1_5)], 26⟩) :: []) d13) d14) d15) d28) [some (boolA false)])))))
/- skyway/sector.Find -/
noncomputable def c8 : Code := ((Try.f8).body).getD .skip
noncomputable def q8 (R : AV → Mem → Prop) : AExit → St → Prop := retQ Try.prog Try.f8 R
noncomputable def F8 (a0 : AV) (a1_0 : Int) (a1_1 : Int) (a2 : Int) (R : AV → Mem → Prop) : Prop :=
callQ Try.prog KK.gl ((0, some ⟨[(intA a1_0), (intA a1_1)], 24⟩) :: []) 14 [a0] fun v0 =>
ex_i64 v0 fun z1 =>
bif (z1 != (0)) then (
retL R ((0, some ⟨[(intA a1_0), (intA a1_1)], 24⟩) :: []) [some (intA (0)), some (intA z1)]) else (
callQ Try.prog KK.gl ((0, some ⟨[(intA a1_0), (intA a1_1)], 24⟩) :: []) 19 [(AV.agg [(intA a1_0), (intA a1_1)])] fun v2 =>
ex_i64 v2 fun z3 =>
bif (z3 != (0)) then (
retL R ((0, some ⟨[(intA a1_0), (intA a1_1)], 24⟩) :: []) [some (intA (0)), some (intA z3)]) else (
bif (decide (a2 < (0))) then (
retL R ((0, some ⟨[(intA a1_0), (intA a1_1)], 24⟩) :: []) [some (intA (0)), some (intA (4))]) else (
bif (decide (a2 > (60000))) then (
retL R ((0, some ⟨[(intA a1_0), (intA a1_1)], 24⟩) :: []) [some (intA (0)), some (intA (4))]) else (
callQ Try.prog KK.gl ((0, some ⟨[(intA a1_0), (intA a1_1)], 24⟩) :: []) 20 [a0, (AV.agg [(intA a1_0), (intA a1_1)]), (intA a2)] fun v4 =>
ex_i64 v4 fun z5 =>
bif (decide (z5 < (0))) then (
retL R ((0, some ⟨[(intA a1_0), (intA a1_1)], 24⟩) :: []) [some (intA (0)), some (intA (8))]) else (
retL R ((0, some ⟨[(intA a1_0), (intA a1_1)], 24⟩) :: []) [some (intA z5), some (intA (0))])))))
theorem F8_own (a0 : AV) (a1_0 : Int) (a1_1 : Int) (a2 : Int) (R : AV → Mem → Prop) (h : F8 a0 a1_0 a1_1 a2 R) : Own Try.prog KK.gl 8 [a0, (AV.agg [(intA a1_0), (intA a1_1)]), (intA a2)] R := own_of_F fol Try.func8 (code := c8) (by kernel_rfl) (by kernel_rfl) (by kernel_rfl) (X := F8 a0 a1_0 a1_1 a2 R) (by kernel_rfl) h
/- skyway/skywaykeep3.SectorCovers -/
noncomputable def c3 : Code := ((Try.f3).body).getD .skip
noncomputable def q3 (R : AV → Mem → Prop) : AExit → St → Prop := retQ Try.prog Try.f3 R
noncomputable def F3 (a0 : AV) (a1_0 : Int) (a1_1 : Int) (a1_2 : Int) (a1_3 : Int) (a1_4 : Int) (a1_5 : Int) (a2_0 : Int) (a2_1 : Int) (a3 : Int) (R : AV → Mem → Prop) : Prop :=
callQ Try.prog KK.gl ((1, some ⟨[(intA a2_0), (intA a2_1)], 24⟩) :: (0, some ⟨[(intA a1_0), (intA a1_1), (intA a1_2), (intA a1_3), (intA a1_4), (intA a1_5)], 26⟩) :: []) 5 [] fun v0 =>
exB v0 fun b1 =>
bif (!b1) then (
retL R ((1, some ⟨[(intA a2_0), (intA a2_1)], 24⟩) :: (0, some ⟨[(intA a1_0), (intA a1_1), (intA a1_2), (intA a1_3), (intA a1_4), (intA a1_5)], 26⟩) :: []) [some (boolA false)]) else (
callQ Try.prog KK.gl ((1, some ⟨[(intA a2_0), (intA a2_1)], 24⟩) :: (0, some ⟨[(intA a1_0), (intA a1_1), (intA a1_2), (intA a1_3), (intA a1_4), (intA a1_5)], 26⟩) :: []) 6 [a0, (AV.agg [(intA a1_0), (intA a1_1), (intA a1_2), (intA a1_3), (intA a1_4), (intA a1_5)])] fun v2 =>
exT2 v2 fun c3 c4 =>
ex_i64 c3 fun z5 =>
ex_i64 c4 fun z6 =>
bif (z6 != (0)) then (
retL R ((1, some ⟨[(intA a2_0), (intA a2_1)], 24⟩) :: (0, some ⟨[(intA a1_0), (intA a1_1), (intA a1_2), (intA a1_3), (intA a1_4), (intA a1_5)], 26⟩) :: []) [some (boolA true)]) else (
bif (z5 != (0)) then (
retL R ((1, some ⟨[(intA a2_0), (intA a2_1)], 24⟩) :: (0, some ⟨[(intA a1_0), (intA a1_1), (intA a1_2), (intA a1_3), (intA a1_4), (intA a1_5)], 26⟩) :: []) [some (boolA true)]) else (
opM (ldS (look' ((1, some ⟨[(intA a2_0), (intA a2_1)], 24⟩) :: (0, some ⟨[(intA a1_0), (intA a1_1), (intA a1_2), (intA a1_3), (intA a1_4), (intA a1_5)], 26⟩) :: []) (topId (AV.ptr 0 0) ++ ([]))) (AV.ptr 0 0)) fun v7 d7 =>
ex_i64 v7 fun z8 =>
opM (ldS (look' (mpushs ((1, some ⟨[(intA a2_0), (intA a2_1)], 24⟩) :: (0, some ⟨[(intA a1_0), (intA a1_1), (intA a1_2), (intA a1_3), (intA a1_4), (intA a1_5)], 26⟩) :: []) d7) (topId (AV.ptr 1 0) ++ ([]))) (AV.ptr 1 0)) fun v9 d9 =>
ex_i64 v9 fun z10 =>
opM (ldS (look' (mpushs (mpushs ((1, some ⟨[(intA a2_0), (intA a2_1)], 24⟩) :: (0, some ⟨[(intA a1_0), (intA a1_1), (intA a1_2), (intA a1_3), (intA a1_4), (intA a1_5)], 26⟩) :: []) d7) d9) (topId (AV.ptr 0 2) ++ ([]))) (AV.ptr 0 2)) fun v11 d11 =>
ex_i64 v11 fun z12 =>
opM (ldS (look' (mpushs (mpushs (mpushs ((1, some ⟨[(intA a2_0), (intA a2_1)], 24⟩) :: (0, some ⟨[(intA a1_0), (intA a1_1), (intA a1_2), (intA a1_3), (intA a1_4), (intA a1_5)], 26⟩) :: []) d7) d9) d11) (topId (AV.ptr 0 0) ++ ([]))) (AV.ptr 0 0)) fun v13 d13 =>
ex_i64 v13 fun z14 =>
callF Try.prog KK.gl (mpushs (mpushs (mpushs (mpushs ((1, some ⟨[(intA a2_0), (intA a2_1)], 24⟩) :: (0, some ⟨[(intA a1_0), (intA a1_1), (intA a1_2), (intA a1_3), (intA a1_4), (intA a1_5)], 26⟩) :: []) d7) d9) d11) d13) 158 7 [(intA z10), (intA (IntKind.wrap .i64 ((IntKind.wrap .i64 (z12 - z14)) + (1))))] fun v15 d15 ft15 =>
ex_i64 v15 fun z16 =>
opM (ldS (look' (mpushs (mpushs (mpushs (mpushs (mpushs ((1, some ⟨[(intA a2_0), (intA a2_1)], 24⟩) :: (0, some ⟨[(intA a1_0), (intA a1_1), (intA a1_2), (intA a1_3), (intA a1_4), (intA a1_5)], 26⟩) :: []) d7) d9) d11) d13) d15) (topId (AV.ptr 0 1) ++ ([]))) (AV.ptr 0 1)) fun v17 d17 =>
ex_i64 v17 fun z18 =>
opM (ldS (look' (mpushs (mpushs (mpushs (mpushs (mpushs (mpushs ((1, some ⟨[(intA a2_0), (intA a2_1)], 24⟩) :: (0, some ⟨[(intA a1_0), (intA a1_1), (intA a1_2), (intA a1_3), (intA a1_4), (intA a1_5)], 26⟩) :: []) d7) d9) d11) d13) d15) d17) (topId (AV.ptr 1 1) ++ ([]))) (AV.ptr 1 1)) fun v19 d19 =>
ex_i64 v19 fun z20 =>
opM (ldS (look' (mpushs (mpushs (mpushs (mpushs (mpushs (mpushs (mpushs ((1, some ⟨[(intA a2_0), (intA a2_1)], 24⟩) :: (0, some ⟨[(intA a1_0), (intA a1_1), (intA a1_2), (intA a1_3), (intA a1_4), (intA a1_5)], 26⟩) :: []) d7) d9) d11) d13) d15) d17) d19) (topId (AV.ptr 0 3) ++ ([]))) (AV.ptr 0 3)) fun v21 d21 =>
ex_i64 v21 fun z22 =>
opM (ldS (look' (mpushs (mpushs (mpushs (mpushs (mpushs (mpushs (mpushs (mpushs ((1, some ⟨[(intA a2_0), (intA a2_1)], 24⟩) :: (0, some ⟨[(intA a1_0), (intA a1_1), (intA a1_2), (intA a1_3), (intA a1_4), (intA a1_5)], 26⟩) :: []) d7) d9) d11) d13) d15) d17) d19) d21) (topId (AV.ptr 0 1) ++ ([]))) (AV.ptr 0 1)) fun v23 d23 =>
ex_i64 v23 fun z24 =>
callF Try.prog KK.gl (mpushs (mpushs (mpushs (mpushs (mpushs (mpushs (mpushs (mpushs (mpushs ((1, some ⟨[(intA a2_0), (intA a2_1)], 24⟩) :: (0, some ⟨[(intA a1_0), (intA a1_1), (intA a1_2), (intA a1_3), (intA a1_4), (intA a1_5)], 26⟩) :: []) d7) d9) d11) d13) d15) d17) d19) d21) d23) 173 7 [(intA z20), (intA (IntKind.wrap .i64 ((IntKind.wrap .i64 (z22 - z24)) + (1))))] fun v25 d25 ft25 =>
ex_i64 v25 fun z26 =>
storeW Try.prog (look' (mpushs (mpushs (mpushs (mpushs (mpushs (mpushs (mpushs (mpushs (mpushs (mpushs ((1, some ⟨[(intA a2_0), (intA a2_1)], 24⟩) :: (0, some ⟨[(intA a1_0), (intA a1_1), (intA a1_2), (intA a1_3), (intA a1_4), (intA a1_5)], 26⟩) :: []) d7) d9) d11) d13) d15) d17) d19) d21) d23) d25) (topId (AV.ptr 1 0) ++ (topId (intA (IntKind.wrap .i64 (z8 + z16))) ++ ([])))) 3 (AV.ptr 1 0) (intA (IntKind.wrap .i64 (z8 + z16))) fun v27 d27 =>
storeW Try.prog (look' (mpushs (mpushs (mpushs (mpushs (mpushs (mpushs (mpushs (mpushs (mpushs (mpushs (mpushs ((1, some ⟨[(intA a2_0), (intA a2_1)], 24⟩) :: (0, some ⟨[(intA a1_0), (intA a1_1), (intA a1_2), (intA a1_3), (intA a1_4), (intA a1_5)], 26⟩) :: []) d7) d9) d11) d13) d15) d17) d19) d21) d23) d25) d27) (topId (AV.ptr 1 1) ++ (topId (intA (IntKind.wrap .i64 (z18 + z26))) ++ ([])))) 3 (AV.ptr 1 1) (intA (IntKind.wrap .i64 (z18 + z26))) fun v28 d28 =>
chk (confOk [0, 1, 3, 0, 8, 0, 32, 96, 0, 256, 768, 2016, 4064, 8184, 16383, 0, 32768, 98304, 0, 262144, 0, 1048576, 3145728, 0, 8388608, 25165824, 66060288, 133169152, 268189688, 536854520, 819199, 1610383359, 4294967295, 8589934591] [⟨[], []⟩, ⟨[], []⟩, ⟨d7, (topId (AV.ptr 0 0) ++ ([]))⟩, ⟨[], []⟩, ⟨d9, (topId (AV.ptr 1 0) ++ ([]))⟩, ⟨[], []⟩, ⟨[], []⟩, ⟨d11, (topId (AV.ptr 0 2) ++ ([]))⟩, ⟨[], []⟩, ⟨[], []⟩, ⟨d13, (topId (AV.ptr 0 0) ++ ([]))⟩, ⟨[], []⟩, ⟨[], []⟩, ⟨d15, ft15⟩, ⟨[], []⟩, ⟨[], []⟩, ⟨[], []⟩, ⟨d17, (topId (AV.ptr 0 1) ++ ([]))⟩, ⟨[], []⟩, ⟨d19, (topId (AV.ptr 1 1) ++ ([]))⟩, ⟨[], []⟩, ⟨[], []⟩, ⟨d21, (topId (AV.ptr 0 3) ++ ([]))⟩, ⟨[], []⟩, ⟨[], []⟩, ⟨d23, (topId (AV.ptr 0 1) ++ ([]))⟩, ⟨[], []⟩, ⟨[], []⟩, ⟨d25, ft25⟩, ⟨[], []⟩, ⟨[], []⟩, ⟨d27, (topId (AV.ptr 1 0) ++ (topId (intA (IntKind.wrap .i64 (z8 + z16))) ++ ([])))⟩, ⟨[], []⟩, ⟨d28, (topId (AV.ptr 1 1) ++ (topId (intA (IntKind.wrap .i64 (z18 + z26))) ++ ([])))⟩]) (opP (ldS (mget (mpushs (mpushs (mpushs (mpushs (mpushs (mpushs (mpushs (mpushs (mpushs (mpushs (mpushs (mpushs ((1, some ⟨[(intA a2_0), (intA a2_1)], 24⟩) :: (0, some ⟨[(intA a1_0), (intA a1_1), (intA a1_2), (intA a1_3), (intA a1_4), (intA a1_5)], 26⟩) :: []) d7) d9) d11) d13) d15) d17) d19) d21) d23) d25) d27) d28)) (AV.ptr 0 4)) fun v29 =>
ex_i64 v29 fun z30 =>
opP (ldS (mget (mpushs (mpushs (mpushs (mpushs (mpushs (mpushs (mpushs (mpushs (mpushs (mpushs (mpushs (mpushs ((1, some ⟨[(intA a2_0), (intA a2_1)], 24⟩) :: (0, some ⟨[(intA a1_0), (intA a1_1), (intA a1_2), (intA a1_3), (intA a1_4), (intA a1_5)], 26⟩) :: []) d7) d9) d11) d13) d15) d17) d19) d21) d23) d25) d27) d28)) (AV.ptr 0 5)) fun v31 =>
ex_i64 v31 fun z32 =>
opP (opA Try.prog (.call ⟨.builtin .min, #[.tmp 0, .tmp 1], #[3, 3]⟩) 3 [(intA z32), (intA (60000))] (mget (mpushs (mpushs (mpushs (mpushs (mpushs (mpushs (mpushs (mpushs (mpushs (mpushs (mpushs (mpushs ((1, some ⟨[(intA a2_0), (intA a2_1)], 24⟩) :: (0, some ⟨[(intA a1_0), (intA a1_1), (intA a1_2), (intA a1_3), (intA a1_4), (intA a1_5)], 26⟩) :: []) d7) d9) d11) d13) d15) d17) d19) d21) d23) d25) d27) d28)) 184) fun v33 =>
ex_i64 v33 fun z34 =>
opP (ldS (mget (mpushs (mpushs (mpushs (mpushs (mpushs (mpushs (mpushs (mpushs (mpushs (mpushs (mpushs (mpushs ((1, some ⟨[(intA a2_0), (intA a2_1)], 24⟩) :: (0, some ⟨[(intA a1_0), (intA a1_1), (intA a1_2), (intA a1_3), (intA a1_4), (intA a1_5)], 26⟩) :: []) d7) d9) d11) d13) d15) d17) d19) d21) d23) d25) d27) d28)) (AV.ptr 0 4)) fun v35 =>
ex_i64 v35 fun z36 =>
callQ Try.prog KK.gl (mpushs (mpushs (mpushs (mpushs (mpushs (mpushs (mpushs (mpushs (mpushs (mpushs (mpushs (mpushs ((1, some ⟨[(intA a2_0), (intA a2_1)], 24⟩) :: (0, some ⟨[(intA a1_0), (intA a1_1), (intA a1_2), (intA a1_3), (intA a1_4), (intA a1_5)], 26⟩) :: []) d7) d9) d11) d13) d15) d17) d19) d21) d23) d25) d27) d28) 7 [(intA a3), (intA (IntKind.wrap .i64 ((IntKind.wrap .i64 (z34 - z36)) + (1))))] fun v37 =>
ex_i64 v37 fun z38 =>
opP (ldA (mget (mpushs (mpushs (mpushs (mpushs (mpushs (mpushs (mpushs (mpushs (mpushs (mpushs (mpushs (mpushs ((1, some ⟨[(intA a2_0), (intA a2_1)], 24⟩) :: (0, some ⟨[(intA a1_0), (intA a1_1), (intA a1_2), (intA a1_3), (intA a1_4), (intA a1_5)], 26⟩) :: []) d7) d9) d11) d13) d15) d17) d19) d21) d23) d25) d27) d28)) 2 (AV.ptr 1 0)) fun v39 =>
exA2 v39 fun c40 c41 =>
ex_i64 c40 fun z42 =>
ex_i64 c41 fun z43 =>
callQ Try.prog KK.gl (mpushs (mpushs (mpushs (mpushs (mpushs (mpushs (mpushs (mpushs (mpushs (mpushs (mpushs (mpushs ((1, some ⟨[(intA a2_0), (intA a2_1)], 24⟩) :: (0, some ⟨[(intA a1_0), (intA a1_1), (intA a1_2), (intA a1_3), (intA a1_4), (intA a1_5)], 26⟩) :: []) d7) d9) d11) d13) d15) d17) d19) d21) d23) d25) d27) d28) 8 [a0, (AV.agg [(intA z42), (intA z43)]), (intA (IntKind.wrap .i64 (z30 + z38)))] fun v44 =>
exT2 v44 fun c45 c46 =>
ex_i64 c45 fun z47 =>
ex_i64 c46 fun z48 =>
opP (ldS (mget (mpushs (mpushs (mpushs (mpushs (mpushs (mpushs (mpushs (mpushs (mpushs (mpushs (mpushs (mpushs ((1, some ⟨[(intA a2_0), (intA a2_1)], 24⟩) :: (0, some ⟨[(intA a1_0), (intA a1_1), (intA a1_2), (intA a1_3), (intA a1_4), (intA a1_5)], 26⟩) :: []) d7) d9) d11) d13) d15) d17) d19) d21) d23) d25) d27) d28)) (AV.ptr 0 5)) fun v49 =>
ex_i64 v49 fun z50 =>
bif ((IntKind.wrap .i64 (z30 + z38)) == z50) then (
retL R (mpushs (mpushs (mpushs (mpushs (mpushs (mpushs (mpushs (mpushs (mpushs (mpushs (mpushs (mpushs ((1, some ⟨[(intA a2_0), (intA a2_1)], 24⟩) :: (0, some ⟨[(intA a1_0), (intA a1_1), (intA a1_2), (intA a1_3), (intA a1_4), (intA a1_5)], 26⟩) :: []) d7) d9) d11) d13) d15) d17) d19) d21) d23) d25) d27) d28) [some (boolA true)]) else (
bif (z48 == (0)) then (
bif (decide (z47 ≥ (0))) then (
opP (lenS a0) fun v51 =>
ex_i64 v51 fun z52 =>
retL R (mpushs (mpushs (mpushs (mpushs (mpushs (mpushs (mpushs (mpushs (mpushs (mpushs (mpushs (mpushs ((1, some ⟨[(intA a2_0), (intA a2_1)], 24⟩) :: (0, some ⟨[(intA a1_0), (intA a1_1), (intA a1_2), (intA a1_3), (intA a1_4), (intA a1_5)], 26⟩) :: []) d7) d9) d11) d13) d15) d17) d19) d21) d23) d25) d27) d28) [some (boolA (decide (z47 < z52)))]) else (
retL R (mpushs (mpushs (mpushs (mpushs (mpushs (mpushs (mpushs (mpushs (mpushs (mpushs (mpushs (mpushs ((1, some ⟨[(intA a2_0), (intA a2_1)], 24⟩) :: (0, some ⟨[(intA a1_0), (intA a1_1), (intA a1_2), (intA a1_3), (intA a1_4), (intA a1_5)], 26⟩) :: []) d7) d9) d11) d13) d15) d17) d19) d21) d23) d25) d27) d28) [some (boolA false)])) else (
retL R (mpushs (mpushs (mpushs (mpushs (mpushs (mpushs (mpushs (mpushs (mpushs (mpushs (mpushs (mpushs ((1, some ⟨[(intA a2_0), (intA a2_1)], 24⟩) :: (0, some ⟨[(intA a1_0), (intA a1_1), (intA a1_2), (intA a1_3), (intA a1_4), (intA a1_5)], 26⟩) :: []) d7) d9) d11) d13) d15) d17) d19) d21) d23) d25) d27) d28) [some (boolA false)]))))))
theorem F3_own (a0 : AV) (a1_0 : Int) (a1_1 : Int) (a1_2 : Int) (a1_3 : Int) (a1_4 : Int) (a1_5 : Int) (a2_0 : Int) (a2_1 : Int) (a3 : Int) (R : AV → Mem → Prop) (h : F3 a0 a1_0 a1_1 a1_2 a1_3 a1_4 a1_5 a2_0 a2_1 a3 R) : Own Try.prog KK.gl 3 [a0, (AV.agg [(intA a1_0), (intA a1_1), (intA a1_2), (intA a1_3), (intA a1_4), (intA a1_5)]), (AV.agg [(intA a2_0), (intA a2_1)]), (intA a3)] R := own_of_F fol Try.func3 (code := c3) (by kernel_rfl) (by kernel_rfl) (by kernel_rfl) (X := F3 a0 a1_0 a1_1 a1_2 a1_3 a1_4 a1_5 a2_0 a2_1 a3 R) (by kernel_rfl) h
/- slices.Clone[[]skyway/api.Sector,skyway/api.Sector] -/
noncomputable def c10 : Code := ((Try.f10).body).getD .skip
noncomputable def q10 (R : AV → Mem → Prop) : AExit → St → Prop := retQ Try.prog Try.f10 R
noncomputable def F10 (a0 : AV) (R : AV → Mem → Prop) : Prop :=
nilK a0 fun b0 =>
bif b0 then (
retL R [] [some AV.nils]) else (
opN (bsl 3 37 2 0 [(AV.sc (.string ⟨#[]⟩)), AV.nils] []) [] fun v2 m2 =>
opN (app (mget m2) 37 2 40 [(AV.sc (.string ⟨#[]⟩)), AV.nils] 5 v2 a0) m2 fun v3 m3 =>
retL R m3 [some v3])
/- slices.Clone[skyway/api.Tube,skyway/api.TubeNode] -/
noncomputable def c44 : Code := ((Try.f44).body).getD .skip
noncomputable def q44 (R : AV → Mem → Prop) : AExit → St → Prop := retQ Try.prog Try.f44 R
noncomputable def F44 (a0 : AV) (R : AV → Mem → Prop) : Prop :=
nilK a0 fun b0 =>
bif b0 then (
retL R [] [some AV.nils]) else (
opN (bsl 3 66 6 0 [(intA (0)), (intA (0)), (intA (0)), (intA (0)), (intA (0)), (intA (0))] []) [] fun v2 m2 =>
opN (app (mget m2) 66 6 48 [(intA (0)), (intA (0)), (intA (0)), (intA (0)), (intA (0)), (intA (0))] 5 v2 a0) m2 fun v3 m3 =>
retL R m3 [some v3])
theorem F44_own (a0 : AV) (R : AV → Mem → Prop) (h : F44 a0 R) : Own Try.prog KK.gl 44 [a0] R := own_of_F fol Try.func44 (code := c44) (by kernel_rfl) (by kernel_rfl) (by kernel_rfl) (X := F44 a0 R) (by kernel_rfl) h
/- slices.Delete[[]skyway/api.Sector,skyway/api.Sector] at 1 -/
noncomputable def F9_1 (a0 : AV) (a1 : Int) (a2 : Int) (m : Mem) (R : AV → Mem → Prop) : Prop :=
opP (lenS a0) fun v0 =>
ex_i64 v0 fun z1 =>
opP (opA Try.prog (.slice 22 (.tmp 0) (some (.tmp 1)) (some (.tmp 2)) (some (.tmp 3))) 22 [a0, (intA a1), (intA a2), (intA z1)] (mget m) 7) fun v2 =>
bif (a1 == a2) then (
chk (Nat.ble 13 65) (retL R m [some a0])) else (
opP (lenS a0) fun v3 =>
ex_i64 v3 fun z4 =>
opM (opA Try.prog (.slice 22 (.tmp 0) none (some (.tmp 1)) none) 22 [a0, (intA a1)] (look' m (topId a0 ++ (topId (intA a1) ++ ([])))) 16) fun v5 d5 =>
opM (opA Try.prog (.slice 22 (.tmp 0) (some (.tmp 1)) none none) 22 [a0, (intA a2)] (look' (mpushs m d5) (topId a0 ++ (topId (intA a2) ++ ([])))) 19) fun v6 d6 =>
opM (app (look' (mpushs (mpushs m d5) d6) (topId v5 ++ (topId v6 ++ ([])))) 37 2 40 [(AV.sc (.string ⟨#[]⟩)), AV.nils] 20 v5 v6) fun v7 d7 =>
chk (confOk [0, 0, 3, 0, 0, 24, 63, 127] [⟨[], []⟩, ⟨[], []⟩, ⟨d5, (topId a0 ++ (topId (intA a1) ++ ([])))⟩, ⟨[], []⟩, ⟨[], []⟩, ⟨d6, (topId a0 ++ (topId (intA a2) ++ ([])))⟩, ⟨d7, (topId v5 ++ (topId v6 ++ ([])))⟩, ⟨[], []⟩]) (opP (lenS v7) fun v8 =>
ex_i64 v8 fun z9 =>
opP (opA Try.prog (.slice 22 (.tmp 0) (some (.tmp 1)) (some (.tmp 2)) none) 22 [v7, (intA z9), (intA z4)] (mget (mpushs (mpushs (mpushs m d5) d6) d7)) 26) fun v10 =>
opN (opA Try.prog (.call ⟨.builtin .clear, #[.tmp 0], #[22]⟩) 0 [v10] (mget (mpushs (mpushs (mpushs m d5) d6) d7)) 27) (mpushs (mpushs (mpushs m d5) d6) d7) fun v11 m11 =>
exT0 v11 <|
chk (Nat.ble 30 65) (retL R m11 [some v7])))
end Go.Proofs.Ytfncpfnanmoapaa
