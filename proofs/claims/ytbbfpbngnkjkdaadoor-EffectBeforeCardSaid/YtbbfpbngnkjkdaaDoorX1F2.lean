/- Functions of the program as conditions on their answers; printed by wip/Gen.lean.txt. -/
import Derived.Test.YtbbfpbngnkjkdaaDoorX1T
set_option linter.unusedVariables false
set_option maxRecDepth 100000
set_option maxHeartbeats 4000000
namespace Go.Proofs.YtbbfpbngnkjkdaaDoor
/- slices.BinarySearchFunc[skyway/api.Tube,skyway/api.TubeNode,int] -/
noncomputable def c34 : Code := ((Tryd.f34).body).getD .skip
noncomputable def q34 (R : AV → Mem → Prop) : AExit → St → Prop := retQ pg Tryd.f34 R
noncomputable def c34_0 : Code := loopB c34 0
noncomputable def q34_0 (R : AV → Mem → Prop) : AExit → St → Prop := contW pg KK 49 0 c34 0 (q34 R)
noncomputable def qq34_0 (R : AV → Mem → Prop) (N0 : St → Prop) : AExit → St → Prop := thenQ N0 (q34_0 R)
def h34_0 (t0 : AV) (t1 : Int) (t2 : AV) (t6 : Int) (t7 : Bool) (t8 : Int) (t9 : Int) (t10 : Int) (m : Mem) : St := ⟨[(0, t0), (1, (intA t1)), (2, t2), (6, (intA t6)), (7, (boolA t7)), (8, (intA t8)), (9, (intA t9)), (10, (intA t10))], m, 100000⟩
noncomputable def B34_0 (t0 : AV) (t1 : Int) (t2 : AV) (t6 : Int) (t7 : Bool) (t8 : Int) (t9 : Int) (t10 : Int) (m : Mem) (R : AV → Mem → Prop) (N0 : St → Prop) : Prop :=
bif (decide (t9 < t10)) then (
opP (opA pg (.convert 3 85 (.tmp 0)) 85 [(intA (IntKind.wrap .i64 (t9 + t10)))] (mget m) 100006) fun v2 =>
ex_u64 v2 fun z3 =>
opP (opA pg (.binOp .shr 85 (.tmp 0) (.tmp 1) 85) 85 [(AV.sc (.int .u64 z3)), (AV.sc (.int .u64 (1)))] (mget m) 100007) fun v4 =>
ex_u64 v4 fun z5 =>
opP (opA pg (.convert 85 3 (.tmp 0)) 3 [(AV.sc (.int .u64 z5))] (mget m) 100008) fun v6 =>
ex_i64 v6 fun z7 =>
opP (idxS 6 t0 (intA z7)) fun v8 =>
opP (ldA (mget m) 6 v8) fun v9 =>
exA6 v9 fun c10 c11 c12 c13 c14 c15 =>
ex_i64 c10 fun z16 =>
ex_i64 c11 fun z17 =>
ex_i64 c12 fun z18 =>
ex_i64 c13 fun z19 =>
ex_i64 c14 fun z20 =>
ex_i64 c15 fun z21 =>
fnArgs (some t2) (some [(AV.agg [(intA z16), (intA z17), (intA z18), (intA z19), (intA z20), (intA z21)]), (intA t1)]) fun f22 a22 => bif KK.pm f22 then callQ pg KK.gl m f22 a22 (fun v22 =>
ex_i64 v22 fun z23 =>
bif (decide (z23 < (0))) then (
N0 ⟨[(0, t0), (1, (intA t1)), (2, t2), (6, (intA t6)), (7, (boolA t7)), (8, (intA t8)), (9, (intA (IntKind.wrap .i64 (z7 + (1))))), (10, (intA t10)), (15, (intA t9)), (16, (intA t10)), (17, (boolA (decide (t9 < t10)))), (18, (intA t9)), (19, (intA t10)), (20, (intA (IntKind.wrap .i64 (t9 + t10)))), (21, (AV.sc (.int .u64 z3))), (22, (AV.sc (.int .u64 z5))), (23, (intA z7)), (11, (intA z7)), (24, t2), (25, t0), (26, (intA z7)), (27, v8), (28, (AV.agg [(intA z16), (intA z17), (intA z18), (intA z19), (intA z20), (intA z21)])), (29, (intA t1)), (30, (intA z23)), (31, (boolA (decide (z23 < (0))))), (32, (intA z7)), (33, (intA (IntKind.wrap .i64 (z7 + (1)))))], m, 100084⟩) else (
N0 ⟨[(0, t0), (1, (intA t1)), (2, t2), (6, (intA t6)), (7, (boolA t7)), (8, (intA t8)), (9, (intA t9)), (10, (intA z7)), (15, (intA t9)), (16, (intA t10)), (17, (boolA (decide (t9 < t10)))), (18, (intA t9)), (19, (intA t10)), (20, (intA (IntKind.wrap .i64 (t9 + t10)))), (21, (AV.sc (.int .u64 z3))), (22, (AV.sc (.int .u64 z5))), (23, (intA z7)), (11, (intA z7)), (24, t2), (25, t0), (26, (intA z7)), (27, v8), (28, (AV.agg [(intA z16), (intA z17), (intA z18), (intA z19), (intA z20), (intA z21)])), (29, (intA t1)), (30, (intA z23)), (31, (boolA (decide (z23 < (0))))), (34, (intA z7))], m, 100083⟩)) else callW pg KK.gl m 100016 f22 a22 fun v22 m22 =>
ex_i64 v22 fun z23 =>
bif (decide (z23 < (0))) then (
N0 ⟨[(0, t0), (1, (intA t1)), (2, t2), (6, (intA t6)), (7, (boolA t7)), (8, (intA t8)), (9, (intA (IntKind.wrap .i64 (z7 + (1))))), (10, (intA t10)), (15, (intA t9)), (16, (intA t10)), (17, (boolA (decide (t9 < t10)))), (18, (intA t9)), (19, (intA t10)), (20, (intA (IntKind.wrap .i64 (t9 + t10)))), (21, (AV.sc (.int .u64 z3))), (22, (AV.sc (.int .u64 z5))), (23, (intA z7)), (11, (intA z7)), (24, t2), (25, t0), (26, (intA z7)), (27, v8), (28, (AV.agg [(intA z16), (intA z17), (intA z18), (intA z19), (intA z20), (intA z21)])), (29, (intA t1)), (30, (intA z23)), (31, (boolA (decide (z23 < (0))))), (32, (intA z7)), (33, (intA (IntKind.wrap .i64 (z7 + (1)))))], m22, 100084⟩) else (
N0 ⟨[(0, t0), (1, (intA t1)), (2, t2), (6, (intA t6)), (7, (boolA t7)), (8, (intA t8)), (9, (intA t9)), (10, (intA z7)), (15, (intA t9)), (16, (intA t10)), (17, (boolA (decide (t9 < t10)))), (18, (intA t9)), (19, (intA t10)), (20, (intA (IntKind.wrap .i64 (t9 + t10)))), (21, (AV.sc (.int .u64 z3))), (22, (AV.sc (.int .u64 z5))), (23, (intA z7)), (11, (intA z7)), (24, t2), (25, t0), (26, (intA z7)), (27, v8), (28, (AV.agg [(intA z16), (intA z17), (intA z18), (intA z19), (intA z20), (intA z21)])), (29, (intA t1)), (30, (intA z23)), (31, (boolA (decide (z23 < (0))))), (34, (intA z7))], m22, 100083⟩)) else (
bif (decide (t9 < t8)) then (
opP (idxS 6 t0 (intA t9)) fun v24 =>
opP (ldA (mget m) 6 v24) fun v25 =>
exA6 v25 fun c26 c27 c28 c29 c30 c31 =>
ex_i64 c26 fun z32 =>
ex_i64 c27 fun z33 =>
ex_i64 c28 fun z34 =>
ex_i64 c29 fun z35 =>
ex_i64 c30 fun z36 =>
ex_i64 c31 fun z37 =>
fnArgs (some t2) (some [(AV.agg [(intA z32), (intA z33), (intA z34), (intA z35), (intA z36), (intA z37)]), (intA t1)]) fun f38 a38 => bif KK.pm f38 then callQ pg KK.gl m f38 a38 (fun v38 =>
ex_i64 v38 fun z39 =>
retL R m [some (intA t9), some (boolA (z39 == (0)))]) else callW pg KK.gl m 100014 f38 a38 fun v38 m38 =>
ex_i64 v38 fun z39 =>
retL R m38 [some (intA t9), some (boolA (z39 == (0)))]) else (
retL R m [some (intA t9), some (boolA false)]))
theorem B34_0_eq (t0 : AV) (t1 : Int) (t2 : AV) (t6 : Int) (t7 : Bool) (t8 : Int) (t9 : Int) (t10 : Int) (m : Mem) (R : AV → Mem → Prop) (N0 : St → Prop) : W pg KK 49 0 c34_0 (h34_0 t0 t1 t2 t6 t7 t8 t9 t10 m) (qq34_0 R N0) = B34_0 t0 t1 t2 t6 t7 t8 t9 t10 m R N0 := by kernel_rfl
theorem L34_0 (R : AV → Mem → Prop) {σ : Type} (I : σ → Prop) (t0 : σ → AV) (t1 : σ → Int) (t2 : σ → AV) (t6 : σ → Int) (t7 : σ → Bool) (t8 : σ → Int) (t9 : σ → Int) (t10 : σ → Int) (m : σ → Mem) (μ : σ → Nat) (step : ∀ x, I x → B34_0 (t0 x) (t1 x) (t2 x) (t6 x) (t7 x) (t8 x) (t9 x) (t10 x) (m x) R (fun s' => ∃ y, I y ∧ μ y < μ x ∧ Weak KK 49 0 s' (h34_0 (t0 y) (t1 y) (t2 y) (t6 y) (t7 y) (t8 y) (t9 y) (t10 y) (m y)))) (x : σ) (hx : I x) {s : St} (hw : Weak KK 49 0 s (h34_0 (t0 x) (t1 x) (t2 x) (t6 x) (t7 x) (t8 x) (t9 x) (t10 x) (m x))) : Tri pg KK 49 0 (.loop c34_0) s (q34_0 R) :=
  Tri.weak hw (Tri.loops fol I (fun x => h34_0 (t0 x) (t1 x) (t2 x) (t6 x) (t7 x) (t8 x) (t9 x) (t10 x) (m x)) μ (fun x hx => (B34_0_eq (t0 x) (t1 x) (t2 x) (t6 x) (t7 x) (t8 x) (t9 x) (t10 x) (m x) R _).mpr (step x hx)) x hx)
noncomputable def F34 (a0 : AV) (a1 : Int) (a2 : AV) (R : AV → Mem → Prop) : Prop :=
opP (lenS a0) fun v0 =>
ex_i64 v0 fun z1 =>
Tri pg KK 49 0 (.loop c34_0) ⟨[(0, a0), (1, (intA a1)), (2, a2), (6, (intA (0))), (7, (boolA false)), (12, a0), (13, (intA z1)), (8, (intA z1)), (14, (intA z1)), (9, (intA (0))), (10, (intA z1))], [], 8⟩ (q34_0 R)
theorem F34_own (a0 : AV) (a1 : Int) (a2 : AV) (R : AV → Mem → Prop) (h : F34 a0 a1 a2 R) : Own pg KK.gl 34 [a0, (intA a1), a2] R := own_of_F fol Tryd.func34 (code := c34) (by kernel_rfl) (by kernel_rfl) (by kernel_rfl) (X := F34 a0 a1 a2 R) (by kernel_rfl) h
/- skyway/num.DivDown -/
noncomputable def c37 : Code := ((Tryd.f37).body).getD .skip
noncomputable def q37 (R : AV → Mem → Prop) : AExit → St → Prop := retQ pg Tryd.f37 R
noncomputable def F37 (a0 : Int) (a1 : Int) (R : AV → Mem → Prop) : Prop :=
bif (a1 == (0)) then (
retL R [] [some (intA (0)), some (intA (10))]) else (
bif (a0 == (-9223372036854775808)) then (
bif (a1 == (-1)) then (
retL R [] [some (intA (0)), some (intA (2))]) else (
opP (opA pg (.binOp .quo 3 (.tmp 0) (.tmp 1) 3) 3 [(intA a0), (intA a1)] (mget []) 14) fun v0 =>
ex_i64 v0 fun z1 =>
opP (opA pg (.binOp .rem 3 (.tmp 0) (.tmp 1) 3) 3 [(intA a0), (intA a1)] (mget []) 18) fun v2 =>
ex_i64 v2 fun z3 =>
bif (z3 != (0)) then (
opP (opA pg (.binOp .neq 4 (.tmp 0) (.tmp 1) 4) 4 [(boolA (decide (a0 < (0)))), (boolA (decide (a1 < (0))))] (mget []) 25) fun v4 =>
exB v4 fun b5 =>
bif b5 then (
retL R [] [some (intA (IntKind.wrap .i64 (z1 - (1)))), some (intA (0))]) else (
retL R [] [some (intA z1), some (intA (0))])) else (
retL R [] [some (intA z1), some (intA (0))]))) else (
opP (opA pg (.binOp .quo 3 (.tmp 0) (.tmp 1) 3) 3 [(intA a0), (intA a1)] (mget []) 12) fun v6 =>
ex_i64 v6 fun z7 =>
opP (opA pg (.binOp .rem 3 (.tmp 0) (.tmp 1) 3) 3 [(intA a0), (intA a1)] (mget []) 16) fun v8 =>
ex_i64 v8 fun z9 =>
bif (z9 != (0)) then (
opP (opA pg (.binOp .neq 4 (.tmp 0) (.tmp 1) 4) 4 [(boolA (decide (a0 < (0)))), (boolA (decide (a1 < (0))))] (mget []) 23) fun v10 =>
exB v10 fun b11 =>
bif b11 then (
retL R [] [some (intA (IntKind.wrap .i64 (z7 - (1)))), some (intA (0))]) else (
retL R [] [some (intA z7), some (intA (0))])) else (
retL R [] [some (intA z7), some (intA (0))])))
theorem F37_own (a0 : Int) (a1 : Int) (R : AV → Mem → Prop) (h : F37 a0 a1 R) : Own pg KK.gl 37 [(intA a0), (intA a1)] R := own_of_F fol Tryd.func37 (code := c37) (by kernel_rfl) (by kernel_rfl) (by kernel_rfl) (X := F37 a0 a1 R) (by kernel_rfl) h
/- skyway/plane.Toward -/
noncomputable def c36 : Code := ((Tryd.f36).body).getD .skip
noncomputable def q36 (R : AV → Mem → Prop) : AExit → St → Prop := retQ pg Tryd.f36 R
noncomputable def F36 (a0_0 : Int) (a0_1 : Int) (a1_0 : Int) (a1_1 : Int) (a2 : Int) (a3 : Int) (R : AV → Mem → Prop) : Prop :=
bif (decide (a3 ≤ (0))) then (
opP (bld [(intA (0)), (intA (0))] [(0, 1), (1, 1)] []) fun v0 =>
storeW pg (mget ((2, some ⟨[(intA (0)), (intA (0))], 29⟩) :: (1, some ⟨[(intA a1_0), (intA a1_1)], 29⟩) :: (0, some ⟨[(intA a0_0), (intA a0_1)], 29⟩) :: [])) 29 (AV.ptr 2 0) v0 fun v1 d1 =>
retL R (mpushs ((2, some ⟨[(intA (0)), (intA (0))], 29⟩) :: (1, some ⟨[(intA a1_0), (intA a1_1)], 29⟩) :: (0, some ⟨[(intA a0_0), (intA a0_1)], 29⟩) :: []) d1) [(aLoad pg (mget (mpushs ((2, some ⟨[(intA (0)), (intA (0))], 29⟩) :: (1, some ⟨[(intA a1_0), (intA a1_1)], 29⟩) :: (0, some ⟨[(intA a0_0), (intA a0_1)], 29⟩) :: []) d1)) 29 (AV.ptr 2 0)).map (·.1), some (intA (10))]) else (
bif (decide (a3 > (200000))) then (
opP (bld [(intA (0)), (intA (0))] [(0, 1), (1, 1)] []) fun v2 =>
storeW pg (mget ((2, some ⟨[(intA (0)), (intA (0))], 29⟩) :: (1, some ⟨[(intA a1_0), (intA a1_1)], 29⟩) :: (0, some ⟨[(intA a0_0), (intA a0_1)], 29⟩) :: [])) 29 (AV.ptr 2 0) v2 fun v3 d3 =>
retL R (mpushs ((2, some ⟨[(intA (0)), (intA (0))], 29⟩) :: (1, some ⟨[(intA a1_0), (intA a1_1)], 29⟩) :: (0, some ⟨[(intA a0_0), (intA a0_1)], 29⟩) :: []) d3) [(aLoad pg (mget (mpushs ((2, some ⟨[(intA (0)), (intA (0))], 29⟩) :: (1, some ⟨[(intA a1_0), (intA a1_1)], 29⟩) :: (0, some ⟨[(intA a0_0), (intA a0_1)], 29⟩) :: []) d3)) 29 (AV.ptr 2 0)).map (·.1), some (intA (4))]) else (
bif (decide (a2 < (0))) then (
opP (bld [(intA (0)), (intA (0))] [(0, 1), (1, 1)] []) fun v4 =>
storeW pg (mget ((2, some ⟨[(intA (0)), (intA (0))], 29⟩) :: (1, some ⟨[(intA a1_0), (intA a1_1)], 29⟩) :: (0, some ⟨[(intA a0_0), (intA a0_1)], 29⟩) :: [])) 29 (AV.ptr 2 0) v4 fun v5 d5 =>
retL R (mpushs ((2, some ⟨[(intA (0)), (intA (0))], 29⟩) :: (1, some ⟨[(intA a1_0), (intA a1_1)], 29⟩) :: (0, some ⟨[(intA a0_0), (intA a0_1)], 29⟩) :: []) d5) [(aLoad pg (mget (mpushs ((2, some ⟨[(intA (0)), (intA (0))], 29⟩) :: (1, some ⟨[(intA a1_0), (intA a1_1)], 29⟩) :: (0, some ⟨[(intA a0_0), (intA a0_1)], 29⟩) :: []) d5)) 29 (AV.ptr 2 0)).map (·.1), some (intA (4))]) else (
bif (decide (a2 > a3)) then (
opP (bld [(intA (0)), (intA (0))] [(0, 1), (1, 1)] []) fun v6 =>
storeW pg (mget ((2, some ⟨[(intA (0)), (intA (0))], 29⟩) :: (1, some ⟨[(intA a1_0), (intA a1_1)], 29⟩) :: (0, some ⟨[(intA a0_0), (intA a0_1)], 29⟩) :: [])) 29 (AV.ptr 2 0) v6 fun v7 d7 =>
retL R (mpushs ((2, some ⟨[(intA (0)), (intA (0))], 29⟩) :: (1, some ⟨[(intA a1_0), (intA a1_1)], 29⟩) :: (0, some ⟨[(intA a0_0), (intA a0_1)], 29⟩) :: []) d7) [(aLoad pg (mget (mpushs ((2, some ⟨[(intA (0)), (intA (0))], 29⟩) :: (1, some ⟨[(intA a1_0), (intA a1_1)], 29⟩) :: (0, some ⟨[(intA a0_0), (intA a0_1)], 29⟩) :: []) d7)) 29 (AV.ptr 2 0)).map (·.1), some (intA (4))]) else (
callQ pg KK.gl ((2, some ⟨[(intA (0)), (intA (0))], 29⟩) :: (1, some ⟨[(intA a1_0), (intA a1_1)], 29⟩) :: (0, some ⟨[(intA a0_0), (intA a0_1)], 29⟩) :: []) 20 [(AV.agg [(intA a0_0), (intA a0_1)])] fun v8 =>
ex_i64 v8 fun z9 =>
bif (z9 != (0)) then (
opP (bld [(intA (0)), (intA (0))] [(0, 1), (1, 1)] []) fun v10 =>
callQ pg KK.gl ((2, some ⟨[(intA (0)), (intA (0))], 29⟩) :: (1, some ⟨[(intA a1_0), (intA a1_1)], 29⟩) :: (0, some ⟨[(intA a0_0), (intA a0_1)], 29⟩) :: []) 20 [(AV.agg [(intA a0_0), (intA a0_1)])] fun v11 =>
ex_i64 v11 fun z12 =>
storeW pg (mget ((2, some ⟨[(intA (0)), (intA (0))], 29⟩) :: (1, some ⟨[(intA a1_0), (intA a1_1)], 29⟩) :: (0, some ⟨[(intA a0_0), (intA a0_1)], 29⟩) :: [])) 29 (AV.ptr 2 0) v10 fun v13 d13 =>
retL R (mpushs ((2, some ⟨[(intA (0)), (intA (0))], 29⟩) :: (1, some ⟨[(intA a1_0), (intA a1_1)], 29⟩) :: (0, some ⟨[(intA a0_0), (intA a0_1)], 29⟩) :: []) d13) [(aLoad pg (mget (mpushs ((2, some ⟨[(intA (0)), (intA (0))], 29⟩) :: (1, some ⟨[(intA a1_0), (intA a1_1)], 29⟩) :: (0, some ⟨[(intA a0_0), (intA a0_1)], 29⟩) :: []) d13)) 29 (AV.ptr 2 0)).map (·.1), some (intA z12)]) else (
callQ pg KK.gl ((2, some ⟨[(intA (0)), (intA (0))], 29⟩) :: (1, some ⟨[(intA a1_0), (intA a1_1)], 29⟩) :: (0, some ⟨[(intA a0_0), (intA a0_1)], 29⟩) :: []) 20 [(AV.agg [(intA a1_0), (intA a1_1)])] fun v14 =>
ex_i64 v14 fun z15 =>
bif (z15 != (0)) then (
opP (bld [(intA (0)), (intA (0))] [(0, 1), (1, 1)] []) fun v16 =>
callQ pg KK.gl ((2, some ⟨[(intA (0)), (intA (0))], 29⟩) :: (1, some ⟨[(intA a1_0), (intA a1_1)], 29⟩) :: (0, some ⟨[(intA a0_0), (intA a0_1)], 29⟩) :: []) 20 [(AV.agg [(intA a1_0), (intA a1_1)])] fun v17 =>
ex_i64 v17 fun z18 =>
storeW pg (mget ((2, some ⟨[(intA (0)), (intA (0))], 29⟩) :: (1, some ⟨[(intA a1_0), (intA a1_1)], 29⟩) :: (0, some ⟨[(intA a0_0), (intA a0_1)], 29⟩) :: [])) 29 (AV.ptr 2 0) v16 fun v19 d19 =>
retL R (mpushs ((2, some ⟨[(intA (0)), (intA (0))], 29⟩) :: (1, some ⟨[(intA a1_0), (intA a1_1)], 29⟩) :: (0, some ⟨[(intA a0_0), (intA a0_1)], 29⟩) :: []) d19) [(aLoad pg (mget (mpushs ((2, some ⟨[(intA (0)), (intA (0))], 29⟩) :: (1, some ⟨[(intA a1_0), (intA a1_1)], 29⟩) :: (0, some ⟨[(intA a0_0), (intA a0_1)], 29⟩) :: []) d19)) 29 (AV.ptr 2 0)).map (·.1), some (intA z18)]) else (
callQ pg KK.gl ((2, some ⟨[(intA (0)), (intA (0))], 29⟩) :: (1, some ⟨[(intA a1_0), (intA a1_1)], 29⟩) :: (0, some ⟨[(intA a0_0), (intA a0_1)], 29⟩) :: []) 37 [(intA (IntKind.wrap .i64 ((IntKind.wrap .i64 (a1_0 - a0_0)) * a2))), (intA a3)] fun v20 =>
exT2 v20 fun c21 c22 =>
ex_i64 c21 fun z23 =>
ex_i64 c22 fun z24 =>
callQ pg KK.gl ((2, some ⟨[(intA (0)), (intA (0))], 29⟩) :: (1, some ⟨[(intA a1_0), (intA a1_1)], 29⟩) :: (0, some ⟨[(intA a0_0), (intA a0_1)], 29⟩) :: []) 37 [(intA (IntKind.wrap .i64 ((IntKind.wrap .i64 (a1_1 - a0_1)) * a2))), (intA a3)] fun v25 =>
exT2 v25 fun c26 c27 =>
ex_i64 c26 fun z28 =>
ex_i64 c27 fun z29 =>
opP (bld [(intA (0)), (intA (0))] [(0, 1), (1, 1)] [(0, (intA (IntKind.wrap .i64 (a0_0 + z23)))), (1, (intA (IntKind.wrap .i64 (a0_1 + z28))))]) fun v30 =>
storeW pg (mget ((2, some ⟨[(intA (0)), (intA (0))], 29⟩) :: (1, some ⟨[(intA a1_0), (intA a1_1)], 29⟩) :: (0, some ⟨[(intA a0_0), (intA a0_1)], 29⟩) :: [])) 29 (AV.ptr 2 0) v30 fun v31 d31 =>
retL R (mpushs ((2, some ⟨[(intA (0)), (intA (0))], 29⟩) :: (1, some ⟨[(intA a1_0), (intA a1_1)], 29⟩) :: (0, some ⟨[(intA a0_0), (intA a0_1)], 29⟩) :: []) d31) [(aLoad pg (mget (mpushs ((2, some ⟨[(intA (0)), (intA (0))], 29⟩) :: (1, some ⟨[(intA a1_0), (intA a1_1)], 29⟩) :: (0, some ⟨[(intA a0_0), (intA a0_1)], 29⟩) :: []) d31)) 29 (AV.ptr 2 0)).map (·.1), some (intA (0))]))))))
theorem F36_own (a0_0 : Int) (a0_1 : Int) (a1_0 : Int) (a1_1 : Int) (a2 : Int) (a3 : Int) (R : AV → Mem → Prop) (h : F36 a0_0 a0_1 a1_0 a1_1 a2 a3 R) : Own pg KK.gl 36 [(AV.agg [(intA a0_0), (intA a0_1)]), (AV.agg [(intA a1_0), (intA a1_1)]), (intA a2), (intA a3)] R := own_of_F fol Tryd.func36 (code := c36) (by kernel_rfl) (by kernel_rfl) (by kernel_rfl) (X := F36 a0_0 a0_1 a1_0 a1_1 a2 a3 R) (by kernel_rfl) h
/- skyway/num.DivUp -/
noncomputable def c38 : Code := ((Tryd.f38).body).getD .skip
noncomputable def q38 (R : AV → Mem → Prop) : AExit → St → Prop := retQ pg Tryd.f38 R
noncomputable def F38 (a0 : Int) (a1 : Int) (R : AV → Mem → Prop) : Prop :=
callQ pg KK.gl [] 37 [(intA a0), (intA a1)] fun v0 =>
exT2 v0 fun c1 c2 =>
ex_i64 c1 fun z3 =>
ex_i64 c2 fun z4 =>
bif (z4 == (0)) then (
opP (opA pg (.binOp .rem 3 (.tmp 0) (.tmp 1) 3) 3 [(intA a0), (intA a1)] (mget []) 78) fun v5 =>
ex_i64 v5 fun z6 =>
bif (z6 != (0)) then (
retL R [] [some (intA (IntKind.wrap .i64 (z3 + (1)))), some (intA z4)]) else (
retL R [] [some (intA z3), some (intA z4)])) else (
retL R [] [some (intA z3), some (intA z4)])
theorem F38_own (a0 : Int) (a1 : Int) (R : AV → Mem → Prop) (h : F38 a0 a1 R) : Own pg KK.gl 38 [(intA a0), (intA a1)] R := own_of_F fol Tryd.func38 (code := c38) (by kernel_rfl) (by kernel_rfl) (by kernel_rfl) (X := F38 a0 a1 R) (by kernel_rfl) h
/- skyway/tube.at -/
noncomputable def c25 : Code := ((Tryd.f25).body).getD .skip
noncomputable def q25 (R : AV → Mem → Prop) : AExit → St → Prop := retQ pg Tryd.f25 R
noncomputable def F25 (a0 : AV) (a1 : Int) (R : AV → Mem → Prop) : Prop :=
callW pg KK.gl ((0, some ⟨[(intA (0)), (intA (0)), (intA (0)), (intA (0)), (intA (0)), (intA (0))], 40⟩) :: []) 3 34 [a0, (intA a1), (AV.fn 35 [])] fun v0 m0 =>
exT2 v0 fun c1 c2 =>
ex_i64 c1 fun z3 =>
exB c2 fun b4 =>
bif b4 then (
opP (idxS 6 a0 (intA z3)) fun v5 =>
opP (ldA (mget m0) 6 v5) fun v6 =>
exA6 v6 fun c7 c8 c9 c10 c11 c12 =>
ex_i64 c7 fun z13 =>
ex_i64 c8 fun z14 =>
ex_i64 c9 fun z15 =>
ex_i64 c10 fun z16 =>
ex_i64 c11 fun z17 =>
ex_i64 c12 fun z18 =>
storeW pg (mget m0) 40 (AV.ptr 0 0) (AV.agg [(intA z13), (intA z14), (intA z15), (intA z16), (intA z17), (intA z18)]) fun v19 d19 =>
retL R (mpushs m0 d19) [(aLoad pg (mget (mpushs m0 d19)) 40 (AV.ptr 0 0)).map (·.1)]) else (
opM (idxS 6 a0 (intA (IntKind.wrap .i64 (z3 - (1))))) fun v20 d20 =>
opM (ldA (look' (mpushs m0 d20) (topId v20 ++ ([]))) 6 v20) fun v21 d21 =>
exA6 v21 fun c22 c23 c24 c25 c26 c27 =>
ex_i64 c22 fun z28 =>
ex_i64 c23 fun z29 =>
ex_i64 c24 fun z30 =>
ex_i64 c25 fun z31 =>
ex_i64 c26 fun z32 =>
ex_i64 c27 fun z33 =>
opM (idxS 6 a0 (intA z3)) fun v34 d34 =>
opM (ldA (look' (mpushs (mpushs (mpushs m0 d20) d21) d34) (topId v34 ++ ([]))) 6 v34) fun v35 d35 =>
exA6 v35 fun c36 c37 c38 c39 c40 c41 =>
ex_i64 c36 fun z42 =>
ex_i64 c37 fun z43 =>
ex_i64 c38 fun z44 =>
ex_i64 c39 fun z45 =>
ex_i64 c40 fun z46 =>
ex_i64 c41 fun z47 =>
storeW pg (look' ((83, some ⟨[(intA (0)), (intA (0)), (intA (0)), (intA (0)), (intA (0)), (intA (0))], 40⟩) :: (82, some ⟨[(intA (0)), (intA (0)), (intA (0)), (intA (0)), (intA (0)), (intA (0))], 40⟩) :: (mpushs (mpushs (mpushs (mpushs m0 d20) d21) d34) d35)) (topId (AV.ptr 82 0) ++ (topId (AV.agg [(intA z28), (intA z29), (intA z30), (intA z31), (intA z32), (intA z33)]) ++ ([])))) 40 (AV.ptr 82 0) (AV.agg [(intA z28), (intA z29), (intA z30), (intA z31), (intA z32), (intA z33)]) fun v48 d48 =>
storeW pg (look' (mpushs ((83, some ⟨[(intA (0)), (intA (0)), (intA (0)), (intA (0)), (intA (0)), (intA (0))], 40⟩) :: (82, some ⟨[(intA (0)), (intA (0)), (intA (0)), (intA (0)), (intA (0)), (intA (0))], 40⟩) :: (mpushs (mpushs (mpushs (mpushs m0 d20) d21) d34) d35)) d48) (topId (AV.ptr 83 0) ++ (topId (AV.agg [(intA z42), (intA z43), (intA z44), (intA z45), (intA z46), (intA z47)]) ++ ([])))) 40 (AV.ptr 83 0) (AV.agg [(intA z42), (intA z43), (intA z44), (intA z45), (intA z46), (intA z47)]) fun v49 d49 =>
chk (confOk [0, 0, 2, 7, 15, 0, 0, 96, 224, 0, 0, 1567, 4095] [⟨[], []⟩, ⟨[], []⟩, ⟨[], []⟩, ⟨d20, []⟩, ⟨d21, (topId v20 ++ ([]))⟩, ⟨[], []⟩, ⟨[], []⟩, ⟨d34, []⟩, ⟨d35, (topId v34 ++ ([]))⟩, ⟨[(82, some ⟨[(intA (0)), (intA (0)), (intA (0)), (intA (0)), (intA (0)), (intA (0))], 40⟩)], []⟩, ⟨[(83, some ⟨[(intA (0)), (intA (0)), (intA (0)), (intA (0)), (intA (0)), (intA (0))], 40⟩)], []⟩, ⟨d48, (topId (AV.ptr 82 0) ++ (topId (AV.agg [(intA z28), (intA z29), (intA z30), (intA z31), (intA z32), (intA z33)]) ++ ([])))⟩, ⟨d49, (topId (AV.ptr 83 0) ++ (topId (AV.agg [(intA z42), (intA z43), (intA z44), (intA z45), (intA z46), (intA z47)]) ++ ([])))⟩]) (opP (ldS (mget (mpushs (mpushs ((83, some ⟨[(intA (0)), (intA (0)), (intA (0)), (intA (0)), (intA (0)), (intA (0))], 40⟩) :: (82, some ⟨[(intA (0)), (intA (0)), (intA (0)), (intA (0)), (intA (0)), (intA (0))], 40⟩) :: (mpushs (mpushs (mpushs (mpushs m0 d20) d21) d34) d35)) d48) d49)) (AV.ptr 82 0)) fun v50 =>
ex_i64 v50 fun z51 =>
opP (ldS (mget (mpushs (mpushs ((83, some ⟨[(intA (0)), (intA (0)), (intA (0)), (intA (0)), (intA (0)), (intA (0))], 40⟩) :: (82, some ⟨[(intA (0)), (intA (0)), (intA (0)), (intA (0)), (intA (0)), (intA (0))], 40⟩) :: (mpushs (mpushs (mpushs (mpushs m0 d20) d21) d34) d35)) d48) d49)) (AV.ptr 83 0)) fun v52 =>
ex_i64 v52 fun z53 =>
opP (ldS (mget (mpushs (mpushs ((83, some ⟨[(intA (0)), (intA (0)), (intA (0)), (intA (0)), (intA (0)), (intA (0))], 40⟩) :: (82, some ⟨[(intA (0)), (intA (0)), (intA (0)), (intA (0)), (intA (0)), (intA (0))], 40⟩) :: (mpushs (mpushs (mpushs (mpushs m0 d20) d21) d34) d35)) d48) d49)) (AV.ptr 82 0)) fun v54 =>
ex_i64 v54 fun z55 =>
opP (ldA (mget (mpushs (mpushs ((83, some ⟨[(intA (0)), (intA (0)), (intA (0)), (intA (0)), (intA (0)), (intA (0))], 40⟩) :: (82, some ⟨[(intA (0)), (intA (0)), (intA (0)), (intA (0)), (intA (0)), (intA (0))], 40⟩) :: (mpushs (mpushs (mpushs (mpushs m0 d20) d21) d34) d35)) d48) d49)) 2 (AV.ptr 82 1)) fun v56 =>
exA2 v56 fun c57 c58 =>
ex_i64 c57 fun z59 =>
ex_i64 c58 fun z60 =>
opP (ldA (mget (mpushs (mpushs ((83, some ⟨[(intA (0)), (intA (0)), (intA (0)), (intA (0)), (intA (0)), (intA (0))], 40⟩) :: (82, some ⟨[(intA (0)), (intA (0)), (intA (0)), (intA (0)), (intA (0)), (intA (0))], 40⟩) :: (mpushs (mpushs (mpushs (mpushs m0 d20) d21) d34) d35)) d48) d49)) 2 (AV.ptr 83 1)) fun v61 =>
exA2 v61 fun c62 c63 =>
ex_i64 c62 fun z64 =>
ex_i64 c63 fun z65 =>
callQ pg KK.gl (mpushs (mpushs ((83, some ⟨[(intA (0)), (intA (0)), (intA (0)), (intA (0)), (intA (0)), (intA (0))], 40⟩) :: (82, some ⟨[(intA (0)), (intA (0)), (intA (0)), (intA (0)), (intA (0)), (intA (0))], 40⟩) :: (mpushs (mpushs (mpushs (mpushs m0 d20) d21) d34) d35)) d48) d49) 36 [(AV.agg [(intA z59), (intA z60)]), (AV.agg [(intA z64), (intA z65)]), (intA (IntKind.wrap .i64 (a1 - z51))), (intA (IntKind.wrap .i64 (z53 - z55)))] fun v66 =>
exT2 v66 fun c67 c68 =>
exA2 c67 fun c69 c70 =>
ex_i64 c69 fun z71 =>
ex_i64 c70 fun z72 =>
ex_i64 c68 fun z73 =>
opP (ldS (mget ((175, some ⟨[(intA z71), (intA z72)], 29⟩) :: (175, some ⟨[(intA (0)), (intA (0))], 29⟩) :: (mpushs (mpushs ((83, some ⟨[(intA (0)), (intA (0)), (intA (0)), (intA (0)), (intA (0)), (intA (0))], 40⟩) :: (82, some ⟨[(intA (0)), (intA (0)), (intA (0)), (intA (0)), (intA (0)), (intA (0))], 40⟩) :: (mpushs (mpushs (mpushs (mpushs m0 d20) d21) d34) d35)) d48) d49))) (AV.ptr 83 3)) fun v74 =>
ex_i64 v74 fun z75 =>
opP (ldS (mget ((175, some ⟨[(intA z71), (intA z72)], 29⟩) :: (175, some ⟨[(intA (0)), (intA (0))], 29⟩) :: (mpushs (mpushs ((83, some ⟨[(intA (0)), (intA (0)), (intA (0)), (intA (0)), (intA (0)), (intA (0))], 40⟩) :: (82, some ⟨[(intA (0)), (intA (0)), (intA (0)), (intA (0)), (intA (0)), (intA (0))], 40⟩) :: (mpushs (mpushs (mpushs (mpushs m0 d20) d21) d34) d35)) d48) d49))) (AV.ptr 82 3)) fun v76 =>
ex_i64 v76 fun z77 =>
callQ pg KK.gl ((175, some ⟨[(intA z71), (intA z72)], 29⟩) :: (175, some ⟨[(intA (0)), (intA (0))], 29⟩) :: (mpushs (mpushs ((83, some ⟨[(intA (0)), (intA (0)), (intA (0)), (intA (0)), (intA (0)), (intA (0))], 40⟩) :: (82, some ⟨[(intA (0)), (intA (0)), (intA (0)), (intA (0)), (intA (0)), (intA (0))], 40⟩) :: (mpushs (mpushs (mpushs (mpushs m0 d20) d21) d34) d35)) d48) d49)) 37 [(intA (IntKind.wrap .i64 ((IntKind.wrap .i64 (z75 - z77)) * (IntKind.wrap .i64 (a1 - z51))))), (intA (IntKind.wrap .i64 (z53 - z55)))] fun v78 =>
exT2 v78 fun c79 c80 =>
ex_i64 c79 fun z81 =>
ex_i64 c80 fun z82 =>
opP (ldS (mget ((175, some ⟨[(intA z71), (intA z72)], 29⟩) :: (175, some ⟨[(intA (0)), (intA (0))], 29⟩) :: (mpushs (mpushs ((83, some ⟨[(intA (0)), (intA (0)), (intA (0)), (intA (0)), (intA (0)), (intA (0))], 40⟩) :: (82, some ⟨[(intA (0)), (intA (0)), (intA (0)), (intA (0)), (intA (0)), (intA (0))], 40⟩) :: (mpushs (mpushs (mpushs (mpushs m0 d20) d21) d34) d35)) d48) d49))) (AV.ptr 83 4)) fun v83 =>
ex_i64 v83 fun z84 =>
opP (ldS (mget ((175, some ⟨[(intA z71), (intA z72)], 29⟩) :: (175, some ⟨[(intA (0)), (intA (0))], 29⟩) :: (mpushs (mpushs ((83, some ⟨[(intA (0)), (intA (0)), (intA (0)), (intA (0)), (intA (0)), (intA (0))], 40⟩) :: (82, some ⟨[(intA (0)), (intA (0)), (intA (0)), (intA (0)), (intA (0)), (intA (0))], 40⟩) :: (mpushs (mpushs (mpushs (mpushs m0 d20) d21) d34) d35)) d48) d49))) (AV.ptr 82 4)) fun v85 =>
ex_i64 v85 fun z86 =>
callQ pg KK.gl ((175, some ⟨[(intA z71), (intA z72)], 29⟩) :: (175, some ⟨[(intA (0)), (intA (0))], 29⟩) :: (mpushs (mpushs ((83, some ⟨[(intA (0)), (intA (0)), (intA (0)), (intA (0)), (intA (0)), (intA (0))], 40⟩) :: (82, some ⟨[(intA (0)), (intA (0)), (intA (0)), (intA (0)), (intA (0)), (intA (0))], 40⟩) :: (mpushs (mpushs (mpushs (mpushs m0 d20) d21) d34) d35)) d48) d49)) 38 [(intA (IntKind.wrap .i64 ((IntKind.wrap .i64 (z84 - z86)) * (IntKind.wrap .i64 (a1 - z51))))), (intA (IntKind.wrap .i64 (z53 - z55)))] fun v87 =>
exT2 v87 fun c88 c89 =>
ex_i64 c88 fun z90 =>
ex_i64 c89 fun z91 =>
opP (ldS (mget ((175, some ⟨[(intA z71), (intA z72)], 29⟩) :: (175, some ⟨[(intA (0)), (intA (0))], 29⟩) :: (mpushs (mpushs ((83, some ⟨[(intA (0)), (intA (0)), (intA (0)), (intA (0)), (intA (0)), (intA (0))], 40⟩) :: (82, some ⟨[(intA (0)), (intA (0)), (intA (0)), (intA (0)), (intA (0)), (intA (0))], 40⟩) :: (mpushs (mpushs (mpushs (mpushs m0 d20) d21) d34) d35)) d48) d49))) (AV.ptr 83 5)) fun v92 =>
ex_i64 v92 fun z93 =>
opP (ldS (mget ((175, some ⟨[(intA z71), (intA z72)], 29⟩) :: (175, some ⟨[(intA (0)), (intA (0))], 29⟩) :: (mpushs (mpushs ((83, some ⟨[(intA (0)), (intA (0)), (intA (0)), (intA (0)), (intA (0)), (intA (0))], 40⟩) :: (82, some ⟨[(intA (0)), (intA (0)), (intA (0)), (intA (0)), (intA (0)), (intA (0))], 40⟩) :: (mpushs (mpushs (mpushs (mpushs m0 d20) d21) d34) d35)) d48) d49))) (AV.ptr 82 5)) fun v94 =>
ex_i64 v94 fun z95 =>
callQ pg KK.gl ((175, some ⟨[(intA z71), (intA z72)], 29⟩) :: (175, some ⟨[(intA (0)), (intA (0))], 29⟩) :: (mpushs (mpushs ((83, some ⟨[(intA (0)), (intA (0)), (intA (0)), (intA (0)), (intA (0)), (intA (0))], 40⟩) :: (82, some ⟨[(intA (0)), (intA (0)), (intA (0)), (intA (0)), (intA (0)), (intA (0))], 40⟩) :: (mpushs (mpushs (mpushs (mpushs m0 d20) d21) d34) d35)) d48) d49)) 38 [(intA (IntKind.wrap .i64 ((IntKind.wrap .i64 (z93 - z95)) * (IntKind.wrap .i64 (a1 - z51))))), (intA (IntKind.wrap .i64 (z53 - z55)))] fun v96 =>
exT2 v96 fun c97 c98 =>
ex_i64 c97 fun z99 =>
ex_i64 c98 fun z100 =>
opP (ldS (mget ((175, some ⟨[(intA z71), (intA z72)], 29⟩) :: (175, some ⟨[(intA (0)), (intA (0))], 29⟩) :: (mpushs (mpushs ((83, some ⟨[(intA (0)), (intA (0)), (intA (0)), (intA (0)), (intA (0)), (intA (0))], 40⟩) :: (82, some ⟨[(intA (0)), (intA (0)), (intA (0)), (intA (0)), (intA (0)), (intA (0))], 40⟩) :: (mpushs (mpushs (mpushs (mpushs m0 d20) d21) d34) d35)) d48) d49))) (AV.ptr 82 3)) fun v101 =>
ex_i64 v101 fun z102 =>
opP (bld [(intA (0)), (intA (0)), (intA (0)), (intA (0))] [(0, 1), (1, 2), (3, 1)] [(0, (intA a1)), (1, (AV.agg [(intA z71), (intA z72)])), (2, (intA (IntKind.wrap .i64 (z102 + z81))))]) fun v103 =>
opP (ldS (mget ((175, some ⟨[(intA z71), (intA z72)], 29⟩) :: (175, some ⟨[(intA (0)), (intA (0))], 29⟩) :: (mpushs (mpushs ((83, some ⟨[(intA (0)), (intA (0)), (intA (0)), (intA (0)), (intA (0)), (intA (0))], 40⟩) :: (82, some ⟨[(intA (0)), (intA (0)), (intA (0)), (intA (0)), (intA (0)), (intA (0))], 40⟩) :: (mpushs (mpushs (mpushs (mpushs m0 d20) d21) d34) d35)) d48) d49))) (AV.ptr 82 4)) fun v104 =>
ex_i64 v104 fun z105 =>
opP (ldS (mget ((175, some ⟨[(intA z71), (intA z72)], 29⟩) :: (175, some ⟨[(intA (0)), (intA (0))], 29⟩) :: (mpushs (mpushs ((83, some ⟨[(intA (0)), (intA (0)), (intA (0)), (intA (0)), (intA (0)), (intA (0))], 40⟩) :: (82, some ⟨[(intA (0)), (intA (0)), (intA (0)), (intA (0)), (intA (0)), (intA (0))], 40⟩) :: (mpushs (mpushs (mpushs (mpushs m0 d20) d21) d34) d35)) d48) d49))) (AV.ptr 82 5)) fun v106 =>
ex_i64 v106 fun z107 =>
opP (bld [(intA (0)), (intA (0)), (intA (0)), (intA (0)), (intA (0)), (intA (0))] [(0, 4), (4, 1), (5, 1)] [(0, v103), (1, (intA (IntKind.wrap .i64 (z105 + z90)))), (2, (intA (IntKind.wrap .i64 (z107 + z99))))]) fun v108 =>
storeW pg (mget ((175, some ⟨[(intA z71), (intA z72)], 29⟩) :: (175, some ⟨[(intA (0)), (intA (0))], 29⟩) :: (mpushs (mpushs ((83, some ⟨[(intA (0)), (intA (0)), (intA (0)), (intA (0)), (intA (0)), (intA (0))], 40⟩) :: (82, some ⟨[(intA (0)), (intA (0)), (intA (0)), (intA (0)), (intA (0)), (intA (0))], 40⟩) :: (mpushs (mpushs (mpushs (mpushs m0 d20) d21) d34) d35)) d48) d49))) 40 (AV.ptr 0 0) v108 fun v109 d109 =>
retL R (mpushs ((175, some ⟨[(intA z71), (intA z72)], 29⟩) :: (175, some ⟨[(intA (0)), (intA (0))], 29⟩) :: (mpushs (mpushs ((83, some ⟨[(intA (0)), (intA (0)), (intA (0)), (intA (0)), (intA (0)), (intA (0))], 40⟩) :: (82, some ⟨[(intA (0)), (intA (0)), (intA (0)), (intA (0)), (intA (0)), (intA (0))], 40⟩) :: (mpushs (mpushs (mpushs (mpushs m0 d20) d21) d34) d35)) d48) d49)) d109) [(aLoad pg (mget (mpushs ((175, some ⟨[(intA z71), (intA z72)], 29⟩) :: (175, some ⟨[(intA (0)), (intA (0))], 29⟩) :: (mpushs (mpushs ((83, some ⟨[(intA (0)), (intA (0)), (intA (0)), (intA (0)), (intA (0)), (intA (0))], 40⟩) :: (82, some ⟨[(intA (0)), (intA (0)), (intA (0)), (intA (0)), (intA (0)), (intA (0))], 40⟩) :: (mpushs (mpushs (mpushs (mpushs m0 d20) d21) d34) d35)) d48) d49)) d109)) 40 (AV.ptr 0 0)).map (·.1)]))
theorem F25_own (a0 : AV) (a1 : Int) (R : AV → Mem → Prop) (h : F25 a0 a1 R) : Own pg KK.gl 25 [a0, (intA a1)] R := own_of_F fol Tryd.func25 (code := c25) (by kernel_rfl) (by kernel_rfl) (by kernel_rfl) (X := F25 a0 a1 R) (by kernel_rfl) h
/- skyway/tube.At -/
noncomputable def c8 : Code := ((Tryd.f8).body).getD .skip
noncomputable def q8 (R : AV → Mem → Prop) : AExit → St → Prop := retQ pg Tryd.f8 R
noncomputable def F8 (a0 : AV) (a1 : Int) (R : AV → Mem → Prop) : Prop :=
callQ pg KK.gl ((0, some ⟨[(intA (0)), (intA (0)), (intA (0)), (intA (0)), (intA (0)), (intA (0))], 40⟩) :: []) 7 [a0] fun v0 =>
ex_i64 v0 fun z1 =>
bif (z1 != (0)) then (
opP (bld [(intA (0)), (intA (0)), (intA (0)), (intA (0)), (intA (0)), (intA (0))] [(0, 4), (4, 1), (5, 1)] []) fun v2 =>
storeW pg (mget ((0, some ⟨[(intA (0)), (intA (0)), (intA (0)), (intA (0)), (intA (0)), (intA (0))], 40⟩) :: [])) 40 (AV.ptr 0 0) v2 fun v3 d3 =>
retL R (mpushs ((0, some ⟨[(intA (0)), (intA (0)), (intA (0)), (intA (0)), (intA (0)), (intA (0))], 40⟩) :: []) d3) [(aLoad pg (mget (mpushs ((0, some ⟨[(intA (0)), (intA (0)), (intA (0)), (intA (0)), (intA (0)), (intA (0))], 40⟩) :: []) d3)) 40 (AV.ptr 0 0)).map (·.1), some (intA z1)]) else (
callQ pg KK.gl ((0, some ⟨[(intA (0)), (intA (0)), (intA (0)), (intA (0)), (intA (0)), (intA (0))], 40⟩) :: []) 24 [a0] fun v4 =>
exT2 v4 fun c5 c6 =>
ex_i64 c5 fun z7 =>
ex_i64 c6 fun z8 =>
bif (decide (a1 < z7)) then (
opP (bld [(intA (0)), (intA (0)), (intA (0)), (intA (0)), (intA (0)), (intA (0))] [(0, 4), (4, 1), (5, 1)] []) fun v9 =>
storeW pg (mget ((0, some ⟨[(intA (0)), (intA (0)), (intA (0)), (intA (0)), (intA (0)), (intA (0))], 40⟩) :: [])) 40 (AV.ptr 0 0) v9 fun v10 d10 =>
retL R (mpushs ((0, some ⟨[(intA (0)), (intA (0)), (intA (0)), (intA (0)), (intA (0)), (intA (0))], 40⟩) :: []) d10) [(aLoad pg (mget (mpushs ((0, some ⟨[(intA (0)), (intA (0)), (intA (0)), (intA (0)), (intA (0)), (intA (0))], 40⟩) :: []) d10)) 40 (AV.ptr 0 0)).map (·.1), some (intA (12))]) else (
bif (decide (a1 > z8)) then (
opP (bld [(intA (0)), (intA (0)), (intA (0)), (intA (0)), (intA (0)), (intA (0))] [(0, 4), (4, 1), (5, 1)] []) fun v11 =>
storeW pg (mget ((0, some ⟨[(intA (0)), (intA (0)), (intA (0)), (intA (0)), (intA (0)), (intA (0))], 40⟩) :: [])) 40 (AV.ptr 0 0) v11 fun v12 d12 =>
retL R (mpushs ((0, some ⟨[(intA (0)), (intA (0)), (intA (0)), (intA (0)), (intA (0)), (intA (0))], 40⟩) :: []) d12) [(aLoad pg (mget (mpushs ((0, some ⟨[(intA (0)), (intA (0)), (intA (0)), (intA (0)), (intA (0)), (intA (0))], 40⟩) :: []) d12)) 40 (AV.ptr 0 0)).map (·.1), some (intA (12))]) else (
callQ pg KK.gl ((0, some ⟨[(intA (0)), (intA (0)), (intA (0)), (intA (0)), (intA (0)), (intA (0))], 40⟩) :: []) 25 [a0, (intA a1)] fun v13 =>
exA6 v13 fun c14 c15 c16 c17 c18 c19 =>
ex_i64 c14 fun z20 =>
ex_i64 c15 fun z21 =>
ex_i64 c16 fun z22 =>
ex_i64 c17 fun z23 =>
ex_i64 c18 fun z24 =>
ex_i64 c19 fun z25 =>
retL R ((0, some ⟨[(intA z20), (intA z21), (intA z22), (intA z23), (intA z24), (intA z25)], 40⟩) :: (0, some ⟨[(intA (0)), (intA (0)), (intA (0)), (intA (0)), (intA (0)), (intA (0))], 40⟩) :: []) [some (AV.agg [(intA z20), (intA z21), (intA z22), (intA z23), (intA z24), (intA z25)]), some (intA (0))])))
theorem F8_own (a0 : AV) (a1 : Int) (R : AV → Mem → Prop) (h : F8 a0 a1 R) : Own pg KK.gl 8 [a0, (intA a1)] R := own_of_F fol Tryd.func8 (code := c8) (by kernel_rfl) (by kernel_rfl) (by kernel_rfl) (X := F8 a0 a1 R) (by kernel_rfl) h
/- skyway/aircraft.Climb -/
noncomputable def c40 : Code := ((Tryd.f40).body).getD .skip
noncomputable def q40 (R : AV → Mem → Prop) : AExit → St → Prop := retQ pg Tryd.f40 R
noncomputable def F40 (a0_0 : ByteArray) (a0_1 : Int) (a0_2 : Int) (a0_3 : Int) (a0_4 : Int) (a0_5 : Int) (a0_6 : Int) (a1 : Int) (a2 : Int) (R : AV → Mem → Prop) : Prop :=
callQ pg KK.gl ((0, some ⟨[(AV.sc (.string a0_0)), (intA a0_1), (intA a0_2), (intA a0_3), (intA a0_4), (intA a0_5), (intA a0_6)], 27⟩) :: []) 18 [(AV.agg [(AV.sc (.string a0_0)), (intA a0_1), (intA a0_2), (intA a0_3), (intA a0_4), (intA a0_5), (intA a0_6)])] fun v0 =>
ex_i64 v0 fun z1 =>
bif (z1 != (0)) then (
retL R ((0, some ⟨[(AV.sc (.string a0_0)), (intA a0_1), (intA a0_2), (intA a0_3), (intA a0_4), (intA a0_5), (intA a0_6)], 27⟩) :: []) [some (intA (0)), some (intA z1)]) else (
bif (decide (a1 < (0))) then (
retL R ((0, some ⟨[(AV.sc (.string a0_0)), (intA a0_1), (intA a0_2), (intA a0_3), (intA a0_4), (intA a0_5), (intA a0_6)], 27⟩) :: []) [some (intA (0)), some (intA (4))]) else (
bif (decide (a1 > (60000))) then (
retL R ((0, some ⟨[(AV.sc (.string a0_0)), (intA a0_1), (intA a0_2), (intA a0_3), (intA a0_4), (intA a0_5), (intA a0_6)], 27⟩) :: []) [some (intA (0)), some (intA (4))]) else (
bif (decide (a2 < (0))) then (
retL R ((0, some ⟨[(AV.sc (.string a0_0)), (intA a0_1), (intA a0_2), (intA a0_3), (intA a0_4), (intA a0_5), (intA a0_6)], 27⟩) :: []) [some (intA (0)), some (intA (4))]) else (
bif (decide (a2 > (60000))) then (
retL R ((0, some ⟨[(AV.sc (.string a0_0)), (intA a0_1), (intA a0_2), (intA a0_3), (intA a0_4), (intA a0_5), (intA a0_6)], 27⟩) :: []) [some (intA (0)), some (intA (4))]) else (
bif (decide (a1 > a0_2)) then (
retL R ((0, some ⟨[(AV.sc (.string a0_0)), (intA a0_1), (intA a0_2), (intA a0_3), (intA a0_4), (intA a0_5), (intA a0_6)], 27⟩) :: []) [some (intA (0)), some (intA (20))]) else (
bif (decide (a2 > a0_2)) then (
retL R ((0, some ⟨[(AV.sc (.string a0_0)), (intA a0_1), (intA a0_2), (intA a0_3), (intA a0_4), (intA a0_5), (intA a0_6)], 27⟩) :: []) [some (intA (0)), some (intA (20))]) else (
bif (decide (a2 ≥ a1)) then (
callQ pg KK.gl ((0, some ⟨[(AV.sc (.string a0_0)), (intA a0_1), (intA a0_2), (intA a0_3), (intA a0_4), (intA a0_5), (intA a0_6)], 27⟩) :: []) 38 [(intA (IntKind.wrap .i64 (a2 - a1))), (intA a0_3)] fun v2 =>
exT2 v2 fun c3 c4 =>
ex_i64 c3 fun z5 =>
ex_i64 c4 fun z6 =>
retL R ((0, some ⟨[(AV.sc (.string a0_0)), (intA a0_1), (intA a0_2), (intA a0_3), (intA a0_4), (intA a0_5), (intA a0_6)], 27⟩) :: []) [some (intA z5), some (intA z6)]) else (
callQ pg KK.gl ((0, some ⟨[(AV.sc (.string a0_0)), (intA a0_1), (intA a0_2), (intA a0_3), (intA a0_4), (intA a0_5), (intA a0_6)], 27⟩) :: []) 38 [(intA (IntKind.wrap .i64 (a1 - a2))), (intA a0_4)] fun v7 =>
exT2 v7 fun c8 c9 =>
ex_i64 c8 fun z10 =>
ex_i64 c9 fun z11 =>
retL R ((0, some ⟨[(AV.sc (.string a0_0)), (intA a0_1), (intA a0_2), (intA a0_3), (intA a0_4), (intA a0_5), (intA a0_6)], 27⟩) :: []) [some (intA z10), some (intA z11)]))))))))
theorem F40_own (a0_0 : ByteArray) (a0_1 : Int) (a0_2 : Int) (a0_3 : Int) (a0_4 : Int) (a0_5 : Int) (a0_6 : Int) (a1 : Int) (a2 : Int) (R : AV → Mem → Prop) (h : F40 a0_0 a0_1 a0_2 a0_3 a0_4 a0_5 a0_6 a1 a2 R) : Own pg KK.gl 40 [(AV.agg [(AV.sc (.string a0_0)), (intA a0_1), (intA a0_2), (intA a0_3), (intA a0_4), (intA a0_5), (intA a0_6)]), (intA a1), (intA a2)] R := own_of_F fol Tryd.func40 (code := c40) (by kernel_rfl) (by kernel_rfl) (by kernel_rfl) (X := F40 a0_0 a0_1 a0_2 a0_3 a0_4 a0_5 a0_6 a1 a2 R) (by kernel_rfl) h
/- (skyway/effect.task).height$1 -/
noncomputable def c42 : Code := ((Tryd.f42).body).getD .skip
noncomputable def q42 (R : AV → Mem → Prop) : AExit → St → Prop := retQ pg Tryd.f42 R
noncomputable def F42 (a0_0 : Int) (a0_1 : Int) (a0_2 : Int) (a0_3 : Int) (a0_4 : Int) (a0_5 : Int) (a1 : AV) (R : AV → Mem → Prop) : Prop :=
opP (ldS (mget ((0, some ⟨[(intA a0_0), (intA a0_1), (intA a0_2), (intA a0_3), (intA a0_4), (intA a0_5)], 40⟩) :: [])) a1) fun v0 =>
ex_i64 v0 fun z1 =>
retL R ((0, some ⟨[(intA a0_0), (intA a0_1), (intA a0_2), (intA a0_3), (intA a0_4), (intA a0_5)], 40⟩) :: []) [some (boolA (decide (a0_0 ≥ z1)))]
theorem F42_own (a0_0 : Int) (a0_1 : Int) (a0_2 : Int) (a0_3 : Int) (a0_4 : Int) (a0_5 : Int) (a1 : AV) (R : AV → Mem → Prop) (h : F42 a0_0 a0_1 a0_2 a0_3 a0_4 a0_5 a1 R) : Own pg KK.gl 42 [(AV.agg [(intA a0_0), (intA a0_1), (intA a0_2), (intA a0_3), (intA a0_4), (intA a0_5)]), a1] R := own_of_F fol Tryd.func42 (code := c42) (by kernel_rfl) (by kernel_rfl) (by kernel_rfl) (X := F42 a0_0 a0_1 a0_2 a0_3 a0_4 a0_5 a1 R) (by kernel_rfl) h
/- slices.IndexFunc[skyway/api.Tube,skyway/api.TubeNode] -/
noncomputable def c41 : Code := ((Tryd.f41).body).getD .skip
noncomputable def q41 (R : AV → Mem → Prop) : AExit → St → Prop := retQ pg Tryd.f41 R
noncomputable def c41_0 : Code := loopB c41 0
noncomputable def q41_0 (R : AV → Mem → Prop) : AExit → St → Prop := contW pg KK 19 0 c41 0 (q41 R)
noncomputable def qq41_0 (R : AV → Mem → Prop) (N0 : St → Prop) : AExit → St → Prop := thenQ N0 (q41_0 R)
def h41_0 (t0 : AV) (t1 : AV) (t4 : Int) (t7 : Int) (t8 : Int) (m : Mem) : St := ⟨[(0, t0), (1, t1), (4, (intA t4)), (7, (intA t7)), (8, (intA t8))], m, 100000⟩
noncomputable def B41_0 (t0 : AV) (t1 : AV) (t4 : Int) (t7 : Int) (t8 : Int) (m : Mem) (R : AV → Mem → Prop) (N0 : St → Prop) : Prop :=
bif (decide (t8 < t7)) then (
opP (idxS 6 t0 (intA t8)) fun v2 =>
opP (ldA (mget m) 6 v2) fun v3 =>
exA6 v3 fun c4 c5 c6 c7 c8 c9 =>
ex_i64 c4 fun z10 =>
ex_i64 c5 fun z11 =>
ex_i64 c6 fun z12 =>
ex_i64 c7 fun z13 =>
ex_i64 c8 fun z14 =>
ex_i64 c9 fun z15 =>
fnArgs (some t1) (some [(AV.agg [(intA z10), (intA z11), (intA z12), (intA z13), (intA z14), (intA z15)])]) fun f16 a16 => bif KK.pm f16 then callQ pg KK.gl m f16 a16 (fun v16 =>
exB v16 fun b17 =>
bif b17 then (
retL R m [some (intA t8)]) else (
N0 ⟨[(0, t0), (1, t1), (4, (intA t4)), (7, (intA t7)), (8, (intA (IntKind.wrap .i64 (t8 + (1))))), (9, (boolA (decide (t8 < t7)))), (10, (intA t8)), (5, (intA t8)), (11, t1), (12, t0), (13, (intA t8)), (14, v2), (15, (AV.agg [(intA z10), (intA z11), (intA z12), (intA z13), (intA z14), (intA z15)])), (16, (boolA b17)), (18, (intA (IntKind.wrap .i64 (t8 + (1)))))], m, 100074⟩)) else callW pg KK.gl m 100008 f16 a16 fun v16 m16 =>
exB v16 fun b17 =>
bif b17 then (
retL R m16 [some (intA t8)]) else (
N0 ⟨[(0, t0), (1, t1), (4, (intA t4)), (7, (intA t7)), (8, (intA (IntKind.wrap .i64 (t8 + (1))))), (9, (boolA (decide (t8 < t7)))), (10, (intA t8)), (5, (intA t8)), (11, t1), (12, t0), (13, (intA t8)), (14, v2), (15, (AV.agg [(intA z10), (intA z11), (intA z12), (intA z13), (intA z14), (intA z15)])), (16, (boolA b17)), (18, (intA (IntKind.wrap .i64 (t8 + (1)))))], m16, 100074⟩)) else (
retL R m [some (intA (-1))])
theorem B41_0_eq (t0 : AV) (t1 : AV) (t4 : Int) (t7 : Int) (t8 : Int) (m : Mem) (R : AV → Mem → Prop) (N0 : St → Prop) : W pg KK 19 0 c41_0 (h41_0 t0 t1 t4 t7 t8 m) (qq41_0 R N0) = B41_0 t0 t1 t4 t7 t8 m R N0 := by kernel_rfl
theorem L41_0 (R : AV → Mem → Prop) {σ : Type} (I : σ → Prop) (t0 : σ → AV) (t1 : σ → AV) (t4 : σ → Int) (t7 : σ → Int) (t8 : σ → Int) (m : σ → Mem) (μ : σ → Nat) (step : ∀ x, I x → B41_0 (t0 x) (t1 x) (t4 x) (t7 x) (t8 x) (m x) R (fun s' => ∃ y, I y ∧ μ y < μ x ∧ Weak KK 19 0 s' (h41_0 (t0 y) (t1 y) (t4 y) (t7 y) (t8 y) (m y)))) (x : σ) (hx : I x) {s : St} (hw : Weak KK 19 0 s (h41_0 (t0 x) (t1 x) (t4 x) (t7 x) (t8 x) (m x))) : Tri pg KK 19 0 (.loop c41_0) s (q41_0 R) :=
  Tri.weak hw (Tri.loops fol I (fun x => h41_0 (t0 x) (t1 x) (t4 x) (t7 x) (t8 x) (m x)) μ (fun x hx => (B41_0_eq (t0 x) (t1 x) (t4 x) (t7 x) (t8 x) (m x) R _).mpr (step x hx)) x hx)
noncomputable def F41 (a0 : AV) (a1 : AV) (R : AV → Mem → Prop) : Prop :=
opP (lenS a0) fun v0 =>
ex_i64 v0 fun z1 =>
Tri pg KK 19 0 (.loop c41_0) ⟨[(0, a0), (1, a1), (4, (intA (0))), (6, a0), (7, (intA z1)), (8, (intA (0)))], [], 4⟩ (q41_0 R)
theorem F41_own (a0 : AV) (a1 : AV) (R : AV → Mem → Prop) (h : F41 a0 a1 R) : Own pg KK.gl 41 [a0, a1] R := own_of_F fol Tryd.func41 (code := c41) (by kernel_rfl) (by kernel_rfl) (by kernel_rfl) (X := F41 a0 a1 R) (by kernel_rfl) h
/- (skyway/effect.task).height -/
noncomputable def c29 : Code := ((Tryd.f29).body).getD .skip
noncomputable def q29 (R : AV → Mem → Prop) : AExit → St → Prop := retQ pg Tryd.f29 R
noncomputable def c29_0 : Code := loopB c29 0
noncomputable def q29_0 (R : AV → Mem → Prop) : AExit → St → Prop := contW pg KK 141 0 c29 0 (q29 R)
noncomputable def qq29_0 (R : AV → Mem → Prop) (N0 : St → Prop) : AExit → St → Prop := thenQ N0 (q29_0 R)
def h29_0 (t2 : AV) (t3 : Int) (t4 : Int) (t7 : AV) (t84 : Int) (t85 : Int) (m : Mem) : St := ⟨[(1, (AV.ptr 0 0)), (2, t2), (3, (intA t3)), (4, (intA t4)), (6, (AV.ptr 89 0)), (7, t7), (84, (intA t84)), (85, (intA t85))], m, 100000⟩
noncomputable def B29_0 (t2 : AV) (t3 : Int) (t4 : Int) (t7 : AV) (t84 : Int) (t85 : Int) (m : Mem) (R : AV → Mem → Prop) (N0 : St → Prop) : Prop :=
bif (decide (t85 < t84)) then (
opP (idxS 6 t7 (intA t85)) fun v47 =>
opP (opA pg (.nilCheck (.tmp 0)) 0 [v47] (mget m) 100008) fun v48 =>
opP (fldO 0 v48) fun v49 =>
opP (fldO 0 v49) fun v50 =>
opP (ldS (mget m) v50) fun v51 =>
ex_i64 v51 fun z52 =>
opP (ldS (mget m) (AV.ptr 89 0)) fun v53 =>
ex_i64 v53 fun z54 =>
bif (decide (z52 ≥ z54)) then (
opP (ldS (mget m) (AV.ptr 0 2)) fun v55 =>
ex_i64 v55 fun z56 =>
opP (opA pg (.nilCheck (.tmp 0)) 0 [v47] (mget m) 100018) fun v57 =>
opP (fldO 0 v57) fun v58 =>
opP (fldO 3 v58) fun v59 =>
storeW pg (mget m) 3 v59 (intA z56) fun v60 d60 =>
N0 ⟨[(1, (AV.ptr 0 0)), (2, t2), (3, (intA t3)), (4, (intA t4)), (6, (AV.ptr 89 0)), (7, t7), (84, (intA t84)), (85, (intA (IntKind.wrap .i64 (t85 + (1))))), (86, (boolA (decide (t85 < t84)))), (87, (intA t85)), (12, (intA t85)), (88, t7), (89, (intA t85)), (90, v47), (13, v47), (91, v47), (92, v48), (93, v49), (94, v50), (95, (intA z52)), (96, (intA z54)), (97, (boolA (decide (z52 ≥ z54)))), (98, v47), (99, (AV.ptr 0 0)), (100, (AV.ptr 0 2)), (101, (intA z56)), (102, v57), (103, v58), (104, v59), (139, (intA (IntKind.wrap .i64 (t85 + (1)))))], (mpushs m d60), 100024⟩) else (
opP (ldS (mget m) (AV.ptr 0 2)) fun v61 =>
ex_i64 v61 fun z62 =>
opP (ldS (mget m) (AV.ptr 0 9)) fun v63 =>
ex_i64 v63 fun z64 =>
opP (opA pg (.nilCheck (.tmp 0)) 0 [v47] (mget m) 100023) fun v65 =>
opP (fldO 0 v65) fun v66 =>
opP (fldO 0 v66) fun v67 =>
opP (ldS (mget m) v67) fun v68 =>
ex_i64 v68 fun z69 =>
opP (ldS (mget m) (AV.ptr 0 6)) fun v70 =>
ex_i64 v70 fun z71 =>
callQ pg KK.gl m 37 [(intA (IntKind.wrap .i64 ((IntKind.wrap .i64 (z62 - z64)) * (IntKind.wrap .i64 (z69 - z71))))), (intA t4)] fun v72 =>
exT2 v72 fun c73 c74 =>
ex_i64 c73 fun z75 =>
ex_i64 c74 fun z76 =>
opP (ldS (mget m) (AV.ptr 0 9)) fun v77 =>
ex_i64 v77 fun z78 =>
opP (opA pg (.nilCheck (.tmp 0)) 0 [v47] (mget m) 100047) fun v79 =>
opP (fldO 0 v79) fun v80 =>
opP (fldO 3 v80) fun v81 =>
storeW pg (mget m) 3 v81 (intA (IntKind.wrap .i64 (z78 + z75))) fun v82 d82 =>
N0 ⟨[(1, (AV.ptr 0 0)), (2, t2), (3, (intA t3)), (4, (intA t4)), (6, (AV.ptr 89 0)), (7, t7), (84, (intA t84)), (85, (intA (IntKind.wrap .i64 (t85 + (1))))), (86, (boolA (decide (t85 < t84)))), (87, (intA t85)), (12, (intA t85)), (88, t7), (89, (intA t85)), (90, v47), (13, v47), (91, v47), (92, v48), (93, v49), (94, v50), (95, (intA z52)), (96, (intA z54)), (97, (boolA (decide (z52 ≥ z54)))), (106, (AV.ptr 0 0)), (107, (AV.ptr 0 2)), (108, (intA z62)), (109, (AV.ptr 0 6)), (110, (AV.ptr 0 6)), (111, (AV.ptr 0 9)), (112, (intA z64)), (113, (intA (IntKind.wrap .i64 (z62 - z64)))), (114, v47), (115, v65), (116, v66), (117, v67), (118, (intA z69)), (119, (AV.ptr 0 6)), (120, (AV.ptr 0 6)), (121, (AV.ptr 0 6)), (122, (intA z71)), (123, (intA (IntKind.wrap .i64 (z69 - z71)))), (124, (intA (IntKind.wrap .i64 ((IntKind.wrap .i64 (z62 - z64)) * (IntKind.wrap .i64 (z69 - z71)))))), (125, (intA t4)), (126, (AV.tup [(intA z75), (intA z76)])), (105, (AV.tup [(intA z75), (intA z76)])), (127, (intA z75)), (128, (intA z76)), (14, (intA z75)), (15, (intA z76)), (129, v47), (130, (AV.ptr 0 6)), (131, (AV.ptr 0 6)), (132, (AV.ptr 0 9)), (133, (intA z78)), (134, (intA z75)), (135, (intA (IntKind.wrap .i64 (z78 + z75)))), (136, v79), (137, v80), (138, v81), (139, (intA (IntKind.wrap .i64 (t85 + (1)))))], (mpushs m d82), 100053⟩)) else (
retL R m [some t7, some (intA (0))])
theorem B29_0_eq (t2 : AV) (t3 : Int) (t4 : Int) (t7 : AV) (t84 : Int) (t85 : Int) (m : Mem) (R : AV → Mem → Prop) (N0 : St → Prop) : W pg KK 141 0 c29_0 (h29_0 t2 t3 t4 t7 t84 t85 m) (qq29_0 R N0) = B29_0 t2 t3 t4 t7 t84 t85 m R N0 := by kernel_rfl
theorem L29_0 (R : AV → Mem → Prop) {σ : Type} (I : σ → Prop) (t2 : σ → AV) (t3 : σ → Int) (t4 : σ → Int) (t7 : σ → AV) (t84 : σ → Int) (t85 : σ → Int) (m : σ → Mem) (μ : σ → Nat) (step : ∀ x, I x → B29_0 (t2 x) (t3 x) (t4 x) (t7 x) (t84 x) (t85 x) (m x) R (fun s' => ∃ y, I y ∧ μ y < μ x ∧ Weak KK 141 0 s' (h29_0 (t2 y) (t3 y) (t4 y) (t7 y) (t84 y) (t85 y) (m y)))) (x : σ) (hx : I x) {s : St} (hw : Weak KK 141 0 s (h29_0 (t2 x) (t3 x) (t4 x) (t7 x) (t84 x) (t85 x) (m x))) : Tri pg KK 141 0 (.loop c29_0) s (q29_0 R) :=
  Tri.weak hw (Tri.loops fol I (fun x => h29_0 (t2 x) (t3 x) (t4 x) (t7 x) (t84 x) (t85 x) (m x)) μ (fun x hx => (B29_0_eq (t2 x) (t3 x) (t4 x) (t7 x) (t84 x) (t85 x) (m x) R _).mpr (step x hx)) x hx)
noncomputable def F29 (a0_0 : ByteArray) (a0_1 : Int) (a0_2 : Int) (a0_3 : ByteArray) (a0_4 : AV) (a0_5 : AV) (a0_6 : Int) (a0_7 : Int) (a0_8 : Int) (a0_9 : Int) (a0_10 : Int) (a0_11 : Int) (a0_12 : ByteArray) (a0_13 : Int) (a0_14 : Int) (a0_15 : Int) (a0_16 : Int) (a0_17 : Int) (a0_18 : Int) (a0_19 : Int) (a0_20 : Int) (a0_21 : AV) (R : AV → Mem → Prop) : Prop :=
chk (isCell a0_4) <| chk (isCell a0_5) <| chk (isCell a0_21) <| callQ pg KK.gl ((0, some ⟨[(AV.sc (.string a0_0)), (intA a0_1), (intA a0_2), (AV.sc (.string a0_3)), a0_4, a0_5, (intA a0_6), (intA a0_7), (intA a0_8), (intA a0_9), (intA a0_10), (intA a0_11), (AV.sc (.string a0_12)), (intA a0_13), (intA a0_14), (intA a0_15), (intA a0_16), (intA a0_17), (intA a0_18), (intA a0_19), (intA a0_20), a0_21], 56⟩) :: []) 40 [(AV.agg [(AV.sc (.string a0_12)), (intA a0_13), (intA a0_14), (intA a0_15), (intA a0_16), (intA a0_17), (intA a0_18)]), (intA a0_9), (intA a0_2)] fun v0 =>
exT2 v0 fun c1 c2 =>
ex_i64 c1 fun z3 =>
ex_i64 c2 fun z4 =>
bif (z4 != (0)) then (
retL R ((0, some ⟨[(AV.sc (.string a0_0)), (intA a0_1), (intA a0_2), (AV.sc (.string a0_3)), a0_4, a0_5, (intA a0_6), (intA a0_7), (intA a0_8), (intA a0_9), (intA a0_10), (intA a0_11), (AV.sc (.string a0_12)), (intA a0_13), (intA a0_14), (intA a0_15), (intA a0_16), (intA a0_17), (intA a0_18), (intA a0_19), (intA a0_20), a0_21], 56⟩) :: []) [some AV.nils, some (intA z4)]) else (
callW pg KK.gl ((89, some ⟨[(intA (IntKind.wrap .i64 (a0_6 + z3)))], 3⟩) :: (89, some ⟨[(intA (0))], 3⟩) :: (0, some ⟨[(AV.sc (.string a0_0)), (intA a0_1), (intA a0_2), (AV.sc (.string a0_3)), a0_4, a0_5, (intA a0_6), (intA a0_7), (intA a0_8), (intA a0_9), (intA a0_10), (intA a0_11), (AV.sc (.string a0_12)), (intA a0_13), (intA a0_14), (intA a0_15), (intA a0_16), (intA a0_17), (intA a0_18), (intA a0_19), (intA a0_20), a0_21], 56⟩) :: []) 93 22 [a0_5] fun v5 m5 =>
opP (lenS v5) fun v6 =>
ex_i64 v6 fun z7 =>
bif (decide (z3 > (0))) then (
bif (decide (z7 > (0))) then (
opP (ldS (mget m5) (AV.ptr 89 0)) fun v8 =>
ex_i64 v8 fun z9 =>
opP (idxS 6 v5 (intA (IntKind.wrap .i64 (z7 - (1))))) fun v10 =>
opP (fldO 0 v10) fun v11 =>
opP (fldO 0 v11) fun v12 =>
opP (ldS (mget m5) v12) fun v13 =>
ex_i64 v13 fun z14 =>
bif (decide (z9 < z14)) then (
callQ pg KK.gl m5 41 [v5, (AV.fn 42 [(AV.ptr 89 0)])] fun v15 =>
ex_i64 v15 fun z16 =>
opP (idxS 6 v5 (intA z16)) fun v17 =>
opP (fldO 0 v17) fun v18 =>
opP (fldO 0 v18) fun v19 =>
opP (ldS (mget m5) v19) fun v20 =>
ex_i64 v20 fun z21 =>
opP (ldS (mget m5) (AV.ptr 89 0)) fun v22 =>
ex_i64 v22 fun z23 =>
bif (z21 != z23) then (
opP (ldS (mget m5) (AV.ptr 0 21)) fun v24 =>
opP (ldS (mget m5) (AV.ptr 89 0)) fun v25 =>
ex_i64 v25 fun z26 =>
callQ pg KK.gl m5 8 [v24, (intA z26)] fun v27 =>
exT2 v27 fun c28 c29 =>
exA6 c28 fun c30 c31 c32 c33 c34 c35 =>
ex_i64 c30 fun z36 =>
ex_i64 c31 fun z37 =>
ex_i64 c32 fun z38 =>
ex_i64 c33 fun z39 =>
ex_i64 c34 fun z40 =>
ex_i64 c35 fun z41 =>
ex_i64 c29 fun z42 =>
opN (bsl 329 40 6 1 [(intA (0)), (intA (0)), (intA (0)), (intA (0)), (intA (0)), (intA (0))] [(0, (AV.agg [(intA z36), (intA z37), (intA z38), (intA z39), (intA z40), (intA z41)]))]) ((323, some ⟨[(intA z36), (intA z37), (intA z38), (intA z39), (intA z40), (intA z41)], 40⟩) :: (323, some ⟨[(intA (0)), (intA (0)), (intA (0)), (intA (0)), (intA (0)), (intA (0))], 40⟩) :: m5) fun v43 m43 =>
callW pg KK.gl m43 330 43 [v5, (intA z16), v43] fun v44 m44 =>
opP (lenS v44) fun v45 =>
ex_i64 v45 fun z46 =>
Tri pg KK 141 0 (.loop c29_0) ⟨[(0, (AV.agg [(AV.sc (.string a0_0)), (intA a0_1), (intA a0_2), (AV.sc (.string a0_3)), a0_4, a0_5, (intA a0_6), (intA a0_7), (intA a0_8), (intA a0_9), (intA a0_10), (intA a0_11), (AV.sc (.string a0_12)), (intA a0_13), (intA a0_14), (intA a0_15), (intA a0_16), (intA a0_17), (intA a0_18), (intA a0_19), (intA a0_20), a0_21])), (1, (AV.ptr 0 0)), (2, AV.nils), (3, (intA (0))), (17, (AV.ptr 0 12)), (18, (AV.agg [(AV.sc (.string a0_12)), (intA a0_13), (intA a0_14), (intA a0_15), (intA a0_16), (intA a0_17), (intA a0_18)])), (19, (AV.ptr 0 6)), (20, (AV.ptr 0 6)), (21, (AV.ptr 0 9)), (22, (intA a0_9)), (23, (AV.ptr 0 0)), (24, (AV.ptr 0 2)), (25, (intA a0_2)), (26, (AV.tup [(intA z3), (intA z4)])), (16, (AV.tup [(intA z3), (intA z4)])), (27, (intA z3)), (28, (intA z4)), (4, (intA z3)), (5, (intA z4)), (29, (intA z4)), (30, (boolA (z4 != (0)))), (32, (AV.ptr 0 6)), (33, (AV.ptr 0 6)), (34, (AV.ptr 0 6)), (35, (intA a0_6)), (36, (intA z3)), (37, (intA (IntKind.wrap .i64 (a0_6 + z3)))), (6, (AV.ptr 89 0)), (38, (AV.ptr 0 5)), (39, a0_5), (40, v5), (7, v44), (41, v5), (42, (intA z7)), (8, (intA z7)), (43, (intA z3)), (44, (boolA (decide (z3 > (0))))), (45, (boolA true)), (46, (intA z7)), (47, (boolA (decide (z7 > (0))))), (48, (boolA (decide (z7 > (0))))), (49, (boolA true)), (50, (intA z9)), (51, v5), (52, (intA z7)), (53, (intA (IntKind.wrap .i64 (z7 - (1))))), (54, v10), (55, v11), (56, v12), (57, (intA z14)), (58, (boolA (decide (z9 < z14)))), (59, (boolA (decide (z9 < z14)))), (60, v5), (61, (AV.fn 42 [(AV.ptr 89 0)])), (62, (intA z16)), (9, (intA z16)), (63, v5), (64, (intA z16)), (65, v17), (66, v18), (67, v19), (68, (intA z21)), (69, (intA z23)), (70, (boolA (z21 != z23))), (72, (AV.ptr 0 21)), (73, v24), (74, (intA z26)), (75, (AV.tup [(AV.agg [(intA z36), (intA z37), (intA z38), (intA z39), (intA z40), (intA z41)]), (intA z42)])), (71, (AV.tup [(AV.agg [(intA z36), (intA z37), (intA z38), (intA z39), (intA z40), (intA z41)]), (intA z42)])), (76, (AV.agg [(intA z36), (intA z37), (intA z38), (intA z39), (intA z40), (intA z41)])), (77, (intA z42)), (10, (AV.ptr 323 0)), (11, (intA z42)), (78, v5), (79, (intA z16)), (80, (AV.agg [(intA z36), (intA z37), (intA z38), (intA z39), (intA z40), (intA z41)])), (81, v43), (82, v44), (83, v44), (84, (intA z46)), (85, (intA (0)))], m44, 398⟩ (q29_0 R)) else (
opP (lenS v5) fun v83 =>
ex_i64 v83 fun z84 =>
Tri pg KK 141 0 (.loop c29_0) ⟨[(0, (AV.agg [(AV.sc (.string a0_0)), (intA a0_1), (intA a0_2), (AV.sc (.string a0_3)), a0_4, a0_5, (intA a0_6), (intA a0_7), (intA a0_8), (intA a0_9), (intA a0_10), (intA a0_11), (AV.sc (.string a0_12)), (intA a0_13), (intA a0_14), (intA a0_15), (intA a0_16), (intA a0_17), (intA a0_18), (intA a0_19), (intA a0_20), a0_21])), (1, (AV.ptr 0 0)), (2, AV.nils), (3, (intA (0))), (17, (AV.ptr 0 12)), (18, (AV.agg [(AV.sc (.string a0_12)), (intA a0_13), (intA a0_14), (intA a0_15), (intA a0_16), (intA a0_17), (intA a0_18)])), (19, (AV.ptr 0 6)), (20, (AV.ptr 0 6)), (21, (AV.ptr 0 9)), (22, (intA a0_9)), (23, (AV.ptr 0 0)), (24, (AV.ptr 0 2)), (25, (intA a0_2)), (26, (AV.tup [(intA z3), (intA z4)])), (16, (AV.tup [(intA z3), (intA z4)])), (27, (intA z3)), (28, (intA z4)), (4, (intA z3)), (5, (intA z4)), (29, (intA z4)), (30, (boolA (z4 != (0)))), (32, (AV.ptr 0 6)), (33, (AV.ptr 0 6)), (34, (AV.ptr 0 6)), (35, (intA a0_6)), (36, (intA z3)), (37, (intA (IntKind.wrap .i64 (a0_6 + z3)))), (6, (AV.ptr 89 0)), (38, (AV.ptr 0 5)), (39, a0_5), (40, v5), (7, v5), (41, v5), (42, (intA z7)), (8, (intA z7)), (43, (intA z3)), (44, (boolA (decide (z3 > (0))))), (45, (boolA true)), (46, (intA z7)), (47, (boolA (decide (z7 > (0))))), (48, (boolA (decide (z7 > (0))))), (49, (boolA true)), (50, (intA z9)), (51, v5), (52, (intA z7)), (53, (intA (IntKind.wrap .i64 (z7 - (1))))), (54, v10), (55, v11), (56, v12), (57, (intA z14)), (58, (boolA (decide (z9 < z14)))), (59, (boolA (decide (z9 < z14)))), (60, v5), (61, (AV.fn 42 [(AV.ptr 89 0)])), (62, (intA z16)), (9, (intA z16)), (63, v5), (64, (intA z16)), (65, v17), (66, v18), (67, v19), (68, (intA z21)), (69, (intA z23)), (70, (boolA (z21 != z23))), (83, v5), (84, (intA z84)), (85, (intA (0)))], m5, 256⟩ (q29_0 R))) else (
opP (lenS v5) fun v85 =>
ex_i64 v85 fun z86 =>
Tri pg KK 141 0 (.loop c29_0) ⟨[(0, (AV.agg [(AV.sc (.string a0_0)), (intA a0_1), (intA a0_2), (AV.sc (.string a0_3)), a0_4, a0_5, (intA a0_6), (intA a0_7), (intA a0_8), (intA a0_9), (intA a0_10), (intA a0_11), (AV.sc (.string a0_12)), (intA a0_13), (intA a0_14), (intA a0_15), (intA a0_16), (intA a0_17), (intA a0_18), (intA a0_19), (intA a0_20), a0_21])), (1, (AV.ptr 0 0)), (2, AV.nils), (3, (intA (0))), (17, (AV.ptr 0 12)), (18, (AV.agg [(AV.sc (.string a0_12)), (intA a0_13), (intA a0_14), (intA a0_15), (intA a0_16), (intA a0_17), (intA a0_18)])), (19, (AV.ptr 0 6)), (20, (AV.ptr 0 6)), (21, (AV.ptr 0 9)), (22, (intA a0_9)), (23, (AV.ptr 0 0)), (24, (AV.ptr 0 2)), (25, (intA a0_2)), (26, (AV.tup [(intA z3), (intA z4)])), (16, (AV.tup [(intA z3), (intA z4)])), (27, (intA z3)), (28, (intA z4)), (4, (intA z3)), (5, (intA z4)), (29, (intA z4)), (30, (boolA (z4 != (0)))), (32, (AV.ptr 0 6)), (33, (AV.ptr 0 6)), (34, (AV.ptr 0 6)), (35, (intA a0_6)), (36, (intA z3)), (37, (intA (IntKind.wrap .i64 (a0_6 + z3)))), (6, (AV.ptr 89 0)), (38, (AV.ptr 0 5)), (39, a0_5), (40, v5), (7, v5), (41, v5), (42, (intA z7)), (8, (intA z7)), (43, (intA z3)), (44, (boolA (decide (z3 > (0))))), (45, (boolA true)), (46, (intA z7)), (47, (boolA (decide (z7 > (0))))), (48, (boolA (decide (z7 > (0))))), (49, (boolA true)), (50, (intA z9)), (51, v5), (52, (intA z7)), (53, (intA (IntKind.wrap .i64 (z7 - (1))))), (54, v10), (55, v11), (56, v12), (57, (intA z14)), (58, (boolA (decide (z9 < z14)))), (59, (boolA (decide (z9 < z14)))), (83, v5), (84, (intA z86)), (85, (intA (0)))], m5, 181⟩ (q29_0 R))) else (
opP (lenS v5) fun v87 =>
ex_i64 v87 fun z88 =>
Tri pg KK 141 0 (.loop c29_0) ⟨[(0, (AV.agg [(AV.sc (.string a0_0)), (intA a0_1), (intA a0_2), (AV.sc (.string a0_3)), a0_4, a0_5, (intA a0_6), (intA a0_7), (intA a0_8), (intA a0_9), (intA a0_10), (intA a0_11), (AV.sc (.string a0_12)), (intA a0_13), (intA a0_14), (intA a0_15), (intA a0_16), (intA a0_17), (intA a0_18), (intA a0_19), (intA a0_20), a0_21])), (1, (AV.ptr 0 0)), (2, AV.nils), (3, (intA (0))), (17, (AV.ptr 0 12)), (18, (AV.agg [(AV.sc (.string a0_12)), (intA a0_13), (intA a0_14), (intA a0_15), (intA a0_16), (intA a0_17), (intA a0_18)])), (19, (AV.ptr 0 6)), (20, (AV.ptr 0 6)), (21, (AV.ptr 0 9)), (22, (intA a0_9)), (23, (AV.ptr 0 0)), (24, (AV.ptr 0 2)), (25, (intA a0_2)), (26, (AV.tup [(intA z3), (intA z4)])), (16, (AV.tup [(intA z3), (intA z4)])), (27, (intA z3)), (28, (intA z4)), (4, (intA z3)), (5, (intA z4)), (29, (intA z4)), (30, (boolA (z4 != (0)))), (32, (AV.ptr 0 6)), (33, (AV.ptr 0 6)), (34, (AV.ptr 0 6)), (35, (intA a0_6)), (36, (intA z3)), (37, (intA (IntKind.wrap .i64 (a0_6 + z3)))), (6, (AV.ptr 89 0)), (38, (AV.ptr 0 5)), (39, a0_5), (40, v5), (7, v5), (41, v5), (42, (intA z7)), (8, (intA z7)), (43, (intA z3)), (44, (boolA (decide (z3 > (0))))), (45, (boolA true)), (46, (intA z7)), (47, (boolA (decide (z7 > (0))))), (48, (boolA (decide (z7 > (0))))), (49, (boolA false)), (50, (AV.tup [])), (51, (AV.tup [])), (52, (AV.tup [])), (53, (AV.tup [])), (54, (AV.tup [])), (55, (AV.tup [])), (56, (AV.tup [])), (57, (AV.tup [])), (58, (AV.tup [])), (59, (boolA false)), (83, v5), (84, (intA z88)), (85, (intA (0)))], m5, 181⟩ (q29_0 R))) else (
opP (lenS v5) fun v89 =>
ex_i64 v89 fun z90 =>
Tri pg KK 141 0 (.loop c29_0) ⟨[(0, (AV.agg [(AV.sc (.string a0_0)), (intA a0_1), (intA a0_2), (AV.sc (.string a0_3)), a0_4, a0_5, (intA a0_6), (intA a0_7), (intA a0_8), (intA a0_9), (intA a0_10), (intA a0_11), (AV.sc (.string a0_12)), (intA a0_13), (intA a0_14), (intA a0_15), (intA a0_16), (intA a0_17), (intA a0_18), (intA a0_19), (intA a0_20), a0_21])), (1, (AV.ptr 0 0)), (2, AV.nils), (3, (intA (0))), (17, (AV.ptr 0 12)), (18, (AV.agg [(AV.sc (.string a0_12)), (intA a0_13), (intA a0_14), (intA a0_15), (intA a0_16), (intA a0_17), (intA a0_18)])), (19, (AV.ptr 0 6)), (20, (AV.ptr 0 6)), (21, (AV.ptr 0 9)), (22, (intA a0_9)), (23, (AV.ptr 0 0)), (24, (AV.ptr 0 2)), (25, (intA a0_2)), (26, (AV.tup [(intA z3), (intA z4)])), (16, (AV.tup [(intA z3), (intA z4)])), (27, (intA z3)), (28, (intA z4)), (4, (intA z3)), (5, (intA z4)), (29, (intA z4)), (30, (boolA (z4 != (0)))), (32, (AV.ptr 0 6)), (33, (AV.ptr 0 6)), (34, (AV.ptr 0 6)), (35, (intA a0_6)), (36, (intA z3)), (37, (intA (IntKind.wrap .i64 (a0_6 + z3)))), (6, (AV.ptr 89 0)), (38, (AV.ptr 0 5)), (39, a0_5), (40, v5), (7, v5), (41, v5), (42, (intA z7)), (8, (intA z7)), (43, (intA z3)), (44, (boolA (decide (z3 > (0))))), (45, (boolA false)), (46, (AV.tup [])), (47, (AV.tup [])), (48, (boolA false)), (49, (boolA false)), (50, (AV.tup [])), (51, (AV.tup [])), (52, (AV.tup [])), (53, (AV.tup [])), (54, (AV.tup [])), (55, (AV.tup [])), (56, (AV.tup [])), (57, (AV.tup [])), (58, (AV.tup [])), (59, (boolA false)), (83, v5), (84, (intA z90)), (85, (intA (0)))], m5, 181⟩ (q29_0 R)))
theorem F29_own (a0_0 : ByteArray) (a0_1 : Int) (a0_2 : Int) (a0_3 : ByteArray) (a0_4 : AV) (a0_5 : AV) (a0_6 : Int) (a0_7 : Int) (a0_8 : Int) (a0_9 : Int) (a0_10 : Int) (a0_11 : Int) (a0_12 : ByteArray) (a0_13 : Int) (a0_14 : Int) (a0_15 : Int) (a0_16 : Int) (a0_17 : Int) (a0_18 : Int) (a0_19 : Int) (a0_20 : Int) (a0_21 : AV) (R : AV → Mem → Prop) (h : F29 a0_0 a0_1 a0_2 a0_3 a0_4 a0_5 a0_6 a0_7 a0_8 a0_9 a0_10 a0_11 a0_12 a0_13 a0_14 a0_15 a0_16 a0_17 a0_18 a0_19 a0_20 a0_21 R) : Own pg KK.gl 29 [(AV.agg [(AV.sc (.string a0_0)), (intA a0_1), (intA a0_2), (AV.sc (.string a0_3)), a0_4, a0_5, (intA a0_6), (intA a0_7), (intA a0_8), (intA a0_9), (intA a0_10), (intA a0_11), (AV.sc (.string a0_12)), (intA a0_13), (intA a0_14), (intA a0_15), (intA a0_16), (intA a0_17), (intA a0_18), (intA a0_19), (intA a0_20), a0_21])] R := own_of_F fol Tryd.func29 (code := c29) (by kernel_rfl) (by kernel_rfl) (by kernel_rfl) (X := F29 a0_0 a0_1 a0_2 a0_3 a0_4 a0_5 a0_6 a0_7 a0_8 a0_9 a0_10 a0_11 a0_12 a0_13 a0_14 a0_15 a0_16 a0_17 a0_18 a0_19 a0_20 a0_21 R) (by kernel_rfl) h
/- skyway/plane.Sub -/
noncomputable def c9 : Code := ((Tryd.f9).body).getD .skip
noncomputable def q9 (R : AV → Mem → Prop) : AExit → St → Prop := retQ pg Tryd.f9 R
noncomputable def F9 (a0_0 : Int) (a0_1 : Int) (a1_0 : Int) (a1_1 : Int) (R : AV → Mem → Prop) : Prop :=
opP (bld [(intA (0)), (intA (0))] [(0, 1), (1, 1)] [(0, (intA (IntKind.wrap .i64 (a0_0 - a1_0)))), (1, (intA (IntKind.wrap .i64 (a0_1 - a1_1))))]) fun v0 =>
storeW pg (mget ((2, some ⟨[(intA (0)), (intA (0))], 29⟩) :: (1, some ⟨[(intA a1_0), (intA a1_1)], 29⟩) :: (0, some ⟨[(intA a0_0), (intA a0_1)], 29⟩) :: [])) 29 (AV.ptr 2 0) v0 fun v1 d1 =>
retL R (mpushs ((2, some ⟨[(intA (0)), (intA (0))], 29⟩) :: (1, some ⟨[(intA a1_0), (intA a1_1)], 29⟩) :: (0, some ⟨[(intA a0_0), (intA a0_1)], 29⟩) :: []) d1) [(aLoad pg (mget (mpushs ((2, some ⟨[(intA (0)), (intA (0))], 29⟩) :: (1, some ⟨[(intA a1_0), (intA a1_1)], 29⟩) :: (0, some ⟨[(intA a0_0), (intA a0_1)], 29⟩) :: []) d1)) 29 (AV.ptr 2 0)).map (·.1)]
theorem F9_own (a0_0 : Int) (a0_1 : Int) (a1_0 : Int) (a1_1 : Int) (R : AV → Mem → Prop) (h : F9 a0_0 a0_1 a1_0 a1_1 R) : Own pg KK.gl 9 [(AV.agg [(intA a0_0), (intA a0_1)]), (AV.agg [(intA a1_0), (intA a1_1)])] R := own_of_F fol Tryd.func9 (code := c9) (by kernel_rfl) (by kernel_rfl) (by kernel_rfl) (X := F9 a0_0 a0_1 a1_0 a1_1 R) (by kernel_rfl) h
/- skyway/plane.Dot -/
noncomputable def c60 : Code := ((Tryd.f60).body).getD .skip
noncomputable def q60 (R : AV → Mem → Prop) : AExit → St → Prop := retQ pg Tryd.f60 R
noncomputable def F60 (a0_0 : Int) (a0_1 : Int) (a1_0 : Int) (a1_1 : Int) (R : AV → Mem → Prop) : Prop :=
retL R ((1, some ⟨[(intA a1_0), (intA a1_1)], 29⟩) :: (0, some ⟨[(intA a0_0), (intA a0_1)], 29⟩) :: []) [some (intA (IntKind.wrap .i64 ((IntKind.wrap .i64 (a0_0 * a1_0)) + (IntKind.wrap .i64 (a0_1 * a1_1)))))]
theorem F60_own (a0_0 : Int) (a0_1 : Int) (a1_0 : Int) (a1_1 : Int) (R : AV → Mem → Prop) (h : F60 a0_0 a0_1 a1_0 a1_1 R) : Own pg KK.gl 60 [(AV.agg [(intA a0_0), (intA a0_1)]), (AV.agg [(intA a1_0), (intA a1_1)])] R := own_of_F fol Tryd.func60 (code := c60) (by kernel_rfl) (by kernel_rfl) (by kernel_rfl) (X := F60 a0_0 a0_1 a1_0 a1_1 R) (by kernel_rfl) h
/- skyway/plane.Square -/
noncomputable def c54 : Code := ((Tryd.f54).body).getD .skip
noncomputable def q54 (R : AV → Mem → Prop) : AExit → St → Prop := retQ pg Tryd.f54 R
noncomputable def F54 (a0_0 : Int) (a0_1 : Int) (a1_0 : Int) (a1_1 : Int) (R : AV → Mem → Prop) : Prop :=
callQ pg KK.gl ((1, some ⟨[(intA a1_0), (intA a1_1)], 29⟩) :: (0, some ⟨[(intA a0_0), (intA a0_1)], 29⟩) :: []) 9 [(AV.agg [(intA a0_0), (intA a0_1)]), (AV.agg [(intA a1_0), (intA a1_1)])] fun v0 =>
exA2 v0 fun c1 c2 =>
ex_i64 c1 fun z3 =>
ex_i64 c2 fun z4 =>
callQ pg KK.gl ((69, some ⟨[(intA z3), (intA z4)], 29⟩) :: (69, some ⟨[(intA (0)), (intA (0))], 29⟩) :: (1, some ⟨[(intA a1_0), (intA a1_1)], 29⟩) :: (0, some ⟨[(intA a0_0), (intA a0_1)], 29⟩) :: []) 60 [(AV.agg [(intA z3), (intA z4)]), (AV.agg [(intA z3), (intA z4)])] fun v5 =>
ex_i64 v5 fun z6 =>
retL R ((69, some ⟨[(intA z3), (intA z4)], 29⟩) :: (69, some ⟨[(intA (0)), (intA (0))], 29⟩) :: (1, some ⟨[(intA a1_0), (intA a1_1)], 29⟩) :: (0, some ⟨[(intA a0_0), (intA a0_1)], 29⟩) :: []) [some (intA z6)]
theorem F54_own (a0_0 : Int) (a0_1 : Int) (a1_0 : Int) (a1_1 : Int) (R : AV → Mem → Prop) (h : F54 a0_0 a0_1 a1_0 a1_1 R) : Own pg KK.gl 54 [(AV.agg [(intA a0_0), (intA a0_1)]), (AV.agg [(intA a1_0), (intA a1_1)])] R := own_of_F fol Tryd.func54 (code := c54) (by kernel_rfl) (by kernel_rfl) (by kernel_rfl) (X := F54 a0_0 a0_1 a1_0 a1_1 R) (by kernel_rfl) h
/- skyway/num.Root -/
noncomputable def c55 : Code := ((Tryd.f55).body).getD .skip
noncomputable def q55 (R : AV → Mem → Prop) : AExit → St → Prop := retQ pg Tryd.f55 R
noncomputable def c55_0 : Code := loopB c55 0
noncomputable def q55_0 (R : AV → Mem → Prop) : AExit → St → Prop := contW pg KK 27 0 c55 0 (q55 R)
noncomputable def qq55_0 (R : AV → Mem → Prop) (N0 : St → Prop) : AExit → St → Prop := thenQ N0 (q55_0 R)
def h55_0 (t0 : Int) (t2 : Int) (t3 : Int) (t4 : Int) (m : Mem) : St := ⟨[(0, (intA t0)), (2, (intA t2)), (3, (intA t3)), (4, (intA t4))], m, 100000⟩
noncomputable def B55_0 (t0 : Int) (t2 : Int) (t3 : Int) (t4 : Int) (m : Mem) (R : AV → Mem → Prop) (N0 : St → Prop) : Prop :=
bif (decide (t3 < t4)) then (
bif (decide ((IntKind.wrap .i64 ((IntKind.wrap .i64 (t3 + (IntKind.wrap .i64 (Int.tdiv (IntKind.wrap .i64 ((IntKind.wrap .i64 (t4 - t3)) + (1))) (2))))) * (IntKind.wrap .i64 (t3 + (IntKind.wrap .i64 (Int.tdiv (IntKind.wrap .i64 ((IntKind.wrap .i64 (t4 - t3)) + (1))) (2))))))) ≤ t0)) then (
N0 ⟨[(0, (intA t0)), (2, (intA t2)), (3, (intA (IntKind.wrap .i64 (t3 + (IntKind.wrap .i64 (Int.tdiv (IntKind.wrap .i64 ((IntKind.wrap .i64 (t4 - t3)) + (1))) (2))))))), (4, (intA t4)), (8, (intA t3)), (9, (intA t4)), (10, (boolA (decide (t3 < t4)))), (11, (intA t3)), (12, (intA t4)), (13, (intA t3)), (14, (intA (IntKind.wrap .i64 (t4 - t3)))), (15, (intA (IntKind.wrap .i64 ((IntKind.wrap .i64 (t4 - t3)) + (1))))), (16, (intA (IntKind.wrap .i64 (Int.tdiv (IntKind.wrap .i64 ((IntKind.wrap .i64 (t4 - t3)) + (1))) (2))))), (17, (intA (IntKind.wrap .i64 (t3 + (IntKind.wrap .i64 (Int.tdiv (IntKind.wrap .i64 ((IntKind.wrap .i64 (t4 - t3)) + (1))) (2))))))), (5, (intA (IntKind.wrap .i64 (t3 + (IntKind.wrap .i64 (Int.tdiv (IntKind.wrap .i64 ((IntKind.wrap .i64 (t4 - t3)) + (1))) (2))))))), (18, (intA (IntKind.wrap .i64 (t3 + (IntKind.wrap .i64 (Int.tdiv (IntKind.wrap .i64 ((IntKind.wrap .i64 (t4 - t3)) + (1))) (2))))))), (19, (intA (IntKind.wrap .i64 (t3 + (IntKind.wrap .i64 (Int.tdiv (IntKind.wrap .i64 ((IntKind.wrap .i64 (t4 - t3)) + (1))) (2))))))), (20, (intA (IntKind.wrap .i64 ((IntKind.wrap .i64 (t3 + (IntKind.wrap .i64 (Int.tdiv (IntKind.wrap .i64 ((IntKind.wrap .i64 (t4 - t3)) + (1))) (2))))) * (IntKind.wrap .i64 (t3 + (IntKind.wrap .i64 (Int.tdiv (IntKind.wrap .i64 ((IntKind.wrap .i64 (t4 - t3)) + (1))) (2))))))))), (21, (intA t0)), (22, (boolA (decide ((IntKind.wrap .i64 ((IntKind.wrap .i64 (t3 + (IntKind.wrap .i64 (Int.tdiv (IntKind.wrap .i64 ((IntKind.wrap .i64 (t4 - t3)) + (1))) (2))))) * (IntKind.wrap .i64 (t3 + (IntKind.wrap .i64 (Int.tdiv (IntKind.wrap .i64 ((IntKind.wrap .i64 (t4 - t3)) + (1))) (2))))))) ≤ t0)))), (23, (intA (IntKind.wrap .i64 (t3 + (IntKind.wrap .i64 (Int.tdiv (IntKind.wrap .i64 ((IntKind.wrap .i64 (t4 - t3)) + (1))) (2)))))))], m, 100018⟩) else (
N0 ⟨[(0, (intA t0)), (2, (intA t2)), (3, (intA t3)), (4, (intA (IntKind.wrap .i64 ((IntKind.wrap .i64 (t3 + (IntKind.wrap .i64 (Int.tdiv (IntKind.wrap .i64 ((IntKind.wrap .i64 (t4 - t3)) + (1))) (2))))) - (1))))), (8, (intA t3)), (9, (intA t4)), (10, (boolA (decide (t3 < t4)))), (11, (intA t3)), (12, (intA t4)), (13, (intA t3)), (14, (intA (IntKind.wrap .i64 (t4 - t3)))), (15, (intA (IntKind.wrap .i64 ((IntKind.wrap .i64 (t4 - t3)) + (1))))), (16, (intA (IntKind.wrap .i64 (Int.tdiv (IntKind.wrap .i64 ((IntKind.wrap .i64 (t4 - t3)) + (1))) (2))))), (17, (intA (IntKind.wrap .i64 (t3 + (IntKind.wrap .i64 (Int.tdiv (IntKind.wrap .i64 ((IntKind.wrap .i64 (t4 - t3)) + (1))) (2))))))), (5, (intA (IntKind.wrap .i64 (t3 + (IntKind.wrap .i64 (Int.tdiv (IntKind.wrap .i64 ((IntKind.wrap .i64 (t4 - t3)) + (1))) (2))))))), (18, (intA (IntKind.wrap .i64 (t3 + (IntKind.wrap .i64 (Int.tdiv (IntKind.wrap .i64 ((IntKind.wrap .i64 (t4 - t3)) + (1))) (2))))))), (19, (intA (IntKind.wrap .i64 (t3 + (IntKind.wrap .i64 (Int.tdiv (IntKind.wrap .i64 ((IntKind.wrap .i64 (t4 - t3)) + (1))) (2))))))), (20, (intA (IntKind.wrap .i64 ((IntKind.wrap .i64 (t3 + (IntKind.wrap .i64 (Int.tdiv (IntKind.wrap .i64 ((IntKind.wrap .i64 (t4 - t3)) + (1))) (2))))) * (IntKind.wrap .i64 (t3 + (IntKind.wrap .i64 (Int.tdiv (IntKind.wrap .i64 ((IntKind.wrap .i64 (t4 - t3)) + (1))) (2))))))))), (21, (intA t0)), (22, (boolA (decide ((IntKind.wrap .i64 ((IntKind.wrap .i64 (t3 + (IntKind.wrap .i64 (Int.tdiv (IntKind.wrap .i64 ((IntKind.wrap .i64 (t4 - t3)) + (1))) (2))))) * (IntKind.wrap .i64 (t3 + (IntKind.wrap .i64 (Int.tdiv (IntKind.wrap .i64 ((IntKind.wrap .i64 (t4 - t3)) + (1))) (2))))))) ≤ t0)))), (24, (intA (IntKind.wrap .i64 (t3 + (IntKind.wrap .i64 (Int.tdiv (IntKind.wrap .i64 ((IntKind.wrap .i64 (t4 - t3)) + (1))) (2))))))), (25, (intA (IntKind.wrap .i64 ((IntKind.wrap .i64 (t3 + (IntKind.wrap .i64 (Int.tdiv (IntKind.wrap .i64 ((IntKind.wrap .i64 (t4 - t3)) + (1))) (2))))) - (1)))))], m, 100019⟩)) else (
retL R m [some (intA t3)])
theorem B55_0_eq (t0 : Int) (t2 : Int) (t3 : Int) (t4 : Int) (m : Mem) (R : AV → Mem → Prop) (N0 : St → Prop) : W pg KK 27 0 c55_0 (h55_0 t0 t2 t3 t4 m) (qq55_0 R N0) = B55_0 t0 t2 t3 t4 m R N0 := by kernel_rfl
theorem L55_0 (R : AV → Mem → Prop) {σ : Type} (I : σ → Prop) (t0 : σ → Int) (t2 : σ → Int) (t3 : σ → Int) (t4 : σ → Int) (m : σ → Mem) (μ : σ → Nat) (step : ∀ x, I x → B55_0 (t0 x) (t2 x) (t3 x) (t4 x) (m x) R (fun s' => ∃ y, I y ∧ μ y < μ x ∧ Weak KK 27 0 s' (h55_0 (t0 y) (t2 y) (t3 y) (t4 y) (m y)))) (x : σ) (hx : I x) {s : St} (hw : Weak KK 27 0 s (h55_0 (t0 x) (t2 x) (t3 x) (t4 x) (m x))) : Tri pg KK 27 0 (.loop c55_0) s (q55_0 R) :=
  Tri.weak hw (Tri.loops fol I (fun x => h55_0 (t0 x) (t2 x) (t3 x) (t4 x) (m x)) μ (fun x hx => (B55_0_eq (t0 x) (t2 x) (t3 x) (t4 x) (m x) R _).mpr (step x hx)) x hx)
noncomputable def F55 (a0 : Int) (R : AV → Mem → Prop) : Prop :=
bif (decide (a0 ≤ (0))) then (
retL R [] [some (intA (0))]) else (
Tri pg KK 27 0 (.loop c55_0) ⟨[(0, (intA a0)), (2, (intA (0))), (6, (intA a0)), (7, (boolA (decide (a0 ≤ (0))))), (3, (intA (0))), (4, (intA (3037000499)))], [], 5⟩ (q55_0 R))
theorem F55_own (a0 : Int) (R : AV → Mem → Prop) (h : F55 a0 R) : Own pg KK.gl 55 [(intA a0)] R := own_of_F fol Tryd.func55 (code := c55) (by kernel_rfl) (by kernel_rfl) (by kernel_rfl) (X := F55 a0 R) (by kernel_rfl) h
/- skyway/plane.Distance -/
noncomputable def c47 : Code := ((Tryd.f47).body).getD .skip
noncomputable def q47 (R : AV → Mem → Prop) : AExit → St → Prop := retQ pg Tryd.f47 R
noncomputable def F47 (a0_0 : Int) (a0_1 : Int) (a1_0 : Int) (a1_1 : Int) (R : AV → Mem → Prop) : Prop :=
callQ pg KK.gl ((1, some ⟨[(intA a1_0), (intA a1_1)], 29⟩) :: (0, some ⟨[(intA a0_0), (intA a0_1)], 29⟩) :: []) 54 [(AV.agg [(intA a0_0), (intA a0_1)]), (AV.agg [(intA a1_0), (intA a1_1)])] fun v0 =>
ex_i64 v0 fun z1 =>
callQ pg KK.gl ((1, some ⟨[(intA a1_0), (intA a1_1)], 29⟩) :: (0, some ⟨[(intA a0_0), (intA a0_1)], 29⟩) :: []) 55 [(intA z1)] fun v2 =>
ex_i64 v2 fun z3 =>
bif (decide ((IntKind.wrap .i64 (z3 * z3)) < z1)) then (
retL R ((1, some ⟨[(intA a1_0), (intA a1_1)], 29⟩) :: (0, some ⟨[(intA a0_0), (intA a0_1)], 29⟩) :: []) [some (intA z3), some (intA (IntKind.wrap .i64 (z3 + (1))))]) else (
retL R ((1, some ⟨[(intA a1_0), (intA a1_1)], 29⟩) :: (0, some ⟨[(intA a0_0), (intA a0_1)], 29⟩) :: []) [some (intA z3), some (intA z3)])
theorem F47_own (a0_0 : Int) (a0_1 : Int) (a1_0 : Int) (a1_1 : Int) (R : AV → Mem → Prop) (h : F47 a0_0 a0_1 a1_0 a1_1 R) : Own pg KK.gl 47 [(AV.agg [(intA a0_0), (intA a0_1)]), (AV.agg [(intA a1_0), (intA a1_1)])] R := own_of_F fol Tryd.func47 (code := c47) (by kernel_rfl) (by kernel_rfl) (by kernel_rfl) (X := F47 a0_0 a0_1 a1_0 a1_1 R) (by kernel_rfl) h
/- (skyway/effect.task).speed -/
noncomputable def c45 : Code := ((Tryd.f45).body).getD .skip
noncomputable def q45 (R : AV → Mem → Prop) : AExit → St → Prop := retQ pg Tryd.f45 R
noncomputable def F45 (a0_0 : ByteArray) (a0_1 : Int) (a0_2 : Int) (a0_3 : ByteArray) (a0_4 : AV) (a0_5 : AV) (a0_6 : Int) (a0_7 : Int) (a0_8 : Int) (a0_9 : Int) (a0_10 : Int) (a0_11 : Int) (a0_12 : ByteArray) (a0_13 : Int) (a0_14 : Int) (a0_15 : Int) (a0_16 : Int) (a0_17 : Int) (a0_18 : Int) (a0_19 : Int) (a0_20 : Int) (a0_21 : AV) (R : AV → Mem → Prop) : Prop :=
chk (isCell a0_4) <| chk (isCell a0_5) <| chk (isCell a0_21) <| opP (idxS 6 a0_5 (intA (0))) fun v0 =>
opP (fldO 0 v0) fun v1 =>
opP (fldO 1 v1) fun v2 =>
opP (ldA (mget ((0, some ⟨[(AV.sc (.string a0_0)), (intA a0_1), (intA a0_2), (AV.sc (.string a0_3)), a0_4, a0_5, (intA a0_6), (intA a0_7), (intA a0_8), (intA a0_9), (intA a0_10), (intA a0_11), (AV.sc (.string a0_12)), (intA a0_13), (intA a0_14), (intA a0_15), (intA a0_16), (intA a0_17), (intA a0_18), (intA a0_19), (intA a0_20), a0_21], 56⟩) :: [])) 2 v2) fun v3 =>
exA2 v3 fun c4 c5 =>
ex_i64 c4 fun z6 =>
ex_i64 c5 fun z7 =>
callQ pg KK.gl ((0, some ⟨[(AV.sc (.string a0_0)), (intA a0_1), (intA a0_2), (AV.sc (.string a0_3)), a0_4, a0_5, (intA a0_6), (intA a0_7), (intA a0_8), (intA a0_9), (intA a0_10), (intA a0_11), (AV.sc (.string a0_12)), (intA a0_13), (intA a0_14), (intA a0_15), (intA a0_16), (intA a0_17), (intA a0_18), (intA a0_19), (intA a0_20), a0_21], 56⟩) :: []) 47 [(AV.agg [(intA a0_7), (intA a0_8)]), (AV.agg [(intA z6), (intA z7)])] fun v8 =>
exT2 v8 fun c9 c10 =>
ex_i64 c9 fun z11 =>
ex_i64 c10 fun z12 =>
opP (idxS 6 a0_5 (intA (0))) fun v13 =>
opP (fldO 0 v13) fun v14 =>
opP (fldO 0 v14) fun v15 =>
opP (ldS (mget ((0, some ⟨[(AV.sc (.string a0_0)), (intA a0_1), (intA a0_2), (AV.sc (.string a0_3)), a0_4, a0_5, (intA a0_6), (intA a0_7), (intA a0_8), (intA a0_9), (intA a0_10), (intA a0_11), (AV.sc (.string a0_12)), (intA a0_13), (intA a0_14), (intA a0_15), (intA a0_16), (intA a0_17), (intA a0_18), (intA a0_19), (intA a0_20), a0_21], 56⟩) :: [])) v15) fun v16 =>
ex_i64 v16 fun z17 =>
opP (opA pg (.binOp .quo 3 (.tmp 0) (.tmp 1) 3) 3 [(intA z11), (intA (IntKind.wrap .i64 (z17 - a0_6)))] (mget ((0, some ⟨[(AV.sc (.string a0_0)), (intA a0_1), (intA a0_2), (AV.sc (.string a0_3)), a0_4, a0_5, (intA a0_6), (intA a0_7), (intA a0_8), (intA a0_9), (intA a0_10), (intA a0_11), (AV.sc (.string a0_12)), (intA a0_13), (intA a0_14), (intA a0_15), (intA a0_16), (intA a0_17), (intA a0_18), (intA a0_19), (intA a0_20), a0_21], 56⟩) :: [])) 30) fun v18 =>
ex_i64 v18 fun z19 =>
retL R ((0, some ⟨[(AV.sc (.string a0_0)), (intA a0_1), (intA a0_2), (AV.sc (.string a0_3)), a0_4, a0_5, (intA a0_6), (intA a0_7), (intA a0_8), (intA a0_9), (intA a0_10), (intA a0_11), (AV.sc (.string a0_12)), (intA a0_13), (intA a0_14), (intA a0_15), (intA a0_16), (intA a0_17), (intA a0_18), (intA a0_19), (intA a0_20), a0_21], 56⟩) :: []) [some (intA z19)]
theorem F45_own (a0_0 : ByteArray) (a0_1 : Int) (a0_2 : Int) (a0_3 : ByteArray) (a0_4 : AV) (a0_5 : AV) (a0_6 : Int) (a0_7 : Int) (a0_8 : Int) (a0_9 : Int) (a0_10 : Int) (a0_11 : Int) (a0_12 : ByteArray) (a0_13 : Int) (a0_14 : Int) (a0_15 : Int) (a0_16 : Int) (a0_17 : Int) (a0_18 : Int) (a0_19 : Int) (a0_20 : Int) (a0_21 : AV) (R : AV → Mem → Prop) (h : F45 a0_0 a0_1 a0_2 a0_3 a0_4 a0_5 a0_6 a0_7 a0_8 a0_9 a0_10 a0_11 a0_12 a0_13 a0_14 a0_15 a0_16 a0_17 a0_18 a0_19 a0_20 a0_21 R) : Own pg KK.gl 45 [(AV.agg [(AV.sc (.string a0_0)), (intA a0_1), (intA a0_2), (AV.sc (.string a0_3)), a0_4, a0_5, (intA a0_6), (intA a0_7), (intA a0_8), (intA a0_9), (intA a0_10), (intA a0_11), (AV.sc (.string a0_12)), (intA a0_13), (intA a0_14), (intA a0_15), (intA a0_16), (intA a0_17), (intA a0_18), (intA a0_19), (intA a0_20), a0_21])] R := own_of_F fol Tryd.func45 (code := c45) (by kernel_rfl) (by kernel_rfl) (by kernel_rfl) (X := F45 a0_0 a0_1 a0_2 a0_3 a0_4 a0_5 a0_6 a0_7 a0_8 a0_9 a0_10 a0_11 a0_12 a0_13 a0_14 a0_15 a0_16 a0_17 a0_18 a0_19 a0_20 a0_21 R) (by kernel_rfl) h
/- skyway/plane.Add -/
noncomputable def c46 : Code := ((Tryd.f46).body).getD .skip
noncomputable def q46 (R : AV → Mem → Prop) : AExit → St → Prop := retQ pg Tryd.f46 R
noncomputable def F46 (a0_0 : Int) (a0_1 : Int) (a1_0 : Int) (a1_1 : Int) (R : AV → Mem → Prop) : Prop :=
opP (bld [(intA (0)), (intA (0))] [(0, 1), (1, 1)] [(0, (intA (IntKind.wrap .i64 (a0_0 + a1_0)))), (1, (intA (IntKind.wrap .i64 (a0_1 + a1_1))))]) fun v0 =>
storeW pg (mget ((2, some ⟨[(intA (0)), (intA (0))], 29⟩) :: (1, some ⟨[(intA a1_0), (intA a1_1)], 29⟩) :: (0, some ⟨[(intA a0_0), (intA a0_1)], 29⟩) :: [])) 29 (AV.ptr 2 0) v0 fun v1 d1 =>
retL R (mpushs ((2, some ⟨[(intA (0)), (intA (0))], 29⟩) :: (1, some ⟨[(intA a1_0), (intA a1_1)], 29⟩) :: (0, some ⟨[(intA a0_0), (intA a0_1)], 29⟩) :: []) d1) [(aLoad pg (mget (mpushs ((2, some ⟨[(intA (0)), (intA (0))], 29⟩) :: (1, some ⟨[(intA a1_0), (intA a1_1)], 29⟩) :: (0, some ⟨[(intA a0_0), (intA a0_1)], 29⟩) :: []) d1)) 29 (AV.ptr 2 0)).map (·.1)]
theorem F46_own (a0_0 : Int) (a0_1 : Int) (a1_0 : Int) (a1_1 : Int) (R : AV → Mem → Prop) (h : F46 a0_0 a0_1 a1_0 a1_1 R) : Own pg KK.gl 46 [(AV.agg [(intA a0_0), (intA a0_1)]), (AV.agg [(intA a1_0), (intA a1_1)])] R := own_of_F fol Tryd.func46 (code := c46) (by kernel_rfl) (by kernel_rfl) (by kernel_rfl) (X := F46 a0_0 a0_1 a1_0 a1_1 R) (by kernel_rfl) h
/- (skyway/effect.task).heading -/
noncomputable def c30 : Code := ((Tryd.f30).body).getD .skip
noncomputable def q30 (R : AV → Mem → Prop) : AExit → St → Prop := retQ pg Tryd.f30 R
noncomputable def c30_0 : Code := loopB c30 0
noncomputable def q30_0 (R : AV → Mem → Prop) : AExit → St → Prop := contW pg KK 64 0 c30 0 (q30 R)
noncomputable def qq30_0 (R : AV → Mem → Prop) (N0 : St → Prop) : AExit → St → Prop := thenQ N0 (q30_0 R)
def h30_0 (t2 : AV) (t3 : Int) (t4 : AV) (t13 : Int) (t14 : Int) (m : Mem) : St := ⟨[(1, (AV.ptr 0 0)), (2, t2), (3, (intA t3)), (4, t4), (13, (intA t13)), (14, (intA t14))], m, 100000⟩
noncomputable def B30_0 (t2 : AV) (t3 : Int) (t4 : AV) (t13 : Int) (t14 : Int) (m : Mem) (R : AV → Mem → Prop) (N0 : St → Prop) : Prop :=
bif (decide (t14 < t13)) then (
opM (ldS (look' m (topId (AV.ptr 0 2) ++ ([]))) (AV.ptr 0 2)) fun v3 d3 =>
ex_i64 v3 fun z4 =>
opM (ldA (look' (mpushs m d3) (topId (AV.ptr 0 0) ++ ([]))) 22 (AV.ptr 0 0)) fun v5 d5 =>
exA22 v5 fun c6 c7 c8 c9 c10 c11 c12 c13 c14 c15 c16 c17 c18 c19 c20 c21 c22 c23 c24 c25 c26 c27 =>
exStr c6 fun s28 =>
ex_i64 c7 fun z29 =>
ex_i64 c8 fun z30 =>
exStr c9 fun s31 =>
ex_i64 c12 fun z32 =>
ex_i64 c13 fun z33 =>
ex_i64 c14 fun z34 =>
ex_i64 c15 fun z35 =>
ex_i64 c16 fun z36 =>
ex_i64 c17 fun z37 =>
exStr c18 fun s38 =>
ex_i64 c19 fun z39 =>
ex_i64 c20 fun z40 =>
ex_i64 c21 fun z41 =>
ex_i64 c22 fun z42 =>
ex_i64 c23 fun z43 =>
ex_i64 c24 fun z44 =>
ex_i64 c25 fun z45 =>
ex_i64 c26 fun z46 =>
callF pg KK.gl (mpushs (mpushs m d3) d5) 100007 45 [(AV.agg [(AV.sc (.string s28)), (intA z29), (intA z30), (AV.sc (.string s31)), c10, c11, (intA z32), (intA z33), (intA z34), (intA z35), (intA z36), (intA z37), (AV.sc (.string s38)), (intA z39), (intA z40), (intA z41), (intA z42), (intA z43), (intA z44), (intA z45), (intA z46), c27])] fun v47 d47 ft47 =>
ex_i64 v47 fun z48 =>
opM (idxS 6 t4 (intA t14)) fun v49 d49 =>
opM (fldO 0 v49) fun v50 d50 =>
opM (fldO 0 v50) fun v51 d51 =>
opM (ldS (look' (mpushs (mpushs (mpushs (mpushs (mpushs (mpushs m d3) d5) d47) d49) d50) d51) (topId v51 ++ ([]))) v51) fun v52 d52 =>
ex_i64 v52 fun z53 =>
opM (ldS (look' (mpushs (mpushs (mpushs (mpushs (mpushs (mpushs (mpushs m d3) d5) d47) d49) d50) d51) d52) (topId (AV.ptr 0 6) ++ ([]))) (AV.ptr 0 6)) fun v54 d54 =>
ex_i64 v54 fun z55 =>
callF pg KK.gl (mpushs (mpushs (mpushs (mpushs (mpushs (mpushs (mpushs (mpushs m d3) d5) d47) d49) d50) d51) d52) d54) 100020 44 [(intA z4), (intA (IntKind.wrap .i64 (z48 * (IntKind.wrap .i64 (z53 - z55)))))] fun v56 d56 ft56 =>
exT2 v56 fun c57 c58 =>
exA2 c57 fun c59 c60 =>
ex_i64 c59 fun z61 =>
ex_i64 c60 fun z62 =>
ex_i64 c58 fun z63 =>
storeW pg (look' ((100024, some ⟨[(intA (0)), (intA (0))], 29⟩) :: (mpushs (mpushs (mpushs (mpushs (mpushs (mpushs (mpushs (mpushs (mpushs m d3) d5) d47) d49) d50) d51) d52) d54) d56)) (topId (AV.ptr 100024 0) ++ (topId (AV.agg [(intA z61), (intA z62)]) ++ ([])))) 29 (AV.ptr 100024 0) (AV.agg [(intA z61), (intA z62)]) fun v64 d64 =>
chk (confOk [0, 1, 3, 0, 8, 0, 0, 96, 224, 480, 992, 0, 2048, 6144, 14336, 32736, 65528, 131071, 262143, 524287, 524287, 0, 3145727, 8388607] [⟨[], []⟩, ⟨[], []⟩, ⟨d3, (topId (AV.ptr 0 2) ++ ([]))⟩, ⟨d5, (topId (AV.ptr 0 0) ++ ([]))⟩, ⟨d47, ft47⟩, ⟨[], []⟩, ⟨[], []⟩, ⟨d49, []⟩, ⟨d50, []⟩, ⟨d51, []⟩, ⟨d52, (topId v51 ++ ([]))⟩, ⟨[], []⟩, ⟨[], []⟩, ⟨[], []⟩, ⟨d54, (topId (AV.ptr 0 6) ++ ([]))⟩, ⟨[], []⟩, ⟨[], []⟩, ⟨d56, ft56⟩, ⟨[], []⟩, ⟨[], []⟩, ⟨[], []⟩, ⟨[(100024, some ⟨[(intA (0)), (intA (0))], 29⟩)], []⟩, ⟨d64, (topId (AV.ptr 100024 0) ++ (topId (AV.agg [(intA z61), (intA z62)]) ++ ([])))⟩, ⟨[], []⟩]) (bif (z63 != (0)) then (
retL R (mpushs ((100024, some ⟨[(intA (0)), (intA (0))], 29⟩) :: (mpushs (mpushs (mpushs (mpushs (mpushs (mpushs (mpushs (mpushs (mpushs m d3) d5) d47) d49) d50) d51) d52) d54) d56)) d64) [some AV.nils, some (intA z63)]) else (
opP (ldA (mget (mpushs ((100024, some ⟨[(intA (0)), (intA (0))], 29⟩) :: (mpushs (mpushs (mpushs (mpushs (mpushs (mpushs (mpushs (mpushs (mpushs m d3) d5) d47) d49) d50) d51) d52) d54) d56)) d64)) 2 (AV.ptr 0 7)) fun v65 =>
exA2 v65 fun c66 c67 =>
ex_i64 c66 fun z68 =>
ex_i64 c67 fun z69 =>
opP (ldA (mget (mpushs ((100024, some ⟨[(intA (0)), (intA (0))], 29⟩) :: (mpushs (mpushs (mpushs (mpushs (mpushs (mpushs (mpushs (mpushs (mpushs m d3) d5) d47) d49) d50) d51) d52) d54) d56)) d64)) 2 (AV.ptr 100024 0)) fun v70 =>
exA2 v70 fun c71 c72 =>
ex_i64 c71 fun z73 =>
ex_i64 c72 fun z74 =>
callQ pg KK.gl (mpushs ((100024, some ⟨[(intA (0)), (intA (0))], 29⟩) :: (mpushs (mpushs (mpushs (mpushs (mpushs (mpushs (mpushs (mpushs (mpushs m d3) d5) d47) d49) d50) d51) d52) d54) d56)) d64) 46 [(AV.agg [(intA z68), (intA z69)]), (AV.agg [(intA z73), (intA z74)])] fun v75 =>
exA2 v75 fun c76 c77 =>
ex_i64 c76 fun z78 =>
ex_i64 c77 fun z79 =>
opP (idxS 6 t4 (intA t14)) fun v80 =>
opP (fldO 0 v80) fun v81 =>
opP (fldO 1 v81) fun v82 =>
storeW pg (mget (mpushs ((100024, some ⟨[(intA (0)), (intA (0))], 29⟩) :: (mpushs (mpushs (mpushs (mpushs (mpushs (mpushs (mpushs (mpushs (mpushs m d3) d5) d47) d49) d50) d51) d52) d54) d56)) d64)) 29 v82 (AV.agg [(intA z78), (intA z79)]) fun v83 d83 =>
opP (idxS 6 t4 (intA t14)) fun v84 =>
opP (fldO 0 v84) fun v85 =>
opP (fldO 1 v85) fun v86 =>
opP (ldA (mget (mpushs (mpushs ((100024, some ⟨[(intA (0)), (intA (0))], 29⟩) :: (mpushs (mpushs (mpushs (mpushs (mpushs (mpushs (mpushs (mpushs (mpushs m d3) d5) d47) d49) d50) d51) d52) d54) d56)) d64) d83)) 2 v86) fun v87 =>
exA2 v87 fun c88 c89 =>
ex_i64 c88 fun z90 =>
ex_i64 c89 fun z91 =>
callQ pg KK.gl (mpushs (mpushs ((100024, some ⟨[(intA (0)), (intA (0))], 29⟩) :: (mpushs (mpushs (mpushs (mpushs (mpushs (mpushs (mpushs (mpushs (mpushs m d3) d5) d47) d49) d50) d51) d52) d54) d56)) d64) d83) 20 [(AV.agg [(intA z90), (intA z91)])] fun v92 =>
ex_i64 v92 fun z93 =>
bif (z93 != (0)) then (
retL R (mpushs (mpushs ((100024, some ⟨[(intA (0)), (intA (0))], 29⟩) :: (mpushs (mpushs (mpushs (mpushs (mpushs (mpushs (mpushs (mpushs (mpushs m d3) d5) d47) d49) d50) d51) d52) d54) d56)) d64) d83) [some AV.nils, some (intA z93)]) else (
N0 ⟨[(1, (AV.ptr 0 0)), (2, t2), (3, (intA t3)), (4, t4), (13, (intA t13)), (14, (intA (IntKind.wrap .i64 (t14 + (1))))), (15, (boolA (decide (t14 < t13)))), (16, (intA t14)), (5, (intA t14)), (18, (AV.ptr 0 0)), (19, (AV.ptr 0 2)), (20, (intA z4)), (21, (AV.agg [(AV.sc (.string s28)), (intA z29), (intA z30), (AV.sc (.string s31)), c10, c11, (intA z32), (intA z33), (intA z34), (intA z35), (intA z36), (intA z37), (AV.sc (.string s38)), (intA z39), (intA z40), (intA z41), (intA z42), (intA z43), (intA z44), (intA z45), (intA z46), c27])), (22, (intA z48)), (23, t4), (24, (intA t14)), (25, v49), (26, v50), (27, v51), (28, (intA z53)), (29, (AV.ptr 0 6)), (30, (AV.ptr 0 6)), (31, (AV.ptr 0 6)), (32, (intA z55)), (33, (intA (IntKind.wrap .i64 (z53 - z55)))), (34, (intA (IntKind.wrap .i64 (z48 * (IntKind.wrap .i64 (z53 - z55)))))), (35, (AV.tup [(AV.agg [(intA z61), (intA z62)]), (intA z63)])), (17, (AV.tup [(AV.agg [(intA z61), (intA z62)]), (intA z63)])), (36, (AV.agg [(intA z61), (intA z62)])), (37, (intA z63)), (6, (AV.ptr 100024 0)), (7, (intA z63)), (38, (intA z63)), (39, (boolA (z63 != (0)))), (41, t4), (42, (intA t14)), (43, (AV.ptr 0 6)), (44, (AV.ptr 0 6)), (45, (AV.ptr 0 7)), (46, (AV.agg [(intA z68), (intA z69)])), (47, (AV.agg [(intA z73), (intA z74)])), (48, (AV.agg [(intA z78), (intA z79)])), (49, v80), (50, v81), (51, v82), (52, t4), (53, (intA t14)), (54, v84), (55, v85), (56, v86), (57, (AV.agg [(intA z90), (intA z91)])), (58, (intA z93)), (8, (intA z93)), (59, (intA z93)), (60, (boolA (z93 != (0)))), (62, (intA (IntKind.wrap .i64 (t14 + (1)))))], (mpushs (mpushs ((100024, some ⟨[(intA (0)), (intA (0))], 29⟩) :: (mpushs (mpushs (mpushs (mpushs (mpushs (mpushs (mpushs (mpushs (mpushs m d3) d5) d47) d49) d50) d51) d52) d54) d56)) d64) d83), 100179⟩)))) else (
retL R m [some t4, some (intA (0))])
theorem B30_0_eq (t2 : AV) (t3 : Int) (t4 : AV) (t13 : Int) (t14 : Int) (m : Mem) (R : AV → Mem → Prop) (N0 : St → Prop) : W pg KK 64 0 c30_0 (h30_0 t2 t3 t4 t13 t14 m) (qq30_0 R N0) = B30_0 t2 t3 t4 t13 t14 m R N0 := by kernel_rfl
theorem L30_0 (R : AV → Mem → Prop) {σ : Type} (I : σ → Prop) (t2 : σ → AV) (t3 : σ → Int) (t4 : σ → AV) (t13 : σ → Int) (t14 : σ → Int) (m : σ → Mem) (μ : σ → Nat) (step : ∀ x, I x → B30_0 (t2 x) (t3 x) (t4 x) (t13 x) (t14 x) (m x) R (fun s' => ∃ y, I y ∧ μ y < μ x ∧ Weak KK 64 0 s' (h30_0 (t2 y) (t3 y) (t4 y) (t13 y) (t14 y) (m y)))) (x : σ) (hx : I x) {s : St} (hw : Weak KK 64 0 s (h30_0 (t2 x) (t3 x) (t4 x) (t13 x) (t14 x) (m x))) : Tri pg KK 64 0 (.loop c30_0) s (q30_0 R) :=
  Tri.weak hw (Tri.loops fol I (fun x => h30_0 (t2 x) (t3 x) (t4 x) (t13 x) (t14 x) (m x)) μ (fun x hx => (B30_0_eq (t2 x) (t3 x) (t4 x) (t13 x) (t14 x) (m x) R _).mpr (step x hx)) x hx)
noncomputable def F30 (a0_0 : ByteArray) (a0_1 : Int) (a0_2 : Int) (a0_3 : ByteArray) (a0_4 : AV) (a0_5 : AV) (a0_6 : Int) (a0_7 : Int) (a0_8 : Int) (a0_9 : Int) (a0_10 : Int) (a0_11 : Int) (a0_12 : ByteArray) (a0_13 : Int) (a0_14 : Int) (a0_15 : Int) (a0_16 : Int) (a0_17 : Int) (a0_18 : Int) (a0_19 : Int) (a0_20 : Int) (a0_21 : AV) (R : AV → Mem → Prop) : Prop :=
chk (isCell a0_4) <| chk (isCell a0_5) <| chk (isCell a0_21) <| callW pg KK.gl ((0, some ⟨[(AV.sc (.string a0_0)), (intA a0_1), (intA a0_2), (AV.sc (.string a0_3)), a0_4, a0_5, (intA a0_6), (intA a0_7), (intA a0_8), (intA a0_9), (intA a0_10), (intA a0_11), (AV.sc (.string a0_12)), (intA a0_13), (intA a0_14), (intA a0_15), (intA a0_16), (intA a0_17), (intA a0_18), (intA a0_19), (intA a0_20), a0_21], 56⟩) :: []) 5 22 [a0_5] fun v0 m0 =>
opP (lenS v0) fun v1 =>
ex_i64 v1 fun z2 =>
Tri pg KK 64 0 (.loop c30_0) ⟨[(0, (AV.agg [(AV.sc (.string a0_0)), (intA a0_1), (intA a0_2), (AV.sc (.string a0_3)), a0_4, a0_5, (intA a0_6), (intA a0_7), (intA a0_8), (intA a0_9), (intA a0_10), (intA a0_11), (AV.sc (.string a0_12)), (intA a0_13), (intA a0_14), (intA a0_15), (intA a0_16), (intA a0_17), (intA a0_18), (intA a0_19), (intA a0_20), a0_21])), (1, (AV.ptr 0 0)), (2, AV.nils), (3, (intA (0))), (9, (AV.ptr 0 5)), (10, a0_5), (11, v0), (4, v0), (12, v0), (13, (intA z2)), (14, (intA (0)))], m0, 73⟩ (q30_0 R)
theorem F30_own (a0_0 : ByteArray) (a0_1 : Int) (a0_2 : Int) (a0_3 : ByteArray) (a0_4 : AV) (a0_5 : AV) (a0_6 : Int) (a0_7 : Int) (a0_8 : Int) (a0_9 : Int) (a0_10 : Int) (a0_11 : Int) (a0_12 : ByteArray) (a0_13 : Int) (a0_14 : Int) (a0_15 : Int) (a0_16 : Int) (a0_17 : Int) (a0_18 : Int) (a0_19 : Int) (a0_20 : Int) (a0_21 : AV) (R : AV → Mem → Prop) (h : F30 a0_0 a0_1 a0_2 a0_3 a0_4 a0_5 a0_6 a0_7 a0_8 a0_9 a0_10 a0_11 a0_12 a0_13 a0_14 a0_15 a0_16 a0_17 a0_18 a0_19 a0_20 a0_21 R) : Own pg KK.gl 30 [(AV.agg [(AV.sc (.string a0_0)), (intA a0_1), (intA a0_2), (AV.sc (.string a0_3)), a0_4, a0_5, (intA a0_6), (intA a0_7), (intA a0_8), (intA a0_9), (intA a0_10), (intA a0_11), (AV.sc (.string a0_12)), (intA a0_13), (intA a0_14), (intA a0_15), (intA a0_16), (intA a0_17), (intA a0_18), (intA a0_19), (intA a0_20), a0_21])] R := own_of_F fol Tryd.func30 (code := c30) (by kernel_rfl) (by kernel_rfl) (by kernel_rfl) (X := F30 a0_0 a0_1 a0_2 a0_3 a0_4 a0_5 a0_6 a0_7 a0_8 a0_9 a0_10 a0_11 a0_12 a0_13 a0_14 a0_15 a0_16 a0_17 a0_18 a0_19 a0_20 a0_21 R) (by kernel_rfl) h
/- (skyway/effect.task).slower -/
noncomputable def c31 : Code := ((Tryd.f31).body).getD .skip
noncomputable def q31 (R : AV → Mem → Prop) : AExit → St → Prop := retQ pg Tryd.f31 R
noncomputable def c31_0 : Code := loopB c31 0
noncomputable def q31_0 (R : AV → Mem → Prop) : AExit → St → Prop := contW pg KK 82 0 c31 0 (q31 R)
noncomputable def qq31_0 (R : AV → Mem → Prop) (N0 : St → Prop) : AExit → St → Prop := thenQ N0 (q31_0 R)
def h31_0 (t2 : AV) (t3 : Int) (t4 : AV) (t33 : Int) (t34 : Int) (b88_0 : Int) (b88_1 : Int) (b88_2 : Int) (b88_3 : Int) (b88_4 : Int) (b88_5 : Int) (m : Mem) : St := ⟨[(1, (AV.ptr 0 0)), (2, t2), (3, (intA t3)), (4, t4), (5, (AV.ptr 88 0)), (33, (intA t33)), (34, (intA t34))], ((88, some ⟨[(intA b88_0), (intA b88_1), (intA b88_2), (intA b88_3), (intA b88_4), (intA b88_5)], 40⟩) :: m), 100000⟩
noncomputable def B31_0 (t2 : AV) (t3 : Int) (t4 : AV) (t33 : Int) (t34 : Int) (b88_0 : Int) (b88_1 : Int) (b88_2 : Int) (b88_3 : Int) (b88_4 : Int) (b88_5 : Int) (m : Mem) (R : AV → Mem → Prop) (N0 : St → Prop) : Prop :=
bif (decide (t34 < t33)) then (
opP (idxS 6 t4 (intA t34)) fun v16 =>
opP (fldO 0 v16) fun v17 =>
opP (fldO 1 v17) fun v18 =>
opP (ldA (mget ((88, some ⟨[(intA b88_0), (intA b88_1), (intA b88_2), (intA b88_3), (intA b88_4), (intA b88_5)], 40⟩) :: m)) 2 v18) fun v19 =>
exA2 v19 fun c20 c21 =>
ex_i64 c20 fun z22 =>
ex_i64 c21 fun z23 =>
callQ pg KK.gl ((88, some ⟨[(intA b88_0), (intA b88_1), (intA b88_2), (intA b88_3), (intA b88_4), (intA b88_5)], 40⟩) :: m) 47 [(AV.agg [(intA b88_1), (intA b88_2)]), (AV.agg [(intA z22), (intA z23)])] fun v24 =>
exT2 v24 fun c25 c26 =>
ex_i64 c25 fun z27 =>
ex_i64 c26 fun z28 =>
opP (ldS (mget ((88, some ⟨[(intA b88_0), (intA b88_1), (intA b88_2), (intA b88_3), (intA b88_4), (intA b88_5)], 40⟩) :: m)) (AV.ptr 0 2)) fun v29 =>
ex_i64 v29 fun z30 =>
callQ pg KK.gl ((88, some ⟨[(intA b88_0), (intA b88_1), (intA b88_2), (intA b88_3), (intA b88_4), (intA b88_5)], 40⟩) :: m) 38 [(intA z28), (intA z30)] fun v31 =>
exT2 v31 fun c32 c33 =>
ex_i64 c32 fun z34 =>
ex_i64 c33 fun z35 =>
opP (opA pg (.call ⟨.builtin .max, #[.tmp 0, .tmp 1], #[3, 3]⟩) 3 [(intA (1)), (intA z34)] (mget ((88, some ⟨[(intA b88_0), (intA b88_1), (intA b88_2), (intA b88_3), (intA b88_4), (intA b88_5)], 40⟩) :: m)) 100097) fun v36 =>
ex_i64 v36 fun z37 =>
opP (idxS 6 t4 (intA t34)) fun v38 =>
opP (fldO 0 v38) fun v39 =>
opP (fldO 0 v39) fun v40 =>
storeW pg (mget ((88, some ⟨[(intA b88_0), (intA b88_1), (intA b88_2), (intA b88_3), (intA b88_4), (intA b88_5)], 40⟩) :: m)) 3 v40 (intA (IntKind.wrap .i64 (b88_0 + z37))) fun v41 d41 =>
opP (idxS 6 t4 (intA t34)) fun v42 =>
opP (fldO 0 v42) fun v43 =>
opP (fldO 0 v43) fun v44 =>
opP (ldS (mget (mpushs ((88, some ⟨[(intA b88_0), (intA b88_1), (intA b88_2), (intA b88_3), (intA b88_4), (intA b88_5)], 40⟩) :: m) d41)) v44) fun v45 =>
ex_i64 v45 fun z46 =>
bif (decide (z46 > (200000))) then (
retL R (mpushs ((88, some ⟨[(intA b88_0), (intA b88_1), (intA b88_2), (intA b88_3), (intA b88_4), (intA b88_5)], 40⟩) :: m) d41) [some AV.nils, some (intA (12))]) else (
opP (idxS 6 t4 (intA t34)) fun v47 =>
opP (ldA (mget (mpushs ((88, some ⟨[(intA b88_0), (intA b88_1), (intA b88_2), (intA b88_3), (intA b88_4), (intA b88_5)], 40⟩) :: m) d41)) 6 v47) fun v48 =>
exA6 v48 fun c49 c50 c51 c52 c53 c54 =>
ex_i64 c49 fun z55 =>
ex_i64 c50 fun z56 =>
ex_i64 c51 fun z57 =>
ex_i64 c52 fun z58 =>
ex_i64 c53 fun z59 =>
ex_i64 c54 fun z60 =>
storeW pg (mget (mpushs ((88, some ⟨[(intA b88_0), (intA b88_1), (intA b88_2), (intA b88_3), (intA b88_4), (intA b88_5)], 40⟩) :: m) d41)) 40 (AV.ptr 88 0) (AV.agg [(intA z55), (intA z56), (intA z57), (intA z58), (intA z59), (intA z60)]) fun v61 d61 =>
N0 ⟨[(1, (AV.ptr 0 0)), (2, t2), (3, (intA t3)), (4, t4), (5, (AV.ptr 88 0)), (33, (intA t33)), (34, (intA (IntKind.wrap .i64 (t34 + (1))))), (35, (boolA (decide (t34 < t33)))), (36, (intA t34)), (6, (intA t34)), (38, (AV.ptr 88 0)), (39, (AV.ptr 88 1)), (40, (AV.agg [(intA b88_1), (intA b88_2)])), (41, t4), (42, (intA t34)), (43, v16), (44, v17), (45, v18), (46, (AV.agg [(intA z22), (intA z23)])), (47, (AV.tup [(intA z27), (intA z28)])), (37, (AV.tup [(intA z27), (intA z28)])), (48, (intA z27)), (49, (intA z28)), (7, (intA z27)), (8, (intA z28)), (51, (intA z28)), (52, (AV.ptr 0 0)), (53, (AV.ptr 0 2)), (54, (intA z30)), (55, (AV.tup [(intA z34), (intA z35)])), (50, (AV.tup [(intA z34), (intA z35)])), (56, (intA z34)), (57, (intA z35)), (9, (intA z34)), (10, (intA z35)), (58, t4), (59, (intA t34)), (60, (AV.ptr 88 0)), (61, (AV.ptr 88 0)), (62, (intA b88_0)), (63, (intA z34)), (64, (intA z37)), (65, (intA (IntKind.wrap .i64 (b88_0 + z37)))), (66, v38), (67, v39), (68, v40), (69, t4), (70, (intA t34)), (71, v42), (72, v43), (73, v44), (74, (intA z46)), (75, (boolA (decide (z46 > (200000))))), (76, t4), (77, (intA t34)), (78, v47), (79, (AV.agg [(intA z55), (intA z56), (intA z57), (intA z58), (intA z59), (intA z60)])), (80, (intA (IntKind.wrap .i64 (t34 + (1)))))], (mpushs (mpushs ((88, some ⟨[(intA b88_0), (intA b88_1), (intA b88_2), (intA b88_3), (intA b88_4), (intA b88_5)], 40⟩) :: m) d41) d61), 100117⟩)) else (
retL R ((88, some ⟨[(intA b88_0), (intA b88_1), (intA b88_2), (intA b88_3), (intA b88_4), (intA b88_5)], 40⟩) :: m) [some t4, some (intA (0))])
theorem B31_0_eq (t2 : AV) (t3 : Int) (t4 : AV) (t33 : Int) (t34 : Int) (b88_0 : Int) (b88_1 : Int) (b88_2 : Int) (b88_3 : Int) (b88_4 : Int) (b88_5 : Int) (m : Mem) (R : AV → Mem → Prop) (N0 : St → Prop) : W pg KK 82 0 c31_0 (h31_0 t2 t3 t4 t33 t34 b88_0 b88_1 b88_2 b88_3 b88_4 b88_5 m) (qq31_0 R N0) = B31_0 t2 t3 t4 t33 t34 b88_0 b88_1 b88_2 b88_3 b88_4 b88_5 m R N0 := by kernel_rfl
theorem L31_0 (R : AV → Mem → Prop) {σ : Type} (I : σ → Prop) (t2 : σ → AV) (t3 : σ → Int) (t4 : σ → AV) (t33 : σ → Int) (t34 : σ → Int) (b88_0 : σ → Int) (b88_1 : σ → Int) (b88_2 : σ → Int) (b88_3 : σ → Int) (b88_4 : σ → Int) (b88_5 : σ → Int) (m : σ → Mem) (μ : σ → Nat) (step : ∀ x, I x → B31_0 (t2 x) (t3 x) (t4 x) (t33 x) (t34 x) (b88_0 x) (b88_1 x) (b88_2 x) (b88_3 x) (b88_4 x) (b88_5 x) (m x) R (fun s' => ∃ y, I y ∧ μ y < μ x ∧ Weak KK 82 0 s' (h31_0 (t2 y) (t3 y) (t4 y) (t33 y) (t34 y) (b88_0 y) (b88_1 y) (b88_2 y) (b88_3 y) (b88_4 y) (b88_5 y) (m y)))) (x : σ) (hx : I x) {s : St} (hw : Weak KK 82 0 s (h31_0 (t2 x) (t3 x) (t4 x) (t33 x) (t34 x) (b88_0 x) (b88_1 x) (b88_2 x) (b88_3 x) (b88_4 x) (b88_5 x) (m x))) : Tri pg KK 82 0 (.loop c31_0) s (q31_0 R) :=
  Tri.weak hw (Tri.loops fol I (fun x => h31_0 (t2 x) (t3 x) (t4 x) (t33 x) (t34 x) (b88_0 x) (b88_1 x) (b88_2 x) (b88_3 x) (b88_4 x) (b88_5 x) (m x)) μ (fun x hx => (B31_0_eq (t2 x) (t3 x) (t4 x) (t33 x) (t34 x) (b88_0 x) (b88_1 x) (b88_2 x) (b88_3 x) (b88_4 x) (b88_5 x) (m x) R _).mpr (step x hx)) x hx)
noncomputable def F31 (a0_0 : ByteArray) (a0_1 : Int) (a0_2 : Int) (a0_3 : ByteArray) (a0_4 : AV) (a0_5 : AV) (a0_6 : Int) (a0_7 : Int) (a0_8 : Int) (a0_9 : Int) (a0_10 : Int) (a0_11 : Int) (a0_12 : ByteArray) (a0_13 : Int) (a0_14 : Int) (a0_15 : Int) (a0_16 : Int) (a0_17 : Int) (a0_18 : Int) (a0_19 : Int) (a0_20 : Int) (a0_21 : AV) (R : AV → Mem → Prop) : Prop :=
chk (isCell a0_4) <| chk (isCell a0_5) <| chk (isCell a0_21) <| bif (decide (a0_2 < a0_17)) then (
retL R ((0, some ⟨[(AV.sc (.string a0_0)), (intA a0_1), (intA a0_2), (AV.sc (.string a0_3)), a0_4, a0_5, (intA a0_6), (intA a0_7), (intA a0_8), (intA a0_9), (intA a0_10), (intA a0_11), (AV.sc (.string a0_12)), (intA a0_13), (intA a0_14), (intA a0_15), (intA a0_16), (intA a0_17), (intA a0_18), (intA a0_19), (intA a0_20), a0_21], 56⟩) :: []) [some AV.nils, some (intA (4))]) else (
bif (decide (a0_2 > a0_18)) then (
retL R ((0, some ⟨[(AV.sc (.string a0_0)), (intA a0_1), (intA a0_2), (AV.sc (.string a0_3)), a0_4, a0_5, (intA a0_6), (intA a0_7), (intA a0_8), (intA a0_9), (intA a0_10), (intA a0_11), (AV.sc (.string a0_12)), (intA a0_13), (intA a0_14), (intA a0_15), (intA a0_16), (intA a0_17), (intA a0_18), (intA a0_19), (intA a0_20), a0_21], 56⟩) :: []) [some AV.nils, some (intA (4))]) else (
callW pg KK.gl ((0, some ⟨[(AV.sc (.string a0_0)), (intA a0_1), (intA a0_2), (AV.sc (.string a0_3)), a0_4, a0_5, (intA a0_6), (intA a0_7), (intA a0_8), (intA a0_9), (intA a0_10), (intA a0_11), (AV.sc (.string a0_12)), (intA a0_13), (intA a0_14), (intA a0_15), (intA a0_16), (intA a0_17), (intA a0_18), (intA a0_19), (intA a0_20), a0_21], 56⟩) :: []) 21 22 [a0_5] fun v0 m0 =>
opP (ldA (mget m0) 6 (AV.ptr 0 6)) fun v1 =>
exA6 v1 fun c2 c3 c4 c5 c6 c7 =>
ex_i64 c2 fun z8 =>
ex_i64 c3 fun z9 =>
ex_i64 c4 fun z10 =>
ex_i64 c5 fun z11 =>
ex_i64 c6 fun z12 =>
ex_i64 c7 fun z13 =>
opP (lenS v0) fun v14 =>
ex_i64 v14 fun z15 =>
Tri pg KK 82 0 (.loop c31_0) ⟨[(0, (AV.agg [(AV.sc (.string a0_0)), (intA a0_1), (intA a0_2), (AV.sc (.string a0_3)), a0_4, a0_5, (intA a0_6), (intA a0_7), (intA a0_8), (intA a0_9), (intA a0_10), (intA a0_11), (AV.sc (.string a0_12)), (intA a0_13), (intA a0_14), (intA a0_15), (intA a0_16), (intA a0_17), (intA a0_18), (intA a0_19), (intA a0_20), a0_21])), (1, (AV.ptr 0 0)), (2, AV.nils), (3, (intA (0))), (11, (AV.ptr 0 0)), (12, (AV.ptr 0 2)), (13, (intA a0_2)), (14, (AV.ptr 0 12)), (15, (AV.ptr 0 17)), (16, (intA a0_17)), (17, (boolA (decide (a0_2 < a0_17)))), (18, (boolA false)), (19, (AV.ptr 0 0)), (20, (AV.ptr 0 2)), (21, (intA a0_2)), (22, (AV.ptr 0 12)), (23, (AV.ptr 0 18)), (24, (intA a0_18)), (25, (boolA (decide (a0_2 > a0_18)))), (26, (boolA (decide (a0_2 > a0_18)))), (27, (AV.ptr 0 5)), (28, a0_5), (29, v0), (4, v0), (30, (AV.ptr 0 6)), (31, (AV.agg [(intA z8), (intA z9), (intA z10), (intA z11), (intA z12), (intA z13)])), (5, (AV.ptr 88 0)), (32, v0), (33, (intA z15)), (34, (intA (0)))], ((88, some ⟨[(intA z8), (intA z9), (intA z10), (intA z11), (intA z12), (intA z13)], 40⟩) :: (88, some ⟨[(intA (0)), (intA (0)), (intA (0)), (intA (0)), (intA (0)), (intA (0))], 40⟩) :: m0), 93⟩ (q31_0 R)))
theorem F31_own (a0_0 : ByteArray) (a0_1 : Int) (a0_2 : Int) (a0_3 : ByteArray) (a0_4 : AV) (a0_5 : AV) (a0_6 : Int) (a0_7 : Int) (a0_8 : Int) (a0_9 : Int) (a0_10 : Int) (a0_11 : Int) (a0_12 : ByteArray) (a0_13 : Int) (a0_14 : Int) (a0_15 : Int) (a0_16 : Int) (a0_17 : Int) (a0_18 : Int) (a0_19 : Int) (a0_20 : Int) (a0_21 : AV) (R : AV → Mem → Prop) (h : F31 a0_0 a0_1 a0_2 a0_3 a0_4 a0_5 a0_6 a0_7 a0_8 a0_9 a0_10 a0_11 a0_12 a0_13 a0_14 a0_15 a0_16 a0_17 a0_18 a0_19 a0_20 a0_21 R) : Own pg KK.gl 31 [(AV.agg [(AV.sc (.string a0_0)), (intA a0_1), (intA a0_2), (AV.sc (.string a0_3)), a0_4, a0_5, (intA a0_6), (intA a0_7), (intA a0_8), (intA a0_9), (intA a0_10), (intA a0_11), (AV.sc (.string a0_12)), (intA a0_13), (intA a0_14), (intA a0_15), (intA a0_16), (intA a0_17), (intA a0_18), (intA a0_19), (intA a0_20), a0_21])] R := own_of_F fol Tryd.func31 (code := c31) (by kernel_rfl) (by kernel_rfl) (by kernel_rfl) (X := F31 a0_0 a0_1 a0_2 a0_3 a0_4 a0_5 a0_6 a0_7 a0_8 a0_9 a0_10 a0_11 a0_12 a0_13 a0_14 a0_15 a0_16 a0_17 a0_18 a0_19 a0_20 a0_21 R) (by kernel_rfl) h
/- (skyway/effect.task).direct -/
noncomputable def c32 : Code := ((Tryd.f32).body).getD .skip
noncomputable def q32 (R : AV → Mem → Prop) : AExit → St → Prop := retQ pg Tryd.f32 R
noncomputable def F32 (a0_0 : ByteArray) (a0_1 : Int) (a0_2 : Int) (a0_3 : ByteArray) (a0_4 : AV) (a0_5 : AV) (a0_6 : Int) (a0_7 : Int) (a0_8 : Int) (a0_9 : Int) (a0_10 : Int) (a0_11 : Int) (a0_12 : ByteArray) (a0_13 : Int) (a0_14 : Int) (a0_15 : Int) (a0_16 : Int) (a0_17 : Int) (a0_18 : Int) (a0_19 : Int) (a0_20 : Int) (a0_21 : AV) (R : AV → Mem → Prop) : Prop :=
chk (isCell a0_4) <| chk (isCell a0_5) <| chk (isCell a0_21) <| callQ pg KK.gl ((0, some ⟨[(AV.sc (.string a0_0)), (intA a0_1), (intA a0_2), (AV.sc (.string a0_3)), a0_4, a0_5, (intA a0_6), (intA a0_7), (intA a0_8), (intA a0_9), (intA a0_10), (intA a0_11), (AV.sc (.string a0_12)), (intA a0_13), (intA a0_14), (intA a0_15), (intA a0_16), (intA a0_17), (intA a0_18), (intA a0_19), (intA a0_20), a0_21], 56⟩) :: []) 45 [(AV.agg [(AV.sc (.string a0_0)), (intA a0_1), (intA a0_2), (AV.sc (.string a0_3)), a0_4, a0_5, (intA a0_6), (intA a0_7), (intA a0_8), (intA a0_9), (intA a0_10), (intA a0_11), (AV.sc (.string a0_12)), (intA a0_13), (intA a0_14), (intA a0_15), (intA a0_16), (intA a0_17), (intA a0_18), (intA a0_19), (intA a0_20), a0_21])] fun v0 =>
ex_i64 v0 fun z1 =>
bif (z1 == (0)) then (
retL R ((0, some ⟨[(AV.sc (.string a0_0)), (intA a0_1), (intA a0_2), (AV.sc (.string a0_3)), a0_4, a0_5, (intA a0_6), (intA a0_7), (intA a0_8), (intA a0_9), (intA a0_10), (intA a0_11), (AV.sc (.string a0_12)), (intA a0_13), (intA a0_14), (intA a0_15), (intA a0_16), (intA a0_17), (intA a0_18), (intA a0_19), (intA a0_20), a0_21], 56⟩) :: []) [some AV.nils, some (intA (10))]) else (
callQ pg KK.gl ((0, some ⟨[(AV.sc (.string a0_0)), (intA a0_1), (intA a0_2), (AV.sc (.string a0_3)), a0_4, a0_5, (intA a0_6), (intA a0_7), (intA a0_8), (intA a0_9), (intA a0_10), (intA a0_11), (AV.sc (.string a0_12)), (intA a0_13), (intA a0_14), (intA a0_15), (intA a0_16), (intA a0_17), (intA a0_18), (intA a0_19), (intA a0_20), a0_21], 56⟩) :: []) 47 [(AV.agg [(intA a0_7), (intA a0_8)]), (AV.agg [(intA a0_19), (intA a0_20)])] fun v2 =>
exT2 v2 fun c3 c4 =>
ex_i64 c3 fun z5 =>
ex_i64 c4 fun z6 =>
bif (z6 == (0)) then (
retL R ((0, some ⟨[(AV.sc (.string a0_0)), (intA a0_1), (intA a0_2), (AV.sc (.string a0_3)), a0_4, a0_5, (intA a0_6), (intA a0_7), (intA a0_8), (intA a0_9), (intA a0_10), (intA a0_11), (AV.sc (.string a0_12)), (intA a0_13), (intA a0_14), (intA a0_15), (intA a0_16), (intA a0_17), (intA a0_18), (intA a0_19), (intA a0_20), a0_21], 56⟩) :: []) [some AV.nils, some (intA (0))]) else (
callQ pg KK.gl ((0, some ⟨[(AV.sc (.string a0_0)), (intA a0_1), (intA a0_2), (AV.sc (.string a0_3)), a0_4, a0_5, (intA a0_6), (intA a0_7), (intA a0_8), (intA a0_9), (intA a0_10), (intA a0_11), (AV.sc (.string a0_12)), (intA a0_13), (intA a0_14), (intA a0_15), (intA a0_16), (intA a0_17), (intA a0_18), (intA a0_19), (intA a0_20), a0_21], 56⟩) :: []) 38 [(intA z6), (intA z1)] fun v7 =>
exT2 v7 fun c8 c9 =>
ex_i64 c8 fun z10 =>
ex_i64 c9 fun z11 =>
bif (decide ((IntKind.wrap .i64 (a0_6 + z10)) > (200000))) then (
retL R ((221, some ⟨[(intA (IntKind.wrap .i64 (a0_6 + z10))), (intA a0_19), (intA a0_20), (intA a0_9), (intA a0_10), (intA a0_11)], 40⟩) :: (221, some ⟨[(intA (IntKind.wrap .i64 (a0_6 + z10))), (intA a0_7), (intA a0_8), (intA a0_9), (intA a0_10), (intA a0_11)], 40⟩) :: (221, some ⟨[(intA a0_6), (intA a0_7), (intA a0_8), (intA a0_9), (intA a0_10), (intA a0_11)], 40⟩) :: (221, some ⟨[(intA (0)), (intA (0)), (intA (0)), (intA (0)), (intA (0)), (intA (0))], 40⟩) :: (0, some ⟨[(AV.sc (.string a0_0)), (intA a0_1), (intA a0_2), (AV.sc (.string a0_3)), a0_4, a0_5, (intA a0_6), (intA a0_7), (intA a0_8), (intA a0_9), (intA a0_10), (intA a0_11), (AV.sc (.string a0_12)), (intA a0_13), (intA a0_14), (intA a0_15), (intA a0_16), (intA a0_17), (intA a0_18), (intA a0_19), (intA a0_20), a0_21], 56⟩) :: []) [some AV.nils, some (intA (12))]) else (
opN (bsl 241 40 6 1 [(intA (0)), (intA (0)), (intA (0)), (intA (0)), (intA (0)), (intA (0))] [(0, (AV.agg [(intA (IntKind.wrap .i64 (a0_6 + z10))), (intA a0_19), (intA a0_20), (intA a0_9), (intA a0_10), (intA a0_11)]))]) ((221, some ⟨[(intA (IntKind.wrap .i64 (a0_6 + z10))), (intA a0_19), (intA a0_20), (intA a0_9), (intA a0_10), (intA a0_11)], 40⟩) :: (221, some ⟨[(intA (IntKind.wrap .i64 (a0_6 + z10))), (intA a0_7), (intA a0_8), (intA a0_9), (intA a0_10), (intA a0_11)], 40⟩) :: (221, some ⟨[(intA a0_6), (intA a0_7), (intA a0_8), (intA a0_9), (intA a0_10), (intA a0_11)], 40⟩) :: (221, some ⟨[(intA (0)), (intA (0)), (intA (0)), (intA (0)), (intA (0)), (intA (0))], 40⟩) :: (0, some ⟨[(AV.sc (.string a0_0)), (intA a0_1), (intA a0_2), (AV.sc (.string a0_3)), a0_4, a0_5, (intA a0_6), (intA a0_7), (intA a0_8), (intA a0_9), (intA a0_10), (intA a0_11), (AV.sc (.string a0_12)), (intA a0_13), (intA a0_14), (intA a0_15), (intA a0_16), (intA a0_17), (intA a0_18), (intA a0_19), (intA a0_20), a0_21], 56⟩) :: []) fun v12 m12 =>
retL R m12 [some v12, some (intA (0))])))
theorem F32_own (a0_0 : ByteArray) (a0_1 : Int) (a0_2 : Int) (a0_3 : ByteArray) (a0_4 : AV) (a0_5 : AV) (a0_6 : Int) (a0_7 : Int) (a0_8 : Int) (a0_9 : Int) (a0_10 : Int) (a0_11 : Int) (a0_12 : ByteArray) (a0_13 : Int) (a0_14 : Int) (a0_15 : Int) (a0_16 : Int) (a0_17 : Int) (a0_18 : Int) (a0_19 : Int) (a0_20 : Int) (a0_21 : AV) (R : AV → Mem → Prop) (h : F32 a0_0 a0_1 a0_2 a0_3 a0_4 a0_5 a0_6 a0_7 a0_8 a0_9 a0_10 a0_11 a0_12 a0_13 a0_14 a0_15 a0_16 a0_17 a0_18 a0_19 a0_20 a0_21 R) : Own pg KK.gl 32 [(AV.agg [(AV.sc (.string a0_0)), (intA a0_1), (intA a0_2), (AV.sc (.string a0_3)), a0_4, a0_5, (intA a0_6), (intA a0_7), (intA a0_8), (intA a0_9), (intA a0_10), (intA a0_11), (AV.sc (.string a0_12)), (intA a0_13), (intA a0_14), (intA a0_15), (intA a0_16), (intA a0_17), (intA a0_18), (intA a0_19), (intA a0_20), a0_21])] R := own_of_F fol Tryd.func32 (code := c32) (by kernel_rfl) (by kernel_rfl) (by kernel_rfl) (X := F32 a0_0 a0_1 a0_2 a0_3 a0_4 a0_5 a0_6 a0_7 a0_8 a0_9 a0_10 a0_11 a0_12 a0_13 a0_14 a0_15 a0_16 a0_17 a0_18 a0_19 a0_20 a0_21 R) (by kernel_rfl) h
/- (skyway/effect.task).carried -/
noncomputable def c21 : Code := ((Tryd.f21).body).getD .skip
noncomputable def q21 (R : AV → Mem → Prop) : AExit → St → Prop := retQ pg Tryd.f21 R
noncomputable def F21 (a0_0 : ByteArray) (a0_1 : Int) (a0_2 : Int) (a0_3 : ByteArray) (a0_4 : AV) (a0_5 : AV) (a0_6 : Int) (a0_7 : Int) (a0_8 : Int) (a0_9 : Int) (a0_10 : Int) (a0_11 : Int) (a0_12 : ByteArray) (a0_13 : Int) (a0_14 : Int) (a0_15 : Int) (a0_16 : Int) (a0_17 : Int) (a0_18 : Int) (a0_19 : Int) (a0_20 : Int) (a0_21 : AV) (R : AV → Mem → Prop) : Prop :=
chk (isCell a0_4) <| chk (isCell a0_5) <| chk (isCell a0_21) <| bif (a0_1 == (0)) then (
callW pg KK.gl ((0, some ⟨[(AV.sc (.string a0_0)), (intA a0_1), (intA a0_2), (AV.sc (.string a0_3)), a0_4, a0_5, (intA a0_6), (intA a0_7), (intA a0_8), (intA a0_9), (intA a0_10), (intA a0_11), (AV.sc (.string a0_12)), (intA a0_13), (intA a0_14), (intA a0_15), (intA a0_16), (intA a0_17), (intA a0_18), (intA a0_19), (intA a0_20), a0_21], 56⟩) :: []) 10 29 [(AV.agg [(AV.sc (.string a0_0)), (intA a0_1), (intA a0_2), (AV.sc (.string a0_3)), a0_4, a0_5, (intA a0_6), (intA a0_7), (intA a0_8), (intA a0_9), (intA a0_10), (intA a0_11), (AV.sc (.string a0_12)), (intA a0_13), (intA a0_14), (intA a0_15), (intA a0_16), (intA a0_17), (intA a0_18), (intA a0_19), (intA a0_20), a0_21])] fun v0 m0 =>
exT2 v0 fun c1 c2 =>
ex_i64 c2 fun z3 =>
retL R m0 [some c1, some (boolA false), some (intA z3)]) else (
opP (lenS a0_5) fun v4 =>
ex_i64 v4 fun z5 =>
bif (z5 == (0)) then (
retL R ((0, some ⟨[(AV.sc (.string a0_0)), (intA a0_1), (intA a0_2), (AV.sc (.string a0_3)), a0_4, a0_5, (intA a0_6), (intA a0_7), (intA a0_8), (intA a0_9), (intA a0_10), (intA a0_11), (AV.sc (.string a0_12)), (intA a0_13), (intA a0_14), (intA a0_15), (intA a0_16), (intA a0_17), (intA a0_18), (intA a0_19), (intA a0_20), a0_21], 56⟩) :: []) [some AV.nils, some (boolA true), some (intA (0))]) else (
bif (a0_1 == (1)) then (
callW pg KK.gl ((0, some ⟨[(AV.sc (.string a0_0)), (intA a0_1), (intA a0_2), (AV.sc (.string a0_3)), a0_4, a0_5, (intA a0_6), (intA a0_7), (intA a0_8), (intA a0_9), (intA a0_10), (intA a0_11), (AV.sc (.string a0_12)), (intA a0_13), (intA a0_14), (intA a0_15), (intA a0_16), (intA a0_17), (intA a0_18), (intA a0_19), (intA a0_20), a0_21], 56⟩) :: []) 20 30 [(AV.agg [(AV.sc (.string a0_0)), (intA a0_1), (intA a0_2), (AV.sc (.string a0_3)), a0_4, a0_5, (intA a0_6), (intA a0_7), (intA a0_8), (intA a0_9), (intA a0_10), (intA a0_11), (AV.sc (.string a0_12)), (intA a0_13), (intA a0_14), (intA a0_15), (intA a0_16), (intA a0_17), (intA a0_18), (intA a0_19), (intA a0_20), a0_21])] fun v6 m6 =>
exT2 v6 fun c7 c8 =>
ex_i64 c8 fun z9 =>
retL R m6 [some c7, some (boolA false), some (intA z9)]) else (
bif (a0_1 == (2)) then (
callW pg KK.gl ((0, some ⟨[(AV.sc (.string a0_0)), (intA a0_1), (intA a0_2), (AV.sc (.string a0_3)), a0_4, a0_5, (intA a0_6), (intA a0_7), (intA a0_8), (intA a0_9), (intA a0_10), (intA a0_11), (AV.sc (.string a0_12)), (intA a0_13), (intA a0_14), (intA a0_15), (intA a0_16), (intA a0_17), (intA a0_18), (intA a0_19), (intA a0_20), a0_21], 56⟩) :: []) 25 31 [(AV.agg [(AV.sc (.string a0_0)), (intA a0_1), (intA a0_2), (AV.sc (.string a0_3)), a0_4, a0_5, (intA a0_6), (intA a0_7), (intA a0_8), (intA a0_9), (intA a0_10), (intA a0_11), (AV.sc (.string a0_12)), (intA a0_13), (intA a0_14), (intA a0_15), (intA a0_16), (intA a0_17), (intA a0_18), (intA a0_19), (intA a0_20), a0_21])] fun v10 m10 =>
exT2 v10 fun c11 c12 =>
ex_i64 c12 fun z13 =>
retL R m10 [some c11, some (boolA false), some (intA z13)]) else (
bif (a0_1 == (3)) then (
callW pg KK.gl ((0, some ⟨[(AV.sc (.string a0_0)), (intA a0_1), (intA a0_2), (AV.sc (.string a0_3)), a0_4, a0_5, (intA a0_6), (intA a0_7), (intA a0_8), (intA a0_9), (intA a0_10), (intA a0_11), (AV.sc (.string a0_12)), (intA a0_13), (intA a0_14), (intA a0_15), (intA a0_16), (intA a0_17), (intA a0_18), (intA a0_19), (intA a0_20), a0_21], 56⟩) :: []) 30 32 [(AV.agg [(AV.sc (.string a0_0)), (intA a0_1), (intA a0_2), (AV.sc (.string a0_3)), a0_4, a0_5, (intA a0_6), (intA a0_7), (intA a0_8), (intA a0_9), (intA a0_10), (intA a0_11), (AV.sc (.string a0_12)), (intA a0_13), (intA a0_14), (intA a0_15), (intA a0_16), (intA a0_17), (intA a0_18), (intA a0_19), (intA a0_20), a0_21])] fun v14 m14 =>
exT2 v14 fun c15 c16 =>
ex_i64 c16 fun z17 =>
retL R m14 [some c15, some (boolA false), some (intA z17)]) else (
retL R ((0, some ⟨[(AV.sc (.string a0_0)), (intA a0_1), (intA a0_2), (AV.sc (.string a0_3)), a0_4, a0_5, (intA a0_6), (intA a0_7), (intA a0_8), (intA a0_9), (intA a0_10), (intA a0_11), (AV.sc (.string a0_12)), (intA a0_13), (intA a0_14), (intA a0_15), (intA a0_16), (intA a0_17), (intA a0_18), (intA a0_19), (intA a0_20), a0_21], 56⟩) :: []) [some AV.nils, some (boolA true), some (intA (0))])))))
theorem F21_own (a0_0 : ByteArray) (a0_1 : Int) (a0_2 : Int) (a0_3 : ByteArray) (a0_4 : AV) (a0_5 : AV) (a0_6 : Int) (a0_7 : Int) (a0_8 : Int) (a0_9 : Int) (a0_10 : Int) (a0_11 : Int) (a0_12 : ByteArray) (a0_13 : Int) (a0_14 : Int) (a0_15 : Int) (a0_16 : Int) (a0_17 : Int) (a0_18 : Int) (a0_19 : Int) (a0_20 : Int) (a0_21 : AV) (R : AV → Mem → Prop) (h : F21 a0_0 a0_1 a0_2 a0_3 a0_4 a0_5 a0_6 a0_7 a0_8 a0_9 a0_10 a0_11 a0_12 a0_13 a0_14 a0_15 a0_16 a0_17 a0_18 a0_19 a0_20 a0_21 R) : Own pg KK.gl 21 [(AV.agg [(AV.sc (.string a0_0)), (intA a0_1), (intA a0_2), (AV.sc (.string a0_3)), a0_4, a0_5, (intA a0_6), (intA a0_7), (intA a0_8), (intA a0_9), (intA a0_10), (intA a0_11), (AV.sc (.string a0_12)), (intA a0_13), (intA a0_14), (intA a0_15), (intA a0_16), (intA a0_17), (intA a0_18), (intA a0_19), (intA a0_20), a0_21])] R := own_of_F fol Tryd.func21 (code := c21) (by kernel_rfl) (by kernel_rfl) (by kernel_rfl) (X := F21 a0_0 a0_1 a0_2 a0_3 a0_4 a0_5 a0_6 a0_7 a0_8 a0_9 a0_10 a0_11 a0_12 a0_13 a0_14 a0_15 a0_16 a0_17 a0_18 a0_19 a0_20 a0_21 R) (by kernel_rfl) h
/- skyway/effect.Of -/
noncomputable def c6 : Code := ((Tryd.f6).body).getD .skip
noncomputable def q6 (R : AV → Mem → Prop) : AExit → St → Prop := retQ pg Tryd.f6 R
noncomputable def c6_0 : Code := loopB c6 0
noncomputable def q6_0 (R : AV → Mem → Prop) : AExit → St → Prop := contW pg KK 108 0 c6 0 (q6 R)
noncomputable def qq6_0 (R : AV → Mem → Prop) (N0 : St → Prop) : AExit → St → Prop := thenQ N0 (q6_0 R)
def h6_0 (t2 : Int) (t10 : AV) (t11 : Int) (t27 : AV) (t28 : Int) (t29 : Int) (m : Mem) : St := ⟨[(2, (intA t2)), (5, (AV.ptr 0 0)), (6, (AV.ptr 1 0)), (8, (AV.ptr 2 0)), (9, (AV.ptr 3 0)), (10, t10), (11, (intA t11)), (27, t27), (28, (intA t28)), (29, (intA t29))], m, 100000⟩
noncomputable def c6_1 : Code := loopB c6 1
noncomputable def q6_1 (R : AV → Mem → Prop) : AExit → St → Prop := contW pg KK 108 0 c6 1 (q6 R)
noncomputable def qq6_1 (R : AV → Mem → Prop) (N0 : St → Prop) : AExit → St → Prop := thenQ N0 (q6_1 R)
def h6_1 (t2 : Int) (t10 : AV) (t11 : Int) (t16 : Int) (t54 : AV) (t55 : Int) (t56 : Int) (m : Mem) : St := ⟨[(2, (intA t2)), (5, (AV.ptr 0 0)), (10, t10), (11, (intA t11)), (15, (AV.ptr 100070 0)), (16, (intA t16)), (17, (AV.ptr 100081 0)), (54, t54), (55, (intA t55)), (56, (intA t56))], m, 200000⟩
noncomputable def B6_0 (t2 : Int) (t10 : AV) (t11 : Int) (t27 : AV) (t28 : Int) (t29 : Int) (m : Mem) (R : AV → Mem → Prop) (N0 : St → Prop) : Prop :=
bif (decide (t29 < t28)) then (
opP (idxS 1 t27 (intA t29)) fun v3 =>
opP (ldS (mget m) v3) fun v4 =>
fnArgs (some v4) (some []) fun f5 a5 => bif KK.pm f5 then callQ pg KK.gl m f5 a5 (fun v5 =>
ex_i64 v5 fun z6 =>
bif (z6 != (0)) then (
retL R m [some AV.nils, some (intA z6)]) else (
N0 ⟨[(2, (intA t2)), (5, (AV.ptr 0 0)), (6, (AV.ptr 1 0)), (8, (AV.ptr 2 0)), (9, (AV.ptr 3 0)), (10, t10), (11, (intA t11)), (27, t27), (28, (intA t28)), (29, (intA (IntKind.wrap .i64 (t29 + (1))))), (30, (boolA (decide (t29 < t28)))), (31, v3), (32, v4), (13, v4), (33, v4), (34, (intA z6)), (14, (intA z6)), (35, (intA z6)), (36, (boolA (z6 != (0)))), (38, (intA (IntKind.wrap .i64 (t29 + (1)))))], m, 100074⟩)) else callW pg KK.gl m 100005 f5 a5 fun v5 m5 =>
ex_i64 v5 fun z6 =>
bif (z6 != (0)) then (
retL R m5 [some AV.nils, some (intA z6)]) else (
N0 ⟨[(2, (intA t2)), (5, (AV.ptr 0 0)), (6, (AV.ptr 1 0)), (8, (AV.ptr 2 0)), (9, (AV.ptr 3 0)), (10, t10), (11, (intA t11)), (27, t27), (28, (intA t28)), (29, (intA (IntKind.wrap .i64 (t29 + (1))))), (30, (boolA (decide (t29 < t28)))), (31, v3), (32, v4), (13, v4), (33, v4), (34, (intA z6)), (14, (intA z6)), (35, (intA z6)), (36, (boolA (z6 != (0)))), (38, (intA (IntKind.wrap .i64 (t29 + (1)))))], m5, 100074⟩)) else (
opP (ldS (mget m) (AV.ptr 0 0)) fun v7 =>
callQ pg KK.gl m 8 [v7, (intA t2)] fun v8 =>
exT2 v8 fun c9 c10 =>
exA6 c9 fun c11 c12 c13 c14 c15 c16 =>
ex_i64 c11 fun z17 =>
ex_i64 c12 fun z18 =>
ex_i64 c13 fun z19 =>
ex_i64 c14 fun z20 =>
ex_i64 c15 fun z21 =>
ex_i64 c16 fun z22 =>
ex_i64 c10 fun z23 =>
bif (z23 != (0)) then (
retL R ((100070, some ⟨[(intA z17), (intA z18), (intA z19), (intA z20), (intA z21), (intA z22)], 40⟩) :: (100070, some ⟨[(intA (0)), (intA (0)), (intA (0)), (intA (0)), (intA (0)), (intA (0))], 40⟩) :: m) [some AV.nils, some (intA z23)]) else (
opP (ldA (mget ((100070, some ⟨[(intA z17), (intA z18), (intA z19), (intA z20), (intA z21), (intA z22)], 40⟩) :: (100070, some ⟨[(intA (0)), (intA (0)), (intA (0)), (intA (0)), (intA (0)), (intA (0))], 40⟩) :: m)) 4 (AV.ptr 1 0)) fun v24 =>
exA4 v24 fun c25 c26 c27 c28 =>
exStr c25 fun s29 =>
ex_i64 c26 fun z30 =>
ex_i64 c27 fun z31 =>
exStr c28 fun s32 =>
opP (ldA (mget ((100070, some ⟨[(intA z17), (intA z18), (intA z19), (intA z20), (intA z21), (intA z22)], 40⟩) :: (100070, some ⟨[(intA (0)), (intA (0)), (intA (0)), (intA (0)), (intA (0)), (intA (0))], 40⟩) :: m)) 7 (AV.ptr 2 0)) fun v33 =>
exA7 v33 fun c34 c35 c36 c37 c38 c39 c40 =>
exStr c34 fun s41 =>
ex_i64 c35 fun z42 =>
ex_i64 c36 fun z43 =>
ex_i64 c37 fun z44 =>
ex_i64 c38 fun z45 =>
ex_i64 c39 fun z46 =>
ex_i64 c40 fun z47 =>
opP (ldA (mget ((100070, some ⟨[(intA z17), (intA z18), (intA z19), (intA z20), (intA z21), (intA z22)], 40⟩) :: (100070, some ⟨[(intA (0)), (intA (0)), (intA (0)), (intA (0)), (intA (0)), (intA (0))], 40⟩) :: m)) 2 (AV.ptr 3 0)) fun v48 =>
exA2 v48 fun c49 c50 =>
ex_i64 c49 fun z51 =>
ex_i64 c50 fun z52 =>
opP (ldS (mget ((100070, some ⟨[(intA z17), (intA z18), (intA z19), (intA z20), (intA z21), (intA z22)], 40⟩) :: (100070, some ⟨[(intA (0)), (intA (0)), (intA (0)), (intA (0)), (intA (0)), (intA (0))], 40⟩) :: m)) (AV.ptr 0 0)) fun v53 =>
opP (bld [(AV.sc (.string ⟨#[]⟩)), (intA (0)), (intA (0)), (AV.sc (.string ⟨#[]⟩)), AV.nils, AV.nils, (intA (0)), (intA (0)), (intA (0)), (intA (0)), (intA (0)), (intA (0)), (AV.sc (.string ⟨#[]⟩)), (intA (0)), (intA (0)), (intA (0)), (intA (0)), (intA (0)), (intA (0)), (intA (0)), (intA (0)), AV.nils] [(0, 4), (4, 1), (5, 1), (6, 6), (12, 7), (19, 2), (21, 1)] [(0, (AV.agg [(AV.sc (.string s29)), (intA z30), (intA z31), (AV.sc (.string s32))])), (3, (AV.agg [(intA z17), (intA z18), (intA z19), (intA z20), (intA z21), (intA z22)])), (4, (AV.agg [(AV.sc (.string s41)), (intA z42), (intA z43), (intA z44), (intA z45), (intA z46), (intA z47)])), (5, (AV.agg [(intA z51), (intA z52)])), (6, v53)]) fun v54 =>
storeW pg (mget ((100081, some ⟨[(AV.sc (.string ⟨#[]⟩)), (intA (0)), (intA (0)), (AV.sc (.string ⟨#[]⟩)), AV.nils, AV.nils, (intA (0)), (intA (0)), (intA (0)), (intA (0)), (intA (0)), (intA (0)), (AV.sc (.string ⟨#[]⟩)), (intA (0)), (intA (0)), (intA (0)), (intA (0)), (intA (0)), (intA (0)), (intA (0)), (intA (0)), AV.nils], 56⟩) :: (100070, some ⟨[(intA z17), (intA z18), (intA z19), (intA z20), (intA z21), (intA z22)], 40⟩) :: (100070, some ⟨[(intA (0)), (intA (0)), (intA (0)), (intA (0)), (intA (0)), (intA (0))], 40⟩) :: m)) 56 (AV.ptr 100081 0) v54 fun v55 d55 =>
opP (ldS (mget (mpushs ((100081, some ⟨[(AV.sc (.string ⟨#[]⟩)), (intA (0)), (intA (0)), (AV.sc (.string ⟨#[]⟩)), AV.nils, AV.nils, (intA (0)), (intA (0)), (intA (0)), (intA (0)), (intA (0)), (intA (0)), (AV.sc (.string ⟨#[]⟩)), (intA (0)), (intA (0)), (intA (0)), (intA (0)), (intA (0)), (intA (0)), (intA (0)), (intA (0)), AV.nils], 56⟩) :: (100070, some ⟨[(intA z17), (intA z18), (intA z19), (intA z20), (intA z21), (intA z22)], 40⟩) :: (100070, some ⟨[(intA (0)), (intA (0)), (intA (0)), (intA (0)), (intA (0)), (intA (0))], 40⟩) :: m) d55)) (AV.ptr 0 0)) fun v56 =>
opP (lenS v56) fun v57 =>
ex_i64 v57 fun z58 =>
Tri pg KK 108 0 (.loop c6_1) ⟨[(2, (intA t2)), (5, (AV.ptr 0 0)), (6, (AV.ptr 1 0)), (8, (AV.ptr 2 0)), (9, (AV.ptr 3 0)), (10, t10), (11, (intA t11)), (27, t27), (28, (intA t28)), (29, (intA t29)), (30, (boolA (decide (t29 < t28)))), (40, v7), (41, (intA t2)), (42, (AV.tup [(AV.agg [(intA z17), (intA z18), (intA z19), (intA z20), (intA z21), (intA z22)]), (intA z23)])), (39, (AV.tup [(AV.agg [(intA z17), (intA z18), (intA z19), (intA z20), (intA z21), (intA z22)]), (intA z23)])), (43, (AV.agg [(intA z17), (intA z18), (intA z19), (intA z20), (intA z21), (intA z22)])), (44, (intA z23)), (15, (AV.ptr 100070 0)), (16, (intA z23)), (45, (intA z23)), (46, (boolA (z23 != (0)))), (48, (AV.agg [(AV.sc (.string s29)), (intA z30), (intA z31), (AV.sc (.string s32))])), (49, (AV.agg [(intA z17), (intA z18), (intA z19), (intA z20), (intA z21), (intA z22)])), (50, (AV.agg [(AV.sc (.string s41)), (intA z42), (intA z43), (intA z44), (intA z45), (intA z46), (intA z47)])), (51, (AV.agg [(intA z51), (intA z52)])), (52, v53), (53, v54), (17, (AV.ptr 100081 0)), (54, v56), (55, (intA z58)), (56, (intA (0)))], (mpushs ((100081, some ⟨[(AV.sc (.string ⟨#[]⟩)), (intA (0)), (intA (0)), (AV.sc (.string ⟨#[]⟩)), AV.nils, AV.nils, (intA (0)), (intA (0)), (intA (0)), (intA (0)), (intA (0)), (intA (0)), (AV.sc (.string ⟨#[]⟩)), (intA (0)), (intA (0)), (intA (0)), (intA (0)), (intA (0)), (intA (0)), (intA (0)), (intA (0)), AV.nils], 56⟩) :: (100070, some ⟨[(intA z17), (intA z18), (intA z19), (intA z20), (intA z21), (intA z22)], 40⟩) :: (100070, some ⟨[(intA (0)), (intA (0)), (intA (0)), (intA (0)), (intA (0)), (intA (0))], 40⟩) :: m) d55), 100086⟩ (q6_1 R)))
theorem B6_0_eq (t2 : Int) (t10 : AV) (t11 : Int) (t27 : AV) (t28 : Int) (t29 : Int) (m : Mem) (R : AV → Mem → Prop) (N0 : St → Prop) : W pg KK 108 0 c6_0 (h6_0 t2 t10 t11 t27 t28 t29 m) (qq6_0 R N0) = B6_0 t2 t10 t11 t27 t28 t29 m R N0 := by kernel_rfl
theorem L6_0 (R : AV → Mem → Prop) {σ : Type} (I : σ → Prop) (t2 : σ → Int) (t10 : σ → AV) (t11 : σ → Int) (t27 : σ → AV) (t28 : σ → Int) (t29 : σ → Int) (m : σ → Mem) (μ : σ → Nat) (step : ∀ x, I x → B6_0 (t2 x) (t10 x) (t11 x) (t27 x) (t28 x) (t29 x) (m x) R (fun s' => ∃ y, I y ∧ μ y < μ x ∧ Weak KK 108 0 s' (h6_0 (t2 y) (t10 y) (t11 y) (t27 y) (t28 y) (t29 y) (m y)))) (x : σ) (hx : I x) {s : St} (hw : Weak KK 108 0 s (h6_0 (t2 x) (t10 x) (t11 x) (t27 x) (t28 x) (t29 x) (m x))) : Tri pg KK 108 0 (.loop c6_0) s (q6_0 R) :=
  Tri.weak hw (Tri.loops fol I (fun x => h6_0 (t2 x) (t10 x) (t11 x) (t27 x) (t28 x) (t29 x) (m x)) μ (fun x hx => (B6_0_eq (t2 x) (t10 x) (t11 x) (t27 x) (t28 x) (t29 x) (m x) R _).mpr (step x hx)) x hx)
noncomputable def B6_1 (t2 : Int) (t10 : AV) (t11 : Int) (t16 : Int) (t54 : AV) (t55 : Int) (t56 : Int) (m : Mem) (R : AV → Mem → Prop) (N0 : St → Prop) : Prop :=
bif (decide (t56 < t55)) then (
opP (idxS 6 t54 (intA t56)) fun v59 =>
opP (ldA (mget m) 6 v59) fun v60 =>
exA6 v60 fun c61 c62 c63 c64 c65 c66 =>
ex_i64 c61 fun z67 =>
ex_i64 c62 fun z68 =>
ex_i64 c63 fun z69 =>
ex_i64 c64 fun z70 =>
ex_i64 c65 fun z71 =>
ex_i64 c66 fun z72 =>
bif (decide (z67 < t2)) then (
opP (ldS (mget ((200003, some ⟨[(intA z67), (intA z68), (intA z69), (intA z70), (intA z71), (intA z72)], 40⟩) :: (200003, some ⟨[(intA (0)), (intA (0)), (intA (0)), (intA (0)), (intA (0)), (intA (0))], 40⟩) :: m)) (AV.ptr 100081 4)) fun v73 =>
opN (bsl 200013 40 6 1 [(intA (0)), (intA (0)), (intA (0)), (intA (0)), (intA (0)), (intA (0))] [(0, (AV.agg [(intA z67), (intA z68), (intA z69), (intA z70), (intA z71), (intA z72)]))]) ((200003, some ⟨[(intA z67), (intA z68), (intA z69), (intA z70), (intA z71), (intA z72)], 40⟩) :: (200003, some ⟨[(intA (0)), (intA (0)), (intA (0)), (intA (0)), (intA (0)), (intA (0))], 40⟩) :: m) fun v74 m74 =>
opN (app (mget m74) 40 6 48 [(intA (0)), (intA (0)), (intA (0)), (intA (0)), (intA (0)), (intA (0))] 200014 v73 v74) m74 fun v75 m75 =>
storeW pg (mget m75) 23 (AV.ptr 100081 4) v75 fun v76 d76 =>
opP (ldS (mget (mpushs m75 d76)) (AV.ptr 200003 0)) fun v77 =>
ex_i64 v77 fun z78 =>
bif (decide (z78 > t2)) then (
opP (ldS (mget (mpushs m75 d76)) (AV.ptr 100081 5)) fun v79 =>
opP (ldA (mget (mpushs m75 d76)) 6 (AV.ptr 200003 0)) fun v80 =>
exA6 v80 fun c81 c82 c83 c84 c85 c86 =>
ex_i64 c81 fun z87 =>
ex_i64 c82 fun z88 =>
ex_i64 c83 fun z89 =>
ex_i64 c84 fun z90 =>
ex_i64 c85 fun z91 =>
ex_i64 c86 fun z92 =>
opN (bsl 200025 40 6 1 [(intA (0)), (intA (0)), (intA (0)), (intA (0)), (intA (0)), (intA (0))] [(0, (AV.agg [(intA z87), (intA z88), (intA z89), (intA z90), (intA z91), (intA z92)]))]) (mpushs m75 d76) fun v93 m93 =>
opN (app (mget m93) 40 6 48 [(intA (0)), (intA (0)), (intA (0)), (intA (0)), (intA (0)), (intA (0))] 200026 v79 v93) m93 fun v94 m94 =>
storeW pg (mget m94) 23 (AV.ptr 100081 5) v94 fun v95 d95 =>
N0 ⟨[(2, (intA t2)), (5, (AV.ptr 0 0)), (10, t10), (11, (intA t11)), (15, (AV.ptr 100070 0)), (16, (intA t16)), (17, (AV.ptr 100081 0)), (54, t54), (55, (intA t55)), (56, (intA (IntKind.wrap .i64 (t56 + (1))))), (57, (boolA (decide (t56 < t55)))), (58, v59), (59, (AV.agg [(intA z67), (intA z68), (intA z69), (intA z70), (intA z71), (intA z72)])), (19, (AV.ptr 200003 0)), (60, (AV.ptr 200003 0)), (61, (AV.ptr 200003 0)), (62, (intA z67)), (63, (intA t2)), (64, (boolA (decide (z67 < t2)))), (65, (AV.ptr 100081 4)), (66, v73), (67, (AV.agg [(intA z67), (intA z68), (intA z69), (intA z70), (intA z71), (intA z72)])), (68, v74), (69, v75), (70, (AV.ptr 100081 4)), (71, (AV.ptr 200003 0)), (72, (AV.ptr 200003 0)), (73, (intA z78)), (74, (intA t2)), (75, (boolA (decide (z78 > t2)))), (76, (AV.ptr 100081 5)), (77, v79), (78, (AV.agg [(intA z87), (intA z88), (intA z89), (intA z90), (intA z91), (intA z92)])), (79, v93), (80, v94), (81, (AV.ptr 100081 5)), (82, (intA (IntKind.wrap .i64 (t56 + (1)))))], (mpushs m94 d95), 200031⟩) else (
N0 ⟨[(2, (intA t2)), (5, (AV.ptr 0 0)), (10, t10), (11, (intA t11)), (15, (AV.ptr 100070 0)), (16, (intA t16)), (17, (AV.ptr 100081 0)), (54, t54), (55, (intA t55)), (56, (intA (IntKind.wrap .i64 (t56 + (1))))), (57, (boolA (decide (t56 < t55)))), (58, v59), (59, (AV.agg [(intA z67), (intA z68), (intA z69), (intA z70), (intA z71), (intA z72)])), (19, (AV.ptr 200003 0)), (60, (AV.ptr 200003 0)), (61, (AV.ptr 200003 0)), (62, (intA z67)), (63, (intA t2)), (64, (boolA (decide (z67 < t2)))), (65, (AV.ptr 100081 4)), (66, v73), (67, (AV.agg [(intA z67), (intA z68), (intA z69), (intA z70), (intA z71), (intA z72)])), (68, v74), (69, v75), (70, (AV.ptr 100081 4)), (71, (AV.ptr 200003 0)), (72, (AV.ptr 200003 0)), (73, (intA z78)), (74, (intA t2)), (75, (boolA (decide (z78 > t2)))), (82, (intA (IntKind.wrap .i64 (t56 + (1)))))], (mpushs m75 d76), 200024⟩)) else (
bif (decide (z67 > t2)) then (
opP (ldS (mget ((200003, some ⟨[(intA z67), (intA z68), (intA z69), (intA z70), (intA z71), (intA z72)], 40⟩) :: (200003, some ⟨[(intA (0)), (intA (0)), (intA (0)), (intA (0)), (intA (0)), (intA (0))], 40⟩) :: m)) (AV.ptr 100081 5)) fun v96 =>
opN (bsl 200018 40 6 1 [(intA (0)), (intA (0)), (intA (0)), (intA (0)), (intA (0)), (intA (0))] [(0, (AV.agg [(intA z67), (intA z68), (intA z69), (intA z70), (intA z71), (intA z72)]))]) ((200003, some ⟨[(intA z67), (intA z68), (intA z69), (intA z70), (intA z71), (intA z72)], 40⟩) :: (200003, some ⟨[(intA (0)), (intA (0)), (intA (0)), (intA (0)), (intA (0)), (intA (0))], 40⟩) :: m) fun v97 m97 =>
opN (app (mget m97) 40 6 48 [(intA (0)), (intA (0)), (intA (0)), (intA (0)), (intA (0)), (intA (0))] 200019 v96 v97) m97 fun v98 m98 =>
storeW pg (mget m98) 23 (AV.ptr 100081 5) v98 fun v99 d99 =>
N0 ⟨[(2, (intA t2)), (5, (AV.ptr 0 0)), (10, t10), (11, (intA t11)), (15, (AV.ptr 100070 0)), (16, (intA t16)), (17, (AV.ptr 100081 0)), (54, t54), (55, (intA t55)), (56, (intA (IntKind.wrap .i64 (t56 + (1))))), (57, (boolA (decide (t56 < t55)))), (58, v59), (59, (AV.agg [(intA z67), (intA z68), (intA z69), (intA z70), (intA z71), (intA z72)])), (19, (AV.ptr 200003 0)), (60, (AV.ptr 200003 0)), (61, (AV.ptr 200003 0)), (62, (intA z67)), (63, (intA t2)), (64, (boolA (decide (z67 < t2)))), (71, (AV.ptr 200003 0)), (72, (AV.ptr 200003 0)), (73, (intA z67)), (74, (intA t2)), (75, (boolA (decide (z67 > t2)))), (76, (AV.ptr 100081 5)), (77, v96), (78, (AV.agg [(intA z67), (intA z68), (intA z69), (intA z70), (intA z71), (intA z72)])), (79, v97), (80, v98), (81, (AV.ptr 100081 5)), (82, (intA (IntKind.wrap .i64 (t56 + (1)))))], (mpushs m98 d99), 200024⟩) else (
N0 ⟨[(2, (intA t2)), (5, (AV.ptr 0 0)), (10, t10), (11, (intA t11)), (15, (AV.ptr 100070 0)), (16, (intA t16)), (17, (AV.ptr 100081 0)), (54, t54), (55, (intA t55)), (56, (intA (IntKind.wrap .i64 (t56 + (1))))), (57, (boolA (decide (t56 < t55)))), (58, v59), (59, (AV.agg [(intA z67), (intA z68), (intA z69), (intA z70), (intA z71), (intA z72)])), (19, (AV.ptr 200003 0)), (60, (AV.ptr 200003 0)), (61, (AV.ptr 200003 0)), (62, (intA z67)), (63, (intA t2)), (64, (boolA (decide (z67 < t2)))), (71, (AV.ptr 200003 0)), (72, (AV.ptr 200003 0)), (73, (intA z67)), (74, (intA t2)), (75, (boolA (decide (z67 > t2)))), (82, (intA (IntKind.wrap .i64 (t56 + (1)))))], ((200003, some ⟨[(intA z67), (intA z68), (intA z69), (intA z70), (intA z71), (intA z72)], 40⟩) :: (200003, some ⟨[(intA (0)), (intA (0)), (intA (0)), (intA (0)), (intA (0)), (intA (0))], 40⟩) :: m), 200017⟩))) else (
opP (ldA (mget m) 22 (AV.ptr 100081 0)) fun v100 =>
exA22 v100 fun c101 c102 c103 c104 c105 c106 c107 c108 c109 c110 c111 c112 c113 c114 c115 c116 c117 c118 c119 c120 c121 c122 =>
exStr c101 fun s123 =>
ex_i64 c102 fun z124 =>
ex_i64 c103 fun z125 =>
exStr c104 fun s126 =>
ex_i64 c107 fun z127 =>
ex_i64 c108 fun z128 =>
ex_i64 c109 fun z129 =>
ex_i64 c110 fun z130 =>
ex_i64 c111 fun z131 =>
ex_i64 c112 fun z132 =>
exStr c113 fun s133 =>
ex_i64 c114 fun z134 =>
ex_i64 c115 fun z135 =>
ex_i64 c116 fun z136 =>
ex_i64 c117 fun z137 =>
ex_i64 c118 fun z138 =>
ex_i64 c119 fun z139 =>
ex_i64 c120 fun z140 =>
ex_i64 c121 fun z141 =>
callW pg KK.gl m 200002 21 [(AV.agg [(AV.sc (.string s123)), (intA z124), (intA z125), (AV.sc (.string s126)), c105, c106, (intA z127), (intA z128), (intA z129), (intA z130), (intA z131), (intA z132), (AV.sc (.string s133)), (intA z134), (intA z135), (intA z136), (intA z137), (intA z138), (intA z139), (intA z140), (intA z141), c122])] fun v142 m142 =>
exT3 v142 fun c143 c144 c145 =>
exB c144 fun b146 =>
ex_i64 c145 fun z147 =>
bif (z147 != (0)) then (
retL R m142 [some AV.nils, some (intA z147)]) else (
bif b146 then (
opP (ldS (mget m142) (AV.ptr 0 0)) fun v148 =>
callW pg KK.gl m142 200079 22 [v148] fun v149 m149 =>
retL R m149 [some v149, some (intA (0))]) else (
opP (ldS (mget m142) (AV.ptr 100081 4)) fun v150 =>
opP (ldA (mget m142) 6 (AV.ptr 100070 0)) fun v151 =>
exA6 v151 fun c152 c153 c154 c155 c156 c157 =>
ex_i64 c152 fun z158 =>
ex_i64 c153 fun z159 =>
ex_i64 c154 fun z160 =>
ex_i64 c155 fun z161 =>
ex_i64 c156 fun z162 =>
ex_i64 c157 fun z163 =>
opN (bsl 200081 40 6 1 [(intA (0)), (intA (0)), (intA (0)), (intA (0)), (intA (0)), (intA (0))] [(0, (AV.agg [(intA z158), (intA z159), (intA z160), (intA z161), (intA z162), (intA z163)]))]) m142 fun v164 m164 =>
opN (bsl 200083 23 1 3 [AV.nils] [(0, v150), (1, v164), (2, c143)]) m164 fun v165 m165 =>
callW pg KK.gl m165 200084 23 [v165] fun v166 m166 =>
opP (lenS v166) fun v167 =>
ex_i64 v167 fun z168 =>
bif (decide (z168 > (64))) then (
retL R m166 [some AV.nils, some (intA (2))]) else (
retL R m166 [some v166, some (intA (0))]))))
theorem B6_1_eq (t2 : Int) (t10 : AV) (t11 : Int) (t16 : Int) (t54 : AV) (t55 : Int) (t56 : Int) (m : Mem) (R : AV → Mem → Prop) (N0 : St → Prop) : W pg KK 108 0 c6_1 (h6_1 t2 t10 t11 t16 t54 t55 t56 m) (qq6_1 R N0) = B6_1 t2 t10 t11 t16 t54 t55 t56 m R N0 := by kernel_rfl
theorem L6_1 (R : AV → Mem → Prop) {σ : Type} (I : σ → Prop) (t2 : σ → Int) (t10 : σ → AV) (t11 : σ → Int) (t16 : σ → Int) (t54 : σ → AV) (t55 : σ → Int) (t56 : σ → Int) (m : σ → Mem) (μ : σ → Nat) (step : ∀ x, I x → B6_1 (t2 x) (t10 x) (t11 x) (t16 x) (t54 x) (t55 x) (t56 x) (m x) R (fun s' => ∃ y, I y ∧ μ y < μ x ∧ Weak KK 108 0 s' (h6_1 (t2 y) (t10 y) (t11 y) (t16 y) (t54 y) (t55 y) (t56 y) (m y)))) (x : σ) (hx : I x) {s : St} (hw : Weak KK 108 0 s (h6_1 (t2 x) (t10 x) (t11 x) (t16 x) (t54 x) (t55 x) (t56 x) (m x))) : Tri pg KK 108 0 (.loop c6_1) s (q6_1 R) :=
  Tri.weak hw (Tri.loops fol I (fun x => h6_1 (t2 x) (t10 x) (t11 x) (t16 x) (t54 x) (t55 x) (t56 x) (m x)) μ (fun x hx => (B6_1_eq (t2 x) (t10 x) (t11 x) (t16 x) (t54 x) (t55 x) (t56 x) (m x) R _).mpr (step x hx)) x hx)
noncomputable def F6 (a0 : AV) (a1_0 : ByteArray) (a1_1 : Int) (a1_2 : Int) (a1_3 : ByteArray) (a2 : Int) (a3_0 : ByteArray) (a3_1 : Int) (a3_2 : Int) (a3_3 : Int) (a3_4 : Int) (a3_5 : Int) (a3_6 : Int) (a4_0 : Int) (a4_1 : Int) (R : AV → Mem → Prop) : Prop :=
chk (isCell a0) <| opN (opA pg (.buildSlice 54 4 #[(0, .tmp 0), (1, .tmp 1), (2, .tmp 2), (3, .tmp 3)]) 54 [(AV.fn 14 [(AV.ptr 0 0)]), (AV.fn 15 [(AV.ptr 1 0)]), (AV.fn 17 [(AV.ptr 2 0)]), (AV.fn 19 [(AV.ptr 3 0)])] (mget ((3, some ⟨[(intA a4_0), (intA a4_1)], 29⟩) :: (2, some ⟨[(AV.sc (.string a3_0)), (intA a3_1), (intA a3_2), (intA a3_3), (intA a3_4), (intA a3_5), (intA a3_6)], 27⟩) :: (1, some ⟨[(AV.sc (.string a1_0)), (intA a1_1), (intA a1_2), (AV.sc (.string a1_3))], 25⟩) :: (0, some ⟨[a0], 23⟩) :: [])) 10) ((3, some ⟨[(intA a4_0), (intA a4_1)], 29⟩) :: (2, some ⟨[(AV.sc (.string a3_0)), (intA a3_1), (intA a3_2), (intA a3_3), (intA a3_4), (intA a3_5), (intA a3_6)], 27⟩) :: (1, some ⟨[(AV.sc (.string a1_0)), (intA a1_1), (intA a1_2), (AV.sc (.string a1_3))], 25⟩) :: (0, some ⟨[a0], 23⟩) :: []) fun v0 m0 =>
opP (lenS v0) fun v1 =>
ex_i64 v1 fun z2 =>
Tri pg KK 108 0 (.loop c6_0) ⟨[(0, a0), (1, (AV.agg [(AV.sc (.string a1_0)), (intA a1_1), (intA a1_2), (AV.sc (.string a1_3))])), (2, (intA a2)), (3, (AV.agg [(AV.sc (.string a3_0)), (intA a3_1), (intA a3_2), (intA a3_3), (intA a3_4), (intA a3_5), (intA a3_6)])), (4, (AV.agg [(intA a4_0), (intA a4_1)])), (5, (AV.ptr 0 0)), (6, (AV.ptr 1 0)), (8, (AV.ptr 2 0)), (9, (AV.ptr 3 0)), (10, AV.nils), (11, (intA (0))), (23, (AV.fn 14 [(AV.ptr 0 0)])), (24, (AV.fn 15 [(AV.ptr 1 0)])), (25, (AV.fn 17 [(AV.ptr 2 0)])), (26, (AV.fn 19 [(AV.ptr 3 0)])), (27, v0), (28, (intA z2)), (29, (intA (0)))], m0, 13⟩ (q6_0 R)
theorem F6_own (a0 : AV) (a1_0 : ByteArray) (a1_1 : Int) (a1_2 : Int) (a1_3 : ByteArray) (a2 : Int) (a3_0 : ByteArray) (a3_1 : Int) (a3_2 : Int) (a3_3 : Int) (a3_4 : Int) (a3_5 : Int) (a3_6 : Int) (a4_0 : Int) (a4_1 : Int) (R : AV → Mem → Prop) (h : F6 a0 a1_0 a1_1 a1_2 a1_3 a2 a3_0 a3_1 a3_2 a3_3 a3_4 a3_5 a3_6 a4_0 a4_1 R) : Own pg KK.gl 6 [a0, (AV.agg [(AV.sc (.string a1_0)), (intA a1_1), (intA a1_2), (AV.sc (.string a1_3))]), (intA a2), (AV.agg [(AV.sc (.string a3_0)), (intA a3_1), (intA a3_2), (intA a3_3), (intA a3_4), (intA a3_5), (intA a3_6)]), (AV.agg [(intA a4_0), (intA a4_1)])] R := own_of_F fol Tryd.func6 (code := c6) (by kernel_rfl) (by kernel_rfl) (by kernel_rfl) (X := F6 a0 a1_0 a1_1 a1_2 a1_3 a2 a3_0 a3_1 a3_2 a3_3 a3_4 a3_5 a3_6 a4_0 a4_1 R) (by kernel_rfl) h
/- skyway/effect.Differs -/
noncomputable def c13 : Code := ((Tryd.f13).body).getD .skip
noncomputable def q13 (R : AV → Mem → Prop) : AExit → St → Prop := retQ pg Tryd.f13 R
noncomputable def c13_0 : Code := loopB c13 0
noncomputable def q13_0 (R : AV → Mem → Prop) : AExit → St → Prop := contW pg KK 102 0 c13 0 (q13 R)
noncomputable def qq13_0 (R : AV → Mem → Prop) (N0 : St → Prop) : AExit → St → Prop := thenQ N0 (q13_0 R)
def h13_0 (t0 : AV) (t1 : AV) (t4 : Int) (t5 : Int) (t18 : AV) (t19 : Int) (t20 : Int) (m : Mem) : St := ⟨[(0, t0), (1, t1), (4, (intA t4)), (5, (intA t5)), (18, t18), (19, (intA t19)), (20, (intA t20))], m, 100000⟩
noncomputable def c13_1 : Code := loopB c13 1
noncomputable def q13_1 (R : AV → Mem → Prop) : AExit → St → Prop := contW pg KK 102 0 c13 1 (q13 R)
noncomputable def qq13_1 (R : AV → Mem → Prop) (N0 : St → Prop) : AExit → St → Prop := thenQ N0 (q13_1 R)
def h13_1 (t0 : AV) (t1 : AV) (t4 : Int) (t5 : Int) (t10 : Int) (t11 : Int) (m : Mem) : St := ⟨[(0, t0), (1, t1), (4, (intA t4)), (5, (intA t5)), (10, (intA t10)), (11, (intA t11))], m, 200000⟩
noncomputable def B13_0 (t0 : AV) (t1 : AV) (t4 : Int) (t5 : Int) (t18 : AV) (t19 : Int) (t20 : Int) (m : Mem) (R : AV → Mem → Prop) (N0 : St → Prop) : Prop :=
bif (decide (t20 < t19)) then (
opP (idxS 1 t18 (intA t20)) fun v3 =>
opP (ldS (mget m) v3) fun v4 =>
callQ pg KK.gl m 7 [v4] fun v5 =>
ex_i64 v5 fun z6 =>
bif (z6 != (0)) then (
retL R m [some (intA (0)), some (intA z6)]) else (
N0 ⟨[(0, t0), (1, t1), (4, (intA t4)), (5, (intA t5)), (18, t18), (19, (intA t19)), (20, (intA (IntKind.wrap .i64 (t20 + (1))))), (21, (boolA (decide (t20 < t19)))), (22, v3), (23, v4), (7, v4), (24, v4), (25, (intA z6)), (8, (intA z6)), (26, (intA z6)), (27, (boolA (z6 != (0)))), (29, (intA (IntKind.wrap .i64 (t20 + (1)))))], m, 100074⟩)) else (
opP (idxS 6 t0 (intA (0))) fun v7 =>
opP (fldO 0 v7) fun v8 =>
opP (fldO 0 v8) fun v9 =>
opP (ldS (mget m) v9) fun v10 =>
ex_i64 v10 fun z11 =>
opP (idxS 6 t1 (intA (0))) fun v12 =>
opP (fldO 0 v12) fun v13 =>
opP (fldO 0 v13) fun v14 =>
opP (ldS (mget m) v14) fun v15 =>
ex_i64 v15 fun z16 =>
opP (opA pg (.call ⟨.builtin .min, #[.tmp 0, .tmp 1], #[3, 3]⟩) 3 [(intA z11), (intA z16)] (mget m) 100011) fun v17 =>
ex_i64 v17 fun z18 =>
opP (lenS t0) fun v19 =>
ex_i64 v19 fun z20 =>
opP (idxS 6 t0 (intA (IntKind.wrap .i64 (z20 - (1))))) fun v21 =>
opP (fldO 0 v21) fun v22 =>
opP (fldO 0 v22) fun v23 =>
opP (ldS (mget m) v23) fun v24 =>
ex_i64 v24 fun z25 =>
opP (lenS t1) fun v26 =>
ex_i64 v26 fun z27 =>
opP (idxS 6 t1 (intA (IntKind.wrap .i64 (z27 - (1))))) fun v28 =>
opP (fldO 0 v28) fun v29 =>
opP (fldO 0 v29) fun v30 =>
opP (ldS (mget m) v30) fun v31 =>
ex_i64 v31 fun z32 =>
opP (opA pg (.call ⟨.builtin .max, #[.tmp 0, .tmp 1], #[3, 3]⟩) 3 [(intA z25), (intA z32)] (mget m) 100028) fun v33 =>
ex_i64 v33 fun z34 =>
bif (decide ((IntKind.wrap .i64 (z34 - z18)) > (20000))) then (
retL R m [some (intA (0)), some (intA (2))]) else (
Tri pg KK 102 0 (.loop c13_1) ⟨[(0, t0), (1, t1), (4, (intA t4)), (5, (intA t5)), (18, t18), (19, (intA t19)), (20, (intA t20)), (21, (boolA (decide (t20 < t19)))), (30, t0), (31, v7), (32, v8), (33, v9), (34, (intA z11)), (35, t1), (36, v12), (37, v13), (38, v14), (39, (intA z16)), (40, (intA z18)), (41, t0), (42, t0), (43, (intA z20)), (44, (intA (IntKind.wrap .i64 (z20 - (1))))), (45, v21), (46, v22), (47, v23), (48, (intA z25)), (49, t1), (50, t1), (51, (intA z27)), (52, (intA (IntKind.wrap .i64 (z27 - (1))))), (53, v28), (54, v29), (55, v30), (56, (intA z32)), (57, (intA z34)), (9, (intA z18)), (10, (intA z34)), (58, (intA z34)), (59, (intA z18)), (60, (intA (IntKind.wrap .i64 (z34 - z18)))), (61, (boolA (decide ((IntKind.wrap .i64 (z34 - z18)) > (20000))))), (62, (intA z18)), (11, (intA z18))], m, 100037⟩ (q13_1 R)))
theorem B13_0_eq (t0 : AV) (t1 : AV) (t4 : Int) (t5 : Int) (t18 : AV) (t19 : Int) (t20 : Int) (m : Mem) (R : AV → Mem → Prop) (N0 : St → Prop) : W pg KK 102 0 c13_0 (h13_0 t0 t1 t4 t5 t18 t19 t20 m) (qq13_0 R N0) = B13_0 t0 t1 t4 t5 t18 t19 t20 m R N0 := by kernel_rfl
theorem L13_0 (R : AV → Mem → Prop) {σ : Type} (I : σ → Prop) (t0 : σ → AV) (t1 : σ → AV) (t4 : σ → Int) (t5 : σ → Int) (t18 : σ → AV) (t19 : σ → Int) (t20 : σ → Int) (m : σ → Mem) (μ : σ → Nat) (step : ∀ x, I x → B13_0 (t0 x) (t1 x) (t4 x) (t5 x) (t18 x) (t19 x) (t20 x) (m x) R (fun s' => ∃ y, I y ∧ μ y < μ x ∧ Weak KK 102 0 s' (h13_0 (t0 y) (t1 y) (t4 y) (t5 y) (t18 y) (t19 y) (t20 y) (m y)))) (x : σ) (hx : I x) {s : St} (hw : Weak KK 102 0 s (h13_0 (t0 x) (t1 x) (t4 x) (t5 x) (t18 x) (t19 x) (t20 x) (m x))) : Tri pg KK 102 0 (.loop c13_0) s (q13_0 R) :=
  Tri.weak hw (Tri.loops fol I (fun x => h13_0 (t0 x) (t1 x) (t4 x) (t5 x) (t18 x) (t19 x) (t20 x) (m x)) μ (fun x hx => (B13_0_eq (t0 x) (t1 x) (t4 x) (t5 x) (t18 x) (t19 x) (t20 x) (m x) R _).mpr (step x hx)) x hx)
noncomputable def B13_1 (t0 : AV) (t1 : AV) (t4 : Int) (t5 : Int) (t10 : Int) (t11 : Int) (m : Mem) (R : AV → Mem → Prop) (N0 : St → Prop) : Prop :=
bif (decide (t11 ≤ t10)) then (
callQ pg KK.gl m 8 [t0, (intA t11)] fun v35 =>
exT2 v35 fun c36 c37 =>
exA6 c36 fun c38 c39 c40 c41 c42 c43 =>
ex_i64 c38 fun z44 =>
ex_i64 c39 fun z45 =>
ex_i64 c40 fun z46 =>
ex_i64 c41 fun z47 =>
ex_i64 c42 fun z48 =>
ex_i64 c43 fun z49 =>
ex_i64 c37 fun z50 =>
callQ pg KK.gl ((200072, some ⟨[(intA z44), (intA z45), (intA z46), (intA z47), (intA z48), (intA z49)], 40⟩) :: (200072, some ⟨[(intA (0)), (intA (0)), (intA (0)), (intA (0)), (intA (0)), (intA (0))], 40⟩) :: m) 8 [t1, (intA t11)] fun v51 =>
exT2 v51 fun c52 c53 =>
exA6 c52 fun c54 c55 c56 c57 c58 c59 =>
ex_i64 c54 fun z60 =>
ex_i64 c55 fun z61 =>
ex_i64 c56 fun z62 =>
ex_i64 c57 fun z63 =>
ex_i64 c58 fun z64 =>
ex_i64 c59 fun z65 =>
ex_i64 c53 fun z66 =>
bif (z50 != z66) then (
retL R ((200144, some ⟨[(intA z60), (intA z61), (intA z62), (intA z63), (intA z64), (intA z65)], 40⟩) :: (200144, some ⟨[(intA (0)), (intA (0)), (intA (0)), (intA (0)), (intA (0)), (intA (0))], 40⟩) :: (200072, some ⟨[(intA z44), (intA z45), (intA z46), (intA z47), (intA z48), (intA z49)], 40⟩) :: (200072, some ⟨[(intA (0)), (intA (0)), (intA (0)), (intA (0)), (intA (0)), (intA (0))], 40⟩) :: m) [some (intA t11), some (intA (0))]) else (
opP (opA pg (.binOp .neq 29 (.tmp 0) (.tmp 1) 29) 4 [(AV.agg [(intA z45), (intA z46)]), (AV.agg [(intA z61), (intA z62)])] (mget ((200144, some ⟨[(intA z60), (intA z61), (intA z62), (intA z63), (intA z64), (intA z65)], 40⟩) :: (200144, some ⟨[(intA (0)), (intA (0)), (intA (0)), (intA (0)), (intA (0)), (intA (0))], 40⟩) :: (200072, some ⟨[(intA z44), (intA z45), (intA z46), (intA z47), (intA z48), (intA z49)], 40⟩) :: (200072, some ⟨[(intA (0)), (intA (0)), (intA (0)), (intA (0)), (intA (0)), (intA (0))], 40⟩) :: m)) 200157) fun v67 =>
exB v67 fun b68 =>
bif b68 then (
retL R ((200144, some ⟨[(intA z60), (intA z61), (intA z62), (intA z63), (intA z64), (intA z65)], 40⟩) :: (200144, some ⟨[(intA (0)), (intA (0)), (intA (0)), (intA (0)), (intA (0)), (intA (0))], 40⟩) :: (200072, some ⟨[(intA z44), (intA z45), (intA z46), (intA z47), (intA z48), (intA z49)], 40⟩) :: (200072, some ⟨[(intA (0)), (intA (0)), (intA (0)), (intA (0)), (intA (0)), (intA (0))], 40⟩) :: m) [some (intA t11), some (intA (0))]) else (
bif (z47 != z63) then (
retL R ((200144, some ⟨[(intA z60), (intA z61), (intA z62), (intA z63), (intA z64), (intA z65)], 40⟩) :: (200144, some ⟨[(intA (0)), (intA (0)), (intA (0)), (intA (0)), (intA (0)), (intA (0))], 40⟩) :: (200072, some ⟨[(intA z44), (intA z45), (intA z46), (intA z47), (intA z48), (intA z49)], 40⟩) :: (200072, some ⟨[(intA (0)), (intA (0)), (intA (0)), (intA (0)), (intA (0)), (intA (0))], 40⟩) :: m) [some (intA t11), some (intA (0))]) else (
N0 ⟨[(0, t0), (1, t1), (4, (intA t4)), (5, (intA t5)), (10, (intA t10)), (11, (intA (IntKind.wrap .i64 (t11 + (1))))), (63, (intA t11)), (64, (intA t10)), (65, (boolA (decide (t11 ≤ t10)))), (69, t0), (70, (intA t11)), (71, (AV.tup [(AV.agg [(intA z44), (intA z45), (intA z46), (intA z47), (intA z48), (intA z49)]), (intA z50)])), (68, (AV.tup [(AV.agg [(intA z44), (intA z45), (intA z46), (intA z47), (intA z48), (intA z49)]), (intA z50)])), (72, (AV.agg [(intA z44), (intA z45), (intA z46), (intA z47), (intA z48), (intA z49)])), (73, (intA z50)), (12, (AV.ptr 200072 0)), (13, (intA z50)), (75, t1), (76, (intA t11)), (77, (AV.tup [(AV.agg [(intA z60), (intA z61), (intA z62), (intA z63), (intA z64), (intA z65)]), (intA z66)])), (74, (AV.tup [(AV.agg [(intA z60), (intA z61), (intA z62), (intA z63), (intA z64), (intA z65)]), (intA z66)])), (78, (AV.agg [(intA z60), (intA z61), (intA z62), (intA z63), (intA z64), (intA z65)])), (79, (intA z66)), (14, (AV.ptr 200144 0)), (15, (intA z66)), (80, (intA z50)), (81, (intA z66)), (82, (boolA (z50 != z66))), (83, (boolA false)), (84, (AV.ptr 200072 0)), (85, (AV.ptr 200072 1)), (86, (AV.agg [(intA z45), (intA z46)])), (87, (AV.ptr 200144 0)), (88, (AV.ptr 200144 1)), (89, (AV.agg [(intA z61), (intA z62)])), (90, (boolA b68)), (91, (boolA b68)), (92, (boolA false)), (93, (AV.ptr 200072 0)), (94, (AV.ptr 200072 3)), (95, (intA z47)), (96, (AV.ptr 200144 0)), (97, (AV.ptr 200144 3)), (98, (intA z63)), (99, (boolA (z47 != z63))), (100, (boolA (z47 != z63))), (66, (intA t11)), (67, (intA (IntKind.wrap .i64 (t11 + (1)))))], ((200144, some ⟨[(intA z60), (intA z61), (intA z62), (intA z63), (intA z64), (intA z65)], 40⟩) :: (200144, some ⟨[(intA (0)), (intA (0)), (intA (0)), (intA (0)), (intA (0)), (intA (0))], 40⟩) :: (200072, some ⟨[(intA z44), (intA z45), (intA z46), (intA z47), (intA z48), (intA z49)], 40⟩) :: (200072, some ⟨[(intA (0)), (intA (0)), (intA (0)), (intA (0)), (intA (0)), (intA (0))], 40⟩) :: m), 200171⟩)))) else (
retL R m [some (intA (0)), some (intA (8))])
theorem B13_1_eq (t0 : AV) (t1 : AV) (t4 : Int) (t5 : Int) (t10 : Int) (t11 : Int) (m : Mem) (R : AV → Mem → Prop) (N0 : St → Prop) : W pg KK 102 0 c13_1 (h13_1 t0 t1 t4 t5 t10 t11 m) (qq13_1 R N0) = B13_1 t0 t1 t4 t5 t10 t11 m R N0 := by kernel_rfl
theorem L13_1 (R : AV → Mem → Prop) {σ : Type} (I : σ → Prop) (t0 : σ → AV) (t1 : σ → AV) (t4 : σ → Int) (t5 : σ → Int) (t10 : σ → Int) (t11 : σ → Int) (m : σ → Mem) (μ : σ → Nat) (step : ∀ x, I x → B13_1 (t0 x) (t1 x) (t4 x) (t5 x) (t10 x) (t11 x) (m x) R (fun s' => ∃ y, I y ∧ μ y < μ x ∧ Weak KK 102 0 s' (h13_1 (t0 y) (t1 y) (t4 y) (t5 y) (t10 y) (t11 y) (m y)))) (x : σ) (hx : I x) {s : St} (hw : Weak KK 102 0 s (h13_1 (t0 x) (t1 x) (t4 x) (t5 x) (t10 x) (t11 x) (m x))) : Tri pg KK 102 0 (.loop c13_1) s (q13_1 R) :=
  Tri.weak hw (Tri.loops fol I (fun x => h13_1 (t0 x) (t1 x) (t4 x) (t5 x) (t10 x) (t11 x) (m x)) μ (fun x hx => (B13_1_eq (t0 x) (t1 x) (t4 x) (t5 x) (t10 x) (t11 x) (m x) R _).mpr (step x hx)) x hx)
noncomputable def F13 (a0 : AV) (a1 : AV) (R : AV → Mem → Prop) : Prop :=
opN (bsl 4 23 1 2 [AV.nils] [(0, a0), (1, a1)]) [] fun v0 m0 =>
opP (lenS v0) fun v1 =>
ex_i64 v1 fun z2 =>
Tri pg KK 102 0 (.loop c13_0) ⟨[(0, a0), (1, a1), (4, (intA (0))), (5, (intA (0))), (16, a0), (17, a1), (18, v0), (19, (intA z2)), (20, (intA (0)))], m0, 7⟩ (q13_0 R)
theorem F13_own (a0 : AV) (a1 : AV) (R : AV → Mem → Prop) (h : F13 a0 a1 R) : Own pg KK.gl 13 [a0, a1] R := own_of_F fol Tryd.func13 (code := c13) (by kernel_rfl) (by kernel_rfl) (by kernel_rfl) (X := F13 a0 a1 R) (by kernel_rfl) h
/- skyway/skywaykeep3.effectFact -/
noncomputable def c4 : Code := ((Tryd.f4).body).getD .skip
noncomputable def q4 (R : AV → Mem → Prop) : AExit → St → Prop := retQ pg Tryd.f4 R
noncomputable def F4 (R : AV → Mem → Prop) : Prop :=
callQ pg KK.gl [] 10 [] fun v0 =>
callQ pg KK.gl [] 11 [(intA (9500))] fun v1 =>
exA4 v1 fun c2 c3 c4 c5 =>
exStr c2 fun s6 =>
ex_i64 c3 fun z7 =>
ex_i64 c4 fun z8 =>
exStr c5 fun s9 =>
callQ pg KK.gl [] 12 [] fun v10 =>
exA7 v10 fun c11 c12 c13 c14 c15 c16 c17 =>
exStr c11 fun s18 =>
ex_i64 c12 fun z19 =>
ex_i64 c13 fun z20 =>
ex_i64 c14 fun z21 =>
ex_i64 c15 fun z22 =>
ex_i64 c16 fun z23 =>
ex_i64 c17 fun z24 =>
opP (bld [(intA (0)), (intA (0))] [(0, 1), (1, 1)] []) fun v25 =>
callQ pg KK.gl [] 6 [v0, (AV.agg [(AV.sc (.string s6)), (intA z7), (intA z8), (AV.sc (.string s9))]), (intA (0)), (AV.agg [(AV.sc (.string s18)), (intA z19), (intA z20), (intA z21), (intA z22), (intA z23), (intA z24)]), v25] fun v26 =>
exT2 v26 fun c27 c28 =>
ex_i64 c28 fun z29 =>
callQ pg KK.gl [] 10 [] fun v30 =>
callQ pg KK.gl [] 13 [v30, c27] fun v31 =>
exT2 v31 fun c32 c33 =>
ex_i64 c32 fun z34 =>
ex_i64 c33 fun z35 =>
bif (z29 == (0)) then (
bif (z35 == (0)) then (
opP (lenS c27) fun v36 =>
ex_i64 v36 fun z37 =>
bif (z37 == (3)) then (
opP (idxS 6 c27 (intA (1))) fun v38 =>
opP (fldO 0 v38) fun v39 =>
opP (fldO 0 v39) fun v40 =>
opP (ldS (mget []) v40) fun v41 =>
ex_i64 v41 fun z42 =>
bif (z42 == (10)) then (
opP (idxS 6 c27 (intA (1))) fun v43 =>
opP (fldO 0 v43) fun v44 =>
opP (fldO 3 v44) fun v45 =>
opP (ldS (mget []) v45) fun v46 =>
ex_i64 v46 fun z47 =>
bif (z47 == (9500)) then (
opP (idxS 6 c27 (intA (1))) fun v48 =>
opP (fldO 0 v48) fun v49 =>
opP (fldO 1 v49) fun v50 =>
opP (fldO 0 v50) fun v51 =>
opP (ldS (mget []) v51) fun v52 =>
ex_i64 v52 fun z53 =>
bif (z53 == (1000)) then (
opP (idxS 6 c27 (intA (2))) fun v54 =>
opP (fldO 0 v54) fun v55 =>
opP (fldO 3 v55) fun v56 =>
opP (ldS (mget []) v56) fun v57 =>
ex_i64 v57 fun z58 =>
bif (z58 == (9500)) then (
opP (idxS 6 c27 (intA (1))) fun v59 =>
opP (fldO 4 v59) fun v60 =>
opP (ldS (mget []) v60) fun v61 =>
ex_i64 v61 fun z62 =>
bif (z62 == (100)) then (
retL R [] [some (boolA (z34 == (1)))]) else (
retL R [] [some (boolA false)])) else (
retL R [] [some (boolA false)])) else (
retL R [] [some (boolA false)])) else (
retL R [] [some (boolA false)])) else (
retL R [] [some (boolA false)])) else (
retL R [] [some (boolA false)])) else (
retL R [] [some (boolA false)])) else (
retL R [] [some (boolA false)])
theorem F4_own (R : AV → Mem → Prop) (h : F4  R) : Own pg KK.gl 4 [] R := own_of_F fol Tryd.func4 (code := c4) (by kernel_rfl) (by kernel_rfl) (by kernel_rfl) (X := F4  R) (by kernel_rfl) h
/- skyway/skywaykeep3.small -/
noncomputable def c5 : Code := ((Tryd.f5).body).getD .skip
noncomputable def q5 (R : AV → Mem → Prop) : AExit → St → Prop := retQ pg Tryd.f5 R
noncomputable def c5_0 : Code := loopB c5 0
noncomputable def q5_0 (R : AV → Mem → Prop) : AExit → St → Prop := contW pg KK 41 0 c5 0 (q5 R)
noncomputable def qq5_0 (R : AV → Mem → Prop) (N0 : St → Prop) : AExit → St → Prop := thenQ N0 (q5_0 R)
def h5_0 (t2 : Int) (t6 : Bool) (t13 : AV) (t14 : Int) (t15 : Int) (m : Mem) : St := ⟨[(2, (intA t2)), (6, (boolA t6)), (13, t13), (14, (intA t14)), (15, (intA t15))], m, 100000⟩
noncomputable def B5_0 (t2 : Int) (t6 : Bool) (t13 : AV) (t14 : Int) (t15 : Int) (m : Mem) (R : AV → Mem → Prop) (N0 : St → Prop) : Prop :=
bif (decide (t15 < t14)) then (
opP (idxS 1 t13 (intA t15)) fun v4 =>
opP (ldS (mget m) v4) fun v5 =>
callQ pg KK.gl m 7 [v5] fun v6 =>
ex_i64 v6 fun z7 =>
bif (z7 != (0)) then (
retL R m [some (boolA false)]) else (
opP (lenS v5) fun v8 =>
ex_i64 v8 fun z9 =>
opP (idxS 6 v5 (intA (IntKind.wrap .i64 (z9 - (1))))) fun v10 =>
opP (fldO 0 v10) fun v11 =>
opP (fldO 0 v11) fun v12 =>
opP (ldS (mget m) v12) fun v13 =>
ex_i64 v13 fun z14 =>
opP (idxS 6 v5 (intA (0))) fun v15 =>
opP (fldO 0 v15) fun v16 =>
opP (fldO 0 v16) fun v17 =>
opP (ldS (mget m) v17) fun v18 =>
ex_i64 v18 fun z19 =>
bif (decide ((IntKind.wrap .i64 (z14 - z19)) > t2)) then (
retL R m [some (boolA false)]) else (
N0 ⟨[(2, (intA t2)), (6, (boolA t6)), (13, t13), (14, (intA t14)), (15, (intA (IntKind.wrap .i64 (t15 + (1))))), (16, (boolA (decide (t15 < t14)))), (17, v4), (18, v5), (8, v5), (19, v5), (20, (intA z7)), (21, (boolA (z7 != (0)))), (22, (boolA false)), (23, v5), (24, v5), (25, (intA z9)), (26, (intA (IntKind.wrap .i64 (z9 - (1))))), (27, v10), (28, v11), (29, v12), (30, (intA z14)), (31, v5), (32, v15), (33, v16), (34, v17), (35, (intA z19)), (36, (intA (IntKind.wrap .i64 (z14 - z19)))), (37, (intA t2)), (38, (boolA (decide ((IntKind.wrap .i64 (z14 - z19)) > t2)))), (39, (boolA (decide ((IntKind.wrap .i64 (z14 - z19)) > t2)))), (40, (intA (IntKind.wrap .i64 (t15 + (1)))))], m, 100027⟩))) else (
retL R m [some (boolA true)])
theorem B5_0_eq (t2 : Int) (t6 : Bool) (t13 : AV) (t14 : Int) (t15 : Int) (m : Mem) (R : AV → Mem → Prop) (N0 : St → Prop) : W pg KK 41 0 c5_0 (h5_0 t2 t6 t13 t14 t15 m) (qq5_0 R N0) = B5_0 t2 t6 t13 t14 t15 m R N0 := by kernel_rfl
theorem L5_0 (R : AV → Mem → Prop) {σ : Type} (I : σ → Prop) (t2 : σ → Int) (t6 : σ → Bool) (t13 : σ → AV) (t14 : σ → Int) (t15 : σ → Int) (m : σ → Mem) (μ : σ → Nat) (step : ∀ x, I x → B5_0 (t2 x) (t6 x) (t13 x) (t14 x) (t15 x) (m x) R (fun s' => ∃ y, I y ∧ μ y < μ x ∧ Weak KK 41 0 s' (h5_0 (t2 y) (t6 y) (t13 y) (t14 y) (t15 y) (m y)))) (x : σ) (hx : I x) {s : St} (hw : Weak KK 41 0 s (h5_0 (t2 x) (t6 x) (t13 x) (t14 x) (t15 x) (m x))) : Tri pg KK 41 0 (.loop c5_0) s (q5_0 R) :=
  Tri.weak hw (Tri.loops fol I (fun x => h5_0 (t2 x) (t6 x) (t13 x) (t14 x) (t15 x) (m x)) μ (fun x hx => (B5_0_eq (t2 x) (t6 x) (t13 x) (t14 x) (t15 x) (m x) R _).mpr (step x hx)) x hx)
noncomputable def F5 (a0 : AV) (a1 : Int) (a2 : Int) (R : AV → Mem → Prop) : Prop :=
opP (lenS a0) fun v0 =>
ex_i64 v0 fun z1 =>
bif (decide (z1 > a1)) then (
retL R [] [some (boolA false)]) else (
opP (lenS a0) fun v2 =>
ex_i64 v2 fun z3 =>
Tri pg KK 41 0 (.loop c5_0) ⟨[(0, a0), (1, (intA a1)), (2, (intA a2)), (6, (boolA false)), (9, a0), (10, (intA z1)), (11, (intA a1)), (12, (boolA (decide (z1 > a1)))), (13, a0), (14, (intA z3)), (15, (intA (0)))], [], 8⟩ (q5_0 R))
theorem F5_own (a0 : AV) (a1 : Int) (a2 : Int) (R : AV → Mem → Prop) (h : F5 a0 a1 a2 R) : Own pg KK.gl 5 [a0, (intA a1), (intA a2)] R := own_of_F fol Tryd.func5 (code := c5) (by kernel_rfl) (by kernel_rfl) (by kernel_rfl) (X := F5 a0 a1 a2 R) (by kernel_rfl) h
end Go.Proofs.YtbbfpbngnkjkdaaDoor
