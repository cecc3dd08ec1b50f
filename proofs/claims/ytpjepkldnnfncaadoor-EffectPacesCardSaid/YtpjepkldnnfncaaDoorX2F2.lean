/- Functions of the program as conditions on their answers; printed by wip/Gen.lean.txt. -/
import Derived.Test.YtpjepkldnnfncaaDoorX2T
set_option linter.unusedVariables false
set_option maxRecDepth 100000
set_option maxHeartbeats 4000000
namespace Go.Proofs.YtpjepkldnnfncaaDoor
/- skyway/effect.Of -/
noncomputable def c11 : Code := ((Tryd.f11).body).getD .skip
noncomputable def q11 (R : AV → Mem → Prop) : AExit → St → Prop := retQ Tryd.prog Tryd.f11 R
noncomputable def c11_0 : Code := loopB c11 0
noncomputable def q11_0 (R : AV → Mem → Prop) : AExit → St → Prop := contW Tryd.prog KK 108 0 c11 0 (q11 R)
noncomputable def qq11_0 (R : AV → Mem → Prop) (N0 : St → Prop) : AExit → St → Prop := thenQ N0 (q11_0 R)
def h11_0 (t2 : Int) (t10 : AV) (t11 : Int) (t27 : AV) (t28 : Int) (t29 : Int) (m : Mem) : St := ⟨[(2, (intA t2)), (5, (AV.ptr 0 0)), (6, (AV.ptr 1 0)), (8, (AV.ptr 2 0)), (9, (AV.ptr 3 0)), (10, t10), (11, (intA t11)), (27, t27), (28, (intA t28)), (29, (intA t29))], m, 100000⟩
noncomputable def c11_1 : Code := loopB c11 1
noncomputable def q11_1 (R : AV → Mem → Prop) : AExit → St → Prop := contW Tryd.prog KK 108 0 c11 1 (q11 R)
noncomputable def qq11_1 (R : AV → Mem → Prop) (N0 : St → Prop) : AExit → St → Prop := thenQ N0 (q11_1 R)
def h11_1 (t2 : Int) (t10 : AV) (t11 : Int) (t16 : Int) (t54 : AV) (t55 : Int) (t56 : Int) (m : Mem) : St := ⟨[(2, (intA t2)), (5, (AV.ptr 0 0)), (10, t10), (11, (intA t11)), (15, (AV.ptr 100070 0)), (16, (intA t16)), (17, (AV.ptr 100081 0)), (54, t54), (55, (intA t55)), (56, (intA t56))], m, 200000⟩
noncomputable def B11_0 (t2 : Int) (t10 : AV) (t11 : Int) (t27 : AV) (t28 : Int) (t29 : Int) (m : Mem) (R : AV → Mem → Prop) (N0 : St → Prop) : Prop :=
bif (decide (t29 < t28)) then (
opP (idxS 1 t27 (intA t29)) fun v3 =>
opP (ldS (mget m) v3) fun v4 =>
fnArgs (some v4) (some []) fun f5 a5 => bif KK.pm f5 then callQ Tryd.prog KK.gl m f5 a5 (fun v5 =>
ex_i64 v5 fun z6 =>
bif (z6 != (0)) then (
retL R m [some AV.nils, some (intA z6)]) else (
N0 ⟨[(2, (intA t2)), (5, (AV.ptr 0 0)), (6, (AV.ptr 1 0)), (8, (AV.ptr 2 0)), (9, (AV.ptr 3 0)), (10, t10), (11, (intA t11)), (27, t27), (28, (intA t28)), (29, (intA (IntKind.wrap .i64 (t29 + (1))))), (30, (boolA (decide (t29 < t28)))), (31, v3), (32, v4), (13, v4), (33, v4), (34, (intA z6)), (14, (intA z6)), (35, (intA z6)), (36, (boolA (z6 != (0)))), (38, (intA (IntKind.wrap .i64 (t29 + (1)))))], m, 100074⟩)) else callW Tryd.prog KK.gl m 100005 f5 a5 fun v5 m5 =>
ex_i64 v5 fun z6 =>
bif (z6 != (0)) then (
retL R m5 [some AV.nils, some (intA z6)]) else (
N0 ⟨[(2, (intA t2)), (5, (AV.ptr 0 0)), (6, (AV.ptr 1 0)), (8, (AV.ptr 2 0)), (9, (AV.ptr 3 0)), (10, t10), (11, (intA t11)), (27, t27), (28, (intA t28)), (29, (intA (IntKind.wrap .i64 (t29 + (1))))), (30, (boolA (decide (t29 < t28)))), (31, v3), (32, v4), (13, v4), (33, v4), (34, (intA z6)), (14, (intA z6)), (35, (intA z6)), (36, (boolA (z6 != (0)))), (38, (intA (IntKind.wrap .i64 (t29 + (1)))))], m5, 100074⟩)) else (
opP (ldS (mget m) (AV.ptr 0 0)) fun v7 =>
callQ Tryd.prog KK.gl m 13 [v7, (intA t2)] fun v8 =>
exT2 v8 fun c9 c10 =>
exA6 c9 fun c11 c12 c13 c14 c15 c16 =>
ex_i64 c11 fun z17 =>
ex_i64 c12 fun z18 =>
ex_i64 c13 fun z19 =>
ex_i64 c14 fun z20 =>
ex_i64 c15 fun z21 =>
ex_i64 c16 fun z22 =>
ex_i64 c10 fun z23 =>
bif (z23 != (0)) then (
retL R ((100070, some ⟨[(intA z17), (intA z18), (intA z19), (intA z20), (intA z21), (intA z22)], 40⟩) :: (100070, some ⟨[(intA (0)), (intA (0)), (intA (0)), (intA (0)), (intA (0)), (intA (0))], 40⟩) :: m) [some AV.nils, some (intA z23)]) else (
opP (ldA (mget ((100070, some ⟨[(intA z17), (intA z18), (intA z19), (intA z20), (intA z21), (intA z22)], 40⟩) :: (100070, some ⟨[(intA (0)), (intA (0)), (intA (0)), (intA (0)), (intA (0)), (intA (0))], 40⟩) :: m)) 4 (AV.ptr 1 0)) fun v24 =>
exA4 v24 fun c25 c26 c27 c28 =>
exStr c25 fun s29 =>
ex_i64 c26 fun z30 =>
ex_i64 c27 fun z31 =>
exStr c28 fun s32 =>
opP (ldA (mget ((100070, some ⟨[(intA z17), (intA z18), (intA z19), (intA z20), (intA z21), (intA z22)], 40⟩) :: (100070, some ⟨[(intA (0)), (intA (0)), (intA (0)), (intA (0)), (intA (0)), (intA (0))], 40⟩) :: m)) 7 (AV.ptr 2 0)) fun v33 =>
exA7 v33 fun c34 c35 c36 c37 c38 c39 c40 =>
exStr c34 fun s41 =>
ex_i64 c35 fun z42 =>
ex_i64 c36 fun z43 =>
ex_i64 c37 fun z44 =>
ex_i64 c38 fun z45 =>
ex_i64 c39 fun z46 =>
ex_i64 c40 fun z47 =>
opP (ldA (mget ((100070, some ⟨[(intA z17), (intA z18), (intA z19), (intA z20), (intA z21), (intA z22)], 40⟩) :: (100070, some ⟨[(intA (0)), (intA (0)), (intA (0)), (intA (0)), (intA (0)), (intA (0))], 40⟩) :: m)) 2 (AV.ptr 3 0)) fun v48 =>
exA2 v48 fun c49 c50 =>
ex_i64 c49 fun z51 =>
ex_i64 c50 fun z52 =>
opP (ldS (mget ((100070, some ⟨[(intA z17), (intA z18), (intA z19), (intA z20), (intA z21), (intA z22)], 40⟩) :: (100070, some ⟨[(intA (0)), (intA (0)), (intA (0)), (intA (0)), (intA (0)), (intA (0))], 40⟩) :: m)) (AV.ptr 0 0)) fun v53 =>
opP (bld [(AV.sc (.string ⟨#[]⟩)), (intA (0)), (intA (0)), (AV.sc (.string ⟨#[]⟩)), AV.nils, AV.nils, (intA (0)), (intA (0)), (intA (0)), (intA (0)), (intA (0)), (intA (0)), (AV.sc (.string ⟨#[]⟩)), (intA (0)), (intA (0)), (intA (0)), (intA (0)), (intA (0)), (intA (0)), (intA (0)), (intA (0)), AV.nils] [(0, 4), (4, 1), (5, 1), (6, 6), (12, 7), (19, 2), (21, 1)] [(0, (AV.agg [(AV.sc (.string s29)), (intA z30), (intA z31), (AV.sc (.string s32))])), (3, (AV.agg [(intA z17), (intA z18), (intA z19), (intA z20), (intA z21), (intA z22)])), (4, (AV.agg [(AV.sc (.string s41)), (intA z42), (intA z43), (intA z44), (intA z45), (intA z46), (intA z47)])), (5, (AV.agg [(intA z51), (intA z52)])), (6, v53)]) fun v54 =>
storeW Tryd.prog (mget ((100081, some ⟨[(AV.sc (.string ⟨#[]⟩)), (intA (0)), (intA (0)), (AV.sc (.string ⟨#[]⟩)), AV.nils, AV.nils, (intA (0)), (intA (0)), (intA (0)), (intA (0)), (intA (0)), (intA (0)), (AV.sc (.string ⟨#[]⟩)), (intA (0)), (intA (0)), (intA (0)), (intA (0)), (intA (0)), (intA (0)), (intA (0)), (intA (0)), AV.nils], 65⟩) :: (100070, some ⟨[(intA z17), (intA z18), (intA z19), (intA z20), (intA z21), (intA z22)], 40⟩) :: (100070, some ⟨[(intA (0)), (intA (0)), (intA (0)), (intA (0)), (intA (0)), (intA (0))], 40⟩) :: m)) 65 (AV.ptr 100081 0) v54 fun v55 d55 =>
opP (ldS (mget (mpushs ((100081, some ⟨[(AV.sc (.string ⟨#[]⟩)), (intA (0)), (intA (0)), (AV.sc (.string ⟨#[]⟩)), AV.nils, AV.nils, (intA (0)), (intA (0)), (intA (0)), (intA (0)), (intA (0)), (intA (0)), (AV.sc (.string ⟨#[]⟩)), (intA (0)), (intA (0)), (intA (0)), (intA (0)), (intA (0)), (intA (0)), (intA (0)), (intA (0)), AV.nils], 65⟩) :: (100070, some ⟨[(intA z17), (intA z18), (intA z19), (intA z20), (intA z21), (intA z22)], 40⟩) :: (100070, some ⟨[(intA (0)), (intA (0)), (intA (0)), (intA (0)), (intA (0)), (intA (0))], 40⟩) :: m) d55)) (AV.ptr 0 0)) fun v56 =>
opP (lenS v56) fun v57 =>
ex_i64 v57 fun z58 =>
Tri Tryd.prog KK 108 0 (.loop c11_1) ⟨[(2, (intA t2)), (5, (AV.ptr 0 0)), (6, (AV.ptr 1 0)), (8, (AV.ptr 2 0)), (9, (AV.ptr 3 0)), (10, t10), (11, (intA t11)), (27, t27), (28, (intA t28)), (29, (intA t29)), (30, (boolA (decide (t29 < t28)))), (40, v7), (41, (intA t2)), (42, (AV.tup [(AV.agg [(intA z17), (intA z18), (intA z19), (intA z20), (intA z21), (intA z22)]), (intA z23)])), (39, (AV.tup [(AV.agg [(intA z17), (intA z18), (intA z19), (intA z20), (intA z21), (intA z22)]), (intA z23)])), (43, (AV.agg [(intA z17), (intA z18), (intA z19), (intA z20), (intA z21), (intA z22)])), (44, (intA z23)), (15, (AV.ptr 100070 0)), (16, (intA z23)), (45, (intA z23)), (46, (boolA (z23 != (0)))), (48, (AV.agg [(AV.sc (.string s29)), (intA z30), (intA z31), (AV.sc (.string s32))])), (49, (AV.agg [(intA z17), (intA z18), (intA z19), (intA z20), (intA z21), (intA z22)])), (50, (AV.agg [(AV.sc (.string s41)), (intA z42), (intA z43), (intA z44), (intA z45), (intA z46), (intA z47)])), (51, (AV.agg [(intA z51), (intA z52)])), (52, v53), (53, v54), (17, (AV.ptr 100081 0)), (54, v56), (55, (intA z58)), (56, (intA (0)))], (mpushs ((100081, some ⟨[(AV.sc (.string ⟨#[]⟩)), (intA (0)), (intA (0)), (AV.sc (.string ⟨#[]⟩)), AV.nils, AV.nils, (intA (0)), (intA (0)), (intA (0)), (intA (0)), (intA (0)), (intA (0)), (AV.sc (.string ⟨#[]⟩)), (intA (0)), (intA (0)), (intA (0)), (intA (0)), (intA (0)), (intA (0)), (intA (0)), (intA (0)), AV.nils], 65⟩) :: (100070, some ⟨[(intA z17), (intA z18), (intA z19), (intA z20), (intA z21), (intA z22)], 40⟩) :: (100070, some ⟨[(intA (0)), (intA (0)), (intA (0)), (intA (0)), (intA (0)), (intA (0))], 40⟩) :: m) d55), 100086⟩ (q11_1 R)))
theorem B11_0_eq (t2 : Int) (t10 : AV) (t11 : Int) (t27 : AV) (t28 : Int) (t29 : Int) (m : Mem) (R : AV → Mem → Prop) (N0 : St → Prop) : W Tryd.prog KK 108 0 c11_0 (h11_0 t2 t10 t11 t27 t28 t29 m) (qq11_0 R N0) = B11_0 t2 t10 t11 t27 t28 t29 m R N0 := by kernel_rfl
theorem L11_0 (R : AV → Mem → Prop) {σ : Type} (I : σ → Prop) (t2 : σ → Int) (t10 : σ → AV) (t11 : σ → Int) (t27 : σ → AV) (t28 : σ → Int) (t29 : σ → Int) (m : σ → Mem) (μ : σ → Nat) (step : ∀ x, I x → B11_0 (t2 x) (t10 x) (t11 x) (t27 x) (t28 x) (t29 x) (m x) R (fun s' => ∃ y, I y ∧ μ y < μ x ∧ Weak KK 108 0 s' (h11_0 (t2 y) (t10 y) (t11 y) (t27 y) (t28 y) (t29 y) (m y)))) (x : σ) (hx : I x) {s : St} (hw : Weak KK 108 0 s (h11_0 (t2 x) (t10 x) (t11 x) (t27 x) (t28 x) (t29 x) (m x))) : Tri Tryd.prog KK 108 0 (.loop c11_0) s (q11_0 R) :=
  Tri.weak hw (Tri.loops fol I (fun x => h11_0 (t2 x) (t10 x) (t11 x) (t27 x) (t28 x) (t29 x) (m x)) μ (fun x hx => (B11_0_eq (t2 x) (t10 x) (t11 x) (t27 x) (t28 x) (t29 x) (m x) R _).mpr (step x hx)) x hx)
noncomputable def B11_1 (t2 : Int) (t10 : AV) (t11 : Int) (t16 : Int) (t54 : AV) (t55 : Int) (t56 : Int) (m : Mem) (R : AV → Mem → Prop) (N0 : St → Prop) : Prop :=
bif (decide (t56 < t55)) then (
opP (idxS 6 t54 (intA t56)) fun v59 =>
opP (ldA (mget m) 6 v59) fun v60 =>
exA6 v60 fun c61 c62 c63 c64 c65 c66 =>
ex_i64 c61 fun z67 =>
ex_i64 c62 fun z68 =>
ex_i64 c63 fun z69 =>
ex_i64 c64 fun z70 =>
ex_i64 c65 fun z71 =>
ex_i64 c66 fun z72 =>
bif (decide (z67 < t2)) then (
opP (ldS (mget ((200003, some ⟨[(intA z67), (intA z68), (intA z69), (intA z70), (intA z71), (intA z72)], 40⟩) :: (200003, some ⟨[(intA (0)), (intA (0)), (intA (0)), (intA (0)), (intA (0)), (intA (0))], 40⟩) :: m)) (AV.ptr 100081 4)) fun v73 =>
opN (bsl 200013 40 6 1 [(intA (0)), (intA (0)), (intA (0)), (intA (0)), (intA (0)), (intA (0))] [(0, (AV.agg [(intA z67), (intA z68), (intA z69), (intA z70), (intA z71), (intA z72)]))]) ((200003, some ⟨[(intA z67), (intA z68), (intA z69), (intA z70), (intA z71), (intA z72)], 40⟩) :: (200003, some ⟨[(intA (0)), (intA (0)), (intA (0)), (intA (0)), (intA (0)), (intA (0))], 40⟩) :: m) fun v74 m74 =>
opN (app (mget m74) 40 6 48 [(intA (0)), (intA (0)), (intA (0)), (intA (0)), (intA (0)), (intA (0))] 200014 v73 v74) m74 fun v75 m75 =>
storeW Tryd.prog (mget m75) 23 (AV.ptr 100081 4) v75 fun v76 d76 =>
opP (ldS (mget (mpushs m75 d76)) (AV.ptr 200003 0)) fun v77 =>
ex_i64 v77 fun z78 =>
bif (decide (z78 > t2)) then (
opP (ldS (mget (mpushs m75 d76)) (AV.ptr 100081 5)) fun v79 =>
opP (ldA (mget (mpushs m75 d76)) 6 (AV.ptr 200003 0)) fun v80 =>
exA6 v80 fun c81 c82 c83 c84 c85 c86 =>
ex_i64 c81 fun z87 =>
ex_i64 c82 fun z88 =>
ex_i64 c83 fun z89 =>
ex_i64 c84 fun z90 =>
ex_i64 c85 fun z91 =>
ex_i64 c86 fun z92 =>
opN (bsl 200025 40 6 1 [(intA (0)), (intA (0)), (intA (0)), (intA (0)), (intA (0)), (intA (0))] [(0, (AV.agg [(intA z87), (intA z88), (intA z89), (intA z90), (intA z91), (intA z92)]))]) (mpushs m75 d76) fun v93 m93 =>
opN (app (mget m93) 40 6 48 [(intA (0)), (intA (0)), (intA (0)), (intA (0)), (intA (0)), (intA (0))] 200026 v79 v93) m93 fun v94 m94 =>
storeW Tryd.prog (mget m94) 23 (AV.ptr 100081 5) v94 fun v95 d95 =>
N0 ⟨[(2, (intA t2)), (5, (AV.ptr 0 0)), (10, t10), (11, (intA t11)), (15, (AV.ptr 100070 0)), (16, (intA t16)), (17, (AV.ptr 100081 0)), (54, t54), (55, (intA t55)), (56, (intA (IntKind.wrap .i64 (t56 + (1))))), (57, (boolA (decide (t56 < t55)))), (58, v59), (59, (AV.agg [(intA z67), (intA z68), (intA z69), (intA z70), (intA z71), (intA z72)])), (19, (AV.ptr 200003 0)), (60, (AV.ptr 200003 0)), (61, (AV.ptr 200003 0)), (62, (intA z67)), (63, (intA t2)), (64, (boolA (decide (z67 < t2)))), (65, (AV.ptr 100081 4)), (66, v73), (67, (AV.agg [(intA z67), (intA z68), (intA z69), (intA z70), (intA z71), (intA z72)])), (68, v74), (69, v75), (70, (AV.ptr 100081 4)), (71, (AV.ptr 200003 0)), (72, (AV.ptr 200003 0)), (73, (intA z78)), (74, (intA t2)), (75, (boolA (decide (z78 > t2)))), (76, (AV.ptr 100081 5)), (77, v79), (78, (AV.agg [(intA z87), (intA z88), (intA z89), (intA z90), (intA z91), (intA z92)])), (79, v93), (80, v94), (81, (AV.ptr 100081 5)), (82, (intA (IntKind.wrap .i64 (t56 + (1)))))], (mpushs m94 d95), 200031⟩) else (
N0 ⟨[(2, (intA t2)), (5, (AV.ptr 0 0)), (10, t10), (11, (intA t11)), (15, (AV.ptr 100070 0)), (16, (intA t16)), (17, (AV.ptr 100081 0)), (54, t54), (55, (intA t55)), (56, (intA (IntKind.wrap .i64 (t56 + (1))))), (57, (boolA (decide (t56 < t55)))), (58, v59), (59, (AV.agg [(intA z67), (intA z68), (intA z69), (intA z70), (intA z71), (intA z72)])), (19, (AV.ptr 200003 0)), (60, (AV.ptr 200003 0)), (61, (AV.ptr 200003 0)), (62, (intA z67)), (63, (intA t2)), (64, (boolA (decide (z67 < t2)))), (65, (AV.ptr 100081 4)), (66, v73), (67, (AV.agg [(intA z67), (intA z68), (intA z69), (intA z70), (intA z71), (intA z72)])), (68, v74), (69, v75), (70, (AV.ptr 100081 4)), (71, (AV.ptr 200003 0)), (72, (AV.ptr 200003 0)), (73, (intA z78)), (74, (intA t2)), (75, (boolA (decide (z78 > t2)))), (82, (intA (IntKind.wrap .i64 (t56 + (1)))))], (mpushs m75 d76), 200024⟩)) else (
bif (decide (z67 > t2)) then (
opP (ldS (mget ((200003, some ⟨[(intA z67), (intA z68), (intA z69), (intA z70), (intA z71), (intA z72)], 40⟩) :: (200003, some ⟨[(intA (0)), (intA (0)), (intA (0)), (intA (0)), (intA (0)), (intA (0))], 40⟩) :: m)) (AV.ptr 100081 5)) fun v96 =>
opN (bsl 200018 40 6 1 [(intA (0)), (intA (0)), (intA (0)), (intA (0)), (intA (0)), (intA (0))] [(0, (AV.agg [(intA z67), (intA z68), (intA z69), (intA z70), (intA z71), (intA z72)]))]) ((200003, some ⟨[(intA z67), (intA z68), (intA z69), (intA z70), (intA z71), (intA z72)], 40⟩) :: (200003, some ⟨[(intA (0)), (intA (0)), (intA (0)), (intA (0)), (intA (0)), (intA (0))], 40⟩) :: m) fun v97 m97 =>
opN (app (mget m97) 40 6 48 [(intA (0)), (intA (0)), (intA (0)), (intA (0)), (intA (0)), (intA (0))] 200019 v96 v97) m97 fun v98 m98 =>
storeW Tryd.prog (mget m98) 23 (AV.ptr 100081 5) v98 fun v99 d99 =>
N0 ⟨[(2, (intA t2)), (5, (AV.ptr 0 0)), (10, t10), (11, (intA t11)), (15, (AV.ptr 100070 0)), (16, (intA t16)), (17, (AV.ptr 100081 0)), (54, t54), (55, (intA t55)), (56, (intA (IntKind.wrap .i64 (t56 + (1))))), (57, (boolA (decide (t56 < t55)))), (58, v59), (59, (AV.agg [(intA z67), (intA z68), (intA z69), (intA z70), (intA z71), (intA z72)])), (19, (AV.ptr 200003 0)), (60, (AV.ptr 200003 0)), (61, (AV.ptr 200003 0)), (62, (intA z67)), (63, (intA t2)), (64, (boolA (decide (z67 < t2)))), (71, (AV.ptr 200003 0)), (72, (AV.ptr 200003 0)), (73, (intA z67)), (74, (intA t2)), (75, (boolA (decide (z67 > t2)))), (76, (AV.ptr 100081 5)), (77, v96), (78, (AV.agg [(intA z67), (intA z68), (intA z69), (intA z70), (intA z71), (intA z72)])), (79, v97), (80, v98), (81, (AV.ptr 100081 5)), (82, (intA (IntKind.wrap .i64 (t56 + (1)))))], (mpushs m98 d99), 200024⟩) else (
N0 ⟨[(2, (intA t2)), (5, (AV.ptr 0 0)), (10, t10), (11, (intA t11)), (15, (AV.ptr 100070 0)), (16, (intA t16)), (17, (AV.ptr 100081 0)), (54, t54), (55, (intA t55)), (56, (intA (IntKind.wrap .i64 (t56 + (1))))), (57, (boolA (decide (t56 < t55)))), (58, v59), (59, (AV.agg [(intA z67), (intA z68), (intA z69), (intA z70), (intA z71), (intA z72)])), (19, (AV.ptr 200003 0)), (60, (AV.ptr 200003 0)), (61, (AV.ptr 200003 0)), (62, (intA z67)), (63, (intA t2)), (64, (boolA (decide (z67 < t2)))), (71, (AV.ptr 200003 0)), (72, (AV.ptr 200003 0)), (73, (intA z67)), (74, (intA t2)), (75, (boolA (decide (z67 > t2)))), (82, (intA (IntKind.wrap .i64 (t56 + (1)))))], ((200003, some ⟨[(intA z67), (intA z68), (intA z69), (intA z70), (intA z71), (intA z72)], 40⟩) :: (200003, some ⟨[(intA (0)), (intA (0)), (intA (0)), (intA (0)), (intA (0)), (intA (0))], 40⟩) :: m), 200017⟩))) else (
opP (ldA (mget m) 22 (AV.ptr 100081 0)) fun v100 =>
exA22 v100 fun c101 c102 c103 c104 c105 c106 c107 c108 c109 c110 c111 c112 c113 c114 c115 c116 c117 c118 c119 c120 c121 c122 =>
exStr c101 fun s123 =>
ex_i64 c102 fun z124 =>
ex_i64 c103 fun z125 =>
exStr c104 fun s126 =>
ex_i64 c107 fun z127 =>
ex_i64 c108 fun z128 =>
ex_i64 c109 fun z129 =>
ex_i64 c110 fun z130 =>
ex_i64 c111 fun z131 =>
ex_i64 c112 fun z132 =>
exStr c113 fun s133 =>
ex_i64 c114 fun z134 =>
ex_i64 c115 fun z135 =>
ex_i64 c116 fun z136 =>
ex_i64 c117 fun z137 =>
ex_i64 c118 fun z138 =>
ex_i64 c119 fun z139 =>
ex_i64 c120 fun z140 =>
ex_i64 c121 fun z141 =>
callW Tryd.prog KK.gl m 200002 31 [(AV.agg [(AV.sc (.string s123)), (intA z124), (intA z125), (AV.sc (.string s126)), c105, c106, (intA z127), (intA z128), (intA z129), (intA z130), (intA z131), (intA z132), (AV.sc (.string s133)), (intA z134), (intA z135), (intA z136), (intA z137), (intA z138), (intA z139), (intA z140), (intA z141), c122])] fun v142 m142 =>
exT3 v142 fun c143 c144 c145 =>
exB c144 fun b146 =>
ex_i64 c145 fun z147 =>
bif (z147 != (0)) then (
retL R m142 [some AV.nils, some (intA z147)]) else (
bif b146 then (
opP (ldS (mget m142) (AV.ptr 0 0)) fun v148 =>
callW Tryd.prog KK.gl m142 200079 32 [v148] fun v149 m149 =>
retL R m149 [some v149, some (intA (0))]) else (
opP (ldS (mget m142) (AV.ptr 100081 4)) fun v150 =>
opP (ldA (mget m142) 6 (AV.ptr 100070 0)) fun v151 =>
exA6 v151 fun c152 c153 c154 c155 c156 c157 =>
ex_i64 c152 fun z158 =>
ex_i64 c153 fun z159 =>
ex_i64 c154 fun z160 =>
ex_i64 c155 fun z161 =>
ex_i64 c156 fun z162 =>
ex_i64 c157 fun z163 =>
opN (bsl 200081 40 6 1 [(intA (0)), (intA (0)), (intA (0)), (intA (0)), (intA (0)), (intA (0))] [(0, (AV.agg [(intA z158), (intA z159), (intA z160), (intA z161), (intA z162), (intA z163)]))]) m142 fun v164 m164 =>
opN (bsl 200083 23 1 3 [AV.nils] [(0, v150), (1, v164), (2, c143)]) m164 fun v165 m165 =>
callW Tryd.prog KK.gl m165 200084 33 [v165] fun v166 m166 =>
opP (lenS v166) fun v167 =>
ex_i64 v167 fun z168 =>
bif (decide (z168 > (64))) then (
retL R m166 [some AV.nils, some (intA (2))]) else (
retL R m166 [some v166, some (intA (0))]))))
theorem B11_1_eq (t2 : Int) (t10 : AV) (t11 : Int) (t16 : Int) (t54 : AV) (t55 : Int) (t56 : Int) (m : Mem) (R : AV → Mem → Prop) (N0 : St → Prop) : W Tryd.prog KK 108 0 c11_1 (h11_1 t2 t10 t11 t16 t54 t55 t56 m) (qq11_1 R N0) = B11_1 t2 t10 t11 t16 t54 t55 t56 m R N0 := by kernel_rfl
theorem L11_1 (R : AV → Mem → Prop) {σ : Type} (I : σ → Prop) (t2 : σ → Int) (t10 : σ → AV) (t11 : σ → Int) (t16 : σ → Int) (t54 : σ → AV) (t55 : σ → Int) (t56 : σ → Int) (m : σ → Mem) (μ : σ → Nat) (step : ∀ x, I x → B11_1 (t2 x) (t10 x) (t11 x) (t16 x) (t54 x) (t55 x) (t56 x) (m x) R (fun s' => ∃ y, I y ∧ μ y < μ x ∧ Weak KK 108 0 s' (h11_1 (t2 y) (t10 y) (t11 y) (t16 y) (t54 y) (t55 y) (t56 y) (m y)))) (x : σ) (hx : I x) {s : St} (hw : Weak KK 108 0 s (h11_1 (t2 x) (t10 x) (t11 x) (t16 x) (t54 x) (t55 x) (t56 x) (m x))) : Tri Tryd.prog KK 108 0 (.loop c11_1) s (q11_1 R) :=
  Tri.weak hw (Tri.loops fol I (fun x => h11_1 (t2 x) (t10 x) (t11 x) (t16 x) (t54 x) (t55 x) (t56 x) (m x)) μ (fun x hx => (B11_1_eq (t2 x) (t10 x) (t11 x) (t16 x) (t54 x) (t55 x) (t56 x) (m x) R _).mpr (step x hx)) x hx)
noncomputable def F11 (a0 : AV) (a1_0 : ByteArray) (a1_1 : Int) (a1_2 : Int) (a1_3 : ByteArray) (a2 : Int) (a3_0 : ByteArray) (a3_1 : Int) (a3_2 : Int) (a3_3 : Int) (a3_4 : Int) (a3_5 : Int) (a3_6 : Int) (a4_0 : Int) (a4_1 : Int) (R : AV → Mem → Prop) : Prop :=
chk (isCell a0) <| opN (opA Tryd.prog (.buildSlice 63 4 #[(0, .tmp 0), (1, .tmp 1), (2, .tmp 2), (3, .tmp 3)]) 63 [(AV.fn 24 [(AV.ptr 0 0)]), (AV.fn 25 [(AV.ptr 1 0)]), (AV.fn 27 [(AV.ptr 2 0)]), (AV.fn 29 [(AV.ptr 3 0)])] (mget ((3, some ⟨[(intA a4_0), (intA a4_1)], 29⟩) :: (2, some ⟨[(AV.sc (.string a3_0)), (intA a3_1), (intA a3_2), (intA a3_3), (intA a3_4), (intA a3_5), (intA a3_6)], 27⟩) :: (1, some ⟨[(AV.sc (.string a1_0)), (intA a1_1), (intA a1_2), (AV.sc (.string a1_3))], 25⟩) :: (0, some ⟨[a0], 23⟩) :: [])) 10) ((3, some ⟨[(intA a4_0), (intA a4_1)], 29⟩) :: (2, some ⟨[(AV.sc (.string a3_0)), (intA a3_1), (intA a3_2), (intA a3_3), (intA a3_4), (intA a3_5), (intA a3_6)], 27⟩) :: (1, some ⟨[(AV.sc (.string a1_0)), (intA a1_1), (intA a1_2), (AV.sc (.string a1_3))], 25⟩) :: (0, some ⟨[a0], 23⟩) :: []) fun v0 m0 =>
opP (lenS v0) fun v1 =>
ex_i64 v1 fun z2 =>
Tri Tryd.prog KK 108 0 (.loop c11_0) ⟨[(0, a0), (1, (AV.agg [(AV.sc (.string a1_0)), (intA a1_1), (intA a1_2), (AV.sc (.string a1_3))])), (2, (intA a2)), (3, (AV.agg [(AV.sc (.string a3_0)), (intA a3_1), (intA a3_2), (intA a3_3), (intA a3_4), (intA a3_5), (intA a3_6)])), (4, (AV.agg [(intA a4_0), (intA a4_1)])), (5, (AV.ptr 0 0)), (6, (AV.ptr 1 0)), (8, (AV.ptr 2 0)), (9, (AV.ptr 3 0)), (10, AV.nils), (11, (intA (0))), (23, (AV.fn 24 [(AV.ptr 0 0)])), (24, (AV.fn 25 [(AV.ptr 1 0)])), (25, (AV.fn 27 [(AV.ptr 2 0)])), (26, (AV.fn 29 [(AV.ptr 3 0)])), (27, v0), (28, (intA z2)), (29, (intA (0)))], m0, 13⟩ (q11_0 R)
theorem F11_own (a0 : AV) (a1_0 : ByteArray) (a1_1 : Int) (a1_2 : Int) (a1_3 : ByteArray) (a2 : Int) (a3_0 : ByteArray) (a3_1 : Int) (a3_2 : Int) (a3_3 : Int) (a3_4 : Int) (a3_5 : Int) (a3_6 : Int) (a4_0 : Int) (a4_1 : Int) (R : AV → Mem → Prop) (h : F11 a0 a1_0 a1_1 a1_2 a1_3 a2 a3_0 a3_1 a3_2 a3_3 a3_4 a3_5 a3_6 a4_0 a4_1 R) : Own Tryd.prog KK.gl 11 [a0, (AV.agg [(AV.sc (.string a1_0)), (intA a1_1), (intA a1_2), (AV.sc (.string a1_3))]), (intA a2), (AV.agg [(AV.sc (.string a3_0)), (intA a3_1), (intA a3_2), (intA a3_3), (intA a3_4), (intA a3_5), (intA a3_6)]), (AV.agg [(intA a4_0), (intA a4_1)])] R := own_of_F fol Tryd.func11 (code := c11) (by kernel_rfl) (by kernel_rfl) (by kernel_rfl) (X := F11 a0 a1_0 a1_1 a1_2 a1_3 a2 a3_0 a3_1 a3_2 a3_3 a3_4 a3_5 a3_6 a4_0 a4_1 R) (by kernel_rfl) h
/- skyway/effect.Differs -/
noncomputable def c16 : Code := ((Tryd.f16).body).getD .skip
noncomputable def q16 (R : AV → Mem → Prop) : AExit → St → Prop := retQ Tryd.prog Tryd.f16 R
noncomputable def c16_0 : Code := loopB c16 0
noncomputable def q16_0 (R : AV → Mem → Prop) : AExit → St → Prop := contW Tryd.prog KK 102 0 c16 0 (q16 R)
noncomputable def qq16_0 (R : AV → Mem → Prop) (N0 : St → Prop) : AExit → St → Prop := thenQ N0 (q16_0 R)
def h16_0 (t0 : AV) (t1 : AV) (t4 : Int) (t5 : Int) (t18 : AV) (t19 : Int) (t20 : Int) (m : Mem) : St := ⟨[(0, t0), (1, t1), (4, (intA t4)), (5, (intA t5)), (18, t18), (19, (intA t19)), (20, (intA t20))], m, 100000⟩
noncomputable def c16_1 : Code := loopB c16 1
noncomputable def q16_1 (R : AV → Mem → Prop) : AExit → St → Prop := contW Tryd.prog KK 102 0 c16 1 (q16 R)
noncomputable def qq16_1 (R : AV → Mem → Prop) (N0 : St → Prop) : AExit → St → Prop := thenQ N0 (q16_1 R)
def h16_1 (t0 : AV) (t1 : AV) (t4 : Int) (t5 : Int) (t10 : Int) (t11 : Int) (m : Mem) : St := ⟨[(0, t0), (1, t1), (4, (intA t4)), (5, (intA t5)), (10, (intA t10)), (11, (intA t11))], m, 200000⟩
noncomputable def B16_0 (t0 : AV) (t1 : AV) (t4 : Int) (t5 : Int) (t18 : AV) (t19 : Int) (t20 : Int) (m : Mem) (R : AV → Mem → Prop) (N0 : St → Prop) : Prop :=
bif (decide (t20 < t19)) then (
opP (idxS 1 t18 (intA t20)) fun v3 =>
opP (ldS (mget m) v3) fun v4 =>
callQ Tryd.prog KK.gl m 12 [v4] fun v5 =>
ex_i64 v5 fun z6 =>
bif (z6 != (0)) then (
retL R m [some (intA (0)), some (intA z6)]) else (
N0 ⟨[(0, t0), (1, t1), (4, (intA t4)), (5, (intA t5)), (18, t18), (19, (intA t19)), (20, (intA (IntKind.wrap .i64 (t20 + (1))))), (21, (boolA (decide (t20 < t19)))), (22, v3), (23, v4), (7, v4), (24, v4), (25, (intA z6)), (8, (intA z6)), (26, (intA z6)), (27, (boolA (z6 != (0)))), (29, (intA (IntKind.wrap .i64 (t20 + (1)))))], m, 100074⟩)) else (
opP (idxS 6 t0 (intA (0))) fun v7 =>
opP (fldO 0 v7) fun v8 =>
opP (fldO 0 v8) fun v9 =>
opP (ldS (mget m) v9) fun v10 =>
ex_i64 v10 fun z11 =>
opP (idxS 6 t1 (intA (0))) fun v12 =>
opP (fldO 0 v12) fun v13 =>
opP (fldO 0 v13) fun v14 =>
opP (ldS (mget m) v14) fun v15 =>
ex_i64 v15 fun z16 =>
opP (opA Tryd.prog (.call ⟨.builtin .min, #[.tmp 0, .tmp 1], #[3, 3]⟩) 3 [(intA z11), (intA z16)] (mget m) 100011) fun v17 =>
ex_i64 v17 fun z18 =>
opP (lenS t0) fun v19 =>
ex_i64 v19 fun z20 =>
opP (idxS 6 t0 (intA (IntKind.wrap .i64 (z20 - (1))))) fun v21 =>
opP (fldO 0 v21) fun v22 =>
opP (fldO 0 v22) fun v23 =>
opP (ldS (mget m) v23) fun v24 =>
ex_i64 v24 fun z25 =>
opP (lenS t1) fun v26 =>
ex_i64 v26 fun z27 =>
opP (idxS 6 t1 (intA (IntKind.wrap .i64 (z27 - (1))))) fun v28 =>
opP (fldO 0 v28) fun v29 =>
opP (fldO 0 v29) fun v30 =>
opP (ldS (mget m) v30) fun v31 =>
ex_i64 v31 fun z32 =>
opP (opA Tryd.prog (.call ⟨.builtin .max, #[.tmp 0, .tmp 1], #[3, 3]⟩) 3 [(intA z25), (intA z32)] (mget m) 100028) fun v33 =>
ex_i64 v33 fun z34 =>
bif (decide ((IntKind.wrap .i64 (z34 - z18)) > (20000))) then (
retL R m [some (intA (0)), some (intA (2))]) else (
Tri Tryd.prog KK 102 0 (.loop c16_1) ⟨[(0, t0), (1, t1), (4, (intA t4)), (5, (intA t5)), (18, t18), (19, (intA t19)), (20, (intA t20)), (21, (boolA (decide (t20 < t19)))), (30, t0), (31, v7), (32, v8), (33, v9), (34, (intA z11)), (35, t1), (36, v12), (37, v13), (38, v14), (39, (intA z16)), (40, (intA z18)), (41, t0), (42, t0), (43, (intA z20)), (44, (intA (IntKind.wrap .i64 (z20 - (1))))), (45, v21), (46, v22), (47, v23), (48, (intA z25)), (49, t1), (50, t1), (51, (intA z27)), (52, (intA (IntKind.wrap .i64 (z27 - (1))))), (53, v28), (54, v29), (55, v30), (56, (intA z32)), (57, (intA z34)), (9, (intA z18)), (10, (intA z34)), (58, (intA z34)), (59, (intA z18)), (60, (intA (IntKind.wrap .i64 (z34 - z18)))), (61, (boolA (decide ((IntKind.wrap .i64 (z34 - z18)) > (20000))))), (62, (intA z18)), (11, (intA z18))], m, 100037⟩ (q16_1 R)))
theorem B16_0_eq (t0 : AV) (t1 : AV) (t4 : Int) (t5 : Int) (t18 : AV) (t19 : Int) (t20 : Int) (m : Mem) (R : AV → Mem → Prop) (N0 : St → Prop) : W Tryd.prog KK 102 0 c16_0 (h16_0 t0 t1 t4 t5 t18 t19 t20 m) (qq16_0 R N0) = B16_0 t0 t1 t4 t5 t18 t19 t20 m R N0 := by kernel_rfl
theorem L16_0 (R : AV → Mem → Prop) {σ : Type} (I : σ → Prop) (t0 : σ → AV) (t1 : σ → AV) (t4 : σ → Int) (t5 : σ → Int) (t18 : σ → AV) (t19 : σ → Int) (t20 : σ → Int) (m : σ → Mem) (μ : σ → Nat) (step : ∀ x, I x → B16_0 (t0 x) (t1 x) (t4 x) (t5 x) (t18 x) (t19 x) (t20 x) (m x) R (fun s' => ∃ y, I y ∧ μ y < μ x ∧ Weak KK 102 0 s' (h16_0 (t0 y) (t1 y) (t4 y) (t5 y) (t18 y) (t19 y) (t20 y) (m y)))) (x : σ) (hx : I x) {s : St} (hw : Weak KK 102 0 s (h16_0 (t0 x) (t1 x) (t4 x) (t5 x) (t18 x) (t19 x) (t20 x) (m x))) : Tri Tryd.prog KK 102 0 (.loop c16_0) s (q16_0 R) :=
  Tri.weak hw (Tri.loops fol I (fun x => h16_0 (t0 x) (t1 x) (t4 x) (t5 x) (t18 x) (t19 x) (t20 x) (m x)) μ (fun x hx => (B16_0_eq (t0 x) (t1 x) (t4 x) (t5 x) (t18 x) (t19 x) (t20 x) (m x) R _).mpr (step x hx)) x hx)
noncomputable def B16_1 (t0 : AV) (t1 : AV) (t4 : Int) (t5 : Int) (t10 : Int) (t11 : Int) (m : Mem) (R : AV → Mem → Prop) (N0 : St → Prop) : Prop :=
bif (decide (t11 ≤ t10)) then (
callQ Tryd.prog KK.gl m 13 [t0, (intA t11)] fun v35 =>
exT2 v35 fun c36 c37 =>
exA6 c36 fun c38 c39 c40 c41 c42 c43 =>
ex_i64 c38 fun z44 =>
ex_i64 c39 fun z45 =>
ex_i64 c40 fun z46 =>
ex_i64 c41 fun z47 =>
ex_i64 c42 fun z48 =>
ex_i64 c43 fun z49 =>
ex_i64 c37 fun z50 =>
callQ Tryd.prog KK.gl ((200072, some ⟨[(intA z44), (intA z45), (intA z46), (intA z47), (intA z48), (intA z49)], 40⟩) :: (200072, some ⟨[(intA (0)), (intA (0)), (intA (0)), (intA (0)), (intA (0)), (intA (0))], 40⟩) :: m) 13 [t1, (intA t11)] fun v51 =>
exT2 v51 fun c52 c53 =>
exA6 c52 fun c54 c55 c56 c57 c58 c59 =>
ex_i64 c54 fun z60 =>
ex_i64 c55 fun z61 =>
ex_i64 c56 fun z62 =>
ex_i64 c57 fun z63 =>
ex_i64 c58 fun z64 =>
ex_i64 c59 fun z65 =>
ex_i64 c53 fun z66 =>
bif (z50 != z66) then (
retL R ((200144, some ⟨[(intA z60), (intA z61), (intA z62), (intA z63), (intA z64), (intA z65)], 40⟩) :: (200144, some ⟨[(intA (0)), (intA (0)), (intA (0)), (intA (0)), (intA (0)), (intA (0))], 40⟩) :: (200072, some ⟨[(intA z44), (intA z45), (intA z46), (intA z47), (intA z48), (intA z49)], 40⟩) :: (200072, some ⟨[(intA (0)), (intA (0)), (intA (0)), (intA (0)), (intA (0)), (intA (0))], 40⟩) :: m) [some (intA t11), some (intA (0))]) else (
opP (opA Tryd.prog (.binOp .neq 29 (.tmp 0) (.tmp 1) 29) 4 [(AV.agg [(intA z45), (intA z46)]), (AV.agg [(intA z61), (intA z62)])] (mget ((200144, some ⟨[(intA z60), (intA z61), (intA z62), (intA z63), (intA z64), (intA z65)], 40⟩) :: (200144, some ⟨[(intA (0)), (intA (0)), (intA (0)), (intA (0)), (intA (0)), (intA (0))], 40⟩) :: (200072, some ⟨[(intA z44), (intA z45), (intA z46), (intA z47), (intA z48), (intA z49)], 40⟩) :: (200072, some ⟨[(intA (0)), (intA (0)), (intA (0)), (intA (0)), (intA (0)), (intA (0))], 40⟩) :: m)) 200157) fun v67 =>
exB v67 fun b68 =>
bif b68 then (
retL R ((200144, some ⟨[(intA z60), (intA z61), (intA z62), (intA z63), (intA z64), (intA z65)], 40⟩) :: (200144, some ⟨[(intA (0)), (intA (0)), (intA (0)), (intA (0)), (intA (0)), (intA (0))], 40⟩) :: (200072, some ⟨[(intA z44), (intA z45), (intA z46), (intA z47), (intA z48), (intA z49)], 40⟩) :: (200072, some ⟨[(intA (0)), (intA (0)), (intA (0)), (intA (0)), (intA (0)), (intA (0))], 40⟩) :: m) [some (intA t11), some (intA (0))]) else (
bif (z47 != z63) then (
retL R ((200144, some ⟨[(intA z60), (intA z61), (intA z62), (intA z63), (intA z64), (intA z65)], 40⟩) :: (200144, some ⟨[(intA (0)), (intA (0)), (intA (0)), (intA (0)), (intA (0)), (intA (0))], 40⟩) :: (200072, some ⟨[(intA z44), (intA z45), (intA z46), (intA z47), (intA z48), (intA z49)], 40⟩) :: (200072, some ⟨[(intA (0)), (intA (0)), (intA (0)), (intA (0)), (intA (0)), (intA (0))], 40⟩) :: m) [some (intA t11), some (intA (0))]) else (
N0 ⟨[(0, t0), (1, t1), (4, (intA t4)), (5, (intA t5)), (10, (intA t10)), (11, (intA (IntKind.wrap .i64 (t11 + (1))))), (63, (intA t11)), (64, (intA t10)), (65, (boolA (decide (t11 ≤ t10)))), (69, t0), (70, (intA t11)), (71, (AV.tup [(AV.agg [(intA z44), (intA z45), (intA z46), (intA z47), (intA z48), (intA z49)]), (intA z50)])), (68, (AV.tup [(AV.agg [(intA z44), (intA z45), (intA z46), (intA z47), (intA z48), (intA z49)]), (intA z50)])), (72, (AV.agg [(intA z44), (intA z45), (intA z46), (intA z47), (intA z48), (intA z49)])), (73, (intA z50)), (12, (AV.ptr 200072 0)), (13, (intA z50)), (75, t1), (76, (intA t11)), (77, (AV.tup [(AV.agg [(intA z60), (intA z61), (intA z62), (intA z63), (intA z64), (intA z65)]), (intA z66)])), (74, (AV.tup [(AV.agg [(intA z60), (intA z61), (intA z62), (intA z63), (intA z64), (intA z65)]), (intA z66)])), (78, (AV.agg [(intA z60), (intA z61), (intA z62), (intA z63), (intA z64), (intA z65)])), (79, (intA z66)), (14, (AV.ptr 200144 0)), (15, (intA z66)), (80, (intA z50)), (81, (intA z66)), (82, (boolA (z50 != z66))), (83, (boolA false)), (84, (AV.ptr 200072 0)), (85, (AV.ptr 200072 1)), (86, (AV.agg [(intA z45), (intA z46)])), (87, (AV.ptr 200144 0)), (88, (AV.ptr 200144 1)), (89, (AV.agg [(intA z61), (intA z62)])), (90, (boolA b68)), (91, (boolA b68)), (92, (boolA false)), (93, (AV.ptr 200072 0)), (94, (AV.ptr 200072 3)), (95, (intA z47)), (96, (AV.ptr 200144 0)), (97, (AV.ptr 200144 3)), (98, (intA z63)), (99, (boolA (z47 != z63))), (100, (boolA (z47 != z63))), (66, (intA t11)), (67, (intA (IntKind.wrap .i64 (t11 + (1)))))], ((200144, some ⟨[(intA z60), (intA z61), (intA z62), (intA z63), (intA z64), (intA z65)], 40⟩) :: (200144, some ⟨[(intA (0)), (intA (0)), (intA (0)), (intA (0)), (intA (0)), (intA (0))], 40⟩) :: (200072, some ⟨[(intA z44), (intA z45), (intA z46), (intA z47), (intA z48), (intA z49)], 40⟩) :: (200072, some ⟨[(intA (0)), (intA (0)), (intA (0)), (intA (0)), (intA (0)), (intA (0))], 40⟩) :: m), 200171⟩)))) else (
retL R m [some (intA (0)), some (intA (8))])
theorem B16_1_eq (t0 : AV) (t1 : AV) (t4 : Int) (t5 : Int) (t10 : Int) (t11 : Int) (m : Mem) (R : AV → Mem → Prop) (N0 : St → Prop) : W Tryd.prog KK 102 0 c16_1 (h16_1 t0 t1 t4 t5 t10 t11 m) (qq16_1 R N0) = B16_1 t0 t1 t4 t5 t10 t11 m R N0 := by kernel_rfl
theorem L16_1 (R : AV → Mem → Prop) {σ : Type} (I : σ → Prop) (t0 : σ → AV) (t1 : σ → AV) (t4 : σ → Int) (t5 : σ → Int) (t10 : σ → Int) (t11 : σ → Int) (m : σ → Mem) (μ : σ → Nat) (step : ∀ x, I x → B16_1 (t0 x) (t1 x) (t4 x) (t5 x) (t10 x) (t11 x) (m x) R (fun s' => ∃ y, I y ∧ μ y < μ x ∧ Weak KK 102 0 s' (h16_1 (t0 y) (t1 y) (t4 y) (t5 y) (t10 y) (t11 y) (m y)))) (x : σ) (hx : I x) {s : St} (hw : Weak KK 102 0 s (h16_1 (t0 x) (t1 x) (t4 x) (t5 x) (t10 x) (t11 x) (m x))) : Tri Tryd.prog KK 102 0 (.loop c16_1) s (q16_1 R) :=
  Tri.weak hw (Tri.loops fol I (fun x => h16_1 (t0 x) (t1 x) (t4 x) (t5 x) (t10 x) (t11 x) (m x)) μ (fun x hx => (B16_1_eq (t0 x) (t1 x) (t4 x) (t5 x) (t10 x) (t11 x) (m x) R _).mpr (step x hx)) x hx)
noncomputable def F16 (a0 : AV) (a1 : AV) (R : AV → Mem → Prop) : Prop :=
opN (bsl 4 23 1 2 [AV.nils] [(0, a0), (1, a1)]) [] fun v0 m0 =>
opP (lenS v0) fun v1 =>
ex_i64 v1 fun z2 =>
Tri Tryd.prog KK 102 0 (.loop c16_0) ⟨[(0, a0), (1, a1), (4, (intA (0))), (5, (intA (0))), (16, a0), (17, a1), (18, v0), (19, (intA z2)), (20, (intA (0)))], m0, 7⟩ (q16_0 R)
theorem F16_own (a0 : AV) (a1 : AV) (R : AV → Mem → Prop) (h : F16 a0 a1 R) : Own Tryd.prog KK.gl 16 [a0, a1] R := own_of_F fol Tryd.func16 (code := c16) (by kernel_rfl) (by kernel_rfl) (by kernel_rfl) (X := F16 a0 a1 R) (by kernel_rfl) h
/- skyway/skywaykeep3.effectFact -/
noncomputable def c9 : Code := ((Tryd.f9).body).getD .skip
noncomputable def q9 (R : AV → Mem → Prop) : AExit → St → Prop := retQ Tryd.prog Tryd.f9 R
noncomputable def F9 (R : AV → Mem → Prop) : Prop :=
callQ Tryd.prog KK.gl [] 21 [] fun v0 =>
callQ Tryd.prog KK.gl [] 22 [(intA (9500))] fun v1 =>
exA4 v1 fun c2 c3 c4 c5 =>
exStr c2 fun s6 =>
ex_i64 c3 fun z7 =>
ex_i64 c4 fun z8 =>
exStr c5 fun s9 =>
callQ Tryd.prog KK.gl [] 23 [] fun v10 =>
exA7 v10 fun c11 c12 c13 c14 c15 c16 c17 =>
exStr c11 fun s18 =>
ex_i64 c12 fun z19 =>
ex_i64 c13 fun z20 =>
ex_i64 c14 fun z21 =>
ex_i64 c15 fun z22 =>
ex_i64 c16 fun z23 =>
ex_i64 c17 fun z24 =>
opP (bld [(intA (0)), (intA (0))] [(0, 1), (1, 1)] []) fun v25 =>
callQ Tryd.prog KK.gl [] 11 [v0, (AV.agg [(AV.sc (.string s6)), (intA z7), (intA z8), (AV.sc (.string s9))]), (intA (0)), (AV.agg [(AV.sc (.string s18)), (intA z19), (intA z20), (intA z21), (intA z22), (intA z23), (intA z24)]), v25] fun v26 =>
exT2 v26 fun c27 c28 =>
ex_i64 c28 fun z29 =>
callQ Tryd.prog KK.gl [] 21 [] fun v30 =>
callQ Tryd.prog KK.gl [] 16 [v30, c27] fun v31 =>
exT2 v31 fun c32 c33 =>
ex_i64 c32 fun z34 =>
ex_i64 c33 fun z35 =>
bif (z29 == (0)) then (
bif (z35 == (0)) then (
opP (lenS c27) fun v36 =>
ex_i64 v36 fun z37 =>
bif (z37 == (3)) then (
opP (idxS 6 c27 (intA (1))) fun v38 =>
opP (fldO 0 v38) fun v39 =>
opP (fldO 0 v39) fun v40 =>
opP (ldS (mget []) v40) fun v41 =>
ex_i64 v41 fun z42 =>
bif (z42 == (10)) then (
opP (idxS 6 c27 (intA (1))) fun v43 =>
opP (fldO 0 v43) fun v44 =>
opP (fldO 3 v44) fun v45 =>
opP (ldS (mget []) v45) fun v46 =>
ex_i64 v46 fun z47 =>
bif (z47 == (9500)) then (
opP (idxS 6 c27 (intA (1))) fun v48 =>
opP (fldO 0 v48) fun v49 =>
opP (fldO 1 v49) fun v50 =>
opP (fldO 0 v50) fun v51 =>
opP (ldS (mget []) v51) fun v52 =>
ex_i64 v52 fun z53 =>
bif (z53 == (1000)) then (
opP (idxS 6 c27 (intA (2))) fun v54 =>
opP (fldO 0 v54) fun v55 =>
opP (fldO 3 v55) fun v56 =>
opP (ldS (mget []) v56) fun v57 =>
ex_i64 v57 fun z58 =>
bif (z58 == (9500)) then (
opP (idxS 6 c27 (intA (1))) fun v59 =>
opP (fldO 4 v59) fun v60 =>
opP (ldS (mget []) v60) fun v61 =>
ex_i64 v61 fun z62 =>
bif (z62 == (100)) then (
retL R [] [some (boolA (z34 == (1)))]) else (
retL R [] [some (boolA false)])) else (
retL R [] [some (boolA false)])) else (
retL R [] [some (boolA false)])) else (
retL R [] [some (boolA false)])) else (
retL R [] [some (boolA false)])) else (
retL R [] [some (boolA false)])) else (
retL R [] [some (boolA false)])) else (
retL R [] [some (boolA false)])
theorem F9_own (R : AV → Mem → Prop) (h : F9  R) : Own Tryd.prog KK.gl 9 [] R := own_of_F fol Tryd.func9 (code := c9) (by kernel_rfl) (by kernel_rfl) (by kernel_rfl) (X := F9  R) (by kernel_rfl) h
/- skyway/skywaykeep3.EffectArrives -/
noncomputable def c5 : Code := ((Tryd.f5).body).getD .skip
noncomputable def q5 (R : AV → Mem → Prop) : AExit → St → Prop := retQ Tryd.prog Tryd.f5 R
noncomputable def F5 (a0 : AV) (a1_0 : ByteArray) (a1_1 : Int) (a1_2 : Int) (a1_3 : ByteArray) (a2 : Int) (a3_0 : ByteArray) (a3_1 : Int) (a3_2 : Int) (a3_3 : Int) (a3_4 : Int) (a3_5 : Int) (a3_6 : Int) (a4_0 : Int) (a4_1 : Int) (R : AV → Mem → Prop) : Prop :=
callQ Tryd.prog KK.gl ((2, some ⟨[(intA a4_0), (intA a4_1)], 29⟩) :: (1, some ⟨[(AV.sc (.string a3_0)), (intA a3_1), (intA a3_2), (intA a3_3), (intA a3_4), (intA a3_5), (intA a3_6)], 27⟩) :: (0, some ⟨[(AV.sc (.string a1_0)), (intA a1_1), (intA a1_2), (AV.sc (.string a1_3))], 25⟩) :: []) 9 [] fun v0 =>
exB v0 fun b1 =>
bif (!b1) then (
retL R ((2, some ⟨[(intA a4_0), (intA a4_1)], 29⟩) :: (1, some ⟨[(AV.sc (.string a3_0)), (intA a3_1), (intA a3_2), (intA a3_3), (intA a3_4), (intA a3_5), (intA a3_6)], 27⟩) :: (0, some ⟨[(AV.sc (.string a1_0)), (intA a1_1), (intA a1_2), (AV.sc (.string a1_3))], 25⟩) :: []) [some (boolA false)]) else (
callQ Tryd.prog KK.gl ((0, some ⟨[(AV.sc (.string a1_0)), (intA (3)), (intA a1_2), (AV.sc (.string a1_3))], 25⟩) :: (2, some ⟨[(intA a4_0), (intA a4_1)], 29⟩) :: (1, some ⟨[(AV.sc (.string a3_0)), (intA a3_1), (intA a3_2), (intA a3_3), (intA a3_4), (intA a3_5), (intA a3_6)], 27⟩) :: (0, some ⟨[(AV.sc (.string a1_0)), (intA a1_1), (intA a1_2), (AV.sc (.string a1_3))], 25⟩) :: []) 11 [a0, (AV.agg [(AV.sc (.string a1_0)), (intA (3)), (intA a1_2), (AV.sc (.string a1_3))]), (intA a2), (AV.agg [(AV.sc (.string a3_0)), (intA a3_1), (intA a3_2), (intA a3_3), (intA a3_4), (intA a3_5), (intA a3_6)]), (AV.agg [(intA a4_0), (intA a4_1)])] fun v2 =>
exT2 v2 fun c3 c4 =>
ex_i64 c4 fun z5 =>
bif (z5 != (0)) then (
bif (z5 == (0)) then (
retL R ((0, some ⟨[(AV.sc (.string a1_0)), (intA (3)), (intA a1_2), (AV.sc (.string a1_3))], 25⟩) :: (2, some ⟨[(intA a4_0), (intA a4_1)], 29⟩) :: (1, some ⟨[(AV.sc (.string a3_0)), (intA a3_1), (intA a3_2), (intA a3_3), (intA a3_4), (intA a3_5), (intA a3_6)], 27⟩) :: (0, some ⟨[(AV.sc (.string a1_0)), (intA a1_1), (intA a1_2), (AV.sc (.string a1_3))], 25⟩) :: []) [some (boolA true)]) else (
opP (lenS c3) fun v6 =>
ex_i64 v6 fun z7 =>
retL R ((0, some ⟨[(AV.sc (.string a1_0)), (intA (3)), (intA a1_2), (AV.sc (.string a1_3))], 25⟩) :: (2, some ⟨[(intA a4_0), (intA a4_1)], 29⟩) :: (1, some ⟨[(AV.sc (.string a3_0)), (intA a3_1), (intA a3_2), (intA a3_3), (intA a3_4), (intA a3_5), (intA a3_6)], 27⟩) :: (0, some ⟨[(AV.sc (.string a1_0)), (intA a1_1), (intA a1_2), (AV.sc (.string a1_3))], 25⟩) :: []) [some (boolA (z7 == (0)))])) else (
opP (lenS a0) fun v8 =>
ex_i64 v8 fun z9 =>
bif (z9 == (0)) then (
bif (z5 == (0)) then (
retL R ((0, some ⟨[(AV.sc (.string a1_0)), (intA (3)), (intA a1_2), (AV.sc (.string a1_3))], 25⟩) :: (2, some ⟨[(intA a4_0), (intA a4_1)], 29⟩) :: (1, some ⟨[(AV.sc (.string a3_0)), (intA a3_1), (intA a3_2), (intA a3_3), (intA a3_4), (intA a3_5), (intA a3_6)], 27⟩) :: (0, some ⟨[(AV.sc (.string a1_0)), (intA a1_1), (intA a1_2), (AV.sc (.string a1_3))], 25⟩) :: []) [some (boolA true)]) else (
opP (lenS c3) fun v10 =>
ex_i64 v10 fun z11 =>
retL R ((0, some ⟨[(AV.sc (.string a1_0)), (intA (3)), (intA a1_2), (AV.sc (.string a1_3))], 25⟩) :: (2, some ⟨[(intA a4_0), (intA a4_1)], 29⟩) :: (1, some ⟨[(AV.sc (.string a3_0)), (intA a3_1), (intA a3_2), (intA a3_3), (intA a3_4), (intA a3_5), (intA a3_6)], 27⟩) :: (0, some ⟨[(AV.sc (.string a1_0)), (intA a1_1), (intA a1_2), (AV.sc (.string a1_3))], 25⟩) :: []) [some (boolA (z11 == (0)))])) else (
opP (lenS a0) fun v12 =>
ex_i64 v12 fun z13 =>
opP (idxS 6 a0 (intA (IntKind.wrap .i64 (z13 - (1))))) fun v14 =>
opP (fldO 0 v14) fun v15 =>
opP (fldO 0 v15) fun v16 =>
opP (ldS (mget ((0, some ⟨[(AV.sc (.string a1_0)), (intA (3)), (intA a1_2), (AV.sc (.string a1_3))], 25⟩) :: (2, some ⟨[(intA a4_0), (intA a4_1)], 29⟩) :: (1, some ⟨[(AV.sc (.string a3_0)), (intA a3_1), (intA a3_2), (intA a3_3), (intA a3_4), (intA a3_5), (intA a3_6)], 27⟩) :: (0, some ⟨[(AV.sc (.string a1_0)), (intA a1_1), (intA a1_2), (AV.sc (.string a1_3))], 25⟩) :: [])) v16) fun v17 =>
ex_i64 v17 fun z18 =>
bif (a2 == z18) then (
bif (z5 == (0)) then (
retL R ((0, some ⟨[(AV.sc (.string a1_0)), (intA (3)), (intA a1_2), (AV.sc (.string a1_3))], 25⟩) :: (2, some ⟨[(intA a4_0), (intA a4_1)], 29⟩) :: (1, some ⟨[(AV.sc (.string a3_0)), (intA a3_1), (intA a3_2), (intA a3_3), (intA a3_4), (intA a3_5), (intA a3_6)], 27⟩) :: (0, some ⟨[(AV.sc (.string a1_0)), (intA a1_1), (intA a1_2), (AV.sc (.string a1_3))], 25⟩) :: []) [some (boolA true)]) else (
opP (lenS c3) fun v19 =>
ex_i64 v19 fun z20 =>
retL R ((0, some ⟨[(AV.sc (.string a1_0)), (intA (3)), (intA a1_2), (AV.sc (.string a1_3))], 25⟩) :: (2, some ⟨[(intA a4_0), (intA a4_1)], 29⟩) :: (1, some ⟨[(AV.sc (.string a3_0)), (intA a3_1), (intA a3_2), (intA a3_3), (intA a3_4), (intA a3_5), (intA a3_6)], 27⟩) :: (0, some ⟨[(AV.sc (.string a1_0)), (intA a1_1), (intA a1_2), (AV.sc (.string a1_3))], 25⟩) :: []) [some (boolA (z20 == (0)))])) else (
opP (lenS c3) fun v21 =>
ex_i64 v21 fun z22 =>
bif (z22 == (0)) then (
retL R ((0, some ⟨[(AV.sc (.string a1_0)), (intA (3)), (intA a1_2), (AV.sc (.string a1_3))], 25⟩) :: (2, some ⟨[(intA a4_0), (intA a4_1)], 29⟩) :: (1, some ⟨[(AV.sc (.string a3_0)), (intA a3_1), (intA a3_2), (intA a3_3), (intA a3_4), (intA a3_5), (intA a3_6)], 27⟩) :: (0, some ⟨[(AV.sc (.string a1_0)), (intA a1_1), (intA a1_2), (AV.sc (.string a1_3))], 25⟩) :: []) [some (boolA false)]) else (
opP (lenS c3) fun v23 =>
ex_i64 v23 fun z24 =>
opP (idxS 6 c3 (intA (IntKind.wrap .i64 (z24 - (1))))) fun v25 =>
opP (ldA (mget ((0, some ⟨[(AV.sc (.string a1_0)), (intA (3)), (intA a1_2), (AV.sc (.string a1_3))], 25⟩) :: (2, some ⟨[(intA a4_0), (intA a4_1)], 29⟩) :: (1, some ⟨[(AV.sc (.string a3_0)), (intA a3_1), (intA a3_2), (intA a3_3), (intA a3_4), (intA a3_5), (intA a3_6)], 27⟩) :: (0, some ⟨[(AV.sc (.string a1_0)), (intA a1_1), (intA a1_2), (AV.sc (.string a1_3))], 25⟩) :: [])) 6 v25) fun v26 =>
exA6 v26 fun c27 c28 c29 c30 c31 c32 =>
ex_i64 c27 fun z33 =>
ex_i64 c28 fun z34 =>
ex_i64 c29 fun z35 =>
ex_i64 c30 fun z36 =>
ex_i64 c31 fun z37 =>
ex_i64 c32 fun z38 =>
callQ Tryd.prog KK.gl ((173, some ⟨[(intA z33), (intA z34), (intA z35), (intA z36), (intA z37), (intA z38)], 40⟩) :: (173, some ⟨[(intA (0)), (intA (0)), (intA (0)), (intA (0)), (intA (0)), (intA (0))], 40⟩) :: (0, some ⟨[(AV.sc (.string a1_0)), (intA (3)), (intA a1_2), (AV.sc (.string a1_3))], 25⟩) :: (2, some ⟨[(intA a4_0), (intA a4_1)], 29⟩) :: (1, some ⟨[(AV.sc (.string a3_0)), (intA a3_1), (intA a3_2), (intA a3_3), (intA a3_4), (intA a3_5), (intA a3_6)], 27⟩) :: (0, some ⟨[(AV.sc (.string a1_0)), (intA a1_1), (intA a1_2), (AV.sc (.string a1_3))], 25⟩) :: []) 13 [a0, (intA a2)] fun v39 =>
exT2 v39 fun c40 c41 =>
exA6 c40 fun c42 c43 c44 c45 c46 c47 =>
ex_i64 c42 fun z48 =>
ex_i64 c43 fun z49 =>
ex_i64 c44 fun z50 =>
ex_i64 c45 fun z51 =>
ex_i64 c46 fun z52 =>
ex_i64 c47 fun z53 =>
ex_i64 c41 fun z54 =>
bif (z54 == (0)) then (
opP (opA Tryd.prog (.binOp .eql 29 (.tmp 0) (.tmp 1) 29) 4 [(AV.agg [(intA z34), (intA z35)]), (AV.agg [(intA a4_0), (intA a4_1)])] (mget ((244, some ⟨[(intA z48), (intA z49), (intA z50), (intA z51), (intA z52), (intA z53)], 40⟩) :: (244, some ⟨[(intA (0)), (intA (0)), (intA (0)), (intA (0)), (intA (0)), (intA (0))], 40⟩) :: (173, some ⟨[(intA z33), (intA z34), (intA z35), (intA z36), (intA z37), (intA z38)], 40⟩) :: (173, some ⟨[(intA (0)), (intA (0)), (intA (0)), (intA (0)), (intA (0)), (intA (0))], 40⟩) :: (0, some ⟨[(AV.sc (.string a1_0)), (intA (3)), (intA a1_2), (AV.sc (.string a1_3))], 25⟩) :: (2, some ⟨[(intA a4_0), (intA a4_1)], 29⟩) :: (1, some ⟨[(AV.sc (.string a3_0)), (intA a3_1), (intA a3_2), (intA a3_3), (intA a3_4), (intA a3_5), (intA a3_6)], 27⟩) :: (0, some ⟨[(AV.sc (.string a1_0)), (intA a1_1), (intA a1_2), (AV.sc (.string a1_3))], 25⟩) :: [])) 254) fun v55 =>
exB v55 fun b56 =>
bif b56 then (
bif (z36 == z51) then (
bif (decide (z33 ≥ a2)) then (
retL R ((244, some ⟨[(intA z48), (intA z49), (intA z50), (intA z51), (intA z52), (intA z53)], 40⟩) :: (244, some ⟨[(intA (0)), (intA (0)), (intA (0)), (intA (0)), (intA (0)), (intA (0))], 40⟩) :: (173, some ⟨[(intA z33), (intA z34), (intA z35), (intA z36), (intA z37), (intA z38)], 40⟩) :: (173, some ⟨[(intA (0)), (intA (0)), (intA (0)), (intA (0)), (intA (0)), (intA (0))], 40⟩) :: (0, some ⟨[(AV.sc (.string a1_0)), (intA (3)), (intA a1_2), (AV.sc (.string a1_3))], 25⟩) :: (2, some ⟨[(intA a4_0), (intA a4_1)], 29⟩) :: (1, some ⟨[(AV.sc (.string a3_0)), (intA a3_1), (intA a3_2), (intA a3_3), (intA a3_4), (intA a3_5), (intA a3_6)], 27⟩) :: (0, some ⟨[(AV.sc (.string a1_0)), (intA a1_1), (intA a1_2), (AV.sc (.string a1_3))], 25⟩) :: []) [some (boolA (z37 == z52))]) else (
retL R ((244, some ⟨[(intA z48), (intA z49), (intA z50), (intA z51), (intA z52), (intA z53)], 40⟩) :: (244, some ⟨[(intA (0)), (intA (0)), (intA (0)), (intA (0)), (intA (0)), (intA (0))], 40⟩) :: (173, some ⟨[(intA z33), (intA z34), (intA z35), (intA z36), (intA z37), (intA z38)], 40⟩) :: (173, some ⟨[(intA (0)), (intA (0)), (intA (0)), (intA (0)), (intA (0)), (intA (0))], 40⟩) :: (0, some ⟨[(AV.sc (.string a1_0)), (intA (3)), (intA a1_2), (AV.sc (.string a1_3))], 25⟩) :: (2, some ⟨[(intA a4_0), (intA a4_1)], 29⟩) :: (1, some ⟨[(AV.sc (.string a3_0)), (intA a3_1), (intA a3_2), (intA a3_3), (intA a3_4), (intA a3_5), (intA a3_6)], 27⟩) :: (0, some ⟨[(AV.sc (.string a1_0)), (intA a1_1), (intA a1_2), (AV.sc (.string a1_3))], 25⟩) :: []) [some (boolA false)])) else (
retL R ((244, some ⟨[(intA z48), (intA z49), (intA z50), (intA z51), (intA z52), (intA z53)], 40⟩) :: (244, some ⟨[(intA (0)), (intA (0)), (intA (0)), (intA (0)), (intA (0)), (intA (0))], 40⟩) :: (173, some ⟨[(intA z33), (intA z34), (intA z35), (intA z36), (intA z37), (intA z38)], 40⟩) :: (173, some ⟨[(intA (0)), (intA (0)), (intA (0)), (intA (0)), (intA (0)), (intA (0))], 40⟩) :: (0, some ⟨[(AV.sc (.string a1_0)), (intA (3)), (intA a1_2), (AV.sc (.string a1_3))], 25⟩) :: (2, some ⟨[(intA a4_0), (intA a4_1)], 29⟩) :: (1, some ⟨[(AV.sc (.string a3_0)), (intA a3_1), (intA a3_2), (intA a3_3), (intA a3_4), (intA a3_5), (intA a3_6)], 27⟩) :: (0, some ⟨[(AV.sc (.string a1_0)), (intA a1_1), (intA a1_2), (AV.sc (.string a1_3))], 25⟩) :: []) [some (boolA false)])) else (
retL R ((244, some ⟨[(intA z48), (intA z49), (intA z50), (intA z51), (intA z52), (intA z53)], 40⟩) :: (244, some ⟨[(intA (0)), (intA (0)), (intA (0)), (intA (0)), (intA (0)), (intA (0))], 40⟩) :: (173, some ⟨[(intA z33), (intA z34), (intA z35), (intA z36), (intA z37), (intA z38)], 40⟩) :: (173, some ⟨[(intA (0)), (intA (0)), (intA (0)), (intA (0)), (intA (0)), (intA (0))], 40⟩) :: (0, some ⟨[(AV.sc (.string a1_0)), (intA (3)), (intA a1_2), (AV.sc (.string a1_3))], 25⟩) :: (2, some ⟨[(intA a4_0), (intA a4_1)], 29⟩) :: (1, some ⟨[(AV.sc (.string a3_0)), (intA a3_1), (intA a3_2), (intA a3_3), (intA a3_4), (intA a3_5), (intA a3_6)], 27⟩) :: (0, some ⟨[(AV.sc (.string a1_0)), (intA a1_1), (intA a1_2), (AV.sc (.string a1_3))], 25⟩) :: []) [some (boolA false)])) else (
retL R ((244, some ⟨[(intA z48), (intA z49), (intA z50), (intA z51), (intA z52), (intA z53)], 40⟩) :: (244, some ⟨[(intA (0)), (intA (0)), (intA (0)), (intA (0)), (intA (0)), (intA (0))], 40⟩) :: (173, some ⟨[(intA z33), (intA z34), (intA z35), (intA z36), (intA z37), (intA z38)], 40⟩) :: (173, some ⟨[(intA (0)), (intA (0)), (intA (0)), (intA (0)), (intA (0)), (intA (0))], 40⟩) :: (0, some ⟨[(AV.sc (.string a1_0)), (intA (3)), (intA a1_2), (AV.sc (.string a1_3))], 25⟩) :: (2, some ⟨[(intA a4_0), (intA a4_1)], 29⟩) :: (1, some ⟨[(AV.sc (.string a3_0)), (intA a3_1), (intA a3_2), (intA a3_3), (intA a3_4), (intA a3_5), (intA a3_6)], 27⟩) :: (0, some ⟨[(AV.sc (.string a1_0)), (intA a1_1), (intA a1_2), (AV.sc (.string a1_3))], 25⟩) :: []) [some (boolA false)]))))))
theorem F5_own (a0 : AV) (a1_0 : ByteArray) (a1_1 : Int) (a1_2 : Int) (a1_3 : ByteArray) (a2 : Int) (a3_0 : ByteArray) (a3_1 : Int) (a3_2 : Int) (a3_3 : Int) (a3_4 : Int) (a3_5 : Int) (a3_6 : Int) (a4_0 : Int) (a4_1 : Int) (R : AV → Mem → Prop) (h : F5 a0 a1_0 a1_1 a1_2 a1_3 a2 a3_0 a3_1 a3_2 a3_3 a3_4 a3_5 a3_6 a4_0 a4_1 R) : Own Tryd.prog KK.gl 5 [a0, (AV.agg [(AV.sc (.string a1_0)), (intA a1_1), (intA a1_2), (AV.sc (.string a1_3))]), (intA a2), (AV.agg [(AV.sc (.string a3_0)), (intA a3_1), (intA a3_2), (intA a3_3), (intA a3_4), (intA a3_5), (intA a3_6)]), (AV.agg [(intA a4_0), (intA a4_1)])] R := own_of_F fol Tryd.func5 (code := c5) (by kernel_rfl) (by kernel_rfl) (by kernel_rfl) (X := F5 a0 a1_0 a1_1 a1_2 a1_3 a2 a3_0 a3_1 a3_2 a3_3 a3_4 a3_5 a3_6 a4_0 a4_1 R) (by kernel_rfl) h
/- skyway/skywaykeep3.small -/
noncomputable def c10 : Code := ((Tryd.f10).body).getD .skip
noncomputable def q10 (R : AV → Mem → Prop) : AExit → St → Prop := retQ Tryd.prog Tryd.f10 R
noncomputable def c10_0 : Code := loopB c10 0
noncomputable def q10_0 (R : AV → Mem → Prop) : AExit → St → Prop := contW Tryd.prog KK 41 0 c10 0 (q10 R)
noncomputable def qq10_0 (R : AV → Mem → Prop) (N0 : St → Prop) : AExit → St → Prop := thenQ N0 (q10_0 R)
def h10_0 (t2 : Int) (t6 : Bool) (t13 : AV) (t14 : Int) (t15 : Int) (m : Mem) : St := ⟨[(2, (intA t2)), (6, (boolA t6)), (13, t13), (14, (intA t14)), (15, (intA t15))], m, 100000⟩
noncomputable def B10_0 (t2 : Int) (t6 : Bool) (t13 : AV) (t14 : Int) (t15 : Int) (m : Mem) (R : AV → Mem → Prop) (N0 : St → Prop) : Prop :=
bif (decide (t15 < t14)) then (
opP (idxS 1 t13 (intA t15)) fun v4 =>
opP (ldS (mget m) v4) fun v5 =>
callQ Tryd.prog KK.gl m 12 [v5] fun v6 =>
ex_i64 v6 fun z7 =>
bif (z7 != (0)) then (
retL R m [some (boolA false)]) else (
opP (lenS v5) fun v8 =>
ex_i64 v8 fun z9 =>
opP (idxS 6 v5 (intA (IntKind.wrap .i64 (z9 - (1))))) fun v10 =>
opP (fldO 0 v10) fun v11 =>
opP (fldO 0 v11) fun v12 =>
opP (ldS (mget m) v12) fun v13 =>
ex_i64 v13 fun z14 =>
opP (idxS 6 v5 (intA (0))) fun v15 =>
opP (fldO 0 v15) fun v16 =>
opP (fldO 0 v16) fun v17 =>
opP (ldS (mget m) v17) fun v18 =>
ex_i64 v18 fun z19 =>
bif (decide ((IntKind.wrap .i64 (z14 - z19)) > t2)) then (
retL R m [some (boolA false)]) else (
N0 ⟨[(2, (intA t2)), (6, (boolA t6)), (13, t13), (14, (intA t14)), (15, (intA (IntKind.wrap .i64 (t15 + (1))))), (16, (boolA (decide (t15 < t14)))), (17, v4), (18, v5), (8, v5), (19, v5), (20, (intA z7)), (21, (boolA (z7 != (0)))), (22, (boolA false)), (23, v5), (24, v5), (25, (intA z9)), (26, (intA (IntKind.wrap .i64 (z9 - (1))))), (27, v10), (28, v11), (29, v12), (30, (intA z14)), (31, v5), (32, v15), (33, v16), (34, v17), (35, (intA z19)), (36, (intA (IntKind.wrap .i64 (z14 - z19)))), (37, (intA t2)), (38, (boolA (decide ((IntKind.wrap .i64 (z14 - z19)) > t2)))), (39, (boolA (decide ((IntKind.wrap .i64 (z14 - z19)) > t2)))), (40, (intA (IntKind.wrap .i64 (t15 + (1)))))], m, 100027⟩))) else (
retL R m [some (boolA true)])
theorem B10_0_eq (t2 : Int) (t6 : Bool) (t13 : AV) (t14 : Int) (t15 : Int) (m : Mem) (R : AV → Mem → Prop) (N0 : St → Prop) : W Tryd.prog KK 41 0 c10_0 (h10_0 t2 t6 t13 t14 t15 m) (qq10_0 R N0) = B10_0 t2 t6 t13 t14 t15 m R N0 := by kernel_rfl
theorem L10_0 (R : AV → Mem → Prop) {σ : Type} (I : σ → Prop) (t2 : σ → Int) (t6 : σ → Bool) (t13 : σ → AV) (t14 : σ → Int) (t15 : σ → Int) (m : σ → Mem) (μ : σ → Nat) (step : ∀ x, I x → B10_0 (t2 x) (t6 x) (t13 x) (t14 x) (t15 x) (m x) R (fun s' => ∃ y, I y ∧ μ y < μ x ∧ Weak KK 41 0 s' (h10_0 (t2 y) (t6 y) (t13 y) (t14 y) (t15 y) (m y)))) (x : σ) (hx : I x) {s : St} (hw : Weak KK 41 0 s (h10_0 (t2 x) (t6 x) (t13 x) (t14 x) (t15 x) (m x))) : Tri Tryd.prog KK 41 0 (.loop c10_0) s (q10_0 R) :=
  Tri.weak hw (Tri.loops fol I (fun x => h10_0 (t2 x) (t6 x) (t13 x) (t14 x) (t15 x) (m x)) μ (fun x hx => (B10_0_eq (t2 x) (t6 x) (t13 x) (t14 x) (t15 x) (m x) R _).mpr (step x hx)) x hx)
noncomputable def F10 (a0 : AV) (a1 : Int) (a2 : Int) (R : AV → Mem → Prop) : Prop :=
opP (lenS a0) fun v0 =>
ex_i64 v0 fun z1 =>
bif (decide (z1 > a1)) then (
retL R [] [some (boolA false)]) else (
opP (lenS a0) fun v2 =>
ex_i64 v2 fun z3 =>
Tri Tryd.prog KK 41 0 (.loop c10_0) ⟨[(0, a0), (1, (intA a1)), (2, (intA a2)), (6, (boolA false)), (9, a0), (10, (intA z1)), (11, (intA a1)), (12, (boolA (decide (z1 > a1)))), (13, a0), (14, (intA z3)), (15, (intA (0)))], [], 8⟩ (q10_0 R))
theorem F10_own (a0 : AV) (a1 : Int) (a2 : Int) (R : AV → Mem → Prop) (h : F10 a0 a1 a2 R) : Own Tryd.prog KK.gl 10 [a0, (intA a1), (intA a2)] R := own_of_F fol Tryd.func10 (code := c10) (by kernel_rfl) (by kernel_rfl) (by kernel_rfl) (X := F10 a0 a1 a2 R) (by kernel_rfl) h
/- skyway/skywaykeep3.EffectFirst -/
noncomputable def c6 : Code := ((Tryd.f6).body).getD .skip
noncomputable def q6 (R : AV → Mem → Prop) : AExit → St → Prop := retQ Tryd.prog Tryd.f6 R
noncomputable def F6 (a0 : AV) (a1 : AV) (R : AV → Mem → Prop) : Prop :=
callQ Tryd.prog KK.gl [] 9 [] fun v0 =>
exB v0 fun b1 =>
bif (!b1) then (
retL R [] [some (boolA false)]) else (
opN (bsl 68 23 1 2 [AV.nils] [(0, a0), (1, a1)]) [] fun v2 m2 =>
callQ Tryd.prog KK.gl m2 10 [v2, (intA (2)), (intA (400))] fun v3 =>
exB v3 fun b4 =>
bif (!b4) then (
retL R m2 [some (boolA true)]) else (
callQ Tryd.prog KK.gl m2 16 [a0, a1] fun v5 =>
exT2 v5 fun c6 c7 =>
ex_i64 c6 fun z8 =>
ex_i64 c7 fun z9 =>
callQ Tryd.prog KK.gl m2 16 [a1, a0] fun v10 =>
exT2 v10 fun c11 c12 =>
ex_i64 c11 fun z13 =>
ex_i64 c12 fun z14 =>
callQ Tryd.prog KK.gl m2 16 [a0, a0] fun v15 =>
exT2 v15 fun c16 c17 =>
ex_i64 c16 fun z18 =>
ex_i64 c17 fun z19 =>
bif (z9 != z14) then (
retL R m2 [some (boolA false)]) else (
bif (z8 != z13) then (
retL R m2 [some (boolA false)]) else (
bif (z19 != (8)) then (
retL R m2 [some (boolA false)]) else (
bif (z9 != (0)) then (
bif (z9 == (8)) then (
retL R m2 [some (boolA true)]) else (
retL R m2 [some (boolA (z9 == (2)))])) else (
callQ Tryd.prog KK.gl m2 13 [a0, (intA z8)] fun v20 =>
exT2 v20 fun c21 c22 =>
exA6 c21 fun c23 c24 c25 c26 c27 c28 =>
ex_i64 c23 fun z29 =>
ex_i64 c24 fun z30 =>
ex_i64 c25 fun z31 =>
ex_i64 c26 fun z32 =>
ex_i64 c27 fun z33 =>
ex_i64 c28 fun z34 =>
ex_i64 c22 fun z35 =>
callQ Tryd.prog KK.gl ((430, some ⟨[(intA z29), (intA z30), (intA z31), (intA z32), (intA z33), (intA z34)], 40⟩) :: (430, some ⟨[(intA (0)), (intA (0)), (intA (0)), (intA (0)), (intA (0)), (intA (0))], 40⟩) :: m2) 13 [a1, (intA z8)] fun v36 =>
exT2 v36 fun c37 c38 =>
exA6 c37 fun c39 c40 c41 c42 c43 c44 =>
ex_i64 c39 fun z45 =>
ex_i64 c40 fun z46 =>
ex_i64 c41 fun z47 =>
ex_i64 c42 fun z48 =>
ex_i64 c43 fun z49 =>
ex_i64 c44 fun z50 =>
ex_i64 c38 fun z51 =>
bif (z35 != z51) then (
retL R ((502, some ⟨[(intA z45), (intA z46), (intA z47), (intA z48), (intA z49), (intA z50)], 40⟩) :: (502, some ⟨[(intA (0)), (intA (0)), (intA (0)), (intA (0)), (intA (0)), (intA (0))], 40⟩) :: (430, some ⟨[(intA z29), (intA z30), (intA z31), (intA z32), (intA z33), (intA z34)], 40⟩) :: (430, some ⟨[(intA (0)), (intA (0)), (intA (0)), (intA (0)), (intA (0)), (intA (0))], 40⟩) :: m2) [some (boolA true)]) else (
bif (z35 == (0)) then (
opP (opA Tryd.prog (.binOp .neq 29 (.tmp 0) (.tmp 1) 29) 4 [(AV.agg [(intA z30), (intA z31)]), (AV.agg [(intA z46), (intA z47)])] (mget ((502, some ⟨[(intA z45), (intA z46), (intA z47), (intA z48), (intA z49), (intA z50)], 40⟩) :: (502, some ⟨[(intA (0)), (intA (0)), (intA (0)), (intA (0)), (intA (0)), (intA (0))], 40⟩) :: (430, some ⟨[(intA z29), (intA z30), (intA z31), (intA z32), (intA z33), (intA z34)], 40⟩) :: (430, some ⟨[(intA (0)), (intA (0)), (intA (0)), (intA (0)), (intA (0)), (intA (0))], 40⟩) :: m2)) 518) fun v52 =>
exB v52 fun b53 =>
bif b53 then (
retL R ((502, some ⟨[(intA z45), (intA z46), (intA z47), (intA z48), (intA z49), (intA z50)], 40⟩) :: (502, some ⟨[(intA (0)), (intA (0)), (intA (0)), (intA (0)), (intA (0)), (intA (0))], 40⟩) :: (430, some ⟨[(intA z29), (intA z30), (intA z31), (intA z32), (intA z33), (intA z34)], 40⟩) :: (430, some ⟨[(intA (0)), (intA (0)), (intA (0)), (intA (0)), (intA (0)), (intA (0))], 40⟩) :: m2) [some (boolA true)]) else (
retL R ((502, some ⟨[(intA z45), (intA z46), (intA z47), (intA z48), (intA z49), (intA z50)], 40⟩) :: (502, some ⟨[(intA (0)), (intA (0)), (intA (0)), (intA (0)), (intA (0)), (intA (0))], 40⟩) :: (430, some ⟨[(intA z29), (intA z30), (intA z31), (intA z32), (intA z33), (intA z34)], 40⟩) :: (430, some ⟨[(intA (0)), (intA (0)), (intA (0)), (intA (0)), (intA (0)), (intA (0))], 40⟩) :: m2) [some (boolA (z32 != z48))])) else (
retL R ((502, some ⟨[(intA z45), (intA z46), (intA z47), (intA z48), (intA z49), (intA z50)], 40⟩) :: (502, some ⟨[(intA (0)), (intA (0)), (intA (0)), (intA (0)), (intA (0)), (intA (0))], 40⟩) :: (430, some ⟨[(intA z29), (intA z30), (intA z31), (intA z32), (intA z33), (intA z34)], 40⟩) :: (430, some ⟨[(intA (0)), (intA (0)), (intA (0)), (intA (0)), (intA (0)), (intA (0))], 40⟩) :: m2) [some (boolA false)]))))))))
theorem F6_own (a0 : AV) (a1 : AV) (R : AV → Mem → Prop) (h : F6 a0 a1 R) : Own Tryd.prog KK.gl 6 [a0, a1] R := own_of_F fol Tryd.func6 (code := c6) (by kernel_rfl) (by kernel_rfl) (by kernel_rfl) (X := F6 a0 a1 R) (by kernel_rfl) h
/- slices.Equal[[]skyway/api.P,skyway/api.P] -/
noncomputable def c18 : Code := ((Tryd.f18).body).getD .skip
noncomputable def q18 (R : AV → Mem → Prop) : AExit → St → Prop := retQ Tryd.prog Tryd.f18 R
noncomputable def c18_0 : Code := loopB c18 0
noncomputable def q18_0 (R : AV → Mem → Prop) : AExit → St → Prop := contW Tryd.prog KK 26 0 c18 0 (q18 R)
noncomputable def qq18_0 (R : AV → Mem → Prop) (N0 : St → Prop) : AExit → St → Prop := thenQ N0 (q18_0 R)
def h18_0 (t0 : AV) (t1 : AV) (t4 : Bool) (t12 : Int) (t13 : Int) (m : Mem) : St := ⟨[(0, t0), (1, t1), (4, (boolA t4)), (12, (intA t12)), (13, (intA t13))], m, 100000⟩
noncomputable def B18_0 (t0 : AV) (t1 : AV) (t4 : Bool) (t12 : Int) (t13 : Int) (m : Mem) (R : AV → Mem → Prop) (N0 : St → Prop) : Prop :=
bif (decide (t13 < t12)) then (
opP (idxS 2 t0 (intA t13)) fun v6 =>
opP (ldA (mget m) 2 v6) fun v7 =>
exA2 v7 fun c8 c9 =>
ex_i64 c8 fun z10 =>
ex_i64 c9 fun z11 =>
opP (idxS 2 t1 (intA t13)) fun v12 =>
opP (ldA (mget m) 2 v12) fun v13 =>
exA2 v13 fun c14 c15 =>
ex_i64 c14 fun z16 =>
ex_i64 c15 fun z17 =>
opP (opA Tryd.prog (.binOp .neq 29 (.tmp 0) (.tmp 1) 29) 4 [(AV.agg [(intA z10), (intA z11)]), (AV.agg [(intA z16), (intA z17)])] (mget m) 100011) fun v18 =>
exB v18 fun b19 =>
bif b19 then (
retL R m [some (boolA false)]) else (
N0 ⟨[(0, t0), (1, t1), (4, (boolA t4)), (12, (intA t12)), (13, (intA (IntKind.wrap .i64 (t13 + (1))))), (14, (boolA (decide (t13 < t12)))), (15, (intA t13)), (5, (intA t13)), (16, t0), (17, (intA t13)), (18, v6), (19, (AV.agg [(intA z10), (intA z11)])), (20, t1), (21, (intA t13)), (22, v12), (23, (AV.agg [(intA z16), (intA z17)])), (24, (boolA b19)), (25, (intA (IntKind.wrap .i64 (t13 + (1)))))], m, 100014⟩)) else (
retL R m [some (boolA true)])
theorem B18_0_eq (t0 : AV) (t1 : AV) (t4 : Bool) (t12 : Int) (t13 : Int) (m : Mem) (R : AV → Mem → Prop) (N0 : St → Prop) : W Tryd.prog KK 26 0 c18_0 (h18_0 t0 t1 t4 t12 t13 m) (qq18_0 R N0) = B18_0 t0 t1 t4 t12 t13 m R N0 := by kernel_rfl
theorem L18_0 (R : AV → Mem → Prop) {σ : Type} (I : σ → Prop) (t0 : σ → AV) (t1 : σ → AV) (t4 : σ → Bool) (t12 : σ → Int) (t13 : σ → Int) (m : σ → Mem) (μ : σ → Nat) (step : ∀ x, I x → B18_0 (t0 x) (t1 x) (t4 x) (t12 x) (t13 x) (m x) R (fun s' => ∃ y, I y ∧ μ y < μ x ∧ Weak KK 26 0 s' (h18_0 (t0 y) (t1 y) (t4 y) (t12 y) (t13 y) (m y)))) (x : σ) (hx : I x) {s : St} (hw : Weak KK 26 0 s (h18_0 (t0 x) (t1 x) (t4 x) (t12 x) (t13 x) (m x))) : Tri Tryd.prog KK 26 0 (.loop c18_0) s (q18_0 R) :=
  Tri.weak hw (Tri.loops fol I (fun x => h18_0 (t0 x) (t1 x) (t4 x) (t12 x) (t13 x) (m x)) μ (fun x hx => (B18_0_eq (t0 x) (t1 x) (t4 x) (t12 x) (t13 x) (m x) R _).mpr (step x hx)) x hx)
noncomputable def F18 (a0 : AV) (a1 : AV) (R : AV → Mem → Prop) : Prop :=
opP (lenS a0) fun v0 =>
ex_i64 v0 fun z1 =>
opP (lenS a1) fun v2 =>
ex_i64 v2 fun z3 =>
bif (z1 != z3) then (
retL R [] [some (boolA false)]) else (
opP (lenS a0) fun v4 =>
ex_i64 v4 fun z5 =>
Tri Tryd.prog KK 26 0 (.loop c18_0) ⟨[(0, a0), (1, a1), (4, (boolA false)), (6, a0), (7, (intA z1)), (8, a1), (9, (intA z3)), (10, (boolA (z1 != z3))), (11, a0), (12, (intA z5)), (13, (intA (0)))], [], 9⟩ (q18_0 R))
theorem F18_own (a0 : AV) (a1 : AV) (R : AV → Mem → Prop) (h : F18 a0 a1 R) : Own Tryd.prog KK.gl 18 [a0, a1] R := own_of_F fol Tryd.func18 (code := c18) (by kernel_rfl) (by kernel_rfl) (by kernel_rfl) (X := F18 a0 a1 R) (by kernel_rfl) h
/- skyway/skywaykeep3.EffectPaces -/
noncomputable def c7 : Code := ((Tryd.f7).body).getD .skip
noncomputable def q7 (R : AV → Mem → Prop) : AExit → St → Prop := retQ Tryd.prog Tryd.f7 R
noncomputable def c7_0 : Code := loopB c7 0
noncomputable def q7_0 (R : AV → Mem → Prop) : AExit → St → Prop := contW Tryd.prog KK 110 0 c7 0 (q7 R)
noncomputable def qq7_0 (R : AV → Mem → Prop) (N0 : St → Prop) : AExit → St → Prop := thenQ N0 (q7_0 R)
def h7_0 (t2 : Int) (t3 : Int) (t10 : Bool) (t11 : AV) (t13 : AV) (t14 : AV) (t39 : AV) (t40 : Int) (t41 : Int) (m : Mem) : St := ⟨[(2, (intA t2)), (3, (intA t3)), (10, (boolA t10)), (11, t11), (13, t13), (14, t14), (39, t39), (40, (intA t40)), (41, (intA t41))], m, 100000⟩
noncomputable def c7_1 : Code := loopB c7 1
noncomputable def q7_1 (R : AV → Mem → Prop) : AExit → St → Prop := contW Tryd.prog KK 110 0 c7 1 (q7 R)
noncomputable def qq7_1 (R : AV → Mem → Prop) (N0 : St → Prop) : AExit → St → Prop := thenQ N0 (q7_1 R)
def h7_1 (t2 : Int) (t3 : Int) (t10 : Bool) (t11 : AV) (t13 : AV) (t14 : AV) (t57 : AV) (t58 : Int) (t59 : Int) (m : Mem) : St := ⟨[(2, (intA t2)), (3, (intA t3)), (10, (boolA t10)), (11, t11), (13, t13), (14, t14), (57, t57), (58, (intA t58)), (59, (intA t59))], m, 200000⟩
noncomputable def B7_0 (t2 : Int) (t3 : Int) (t10 : Bool) (t11 : AV) (t13 : AV) (t14 : AV) (t39 : AV) (t40 : Int) (t41 : Int) (m : Mem) (R : AV → Mem → Prop) (N0 : St → Prop) : Prop :=
bif (decide (t41 < t40)) then (
opP (idxS 6 t39 (intA t41)) fun v12 =>
opP (ldA (mget m) 6 v12) fun v13 =>
exA6 v13 fun c14 c15 c16 c17 c18 c19 =>
ex_i64 c14 fun z20 =>
ex_i64 c15 fun z21 =>
ex_i64 c16 fun z22 =>
ex_i64 c17 fun z23 =>
ex_i64 c18 fun z24 =>
ex_i64 c19 fun z25 =>
bif (decide (z20 > t3)) then (
opN (bsl 100014 29 2 1 [(intA (0)), (intA (0))] [(0, (AV.agg [(intA z21), (intA z22)]))]) ((100003, some ⟨[(intA z20), (intA z21), (intA z22), (intA z23), (intA z24), (intA z25)], 40⟩) :: (100003, some ⟨[(intA (0)), (intA (0)), (intA (0)), (intA (0)), (intA (0)), (intA (0))], 40⟩) :: m) fun v26 m26 =>
opN (app (mget m26) 29 2 16 [(intA (0)), (intA (0))] 100015 t13 v26) m26 fun v27 m27 =>
N0 ⟨[(2, (intA t2)), (3, (intA t3)), (10, (boolA t10)), (11, t11), (13, v27), (14, t14), (39, t39), (40, (intA t40)), (41, (intA (IntKind.wrap .i64 (t41 + (1))))), (42, (boolA (decide (t41 < t40)))), (43, v12), (44, (AV.agg [(intA z20), (intA z21), (intA z22), (intA z23), (intA z24), (intA z25)])), (16, (AV.ptr 100003 0)), (45, (AV.ptr 100003 0)), (46, (AV.ptr 100003 0)), (47, (intA z20)), (48, (intA t3)), (49, (boolA (decide (z20 > t3)))), (50, t13), (51, (AV.ptr 100003 0)), (52, (AV.ptr 100003 1)), (53, (AV.agg [(intA z21), (intA z22)])), (54, v26), (55, v27), (56, (intA (IntKind.wrap .i64 (t41 + (1)))))], m27, 100019⟩) else (
N0 ⟨[(2, (intA t2)), (3, (intA t3)), (10, (boolA t10)), (11, t11), (13, t13), (14, t14), (39, t39), (40, (intA t40)), (41, (intA (IntKind.wrap .i64 (t41 + (1))))), (42, (boolA (decide (t41 < t40)))), (43, v12), (44, (AV.agg [(intA z20), (intA z21), (intA z22), (intA z23), (intA z24), (intA z25)])), (16, (AV.ptr 100003 0)), (45, (AV.ptr 100003 0)), (46, (AV.ptr 100003 0)), (47, (intA z20)), (48, (intA t3)), (49, (boolA (decide (z20 > t3)))), (56, (intA (IntKind.wrap .i64 (t41 + (1)))))], ((100003, some ⟨[(intA z20), (intA z21), (intA z22), (intA z23), (intA z24), (intA z25)], 40⟩) :: (100003, some ⟨[(intA (0)), (intA (0)), (intA (0)), (intA (0)), (intA (0)), (intA (0))], 40⟩) :: m), 100012⟩)) else (
opP (lenS t11) fun v28 =>
ex_i64 v28 fun z29 =>
Tri Tryd.prog KK 110 0 (.loop c7_1) ⟨[(2, (intA t2)), (3, (intA t3)), (10, (boolA t10)), (11, t11), (13, t13), (14, t14), (39, t39), (40, (intA t40)), (41, (intA t41)), (42, (boolA (decide (t41 < t40)))), (57, t11), (58, (intA z29)), (59, (intA (0)))], m, 100004⟩ (q7_1 R))
theorem B7_0_eq (t2 : Int) (t3 : Int) (t10 : Bool) (t11 : AV) (t13 : AV) (t14 : AV) (t39 : AV) (t40 : Int) (t41 : Int) (m : Mem) (R : AV → Mem → Prop) (N0 : St → Prop) : W Tryd.prog KK 110 0 c7_0 (h7_0 t2 t3 t10 t11 t13 t14 t39 t40 t41 m) (qq7_0 R N0) = B7_0 t2 t3 t10 t11 t13 t14 t39 t40 t41 m R N0 := by kernel_rfl
theorem L7_0 (R : AV → Mem → Prop) {σ : Type} (I : σ → Prop) (t2 : σ → Int) (t3 : σ → Int) (t10 : σ → Bool) (t11 : σ → AV) (t13 : σ → AV) (t14 : σ → AV) (t39 : σ → AV) (t40 : σ → Int) (t41 : σ → Int) (m : σ → Mem) (μ : σ → Nat) (step : ∀ x, I x → B7_0 (t2 x) (t3 x) (t10 x) (t11 x) (t13 x) (t14 x) (t39 x) (t40 x) (t41 x) (m x) R (fun s' => ∃ y, I y ∧ μ y < μ x ∧ Weak KK 110 0 s' (h7_0 (t2 y) (t3 y) (t10 y) (t11 y) (t13 y) (t14 y) (t39 y) (t40 y) (t41 y) (m y)))) (x : σ) (hx : I x) {s : St} (hw : Weak KK 110 0 s (h7_0 (t2 x) (t3 x) (t10 x) (t11 x) (t13 x) (t14 x) (t39 x) (t40 x) (t41 x) (m x))) : Tri Tryd.prog KK 110 0 (.loop c7_0) s (q7_0 R) :=
  Tri.weak hw (Tri.loops fol I (fun x => h7_0 (t2 x) (t3 x) (t10 x) (t11 x) (t13 x) (t14 x) (t39 x) (t40 x) (t41 x) (m x)) μ (fun x hx => (B7_0_eq (t2 x) (t3 x) (t10 x) (t11 x) (t13 x) (t14 x) (t39 x) (t40 x) (t41 x) (m x) R _).mpr (step x hx)) x hx)
noncomputable def B7_1 (t2 : Int) (t3 : Int) (t10 : Bool) (t11 : AV) (t13 : AV) (t14 : AV) (t57 : AV) (t58 : Int) (t59 : Int) (m : Mem) (R : AV → Mem → Prop) (N0 : St → Prop) : Prop :=
bif (decide (t59 < t58)) then (
opP (idxS 6 t57 (intA t59)) fun v30 =>
opP (ldA (mget m) 6 v30) fun v31 =>
exA6 v31 fun c32 c33 c34 c35 c36 c37 =>
ex_i64 c32 fun z38 =>
ex_i64 c33 fun z39 =>
ex_i64 c34 fun z40 =>
ex_i64 c35 fun z41 =>
ex_i64 c36 fun z42 =>
ex_i64 c37 fun z43 =>
bif (decide (z38 ≤ t3)) then (
N0 ⟨[(2, (intA t2)), (3, (intA t3)), (10, (boolA t10)), (11, t11), (13, t13), (14, t14), (57, t57), (58, (intA t58)), (59, (intA (IntKind.wrap .i64 (t59 + (1))))), (60, (boolA (decide (t59 < t58)))), (61, (intA t59)), (62, v30), (63, (AV.agg [(intA z38), (intA z39), (intA z40), (intA z41), (intA z42), (intA z43)])), (18, (AV.ptr 200004 0)), (17, (intA t59)), (64, (AV.ptr 200004 0)), (65, (AV.ptr 200004 0)), (66, (intA z38)), (67, (intA t3)), (68, (boolA (decide (z38 ≤ t3)))), (106, (intA (IntKind.wrap .i64 (t59 + (1)))))], ((200004, some ⟨[(intA z38), (intA z39), (intA z40), (intA z41), (intA z42), (intA z43)], 40⟩) :: (200004, some ⟨[(intA (0)), (intA (0)), (intA (0)), (intA (0)), (intA (0)), (intA (0))], 40⟩) :: m), 200014⟩) else (
opN (bsl 200016 29 2 1 [(intA (0)), (intA (0))] [(0, (AV.agg [(intA z39), (intA z40)]))]) ((200004, some ⟨[(intA z38), (intA z39), (intA z40), (intA z41), (intA z42), (intA z43)], 40⟩) :: (200004, some ⟨[(intA (0)), (intA (0)), (intA (0)), (intA (0)), (intA (0)), (intA (0))], 40⟩) :: m) fun v44 m44 =>
opN (app (mget m44) 29 2 16 [(intA (0)), (intA (0))] 200017 t14 v44) m44 fun v45 m45 =>
bif (t59 == (0)) then (
retL R m45 [some (boolA false)]) else (
opP (idxS 6 t11 (intA (IntKind.wrap .i64 (t59 - (1))))) fun v46 =>
opP (fldO 0 v46) fun v47 =>
opP (fldO 1 v47) fun v48 =>
opP (ldA (mget m45) 2 v48) fun v49 =>
exA2 v49 fun c50 c51 =>
ex_i64 c50 fun z52 =>
ex_i64 c51 fun z53 =>
opP (ldA (mget m45) 2 (AV.ptr 200004 1)) fun v54 =>
exA2 v54 fun c55 c56 =>
ex_i64 c55 fun z57 =>
ex_i64 c56 fun z58 =>
callQ Tryd.prog KK.gl m45 17 [(AV.agg [(intA z52), (intA z53)]), (AV.agg [(intA z57), (intA z58)])] fun v59 =>
exT2 v59 fun c60 c61 =>
ex_i64 c60 fun z62 =>
ex_i64 c61 fun z63 =>
opP (ldS (mget m45) (AV.ptr 200004 0)) fun v64 =>
ex_i64 v64 fun z65 =>
opP (idxS 6 t11 (intA (IntKind.wrap .i64 (t59 - (1))))) fun v66 =>
opP (fldO 0 v66) fun v67 =>
opP (fldO 0 v67) fun v68 =>
opP (ldS (mget m45) v68) fun v69 =>
ex_i64 v69 fun z70 =>
bif (decide (z62 > (IntKind.wrap .i64 (t2 * (IntKind.wrap .i64 (z65 - z70)))))) then (
retL R m45 [some (boolA false)]) else (
N0 ⟨[(2, (intA t2)), (3, (intA t3)), (10, (boolA t10)), (11, t11), (13, t13), (14, v45), (57, t57), (58, (intA t58)), (59, (intA (IntKind.wrap .i64 (t59 + (1))))), (60, (boolA (decide (t59 < t58)))), (61, (intA t59)), (62, v30), (63, (AV.agg [(intA z38), (intA z39), (intA z40), (intA z41), (intA z42), (intA z43)])), (18, (AV.ptr 200004 0)), (17, (intA t59)), (64, (AV.ptr 200004 0)), (65, (AV.ptr 200004 0)), (66, (intA z38)), (67, (intA t3)), (68, (boolA (decide (z38 ≤ t3)))), (69, t14), (70, (AV.ptr 200004 0)), (71, (AV.ptr 200004 1)), (72, (AV.agg [(intA z39), (intA z40)])), (73, v44), (74, v45), (75, (intA t59)), (76, (boolA (t59 == (0)))), (78, t11), (79, (intA t59)), (80, (intA (IntKind.wrap .i64 (t59 - (1))))), (81, v46), (82, v47), (83, v48), (84, (AV.agg [(intA z52), (intA z53)])), (85, (AV.ptr 200004 0)), (86, (AV.ptr 200004 1)), (87, (AV.agg [(intA z57), (intA z58)])), (88, (AV.tup [(intA z62), (intA z63)])), (77, (AV.tup [(intA z62), (intA z63)])), (89, (intA z62)), (90, (intA z63)), (19, (intA z62)), (20, (intA z63)), (91, (intA z62)), (92, (intA t2)), (93, (AV.ptr 200004 0)), (94, (AV.ptr 200004 0)), (95, (intA z65)), (96, t11), (97, (intA t59)), (98, (intA (IntKind.wrap .i64 (t59 - (1))))), (99, v66), (100, v67), (101, v68), (102, (intA z70)), (103, (intA (IntKind.wrap .i64 (z65 - z70)))), (104, (intA (IntKind.wrap .i64 (t2 * (IntKind.wrap .i64 (z65 - z70)))))), (105, (boolA (decide (z62 > (IntKind.wrap .i64 (t2 * (IntKind.wrap .i64 (z65 - z70)))))))), (106, (intA (IntKind.wrap .i64 (t59 + (1)))))], m45, 200054⟩)))) else (
callQ Tryd.prog KK.gl m 18 [t13, t14] fun v71 =>
exB v71 fun b72 =>
retL R m [some (boolA b72)])
theorem B7_1_eq (t2 : Int) (t3 : Int) (t10 : Bool) (t11 : AV) (t13 : AV) (t14 : AV) (t57 : AV) (t58 : Int) (t59 : Int) (m : Mem) (R : AV → Mem → Prop) (N0 : St → Prop) : W Tryd.prog KK 110 0 c7_1 (h7_1 t2 t3 t10 t11 t13 t14 t57 t58 t59 m) (qq7_1 R N0) = B7_1 t2 t3 t10 t11 t13 t14 t57 t58 t59 m R N0 := by kernel_rfl
theorem L7_1 (R : AV → Mem → Prop) {σ : Type} (I : σ → Prop) (t2 : σ → Int) (t3 : σ → Int) (t10 : σ → Bool) (t11 : σ → AV) (t13 : σ → AV) (t14 : σ → AV) (t57 : σ → AV) (t58 : σ → Int) (t59 : σ → Int) (m : σ → Mem) (μ : σ → Nat) (step : ∀ x, I x → B7_1 (t2 x) (t3 x) (t10 x) (t11 x) (t13 x) (t14 x) (t57 x) (t58 x) (t59 x) (m x) R (fun s' => ∃ y, I y ∧ μ y < μ x ∧ Weak KK 110 0 s' (h7_1 (t2 y) (t3 y) (t10 y) (t11 y) (t13 y) (t14 y) (t57 y) (t58 y) (t59 y) (m y)))) (x : σ) (hx : I x) {s : St} (hw : Weak KK 110 0 s (h7_1 (t2 x) (t3 x) (t10 x) (t11 x) (t13 x) (t14 x) (t57 x) (t58 x) (t59 x) (m x))) : Tri Tryd.prog KK 110 0 (.loop c7_1) s (q7_1 R) :=
  Tri.weak hw (Tri.loops fol I (fun x => h7_1 (t2 x) (t3 x) (t10 x) (t11 x) (t13 x) (t14 x) (t57 x) (t58 x) (t59 x) (m x)) μ (fun x hx => (B7_1_eq (t2 x) (t3 x) (t10 x) (t11 x) (t13 x) (t14 x) (t57 x) (t58 x) (t59 x) (m x) R _).mpr (step x hx)) x hx)
noncomputable def F7 (a0 : AV) (a1 : ByteArray) (a2 : Int) (a3 : Int) (a4_0 : ByteArray) (a4_1 : Int) (a4_2 : Int) (a4_3 : Int) (a4_4 : Int) (a4_5 : Int) (a4_6 : Int) (R : AV → Mem → Prop) : Prop :=
callQ Tryd.prog KK.gl ((0, some ⟨[(AV.sc (.string a4_0)), (intA a4_1), (intA a4_2), (intA a4_3), (intA a4_4), (intA a4_5), (intA a4_6)], 27⟩) :: []) 9 [] fun v0 =>
exB v0 fun b1 =>
bif (!b1) then (
retL R ((0, some ⟨[(AV.sc (.string a4_0)), (intA a4_1), (intA a4_2), (intA a4_3), (intA a4_4), (intA a4_5), (intA a4_6)], 27⟩) :: []) [some (boolA false)]) else (
opP (bld [(AV.sc (.string ⟨#[]⟩)), (intA (0)), (intA (0)), (AV.sc (.string ⟨#[]⟩))] [(0, 1), (1, 1), (2, 1), (3, 1)] [(0, (AV.sc (.string a1))), (1, (intA (2))), (2, (intA a2))]) fun v2 =>
opP (bld [(intA (0)), (intA (0))] [(0, 1), (1, 1)] []) fun v3 =>
callQ Tryd.prog KK.gl ((0, some ⟨[(AV.sc (.string a4_0)), (intA a4_1), (intA a4_2), (intA a4_3), (intA a4_4), (intA a4_5), (intA a4_6)], 27⟩) :: []) 11 [a0, v2, (intA a3), (AV.agg [(AV.sc (.string a4_0)), (intA a4_1), (intA a4_2), (intA a4_3), (intA a4_4), (intA a4_5), (intA a4_6)]), v3] fun v4 =>
exT2 v4 fun c5 c6 =>
ex_i64 c6 fun z7 =>
bif (z7 != (0)) then (
opP (lenS c5) fun v8 =>
ex_i64 v8 fun z9 =>
retL R ((0, some ⟨[(AV.sc (.string a4_0)), (intA a4_1), (intA a4_2), (intA a4_3), (intA a4_4), (intA a4_5), (intA a4_6)], 27⟩) :: []) [some (boolA (z9 == (0)))]) else (
opP (lenS a0) fun v10 =>
ex_i64 v10 fun z11 =>
Tri Tryd.prog KK 110 0 (.loop c7_0) ⟨[(0, a0), (1, (AV.sc (.string a1))), (2, (intA a2)), (3, (intA a3)), (4, (AV.agg [(AV.sc (.string a4_0)), (intA a4_1), (intA a4_2), (intA a4_3), (intA a4_4), (intA a4_5), (intA a4_6)])), (9, (AV.ptr 0 0)), (10, (boolA false)), (21, (boolA b1)), (22, (boolA (!b1))), (24, a0), (25, (AV.sc (.string a1))), (26, (intA a2)), (27, v2), (28, (intA a3)), (29, (AV.agg [(AV.sc (.string a4_0)), (intA a4_1), (intA a4_2), (intA a4_3), (intA a4_4), (intA a4_5), (intA a4_6)])), (30, v3), (31, (AV.tup [c5, (intA z7)])), (23, (AV.tup [c5, (intA z7)])), (32, c5), (33, (intA z7)), (11, c5), (12, (intA z7)), (34, (intA z7)), (35, (boolA (z7 != (0)))), (13, AV.nils), (14, AV.nils), (39, a0), (40, (intA z11)), (41, (intA (0)))], ((0, some ⟨[(AV.sc (.string a4_0)), (intA a4_1), (intA a4_2), (intA a4_3), (intA a4_4), (intA a4_5), (intA a4_6)], 27⟩) :: []), 150⟩ (q7_0 R)))
theorem F7_own (a0 : AV) (a1 : ByteArray) (a2 : Int) (a3 : Int) (a4_0 : ByteArray) (a4_1 : Int) (a4_2 : Int) (a4_3 : Int) (a4_4 : Int) (a4_5 : Int) (a4_6 : Int) (R : AV → Mem → Prop) (h : F7 a0 a1 a2 a3 a4_0 a4_1 a4_2 a4_3 a4_4 a4_5 a4_6 R) : Own Tryd.prog KK.gl 7 [a0, (AV.sc (.string a1)), (intA a2), (intA a3), (AV.agg [(AV.sc (.string a4_0)), (intA a4_1), (intA a4_2), (intA a4_3), (intA a4_4), (intA a4_5), (intA a4_6)])] R := own_of_F fol Tryd.func7 (code := c7) (by kernel_rfl) (by kernel_rfl) (by kernel_rfl) (X := F7 a0 a1 a2 a3 a4_0 a4_1 a4_2 a4_3 a4_4 a4_5 a4_6 R) (by kernel_rfl) h
/- skyway/skywaykeep3.pick -/
noncomputable def c19 : Code := ((Tryd.f19).body).getD .skip
noncomputable def q19 (R : AV → Mem → Prop) : AExit → St → Prop := retQ Tryd.prog Tryd.f19 R
noncomputable def F19 (a0 : Int) (a1 : Int) (R : AV → Mem → Prop) : Prop :=
opP (opA Tryd.prog (.convert 3 75 (.tmp 0)) 75 [(intA a0)] (mget []) 2) fun v0 =>
ex_u64 v0 fun z1 =>
opP (opA Tryd.prog (.convert 3 75 (.tmp 0)) 75 [(intA a1)] (mget []) 4) fun v2 =>
ex_u64 v2 fun z3 =>
opP (opA Tryd.prog (.binOp .rem 75 (.tmp 0) (.tmp 1) 75) 75 [(AV.sc (.int .u64 z1)), (AV.sc (.int .u64 z3))] (mget []) 5) fun v4 =>
ex_u64 v4 fun z5 =>
opP (opA Tryd.prog (.convert 75 3 (.tmp 0)) 3 [(AV.sc (.int .u64 z5))] (mget []) 6) fun v6 =>
ex_i64 v6 fun z7 =>
retL R [] [some (intA z7)]
theorem F19_own (a0 : Int) (a1 : Int) (R : AV → Mem → Prop) (h : F19 a0 a1 R) : Own Tryd.prog KK.gl 19 [(intA a0), (intA a1)] R := own_of_F fol Tryd.func19 (code := c19) (by kernel_rfl) (by kernel_rfl) (by kernel_rfl) (X := F19 a0 a1 R) (by kernel_rfl) h
/- slices.Equal[skyway/api.Tube,skyway/api.TubeNode] -/
noncomputable def c20 : Code := ((Tryd.f20).body).getD .skip
noncomputable def q20 (R : AV → Mem → Prop) : AExit → St → Prop := retQ Tryd.prog Tryd.f20 R
noncomputable def c20_0 : Code := loopB c20 0
noncomputable def q20_0 (R : AV → Mem → Prop) : AExit → St → Prop := contW Tryd.prog KK 26 0 c20 0 (q20 R)
noncomputable def qq20_0 (R : AV → Mem → Prop) (N0 : St → Prop) : AExit → St → Prop := thenQ N0 (q20_0 R)
def h20_0 (t0 : AV) (t1 : AV) (t4 : Bool) (t12 : Int) (t13 : Int) (m : Mem) : St := ⟨[(0, t0), (1, t1), (4, (boolA t4)), (12, (intA t12)), (13, (intA t13))], m, 100000⟩
noncomputable def B20_0 (t0 : AV) (t1 : AV) (t4 : Bool) (t12 : Int) (t13 : Int) (m : Mem) (R : AV → Mem → Prop) (N0 : St → Prop) : Prop :=
bif (decide (t13 < t12)) then (
opP (idxS 6 t0 (intA t13)) fun v6 =>
opP (ldA (mget m) 6 v6) fun v7 =>
exA6 v7 fun c8 c9 c10 c11 c12 c13 =>
ex_i64 c8 fun z14 =>
ex_i64 c9 fun z15 =>
ex_i64 c10 fun z16 =>
ex_i64 c11 fun z17 =>
ex_i64 c12 fun z18 =>
ex_i64 c13 fun z19 =>
opP (idxS 6 t1 (intA t13)) fun v20 =>
opP (ldA (mget m) 6 v20) fun v21 =>
exA6 v21 fun c22 c23 c24 c25 c26 c27 =>
ex_i64 c22 fun z28 =>
ex_i64 c23 fun z29 =>
ex_i64 c24 fun z30 =>
ex_i64 c25 fun z31 =>
ex_i64 c26 fun z32 =>
ex_i64 c27 fun z33 =>
opP (opA Tryd.prog (.binOp .neq 40 (.tmp 0) (.tmp 1) 40) 4 [(AV.agg [(intA z14), (intA z15), (intA z16), (intA z17), (intA z18), (intA z19)]), (AV.agg [(intA z28), (intA z29), (intA z30), (intA z31), (intA z32), (intA z33)])] (mget m) 100011) fun v34 =>
exB v34 fun b35 =>
bif b35 then (
retL R m [some (boolA false)]) else (
N0 ⟨[(0, t0), (1, t1), (4, (boolA t4)), (12, (intA t12)), (13, (intA (IntKind.wrap .i64 (t13 + (1))))), (14, (boolA (decide (t13 < t12)))), (15, (intA t13)), (5, (intA t13)), (16, t0), (17, (intA t13)), (18, v6), (19, (AV.agg [(intA z14), (intA z15), (intA z16), (intA z17), (intA z18), (intA z19)])), (20, t1), (21, (intA t13)), (22, v20), (23, (AV.agg [(intA z28), (intA z29), (intA z30), (intA z31), (intA z32), (intA z33)])), (24, (boolA b35)), (25, (intA (IntKind.wrap .i64 (t13 + (1)))))], m, 100014⟩)) else (
retL R m [some (boolA true)])
theorem B20_0_eq (t0 : AV) (t1 : AV) (t4 : Bool) (t12 : Int) (t13 : Int) (m : Mem) (R : AV → Mem → Prop) (N0 : St → Prop) : W Tryd.prog KK 26 0 c20_0 (h20_0 t0 t1 t4 t12 t13 m) (qq20_0 R N0) = B20_0 t0 t1 t4 t12 t13 m R N0 := by kernel_rfl
theorem L20_0 (R : AV → Mem → Prop) {σ : Type} (I : σ → Prop) (t0 : σ → AV) (t1 : σ → AV) (t4 : σ → Bool) (t12 : σ → Int) (t13 : σ → Int) (m : σ → Mem) (μ : σ → Nat) (step : ∀ x, I x → B20_0 (t0 x) (t1 x) (t4 x) (t12 x) (t13 x) (m x) R (fun s' => ∃ y, I y ∧ μ y < μ x ∧ Weak KK 26 0 s' (h20_0 (t0 y) (t1 y) (t4 y) (t12 y) (t13 y) (m y)))) (x : σ) (hx : I x) {s : St} (hw : Weak KK 26 0 s (h20_0 (t0 x) (t1 x) (t4 x) (t12 x) (t13 x) (m x))) : Tri Tryd.prog KK 26 0 (.loop c20_0) s (q20_0 R) :=
  Tri.weak hw (Tri.loops fol I (fun x => h20_0 (t0 x) (t1 x) (t4 x) (t12 x) (t13 x) (m x)) μ (fun x hx => (B20_0_eq (t0 x) (t1 x) (t4 x) (t12 x) (t13 x) (m x) R _).mpr (step x hx)) x hx)
noncomputable def F20 (a0 : AV) (a1 : AV) (R : AV → Mem → Prop) : Prop :=
opP (lenS a0) fun v0 =>
ex_i64 v0 fun z1 =>
opP (lenS a1) fun v2 =>
ex_i64 v2 fun z3 =>
bif (z1 != z3) then (
retL R [] [some (boolA false)]) else (
opP (lenS a0) fun v4 =>
ex_i64 v4 fun z5 =>
Tri Tryd.prog KK 26 0 (.loop c20_0) ⟨[(0, a0), (1, a1), (4, (boolA false)), (6, a0), (7, (intA z1)), (8, a1), (9, (intA z3)), (10, (boolA (z1 != z3))), (11, a0), (12, (intA z5)), (13, (intA (0)))], [], 9⟩ (q20_0 R))
theorem F20_own (a0 : AV) (a1 : AV) (R : AV → Mem → Prop) (h : F20 a0 a1 R) : Own Tryd.prog KK.gl 20 [a0, a1] R := own_of_F fol Tryd.func20 (code := c20) (by kernel_rfl) (by kernel_rfl) (by kernel_rfl) (X := F20 a0 a1 R) (by kernel_rfl) h
/- skyway/skywaykeep3.EffectNothing -/
noncomputable def c8 : Code := ((Tryd.f8).body).getD .skip
noncomputable def q8 (R : AV → Mem → Prop) : AExit → St → Prop := retQ Tryd.prog Tryd.f8 R
noncomputable def F8 (a0 : AV) (a1_0 : ByteArray) (a1_1 : Int) (a1_2 : Int) (a1_3 : ByteArray) (a2 : Int) (a3_0 : ByteArray) (a3_1 : Int) (a3_2 : Int) (a3_3 : Int) (a3_4 : Int) (a3_5 : Int) (a3_6 : Int) (R : AV → Mem → Prop) : Prop :=
callQ Tryd.prog KK.gl ((1, some ⟨[(AV.sc (.string a3_0)), (intA a3_1), (intA a3_2), (intA a3_3), (intA a3_4), (intA a3_5), (intA a3_6)], 27⟩) :: (0, some ⟨[(AV.sc (.string a1_0)), (intA a1_1), (intA a1_2), (AV.sc (.string a1_3))], 25⟩) :: []) 9 [] fun v0 =>
exB v0 fun b1 =>
bif (!b1) then (
retL R ((1, some ⟨[(AV.sc (.string a3_0)), (intA a3_1), (intA a3_2), (intA a3_3), (intA a3_4), (intA a3_5), (intA a3_6)], 27⟩) :: (0, some ⟨[(AV.sc (.string a1_0)), (intA a1_1), (intA a1_2), (AV.sc (.string a1_3))], 25⟩) :: []) [some (boolA false)]) else (
opN (bsl 69 23 1 1 [AV.nils] [(0, a0)]) ((1, some ⟨[(AV.sc (.string a3_0)), (intA a3_1), (intA a3_2), (intA a3_3), (intA a3_4), (intA a3_5), (intA a3_6)], 27⟩) :: (0, some ⟨[(AV.sc (.string a1_0)), (intA a1_1), (intA a1_2), (AV.sc (.string a1_3))], 25⟩) :: []) fun v2 m2 =>
callQ Tryd.prog KK.gl m2 10 [v2, (intA (1)), (intA (400))] fun v3 =>
exB v3 fun b4 =>
bif (!b4) then (
retL R m2 [some (boolA true)]) else (
opP (ldS (mget m2) (AV.ptr 0 1)) fun v5 =>
ex_i64 v5 fun z6 =>
callQ Tryd.prog KK.gl m2 19 [(intA z6), (intA (3))] fun v7 =>
ex_i64 v7 fun z8 =>
storeW Tryd.prog (mget m2) 3 (AV.ptr 0 1) (intA (IntKind.wrap .i64 ((4) + z8))) fun v9 d9 =>
opP (ldA (mget (mpushs m2 d9)) 4 (AV.ptr 0 0)) fun v10 =>
exA4 v10 fun c11 c12 c13 c14 =>
exStr c11 fun s15 =>
ex_i64 c12 fun z16 =>
ex_i64 c13 fun z17 =>
exStr c14 fun s18 =>
opP (ldA (mget (mpushs m2 d9)) 7 (AV.ptr 1 0)) fun v19 =>
exA7 v19 fun c20 c21 c22 c23 c24 c25 c26 =>
exStr c20 fun s27 =>
ex_i64 c21 fun z28 =>
ex_i64 c22 fun z29 =>
ex_i64 c23 fun z30 =>
ex_i64 c24 fun z31 =>
ex_i64 c25 fun z32 =>
ex_i64 c26 fun z33 =>
opP (bld [(intA (0)), (intA (0))] [(0, 1), (1, 1)] []) fun v34 =>
callQ Tryd.prog KK.gl (mpushs m2 d9) 11 [a0, (AV.agg [(AV.sc (.string s15)), (intA z16), (intA z17), (AV.sc (.string s18))]), (intA a2), (AV.agg [(AV.sc (.string s27)), (intA z28), (intA z29), (intA z30), (intA z31), (intA z32), (intA z33)]), v34] fun v35 =>
exT2 v35 fun c36 c37 =>
ex_i64 c37 fun z38 =>
bif (z38 != (0)) then (
opP (lenS c36) fun v39 =>
ex_i64 v39 fun z40 =>
retL R (mpushs m2 d9) [some (boolA (z40 == (0)))]) else (
callQ Tryd.prog KK.gl (mpushs m2 d9) 16 [a0, c36] fun v41 =>
exT2 v41 fun c42 c43 =>
ex_i64 c42 fun z44 =>
ex_i64 c43 fun z45 =>
bif (z45 == (8)) then (
callQ Tryd.prog KK.gl (mpushs m2 d9) 20 [a0, c36] fun v46 =>
exB v46 fun b47 =>
retL R (mpushs m2 d9) [some (boolA b47)]) else (
retL R (mpushs m2 d9) [some (boolA false)]))))
theorem F8_own (a0 : AV) (a1_0 : ByteArray) (a1_1 : Int) (a1_2 : Int) (a1_3 : ByteArray) (a2 : Int) (a3_0 : ByteArray) (a3_1 : Int) (a3_2 : Int) (a3_3 : Int) (a3_4 : Int) (a3_5 : Int) (a3_6 : Int) (R : AV → Mem → Prop) (h : F8 a0 a1_0 a1_1 a1_2 a1_3 a2 a3_0 a3_1 a3_2 a3_3 a3_4 a3_5 a3_6 R) : Own Tryd.prog KK.gl 8 [a0, (AV.agg [(AV.sc (.string a1_0)), (intA a1_1), (intA a1_2), (AV.sc (.string a1_3))]), (intA a2), (AV.agg [(AV.sc (.string a3_0)), (intA a3_1), (intA a3_2), (intA a3_3), (intA a3_4), (intA a3_5), (intA a3_6)])] R := own_of_F fol Tryd.func8 (code := c8) (by kernel_rfl) (by kernel_rfl) (by kernel_rfl) (X := F8 a0 a1_0 a1_1 a1_2 a1_3 a2 a3_0 a3_1 a3_2 a3_3 a3_4 a3_5 a3_6 R) (by kernel_rfl) h
/- slices.Clone[skyway/api.Tube,skyway/api.TubeNode] -/
noncomputable def c32 : Code := ((Tryd.f32).body).getD .skip
noncomputable def q32 (R : AV → Mem → Prop) : AExit → St → Prop := retQ Tryd.prog Tryd.f32 R
noncomputable def F32 (a0 : AV) (R : AV → Mem → Prop) : Prop :=
nilK a0 fun b0 =>
bif b0 then (
retL R [] [some AV.nils]) else (
opN (bsl 3 40 6 0 [(intA (0)), (intA (0)), (intA (0)), (intA (0)), (intA (0)), (intA (0))] []) [] fun v2 m2 =>
opN (app (mget m2) 40 6 48 [(intA (0)), (intA (0)), (intA (0)), (intA (0)), (intA (0)), (intA (0))] 5 v2 a0) m2 fun v3 m3 =>
retL R m3 [some v3])
theorem F32_own (a0 : AV) (R : AV → Mem → Prop) (h : F32 a0 R) : Own Tryd.prog KK.gl 32 [a0] R := own_of_F fol Tryd.func32 (code := c32) (by kernel_rfl) (by kernel_rfl) (by kernel_rfl) (X := F32 a0 R) (by kernel_rfl) h
/- slices.Concat[skyway/api.Tube,skyway/api.TubeNode] -/
noncomputable def c33 : Code := ((Tryd.f33).body).getD .skip
noncomputable def q33 (R : AV → Mem → Prop) : AExit → St → Prop := retQ Tryd.prog Tryd.f33 R
noncomputable def c33_0 : Code := loopB c33 0
noncomputable def q33_0 (R : AV → Mem → Prop) : AExit → St → Prop := contW Tryd.prog KK 36 0 c33 0 (q33 R)
noncomputable def qq33_0 (R : AV → Mem → Prop) (N0 : St → Prop) : AExit → St → Prop := thenQ N0 (q33_0 R)
def h33_0 (t0 : AV) (t2 : AV) (t3 : Int) (t9 : AV) (t10 : Int) (t11 : Int) (m : Mem) : St := ⟨[(0, t0), (2, t2), (3, (intA t3)), (9, t9), (10, (intA t10)), (11, (intA t11))], m, 100000⟩
noncomputable def c33_1 : Code := loopB c33 1
noncomputable def q33_1 (R : AV → Mem → Prop) : AExit → St → Prop := contW Tryd.prog KK 36 0 c33 1 (q33 R)
noncomputable def qq33_1 (R : AV → Mem → Prop) (N0 : St → Prop) : AExit → St → Prop := thenQ N0 (q33_1 R)
def h33_1 (t2 : AV) (t6 : AV) (t25 : AV) (t26 : Int) (t27 : Int) (m : Mem) : St := ⟨[(2, t2), (6, t6), (25, t25), (26, (intA t26)), (27, (intA t27))], m, 200000⟩
noncomputable def B33_0 (t0 : AV) (t2 : AV) (t3 : Int) (t9 : AV) (t10 : Int) (t11 : Int) (m : Mem) (R : AV → Mem → Prop) (N0 : St → Prop) : Prop :=
bif (decide (t11 < t10)) then (
opP (idxS 1 t9 (intA t11)) fun v2 =>
opP (ldS (mget m) v2) fun v3 =>
opP (lenS v3) fun v4 =>
ex_i64 v4 fun z5 =>
bif (decide ((IntKind.wrap .i64 (t3 + z5)) < (0))) then (
opP (opA Tryd.prog (.makeInterface 9 (.tmp 0)) 20 [(AV.sc (.string ⟨#[108, 101, 110, 32, 111, 117, 116, 32, 111, 102, 32, 114, 97, 110, 103, 101]⟩))] (mget m) 100011) fun v6 =>
opP (opA Tryd.prog (.panic (.tmp 0)) 0 [v6] (mget m) 100012) fun v7 =>
N0 ⟨[(0, t0), (2, t2), (3, (intA (IntKind.wrap .i64 (t3 + z5)))), (9, t9), (10, (intA t10)), (11, (intA (IntKind.wrap .i64 (t11 + (1))))), (12, (boolA (decide (t11 < t10)))), (13, v2), (14, v3), (5, v3), (15, (intA t3)), (16, v3), (17, (intA z5)), (18, (intA (IntKind.wrap .i64 (t3 + z5)))), (19, (intA (IntKind.wrap .i64 (t3 + z5)))), (20, (boolA (decide ((IntKind.wrap .i64 (t3 + z5)) < (0))))), (21, v6), (22, (intA (IntKind.wrap .i64 (t11 + (1)))))], m, 100015⟩) else (
N0 ⟨[(0, t0), (2, t2), (3, (intA (IntKind.wrap .i64 (t3 + z5)))), (9, t9), (10, (intA t10)), (11, (intA (IntKind.wrap .i64 (t11 + (1))))), (12, (boolA (decide (t11 < t10)))), (13, v2), (14, v3), (5, v3), (15, (intA t3)), (16, v3), (17, (intA z5)), (18, (intA (IntKind.wrap .i64 (t3 + z5)))), (19, (intA (IntKind.wrap .i64 (t3 + z5)))), (20, (boolA (decide ((IntKind.wrap .i64 (t3 + z5)) < (0))))), (22, (intA (IntKind.wrap .i64 (t11 + (1)))))], m, 100013⟩)) else (
callW Tryd.prog KK.gl m 100002 46 [AV.nils, (intA t3)] fun v8 m8 =>
opP (lenS t0) fun v9 =>
ex_i64 v9 fun z10 =>
Tri Tryd.prog KK 36 0 (.loop c33_1) ⟨[(0, t0), (2, t2), (3, (intA t3)), (9, t9), (10, (intA t10)), (11, (intA t11)), (12, (boolA (decide (t11 < t10)))), (23, (intA t3)), (24, v8), (6, v8), (25, t0), (26, (intA z10)), (27, (intA (0)))], m8, 100070⟩ (q33_1 R))
theorem B33_0_eq (t0 : AV) (t2 : AV) (t3 : Int) (t9 : AV) (t10 : Int) (t11 : Int) (m : Mem) (R : AV → Mem → Prop) (N0 : St → Prop) : W Tryd.prog KK 36 0 c33_0 (h33_0 t0 t2 t3 t9 t10 t11 m) (qq33_0 R N0) = B33_0 t0 t2 t3 t9 t10 t11 m R N0 := by kernel_rfl
theorem L33_0 (R : AV → Mem → Prop) {σ : Type} (I : σ → Prop) (t0 : σ → AV) (t2 : σ → AV) (t3 : σ → Int) (t9 : σ → AV) (t10 : σ → Int) (t11 : σ → Int) (m : σ → Mem) (μ : σ → Nat) (step : ∀ x, I x → B33_0 (t0 x) (t2 x) (t3 x) (t9 x) (t10 x) (t11 x) (m x) R (fun s' => ∃ y, I y ∧ μ y < μ x ∧ Weak KK 36 0 s' (h33_0 (t0 y) (t2 y) (t3 y) (t9 y) (t10 y) (t11 y) (m y)))) (x : σ) (hx : I x) {s : St} (hw : Weak KK 36 0 s (h33_0 (t0 x) (t2 x) (t3 x) (t9 x) (t10 x) (t11 x) (m x))) : Tri Tryd.prog KK 36 0 (.loop c33_0) s (q33_0 R) :=
  Tri.weak hw (Tri.loops fol I (fun x => h33_0 (t0 x) (t2 x) (t3 x) (t9 x) (t10 x) (t11 x) (m x)) μ (fun x hx => (B33_0_eq (t0 x) (t2 x) (t3 x) (t9 x) (t10 x) (t11 x) (m x) R _).mpr (step x hx)) x hx)
noncomputable def B33_1 (t2 : AV) (t6 : AV) (t25 : AV) (t26 : Int) (t27 : Int) (m : Mem) (R : AV → Mem → Prop) (N0 : St → Prop) : Prop :=
bif (decide (t27 < t26)) then (
opP (idxS 1 t25 (intA t27)) fun v11 =>
opP (ldS (mget m) v11) fun v12 =>
opN (app (mget m) 40 6 48 [(intA (0)), (intA (0)), (intA (0)), (intA (0)), (intA (0)), (intA (0))] 200006 t6 v12) m fun v13 m13 =>
N0 ⟨[(2, t2), (6, v13), (25, t25), (26, (intA t26)), (27, (intA (IntKind.wrap .i64 (t27 + (1))))), (28, (boolA (decide (t27 < t26)))), (29, v11), (30, v12), (8, v12), (31, t6), (32, v12), (33, v13), (34, (intA (IntKind.wrap .i64 (t27 + (1)))))], m13, 200010⟩) else (
retL R m [some t6])
theorem B33_1_eq (t2 : AV) (t6 : AV) (t25 : AV) (t26 : Int) (t27 : Int) (m : Mem) (R : AV → Mem → Prop) (N0 : St → Prop) : W Tryd.prog KK 36 0 c33_1 (h33_1 t2 t6 t25 t26 t27 m) (qq33_1 R N0) = B33_1 t2 t6 t25 t26 t27 m R N0 := by kernel_rfl
theorem L33_1 (R : AV → Mem → Prop) {σ : Type} (I : σ → Prop) (t2 : σ → AV) (t6 : σ → AV) (t25 : σ → AV) (t26 : σ → Int) (t27 : σ → Int) (m : σ → Mem) (μ : σ → Nat) (step : ∀ x, I x → B33_1 (t2 x) (t6 x) (t25 x) (t26 x) (t27 x) (m x) R (fun s' => ∃ y, I y ∧ μ y < μ x ∧ Weak KK 36 0 s' (h33_1 (t2 y) (t6 y) (t25 y) (t26 y) (t27 y) (m y)))) (x : σ) (hx : I x) {s : St} (hw : Weak KK 36 0 s (h33_1 (t2 x) (t6 x) (t25 x) (t26 x) (t27 x) (m x))) : Tri Tryd.prog KK 36 0 (.loop c33_1) s (q33_1 R) :=
  Tri.weak hw (Tri.loops fol I (fun x => h33_1 (t2 x) (t6 x) (t25 x) (t26 x) (t27 x) (m x)) μ (fun x hx => (B33_1_eq (t2 x) (t6 x) (t25 x) (t26 x) (t27 x) (m x) R _).mpr (step x hx)) x hx)
noncomputable def F33 (a0 : AV) (R : AV → Mem → Prop) : Prop :=
opP (lenS a0) fun v0 =>
ex_i64 v0 fun z1 =>
Tri Tryd.prog KK 36 0 (.loop c33_0) ⟨[(0, a0), (2, AV.nils), (3, (intA (0))), (9, a0), (10, (intA z1)), (11, (intA (0)))], [], 5⟩ (q33_0 R)
theorem F33_own (a0 : AV) (R : AV → Mem → Prop) (h : F33 a0 R) : Own Tryd.prog KK.gl 33 [a0] R := own_of_F fol Tryd.func33 (code := c33) (by kernel_rfl) (by kernel_rfl) (by kernel_rfl) (X := F33 a0 R) (by kernel_rfl) h
/- slices.Grow[skyway/api.Tube,skyway/api.TubeNode] -/
noncomputable def c46 : Code := ((Tryd.f46).body).getD .skip
noncomputable def q46 (R : AV → Mem → Prop) : AExit → St → Prop := retQ Tryd.prog Tryd.f46 R
noncomputable def F46 (a0 : AV) (a1 : Int) (R : AV → Mem → Prop) : Prop :=
bif (decide (a1 < (0))) then (
opP (opA Tryd.prog (.makeInterface 9 (.tmp 0)) 20 [(AV.sc (.string ⟨#[99, 97, 110, 110, 111, 116, 32, 98, 101, 32, 110, 101, 103, 97, 116, 105, 118, 101]⟩))] (mget []) 3) fun v0 =>
opP (opA Tryd.prog (.panic (.tmp 0)) 0 [v0] (mget []) 4) fun v1 =>
opP (opA Tryd.prog (.call ⟨.builtin .cap, #[.tmp 0], #[23]⟩) 3 [a0] (mget []) 7) fun v2 =>
ex_i64 v2 fun z3 =>
opP (lenS a0) fun v4 =>
ex_i64 v4 fun z5 =>
bif (decide ((IntKind.wrap .i64 (a1 - (IntKind.wrap .i64 (z3 - z5)))) > (0))) then (
opP (opA Tryd.prog (.call ⟨.builtin .cap, #[.tmp 0], #[23]⟩) 3 [a0] (mget []) 17) fun v6 =>
ex_i64 v6 fun z7 =>
opP (opA Tryd.prog (.slice 23 (.tmp 0) none (some (.tmp 1)) none) 23 [a0, (intA z7)] (mget []) 18) fun v8 =>
opN (opA Tryd.prog (.call ⟨.builtin .append, #[.tmp 0, .tmp 1], #[23, 3]⟩) 23 [v8, (intA (IntKind.wrap .i64 (a1 - (IntKind.wrap .i64 (z3 - z5)))))] (mget []) 20) [] fun v9 m9 =>
opP (lenS a0) fun v10 =>
ex_i64 v10 fun z11 =>
opP (opA Tryd.prog (.slice 23 (.tmp 0) none (some (.tmp 1)) none) 23 [v9, (intA z11)] (mget m9) 23) fun v12 =>
retL R m9 [some v12]) else (
retL R [] [some a0])) else (
opP (opA Tryd.prog (.call ⟨.builtin .cap, #[.tmp 0], #[23]⟩) 3 [a0] (mget []) 5) fun v13 =>
ex_i64 v13 fun z14 =>
opP (lenS a0) fun v15 =>
ex_i64 v15 fun z16 =>
bif (decide ((IntKind.wrap .i64 (a1 - (IntKind.wrap .i64 (z14 - z16)))) > (0))) then (
opP (opA Tryd.prog (.call ⟨.builtin .cap, #[.tmp 0], #[23]⟩) 3 [a0] (mget []) 15) fun v17 =>
ex_i64 v17 fun z18 =>
opP (opA Tryd.prog (.slice 23 (.tmp 0) none (some (.tmp 1)) none) 23 [a0, (intA z18)] (mget []) 16) fun v19 =>
opN (opA Tryd.prog (.call ⟨.builtin .append, #[.tmp 0, .tmp 1], #[23, 3]⟩) 23 [v19, (intA (IntKind.wrap .i64 (a1 - (IntKind.wrap .i64 (z14 - z16)))))] (mget []) 18) [] fun v20 m20 =>
opP (lenS a0) fun v21 =>
ex_i64 v21 fun z22 =>
opP (opA Tryd.prog (.slice 23 (.tmp 0) none (some (.tmp 1)) none) 23 [v20, (intA z22)] (mget m20) 21) fun v23 =>
retL R m20 [some v23]) else (
retL R [] [some a0]))
theorem F46_own (a0 : AV) (a1 : Int) (R : AV → Mem → Prop) (h : F46 a0 a1 R) : Own Tryd.prog KK.gl 46 [a0, (intA a1)] R := own_of_F fol Tryd.func46 (code := c46) (by kernel_rfl) (by kernel_rfl) (by kernel_rfl) (X := F46 a0 a1 R) (by kernel_rfl) h
/- slices.Insert[skyway/api.Tube,skyway/api.TubeNode] at 1 -/
noncomputable def F55n1 (a0 : AV) (a1 : Int) (a2 : AV) (m : Mem) (R : AV → Mem → Prop) : Prop :=
opP (opA Tryd.prog (.slice 23 (.tmp 0) (some (.tmp 1)) none none) 23 [a0, (intA a1)] (mget m) 4) fun v0 =>
opP (lenS a2) fun v1 =>
ex_i64 v1 fun z2 =>
bif (z2 == (0)) then (
retL R m [some a0]) else (
opP (lenS a0) fun v3 =>
ex_i64 v3 fun z4 =>
bif (a1 == z4) then (
opN (app (mget m) 40 6 48 [(intA (0)), (intA (0)), (intA (0)), (intA (0)), (intA (0)), (intA (0))] 18 a0 a2) m fun v5 m5 =>
retL R m5 [some v5]) else (
opP (opA Tryd.prog (.call ⟨.builtin .cap, #[.tmp 0], #[23]⟩) 3 [a0] (mget m) 20) fun v6 =>
ex_i64 v6 fun z7 =>
bif (decide ((IntKind.wrap .i64 (z4 + z2)) > z7)) then (
opP (opA Tryd.prog (.slice 23 (.tmp 0) none (some (.tmp 1)) none) 23 [a0, (intA a1)] (mget m) 24) fun v8 =>
opN (opA Tryd.prog (.call ⟨.builtin .append, #[.tmp 0, .tmp 1], #[23, 3]⟩) 23 [v8, (intA (IntKind.wrap .i64 ((IntKind.wrap .i64 (z4 + z2)) - a1)))] (mget m) 30) m fun v9 m9 =>
opP (opA Tryd.prog (.slice 23 (.tmp 0) (some (.tmp 1)) none none) 23 [v9, (intA a1)] (mget m9) 34) fun v10 =>
opN (opA Tryd.prog (.call ⟨.builtin .copy, #[.tmp 0, .tmp 1], #[23, 22]⟩) 3 [v10, a2] (mget m9) 36) m9 fun v11 m11 =>
ex_i64 v11 fun z12 =>
opM (opA Tryd.prog (.slice 23 (.tmp 0) (some (.tmp 1)) none none) 23 [v9, (intA (IntKind.wrap .i64 (a1 + z2)))] (look' m11 (topId v9 ++ (topId (intA (IntKind.wrap .i64 (a1 + z2))) ++ ([])))) 41) fun v13 d13 =>
opM (opA Tryd.prog (.slice 23 (.tmp 0) (some (.tmp 1)) none none) 23 [a0, (intA a1)] (look' (mpushs m11 d13) (topId a0 ++ (topId (intA a1) ++ ([])))) 44) fun v14 d14 =>
opM (opA Tryd.prog (.call ⟨.builtin .copy, #[.tmp 0, .tmp 1], #[23, 23]⟩) 3 [v13, v14] (look' (mpushs (mpushs m11 d13) d14) (topId v13 ++ (topId v14 ++ ([])))) 45) fun v15 d15 =>
ex_i64 v15 fun z16 =>
chk (confOk [0, 0, 0, 6, 15, 0, 0, 96, 255] [⟨[], []⟩, ⟨[], []⟩, ⟨[], []⟩, ⟨[], []⟩, ⟨d13, (topId v9 ++ (topId (intA (IntKind.wrap .i64 (a1 + z2))) ++ ([])))⟩, ⟨[], []⟩, ⟨[], []⟩, ⟨d14, (topId a0 ++ (topId (intA a1) ++ ([])))⟩, ⟨d15, (topId v13 ++ (topId v14 ++ ([])))⟩]) (retL R (mpushs (mpushs (mpushs m11 d13) d14) d15) [some v9])) else (
opP (opA Tryd.prog (.slice 23 (.tmp 0) none (some (.tmp 1)) none) 23 [a0, (intA (IntKind.wrap .i64 (z4 + z2)))] (mget m) 26) fun v17 =>
opP (opA Tryd.prog (.slice 23 (.tmp 0) (some (.tmp 1)) none none) 23 [v17, (intA (IntKind.wrap .i64 (a1 + z2)))] (mget m) 33) fun v18 =>
callQ Tryd.prog KK.gl m 60 [a2, v18] fun v19 =>
exB v19 fun b20 =>
bif (!b20) then (
opM (opA Tryd.prog (.slice 23 (.tmp 0) (some (.tmp 1)) none none) 23 [v17, (intA (IntKind.wrap .i64 (a1 + z2)))] (look' m (topId v17 ++ (topId (intA (IntKind.wrap .i64 (a1 + z2))) ++ ([])))) 103) fun v21 d21 =>
opM (opA Tryd.prog (.slice 23 (.tmp 0) (some (.tmp 1)) none none) 23 [v17, (intA a1)] (look' (mpushs m d21) (topId v17 ++ (topId (intA a1) ++ ([])))) 106) fun v22 d22 =>
opM (opA Tryd.prog (.call ⟨.builtin .copy, #[.tmp 0, .tmp 1], #[23, 23]⟩) 3 [v21, v22] (look' (mpushs (mpushs m d21) d22) (topId v21 ++ (topId v22 ++ ([])))) 107) fun v23 d23 =>
ex_i64 v23 fun z24 =>
chk (confOk [0, 0, 0, 6, 15, 0, 0, 96, 255] [⟨[], []⟩, ⟨[], []⟩, ⟨[], []⟩, ⟨[], []⟩, ⟨d21, (topId v17 ++ (topId (intA (IntKind.wrap .i64 (a1 + z2))) ++ ([])))⟩, ⟨[], []⟩, ⟨[], []⟩, ⟨d22, (topId v17 ++ (topId (intA a1) ++ ([])))⟩, ⟨d23, (topId v21 ++ (topId v22 ++ ([])))⟩]) (opP (opA Tryd.prog (.slice 23 (.tmp 0) (some (.tmp 1)) none none) 23 [v17, (intA a1)] (mget (mpushs (mpushs (mpushs m d21) d22) d23)) 110) fun v25 =>
opN (opA Tryd.prog (.call ⟨.builtin .copy, #[.tmp 0, .tmp 1], #[23, 22]⟩) 3 [v25, a2] (mget (mpushs (mpushs (mpushs m d21) d22) d23)) 112) (mpushs (mpushs (mpushs m d21) d22) d23) fun v26 m26 =>
ex_i64 v26 fun z27 =>
retL R m26 [some v17])) else (
opP (opA Tryd.prog (.slice 23 (.tmp 0) (some (.tmp 1)) none none) 23 [v17, (intA z4)] (mget m) 101) fun v28 =>
opN (opA Tryd.prog (.call ⟨.builtin .copy, #[.tmp 0, .tmp 1], #[23, 22]⟩) 3 [v28, a2] (mget m) 103) m fun v29 m29 =>
ex_i64 v29 fun z30 =>
opP (opA Tryd.prog (.slice 23 (.tmp 0) (some (.tmp 1)) none none) 23 [v17, (intA a1)] (mget m29) 106) fun v31 =>
callW Tryd.prog KK.gl m29 108 61 [v31, (intA z2)] fun v32 m32 =>
exT0 v32 <|
retL R m32 [some v17]))))
theorem F55n1_call (a0 : AV) (a1 : Int) (a2 : AV) (m : Mem) (R : AV → Mem → Prop) (h : F55n1 a0 a1 a2 m R) : callN Tryd.prog KK.gl m 1 55 [a0, (intA a1), a2] R := callN_of_F fol Tryd.func55 (code := ((Tryd.f55).body).getD .skip) (by kernel_rfl) (by kernel_rfl) (by kernel_rfl) (X := F55n1 a0 a1 a2 m R) (by kernel_rfl) h
/- slices.Insert[skyway/api.Tube,skyway/api.TubeNode] at 2 -/
noncomputable def F55n2 (a0 : AV) (a1 : Int) (a2 : AV) (m : Mem) (R : AV → Mem → Prop) : Prop :=
opP (opA Tryd.prog (.slice 23 (.tmp 0) (some (.tmp 1)) none none) 23 [a0, (intA a1)] (mget m) 5) fun v0 =>
opP (lenS a2) fun v1 =>
ex_i64 v1 fun z2 =>
bif (z2 == (0)) then (
retL R m [some a0]) else (
opP (lenS a0) fun v3 =>
ex_i64 v3 fun z4 =>
bif (a1 == z4) then (
opN (app (mget m) 40 6 48 [(intA (0)), (intA (0)), (intA (0)), (intA (0)), (intA (0)), (intA (0))] 19 a0 a2) m fun v5 m5 =>
retL R m5 [some v5]) else (
opP (opA Tryd.prog (.call ⟨.builtin .cap, #[.tmp 0], #[23]⟩) 3 [a0] (mget m) 21) fun v6 =>
ex_i64 v6 fun z7 =>
bif (decide ((IntKind.wrap .i64 (z4 + z2)) > z7)) then (
opP (opA Tryd.prog (.slice 23 (.tmp 0) none (some (.tmp 1)) none) 23 [a0, (intA a1)] (mget m) 25) fun v8 =>
opN (opA Tryd.prog (.call ⟨.builtin .append, #[.tmp 0, .tmp 1], #[23, 3]⟩) 23 [v8, (intA (IntKind.wrap .i64 ((IntKind.wrap .i64 (z4 + z2)) - a1)))] (mget m) 31) m fun v9 m9 =>
opP (opA Tryd.prog (.slice 23 (.tmp 0) (some (.tmp 1)) none none) 23 [v9, (intA a1)] (mget m9) 35) fun v10 =>
opN (opA Tryd.prog (.call ⟨.builtin .copy, #[.tmp 0, .tmp 1], #[23, 22]⟩) 3 [v10, a2] (mget m9) 37) m9 fun v11 m11 =>
ex_i64 v11 fun z12 =>
opM (opA Tryd.prog (.slice 23 (.tmp 0) (some (.tmp 1)) none none) 23 [v9, (intA (IntKind.wrap .i64 (a1 + z2)))] (look' m11 (topId v9 ++ (topId (intA (IntKind.wrap .i64 (a1 + z2))) ++ ([])))) 42) fun v13 d13 =>
opM (opA Tryd.prog (.slice 23 (.tmp 0) (some (.tmp 1)) none none) 23 [a0, (intA a1)] (look' (mpushs m11 d13) (topId a0 ++ (topId (intA a1) ++ ([])))) 45) fun v14 d14 =>
opM (opA Tryd.prog (.call ⟨.builtin .copy, #[.tmp 0, .tmp 1], #[23, 23]⟩) 3 [v13, v14] (look' (mpushs (mpushs m11 d13) d14) (topId v13 ++ (topId v14 ++ ([])))) 46) fun v15 d15 =>
ex_i64 v15 fun z16 =>
chk (confOk [0, 0, 0, 6, 15, 0, 0, 96, 255] [⟨[], []⟩, ⟨[], []⟩, ⟨[], []⟩, ⟨[], []⟩, ⟨d13, (topId v9 ++ (topId (intA (IntKind.wrap .i64 (a1 + z2))) ++ ([])))⟩, ⟨[], []⟩, ⟨[], []⟩, ⟨d14, (topId a0 ++ (topId (intA a1) ++ ([])))⟩, ⟨d15, (topId v13 ++ (topId v14 ++ ([])))⟩]) (retL R (mpushs (mpushs (mpushs m11 d13) d14) d15) [some v9])) else (
opP (opA Tryd.prog (.slice 23 (.tmp 0) none (some (.tmp 1)) none) 23 [a0, (intA (IntKind.wrap .i64 (z4 + z2)))] (mget m) 27) fun v17 =>
opP (opA Tryd.prog (.slice 23 (.tmp 0) (some (.tmp 1)) none none) 23 [v17, (intA (IntKind.wrap .i64 (a1 + z2)))] (mget m) 34) fun v18 =>
callQ Tryd.prog KK.gl m 60 [a2, v18] fun v19 =>
exB v19 fun b20 =>
bif (!b20) then (
opM (opA Tryd.prog (.slice 23 (.tmp 0) (some (.tmp 1)) none none) 23 [v17, (intA (IntKind.wrap .i64 (a1 + z2)))] (look' m (topId v17 ++ (topId (intA (IntKind.wrap .i64 (a1 + z2))) ++ ([])))) 104) fun v21 d21 =>
opM (opA Tryd.prog (.slice 23 (.tmp 0) (some (.tmp 1)) none none) 23 [v17, (intA a1)] (look' (mpushs m d21) (topId v17 ++ (topId (intA a1) ++ ([])))) 107) fun v22 d22 =>
opM (opA Tryd.prog (.call ⟨.builtin .copy, #[.tmp 0, .tmp 1], #[23, 23]⟩) 3 [v21, v22] (look' (mpushs (mpushs m d21) d22) (topId v21 ++ (topId v22 ++ ([])))) 108) fun v23 d23 =>
ex_i64 v23 fun z24 =>
chk (confOk [0, 0, 0, 6, 15, 0, 0, 96, 255] [⟨[], []⟩, ⟨[], []⟩, ⟨[], []⟩, ⟨[], []⟩, ⟨d21, (topId v17 ++ (topId (intA (IntKind.wrap .i64 (a1 + z2))) ++ ([])))⟩, ⟨[], []⟩, ⟨[], []⟩, ⟨d22, (topId v17 ++ (topId (intA a1) ++ ([])))⟩, ⟨d23, (topId v21 ++ (topId v22 ++ ([])))⟩]) (opP (opA Tryd.prog (.slice 23 (.tmp 0) (some (.tmp 1)) none none) 23 [v17, (intA a1)] (mget (mpushs (mpushs (mpushs m d21) d22) d23)) 111) fun v25 =>
opN (opA Tryd.prog (.call ⟨.builtin .copy, #[.tmp 0, .tmp 1], #[23, 22]⟩) 3 [v25, a2] (mget (mpushs (mpushs (mpushs m d21) d22) d23)) 113) (mpushs (mpushs (mpushs m d21) d22) d23) fun v26 m26 =>
ex_i64 v26 fun z27 =>
retL R m26 [some v17])) else (
opP (opA Tryd.prog (.slice 23 (.tmp 0) (some (.tmp 1)) none none) 23 [v17, (intA z4)] (mget m) 102) fun v28 =>
opN (opA Tryd.prog (.call ⟨.builtin .copy, #[.tmp 0, .tmp 1], #[23, 22]⟩) 3 [v28, a2] (mget m) 104) m fun v29 m29 =>
ex_i64 v29 fun z30 =>
opP (opA Tryd.prog (.slice 23 (.tmp 0) (some (.tmp 1)) none none) 23 [v17, (intA a1)] (mget m29) 107) fun v31 =>
callW Tryd.prog KK.gl m29 109 61 [v31, (intA z2)] fun v32 m32 =>
exT0 v32 <|
retL R m32 [some v17]))))
theorem F55n2_call (a0 : AV) (a1 : Int) (a2 : AV) (m : Mem) (R : AV → Mem → Prop) (h : F55n2 a0 a1 a2 m R) : callN Tryd.prog KK.gl m 2 55 [a0, (intA a1), a2] R := callN_of_F fol Tryd.func55 (code := ((Tryd.f55).body).getD .skip) (by kernel_rfl) (by kernel_rfl) (by kernel_rfl) (X := F55n2 a0 a1 a2 m R) (by kernel_rfl) h
end Go.Proofs.YtpjepkldnnfncaaDoor
