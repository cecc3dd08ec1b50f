/- Functions of the program as conditions on their answers; printed by wip/Gen.lean.txt. -/
import Derived.Test.YthjcdlbkdobmiaaX1T
set_option linter.unusedVariables false
set_option maxRecDepth 100000
set_option maxHeartbeats 4000000
namespace Go.Proofs.Ythjcdlbkdobmiaa
/- skyway/chart.Name -/
noncomputable def c22 : Code := ((Try.f22).body).getD .skip
noncomputable def q22 (R : AV → Mem → Prop) : AExit → St → Prop := retQ Try.prog Try.f22 R
noncomputable def c22_0 : Code := loopB c22 0
noncomputable def q22_0 (R : AV → Mem → Prop) : AExit → St → Prop := contW Try.prog KK 41 0 c22 0 (q22 R)
noncomputable def qq22_0 (R : AV → Mem → Prop) (N0 : St → Prop) : AExit → St → Prop := thenQ N0 (q22_0 R)
def h22_0 (t2 : Bool) (t14 : AV) (t15 : Int) (t16 : Int) (m : Mem) : St := ⟨[(2, (boolA t2)), (14, t14), (15, (intA t15)), (16, (intA t16))], m, 100000⟩
noncomputable def B22_0 (t2 : Bool) (t14 : AV) (t15 : Int) (t16 : Int) (m : Mem) (R : AV → Mem → Prop) (N0 : St → Prop) : Prop :=
bif (decide (t16 < t15)) then (
opP (idxS 1 t14 (intA t16)) fun v7 =>
opP (ldS (mget m) v7) fun v8 =>
ex_u8 v8 fun z9 =>
bif (decide (z9 ≥ (65))) then (
bif (decide (z9 ≤ (90))) then (
N0 ⟨[(2, (boolA t2)), (14, t14), (15, (intA t15)), (16, (intA (IntKind.wrap .i64 (t16 + (1))))), (17, (boolA (decide (t16 < t15)))), (18, (intA t16)), (19, v7), (20, (AV.sc (.int .u8 z9))), (3, (intA t16)), (4, (AV.sc (.int .u8 z9))), (21, (AV.sc (.int .u8 z9))), (22, (boolA (decide (z9 ≥ (65))))), (23, (boolA true)), (24, (AV.sc (.int .u8 z9))), (25, (boolA (decide (z9 ≤ (90))))), (26, (boolA (decide (z9 ≤ (90))))), (27, (boolA true)), (28, (AV.tup [])), (29, (AV.tup [])), (30, (AV.tup [])), (31, (AV.tup [])), (32, (AV.tup [])), (33, (AV.tup [])), (34, (AV.tup [])), (35, (AV.tup [])), (36, (AV.tup [])), (37, (AV.tup [])), (38, (boolA true)), (39, (boolA false)), (40, (intA (IntKind.wrap .i64 (t16 + (1)))))], m, 100017⟩) else (
bif (decide (t16 > (0))) then (
bif (decide (z9 ≥ (48))) then (
bif (!(decide (z9 ≤ (57)))) then (
retL R m [some (boolA false)]) else (
N0 ⟨[(2, (boolA t2)), (14, t14), (15, (intA t15)), (16, (intA (IntKind.wrap .i64 (t16 + (1))))), (17, (boolA (decide (t16 < t15)))), (18, (intA t16)), (19, v7), (20, (AV.sc (.int .u8 z9))), (3, (intA t16)), (4, (AV.sc (.int .u8 z9))), (21, (AV.sc (.int .u8 z9))), (22, (boolA (decide (z9 ≥ (65))))), (23, (boolA true)), (24, (AV.sc (.int .u8 z9))), (25, (boolA (decide (z9 ≤ (90))))), (26, (boolA (decide (z9 ≤ (90))))), (27, (boolA false)), (28, (intA t16)), (29, (boolA (decide (t16 > (0))))), (30, (boolA true)), (31, (AV.sc (.int .u8 z9))), (32, (boolA (decide (z9 ≥ (48))))), (33, (boolA (decide (z9 ≥ (48))))), (34, (boolA true)), (35, (AV.sc (.int .u8 z9))), (36, (boolA (decide (z9 ≤ (57))))), (37, (boolA (decide (z9 ≤ (57))))), (38, (boolA (decide (z9 ≤ (57))))), (39, (boolA (!(decide (z9 ≤ (57)))))), (40, (intA (IntKind.wrap .i64 (t16 + (1)))))], m, 100027⟩)) else (
retL R m [some (boolA false)])) else (
retL R m [some (boolA false)]))) else (
bif (decide (t16 > (0))) then (
bif (decide (z9 ≥ (48))) then (
bif (!(decide (z9 ≤ (57)))) then (
retL R m [some (boolA false)]) else (
N0 ⟨[(2, (boolA t2)), (14, t14), (15, (intA t15)), (16, (intA (IntKind.wrap .i64 (t16 + (1))))), (17, (boolA (decide (t16 < t15)))), (18, (intA t16)), (19, v7), (20, (AV.sc (.int .u8 z9))), (3, (intA t16)), (4, (AV.sc (.int .u8 z9))), (21, (AV.sc (.int .u8 z9))), (22, (boolA (decide (z9 ≥ (65))))), (23, (boolA false)), (24, (AV.tup [])), (25, (AV.tup [])), (26, (boolA false)), (27, (boolA false)), (28, (intA t16)), (29, (boolA (decide (t16 > (0))))), (30, (boolA true)), (31, (AV.sc (.int .u8 z9))), (32, (boolA (decide (z9 ≥ (48))))), (33, (boolA (decide (z9 ≥ (48))))), (34, (boolA true)), (35, (AV.sc (.int .u8 z9))), (36, (boolA (decide (z9 ≤ (57))))), (37, (boolA (decide (z9 ≤ (57))))), (38, (boolA (decide (z9 ≤ (57))))), (39, (boolA (!(decide (z9 ≤ (57)))))), (40, (intA (IntKind.wrap .i64 (t16 + (1)))))], m, 100025⟩)) else (
retL R m [some (boolA false)])) else (
retL R m [some (boolA false)]))) else (
retL R m [some (boolA true)])
theorem B22_0_eq (t2 : Bool) (t14 : AV) (t15 : Int) (t16 : Int) (m : Mem) (R : AV → Mem → Prop) (N0 : St → Prop) : W Try.prog KK 41 0 c22_0 (h22_0 t2 t14 t15 t16 m) (qq22_0 R N0) = B22_0 t2 t14 t15 t16 m R N0 := by kernel_rfl
theorem L22_0 (R : AV → Mem → Prop) {σ : Type} (I : σ → Prop) (t2 : σ → Bool) (t14 : σ → AV) (t15 : σ → Int) (t16 : σ → Int) (m : σ → Mem) (μ : σ → Nat) (step : ∀ x, I x → B22_0 (t2 x) (t14 x) (t15 x) (t16 x) (m x) R (fun s' => ∃ y, I y ∧ μ y < μ x ∧ Weak KK 41 0 s' (h22_0 (t2 y) (t14 y) (t15 y) (t16 y) (m y)))) (x : σ) (hx : I x) {s : St} (hw : Weak KK 41 0 s (h22_0 (t2 x) (t14 x) (t15 x) (t16 x) (m x))) : Tri Try.prog KK 41 0 (.loop c22_0) s (q22_0 R) :=
  Tri.weak hw (Tri.loops fol I (fun x => h22_0 (t2 x) (t14 x) (t15 x) (t16 x) (m x)) μ (fun x hx => (B22_0_eq (t2 x) (t14 x) (t15 x) (t16 x) (m x) R _).mpr (step x hx)) x hx)
noncomputable def F22 (a0 : ByteArray) (R : AV → Mem → Prop) : Prop :=
opP (opA Try.prog (.call ⟨.builtin .len, #[.tmp 0], #[9]⟩) 3 [(AV.sc (.string a0))] (mget []) 2) fun v0 =>
ex_i64 v0 fun z1 =>
bif (decide (z1 < (1))) then (
retL R [] [some (boolA false)]) else (
opP (opA Try.prog (.call ⟨.builtin .len, #[.tmp 0], #[9]⟩) 3 [(AV.sc (.string a0))] (mget []) 6) fun v2 =>
ex_i64 v2 fun z3 =>
bif (decide (z3 > (8))) then (
retL R [] [some (boolA false)]) else (
opP (opA Try.prog (.convert 9 62 (.tmp 0)) 62 [(AV.sc (.string a0))] (mget []) 10) fun v4 =>
opP (lenS v4) fun v5 =>
ex_i64 v5 fun z6 =>
Tri Try.prog KK 41 0 (.loop c22_0) ⟨[(0, (AV.sc (.string a0))), (2, (boolA false)), (5, (AV.sc (.string a0))), (6, (intA z1)), (7, (boolA (decide (z1 < (1))))), (8, (boolA false)), (9, (AV.sc (.string a0))), (10, (intA z3)), (11, (boolA (decide (z3 > (8))))), (12, (boolA (decide (z3 > (8))))), (13, (AV.sc (.string a0))), (14, v4), (15, (intA z6)), (16, (intA (0)))], [], 13⟩ (q22_0 R)))
theorem F22_own (a0 : ByteArray) (R : AV → Mem → Prop) (h : F22 a0 R) : Own Try.prog KK.gl 22 [(AV.sc (.string a0))] R := own_of_F fol Try.func22 (code := c22) (by kernel_rfl) (by kernel_rfl) (by kernel_rfl) (X := F22 a0 R) (by kernel_rfl) h
/- slices.Index[[]string,string] -/
noncomputable def c33 : Code := ((Try.f33).body).getD .skip
noncomputable def q33 (R : AV → Mem → Prop) : AExit → St → Prop := retQ Try.prog Try.f33 R
noncomputable def c33_0 : Code := loopB c33 0
noncomputable def q33_0 (R : AV → Mem → Prop) : AExit → St → Prop := contW Try.prog KK 19 0 c33 0 (q33 R)
noncomputable def qq33_0 (R : AV → Mem → Prop) (N0 : St → Prop) : AExit → St → Prop := thenQ N0 (q33_0 R)
def h33_0 (t0 : AV) (t1 : ByteArray) (t4 : Int) (t7 : Int) (t8 : Int) (m : Mem) : St := ⟨[(0, t0), (1, (AV.sc (.string t1))), (4, (intA t4)), (7, (intA t7)), (8, (intA t8))], m, 100000⟩
noncomputable def B33_0 (t0 : AV) (t1 : ByteArray) (t4 : Int) (t7 : Int) (t8 : Int) (m : Mem) (R : AV → Mem → Prop) (N0 : St → Prop) : Prop :=
bif (decide (t8 < t7)) then (
opP (idxS 1 t0 (intA t8)) fun v2 =>
opP (ldS (mget m) v2) fun v3 =>
exStr v3 fun s4 =>
bif ((t1).toList == (s4).toList) then (
retL R m [some (intA t8)]) else (
N0 ⟨[(0, t0), (1, (AV.sc (.string t1))), (4, (intA t4)), (7, (intA t7)), (8, (intA (IntKind.wrap .i64 (t8 + (1))))), (9, (boolA (decide (t8 < t7)))), (10, (intA t8)), (5, (intA t8)), (11, (AV.sc (.string t1))), (12, t0), (13, (intA t8)), (14, v2), (15, (AV.sc (.string s4))), (16, (boolA ((t1).toList == (s4).toList))), (18, (intA (IntKind.wrap .i64 (t8 + (1)))))], m, 100011⟩)) else (
retL R m [some (intA (-1))])
theorem B33_0_eq (t0 : AV) (t1 : ByteArray) (t4 : Int) (t7 : Int) (t8 : Int) (m : Mem) (R : AV → Mem → Prop) (N0 : St → Prop) : W Try.prog KK 19 0 c33_0 (h33_0 t0 t1 t4 t7 t8 m) (qq33_0 R N0) = B33_0 t0 t1 t4 t7 t8 m R N0 := by kernel_rfl
theorem L33_0 (R : AV → Mem → Prop) {σ : Type} (I : σ → Prop) (t0 : σ → AV) (t1 : σ → ByteArray) (t4 : σ → Int) (t7 : σ → Int) (t8 : σ → Int) (m : σ → Mem) (μ : σ → Nat) (step : ∀ x, I x → B33_0 (t0 x) (t1 x) (t4 x) (t7 x) (t8 x) (m x) R (fun s' => ∃ y, I y ∧ μ y < μ x ∧ Weak KK 19 0 s' (h33_0 (t0 y) (t1 y) (t4 y) (t7 y) (t8 y) (m y)))) (x : σ) (hx : I x) {s : St} (hw : Weak KK 19 0 s (h33_0 (t0 x) (t1 x) (t4 x) (t7 x) (t8 x) (m x))) : Tri Try.prog KK 19 0 (.loop c33_0) s (q33_0 R) :=
  Tri.weak hw (Tri.loops fol I (fun x => h33_0 (t0 x) (t1 x) (t4 x) (t7 x) (t8 x) (m x)) μ (fun x hx => (B33_0_eq (t0 x) (t1 x) (t4 x) (t7 x) (t8 x) (m x) R _).mpr (step x hx)) x hx)
noncomputable def F33 (a0 : AV) (a1 : ByteArray) (R : AV → Mem → Prop) : Prop :=
opP (lenS a0) fun v0 =>
ex_i64 v0 fun z1 =>
Tri Try.prog KK 19 0 (.loop c33_0) ⟨[(0, a0), (1, (AV.sc (.string a1))), (4, (intA (0))), (6, a0), (7, (intA z1)), (8, (intA (0)))], [], 4⟩ (q33_0 R)
theorem F33_own (a0 : AV) (a1 : ByteArray) (R : AV → Mem → Prop) (h : F33 a0 a1 R) : Own Try.prog KK.gl 33 [a0, (AV.sc (.string a1))] R := own_of_F fol Try.func33 (code := c33) (by kernel_rfl) (by kernel_rfl) (by kernel_rfl) (X := F33 a0 a1 R) (by kernel_rfl) h
/- slices.Contains[[]string,string] -/
noncomputable def c23 : Code := ((Try.f23).body).getD .skip
noncomputable def q23 (R : AV → Mem → Prop) : AExit → St → Prop := retQ Try.prog Try.f23 R
noncomputable def F23 (a0 : AV) (a1 : ByteArray) (R : AV → Mem → Prop) : Prop :=
callQ Try.prog KK.gl [] 33 [a0, (AV.sc (.string a1))] fun v0 =>
ex_i64 v0 fun z1 =>
retL R [] [some (boolA (decide (z1 ≥ (0))))]
theorem F23_own (a0 : AV) (a1 : ByteArray) (R : AV → Mem → Prop) (h : F23 a0 a1 R) : Own Try.prog KK.gl 23 [a0, (AV.sc (.string a1))] R := own_of_F fol Try.func23 (code := c23) (by kernel_rfl) (by kernel_rfl) (by kernel_rfl) (X := F23 a0 a1 R) (by kernel_rfl) h
/- skyway/config.Check -/
noncomputable def c11 : Code := ((Try.f11).body).getD .skip
noncomputable def q11 (R : AV → Mem → Prop) : AExit → St → Prop := retQ Try.prog Try.f11 R
noncomputable def c11_0 : Code := loopB c11 0
noncomputable def q11_0 (R : AV → Mem → Prop) : AExit → St → Prop := contW Try.prog KK 82 0 c11 0 (q11 R)
noncomputable def qq11_0 (R : AV → Mem → Prop) (N0 : St → Prop) : AExit → St → Prop := thenQ N0 (q11_0 R)
def h11_0 (t0 : AV) (t2 : Int) (t3 : AV) (t11 : AV) (t12 : Int) (t13 : Int) (m : Mem) : St := ⟨[(0, t0), (2, (intA t2)), (3, t3), (11, t11), (12, (intA t12)), (13, (intA t13))], m, 100000⟩
noncomputable def c11_0_0 : Code := loopB c11_0 0
noncomputable def q11_0_0 (R : AV → Mem → Prop) (N0 : St → Prop) : AExit → St → Prop := contW Try.prog KK 82 0 c11_0 0 (qq11_0 R N0)
noncomputable def qq11_0_0 (R : AV → Mem → Prop) (N0 : St → Prop) (N1 : St → Prop) : AExit → St → Prop := thenQ N1 (q11_0_0 R N0)
def h11_0_0 (t0 : AV) (t2 : Int) (t3 : AV) (t11 : AV) (t12 : Int) (t13 : Int) (t43 : AV) (t44 : Int) (t45 : Int) (b100004_0 : ByteArray) (b100004_1 : AV) (m : Mem) : St := ⟨[(0, t0), (2, (intA t2)), (3, t3), (5, (AV.ptr 100004 0)), (11, t11), (12, (intA t12)), (13, (intA t13)), (43, t43), (44, (intA t44)), (45, (intA t45))], ((100004, some ⟨[(AV.sc (.string b100004_0)), b100004_1], 40⟩) :: m), 200000⟩
noncomputable def B11_0 (t0 : AV) (t2 : Int) (t3 : AV) (t11 : AV) (t12 : Int) (t13 : Int) (m : Mem) (R : AV → Mem → Prop) (N0 : St → Prop) : Prop :=
bif (decide (t13 < t12)) then (
opP (idxS 2 t11 (intA t13)) fun v4 =>
opP (ldA (mget m) 2 v4) fun v5 =>
exA2 v5 fun c6 c7 =>
exStr c6 fun s8 =>
chk (isCell c7) <| callQ Try.prog KK.gl ((100004, some ⟨[(AV.sc (.string s8)), c7], 40⟩) :: (100004, some ⟨[(AV.sc (.string ⟨#[]⟩)), AV.nils], 40⟩) :: m) 22 [(AV.sc (.string s8))] fun v9 =>
exB v9 fun b10 =>
bif (!b10) then (
retL R ((100004, some ⟨[(AV.sc (.string s8)), c7], 40⟩) :: (100004, some ⟨[(AV.sc (.string ⟨#[]⟩)), AV.nils], 40⟩) :: m) [some (intA (3))]) else (
bif (decide (t13 > (0))) then (
opP (idxS 2 t0 (intA (IntKind.wrap .i64 (t13 - (1))))) fun v11 =>
opP (fldO 0 v11) fun v12 =>
opP (ldS (mget ((100004, some ⟨[(AV.sc (.string s8)), c7], 40⟩) :: (100004, some ⟨[(AV.sc (.string ⟨#[]⟩)), AV.nils], 40⟩) :: m)) v12) fun v13 =>
exStr v13 fun s14 =>
bif (Op.bytesLess (s8).toList (s14).toList || (s8).toList == (s14).toList) then (
retL R ((100004, some ⟨[(AV.sc (.string s8)), c7], 40⟩) :: (100004, some ⟨[(AV.sc (.string ⟨#[]⟩)), AV.nils], 40⟩) :: m) [some (intA (7))]) else (
opP (lenS c7) fun v15 =>
ex_i64 v15 fun z16 =>
bif (z16 == (0)) then (
retL R ((100004, some ⟨[(AV.sc (.string s8)), c7], 40⟩) :: (100004, some ⟨[(AV.sc (.string ⟨#[]⟩)), AV.nils], 40⟩) :: m) [some (intA (8))]) else (
opP (lenS c7) fun v17 =>
ex_i64 v17 fun z18 =>
Tri Try.prog KK 82 0 (.loop c11_0_0) ⟨[(0, t0), (2, (intA t2)), (3, t3), (11, t11), (12, (intA t12)), (13, (intA t13)), (14, (boolA (decide (t13 < t12)))), (15, (intA t13)), (16, v4), (17, (AV.agg [(AV.sc (.string s8)), c7])), (5, (AV.ptr 100004 0)), (4, (intA t13)), (19, (AV.ptr 100004 0)), (20, (AV.sc (.string s8))), (21, (boolA b10)), (22, (boolA (!b10))), (18, (boolA (!b10))), (24, (intA t13)), (25, (boolA (decide (t13 > (0))))), (26, (boolA true)), (27, (AV.ptr 100004 0)), (28, (AV.sc (.string s8))), (29, t0), (30, (intA t13)), (31, (intA (IntKind.wrap .i64 (t13 - (1))))), (32, v11), (33, v12), (34, (AV.sc (.string s14))), (35, (boolA (Op.bytesLess (s8).toList (s14).toList || (s8).toList == (s14).toList))), (36, (boolA (Op.bytesLess (s8).toList (s14).toList || (s8).toList == (s14).toList))), (23, (boolA (Op.bytesLess (s8).toList (s14).toList || (s8).toList == (s14).toList))), (38, (AV.ptr 100004 1)), (39, c7), (40, (intA z16)), (41, (boolA (z16 == (0)))), (37, (boolA (z16 == (0)))), (42, (AV.ptr 100004 1)), (43, c7), (44, (intA z18)), (45, (intA (0)))], ((100004, some ⟨[(AV.sc (.string s8)), c7], 40⟩) :: (100004, some ⟨[(AV.sc (.string ⟨#[]⟩)), AV.nils], 40⟩) :: m), 100098⟩ (q11_0_0 R N0)))) else (
opP (lenS c7) fun v37 =>
ex_i64 v37 fun z38 =>
bif (z38 == (0)) then (
retL R ((100004, some ⟨[(AV.sc (.string s8)), c7], 40⟩) :: (100004, some ⟨[(AV.sc (.string ⟨#[]⟩)), AV.nils], 40⟩) :: m) [some (intA (8))]) else (
opP (lenS c7) fun v39 =>
ex_i64 v39 fun z40 =>
Tri Try.prog KK 82 0 (.loop c11_0_0) ⟨[(0, t0), (2, (intA t2)), (3, t3), (11, t11), (12, (intA t12)), (13, (intA t13)), (14, (boolA (decide (t13 < t12)))), (15, (intA t13)), (16, v4), (17, (AV.agg [(AV.sc (.string s8)), c7])), (5, (AV.ptr 100004 0)), (4, (intA t13)), (19, (AV.ptr 100004 0)), (20, (AV.sc (.string s8))), (21, (boolA b10)), (22, (boolA (!b10))), (18, (boolA (!b10))), (24, (intA t13)), (25, (boolA (decide (t13 > (0))))), (26, (boolA false)), (27, (AV.tup [])), (28, (AV.tup [])), (29, (AV.tup [])), (30, (AV.tup [])), (31, (AV.tup [])), (32, (AV.tup [])), (33, (AV.tup [])), (34, (AV.tup [])), (35, (AV.tup [])), (36, (boolA false)), (23, (boolA false)), (38, (AV.ptr 100004 1)), (39, c7), (40, (intA z38)), (41, (boolA (z38 == (0)))), (37, (boolA (z38 == (0)))), (42, (AV.ptr 100004 1)), (43, c7), (44, (intA z40)), (45, (intA (0)))], ((100004, some ⟨[(AV.sc (.string s8)), c7], 40⟩) :: (100004, some ⟨[(AV.sc (.string ⟨#[]⟩)), AV.nils], 40⟩) :: m), 100098⟩ (q11_0_0 R N0))))) else (
retL R m [some (intA (0))])
theorem B11_0_eq (t0 : AV) (t2 : Int) (t3 : AV) (t11 : AV) (t12 : Int) (t13 : Int) (m : Mem) (R : AV → Mem → Prop) (N0 : St → Prop) : W Try.prog KK 82 0 c11_0 (h11_0 t0 t2 t3 t11 t12 t13 m) (qq11_0 R N0) = B11_0 t0 t2 t3 t11 t12 t13 m R N0 := by kernel_rfl
theorem L11_0 (R : AV → Mem → Prop) {σ : Type} (I : σ → Prop) (t0 : σ → AV) (t2 : σ → Int) (t3 : σ → AV) (t11 : σ → AV) (t12 : σ → Int) (t13 : σ → Int) (m : σ → Mem) (μ : σ → Nat) (step : ∀ x, I x → B11_0 (t0 x) (t2 x) (t3 x) (t11 x) (t12 x) (t13 x) (m x) R (fun s' => ∃ y, I y ∧ μ y < μ x ∧ Weak KK 82 0 s' (h11_0 (t0 y) (t2 y) (t3 y) (t11 y) (t12 y) (t13 y) (m y)))) (x : σ) (hx : I x) {s : St} (hw : Weak KK 82 0 s (h11_0 (t0 x) (t2 x) (t3 x) (t11 x) (t12 x) (t13 x) (m x))) : Tri Try.prog KK 82 0 (.loop c11_0) s (q11_0 R) :=
  Tri.weak hw (Tri.loops fol I (fun x => h11_0 (t0 x) (t2 x) (t3 x) (t11 x) (t12 x) (t13 x) (m x)) μ (fun x hx => (B11_0_eq (t0 x) (t2 x) (t3 x) (t11 x) (t12 x) (t13 x) (m x) R _).mpr (step x hx)) x hx)
noncomputable def B11_0_0 (t0 : AV) (t2 : Int) (t3 : AV) (t11 : AV) (t12 : Int) (t13 : Int) (t43 : AV) (t44 : Int) (t45 : Int) (b100004_0 : ByteArray) (b100004_1 : AV) (m : Mem) (R : AV → Mem → Prop) (N0 : St → Prop) (N1 : St → Prop) : Prop :=
bif (decide (t45 < t44)) then (
opP (idxS 1 t43 (intA t45)) fun v19 =>
opP (ldS (mget ((100004, some ⟨[(AV.sc (.string b100004_0)), b100004_1], 40⟩) :: m)) v19) fun v20 =>
exStr v20 fun s21 =>
callQ Try.prog KK.gl ((100004, some ⟨[(AV.sc (.string b100004_0)), b100004_1], 40⟩) :: m) 22 [(AV.sc (.string s21))] fun v22 =>
exB v22 fun b23 =>
bif (!b23) then (
retL R ((100004, some ⟨[(AV.sc (.string b100004_0)), b100004_1], 40⟩) :: m) [some (intA (3))]) else (
callQ Try.prog KK.gl ((100004, some ⟨[(AV.sc (.string b100004_0)), b100004_1], 40⟩) :: m) 23 [t3, (AV.sc (.string s21))] fun v24 =>
exB v24 fun b25 =>
bif b25 then (
retL R ((100004, some ⟨[(AV.sc (.string b100004_0)), b100004_1], 40⟩) :: m) [some (intA (7))]) else (
bif (decide (t45 > (0))) then (
opP (idxS 1 b100004_1 (intA (IntKind.wrap .i64 (t45 - (1))))) fun v26 =>
opP (ldS (mget ((100004, some ⟨[(AV.sc (.string b100004_0)), b100004_1], 40⟩) :: m)) v26) fun v27 =>
exStr v27 fun s28 =>
bif (Op.bytesLess (s21).toList (s28).toList) then (
retL R ((100004, some ⟨[(AV.sc (.string b100004_0)), b100004_1], 40⟩) :: m) [some (intA (7))]) else (
opP (lenS t3) fun v29 =>
ex_i64 v29 fun z30 =>
bif (z30 == (12)) then (
retL R ((100004, some ⟨[(AV.sc (.string b100004_0)), b100004_1], 40⟩) :: m) [some (intA (2))]) else (
opN (bsl 200160 9 1 1 [(AV.sc (.string ⟨#[]⟩))] [(0, (AV.sc (.string s21)))]) ((100004, some ⟨[(AV.sc (.string b100004_0)), b100004_1], 40⟩) :: m) fun v31 m31 =>
opN (app (mget m31) 9 1 16 [(AV.sc (.string ⟨#[]⟩))] 200161 t3 v31) m31 fun v32 m32 =>
N1 ⟨[(0, t0), (2, (intA t2)), (3, v32), (5, (AV.ptr 100004 0)), (11, t11), (12, (intA t12)), (13, (intA t13)), (43, t43), (44, (intA t44)), (45, (intA (IntKind.wrap .i64 (t45 + (1))))), (46, (boolA (decide (t45 < t44)))), (47, (intA t45)), (48, v19), (49, (AV.sc (.string s21))), (6, (intA t45)), (7, (AV.sc (.string s21))), (51, (AV.sc (.string s21))), (52, (boolA b23)), (53, (boolA (!b23))), (50, (boolA (!b23))), (55, t3), (56, (AV.sc (.string s21))), (57, (boolA b25)), (58, (boolA false)), (59, (intA t45)), (60, (boolA (decide (t45 > (0))))), (61, (boolA true)), (62, (AV.sc (.string s21))), (63, (AV.ptr 100004 1)), (64, b100004_1), (65, (intA t45)), (66, (intA (IntKind.wrap .i64 (t45 - (1))))), (67, v26), (68, (AV.sc (.string s28))), (69, (boolA (Op.bytesLess (s21).toList (s28).toList))), (70, (boolA (Op.bytesLess (s21).toList (s28).toList))), (71, (boolA (Op.bytesLess (s21).toList (s28).toList))), (54, (boolA (Op.bytesLess (s21).toList (s28).toList))), (73, t3), (74, (intA z30)), (75, (boolA (z30 == (12)))), (72, (boolA (z30 == (12)))), (76, t3), (77, (AV.sc (.string s21))), (78, v31), (79, v32), (80, (intA (IntKind.wrap .i64 (t45 + (1)))))], m32, 200165⟩))) else (
opP (lenS t3) fun v33 =>
ex_i64 v33 fun z34 =>
bif (z34 == (12)) then (
retL R ((100004, some ⟨[(AV.sc (.string b100004_0)), b100004_1], 40⟩) :: m) [some (intA (2))]) else (
opN (bsl 200152 9 1 1 [(AV.sc (.string ⟨#[]⟩))] [(0, (AV.sc (.string s21)))]) ((100004, some ⟨[(AV.sc (.string b100004_0)), b100004_1], 40⟩) :: m) fun v35 m35 =>
opN (app (mget m35) 9 1 16 [(AV.sc (.string ⟨#[]⟩))] 200153 t3 v35) m35 fun v36 m36 =>
N1 ⟨[(0, t0), (2, (intA t2)), (3, v36), (5, (AV.ptr 100004 0)), (11, t11), (12, (intA t12)), (13, (intA t13)), (43, t43), (44, (intA t44)), (45, (intA (IntKind.wrap .i64 (t45 + (1))))), (46, (boolA (decide (t45 < t44)))), (47, (intA t45)), (48, v19), (49, (AV.sc (.string s21))), (6, (intA t45)), (7, (AV.sc (.string s21))), (51, (AV.sc (.string s21))), (52, (boolA b23)), (53, (boolA (!b23))), (50, (boolA (!b23))), (55, t3), (56, (AV.sc (.string s21))), (57, (boolA b25)), (58, (boolA false)), (59, (intA t45)), (60, (boolA (decide (t45 > (0))))), (61, (boolA false)), (62, (AV.tup [])), (63, (AV.tup [])), (64, (AV.tup [])), (65, (AV.tup [])), (66, (AV.tup [])), (67, (AV.tup [])), (68, (AV.tup [])), (69, (AV.tup [])), (70, (boolA false)), (71, (boolA false)), (54, (boolA false)), (73, t3), (74, (intA z34)), (75, (boolA (z34 == (12)))), (72, (boolA (z34 == (12)))), (76, t3), (77, (AV.sc (.string s21))), (78, v35), (79, v36), (80, (intA (IntKind.wrap .i64 (t45 + (1)))))], m36, 200157⟩))))) else (
N0 ⟨[(0, t0), (2, (intA t2)), (3, t3), (5, (AV.ptr 100004 0)), (11, t11), (12, (intA t12)), (13, (intA (IntKind.wrap .i64 (t13 + (1))))), (43, t43), (44, (intA t44)), (45, (intA t45)), (46, (boolA (decide (t45 < t44)))), (81, (intA (IntKind.wrap .i64 (t13 + (1)))))], ((100004, some ⟨[(AV.sc (.string b100004_0)), b100004_1], 40⟩) :: m), 200003⟩)
theorem B11_0_0_eq (t0 : AV) (t2 : Int) (t3 : AV) (t11 : AV) (t12 : Int) (t13 : Int) (t43 : AV) (t44 : Int) (t45 : Int) (b100004_0 : ByteArray) (b100004_1 : AV) (m : Mem) (R : AV → Mem → Prop) (N0 : St → Prop) (N1 : St → Prop) : W Try.prog KK 82 0 c11_0_0 (h11_0_0 t0 t2 t3 t11 t12 t13 t43 t44 t45 b100004_0 b100004_1 m) (qq11_0_0 R N0 N1) = B11_0_0 t0 t2 t3 t11 t12 t13 t43 t44 t45 b100004_0 b100004_1 m R N0 N1 := by kernel_rfl
theorem L11_0_0 (R : AV → Mem → Prop) (N0 : St → Prop) {σ : Type} (I : σ → Prop) (t0 : σ → AV) (t2 : σ → Int) (t3 : σ → AV) (t11 : σ → AV) (t12 : σ → Int) (t13 : σ → Int) (t43 : σ → AV) (t44 : σ → Int) (t45 : σ → Int) (b100004_0 : σ → ByteArray) (b100004_1 : σ → AV) (m : σ → Mem) (μ : σ → Nat) (step : ∀ x, I x → B11_0_0 (t0 x) (t2 x) (t3 x) (t11 x) (t12 x) (t13 x) (t43 x) (t44 x) (t45 x) (b100004_0 x) (b100004_1 x) (m x) R N0 (fun s' => ∃ y, I y ∧ μ y < μ x ∧ Weak KK 82 0 s' (h11_0_0 (t0 y) (t2 y) (t3 y) (t11 y) (t12 y) (t13 y) (t43 y) (t44 y) (t45 y) (b100004_0 y) (b100004_1 y) (m y)))) (x : σ) (hx : I x) {s : St} (hw : Weak KK 82 0 s (h11_0_0 (t0 x) (t2 x) (t3 x) (t11 x) (t12 x) (t13 x) (t43 x) (t44 x) (t45 x) (b100004_0 x) (b100004_1 x) (m x))) : Tri Try.prog KK 82 0 (.loop c11_0_0) s (q11_0_0 R N0) :=
  Tri.weak hw (Tri.loops fol I (fun x => h11_0_0 (t0 x) (t2 x) (t3 x) (t11 x) (t12 x) (t13 x) (t43 x) (t44 x) (t45 x) (b100004_0 x) (b100004_1 x) (m x)) μ (fun x hx => (B11_0_0_eq (t0 x) (t2 x) (t3 x) (t11 x) (t12 x) (t13 x) (t43 x) (t44 x) (t45 x) (b100004_0 x) (b100004_1 x) (m x) R N0 _).mpr (step x hx)) x hx)
noncomputable def F11 (a0 : AV) (R : AV → Mem → Prop) : Prop :=
opP (lenS a0) fun v0 =>
ex_i64 v0 fun z1 =>
bif (decide (z1 > (12))) then (
retL R [] [some (intA (2))]) else (
opP (lenS a0) fun v2 =>
ex_i64 v2 fun z3 =>
Tri Try.prog KK 82 0 (.loop c11_0) ⟨[(0, a0), (2, (intA (0))), (8, a0), (9, (intA z1)), (10, (boolA (decide (z1 > (12))))), (3, AV.nils), (11, a0), (12, (intA z3)), (13, (intA (0)))], [], 8⟩ (q11_0 R))
theorem F11_own (a0 : AV) (R : AV → Mem → Prop) (h : F11 a0 R) : Own Try.prog KK.gl 11 [a0] R := own_of_F fol Try.func11 (code := c11) (by kernel_rfl) (by kernel_rfl) (by kernel_rfl) (X := F11 a0 R) (by kernel_rfl) h
/- skyway/config.index$1 -/
noncomputable def c30 : Code := ((Try.f30).body).getD .skip
noncomputable def q30 (R : AV → Mem → Prop) : AExit → St → Prop := retQ Try.prog Try.f30 R
noncomputable def F30 (a0_0 : ByteArray) (a0_1 : AV) (a1 : AV) (R : AV → Mem → Prop) : Prop :=
chk (isCell a0_1) <| opP (ldS (mget ((0, some ⟨[(AV.sc (.string a0_0)), a0_1], 40⟩) :: [])) a1) fun v0 =>
exStr v0 fun s1 =>
retL R ((0, some ⟨[(AV.sc (.string a0_0)), a0_1], 40⟩) :: []) [some (boolA ((a0_0).toList == (s1).toList))]
theorem F30_own (a0_0 : ByteArray) (a0_1 : AV) (a1 : AV) (R : AV → Mem → Prop) (h : F30 a0_0 a0_1 a1 R) : Own Try.prog KK.gl 30 [(AV.agg [(AV.sc (.string a0_0)), a0_1]), a1] R := own_of_F fol Try.func30 (code := c30) (by kernel_rfl) (by kernel_rfl) (by kernel_rfl) (X := F30 a0_0 a0_1 a1 R) (by kernel_rfl) h
/- slices.IndexFunc[[]skyway/api.ConfigGroup,skyway/api.ConfigGroup] -/
noncomputable def c13 : Code := ((Try.f13).body).getD .skip
noncomputable def q13 (R : AV → Mem → Prop) : AExit → St → Prop := retQ Try.prog Try.f13 R
noncomputable def c13_0 : Code := loopB c13 0
noncomputable def q13_0 (R : AV → Mem → Prop) : AExit → St → Prop := contW Try.prog KK 19 0 c13 0 (q13 R)
noncomputable def qq13_0 (R : AV → Mem → Prop) (N0 : St → Prop) : AExit → St → Prop := thenQ N0 (q13_0 R)
def h13_0 (t0 : AV) (t1 : AV) (t4 : Int) (t7 : Int) (t8 : Int) (m : Mem) : St := ⟨[(0, t0), (1, t1), (4, (intA t4)), (7, (intA t7)), (8, (intA t8))], m, 100000⟩
noncomputable def B13_0 (t0 : AV) (t1 : AV) (t4 : Int) (t7 : Int) (t8 : Int) (m : Mem) (R : AV → Mem → Prop) (N0 : St → Prop) : Prop :=
bif (decide (t8 < t7)) then (
opP (idxS 2 t0 (intA t8)) fun v2 =>
opP (ldA (mget m) 2 v2) fun v3 =>
exA2 v3 fun c4 c5 =>
exStr c4 fun s6 =>
fnArgs (some t1) (some [(AV.agg [(AV.sc (.string s6)), c5])]) fun f7 a7 => bif KK.pm f7 then callQ Try.prog KK.gl m f7 a7 (fun v7 =>
exB v7 fun b8 =>
bif b8 then (
retL R m [some (intA t8)]) else (
N0 ⟨[(0, t0), (1, t1), (4, (intA t4)), (7, (intA t7)), (8, (intA (IntKind.wrap .i64 (t8 + (1))))), (9, (boolA (decide (t8 < t7)))), (10, (intA t8)), (5, (intA t8)), (11, t1), (12, t0), (13, (intA t8)), (14, v2), (15, (AV.agg [(AV.sc (.string s6)), c5])), (16, (boolA b8)), (18, (intA (IntKind.wrap .i64 (t8 + (1)))))], m, 100074⟩)) else callW Try.prog KK.gl m 100008 f7 a7 fun v7 m7 =>
exB v7 fun b8 =>
bif b8 then (
retL R m7 [some (intA t8)]) else (
N0 ⟨[(0, t0), (1, t1), (4, (intA t4)), (7, (intA t7)), (8, (intA (IntKind.wrap .i64 (t8 + (1))))), (9, (boolA (decide (t8 < t7)))), (10, (intA t8)), (5, (intA t8)), (11, t1), (12, t0), (13, (intA t8)), (14, v2), (15, (AV.agg [(AV.sc (.string s6)), c5])), (16, (boolA b8)), (18, (intA (IntKind.wrap .i64 (t8 + (1)))))], m7, 100074⟩)) else (
retL R m [some (intA (-1))])
theorem B13_0_eq (t0 : AV) (t1 : AV) (t4 : Int) (t7 : Int) (t8 : Int) (m : Mem) (R : AV → Mem → Prop) (N0 : St → Prop) : W Try.prog KK 19 0 c13_0 (h13_0 t0 t1 t4 t7 t8 m) (qq13_0 R N0) = B13_0 t0 t1 t4 t7 t8 m R N0 := by kernel_rfl
theorem L13_0 (R : AV → Mem → Prop) {σ : Type} (I : σ → Prop) (t0 : σ → AV) (t1 : σ → AV) (t4 : σ → Int) (t7 : σ → Int) (t8 : σ → Int) (m : σ → Mem) (μ : σ → Nat) (step : ∀ x, I x → B13_0 (t0 x) (t1 x) (t4 x) (t7 x) (t8 x) (m x) R (fun s' => ∃ y, I y ∧ μ y < μ x ∧ Weak KK 19 0 s' (h13_0 (t0 y) (t1 y) (t4 y) (t7 y) (t8 y) (m y)))) (x : σ) (hx : I x) {s : St} (hw : Weak KK 19 0 s (h13_0 (t0 x) (t1 x) (t4 x) (t7 x) (t8 x) (m x))) : Tri Try.prog KK 19 0 (.loop c13_0) s (q13_0 R) :=
  Tri.weak hw (Tri.loops fol I (fun x => h13_0 (t0 x) (t1 x) (t4 x) (t7 x) (t8 x) (m x)) μ (fun x hx => (B13_0_eq (t0 x) (t1 x) (t4 x) (t7 x) (t8 x) (m x) R _).mpr (step x hx)) x hx)
noncomputable def F13 (a0 : AV) (a1 : AV) (R : AV → Mem → Prop) : Prop :=
opP (lenS a0) fun v0 =>
ex_i64 v0 fun z1 =>
Tri Try.prog KK 19 0 (.loop c13_0) ⟨[(0, a0), (1, a1), (4, (intA (0))), (6, a0), (7, (intA z1)), (8, (intA (0)))], [], 4⟩ (q13_0 R)
theorem F13_own (a0 : AV) (a1 : AV) (R : AV → Mem → Prop) (h : F13 a0 a1 R) : Own Try.prog KK.gl 13 [a0, a1] R := own_of_F fol Try.func13 (code := c13) (by kernel_rfl) (by kernel_rfl) (by kernel_rfl) (X := F13 a0 a1 R) (by kernel_rfl) h
/- skyway/config.index -/
noncomputable def c19 : Code := ((Try.f19).body).getD .skip
noncomputable def q19 (R : AV → Mem → Prop) : AExit → St → Prop := retQ Try.prog Try.f19 R
noncomputable def F19 (a0 : AV) (a1 : ByteArray) (R : AV → Mem → Prop) : Prop :=
callQ Try.prog KK.gl ((0, some ⟨[(AV.sc (.string a1))], 9⟩) :: []) 13 [a0, (AV.fn 30 [(AV.ptr 0 0)])] fun v0 =>
ex_i64 v0 fun z1 =>
retL R ((0, some ⟨[(AV.sc (.string a1))], 9⟩) :: []) [some (intA z1)]
theorem F19_own (a0 : AV) (a1 : ByteArray) (R : AV → Mem → Prop) (h : F19 a0 a1 R) : Own Try.prog KK.gl 19 [a0, (AV.sc (.string a1))] R := own_of_F fol Try.func19 (code := c19) (by kernel_rfl) (by kernel_rfl) (by kernel_rfl) (X := F19 a0 a1 R) (by kernel_rfl) h
/- skyway/config.Names -/
noncomputable def c7 : Code := ((Try.f7).body).getD .skip
noncomputable def q7 (R : AV → Mem → Prop) : AExit → St → Prop := retQ Try.prog Try.f7 R
noncomputable def c7_0 : Code := loopB c7 0
noncomputable def q7_0 (R : AV → Mem → Prop) : AExit → St → Prop := contW Try.prog KK 27 0 c7 0 (q7 R)
noncomputable def qq7_0 (R : AV → Mem → Prop) (N0 : St → Prop) : AExit → St → Prop := thenQ N0 (q7_0 R)
def h7_0 (t2 : AV) (t3 : Int) (t5 : AV) (t13 : AV) (t14 : Int) (t15 : Int) (m : Mem) : St := ⟨[(2, t2), (3, (intA t3)), (5, t5), (13, t13), (14, (intA t14)), (15, (intA t15))], m, 100000⟩
noncomputable def B7_0 (t2 : AV) (t3 : Int) (t5 : AV) (t13 : AV) (t14 : Int) (t15 : Int) (m : Mem) (R : AV → Mem → Prop) (N0 : St → Prop) : Prop :=
bif (decide (t15 < t14)) then (
opP (idxS 2 t13 (intA t15)) fun v4 =>
opP (ldA (mget m) 2 v4) fun v5 =>
exA2 v5 fun c6 c7 =>
exStr c6 fun s8 =>
chk (isCell c7) <| opN (app (mget ((100003, some ⟨[(AV.sc (.string s8)), c7], 40⟩) :: (100003, some ⟨[(AV.sc (.string ⟨#[]⟩)), AV.nils], 40⟩) :: m)) 9 1 16 [(AV.sc (.string ⟨#[]⟩))] 100008 t5 c7) ((100003, some ⟨[(AV.sc (.string s8)), c7], 40⟩) :: (100003, some ⟨[(AV.sc (.string ⟨#[]⟩)), AV.nils], 40⟩) :: m) fun v9 m9 =>
N0 ⟨[(2, t2), (3, (intA t3)), (5, v9), (13, t13), (14, (intA t14)), (15, (intA (IntKind.wrap .i64 (t15 + (1))))), (16, (boolA (decide (t15 < t14)))), (17, v4), (18, (AV.agg [(AV.sc (.string s8)), c7])), (7, (AV.ptr 100003 0)), (19, t5), (20, (AV.ptr 100003 1)), (21, c7), (22, v9), (23, (intA (IntKind.wrap .i64 (t15 + (1)))))], m9, 100012⟩) else (
callW Try.prog KK.gl m 100002 18 [t5] fun v10 m10 =>
exT0 v10 <|
retL R m10 [some t5, some (intA (0))])
theorem B7_0_eq (t2 : AV) (t3 : Int) (t5 : AV) (t13 : AV) (t14 : Int) (t15 : Int) (m : Mem) (R : AV → Mem → Prop) (N0 : St → Prop) : W Try.prog KK 27 0 c7_0 (h7_0 t2 t3 t5 t13 t14 t15 m) (qq7_0 R N0) = B7_0 t2 t3 t5 t13 t14 t15 m R N0 := by kernel_rfl
theorem L7_0 (R : AV → Mem → Prop) {σ : Type} (I : σ → Prop) (t2 : σ → AV) (t3 : σ → Int) (t5 : σ → AV) (t13 : σ → AV) (t14 : σ → Int) (t15 : σ → Int) (m : σ → Mem) (μ : σ → Nat) (step : ∀ x, I x → B7_0 (t2 x) (t3 x) (t5 x) (t13 x) (t14 x) (t15 x) (m x) R (fun s' => ∃ y, I y ∧ μ y < μ x ∧ Weak KK 27 0 s' (h7_0 (t2 y) (t3 y) (t5 y) (t13 y) (t14 y) (t15 y) (m y)))) (x : σ) (hx : I x) {s : St} (hw : Weak KK 27 0 s (h7_0 (t2 x) (t3 x) (t5 x) (t13 x) (t14 x) (t15 x) (m x))) : Tri Try.prog KK 27 0 (.loop c7_0) s (q7_0 R) :=
  Tri.weak hw (Tri.loops fol I (fun x => h7_0 (t2 x) (t3 x) (t5 x) (t13 x) (t14 x) (t15 x) (m x)) μ (fun x hx => (B7_0_eq (t2 x) (t3 x) (t5 x) (t13 x) (t14 x) (t15 x) (m x) R _).mpr (step x hx)) x hx)
noncomputable def F7 (a0 : AV) (R : AV → Mem → Prop) : Prop :=
callQ Try.prog KK.gl [] 11 [a0] fun v0 =>
ex_i64 v0 fun z1 =>
bif (z1 != (0)) then (
retL R [] [some AV.nils, some (intA z1)]) else (
opP (lenS a0) fun v2 =>
ex_i64 v2 fun z3 =>
Tri Try.prog KK 27 0 (.loop c7_0) ⟨[(0, a0), (2, AV.nils), (3, (intA (0))), (8, a0), (9, (intA z1)), (4, (intA z1)), (10, (intA z1)), (11, (boolA (z1 != (0)))), (5, AV.nils), (13, a0), (14, (intA z3)), (15, (intA (0)))], [], 74⟩ (q7_0 R))
theorem F7_own (a0 : AV) (R : AV → Mem → Prop) (h : F7 a0 R) : Own Try.prog KK.gl 7 [a0] R := own_of_F fol Try.func7 (code := c7) (by kernel_rfl) (by kernel_rfl) (by kernel_rfl) (X := F7 a0 R) (by kernel_rfl) h
/- slices.Equal[[]string,string] -/
noncomputable def c10 : Code := ((Try.f10).body).getD .skip
noncomputable def q10 (R : AV → Mem → Prop) : AExit → St → Prop := retQ Try.prog Try.f10 R
noncomputable def c10_0 : Code := loopB c10 0
noncomputable def q10_0 (R : AV → Mem → Prop) : AExit → St → Prop := contW Try.prog KK 26 0 c10 0 (q10 R)
noncomputable def qq10_0 (R : AV → Mem → Prop) (N0 : St → Prop) : AExit → St → Prop := thenQ N0 (q10_0 R)
def h10_0 (t0 : AV) (t1 : AV) (t4 : Bool) (t12 : Int) (t13 : Int) (m : Mem) : St := ⟨[(0, t0), (1, t1), (4, (boolA t4)), (12, (intA t12)), (13, (intA t13))], m, 100000⟩
noncomputable def B10_0 (t0 : AV) (t1 : AV) (t4 : Bool) (t12 : Int) (t13 : Int) (m : Mem) (R : AV → Mem → Prop) (N0 : St → Prop) : Prop :=
bif (decide (t13 < t12)) then (
opP (idxS 1 t0 (intA t13)) fun v6 =>
opP (ldS (mget m) v6) fun v7 =>
exStr v7 fun s8 =>
opP (idxS 1 t1 (intA t13)) fun v9 =>
opP (ldS (mget m) v9) fun v10 =>
exStr v10 fun s11 =>
bif (!((s8).toList == (s11).toList)) then (
retL R m [some (boolA false)]) else (
N0 ⟨[(0, t0), (1, t1), (4, (boolA t4)), (12, (intA t12)), (13, (intA (IntKind.wrap .i64 (t13 + (1))))), (14, (boolA (decide (t13 < t12)))), (15, (intA t13)), (5, (intA t13)), (16, t0), (17, (intA t13)), (18, v6), (19, (AV.sc (.string s8))), (20, t1), (21, (intA t13)), (22, v9), (23, (AV.sc (.string s11))), (24, (boolA (!((s8).toList == (s11).toList)))), (25, (intA (IntKind.wrap .i64 (t13 + (1)))))], m, 100014⟩)) else (
retL R m [some (boolA true)])
theorem B10_0_eq (t0 : AV) (t1 : AV) (t4 : Bool) (t12 : Int) (t13 : Int) (m : Mem) (R : AV → Mem → Prop) (N0 : St → Prop) : W Try.prog KK 26 0 c10_0 (h10_0 t0 t1 t4 t12 t13 m) (qq10_0 R N0) = B10_0 t0 t1 t4 t12 t13 m R N0 := by kernel_rfl
theorem L10_0 (R : AV → Mem → Prop) {σ : Type} (I : σ → Prop) (t0 : σ → AV) (t1 : σ → AV) (t4 : σ → Bool) (t12 : σ → Int) (t13 : σ → Int) (m : σ → Mem) (μ : σ → Nat) (step : ∀ x, I x → B10_0 (t0 x) (t1 x) (t4 x) (t12 x) (t13 x) (m x) R (fun s' => ∃ y, I y ∧ μ y < μ x ∧ Weak KK 26 0 s' (h10_0 (t0 y) (t1 y) (t4 y) (t12 y) (t13 y) (m y)))) (x : σ) (hx : I x) {s : St} (hw : Weak KK 26 0 s (h10_0 (t0 x) (t1 x) (t4 x) (t12 x) (t13 x) (m x))) : Tri Try.prog KK 26 0 (.loop c10_0) s (q10_0 R) :=
  Tri.weak hw (Tri.loops fol I (fun x => h10_0 (t0 x) (t1 x) (t4 x) (t12 x) (t13 x) (m x)) μ (fun x hx => (B10_0_eq (t0 x) (t1 x) (t4 x) (t12 x) (t13 x) (m x) R _).mpr (step x hx)) x hx)
noncomputable def F10 (a0 : AV) (a1 : AV) (R : AV → Mem → Prop) : Prop :=
opP (lenS a0) fun v0 =>
ex_i64 v0 fun z1 =>
opP (lenS a1) fun v2 =>
ex_i64 v2 fun z3 =>
bif (z1 != z3) then (
retL R [] [some (boolA false)]) else (
opP (lenS a0) fun v4 =>
ex_i64 v4 fun z5 =>
Tri Try.prog KK 26 0 (.loop c10_0) ⟨[(0, a0), (1, a1), (4, (boolA false)), (6, a0), (7, (intA z1)), (8, a1), (9, (intA z3)), (10, (boolA (z1 != z3))), (11, a0), (12, (intA z5)), (13, (intA (0)))], [], 9⟩ (q10_0 R))
theorem F10_own (a0 : AV) (a1 : AV) (R : AV → Mem → Prop) (h : F10 a0 a1 R) : Own Try.prog KK.gl 10 [a0, a1] R := own_of_F fol Try.func10 (code := c10) (by kernel_rfl) (by kernel_rfl) (by kernel_rfl) (X := F10 a0 a1 R) (by kernel_rfl) h
/- skyway/skywaykeep3.ConfigKeeps -/
noncomputable def c3 : Code := ((Try.f3).body).getD .skip
noncomputable def q3 (R : AV → Mem → Prop) : AExit → St → Prop := retQ Try.prog Try.f3 R
noncomputable def c3_0 : Code := loopB c3 0
noncomputable def q3_0 (R : AV → Mem → Prop) : AExit → St → Prop := contW Try.prog KK 84 0 c3 0 (q3 R)
noncomputable def qq3_0 (R : AV → Mem → Prop) (N0 : St → Prop) : AExit → St → Prop := thenQ N0 (q3_0 R)
def h3_0 (t8 : Bool) (t9 : AV) (t10 : Int) (t13 : Int) (t44 : AV) (t45 : Int) (t46 : Int) (m : Mem) : St := ⟨[(8, (boolA t8)), (9, t9), (10, (intA t10)), (13, (intA t13)), (44, t44), (45, (intA t45)), (46, (intA t46))], m, 100000⟩
noncomputable def B3_0 (t8 : Bool) (t9 : AV) (t10 : Int) (t13 : Int) (t44 : AV) (t45 : Int) (t46 : Int) (m : Mem) (R : AV → Mem → Prop) (N0 : St → Prop) : Prop :=
bif (decide (t46 < t45)) then (
opP (idxS 1 t44 (intA t46)) fun v17 =>
opP (ldS (mget m) v17) fun v18 =>
bif (t46 == (0)) then (
bif (t10 != (0)) then (
N0 ⟨[(8, (boolA t8)), (9, t9), (10, (intA t10)), (13, (intA t13)), (44, t44), (45, (intA t45)), (46, (intA (IntKind.wrap .i64 (t46 + (1))))), (47, (boolA (decide (t46 < t45)))), (48, (intA t46)), (49, v17), (50, v18), (14, (intA t46)), (15, v18), (51, (intA t46)), (52, (boolA (t46 == (0)))), (53, (boolA true)), (54, (intA t10)), (55, (boolA (t10 != (0)))), (56, (boolA (t10 != (0)))), (57, (boolA true)), (58, (AV.tup [])), (59, (AV.tup [])), (60, (AV.tup [])), (61, (AV.tup [])), (62, (AV.tup [])), (63, (AV.tup [])), (64, (boolA true)), (83, (intA (IntKind.wrap .i64 (t46 + (1)))))], m, 100016⟩) else (
bif (t46 == (1)) then (
bif (t13 != (0)) then (
N0 ⟨[(8, (boolA t8)), (9, t9), (10, (intA t10)), (13, (intA t13)), (44, t44), (45, (intA t45)), (46, (intA (IntKind.wrap .i64 (t46 + (1))))), (47, (boolA (decide (t46 < t45)))), (48, (intA t46)), (49, v17), (50, v18), (14, (intA t46)), (15, v18), (51, (intA t46)), (52, (boolA (t46 == (0)))), (53, (boolA true)), (54, (intA t10)), (55, (boolA (t10 != (0)))), (56, (boolA (t10 != (0)))), (57, (boolA false)), (58, (intA t46)), (59, (boolA (t46 == (1)))), (60, (boolA true)), (61, (intA t13)), (62, (boolA (t13 != (0)))), (63, (boolA (t13 != (0)))), (64, (boolA (t13 != (0)))), (83, (intA (IntKind.wrap .i64 (t46 + (1)))))], m, 100022⟩) else (
callQ Try.prog KK.gl m 7 [v18] fun v19 =>
exT2 v19 fun c20 c21 =>
ex_i64 c21 fun z22 =>
bif (z22 != (0)) then (
retL R m [some (boolA false)]) else (
callQ Try.prog KK.gl m 10 [c20, t9] fun v23 =>
exB v23 fun b24 =>
bif (!b24) then (
retL R m [some (boolA false)]) else (
callQ Try.prog KK.gl m 11 [v18] fun v25 =>
ex_i64 v25 fun z26 =>
bif (z26 != (0)) then (
retL R m [some (boolA false)]) else (
N0 ⟨[(8, (boolA t8)), (9, t9), (10, (intA t10)), (13, (intA t13)), (44, t44), (45, (intA t45)), (46, (intA (IntKind.wrap .i64 (t46 + (1))))), (47, (boolA (decide (t46 < t45)))), (48, (intA t46)), (49, v17), (50, v18), (14, (intA t46)), (15, v18), (51, (intA t46)), (52, (boolA (t46 == (0)))), (53, (boolA true)), (54, (intA t10)), (55, (boolA (t10 != (0)))), (56, (boolA (t10 != (0)))), (57, (boolA false)), (58, (intA t46)), (59, (boolA (t46 == (1)))), (60, (boolA true)), (61, (intA t13)), (62, (boolA (t13 != (0)))), (63, (boolA (t13 != (0)))), (64, (boolA (t13 != (0)))), (66, v18), (67, (AV.tup [c20, (intA z22)])), (65, (AV.tup [c20, (intA z22)])), (68, c20), (69, (intA z22)), (16, c20), (17, (intA z22)), (70, (intA z22)), (71, (boolA (z22 != (0)))), (72, (boolA false)), (73, c20), (74, t9), (75, (boolA b24)), (76, (boolA (!b24))), (77, (boolA (!b24))), (78, (boolA false)), (79, v18), (80, (intA z26)), (81, (boolA (z26 != (0)))), (82, (boolA (z26 != (0)))), (83, (intA (IntKind.wrap .i64 (t46 + (1)))))], m, 100231⟩))))) else (
callQ Try.prog KK.gl m 7 [v18] fun v27 =>
exT2 v27 fun c28 c29 =>
ex_i64 c29 fun z30 =>
bif (z30 != (0)) then (
retL R m [some (boolA false)]) else (
callQ Try.prog KK.gl m 10 [c28, t9] fun v31 =>
exB v31 fun b32 =>
bif (!b32) then (
retL R m [some (boolA false)]) else (
callQ Try.prog KK.gl m 11 [v18] fun v33 =>
ex_i64 v33 fun z34 =>
bif (z34 != (0)) then (
retL R m [some (boolA false)]) else (
N0 ⟨[(8, (boolA t8)), (9, t9), (10, (intA t10)), (13, (intA t13)), (44, t44), (45, (intA t45)), (46, (intA (IntKind.wrap .i64 (t46 + (1))))), (47, (boolA (decide (t46 < t45)))), (48, (intA t46)), (49, v17), (50, v18), (14, (intA t46)), (15, v18), (51, (intA t46)), (52, (boolA (t46 == (0)))), (53, (boolA true)), (54, (intA t10)), (55, (boolA (t10 != (0)))), (56, (boolA (t10 != (0)))), (57, (boolA false)), (58, (intA t46)), (59, (boolA (t46 == (1)))), (60, (boolA false)), (61, (AV.tup [])), (62, (AV.tup [])), (63, (boolA false)), (64, (boolA false)), (66, v18), (67, (AV.tup [c28, (intA z30)])), (65, (AV.tup [c28, (intA z30)])), (68, c28), (69, (intA z30)), (16, c28), (17, (intA z30)), (70, (intA z30)), (71, (boolA (z30 != (0)))), (72, (boolA false)), (73, c28), (74, t9), (75, (boolA b32)), (76, (boolA (!b32))), (77, (boolA (!b32))), (78, (boolA false)), (79, v18), (80, (intA z34)), (81, (boolA (z34 != (0)))), (82, (boolA (z34 != (0)))), (83, (intA (IntKind.wrap .i64 (t46 + (1)))))], m, 100229⟩)))))) else (
bif (t46 == (1)) then (
bif (t13 != (0)) then (
N0 ⟨[(8, (boolA t8)), (9, t9), (10, (intA t10)), (13, (intA t13)), (44, t44), (45, (intA t45)), (46, (intA (IntKind.wrap .i64 (t46 + (1))))), (47, (boolA (decide (t46 < t45)))), (48, (intA t46)), (49, v17), (50, v18), (14, (intA t46)), (15, v18), (51, (intA t46)), (52, (boolA (t46 == (0)))), (53, (boolA false)), (54, (AV.tup [])), (55, (AV.tup [])), (56, (boolA false)), (57, (boolA false)), (58, (intA t46)), (59, (boolA (t46 == (1)))), (60, (boolA true)), (61, (intA t13)), (62, (boolA (t13 != (0)))), (63, (boolA (t13 != (0)))), (64, (boolA (t13 != (0)))), (83, (intA (IntKind.wrap .i64 (t46 + (1)))))], m, 100020⟩) else (
callQ Try.prog KK.gl m 7 [v18] fun v35 =>
exT2 v35 fun c36 c37 =>
ex_i64 c37 fun z38 =>
bif (z38 != (0)) then (
retL R m [some (boolA false)]) else (
callQ Try.prog KK.gl m 10 [c36, t9] fun v39 =>
exB v39 fun b40 =>
bif (!b40) then (
retL R m [some (boolA false)]) else (
callQ Try.prog KK.gl m 11 [v18] fun v41 =>
ex_i64 v41 fun z42 =>
bif (z42 != (0)) then (
retL R m [some (boolA false)]) else (
N0 ⟨[(8, (boolA t8)), (9, t9), (10, (intA t10)), (13, (intA t13)), (44, t44), (45, (intA t45)), (46, (intA (IntKind.wrap .i64 (t46 + (1))))), (47, (boolA (decide (t46 < t45)))), (48, (intA t46)), (49, v17), (50, v18), (14, (intA t46)), (15, v18), (51, (intA t46)), (52, (boolA (t46 == (0)))), (53, (boolA false)), (54, (AV.tup [])), (55, (AV.tup [])), (56, (boolA false)), (57, (boolA false)), (58, (intA t46)), (59, (boolA (t46 == (1)))), (60, (boolA true)), (61, (intA t13)), (62, (boolA (t13 != (0)))), (63, (boolA (t13 != (0)))), (64, (boolA (t13 != (0)))), (66, v18), (67, (AV.tup [c36, (intA z38)])), (65, (AV.tup [c36, (intA z38)])), (68, c36), (69, (intA z38)), (16, c36), (17, (intA z38)), (70, (intA z38)), (71, (boolA (z38 != (0)))), (72, (boolA false)), (73, c36), (74, t9), (75, (boolA b40)), (76, (boolA (!b40))), (77, (boolA (!b40))), (78, (boolA false)), (79, v18), (80, (intA z42)), (81, (boolA (z42 != (0)))), (82, (boolA (z42 != (0)))), (83, (intA (IntKind.wrap .i64 (t46 + (1)))))], m, 100229⟩))))) else (
callQ Try.prog KK.gl m 7 [v18] fun v43 =>
exT2 v43 fun c44 c45 =>
ex_i64 c45 fun z46 =>
bif (z46 != (0)) then (
retL R m [some (boolA false)]) else (
callQ Try.prog KK.gl m 10 [c44, t9] fun v47 =>
exB v47 fun b48 =>
bif (!b48) then (
retL R m [some (boolA false)]) else (
callQ Try.prog KK.gl m 11 [v18] fun v49 =>
ex_i64 v49 fun z50 =>
bif (z50 != (0)) then (
retL R m [some (boolA false)]) else (
N0 ⟨[(8, (boolA t8)), (9, t9), (10, (intA t10)), (13, (intA t13)), (44, t44), (45, (intA t45)), (46, (intA (IntKind.wrap .i64 (t46 + (1))))), (47, (boolA (decide (t46 < t45)))), (48, (intA t46)), (49, v17), (50, v18), (14, (intA t46)), (15, v18), (51, (intA t46)), (52, (boolA (t46 == (0)))), (53, (boolA false)), (54, (AV.tup [])), (55, (AV.tup [])), (56, (boolA false)), (57, (boolA false)), (58, (intA t46)), (59, (boolA (t46 == (1)))), (60, (boolA false)), (61, (AV.tup [])), (62, (AV.tup [])), (63, (boolA false)), (64, (boolA false)), (66, v18), (67, (AV.tup [c44, (intA z46)])), (65, (AV.tup [c44, (intA z46)])), (68, c44), (69, (intA z46)), (16, c44), (17, (intA z46)), (70, (intA z46)), (71, (boolA (z46 != (0)))), (72, (boolA false)), (73, c44), (74, t9), (75, (boolA b48)), (76, (boolA (!b48))), (77, (boolA (!b48))), (78, (boolA false)), (79, v18), (80, (intA z50)), (81, (boolA (z50 != (0)))), (82, (boolA (z50 != (0)))), (83, (intA (IntKind.wrap .i64 (t46 + (1)))))], m, 100227⟩)))))) else (
retL R m [some (boolA true)])
theorem B3_0_eq (t8 : Bool) (t9 : AV) (t10 : Int) (t13 : Int) (t44 : AV) (t45 : Int) (t46 : Int) (m : Mem) (R : AV → Mem → Prop) (N0 : St → Prop) : W Try.prog KK 84 0 c3_0 (h3_0 t8 t9 t10 t13 t44 t45 t46 m) (qq3_0 R N0) = B3_0 t8 t9 t10 t13 t44 t45 t46 m R N0 := by kernel_rfl
theorem L3_0 (R : AV → Mem → Prop) {σ : Type} (I : σ → Prop) (t8 : σ → Bool) (t9 : σ → AV) (t10 : σ → Int) (t13 : σ → Int) (t44 : σ → AV) (t45 : σ → Int) (t46 : σ → Int) (m : σ → Mem) (μ : σ → Nat) (step : ∀ x, I x → B3_0 (t8 x) (t9 x) (t10 x) (t13 x) (t44 x) (t45 x) (t46 x) (m x) R (fun s' => ∃ y, I y ∧ μ y < μ x ∧ Weak KK 84 0 s' (h3_0 (t8 y) (t9 y) (t10 y) (t13 y) (t44 y) (t45 y) (t46 y) (m y)))) (x : σ) (hx : I x) {s : St} (hw : Weak KK 84 0 s (h3_0 (t8 x) (t9 x) (t10 x) (t13 x) (t44 x) (t45 x) (t46 x) (m x))) : Tri Try.prog KK 84 0 (.loop c3_0) s (q3_0 R) :=
  Tri.weak hw (Tri.loops fol I (fun x => h3_0 (t8 x) (t9 x) (t10 x) (t13 x) (t44 x) (t45 x) (t46 x) (m x)) μ (fun x hx => (B3_0_eq (t8 x) (t9 x) (t10 x) (t13 x) (t44 x) (t45 x) (t46 x) (m x) R _).mpr (step x hx)) x hx)
noncomputable def F3 (a0 : AV) (a1 : ByteArray) (a2 : ByteArray) (a3 : AV) (R : AV → Mem → Prop) : Prop :=
callQ Try.prog KK.gl [] 6 [] fun v0 =>
exB v0 fun b1 =>
bif (!b1) then (
retL R [] [some (boolA false)]) else (
callQ Try.prog KK.gl [] 7 [a0] fun v2 =>
exT2 v2 fun c3 c4 =>
ex_i64 c4 fun z5 =>
bif (z5 != (0)) then (
retL R [] [some (boolA true)]) else (
callQ Try.prog KK.gl [] 8 [a0, (AV.sc (.string a1)), (AV.sc (.string a2))] fun v6 =>
exT2 v6 fun c7 c8 =>
ex_i64 c8 fun z9 =>
callQ Try.prog KK.gl [] 9 [a0, (AV.sc (.string a1)), (AV.sc (.string a2)), a3] fun v10 =>
exT2 v10 fun c11 c12 =>
ex_i64 c12 fun z13 =>
opN (bsl 285 22 1 2 [AV.nils] [(0, c7), (1, c11)]) [] fun v14 m14 =>
opP (lenS v14) fun v15 =>
ex_i64 v15 fun z16 =>
Tri Try.prog KK 84 0 (.loop c3_0) ⟨[(0, a0), (1, (AV.sc (.string a1))), (2, (AV.sc (.string a2))), (3, a3), (8, (boolA false)), (18, (boolA b1)), (19, (boolA (!b1))), (21, a0), (22, (AV.tup [c3, (intA z5)])), (20, (AV.tup [c3, (intA z5)])), (23, c3), (24, (intA z5)), (9, c3), (10, (intA z9)), (25, (intA z5)), (26, (boolA (z5 != (0)))), (28, a0), (29, (AV.sc (.string a1))), (30, (AV.sc (.string a2))), (31, (AV.tup [c7, (intA z9)])), (27, (AV.tup [c7, (intA z9)])), (32, c7), (33, (intA z9)), (11, c7), (35, a0), (36, (AV.sc (.string a1))), (37, (AV.sc (.string a2))), (38, a3), (39, (AV.tup [c11, (intA z13)])), (34, (AV.tup [c11, (intA z13)])), (40, c11), (41, (intA z13)), (12, c11), (13, (intA z13)), (42, c7), (43, c11), (44, v14), (45, (intA z16)), (46, (intA (0)))], m14, 288⟩ (q3_0 R)))
theorem F3_own (a0 : AV) (a1 : ByteArray) (a2 : ByteArray) (a3 : AV) (R : AV → Mem → Prop) (h : F3 a0 a1 a2 a3 R) : Own Try.prog KK.gl 3 [a0, (AV.sc (.string a1)), (AV.sc (.string a2)), a3] R := own_of_F fol Try.func3 (code := c3) (by kernel_rfl) (by kernel_rfl) (by kernel_rfl) (X := F3 a0 a1 a2 a3 R) (by kernel_rfl) h
/- skyway/config.find -/
noncomputable def c27 : Code := ((Try.f27).body).getD .skip
noncomputable def q27 (R : AV → Mem → Prop) : AExit → St → Prop := retQ Try.prog Try.f27 R
noncomputable def c27_0 : Code := loopB c27 0
noncomputable def q27_0 (R : AV → Mem → Prop) : AExit → St → Prop := contW Try.prog KK 20 0 c27 0 (q27 R)
noncomputable def qq27_0 (R : AV → Mem → Prop) (N0 : St → Prop) : AExit → St → Prop := thenQ N0 (q27_0 R)
def h27_0 (t1 : ByteArray) (t4 : ByteArray) (t7 : AV) (t8 : Int) (t9 : Int) (m : Mem) : St := ⟨[(1, (AV.sc (.string t1))), (4, (AV.sc (.string t4))), (7, t7), (8, (intA t8)), (9, (intA t9))], m, 100000⟩
noncomputable def B27_0 (t1 : ByteArray) (t4 : ByteArray) (t7 : AV) (t8 : Int) (t9 : Int) (m : Mem) (R : AV → Mem → Prop) (N0 : St → Prop) : Prop :=
bif (decide (t9 < t8)) then (
opP (idxS 2 t7 (intA t9)) fun v2 =>
opP (ldA (mget m) 2 v2) fun v3 =>
exA2 v3 fun c4 c5 =>
exStr c4 fun s6 =>
chk (isCell c5) <| callQ Try.prog KK.gl ((100003, some ⟨[(AV.sc (.string s6)), c5], 40⟩) :: (100003, some ⟨[(AV.sc (.string ⟨#[]⟩)), AV.nils], 40⟩) :: m) 23 [c5, (AV.sc (.string t1))] fun v7 =>
exB v7 fun b8 =>
bif b8 then (
retL R ((100003, some ⟨[(AV.sc (.string s6)), c5], 40⟩) :: (100003, some ⟨[(AV.sc (.string ⟨#[]⟩)), AV.nils], 40⟩) :: m) [some (AV.sc (.string s6))]) else (
N0 ⟨[(1, (AV.sc (.string t1))), (4, (AV.sc (.string t4))), (7, t7), (8, (intA t8)), (9, (intA (IntKind.wrap .i64 (t9 + (1))))), (10, (boolA (decide (t9 < t8)))), (11, v2), (12, (AV.agg [(AV.sc (.string s6)), c5])), (6, (AV.ptr 100003 0)), (13, (AV.ptr 100003 1)), (14, c5), (15, (AV.sc (.string t1))), (16, (boolA b8)), (19, (intA (IntKind.wrap .i64 (t9 + (1)))))], ((100003, some ⟨[(AV.sc (.string s6)), c5], 40⟩) :: (100003, some ⟨[(AV.sc (.string ⟨#[]⟩)), AV.nils], 40⟩) :: m), 100074⟩)) else (
retL R m [some (AV.sc (.string ⟨#[]⟩))])
theorem B27_0_eq (t1 : ByteArray) (t4 : ByteArray) (t7 : AV) (t8 : Int) (t9 : Int) (m : Mem) (R : AV → Mem → Prop) (N0 : St → Prop) : W Try.prog KK 20 0 c27_0 (h27_0 t1 t4 t7 t8 t9 m) (qq27_0 R N0) = B27_0 t1 t4 t7 t8 t9 m R N0 := by kernel_rfl
theorem L27_0 (R : AV → Mem → Prop) {σ : Type} (I : σ → Prop) (t1 : σ → ByteArray) (t4 : σ → ByteArray) (t7 : σ → AV) (t8 : σ → Int) (t9 : σ → Int) (m : σ → Mem) (μ : σ → Nat) (step : ∀ x, I x → B27_0 (t1 x) (t4 x) (t7 x) (t8 x) (t9 x) (m x) R (fun s' => ∃ y, I y ∧ μ y < μ x ∧ Weak KK 20 0 s' (h27_0 (t1 y) (t4 y) (t7 y) (t8 y) (t9 y) (m y)))) (x : σ) (hx : I x) {s : St} (hw : Weak KK 20 0 s (h27_0 (t1 x) (t4 x) (t7 x) (t8 x) (t9 x) (m x))) : Tri Try.prog KK 20 0 (.loop c27_0) s (q27_0 R) :=
  Tri.weak hw (Tri.loops fol I (fun x => h27_0 (t1 x) (t4 x) (t7 x) (t8 x) (t9 x) (m x)) μ (fun x hx => (B27_0_eq (t1 x) (t4 x) (t7 x) (t8 x) (t9 x) (m x) R _).mpr (step x hx)) x hx)
noncomputable def F27 (a0 : AV) (a1 : ByteArray) (R : AV → Mem → Prop) : Prop :=
opP (lenS a0) fun v0 =>
ex_i64 v0 fun z1 =>
Tri Try.prog KK 20 0 (.loop c27_0) ⟨[(0, a0), (1, (AV.sc (.string a1))), (4, (AV.sc (.string ⟨#[]⟩))), (7, a0), (8, (intA z1)), (9, (intA (0)))], [], 4⟩ (q27_0 R)
theorem F27_own (a0 : AV) (a1 : ByteArray) (R : AV → Mem → Prop) (h : F27 a0 a1 R) : Own Try.prog KK.gl 27 [a0, (AV.sc (.string a1))] R := own_of_F fol Try.func27 (code := c27) (by kernel_rfl) (by kernel_rfl) (by kernel_rfl) (X := F27 a0 a1 R) (by kernel_rfl) h
/- skyway/config.Moves -/
noncomputable def c12 : Code := ((Try.f12).body).getD .skip
noncomputable def q12 (R : AV → Mem → Prop) : AExit → St → Prop := retQ Try.prog Try.f12 R
noncomputable def c12_0 : Code := loopB c12 0
noncomputable def q12_0 (R : AV → Mem → Prop) : AExit → St → Prop := contW Try.prog KK 58 0 c12 0 (q12 R)
noncomputable def qq12_0 (R : AV → Mem → Prop) (N0 : St → Prop) : AExit → St → Prop := thenQ N0 (q12_0 R)
def h12_0 (t0 : AV) (t1 : AV) (t4 : AV) (t5 : Int) (t9 : AV) (t34 : AV) (t35 : Int) (t36 : Int) (m : Mem) : St := ⟨[(0, t0), (1, t1), (4, t4), (5, (intA t5)), (9, t9), (34, t34), (35, (intA t35)), (36, (intA t36))], m, 100000⟩
noncomputable def B12_0 (t0 : AV) (t1 : AV) (t4 : AV) (t5 : Int) (t9 : AV) (t34 : AV) (t35 : Int) (t36 : Int) (m : Mem) (R : AV → Mem → Prop) (N0 : St → Prop) : Prop :=
bif (decide (t36 < t35)) then (
opP (idxS 1 t34 (intA t36)) fun v12 =>
opP (ldS (mget m) v12) fun v13 =>
exStr v13 fun s14 =>
callQ Try.prog KK.gl m 27 [t0, (AV.sc (.string s14))] fun v15 =>
exStr v15 fun s16 =>
callQ Try.prog KK.gl m 27 [t1, (AV.sc (.string s14))] fun v17 =>
exStr v17 fun s18 =>
bif (!((s16).toList == (s18).toList)) then (
opP (bld [(AV.sc (.string ⟨#[]⟩)), (AV.sc (.string ⟨#[]⟩)), (AV.sc (.string ⟨#[]⟩))] [(0, 1), (1, 1), (2, 1)] [(0, (AV.sc (.string s14))), (1, (AV.sc (.string s16))), (2, (AV.sc (.string s18)))]) fun v19 =>
opN (bsl 100146 45 3 1 [(AV.sc (.string ⟨#[]⟩)), (AV.sc (.string ⟨#[]⟩)), (AV.sc (.string ⟨#[]⟩))] [(0, v19)]) m fun v20 m20 =>
opN (app (mget m20) 45 3 48 [(AV.sc (.string ⟨#[]⟩)), (AV.sc (.string ⟨#[]⟩)), (AV.sc (.string ⟨#[]⟩))] 100147 t9 v20) m20 fun v21 m21 =>
N0 ⟨[(0, t0), (1, t1), (4, t4), (5, (intA t5)), (9, v21), (34, t34), (35, (intA t35)), (36, (intA (IntKind.wrap .i64 (t36 + (1))))), (37, (boolA (decide (t36 < t35)))), (38, v12), (39, (AV.sc (.string s14))), (11, (AV.sc (.string s14))), (40, t0), (41, (AV.sc (.string s14))), (42, (AV.sc (.string s16))), (43, t1), (44, (AV.sc (.string s14))), (45, (AV.sc (.string s18))), (12, (AV.sc (.string s16))), (13, (AV.sc (.string s18))), (46, (AV.sc (.string s16))), (47, (AV.sc (.string s18))), (48, (boolA (!((s16).toList == (s18).toList)))), (49, t9), (50, (AV.sc (.string s14))), (51, (AV.sc (.string s16))), (52, (AV.sc (.string s18))), (53, v19), (54, v20), (55, v21), (56, (intA (IntKind.wrap .i64 (t36 + (1)))))], m21, 100151⟩) else (
N0 ⟨[(0, t0), (1, t1), (4, t4), (5, (intA t5)), (9, t9), (34, t34), (35, (intA t35)), (36, (intA (IntKind.wrap .i64 (t36 + (1))))), (37, (boolA (decide (t36 < t35)))), (38, v12), (39, (AV.sc (.string s14))), (11, (AV.sc (.string s14))), (40, t0), (41, (AV.sc (.string s14))), (42, (AV.sc (.string s16))), (43, t1), (44, (AV.sc (.string s14))), (45, (AV.sc (.string s18))), (12, (AV.sc (.string s16))), (13, (AV.sc (.string s18))), (46, (AV.sc (.string s16))), (47, (AV.sc (.string s18))), (48, (boolA (!((s16).toList == (s18).toList)))), (56, (intA (IntKind.wrap .i64 (t36 + (1)))))], m, 100143⟩)) else (
retL R m [some t9, some (intA (0))])
theorem B12_0_eq (t0 : AV) (t1 : AV) (t4 : AV) (t5 : Int) (t9 : AV) (t34 : AV) (t35 : Int) (t36 : Int) (m : Mem) (R : AV → Mem → Prop) (N0 : St → Prop) : W Try.prog KK 58 0 c12_0 (h12_0 t0 t1 t4 t5 t9 t34 t35 t36 m) (qq12_0 R N0) = B12_0 t0 t1 t4 t5 t9 t34 t35 t36 m R N0 := by kernel_rfl
theorem L12_0 (R : AV → Mem → Prop) {σ : Type} (I : σ → Prop) (t0 : σ → AV) (t1 : σ → AV) (t4 : σ → AV) (t5 : σ → Int) (t9 : σ → AV) (t34 : σ → AV) (t35 : σ → Int) (t36 : σ → Int) (m : σ → Mem) (μ : σ → Nat) (step : ∀ x, I x → B12_0 (t0 x) (t1 x) (t4 x) (t5 x) (t9 x) (t34 x) (t35 x) (t36 x) (m x) R (fun s' => ∃ y, I y ∧ μ y < μ x ∧ Weak KK 58 0 s' (h12_0 (t0 y) (t1 y) (t4 y) (t5 y) (t9 y) (t34 y) (t35 y) (t36 y) (m y)))) (x : σ) (hx : I x) {s : St} (hw : Weak KK 58 0 s (h12_0 (t0 x) (t1 x) (t4 x) (t5 x) (t9 x) (t34 x) (t35 x) (t36 x) (m x))) : Tri Try.prog KK 58 0 (.loop c12_0) s (q12_0 R) :=
  Tri.weak hw (Tri.loops fol I (fun x => h12_0 (t0 x) (t1 x) (t4 x) (t5 x) (t9 x) (t34 x) (t35 x) (t36 x) (m x)) μ (fun x hx => (B12_0_eq (t0 x) (t1 x) (t4 x) (t5 x) (t9 x) (t34 x) (t35 x) (t36 x) (m x) R _).mpr (step x hx)) x hx)
noncomputable def F12 (a0 : AV) (a1 : AV) (R : AV → Mem → Prop) : Prop :=
callQ Try.prog KK.gl [] 7 [a0] fun v0 =>
exT2 v0 fun c1 c2 =>
ex_i64 c2 fun z3 =>
bif (z3 != (0)) then (
retL R [] [some AV.nils, some (intA z3)]) else (
callQ Try.prog KK.gl [] 7 [a1] fun v4 =>
exT2 v4 fun c5 c6 =>
ex_i64 c6 fun z7 =>
bif (z7 != (0)) then (
retL R [] [some AV.nils, some (intA z7)]) else (
callQ Try.prog KK.gl [] 10 [c1, c5] fun v8 =>
exB v8 fun b9 =>
bif (!b9) then (
retL R [] [some AV.nils, some (intA (19))]) else (
opP (lenS c1) fun v10 =>
ex_i64 v10 fun z11 =>
Tri Try.prog KK 58 0 (.loop c12_0) ⟨[(0, a0), (1, a1), (4, AV.nils), (5, (intA (0))), (15, a0), (16, (AV.tup [c1, (intA z3)])), (14, (AV.tup [c1, (intA z3)])), (17, c1), (18, (intA z3)), (6, c1), (7, (intA z7)), (19, (intA z3)), (20, (boolA (z3 != (0)))), (23, a1), (24, (AV.tup [c5, (intA z7)])), (22, (AV.tup [c5, (intA z7)])), (25, c5), (26, (intA z7)), (8, c5), (27, (intA z7)), (28, (boolA (z7 != (0)))), (30, c1), (31, c5), (32, (boolA b9)), (33, (boolA (!b9))), (9, AV.nils), (34, c1), (35, (intA z11)), (36, (intA (0)))], [], 217⟩ (q12_0 R))))
theorem F12_own (a0 : AV) (a1 : AV) (R : AV → Mem → Prop) (h : F12 a0 a1 R) : Own Try.prog KK.gl 12 [a0, a1] R := own_of_F fol Try.func12 (code := c12) (by kernel_rfl) (by kernel_rfl) (by kernel_rfl) (X := F12 a0 a1 R) (by kernel_rfl) h
/- skyway/skywaykeep3.ConfigInverts$1 -/
noncomputable def c14 : Code := ((Try.f14).body).getD .skip
noncomputable def q14 (R : AV → Mem → Prop) : AExit → St → Prop := retQ Try.prog Try.f14 R
noncomputable def F14 (a0_0 : ByteArray) (a0_1 : AV) (a1 : AV) (R : AV → Mem → Prop) : Prop :=
chk (isCell a0_1) <| opP (ldS (mget ((0, some ⟨[(AV.sc (.string a0_0)), a0_1], 40⟩) :: [])) a1) fun v0 =>
exStr v0 fun s1 =>
retL R ((0, some ⟨[(AV.sc (.string a0_0)), a0_1], 40⟩) :: []) [some (boolA ((a0_0).toList == (s1).toList))]
theorem F14_own (a0_0 : ByteArray) (a0_1 : AV) (a1 : AV) (R : AV → Mem → Prop) (h : F14 a0_0 a0_1 a1 R) : Own Try.prog KK.gl 14 [(AV.agg [(AV.sc (.string a0_0)), a0_1]), a1] R := own_of_F fol Try.func14 (code := c14) (by kernel_rfl) (by kernel_rfl) (by kernel_rfl) (X := F14 a0_0 a0_1 a1 R) (by kernel_rfl) h
/- skyway/skywaykeep3.ConfigInverts -/
noncomputable def c4 : Code := ((Try.f4).body).getD .skip
noncomputable def q4 (R : AV → Mem → Prop) : AExit → St → Prop := retQ Try.prog Try.f4 R
noncomputable def F4 (a0 : AV) (a1 : ByteArray) (a2 : ByteArray) (a3 : AV) (R : AV → Mem → Prop) : Prop :=
callQ Try.prog KK.gl ((0, some ⟨[(AV.sc (.string a2))], 9⟩) :: []) 6 [] fun v0 =>
exB v0 fun b1 =>
bif (!b1) then (
retL R ((0, some ⟨[(AV.sc (.string a2))], 9⟩) :: []) [some (boolA false)]) else (
callQ Try.prog KK.gl ((0, some ⟨[(AV.sc (.string a2))], 9⟩) :: []) 9 [a0, (AV.sc (.string a1)), (AV.sc (.string a2)), a3] fun v2 =>
exT2 v2 fun c3 c4 =>
ex_i64 c4 fun z5 =>
bif (z5 == (0)) then (
callQ Try.prog KK.gl ((0, some ⟨[(AV.sc (.string a2))], 9⟩) :: []) 8 [c3, (AV.sc (.string a1)), (AV.sc (.string a2))] fun v6 =>
exT2 v6 fun c7 c8 =>
ex_i64 c8 fun z9 =>
callQ Try.prog KK.gl ((0, some ⟨[(AV.sc (.string a2))], 9⟩) :: []) 12 [a0, c7] fun v10 =>
exT2 v10 fun c11 c12 =>
ex_i64 c12 fun z13 =>
bif (z9 != (0)) then (
retL R ((0, some ⟨[(AV.sc (.string a2))], 9⟩) :: []) [some (boolA false)]) else (
bif (z13 != (0)) then (
retL R ((0, some ⟨[(AV.sc (.string a2))], 9⟩) :: []) [some (boolA false)]) else (
opP (lenS c11) fun v14 =>
ex_i64 v14 fun z15 =>
bif (decide (z15 > (0))) then (
retL R ((0, some ⟨[(AV.sc (.string a2))], 9⟩) :: []) [some (boolA false)]) else (
callQ Try.prog KK.gl ((0, some ⟨[(AV.sc (.string a2))], 9⟩) :: []) 8 [a0, (AV.sc (.string a1)), (AV.sc (.string a2))] fun v16 =>
exT2 v16 fun c17 c18 =>
ex_i64 c18 fun z19 =>
bif (z19 != (0)) then (
retL R ((0, some ⟨[(AV.sc (.string a2))], 9⟩) :: []) [some (boolA true)]) else (
callQ Try.prog KK.gl ((0, some ⟨[(AV.sc (.string a2))], 9⟩) :: []) 13 [a0, (AV.fn 14 [(AV.ptr 0 0)])] fun v20 =>
ex_i64 v20 fun z21 =>
bif (decide (z21 < (0))) then (
retL R ((0, some ⟨[(AV.sc (.string a2))], 9⟩) :: []) [some (boolA false)]) else (
opP (idxS 2 a0 (intA z21)) fun v22 =>
opP (fldO 1 v22) fun v23 =>
opP (ldS (mget ((0, some ⟨[(AV.sc (.string a2))], 9⟩) :: [])) v23) fun v24 =>
callQ Try.prog KK.gl ((0, some ⟨[(AV.sc (.string a2))], 9⟩) :: []) 9 [c17, (AV.sc (.string a1)), (AV.sc (.string a2)), v24] fun v25 =>
exT2 v25 fun c26 c27 =>
ex_i64 c27 fun z28 =>
callQ Try.prog KK.gl ((0, some ⟨[(AV.sc (.string a2))], 9⟩) :: []) 12 [a0, c26] fun v29 =>
exT2 v29 fun c30 c31 =>
ex_i64 c31 fun z32 =>
bif (z28 == (0)) then (
bif (z32 == (0)) then (
opP (lenS c30) fun v33 =>
ex_i64 v33 fun z34 =>
retL R ((0, some ⟨[(AV.sc (.string a2))], 9⟩) :: []) [some (boolA (z34 == (0)))]) else (
retL R ((0, some ⟨[(AV.sc (.string a2))], 9⟩) :: []) [some (boolA false)])) else (
retL R ((0, some ⟨[(AV.sc (.string a2))], 9⟩) :: []) [some (boolA false)]))))))) else (
callQ Try.prog KK.gl ((0, some ⟨[(AV.sc (.string a2))], 9⟩) :: []) 8 [a0, (AV.sc (.string a1)), (AV.sc (.string a2))] fun v35 =>
exT2 v35 fun c36 c37 =>
ex_i64 c37 fun z38 =>
bif (z38 != (0)) then (
retL R ((0, some ⟨[(AV.sc (.string a2))], 9⟩) :: []) [some (boolA true)]) else (
callQ Try.prog KK.gl ((0, some ⟨[(AV.sc (.string a2))], 9⟩) :: []) 13 [a0, (AV.fn 14 [(AV.ptr 0 0)])] fun v39 =>
ex_i64 v39 fun z40 =>
bif (decide (z40 < (0))) then (
retL R ((0, some ⟨[(AV.sc (.string a2))], 9⟩) :: []) [some (boolA false)]) else (
opP (idxS 2 a0 (intA z40)) fun v41 =>
opP (fldO 1 v41) fun v42 =>
opP (ldS (mget ((0, some ⟨[(AV.sc (.string a2))], 9⟩) :: [])) v42) fun v43 =>
callQ Try.prog KK.gl ((0, some ⟨[(AV.sc (.string a2))], 9⟩) :: []) 9 [c36, (AV.sc (.string a1)), (AV.sc (.string a2)), v43] fun v44 =>
exT2 v44 fun c45 c46 =>
ex_i64 c46 fun z47 =>
callQ Try.prog KK.gl ((0, some ⟨[(AV.sc (.string a2))], 9⟩) :: []) 12 [a0, c45] fun v48 =>
exT2 v48 fun c49 c50 =>
ex_i64 c50 fun z51 =>
bif (z47 == (0)) then (
bif (z51 == (0)) then (
opP (lenS c49) fun v52 =>
ex_i64 v52 fun z53 =>
retL R ((0, some ⟨[(AV.sc (.string a2))], 9⟩) :: []) [some (boolA (z53 == (0)))]) else (
retL R ((0, some ⟨[(AV.sc (.string a2))], 9⟩) :: []) [some (boolA false)])) else (
retL R ((0, some ⟨[(AV.sc (.string a2))], 9⟩) :: []) [some (boolA false)])))))
theorem F4_own (a0 : AV) (a1 : ByteArray) (a2 : ByteArray) (a3 : AV) (R : AV → Mem → Prop) (h : F4 a0 a1 a2 a3 R) : Own Try.prog KK.gl 4 [a0, (AV.sc (.string a1)), (AV.sc (.string a2)), a3] R := own_of_F fol Try.func4 (code := c4) (by kernel_rfl) (by kernel_rfl) (by kernel_rfl) (X := F4 a0 a1 a2 a3 R) (by kernel_rfl) h
/- slices.Clone[[]skyway/api.ConfigGroup,skyway/api.ConfigGroup] -/
noncomputable def c31 : Code := ((Try.f31).body).getD .skip
noncomputable def q31 (R : AV → Mem → Prop) : AExit → St → Prop := retQ Try.prog Try.f31 R
noncomputable def F31 (a0 : AV) (R : AV → Mem → Prop) : Prop :=
nilK a0 fun b0 =>
bif b0 then (
retL R [] [some AV.nils]) else (
opN (bsl 3 40 2 0 [(AV.sc (.string ⟨#[]⟩)), AV.nils] []) [] fun v2 m2 =>
opN (app (mget m2) 40 2 40 [(AV.sc (.string ⟨#[]⟩)), AV.nils] 5 v2 a0) m2 fun v3 m3 =>
retL R m3 [some v3])
theorem F31_own (a0 : AV) (R : AV → Mem → Prop) (h : F31 a0 R) : Own Try.prog KK.gl 31 [a0] R := own_of_F fol Try.func31 (code := c31) (by kernel_rfl) (by kernel_rfl) (by kernel_rfl) (X := F31 a0 R) (by kernel_rfl) h
/- slices.Clone[[]string,string] -/
noncomputable def c32 : Code := ((Try.f32).body).getD .skip
noncomputable def q32 (R : AV → Mem → Prop) : AExit → St → Prop := retQ Try.prog Try.f32 R
noncomputable def F32 (a0 : AV) (R : AV → Mem → Prop) : Prop :=
nilK a0 fun b0 =>
bif b0 then (
retL R [] [some AV.nils]) else (
opN (bsl 3 9 1 0 [(AV.sc (.string ⟨#[]⟩))] []) [] fun v2 m2 =>
opN (app (mget m2) 9 1 16 [(AV.sc (.string ⟨#[]⟩))] 5 v2 a0) m2 fun v3 m3 =>
retL R m3 [some v3])
theorem F32_own (a0 : AV) (R : AV → Mem → Prop) (h : F32 a0 R) : Own Try.prog KK.gl 32 [a0] R := own_of_F fol Try.func32 (code := c32) (by kernel_rfl) (by kernel_rfl) (by kernel_rfl) (X := F32 a0 R) (by kernel_rfl) h
/- slices.Delete[[]skyway/api.ConfigGroup,skyway/api.ConfigGroup] at 1 -/
noncomputable def F21_1 (a0 : AV) (a1 : Int) (a2 : Int) (m : Mem) (R : AV → Mem → Prop) : Prop :=
opP (lenS a0) fun v0 =>
ex_i64 v0 fun z1 =>
opP (opA Try.prog (.slice 22 (.tmp 0) (some (.tmp 1)) (some (.tmp 2)) (some (.tmp 3))) 22 [a0, (intA a1), (intA a2), (intA z1)] (mget m) 7) fun v2 =>
bif (a1 == a2) then (
chk (Nat.ble 13 65) (retL R m [some a0])) else (
opP (lenS a0) fun v3 =>
ex_i64 v3 fun z4 =>
opM (opA Try.prog (.slice 22 (.tmp 0) none (some (.tmp 1)) none) 22 [a0, (intA a1)] (look' m (topId a0 ++ (topId (intA a1) ++ ([])))) 16) fun v5 d5 =>
opM (opA Try.prog (.slice 22 (.tmp 0) (some (.tmp 1)) none none) 22 [a0, (intA a2)] (look' (mpushs m d5) (topId a0 ++ (topId (intA a2) ++ ([])))) 19) fun v6 d6 =>
opM (app (look' (mpushs (mpushs m d5) d6) (topId v5 ++ (topId v6 ++ ([])))) 40 2 40 [(AV.sc (.string ⟨#[]⟩)), AV.nils] 20 v5 v6) fun v7 d7 =>
chk (confOk [0, 0, 3, 0, 0, 24, 63, 127] [⟨[], []⟩, ⟨[], []⟩, ⟨d5, (topId a0 ++ (topId (intA a1) ++ ([])))⟩, ⟨[], []⟩, ⟨[], []⟩, ⟨d6, (topId a0 ++ (topId (intA a2) ++ ([])))⟩, ⟨d7, (topId v5 ++ (topId v6 ++ ([])))⟩, ⟨[], []⟩]) (opP (lenS v7) fun v8 =>
ex_i64 v8 fun z9 =>
opP (opA Try.prog (.slice 22 (.tmp 0) (some (.tmp 1)) (some (.tmp 2)) none) 22 [v7, (intA z9), (intA z4)] (mget (mpushs (mpushs (mpushs m d5) d6) d7)) 26) fun v10 =>
opN (opA Try.prog (.call ⟨.builtin .clear, #[.tmp 0], #[22]⟩) 0 [v10] (mget (mpushs (mpushs (mpushs m d5) d6) d7)) 27) (mpushs (mpushs (mpushs m d5) d6) d7) fun v11 m11 =>
exT0 v11 <|
chk (Nat.ble 30 65) (retL R m11 [some v7])))
theorem F21_1_call (a0 : AV) (a1 : Int) (a2 : Int) (m : Mem) (R : AV → Mem → Prop) (h : F21_1 a0 a1 a2 m R) : callW Try.prog KK.gl m 1 21 [a0, (intA a1), (intA a2)] R := call_of_F fol Try.func21 (code := ((Try.f21).body).getD .skip) (by kernel_rfl) (by kernel_rfl) (by kernel_rfl) (X := F21_1 a0 a1 a2 m R) (by kernel_rfl) h
end Go.Proofs.Ythjcdlbkdobmiaa
