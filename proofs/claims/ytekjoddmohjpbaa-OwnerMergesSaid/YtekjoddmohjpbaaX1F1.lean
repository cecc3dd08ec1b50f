/- Functions of the program as conditions on their answers; printed by wip/Gen.lean.txt. -/
import Derived.Test.YtekjoddmohjpbaaX1T
set_option linter.unusedVariables false
set_option maxRecDepth 100000
namespace Go.Proofs.Ytekjoddmohjpbaa
/- skyway/chart.Name -/
noncomputable def c34 : Code := ((Try.f34).body).getD .skip
noncomputable def q34 (R : AV → Mem → Prop) : AExit → St → Prop := retQ Try.prog Try.f34 R
noncomputable def c34_0 : Code := loopB c34 0
noncomputable def q34_0 (R : AV → Mem → Prop) : AExit → St → Prop := contW Try.prog KK 41 0 c34 0 (q34 R)
noncomputable def qq34_0 (R : AV → Mem → Prop) (N0 : St → Prop) : AExit → St → Prop := thenQ N0 (q34_0 R)
def h34_0 (t2 : Bool) (t14 : AV) (t15 : Int) (t16 : Int) (m : Mem) : St := ⟨[(2, (AV.sc (.bool t2))), (14, t14), (15, (AV.sc (.int .i64 t15))), (16, (AV.sc (.int .i64 t16)))], m, 100000⟩
noncomputable def B34_0 (t2 : Bool) (t14 : AV) (t15 : Int) (t16 : Int) (m : Mem) (R : AV → Mem → Prop) (N0 : St → Prop) : Prop :=
bif (decide (t16 < t15)) then (
opP (idxS 1 t14 (AV.sc (.int .i64 t16))) fun v7 =>
opP (ldS (mget m) v7) fun v8 =>
ex_u8 v8 fun z9 =>
bif (decide (z9 ≥ (65))) then (
bif (decide (z9 ≤ (90))) then (
N0 ⟨[(2, (AV.sc (.bool t2))), (14, t14), (15, (AV.sc (.int .i64 t15))), (16, (AV.sc (.int .i64 (IntKind.wrap .i64 (t16 + (1)))))), (17, (AV.sc (.bool (decide (t16 < t15))))), (18, (AV.sc (.int .i64 t16))), (19, v7), (20, (AV.sc (.int .u8 z9))), (3, (AV.sc (.int .i64 t16))), (4, (AV.sc (.int .u8 z9))), (21, (AV.sc (.int .u8 z9))), (22, (AV.sc (.bool (decide (z9 ≥ (65)))))), (23, (AV.sc (.bool true))), (24, (AV.sc (.int .u8 z9))), (25, (AV.sc (.bool (decide (z9 ≤ (90)))))), (26, (AV.sc (.bool (decide (z9 ≤ (90)))))), (27, (AV.sc (.bool true))), (28, (AV.tup [])), (29, (AV.tup [])), (30, (AV.tup [])), (31, (AV.tup [])), (32, (AV.tup [])), (33, (AV.tup [])), (34, (AV.tup [])), (35, (AV.tup [])), (36, (AV.tup [])), (37, (AV.tup [])), (38, (AV.sc (.bool true))), (39, (AV.sc (.bool false))), (40, (AV.sc (.int .i64 (IntKind.wrap .i64 (t16 + (1))))))], m, 100017⟩) else (
bif (decide (t16 > (0))) then (
bif (decide (z9 ≥ (48))) then (
bif (!(decide (z9 ≤ (57)))) then (
retL R m [some (AV.sc (.bool false))]) else (
N0 ⟨[(2, (AV.sc (.bool t2))), (14, t14), (15, (AV.sc (.int .i64 t15))), (16, (AV.sc (.int .i64 (IntKind.wrap .i64 (t16 + (1)))))), (17, (AV.sc (.bool (decide (t16 < t15))))), (18, (AV.sc (.int .i64 t16))), (19, v7), (20, (AV.sc (.int .u8 z9))), (3, (AV.sc (.int .i64 t16))), (4, (AV.sc (.int .u8 z9))), (21, (AV.sc (.int .u8 z9))), (22, (AV.sc (.bool (decide (z9 ≥ (65)))))), (23, (AV.sc (.bool true))), (24, (AV.sc (.int .u8 z9))), (25, (AV.sc (.bool (decide (z9 ≤ (90)))))), (26, (AV.sc (.bool (decide (z9 ≤ (90)))))), (27, (AV.sc (.bool false))), (28, (AV.sc (.int .i64 t16))), (29, (AV.sc (.bool (decide (t16 > (0)))))), (30, (AV.sc (.bool true))), (31, (AV.sc (.int .u8 z9))), (32, (AV.sc (.bool (decide (z9 ≥ (48)))))), (33, (AV.sc (.bool (decide (z9 ≥ (48)))))), (34, (AV.sc (.bool true))), (35, (AV.sc (.int .u8 z9))), (36, (AV.sc (.bool (decide (z9 ≤ (57)))))), (37, (AV.sc (.bool (decide (z9 ≤ (57)))))), (38, (AV.sc (.bool (decide (z9 ≤ (57)))))), (39, (AV.sc (.bool (!(decide (z9 ≤ (57))))))), (40, (AV.sc (.int .i64 (IntKind.wrap .i64 (t16 + (1))))))], m, 100027⟩)) else (
retL R m [some (AV.sc (.bool false))])) else (
retL R m [some (AV.sc (.bool false))]))) else (
bif (decide (t16 > (0))) then (
bif (decide (z9 ≥ (48))) then (
bif (!(decide (z9 ≤ (57)))) then (
retL R m [some (AV.sc (.bool false))]) else (
N0 ⟨[(2, (AV.sc (.bool t2))), (14, t14), (15, (AV.sc (.int .i64 t15))), (16, (AV.sc (.int .i64 (IntKind.wrap .i64 (t16 + (1)))))), (17, (AV.sc (.bool (decide (t16 < t15))))), (18, (AV.sc (.int .i64 t16))), (19, v7), (20, (AV.sc (.int .u8 z9))), (3, (AV.sc (.int .i64 t16))), (4, (AV.sc (.int .u8 z9))), (21, (AV.sc (.int .u8 z9))), (22, (AV.sc (.bool (decide (z9 ≥ (65)))))), (23, (AV.sc (.bool false))), (24, (AV.tup [])), (25, (AV.tup [])), (26, (AV.sc (.bool false))), (27, (AV.sc (.bool false))), (28, (AV.sc (.int .i64 t16))), (29, (AV.sc (.bool (decide (t16 > (0)))))), (30, (AV.sc (.bool true))), (31, (AV.sc (.int .u8 z9))), (32, (AV.sc (.bool (decide (z9 ≥ (48)))))), (33, (AV.sc (.bool (decide (z9 ≥ (48)))))), (34, (AV.sc (.bool true))), (35, (AV.sc (.int .u8 z9))), (36, (AV.sc (.bool (decide (z9 ≤ (57)))))), (37, (AV.sc (.bool (decide (z9 ≤ (57)))))), (38, (AV.sc (.bool (decide (z9 ≤ (57)))))), (39, (AV.sc (.bool (!(decide (z9 ≤ (57))))))), (40, (AV.sc (.int .i64 (IntKind.wrap .i64 (t16 + (1))))))], m, 100025⟩)) else (
retL R m [some (AV.sc (.bool false))])) else (
retL R m [some (AV.sc (.bool false))]))) else (
retL R m [some (AV.sc (.bool true))])
theorem B34_0_eq (t2 : Bool) (t14 : AV) (t15 : Int) (t16 : Int) (m : Mem) (R : AV → Mem → Prop) (N0 : St → Prop) : W Try.prog KK 41 0 c34_0 (h34_0 t2 t14 t15 t16 m) (qq34_0 R N0) = B34_0 t2 t14 t15 t16 m R N0 := by kernel_rfl
theorem L34_0 (R : AV → Mem → Prop) {σ : Type} (I : σ → Prop) (t2 : σ → Bool) (t14 : σ → AV) (t15 : σ → Int) (t16 : σ → Int) (m : σ → Mem) (μ : σ → Nat) (step : ∀ x, I x → B34_0 (t2 x) (t14 x) (t15 x) (t16 x) (m x) R (fun s' => ∃ y, I y ∧ μ y < μ x ∧ Weak KK 41 0 s' (h34_0 (t2 y) (t14 y) (t15 y) (t16 y) (m y)))) (x : σ) (hx : I x) {s : St} (hw : Weak KK 41 0 s (h34_0 (t2 x) (t14 x) (t15 x) (t16 x) (m x))) : Tri Try.prog KK 41 0 (.loop c34_0) s (q34_0 R) :=
  Tri.weak hw (Tri.loops fol I (fun x => h34_0 (t2 x) (t14 x) (t15 x) (t16 x) (m x)) μ (fun x hx => (B34_0_eq (t2 x) (t14 x) (t15 x) (t16 x) (m x) R _).mpr (step x hx)) x hx)
noncomputable def F34 (a0 : ByteArray) (R : AV → Mem → Prop) : Prop :=
opP (opA Try.prog (.call ⟨.builtin .len, #[.tmp 0], #[9]⟩) 3 [(AV.sc (.string a0))] (mget []) 2) fun v0 =>
ex_i64 v0 fun z1 =>
bif (decide (z1 < (1))) then (
retL R [] [some (AV.sc (.bool false))]) else (
opP (opA Try.prog (.call ⟨.builtin .len, #[.tmp 0], #[9]⟩) 3 [(AV.sc (.string a0))] (mget []) 6) fun v2 =>
ex_i64 v2 fun z3 =>
bif (decide (z3 > (8))) then (
retL R [] [some (AV.sc (.bool false))]) else (
opP (opA Try.prog (.convert 9 74 (.tmp 0)) 74 [(AV.sc (.string a0))] (mget []) 10) fun v4 =>
opP (lenS v4) fun v5 =>
ex_i64 v5 fun z6 =>
Tri Try.prog KK 41 0 (.loop c34_0) ⟨[(0, (AV.sc (.string a0))), (2, (AV.sc (.bool false))), (5, (AV.sc (.string a0))), (6, (AV.sc (.int .i64 z1))), (7, (AV.sc (.bool (decide (z1 < (1)))))), (8, (AV.sc (.bool false))), (9, (AV.sc (.string a0))), (10, (AV.sc (.int .i64 z3))), (11, (AV.sc (.bool (decide (z3 > (8)))))), (12, (AV.sc (.bool (decide (z3 > (8)))))), (13, (AV.sc (.string a0))), (14, v4), (15, (AV.sc (.int .i64 z6))), (16, (AV.sc (.int .i64 (0))))], [], 13⟩ (q34_0 R)))
theorem F34_own (a0 : ByteArray) (R : AV → Mem → Prop) (h : F34 a0 R) : Own Try.prog KK.gl 34 [(AV.sc (.string a0))] R := own_of_F fol Try.func34 (code := c34) (by kernel_rfl) (by kernel_rfl) (by kernel_rfl) (X := F34 a0 R) (by kernel_rfl) h
/- skyway/owner.Name -/
noncomputable def c21 : Code := ((Try.f21).body).getD .skip
noncomputable def q21 (R : AV → Mem → Prop) : AExit → St → Prop := retQ Try.prog Try.f21 R
noncomputable def F21 (a0 : ByteArray) (R : AV → Mem → Prop) : Prop :=
callQ Try.prog KK.gl [] 34 [(AV.sc (.string a0))] fun v0 =>
exB v0 fun b1 =>
retL R [] [some (AV.sc (.bool b1))]
theorem F21_own (a0 : ByteArray) (R : AV → Mem → Prop) (h : F21 a0 R) : Own Try.prog KK.gl 21 [(AV.sc (.string a0))] R := own_of_F fol Try.func21 (code := c21) (by kernel_rfl) (by kernel_rfl) (by kernel_rfl) (X := F21 a0 R) (by kernel_rfl) h
/- skyway/owner.Check -/
noncomputable def c12 : Code := ((Try.f12).body).getD .skip
noncomputable def q12 (R : AV → Mem → Prop) : AExit → St → Prop := retQ Try.prog Try.f12 R
noncomputable def c12_0 : Code := loopB c12 0
noncomputable def q12_0 (R : AV → Mem → Prop) : AExit → St → Prop := contW Try.prog KK 58 0 c12 0 (q12 R)
noncomputable def qq12_0 (R : AV → Mem → Prop) (N0 : St → Prop) : AExit → St → Prop := thenQ N0 (q12_0 R)
def h12_0 (t0 : AV) (t2 : Int) (t8 : AV) (t9 : Int) (t10 : Int) (m : Mem) : St := ⟨[(0, t0), (2, (AV.sc (.int .i64 t2))), (8, t8), (9, (AV.sc (.int .i64 t9))), (10, (AV.sc (.int .i64 t10)))], m, 100000⟩
noncomputable def B12_0 (t0 : AV) (t2 : Int) (t8 : AV) (t9 : Int) (t10 : Int) (m : Mem) (R : AV → Mem → Prop) (N0 : St → Prop) : Prop :=
bif (decide (t10 < t9)) then (
opP (idxS 3 t8 (AV.sc (.int .i64 t10))) fun v4 =>
opP (ldA (mget m) 3 v4) fun v5 =>
exA3 v5 fun c6 c7 c8 =>
exStr c6 fun s9 =>
exStr c7 fun s10 =>
exStr c8 fun s11 =>
callQ Try.prog KK.gl ((100004, some ⟨[(AV.sc (.string s9)), (AV.sc (.string s10)), (AV.sc (.string s11))], 32⟩) :: (100004, some ⟨[(AV.sc (.string ⟨#[]⟩)), (AV.sc (.string ⟨#[]⟩)), (AV.sc (.string ⟨#[]⟩))], 32⟩) :: m) 21 [(AV.sc (.string s9))] fun v12 =>
exB v12 fun b13 =>
bif (!b13) then (
retL R ((100004, some ⟨[(AV.sc (.string s9)), (AV.sc (.string s10)), (AV.sc (.string s11))], 32⟩) :: (100004, some ⟨[(AV.sc (.string ⟨#[]⟩)), (AV.sc (.string ⟨#[]⟩)), (AV.sc (.string ⟨#[]⟩))], 32⟩) :: m) [some (AV.sc (.int .i64 (3)))]) else (
callQ Try.prog KK.gl ((100004, some ⟨[(AV.sc (.string s9)), (AV.sc (.string s10)), (AV.sc (.string s11))], 32⟩) :: (100004, some ⟨[(AV.sc (.string ⟨#[]⟩)), (AV.sc (.string ⟨#[]⟩)), (AV.sc (.string ⟨#[]⟩))], 32⟩) :: m) 21 [(AV.sc (.string s10))] fun v14 =>
exB v14 fun b15 =>
bif (!b15) then (
retL R ((100004, some ⟨[(AV.sc (.string s9)), (AV.sc (.string s10)), (AV.sc (.string s11))], 32⟩) :: (100004, some ⟨[(AV.sc (.string ⟨#[]⟩)), (AV.sc (.string ⟨#[]⟩)), (AV.sc (.string ⟨#[]⟩))], 32⟩) :: m) [some (AV.sc (.int .i64 (3)))]) else (
bif (!((s11).toList == ((⟨#[]⟩ : ByteArray)).toList)) then (
callQ Try.prog KK.gl ((100004, some ⟨[(AV.sc (.string s9)), (AV.sc (.string s10)), (AV.sc (.string s11))], 32⟩) :: (100004, some ⟨[(AV.sc (.string ⟨#[]⟩)), (AV.sc (.string ⟨#[]⟩)), (AV.sc (.string ⟨#[]⟩))], 32⟩) :: m) 21 [(AV.sc (.string s11))] fun v16 =>
exB v16 fun b17 =>
bif (!b17) then (
retL R ((100004, some ⟨[(AV.sc (.string s9)), (AV.sc (.string s10)), (AV.sc (.string s11))], 32⟩) :: (100004, some ⟨[(AV.sc (.string ⟨#[]⟩)), (AV.sc (.string ⟨#[]⟩)), (AV.sc (.string ⟨#[]⟩))], 32⟩) :: m) [some (AV.sc (.int .i64 (3)))]) else (
bif ((s11).toList == (s10).toList) then (
retL R ((100004, some ⟨[(AV.sc (.string s9)), (AV.sc (.string s10)), (AV.sc (.string s11))], 32⟩) :: (100004, some ⟨[(AV.sc (.string ⟨#[]⟩)), (AV.sc (.string ⟨#[]⟩)), (AV.sc (.string ⟨#[]⟩))], 32⟩) :: m) [some (AV.sc (.int .i64 (11)))]) else (
bif (decide (t10 > (0))) then (
opP (idxS 3 t0 (AV.sc (.int .i64 (IntKind.wrap .i64 (t10 - (1)))))) fun v18 =>
opP (fldO 0 v18) fun v19 =>
opP (ldS (mget ((100004, some ⟨[(AV.sc (.string s9)), (AV.sc (.string s10)), (AV.sc (.string s11))], 32⟩) :: (100004, some ⟨[(AV.sc (.string ⟨#[]⟩)), (AV.sc (.string ⟨#[]⟩)), (AV.sc (.string ⟨#[]⟩))], 32⟩) :: m)) v19) fun v20 =>
exStr v20 fun s21 =>
bif (Op.bytesLess (s9).toList (s21).toList || (s9).toList == (s21).toList) then (
retL R ((100004, some ⟨[(AV.sc (.string s9)), (AV.sc (.string s10)), (AV.sc (.string s11))], 32⟩) :: (100004, some ⟨[(AV.sc (.string ⟨#[]⟩)), (AV.sc (.string ⟨#[]⟩)), (AV.sc (.string ⟨#[]⟩))], 32⟩) :: m) [some (AV.sc (.int .i64 (7)))]) else (
N0 ⟨[(0, t0), (2, (AV.sc (.int .i64 t2))), (8, t8), (9, (AV.sc (.int .i64 t9))), (10, (AV.sc (.int .i64 (IntKind.wrap .i64 (t10 + (1)))))), (11, (AV.sc (.bool (decide (t10 < t9))))), (12, (AV.sc (.int .i64 t10))), (13, v4), (14, (AV.agg [(AV.sc (.string s9)), (AV.sc (.string s10)), (AV.sc (.string s11))])), (4, (AV.ptr 100004 0)), (3, (AV.sc (.int .i64 t10))), (16, (AV.ptr 100004 0)), (17, (AV.sc (.string s9))), (18, (AV.sc (.bool b13))), (19, (AV.sc (.bool (!b13)))), (20, (AV.sc (.bool false))), (21, (AV.ptr 100004 1)), (22, (AV.sc (.string s10))), (23, (AV.sc (.bool b15))), (24, (AV.sc (.bool (!b15)))), (25, (AV.sc (.bool (!b15)))), (26, (AV.sc (.bool false))), (27, (AV.ptr 100004 2)), (28, (AV.sc (.string s11))), (29, (AV.sc (.bool (!((s11).toList == ((⟨#[]⟩ : ByteArray)).toList))))), (30, (AV.sc (.bool true))), (31, (AV.ptr 100004 2)), (32, (AV.sc (.string s11))), (33, (AV.sc (.bool b17))), (34, (AV.sc (.bool (!b17)))), (35, (AV.sc (.bool (!b17)))), (36, (AV.sc (.bool (!b17)))), (15, (AV.sc (.bool (!b17)))), (38, (AV.ptr 100004 2)), (39, (AV.sc (.string s11))), (40, (AV.ptr 100004 1)), (41, (AV.sc (.string s10))), (42, (AV.sc (.bool ((s11).toList == (s10).toList)))), (37, (AV.sc (.bool ((s11).toList == (s10).toList)))), (44, (AV.sc (.int .i64 t10))), (45, (AV.sc (.bool (decide (t10 > (0)))))), (46, (AV.sc (.bool true))), (47, (AV.ptr 100004 0)), (48, (AV.sc (.string s9))), (49, t0), (50, (AV.sc (.int .i64 t10))), (51, (AV.sc (.int .i64 (IntKind.wrap .i64 (t10 - (1)))))), (52, v18), (53, v19), (54, (AV.sc (.string s21))), (55, (AV.sc (.bool (Op.bytesLess (s9).toList (s21).toList || (s9).toList == (s21).toList)))), (56, (AV.sc (.bool (Op.bytesLess (s9).toList (s21).toList || (s9).toList == (s21).toList)))), (43, (AV.sc (.bool (Op.bytesLess (s9).toList (s21).toList || (s9).toList == (s21).toList)))), (57, (AV.sc (.int .i64 (IntKind.wrap .i64 (t10 + (1))))))], ((100004, some ⟨[(AV.sc (.string s9)), (AV.sc (.string s10)), (AV.sc (.string s11))], 32⟩) :: (100004, some ⟨[(AV.sc (.string ⟨#[]⟩)), (AV.sc (.string ⟨#[]⟩)), (AV.sc (.string ⟨#[]⟩))], 32⟩) :: m), 100240⟩)) else (
N0 ⟨[(0, t0), (2, (AV.sc (.int .i64 t2))), (8, t8), (9, (AV.sc (.int .i64 t9))), (10, (AV.sc (.int .i64 (IntKind.wrap .i64 (t10 + (1)))))), (11, (AV.sc (.bool (decide (t10 < t9))))), (12, (AV.sc (.int .i64 t10))), (13, v4), (14, (AV.agg [(AV.sc (.string s9)), (AV.sc (.string s10)), (AV.sc (.string s11))])), (4, (AV.ptr 100004 0)), (3, (AV.sc (.int .i64 t10))), (16, (AV.ptr 100004 0)), (17, (AV.sc (.string s9))), (18, (AV.sc (.bool b13))), (19, (AV.sc (.bool (!b13)))), (20, (AV.sc (.bool false))), (21, (AV.ptr 100004 1)), (22, (AV.sc (.string s10))), (23, (AV.sc (.bool b15))), (24, (AV.sc (.bool (!b15)))), (25, (AV.sc (.bool (!b15)))), (26, (AV.sc (.bool false))), (27, (AV.ptr 100004 2)), (28, (AV.sc (.string s11))), (29, (AV.sc (.bool (!((s11).toList == ((⟨#[]⟩ : ByteArray)).toList))))), (30, (AV.sc (.bool true))), (31, (AV.ptr 100004 2)), (32, (AV.sc (.string s11))), (33, (AV.sc (.bool b17))), (34, (AV.sc (.bool (!b17)))), (35, (AV.sc (.bool (!b17)))), (36, (AV.sc (.bool (!b17)))), (15, (AV.sc (.bool (!b17)))), (38, (AV.ptr 100004 2)), (39, (AV.sc (.string s11))), (40, (AV.ptr 100004 1)), (41, (AV.sc (.string s10))), (42, (AV.sc (.bool ((s11).toList == (s10).toList)))), (37, (AV.sc (.bool ((s11).toList == (s10).toList)))), (44, (AV.sc (.int .i64 t10))), (45, (AV.sc (.bool (decide (t10 > (0)))))), (46, (AV.sc (.bool false))), (47, (AV.tup [])), (48, (AV.tup [])), (49, (AV.tup [])), (50, (AV.tup [])), (51, (AV.tup [])), (52, (AV.tup [])), (53, (AV.tup [])), (54, (AV.tup [])), (55, (AV.tup [])), (56, (AV.sc (.bool false))), (43, (AV.sc (.bool false))), (57, (AV.sc (.int .i64 (IntKind.wrap .i64 (t10 + (1))))))], ((100004, some ⟨[(AV.sc (.string s9)), (AV.sc (.string s10)), (AV.sc (.string s11))], 32⟩) :: (100004, some ⟨[(AV.sc (.string ⟨#[]⟩)), (AV.sc (.string ⟨#[]⟩)), (AV.sc (.string ⟨#[]⟩))], 32⟩) :: m), 100240⟩)))) else (
bif ((s11).toList == (s10).toList) then (
retL R ((100004, some ⟨[(AV.sc (.string s9)), (AV.sc (.string s10)), (AV.sc (.string s11))], 32⟩) :: (100004, some ⟨[(AV.sc (.string ⟨#[]⟩)), (AV.sc (.string ⟨#[]⟩)), (AV.sc (.string ⟨#[]⟩))], 32⟩) :: m) [some (AV.sc (.int .i64 (11)))]) else (
bif (decide (t10 > (0))) then (
opP (idxS 3 t0 (AV.sc (.int .i64 (IntKind.wrap .i64 (t10 - (1)))))) fun v22 =>
opP (fldO 0 v22) fun v23 =>
opP (ldS (mget ((100004, some ⟨[(AV.sc (.string s9)), (AV.sc (.string s10)), (AV.sc (.string s11))], 32⟩) :: (100004, some ⟨[(AV.sc (.string ⟨#[]⟩)), (AV.sc (.string ⟨#[]⟩)), (AV.sc (.string ⟨#[]⟩))], 32⟩) :: m)) v23) fun v24 =>
exStr v24 fun s25 =>
bif (Op.bytesLess (s9).toList (s25).toList || (s9).toList == (s25).toList) then (
retL R ((100004, some ⟨[(AV.sc (.string s9)), (AV.sc (.string s10)), (AV.sc (.string s11))], 32⟩) :: (100004, some ⟨[(AV.sc (.string ⟨#[]⟩)), (AV.sc (.string ⟨#[]⟩)), (AV.sc (.string ⟨#[]⟩))], 32⟩) :: m) [some (AV.sc (.int .i64 (7)))]) else (
N0 ⟨[(0, t0), (2, (AV.sc (.int .i64 t2))), (8, t8), (9, (AV.sc (.int .i64 t9))), (10, (AV.sc (.int .i64 (IntKind.wrap .i64 (t10 + (1)))))), (11, (AV.sc (.bool (decide (t10 < t9))))), (12, (AV.sc (.int .i64 t10))), (13, v4), (14, (AV.agg [(AV.sc (.string s9)), (AV.sc (.string s10)), (AV.sc (.string s11))])), (4, (AV.ptr 100004 0)), (3, (AV.sc (.int .i64 t10))), (16, (AV.ptr 100004 0)), (17, (AV.sc (.string s9))), (18, (AV.sc (.bool b13))), (19, (AV.sc (.bool (!b13)))), (20, (AV.sc (.bool false))), (21, (AV.ptr 100004 1)), (22, (AV.sc (.string s10))), (23, (AV.sc (.bool b15))), (24, (AV.sc (.bool (!b15)))), (25, (AV.sc (.bool (!b15)))), (26, (AV.sc (.bool false))), (27, (AV.ptr 100004 2)), (28, (AV.sc (.string s11))), (29, (AV.sc (.bool (!((s11).toList == ((⟨#[]⟩ : ByteArray)).toList))))), (30, (AV.sc (.bool false))), (31, (AV.tup [])), (32, (AV.tup [])), (33, (AV.tup [])), (34, (AV.tup [])), (35, (AV.sc (.bool false))), (36, (AV.sc (.bool false))), (15, (AV.sc (.bool false))), (38, (AV.ptr 100004 2)), (39, (AV.sc (.string s11))), (40, (AV.ptr 100004 1)), (41, (AV.sc (.string s10))), (42, (AV.sc (.bool ((s11).toList == (s10).toList)))), (37, (AV.sc (.bool ((s11).toList == (s10).toList)))), (44, (AV.sc (.int .i64 t10))), (45, (AV.sc (.bool (decide (t10 > (0)))))), (46, (AV.sc (.bool true))), (47, (AV.ptr 100004 0)), (48, (AV.sc (.string s9))), (49, t0), (50, (AV.sc (.int .i64 t10))), (51, (AV.sc (.int .i64 (IntKind.wrap .i64 (t10 - (1)))))), (52, v22), (53, v23), (54, (AV.sc (.string s25))), (55, (AV.sc (.bool (Op.bytesLess (s9).toList (s25).toList || (s9).toList == (s25).toList)))), (56, (AV.sc (.bool (Op.bytesLess (s9).toList (s25).toList || (s9).toList == (s25).toList)))), (43, (AV.sc (.bool (Op.bytesLess (s9).toList (s25).toList || (s9).toList == (s25).toList)))), (57, (AV.sc (.int .i64 (IntKind.wrap .i64 (t10 + (1))))))], ((100004, some ⟨[(AV.sc (.string s9)), (AV.sc (.string s10)), (AV.sc (.string s11))], 32⟩) :: (100004, some ⟨[(AV.sc (.string ⟨#[]⟩)), (AV.sc (.string ⟨#[]⟩)), (AV.sc (.string ⟨#[]⟩))], 32⟩) :: m), 100173⟩)) else (
N0 ⟨[(0, t0), (2, (AV.sc (.int .i64 t2))), (8, t8), (9, (AV.sc (.int .i64 t9))), (10, (AV.sc (.int .i64 (IntKind.wrap .i64 (t10 + (1)))))), (11, (AV.sc (.bool (decide (t10 < t9))))), (12, (AV.sc (.int .i64 t10))), (13, v4), (14, (AV.agg [(AV.sc (.string s9)), (AV.sc (.string s10)), (AV.sc (.string s11))])), (4, (AV.ptr 100004 0)), (3, (AV.sc (.int .i64 t10))), (16, (AV.ptr 100004 0)), (17, (AV.sc (.string s9))), (18, (AV.sc (.bool b13))), (19, (AV.sc (.bool (!b13)))), (20, (AV.sc (.bool false))), (21, (AV.ptr 100004 1)), (22, (AV.sc (.string s10))), (23, (AV.sc (.bool b15))), (24, (AV.sc (.bool (!b15)))), (25, (AV.sc (.bool (!b15)))), (26, (AV.sc (.bool false))), (27, (AV.ptr 100004 2)), (28, (AV.sc (.string s11))), (29, (AV.sc (.bool (!((s11).toList == ((⟨#[]⟩ : ByteArray)).toList))))), (30, (AV.sc (.bool false))), (31, (AV.tup [])), (32, (AV.tup [])), (33, (AV.tup [])), (34, (AV.tup [])), (35, (AV.sc (.bool false))), (36, (AV.sc (.bool false))), (15, (AV.sc (.bool false))), (38, (AV.ptr 100004 2)), (39, (AV.sc (.string s11))), (40, (AV.ptr 100004 1)), (41, (AV.sc (.string s10))), (42, (AV.sc (.bool ((s11).toList == (s10).toList)))), (37, (AV.sc (.bool ((s11).toList == (s10).toList)))), (44, (AV.sc (.int .i64 t10))), (45, (AV.sc (.bool (decide (t10 > (0)))))), (46, (AV.sc (.bool false))), (47, (AV.tup [])), (48, (AV.tup [])), (49, (AV.tup [])), (50, (AV.tup [])), (51, (AV.tup [])), (52, (AV.tup [])), (53, (AV.tup [])), (54, (AV.tup [])), (55, (AV.tup [])), (56, (AV.sc (.bool false))), (43, (AV.sc (.bool false))), (57, (AV.sc (.int .i64 (IntKind.wrap .i64 (t10 + (1))))))], ((100004, some ⟨[(AV.sc (.string s9)), (AV.sc (.string s10)), (AV.sc (.string s11))], 32⟩) :: (100004, some ⟨[(AV.sc (.string ⟨#[]⟩)), (AV.sc (.string ⟨#[]⟩)), (AV.sc (.string ⟨#[]⟩))], 32⟩) :: m), 100173⟩)))))) else (
retL R m [some (AV.sc (.int .i64 (0)))])
theorem B12_0_eq (t0 : AV) (t2 : Int) (t8 : AV) (t9 : Int) (t10 : Int) (m : Mem) (R : AV → Mem → Prop) (N0 : St → Prop) : W Try.prog KK 58 0 c12_0 (h12_0 t0 t2 t8 t9 t10 m) (qq12_0 R N0) = B12_0 t0 t2 t8 t9 t10 m R N0 := by kernel_rfl
theorem L12_0 (R : AV → Mem → Prop) {σ : Type} (I : σ → Prop) (t0 : σ → AV) (t2 : σ → Int) (t8 : σ → AV) (t9 : σ → Int) (t10 : σ → Int) (m : σ → Mem) (μ : σ → Nat) (step : ∀ x, I x → B12_0 (t0 x) (t2 x) (t8 x) (t9 x) (t10 x) (m x) R (fun s' => ∃ y, I y ∧ μ y < μ x ∧ Weak KK 58 0 s' (h12_0 (t0 y) (t2 y) (t8 y) (t9 y) (t10 y) (m y)))) (x : σ) (hx : I x) {s : St} (hw : Weak KK 58 0 s (h12_0 (t0 x) (t2 x) (t8 x) (t9 x) (t10 x) (m x))) : Tri Try.prog KK 58 0 (.loop c12_0) s (q12_0 R) :=
  Tri.weak hw (Tri.loops fol I (fun x => h12_0 (t0 x) (t2 x) (t8 x) (t9 x) (t10 x) (m x)) μ (fun x hx => (B12_0_eq (t0 x) (t2 x) (t8 x) (t9 x) (t10 x) (m x) R _).mpr (step x hx)) x hx)
noncomputable def F12 (a0 : AV) (R : AV → Mem → Prop) : Prop :=
opP (lenS a0) fun v0 =>
ex_i64 v0 fun z1 =>
bif (decide (z1 > (24))) then (
retL R [] [some (AV.sc (.int .i64 (2)))]) else (
opP (lenS a0) fun v2 =>
ex_i64 v2 fun z3 =>
Tri Try.prog KK 58 0 (.loop c12_0) ⟨[(0, a0), (2, (AV.sc (.int .i64 (0)))), (5, a0), (6, (AV.sc (.int .i64 z1))), (7, (AV.sc (.bool (decide (z1 > (24)))))), (8, a0), (9, (AV.sc (.int .i64 z3))), (10, (AV.sc (.int .i64 (0))))], [], 7⟩ (q12_0 R))
theorem F12_own (a0 : AV) (R : AV → Mem → Prop) (h : F12 a0 R) : Own Try.prog KK.gl 12 [a0] R := own_of_F fol Try.func12 (code := c12) (by kernel_rfl) (by kernel_rfl) (by kernel_rfl) (X := F12 a0 R) (by kernel_rfl) h
/- skyway/owner.Move -/
noncomputable def c15 : Code := ((Try.f15).body).getD .skip
noncomputable def q15 (R : AV → Mem → Prop) : AExit → St → Prop := retQ Try.prog Try.f15 R
noncomputable def c15_0 : Code := loopB c15 0
noncomputable def q15_0 (R : AV → Mem → Prop) : AExit → St → Prop := contW Try.prog KK 69 0 c15 0 (q15 R)
noncomputable def qq15_0 (R : AV → Mem → Prop) (N0 : St → Prop) : AExit → St → Prop := thenQ N0 (q15_0 R)
def h15_0 (t1 : ByteArray) (t2 : ByteArray) (t6 : AV) (t7 : Int) (t9 : AV) (t28 : Int) (t29 : Int) (m : Mem) : St := ⟨[(1, (AV.sc (.string t1))), (2, (AV.sc (.string t2))), (6, t6), (7, (AV.sc (.int .i64 t7))), (9, t9), (28, (AV.sc (.int .i64 t28))), (29, (AV.sc (.int .i64 t29)))], m, 100000⟩
noncomputable def B15_0 (t1 : ByteArray) (t2 : ByteArray) (t6 : AV) (t7 : Int) (t9 : AV) (t28 : Int) (t29 : Int) (m : Mem) (R : AV → Mem → Prop) (N0 : St → Prop) : Prop :=
bif (decide (t29 < t28)) then (
opP (idxS 3 t9 (AV.sc (.int .i64 t29))) fun v9 =>
opP (opA Try.prog (.nilCheck (.tmp 0)) 0 [v9] (mget m) 100008) fun v10 =>
opP (fldO 1 v10) fun v11 =>
opP (ldS (mget m) v11) fun v12 =>
exStr v12 fun s13 =>
bif ((s13).toList == (t1).toList) then (
opP (opA Try.prog (.nilCheck (.tmp 0)) 0 [v9] (mget m) 100015) fun v14 =>
opP (fldO 1 v14) fun v15 =>
storeW Try.prog (mget m) 9 v15 (AV.sc (.string t2)) fun v16 d16 =>
opP (opA Try.prog (.nilCheck (.tmp 0)) 0 [v9] (mget (mpushs m d16)) 100019) fun v17 =>
opP (fldO 2 v17) fun v18 =>
opP (ldS (mget (mpushs m d16)) v18) fun v19 =>
exStr v19 fun s20 =>
bif ((s20).toList == (t1).toList) then (
opP (opA Try.prog (.nilCheck (.tmp 0)) 0 [v9] (mget (mpushs m d16)) 100026) fun v21 =>
opP (fldO 2 v21) fun v22 =>
storeW Try.prog (mget (mpushs m d16)) 9 v22 (AV.sc (.string t2)) fun v23 d23 =>
opP (opA Try.prog (.nilCheck (.tmp 0)) 0 [v9] (mget (mpushs (mpushs m d16) d23)) 100030) fun v24 =>
opP (fldO 2 v24) fun v25 =>
opP (ldS (mget (mpushs (mpushs m d16) d23)) v25) fun v26 =>
exStr v26 fun s27 =>
opP (opA Try.prog (.nilCheck (.tmp 0)) 0 [v9] (mget (mpushs (mpushs m d16) d23)) 100034) fun v28 =>
opP (fldO 1 v28) fun v29 =>
opP (ldS (mget (mpushs (mpushs m d16) d23)) v29) fun v30 =>
exStr v30 fun s31 =>
bif ((s27).toList == (s31).toList) then (
opP (opA Try.prog (.nilCheck (.tmp 0)) 0 [v9] (mget (mpushs (mpushs m d16) d23)) 100039) fun v32 =>
opP (fldO 2 v32) fun v33 =>
storeW Try.prog (mget (mpushs (mpushs m d16) d23)) 9 v33 (AV.sc (.string ⟨#[]⟩)) fun v34 d34 =>
N0 ⟨[(1, (AV.sc (.string t1))), (2, (AV.sc (.string t2))), (6, t6), (7, (AV.sc (.int .i64 t7))), (9, t9), (28, (AV.sc (.int .i64 t28))), (29, (AV.sc (.int .i64 (IntKind.wrap .i64 (t29 + (1)))))), (30, (AV.sc (.bool (decide (t29 < t28))))), (31, (AV.sc (.int .i64 t29))), (10, (AV.sc (.int .i64 t29))), (32, t9), (33, (AV.sc (.int .i64 t29))), (34, v9), (11, v9), (35, v9), (36, v10), (37, v11), (38, (AV.sc (.string s13))), (39, (AV.sc (.string t1))), (40, (AV.sc (.bool ((s13).toList == (t1).toList)))), (41, v9), (42, (AV.sc (.string t2))), (43, v14), (44, v15), (45, v9), (46, v17), (47, v18), (48, (AV.sc (.string s20))), (49, (AV.sc (.string t1))), (50, (AV.sc (.bool ((s20).toList == (t1).toList)))), (51, v9), (52, (AV.sc (.string t2))), (53, v21), (54, v22), (55, v9), (56, v24), (57, v25), (58, (AV.sc (.string s27))), (59, v9), (60, v28), (61, v29), (62, (AV.sc (.string s31))), (63, (AV.sc (.bool ((s27).toList == (s31).toList)))), (64, v9), (65, v32), (66, v33), (67, (AV.sc (.int .i64 (IntKind.wrap .i64 (t29 + (1))))))], (mpushs (mpushs (mpushs m d16) d23) d34), 100044⟩) else (
N0 ⟨[(1, (AV.sc (.string t1))), (2, (AV.sc (.string t2))), (6, t6), (7, (AV.sc (.int .i64 t7))), (9, t9), (28, (AV.sc (.int .i64 t28))), (29, (AV.sc (.int .i64 (IntKind.wrap .i64 (t29 + (1)))))), (30, (AV.sc (.bool (decide (t29 < t28))))), (31, (AV.sc (.int .i64 t29))), (10, (AV.sc (.int .i64 t29))), (32, t9), (33, (AV.sc (.int .i64 t29))), (34, v9), (11, v9), (35, v9), (36, v10), (37, v11), (38, (AV.sc (.string s13))), (39, (AV.sc (.string t1))), (40, (AV.sc (.bool ((s13).toList == (t1).toList)))), (41, v9), (42, (AV.sc (.string t2))), (43, v14), (44, v15), (45, v9), (46, v17), (47, v18), (48, (AV.sc (.string s20))), (49, (AV.sc (.string t1))), (50, (AV.sc (.bool ((s20).toList == (t1).toList)))), (51, v9), (52, (AV.sc (.string t2))), (53, v21), (54, v22), (55, v9), (56, v24), (57, v25), (58, (AV.sc (.string s27))), (59, v9), (60, v28), (61, v29), (62, (AV.sc (.string s31))), (63, (AV.sc (.bool ((s27).toList == (s31).toList)))), (67, (AV.sc (.int .i64 (IntKind.wrap .i64 (t29 + (1))))))], (mpushs (mpushs m d16) d23), 100040⟩)) else (
opP (opA Try.prog (.nilCheck (.tmp 0)) 0 [v9] (mget (mpushs m d16)) 100025) fun v35 =>
opP (fldO 2 v35) fun v36 =>
opP (ldS (mget (mpushs m d16)) v36) fun v37 =>
exStr v37 fun s38 =>
opP (opA Try.prog (.nilCheck (.tmp 0)) 0 [v9] (mget (mpushs m d16)) 100029) fun v39 =>
opP (fldO 1 v39) fun v40 =>
opP (ldS (mget (mpushs m d16)) v40) fun v41 =>
exStr v41 fun s42 =>
bif ((s38).toList == (s42).toList) then (
opP (opA Try.prog (.nilCheck (.tmp 0)) 0 [v9] (mget (mpushs m d16)) 100034) fun v43 =>
opP (fldO 2 v43) fun v44 =>
storeW Try.prog (mget (mpushs m d16)) 9 v44 (AV.sc (.string ⟨#[]⟩)) fun v45 d45 =>
N0 ⟨[(1, (AV.sc (.string t1))), (2, (AV.sc (.string t2))), (6, t6), (7, (AV.sc (.int .i64 t7))), (9, t9), (28, (AV.sc (.int .i64 t28))), (29, (AV.sc (.int .i64 (IntKind.wrap .i64 (t29 + (1)))))), (30, (AV.sc (.bool (decide (t29 < t28))))), (31, (AV.sc (.int .i64 t29))), (10, (AV.sc (.int .i64 t29))), (32, t9), (33, (AV.sc (.int .i64 t29))), (34, v9), (11, v9), (35, v9), (36, v10), (37, v11), (38, (AV.sc (.string s13))), (39, (AV.sc (.string t1))), (40, (AV.sc (.bool ((s13).toList == (t1).toList)))), (41, v9), (42, (AV.sc (.string t2))), (43, v14), (44, v15), (45, v9), (46, v17), (47, v18), (48, (AV.sc (.string s20))), (49, (AV.sc (.string t1))), (50, (AV.sc (.bool ((s20).toList == (t1).toList)))), (55, v9), (56, v35), (57, v36), (58, (AV.sc (.string s38))), (59, v9), (60, v39), (61, v40), (62, (AV.sc (.string s42))), (63, (AV.sc (.bool ((s38).toList == (s42).toList)))), (64, v9), (65, v43), (66, v44), (67, (AV.sc (.int .i64 (IntKind.wrap .i64 (t29 + (1))))))], (mpushs (mpushs m d16) d45), 100039⟩) else (
N0 ⟨[(1, (AV.sc (.string t1))), (2, (AV.sc (.string t2))), (6, t6), (7, (AV.sc (.int .i64 t7))), (9, t9), (28, (AV.sc (.int .i64 t28))), (29, (AV.sc (.int .i64 (IntKind.wrap .i64 (t29 + (1)))))), (30, (AV.sc (.bool (decide (t29 < t28))))), (31, (AV.sc (.int .i64 t29))), (10, (AV.sc (.int .i64 t29))), (32, t9), (33, (AV.sc (.int .i64 t29))), (34, v9), (11, v9), (35, v9), (36, v10), (37, v11), (38, (AV.sc (.string s13))), (39, (AV.sc (.string t1))), (40, (AV.sc (.bool ((s13).toList == (t1).toList)))), (41, v9), (42, (AV.sc (.string t2))), (43, v14), (44, v15), (45, v9), (46, v17), (47, v18), (48, (AV.sc (.string s20))), (49, (AV.sc (.string t1))), (50, (AV.sc (.bool ((s20).toList == (t1).toList)))), (55, v9), (56, v35), (57, v36), (58, (AV.sc (.string s38))), (59, v9), (60, v39), (61, v40), (62, (AV.sc (.string s42))), (63, (AV.sc (.bool ((s38).toList == (s42).toList)))), (67, (AV.sc (.int .i64 (IntKind.wrap .i64 (t29 + (1))))))], (mpushs m d16), 100035⟩))) else (
opP (opA Try.prog (.nilCheck (.tmp 0)) 0 [v9] (mget m) 100014) fun v46 =>
opP (fldO 2 v46) fun v47 =>
opP (ldS (mget m) v47) fun v48 =>
exStr v48 fun s49 =>
bif ((s49).toList == (t1).toList) then (
opP (opA Try.prog (.nilCheck (.tmp 0)) 0 [v9] (mget m) 100021) fun v50 =>
opP (fldO 2 v50) fun v51 =>
storeW Try.prog (mget m) 9 v51 (AV.sc (.string t2)) fun v52 d52 =>
opP (opA Try.prog (.nilCheck (.tmp 0)) 0 [v9] (mget (mpushs m d52)) 100025) fun v53 =>
opP (fldO 2 v53) fun v54 =>
opP (ldS (mget (mpushs m d52)) v54) fun v55 =>
exStr v55 fun s56 =>
opP (opA Try.prog (.nilCheck (.tmp 0)) 0 [v9] (mget (mpushs m d52)) 100029) fun v57 =>
opP (fldO 1 v57) fun v58 =>
opP (ldS (mget (mpushs m d52)) v58) fun v59 =>
exStr v59 fun s60 =>
bif ((s56).toList == (s60).toList) then (
opP (opA Try.prog (.nilCheck (.tmp 0)) 0 [v9] (mget (mpushs m d52)) 100034) fun v61 =>
opP (fldO 2 v61) fun v62 =>
storeW Try.prog (mget (mpushs m d52)) 9 v62 (AV.sc (.string ⟨#[]⟩)) fun v63 d63 =>
N0 ⟨[(1, (AV.sc (.string t1))), (2, (AV.sc (.string t2))), (6, t6), (7, (AV.sc (.int .i64 t7))), (9, t9), (28, (AV.sc (.int .i64 t28))), (29, (AV.sc (.int .i64 (IntKind.wrap .i64 (t29 + (1)))))), (30, (AV.sc (.bool (decide (t29 < t28))))), (31, (AV.sc (.int .i64 t29))), (10, (AV.sc (.int .i64 t29))), (32, t9), (33, (AV.sc (.int .i64 t29))), (34, v9), (11, v9), (35, v9), (36, v10), (37, v11), (38, (AV.sc (.string s13))), (39, (AV.sc (.string t1))), (40, (AV.sc (.bool ((s13).toList == (t1).toList)))), (45, v9), (46, v46), (47, v47), (48, (AV.sc (.string s49))), (49, (AV.sc (.string t1))), (50, (AV.sc (.bool ((s49).toList == (t1).toList)))), (51, v9), (52, (AV.sc (.string t2))), (53, v50), (54, v51), (55, v9), (56, v53), (57, v54), (58, (AV.sc (.string s56))), (59, v9), (60, v57), (61, v58), (62, (AV.sc (.string s60))), (63, (AV.sc (.bool ((s56).toList == (s60).toList)))), (64, v9), (65, v61), (66, v62), (67, (AV.sc (.int .i64 (IntKind.wrap .i64 (t29 + (1))))))], (mpushs (mpushs m d52) d63), 100039⟩) else (
N0 ⟨[(1, (AV.sc (.string t1))), (2, (AV.sc (.string t2))), (6, t6), (7, (AV.sc (.int .i64 t7))), (9, t9), (28, (AV.sc (.int .i64 t28))), (29, (AV.sc (.int .i64 (IntKind.wrap .i64 (t29 + (1)))))), (30, (AV.sc (.bool (decide (t29 < t28))))), (31, (AV.sc (.int .i64 t29))), (10, (AV.sc (.int .i64 t29))), (32, t9), (33, (AV.sc (.int .i64 t29))), (34, v9), (11, v9), (35, v9), (36, v10), (37, v11), (38, (AV.sc (.string s13))), (39, (AV.sc (.string t1))), (40, (AV.sc (.bool ((s13).toList == (t1).toList)))), (45, v9), (46, v46), (47, v47), (48, (AV.sc (.string s49))), (49, (AV.sc (.string t1))), (50, (AV.sc (.bool ((s49).toList == (t1).toList)))), (51, v9), (52, (AV.sc (.string t2))), (53, v50), (54, v51), (55, v9), (56, v53), (57, v54), (58, (AV.sc (.string s56))), (59, v9), (60, v57), (61, v58), (62, (AV.sc (.string s60))), (63, (AV.sc (.bool ((s56).toList == (s60).toList)))), (67, (AV.sc (.int .i64 (IntKind.wrap .i64 (t29 + (1))))))], (mpushs m d52), 100035⟩)) else (
opP (opA Try.prog (.nilCheck (.tmp 0)) 0 [v9] (mget m) 100020) fun v64 =>
opP (fldO 2 v64) fun v65 =>
opP (ldS (mget m) v65) fun v66 =>
exStr v66 fun s67 =>
opP (opA Try.prog (.nilCheck (.tmp 0)) 0 [v9] (mget m) 100024) fun v68 =>
opP (fldO 1 v68) fun v69 =>
opP (ldS (mget m) v69) fun v70 =>
exStr v70 fun s71 =>
bif ((s67).toList == (s71).toList) then (
opP (opA Try.prog (.nilCheck (.tmp 0)) 0 [v9] (mget m) 100029) fun v72 =>
opP (fldO 2 v72) fun v73 =>
storeW Try.prog (mget m) 9 v73 (AV.sc (.string ⟨#[]⟩)) fun v74 d74 =>
N0 ⟨[(1, (AV.sc (.string t1))), (2, (AV.sc (.string t2))), (6, t6), (7, (AV.sc (.int .i64 t7))), (9, t9), (28, (AV.sc (.int .i64 t28))), (29, (AV.sc (.int .i64 (IntKind.wrap .i64 (t29 + (1)))))), (30, (AV.sc (.bool (decide (t29 < t28))))), (31, (AV.sc (.int .i64 t29))), (10, (AV.sc (.int .i64 t29))), (32, t9), (33, (AV.sc (.int .i64 t29))), (34, v9), (11, v9), (35, v9), (36, v10), (37, v11), (38, (AV.sc (.string s13))), (39, (AV.sc (.string t1))), (40, (AV.sc (.bool ((s13).toList == (t1).toList)))), (45, v9), (46, v46), (47, v47), (48, (AV.sc (.string s49))), (49, (AV.sc (.string t1))), (50, (AV.sc (.bool ((s49).toList == (t1).toList)))), (55, v9), (56, v64), (57, v65), (58, (AV.sc (.string s67))), (59, v9), (60, v68), (61, v69), (62, (AV.sc (.string s71))), (63, (AV.sc (.bool ((s67).toList == (s71).toList)))), (64, v9), (65, v72), (66, v73), (67, (AV.sc (.int .i64 (IntKind.wrap .i64 (t29 + (1))))))], (mpushs m d74), 100034⟩) else (
N0 ⟨[(1, (AV.sc (.string t1))), (2, (AV.sc (.string t2))), (6, t6), (7, (AV.sc (.int .i64 t7))), (9, t9), (28, (AV.sc (.int .i64 t28))), (29, (AV.sc (.int .i64 (IntKind.wrap .i64 (t29 + (1)))))), (30, (AV.sc (.bool (decide (t29 < t28))))), (31, (AV.sc (.int .i64 t29))), (10, (AV.sc (.int .i64 t29))), (32, t9), (33, (AV.sc (.int .i64 t29))), (34, v9), (11, v9), (35, v9), (36, v10), (37, v11), (38, (AV.sc (.string s13))), (39, (AV.sc (.string t1))), (40, (AV.sc (.bool ((s13).toList == (t1).toList)))), (45, v9), (46, v46), (47, v47), (48, (AV.sc (.string s49))), (49, (AV.sc (.string t1))), (50, (AV.sc (.bool ((s49).toList == (t1).toList)))), (55, v9), (56, v64), (57, v65), (58, (AV.sc (.string s67))), (59, v9), (60, v68), (61, v69), (62, (AV.sc (.string s71))), (63, (AV.sc (.bool ((s67).toList == (s71).toList)))), (67, (AV.sc (.int .i64 (IntKind.wrap .i64 (t29 + (1))))))], m, 100030⟩)))) else (
retL R m [some t9, some (AV.sc (.int .i64 (0)))])
theorem B15_0_eq (t1 : ByteArray) (t2 : ByteArray) (t6 : AV) (t7 : Int) (t9 : AV) (t28 : Int) (t29 : Int) (m : Mem) (R : AV → Mem → Prop) (N0 : St → Prop) : W Try.prog KK 69 0 c15_0 (h15_0 t1 t2 t6 t7 t9 t28 t29 m) (qq15_0 R N0) = B15_0 t1 t2 t6 t7 t9 t28 t29 m R N0 := by kernel_rfl
theorem L15_0 (R : AV → Mem → Prop) {σ : Type} (I : σ → Prop) (t1 : σ → ByteArray) (t2 : σ → ByteArray) (t6 : σ → AV) (t7 : σ → Int) (t9 : σ → AV) (t28 : σ → Int) (t29 : σ → Int) (m : σ → Mem) (μ : σ → Nat) (step : ∀ x, I x → B15_0 (t1 x) (t2 x) (t6 x) (t7 x) (t9 x) (t28 x) (t29 x) (m x) R (fun s' => ∃ y, I y ∧ μ y < μ x ∧ Weak KK 69 0 s' (h15_0 (t1 y) (t2 y) (t6 y) (t7 y) (t9 y) (t28 y) (t29 y) (m y)))) (x : σ) (hx : I x) {s : St} (hw : Weak KK 69 0 s (h15_0 (t1 x) (t2 x) (t6 x) (t7 x) (t9 x) (t28 x) (t29 x) (m x))) : Tri Try.prog KK 69 0 (.loop c15_0) s (q15_0 R) :=
  Tri.weak hw (Tri.loops fol I (fun x => h15_0 (t1 x) (t2 x) (t6 x) (t7 x) (t9 x) (t28 x) (t29 x) (m x)) μ (fun x hx => (B15_0_eq (t1 x) (t2 x) (t6 x) (t7 x) (t9 x) (t28 x) (t29 x) (m x) R _).mpr (step x hx)) x hx)
noncomputable def F15 (a0 : AV) (a1 : ByteArray) (a2 : ByteArray) (R : AV → Mem → Prop) : Prop :=
callQ Try.prog KK.gl [] 12 [a0] fun v0 =>
ex_i64 v0 fun z1 =>
bif (z1 != (0)) then (
retL R [] [some AV.nils, some (AV.sc (.int .i64 z1))]) else (
callQ Try.prog KK.gl [] 21 [(AV.sc (.string a1))] fun v2 =>
exB v2 fun b3 =>
bif (!b3) then (
retL R [] [some AV.nils, some (AV.sc (.int .i64 (3)))]) else (
callQ Try.prog KK.gl [] 21 [(AV.sc (.string a2))] fun v4 =>
exB v4 fun b5 =>
bif (!b5) then (
retL R [] [some AV.nils, some (AV.sc (.int .i64 (3)))]) else (
callW Try.prog KK.gl [] 205 28 [a0] fun v6 m6 =>
opP (lenS v6) fun v7 =>
ex_i64 v7 fun z8 =>
Tri Try.prog KK 69 0 (.loop c15_0) ⟨[(0, a0), (1, (AV.sc (.string a1))), (2, (AV.sc (.string a2))), (6, AV.nils), (7, (AV.sc (.int .i64 (0)))), (12, a0), (13, (AV.sc (.int .i64 z1))), (8, (AV.sc (.int .i64 z1))), (14, (AV.sc (.int .i64 z1))), (15, (AV.sc (.bool (z1 != (0))))), (17, (AV.sc (.string a1))), (18, (AV.sc (.bool b3))), (19, (AV.sc (.bool (!b3)))), (20, (AV.sc (.bool false))), (21, (AV.sc (.string a2))), (22, (AV.sc (.bool b5))), (23, (AV.sc (.bool (!b5)))), (24, (AV.sc (.bool (!b5)))), (25, a0), (26, v6), (9, v6), (27, v6), (28, (AV.sc (.int .i64 z8))), (29, (AV.sc (.int .i64 (0))))], m6, 273⟩ (q15_0 R))))
theorem F15_own (a0 : AV) (a1 : ByteArray) (a2 : ByteArray) (R : AV → Mem → Prop) (h : F15 a0 a1 a2 R) : Own Try.prog KK.gl 15 [a0, (AV.sc (.string a1)), (AV.sc (.string a2))] R := own_of_F fol Try.func15 (code := c15) (by kernel_rfl) (by kernel_rfl) (by kernel_rfl) (X := F15 a0 a1 a2 R) (by kernel_rfl) h
/- skyway/owner.Flights -/
noncomputable def c14 : Code := ((Try.f14).body).getD .skip
noncomputable def q14 (R : AV → Mem → Prop) : AExit → St → Prop := retQ Try.prog Try.f14 R
noncomputable def c14_0 : Code := loopB c14 0
noncomputable def q14_0 (R : AV → Mem → Prop) : AExit → St → Prop := contW Try.prog KK 32 0 c14 0 (q14 R)
noncomputable def qq14_0 (R : AV → Mem → Prop) (N0 : St → Prop) : AExit → St → Prop := thenQ N0 (q14_0 R)
def h14_0 (t1 : ByteArray) (t4 : AV) (t5 : Int) (t7 : AV) (t15 : AV) (t16 : Int) (t17 : Int) (m : Mem) : St := ⟨[(1, (AV.sc (.string t1))), (4, t4), (5, (AV.sc (.int .i64 t5))), (7, t7), (15, t15), (16, (AV.sc (.int .i64 t16))), (17, (AV.sc (.int .i64 t17)))], m, 100000⟩
noncomputable def B14_0 (t1 : ByteArray) (t4 : AV) (t5 : Int) (t7 : AV) (t15 : AV) (t16 : Int) (t17 : Int) (m : Mem) (R : AV → Mem → Prop) (N0 : St → Prop) : Prop :=
bif (decide (t17 < t16)) then (
opP (idxS 3 t15 (AV.sc (.int .i64 t17))) fun v4 =>
opP (ldA (mget m) 3 v4) fun v5 =>
exA3 v5 fun c6 c7 c8 =>
exStr c6 fun s9 =>
exStr c7 fun s10 =>
exStr c8 fun s11 =>
bif ((s10).toList == (t1).toList) then (
opN (bsl 100012 9 1 1 [(AV.sc (.string ⟨#[]⟩))] [(0, (AV.sc (.string s9)))]) ((100003, some ⟨[(AV.sc (.string s9)), (AV.sc (.string s10)), (AV.sc (.string s11))], 32⟩) :: (100003, some ⟨[(AV.sc (.string ⟨#[]⟩)), (AV.sc (.string ⟨#[]⟩)), (AV.sc (.string ⟨#[]⟩))], 32⟩) :: m) fun v12 m12 =>
opN (app (mget m12) 9 1 16 [(AV.sc (.string ⟨#[]⟩))] 100013 t7 v12) m12 fun v13 m13 =>
N0 ⟨[(1, (AV.sc (.string t1))), (4, t4), (5, (AV.sc (.int .i64 t5))), (7, v13), (15, t15), (16, (AV.sc (.int .i64 t16))), (17, (AV.sc (.int .i64 (IntKind.wrap .i64 (t17 + (1)))))), (18, (AV.sc (.bool (decide (t17 < t16))))), (19, v4), (20, (AV.agg [(AV.sc (.string s9)), (AV.sc (.string s10)), (AV.sc (.string s11))])), (9, (AV.ptr 100003 0)), (21, (AV.ptr 100003 1)), (22, (AV.sc (.string s10))), (23, (AV.sc (.string t1))), (24, (AV.sc (.bool ((s10).toList == (t1).toList)))), (25, t7), (26, (AV.ptr 100003 0)), (27, (AV.sc (.string s9))), (28, v12), (29, v13), (30, (AV.sc (.int .i64 (IntKind.wrap .i64 (t17 + (1))))))], m13, 100017⟩) else (
N0 ⟨[(1, (AV.sc (.string t1))), (4, t4), (5, (AV.sc (.int .i64 t5))), (7, t7), (15, t15), (16, (AV.sc (.int .i64 t16))), (17, (AV.sc (.int .i64 (IntKind.wrap .i64 (t17 + (1)))))), (18, (AV.sc (.bool (decide (t17 < t16))))), (19, v4), (20, (AV.agg [(AV.sc (.string s9)), (AV.sc (.string s10)), (AV.sc (.string s11))])), (9, (AV.ptr 100003 0)), (21, (AV.ptr 100003 1)), (22, (AV.sc (.string s10))), (23, (AV.sc (.string t1))), (24, (AV.sc (.bool ((s10).toList == (t1).toList)))), (30, (AV.sc (.int .i64 (IntKind.wrap .i64 (t17 + (1))))))], ((100003, some ⟨[(AV.sc (.string s9)), (AV.sc (.string s10)), (AV.sc (.string s11))], 32⟩) :: (100003, some ⟨[(AV.sc (.string ⟨#[]⟩)), (AV.sc (.string ⟨#[]⟩)), (AV.sc (.string ⟨#[]⟩))], 32⟩) :: m), 100011⟩)) else (
retL R m [some t7, some (AV.sc (.int .i64 (0)))])
theorem B14_0_eq (t1 : ByteArray) (t4 : AV) (t5 : Int) (t7 : AV) (t15 : AV) (t16 : Int) (t17 : Int) (m : Mem) (R : AV → Mem → Prop) (N0 : St → Prop) : W Try.prog KK 32 0 c14_0 (h14_0 t1 t4 t5 t7 t15 t16 t17 m) (qq14_0 R N0) = B14_0 t1 t4 t5 t7 t15 t16 t17 m R N0 := by kernel_rfl
theorem L14_0 (R : AV → Mem → Prop) {σ : Type} (I : σ → Prop) (t1 : σ → ByteArray) (t4 : σ → AV) (t5 : σ → Int) (t7 : σ → AV) (t15 : σ → AV) (t16 : σ → Int) (t17 : σ → Int) (m : σ → Mem) (μ : σ → Nat) (step : ∀ x, I x → B14_0 (t1 x) (t4 x) (t5 x) (t7 x) (t15 x) (t16 x) (t17 x) (m x) R (fun s' => ∃ y, I y ∧ μ y < μ x ∧ Weak KK 32 0 s' (h14_0 (t1 y) (t4 y) (t5 y) (t7 y) (t15 y) (t16 y) (t17 y) (m y)))) (x : σ) (hx : I x) {s : St} (hw : Weak KK 32 0 s (h14_0 (t1 x) (t4 x) (t5 x) (t7 x) (t15 x) (t16 x) (t17 x) (m x))) : Tri Try.prog KK 32 0 (.loop c14_0) s (q14_0 R) :=
  Tri.weak hw (Tri.loops fol I (fun x => h14_0 (t1 x) (t4 x) (t5 x) (t7 x) (t15 x) (t16 x) (t17 x) (m x)) μ (fun x hx => (B14_0_eq (t1 x) (t4 x) (t5 x) (t7 x) (t15 x) (t16 x) (t17 x) (m x) R _).mpr (step x hx)) x hx)
noncomputable def F14 (a0 : AV) (a1 : ByteArray) (R : AV → Mem → Prop) : Prop :=
callQ Try.prog KK.gl [] 12 [a0] fun v0 =>
ex_i64 v0 fun z1 =>
bif (z1 != (0)) then (
retL R [] [some AV.nils, some (AV.sc (.int .i64 z1))]) else (
opP (lenS a0) fun v2 =>
ex_i64 v2 fun z3 =>
Tri Try.prog KK 32 0 (.loop c14_0) ⟨[(0, a0), (1, (AV.sc (.string a1))), (4, AV.nils), (5, (AV.sc (.int .i64 (0)))), (10, a0), (11, (AV.sc (.int .i64 z1))), (6, (AV.sc (.int .i64 z1))), (12, (AV.sc (.int .i64 z1))), (13, (AV.sc (.bool (z1 != (0))))), (7, AV.nils), (15, a0), (16, (AV.sc (.int .i64 z3))), (17, (AV.sc (.int .i64 (0))))], [], 74⟩ (q14_0 R))
theorem F14_own (a0 : AV) (a1 : ByteArray) (R : AV → Mem → Prop) (h : F14 a0 a1 R) : Own Try.prog KK.gl 14 [a0, (AV.sc (.string a1))] R := own_of_F fol Try.func14 (code := c14) (by kernel_rfl) (by kernel_rfl) (by kernel_rfl) (X := F14 a0 a1 R) (by kernel_rfl) h
/- slices.Equal[[]string,string] -/
noncomputable def c16 : Code := ((Try.f16).body).getD .skip
noncomputable def q16 (R : AV → Mem → Prop) : AExit → St → Prop := retQ Try.prog Try.f16 R
noncomputable def c16_0 : Code := loopB c16 0
noncomputable def q16_0 (R : AV → Mem → Prop) : AExit → St → Prop := contW Try.prog KK 26 0 c16 0 (q16 R)
noncomputable def qq16_0 (R : AV → Mem → Prop) (N0 : St → Prop) : AExit → St → Prop := thenQ N0 (q16_0 R)
def h16_0 (t0 : AV) (t1 : AV) (t4 : Bool) (t12 : Int) (t13 : Int) (m : Mem) : St := ⟨[(0, t0), (1, t1), (4, (AV.sc (.bool t4))), (12, (AV.sc (.int .i64 t12))), (13, (AV.sc (.int .i64 t13)))], m, 100000⟩
noncomputable def B16_0 (t0 : AV) (t1 : AV) (t4 : Bool) (t12 : Int) (t13 : Int) (m : Mem) (R : AV → Mem → Prop) (N0 : St → Prop) : Prop :=
bif (decide (t13 < t12)) then (
opP (idxS 1 t0 (AV.sc (.int .i64 t13))) fun v6 =>
opP (ldS (mget m) v6) fun v7 =>
exStr v7 fun s8 =>
opP (idxS 1 t1 (AV.sc (.int .i64 t13))) fun v9 =>
opP (ldS (mget m) v9) fun v10 =>
exStr v10 fun s11 =>
bif (!((s8).toList == (s11).toList)) then (
retL R m [some (AV.sc (.bool false))]) else (
N0 ⟨[(0, t0), (1, t1), (4, (AV.sc (.bool t4))), (12, (AV.sc (.int .i64 t12))), (13, (AV.sc (.int .i64 (IntKind.wrap .i64 (t13 + (1)))))), (14, (AV.sc (.bool (decide (t13 < t12))))), (15, (AV.sc (.int .i64 t13))), (5, (AV.sc (.int .i64 t13))), (16, t0), (17, (AV.sc (.int .i64 t13))), (18, v6), (19, (AV.sc (.string s8))), (20, t1), (21, (AV.sc (.int .i64 t13))), (22, v9), (23, (AV.sc (.string s11))), (24, (AV.sc (.bool (!((s8).toList == (s11).toList))))), (25, (AV.sc (.int .i64 (IntKind.wrap .i64 (t13 + (1))))))], m, 100014⟩)) else (
retL R m [some (AV.sc (.bool true))])
theorem B16_0_eq (t0 : AV) (t1 : AV) (t4 : Bool) (t12 : Int) (t13 : Int) (m : Mem) (R : AV → Mem → Prop) (N0 : St → Prop) : W Try.prog KK 26 0 c16_0 (h16_0 t0 t1 t4 t12 t13 m) (qq16_0 R N0) = B16_0 t0 t1 t4 t12 t13 m R N0 := by kernel_rfl
theorem L16_0 (R : AV → Mem → Prop) {σ : Type} (I : σ → Prop) (t0 : σ → AV) (t1 : σ → AV) (t4 : σ → Bool) (t12 : σ → Int) (t13 : σ → Int) (m : σ → Mem) (μ : σ → Nat) (step : ∀ x, I x → B16_0 (t0 x) (t1 x) (t4 x) (t12 x) (t13 x) (m x) R (fun s' => ∃ y, I y ∧ μ y < μ x ∧ Weak KK 26 0 s' (h16_0 (t0 y) (t1 y) (t4 y) (t12 y) (t13 y) (m y)))) (x : σ) (hx : I x) {s : St} (hw : Weak KK 26 0 s (h16_0 (t0 x) (t1 x) (t4 x) (t12 x) (t13 x) (m x))) : Tri Try.prog KK 26 0 (.loop c16_0) s (q16_0 R) :=
  Tri.weak hw (Tri.loops fol I (fun x => h16_0 (t0 x) (t1 x) (t4 x) (t12 x) (t13 x) (m x)) μ (fun x hx => (B16_0_eq (t0 x) (t1 x) (t4 x) (t12 x) (t13 x) (m x) R _).mpr (step x hx)) x hx)
noncomputable def F16 (a0 : AV) (a1 : AV) (R : AV → Mem → Prop) : Prop :=
opP (lenS a0) fun v0 =>
ex_i64 v0 fun z1 =>
opP (lenS a1) fun v2 =>
ex_i64 v2 fun z3 =>
bif (z1 != z3) then (
retL R [] [some (AV.sc (.bool false))]) else (
opP (lenS a0) fun v4 =>
ex_i64 v4 fun z5 =>
Tri Try.prog KK 26 0 (.loop c16_0) ⟨[(0, a0), (1, a1), (4, (AV.sc (.bool false))), (6, a0), (7, (AV.sc (.int .i64 z1))), (8, a1), (9, (AV.sc (.int .i64 z3))), (10, (AV.sc (.bool (z1 != z3)))), (11, a0), (12, (AV.sc (.int .i64 z5))), (13, (AV.sc (.int .i64 (0))))], [], 9⟩ (q16_0 R))
theorem F16_own (a0 : AV) (a1 : AV) (R : AV → Mem → Prop) (h : F16 a0 a1 R) : Own Try.prog KK.gl 16 [a0, a1] R := own_of_F fol Try.func16 (code := c16) (by kernel_rfl) (by kernel_rfl) (by kernel_rfl) (X := F16 a0 a1 R) (by kernel_rfl) h
/- slices.Equal[[]skyway/api.OwnerEntry,skyway/api.OwnerEntry] -/
noncomputable def c11 : Code := ((Try.f11).body).getD .skip
noncomputable def q11 (R : AV → Mem → Prop) : AExit → St → Prop := retQ Try.prog Try.f11 R
noncomputable def c11_0 : Code := loopB c11 0
noncomputable def q11_0 (R : AV → Mem → Prop) : AExit → St → Prop := contW Try.prog KK 26 0 c11 0 (q11 R)
noncomputable def qq11_0 (R : AV → Mem → Prop) (N0 : St → Prop) : AExit → St → Prop := thenQ N0 (q11_0 R)
def h11_0 (t0 : AV) (t1 : AV) (t4 : Bool) (t12 : Int) (t13 : Int) (m : Mem) : St := ⟨[(0, t0), (1, t1), (4, (AV.sc (.bool t4))), (12, (AV.sc (.int .i64 t12))), (13, (AV.sc (.int .i64 t13)))], m, 100000⟩
noncomputable def B11_0 (t0 : AV) (t1 : AV) (t4 : Bool) (t12 : Int) (t13 : Int) (m : Mem) (R : AV → Mem → Prop) (N0 : St → Prop) : Prop :=
bif (decide (t13 < t12)) then (
opP (idxS 3 t0 (AV.sc (.int .i64 t13))) fun v6 =>
opP (ldA (mget m) 3 v6) fun v7 =>
exA3 v7 fun c8 c9 c10 =>
exStr c8 fun s11 =>
exStr c9 fun s12 =>
exStr c10 fun s13 =>
opP (idxS 3 t1 (AV.sc (.int .i64 t13))) fun v14 =>
opP (ldA (mget m) 3 v14) fun v15 =>
exA3 v15 fun c16 c17 c18 =>
exStr c16 fun s19 =>
exStr c17 fun s20 =>
exStr c18 fun s21 =>
opP (opA Try.prog (.binOp .neq 32 (.tmp 0) (.tmp 1) 32) 4 [(AV.agg [(AV.sc (.string s11)), (AV.sc (.string s12)), (AV.sc (.string s13))]), (AV.agg [(AV.sc (.string s19)), (AV.sc (.string s20)), (AV.sc (.string s21))])] (mget m) 100011) fun v22 =>
exB v22 fun b23 =>
bif b23 then (
retL R m [some (AV.sc (.bool false))]) else (
N0 ⟨[(0, t0), (1, t1), (4, (AV.sc (.bool t4))), (12, (AV.sc (.int .i64 t12))), (13, (AV.sc (.int .i64 (IntKind.wrap .i64 (t13 + (1)))))), (14, (AV.sc (.bool (decide (t13 < t12))))), (15, (AV.sc (.int .i64 t13))), (5, (AV.sc (.int .i64 t13))), (16, t0), (17, (AV.sc (.int .i64 t13))), (18, v6), (19, (AV.agg [(AV.sc (.string s11)), (AV.sc (.string s12)), (AV.sc (.string s13))])), (20, t1), (21, (AV.sc (.int .i64 t13))), (22, v14), (23, (AV.agg [(AV.sc (.string s19)), (AV.sc (.string s20)), (AV.sc (.string s21))])), (24, (AV.sc (.bool b23))), (25, (AV.sc (.int .i64 (IntKind.wrap .i64 (t13 + (1))))))], m, 100014⟩)) else (
retL R m [some (AV.sc (.bool true))])
theorem B11_0_eq (t0 : AV) (t1 : AV) (t4 : Bool) (t12 : Int) (t13 : Int) (m : Mem) (R : AV → Mem → Prop) (N0 : St → Prop) : W Try.prog KK 26 0 c11_0 (h11_0 t0 t1 t4 t12 t13 m) (qq11_0 R N0) = B11_0 t0 t1 t4 t12 t13 m R N0 := by kernel_rfl
theorem L11_0 (R : AV → Mem → Prop) {σ : Type} (I : σ → Prop) (t0 : σ → AV) (t1 : σ → AV) (t4 : σ → Bool) (t12 : σ → Int) (t13 : σ → Int) (m : σ → Mem) (μ : σ → Nat) (step : ∀ x, I x → B11_0 (t0 x) (t1 x) (t4 x) (t12 x) (t13 x) (m x) R (fun s' => ∃ y, I y ∧ μ y < μ x ∧ Weak KK 26 0 s' (h11_0 (t0 y) (t1 y) (t4 y) (t12 y) (t13 y) (m y)))) (x : σ) (hx : I x) {s : St} (hw : Weak KK 26 0 s (h11_0 (t0 x) (t1 x) (t4 x) (t12 x) (t13 x) (m x))) : Tri Try.prog KK 26 0 (.loop c11_0) s (q11_0 R) :=
  Tri.weak hw (Tri.loops fol I (fun x => h11_0 (t0 x) (t1 x) (t4 x) (t12 x) (t13 x) (m x)) μ (fun x hx => (B11_0_eq (t0 x) (t1 x) (t4 x) (t12 x) (t13 x) (m x) R _).mpr (step x hx)) x hx)
noncomputable def F11 (a0 : AV) (a1 : AV) (R : AV → Mem → Prop) : Prop :=
opP (lenS a0) fun v0 =>
ex_i64 v0 fun z1 =>
opP (lenS a1) fun v2 =>
ex_i64 v2 fun z3 =>
bif (z1 != z3) then (
retL R [] [some (AV.sc (.bool false))]) else (
opP (lenS a0) fun v4 =>
ex_i64 v4 fun z5 =>
Tri Try.prog KK 26 0 (.loop c11_0) ⟨[(0, a0), (1, a1), (4, (AV.sc (.bool false))), (6, a0), (7, (AV.sc (.int .i64 z1))), (8, a1), (9, (AV.sc (.int .i64 z3))), (10, (AV.sc (.bool (z1 != z3)))), (11, a0), (12, (AV.sc (.int .i64 z5))), (13, (AV.sc (.int .i64 (0))))], [], 9⟩ (q11_0 R))
theorem F11_own (a0 : AV) (a1 : AV) (R : AV → Mem → Prop) (h : F11 a0 a1 R) : Own Try.prog KK.gl 11 [a0, a1] R := own_of_F fol Try.func11 (code := c11) (by kernel_rfl) (by kernel_rfl) (by kernel_rfl) (X := F11 a0 a1 R) (by kernel_rfl) h
/- skyway/skywaykeep3.OwnerMerges -/
noncomputable def c5 : Code := ((Try.f5).body).getD .skip
noncomputable def q5 (R : AV → Mem → Prop) : AExit → St → Prop := retQ Try.prog Try.f5 R
noncomputable def F5 (a0 : AV) (a1 : ByteArray) (a2 : ByteArray) (R : AV → Mem → Prop) : Prop :=
callQ Try.prog KK.gl [] 6 [] fun v0 =>
exB v0 fun b1 =>
bif (!b1) then (
retL R [] [some (AV.sc (.bool false))]) else (
callQ Try.prog KK.gl [] 15 [a0, (AV.sc (.string a1)), (AV.sc (.string a2))] fun v2 =>
exT2 v2 fun c3 c4 =>
ex_i64 c4 fun z5 =>
bif (z5 != (0)) then (
retL R [] [some (AV.sc (.bool true))]) else (
callQ Try.prog KK.gl [] 14 [a0, (AV.sc (.string a1))] fun v6 =>
exT2 v6 fun c7 c8 =>
ex_i64 c8 fun z9 =>
callQ Try.prog KK.gl [] 14 [a0, (AV.sc (.string a2))] fun v10 =>
exT2 v10 fun c11 c12 =>
ex_i64 c12 fun z13 =>
callQ Try.prog KK.gl [] 14 [c3, (AV.sc (.string a2))] fun v14 =>
exT2 v14 fun c15 c16 =>
ex_i64 c16 fun z17 =>
callQ Try.prog KK.gl [] 14 [c3, (AV.sc (.string a1))] fun v18 =>
exT2 v18 fun c19 c20 =>
ex_i64 c20 fun z21 =>
bif (z9 != (0)) then (
retL R [] [some (AV.sc (.bool false))]) else (
bif (z13 != (0)) then (
retL R [] [some (AV.sc (.bool false))]) else (
bif (z17 != (0)) then (
retL R [] [some (AV.sc (.bool false))]) else (
bif (z21 != (0)) then (
retL R [] [some (AV.sc (.bool false))]) else (
callQ Try.prog KK.gl [] 12 [c3] fun v22 =>
ex_i64 v22 fun z23 =>
bif (z23 != (0)) then (
retL R [] [some (AV.sc (.bool false))]) else (
bif ((a1).toList == (a2).toList) then (
callQ Try.prog KK.gl [] 16 [c11, c15] fun v24 =>
exB v24 fun b25 =>
bif b25 then (
callQ Try.prog KK.gl [] 11 [a0, c3] fun v26 =>
exB v26 fun b27 =>
retL R [] [some (AV.sc (.bool b27))]) else (
retL R [] [some (AV.sc (.bool false))])) else (
opN (bsl 511 35 1 2 [AV.nils] [(0, c7), (1, c11)]) [] fun v28 m28 =>
callW Try.prog KK.gl m28 512 17 [v28] fun v29 m29 =>
callW Try.prog KK.gl m29 578 18 [v29] fun v30 m30 =>
exT0 v30 <|
callQ Try.prog KK.gl m30 16 [v29, c15] fun v31 =>
exB v31 fun b32 =>
bif b32 then (
opP (lenS c19) fun v33 =>
ex_i64 v33 fun z34 =>
retL R m30 [some (AV.sc (.bool (z34 == (0))))]) else (
retL R m30 [some (AV.sc (.bool false))])))))))))
theorem F5_own (a0 : AV) (a1 : ByteArray) (a2 : ByteArray) (R : AV → Mem → Prop) (h : F5 a0 a1 a2 R) : Own Try.prog KK.gl 5 [a0, (AV.sc (.string a1)), (AV.sc (.string a2))] R := own_of_F fol Try.func5 (code := c5) (by kernel_rfl) (by kernel_rfl) (by kernel_rfl) (X := F5 a0 a1 a2 R) (by kernel_rfl) h
/- slices.Clone[[]skyway/api.OwnerEntry,skyway/api.OwnerEntry] -/
noncomputable def c28 : Code := ((Try.f28).body).getD .skip
noncomputable def q28 (R : AV → Mem → Prop) : AExit → St → Prop := retQ Try.prog Try.f28 R
noncomputable def F28 (a0 : AV) (R : AV → Mem → Prop) : Prop :=
nilK a0 fun b0 =>
bif b0 then (
retL R [] [some AV.nils]) else (
opN (bsl 3 32 3 0 [(AV.sc (.string ⟨#[]⟩)), (AV.sc (.string ⟨#[]⟩)), (AV.sc (.string ⟨#[]⟩))] []) [] fun v2 m2 =>
opN (app (mget m2) 32 3 48 [(AV.sc (.string ⟨#[]⟩)), (AV.sc (.string ⟨#[]⟩)), (AV.sc (.string ⟨#[]⟩))] 5 v2 a0) m2 fun v3 m3 =>
retL R m3 [some v3])
theorem F28_own (a0 : AV) (R : AV → Mem → Prop) (h : F28 a0 R) : Own Try.prog KK.gl 28 [a0] R := own_of_F fol Try.func28 (code := c28) (by kernel_rfl) (by kernel_rfl) (by kernel_rfl) (X := F28 a0 R) (by kernel_rfl) h
/- slices.Concat[[]string,string] -/
noncomputable def c17 : Code := ((Try.f17).body).getD .skip
noncomputable def q17 (R : AV → Mem → Prop) : AExit → St → Prop := retQ Try.prog Try.f17 R
noncomputable def c17_0 : Code := loopB c17 0
noncomputable def q17_0 (R : AV → Mem → Prop) : AExit → St → Prop := contW Try.prog KK 36 0 c17 0 (q17 R)
noncomputable def qq17_0 (R : AV → Mem → Prop) (N0 : St → Prop) : AExit → St → Prop := thenQ N0 (q17_0 R)
def h17_0 (t0 : AV) (t2 : AV) (t3 : Int) (t9 : AV) (t10 : Int) (t11 : Int) (m : Mem) : St := ⟨[(0, t0), (2, t2), (3, (AV.sc (.int .i64 t3))), (9, t9), (10, (AV.sc (.int .i64 t10))), (11, (AV.sc (.int .i64 t11)))], m, 100000⟩
noncomputable def c17_1 : Code := loopB c17 1
noncomputable def q17_1 (R : AV → Mem → Prop) : AExit → St → Prop := contW Try.prog KK 36 0 c17 1 (q17 R)
noncomputable def qq17_1 (R : AV → Mem → Prop) (N0 : St → Prop) : AExit → St → Prop := thenQ N0 (q17_1 R)
def h17_1 (t2 : AV) (t6 : AV) (t25 : AV) (t26 : Int) (t27 : Int) (m : Mem) : St := ⟨[(2, t2), (6, t6), (25, t25), (26, (AV.sc (.int .i64 t26))), (27, (AV.sc (.int .i64 t27)))], m, 200000⟩
noncomputable def B17_0 (t0 : AV) (t2 : AV) (t3 : Int) (t9 : AV) (t10 : Int) (t11 : Int) (m : Mem) (R : AV → Mem → Prop) (N0 : St → Prop) : Prop :=
bif (decide (t11 < t10)) then (
opP (idxS 1 t9 (AV.sc (.int .i64 t11))) fun v2 =>
opP (ldS (mget m) v2) fun v3 =>
opP (lenS v3) fun v4 =>
ex_i64 v4 fun z5 =>
bif (decide ((IntKind.wrap .i64 (t3 + z5)) < (0))) then (
opP (opA Try.prog (.makeInterface 9 (.tmp 0)) 20 [(AV.sc (.string ⟨#[108, 101, 110, 32, 111, 117, 116, 32, 111, 102, 32, 114, 97, 110, 103, 101]⟩))] (mget m) 100011) fun v6 =>
opP (opA Try.prog (.panic (.tmp 0)) 0 [v6] (mget m) 100012) fun v7 =>
N0 ⟨[(0, t0), (2, t2), (3, (AV.sc (.int .i64 (IntKind.wrap .i64 (t3 + z5))))), (9, t9), (10, (AV.sc (.int .i64 t10))), (11, (AV.sc (.int .i64 (IntKind.wrap .i64 (t11 + (1)))))), (12, (AV.sc (.bool (decide (t11 < t10))))), (13, v2), (14, v3), (5, v3), (15, (AV.sc (.int .i64 t3))), (16, v3), (17, (AV.sc (.int .i64 z5))), (18, (AV.sc (.int .i64 (IntKind.wrap .i64 (t3 + z5))))), (19, (AV.sc (.int .i64 (IntKind.wrap .i64 (t3 + z5))))), (20, (AV.sc (.bool (decide ((IntKind.wrap .i64 (t3 + z5)) < (0)))))), (21, v6), (22, (AV.sc (.int .i64 (IntKind.wrap .i64 (t11 + (1))))))], m, 100015⟩) else (
N0 ⟨[(0, t0), (2, t2), (3, (AV.sc (.int .i64 (IntKind.wrap .i64 (t3 + z5))))), (9, t9), (10, (AV.sc (.int .i64 t10))), (11, (AV.sc (.int .i64 (IntKind.wrap .i64 (t11 + (1)))))), (12, (AV.sc (.bool (decide (t11 < t10))))), (13, v2), (14, v3), (5, v3), (15, (AV.sc (.int .i64 t3))), (16, v3), (17, (AV.sc (.int .i64 z5))), (18, (AV.sc (.int .i64 (IntKind.wrap .i64 (t3 + z5))))), (19, (AV.sc (.int .i64 (IntKind.wrap .i64 (t3 + z5))))), (20, (AV.sc (.bool (decide ((IntKind.wrap .i64 (t3 + z5)) < (0)))))), (22, (AV.sc (.int .i64 (IntKind.wrap .i64 (t11 + (1))))))], m, 100013⟩)) else (
callW Try.prog KK.gl m 100002 29 [AV.nils, (AV.sc (.int .i64 t3))] fun v8 m8 =>
opP (lenS t0) fun v9 =>
ex_i64 v9 fun z10 =>
Tri Try.prog KK 36 0 (.loop c17_1) ⟨[(0, t0), (2, t2), (3, (AV.sc (.int .i64 t3))), (9, t9), (10, (AV.sc (.int .i64 t10))), (11, (AV.sc (.int .i64 t11))), (12, (AV.sc (.bool (decide (t11 < t10))))), (23, (AV.sc (.int .i64 t3))), (24, v8), (6, v8), (25, t0), (26, (AV.sc (.int .i64 z10))), (27, (AV.sc (.int .i64 (0))))], m8, 100070⟩ (q17_1 R))
theorem B17_0_eq (t0 : AV) (t2 : AV) (t3 : Int) (t9 : AV) (t10 : Int) (t11 : Int) (m : Mem) (R : AV → Mem → Prop) (N0 : St → Prop) : W Try.prog KK 36 0 c17_0 (h17_0 t0 t2 t3 t9 t10 t11 m) (qq17_0 R N0) = B17_0 t0 t2 t3 t9 t10 t11 m R N0 := by kernel_rfl
theorem L17_0 (R : AV → Mem → Prop) {σ : Type} (I : σ → Prop) (t0 : σ → AV) (t2 : σ → AV) (t3 : σ → Int) (t9 : σ → AV) (t10 : σ → Int) (t11 : σ → Int) (m : σ → Mem) (μ : σ → Nat) (step : ∀ x, I x → B17_0 (t0 x) (t2 x) (t3 x) (t9 x) (t10 x) (t11 x) (m x) R (fun s' => ∃ y, I y ∧ μ y < μ x ∧ Weak KK 36 0 s' (h17_0 (t0 y) (t2 y) (t3 y) (t9 y) (t10 y) (t11 y) (m y)))) (x : σ) (hx : I x) {s : St} (hw : Weak KK 36 0 s (h17_0 (t0 x) (t2 x) (t3 x) (t9 x) (t10 x) (t11 x) (m x))) : Tri Try.prog KK 36 0 (.loop c17_0) s (q17_0 R) :=
  Tri.weak hw (Tri.loops fol I (fun x => h17_0 (t0 x) (t2 x) (t3 x) (t9 x) (t10 x) (t11 x) (m x)) μ (fun x hx => (B17_0_eq (t0 x) (t2 x) (t3 x) (t9 x) (t10 x) (t11 x) (m x) R _).mpr (step x hx)) x hx)
noncomputable def B17_1 (t2 : AV) (t6 : AV) (t25 : AV) (t26 : Int) (t27 : Int) (m : Mem) (R : AV → Mem → Prop) (N0 : St → Prop) : Prop :=
bif (decide (t27 < t26)) then (
opP (idxS 1 t25 (AV.sc (.int .i64 t27))) fun v11 =>
opP (ldS (mget m) v11) fun v12 =>
opN (app (mget m) 9 1 16 [(AV.sc (.string ⟨#[]⟩))] 200006 t6 v12) m fun v13 m13 =>
N0 ⟨[(2, t2), (6, v13), (25, t25), (26, (AV.sc (.int .i64 t26))), (27, (AV.sc (.int .i64 (IntKind.wrap .i64 (t27 + (1)))))), (28, (AV.sc (.bool (decide (t27 < t26))))), (29, v11), (30, v12), (8, v12), (31, t6), (32, v12), (33, v13), (34, (AV.sc (.int .i64 (IntKind.wrap .i64 (t27 + (1))))))], m13, 200010⟩) else (
retL R m [some t6])
theorem B17_1_eq (t2 : AV) (t6 : AV) (t25 : AV) (t26 : Int) (t27 : Int) (m : Mem) (R : AV → Mem → Prop) (N0 : St → Prop) : W Try.prog KK 36 0 c17_1 (h17_1 t2 t6 t25 t26 t27 m) (qq17_1 R N0) = B17_1 t2 t6 t25 t26 t27 m R N0 := by kernel_rfl
theorem L17_1 (R : AV → Mem → Prop) {σ : Type} (I : σ → Prop) (t2 : σ → AV) (t6 : σ → AV) (t25 : σ → AV) (t26 : σ → Int) (t27 : σ → Int) (m : σ → Mem) (μ : σ → Nat) (step : ∀ x, I x → B17_1 (t2 x) (t6 x) (t25 x) (t26 x) (t27 x) (m x) R (fun s' => ∃ y, I y ∧ μ y < μ x ∧ Weak KK 36 0 s' (h17_1 (t2 y) (t6 y) (t25 y) (t26 y) (t27 y) (m y)))) (x : σ) (hx : I x) {s : St} (hw : Weak KK 36 0 s (h17_1 (t2 x) (t6 x) (t25 x) (t26 x) (t27 x) (m x))) : Tri Try.prog KK 36 0 (.loop c17_1) s (q17_1 R) :=
  Tri.weak hw (Tri.loops fol I (fun x => h17_1 (t2 x) (t6 x) (t25 x) (t26 x) (t27 x) (m x)) μ (fun x hx => (B17_1_eq (t2 x) (t6 x) (t25 x) (t26 x) (t27 x) (m x) R _).mpr (step x hx)) x hx)
noncomputable def F17 (a0 : AV) (R : AV → Mem → Prop) : Prop :=
opP (lenS a0) fun v0 =>
ex_i64 v0 fun z1 =>
Tri Try.prog KK 36 0 (.loop c17_0) ⟨[(0, a0), (2, AV.nils), (3, (AV.sc (.int .i64 (0)))), (9, a0), (10, (AV.sc (.int .i64 z1))), (11, (AV.sc (.int .i64 (0))))], [], 5⟩ (q17_0 R)
theorem F17_own (a0 : AV) (R : AV → Mem → Prop) (h : F17 a0 R) : Own Try.prog KK.gl 17 [a0] R := own_of_F fol Try.func17 (code := c17) (by kernel_rfl) (by kernel_rfl) (by kernel_rfl) (X := F17 a0 R) (by kernel_rfl) h
/- slices.Grow[[]string,string] -/
noncomputable def c29 : Code := ((Try.f29).body).getD .skip
noncomputable def q29 (R : AV → Mem → Prop) : AExit → St → Prop := retQ Try.prog Try.f29 R
noncomputable def F29 (a0 : AV) (a1 : Int) (R : AV → Mem → Prop) : Prop :=
bif (decide (a1 < (0))) then (
opP (opA Try.prog (.makeInterface 9 (.tmp 0)) 20 [(AV.sc (.string ⟨#[99, 97, 110, 110, 111, 116, 32, 98, 101, 32, 110, 101, 103, 97, 116, 105, 118, 101]⟩))] (mget []) 3) fun v0 =>
opP (opA Try.prog (.panic (.tmp 0)) 0 [v0] (mget []) 4) fun v1 =>
opP (opA Try.prog (.call ⟨.builtin .cap, #[.tmp 0], #[35]⟩) 3 [a0] (mget []) 7) fun v2 =>
ex_i64 v2 fun z3 =>
opP (lenS a0) fun v4 =>
ex_i64 v4 fun z5 =>
bif (decide ((IntKind.wrap .i64 (a1 - (IntKind.wrap .i64 (z3 - z5)))) > (0))) then (
opP (opA Try.prog (.call ⟨.builtin .cap, #[.tmp 0], #[35]⟩) 3 [a0] (mget []) 17) fun v6 =>
ex_i64 v6 fun z7 =>
opP (opA Try.prog (.slice 35 (.tmp 0) none (some (.tmp 1)) none) 35 [a0, (AV.sc (.int .i64 z7))] (mget []) 18) fun v8 =>
opN (opA Try.prog (.call ⟨.builtin .append, #[.tmp 0, .tmp 1], #[35, 3]⟩) 35 [v8, (AV.sc (.int .i64 (IntKind.wrap .i64 (a1 - (IntKind.wrap .i64 (z3 - z5))))))] (mget []) 20) [] fun v9 m9 =>
opP (lenS a0) fun v10 =>
ex_i64 v10 fun z11 =>
opP (opA Try.prog (.slice 35 (.tmp 0) none (some (.tmp 1)) none) 35 [v9, (AV.sc (.int .i64 z11))] (mget m9) 23) fun v12 =>
retL R m9 [some v12]) else (
retL R [] [some a0])) else (
opP (opA Try.prog (.call ⟨.builtin .cap, #[.tmp 0], #[35]⟩) 3 [a0] (mget []) 5) fun v13 =>
ex_i64 v13 fun z14 =>
opP (lenS a0) fun v15 =>
ex_i64 v15 fun z16 =>
bif (decide ((IntKind.wrap .i64 (a1 - (IntKind.wrap .i64 (z14 - z16)))) > (0))) then (
opP (opA Try.prog (.call ⟨.builtin .cap, #[.tmp 0], #[35]⟩) 3 [a0] (mget []) 15) fun v17 =>
ex_i64 v17 fun z18 =>
opP (opA Try.prog (.slice 35 (.tmp 0) none (some (.tmp 1)) none) 35 [a0, (AV.sc (.int .i64 z18))] (mget []) 16) fun v19 =>
opN (opA Try.prog (.call ⟨.builtin .append, #[.tmp 0, .tmp 1], #[35, 3]⟩) 35 [v19, (AV.sc (.int .i64 (IntKind.wrap .i64 (a1 - (IntKind.wrap .i64 (z14 - z16))))))] (mget []) 18) [] fun v20 m20 =>
opP (lenS a0) fun v21 =>
ex_i64 v21 fun z22 =>
opP (opA Try.prog (.slice 35 (.tmp 0) none (some (.tmp 1)) none) 35 [v20, (AV.sc (.int .i64 z22))] (mget m20) 21) fun v23 =>
retL R m20 [some v23]) else (
retL R [] [some a0]))
theorem F29_own (a0 : AV) (a1 : Int) (R : AV → Mem → Prop) (h : F29 a0 a1 R) : Own Try.prog KK.gl 29 [a0, (AV.sc (.int .i64 a1))] R := own_of_F fol Try.func29 (code := c29) (by kernel_rfl) (by kernel_rfl) (by kernel_rfl) (X := F29 a0 a1 R) (by kernel_rfl) h
end Go.Proofs.Ytekjoddmohjpbaa
