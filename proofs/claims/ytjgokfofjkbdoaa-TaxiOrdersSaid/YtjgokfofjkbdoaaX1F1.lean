/- Functions of the program as conditions on their answers; printed by wip/Gen.lean.txt. -/
import Derived.Test.YtjgokfofjkbdoaaX1T
set_option linter.unusedVariables false
set_option maxRecDepth 100000
namespace Go.Proofs.Ytjgokfofjkbdoaa
/- skyway/chart.Name -/
noncomputable def c18 : Code := ((Try.f18).body).getD .skip
noncomputable def q18 (R : AV → Mem → Prop) : AExit → St → Prop := retQ Try.prog Try.f18 R
noncomputable def c18_0 : Code := loopB c18 0
noncomputable def q18_0 (R : AV → Mem → Prop) : AExit → St → Prop := contW Try.prog KK 41 0 c18 0 (q18 R)
noncomputable def qq18_0 (R : AV → Mem → Prop) (N0 : St → Prop) : AExit → St → Prop := thenQ N0 (q18_0 R)
def h18_0 (t2 : Bool) (t14 : AV) (t15 : Int) (t16 : Int) (m : Mem) : St := ⟨[(2, (AV.sc (.bool t2))), (14, t14), (15, (AV.sc (.int .i64 t15))), (16, (AV.sc (.int .i64 t16)))], m, 100000⟩
noncomputable def B18_0 (t2 : Bool) (t14 : AV) (t15 : Int) (t16 : Int) (m : Mem) (R : AV → Mem → Prop) (N0 : St → Prop) : Prop :=
bif (decide (t16 < t15)) then (
opP (idxS 1 t14 (AV.sc (.int .i64 t16))) fun v7 =>
opP (ldS (mget m) v7) fun v8 =>
ex_u8 v8 fun z9 =>
bif (decide (z9 ≥ (65))) then (
bif (decide (z9 ≤ (90))) then (
N0 ⟨[(2, (AV.sc (.bool t2))), (14, t14), (15, (AV.sc (.int .i64 t15))), (16, (AV.sc (.int .i64 (IntKind.wrap .i64 (t16 + (1)))))), (17, (AV.sc (.bool (decide (t16 < t15))))), (18, (AV.sc (.int .i64 t16))), (19, v7), (20, (AV.sc (.int .u8 z9))), (3, (AV.sc (.int .i64 t16))), (4, (AV.sc (.int .u8 z9))), (21, (AV.sc (.int .u8 z9))), (22, (AV.sc (.bool (decide (z9 ≥ (65)))))), (23, (AV.sc (.bool true))), (24, (AV.sc (.int .u8 z9))), (25, (AV.sc (.bool (decide (z9 ≤ (90)))))), (26, (AV.sc (.bool (decide (z9 ≤ (90)))))), (27, (AV.sc (.bool true))), (28, (AV.tup [])), (29, (AV.tup [])), (30, (AV.tup [])), (31, (AV.tup [])), (32, (AV.tup [])), (33, (AV.tup [])), (34, (AV.tup [])), (35, (AV.tup [])), (36, (AV.tup [])), (37, (AV.tup [])), (38, (AV.sc (.bool true))), (39, (AV.sc (.bool false))), (40, (AV.sc (.int .i64 (IntKind.wrap .i64 (t16 + (1))))))], m, 100017⟩) else (
bif (decide (t16 > (0))) then (
bif (decide (z9 ≥ (48))) then (
bif (!(decide (z9 ≤ (57)))) then (
retL R m [some (AV.sc (.bool false))]) else (
N0 ⟨[(2, (AV.sc (.bool t2))), (14, t14), (15, (AV.sc (.int .i64 t15))), (16, (AV.sc (.int .i64 (IntKind.wrap .i64 (t16 + (1)))))), (17, (AV.sc (.bool (decide (t16 < t15))))), (18, (AV.sc (.int .i64 t16))), (19, v7), (20, (AV.sc (.int .u8 z9))), (3, (AV.sc (.int .i64 t16))), (4, (AV.sc (.int .u8 z9))), (21, (AV.sc (.int .u8 z9))), (22, (AV.sc (.bool (decide (z9 ≥ (65)))))), (23, (AV.sc (.bool true))), (24, (AV.sc (.int .u8 z9))), (25, (AV.sc (.bool (decide (z9 ≤ (90)))))), (26, (AV.sc (.bool (decide (z9 ≤ (90)))))), (27, (AV.sc (.bool false))), (28, (AV.sc (.int .i64 t16))), (29, (AV.sc (.bool (decide (t16 > (0)))))), (30, (AV.sc (.bool true))), (31, (AV.sc (.int .u8 z9))), (32, (AV.sc (.bool (decide (z9 ≥ (48)))))), (33, (AV.sc (.bool (decide (z9 ≥ (48)))))), (34, (AV.sc (.bool true))), (35, (AV.sc (.int .u8 z9))), (36, (AV.sc (.bool (decide (z9 ≤ (57)))))), (37, (AV.sc (.bool (decide (z9 ≤ (57)))))), (38, (AV.sc (.bool (decide (z9 ≤ (57)))))), (39, (AV.sc (.bool (!(decide (z9 ≤ (57))))))), (40, (AV.sc (.int .i64 (IntKind.wrap .i64 (t16 + (1))))))], m, 100027⟩)) else (
retL R m [some (AV.sc (.bool false))])) else (
retL R m [some (AV.sc (.bool false))]))) else (
bif (decide (t16 > (0))) then (
bif (decide (z9 ≥ (48))) then (
bif (!(decide (z9 ≤ (57)))) then (
retL R m [some (AV.sc (.bool false))]) else (
N0 ⟨[(2, (AV.sc (.bool t2))), (14, t14), (15, (AV.sc (.int .i64 t15))), (16, (AV.sc (.int .i64 (IntKind.wrap .i64 (t16 + (1)))))), (17, (AV.sc (.bool (decide (t16 < t15))))), (18, (AV.sc (.int .i64 t16))), (19, v7), (20, (AV.sc (.int .u8 z9))), (3, (AV.sc (.int .i64 t16))), (4, (AV.sc (.int .u8 z9))), (21, (AV.sc (.int .u8 z9))), (22, (AV.sc (.bool (decide (z9 ≥ (65)))))), (23, (AV.sc (.bool false))), (24, (AV.tup [])), (25, (AV.tup [])), (26, (AV.sc (.bool false))), (27, (AV.sc (.bool false))), (28, (AV.sc (.int .i64 t16))), (29, (AV.sc (.bool (decide (t16 > (0)))))), (30, (AV.sc (.bool true))), (31, (AV.sc (.int .u8 z9))), (32, (AV.sc (.bool (decide (z9 ≥ (48)))))), (33, (AV.sc (.bool (decide (z9 ≥ (48)))))), (34, (AV.sc (.bool true))), (35, (AV.sc (.int .u8 z9))), (36, (AV.sc (.bool (decide (z9 ≤ (57)))))), (37, (AV.sc (.bool (decide (z9 ≤ (57)))))), (38, (AV.sc (.bool (decide (z9 ≤ (57)))))), (39, (AV.sc (.bool (!(decide (z9 ≤ (57))))))), (40, (AV.sc (.int .i64 (IntKind.wrap .i64 (t16 + (1))))))], m, 100025⟩)) else (
retL R m [some (AV.sc (.bool false))])) else (
retL R m [some (AV.sc (.bool false))]))) else (
retL R m [some (AV.sc (.bool true))])
theorem B18_0_eq (t2 : Bool) (t14 : AV) (t15 : Int) (t16 : Int) (m : Mem) (R : AV → Mem → Prop) (N0 : St → Prop) : W Try.prog KK 41 0 c18_0 (h18_0 t2 t14 t15 t16 m) (qq18_0 R N0) = B18_0 t2 t14 t15 t16 m R N0 := by kernel_rfl
theorem L18_0 (R : AV → Mem → Prop) {σ : Type} (I : σ → Prop) (t2 : σ → Bool) (t14 : σ → AV) (t15 : σ → Int) (t16 : σ → Int) (m : σ → Mem) (μ : σ → Nat) (step : ∀ x, I x → B18_0 (t2 x) (t14 x) (t15 x) (t16 x) (m x) R (fun s' => ∃ y, I y ∧ μ y < μ x ∧ Weak KK 41 0 s' (h18_0 (t2 y) (t14 y) (t15 y) (t16 y) (m y)))) (x : σ) (hx : I x) {s : St} (hw : Weak KK 41 0 s (h18_0 (t2 x) (t14 x) (t15 x) (t16 x) (m x))) : Tri Try.prog KK 41 0 (.loop c18_0) s (q18_0 R) :=
  Tri.weak hw (Tri.loops fol I (fun x => h18_0 (t2 x) (t14 x) (t15 x) (t16 x) (m x)) μ (fun x hx => (B18_0_eq (t2 x) (t14 x) (t15 x) (t16 x) (m x) R _).mpr (step x hx)) x hx)
noncomputable def F18 (a0 : ByteArray) (R : AV → Mem → Prop) : Prop :=
opP (opA Try.prog (.call ⟨.builtin .len, #[.tmp 0], #[9]⟩) 3 [(AV.sc (.string a0))] (mget []) 2) fun v0 =>
ex_i64 v0 fun z1 =>
bif (decide (z1 < (1))) then (
retL R [] [some (AV.sc (.bool false))]) else (
opP (opA Try.prog (.call ⟨.builtin .len, #[.tmp 0], #[9]⟩) 3 [(AV.sc (.string a0))] (mget []) 6) fun v2 =>
ex_i64 v2 fun z3 =>
bif (decide (z3 > (8))) then (
retL R [] [some (AV.sc (.bool false))]) else (
opP (opA Try.prog (.convert 9 58 (.tmp 0)) 58 [(AV.sc (.string a0))] (mget []) 10) fun v4 =>
opP (lenS v4) fun v5 =>
ex_i64 v5 fun z6 =>
Tri Try.prog KK 41 0 (.loop c18_0) ⟨[(0, (AV.sc (.string a0))), (2, (AV.sc (.bool false))), (5, (AV.sc (.string a0))), (6, (AV.sc (.int .i64 z1))), (7, (AV.sc (.bool (decide (z1 < (1)))))), (8, (AV.sc (.bool false))), (9, (AV.sc (.string a0))), (10, (AV.sc (.int .i64 z3))), (11, (AV.sc (.bool (decide (z3 > (8)))))), (12, (AV.sc (.bool (decide (z3 > (8)))))), (13, (AV.sc (.string a0))), (14, v4), (15, (AV.sc (.int .i64 z6))), (16, (AV.sc (.int .i64 (0))))], [], 13⟩ (q18_0 R)))
theorem F18_own (a0 : ByteArray) (R : AV → Mem → Prop) (h : F18 a0 R) : Own Try.prog KK.gl 18 [(AV.sc (.string a0))] R := own_of_F fol Try.func18 (code := c18) (by kernel_rfl) (by kernel_rfl) (by kernel_rfl) (X := F18 a0 R) (by kernel_rfl) h
/- skyway/taxi.stand$1 -/
noncomputable def c22 : Code := ((Try.f22).body).getD .skip
noncomputable def q22 (R : AV → Mem → Prop) : AExit → St → Prop := retQ Try.prog Try.f22 R
noncomputable def F22 (a0_0 : ByteArray) (a0_1 : Int) (a1 : AV) (R : AV → Mem → Prop) : Prop :=
opP (ldS (mget ((0, some ⟨[(AV.sc (.string a0_0)), (AV.sc (.int .i64 a0_1))], 38⟩) :: [])) a1) fun v0 =>
exStr v0 fun s1 =>
retL R ((0, some ⟨[(AV.sc (.string a0_0)), (AV.sc (.int .i64 a0_1))], 38⟩) :: []) [some (AV.sc (.bool ((a0_0).toList == (s1).toList)))]
theorem F22_own (a0_0 : ByteArray) (a0_1 : Int) (a1 : AV) (R : AV → Mem → Prop) (h : F22 a0_0 a0_1 a1 R) : Own Try.prog KK.gl 22 [(AV.agg [(AV.sc (.string a0_0)), (AV.sc (.int .i64 a0_1))]), a1] R := own_of_F fol Try.func22 (code := c22) (by kernel_rfl) (by kernel_rfl) (by kernel_rfl) (X := F22 a0_0 a0_1 a1 R) (by kernel_rfl) h
/- slices.IndexFunc[[]skyway/api.TaxiStand,skyway/api.TaxiStand] -/
noncomputable def c21 : Code := ((Try.f21).body).getD .skip
noncomputable def q21 (R : AV → Mem → Prop) : AExit → St → Prop := retQ Try.prog Try.f21 R
noncomputable def c21_0 : Code := loopB c21 0
noncomputable def q21_0 (R : AV → Mem → Prop) : AExit → St → Prop := contW Try.prog KK 19 0 c21 0 (q21 R)
noncomputable def qq21_0 (R : AV → Mem → Prop) (N0 : St → Prop) : AExit → St → Prop := thenQ N0 (q21_0 R)
def h21_0 (t0 : AV) (t1 : AV) (t4 : Int) (t7 : Int) (t8 : Int) (m : Mem) : St := ⟨[(0, t0), (1, t1), (4, (AV.sc (.int .i64 t4))), (7, (AV.sc (.int .i64 t7))), (8, (AV.sc (.int .i64 t8)))], m, 100000⟩
noncomputable def B21_0 (t0 : AV) (t1 : AV) (t4 : Int) (t7 : Int) (t8 : Int) (m : Mem) (R : AV → Mem → Prop) (N0 : St → Prop) : Prop :=
bif (decide (t8 < t7)) then (
opP (idxS 2 t0 (AV.sc (.int .i64 t8))) fun v2 =>
opP (ldA (mget m) 2 v2) fun v3 =>
exA2 v3 fun c4 c5 =>
exStr c4 fun s6 =>
ex_i64 c5 fun z7 =>
fnArgs (some t1) (some [(AV.agg [(AV.sc (.string s6)), (AV.sc (.int .i64 z7))])]) fun f8 a8 => bif KK.pm f8 then callQ Try.prog KK.gl m f8 a8 (fun v8 =>
exB v8 fun b9 =>
bif b9 then (
retL R m [some (AV.sc (.int .i64 t8))]) else (
N0 ⟨[(0, t0), (1, t1), (4, (AV.sc (.int .i64 t4))), (7, (AV.sc (.int .i64 t7))), (8, (AV.sc (.int .i64 (IntKind.wrap .i64 (t8 + (1)))))), (9, (AV.sc (.bool (decide (t8 < t7))))), (10, (AV.sc (.int .i64 t8))), (5, (AV.sc (.int .i64 t8))), (11, t1), (12, t0), (13, (AV.sc (.int .i64 t8))), (14, v2), (15, (AV.agg [(AV.sc (.string s6)), (AV.sc (.int .i64 z7))])), (16, (AV.sc (.bool b9))), (18, (AV.sc (.int .i64 (IntKind.wrap .i64 (t8 + (1))))))], m, 100074⟩)) else callW Try.prog KK.gl m 100008 f8 a8 fun v8 m8 =>
exB v8 fun b9 =>
bif b9 then (
retL R m8 [some (AV.sc (.int .i64 t8))]) else (
N0 ⟨[(0, t0), (1, t1), (4, (AV.sc (.int .i64 t4))), (7, (AV.sc (.int .i64 t7))), (8, (AV.sc (.int .i64 (IntKind.wrap .i64 (t8 + (1)))))), (9, (AV.sc (.bool (decide (t8 < t7))))), (10, (AV.sc (.int .i64 t8))), (5, (AV.sc (.int .i64 t8))), (11, t1), (12, t0), (13, (AV.sc (.int .i64 t8))), (14, v2), (15, (AV.agg [(AV.sc (.string s6)), (AV.sc (.int .i64 z7))])), (16, (AV.sc (.bool b9))), (18, (AV.sc (.int .i64 (IntKind.wrap .i64 (t8 + (1))))))], m8, 100074⟩)) else (
retL R m [some (AV.sc (.int .i64 (-1)))])
theorem B21_0_eq (t0 : AV) (t1 : AV) (t4 : Int) (t7 : Int) (t8 : Int) (m : Mem) (R : AV → Mem → Prop) (N0 : St → Prop) : W Try.prog KK 19 0 c21_0 (h21_0 t0 t1 t4 t7 t8 m) (qq21_0 R N0) = B21_0 t0 t1 t4 t7 t8 m R N0 := by kernel_rfl
theorem L21_0 (R : AV → Mem → Prop) {σ : Type} (I : σ → Prop) (t0 : σ → AV) (t1 : σ → AV) (t4 : σ → Int) (t7 : σ → Int) (t8 : σ → Int) (m : σ → Mem) (μ : σ → Nat) (step : ∀ x, I x → B21_0 (t0 x) (t1 x) (t4 x) (t7 x) (t8 x) (m x) R (fun s' => ∃ y, I y ∧ μ y < μ x ∧ Weak KK 19 0 s' (h21_0 (t0 y) (t1 y) (t4 y) (t7 y) (t8 y) (m y)))) (x : σ) (hx : I x) {s : St} (hw : Weak KK 19 0 s (h21_0 (t0 x) (t1 x) (t4 x) (t7 x) (t8 x) (m x))) : Tri Try.prog KK 19 0 (.loop c21_0) s (q21_0 R) :=
  Tri.weak hw (Tri.loops fol I (fun x => h21_0 (t0 x) (t1 x) (t4 x) (t7 x) (t8 x) (m x)) μ (fun x hx => (B21_0_eq (t0 x) (t1 x) (t4 x) (t7 x) (t8 x) (m x) R _).mpr (step x hx)) x hx)
noncomputable def F21 (a0 : AV) (a1 : AV) (R : AV → Mem → Prop) : Prop :=
opP (lenS a0) fun v0 =>
ex_i64 v0 fun z1 =>
Tri Try.prog KK 19 0 (.loop c21_0) ⟨[(0, a0), (1, a1), (4, (AV.sc (.int .i64 (0)))), (6, a0), (7, (AV.sc (.int .i64 z1))), (8, (AV.sc (.int .i64 (0))))], [], 4⟩ (q21_0 R)
theorem F21_own (a0 : AV) (a1 : AV) (R : AV → Mem → Prop) (h : F21 a0 a1 R) : Own Try.prog KK.gl 21 [a0, a1] R := own_of_F fol Try.func21 (code := c21) (by kernel_rfl) (by kernel_rfl) (by kernel_rfl) (X := F21 a0 a1 R) (by kernel_rfl) h
/- skyway/taxi.stand -/
noncomputable def c13 : Code := ((Try.f13).body).getD .skip
noncomputable def q13 (R : AV → Mem → Prop) : AExit → St → Prop := retQ Try.prog Try.f13 R
noncomputable def F13 (a0 : AV) (a1 : ByteArray) (R : AV → Mem → Prop) : Prop :=
callQ Try.prog KK.gl ((0, some ⟨[(AV.sc (.string a1))], 9⟩) :: []) 21 [a0, (AV.fn 22 [(AV.ptr 0 0)])] fun v0 =>
ex_i64 v0 fun z1 =>
retL R ((0, some ⟨[(AV.sc (.string a1))], 9⟩) :: []) [some (AV.sc (.int .i64 z1))]
theorem F13_own (a0 : AV) (a1 : ByteArray) (R : AV → Mem → Prop) (h : F13 a0 a1 R) : Own Try.prog KK.gl 13 [a0, (AV.sc (.string a1))] R := own_of_F fol Try.func13 (code := c13) (by kernel_rfl) (by kernel_rfl) (by kernel_rfl) (X := F13 a0 a1 R) (by kernel_rfl) h
/- skyway/taxi.Stands -/
noncomputable def c11 : Code := ((Try.f11).body).getD .skip
noncomputable def q11 (R : AV → Mem → Prop) : AExit → St → Prop := retQ Try.prog Try.f11 R
noncomputable def c11_0 : Code := loopB c11 0
noncomputable def q11_0 (R : AV → Mem → Prop) : AExit → St → Prop := contW Try.prog KK 38 0 c11 0 (q11 R)
noncomputable def qq11_0 (R : AV → Mem → Prop) (N0 : St → Prop) : AExit → St → Prop := thenQ N0 (q11_0 R)
def h11_0 (t0 : AV) (t2 : Int) (t8 : AV) (t9 : Int) (t10 : Int) (m : Mem) : St := ⟨[(0, t0), (2, (AV.sc (.int .i64 t2))), (8, t8), (9, (AV.sc (.int .i64 t9))), (10, (AV.sc (.int .i64 t10)))], m, 100000⟩
noncomputable def B11_0 (t0 : AV) (t2 : Int) (t8 : AV) (t9 : Int) (t10 : Int) (m : Mem) (R : AV → Mem → Prop) (N0 : St → Prop) : Prop :=
bif (decide (t10 < t9)) then (
opP (idxS 2 t8 (AV.sc (.int .i64 t10))) fun v4 =>
opP (ldA (mget m) 2 v4) fun v5 =>
exA2 v5 fun c6 c7 =>
exStr c6 fun s8 =>
ex_i64 c7 fun z9 =>
callQ Try.prog KK.gl ((100004, some ⟨[(AV.sc (.string s8)), (AV.sc (.int .i64 z9))], 38⟩) :: (100004, some ⟨[(AV.sc (.string ⟨#[]⟩)), (AV.sc (.int .i64 (0)))], 38⟩) :: m) 18 [(AV.sc (.string s8))] fun v10 =>
exB v10 fun b11 =>
bif (!b11) then (
retL R ((100004, some ⟨[(AV.sc (.string s8)), (AV.sc (.int .i64 z9))], 38⟩) :: (100004, some ⟨[(AV.sc (.string ⟨#[]⟩)), (AV.sc (.int .i64 (0)))], 38⟩) :: m) [some (AV.sc (.int .i64 (3)))]) else (
bif (decide (z9 < (0))) then (
retL R ((100004, some ⟨[(AV.sc (.string s8)), (AV.sc (.int .i64 z9))], 38⟩) :: (100004, some ⟨[(AV.sc (.string ⟨#[]⟩)), (AV.sc (.int .i64 (0)))], 38⟩) :: m) [some (AV.sc (.int .i64 (4)))]) else (
bif (decide (z9 > (1800))) then (
retL R ((100004, some ⟨[(AV.sc (.string s8)), (AV.sc (.int .i64 z9))], 38⟩) :: (100004, some ⟨[(AV.sc (.string ⟨#[]⟩)), (AV.sc (.int .i64 (0)))], 38⟩) :: m) [some (AV.sc (.int .i64 (4)))]) else (
opP (opA Try.prog (.slice 22 (.tmp 0) none (some (.tmp 1)) none) 22 [t0, (AV.sc (.int .i64 t10))] (mget ((100004, some ⟨[(AV.sc (.string s8)), (AV.sc (.int .i64 z9))], 38⟩) :: (100004, some ⟨[(AV.sc (.string ⟨#[]⟩)), (AV.sc (.int .i64 (0)))], 38⟩) :: m)) 100086) fun v12 =>
callQ Try.prog KK.gl ((100004, some ⟨[(AV.sc (.string s8)), (AV.sc (.int .i64 z9))], 38⟩) :: (100004, some ⟨[(AV.sc (.string ⟨#[]⟩)), (AV.sc (.int .i64 (0)))], 38⟩) :: m) 13 [v12, (AV.sc (.string s8))] fun v13 =>
ex_i64 v13 fun z14 =>
bif (decide (z14 ≥ (0))) then (
retL R ((100004, some ⟨[(AV.sc (.string s8)), (AV.sc (.int .i64 z9))], 38⟩) :: (100004, some ⟨[(AV.sc (.string ⟨#[]⟩)), (AV.sc (.int .i64 (0)))], 38⟩) :: m) [some (AV.sc (.int .i64 (7)))]) else (
N0 ⟨[(0, t0), (2, (AV.sc (.int .i64 t2))), (8, t8), (9, (AV.sc (.int .i64 t9))), (10, (AV.sc (.int .i64 (IntKind.wrap .i64 (t10 + (1)))))), (11, (AV.sc (.bool (decide (t10 < t9))))), (12, (AV.sc (.int .i64 t10))), (13, v4), (14, (AV.agg [(AV.sc (.string s8)), (AV.sc (.int .i64 z9))])), (4, (AV.ptr 100004 0)), (3, (AV.sc (.int .i64 t10))), (16, (AV.ptr 100004 0)), (17, (AV.sc (.string s8))), (18, (AV.sc (.bool b11))), (19, (AV.sc (.bool (!b11)))), (15, (AV.sc (.bool (!b11)))), (21, (AV.ptr 100004 1)), (22, (AV.sc (.int .i64 z9))), (23, (AV.sc (.bool (decide (z9 < (0)))))), (24, (AV.sc (.bool false))), (25, (AV.ptr 100004 1)), (26, (AV.sc (.int .i64 z9))), (27, (AV.sc (.bool (decide (z9 > (1800)))))), (28, (AV.sc (.bool (decide (z9 > (1800)))))), (20, (AV.sc (.bool (decide (z9 > (1800)))))), (30, t0), (31, (AV.sc (.int .i64 t10))), (32, v12), (33, (AV.ptr 100004 0)), (34, (AV.sc (.string s8))), (35, (AV.sc (.int .i64 z14))), (36, (AV.sc (.bool (decide (z14 ≥ (0)))))), (29, (AV.sc (.bool (decide (z14 ≥ (0)))))), (37, (AV.sc (.int .i64 (IntKind.wrap .i64 (t10 + (1))))))], ((100004, some ⟨[(AV.sc (.string s8)), (AV.sc (.int .i64 z9))], 38⟩) :: (100004, some ⟨[(AV.sc (.string ⟨#[]⟩)), (AV.sc (.int .i64 (0)))], 38⟩) :: m), 100094⟩))))) else (
retL R m [some (AV.sc (.int .i64 (0)))])
theorem B11_0_eq (t0 : AV) (t2 : Int) (t8 : AV) (t9 : Int) (t10 : Int) (m : Mem) (R : AV → Mem → Prop) (N0 : St → Prop) : W Try.prog KK 38 0 c11_0 (h11_0 t0 t2 t8 t9 t10 m) (qq11_0 R N0) = B11_0 t0 t2 t8 t9 t10 m R N0 := by kernel_rfl
theorem L11_0 (R : AV → Mem → Prop) {σ : Type} (I : σ → Prop) (t0 : σ → AV) (t2 : σ → Int) (t8 : σ → AV) (t9 : σ → Int) (t10 : σ → Int) (m : σ → Mem) (μ : σ → Nat) (step : ∀ x, I x → B11_0 (t0 x) (t2 x) (t8 x) (t9 x) (t10 x) (m x) R (fun s' => ∃ y, I y ∧ μ y < μ x ∧ Weak KK 38 0 s' (h11_0 (t0 y) (t2 y) (t8 y) (t9 y) (t10 y) (m y)))) (x : σ) (hx : I x) {s : St} (hw : Weak KK 38 0 s (h11_0 (t0 x) (t2 x) (t8 x) (t9 x) (t10 x) (m x))) : Tri Try.prog KK 38 0 (.loop c11_0) s (q11_0 R) :=
  Tri.weak hw (Tri.loops fol I (fun x => h11_0 (t0 x) (t2 x) (t8 x) (t9 x) (t10 x) (m x)) μ (fun x hx => (B11_0_eq (t0 x) (t2 x) (t8 x) (t9 x) (t10 x) (m x) R _).mpr (step x hx)) x hx)
noncomputable def F11 (a0 : AV) (R : AV → Mem → Prop) : Prop :=
opP (lenS a0) fun v0 =>
ex_i64 v0 fun z1 =>
bif (decide (z1 > (16))) then (
retL R [] [some (AV.sc (.int .i64 (2)))]) else (
opP (lenS a0) fun v2 =>
ex_i64 v2 fun z3 =>
Tri Try.prog KK 38 0 (.loop c11_0) ⟨[(0, a0), (2, (AV.sc (.int .i64 (0)))), (5, a0), (6, (AV.sc (.int .i64 z1))), (7, (AV.sc (.bool (decide (z1 > (16)))))), (8, a0), (9, (AV.sc (.int .i64 z3))), (10, (AV.sc (.int .i64 (0))))], [], 7⟩ (q11_0 R))
theorem F11_own (a0 : AV) (R : AV → Mem → Prop) (h : F11 a0 R) : Own Try.prog KK.gl 11 [a0] R := own_of_F fol Try.func11 (code := c11) (by kernel_rfl) (by kernel_rfl) (by kernel_rfl) (X := F11 a0 R) (by kernel_rfl) h
/- skyway/taxi.Check$1 -/
noncomputable def c20 : Code := ((Try.f20).body).getD .skip
noncomputable def q20 (R : AV → Mem → Prop) : AExit → St → Prop := retQ Try.prog Try.f20 R
noncomputable def F20 (a0_0 : ByteArray) (a0_1 : ByteArray) (a0_2 : Int) (a1 : AV) (R : AV → Mem → Prop) : Prop :=
opP (fldO 0 a1) fun v0 =>
opP (ldS (mget ((0, some ⟨[(AV.sc (.string a0_0)), (AV.sc (.string a0_1)), (AV.sc (.int .i64 a0_2))], 40⟩) :: [])) v0) fun v1 =>
exStr v1 fun s2 =>
retL R ((0, some ⟨[(AV.sc (.string a0_0)), (AV.sc (.string a0_1)), (AV.sc (.int .i64 a0_2))], 40⟩) :: []) [some (AV.sc (.bool ((a0_0).toList == (s2).toList)))]
theorem F20_own (a0_0 : ByteArray) (a0_1 : ByteArray) (a0_2 : Int) (a1 : AV) (R : AV → Mem → Prop) (h : F20 a0_0 a0_1 a0_2 a1 R) : Own Try.prog KK.gl 20 [(AV.agg [(AV.sc (.string a0_0)), (AV.sc (.string a0_1)), (AV.sc (.int .i64 a0_2))]), a1] R := own_of_F fol Try.func20 (code := c20) (by kernel_rfl) (by kernel_rfl) (by kernel_rfl) (X := F20 a0_0 a0_1 a0_2 a1 R) (by kernel_rfl) h
/- slices.IndexFunc[[]skyway/api.TaxiAsk,skyway/api.TaxiAsk] -/
noncomputable def c26 : Code := ((Try.f26).body).getD .skip
noncomputable def q26 (R : AV → Mem → Prop) : AExit → St → Prop := retQ Try.prog Try.f26 R
noncomputable def c26_0 : Code := loopB c26 0
noncomputable def q26_0 (R : AV → Mem → Prop) : AExit → St → Prop := contW Try.prog KK 19 0 c26 0 (q26 R)
noncomputable def qq26_0 (R : AV → Mem → Prop) (N0 : St → Prop) : AExit → St → Prop := thenQ N0 (q26_0 R)
def h26_0 (t0 : AV) (t1 : AV) (t4 : Int) (t7 : Int) (t8 : Int) (m : Mem) : St := ⟨[(0, t0), (1, t1), (4, (AV.sc (.int .i64 t4))), (7, (AV.sc (.int .i64 t7))), (8, (AV.sc (.int .i64 t8)))], m, 100000⟩
noncomputable def B26_0 (t0 : AV) (t1 : AV) (t4 : Int) (t7 : Int) (t8 : Int) (m : Mem) (R : AV → Mem → Prop) (N0 : St → Prop) : Prop :=
bif (decide (t8 < t7)) then (
opP (idxS 3 t0 (AV.sc (.int .i64 t8))) fun v2 =>
opP (ldA (mget m) 3 v2) fun v3 =>
exA3 v3 fun c4 c5 c6 =>
exStr c4 fun s7 =>
exStr c5 fun s8 =>
ex_i64 c6 fun z9 =>
fnArgs (some t1) (some [(AV.agg [(AV.sc (.string s7)), (AV.sc (.string s8)), (AV.sc (.int .i64 z9))])]) fun f10 a10 => bif KK.pm f10 then callQ Try.prog KK.gl m f10 a10 (fun v10 =>
exB v10 fun b11 =>
bif b11 then (
retL R m [some (AV.sc (.int .i64 t8))]) else (
N0 ⟨[(0, t0), (1, t1), (4, (AV.sc (.int .i64 t4))), (7, (AV.sc (.int .i64 t7))), (8, (AV.sc (.int .i64 (IntKind.wrap .i64 (t8 + (1)))))), (9, (AV.sc (.bool (decide (t8 < t7))))), (10, (AV.sc (.int .i64 t8))), (5, (AV.sc (.int .i64 t8))), (11, t1), (12, t0), (13, (AV.sc (.int .i64 t8))), (14, v2), (15, (AV.agg [(AV.sc (.string s7)), (AV.sc (.string s8)), (AV.sc (.int .i64 z9))])), (16, (AV.sc (.bool b11))), (18, (AV.sc (.int .i64 (IntKind.wrap .i64 (t8 + (1))))))], m, 100074⟩)) else callW Try.prog KK.gl m 100008 f10 a10 fun v10 m10 =>
exB v10 fun b11 =>
bif b11 then (
retL R m10 [some (AV.sc (.int .i64 t8))]) else (
N0 ⟨[(0, t0), (1, t1), (4, (AV.sc (.int .i64 t4))), (7, (AV.sc (.int .i64 t7))), (8, (AV.sc (.int .i64 (IntKind.wrap .i64 (t8 + (1)))))), (9, (AV.sc (.bool (decide (t8 < t7))))), (10, (AV.sc (.int .i64 t8))), (5, (AV.sc (.int .i64 t8))), (11, t1), (12, t0), (13, (AV.sc (.int .i64 t8))), (14, v2), (15, (AV.agg [(AV.sc (.string s7)), (AV.sc (.string s8)), (AV.sc (.int .i64 z9))])), (16, (AV.sc (.bool b11))), (18, (AV.sc (.int .i64 (IntKind.wrap .i64 (t8 + (1))))))], m10, 100074⟩)) else (
retL R m [some (AV.sc (.int .i64 (-1)))])
theorem B26_0_eq (t0 : AV) (t1 : AV) (t4 : Int) (t7 : Int) (t8 : Int) (m : Mem) (R : AV → Mem → Prop) (N0 : St → Prop) : W Try.prog KK 19 0 c26_0 (h26_0 t0 t1 t4 t7 t8 m) (qq26_0 R N0) = B26_0 t0 t1 t4 t7 t8 m R N0 := by kernel_rfl
theorem L26_0 (R : AV → Mem → Prop) {σ : Type} (I : σ → Prop) (t0 : σ → AV) (t1 : σ → AV) (t4 : σ → Int) (t7 : σ → Int) (t8 : σ → Int) (m : σ → Mem) (μ : σ → Nat) (step : ∀ x, I x → B26_0 (t0 x) (t1 x) (t4 x) (t7 x) (t8 x) (m x) R (fun s' => ∃ y, I y ∧ μ y < μ x ∧ Weak KK 19 0 s' (h26_0 (t0 y) (t1 y) (t4 y) (t7 y) (t8 y) (m y)))) (x : σ) (hx : I x) {s : St} (hw : Weak KK 19 0 s (h26_0 (t0 x) (t1 x) (t4 x) (t7 x) (t8 x) (m x))) : Tri Try.prog KK 19 0 (.loop c26_0) s (q26_0 R) :=
  Tri.weak hw (Tri.loops fol I (fun x => h26_0 (t0 x) (t1 x) (t4 x) (t7 x) (t8 x) (m x)) μ (fun x hx => (B26_0_eq (t0 x) (t1 x) (t4 x) (t7 x) (t8 x) (m x) R _).mpr (step x hx)) x hx)
noncomputable def F26 (a0 : AV) (a1 : AV) (R : AV → Mem → Prop) : Prop :=
opP (lenS a0) fun v0 =>
ex_i64 v0 fun z1 =>
Tri Try.prog KK 19 0 (.loop c26_0) ⟨[(0, a0), (1, a1), (4, (AV.sc (.int .i64 (0)))), (6, a0), (7, (AV.sc (.int .i64 z1))), (8, (AV.sc (.int .i64 (0))))], [], 4⟩ (q26_0 R)
theorem F26_own (a0 : AV) (a1 : AV) (R : AV → Mem → Prop) (h : F26 a0 a1 R) : Own Try.prog KK.gl 26 [a0, a1] R := own_of_F fol Try.func26 (code := c26) (by kernel_rfl) (by kernel_rfl) (by kernel_rfl) (X := F26 a0 a1 R) (by kernel_rfl) h
/- slices.ContainsFunc[[]skyway/api.TaxiAsk,skyway/api.TaxiAsk] -/
noncomputable def c19 : Code := ((Try.f19).body).getD .skip
noncomputable def q19 (R : AV → Mem → Prop) : AExit → St → Prop := retQ Try.prog Try.f19 R
noncomputable def F19 (a0 : AV) (a1 : AV) (R : AV → Mem → Prop) : Prop :=
callQ Try.prog KK.gl [] 26 [a0, a1] fun v0 =>
ex_i64 v0 fun z1 =>
retL R [] [some (AV.sc (.bool (decide (z1 ≥ (0)))))]
theorem F19_own (a0 : AV) (a1 : AV) (R : AV → Mem → Prop) (h : F19 a0 a1 R) : Own Try.prog KK.gl 19 [a0, a1] R := own_of_F fol Try.func19 (code := c19) (by kernel_rfl) (by kernel_rfl) (by kernel_rfl) (X := F19 a0 a1 R) (by kernel_rfl) h
/- skyway/taxi.Check -/
noncomputable def c12 : Code := ((Try.f12).body).getD .skip
noncomputable def q12 (R : AV → Mem → Prop) : AExit → St → Prop := retQ Try.prog Try.f12 R
noncomputable def c12_0 : Code := loopB c12 0
noncomputable def q12_0 (R : AV → Mem → Prop) : AExit → St → Prop := contW Try.prog KK 50 0 c12 0 (q12 R)
noncomputable def qq12_0 (R : AV → Mem → Prop) (N0 : St → Prop) : AExit → St → Prop := thenQ N0 (q12_0 R)
def h12_0 (t0 : AV) (t1 : AV) (t4 : Int) (t16 : AV) (t17 : Int) (t18 : Int) (m : Mem) : St := ⟨[(0, t0), (1, t1), (4, (AV.sc (.int .i64 t4))), (16, t16), (17, (AV.sc (.int .i64 t17))), (18, (AV.sc (.int .i64 t18)))], m, 100000⟩
noncomputable def B12_0 (t0 : AV) (t1 : AV) (t4 : Int) (t16 : AV) (t17 : Int) (t18 : Int) (m : Mem) (R : AV → Mem → Prop) (N0 : St → Prop) : Prop :=
bif (decide (t18 < t17)) then (
opP (idxS 3 t16 (AV.sc (.int .i64 t18))) fun v6 =>
opP (ldA (mget m) 3 v6) fun v7 =>
exA3 v7 fun c8 c9 c10 =>
exStr c8 fun s11 =>
exStr c9 fun s12 =>
ex_i64 c10 fun z13 =>
callQ Try.prog KK.gl ((100004, some ⟨[(AV.sc (.string s11)), (AV.sc (.string s12)), (AV.sc (.int .i64 z13))], 40⟩) :: (100004, some ⟨[(AV.sc (.string ⟨#[]⟩)), (AV.sc (.string ⟨#[]⟩)), (AV.sc (.int .i64 (0)))], 40⟩) :: m) 18 [(AV.sc (.string s11))] fun v14 =>
exB v14 fun b15 =>
bif (!b15) then (
retL R ((100004, some ⟨[(AV.sc (.string s11)), (AV.sc (.string s12)), (AV.sc (.int .i64 z13))], 40⟩) :: (100004, some ⟨[(AV.sc (.string ⟨#[]⟩)), (AV.sc (.string ⟨#[]⟩)), (AV.sc (.int .i64 (0)))], 40⟩) :: m) [some (AV.sc (.int .i64 (3)))]) else (
callQ Try.prog KK.gl ((100004, some ⟨[(AV.sc (.string s11)), (AV.sc (.string s12)), (AV.sc (.int .i64 z13))], 40⟩) :: (100004, some ⟨[(AV.sc (.string ⟨#[]⟩)), (AV.sc (.string ⟨#[]⟩)), (AV.sc (.int .i64 (0)))], 40⟩) :: m) 13 [t0, (AV.sc (.string s12))] fun v16 =>
ex_i64 v16 fun z17 =>
bif (decide (z17 < (0))) then (
retL R ((100004, some ⟨[(AV.sc (.string s11)), (AV.sc (.string s12)), (AV.sc (.int .i64 z13))], 40⟩) :: (100004, some ⟨[(AV.sc (.string ⟨#[]⟩)), (AV.sc (.string ⟨#[]⟩)), (AV.sc (.int .i64 (0)))], 40⟩) :: m) [some (AV.sc (.int .i64 (6)))]) else (
bif (decide (z13 < (0))) then (
retL R ((100004, some ⟨[(AV.sc (.string s11)), (AV.sc (.string s12)), (AV.sc (.int .i64 z13))], 40⟩) :: (100004, some ⟨[(AV.sc (.string ⟨#[]⟩)), (AV.sc (.string ⟨#[]⟩)), (AV.sc (.int .i64 (0)))], 40⟩) :: m) [some (AV.sc (.int .i64 (12)))]) else (
bif (decide (z13 > (200000))) then (
retL R ((100004, some ⟨[(AV.sc (.string s11)), (AV.sc (.string s12)), (AV.sc (.int .i64 z13))], 40⟩) :: (100004, some ⟨[(AV.sc (.string ⟨#[]⟩)), (AV.sc (.string ⟨#[]⟩)), (AV.sc (.int .i64 (0)))], 40⟩) :: m) [some (AV.sc (.int .i64 (12)))]) else (
opP (opA Try.prog (.slice 23 (.tmp 0) none (some (.tmp 1)) none) 23 [t1, (AV.sc (.int .i64 t18))] (mget ((100004, some ⟨[(AV.sc (.string s11)), (AV.sc (.string s12)), (AV.sc (.int .i64 z13))], 40⟩) :: (100004, some ⟨[(AV.sc (.string ⟨#[]⟩)), (AV.sc (.string ⟨#[]⟩)), (AV.sc (.int .i64 (0)))], 40⟩) :: m)) 100155) fun v18 =>
callQ Try.prog KK.gl ((100004, some ⟨[(AV.sc (.string s11)), (AV.sc (.string s12)), (AV.sc (.int .i64 z13))], 40⟩) :: (100004, some ⟨[(AV.sc (.string ⟨#[]⟩)), (AV.sc (.string ⟨#[]⟩)), (AV.sc (.int .i64 (0)))], 40⟩) :: m) 19 [v18, (AV.fn 20 [(AV.ptr 100004 0)])] fun v19 =>
exB v19 fun b20 =>
bif b20 then (
retL R ((100004, some ⟨[(AV.sc (.string s11)), (AV.sc (.string s12)), (AV.sc (.int .i64 z13))], 40⟩) :: (100004, some ⟨[(AV.sc (.string ⟨#[]⟩)), (AV.sc (.string ⟨#[]⟩)), (AV.sc (.int .i64 (0)))], 40⟩) :: m) [some (AV.sc (.int .i64 (7)))]) else (
N0 ⟨[(0, t0), (1, t1), (4, (AV.sc (.int .i64 t4))), (16, t16), (17, (AV.sc (.int .i64 t17))), (18, (AV.sc (.int .i64 (IntKind.wrap .i64 (t18 + (1)))))), (19, (AV.sc (.bool (decide (t18 < t17))))), (20, (AV.sc (.int .i64 t18))), (21, v6), (22, (AV.agg [(AV.sc (.string s11)), (AV.sc (.string s12)), (AV.sc (.int .i64 z13))])), (7, (AV.ptr 100004 0)), (6, (AV.sc (.int .i64 t18))), (24, (AV.ptr 100004 0)), (25, (AV.sc (.string s11))), (26, (AV.sc (.bool b15))), (27, (AV.sc (.bool (!b15)))), (23, (AV.sc (.bool (!b15)))), (29, t0), (30, (AV.ptr 100004 1)), (31, (AV.sc (.string s12))), (32, (AV.sc (.int .i64 z17))), (33, (AV.sc (.bool (decide (z17 < (0)))))), (28, (AV.sc (.bool (decide (z17 < (0)))))), (35, (AV.ptr 100004 2)), (36, (AV.sc (.int .i64 z13))), (37, (AV.sc (.bool (decide (z13 < (0)))))), (38, (AV.sc (.bool false))), (39, (AV.ptr 100004 2)), (40, (AV.sc (.int .i64 z13))), (41, (AV.sc (.bool (decide (z13 > (200000)))))), (42, (AV.sc (.bool (decide (z13 > (200000)))))), (34, (AV.sc (.bool (decide (z13 > (200000)))))), (44, t1), (45, (AV.sc (.int .i64 t18))), (46, v18), (47, (AV.fn 20 [(AV.ptr 100004 0)])), (48, (AV.sc (.bool b20))), (43, (AV.sc (.bool b20))), (49, (AV.sc (.int .i64 (IntKind.wrap .i64 (t18 + (1))))))], ((100004, some ⟨[(AV.sc (.string s11)), (AV.sc (.string s12)), (AV.sc (.int .i64 z13))], 40⟩) :: (100004, some ⟨[(AV.sc (.string ⟨#[]⟩)), (AV.sc (.string ⟨#[]⟩)), (AV.sc (.int .i64 (0)))], 40⟩) :: m), 100224⟩)))))) else (
retL R m [some (AV.sc (.int .i64 (0)))])
theorem B12_0_eq (t0 : AV) (t1 : AV) (t4 : Int) (t16 : AV) (t17 : Int) (t18 : Int) (m : Mem) (R : AV → Mem → Prop) (N0 : St → Prop) : W Try.prog KK 50 0 c12_0 (h12_0 t0 t1 t4 t16 t17 t18 m) (qq12_0 R N0) = B12_0 t0 t1 t4 t16 t17 t18 m R N0 := by kernel_rfl
theorem L12_0 (R : AV → Mem → Prop) {σ : Type} (I : σ → Prop) (t0 : σ → AV) (t1 : σ → AV) (t4 : σ → Int) (t16 : σ → AV) (t17 : σ → Int) (t18 : σ → Int) (m : σ → Mem) (μ : σ → Nat) (step : ∀ x, I x → B12_0 (t0 x) (t1 x) (t4 x) (t16 x) (t17 x) (t18 x) (m x) R (fun s' => ∃ y, I y ∧ μ y < μ x ∧ Weak KK 50 0 s' (h12_0 (t0 y) (t1 y) (t4 y) (t16 y) (t17 y) (t18 y) (m y)))) (x : σ) (hx : I x) {s : St} (hw : Weak KK 50 0 s (h12_0 (t0 x) (t1 x) (t4 x) (t16 x) (t17 x) (t18 x) (m x))) : Tri Try.prog KK 50 0 (.loop c12_0) s (q12_0 R) :=
  Tri.weak hw (Tri.loops fol I (fun x => h12_0 (t0 x) (t1 x) (t4 x) (t16 x) (t17 x) (t18 x) (m x)) μ (fun x hx => (B12_0_eq (t0 x) (t1 x) (t4 x) (t16 x) (t17 x) (t18 x) (m x) R _).mpr (step x hx)) x hx)
noncomputable def F12 (a0 : AV) (a1 : AV) (R : AV → Mem → Prop) : Prop :=
callQ Try.prog KK.gl [] 11 [a0] fun v0 =>
ex_i64 v0 fun z1 =>
bif (z1 != (0)) then (
retL R [] [some (AV.sc (.int .i64 z1))]) else (
opP (lenS a1) fun v2 =>
ex_i64 v2 fun z3 =>
bif (decide (z3 > (16))) then (
retL R [] [some (AV.sc (.int .i64 (2)))]) else (
opP (lenS a1) fun v4 =>
ex_i64 v4 fun z5 =>
Tri Try.prog KK 50 0 (.loop c12_0) ⟨[(0, a0), (1, a1), (4, (AV.sc (.int .i64 (0)))), (8, a0), (9, (AV.sc (.int .i64 z1))), (5, (AV.sc (.int .i64 z1))), (10, (AV.sc (.int .i64 z1))), (11, (AV.sc (.bool (z1 != (0))))), (13, a1), (14, (AV.sc (.int .i64 z3))), (15, (AV.sc (.bool (decide (z3 > (16)))))), (16, a1), (17, (AV.sc (.int .i64 z5))), (18, (AV.sc (.int .i64 (0))))], [], 75⟩ (q12_0 R)))
theorem F12_own (a0 : AV) (a1 : AV) (R : AV → Mem → Prop) (h : F12 a0 a1 R) : Own Try.prog KK.gl 12 [a0, a1] R := own_of_F fol Try.func12 (code := c12) (by kernel_rfl) (by kernel_rfl) (by kernel_rfl) (X := F12 a0 a1 R) (by kernel_rfl) h
/- cmp.isNaN[string] -/
noncomputable def c25 : Code := ((Try.f25).body).getD .skip
noncomputable def q25 (R : AV → Mem → Prop) : AExit → St → Prop := retQ Try.prog Try.f25 R
noncomputable def F25 (a0 : ByteArray) (R : AV → Mem → Prop) : Prop :=
retL R [] [some (AV.sc (.bool (!((a0).toList == (a0).toList))))]
theorem F25_own (a0 : ByteArray) (R : AV → Mem → Prop) (h : F25 a0 R) : Own Try.prog KK.gl 25 [(AV.sc (.string a0))] R := own_of_F fol Try.func25 (code := c25) (by kernel_rfl) (by kernel_rfl) (by kernel_rfl) (X := F25 a0 R) (by kernel_rfl) h
/- cmp.Compare[string] -/
noncomputable def c17 : Code := ((Try.f17).body).getD .skip
noncomputable def q17 (R : AV → Mem → Prop) : AExit → St → Prop := retQ Try.prog Try.f17 R
noncomputable def F17 (a0 : ByteArray) (a1 : ByteArray) (R : AV → Mem → Prop) : Prop :=
callQ Try.prog KK.gl [] 25 [(AV.sc (.string a0))] fun v0 =>
exB v0 fun b1 =>
callQ Try.prog KK.gl [] 25 [(AV.sc (.string a1))] fun v2 =>
exB v2 fun b3 =>
bif b1 then (
bif b3 then (
retL R [] [some (AV.sc (.int .i64 (0)))]) else (
retL R [] [some (AV.sc (.int .i64 (-1)))])) else (
bif b3 then (
retL R [] [some (AV.sc (.int .i64 (1)))]) else (
bif (Op.bytesLess (a0).toList (a1).toList) then (
retL R [] [some (AV.sc (.int .i64 (-1)))]) else (
bif (!(Op.bytesLess (a0).toList (a1).toList || (a0).toList == (a1).toList)) then (
retL R [] [some (AV.sc (.int .i64 (1)))]) else (
retL R [] [some (AV.sc (.int .i64 (0)))]))))
theorem F17_own (a0 : ByteArray) (a1 : ByteArray) (R : AV → Mem → Prop) (h : F17 a0 a1 R) : Own Try.prog KK.gl 17 [(AV.sc (.string a0)), (AV.sc (.string a1))] R := own_of_F fol Try.func17 (code := c17) (by kernel_rfl) (by kernel_rfl) (by kernel_rfl) (X := F17 a0 a1 R) (by kernel_rfl) h
/- cmp.Or[int] -/
noncomputable def c16 : Code := ((Try.f16).body).getD .skip
noncomputable def q16 (R : AV → Mem → Prop) : AExit → St → Prop := retQ Try.prog Try.f16 R
noncomputable def c16_0 : Code := loopB c16 0
noncomputable def q16_0 (R : AV → Mem → Prop) : AExit → St → Prop := contW Try.prog KK 18 0 c16 0 (q16 R)
noncomputable def qq16_0 (R : AV → Mem → Prop) (N0 : St → Prop) : AExit → St → Prop := thenQ N0 (q16_0 R)
def h16_0 (t2 : Int) (t3 : Int) (t6 : AV) (t7 : Int) (t8 : Int) (m : Mem) : St := ⟨[(2, (AV.sc (.int .i64 t2))), (3, (AV.sc (.int .i64 t3))), (6, t6), (7, (AV.sc (.int .i64 t7))), (8, (AV.sc (.int .i64 t8)))], m, 100000⟩
noncomputable def B16_0 (t2 : Int) (t3 : Int) (t6 : AV) (t7 : Int) (t8 : Int) (m : Mem) (R : AV → Mem → Prop) (N0 : St → Prop) : Prop :=
bif (decide (t8 < t7)) then (
opP (idxS 1 t6 (AV.sc (.int .i64 t8))) fun v2 =>
opP (ldS (mget m) v2) fun v3 =>
ex_i64 v3 fun z4 =>
bif (z4 != t3) then (
retL R m [some (AV.sc (.int .i64 z4))]) else (
N0 ⟨[(2, (AV.sc (.int .i64 t2))), (3, (AV.sc (.int .i64 t3))), (6, t6), (7, (AV.sc (.int .i64 t7))), (8, (AV.sc (.int .i64 (IntKind.wrap .i64 (t8 + (1)))))), (9, (AV.sc (.bool (decide (t8 < t7))))), (10, v2), (11, (AV.sc (.int .i64 z4))), (5, (AV.sc (.int .i64 z4))), (12, (AV.sc (.int .i64 z4))), (13, (AV.sc (.int .i64 t3))), (14, (AV.sc (.bool (z4 != t3)))), (16, (AV.sc (.int .i64 (IntKind.wrap .i64 (t8 + (1))))))], m, 100009⟩)) else (
retL R m [some (AV.sc (.int .i64 t3))])
theorem B16_0_eq (t2 : Int) (t3 : Int) (t6 : AV) (t7 : Int) (t8 : Int) (m : Mem) (R : AV → Mem → Prop) (N0 : St → Prop) : W Try.prog KK 18 0 c16_0 (h16_0 t2 t3 t6 t7 t8 m) (qq16_0 R N0) = B16_0 t2 t3 t6 t7 t8 m R N0 := by kernel_rfl
theorem L16_0 (R : AV → Mem → Prop) {σ : Type} (I : σ → Prop) (t2 : σ → Int) (t3 : σ → Int) (t6 : σ → AV) (t7 : σ → Int) (t8 : σ → Int) (m : σ → Mem) (μ : σ → Nat) (step : ∀ x, I x → B16_0 (t2 x) (t3 x) (t6 x) (t7 x) (t8 x) (m x) R (fun s' => ∃ y, I y ∧ μ y < μ x ∧ Weak KK 18 0 s' (h16_0 (t2 y) (t3 y) (t6 y) (t7 y) (t8 y) (m y)))) (x : σ) (hx : I x) {s : St} (hw : Weak KK 18 0 s (h16_0 (t2 x) (t3 x) (t6 x) (t7 x) (t8 x) (m x))) : Tri Try.prog KK 18 0 (.loop c16_0) s (q16_0 R) :=
  Tri.weak hw (Tri.loops fol I (fun x => h16_0 (t2 x) (t3 x) (t6 x) (t7 x) (t8 x) (m x)) μ (fun x hx => (B16_0_eq (t2 x) (t3 x) (t6 x) (t7 x) (t8 x) (m x) R _).mpr (step x hx)) x hx)
noncomputable def F16 (a0 : AV) (R : AV → Mem → Prop) : Prop :=
opP (lenS a0) fun v0 =>
ex_i64 v0 fun z1 =>
Tri Try.prog KK 18 0 (.loop c16_0) ⟨[(0, a0), (2, (AV.sc (.int .i64 (0)))), (3, (AV.sc (.int .i64 (0)))), (6, a0), (7, (AV.sc (.int .i64 z1))), (8, (AV.sc (.int .i64 (0))))], [], 5⟩ (q16_0 R)
theorem F16_own (a0 : AV) (R : AV → Mem → Prop) (h : F16 a0 R) : Own Try.prog KK.gl 16 [a0] R := own_of_F fol Try.func16 (code := c16) (by kernel_rfl) (by kernel_rfl) (by kernel_rfl) (X := F16 a0 R) (by kernel_rfl) h
/- skyway/taxi.Queue$1 -/
noncomputable def c15 : Code := ((Try.f15).body).getD .skip
noncomputable def q15 (R : AV → Mem → Prop) : AExit → St → Prop := retQ Try.prog Try.f15 R
noncomputable def F15 (a0_0 : ByteArray) (a0_1 : Int) (a0_2 : Int) (a0_3 : Int) (a1_0 : ByteArray) (a1_1 : Int) (a1_2 : Int) (a1_3 : Int) (R : AV → Mem → Prop) : Prop :=
opM (ldS (look' ((1, some ⟨[(AV.sc (.string a1_0)), (AV.sc (.int .i64 a1_1)), (AV.sc (.int .i64 a1_2)), (AV.sc (.int .i64 a1_3))], 31⟩) :: (0, some ⟨[(AV.sc (.string a0_0)), (AV.sc (.int .i64 a0_1)), (AV.sc (.int .i64 a0_2)), (AV.sc (.int .i64 a0_3))], 31⟩) :: []) (topId (AV.ptr 0 2) ++ ([]))) (AV.ptr 0 2)) fun v0 d0 =>
ex_i64 v0 fun z1 =>
opM (ldS (look' (mpushs ((1, some ⟨[(AV.sc (.string a1_0)), (AV.sc (.int .i64 a1_1)), (AV.sc (.int .i64 a1_2)), (AV.sc (.int .i64 a1_3))], 31⟩) :: (0, some ⟨[(AV.sc (.string a0_0)), (AV.sc (.int .i64 a0_1)), (AV.sc (.int .i64 a0_2)), (AV.sc (.int .i64 a0_3))], 31⟩) :: []) d0) (topId (AV.ptr 1 2) ++ ([]))) (AV.ptr 1 2)) fun v2 d2 =>
ex_i64 v2 fun z3 =>
opM (ldS (look' (mpushs (mpushs ((1, some ⟨[(AV.sc (.string a1_0)), (AV.sc (.int .i64 a1_1)), (AV.sc (.int .i64 a1_2)), (AV.sc (.int .i64 a1_3))], 31⟩) :: (0, some ⟨[(AV.sc (.string a0_0)), (AV.sc (.int .i64 a0_1)), (AV.sc (.int .i64 a0_2)), (AV.sc (.int .i64 a0_3))], 31⟩) :: []) d0) d2) (topId (AV.ptr 0 0) ++ ([]))) (AV.ptr 0 0)) fun v4 d4 =>
exStr v4 fun s5 =>
opM (ldS (look' (mpushs (mpushs (mpushs ((1, some ⟨[(AV.sc (.string a1_0)), (AV.sc (.int .i64 a1_1)), (AV.sc (.int .i64 a1_2)), (AV.sc (.int .i64 a1_3))], 31⟩) :: (0, some ⟨[(AV.sc (.string a0_0)), (AV.sc (.int .i64 a0_1)), (AV.sc (.int .i64 a0_2)), (AV.sc (.int .i64 a0_3))], 31⟩) :: []) d0) d2) d4) (topId (AV.ptr 1 0) ++ ([]))) (AV.ptr 1 0)) fun v6 d6 =>
exStr v6 fun s7 =>
callF Try.prog KK.gl (mpushs (mpushs (mpushs (mpushs ((1, some ⟨[(AV.sc (.string a1_0)), (AV.sc (.int .i64 a1_1)), (AV.sc (.int .i64 a1_2)), (AV.sc (.int .i64 a1_3))], 31⟩) :: (0, some ⟨[(AV.sc (.string a0_0)), (AV.sc (.int .i64 a0_1)), (AV.sc (.int .i64 a0_2)), (AV.sc (.int .i64 a0_3))], 31⟩) :: []) d0) d2) d4) d6) 12 17 [(AV.sc (.string s5)), (AV.sc (.string s7))] fun v8 d8 ft8 =>
ex_i64 v8 fun z9 =>
opM (bsl 13 3 1 2 [(AV.sc (.int .i64 (0)))] [(0, (AV.sc (.int .i64 (IntKind.wrap .i64 (z1 - z3))))), (1, (AV.sc (.int .i64 z9)))]) fun v10 d10 =>
callF Try.prog KK.gl (mpushs (mpushs (mpushs (mpushs (mpushs (mpushs ((1, some ⟨[(AV.sc (.string a1_0)), (AV.sc (.int .i64 a1_1)), (AV.sc (.int .i64 a1_2)), (AV.sc (.int .i64 a1_3))], 31⟩) :: (0, some ⟨[(AV.sc (.string a0_0)), (AV.sc (.int .i64 a0_1)), (AV.sc (.int .i64 a0_2)), (AV.sc (.int .i64 a0_3))], 31⟩) :: []) d0) d2) d4) d6) d8) d10) 14 16 [v10] fun v11 d11 ft11 =>
ex_i64 v11 fun z12 =>
chk (confOk [0, 1, 0, 4, 15, 0, 32, 0, 128, 480, 1023, 2047, 4095] [⟨[], []⟩, ⟨d0, (topId (AV.ptr 0 2) ++ ([]))⟩, ⟨[], []⟩, ⟨d2, (topId (AV.ptr 1 2) ++ ([]))⟩, ⟨[], []⟩, ⟨[], []⟩, ⟨d4, (topId (AV.ptr 0 0) ++ ([]))⟩, ⟨[], []⟩, ⟨d6, (topId (AV.ptr 1 0) ++ ([]))⟩, ⟨d8, ft8⟩, ⟨d10, []⟩, ⟨d11, ft11⟩, ⟨[], []⟩]) (retL R (mpushs (mpushs (mpushs (mpushs (mpushs (mpushs (mpushs ((1, some ⟨[(AV.sc (.string a1_0)), (AV.sc (.int .i64 a1_1)), (AV.sc (.int .i64 a1_2)), (AV.sc (.int .i64 a1_3))], 31⟩) :: (0, some ⟨[(AV.sc (.string a0_0)), (AV.sc (.int .i64 a0_1)), (AV.sc (.int .i64 a0_2)), (AV.sc (.int .i64 a0_3))], 31⟩) :: []) d0) d2) d4) d6) d8) d10) d11) [some (AV.sc (.int .i64 z12))])
theorem F15_own (a0_0 : ByteArray) (a0_1 : Int) (a0_2 : Int) (a0_3 : Int) (a1_0 : ByteArray) (a1_1 : Int) (a1_2 : Int) (a1_3 : Int) (R : AV → Mem → Prop) (h : F15 a0_0 a0_1 a0_2 a0_3 a1_0 a1_1 a1_2 a1_3 R) : Own Try.prog KK.gl 15 [(AV.agg [(AV.sc (.string a0_0)), (AV.sc (.int .i64 a0_1)), (AV.sc (.int .i64 a0_2)), (AV.sc (.int .i64 a0_3))]), (AV.agg [(AV.sc (.string a1_0)), (AV.sc (.int .i64 a1_1)), (AV.sc (.int .i64 a1_2)), (AV.sc (.int .i64 a1_3))])] R := own_of_F fol Try.func15 (code := c15) (by kernel_rfl) (by kernel_rfl) (by kernel_rfl) (X := F15 a0_0 a0_1 a0_2 a0_3 a1_0 a1_1 a1_2 a1_3 R) (by kernel_rfl) h
/- skyway/taxi.Queue -/
noncomputable def c6 : Code := ((Try.f6).body).getD .skip
noncomputable def q6 (R : AV → Mem → Prop) : AExit → St → Prop := retQ Try.prog Try.f6 R
noncomputable def c6_0 : Code := loopB c6 0
noncomputable def q6_0 (R : AV → Mem → Prop) : AExit → St → Prop := contW Try.prog KK 95 0 c6 0 (q6 R)
noncomputable def qq6_0 (R : AV → Mem → Prop) (N0 : St → Prop) : AExit → St → Prop := thenQ N0 (q6_0 R)
def h6_0 (t0 : AV) (t2 : Int) (t6 : AV) (t7 : Int) (t9 : AV) (t25 : AV) (t26 : Int) (t27 : Int) (m : Mem) : St := ⟨[(0, t0), (2, (AV.sc (.int .i64 t2))), (6, t6), (7, (AV.sc (.int .i64 t7))), (9, t9), (25, t25), (26, (AV.sc (.int .i64 t26))), (27, (AV.sc (.int .i64 t27)))], m, 100000⟩
noncomputable def c6_1 : Code := loopB c6 1
noncomputable def q6_1 (R : AV → Mem → Prop) : AExit → St → Prop := contW Try.prog KK 95 0 c6 1 (q6 R)
noncomputable def qq6_1 (R : AV → Mem → Prop) (N0 : St → Prop) : AExit → St → Prop := thenQ N0 (q6_1 R)
def h6_1 (t2 : Int) (t6 : AV) (t7 : Int) (t9 : AV) (t54 : Int) (t55 : Int) (m : Mem) : St := ⟨[(2, (AV.sc (.int .i64 t2))), (6, t6), (7, (AV.sc (.int .i64 t7))), (9, t9), (54, (AV.sc (.int .i64 t54))), (55, (AV.sc (.int .i64 t55)))], m, 100000⟩
noncomputable def B6_0 (t0 : AV) (t2 : Int) (t6 : AV) (t7 : Int) (t9 : AV) (t25 : AV) (t26 : Int) (t27 : Int) (m : Mem) (R : AV → Mem → Prop) (N0 : St → Prop) : Prop :=
bif (decide (t27 < t26)) then (
opP (idxS 3 t25 (AV.sc (.int .i64 t27))) fun v4 =>
opP (ldA (mget m) 3 v4) fun v5 =>
exA3 v5 fun c6 c7 c8 =>
exStr c6 fun s9 =>
exStr c7 fun s10 =>
ex_i64 c8 fun z11 =>
opM (ldS (look' ((100003, some ⟨[(AV.sc (.string s9)), (AV.sc (.string s10)), (AV.sc (.int .i64 z11))], 40⟩) :: (100003, some ⟨[(AV.sc (.string ⟨#[]⟩)), (AV.sc (.string ⟨#[]⟩)), (AV.sc (.int .i64 (0)))], 40⟩) :: m) (topId (AV.ptr 100003 0) ++ ([]))) (AV.ptr 100003 0)) fun v12 d12 =>
exStr v12 fun s13 =>
opM (ldS (look' (mpushs ((100003, some ⟨[(AV.sc (.string s9)), (AV.sc (.string s10)), (AV.sc (.int .i64 z11))], 40⟩) :: (100003, some ⟨[(AV.sc (.string ⟨#[]⟩)), (AV.sc (.string ⟨#[]⟩)), (AV.sc (.int .i64 (0)))], 40⟩) :: m) d12) (topId (AV.ptr 100003 2) ++ ([]))) (AV.ptr 100003 2)) fun v14 d14 =>
ex_i64 v14 fun z15 =>
opM (ldS (look' (mpushs (mpushs ((100003, some ⟨[(AV.sc (.string s9)), (AV.sc (.string s10)), (AV.sc (.int .i64 z11))], 40⟩) :: (100003, some ⟨[(AV.sc (.string ⟨#[]⟩)), (AV.sc (.string ⟨#[]⟩)), (AV.sc (.int .i64 (0)))], 40⟩) :: m) d12) d14) (topId (AV.ptr 100003 2) ++ ([]))) (AV.ptr 100003 2)) fun v16 d16 =>
ex_i64 v16 fun z17 =>
opM (ldS (look' (mpushs (mpushs (mpushs ((100003, some ⟨[(AV.sc (.string s9)), (AV.sc (.string s10)), (AV.sc (.int .i64 z11))], 40⟩) :: (100003, some ⟨[(AV.sc (.string ⟨#[]⟩)), (AV.sc (.string ⟨#[]⟩)), (AV.sc (.int .i64 (0)))], 40⟩) :: m) d12) d14) d16) (topId (AV.ptr 100003 1) ++ ([]))) (AV.ptr 100003 1)) fun v18 d18 =>
exStr v18 fun s19 =>
callF Try.prog KK.gl (mpushs (mpushs (mpushs (mpushs ((100003, some ⟨[(AV.sc (.string s9)), (AV.sc (.string s10)), (AV.sc (.int .i64 z11))], 40⟩) :: (100003, some ⟨[(AV.sc (.string ⟨#[]⟩)), (AV.sc (.string ⟨#[]⟩)), (AV.sc (.int .i64 (0)))], 40⟩) :: m) d12) d14) d16) d18) 100016 13 [t0, (AV.sc (.string s19))] fun v20 d20 ft20 =>
ex_i64 v20 fun z21 =>
opM (idxS 2 t0 (AV.sc (.int .i64 z21))) fun v22 d22 =>
opM (fldO 1 v22) fun v23 d23 =>
opM (ldS (look' (mpushs (mpushs (mpushs (mpushs (mpushs (mpushs (mpushs ((100003, some ⟨[(AV.sc (.string s9)), (AV.sc (.string s10)), (AV.sc (.int .i64 z11))], 40⟩) :: (100003, some ⟨[(AV.sc (.string ⟨#[]⟩)), (AV.sc (.string ⟨#[]⟩)), (AV.sc (.int .i64 (0)))], 40⟩) :: m) d12) d14) d16) d18) d20) d22) d23) (topId v23 ++ ([]))) v23) fun v24 d24 =>
ex_i64 v24 fun z25 =>
opM (bld [(AV.sc (.string ⟨#[]⟩)), (AV.sc (.int .i64 (0))), (AV.sc (.int .i64 (0))), (AV.sc (.int .i64 (0)))] [(0, 1), (1, 1), (2, 1), (3, 1)] [(0, (AV.sc (.string s13))), (1, (AV.sc (.int .i64 z15))), (2, (AV.sc (.int .i64 (IntKind.wrap .i64 (z17 + z25)))))]) fun v26 d26 =>
opM (bsl 100022 31 4 1 [(AV.sc (.string ⟨#[]⟩)), (AV.sc (.int .i64 (0))), (AV.sc (.int .i64 (0))), (AV.sc (.int .i64 (0)))] [(0, v26)]) fun v27 d27 =>
opM (app (look' (mpushs (mpushs (mpushs (mpushs (mpushs (mpushs (mpushs (mpushs (mpushs (mpushs ((100003, some ⟨[(AV.sc (.string s9)), (AV.sc (.string s10)), (AV.sc (.int .i64 z11))], 40⟩) :: (100003, some ⟨[(AV.sc (.string ⟨#[]⟩)), (AV.sc (.string ⟨#[]⟩)), (AV.sc (.int .i64 (0)))], 40⟩) :: m) d12) d14) d16) d18) d20) d22) d23) d24) d26) d27) (topId t9 ++ (topId v27 ++ ([])))) 31 4 40 [(AV.sc (.string ⟨#[]⟩)), (AV.sc (.int .i64 (0))), (AV.sc (.int .i64 (0))), (AV.sc (.int .i64 (0)))] 100023 t9 v27) fun v28 d28 =>
chk (confOk [0, 0, 2, 0, 8, 0, 32, 0, 0, 0, 512, 1792, 3968, 8064, 16256, 32736, 65534, 131070, 262143, 524287] [⟨[], []⟩, ⟨[], []⟩, ⟨d12, (topId (AV.ptr 100003 0) ++ ([]))⟩, ⟨[], []⟩, ⟨d14, (topId (AV.ptr 100003 2) ++ ([]))⟩, ⟨[], []⟩, ⟨d16, (topId (AV.ptr 100003 2) ++ ([]))⟩, ⟨[], []⟩, ⟨[], []⟩, ⟨[], []⟩, ⟨d18, (topId (AV.ptr 100003 1) ++ ([]))⟩, ⟨d20, ft20⟩, ⟨d22, []⟩, ⟨d23, []⟩, ⟨d24, (topId v23 ++ ([]))⟩, ⟨[], []⟩, ⟨d26, []⟩, ⟨d27, []⟩, ⟨d28, (topId t9 ++ (topId v27 ++ ([])))⟩, ⟨[], []⟩]) (N0 ⟨[(0, t0), (2, (AV.sc (.int .i64 t2))), (6, t6), (7, (AV.sc (.int .i64 t7))), (9, v28), (25, t25), (26, (AV.sc (.int .i64 t26))), (27, (AV.sc (.int .i64 (IntKind.wrap .i64 (t27 + (1)))))), (28, (AV.sc (.bool (decide (t27 < t26))))), (29, v4), (30, (AV.agg [(AV.sc (.string s9)), (AV.sc (.string s10)), (AV.sc (.int .i64 z11))])), (11, (AV.ptr 100003 0)), (31, t9), (32, (AV.ptr 100003 0)), (33, (AV.sc (.string s13))), (34, (AV.ptr 100003 2)), (35, (AV.sc (.int .i64 z15))), (36, (AV.ptr 100003 2)), (37, (AV.sc (.int .i64 z17))), (38, t0), (39, t0), (40, (AV.ptr 100003 1)), (41, (AV.sc (.string s19))), (42, (AV.sc (.int .i64 z21))), (43, v22), (44, v23), (45, (AV.sc (.int .i64 z25))), (46, (AV.sc (.int .i64 (IntKind.wrap .i64 (z17 + z25))))), (47, v26), (48, v27), (49, v28), (50, (AV.sc (.int .i64 (IntKind.wrap .i64 (t27 + (1))))))], (mpushs (mpushs (mpushs (mpushs (mpushs (mpushs (mpushs (mpushs (mpushs (mpushs (mpushs ((100003, some ⟨[(AV.sc (.string s9)), (AV.sc (.string s10)), (AV.sc (.int .i64 z11))], 40⟩) :: (100003, some ⟨[(AV.sc (.string ⟨#[]⟩)), (AV.sc (.string ⟨#[]⟩)), (AV.sc (.int .i64 (0)))], 40⟩) :: m) d12) d14) d16) d18) d20) d22) d23) d24) d26) d27) d28), 100027⟩)) else (
callW Try.prog KK.gl m 100002 14 [t9, (AV.fn 15 [])] fun v29 m29 =>
exT0 v29 <|
opP (lenS t9) fun v30 =>
ex_i64 v30 fun z31 =>
Tri Try.prog KK 95 0 (.loop c6_1) ⟨[(0, t0), (2, (AV.sc (.int .i64 t2))), (6, t6), (7, (AV.sc (.int .i64 t7))), (9, t9), (25, t25), (26, (AV.sc (.int .i64 t26))), (27, (AV.sc (.int .i64 t27))), (28, (AV.sc (.bool (decide (t27 < t26))))), (51, t9), (52, (AV.tup [])), (53, t9), (54, (AV.sc (.int .i64 z31))), (55, (AV.sc (.int .i64 (0))))], m29, 100069⟩ (q6_1 R))
theorem B6_0_eq (t0 : AV) (t2 : Int) (t6 : AV) (t7 : Int) (t9 : AV) (t25 : AV) (t26 : Int) (t27 : Int) (m : Mem) (R : AV → Mem → Prop) (N0 : St → Prop) : W Try.prog KK 95 0 c6_0 (h6_0 t0 t2 t6 t7 t9 t25 t26 t27 m) (qq6_0 R N0) = B6_0 t0 t2 t6 t7 t9 t25 t26 t27 m R N0 := by kernel_rfl
theorem L6_0 (R : AV → Mem → Prop) {σ : Type} (I : σ → Prop) (t0 : σ → AV) (t2 : σ → Int) (t6 : σ → AV) (t7 : σ → Int) (t9 : σ → AV) (t25 : σ → AV) (t26 : σ → Int) (t27 : σ → Int) (m : σ → Mem) (μ : σ → Nat) (step : ∀ x, I x → B6_0 (t0 x) (t2 x) (t6 x) (t7 x) (t9 x) (t25 x) (t26 x) (t27 x) (m x) R (fun s' => ∃ y, I y ∧ μ y < μ x ∧ Weak KK 95 0 s' (h6_0 (t0 y) (t2 y) (t6 y) (t7 y) (t9 y) (t25 y) (t26 y) (t27 y) (m y)))) (x : σ) (hx : I x) {s : St} (hw : Weak KK 95 0 s (h6_0 (t0 x) (t2 x) (t6 x) (t7 x) (t9 x) (t25 x) (t26 x) (t27 x) (m x))) : Tri Try.prog KK 95 0 (.loop c6_0) s (q6_0 R) :=
  Tri.weak hw (Tri.loops fol I (fun x => h6_0 (t0 x) (t2 x) (t6 x) (t7 x) (t9 x) (t25 x) (t26 x) (t27 x) (m x)) μ (fun x hx => (B6_0_eq (t0 x) (t2 x) (t6 x) (t7 x) (t9 x) (t25 x) (t26 x) (t27 x) (m x) R _).mpr (step x hx)) x hx)
noncomputable def B6_1 (t2 : Int) (t6 : AV) (t7 : Int) (t9 : AV) (t54 : Int) (t55 : Int) (m : Mem) (R : AV → Mem → Prop) (N0 : St → Prop) : Prop :=
bif (decide (t55 < t54)) then (
opP (idxS 4 t9 (AV.sc (.int .i64 t55))) fun v32 =>
opP (fldO 2 v32) fun v33 =>
opP (ldS (mget m) v33) fun v34 =>
ex_i64 v34 fun z35 =>
opP (idxS 4 t9 (AV.sc (.int .i64 t55))) fun v36 =>
opP (fldO 3 v36) fun v37 =>
storeW Try.prog (mget m) 3 v37 (AV.sc (.int .i64 z35)) fun v38 d38 =>
bif (decide (t55 > (0))) then (
opM (idxS 4 t9 (AV.sc (.int .i64 t55))) fun v39 d39 =>
opM (fldO 3 v39) fun v40 d40 =>
opM (ldS (look' (mpushs (mpushs (mpushs m d38) d39) d40) (topId v40 ++ ([]))) v40) fun v41 d41 =>
ex_i64 v41 fun z42 =>
opM (idxS 4 t9 (AV.sc (.int .i64 (IntKind.wrap .i64 (t55 - (1)))))) fun v43 d43 =>
opM (fldO 3 v43) fun v44 d44 =>
opM (ldS (look' (mpushs (mpushs (mpushs (mpushs (mpushs (mpushs m d38) d39) d40) d41) d43) d44) (topId v44 ++ ([]))) v44) fun v45 d45 =>
ex_i64 v45 fun z46 =>
opM (opA Try.prog (.call ⟨.builtin .max, #[.tmp 0, .tmp 1], #[3, 3]⟩) 3 [(AV.sc (.int .i64 z42)), (AV.sc (.int .i64 (IntKind.wrap .i64 (z46 + t2))))] (look' (mpushs (mpushs (mpushs (mpushs (mpushs (mpushs (mpushs m d38) d39) d40) d41) d43) d44) d45) (topId (AV.sc (.int .i64 z42)) ++ (topId (AV.sc (.int .i64 (IntKind.wrap .i64 (z46 + t2)))) ++ ([])))) 100030) fun v47 d47 =>
ex_i64 v47 fun z48 =>
opM (idxS 4 t9 (AV.sc (.int .i64 t55))) fun v49 d49 =>
opM (fldO 3 v49) fun v50 d50 =>
storeW Try.prog (look' (mpushs (mpushs (mpushs (mpushs (mpushs (mpushs (mpushs (mpushs (mpushs (mpushs m d38) d39) d40) d41) d43) d44) d45) d47) d49) d50) (topId v50 ++ (topId (AV.sc (.int .i64 z48)) ++ ([])))) 3 v50 (AV.sc (.int .i64 z48)) fun v51 d51 =>
chk (confOk [0, 0, 0, 0, 12, 28, 60, 0, 0, 256, 896, 1920, 3968, 0, 16256, 32764, 65535, 131071, 262143] [⟨[], []⟩, ⟨[], []⟩, ⟨[], []⟩, ⟨[], []⟩, ⟨d39, []⟩, ⟨d40, []⟩, ⟨d41, (topId v40 ++ ([]))⟩, ⟨[], []⟩, ⟨[], []⟩, ⟨[], []⟩, ⟨d43, []⟩, ⟨d44, []⟩, ⟨d45, (topId v44 ++ ([]))⟩, ⟨[], []⟩, ⟨[], []⟩, ⟨d47, (topId (AV.sc (.int .i64 z42)) ++ (topId (AV.sc (.int .i64 (IntKind.wrap .i64 (z46 + t2)))) ++ ([])))⟩, ⟨d49, []⟩, ⟨d50, []⟩, ⟨d51, (topId v50 ++ (topId (AV.sc (.int .i64 z48)) ++ ([])))⟩]) (opP (idxS 4 t9 (AV.sc (.int .i64 t55))) fun v52 =>
opP (fldO 3 v52) fun v53 =>
opP (ldS (mget (mpushs (mpushs (mpushs (mpushs (mpushs (mpushs (mpushs (mpushs (mpushs (mpushs (mpushs m d38) d39) d40) d41) d43) d44) d45) d47) d49) d50) d51)) v53) fun v54 =>
ex_i64 v54 fun z55 =>
bif (decide (z55 > (200000))) then (
retL R (mpushs (mpushs (mpushs (mpushs (mpushs (mpushs (mpushs (mpushs (mpushs (mpushs (mpushs m d38) d39) d40) d41) d43) d44) d45) d47) d49) d50) d51) [some AV.nils, some (AV.sc (.int .i64 (12)))]) else (
N0 ⟨[(2, (AV.sc (.int .i64 t2))), (6, t6), (7, (AV.sc (.int .i64 t7))), (9, t9), (54, (AV.sc (.int .i64 t54))), (55, (AV.sc (.int .i64 (IntKind.wrap .i64 (t55 + (1)))))), (56, (AV.sc (.bool (decide (t55 < t54))))), (57, (AV.sc (.int .i64 t55))), (12, (AV.sc (.int .i64 t55))), (58, t9), (59, (AV.sc (.int .i64 t55))), (60, t9), (61, (AV.sc (.int .i64 t55))), (62, v32), (63, v33), (64, (AV.sc (.int .i64 z35))), (65, v36), (66, v37), (67, (AV.sc (.int .i64 t55))), (68, (AV.sc (.bool (decide (t55 > (0)))))), (69, t9), (70, (AV.sc (.int .i64 t55))), (71, t9), (72, (AV.sc (.int .i64 t55))), (73, v39), (74, v40), (75, (AV.sc (.int .i64 z42))), (76, t9), (77, (AV.sc (.int .i64 t55))), (78, (AV.sc (.int .i64 (IntKind.wrap .i64 (t55 - (1)))))), (79, v43), (80, v44), (81, (AV.sc (.int .i64 z46))), (82, (AV.sc (.int .i64 t2))), (83, (AV.sc (.int .i64 (IntKind.wrap .i64 (z46 + t2))))), (84, (AV.sc (.int .i64 z48))), (85, v49), (86, v50), (87, t9), (88, (AV.sc (.int .i64 t55))), (89, v52), (90, v53), (91, (AV.sc (.int .i64 z55))), (92, (AV.sc (.bool (decide (z55 > (200000)))))), (93, (AV.sc (.int .i64 (IntKind.wrap .i64 (t55 + (1))))))], (mpushs (mpushs (mpushs (mpushs (mpushs (mpushs (mpushs (mpushs (mpushs (mpushs (mpushs m d38) d39) d40) d41) d43) d44) d45) d47) d49) d50) d51), 100042⟩))) else (
opP (idxS 4 t9 (AV.sc (.int .i64 t55))) fun v56 =>
opP (fldO 3 v56) fun v57 =>
opP (ldS (mget (mpushs m d38)) v57) fun v58 =>
ex_i64 v58 fun z59 =>
bif (decide (z59 > (200000))) then (
retL R (mpushs m d38) [some AV.nils, some (AV.sc (.int .i64 (12)))]) else (
N0 ⟨[(2, (AV.sc (.int .i64 t2))), (6, t6), (7, (AV.sc (.int .i64 t7))), (9, t9), (54, (AV.sc (.int .i64 t54))), (55, (AV.sc (.int .i64 (IntKind.wrap .i64 (t55 + (1)))))), (56, (AV.sc (.bool (decide (t55 < t54))))), (57, (AV.sc (.int .i64 t55))), (12, (AV.sc (.int .i64 t55))), (58, t9), (59, (AV.sc (.int .i64 t55))), (60, t9), (61, (AV.sc (.int .i64 t55))), (62, v32), (63, v33), (64, (AV.sc (.int .i64 z35))), (65, v36), (66, v37), (67, (AV.sc (.int .i64 t55))), (68, (AV.sc (.bool (decide (t55 > (0)))))), (87, t9), (88, (AV.sc (.int .i64 t55))), (89, v56), (90, v57), (91, (AV.sc (.int .i64 z59))), (92, (AV.sc (.bool (decide (z59 > (200000)))))), (93, (AV.sc (.int .i64 (IntKind.wrap .i64 (t55 + (1))))))], (mpushs m d38), 100023⟩))) else (
retL R m [some t9, some (AV.sc (.int .i64 (0)))])
theorem B6_1_eq (t2 : Int) (t6 : AV) (t7 : Int) (t9 : AV) (t54 : Int) (t55 : Int) (m : Mem) (R : AV → Mem → Prop) (N0 : St → Prop) : W Try.prog KK 95 0 c6_1 (h6_1 t2 t6 t7 t9 t54 t55 m) (qq6_1 R N0) = B6_1 t2 t6 t7 t9 t54 t55 m R N0 := by kernel_rfl
theorem L6_1 (R : AV → Mem → Prop) {σ : Type} (I : σ → Prop) (t2 : σ → Int) (t6 : σ → AV) (t7 : σ → Int) (t9 : σ → AV) (t54 : σ → Int) (t55 : σ → Int) (m : σ → Mem) (μ : σ → Nat) (step : ∀ x, I x → B6_1 (t2 x) (t6 x) (t7 x) (t9 x) (t54 x) (t55 x) (m x) R (fun s' => ∃ y, I y ∧ μ y < μ x ∧ Weak KK 95 0 s' (h6_1 (t2 y) (t6 y) (t7 y) (t9 y) (t54 y) (t55 y) (m y)))) (x : σ) (hx : I x) {s : St} (hw : Weak KK 95 0 s (h6_1 (t2 x) (t6 x) (t7 x) (t9 x) (t54 x) (t55 x) (m x))) : Tri Try.prog KK 95 0 (.loop c6_1) s (q6_1 R) :=
  Tri.weak hw (Tri.loops fol I (fun x => h6_1 (t2 x) (t6 x) (t7 x) (t9 x) (t54 x) (t55 x) (m x)) μ (fun x hx => (B6_1_eq (t2 x) (t6 x) (t7 x) (t9 x) (t54 x) (t55 x) (m x) R _).mpr (step x hx)) x hx)
noncomputable def F6 (a0 : AV) (a1 : AV) (a2 : Int) (R : AV → Mem → Prop) : Prop :=
callQ Try.prog KK.gl [] 12 [a0, a1] fun v0 =>
ex_i64 v0 fun z1 =>
bif (z1 != (0)) then (
retL R [] [some AV.nils, some (AV.sc (.int .i64 z1))]) else (
bif (decide (a2 < (0))) then (
retL R [] [some AV.nils, some (AV.sc (.int .i64 (4)))]) else (
bif (decide (a2 > (1800))) then (
retL R [] [some AV.nils, some (AV.sc (.int .i64 (4)))]) else (
opP (lenS a1) fun v2 =>
ex_i64 v2 fun z3 =>
Tri Try.prog KK 95 0 (.loop c6_0) ⟨[(0, a0), (1, a1), (2, (AV.sc (.int .i64 a2))), (6, AV.nils), (7, (AV.sc (.int .i64 (0)))), (13, a0), (14, a1), (15, (AV.sc (.int .i64 z1))), (8, (AV.sc (.int .i64 z1))), (16, (AV.sc (.int .i64 z1))), (17, (AV.sc (.bool (z1 != (0))))), (19, (AV.sc (.int .i64 a2))), (20, (AV.sc (.bool (decide (a2 < (0)))))), (21, (AV.sc (.bool false))), (22, (AV.sc (.int .i64 a2))), (23, (AV.sc (.bool (decide (a2 > (1800)))))), (24, (AV.sc (.bool (decide (a2 > (1800)))))), (9, AV.nils), (25, a1), (26, (AV.sc (.int .i64 z3))), (27, (AV.sc (.int .i64 (0))))], [], 81⟩ (q6_0 R))))
theorem F6_own (a0 : AV) (a1 : AV) (a2 : Int) (R : AV → Mem → Prop) (h : F6 a0 a1 a2 R) : Own Try.prog KK.gl 6 [a0, a1, (AV.sc (.int .i64 a2))] R := own_of_F fol Try.func6 (code := c6) (by kernel_rfl) (by kernel_rfl) (by kernel_rfl) (X := F6 a0 a1 a2 R) (by kernel_rfl) h
/- skyway/taxi.Late -/
noncomputable def c7 : Code := ((Try.f7).body).getD .skip
noncomputable def q7 (R : AV → Mem → Prop) : AExit → St → Prop := retQ Try.prog Try.f7 R
noncomputable def c7_0 : Code := loopB c7 0
noncomputable def q7_0 (R : AV → Mem → Prop) : AExit → St → Prop := contW Try.prog KK 70 0 c7 0 (q7 R)
noncomputable def qq7_0 (R : AV → Mem → Prop) (N0 : St → Prop) : AExit → St → Prop := thenQ N0 (q7_0 R)
def h7_0 (t3 : Int) (t8 : AV) (t9 : Int) (t10 : AV) (t31 : Int) (t32 : Int) (m : Mem) : St := ⟨[(3, (AV.sc (.int .i64 t3))), (8, t8), (9, (AV.sc (.int .i64 t9))), (10, t10), (31, (AV.sc (.int .i64 t31))), (32, (AV.sc (.int .i64 t32)))], m, 100000⟩
noncomputable def B7_0 (t3 : Int) (t8 : AV) (t9 : Int) (t10 : AV) (t31 : Int) (t32 : Int) (m : Mem) (R : AV → Mem → Prop) (N0 : St → Prop) : Prop :=
bif (decide (t32 < t31)) then (
opP (idxS 4 t10 (AV.sc (.int .i64 t32))) fun v6 =>
opP (fldO 3 v6) fun v7 =>
opP (ldS (mget m) v7) fun v8 =>
ex_i64 v8 fun z9 =>
opP (idxS 4 t10 (AV.sc (.int .i64 t32))) fun v10 =>
opP (fldO 2 v10) fun v11 =>
opP (ldS (mget m) v11) fun v12 =>
ex_i64 v12 fun z13 =>
bif (decide ((IntKind.wrap .i64 ((IntKind.wrap .i64 (z9 - z13)) - t3)) > (0))) then (
opP (idxS 4 t10 (AV.sc (.int .i64 t32))) fun v14 =>
opP (fldO 1 v14) fun v15 =>
opP (ldS (mget m) v15) fun v16 =>
ex_i64 v16 fun z17 =>
opP (idxS 4 t10 (AV.sc (.int .i64 t32))) fun v18 =>
opP (fldO 1 v18) fun v19 =>
storeW Try.prog (mget m) 3 v19 (AV.sc (.int .i64 (IntKind.wrap .i64 (z17 + (IntKind.wrap .i64 ((IntKind.wrap .i64 (z9 - z13)) - t3)))))) fun v20 d20 =>
opP (idxS 4 t10 (AV.sc (.int .i64 t32))) fun v21 =>
opP (fldO 2 v21) fun v22 =>
opP (ldS (mget (mpushs m d20)) v22) fun v23 =>
ex_i64 v23 fun z24 =>
opP (idxS 4 t10 (AV.sc (.int .i64 t32))) fun v25 =>
opP (fldO 2 v25) fun v26 =>
storeW Try.prog (mget (mpushs m d20)) 3 v26 (AV.sc (.int .i64 (IntKind.wrap .i64 (z24 + (IntKind.wrap .i64 ((IntKind.wrap .i64 (z9 - z13)) - t3)))))) fun v27 d27 =>
N0 ⟨[(3, (AV.sc (.int .i64 t3))), (8, t8), (9, (AV.sc (.int .i64 t9))), (10, t10), (31, (AV.sc (.int .i64 t31))), (32, (AV.sc (.int .i64 (IntKind.wrap .i64 (t32 + (1)))))), (33, (AV.sc (.bool (decide (t32 < t31))))), (34, (AV.sc (.int .i64 t32))), (12, (AV.sc (.int .i64 t32))), (35, t10), (36, (AV.sc (.int .i64 t32))), (37, v6), (38, v7), (39, (AV.sc (.int .i64 z9))), (40, t10), (41, (AV.sc (.int .i64 t32))), (42, v10), (43, v11), (44, (AV.sc (.int .i64 z13))), (45, (AV.sc (.int .i64 (IntKind.wrap .i64 (z9 - z13))))), (46, (AV.sc (.int .i64 t3))), (47, (AV.sc (.int .i64 (IntKind.wrap .i64 ((IntKind.wrap .i64 (z9 - z13)) - t3))))), (13, (AV.sc (.int .i64 (IntKind.wrap .i64 ((IntKind.wrap .i64 (z9 - z13)) - t3))))), (48, (AV.sc (.int .i64 (IntKind.wrap .i64 ((IntKind.wrap .i64 (z9 - z13)) - t3))))), (49, (AV.sc (.bool (decide ((IntKind.wrap .i64 ((IntKind.wrap .i64 (z9 - z13)) - t3)) > (0)))))), (50, t10), (51, (AV.sc (.int .i64 t32))), (52, v14), (53, v15), (54, (AV.sc (.int .i64 z17))), (55, (AV.sc (.int .i64 (IntKind.wrap .i64 ((IntKind.wrap .i64 (z9 - z13)) - t3))))), (56, (AV.sc (.int .i64 (IntKind.wrap .i64 (z17 + (IntKind.wrap .i64 ((IntKind.wrap .i64 (z9 - z13)) - t3))))))), (57, v18), (58, v19), (59, t10), (60, (AV.sc (.int .i64 t32))), (61, v21), (62, v22), (63, (AV.sc (.int .i64 z24))), (64, (AV.sc (.int .i64 (IntKind.wrap .i64 ((IntKind.wrap .i64 (z9 - z13)) - t3))))), (65, (AV.sc (.int .i64 (IntKind.wrap .i64 (z24 + (IntKind.wrap .i64 ((IntKind.wrap .i64 (z9 - z13)) - t3))))))), (66, v25), (67, v26), (68, (AV.sc (.int .i64 (IntKind.wrap .i64 (t32 + (1))))))], (mpushs (mpushs m d20) d27), 100041⟩) else (
N0 ⟨[(3, (AV.sc (.int .i64 t3))), (8, t8), (9, (AV.sc (.int .i64 t9))), (10, t10), (31, (AV.sc (.int .i64 t31))), (32, (AV.sc (.int .i64 (IntKind.wrap .i64 (t32 + (1)))))), (33, (AV.sc (.bool (decide (t32 < t31))))), (34, (AV.sc (.int .i64 t32))), (12, (AV.sc (.int .i64 t32))), (35, t10), (36, (AV.sc (.int .i64 t32))), (37, v6), (38, v7), (39, (AV.sc (.int .i64 z9))), (40, t10), (41, (AV.sc (.int .i64 t32))), (42, v10), (43, v11), (44, (AV.sc (.int .i64 z13))), (45, (AV.sc (.int .i64 (IntKind.wrap .i64 (z9 - z13))))), (46, (AV.sc (.int .i64 t3))), (47, (AV.sc (.int .i64 (IntKind.wrap .i64 ((IntKind.wrap .i64 (z9 - z13)) - t3))))), (13, (AV.sc (.int .i64 (IntKind.wrap .i64 ((IntKind.wrap .i64 (z9 - z13)) - t3))))), (48, (AV.sc (.int .i64 (IntKind.wrap .i64 ((IntKind.wrap .i64 (z9 - z13)) - t3))))), (49, (AV.sc (.bool (decide ((IntKind.wrap .i64 ((IntKind.wrap .i64 (z9 - z13)) - t3)) > (0)))))), (68, (AV.sc (.int .i64 (IntKind.wrap .i64 (t32 + (1))))))], m, 100021⟩)) else (
retL R m [some t10, some (AV.sc (.int .i64 (0)))])
theorem B7_0_eq (t3 : Int) (t8 : AV) (t9 : Int) (t10 : AV) (t31 : Int) (t32 : Int) (m : Mem) (R : AV → Mem → Prop) (N0 : St → Prop) : W Try.prog KK 70 0 c7_0 (h7_0 t3 t8 t9 t10 t31 t32 m) (qq7_0 R N0) = B7_0 t3 t8 t9 t10 t31 t32 m R N0 := by kernel_rfl
theorem L7_0 (R : AV → Mem → Prop) {σ : Type} (I : σ → Prop) (t3 : σ → Int) (t8 : σ → AV) (t9 : σ → Int) (t10 : σ → AV) (t31 : σ → Int) (t32 : σ → Int) (m : σ → Mem) (μ : σ → Nat) (step : ∀ x, I x → B7_0 (t3 x) (t8 x) (t9 x) (t10 x) (t31 x) (t32 x) (m x) R (fun s' => ∃ y, I y ∧ μ y < μ x ∧ Weak KK 70 0 s' (h7_0 (t3 y) (t8 y) (t9 y) (t10 y) (t31 y) (t32 y) (m y)))) (x : σ) (hx : I x) {s : St} (hw : Weak KK 70 0 s (h7_0 (t3 x) (t8 x) (t9 x) (t10 x) (t31 x) (t32 x) (m x))) : Tri Try.prog KK 70 0 (.loop c7_0) s (q7_0 R) :=
  Tri.weak hw (Tri.loops fol I (fun x => h7_0 (t3 x) (t8 x) (t9 x) (t10 x) (t31 x) (t32 x) (m x)) μ (fun x hx => (B7_0_eq (t3 x) (t8 x) (t9 x) (t10 x) (t31 x) (t32 x) (m x) R _).mpr (step x hx)) x hx)
noncomputable def F7 (a0 : AV) (a1 : AV) (a2 : Int) (a3 : Int) (R : AV → Mem → Prop) : Prop :=
callW Try.prog KK.gl [] 5 6 [a0, a1, (AV.sc (.int .i64 a2))] fun v0 m0 =>
exT2 v0 fun c1 c2 =>
ex_i64 c2 fun z3 =>
bif (z3 != (0)) then (
retL R m0 [some AV.nils, some (AV.sc (.int .i64 z3))]) else (
bif (decide (a3 < (0))) then (
retL R m0 [some AV.nils, some (AV.sc (.int .i64 (4)))]) else (
bif (decide (a3 > (1800))) then (
retL R m0 [some AV.nils, some (AV.sc (.int .i64 (4)))]) else (
opP (lenS c1) fun v4 =>
ex_i64 v4 fun z5 =>
Tri Try.prog KK 70 0 (.loop c7_0) ⟨[(0, a0), (1, a1), (2, (AV.sc (.int .i64 a2))), (3, (AV.sc (.int .i64 a3))), (8, AV.nils), (9, (AV.sc (.int .i64 (0)))), (15, a0), (16, a1), (17, (AV.sc (.int .i64 a2))), (18, (AV.tup [c1, (AV.sc (.int .i64 z3))])), (14, (AV.tup [c1, (AV.sc (.int .i64 z3))])), (19, c1), (20, (AV.sc (.int .i64 z3))), (10, c1), (11, (AV.sc (.int .i64 z3))), (21, (AV.sc (.int .i64 z3))), (22, (AV.sc (.bool (z3 != (0))))), (24, (AV.sc (.int .i64 a3))), (25, (AV.sc (.bool (decide (a3 < (0)))))), (26, (AV.sc (.bool false))), (27, (AV.sc (.int .i64 a3))), (28, (AV.sc (.bool (decide (a3 > (1800)))))), (29, (AV.sc (.bool (decide (a3 > (1800)))))), (30, c1), (31, (AV.sc (.int .i64 z5))), (32, (AV.sc (.int .i64 (0))))], m0, 85⟩ (q7_0 R))))
theorem F7_own (a0 : AV) (a1 : AV) (a2 : Int) (a3 : Int) (R : AV → Mem → Prop) (h : F7 a0 a1 a2 a3 R) : Own Try.prog KK.gl 7 [a0, a1, (AV.sc (.int .i64 a2)), (AV.sc (.int .i64 a3))] R := own_of_F fol Try.func7 (code := c7) (by kernel_rfl) (by kernel_rfl) (by kernel_rfl) (X := F7 a0 a1 a2 a3 R) (by kernel_rfl) h
/- skyway/taxi.Waiting -/
noncomputable def c9 : Code := ((Try.f9).body).getD .skip
noncomputable def q9 (R : AV → Mem → Prop) : AExit → St → Prop := retQ Try.prog Try.f9 R
noncomputable def c9_0 : Code := loopB c9 0
noncomputable def q9_0 (R : AV → Mem → Prop) : AExit → St → Prop := contW Try.prog KK 28 0 c9 0 (q9 R)
noncomputable def qq9_0 (R : AV → Mem → Prop) (N0 : St → Prop) : AExit → St → Prop := thenQ N0 (q9_0 R)
def h9_0 (t1 : Int) (t4 : Int) (t5 : Int) (t8 : AV) (t9 : Int) (t10 : Int) (m : Mem) : St := ⟨[(1, (AV.sc (.int .i64 t1))), (4, (AV.sc (.int .i64 t4))), (5, (AV.sc (.int .i64 t5))), (8, t8), (9, (AV.sc (.int .i64 t9))), (10, (AV.sc (.int .i64 t10)))], m, 100000⟩
noncomputable def B9_0 (t1 : Int) (t4 : Int) (t5 : Int) (t8 : AV) (t9 : Int) (t10 : Int) (m : Mem) (R : AV → Mem → Prop) (N0 : St → Prop) : Prop :=
bif (decide (t10 < t9)) then (
opP (idxS 4 t8 (AV.sc (.int .i64 t10))) fun v2 =>
opP (ldA (mget m) 4 v2) fun v3 =>
exA4 v3 fun c4 c5 c6 c7 =>
exStr c4 fun s8 =>
ex_i64 c5 fun z9 =>
ex_i64 c6 fun z10 =>
ex_i64 c7 fun z11 =>
bif (decide (t1 ≥ z10)) then (
bif (decide (t1 < z11)) then (
N0 ⟨[(1, (AV.sc (.int .i64 t1))), (4, (AV.sc (.int .i64 t4))), (5, (AV.sc (.int .i64 (IntKind.wrap .i64 (t5 + (1)))))), (8, t8), (9, (AV.sc (.int .i64 t9))), (10, (AV.sc (.int .i64 (IntKind.wrap .i64 (t10 + (1)))))), (11, (AV.sc (.bool (decide (t10 < t9))))), (12, v2), (13, (AV.agg [(AV.sc (.string s8)), (AV.sc (.int .i64 z9)), (AV.sc (.int .i64 z10)), (AV.sc (.int .i64 z11))])), (7, (AV.ptr 100003 0)), (14, (AV.sc (.int .i64 t1))), (15, (AV.ptr 100003 2)), (16, (AV.sc (.int .i64 z10))), (17, (AV.sc (.bool (decide (t1 ≥ z10))))), (18, (AV.sc (.bool true))), (19, (AV.sc (.int .i64 t1))), (20, (AV.ptr 100003 3)), (21, (AV.sc (.int .i64 z11))), (22, (AV.sc (.bool (decide (t1 < z11))))), (23, (AV.sc (.bool (decide (t1 < z11))))), (24, (AV.sc (.int .i64 t5))), (25, (AV.sc (.int .i64 (IntKind.wrap .i64 (t5 + (1)))))), (26, (AV.sc (.int .i64 (IntKind.wrap .i64 (t10 + (1))))))], ((100003, some ⟨[(AV.sc (.string s8)), (AV.sc (.int .i64 z9)), (AV.sc (.int .i64 z10)), (AV.sc (.int .i64 z11))], 31⟩) :: (100003, some ⟨[(AV.sc (.string ⟨#[]⟩)), (AV.sc (.int .i64 (0))), (AV.sc (.int .i64 (0))), (AV.sc (.int .i64 (0)))], 31⟩) :: m), 100020⟩) else (
N0 ⟨[(1, (AV.sc (.int .i64 t1))), (4, (AV.sc (.int .i64 t4))), (5, (AV.sc (.int .i64 t5))), (8, t8), (9, (AV.sc (.int .i64 t9))), (10, (AV.sc (.int .i64 (IntKind.wrap .i64 (t10 + (1)))))), (11, (AV.sc (.bool (decide (t10 < t9))))), (12, v2), (13, (AV.agg [(AV.sc (.string s8)), (AV.sc (.int .i64 z9)), (AV.sc (.int .i64 z10)), (AV.sc (.int .i64 z11))])), (7, (AV.ptr 100003 0)), (14, (AV.sc (.int .i64 t1))), (15, (AV.ptr 100003 2)), (16, (AV.sc (.int .i64 z10))), (17, (AV.sc (.bool (decide (t1 ≥ z10))))), (18, (AV.sc (.bool true))), (19, (AV.sc (.int .i64 t1))), (20, (AV.ptr 100003 3)), (21, (AV.sc (.int .i64 z11))), (22, (AV.sc (.bool (decide (t1 < z11))))), (23, (AV.sc (.bool (decide (t1 < z11))))), (26, (AV.sc (.int .i64 (IntKind.wrap .i64 (t10 + (1))))))], ((100003, some ⟨[(AV.sc (.string s8)), (AV.sc (.int .i64 z9)), (AV.sc (.int .i64 z10)), (AV.sc (.int .i64 z11))], 31⟩) :: (100003, some ⟨[(AV.sc (.string ⟨#[]⟩)), (AV.sc (.int .i64 (0))), (AV.sc (.int .i64 (0))), (AV.sc (.int .i64 (0)))], 31⟩) :: m), 100017⟩)) else (
N0 ⟨[(1, (AV.sc (.int .i64 t1))), (4, (AV.sc (.int .i64 t4))), (5, (AV.sc (.int .i64 t5))), (8, t8), (9, (AV.sc (.int .i64 t9))), (10, (AV.sc (.int .i64 (IntKind.wrap .i64 (t10 + (1)))))), (11, (AV.sc (.bool (decide (t10 < t9))))), (12, v2), (13, (AV.agg [(AV.sc (.string s8)), (AV.sc (.int .i64 z9)), (AV.sc (.int .i64 z10)), (AV.sc (.int .i64 z11))])), (7, (AV.ptr 100003 0)), (14, (AV.sc (.int .i64 t1))), (15, (AV.ptr 100003 2)), (16, (AV.sc (.int .i64 z10))), (17, (AV.sc (.bool (decide (t1 ≥ z10))))), (18, (AV.sc (.bool false))), (19, (AV.tup [])), (20, (AV.tup [])), (21, (AV.tup [])), (22, (AV.tup [])), (23, (AV.sc (.bool false))), (26, (AV.sc (.int .i64 (IntKind.wrap .i64 (t10 + (1))))))], ((100003, some ⟨[(AV.sc (.string s8)), (AV.sc (.int .i64 z9)), (AV.sc (.int .i64 z10)), (AV.sc (.int .i64 z11))], 31⟩) :: (100003, some ⟨[(AV.sc (.string ⟨#[]⟩)), (AV.sc (.int .i64 (0))), (AV.sc (.int .i64 (0))), (AV.sc (.int .i64 (0)))], 31⟩) :: m), 100013⟩)) else (
retL R m [some (AV.sc (.int .i64 t5))])
theorem B9_0_eq (t1 : Int) (t4 : Int) (t5 : Int) (t8 : AV) (t9 : Int) (t10 : Int) (m : Mem) (R : AV → Mem → Prop) (N0 : St → Prop) : W Try.prog KK 28 0 c9_0 (h9_0 t1 t4 t5 t8 t9 t10 m) (qq9_0 R N0) = B9_0 t1 t4 t5 t8 t9 t10 m R N0 := by kernel_rfl
theorem L9_0 (R : AV → Mem → Prop) {σ : Type} (I : σ → Prop) (t1 : σ → Int) (t4 : σ → Int) (t5 : σ → Int) (t8 : σ → AV) (t9 : σ → Int) (t10 : σ → Int) (m : σ → Mem) (μ : σ → Nat) (step : ∀ x, I x → B9_0 (t1 x) (t4 x) (t5 x) (t8 x) (t9 x) (t10 x) (m x) R (fun s' => ∃ y, I y ∧ μ y < μ x ∧ Weak KK 28 0 s' (h9_0 (t1 y) (t4 y) (t5 y) (t8 y) (t9 y) (t10 y) (m y)))) (x : σ) (hx : I x) {s : St} (hw : Weak KK 28 0 s (h9_0 (t1 x) (t4 x) (t5 x) (t8 x) (t9 x) (t10 x) (m x))) : Tri Try.prog KK 28 0 (.loop c9_0) s (q9_0 R) :=
  Tri.weak hw (Tri.loops fol I (fun x => h9_0 (t1 x) (t4 x) (t5 x) (t8 x) (t9 x) (t10 x) (m x)) μ (fun x hx => (B9_0_eq (t1 x) (t4 x) (t5 x) (t8 x) (t9 x) (t10 x) (m x) R _).mpr (step x hx)) x hx)
noncomputable def F9 (a0 : AV) (a1 : Int) (R : AV → Mem → Prop) : Prop :=
opP (lenS a0) fun v0 =>
ex_i64 v0 fun z1 =>
Tri Try.prog KK 28 0 (.loop c9_0) ⟨[(0, a0), (1, (AV.sc (.int .i64 a1))), (4, (AV.sc (.int .i64 (0)))), (5, (AV.sc (.int .i64 (0)))), (8, a0), (9, (AV.sc (.int .i64 z1))), (10, (AV.sc (.int .i64 (0))))], [], 5⟩ (q9_0 R)
theorem F9_own (a0 : AV) (a1 : Int) (R : AV → Mem → Prop) (h : F9 a0 a1 R) : Own Try.prog KK.gl 9 [a0, (AV.sc (.int .i64 a1))] R := own_of_F fol Try.func9 (code := c9) (by kernel_rfl) (by kernel_rfl) (by kernel_rfl) (X := F9 a0 a1 R) (by kernel_rfl) h
/- skyway/taxi.Most -/
noncomputable def c8 : Code := ((Try.f8).body).getD .skip
noncomputable def q8 (R : AV → Mem → Prop) : AExit → St → Prop := retQ Try.prog Try.f8 R
noncomputable def c8_0 : Code := loopB c8 0
noncomputable def q8_0 (R : AV → Mem → Prop) : AExit → St → Prop := contW Try.prog KK 43 0 c8 0 (q8 R)
noncomputable def qq8_0 (R : AV → Mem → Prop) (N0 : St → Prop) : AExit → St → Prop := thenQ N0 (q8_0 R)
def h8_0 (t0 : AV) (t2 : Int) (t3 : Int) (t4 : Int) (t5 : Int) (t9 : AV) (t10 : Int) (t11 : Int) (m : Mem) : St := ⟨[(0, t0), (2, (AV.sc (.int .i64 t2))), (3, (AV.sc (.int .i64 t3))), (4, (AV.sc (.int .i64 t4))), (5, (AV.sc (.int .i64 t5))), (9, t9), (10, (AV.sc (.int .i64 t10))), (11, (AV.sc (.int .i64 t11)))], m, 100000⟩
noncomputable def B8_0 (t0 : AV) (t2 : Int) (t3 : Int) (t4 : Int) (t5 : Int) (t9 : AV) (t10 : Int) (t11 : Int) (m : Mem) (R : AV → Mem → Prop) (N0 : St → Prop) : Prop :=
bif (decide (t11 < t10)) then (
opP (idxS 4 t9 (AV.sc (.int .i64 t11))) fun v2 =>
opP (ldA (mget m) 4 v2) fun v3 =>
exA4 v3 fun c4 c5 c6 c7 =>
exStr c4 fun s8 =>
ex_i64 c5 fun z9 =>
ex_i64 c6 fun z10 =>
ex_i64 c7 fun z11 =>
callQ Try.prog KK.gl ((100003, some ⟨[(AV.sc (.string s8)), (AV.sc (.int .i64 z9)), (AV.sc (.int .i64 z10)), (AV.sc (.int .i64 z11))], 31⟩) :: (100003, some ⟨[(AV.sc (.string ⟨#[]⟩)), (AV.sc (.int .i64 (0))), (AV.sc (.int .i64 (0))), (AV.sc (.int .i64 (0)))], 31⟩) :: m) 9 [t0, (AV.sc (.int .i64 z10))] fun v12 =>
ex_i64 v12 fun z13 =>
bif (decide (z13 > t4)) then (
N0 ⟨[(0, t0), (2, (AV.sc (.int .i64 t2))), (3, (AV.sc (.int .i64 t3))), (4, (AV.sc (.int .i64 z13))), (5, (AV.sc (.int .i64 z10))), (9, t9), (10, (AV.sc (.int .i64 t10))), (11, (AV.sc (.int .i64 (IntKind.wrap .i64 (t11 + (1)))))), (12, (AV.sc (.bool (decide (t11 < t10))))), (13, v2), (14, (AV.agg [(AV.sc (.string s8)), (AV.sc (.int .i64 z9)), (AV.sc (.int .i64 z10)), (AV.sc (.int .i64 z11))])), (7, (AV.ptr 100003 0)), (15, t0), (16, (AV.ptr 100003 2)), (17, (AV.sc (.int .i64 z10))), (18, (AV.sc (.int .i64 z13))), (8, (AV.sc (.int .i64 z13))), (19, (AV.sc (.int .i64 z13))), (20, (AV.sc (.int .i64 t4))), (21, (AV.sc (.bool (decide (z13 > t4))))), (22, (AV.sc (.bool true))), (23, (AV.tup [])), (24, (AV.tup [])), (25, (AV.tup [])), (26, (AV.tup [])), (27, (AV.tup [])), (28, (AV.tup [])), (29, (AV.tup [])), (30, (AV.tup [])), (31, (AV.tup [])), (32, (AV.tup [])), (33, (AV.tup [])), (34, (AV.tup [])), (35, (AV.tup [])), (36, (AV.sc (.bool true))), (37, (AV.sc (.int .i64 z13))), (38, (AV.ptr 100003 2)), (39, (AV.sc (.int .i64 z10))), (40, (AV.sc (.int .i64 (IntKind.wrap .i64 (t11 + (1))))))], ((100003, some ⟨[(AV.sc (.string s8)), (AV.sc (.int .i64 z9)), (AV.sc (.int .i64 z10)), (AV.sc (.int .i64 z11))], 31⟩) :: (100003, some ⟨[(AV.sc (.string ⟨#[]⟩)), (AV.sc (.int .i64 (0))), (AV.sc (.int .i64 (0))), (AV.sc (.int .i64 (0)))], 31⟩) :: m), 100085⟩) else (
bif (z13 == t4) then (
bif (decide (z13 > (0))) then (
bif (decide (z10 < t5)) then (
N0 ⟨[(0, t0), (2, (AV.sc (.int .i64 t2))), (3, (AV.sc (.int .i64 t3))), (4, (AV.sc (.int .i64 z13))), (5, (AV.sc (.int .i64 z10))), (9, t9), (10, (AV.sc (.int .i64 t10))), (11, (AV.sc (.int .i64 (IntKind.wrap .i64 (t11 + (1)))))), (12, (AV.sc (.bool (decide (t11 < t10))))), (13, v2), (14, (AV.agg [(AV.sc (.string s8)), (AV.sc (.int .i64 z9)), (AV.sc (.int .i64 z10)), (AV.sc (.int .i64 z11))])), (7, (AV.ptr 100003 0)), (15, t0), (16, (AV.ptr 100003 2)), (17, (AV.sc (.int .i64 z10))), (18, (AV.sc (.int .i64 z13))), (8, (AV.sc (.int .i64 z13))), (19, (AV.sc (.int .i64 z13))), (20, (AV.sc (.int .i64 t4))), (21, (AV.sc (.bool (decide (z13 > t4))))), (22, (AV.sc (.bool false))), (23, (AV.sc (.int .i64 z13))), (24, (AV.sc (.int .i64 t4))), (25, (AV.sc (.bool (z13 == t4)))), (26, (AV.sc (.bool true))), (27, (AV.sc (.int .i64 z13))), (28, (AV.sc (.bool (decide (z13 > (0)))))), (29, (AV.sc (.bool (decide (z13 > (0)))))), (30, (AV.sc (.bool true))), (31, (AV.ptr 100003 2)), (32, (AV.sc (.int .i64 z10))), (33, (AV.sc (.int .i64 t5))), (34, (AV.sc (.bool (decide (z10 < t5))))), (35, (AV.sc (.bool (decide (z10 < t5))))), (36, (AV.sc (.bool (decide (z10 < t5))))), (37, (AV.sc (.int .i64 z13))), (38, (AV.ptr 100003 2)), (39, (AV.sc (.int .i64 z10))), (40, (AV.sc (.int .i64 (IntKind.wrap .i64 (t11 + (1))))))], ((100003, some ⟨[(AV.sc (.string s8)), (AV.sc (.int .i64 z9)), (AV.sc (.int .i64 z10)), (AV.sc (.int .i64 z11))], 31⟩) :: (100003, some ⟨[(AV.sc (.string ⟨#[]⟩)), (AV.sc (.int .i64 (0))), (AV.sc (.int .i64 (0))), (AV.sc (.int .i64 (0)))], 31⟩) :: m), 100098⟩) else (
N0 ⟨[(0, t0), (2, (AV.sc (.int .i64 t2))), (3, (AV.sc (.int .i64 t3))), (4, (AV.sc (.int .i64 t4))), (5, (AV.sc (.int .i64 t5))), (9, t9), (10, (AV.sc (.int .i64 t10))), (11, (AV.sc (.int .i64 (IntKind.wrap .i64 (t11 + (1)))))), (12, (AV.sc (.bool (decide (t11 < t10))))), (13, v2), (14, (AV.agg [(AV.sc (.string s8)), (AV.sc (.int .i64 z9)), (AV.sc (.int .i64 z10)), (AV.sc (.int .i64 z11))])), (7, (AV.ptr 100003 0)), (15, t0), (16, (AV.ptr 100003 2)), (17, (AV.sc (.int .i64 z10))), (18, (AV.sc (.int .i64 z13))), (8, (AV.sc (.int .i64 z13))), (19, (AV.sc (.int .i64 z13))), (20, (AV.sc (.int .i64 t4))), (21, (AV.sc (.bool (decide (z13 > t4))))), (22, (AV.sc (.bool false))), (23, (AV.sc (.int .i64 z13))), (24, (AV.sc (.int .i64 t4))), (25, (AV.sc (.bool (z13 == t4)))), (26, (AV.sc (.bool true))), (27, (AV.sc (.int .i64 z13))), (28, (AV.sc (.bool (decide (z13 > (0)))))), (29, (AV.sc (.bool (decide (z13 > (0)))))), (30, (AV.sc (.bool true))), (31, (AV.ptr 100003 2)), (32, (AV.sc (.int .i64 z10))), (33, (AV.sc (.int .i64 t5))), (34, (AV.sc (.bool (decide (z10 < t5))))), (35, (AV.sc (.bool (decide (z10 < t5))))), (36, (AV.sc (.bool (decide (z10 < t5))))), (40, (AV.sc (.int .i64 (IntKind.wrap .i64 (t11 + (1))))))], ((100003, some ⟨[(AV.sc (.string s8)), (AV.sc (.int .i64 z9)), (AV.sc (.int .i64 z10)), (AV.sc (.int .i64 z11))], 31⟩) :: (100003, some ⟨[(AV.sc (.string ⟨#[]⟩)), (AV.sc (.int .i64 (0))), (AV.sc (.int .i64 (0))), (AV.sc (.int .i64 (0)))], 31⟩) :: m), 100093⟩)) else (
N0 ⟨[(0, t0), (2, (AV.sc (.int .i64 t2))), (3, (AV.sc (.int .i64 t3))), (4, (AV.sc (.int .i64 t4))), (5, (AV.sc (.int .i64 t5))), (9, t9), (10, (AV.sc (.int .i64 t10))), (11, (AV.sc (.int .i64 (IntKind.wrap .i64 (t11 + (1)))))), (12, (AV.sc (.bool (decide (t11 < t10))))), (13, v2), (14, (AV.agg [(AV.sc (.string s8)), (AV.sc (.int .i64 z9)), (AV.sc (.int .i64 z10)), (AV.sc (.int .i64 z11))])), (7, (AV.ptr 100003 0)), (15, t0), (16, (AV.ptr 100003 2)), (17, (AV.sc (.int .i64 z10))), (18, (AV.sc (.int .i64 z13))), (8, (AV.sc (.int .i64 z13))), (19, (AV.sc (.int .i64 z13))), (20, (AV.sc (.int .i64 t4))), (21, (AV.sc (.bool (decide (z13 > t4))))), (22, (AV.sc (.bool false))), (23, (AV.sc (.int .i64 z13))), (24, (AV.sc (.int .i64 t4))), (25, (AV.sc (.bool (z13 == t4)))), (26, (AV.sc (.bool true))), (27, (AV.sc (.int .i64 z13))), (28, (AV.sc (.bool (decide (z13 > (0)))))), (29, (AV.sc (.bool (decide (z13 > (0)))))), (30, (AV.sc (.bool false))), (31, (AV.tup [])), (32, (AV.tup [])), (33, (AV.tup [])), (34, (AV.tup [])), (35, (AV.sc (.bool false))), (36, (AV.sc (.bool false))), (40, (AV.sc (.int .i64 (IntKind.wrap .i64 (t11 + (1))))))], ((100003, some ⟨[(AV.sc (.string s8)), (AV.sc (.int .i64 z9)), (AV.sc (.int .i64 z10)), (AV.sc (.int .i64 z11))], 31⟩) :: (100003, some ⟨[(AV.sc (.string ⟨#[]⟩)), (AV.sc (.int .i64 (0))), (AV.sc (.int .i64 (0))), (AV.sc (.int .i64 (0)))], 31⟩) :: m), 100089⟩)) else (
N0 ⟨[(0, t0), (2, (AV.sc (.int .i64 t2))), (3, (AV.sc (.int .i64 t3))), (4, (AV.sc (.int .i64 t4))), (5, (AV.sc (.int .i64 t5))), (9, t9), (10, (AV.sc (.int .i64 t10))), (11, (AV.sc (.int .i64 (IntKind.wrap .i64 (t11 + (1)))))), (12, (AV.sc (.bool (decide (t11 < t10))))), (13, v2), (14, (AV.agg [(AV.sc (.string s8)), (AV.sc (.int .i64 z9)), (AV.sc (.int .i64 z10)), (AV.sc (.int .i64 z11))])), (7, (AV.ptr 100003 0)), (15, t0), (16, (AV.ptr 100003 2)), (17, (AV.sc (.int .i64 z10))), (18, (AV.sc (.int .i64 z13))), (8, (AV.sc (.int .i64 z13))), (19, (AV.sc (.int .i64 z13))), (20, (AV.sc (.int .i64 t4))), (21, (AV.sc (.bool (decide (z13 > t4))))), (22, (AV.sc (.bool false))), (23, (AV.sc (.int .i64 z13))), (24, (AV.sc (.int .i64 t4))), (25, (AV.sc (.bool (z13 == t4)))), (26, (AV.sc (.bool false))), (27, (AV.tup [])), (28, (AV.tup [])), (29, (AV.sc (.bool false))), (30, (AV.sc (.bool false))), (31, (AV.tup [])), (32, (AV.tup [])), (33, (AV.tup [])), (34, (AV.tup [])), (35, (AV.sc (.bool false))), (36, (AV.sc (.bool false))), (40, (AV.sc (.int .i64 (IntKind.wrap .i64 (t11 + (1))))))], ((100003, some ⟨[(AV.sc (.string s8)), (AV.sc (.int .i64 z9)), (AV.sc (.int .i64 z10)), (AV.sc (.int .i64 z11))], 31⟩) :: (100003, some ⟨[(AV.sc (.string ⟨#[]⟩)), (AV.sc (.int .i64 (0))), (AV.sc (.int .i64 (0))), (AV.sc (.int .i64 (0)))], 31⟩) :: m), 100087⟩))) else (
retL R m [some (AV.sc (.int .i64 t4)), some (AV.sc (.int .i64 t5))])
theorem B8_0_eq (t0 : AV) (t2 : Int) (t3 : Int) (t4 : Int) (t5 : Int) (t9 : AV) (t10 : Int) (t11 : Int) (m : Mem) (R : AV → Mem → Prop) (N0 : St → Prop) : W Try.prog KK 43 0 c8_0 (h8_0 t0 t2 t3 t4 t5 t9 t10 t11 m) (qq8_0 R N0) = B8_0 t0 t2 t3 t4 t5 t9 t10 t11 m R N0 := by kernel_rfl
theorem L8_0 (R : AV → Mem → Prop) {σ : Type} (I : σ → Prop) (t0 : σ → AV) (t2 : σ → Int) (t3 : σ → Int) (t4 : σ → Int) (t5 : σ → Int) (t9 : σ → AV) (t10 : σ → Int) (t11 : σ → Int) (m : σ → Mem) (μ : σ → Nat) (step : ∀ x, I x → B8_0 (t0 x) (t2 x) (t3 x) (t4 x) (t5 x) (t9 x) (t10 x) (t11 x) (m x) R (fun s' => ∃ y, I y ∧ μ y < μ x ∧ Weak KK 43 0 s' (h8_0 (t0 y) (t2 y) (t3 y) (t4 y) (t5 y) (t9 y) (t10 y) (t11 y) (m y)))) (x : σ) (hx : I x) {s : St} (hw : Weak KK 43 0 s (h8_0 (t0 x) (t2 x) (t3 x) (t4 x) (t5 x) (t9 x) (t10 x) (t11 x) (m x))) : Tri Try.prog KK 43 0 (.loop c8_0) s (q8_0 R) :=
  Tri.weak hw (Tri.loops fol I (fun x => h8_0 (t0 x) (t2 x) (t3 x) (t4 x) (t5 x) (t9 x) (t10 x) (t11 x) (m x)) μ (fun x hx => (B8_0_eq (t0 x) (t2 x) (t3 x) (t4 x) (t5 x) (t9 x) (t10 x) (t11 x) (m x) R _).mpr (step x hx)) x hx)
noncomputable def F8 (a0 : AV) (R : AV → Mem → Prop) : Prop :=
opP (lenS a0) fun v0 =>
ex_i64 v0 fun z1 =>
Tri Try.prog KK 43 0 (.loop c8_0) ⟨[(0, a0), (2, (AV.sc (.int .i64 (0)))), (3, (AV.sc (.int .i64 (0)))), (4, (AV.sc (.int .i64 (0)))), (5, (AV.sc (.int .i64 (0)))), (9, a0), (10, (AV.sc (.int .i64 z1))), (11, (AV.sc (.int .i64 (0))))], [], 7⟩ (q8_0 R)
theorem F8_own (a0 : AV) (R : AV → Mem → Prop) (h : F8 a0 R) : Own Try.prog KK.gl 8 [a0] R := own_of_F fol Try.func8 (code := c8) (by kernel_rfl) (by kernel_rfl) (by kernel_rfl) (X := F8 a0 R) (by kernel_rfl) h
/- skyway/skywaykeep3.TaxiOrders -/
noncomputable def c3 : Code := ((Try.f3).body).getD .skip
noncomputable def q3 (R : AV → Mem → Prop) : AExit → St → Prop := retQ Try.prog Try.f3 R
noncomputable def c3_0 : Code := loopB c3 0
noncomputable def q3_0 (R : AV → Mem → Prop) : AExit → St → Prop := contW Try.prog KK 184 0 c3 0 (q3 R)
noncomputable def qq3_0 (R : AV → Mem → Prop) (N0 : St → Prop) : AExit → St → Prop := thenQ N0 (q3_0 R)
def h3_0 (t2 : Int) (t3 : Int) (t8 : Bool) (t9 : AV) (t11 : AV) (t57 : Int) (t58 : Int) (m : Mem) : St := ⟨[(2, (AV.sc (.int .i64 t2))), (3, (AV.sc (.int .i64 t3))), (8, (AV.sc (.bool t8))), (9, t9), (11, t11), (57, (AV.sc (.int .i64 t57))), (58, (AV.sc (.int .i64 t58)))], m, 100000⟩
noncomputable def B3_0 (t2 : Int) (t3 : Int) (t8 : Bool) (t9 : AV) (t11 : AV) (t57 : Int) (t58 : Int) (m : Mem) (R : AV → Mem → Prop) (N0 : St → Prop) : Prop :=
bif (decide (t58 < t57)) then (
opP (idxS 4 t9 (AV.sc (.int .i64 t58))) fun v24 =>
opP (fldO 0 v24) fun v25 =>
opP (ldS (mget m) v25) fun v26 =>
exStr v26 fun s27 =>
opP (idxS 4 t11 (AV.sc (.int .i64 t58))) fun v28 =>
opP (fldO 0 v28) fun v29 =>
opP (ldS (mget m) v29) fun v30 =>
exStr v30 fun s31 =>
bif (!((s27).toList == (s31).toList)) then (
retL R m [some (AV.sc (.bool false))]) else (
opP (idxS 4 t9 (AV.sc (.int .i64 t58))) fun v32 =>
opP (fldO 3 v32) fun v33 =>
opP (ldS (mget m) v33) fun v34 =>
ex_i64 v34 fun z35 =>
opP (idxS 4 t11 (AV.sc (.int .i64 t58))) fun v36 =>
opP (fldO 3 v36) fun v37 =>
opP (ldS (mget m) v37) fun v38 =>
ex_i64 v38 fun z39 =>
bif (z35 != z39) then (
retL R m [some (AV.sc (.bool false))]) else (
opP (idxS 4 t11 (AV.sc (.int .i64 t58))) fun v40 =>
opP (fldO 1 v40) fun v41 =>
opP (ldS (mget m) v41) fun v42 =>
ex_i64 v42 fun z43 =>
opP (idxS 4 t9 (AV.sc (.int .i64 t58))) fun v44 =>
opP (fldO 1 v44) fun v45 =>
opP (ldS (mget m) v45) fun v46 =>
ex_i64 v46 fun z47 =>
bif (decide (z43 < z47)) then (
retL R m [some (AV.sc (.bool false))]) else (
opP (idxS 4 t11 (AV.sc (.int .i64 t58))) fun v48 =>
opP (fldO 2 v48) fun v49 =>
opP (ldS (mget m) v49) fun v50 =>
ex_i64 v50 fun z51 =>
opP (idxS 4 t11 (AV.sc (.int .i64 t58))) fun v52 =>
opP (fldO 1 v52) fun v53 =>
opP (ldS (mget m) v53) fun v54 =>
ex_i64 v54 fun z55 =>
opP (idxS 4 t9 (AV.sc (.int .i64 t58))) fun v56 =>
opP (fldO 2 v56) fun v57 =>
opP (ldS (mget m) v57) fun v58 =>
ex_i64 v58 fun z59 =>
opP (idxS 4 t9 (AV.sc (.int .i64 t58))) fun v60 =>
opP (fldO 1 v60) fun v61 =>
opP (ldS (mget m) v61) fun v62 =>
ex_i64 v62 fun z63 =>
bif ((IntKind.wrap .i64 (z51 - z55)) != (IntKind.wrap .i64 (z59 - z63))) then (
retL R m [some (AV.sc (.bool false))]) else (
opP (idxS 4 t11 (AV.sc (.int .i64 t58))) fun v64 =>
opP (fldO 3 v64) fun v65 =>
opP (ldS (mget m) v65) fun v66 =>
ex_i64 v66 fun z67 =>
opP (idxS 4 t11 (AV.sc (.int .i64 t58))) fun v68 =>
opP (fldO 2 v68) fun v69 =>
opP (ldS (mget m) v69) fun v70 =>
ex_i64 v70 fun z71 =>
bif (decide (z67 < z71)) then (
retL R m [some (AV.sc (.bool false))]) else (
opP (idxS 4 t11 (AV.sc (.int .i64 t58))) fun v72 =>
opP (fldO 3 v72) fun v73 =>
opP (ldS (mget m) v73) fun v74 =>
ex_i64 v74 fun z75 =>
opP (idxS 4 t11 (AV.sc (.int .i64 t58))) fun v76 =>
opP (fldO 2 v76) fun v77 =>
opP (ldS (mget m) v77) fun v78 =>
ex_i64 v78 fun z79 =>
opP (opA Try.prog (.call ⟨.builtin .max, #[.tmp 0, .tmp 1], #[3, 3]⟩) 3 [(AV.sc (.int .i64 t3)), (AV.sc (.int .i64 (0)))] (mget m) 100091) fun v80 =>
ex_i64 v80 fun z81 =>
bif (decide ((IntKind.wrap .i64 (z75 - z79)) > z81)) then (
retL R m [some (AV.sc (.bool false))]) else (
bif (decide (t58 > (0))) then (
opP (idxS 4 t9 (AV.sc (.int .i64 t58))) fun v82 =>
opP (fldO 3 v82) fun v83 =>
opP (ldS (mget m) v83) fun v84 =>
ex_i64 v84 fun z85 =>
opP (idxS 4 t9 (AV.sc (.int .i64 (IntKind.wrap .i64 (t58 - (1)))))) fun v86 =>
opP (fldO 3 v86) fun v87 =>
opP (ldS (mget m) v87) fun v88 =>
ex_i64 v88 fun z89 =>
bif (decide ((IntKind.wrap .i64 (z85 - z89)) < t2)) then (
retL R m [some (AV.sc (.bool false))]) else (
N0 ⟨[(2, (AV.sc (.int .i64 t2))), (3, (AV.sc (.int .i64 t3))), (8, (AV.sc (.bool t8))), (9, t9), (11, t11), (57, (AV.sc (.int .i64 t57))), (58, (AV.sc (.int .i64 (IntKind.wrap .i64 (t58 + (1)))))), (59, (AV.sc (.bool (decide (t58 < t57))))), (60, (AV.sc (.int .i64 t58))), (13, (AV.sc (.int .i64 t58))), (61, t9), (62, (AV.sc (.int .i64 t58))), (63, v24), (64, v25), (65, (AV.sc (.string s27))), (66, t11), (67, (AV.sc (.int .i64 t58))), (68, v28), (69, v29), (70, (AV.sc (.string s31))), (71, (AV.sc (.bool (!((s27).toList == (s31).toList))))), (72, (AV.sc (.bool false))), (73, t9), (74, (AV.sc (.int .i64 t58))), (75, v32), (76, v33), (77, (AV.sc (.int .i64 z35))), (78, t11), (79, (AV.sc (.int .i64 t58))), (80, v36), (81, v37), (82, (AV.sc (.int .i64 z39))), (83, (AV.sc (.bool (z35 != z39)))), (84, (AV.sc (.bool (z35 != z39)))), (85, (AV.sc (.bool false))), (86, t11), (87, (AV.sc (.int .i64 t58))), (88, v40), (89, v41), (90, (AV.sc (.int .i64 z43))), (91, t9), (92, (AV.sc (.int .i64 t58))), (93, v44), (94, v45), (95, (AV.sc (.int .i64 z47))), (96, (AV.sc (.bool (decide (z43 < z47))))), (97, (AV.sc (.bool (decide (z43 < z47))))), (98, (AV.sc (.bool false))), (99, t11), (100, (AV.sc (.int .i64 t58))), (101, v48), (102, v49), (103, (AV.sc (.int .i64 z51))), (104, t11), (105, (AV.sc (.int .i64 t58))), (106, v52), (107, v53), (108, (AV.sc (.int .i64 z55))), (109, (AV.sc (.int .i64 (IntKind.wrap .i64 (z51 - z55))))), (110, t9), (111, (AV.sc (.int .i64 t58))), (112, v56), (113, v57), (114, (AV.sc (.int .i64 z59))), (115, t9), (116, (AV.sc (.int .i64 t58))), (117, v60), (118, v61), (119, (AV.sc (.int .i64 z63))), (120, (AV.sc (.int .i64 (IntKind.wrap .i64 (z59 - z63))))), (121, (AV.sc (.bool ((IntKind.wrap .i64 (z51 - z55)) != (IntKind.wrap .i64 (z59 - z63)))))), (122, (AV.sc (.bool ((IntKind.wrap .i64 (z51 - z55)) != (IntKind.wrap .i64 (z59 - z63)))))), (123, (AV.sc (.bool false))), (124, t11), (125, (AV.sc (.int .i64 t58))), (126, v64), (127, v65), (128, (AV.sc (.int .i64 z67))), (129, t11), (130, (AV.sc (.int .i64 t58))), (131, v68), (132, v69), (133, (AV.sc (.int .i64 z71))), (134, (AV.sc (.bool (decide (z67 < z71))))), (135, (AV.sc (.bool (decide (z67 < z71))))), (136, (AV.sc (.bool false))), (137, t11), (138, (AV.sc (.int .i64 t58))), (139, v72), (140, v73), (141, (AV.sc (.int .i64 z75))), (142, t11), (143, (AV.sc (.int .i64 t58))), (144, v76), (145, v77), (146, (AV.sc (.int .i64 z79))), (147, (AV.sc (.int .i64 (IntKind.wrap .i64 (z75 - z79))))), (148, (AV.sc (.int .i64 t3))), (149, (AV.sc (.int .i64 z81))), (150, (AV.sc (.bool (decide ((IntKind.wrap .i64 (z75 - z79)) > z81))))), (151, (AV.sc (.bool (decide ((IntKind.wrap .i64 (z75 - z79)) > z81))))), (152, (AV.sc (.int .i64 t58))), (153, (AV.sc (.bool (decide (t58 > (0)))))), (154, (AV.sc (.bool true))), (155, t9), (156, (AV.sc (.int .i64 t58))), (157, v82), (158, v83), (159, (AV.sc (.int .i64 z85))), (160, t9), (161, (AV.sc (.int .i64 t58))), (162, (AV.sc (.int .i64 (IntKind.wrap .i64 (t58 - (1)))))), (163, v86), (164, v87), (165, (AV.sc (.int .i64 z89))), (166, (AV.sc (.int .i64 (IntKind.wrap .i64 (z85 - z89))))), (167, (AV.sc (.int .i64 t2))), (168, (AV.sc (.bool (decide ((IntKind.wrap .i64 (z85 - z89)) < t2))))), (169, (AV.sc (.bool (decide ((IntKind.wrap .i64 (z85 - z89)) < t2))))), (170, (AV.sc (.int .i64 (IntKind.wrap .i64 (t58 + (1))))))], m, 100114⟩)) else (
N0 ⟨[(2, (AV.sc (.int .i64 t2))), (3, (AV.sc (.int .i64 t3))), (8, (AV.sc (.bool t8))), (9, t9), (11, t11), (57, (AV.sc (.int .i64 t57))), (58, (AV.sc (.int .i64 (IntKind.wrap .i64 (t58 + (1)))))), (59, (AV.sc (.bool (decide (t58 < t57))))), (60, (AV.sc (.int .i64 t58))), (13, (AV.sc (.int .i64 t58))), (61, t9), (62, (AV.sc (.int .i64 t58))), (63, v24), (64, v25), (65, (AV.sc (.string s27))), (66, t11), (67, (AV.sc (.int .i64 t58))), (68, v28), (69, v29), (70, (AV.sc (.string s31))), (71, (AV.sc (.bool (!((s27).toList == (s31).toList))))), (72, (AV.sc (.bool false))), (73, t9), (74, (AV.sc (.int .i64 t58))), (75, v32), (76, v33), (77, (AV.sc (.int .i64 z35))), (78, t11), (79, (AV.sc (.int .i64 t58))), (80, v36), (81, v37), (82, (AV.sc (.int .i64 z39))), (83, (AV.sc (.bool (z35 != z39)))), (84, (AV.sc (.bool (z35 != z39)))), (85, (AV.sc (.bool false))), (86, t11), (87, (AV.sc (.int .i64 t58))), (88, v40), (89, v41), (90, (AV.sc (.int .i64 z43))), (91, t9), (92, (AV.sc (.int .i64 t58))), (93, v44), (94, v45), (95, (AV.sc (.int .i64 z47))), (96, (AV.sc (.bool (decide (z43 < z47))))), (97, (AV.sc (.bool (decide (z43 < z47))))), (98, (AV.sc (.bool false))), (99, t11), (100, (AV.sc (.int .i64 t58))), (101, v48), (102, v49), (103, (AV.sc (.int .i64 z51))), (104, t11), (105, (AV.sc (.int .i64 t58))), (106, v52), (107, v53), (108, (AV.sc (.int .i64 z55))), (109, (AV.sc (.int .i64 (IntKind.wrap .i64 (z51 - z55))))), (110, t9), (111, (AV.sc (.int .i64 t58))), (112, v56), (113, v57), (114, (AV.sc (.int .i64 z59))), (115, t9), (116, (AV.sc (.int .i64 t58))), (117, v60), (118, v61), (119, (AV.sc (.int .i64 z63))), (120, (AV.sc (.int .i64 (IntKind.wrap .i64 (z59 - z63))))), (121, (AV.sc (.bool ((IntKind.wrap .i64 (z51 - z55)) != (IntKind.wrap .i64 (z59 - z63)))))), (122, (AV.sc (.bool ((IntKind.wrap .i64 (z51 - z55)) != (IntKind.wrap .i64 (z59 - z63)))))), (123, (AV.sc (.bool false))), (124, t11), (125, (AV.sc (.int .i64 t58))), (126, v64), (127, v65), (128, (AV.sc (.int .i64 z67))), (129, t11), (130, (AV.sc (.int .i64 t58))), (131, v68), (132, v69), (133, (AV.sc (.int .i64 z71))), (134, (AV.sc (.bool (decide (z67 < z71))))), (135, (AV.sc (.bool (decide (z67 < z71))))), (136, (AV.sc (.bool false))), (137, t11), (138, (AV.sc (.int .i64 t58))), (139, v72), (140, v73), (141, (AV.sc (.int .i64 z75))), (142, t11), (143, (AV.sc (.int .i64 t58))), (144, v76), (145, v77), (146, (AV.sc (.int .i64 z79))), (147, (AV.sc (.int .i64 (IntKind.wrap .i64 (z75 - z79))))), (148, (AV.sc (.int .i64 t3))), (149, (AV.sc (.int .i64 z81))), (150, (AV.sc (.bool (decide ((IntKind.wrap .i64 (z75 - z79)) > z81))))), (151, (AV.sc (.bool (decide ((IntKind.wrap .i64 (z75 - z79)) > z81))))), (152, (AV.sc (.int .i64 t58))), (153, (AV.sc (.bool (decide (t58 > (0)))))), (154, (AV.sc (.bool false))), (155, (AV.tup [])), (156, (AV.tup [])), (157, (AV.tup [])), (158, (AV.tup [])), (159, (AV.tup [])), (160, (AV.tup [])), (161, (AV.tup [])), (162, (AV.tup [])), (163, (AV.tup [])), (164, (AV.tup [])), (165, (AV.tup [])), (166, (AV.tup [])), (167, (AV.tup [])), (168, (AV.tup [])), (169, (AV.sc (.bool false))), (170, (AV.sc (.int .i64 (IntKind.wrap .i64 (t58 + (1))))))], m, 100114⟩)))))))) else (
callQ Try.prog KK.gl m 8 [t9] fun v90 =>
exT2 v90 fun c91 c92 =>
ex_i64 c91 fun z93 =>
ex_i64 c92 fun z94 =>
callQ Try.prog KK.gl m 8 [t11] fun v95 =>
exT2 v95 fun c96 c97 =>
ex_i64 c96 fun z98 =>
ex_i64 c97 fun z99 =>
retL R m [some (AV.sc (.bool (decide (z98 ≤ z93))))])
theorem B3_0_eq (t2 : Int) (t3 : Int) (t8 : Bool) (t9 : AV) (t11 : AV) (t57 : Int) (t58 : Int) (m : Mem) (R : AV → Mem → Prop) (N0 : St → Prop) : W Try.prog KK 184 0 c3_0 (h3_0 t2 t3 t8 t9 t11 t57 t58 m) (qq3_0 R N0) = B3_0 t2 t3 t8 t9 t11 t57 t58 m R N0 := by kernel_rfl
theorem L3_0 (R : AV → Mem → Prop) {σ : Type} (I : σ → Prop) (t2 : σ → Int) (t3 : σ → Int) (t8 : σ → Bool) (t9 : σ → AV) (t11 : σ → AV) (t57 : σ → Int) (t58 : σ → Int) (m : σ → Mem) (μ : σ → Nat) (step : ∀ x, I x → B3_0 (t2 x) (t3 x) (t8 x) (t9 x) (t11 x) (t57 x) (t58 x) (m x) R (fun s' => ∃ y, I y ∧ μ y < μ x ∧ Weak KK 184 0 s' (h3_0 (t2 y) (t3 y) (t8 y) (t9 y) (t11 y) (t57 y) (t58 y) (m y)))) (x : σ) (hx : I x) {s : St} (hw : Weak KK 184 0 s (h3_0 (t2 x) (t3 x) (t8 x) (t9 x) (t11 x) (t57 x) (t58 x) (m x))) : Tri Try.prog KK 184 0 (.loop c3_0) s (q3_0 R) :=
  Tri.weak hw (Tri.loops fol I (fun x => h3_0 (t2 x) (t3 x) (t8 x) (t9 x) (t11 x) (t57 x) (t58 x) (m x)) μ (fun x hx => (B3_0_eq (t2 x) (t3 x) (t8 x) (t9 x) (t11 x) (t57 x) (t58 x) (m x) R _).mpr (step x hx)) x hx)
noncomputable def F3 (a0 : AV) (a1 : AV) (a2 : Int) (a3 : Int) (R : AV → Mem → Prop) : Prop :=
callQ Try.prog KK.gl [] 5 [] fun v0 =>
exB v0 fun b1 =>
bif (!b1) then (
retL R [] [some (AV.sc (.bool false))]) else (
callW Try.prog KK.gl [] 69 6 [a0, a1, (AV.sc (.int .i64 a2))] fun v2 m2 =>
exT2 v2 fun c3 c4 =>
ex_i64 c4 fun z5 =>
callW Try.prog KK.gl m2 142 7 [a0, a1, (AV.sc (.int .i64 a2)), (AV.sc (.int .i64 a3))] fun v6 m6 =>
exT2 v6 fun c7 c8 =>
ex_i64 c8 fun z9 =>
bif (z5 != (0)) then (
opP (lenS c7) fun v10 =>
ex_i64 v10 fun z11 =>
retL R m6 [some (AV.sc (.bool (z11 == (0))))]) else (
bif (z9 != (0)) then (
opP (lenS c7) fun v12 =>
ex_i64 v12 fun z13 =>
retL R m6 [some (AV.sc (.bool (z13 == (0))))]) else (
opP (lenS c3) fun v14 =>
ex_i64 v14 fun z15 =>
opP (lenS c7) fun v16 =>
ex_i64 v16 fun z17 =>
bif (z15 != z17) then (
retL R m6 [some (AV.sc (.bool false))]) else (
opP (lenS c3) fun v18 =>
ex_i64 v18 fun z19 =>
opP (lenS a1) fun v20 =>
ex_i64 v20 fun z21 =>
bif (z19 != z21) then (
retL R m6 [some (AV.sc (.bool false))]) else (
opP (lenS c3) fun v22 =>
ex_i64 v22 fun z23 =>
Tri Try.prog KK 184 0 (.loop c3_0) ⟨[(0, a0), (1, a1), (2, (AV.sc (.int .i64 a2))), (3, (AV.sc (.int .i64 a3))), (8, (AV.sc (.bool false))), (18, (AV.sc (.bool b1))), (19, (AV.sc (.bool (!b1)))), (21, a0), (22, a1), (23, (AV.sc (.int .i64 a2))), (24, (AV.tup [c3, (AV.sc (.int .i64 z5))])), (20, (AV.tup [c3, (AV.sc (.int .i64 z5))])), (25, c3), (26, (AV.sc (.int .i64 z5))), (9, c3), (10, (AV.sc (.int .i64 z5))), (28, a0), (29, a1), (30, (AV.sc (.int .i64 a2))), (31, (AV.sc (.int .i64 a3))), (32, (AV.tup [c7, (AV.sc (.int .i64 z9))])), (27, (AV.tup [c7, (AV.sc (.int .i64 z9))])), (33, c7), (34, (AV.sc (.int .i64 z9))), (11, c7), (12, (AV.sc (.int .i64 z9))), (35, (AV.sc (.int .i64 z5))), (36, (AV.sc (.bool (z5 != (0))))), (37, (AV.sc (.bool false))), (38, (AV.sc (.int .i64 z9))), (39, (AV.sc (.bool (z9 != (0))))), (40, (AV.sc (.bool (z9 != (0))))), (44, c3), (45, (AV.sc (.int .i64 z15))), (46, c7), (47, (AV.sc (.int .i64 z17))), (48, (AV.sc (.bool (z15 != z17)))), (49, (AV.sc (.bool false))), (50, c3), (51, (AV.sc (.int .i64 z19))), (52, a1), (53, (AV.sc (.int .i64 z21))), (54, (AV.sc (.bool (z19 != z21)))), (55, (AV.sc (.bool (z19 != z21)))), (56, c3), (57, (AV.sc (.int .i64 z23))), (58, (AV.sc (.int .i64 (0))))], m6, 232⟩ (q3_0 R))))))
theorem F3_own (a0 : AV) (a1 : AV) (a2 : Int) (a3 : Int) (R : AV → Mem → Prop) (h : F3 a0 a1 a2 a3 R) : Own Try.prog KK.gl 3 [a0, a1, (AV.sc (.int .i64 a2)), (AV.sc (.int .i64 a3))] R := own_of_F fol Try.func3 (code := c3) (by kernel_rfl) (by kernel_rfl) (by kernel_rfl) (X := F3 a0 a1 a2 a3 R) (by kernel_rfl) h
end Go.Proofs.Ytjgokfofjkbdoaa
