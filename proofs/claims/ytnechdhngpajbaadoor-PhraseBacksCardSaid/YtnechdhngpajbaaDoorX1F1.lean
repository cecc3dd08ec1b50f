/- Functions of the program as conditions on their answers; printed by wip/Gen.lean.txt. -/
import Derived.Test.YtnechdhngpajbaaDoorX1T
set_option linter.unusedVariables false
set_option maxRecDepth 100000
namespace Go.Proofs.YtnechdhngpajbaaDoor
/- skyway/skywaykeep3.climbed -/
noncomputable def c21 : Code := ((Tryd.f21).body).getD .skip
noncomputable def q21 (R : AV → Mem → Prop) : AExit → St → Prop := retQ Tryd.prog Tryd.f21 R
noncomputable def F21 (a0 : Int) (R : AV → Mem → Prop) : Prop :=
opP (bld [(AV.sc (.string ⟨#[]⟩)), (AV.sc (.int .i64 (0))), (AV.sc (.int .i64 (0))), (AV.sc (.string ⟨#[]⟩))] [(0, 1), (1, 1), (2, 1), (3, 1)] [(0, (AV.sc (.string ⟨#[65, 49]⟩))), (2, (AV.sc (.int .i64 a0)))]) fun v0 =>
storeW Tryd.prog (mget ((0, some ⟨[(AV.sc (.string ⟨#[]⟩)), (AV.sc (.int .i64 (0))), (AV.sc (.int .i64 (0))), (AV.sc (.string ⟨#[]⟩))], 24⟩) :: [])) 24 (AV.ptr 0 0) v0 fun v1 d1 =>
retL R (mpushs ((0, some ⟨[(AV.sc (.string ⟨#[]⟩)), (AV.sc (.int .i64 (0))), (AV.sc (.int .i64 (0))), (AV.sc (.string ⟨#[]⟩))], 24⟩) :: []) d1) [(aLoad Tryd.prog (mget (mpushs ((0, some ⟨[(AV.sc (.string ⟨#[]⟩)), (AV.sc (.int .i64 (0))), (AV.sc (.int .i64 (0))), (AV.sc (.string ⟨#[]⟩))], 24⟩) :: []) d1)) 24 (AV.ptr 0 0)).map (·.1)]
theorem F21_own (a0 : Int) (R : AV → Mem → Prop) (h : F21 a0 R) : Own Tryd.prog KK.gl 21 [(AV.sc (.int .i64 a0))] R := own_of_F fol Tryd.func21 (code := c21) (by kernel_rfl) (by kernel_rfl) (by kernel_rfl) (X := F21 a0 R) (by kernel_rfl) h
/- skyway/chart.Name -/
noncomputable def c43 : Code := ((Tryd.f43).body).getD .skip
noncomputable def q43 (R : AV → Mem → Prop) : AExit → St → Prop := retQ Tryd.prog Tryd.f43 R
noncomputable def c43_0 : Code := loopB c43 0
noncomputable def q43_0 (R : AV → Mem → Prop) : AExit → St → Prop := contW Tryd.prog KK 41 0 c43 0 (q43 R)
noncomputable def qq43_0 (R : AV → Mem → Prop) (N0 : St → Prop) : AExit → St → Prop := thenQ N0 (q43_0 R)
def h43_0 (t2 : Bool) (t14 : AV) (t15 : Int) (t16 : Int) (m : Mem) : St := ⟨[(2, (AV.sc (.bool t2))), (14, t14), (15, (AV.sc (.int .i64 t15))), (16, (AV.sc (.int .i64 t16)))], m, 100000⟩
noncomputable def B43_0 (t2 : Bool) (t14 : AV) (t15 : Int) (t16 : Int) (m : Mem) (R : AV → Mem → Prop) (N0 : St → Prop) : Prop :=
bif (decide (t16 < t15)) then (
opP (idxS 1 t14 (AV.sc (.int .i64 t16))) fun v7 =>
opP (ldS (mget m) v7) fun v8 =>
ex_u8 v8 fun z9 =>
bif (decide (z9 ≥ (65))) then (
bif (decide (z9 ≤ (90))) then (
N0 ⟨[(2, (AV.sc (.bool t2))), (14, t14), (15, (AV.sc (.int .i64 t15))), (16, (AV.sc (.int .i64 (IntKind.wrap .i64 (t16 + (1)))))), (17, (AV.sc (.bool (decide (t16 < t15))))), (18, (AV.sc (.int .i64 t16))), (19, v7), (20, (AV.sc (.int .u8 z9))), (3, (AV.sc (.int .i64 t16))), (4, (AV.sc (.int .u8 z9))), (21, (AV.sc (.int .u8 z9))), (22, (AV.sc (.bool (decide (z9 ≥ (65)))))), (23, (AV.sc (.bool true))), (24, (AV.sc (.int .u8 z9))), (25, (AV.sc (.bool (decide (z9 ≤ (90)))))), (26, (AV.sc (.bool (decide (z9 ≤ (90)))))), (27, (AV.sc (.bool true))), (28, (AV.tup [])), (29, (AV.tup [])), (30, (AV.tup [])), (31, (AV.tup [])), (32, (AV.tup [])), (33, (AV.tup [])), (34, (AV.tup [])), (35, (AV.tup [])), (36, (AV.tup [])), (37, (AV.tup [])), (38, (AV.sc (.bool true))), (39, (AV.sc (.bool false))), (40, (AV.sc (.int .i64 (IntKind.wrap .i64 (t16 + (1))))))], m, 100017⟩) else (
bif (decide (t16 > (0))) then (
bif (decide (z9 ≥ (48))) then (
bif (!(decide (z9 ≤ (57)))) then (
retL R m [some (AV.sc (.bool false))]) else (
N0 ⟨[(2, (AV.sc (.bool t2))), (14, t14), (15, (AV.sc (.int .i64 t15))), (16, (AV.sc (.int .i64 (IntKind.wrap .i64 (t16 + (1)))))), (17, (AV.sc (.bool (decide (t16 < t15))))), (18, (AV.sc (.int .i64 t16))), (19, v7), (20, (AV.sc (.int .u8 z9))), (3, (AV.sc (.int .i64 t16))), (4, (AV.sc (.int .u8 z9))), (21, (AV.sc (.int .u8 z9))), (22, (AV.sc (.bool (decide (z9 ≥ (65)))))), (23, (AV.sc (.bool true))), (24, (AV.sc (.int .u8 z9))), (25, (AV.sc (.bool (decide (z9 ≤ (90)))))), (26, (AV.sc (.bool (decide (z9 ≤ (90)))))), (27, (AV.sc (.bool false))), (28, (AV.sc (.int .i64 t16))), (29, (AV.sc (.bool (decide (t16 > (0)))))), (30, (AV.sc (.bool true))), (31, (AV.sc (.int .u8 z9))), (32, (AV.sc (.bool (decide (z9 ≥ (48)))))), (33, (AV.sc (.bool (decide (z9 ≥ (48)))))), (34, (AV.sc (.bool true))), (35, (AV.sc (.int .u8 z9))), (36, (AV.sc (.bool (decide (z9 ≤ (57)))))), (37, (AV.sc (.bool (decide (z9 ≤ (57)))))), (38, (AV.sc (.bool (decide (z9 ≤ (57)))))), (39, (AV.sc (.bool (!(decide (z9 ≤ (57))))))), (40, (AV.sc (.int .i64 (IntKind.wrap .i64 (t16 + (1))))))], m, 100027⟩)) else (
retL R m [some (AV.sc (.bool false))])) else (
retL R m [some (AV.sc (.bool false))]))) else (
bif (decide (t16 > (0))) then (
bif (decide (z9 ≥ (48))) then (
bif (!(decide (z9 ≤ (57)))) then (
retL R m [some (AV.sc (.bool false))]) else (
N0 ⟨[(2, (AV.sc (.bool t2))), (14, t14), (15, (AV.sc (.int .i64 t15))), (16, (AV.sc (.int .i64 (IntKind.wrap .i64 (t16 + (1)))))), (17, (AV.sc (.bool (decide (t16 < t15))))), (18, (AV.sc (.int .i64 t16))), (19, v7), (20, (AV.sc (.int .u8 z9))), (3, (AV.sc (.int .i64 t16))), (4, (AV.sc (.int .u8 z9))), (21, (AV.sc (.int .u8 z9))), (22, (AV.sc (.bool (decide (z9 ≥ (65)))))), (23, (AV.sc (.bool false))), (24, (AV.tup [])), (25, (AV.tup [])), (26, (AV.sc (.bool false))), (27, (AV.sc (.bool false))), (28, (AV.sc (.int .i64 t16))), (29, (AV.sc (.bool (decide (t16 > (0)))))), (30, (AV.sc (.bool true))), (31, (AV.sc (.int .u8 z9))), (32, (AV.sc (.bool (decide (z9 ≥ (48)))))), (33, (AV.sc (.bool (decide (z9 ≥ (48)))))), (34, (AV.sc (.bool true))), (35, (AV.sc (.int .u8 z9))), (36, (AV.sc (.bool (decide (z9 ≤ (57)))))), (37, (AV.sc (.bool (decide (z9 ≤ (57)))))), (38, (AV.sc (.bool (decide (z9 ≤ (57)))))), (39, (AV.sc (.bool (!(decide (z9 ≤ (57))))))), (40, (AV.sc (.int .i64 (IntKind.wrap .i64 (t16 + (1))))))], m, 100025⟩)) else (
retL R m [some (AV.sc (.bool false))])) else (
retL R m [some (AV.sc (.bool false))]))) else (
retL R m [some (AV.sc (.bool true))])
theorem B43_0_eq (t2 : Bool) (t14 : AV) (t15 : Int) (t16 : Int) (m : Mem) (R : AV → Mem → Prop) (N0 : St → Prop) : W Tryd.prog KK 41 0 c43_0 (h43_0 t2 t14 t15 t16 m) (qq43_0 R N0) = B43_0 t2 t14 t15 t16 m R N0 := by kernel_rfl
theorem L43_0 (R : AV → Mem → Prop) {σ : Type} (I : σ → Prop) (t2 : σ → Bool) (t14 : σ → AV) (t15 : σ → Int) (t16 : σ → Int) (m : σ → Mem) (μ : σ → Nat) (step : ∀ x, I x → B43_0 (t2 x) (t14 x) (t15 x) (t16 x) (m x) R (fun s' => ∃ y, I y ∧ μ y < μ x ∧ Weak KK 41 0 s' (h43_0 (t2 y) (t14 y) (t15 y) (t16 y) (m y)))) (x : σ) (hx : I x) {s : St} (hw : Weak KK 41 0 s (h43_0 (t2 x) (t14 x) (t15 x) (t16 x) (m x))) : Tri Tryd.prog KK 41 0 (.loop c43_0) s (q43_0 R) :=
  Tri.weak hw (Tri.loops fol I (fun x => h43_0 (t2 x) (t14 x) (t15 x) (t16 x) (m x)) μ (fun x hx => (B43_0_eq (t2 x) (t14 x) (t15 x) (t16 x) (m x) R _).mpr (step x hx)) x hx)
noncomputable def F43 (a0 : ByteArray) (R : AV → Mem → Prop) : Prop :=
opP (opA Tryd.prog (.call ⟨.builtin .len, #[.tmp 0], #[9]⟩) 3 [(AV.sc (.string a0))] (mget []) 2) fun v0 =>
ex_i64 v0 fun z1 =>
bif (decide (z1 < (1))) then (
retL R [] [some (AV.sc (.bool false))]) else (
opP (opA Tryd.prog (.call ⟨.builtin .len, #[.tmp 0], #[9]⟩) 3 [(AV.sc (.string a0))] (mget []) 6) fun v2 =>
ex_i64 v2 fun z3 =>
bif (decide (z3 > (8))) then (
retL R [] [some (AV.sc (.bool false))]) else (
opP (opA Tryd.prog (.convert 9 84 (.tmp 0)) 84 [(AV.sc (.string a0))] (mget []) 10) fun v4 =>
opP (lenS v4) fun v5 =>
ex_i64 v5 fun z6 =>
Tri Tryd.prog KK 41 0 (.loop c43_0) ⟨[(0, (AV.sc (.string a0))), (2, (AV.sc (.bool false))), (5, (AV.sc (.string a0))), (6, (AV.sc (.int .i64 z1))), (7, (AV.sc (.bool (decide (z1 < (1)))))), (8, (AV.sc (.bool false))), (9, (AV.sc (.string a0))), (10, (AV.sc (.int .i64 z3))), (11, (AV.sc (.bool (decide (z3 > (8)))))), (12, (AV.sc (.bool (decide (z3 > (8)))))), (13, (AV.sc (.string a0))), (14, v4), (15, (AV.sc (.int .i64 z6))), (16, (AV.sc (.int .i64 (0))))], [], 13⟩ (q43_0 R)))
theorem F43_own (a0 : ByteArray) (R : AV → Mem → Prop) (h : F43 a0 R) : Own Tryd.prog KK.gl 43 [(AV.sc (.string a0))] R := own_of_F fol Tryd.func43 (code := c43) (by kernel_rfl) (by kernel_rfl) (by kernel_rfl) (X := F43 a0 R) (by kernel_rfl) h
/- slices.Index[[]string,string] -/
noncomputable def c48 : Code := ((Tryd.f48).body).getD .skip
noncomputable def q48 (R : AV → Mem → Prop) : AExit → St → Prop := retQ Tryd.prog Tryd.f48 R
noncomputable def c48_0 : Code := loopB c48 0
noncomputable def q48_0 (R : AV → Mem → Prop) : AExit → St → Prop := contW Tryd.prog KK 19 0 c48 0 (q48 R)
noncomputable def qq48_0 (R : AV → Mem → Prop) (N0 : St → Prop) : AExit → St → Prop := thenQ N0 (q48_0 R)
def h48_0 (t0 : AV) (t1 : ByteArray) (t4 : Int) (t7 : Int) (t8 : Int) (m : Mem) : St := ⟨[(0, t0), (1, (AV.sc (.string t1))), (4, (AV.sc (.int .i64 t4))), (7, (AV.sc (.int .i64 t7))), (8, (AV.sc (.int .i64 t8)))], m, 100000⟩
noncomputable def B48_0 (t0 : AV) (t1 : ByteArray) (t4 : Int) (t7 : Int) (t8 : Int) (m : Mem) (R : AV → Mem → Prop) (N0 : St → Prop) : Prop :=
bif (decide (t8 < t7)) then (
opP (idxS 1 t0 (AV.sc (.int .i64 t8))) fun v2 =>
opP (ldS (mget m) v2) fun v3 =>
exStr v3 fun s4 =>
bif ((t1).toList == (s4).toList) then (
retL R m [some (AV.sc (.int .i64 t8))]) else (
N0 ⟨[(0, t0), (1, (AV.sc (.string t1))), (4, (AV.sc (.int .i64 t4))), (7, (AV.sc (.int .i64 t7))), (8, (AV.sc (.int .i64 (IntKind.wrap .i64 (t8 + (1)))))), (9, (AV.sc (.bool (decide (t8 < t7))))), (10, (AV.sc (.int .i64 t8))), (5, (AV.sc (.int .i64 t8))), (11, (AV.sc (.string t1))), (12, t0), (13, (AV.sc (.int .i64 t8))), (14, v2), (15, (AV.sc (.string s4))), (16, (AV.sc (.bool ((t1).toList == (s4).toList)))), (18, (AV.sc (.int .i64 (IntKind.wrap .i64 (t8 + (1))))))], m, 100011⟩)) else (
retL R m [some (AV.sc (.int .i64 (-1)))])
theorem B48_0_eq (t0 : AV) (t1 : ByteArray) (t4 : Int) (t7 : Int) (t8 : Int) (m : Mem) (R : AV → Mem → Prop) (N0 : St → Prop) : W Tryd.prog KK 19 0 c48_0 (h48_0 t0 t1 t4 t7 t8 m) (qq48_0 R N0) = B48_0 t0 t1 t4 t7 t8 m R N0 := by kernel_rfl
theorem L48_0 (R : AV → Mem → Prop) {σ : Type} (I : σ → Prop) (t0 : σ → AV) (t1 : σ → ByteArray) (t4 : σ → Int) (t7 : σ → Int) (t8 : σ → Int) (m : σ → Mem) (μ : σ → Nat) (step : ∀ x, I x → B48_0 (t0 x) (t1 x) (t4 x) (t7 x) (t8 x) (m x) R (fun s' => ∃ y, I y ∧ μ y < μ x ∧ Weak KK 19 0 s' (h48_0 (t0 y) (t1 y) (t4 y) (t7 y) (t8 y) (m y)))) (x : σ) (hx : I x) {s : St} (hw : Weak KK 19 0 s (h48_0 (t0 x) (t1 x) (t4 x) (t7 x) (t8 x) (m x))) : Tri Tryd.prog KK 19 0 (.loop c48_0) s (q48_0 R) :=
  Tri.weak hw (Tri.loops fol I (fun x => h48_0 (t0 x) (t1 x) (t4 x) (t7 x) (t8 x) (m x)) μ (fun x hx => (B48_0_eq (t0 x) (t1 x) (t4 x) (t7 x) (t8 x) (m x) R _).mpr (step x hx)) x hx)
noncomputable def F48 (a0 : AV) (a1 : ByteArray) (R : AV → Mem → Prop) : Prop :=
opP (lenS a0) fun v0 =>
ex_i64 v0 fun z1 =>
Tri Tryd.prog KK 19 0 (.loop c48_0) ⟨[(0, a0), (1, (AV.sc (.string a1))), (4, (AV.sc (.int .i64 (0)))), (6, a0), (7, (AV.sc (.int .i64 z1))), (8, (AV.sc (.int .i64 (0))))], [], 4⟩ (q48_0 R)
theorem F48_own (a0 : AV) (a1 : ByteArray) (R : AV → Mem → Prop) (h : F48 a0 a1 R) : Own Tryd.prog KK.gl 48 [a0, (AV.sc (.string a1))] R := own_of_F fol Tryd.func48 (code := c48) (by kernel_rfl) (by kernel_rfl) (by kernel_rfl) (X := F48 a0 a1 R) (by kernel_rfl) h
/- skyway/phrase.kind -/
noncomputable def c41 : Code := ((Tryd.f41).body).getD .skip
noncomputable def q41 (R : AV → Mem → Prop) : AExit → St → Prop := retQ Tryd.prog Tryd.f41 R
noncomputable def F41 (a0 : ByteArray) (R : AV → Mem → Prop) : Prop :=
opP (opA Tryd.prog (.slice 72 (.tmp 0) none none none) 63 [(gval 1)] (mget []) 1) fun v0 =>
callQ Tryd.prog KK.gl [] 48 [v0, (AV.sc (.string a0))] fun v1 =>
ex_i64 v1 fun z2 =>
retL R [] [some (AV.sc (.int .i64 z2))]
theorem F41_own (a0 : ByteArray) (R : AV → Mem → Prop) (h : F41 a0 R) : Own Tryd.prog KK.gl 41 [(AV.sc (.string a0))] R := own_of_F fol Tryd.func41 (code := c41) (by kernel_rfl) (by kernel_rfl) (by kernel_rfl) (X := F41 a0 R) (by kernel_rfl) h
/- skyway/phrase.name -/
noncomputable def c38 : Code := ((Tryd.f38).body).getD .skip
noncomputable def q38 (R : AV → Mem → Prop) : AExit → St → Prop := retQ Tryd.prog Tryd.f38 R
noncomputable def F38 (a0 : ByteArray) (R : AV → Mem → Prop) : Prop :=
callQ Tryd.prog KK.gl [] 43 [(AV.sc (.string a0))] fun v0 =>
exB v0 fun b1 =>
bif b1 then (
callQ Tryd.prog KK.gl [] 41 [(AV.sc (.string a0))] fun v2 =>
ex_i64 v2 fun z3 =>
retL R [] [some (AV.sc (.bool (decide (z3 < (0)))))]) else (
retL R [] [some (AV.sc (.bool false))])
theorem F38_own (a0 : ByteArray) (R : AV → Mem → Prop) (h : F38 a0 R) : Own Tryd.prog KK.gl 38 [(AV.sc (.string a0))] R := own_of_F fol Tryd.func38 (code := c38) (by kernel_rfl) (by kernel_rfl) (by kernel_rfl) (X := F38 a0 R) (by kernel_rfl) h
/- skyway/phrase.Check -/
noncomputable def c32 : Code := ((Tryd.f32).body).getD .skip
noncomputable def q32 (R : AV → Mem → Prop) : AExit → St → Prop := retQ Tryd.prog Tryd.f32 R
noncomputable def F32 (a0_0 : ByteArray) (a0_1 : Int) (a0_2 : Int) (a0_3 : ByteArray) (R : AV → Mem → Prop) : Prop :=
callQ Tryd.prog KK.gl ((0, some ⟨[(AV.sc (.string a0_0)), (AV.sc (.int .i64 a0_1)), (AV.sc (.int .i64 a0_2)), (AV.sc (.string a0_3))], 24⟩) :: []) 38 [(AV.sc (.string a0_0))] fun v0 =>
exB v0 fun b1 =>
bif (!b1) then (
retL R ((0, some ⟨[(AV.sc (.string a0_0)), (AV.sc (.int .i64 a0_1)), (AV.sc (.int .i64 a0_2)), (AV.sc (.string a0_3))], 24⟩) :: []) [some (AV.sc (.int .i64 (3)))]) else (
bif (decide (a0_1 < (0))) then (
retL R ((0, some ⟨[(AV.sc (.string a0_0)), (AV.sc (.int .i64 a0_1)), (AV.sc (.int .i64 a0_2)), (AV.sc (.string a0_3))], 24⟩) :: []) [some (AV.sc (.int .i64 (1)))]) else (
bif (decide (a0_1 > (6))) then (
retL R ((0, some ⟨[(AV.sc (.string a0_0)), (AV.sc (.int .i64 a0_1)), (AV.sc (.int .i64 a0_2)), (AV.sc (.string a0_3))], 24⟩) :: []) [some (AV.sc (.int .i64 (1)))]) else (
bif (decide (a0_1 > (2))) then (
bif (a0_2 != (0)) then (
retL R ((0, some ⟨[(AV.sc (.string a0_0)), (AV.sc (.int .i64 a0_1)), (AV.sc (.int .i64 a0_2)), (AV.sc (.string a0_3))], 24⟩) :: []) [some (AV.sc (.int .i64 (3)))]) else (
callQ Tryd.prog KK.gl ((0, some ⟨[(AV.sc (.string a0_0)), (AV.sc (.int .i64 a0_1)), (AV.sc (.int .i64 a0_2)), (AV.sc (.string a0_3))], 24⟩) :: []) 38 [(AV.sc (.string a0_3))] fun v2 =>
exB v2 fun b3 =>
bif (!b3) then (
retL R ((0, some ⟨[(AV.sc (.string a0_0)), (AV.sc (.int .i64 a0_1)), (AV.sc (.int .i64 a0_2)), (AV.sc (.string a0_3))], 24⟩) :: []) [some (AV.sc (.int .i64 (3)))]) else (
retL R ((0, some ⟨[(AV.sc (.string a0_0)), (AV.sc (.int .i64 a0_1)), (AV.sc (.int .i64 a0_2)), (AV.sc (.string a0_3))], 24⟩) :: []) [some (AV.sc (.int .i64 (0)))]))) else (
bif (!((a0_3).toList == ((⟨#[]⟩ : ByteArray)).toList)) then (
retL R ((0, some ⟨[(AV.sc (.string a0_0)), (AV.sc (.int .i64 a0_1)), (AV.sc (.int .i64 a0_2)), (AV.sc (.string a0_3))], 24⟩) :: []) [some (AV.sc (.int .i64 (3)))]) else (
bif (decide (a0_2 < (0))) then (
retL R ((0, some ⟨[(AV.sc (.string a0_0)), (AV.sc (.int .i64 a0_1)), (AV.sc (.int .i64 a0_2)), (AV.sc (.string a0_3))], 24⟩) :: []) [some (AV.sc (.int .i64 (4)))]) else (
opP (idxA 3 1 (gval 0) (AV.sc (.int .i64 a0_1))) fun v4 =>
opP (ldS (mget ((0, some ⟨[(AV.sc (.string a0_0)), (AV.sc (.int .i64 a0_1)), (AV.sc (.int .i64 a0_2)), (AV.sc (.string a0_3))], 24⟩) :: [])) v4) fun v5 =>
ex_i64 v5 fun z6 =>
bif (decide (a0_2 > z6)) then (
retL R ((0, some ⟨[(AV.sc (.string a0_0)), (AV.sc (.int .i64 a0_1)), (AV.sc (.int .i64 a0_2)), (AV.sc (.string a0_3))], 24⟩) :: []) [some (AV.sc (.int .i64 (4)))]) else (
retL R ((0, some ⟨[(AV.sc (.string a0_0)), (AV.sc (.int .i64 a0_1)), (AV.sc (.int .i64 a0_2)), (AV.sc (.string a0_3))], 24⟩) :: []) [some (AV.sc (.int .i64 (0)))])))))))
theorem F32_own (a0_0 : ByteArray) (a0_1 : Int) (a0_2 : Int) (a0_3 : ByteArray) (R : AV → Mem → Prop) (h : F32 a0_0 a0_1 a0_2 a0_3 R) : Own Tryd.prog KK.gl 32 [(AV.agg [(AV.sc (.string a0_0)), (AV.sc (.int .i64 a0_1)), (AV.sc (.int .i64 a0_2)), (AV.sc (.string a0_3))])] R := own_of_F fol Tryd.func32 (code := c32) (by kernel_rfl) (by kernel_rfl) (by kernel_rfl) (X := F32 a0_0 a0_1 a0_2 a0_3 R) (by kernel_rfl) h
/- skyway/phrase.what -/
noncomputable def c33 : Code := ((Tryd.f33).body).getD .skip
noncomputable def q33 (R : AV → Mem → Prop) : AExit → St → Prop := retQ Tryd.prog Tryd.f33 R
noncomputable def F33 (a0_0 : ByteArray) (a0_1 : Int) (a0_2 : Int) (a0_3 : ByteArray) (R : AV → Mem → Prop) : Prop :=
bif (decide (a0_1 > (2))) then (
opP (idxA 7 1 (gval 1) (AV.sc (.int .i64 a0_1))) fun v0 =>
opP (ldS (mget ((0, some ⟨[(AV.sc (.string a0_0)), (AV.sc (.int .i64 a0_1)), (AV.sc (.int .i64 a0_2)), (AV.sc (.string a0_3))], 24⟩) :: [])) v0) fun v1 =>
exStr v1 fun s2 =>
opP (opA Tryd.prog (.binOp .add 9 (.tmp 0) (.tmp 1) 9) 9 [(AV.sc (.string s2)), (AV.sc (.string ⟨#[32]⟩))] (mget ((0, some ⟨[(AV.sc (.string a0_0)), (AV.sc (.int .i64 a0_1)), (AV.sc (.int .i64 a0_2)), (AV.sc (.string a0_3))], 24⟩) :: [])) 9) fun v3 =>
exStr v3 fun s4 =>
opP (opA Tryd.prog (.binOp .add 9 (.tmp 0) (.tmp 1) 9) 9 [(AV.sc (.string s4)), (AV.sc (.string a0_3))] (mget ((0, some ⟨[(AV.sc (.string a0_0)), (AV.sc (.int .i64 a0_1)), (AV.sc (.int .i64 a0_2)), (AV.sc (.string a0_3))], 24⟩) :: [])) 12) fun v5 =>
exStr v5 fun s6 =>
retL R ((0, some ⟨[(AV.sc (.string a0_0)), (AV.sc (.int .i64 a0_1)), (AV.sc (.int .i64 a0_2)), (AV.sc (.string a0_3))], 24⟩) :: []) [some (AV.sc (.string s6))]) else (
opP (idxA 7 1 (gval 1) (AV.sc (.int .i64 a0_1))) fun v7 =>
opP (ldS (mget ((0, some ⟨[(AV.sc (.string a0_0)), (AV.sc (.int .i64 a0_1)), (AV.sc (.int .i64 a0_2)), (AV.sc (.string a0_3))], 24⟩) :: [])) v7) fun v8 =>
exStr v8 fun s9 =>
opP (opA Tryd.prog (.binOp .add 9 (.tmp 0) (.tmp 1) 9) 9 [(AV.sc (.string s9)), (AV.sc (.string ⟨#[32]⟩))] (mget ((0, some ⟨[(AV.sc (.string a0_0)), (AV.sc (.int .i64 a0_1)), (AV.sc (.int .i64 a0_2)), (AV.sc (.string a0_3))], 24⟩) :: [])) 9) fun v10 =>
exStr v10 fun s11 =>
callQ Tryd.prog KK.gl ((0, some ⟨[(AV.sc (.string a0_0)), (AV.sc (.int .i64 a0_1)), (AV.sc (.int .i64 a0_2)), (AV.sc (.string a0_3))], 24⟩) :: []) 39 [(AV.sc (.int .i64 a0_2))] fun v12 =>
exStr v12 fun s13 =>
opP (opA Tryd.prog (.binOp .add 9 (.tmp 0) (.tmp 1) 9) 9 [(AV.sc (.string s11)), (AV.sc (.string s13))] (mget ((0, some ⟨[(AV.sc (.string a0_0)), (AV.sc (.int .i64 a0_1)), (AV.sc (.int .i64 a0_2)), (AV.sc (.string a0_3))], 24⟩) :: [])) 13) fun v14 =>
exStr v14 fun s15 =>
retL R ((0, some ⟨[(AV.sc (.string a0_0)), (AV.sc (.int .i64 a0_1)), (AV.sc (.int .i64 a0_2)), (AV.sc (.string a0_3))], 24⟩) :: []) [some (AV.sc (.string s15))])
theorem F33_own (a0_0 : ByteArray) (a0_1 : Int) (a0_2 : Int) (a0_3 : ByteArray) (R : AV → Mem → Prop) (h : F33 a0_0 a0_1 a0_2 a0_3 R) : Own Tryd.prog KK.gl 33 [(AV.agg [(AV.sc (.string a0_0)), (AV.sc (.int .i64 a0_1)), (AV.sc (.int .i64 a0_2)), (AV.sc (.string a0_3))])] R := own_of_F fol Tryd.func33 (code := c33) (by kernel_rfl) (by kernel_rfl) (by kernel_rfl) (X := F33 a0_0 a0_1 a0_2 a0_3 R) (by kernel_rfl) h
/- skyway/phrase.Print -/
noncomputable def c17 : Code := ((Tryd.f17).body).getD .skip
noncomputable def q17 (R : AV → Mem → Prop) : AExit → St → Prop := retQ Tryd.prog Tryd.f17 R
noncomputable def F17 (a0_0 : ByteArray) (a0_1 : Int) (a0_2 : Int) (a0_3 : ByteArray) (R : AV → Mem → Prop) : Prop :=
callQ Tryd.prog KK.gl ((0, some ⟨[(AV.sc (.string a0_0)), (AV.sc (.int .i64 a0_1)), (AV.sc (.int .i64 a0_2)), (AV.sc (.string a0_3))], 24⟩) :: []) 32 [(AV.agg [(AV.sc (.string a0_0)), (AV.sc (.int .i64 a0_1)), (AV.sc (.int .i64 a0_2)), (AV.sc (.string a0_3))])] fun v0 =>
ex_i64 v0 fun z1 =>
bif (z1 != (0)) then (
retL R ((0, some ⟨[(AV.sc (.string a0_0)), (AV.sc (.int .i64 a0_1)), (AV.sc (.int .i64 a0_2)), (AV.sc (.string a0_3))], 24⟩) :: []) [some (AV.sc (.string ⟨#[]⟩)), some (AV.sc (.int .i64 z1))]) else (
opP (opA Tryd.prog (.binOp .add 9 (.tmp 0) (.tmp 1) 9) 9 [(AV.sc (.string a0_0)), (AV.sc (.string ⟨#[32]⟩))] (mget ((0, some ⟨[(AV.sc (.string a0_0)), (AV.sc (.int .i64 a0_1)), (AV.sc (.int .i64 a0_2)), (AV.sc (.string a0_3))], 24⟩) :: [])) 73) fun v2 =>
exStr v2 fun s3 =>
callQ Tryd.prog KK.gl ((0, some ⟨[(AV.sc (.string a0_0)), (AV.sc (.int .i64 a0_1)), (AV.sc (.int .i64 a0_2)), (AV.sc (.string a0_3))], 24⟩) :: []) 33 [(AV.agg [(AV.sc (.string a0_0)), (AV.sc (.int .i64 a0_1)), (AV.sc (.int .i64 a0_2)), (AV.sc (.string a0_3))])] fun v4 =>
exStr v4 fun s5 =>
opP (opA Tryd.prog (.binOp .add 9 (.tmp 0) (.tmp 1) 9) 9 [(AV.sc (.string s3)), (AV.sc (.string s5))] (mget ((0, some ⟨[(AV.sc (.string a0_0)), (AV.sc (.int .i64 a0_1)), (AV.sc (.int .i64 a0_2)), (AV.sc (.string a0_3))], 24⟩) :: [])) 76) fun v6 =>
exStr v6 fun s7 =>
retL R ((0, some ⟨[(AV.sc (.string a0_0)), (AV.sc (.int .i64 a0_1)), (AV.sc (.int .i64 a0_2)), (AV.sc (.string a0_3))], 24⟩) :: []) [some (AV.sc (.string s7)), some (AV.sc (.int .i64 (0)))])
theorem F17_own (a0_0 : ByteArray) (a0_1 : Int) (a0_2 : Int) (a0_3 : ByteArray) (R : AV → Mem → Prop) (h : F17 a0_0 a0_1 a0_2 a0_3 R) : Own Tryd.prog KK.gl 17 [(AV.agg [(AV.sc (.string a0_0)), (AV.sc (.int .i64 a0_1)), (AV.sc (.int .i64 a0_2)), (AV.sc (.string a0_3))])] R := own_of_F fol Tryd.func17 (code := c17) (by kernel_rfl) (by kernel_rfl) (by kernel_rfl) (X := F17 a0_0 a0_1 a0_2 a0_3 R) (by kernel_rfl) h
/- skyway/phrase.Back -/
noncomputable def c18 : Code := ((Tryd.f18).body).getD .skip
noncomputable def q18 (R : AV → Mem → Prop) : AExit → St → Prop := retQ Tryd.prog Tryd.f18 R
noncomputable def F18 (a0_0 : ByteArray) (a0_1 : Int) (a0_2 : Int) (a0_3 : ByteArray) (R : AV → Mem → Prop) : Prop :=
callQ Tryd.prog KK.gl ((0, some ⟨[(AV.sc (.string a0_0)), (AV.sc (.int .i64 a0_1)), (AV.sc (.int .i64 a0_2)), (AV.sc (.string a0_3))], 24⟩) :: []) 32 [(AV.agg [(AV.sc (.string a0_0)), (AV.sc (.int .i64 a0_1)), (AV.sc (.int .i64 a0_2)), (AV.sc (.string a0_3))])] fun v0 =>
ex_i64 v0 fun z1 =>
bif (z1 != (0)) then (
retL R ((0, some ⟨[(AV.sc (.string a0_0)), (AV.sc (.int .i64 a0_1)), (AV.sc (.int .i64 a0_2)), (AV.sc (.string a0_3))], 24⟩) :: []) [some (AV.sc (.string ⟨#[]⟩)), some (AV.sc (.int .i64 z1))]) else (
callQ Tryd.prog KK.gl ((0, some ⟨[(AV.sc (.string a0_0)), (AV.sc (.int .i64 a0_1)), (AV.sc (.int .i64 a0_2)), (AV.sc (.string a0_3))], 24⟩) :: []) 33 [(AV.agg [(AV.sc (.string a0_0)), (AV.sc (.int .i64 a0_1)), (AV.sc (.int .i64 a0_2)), (AV.sc (.string a0_3))])] fun v2 =>
exStr v2 fun s3 =>
opP (opA Tryd.prog (.binOp .add 9 (.tmp 0) (.tmp 1) 9) 9 [(AV.sc (.string s3)), (AV.sc (.string ⟨#[32]⟩))] (mget ((0, some ⟨[(AV.sc (.string a0_0)), (AV.sc (.int .i64 a0_1)), (AV.sc (.int .i64 a0_2)), (AV.sc (.string a0_3))], 24⟩) :: [])) 73) fun v4 =>
exStr v4 fun s5 =>
opP (opA Tryd.prog (.binOp .add 9 (.tmp 0) (.tmp 1) 9) 9 [(AV.sc (.string s5)), (AV.sc (.string a0_0))] (mget ((0, some ⟨[(AV.sc (.string a0_0)), (AV.sc (.int .i64 a0_1)), (AV.sc (.int .i64 a0_2)), (AV.sc (.string a0_3))], 24⟩) :: [])) 76) fun v6 =>
exStr v6 fun s7 =>
retL R ((0, some ⟨[(AV.sc (.string a0_0)), (AV.sc (.int .i64 a0_1)), (AV.sc (.int .i64 a0_2)), (AV.sc (.string a0_3))], 24⟩) :: []) [some (AV.sc (.string s7)), some (AV.sc (.int .i64 (0)))])
theorem F18_own (a0_0 : ByteArray) (a0_1 : Int) (a0_2 : Int) (a0_3 : ByteArray) (R : AV → Mem → Prop) (h : F18 a0_0 a0_1 a0_2 a0_3 R) : Own Tryd.prog KK.gl 18 [(AV.agg [(AV.sc (.string a0_0)), (AV.sc (.int .i64 a0_1)), (AV.sc (.int .i64 a0_2)), (AV.sc (.string a0_3))])] R := own_of_F fol Tryd.func18 (code := c18) (by kernel_rfl) (by kernel_rfl) (by kernel_rfl) (X := F18 a0_0 a0_1 a0_2 a0_3 R) (by kernel_rfl) h
/- skyway/phrase.read -/
noncomputable def c35 : Code := ((Tryd.f35).body).getD .skip
noncomputable def q35 (R : AV → Mem → Prop) : AExit → St → Prop := retQ Tryd.prog Tryd.f35 R
noncomputable def F35 (a0 : ByteArray) (a1 : ByteArray) (a2 : ByteArray) (R : AV → Mem → Prop) : Prop :=
callQ Tryd.prog KK.gl ((0, some ⟨[(AV.sc (.string ⟨#[]⟩)), (AV.sc (.int .i64 (0))), (AV.sc (.int .i64 (0))), (AV.sc (.string ⟨#[]⟩))], 24⟩) :: []) 41 [(AV.sc (.string a1))] fun v0 =>
ex_i64 v0 fun z1 =>
opP (bld [(AV.sc (.string ⟨#[]⟩)), (AV.sc (.int .i64 (0))), (AV.sc (.int .i64 (0))), (AV.sc (.string ⟨#[]⟩))] [(0, 1), (1, 1), (2, 1), (3, 1)] [(0, (AV.sc (.string a0))), (1, (AV.sc (.int .i64 z1)))]) fun v2 =>
storeW Tryd.prog (mget ((69, some ⟨[(AV.sc (.string ⟨#[]⟩)), (AV.sc (.int .i64 (0))), (AV.sc (.int .i64 (0))), (AV.sc (.string ⟨#[]⟩))], 24⟩) :: (0, some ⟨[(AV.sc (.string ⟨#[]⟩)), (AV.sc (.int .i64 (0))), (AV.sc (.int .i64 (0))), (AV.sc (.string ⟨#[]⟩))], 24⟩) :: [])) 24 (AV.ptr 69 0) v2 fun v3 d3 =>
opP (ldS (mget (mpushs ((69, some ⟨[(AV.sc (.string ⟨#[]⟩)), (AV.sc (.int .i64 (0))), (AV.sc (.int .i64 (0))), (AV.sc (.string ⟨#[]⟩))], 24⟩) :: (0, some ⟨[(AV.sc (.string ⟨#[]⟩)), (AV.sc (.int .i64 (0))), (AV.sc (.int .i64 (0))), (AV.sc (.string ⟨#[]⟩))], 24⟩) :: []) d3)) (AV.ptr 69 1)) fun v4 =>
ex_i64 v4 fun z5 =>
bif (decide (z5 < (0))) then (
opP (ldA (mget (mpushs ((69, some ⟨[(AV.sc (.string ⟨#[]⟩)), (AV.sc (.int .i64 (0))), (AV.sc (.int .i64 (0))), (AV.sc (.string ⟨#[]⟩))], 24⟩) :: (0, some ⟨[(AV.sc (.string ⟨#[]⟩)), (AV.sc (.int .i64 (0))), (AV.sc (.int .i64 (0))), (AV.sc (.string ⟨#[]⟩))], 24⟩) :: []) d3)) 4 (AV.ptr 69 0)) fun v6 =>
exA4 v6 fun c7 c8 c9 c10 =>
exStr c7 fun s11 =>
ex_i64 c8 fun z12 =>
ex_i64 c9 fun z13 =>
exStr c10 fun s14 =>
storeW Tryd.prog (mget (mpushs ((69, some ⟨[(AV.sc (.string ⟨#[]⟩)), (AV.sc (.int .i64 (0))), (AV.sc (.int .i64 (0))), (AV.sc (.string ⟨#[]⟩))], 24⟩) :: (0, some ⟨[(AV.sc (.string ⟨#[]⟩)), (AV.sc (.int .i64 (0))), (AV.sc (.int .i64 (0))), (AV.sc (.string ⟨#[]⟩))], 24⟩) :: []) d3)) 24 (AV.ptr 0 0) (AV.agg [(AV.sc (.string s11)), (AV.sc (.int .i64 z12)), (AV.sc (.int .i64 z13)), (AV.sc (.string s14))]) fun v15 d15 =>
retL R (mpushs (mpushs ((69, some ⟨[(AV.sc (.string ⟨#[]⟩)), (AV.sc (.int .i64 (0))), (AV.sc (.int .i64 (0))), (AV.sc (.string ⟨#[]⟩))], 24⟩) :: (0, some ⟨[(AV.sc (.string ⟨#[]⟩)), (AV.sc (.int .i64 (0))), (AV.sc (.int .i64 (0))), (AV.sc (.string ⟨#[]⟩))], 24⟩) :: []) d3) d15) [(aLoad Tryd.prog (mget (mpushs (mpushs ((69, some ⟨[(AV.sc (.string ⟨#[]⟩)), (AV.sc (.int .i64 (0))), (AV.sc (.int .i64 (0))), (AV.sc (.string ⟨#[]⟩))], 24⟩) :: (0, some ⟨[(AV.sc (.string ⟨#[]⟩)), (AV.sc (.int .i64 (0))), (AV.sc (.int .i64 (0))), (AV.sc (.string ⟨#[]⟩))], 24⟩) :: []) d3) d15)) 24 (AV.ptr 0 0)).map (·.1), some (AV.sc (.bool false))]) else (
opP (ldS (mget (mpushs ((69, some ⟨[(AV.sc (.string ⟨#[]⟩)), (AV.sc (.int .i64 (0))), (AV.sc (.int .i64 (0))), (AV.sc (.string ⟨#[]⟩))], 24⟩) :: (0, some ⟨[(AV.sc (.string ⟨#[]⟩)), (AV.sc (.int .i64 (0))), (AV.sc (.int .i64 (0))), (AV.sc (.string ⟨#[]⟩))], 24⟩) :: []) d3)) (AV.ptr 69 1)) fun v16 =>
ex_i64 v16 fun z17 =>
bif (decide (z17 > (2))) then (
storeW Tryd.prog (mget (mpushs ((69, some ⟨[(AV.sc (.string ⟨#[]⟩)), (AV.sc (.int .i64 (0))), (AV.sc (.int .i64 (0))), (AV.sc (.string ⟨#[]⟩))], 24⟩) :: (0, some ⟨[(AV.sc (.string ⟨#[]⟩)), (AV.sc (.int .i64 (0))), (AV.sc (.int .i64 (0))), (AV.sc (.string ⟨#[]⟩))], 24⟩) :: []) d3)) 9 (AV.ptr 69 3) (AV.sc (.string a2)) fun v18 d18 =>
opP (ldA (mget (mpushs (mpushs ((69, some ⟨[(AV.sc (.string ⟨#[]⟩)), (AV.sc (.int .i64 (0))), (AV.sc (.int .i64 (0))), (AV.sc (.string ⟨#[]⟩))], 24⟩) :: (0, some ⟨[(AV.sc (.string ⟨#[]⟩)), (AV.sc (.int .i64 (0))), (AV.sc (.int .i64 (0))), (AV.sc (.string ⟨#[]⟩))], 24⟩) :: []) d3) d18)) 4 (AV.ptr 69 0)) fun v19 =>
exA4 v19 fun c20 c21 c22 c23 =>
exStr c20 fun s24 =>
ex_i64 c21 fun z25 =>
ex_i64 c22 fun z26 =>
exStr c23 fun s27 =>
storeW Tryd.prog (mget (mpushs (mpushs ((69, some ⟨[(AV.sc (.string ⟨#[]⟩)), (AV.sc (.int .i64 (0))), (AV.sc (.int .i64 (0))), (AV.sc (.string ⟨#[]⟩))], 24⟩) :: (0, some ⟨[(AV.sc (.string ⟨#[]⟩)), (AV.sc (.int .i64 (0))), (AV.sc (.int .i64 (0))), (AV.sc (.string ⟨#[]⟩))], 24⟩) :: []) d3) d18)) 24 (AV.ptr 0 0) (AV.agg [(AV.sc (.string s24)), (AV.sc (.int .i64 z25)), (AV.sc (.int .i64 z26)), (AV.sc (.string s27))]) fun v28 d28 =>
retL R (mpushs (mpushs (mpushs ((69, some ⟨[(AV.sc (.string ⟨#[]⟩)), (AV.sc (.int .i64 (0))), (AV.sc (.int .i64 (0))), (AV.sc (.string ⟨#[]⟩))], 24⟩) :: (0, some ⟨[(AV.sc (.string ⟨#[]⟩)), (AV.sc (.int .i64 (0))), (AV.sc (.int .i64 (0))), (AV.sc (.string ⟨#[]⟩))], 24⟩) :: []) d3) d18) d28) [(aLoad Tryd.prog (mget (mpushs (mpushs (mpushs ((69, some ⟨[(AV.sc (.string ⟨#[]⟩)), (AV.sc (.int .i64 (0))), (AV.sc (.int .i64 (0))), (AV.sc (.string ⟨#[]⟩))], 24⟩) :: (0, some ⟨[(AV.sc (.string ⟨#[]⟩)), (AV.sc (.int .i64 (0))), (AV.sc (.int .i64 (0))), (AV.sc (.string ⟨#[]⟩))], 24⟩) :: []) d3) d18) d28)) 24 (AV.ptr 0 0)).map (·.1), some (AV.sc (.bool true))]) else (
callQ Tryd.prog KK.gl (mpushs ((69, some ⟨[(AV.sc (.string ⟨#[]⟩)), (AV.sc (.int .i64 (0))), (AV.sc (.int .i64 (0))), (AV.sc (.string ⟨#[]⟩))], 24⟩) :: (0, some ⟨[(AV.sc (.string ⟨#[]⟩)), (AV.sc (.int .i64 (0))), (AV.sc (.int .i64 (0))), (AV.sc (.string ⟨#[]⟩))], 24⟩) :: []) d3) 42 [(AV.sc (.string a2))] fun v29 =>
exT2 v29 fun c30 c31 =>
ex_i64 c30 fun z32 =>
storeW Tryd.prog (mget (mpushs ((69, some ⟨[(AV.sc (.string ⟨#[]⟩)), (AV.sc (.int .i64 (0))), (AV.sc (.int .i64 (0))), (AV.sc (.string ⟨#[]⟩))], 24⟩) :: (0, some ⟨[(AV.sc (.string ⟨#[]⟩)), (AV.sc (.int .i64 (0))), (AV.sc (.int .i64 (0))), (AV.sc (.string ⟨#[]⟩))], 24⟩) :: []) d3)) 3 (AV.ptr 69 2) (AV.sc (.int .i64 z32)) fun v33 d33 =>
opM (ldA (look' (mpushs (mpushs ((69, some ⟨[(AV.sc (.string ⟨#[]⟩)), (AV.sc (.int .i64 (0))), (AV.sc (.int .i64 (0))), (AV.sc (.string ⟨#[]⟩))], 24⟩) :: (0, some ⟨[(AV.sc (.string ⟨#[]⟩)), (AV.sc (.int .i64 (0))), (AV.sc (.int .i64 (0))), (AV.sc (.string ⟨#[]⟩))], 24⟩) :: []) d3) d33) (topId (AV.ptr 69 0) ++ ([]))) 4 (AV.ptr 69 0)) fun v34 d34 =>
exA4 v34 fun c35 c36 c37 c38 =>
exStr c35 fun s39 =>
ex_i64 c36 fun z40 =>
ex_i64 c37 fun z41 =>
exStr c38 fun s42 =>
opM (opA Tryd.prog (.binOp .eql 77 (.tmp 0) (.const .nilIface) 77) 4 [c31] (look' (mpushs (mpushs (mpushs ((69, some ⟨[(AV.sc (.string ⟨#[]⟩)), (AV.sc (.int .i64 (0))), (AV.sc (.int .i64 (0))), (AV.sc (.string ⟨#[]⟩))], 24⟩) :: (0, some ⟨[(AV.sc (.string ⟨#[]⟩)), (AV.sc (.int .i64 (0))), (AV.sc (.int .i64 (0))), (AV.sc (.string ⟨#[]⟩))], 24⟩) :: []) d3) d33) d34) []) 154) fun v43 d43 =>
exB v43 fun b44 =>
bif b44 then (
callF Tryd.prog KK.gl (mpushs (mpushs (mpushs (mpushs ((69, some ⟨[(AV.sc (.string ⟨#[]⟩)), (AV.sc (.int .i64 (0))), (AV.sc (.int .i64 (0))), (AV.sc (.string ⟨#[]⟩))], 24⟩) :: (0, some ⟨[(AV.sc (.string ⟨#[]⟩)), (AV.sc (.int .i64 (0))), (AV.sc (.int .i64 (0))), (AV.sc (.string ⟨#[]⟩))], 24⟩) :: []) d3) d33) d34) d43) 157 39 [(AV.sc (.int .i64 z32))] fun v45 d45 ft45 =>
exStr v45 fun s46 =>
storeW Tryd.prog (look' (mpushs (mpushs (mpushs (mpushs (mpushs ((69, some ⟨[(AV.sc (.string ⟨#[]⟩)), (AV.sc (.int .i64 (0))), (AV.sc (.int .i64 (0))), (AV.sc (.string ⟨#[]⟩))], 24⟩) :: (0, some ⟨[(AV.sc (.string ⟨#[]⟩)), (AV.sc (.int .i64 (0))), (AV.sc (.int .i64 (0))), (AV.sc (.string ⟨#[]⟩))], 24⟩) :: []) d3) d33) d34) d43) d45) (topId (AV.ptr 0 0) ++ (topId (AV.agg [(AV.sc (.string s39)), (AV.sc (.int .i64 z40)), (AV.sc (.int .i64 z41)), (AV.sc (.string s42))]) ++ ([])))) 24 (AV.ptr 0 0) (AV.agg [(AV.sc (.string s39)), (AV.sc (.int .i64 z40)), (AV.sc (.int .i64 z41)), (AV.sc (.string s42))]) fun v47 d47 =>
chk (confOk [0, 0, 2, 6, 14, 30, 14, 126, 254, 63, 1023] [⟨d34, (topId (AV.ptr 69 0) ++ ([]))⟩, ⟨[], []⟩, ⟨d43, []⟩, ⟨[], []⟩, ⟨[], []⟩, ⟨d45, ft45⟩, ⟨[], []⟩, ⟨[], []⟩, ⟨[], []⟩, ⟨d47, (topId (AV.ptr 0 0) ++ (topId (AV.agg [(AV.sc (.string s39)), (AV.sc (.int .i64 z40)), (AV.sc (.int .i64 z41)), (AV.sc (.string s42))]) ++ ([])))⟩, ⟨[], []⟩]) (retL R (mpushs (mpushs (mpushs (mpushs (mpushs (mpushs ((69, some ⟨[(AV.sc (.string ⟨#[]⟩)), (AV.sc (.int .i64 (0))), (AV.sc (.int .i64 (0))), (AV.sc (.string ⟨#[]⟩))], 24⟩) :: (0, some ⟨[(AV.sc (.string ⟨#[]⟩)), (AV.sc (.int .i64 (0))), (AV.sc (.int .i64 (0))), (AV.sc (.string ⟨#[]⟩))], 24⟩) :: []) d3) d33) d34) d43) d45) d47) [(aLoad Tryd.prog (mget (mpushs (mpushs (mpushs (mpushs (mpushs (mpushs ((69, some ⟨[(AV.sc (.string ⟨#[]⟩)), (AV.sc (.int .i64 (0))), (AV.sc (.int .i64 (0))), (AV.sc (.string ⟨#[]⟩))], 24⟩) :: (0, some ⟨[(AV.sc (.string ⟨#[]⟩)), (AV.sc (.int .i64 (0))), (AV.sc (.int .i64 (0))), (AV.sc (.string ⟨#[]⟩))], 24⟩) :: []) d3) d33) d34) d43) d45) d47)) 24 (AV.ptr 0 0)).map (·.1), some (AV.sc (.bool ((s46).toList == (a2).toList)))])) else (
storeW Tryd.prog (look' (mpushs (mpushs (mpushs (mpushs ((69, some ⟨[(AV.sc (.string ⟨#[]⟩)), (AV.sc (.int .i64 (0))), (AV.sc (.int .i64 (0))), (AV.sc (.string ⟨#[]⟩))], 24⟩) :: (0, some ⟨[(AV.sc (.string ⟨#[]⟩)), (AV.sc (.int .i64 (0))), (AV.sc (.int .i64 (0))), (AV.sc (.string ⟨#[]⟩))], 24⟩) :: []) d3) d33) d34) d43) (topId (AV.ptr 0 0) ++ (topId (AV.agg [(AV.sc (.string s39)), (AV.sc (.int .i64 z40)), (AV.sc (.int .i64 z41)), (AV.sc (.string s42))]) ++ ([])))) 24 (AV.ptr 0 0) (AV.agg [(AV.sc (.string s39)), (AV.sc (.int .i64 z40)), (AV.sc (.int .i64 z41)), (AV.sc (.string s42))]) fun v48 d48 =>
chk (confOk [0, 0, 2, 6, 14, 30, 14, 126, 254, 63, 1023] [⟨d34, (topId (AV.ptr 69 0) ++ ([]))⟩, ⟨[], []⟩, ⟨d43, []⟩, ⟨[], []⟩, ⟨[], []⟩, ⟨[], []⟩, ⟨[], []⟩, ⟨[], []⟩, ⟨[], []⟩, ⟨d48, (topId (AV.ptr 0 0) ++ (topId (AV.agg [(AV.sc (.string s39)), (AV.sc (.int .i64 z40)), (AV.sc (.int .i64 z41)), (AV.sc (.string s42))]) ++ ([])))⟩, ⟨[], []⟩]) (retL R (mpushs (mpushs (mpushs (mpushs (mpushs ((69, some ⟨[(AV.sc (.string ⟨#[]⟩)), (AV.sc (.int .i64 (0))), (AV.sc (.int .i64 (0))), (AV.sc (.string ⟨#[]⟩))], 24⟩) :: (0, some ⟨[(AV.sc (.string ⟨#[]⟩)), (AV.sc (.int .i64 (0))), (AV.sc (.int .i64 (0))), (AV.sc (.string ⟨#[]⟩))], 24⟩) :: []) d3) d33) d34) d43) d48) [(aLoad Tryd.prog (mget (mpushs (mpushs (mpushs (mpushs (mpushs ((69, some ⟨[(AV.sc (.string ⟨#[]⟩)), (AV.sc (.int .i64 (0))), (AV.sc (.int .i64 (0))), (AV.sc (.string ⟨#[]⟩))], 24⟩) :: (0, some ⟨[(AV.sc (.string ⟨#[]⟩)), (AV.sc (.int .i64 (0))), (AV.sc (.int .i64 (0))), (AV.sc (.string ⟨#[]⟩))], 24⟩) :: []) d3) d33) d34) d43) d48)) 24 (AV.ptr 0 0)).map (·.1), some (AV.sc (.bool false))]))))
theorem F35_own (a0 : ByteArray) (a1 : ByteArray) (a2 : ByteArray) (R : AV → Mem → Prop) (h : F35 a0 a1 a2 R) : Own Tryd.prog KK.gl 35 [(AV.sc (.string a0)), (AV.sc (.string a1)), (AV.sc (.string a2))] R := own_of_F fol Tryd.func35 (code := c35) (by kernel_rfl) (by kernel_rfl) (by kernel_rfl) (X := F35 a0 a1 a2 R) (by kernel_rfl) h
/- skyway/phrase.Parse -/
noncomputable def c19 : Code := ((Tryd.f19).body).getD .skip
noncomputable def q19 (R : AV → Mem → Prop) : AExit → St → Prop := retQ Tryd.prog Tryd.f19 R
noncomputable def F19 (a0 : ByteArray) (R : AV → Mem → Prop) : Prop :=
opP (opA Tryd.prog (.call ⟨.builtin .len, #[.tmp 0], #[9]⟩) 3 [(AV.sc (.string a0))] (mget ((0, some ⟨[(AV.sc (.string ⟨#[]⟩)), (AV.sc (.int .i64 (0))), (AV.sc (.int .i64 (0))), (AV.sc (.string ⟨#[]⟩))], 24⟩) :: [])) 4) fun v0 =>
ex_i64 v0 fun z1 =>
bif (decide (z1 > (120))) then (
opP (bld [(AV.sc (.string ⟨#[]⟩)), (AV.sc (.int .i64 (0))), (AV.sc (.int .i64 (0))), (AV.sc (.string ⟨#[]⟩))] [(0, 1), (1, 1), (2, 1), (3, 1)] []) fun v2 =>
storeW Tryd.prog (mget ((0, some ⟨[(AV.sc (.string ⟨#[]⟩)), (AV.sc (.int .i64 (0))), (AV.sc (.int .i64 (0))), (AV.sc (.string ⟨#[]⟩))], 24⟩) :: [])) 24 (AV.ptr 0 0) v2 fun v3 d3 =>
retL R (mpushs ((0, some ⟨[(AV.sc (.string ⟨#[]⟩)), (AV.sc (.int .i64 (0))), (AV.sc (.int .i64 (0))), (AV.sc (.string ⟨#[]⟩))], 24⟩) :: []) d3) [(aLoad Tryd.prog (mget (mpushs ((0, some ⟨[(AV.sc (.string ⟨#[]⟩)), (AV.sc (.int .i64 (0))), (AV.sc (.int .i64 (0))), (AV.sc (.string ⟨#[]⟩))], 24⟩) :: []) d3)) 24 (AV.ptr 0 0)).map (·.1), some (AV.sc (.bool false)), some (AV.sc (.int .i64 (2)))]) else (
callQ Tryd.prog KK.gl ((0, some ⟨[(AV.sc (.string ⟨#[]⟩)), (AV.sc (.int .i64 (0))), (AV.sc (.int .i64 (0))), (AV.sc (.string ⟨#[]⟩))], 24⟩) :: []) 34 [(AV.sc (.string a0)), (AV.sc (.string ⟨#[32]⟩))] fun v4 =>
opP (lenS v4) fun v5 =>
ex_i64 v5 fun z6 =>
bif (z6 != (3)) then (
opP (bld [(AV.sc (.string ⟨#[]⟩)), (AV.sc (.int .i64 (0))), (AV.sc (.int .i64 (0))), (AV.sc (.string ⟨#[]⟩))] [(0, 1), (1, 1), (2, 1), (3, 1)] []) fun v7 =>
storeW Tryd.prog (mget ((0, some ⟨[(AV.sc (.string ⟨#[]⟩)), (AV.sc (.int .i64 (0))), (AV.sc (.int .i64 (0))), (AV.sc (.string ⟨#[]⟩))], 24⟩) :: [])) 24 (AV.ptr 0 0) v7 fun v8 d8 =>
retL R (mpushs ((0, some ⟨[(AV.sc (.string ⟨#[]⟩)), (AV.sc (.int .i64 (0))), (AV.sc (.int .i64 (0))), (AV.sc (.string ⟨#[]⟩))], 24⟩) :: []) d8) [(aLoad Tryd.prog (mget (mpushs ((0, some ⟨[(AV.sc (.string ⟨#[]⟩)), (AV.sc (.int .i64 (0))), (AV.sc (.int .i64 (0))), (AV.sc (.string ⟨#[]⟩))], 24⟩) :: []) d8)) 24 (AV.ptr 0 0)).map (·.1), some (AV.sc (.bool false)), some (AV.sc (.int .i64 (5)))]) else (
opM (idxS 1 v4 (AV.sc (.int .i64 (0)))) fun v9 d9 =>
opM (ldS (look' (mpushs ((0, some ⟨[(AV.sc (.string ⟨#[]⟩)), (AV.sc (.int .i64 (0))), (AV.sc (.int .i64 (0))), (AV.sc (.string ⟨#[]⟩))], 24⟩) :: []) d9) (topId v9 ++ ([]))) v9) fun v10 d10 =>
exStr v10 fun s11 =>
opM (idxS 1 v4 (AV.sc (.int .i64 (1)))) fun v12 d12 =>
opM (ldS (look' (mpushs (mpushs (mpushs ((0, some ⟨[(AV.sc (.string ⟨#[]⟩)), (AV.sc (.int .i64 (0))), (AV.sc (.int .i64 (0))), (AV.sc (.string ⟨#[]⟩))], 24⟩) :: []) d9) d10) d12) (topId v12 ++ ([]))) v12) fun v13 d13 =>
exStr v13 fun s14 =>
opM (idxS 1 v4 (AV.sc (.int .i64 (2)))) fun v15 d15 =>
opM (ldS (look' (mpushs (mpushs (mpushs (mpushs (mpushs ((0, some ⟨[(AV.sc (.string ⟨#[]⟩)), (AV.sc (.int .i64 (0))), (AV.sc (.int .i64 (0))), (AV.sc (.string ⟨#[]⟩))], 24⟩) :: []) d9) d10) d12) d13) d15) (topId v15 ++ ([]))) v15) fun v16 d16 =>
exStr v16 fun s17 =>
callF Tryd.prog KK.gl (mpushs (mpushs (mpushs (mpushs (mpushs (mpushs ((0, some ⟨[(AV.sc (.string ⟨#[]⟩)), (AV.sc (.int .i64 (0))), (AV.sc (.int .i64 (0))), (AV.sc (.string ⟨#[]⟩))], 24⟩) :: []) d9) d10) d12) d13) d15) d16) 85 35 [(AV.sc (.string s11)), (AV.sc (.string s14)), (AV.sc (.string s17))] fun v18 d18 ft18 =>
exT2 v18 fun c19 c20 =>
exA4 c19 fun c21 c22 c23 c24 =>
exStr c21 fun s25 =>
ex_i64 c22 fun z26 =>
ex_i64 c23 fun z27 =>
exStr c24 fun s28 =>
exB c20 fun b29 =>
storeW Tryd.prog (look' ((89, some ⟨[(AV.sc (.string ⟨#[]⟩)), (AV.sc (.int .i64 (0))), (AV.sc (.int .i64 (0))), (AV.sc (.string ⟨#[]⟩))], 24⟩) :: (mpushs (mpushs (mpushs (mpushs (mpushs (mpushs (mpushs ((0, some ⟨[(AV.sc (.string ⟨#[]⟩)), (AV.sc (.int .i64 (0))), (AV.sc (.int .i64 (0))), (AV.sc (.string ⟨#[]⟩))], 24⟩) :: []) d9) d10) d12) d13) d15) d16) d18)) (topId (AV.ptr 89 0) ++ (topId (AV.agg [(AV.sc (.string s25)), (AV.sc (.int .i64 z26)), (AV.sc (.int .i64 z27)), (AV.sc (.string s28))]) ++ ([])))) 24 (AV.ptr 89 0) (AV.agg [(AV.sc (.string s25)), (AV.sc (.int .i64 z26)), (AV.sc (.int .i64 z27)), (AV.sc (.string s28))]) fun v30 d30 =>
chk (confOk [0, 1, 3, 0, 8, 24, 0, 64, 192, 511, 1023, 2047, 2047, 0, 12287, 32767] [⟨[], []⟩, ⟨d9, []⟩, ⟨d10, (topId v9 ++ ([]))⟩, ⟨[], []⟩, ⟨d12, []⟩, ⟨d13, (topId v12 ++ ([]))⟩, ⟨[], []⟩, ⟨d15, []⟩, ⟨d16, (topId v15 ++ ([]))⟩, ⟨d18, ft18⟩, ⟨[], []⟩, ⟨[], []⟩, ⟨[], []⟩, ⟨[(89, some ⟨[(AV.sc (.string ⟨#[]⟩)), (AV.sc (.int .i64 (0))), (AV.sc (.int .i64 (0))), (AV.sc (.string ⟨#[]⟩))], 24⟩)], []⟩, ⟨d30, (topId (AV.ptr 89 0) ++ (topId (AV.agg [(AV.sc (.string s25)), (AV.sc (.int .i64 z26)), (AV.sc (.int .i64 z27)), (AV.sc (.string s28))]) ++ ([])))⟩, ⟨[], []⟩]) (bif (!b29) then (
opM (idxS 1 v4 (AV.sc (.int .i64 (2)))) fun v31 d31 =>
opM (ldS (look' (mpushs (mpushs ((89, some ⟨[(AV.sc (.string ⟨#[]⟩)), (AV.sc (.int .i64 (0))), (AV.sc (.int .i64 (0))), (AV.sc (.string ⟨#[]⟩))], 24⟩) :: (mpushs (mpushs (mpushs (mpushs (mpushs (mpushs (mpushs ((0, some ⟨[(AV.sc (.string ⟨#[]⟩)), (AV.sc (.int .i64 (0))), (AV.sc (.int .i64 (0))), (AV.sc (.string ⟨#[]⟩))], 24⟩) :: []) d9) d10) d12) d13) d15) d16) d18)) d30) d31) (topId v31 ++ ([]))) v31) fun v32 d32 =>
exStr v32 fun s33 =>
opM (idxS 1 v4 (AV.sc (.int .i64 (0)))) fun v34 d34 =>
opM (ldS (look' (mpushs (mpushs (mpushs (mpushs ((89, some ⟨[(AV.sc (.string ⟨#[]⟩)), (AV.sc (.int .i64 (0))), (AV.sc (.int .i64 (0))), (AV.sc (.string ⟨#[]⟩))], 24⟩) :: (mpushs (mpushs (mpushs (mpushs (mpushs (mpushs (mpushs ((0, some ⟨[(AV.sc (.string ⟨#[]⟩)), (AV.sc (.int .i64 (0))), (AV.sc (.int .i64 (0))), (AV.sc (.string ⟨#[]⟩))], 24⟩) :: []) d9) d10) d12) d13) d15) d16) d18)) d30) d31) d32) d34) (topId v34 ++ ([]))) v34) fun v35 d35 =>
exStr v35 fun s36 =>
opM (idxS 1 v4 (AV.sc (.int .i64 (1)))) fun v37 d37 =>
opM (ldS (look' (mpushs (mpushs (mpushs (mpushs (mpushs (mpushs ((89, some ⟨[(AV.sc (.string ⟨#[]⟩)), (AV.sc (.int .i64 (0))), (AV.sc (.int .i64 (0))), (AV.sc (.string ⟨#[]⟩))], 24⟩) :: (mpushs (mpushs (mpushs (mpushs (mpushs (mpushs (mpushs ((0, some ⟨[(AV.sc (.string ⟨#[]⟩)), (AV.sc (.int .i64 (0))), (AV.sc (.int .i64 (0))), (AV.sc (.string ⟨#[]⟩))], 24⟩) :: []) d9) d10) d12) d13) d15) d16) d18)) d30) d31) d32) d34) d35) d37) (topId v37 ++ ([]))) v37) fun v38 d38 =>
exStr v38 fun s39 =>
callF Tryd.prog KK.gl (mpushs (mpushs (mpushs (mpushs (mpushs (mpushs (mpushs ((89, some ⟨[(AV.sc (.string ⟨#[]⟩)), (AV.sc (.int .i64 (0))), (AV.sc (.int .i64 (0))), (AV.sc (.string ⟨#[]⟩))], 24⟩) :: (mpushs (mpushs (mpushs (mpushs (mpushs (mpushs (mpushs ((0, some ⟨[(AV.sc (.string ⟨#[]⟩)), (AV.sc (.int .i64 (0))), (AV.sc (.int .i64 (0))), (AV.sc (.string ⟨#[]⟩))], 24⟩) :: []) d9) d10) d12) d13) d15) d16) d18)) d30) d31) d32) d34) d35) d37) d38) 103 35 [(AV.sc (.string s33)), (AV.sc (.string s36)), (AV.sc (.string s39))] fun v40 d40 ft40 =>
exT2 v40 fun c41 c42 =>
exA4 c41 fun c43 c44 c45 c46 =>
exStr c43 fun s47 =>
ex_i64 c44 fun z48 =>
ex_i64 c45 fun z49 =>
exStr c46 fun s50 =>
exB c42 fun b51 =>
storeW Tryd.prog (look' (mpushs (mpushs (mpushs (mpushs (mpushs (mpushs (mpushs (mpushs ((89, some ⟨[(AV.sc (.string ⟨#[]⟩)), (AV.sc (.int .i64 (0))), (AV.sc (.int .i64 (0))), (AV.sc (.string ⟨#[]⟩))], 24⟩) :: (mpushs (mpushs (mpushs (mpushs (mpushs (mpushs (mpushs ((0, some ⟨[(AV.sc (.string ⟨#[]⟩)), (AV.sc (.int .i64 (0))), (AV.sc (.int .i64 (0))), (AV.sc (.string ⟨#[]⟩))], 24⟩) :: []) d9) d10) d12) d13) d15) d16) d18)) d30) d31) d32) d34) d35) d37) d38) d40) (topId (AV.ptr 89 0) ++ (topId (AV.agg [(AV.sc (.string s47)), (AV.sc (.int .i64 z48)), (AV.sc (.int .i64 z49)), (AV.sc (.string s50))]) ++ ([])))) 24 (AV.ptr 89 0) (AV.agg [(AV.sc (.string s47)), (AV.sc (.int .i64 z48)), (AV.sc (.int .i64 z49)), (AV.sc (.string s50))]) fun v52 d52 =>
chk (confOk [0, 1, 3, 0, 8, 24, 0, 64, 192, 511, 1023, 2047, 2047, 4095, 16383] [⟨[], []⟩, ⟨d31, []⟩, ⟨d32, (topId v31 ++ ([]))⟩, ⟨[], []⟩, ⟨d34, []⟩, ⟨d35, (topId v34 ++ ([]))⟩, ⟨[], []⟩, ⟨d37, []⟩, ⟨d38, (topId v37 ++ ([]))⟩, ⟨d40, ft40⟩, ⟨[], []⟩, ⟨[], []⟩, ⟨[], []⟩, ⟨d52, (topId (AV.ptr 89 0) ++ (topId (AV.agg [(AV.sc (.string s47)), (AV.sc (.int .i64 z48)), (AV.sc (.int .i64 z49)), (AV.sc (.string s50))]) ++ ([])))⟩, ⟨[], []⟩]) (bif (!b51) then (
opP (bld [(AV.sc (.string ⟨#[]⟩)), (AV.sc (.int .i64 (0))), (AV.sc (.int .i64 (0))), (AV.sc (.string ⟨#[]⟩))] [(0, 1), (1, 1), (2, 1), (3, 1)] []) fun v53 =>
storeW Tryd.prog (mget (mpushs (mpushs (mpushs (mpushs (mpushs (mpushs (mpushs (mpushs (mpushs ((89, some ⟨[(AV.sc (.string ⟨#[]⟩)), (AV.sc (.int .i64 (0))), (AV.sc (.int .i64 (0))), (AV.sc (.string ⟨#[]⟩))], 24⟩) :: (mpushs (mpushs (mpushs (mpushs (mpushs (mpushs (mpushs ((0, some ⟨[(AV.sc (.string ⟨#[]⟩)), (AV.sc (.int .i64 (0))), (AV.sc (.int .i64 (0))), (AV.sc (.string ⟨#[]⟩))], 24⟩) :: []) d9) d10) d12) d13) d15) d16) d18)) d30) d31) d32) d34) d35) d37) d38) d40) d52)) 24 (AV.ptr 0 0) v53 fun v54 d54 =>
retL R (mpushs (mpushs (mpushs (mpushs (mpushs (mpushs (mpushs (mpushs (mpushs (mpushs ((89, some ⟨[(AV.sc (.string ⟨#[]⟩)), (AV.sc (.int .i64 (0))), (AV.sc (.int .i64 (0))), (AV.sc (.string ⟨#[]⟩))], 24⟩) :: (mpushs (mpushs (mpushs (mpushs (mpushs (mpushs (mpushs ((0, some ⟨[(AV.sc (.string ⟨#[]⟩)), (AV.sc (.int .i64 (0))), (AV.sc (.int .i64 (0))), (AV.sc (.string ⟨#[]⟩))], 24⟩) :: []) d9) d10) d12) d13) d15) d16) d18)) d30) d31) d32) d34) d35) d37) d38) d40) d52) d54) [(aLoad Tryd.prog (mget (mpushs (mpushs (mpushs (mpushs (mpushs (mpushs (mpushs (mpushs (mpushs (mpushs ((89, some ⟨[(AV.sc (.string ⟨#[]⟩)), (AV.sc (.int .i64 (0))), (AV.sc (.int .i64 (0))), (AV.sc (.string ⟨#[]⟩))], 24⟩) :: (mpushs (mpushs (mpushs (mpushs (mpushs (mpushs (mpushs ((0, some ⟨[(AV.sc (.string ⟨#[]⟩)), (AV.sc (.int .i64 (0))), (AV.sc (.int .i64 (0))), (AV.sc (.string ⟨#[]⟩))], 24⟩) :: []) d9) d10) d12) d13) d15) d16) d18)) d30) d31) d32) d34) d35) d37) d38) d40) d52) d54)) 24 (AV.ptr 0 0)).map (·.1), some (AV.sc (.bool false)), some (AV.sc (.int .i64 (5)))]) else (
opP (ldA (mget (mpushs (mpushs (mpushs (mpushs (mpushs (mpushs (mpushs (mpushs (mpushs ((89, some ⟨[(AV.sc (.string ⟨#[]⟩)), (AV.sc (.int .i64 (0))), (AV.sc (.int .i64 (0))), (AV.sc (.string ⟨#[]⟩))], 24⟩) :: (mpushs (mpushs (mpushs (mpushs (mpushs (mpushs (mpushs ((0, some ⟨[(AV.sc (.string ⟨#[]⟩)), (AV.sc (.int .i64 (0))), (AV.sc (.int .i64 (0))), (AV.sc (.string ⟨#[]⟩))], 24⟩) :: []) d9) d10) d12) d13) d15) d16) d18)) d30) d31) d32) d34) d35) d37) d38) d40) d52)) 4 (AV.ptr 89 0)) fun v55 =>
exA4 v55 fun c56 c57 c58 c59 =>
exStr c56 fun s60 =>
ex_i64 c57 fun z61 =>
ex_i64 c58 fun z62 =>
exStr c59 fun s63 =>
callQ Tryd.prog KK.gl (mpushs (mpushs (mpushs (mpushs (mpushs (mpushs (mpushs (mpushs (mpushs ((89, some ⟨[(AV.sc (.string ⟨#[]⟩)), (AV.sc (.int .i64 (0))), (AV.sc (.int .i64 (0))), (AV.sc (.string ⟨#[]⟩))], 24⟩) :: (mpushs (mpushs (mpushs (mpushs (mpushs (mpushs (mpushs ((0, some ⟨[(AV.sc (.string ⟨#[]⟩)), (AV.sc (.int .i64 (0))), (AV.sc (.int .i64 (0))), (AV.sc (.string ⟨#[]⟩))], 24⟩) :: []) d9) d10) d12) d13) d15) d16) d18)) d30) d31) d32) d34) d35) d37) d38) d40) d52) 32 [(AV.agg [(AV.sc (.string s60)), (AV.sc (.int .i64 z61)), (AV.sc (.int .i64 z62)), (AV.sc (.string s63))])] fun v64 =>
ex_i64 v64 fun z65 =>
bif (z65 != (0)) then (
opP (bld [(AV.sc (.string ⟨#[]⟩)), (AV.sc (.int .i64 (0))), (AV.sc (.int .i64 (0))), (AV.sc (.string ⟨#[]⟩))] [(0, 1), (1, 1), (2, 1), (3, 1)] []) fun v66 =>
storeW Tryd.prog (mget (mpushs (mpushs (mpushs (mpushs (mpushs (mpushs (mpushs (mpushs (mpushs ((89, some ⟨[(AV.sc (.string ⟨#[]⟩)), (AV.sc (.int .i64 (0))), (AV.sc (.int .i64 (0))), (AV.sc (.string ⟨#[]⟩))], 24⟩) :: (mpushs (mpushs (mpushs (mpushs (mpushs (mpushs (mpushs ((0, some ⟨[(AV.sc (.string ⟨#[]⟩)), (AV.sc (.int .i64 (0))), (AV.sc (.int .i64 (0))), (AV.sc (.string ⟨#[]⟩))], 24⟩) :: []) d9) d10) d12) d13) d15) d16) d18)) d30) d31) d32) d34) d35) d37) d38) d40) d52)) 24 (AV.ptr 0 0) v66 fun v67 d67 =>
retL R (mpushs (mpushs (mpushs (mpushs (mpushs (mpushs (mpushs (mpushs (mpushs (mpushs ((89, some ⟨[(AV.sc (.string ⟨#[]⟩)), (AV.sc (.int .i64 (0))), (AV.sc (.int .i64 (0))), (AV.sc (.string ⟨#[]⟩))], 24⟩) :: (mpushs (mpushs (mpushs (mpushs (mpushs (mpushs (mpushs ((0, some ⟨[(AV.sc (.string ⟨#[]⟩)), (AV.sc (.int .i64 (0))), (AV.sc (.int .i64 (0))), (AV.sc (.string ⟨#[]⟩))], 24⟩) :: []) d9) d10) d12) d13) d15) d16) d18)) d30) d31) d32) d34) d35) d37) d38) d40) d52) d67) [(aLoad Tryd.prog (mget (mpushs (mpushs (mpushs (mpushs (mpushs (mpushs (mpushs (mpushs (mpushs (mpushs ((89, some ⟨[(AV.sc (.string ⟨#[]⟩)), (AV.sc (.int .i64 (0))), (AV.sc (.int .i64 (0))), (AV.sc (.string ⟨#[]⟩))], 24⟩) :: (mpushs (mpushs (mpushs (mpushs (mpushs (mpushs (mpushs ((0, some ⟨[(AV.sc (.string ⟨#[]⟩)), (AV.sc (.int .i64 (0))), (AV.sc (.int .i64 (0))), (AV.sc (.string ⟨#[]⟩))], 24⟩) :: []) d9) d10) d12) d13) d15) d16) d18)) d30) d31) d32) d34) d35) d37) d38) d40) d52) d67)) 24 (AV.ptr 0 0)).map (·.1), some (AV.sc (.bool false)), some (AV.sc (.int .i64 z65))]) else (
opP (ldA (mget (mpushs (mpushs (mpushs (mpushs (mpushs (mpushs (mpushs (mpushs (mpushs ((89, some ⟨[(AV.sc (.string ⟨#[]⟩)), (AV.sc (.int .i64 (0))), (AV.sc (.int .i64 (0))), (AV.sc (.string ⟨#[]⟩))], 24⟩) :: (mpushs (mpushs (mpushs (mpushs (mpushs (mpushs (mpushs ((0, some ⟨[(AV.sc (.string ⟨#[]⟩)), (AV.sc (.int .i64 (0))), (AV.sc (.int .i64 (0))), (AV.sc (.string ⟨#[]⟩))], 24⟩) :: []) d9) d10) d12) d13) d15) d16) d18)) d30) d31) d32) d34) d35) d37) d38) d40) d52)) 4 (AV.ptr 89 0)) fun v68 =>
exA4 v68 fun c69 c70 c71 c72 =>
exStr c69 fun s73 =>
ex_i64 c70 fun z74 =>
ex_i64 c71 fun z75 =>
exStr c72 fun s76 =>
storeW Tryd.prog (mget (mpushs (mpushs (mpushs (mpushs (mpushs (mpushs (mpushs (mpushs (mpushs ((89, some ⟨[(AV.sc (.string ⟨#[]⟩)), (AV.sc (.int .i64 (0))), (AV.sc (.int .i64 (0))), (AV.sc (.string ⟨#[]⟩))], 24⟩) :: (mpushs (mpushs (mpushs (mpushs (mpushs (mpushs (mpushs ((0, some ⟨[(AV.sc (.string ⟨#[]⟩)), (AV.sc (.int .i64 (0))), (AV.sc (.int .i64 (0))), (AV.sc (.string ⟨#[]⟩))], 24⟩) :: []) d9) d10) d12) d13) d15) d16) d18)) d30) d31) d32) d34) d35) d37) d38) d40) d52)) 24 (AV.ptr 0 0) (AV.agg [(AV.sc (.string s73)), (AV.sc (.int .i64 z74)), (AV.sc (.int .i64 z75)), (AV.sc (.string s76))]) fun v77 d77 =>
retL R (mpushs (mpushs (mpushs (mpushs (mpushs (mpushs (mpushs (mpushs (mpushs (mpushs ((89, some ⟨[(AV.sc (.string ⟨#[]⟩)), (AV.sc (.int .i64 (0))), (AV.sc (.int .i64 (0))), (AV.sc (.string ⟨#[]⟩))], 24⟩) :: (mpushs (mpushs (mpushs (mpushs (mpushs (mpushs (mpushs ((0, some ⟨[(AV.sc (.string ⟨#[]⟩)), (AV.sc (.int .i64 (0))), (AV.sc (.int .i64 (0))), (AV.sc (.string ⟨#[]⟩))], 24⟩) :: []) d9) d10) d12) d13) d15) d16) d18)) d30) d31) d32) d34) d35) d37) d38) d40) d52) d77) [(aLoad Tryd.prog (mget (mpushs (mpushs (mpushs (mpushs (mpushs (mpushs (mpushs (mpushs (mpushs (mpushs ((89, some ⟨[(AV.sc (.string ⟨#[]⟩)), (AV.sc (.int .i64 (0))), (AV.sc (.int .i64 (0))), (AV.sc (.string ⟨#[]⟩))], 24⟩) :: (mpushs (mpushs (mpushs (mpushs (mpushs (mpushs (mpushs ((0, some ⟨[(AV.sc (.string ⟨#[]⟩)), (AV.sc (.int .i64 (0))), (AV.sc (.int .i64 (0))), (AV.sc (.string ⟨#[]⟩))], 24⟩) :: []) d9) d10) d12) d13) d15) d16) d18)) d30) d31) d32) d34) d35) d37) d38) d40) d52) d77)) 24 (AV.ptr 0 0)).map (·.1), some (AV.sc (.bool true)), some (AV.sc (.int .i64 (0)))])))) else (
bif (!b29) then (
opP (bld [(AV.sc (.string ⟨#[]⟩)), (AV.sc (.int .i64 (0))), (AV.sc (.int .i64 (0))), (AV.sc (.string ⟨#[]⟩))] [(0, 1), (1, 1), (2, 1), (3, 1)] []) fun v78 =>
storeW Tryd.prog (mget (mpushs ((89, some ⟨[(AV.sc (.string ⟨#[]⟩)), (AV.sc (.int .i64 (0))), (AV.sc (.int .i64 (0))), (AV.sc (.string ⟨#[]⟩))], 24⟩) :: (mpushs (mpushs (mpushs (mpushs (mpushs (mpushs (mpushs ((0, some ⟨[(AV.sc (.string ⟨#[]⟩)), (AV.sc (.int .i64 (0))), (AV.sc (.int .i64 (0))), (AV.sc (.string ⟨#[]⟩))], 24⟩) :: []) d9) d10) d12) d13) d15) d16) d18)) d30)) 24 (AV.ptr 0 0) v78 fun v79 d79 =>
retL R (mpushs (mpushs ((89, some ⟨[(AV.sc (.string ⟨#[]⟩)), (AV.sc (.int .i64 (0))), (AV.sc (.int .i64 (0))), (AV.sc (.string ⟨#[]⟩))], 24⟩) :: (mpushs (mpushs (mpushs (mpushs (mpushs (mpushs (mpushs ((0, some ⟨[(AV.sc (.string ⟨#[]⟩)), (AV.sc (.int .i64 (0))), (AV.sc (.int .i64 (0))), (AV.sc (.string ⟨#[]⟩))], 24⟩) :: []) d9) d10) d12) d13) d15) d16) d18)) d30) d79) [(aLoad Tryd.prog (mget (mpushs (mpushs ((89, some ⟨[(AV.sc (.string ⟨#[]⟩)), (AV.sc (.int .i64 (0))), (AV.sc (.int .i64 (0))), (AV.sc (.string ⟨#[]⟩))], 24⟩) :: (mpushs (mpushs (mpushs (mpushs (mpushs (mpushs (mpushs ((0, some ⟨[(AV.sc (.string ⟨#[]⟩)), (AV.sc (.int .i64 (0))), (AV.sc (.int .i64 (0))), (AV.sc (.string ⟨#[]⟩))], 24⟩) :: []) d9) d10) d12) d13) d15) d16) d18)) d30) d79)) 24 (AV.ptr 0 0)).map (·.1), some (AV.sc (.bool false)), some (AV.sc (.int .i64 (5)))]) else (
opP (ldA (mget (mpushs ((89, some ⟨[(AV.sc (.string ⟨#[]⟩)), (AV.sc (.int .i64 (0))), (AV.sc (.int .i64 (0))), (AV.sc (.string ⟨#[]⟩))], 24⟩) :: (mpushs (mpushs (mpushs (mpushs (mpushs (mpushs (mpushs ((0, some ⟨[(AV.sc (.string ⟨#[]⟩)), (AV.sc (.int .i64 (0))), (AV.sc (.int .i64 (0))), (AV.sc (.string ⟨#[]⟩))], 24⟩) :: []) d9) d10) d12) d13) d15) d16) d18)) d30)) 4 (AV.ptr 89 0)) fun v80 =>
exA4 v80 fun c81 c82 c83 c84 =>
exStr c81 fun s85 =>
ex_i64 c82 fun z86 =>
ex_i64 c83 fun z87 =>
exStr c84 fun s88 =>
callQ Tryd.prog KK.gl (mpushs ((89, some ⟨[(AV.sc (.string ⟨#[]⟩)), (AV.sc (.int .i64 (0))), (AV.sc (.int .i64 (0))), (AV.sc (.string ⟨#[]⟩))], 24⟩) :: (mpushs (mpushs (mpushs (mpushs (mpushs (mpushs (mpushs ((0, some ⟨[(AV.sc (.string ⟨#[]⟩)), (AV.sc (.int .i64 (0))), (AV.sc (.int .i64 (0))), (AV.sc (.string ⟨#[]⟩))], 24⟩) :: []) d9) d10) d12) d13) d15) d16) d18)) d30) 32 [(AV.agg [(AV.sc (.string s85)), (AV.sc (.int .i64 z86)), (AV.sc (.int .i64 z87)), (AV.sc (.string s88))])] fun v89 =>
ex_i64 v89 fun z90 =>
bif (z90 != (0)) then (
opP (bld [(AV.sc (.string ⟨#[]⟩)), (AV.sc (.int .i64 (0))), (AV.sc (.int .i64 (0))), (AV.sc (.string ⟨#[]⟩))] [(0, 1), (1, 1), (2, 1), (3, 1)] []) fun v91 =>
storeW Tryd.prog (mget (mpushs ((89, some ⟨[(AV.sc (.string ⟨#[]⟩)), (AV.sc (.int .i64 (0))), (AV.sc (.int .i64 (0))), (AV.sc (.string ⟨#[]⟩))], 24⟩) :: (mpushs (mpushs (mpushs (mpushs (mpushs (mpushs (mpushs ((0, some ⟨[(AV.sc (.string ⟨#[]⟩)), (AV.sc (.int .i64 (0))), (AV.sc (.int .i64 (0))), (AV.sc (.string ⟨#[]⟩))], 24⟩) :: []) d9) d10) d12) d13) d15) d16) d18)) d30)) 24 (AV.ptr 0 0) v91 fun v92 d92 =>
retL R (mpushs (mpushs ((89, some ⟨[(AV.sc (.string ⟨#[]⟩)), (AV.sc (.int .i64 (0))), (AV.sc (.int .i64 (0))), (AV.sc (.string ⟨#[]⟩))], 24⟩) :: (mpushs (mpushs (mpushs (mpushs (mpushs (mpushs (mpushs ((0, some ⟨[(AV.sc (.string ⟨#[]⟩)), (AV.sc (.int .i64 (0))), (AV.sc (.int .i64 (0))), (AV.sc (.string ⟨#[]⟩))], 24⟩) :: []) d9) d10) d12) d13) d15) d16) d18)) d30) d92) [(aLoad Tryd.prog (mget (mpushs (mpushs ((89, some ⟨[(AV.sc (.string ⟨#[]⟩)), (AV.sc (.int .i64 (0))), (AV.sc (.int .i64 (0))), (AV.sc (.string ⟨#[]⟩))], 24⟩) :: (mpushs (mpushs (mpushs (mpushs (mpushs (mpushs (mpushs ((0, some ⟨[(AV.sc (.string ⟨#[]⟩)), (AV.sc (.int .i64 (0))), (AV.sc (.int .i64 (0))), (AV.sc (.string ⟨#[]⟩))], 24⟩) :: []) d9) d10) d12) d13) d15) d16) d18)) d30) d92)) 24 (AV.ptr 0 0)).map (·.1), some (AV.sc (.bool false)), some (AV.sc (.int .i64 z90))]) else (
opP (ldA (mget (mpushs ((89, some ⟨[(AV.sc (.string ⟨#[]⟩)), (AV.sc (.int .i64 (0))), (AV.sc (.int .i64 (0))), (AV.sc (.string ⟨#[]⟩))], 24⟩) :: (mpushs (mpushs (mpushs (mpushs (mpushs (mpushs (mpushs ((0, some ⟨[(AV.sc (.string ⟨#[]⟩)), (AV.sc (.int .i64 (0))), (AV.sc (.int .i64 (0))), (AV.sc (.string ⟨#[]⟩))], 24⟩) :: []) d9) d10) d12) d13) d15) d16) d18)) d30)) 4 (AV.ptr 89 0)) fun v93 =>
exA4 v93 fun c94 c95 c96 c97 =>
exStr c94 fun s98 =>
ex_i64 c95 fun z99 =>
ex_i64 c96 fun z100 =>
exStr c97 fun s101 =>
storeW Tryd.prog (mget (mpushs ((89, some ⟨[(AV.sc (.string ⟨#[]⟩)), (AV.sc (.int .i64 (0))), (AV.sc (.int .i64 (0))), (AV.sc (.string ⟨#[]⟩))], 24⟩) :: (mpushs (mpushs (mpushs (mpushs (mpushs (mpushs (mpushs ((0, some ⟨[(AV.sc (.string ⟨#[]⟩)), (AV.sc (.int .i64 (0))), (AV.sc (.int .i64 (0))), (AV.sc (.string ⟨#[]⟩))], 24⟩) :: []) d9) d10) d12) d13) d15) d16) d18)) d30)) 24 (AV.ptr 0 0) (AV.agg [(AV.sc (.string s98)), (AV.sc (.int .i64 z99)), (AV.sc (.int .i64 z100)), (AV.sc (.string s101))]) fun v102 d102 =>
retL R (mpushs (mpushs ((89, some ⟨[(AV.sc (.string ⟨#[]⟩)), (AV.sc (.int .i64 (0))), (AV.sc (.int .i64 (0))), (AV.sc (.string ⟨#[]⟩))], 24⟩) :: (mpushs (mpushs (mpushs (mpushs (mpushs (mpushs (mpushs ((0, some ⟨[(AV.sc (.string ⟨#[]⟩)), (AV.sc (.int .i64 (0))), (AV.sc (.int .i64 (0))), (AV.sc (.string ⟨#[]⟩))], 24⟩) :: []) d9) d10) d12) d13) d15) d16) d18)) d30) d102) [(aLoad Tryd.prog (mget (mpushs (mpushs ((89, some ⟨[(AV.sc (.string ⟨#[]⟩)), (AV.sc (.int .i64 (0))), (AV.sc (.int .i64 (0))), (AV.sc (.string ⟨#[]⟩))], 24⟩) :: (mpushs (mpushs (mpushs (mpushs (mpushs (mpushs (mpushs ((0, some ⟨[(AV.sc (.string ⟨#[]⟩)), (AV.sc (.int .i64 (0))), (AV.sc (.int .i64 (0))), (AV.sc (.string ⟨#[]⟩))], 24⟩) :: []) d9) d10) d12) d13) d15) d16) d18)) d30) d102)) 24 (AV.ptr 0 0)).map (·.1), some (AV.sc (.bool false)), some (AV.sc (.int .i64 (0)))]))))))
theorem F19_own (a0 : ByteArray) (R : AV → Mem → Prop) (h : F19 a0 R) : Own Tryd.prog KK.gl 19 [(AV.sc (.string a0))] R := own_of_F fol Tryd.func19 (code := c19) (by kernel_rfl) (by kernel_rfl) (by kernel_rfl) (X := F19 a0 R) (by kernel_rfl) h
/- skyway/skywaykeep3.phraseFact -/
noncomputable def c16 : Code := ((Tryd.f16).body).getD .skip
noncomputable def q16 (R : AV → Mem → Prop) : AExit → St → Prop := retQ Tryd.prog Tryd.f16 R
noncomputable def F16 (R : AV → Mem → Prop) : Prop :=
callQ Tryd.prog KK.gl [] 21 [(AV.sc (.int .i64 (9000)))] fun v0 =>
exA4 v0 fun c1 c2 c3 c4 =>
exStr c1 fun s5 =>
ex_i64 c2 fun z6 =>
ex_i64 c3 fun z7 =>
exStr c4 fun s8 =>
callQ Tryd.prog KK.gl ((65, some ⟨[(AV.sc (.string s5)), (AV.sc (.int .i64 z6)), (AV.sc (.int .i64 z7)), (AV.sc (.string s8))], 24⟩) :: (65, some ⟨[(AV.sc (.string ⟨#[]⟩)), (AV.sc (.int .i64 (0))), (AV.sc (.int .i64 (0))), (AV.sc (.string ⟨#[]⟩))], 24⟩) :: []) 17 [(AV.agg [(AV.sc (.string s5)), (AV.sc (.int .i64 z6)), (AV.sc (.int .i64 z7)), (AV.sc (.string s8))])] fun v9 =>
exT2 v9 fun c10 c11 =>
exStr c10 fun s12 =>
ex_i64 c11 fun z13 =>
callQ Tryd.prog KK.gl ((65, some ⟨[(AV.sc (.string s5)), (AV.sc (.int .i64 z6)), (AV.sc (.int .i64 z7)), (AV.sc (.string s8))], 24⟩) :: (65, some ⟨[(AV.sc (.string ⟨#[]⟩)), (AV.sc (.int .i64 (0))), (AV.sc (.int .i64 (0))), (AV.sc (.string ⟨#[]⟩))], 24⟩) :: []) 18 [(AV.agg [(AV.sc (.string s5)), (AV.sc (.int .i64 z6)), (AV.sc (.int .i64 z7)), (AV.sc (.string s8))])] fun v14 =>
exT2 v14 fun c15 c16 =>
exStr c15 fun s17 =>
ex_i64 c16 fun z18 =>
callQ Tryd.prog KK.gl ((65, some ⟨[(AV.sc (.string s5)), (AV.sc (.int .i64 z6)), (AV.sc (.int .i64 z7)), (AV.sc (.string s8))], 24⟩) :: (65, some ⟨[(AV.sc (.string ⟨#[]⟩)), (AV.sc (.int .i64 (0))), (AV.sc (.int .i64 (0))), (AV.sc (.string ⟨#[]⟩))], 24⟩) :: []) 19 [(AV.sc (.string s12))] fun v19 =>
exT3 v19 fun c20 c21 c22 =>
exA4 c20 fun c23 c24 c25 c26 =>
exStr c23 fun s27 =>
ex_i64 c24 fun z28 =>
ex_i64 c25 fun z29 =>
exStr c26 fun s30 =>
exB c21 fun b31 =>
ex_i64 c22 fun z32 =>
callQ Tryd.prog KK.gl ((276, some ⟨[(AV.sc (.string s27)), (AV.sc (.int .i64 z28)), (AV.sc (.int .i64 z29)), (AV.sc (.string s30))], 24⟩) :: (276, some ⟨[(AV.sc (.string ⟨#[]⟩)), (AV.sc (.int .i64 (0))), (AV.sc (.int .i64 (0))), (AV.sc (.string ⟨#[]⟩))], 24⟩) :: (65, some ⟨[(AV.sc (.string s5)), (AV.sc (.int .i64 z6)), (AV.sc (.int .i64 z7)), (AV.sc (.string s8))], 24⟩) :: (65, some ⟨[(AV.sc (.string ⟨#[]⟩)), (AV.sc (.int .i64 (0))), (AV.sc (.int .i64 (0))), (AV.sc (.string ⟨#[]⟩))], 24⟩) :: []) 19 [(AV.sc (.string s17))] fun v33 =>
exT3 v33 fun c34 c35 c36 =>
exA4 c34 fun c37 c38 c39 c40 =>
exStr c37 fun s41 =>
ex_i64 c38 fun z42 =>
ex_i64 c39 fun z43 =>
exStr c40 fun s44 =>
exB c35 fun b45 =>
ex_i64 c36 fun z46 =>
bif (z13 == (0)) then (
bif (z18 == (0)) then (
bif (z32 == (0)) then (
bif (z46 == (0)) then (
bif ((s12).toList == ((⟨#[65, 49, 32, 72, 69, 73, 71, 72, 84, 32, 57, 48, 48, 48]⟩ : ByteArray)).toList) then (
bif ((s17).toList == ((⟨#[72, 69, 73, 71, 72, 84, 32, 57, 48, 48, 48, 32, 65, 49]⟩ : ByteArray)).toList) then (
opP (opA Tryd.prog (.binOp .eql 24 (.tmp 0) (.tmp 1) 24) 4 [(AV.agg [(AV.sc (.string s27)), (AV.sc (.int .i64 z28)), (AV.sc (.int .i64 z29)), (AV.sc (.string s30))]), (AV.agg [(AV.sc (.string s5)), (AV.sc (.int .i64 z6)), (AV.sc (.int .i64 z7)), (AV.sc (.string s8))])] (mget ((349, some ⟨[(AV.sc (.string s41)), (AV.sc (.int .i64 z42)), (AV.sc (.int .i64 z43)), (AV.sc (.string s44))], 24⟩) :: (349, some ⟨[(AV.sc (.string ⟨#[]⟩)), (AV.sc (.int .i64 (0))), (AV.sc (.int .i64 (0))), (AV.sc (.string ⟨#[]⟩))], 24⟩) :: (276, some ⟨[(AV.sc (.string s27)), (AV.sc (.int .i64 z28)), (AV.sc (.int .i64 z29)), (AV.sc (.string s30))], 24⟩) :: (276, some ⟨[(AV.sc (.string ⟨#[]⟩)), (AV.sc (.int .i64 (0))), (AV.sc (.int .i64 (0))), (AV.sc (.string ⟨#[]⟩))], 24⟩) :: (65, some ⟨[(AV.sc (.string s5)), (AV.sc (.int .i64 z6)), (AV.sc (.int .i64 z7)), (AV.sc (.string s8))], 24⟩) :: (65, some ⟨[(AV.sc (.string ⟨#[]⟩)), (AV.sc (.int .i64 (0))), (AV.sc (.int .i64 (0))), (AV.sc (.string ⟨#[]⟩))], 24⟩) :: [])) 378) fun v47 =>
exB v47 fun b48 =>
bif b48 then (
opP (opA Tryd.prog (.binOp .eql 24 (.tmp 0) (.tmp 1) 24) 4 [(AV.agg [(AV.sc (.string s41)), (AV.sc (.int .i64 z42)), (AV.sc (.int .i64 z43)), (AV.sc (.string s44))]), (AV.agg [(AV.sc (.string s5)), (AV.sc (.int .i64 z6)), (AV.sc (.int .i64 z7)), (AV.sc (.string s8))])] (mget ((349, some ⟨[(AV.sc (.string s41)), (AV.sc (.int .i64 z42)), (AV.sc (.int .i64 z43)), (AV.sc (.string s44))], 24⟩) :: (349, some ⟨[(AV.sc (.string ⟨#[]⟩)), (AV.sc (.int .i64 (0))), (AV.sc (.int .i64 (0))), (AV.sc (.string ⟨#[]⟩))], 24⟩) :: (276, some ⟨[(AV.sc (.string s27)), (AV.sc (.int .i64 z28)), (AV.sc (.int .i64 z29)), (AV.sc (.string s30))], 24⟩) :: (276, some ⟨[(AV.sc (.string ⟨#[]⟩)), (AV.sc (.int .i64 (0))), (AV.sc (.int .i64 (0))), (AV.sc (.string ⟨#[]⟩))], 24⟩) :: (65, some ⟨[(AV.sc (.string s5)), (AV.sc (.int .i64 z6)), (AV.sc (.int .i64 z7)), (AV.sc (.string s8))], 24⟩) :: (65, some ⟨[(AV.sc (.string ⟨#[]⟩)), (AV.sc (.int .i64 (0))), (AV.sc (.int .i64 (0))), (AV.sc (.string ⟨#[]⟩))], 24⟩) :: [])) 383) fun v49 =>
exB v49 fun b50 =>
bif b50 then (
bif (!b31) then (
bif b45 then (
opP (bld [(AV.sc (.string ⟨#[]⟩)), (AV.sc (.int .i64 (0))), (AV.sc (.int .i64 (0))), (AV.sc (.string ⟨#[]⟩))] [(0, 1), (1, 1), (2, 1), (3, 1)] []) fun v51 =>
callQ Tryd.prog KK.gl ((349, some ⟨[(AV.sc (.string s41)), (AV.sc (.int .i64 z42)), (AV.sc (.int .i64 z43)), (AV.sc (.string s44))], 24⟩) :: (349, some ⟨[(AV.sc (.string ⟨#[]⟩)), (AV.sc (.int .i64 (0))), (AV.sc (.int .i64 (0))), (AV.sc (.string ⟨#[]⟩))], 24⟩) :: (276, some ⟨[(AV.sc (.string s27)), (AV.sc (.int .i64 z28)), (AV.sc (.int .i64 z29)), (AV.sc (.string s30))], 24⟩) :: (276, some ⟨[(AV.sc (.string ⟨#[]⟩)), (AV.sc (.int .i64 (0))), (AV.sc (.int .i64 (0))), (AV.sc (.string ⟨#[]⟩))], 24⟩) :: (65, some ⟨[(AV.sc (.string s5)), (AV.sc (.int .i64 z6)), (AV.sc (.int .i64 z7)), (AV.sc (.string s8))], 24⟩) :: (65, some ⟨[(AV.sc (.string ⟨#[]⟩)), (AV.sc (.int .i64 (0))), (AV.sc (.int .i64 (0))), (AV.sc (.string ⟨#[]⟩))], 24⟩) :: []) 32 [v51] fun v52 =>
ex_i64 v52 fun z53 =>
retL R ((349, some ⟨[(AV.sc (.string s41)), (AV.sc (.int .i64 z42)), (AV.sc (.int .i64 z43)), (AV.sc (.string s44))], 24⟩) :: (349, some ⟨[(AV.sc (.string ⟨#[]⟩)), (AV.sc (.int .i64 (0))), (AV.sc (.int .i64 (0))), (AV.sc (.string ⟨#[]⟩))], 24⟩) :: (276, some ⟨[(AV.sc (.string s27)), (AV.sc (.int .i64 z28)), (AV.sc (.int .i64 z29)), (AV.sc (.string s30))], 24⟩) :: (276, some ⟨[(AV.sc (.string ⟨#[]⟩)), (AV.sc (.int .i64 (0))), (AV.sc (.int .i64 (0))), (AV.sc (.string ⟨#[]⟩))], 24⟩) :: (65, some ⟨[(AV.sc (.string s5)), (AV.sc (.int .i64 z6)), (AV.sc (.int .i64 z7)), (AV.sc (.string s8))], 24⟩) :: (65, some ⟨[(AV.sc (.string ⟨#[]⟩)), (AV.sc (.int .i64 (0))), (AV.sc (.int .i64 (0))), (AV.sc (.string ⟨#[]⟩))], 24⟩) :: []) [some (AV.sc (.bool (z53 == (3))))]) else (
retL R ((349, some ⟨[(AV.sc (.string s41)), (AV.sc (.int .i64 z42)), (AV.sc (.int .i64 z43)), (AV.sc (.string s44))], 24⟩) :: (349, some ⟨[(AV.sc (.string ⟨#[]⟩)), (AV.sc (.int .i64 (0))), (AV.sc (.int .i64 (0))), (AV.sc (.string ⟨#[]⟩))], 24⟩) :: (276, some ⟨[(AV.sc (.string s27)), (AV.sc (.int .i64 z28)), (AV.sc (.int .i64 z29)), (AV.sc (.string s30))], 24⟩) :: (276, some ⟨[(AV.sc (.string ⟨#[]⟩)), (AV.sc (.int .i64 (0))), (AV.sc (.int .i64 (0))), (AV.sc (.string ⟨#[]⟩))], 24⟩) :: (65, some ⟨[(AV.sc (.string s5)), (AV.sc (.int .i64 z6)), (AV.sc (.int .i64 z7)), (AV.sc (.string s8))], 24⟩) :: (65, some ⟨[(AV.sc (.string ⟨#[]⟩)), (AV.sc (.int .i64 (0))), (AV.sc (.int .i64 (0))), (AV.sc (.string ⟨#[]⟩))], 24⟩) :: []) [some (AV.sc (.bool false))])) else (
retL R ((349, some ⟨[(AV.sc (.string s41)), (AV.sc (.int .i64 z42)), (AV.sc (.int .i64 z43)), (AV.sc (.string s44))], 24⟩) :: (349, some ⟨[(AV.sc (.string ⟨#[]⟩)), (AV.sc (.int .i64 (0))), (AV.sc (.int .i64 (0))), (AV.sc (.string ⟨#[]⟩))], 24⟩) :: (276, some ⟨[(AV.sc (.string s27)), (AV.sc (.int .i64 z28)), (AV.sc (.int .i64 z29)), (AV.sc (.string s30))], 24⟩) :: (276, some ⟨[(AV.sc (.string ⟨#[]⟩)), (AV.sc (.int .i64 (0))), (AV.sc (.int .i64 (0))), (AV.sc (.string ⟨#[]⟩))], 24⟩) :: (65, some ⟨[(AV.sc (.string s5)), (AV.sc (.int .i64 z6)), (AV.sc (.int .i64 z7)), (AV.sc (.string s8))], 24⟩) :: (65, some ⟨[(AV.sc (.string ⟨#[]⟩)), (AV.sc (.int .i64 (0))), (AV.sc (.int .i64 (0))), (AV.sc (.string ⟨#[]⟩))], 24⟩) :: []) [some (AV.sc (.bool false))])) else (
retL R ((349, some ⟨[(AV.sc (.string s41)), (AV.sc (.int .i64 z42)), (AV.sc (.int .i64 z43)), (AV.sc (.string s44))], 24⟩) :: (349, some ⟨[(AV.sc (.string ⟨#[]⟩)), (AV.sc (.int .i64 (0))), (AV.sc (.int .i64 (0))), (AV.sc (.string ⟨#[]⟩))], 24⟩) :: (276, some ⟨[(AV.sc (.string s27)), (AV.sc (.int .i64 z28)), (AV.sc (.int .i64 z29)), (AV.sc (.string s30))], 24⟩) :: (276, some ⟨[(AV.sc (.string ⟨#[]⟩)), (AV.sc (.int .i64 (0))), (AV.sc (.int .i64 (0))), (AV.sc (.string ⟨#[]⟩))], 24⟩) :: (65, some ⟨[(AV.sc (.string s5)), (AV.sc (.int .i64 z6)), (AV.sc (.int .i64 z7)), (AV.sc (.string s8))], 24⟩) :: (65, some ⟨[(AV.sc (.string ⟨#[]⟩)), (AV.sc (.int .i64 (0))), (AV.sc (.int .i64 (0))), (AV.sc (.string ⟨#[]⟩))], 24⟩) :: []) [some (AV.sc (.bool false))])) else (
retL R ((349, some ⟨[(AV.sc (.string s41)), (AV.sc (.int .i64 z42)), (AV.sc (.int .i64 z43)), (AV.sc (.string s44))], 24⟩) :: (349, some ⟨[(AV.sc (.string ⟨#[]⟩)), (AV.sc (.int .i64 (0))), (AV.sc (.int .i64 (0))), (AV.sc (.string ⟨#[]⟩))], 24⟩) :: (276, some ⟨[(AV.sc (.string s27)), (AV.sc (.int .i64 z28)), (AV.sc (.int .i64 z29)), (AV.sc (.string s30))], 24⟩) :: (276, some ⟨[(AV.sc (.string ⟨#[]⟩)), (AV.sc (.int .i64 (0))), (AV.sc (.int .i64 (0))), (AV.sc (.string ⟨#[]⟩))], 24⟩) :: (65, some ⟨[(AV.sc (.string s5)), (AV.sc (.int .i64 z6)), (AV.sc (.int .i64 z7)), (AV.sc (.string s8))], 24⟩) :: (65, some ⟨[(AV.sc (.string ⟨#[]⟩)), (AV.sc (.int .i64 (0))), (AV.sc (.int .i64 (0))), (AV.sc (.string ⟨#[]⟩))], 24⟩) :: []) [some (AV.sc (.bool false))])) else (
retL R ((349, some ⟨[(AV.sc (.string s41)), (AV.sc (.int .i64 z42)), (AV.sc (.int .i64 z43)), (AV.sc (.string s44))], 24⟩) :: (349, some ⟨[(AV.sc (.string ⟨#[]⟩)), (AV.sc (.int .i64 (0))), (AV.sc (.int .i64 (0))), (AV.sc (.string ⟨#[]⟩))], 24⟩) :: (276, some ⟨[(AV.sc (.string s27)), (AV.sc (.int .i64 z28)), (AV.sc (.int .i64 z29)), (AV.sc (.string s30))], 24⟩) :: (276, some ⟨[(AV.sc (.string ⟨#[]⟩)), (AV.sc (.int .i64 (0))), (AV.sc (.int .i64 (0))), (AV.sc (.string ⟨#[]⟩))], 24⟩) :: (65, some ⟨[(AV.sc (.string s5)), (AV.sc (.int .i64 z6)), (AV.sc (.int .i64 z7)), (AV.sc (.string s8))], 24⟩) :: (65, some ⟨[(AV.sc (.string ⟨#[]⟩)), (AV.sc (.int .i64 (0))), (AV.sc (.int .i64 (0))), (AV.sc (.string ⟨#[]⟩))], 24⟩) :: []) [some (AV.sc (.bool false))])) else (
retL R ((349, some ⟨[(AV.sc (.string s41)), (AV.sc (.int .i64 z42)), (AV.sc (.int .i64 z43)), (AV.sc (.string s44))], 24⟩) :: (349, some ⟨[(AV.sc (.string ⟨#[]⟩)), (AV.sc (.int .i64 (0))), (AV.sc (.int .i64 (0))), (AV.sc (.string ⟨#[]⟩))], 24⟩) :: (276, some ⟨[(AV.sc (.string s27)), (AV.sc (.int .i64 z28)), (AV.sc (.int .i64 z29)), (AV.sc (.string s30))], 24⟩) :: (276, some ⟨[(AV.sc (.string ⟨#[]⟩)), (AV.sc (.int .i64 (0))), (AV.sc (.int .i64 (0))), (AV.sc (.string ⟨#[]⟩))], 24⟩) :: (65, some ⟨[(AV.sc (.string s5)), (AV.sc (.int .i64 z6)), (AV.sc (.int .i64 z7)), (AV.sc (.string s8))], 24⟩) :: (65, some ⟨[(AV.sc (.string ⟨#[]⟩)), (AV.sc (.int .i64 (0))), (AV.sc (.int .i64 (0))), (AV.sc (.string ⟨#[]⟩))], 24⟩) :: []) [some (AV.sc (.bool false))])) else (
retL R ((349, some ⟨[(AV.sc (.string s41)), (AV.sc (.int .i64 z42)), (AV.sc (.int .i64 z43)), (AV.sc (.string s44))], 24⟩) :: (349, some ⟨[(AV.sc (.string ⟨#[]⟩)), (AV.sc (.int .i64 (0))), (AV.sc (.int .i64 (0))), (AV.sc (.string ⟨#[]⟩))], 24⟩) :: (276, some ⟨[(AV.sc (.string s27)), (AV.sc (.int .i64 z28)), (AV.sc (.int .i64 z29)), (AV.sc (.string s30))], 24⟩) :: (276, some ⟨[(AV.sc (.string ⟨#[]⟩)), (AV.sc (.int .i64 (0))), (AV.sc (.int .i64 (0))), (AV.sc (.string ⟨#[]⟩))], 24⟩) :: (65, some ⟨[(AV.sc (.string s5)), (AV.sc (.int .i64 z6)), (AV.sc (.int .i64 z7)), (AV.sc (.string s8))], 24⟩) :: (65, some ⟨[(AV.sc (.string ⟨#[]⟩)), (AV.sc (.int .i64 (0))), (AV.sc (.int .i64 (0))), (AV.sc (.string ⟨#[]⟩))], 24⟩) :: []) [some (AV.sc (.bool false))])) else (
retL R ((349, some ⟨[(AV.sc (.string s41)), (AV.sc (.int .i64 z42)), (AV.sc (.int .i64 z43)), (AV.sc (.string s44))], 24⟩) :: (349, some ⟨[(AV.sc (.string ⟨#[]⟩)), (AV.sc (.int .i64 (0))), (AV.sc (.int .i64 (0))), (AV.sc (.string ⟨#[]⟩))], 24⟩) :: (276, some ⟨[(AV.sc (.string s27)), (AV.sc (.int .i64 z28)), (AV.sc (.int .i64 z29)), (AV.sc (.string s30))], 24⟩) :: (276, some ⟨[(AV.sc (.string ⟨#[]⟩)), (AV.sc (.int .i64 (0))), (AV.sc (.int .i64 (0))), (AV.sc (.string ⟨#[]⟩))], 24⟩) :: (65, some ⟨[(AV.sc (.string s5)), (AV.sc (.int .i64 z6)), (AV.sc (.int .i64 z7)), (AV.sc (.string s8))], 24⟩) :: (65, some ⟨[(AV.sc (.string ⟨#[]⟩)), (AV.sc (.int .i64 (0))), (AV.sc (.int .i64 (0))), (AV.sc (.string ⟨#[]⟩))], 24⟩) :: []) [some (AV.sc (.bool false))])) else (
retL R ((349, some ⟨[(AV.sc (.string s41)), (AV.sc (.int .i64 z42)), (AV.sc (.int .i64 z43)), (AV.sc (.string s44))], 24⟩) :: (349, some ⟨[(AV.sc (.string ⟨#[]⟩)), (AV.sc (.int .i64 (0))), (AV.sc (.int .i64 (0))), (AV.sc (.string ⟨#[]⟩))], 24⟩) :: (276, some ⟨[(AV.sc (.string s27)), (AV.sc (.int .i64 z28)), (AV.sc (.int .i64 z29)), (AV.sc (.string s30))], 24⟩) :: (276, some ⟨[(AV.sc (.string ⟨#[]⟩)), (AV.sc (.int .i64 (0))), (AV.sc (.int .i64 (0))), (AV.sc (.string ⟨#[]⟩))], 24⟩) :: (65, some ⟨[(AV.sc (.string s5)), (AV.sc (.int .i64 z6)), (AV.sc (.int .i64 z7)), (AV.sc (.string s8))], 24⟩) :: (65, some ⟨[(AV.sc (.string ⟨#[]⟩)), (AV.sc (.int .i64 (0))), (AV.sc (.int .i64 (0))), (AV.sc (.string ⟨#[]⟩))], 24⟩) :: []) [some (AV.sc (.bool false))])) else (
retL R ((349, some ⟨[(AV.sc (.string s41)), (AV.sc (.int .i64 z42)), (AV.sc (.int .i64 z43)), (AV.sc (.string s44))], 24⟩) :: (349, some ⟨[(AV.sc (.string ⟨#[]⟩)), (AV.sc (.int .i64 (0))), (AV.sc (.int .i64 (0))), (AV.sc (.string ⟨#[]⟩))], 24⟩) :: (276, some ⟨[(AV.sc (.string s27)), (AV.sc (.int .i64 z28)), (AV.sc (.int .i64 z29)), (AV.sc (.string s30))], 24⟩) :: (276, some ⟨[(AV.sc (.string ⟨#[]⟩)), (AV.sc (.int .i64 (0))), (AV.sc (.int .i64 (0))), (AV.sc (.string ⟨#[]⟩))], 24⟩) :: (65, some ⟨[(AV.sc (.string s5)), (AV.sc (.int .i64 z6)), (AV.sc (.int .i64 z7)), (AV.sc (.string s8))], 24⟩) :: (65, some ⟨[(AV.sc (.string ⟨#[]⟩)), (AV.sc (.int .i64 (0))), (AV.sc (.int .i64 (0))), (AV.sc (.string ⟨#[]⟩))], 24⟩) :: []) [some (AV.sc (.bool false))])
theorem F16_own (R : AV → Mem → Prop) (h : F16  R) : Own Tryd.prog KK.gl 16 [] R := own_of_F fol Tryd.func16 (code := c16) (by kernel_rfl) (by kernel_rfl) (by kernel_rfl) (X := F16  R) (by kernel_rfl) h
/- skyway/skywaykeep3.PhraseBacks -/
noncomputable def c5 : Code := ((Tryd.f5).body).getD .skip
noncomputable def q5 (R : AV → Mem → Prop) : AExit → St → Prop := retQ Tryd.prog Tryd.f5 R
noncomputable def F5 (a0_0 : ByteArray) (a0_1 : Int) (a0_2 : Int) (a0_3 : ByteArray) (R : AV → Mem → Prop) : Prop :=
callQ Tryd.prog KK.gl ((0, some ⟨[(AV.sc (.string a0_0)), (AV.sc (.int .i64 a0_1)), (AV.sc (.int .i64 a0_2)), (AV.sc (.string a0_3))], 24⟩) :: []) 16 [] fun v0 =>
exB v0 fun b1 =>
bif (!b1) then (
retL R ((0, some ⟨[(AV.sc (.string a0_0)), (AV.sc (.int .i64 a0_1)), (AV.sc (.int .i64 a0_2)), (AV.sc (.string a0_3))], 24⟩) :: []) [some (AV.sc (.bool false))]) else (
callQ Tryd.prog KK.gl ((0, some ⟨[(AV.sc (.string a0_0)), (AV.sc (.int .i64 a0_1)), (AV.sc (.int .i64 a0_2)), (AV.sc (.string a0_3))], 24⟩) :: []) 17 [(AV.agg [(AV.sc (.string a0_0)), (AV.sc (.int .i64 a0_1)), (AV.sc (.int .i64 a0_2)), (AV.sc (.string a0_3))])] fun v2 =>
exT2 v2 fun c3 c4 =>
exStr c3 fun s5 =>
ex_i64 c4 fun z6 =>
callQ Tryd.prog KK.gl ((0, some ⟨[(AV.sc (.string a0_0)), (AV.sc (.int .i64 a0_1)), (AV.sc (.int .i64 a0_2)), (AV.sc (.string a0_3))], 24⟩) :: []) 18 [(AV.agg [(AV.sc (.string a0_0)), (AV.sc (.int .i64 a0_1)), (AV.sc (.int .i64 a0_2)), (AV.sc (.string a0_3))])] fun v7 =>
exT2 v7 fun c8 c9 =>
exStr c8 fun s10 =>
ex_i64 c9 fun z11 =>
bif (z6 != (0)) then (
bif (z11 == z6) then (
bif ((s5).toList == ((⟨#[]⟩ : ByteArray)).toList) then (
retL R ((0, some ⟨[(AV.sc (.string a0_0)), (AV.sc (.int .i64 a0_1)), (AV.sc (.int .i64 a0_2)), (AV.sc (.string a0_3))], 24⟩) :: []) [some (AV.sc (.bool ((s10).toList == ((⟨#[]⟩ : ByteArray)).toList)))]) else (
retL R ((0, some ⟨[(AV.sc (.string a0_0)), (AV.sc (.int .i64 a0_1)), (AV.sc (.int .i64 a0_2)), (AV.sc (.string a0_3))], 24⟩) :: []) [some (AV.sc (.bool false))])) else (
retL R ((0, some ⟨[(AV.sc (.string a0_0)), (AV.sc (.int .i64 a0_1)), (AV.sc (.int .i64 a0_2)), (AV.sc (.string a0_3))], 24⟩) :: []) [some (AV.sc (.bool false))])) else (
callQ Tryd.prog KK.gl ((0, some ⟨[(AV.sc (.string a0_0)), (AV.sc (.int .i64 a0_1)), (AV.sc (.int .i64 a0_2)), (AV.sc (.string a0_3))], 24⟩) :: []) 19 [(AV.sc (.string s5))] fun v12 =>
exT3 v12 fun c13 c14 c15 =>
exA4 c13 fun c16 c17 c18 c19 =>
exStr c16 fun s20 =>
ex_i64 c17 fun z21 =>
ex_i64 c18 fun z22 =>
exStr c19 fun s23 =>
exB c14 fun b24 =>
ex_i64 c15 fun z25 =>
callQ Tryd.prog KK.gl ((278, some ⟨[(AV.sc (.string s20)), (AV.sc (.int .i64 z21)), (AV.sc (.int .i64 z22)), (AV.sc (.string s23))], 24⟩) :: (278, some ⟨[(AV.sc (.string ⟨#[]⟩)), (AV.sc (.int .i64 (0))), (AV.sc (.int .i64 (0))), (AV.sc (.string ⟨#[]⟩))], 24⟩) :: (0, some ⟨[(AV.sc (.string a0_0)), (AV.sc (.int .i64 a0_1)), (AV.sc (.int .i64 a0_2)), (AV.sc (.string a0_3))], 24⟩) :: []) 19 [(AV.sc (.string s10))] fun v26 =>
exT3 v26 fun c27 c28 c29 =>
exA4 c27 fun c30 c31 c32 c33 =>
exStr c30 fun s34 =>
ex_i64 c31 fun z35 =>
ex_i64 c32 fun z36 =>
exStr c33 fun s37 =>
exB c28 fun b38 =>
ex_i64 c29 fun z39 =>
bif (z11 == (0)) then (
bif (z25 == (0)) then (
bif (z39 == (0)) then (
opP (opA Tryd.prog (.binOp .eql 24 (.tmp 0) (.tmp 1) 24) 4 [(AV.agg [(AV.sc (.string a0_0)), (AV.sc (.int .i64 a0_1)), (AV.sc (.int .i64 a0_2)), (AV.sc (.string a0_3))]), (AV.agg [(AV.sc (.string s20)), (AV.sc (.int .i64 z21)), (AV.sc (.int .i64 z22)), (AV.sc (.string s23))])] (mget ((351, some ⟨[(AV.sc (.string s34)), (AV.sc (.int .i64 z35)), (AV.sc (.int .i64 z36)), (AV.sc (.string s37))], 24⟩) :: (351, some ⟨[(AV.sc (.string ⟨#[]⟩)), (AV.sc (.int .i64 (0))), (AV.sc (.int .i64 (0))), (AV.sc (.string ⟨#[]⟩))], 24⟩) :: (278, some ⟨[(AV.sc (.string s20)), (AV.sc (.int .i64 z21)), (AV.sc (.int .i64 z22)), (AV.sc (.string s23))], 24⟩) :: (278, some ⟨[(AV.sc (.string ⟨#[]⟩)), (AV.sc (.int .i64 (0))), (AV.sc (.int .i64 (0))), (AV.sc (.string ⟨#[]⟩))], 24⟩) :: (0, some ⟨[(AV.sc (.string a0_0)), (AV.sc (.int .i64 a0_1)), (AV.sc (.int .i64 a0_2)), (AV.sc (.string a0_3))], 24⟩) :: [])) 368) fun v40 =>
exB v40 fun b41 =>
bif b41 then (
opP (opA Tryd.prog (.binOp .eql 24 (.tmp 0) (.tmp 1) 24) 4 [(AV.agg [(AV.sc (.string a0_0)), (AV.sc (.int .i64 a0_1)), (AV.sc (.int .i64 a0_2)), (AV.sc (.string a0_3))]), (AV.agg [(AV.sc (.string s34)), (AV.sc (.int .i64 z35)), (AV.sc (.int .i64 z36)), (AV.sc (.string s37))])] (mget ((351, some ⟨[(AV.sc (.string s34)), (AV.sc (.int .i64 z35)), (AV.sc (.int .i64 z36)), (AV.sc (.string s37))], 24⟩) :: (351, some ⟨[(AV.sc (.string ⟨#[]⟩)), (AV.sc (.int .i64 (0))), (AV.sc (.int .i64 (0))), (AV.sc (.string ⟨#[]⟩))], 24⟩) :: (278, some ⟨[(AV.sc (.string s20)), (AV.sc (.int .i64 z21)), (AV.sc (.int .i64 z22)), (AV.sc (.string s23))], 24⟩) :: (278, some ⟨[(AV.sc (.string ⟨#[]⟩)), (AV.sc (.int .i64 (0))), (AV.sc (.int .i64 (0))), (AV.sc (.string ⟨#[]⟩))], 24⟩) :: (0, some ⟨[(AV.sc (.string a0_0)), (AV.sc (.int .i64 a0_1)), (AV.sc (.int .i64 a0_2)), (AV.sc (.string a0_3))], 24⟩) :: [])) 373) fun v42 =>
exB v42 fun b43 =>
bif b43 then (
bif (!b24) then (
retL R ((351, some ⟨[(AV.sc (.string s34)), (AV.sc (.int .i64 z35)), (AV.sc (.int .i64 z36)), (AV.sc (.string s37))], 24⟩) :: (351, some ⟨[(AV.sc (.string ⟨#[]⟩)), (AV.sc (.int .i64 (0))), (AV.sc (.int .i64 (0))), (AV.sc (.string ⟨#[]⟩))], 24⟩) :: (278, some ⟨[(AV.sc (.string s20)), (AV.sc (.int .i64 z21)), (AV.sc (.int .i64 z22)), (AV.sc (.string s23))], 24⟩) :: (278, some ⟨[(AV.sc (.string ⟨#[]⟩)), (AV.sc (.int .i64 (0))), (AV.sc (.int .i64 (0))), (AV.sc (.string ⟨#[]⟩))], 24⟩) :: (0, some ⟨[(AV.sc (.string a0_0)), (AV.sc (.int .i64 a0_1)), (AV.sc (.int .i64 a0_2)), (AV.sc (.string a0_3))], 24⟩) :: []) [some (AV.sc (.bool b38))]) else (
retL R ((351, some ⟨[(AV.sc (.string s34)), (AV.sc (.int .i64 z35)), (AV.sc (.int .i64 z36)), (AV.sc (.string s37))], 24⟩) :: (351, some ⟨[(AV.sc (.string ⟨#[]⟩)), (AV.sc (.int .i64 (0))), (AV.sc (.int .i64 (0))), (AV.sc (.string ⟨#[]⟩))], 24⟩) :: (278, some ⟨[(AV.sc (.string s20)), (AV.sc (.int .i64 z21)), (AV.sc (.int .i64 z22)), (AV.sc (.string s23))], 24⟩) :: (278, some ⟨[(AV.sc (.string ⟨#[]⟩)), (AV.sc (.int .i64 (0))), (AV.sc (.int .i64 (0))), (AV.sc (.string ⟨#[]⟩))], 24⟩) :: (0, some ⟨[(AV.sc (.string a0_0)), (AV.sc (.int .i64 a0_1)), (AV.sc (.int .i64 a0_2)), (AV.sc (.string a0_3))], 24⟩) :: []) [some (AV.sc (.bool false))])) else (
retL R ((351, some ⟨[(AV.sc (.string s34)), (AV.sc (.int .i64 z35)), (AV.sc (.int .i64 z36)), (AV.sc (.string s37))], 24⟩) :: (351, some ⟨[(AV.sc (.string ⟨#[]⟩)), (AV.sc (.int .i64 (0))), (AV.sc (.int .i64 (0))), (AV.sc (.string ⟨#[]⟩))], 24⟩) :: (278, some ⟨[(AV.sc (.string s20)), (AV.sc (.int .i64 z21)), (AV.sc (.int .i64 z22)), (AV.sc (.string s23))], 24⟩) :: (278, some ⟨[(AV.sc (.string ⟨#[]⟩)), (AV.sc (.int .i64 (0))), (AV.sc (.int .i64 (0))), (AV.sc (.string ⟨#[]⟩))], 24⟩) :: (0, some ⟨[(AV.sc (.string a0_0)), (AV.sc (.int .i64 a0_1)), (AV.sc (.int .i64 a0_2)), (AV.sc (.string a0_3))], 24⟩) :: []) [some (AV.sc (.bool false))])) else (
retL R ((351, some ⟨[(AV.sc (.string s34)), (AV.sc (.int .i64 z35)), (AV.sc (.int .i64 z36)), (AV.sc (.string s37))], 24⟩) :: (351, some ⟨[(AV.sc (.string ⟨#[]⟩)), (AV.sc (.int .i64 (0))), (AV.sc (.int .i64 (0))), (AV.sc (.string ⟨#[]⟩))], 24⟩) :: (278, some ⟨[(AV.sc (.string s20)), (AV.sc (.int .i64 z21)), (AV.sc (.int .i64 z22)), (AV.sc (.string s23))], 24⟩) :: (278, some ⟨[(AV.sc (.string ⟨#[]⟩)), (AV.sc (.int .i64 (0))), (AV.sc (.int .i64 (0))), (AV.sc (.string ⟨#[]⟩))], 24⟩) :: (0, some ⟨[(AV.sc (.string a0_0)), (AV.sc (.int .i64 a0_1)), (AV.sc (.int .i64 a0_2)), (AV.sc (.string a0_3))], 24⟩) :: []) [some (AV.sc (.bool false))])) else (
retL R ((351, some ⟨[(AV.sc (.string s34)), (AV.sc (.int .i64 z35)), (AV.sc (.int .i64 z36)), (AV.sc (.string s37))], 24⟩) :: (351, some ⟨[(AV.sc (.string ⟨#[]⟩)), (AV.sc (.int .i64 (0))), (AV.sc (.int .i64 (0))), (AV.sc (.string ⟨#[]⟩))], 24⟩) :: (278, some ⟨[(AV.sc (.string s20)), (AV.sc (.int .i64 z21)), (AV.sc (.int .i64 z22)), (AV.sc (.string s23))], 24⟩) :: (278, some ⟨[(AV.sc (.string ⟨#[]⟩)), (AV.sc (.int .i64 (0))), (AV.sc (.int .i64 (0))), (AV.sc (.string ⟨#[]⟩))], 24⟩) :: (0, some ⟨[(AV.sc (.string a0_0)), (AV.sc (.int .i64 a0_1)), (AV.sc (.int .i64 a0_2)), (AV.sc (.string a0_3))], 24⟩) :: []) [some (AV.sc (.bool false))])) else (
retL R ((351, some ⟨[(AV.sc (.string s34)), (AV.sc (.int .i64 z35)), (AV.sc (.int .i64 z36)), (AV.sc (.string s37))], 24⟩) :: (351, some ⟨[(AV.sc (.string ⟨#[]⟩)), (AV.sc (.int .i64 (0))), (AV.sc (.int .i64 (0))), (AV.sc (.string ⟨#[]⟩))], 24⟩) :: (278, some ⟨[(AV.sc (.string s20)), (AV.sc (.int .i64 z21)), (AV.sc (.int .i64 z22)), (AV.sc (.string s23))], 24⟩) :: (278, some ⟨[(AV.sc (.string ⟨#[]⟩)), (AV.sc (.int .i64 (0))), (AV.sc (.int .i64 (0))), (AV.sc (.string ⟨#[]⟩))], 24⟩) :: (0, some ⟨[(AV.sc (.string a0_0)), (AV.sc (.int .i64 a0_1)), (AV.sc (.int .i64 a0_2)), (AV.sc (.string a0_3))], 24⟩) :: []) [some (AV.sc (.bool false))])) else (
retL R ((351, some ⟨[(AV.sc (.string s34)), (AV.sc (.int .i64 z35)), (AV.sc (.int .i64 z36)), (AV.sc (.string s37))], 24⟩) :: (351, some ⟨[(AV.sc (.string ⟨#[]⟩)), (AV.sc (.int .i64 (0))), (AV.sc (.int .i64 (0))), (AV.sc (.string ⟨#[]⟩))], 24⟩) :: (278, some ⟨[(AV.sc (.string s20)), (AV.sc (.int .i64 z21)), (AV.sc (.int .i64 z22)), (AV.sc (.string s23))], 24⟩) :: (278, some ⟨[(AV.sc (.string ⟨#[]⟩)), (AV.sc (.int .i64 (0))), (AV.sc (.int .i64 (0))), (AV.sc (.string ⟨#[]⟩))], 24⟩) :: (0, some ⟨[(AV.sc (.string a0_0)), (AV.sc (.int .i64 a0_1)), (AV.sc (.int .i64 a0_2)), (AV.sc (.string a0_3))], 24⟩) :: []) [some (AV.sc (.bool false))])))
theorem F5_own (a0_0 : ByteArray) (a0_1 : Int) (a0_2 : Int) (a0_3 : ByteArray) (R : AV → Mem → Prop) (h : F5 a0_0 a0_1 a0_2 a0_3 R) : Own Tryd.prog KK.gl 5 [(AV.agg [(AV.sc (.string a0_0)), (AV.sc (.int .i64 a0_1)), (AV.sc (.int .i64 a0_2)), (AV.sc (.string a0_3))])] R := own_of_F fol Tryd.func5 (code := c5) (by kernel_rfl) (by kernel_rfl) (by kernel_rfl) (X := F5 a0_0 a0_1 a0_2 a0_3 R) (by kernel_rfl) h
/- skyway/skywaykeep3.PhraseReads -/
noncomputable def c6 : Code := ((Tryd.f6).body).getD .skip
noncomputable def q6 (R : AV → Mem → Prop) : AExit → St → Prop := retQ Tryd.prog Tryd.f6 R
noncomputable def F6 (a0 : ByteArray) (R : AV → Mem → Prop) : Prop :=
callQ Tryd.prog KK.gl [] 16 [] fun v0 =>
exB v0 fun b1 =>
bif (!b1) then (
retL R [] [some (AV.sc (.bool false))]) else (
callQ Tryd.prog KK.gl [] 19 [(AV.sc (.string a0))] fun v2 =>
exT3 v2 fun c3 c4 c5 =>
exA4 c3 fun c6 c7 c8 c9 =>
exStr c6 fun s10 =>
ex_i64 c7 fun z11 =>
ex_i64 c8 fun z12 =>
exStr c9 fun s13 =>
exB c4 fun b14 =>
ex_i64 c5 fun z15 =>
bif (z15 != (0)) then (
opP (bld [(AV.sc (.string ⟨#[]⟩)), (AV.sc (.int .i64 (0))), (AV.sc (.int .i64 (0))), (AV.sc (.string ⟨#[]⟩))] [(0, 1), (1, 1), (2, 1), (3, 1)] []) fun v16 =>
opP (opA Tryd.prog (.binOp .eql 24 (.tmp 0) (.tmp 1) 24) 4 [(AV.agg [(AV.sc (.string s10)), (AV.sc (.int .i64 z11)), (AV.sc (.int .i64 z12)), (AV.sc (.string s13))]), v16] (mget ((135, some ⟨[(AV.sc (.string s10)), (AV.sc (.int .i64 z11)), (AV.sc (.int .i64 z12)), (AV.sc (.string s13))], 24⟩) :: (135, some ⟨[(AV.sc (.string ⟨#[]⟩)), (AV.sc (.int .i64 (0))), (AV.sc (.int .i64 (0))), (AV.sc (.string ⟨#[]⟩))], 24⟩) :: [])) 143) fun v17 =>
exB v17 fun b18 =>
bif b18 then (
retL R ((135, some ⟨[(AV.sc (.string s10)), (AV.sc (.int .i64 z11)), (AV.sc (.int .i64 z12)), (AV.sc (.string s13))], 24⟩) :: (135, some ⟨[(AV.sc (.string ⟨#[]⟩)), (AV.sc (.int .i64 (0))), (AV.sc (.int .i64 (0))), (AV.sc (.string ⟨#[]⟩))], 24⟩) :: []) [some (AV.sc (.bool (!b14)))]) else (
retL R ((135, some ⟨[(AV.sc (.string s10)), (AV.sc (.int .i64 z11)), (AV.sc (.int .i64 z12)), (AV.sc (.string s13))], 24⟩) :: (135, some ⟨[(AV.sc (.string ⟨#[]⟩)), (AV.sc (.int .i64 (0))), (AV.sc (.int .i64 (0))), (AV.sc (.string ⟨#[]⟩))], 24⟩) :: []) [some (AV.sc (.bool false))])) else (
callQ Tryd.prog KK.gl ((135, some ⟨[(AV.sc (.string s10)), (AV.sc (.int .i64 z11)), (AV.sc (.int .i64 z12)), (AV.sc (.string s13))], 24⟩) :: (135, some ⟨[(AV.sc (.string ⟨#[]⟩)), (AV.sc (.int .i64 (0))), (AV.sc (.int .i64 (0))), (AV.sc (.string ⟨#[]⟩))], 24⟩) :: []) 17 [(AV.agg [(AV.sc (.string s10)), (AV.sc (.int .i64 z11)), (AV.sc (.int .i64 z12)), (AV.sc (.string s13))])] fun v19 =>
exT2 v19 fun c20 c21 =>
exStr c20 fun s22 =>
ex_i64 c21 fun z23 =>
bif b14 then (
callQ Tryd.prog KK.gl ((135, some ⟨[(AV.sc (.string s10)), (AV.sc (.int .i64 z11)), (AV.sc (.int .i64 z12)), (AV.sc (.string s13))], 24⟩) :: (135, some ⟨[(AV.sc (.string ⟨#[]⟩)), (AV.sc (.int .i64 (0))), (AV.sc (.int .i64 (0))), (AV.sc (.string ⟨#[]⟩))], 24⟩) :: []) 18 [(AV.agg [(AV.sc (.string s10)), (AV.sc (.int .i64 z11)), (AV.sc (.int .i64 z12)), (AV.sc (.string s13))])] fun v24 =>
exT2 v24 fun c25 c26 =>
exStr c25 fun s27 =>
ex_i64 c26 fun z28 =>
bif (z28 == (0)) then (
retL R ((135, some ⟨[(AV.sc (.string s10)), (AV.sc (.int .i64 z11)), (AV.sc (.int .i64 z12)), (AV.sc (.string s13))], 24⟩) :: (135, some ⟨[(AV.sc (.string ⟨#[]⟩)), (AV.sc (.int .i64 (0))), (AV.sc (.int .i64 (0))), (AV.sc (.string ⟨#[]⟩))], 24⟩) :: []) [some (AV.sc (.bool ((a0).toList == (s27).toList)))]) else (
retL R ((135, some ⟨[(AV.sc (.string s10)), (AV.sc (.int .i64 z11)), (AV.sc (.int .i64 z12)), (AV.sc (.string s13))], 24⟩) :: (135, some ⟨[(AV.sc (.string ⟨#[]⟩)), (AV.sc (.int .i64 (0))), (AV.sc (.int .i64 (0))), (AV.sc (.string ⟨#[]⟩))], 24⟩) :: []) [some (AV.sc (.bool false))])) else (
bif (z23 == (0)) then (
retL R ((135, some ⟨[(AV.sc (.string s10)), (AV.sc (.int .i64 z11)), (AV.sc (.int .i64 z12)), (AV.sc (.string s13))], 24⟩) :: (135, some ⟨[(AV.sc (.string ⟨#[]⟩)), (AV.sc (.int .i64 (0))), (AV.sc (.int .i64 (0))), (AV.sc (.string ⟨#[]⟩))], 24⟩) :: []) [some (AV.sc (.bool ((a0).toList == (s22).toList)))]) else (
retL R ((135, some ⟨[(AV.sc (.string s10)), (AV.sc (.int .i64 z11)), (AV.sc (.int .i64 z12)), (AV.sc (.string s13))], 24⟩) :: (135, some ⟨[(AV.sc (.string ⟨#[]⟩)), (AV.sc (.int .i64 (0))), (AV.sc (.int .i64 (0))), (AV.sc (.string ⟨#[]⟩))], 24⟩) :: []) [some (AV.sc (.bool false))]))))
theorem F6_own (a0 : ByteArray) (R : AV → Mem → Prop) (h : F6 a0 R) : Own Tryd.prog KK.gl 6 [(AV.sc (.string a0))] R := own_of_F fol Tryd.func6 (code := c6) (by kernel_rfl) (by kernel_rfl) (by kernel_rfl) (X := F6 a0 R) (by kernel_rfl) h
/- skyway/readback.Compare -/
noncomputable def c20 : Code := ((Tryd.f20).body).getD .skip
noncomputable def q20 (R : AV → Mem → Prop) : AExit → St → Prop := retQ Tryd.prog Tryd.f20 R
noncomputable def c20_0 : Code := loopB c20 0
noncomputable def q20_0 (R : AV → Mem → Prop) : AExit → St → Prop := contW Tryd.prog KK 64 0 c20 0 (q20 R)
noncomputable def qq20_0 (R : AV → Mem → Prop) (N0 : St → Prop) : AExit → St → Prop := thenQ N0 (q20_0 R)
def h20_0 (t4 : Int) (t5 : Int) (t14 : AV) (t15 : Int) (t16 : Int) (m : Mem) : St := ⟨[(2, (AV.ptr 0 0)), (3, (AV.ptr 1 0)), (4, (AV.sc (.int .i64 t4))), (5, (AV.sc (.int .i64 t5))), (14, t14), (15, (AV.sc (.int .i64 t15))), (16, (AV.sc (.int .i64 t16)))], m, 100000⟩
noncomputable def c20_1 : Code := loopB c20 1
noncomputable def q20_1 (R : AV → Mem → Prop) : AExit → St → Prop := contW Tryd.prog KK 64 0 c20 1 (q20 R)
noncomputable def qq20_1 (R : AV → Mem → Prop) (N0 : St → Prop) : AExit → St → Prop := thenQ N0 (q20_1 R)
def h20_1 (t4 : Int) (t5 : Int) (t9 : Int) (t50 : AV) (t51 : Int) (t52 : Int) (m : Mem) : St := ⟨[(4, (AV.sc (.int .i64 t4))), (5, (AV.sc (.int .i64 t5))), (9, (AV.sc (.int .i64 t9))), (50, t50), (51, (AV.sc (.int .i64 t51))), (52, (AV.sc (.int .i64 t52)))], m, 200000⟩
noncomputable def B20_0 (t4 : Int) (t5 : Int) (t14 : AV) (t15 : Int) (t16 : Int) (m : Mem) (R : AV → Mem → Prop) (N0 : St → Prop) : Prop :=
bif (decide (t16 < t15)) then (
opP (idxS 4 t14 (AV.sc (.int .i64 t16))) fun v3 =>
opP (ldA (mget m) 4 v3) fun v4 =>
exA4 v4 fun c5 c6 c7 c8 =>
exStr c5 fun s9 =>
ex_i64 c6 fun z10 =>
ex_i64 c7 fun z11 =>
exStr c8 fun s12 =>
callQ Tryd.prog KK.gl ((100003, some ⟨[(AV.sc (.string s9)), (AV.sc (.int .i64 z10)), (AV.sc (.int .i64 z11)), (AV.sc (.string s12))], 24⟩) :: (100003, some ⟨[(AV.sc (.string ⟨#[]⟩)), (AV.sc (.int .i64 (0))), (AV.sc (.int .i64 (0))), (AV.sc (.string ⟨#[]⟩))], 24⟩) :: m) 32 [(AV.agg [(AV.sc (.string s9)), (AV.sc (.int .i64 z10)), (AV.sc (.int .i64 z11)), (AV.sc (.string s12))])] fun v13 =>
ex_i64 v13 fun z14 =>
bif (z14 != (0)) then (
retL R ((100003, some ⟨[(AV.sc (.string s9)), (AV.sc (.int .i64 z10)), (AV.sc (.int .i64 z11)), (AV.sc (.string s12))], 24⟩) :: (100003, some ⟨[(AV.sc (.string ⟨#[]⟩)), (AV.sc (.int .i64 (0))), (AV.sc (.int .i64 (0))), (AV.sc (.string ⟨#[]⟩))], 24⟩) :: m) [some (AV.sc (.int .i64 (0))), some (AV.sc (.int .i64 z14))]) else (
N0 ⟨[(2, (AV.ptr 0 0)), (3, (AV.ptr 1 0)), (4, (AV.sc (.int .i64 t4))), (5, (AV.sc (.int .i64 t5))), (14, t14), (15, (AV.sc (.int .i64 t15))), (16, (AV.sc (.int .i64 (IntKind.wrap .i64 (t16 + (1)))))), (17, (AV.sc (.bool (decide (t16 < t15))))), (18, v3), (19, (AV.agg [(AV.sc (.string s9)), (AV.sc (.int .i64 z10)), (AV.sc (.int .i64 z11)), (AV.sc (.string s12))])), (7, (AV.ptr 100003 0)), (20, (AV.agg [(AV.sc (.string s9)), (AV.sc (.int .i64 z10)), (AV.sc (.int .i64 z11)), (AV.sc (.string s12))])), (21, (AV.sc (.int .i64 z14))), (8, (AV.sc (.int .i64 z14))), (22, (AV.sc (.int .i64 z14))), (23, (AV.sc (.bool (z14 != (0))))), (25, (AV.sc (.int .i64 (IntKind.wrap .i64 (t16 + (1))))))], ((100003, some ⟨[(AV.sc (.string s9)), (AV.sc (.int .i64 z10)), (AV.sc (.int .i64 z11)), (AV.sc (.string s12))], 24⟩) :: (100003, some ⟨[(AV.sc (.string ⟨#[]⟩)), (AV.sc (.int .i64 (0))), (AV.sc (.int .i64 (0))), (AV.sc (.string ⟨#[]⟩))], 24⟩) :: m), 100075⟩)) else (
opP (ldS (mget m) (AV.ptr 0 0)) fun v15 =>
exStr v15 fun s16 =>
opP (ldS (mget m) (AV.ptr 1 0)) fun v17 =>
exStr v17 fun s18 =>
opP (bld [(AV.sc (.bool false)), (AV.sc (.int .i64 (0)))] [(0, 1), (1, 1)] [(0, (AV.sc (.bool (!((s16).toList == (s18).toList))))), (1, (AV.sc (.int .i64 (1))))]) fun v19 =>
opP (ldS (mget m) (AV.ptr 0 1)) fun v20 =>
ex_i64 v20 fun z21 =>
opP (ldS (mget m) (AV.ptr 1 1)) fun v22 =>
ex_i64 v22 fun z23 =>
opP (bld [(AV.sc (.bool false)), (AV.sc (.int .i64 (0)))] [(0, 1), (1, 1)] [(0, (AV.sc (.bool (z21 != z23)))), (1, (AV.sc (.int .i64 (2))))]) fun v24 =>
opP (ldS (mget m) (AV.ptr 0 2)) fun v25 =>
ex_i64 v25 fun z26 =>
opP (ldS (mget m) (AV.ptr 1 2)) fun v27 =>
ex_i64 v27 fun z28 =>
opP (bld [(AV.sc (.bool false)), (AV.sc (.int .i64 (0)))] [(0, 1), (1, 1)] [(0, (AV.sc (.bool (z26 != z28)))), (1, (AV.sc (.int .i64 (4))))]) fun v29 =>
opP (ldS (mget m) (AV.ptr 0 3)) fun v30 =>
exStr v30 fun s31 =>
opP (ldS (mget m) (AV.ptr 1 3)) fun v32 =>
exStr v32 fun s33 =>
opP (bld [(AV.sc (.bool false)), (AV.sc (.int .i64 (0)))] [(0, 1), (1, 1)] [(0, (AV.sc (.bool (!((s31).toList == (s33).toList))))), (1, (AV.sc (.int .i64 (8))))]) fun v34 =>
opN (bsl 100026 67 2 4 [(AV.sc (.bool false)), (AV.sc (.int .i64 (0)))] [(0, v19), (1, v24), (2, v29), (3, v34)]) m fun v35 m35 =>
opP (lenS v35) fun v36 =>
ex_i64 v36 fun z37 =>
Tri Tryd.prog KK 64 0 (.loop c20_1) ⟨[(2, (AV.ptr 0 0)), (3, (AV.ptr 1 0)), (4, (AV.sc (.int .i64 t4))), (5, (AV.sc (.int .i64 t5))), (14, t14), (15, (AV.sc (.int .i64 t15))), (16, (AV.sc (.int .i64 t16))), (17, (AV.sc (.bool (decide (t16 < t15))))), (9, (AV.sc (.int .i64 (0)))), (26, (AV.ptr 0 0)), (27, (AV.sc (.string s16))), (28, (AV.ptr 1 0)), (29, (AV.sc (.string s18))), (30, (AV.sc (.bool (!((s16).toList == (s18).toList))))), (31, v19), (32, (AV.ptr 0 1)), (33, (AV.sc (.int .i64 z21))), (34, (AV.ptr 1 1)), (35, (AV.sc (.int .i64 z23))), (36, (AV.sc (.bool (z21 != z23)))), (37, v24), (38, (AV.ptr 0 2)), (39, (AV.sc (.int .i64 z26))), (40, (AV.ptr 1 2)), (41, (AV.sc (.int .i64 z28))), (42, (AV.sc (.bool (z26 != z28)))), (43, v29), (44, (AV.ptr 0 3)), (45, (AV.sc (.string s31))), (46, (AV.ptr 1 3)), (47, (AV.sc (.string s33))), (48, (AV.sc (.bool (!((s31).toList == (s33).toList))))), (49, v34), (50, v35), (51, (AV.sc (.int .i64 z37))), (52, (AV.sc (.int .i64 (0))))], m35, 100029⟩ (q20_1 R))
theorem B20_0_eq (t4 : Int) (t5 : Int) (t14 : AV) (t15 : Int) (t16 : Int) (m : Mem) (R : AV → Mem → Prop) (N0 : St → Prop) : W Tryd.prog KK 64 0 c20_0 (h20_0 t4 t5 t14 t15 t16 m) (qq20_0 R N0) = B20_0 t4 t5 t14 t15 t16 m R N0 := by kernel_rfl
theorem L20_0 (R : AV → Mem → Prop) {σ : Type} (I : σ → Prop) (t4 : σ → Int) (t5 : σ → Int) (t14 : σ → AV) (t15 : σ → Int) (t16 : σ → Int) (m : σ → Mem) (μ : σ → Nat) (step : ∀ x, I x → B20_0 (t4 x) (t5 x) (t14 x) (t15 x) (t16 x) (m x) R (fun s' => ∃ y, I y ∧ μ y < μ x ∧ Weak KK 64 0 s' (h20_0 (t4 y) (t5 y) (t14 y) (t15 y) (t16 y) (m y)))) (x : σ) (hx : I x) {s : St} (hw : Weak KK 64 0 s (h20_0 (t4 x) (t5 x) (t14 x) (t15 x) (t16 x) (m x))) : Tri Tryd.prog KK 64 0 (.loop c20_0) s (q20_0 R) :=
  Tri.weak hw (Tri.loops fol I (fun x => h20_0 (t4 x) (t5 x) (t14 x) (t15 x) (t16 x) (m x)) μ (fun x hx => (B20_0_eq (t4 x) (t5 x) (t14 x) (t15 x) (t16 x) (m x) R _).mpr (step x hx)) x hx)
noncomputable def B20_1 (t4 : Int) (t5 : Int) (t9 : Int) (t50 : AV) (t51 : Int) (t52 : Int) (m : Mem) (R : AV → Mem → Prop) (N0 : St → Prop) : Prop :=
bif (decide (t52 < t51)) then (
opP (idxS 2 t50 (AV.sc (.int .i64 t52))) fun v38 =>
opP (ldA (mget m) 2 v38) fun v39 =>
exA2 v39 fun c40 c41 =>
exB c40 fun b42 =>
ex_i64 c41 fun z43 =>
bif b42 then (
N0 ⟨[(4, (AV.sc (.int .i64 t4))), (5, (AV.sc (.int .i64 t5))), (9, (AV.sc (.int .i64 (IntKind.wrap .i64 (t9 + z43))))), (50, t50), (51, (AV.sc (.int .i64 t51))), (52, (AV.sc (.int .i64 (IntKind.wrap .i64 (t52 + (1)))))), (53, (AV.sc (.bool (decide (t52 < t51))))), (54, v38), (55, (AV.agg [(AV.sc (.bool b42)), (AV.sc (.int .i64 z43))])), (11, (AV.ptr 200003 0)), (56, (AV.ptr 200003 0)), (57, (AV.sc (.bool b42))), (58, (AV.sc (.int .i64 t9))), (59, (AV.ptr 200003 1)), (60, (AV.sc (.int .i64 z43))), (61, (AV.sc (.int .i64 (IntKind.wrap .i64 (t9 + z43))))), (62, (AV.sc (.int .i64 (IntKind.wrap .i64 (t52 + (1))))))], ((200003, some ⟨[(AV.sc (.bool b42)), (AV.sc (.int .i64 z43))], 67⟩) :: (200003, some ⟨[(AV.sc (.bool false)), (AV.sc (.int .i64 (0)))], 67⟩) :: m), 200014⟩) else (
N0 ⟨[(4, (AV.sc (.int .i64 t4))), (5, (AV.sc (.int .i64 t5))), (9, (AV.sc (.int .i64 t9))), (50, t50), (51, (AV.sc (.int .i64 t51))), (52, (AV.sc (.int .i64 (IntKind.wrap .i64 (t52 + (1)))))), (53, (AV.sc (.bool (decide (t52 < t51))))), (54, v38), (55, (AV.agg [(AV.sc (.bool b42)), (AV.sc (.int .i64 z43))])), (11, (AV.ptr 200003 0)), (56, (AV.ptr 200003 0)), (57, (AV.sc (.bool b42))), (62, (AV.sc (.int .i64 (IntKind.wrap .i64 (t52 + (1))))))], ((200003, some ⟨[(AV.sc (.bool b42)), (AV.sc (.int .i64 z43))], 67⟩) :: (200003, some ⟨[(AV.sc (.bool false)), (AV.sc (.int .i64 (0)))], 67⟩) :: m), 200009⟩)) else (
retL R m [some (AV.sc (.int .i64 t9)), some (AV.sc (.int .i64 (0)))])
theorem B20_1_eq (t4 : Int) (t5 : Int) (t9 : Int) (t50 : AV) (t51 : Int) (t52 : Int) (m : Mem) (R : AV → Mem → Prop) (N0 : St → Prop) : W Tryd.prog KK 64 0 c20_1 (h20_1 t4 t5 t9 t50 t51 t52 m) (qq20_1 R N0) = B20_1 t4 t5 t9 t50 t51 t52 m R N0 := by kernel_rfl
theorem L20_1 (R : AV → Mem → Prop) {σ : Type} (I : σ → Prop) (t4 : σ → Int) (t5 : σ → Int) (t9 : σ → Int) (t50 : σ → AV) (t51 : σ → Int) (t52 : σ → Int) (m : σ → Mem) (μ : σ → Nat) (step : ∀ x, I x → B20_1 (t4 x) (t5 x) (t9 x) (t50 x) (t51 x) (t52 x) (m x) R (fun s' => ∃ y, I y ∧ μ y < μ x ∧ Weak KK 64 0 s' (h20_1 (t4 y) (t5 y) (t9 y) (t50 y) (t51 y) (t52 y) (m y)))) (x : σ) (hx : I x) {s : St} (hw : Weak KK 64 0 s (h20_1 (t4 x) (t5 x) (t9 x) (t50 x) (t51 x) (t52 x) (m x))) : Tri Tryd.prog KK 64 0 (.loop c20_1) s (q20_1 R) :=
  Tri.weak hw (Tri.loops fol I (fun x => h20_1 (t4 x) (t5 x) (t9 x) (t50 x) (t51 x) (t52 x) (m x)) μ (fun x hx => (B20_1_eq (t4 x) (t5 x) (t9 x) (t50 x) (t51 x) (t52 x) (m x) R _).mpr (step x hx)) x hx)
noncomputable def F20 (a0_0 : ByteArray) (a0_1 : Int) (a0_2 : Int) (a0_3 : ByteArray) (a1_0 : ByteArray) (a1_1 : Int) (a1_2 : Int) (a1_3 : ByteArray) (R : AV → Mem → Prop) : Prop :=
opN (bsl 6 24 4 2 [(AV.sc (.string ⟨#[]⟩)), (AV.sc (.int .i64 (0))), (AV.sc (.int .i64 (0))), (AV.sc (.string ⟨#[]⟩))] [(0, (AV.agg [(AV.sc (.string a0_0)), (AV.sc (.int .i64 a0_1)), (AV.sc (.int .i64 a0_2)), (AV.sc (.string a0_3))])), (1, (AV.agg [(AV.sc (.string a1_0)), (AV.sc (.int .i64 a1_1)), (AV.sc (.int .i64 a1_2)), (AV.sc (.string a1_3))]))]) ((1, some ⟨[(AV.sc (.string a1_0)), (AV.sc (.int .i64 a1_1)), (AV.sc (.int .i64 a1_2)), (AV.sc (.string a1_3))], 24⟩) :: (0, some ⟨[(AV.sc (.string a0_0)), (AV.sc (.int .i64 a0_1)), (AV.sc (.int .i64 a0_2)), (AV.sc (.string a0_3))], 24⟩) :: []) fun v0 m0 =>
opP (lenS v0) fun v1 =>
ex_i64 v1 fun z2 =>
Tri Tryd.prog KK 64 0 (.loop c20_0) ⟨[(0, (AV.agg [(AV.sc (.string a0_0)), (AV.sc (.int .i64 a0_1)), (AV.sc (.int .i64 a0_2)), (AV.sc (.string a0_3))])), (1, (AV.agg [(AV.sc (.string a1_0)), (AV.sc (.int .i64 a1_1)), (AV.sc (.int .i64 a1_2)), (AV.sc (.string a1_3))])), (2, (AV.ptr 0 0)), (3, (AV.ptr 1 0)), (4, (AV.sc (.int .i64 (0)))), (5, (AV.sc (.int .i64 (0)))), (12, (AV.agg [(AV.sc (.string a0_0)), (AV.sc (.int .i64 a0_1)), (AV.sc (.int .i64 a0_2)), (AV.sc (.string a0_3))])), (13, (AV.agg [(AV.sc (.string a1_0)), (AV.sc (.int .i64 a1_1)), (AV.sc (.int .i64 a1_2)), (AV.sc (.string a1_3))])), (14, v0), (15, (AV.sc (.int .i64 z2))), (16, (AV.sc (.int .i64 (0))))], m0, 9⟩ (q20_0 R)
theorem F20_own (a0_0 : ByteArray) (a0_1 : Int) (a0_2 : Int) (a0_3 : ByteArray) (a1_0 : ByteArray) (a1_1 : Int) (a1_2 : Int) (a1_3 : ByteArray) (R : AV → Mem → Prop) (h : F20 a0_0 a0_1 a0_2 a0_3 a1_0 a1_1 a1_2 a1_3 R) : Own Tryd.prog KK.gl 20 [(AV.agg [(AV.sc (.string a0_0)), (AV.sc (.int .i64 a0_1)), (AV.sc (.int .i64 a0_2)), (AV.sc (.string a0_3))]), (AV.agg [(AV.sc (.string a1_0)), (AV.sc (.int .i64 a1_1)), (AV.sc (.int .i64 a1_2)), (AV.sc (.string a1_3))])] R := own_of_F fol Tryd.func20 (code := c20) (by kernel_rfl) (by kernel_rfl) (by kernel_rfl) (X := F20 a0_0 a0_1 a0_2 a0_3 a1_0 a1_1 a1_2 a1_3 R) (by kernel_rfl) h
/- skyway/skywaykeep3.ReadbackTexts -/
noncomputable def c7 : Code := ((Tryd.f7).body).getD .skip
noncomputable def q7 (R : AV → Mem → Prop) : AExit → St → Prop := retQ Tryd.prog Tryd.f7 R
noncomputable def F7 (a0_0 : ByteArray) (a0_1 : Int) (a0_2 : Int) (a0_3 : ByteArray) (a1_0 : ByteArray) (a1_1 : Int) (a1_2 : Int) (a1_3 : ByteArray) (R : AV → Mem → Prop) : Prop :=
callQ Tryd.prog KK.gl ((1, some ⟨[(AV.sc (.string a1_0)), (AV.sc (.int .i64 a1_1)), (AV.sc (.int .i64 a1_2)), (AV.sc (.string a1_3))], 24⟩) :: (0, some ⟨[(AV.sc (.string a0_0)), (AV.sc (.int .i64 a0_1)), (AV.sc (.int .i64 a0_2)), (AV.sc (.string a0_3))], 24⟩) :: []) 8 [] fun v0 =>
exB v0 fun b1 =>
bif (!b1) then (
retL R ((1, some ⟨[(AV.sc (.string a1_0)), (AV.sc (.int .i64 a1_1)), (AV.sc (.int .i64 a1_2)), (AV.sc (.string a1_3))], 24⟩) :: (0, some ⟨[(AV.sc (.string a0_0)), (AV.sc (.int .i64 a0_1)), (AV.sc (.int .i64 a0_2)), (AV.sc (.string a0_3))], 24⟩) :: []) [some (AV.sc (.bool false))]) else (
callQ Tryd.prog KK.gl ((1, some ⟨[(AV.sc (.string a1_0)), (AV.sc (.int .i64 a1_1)), (AV.sc (.int .i64 a1_2)), (AV.sc (.string a1_3))], 24⟩) :: (0, some ⟨[(AV.sc (.string a0_0)), (AV.sc (.int .i64 a0_1)), (AV.sc (.int .i64 a0_2)), (AV.sc (.string a0_3))], 24⟩) :: []) 16 [] fun v2 =>
exB v2 fun b3 =>
bif (!b3) then (
retL R ((1, some ⟨[(AV.sc (.string a1_0)), (AV.sc (.int .i64 a1_1)), (AV.sc (.int .i64 a1_2)), (AV.sc (.string a1_3))], 24⟩) :: (0, some ⟨[(AV.sc (.string a0_0)), (AV.sc (.int .i64 a0_1)), (AV.sc (.int .i64 a0_2)), (AV.sc (.string a0_3))], 24⟩) :: []) [some (AV.sc (.bool false))]) else (
callQ Tryd.prog KK.gl ((1, some ⟨[(AV.sc (.string a1_0)), (AV.sc (.int .i64 a1_1)), (AV.sc (.int .i64 a1_2)), (AV.sc (.string a1_3))], 24⟩) :: (0, some ⟨[(AV.sc (.string a0_0)), (AV.sc (.int .i64 a0_1)), (AV.sc (.int .i64 a0_2)), (AV.sc (.string a0_3))], 24⟩) :: []) 20 [(AV.agg [(AV.sc (.string a0_0)), (AV.sc (.int .i64 a0_1)), (AV.sc (.int .i64 a0_2)), (AV.sc (.string a0_3))]), (AV.agg [(AV.sc (.string a1_0)), (AV.sc (.int .i64 a1_1)), (AV.sc (.int .i64 a1_2)), (AV.sc (.string a1_3))])] fun v4 =>
exT2 v4 fun c5 c6 =>
ex_i64 c5 fun z7 =>
ex_i64 c6 fun z8 =>
bif (z8 != (0)) then (
retL R ((1, some ⟨[(AV.sc (.string a1_0)), (AV.sc (.int .i64 a1_1)), (AV.sc (.int .i64 a1_2)), (AV.sc (.string a1_3))], 24⟩) :: (0, some ⟨[(AV.sc (.string a0_0)), (AV.sc (.int .i64 a0_1)), (AV.sc (.int .i64 a0_2)), (AV.sc (.string a0_3))], 24⟩) :: []) [some (AV.sc (.bool (z7 == (0))))]) else (
callQ Tryd.prog KK.gl ((1, some ⟨[(AV.sc (.string a1_0)), (AV.sc (.int .i64 a1_1)), (AV.sc (.int .i64 a1_2)), (AV.sc (.string a1_3))], 24⟩) :: (0, some ⟨[(AV.sc (.string a0_0)), (AV.sc (.int .i64 a0_1)), (AV.sc (.int .i64 a0_2)), (AV.sc (.string a0_3))], 24⟩) :: []) 17 [(AV.agg [(AV.sc (.string a0_0)), (AV.sc (.int .i64 a0_1)), (AV.sc (.int .i64 a0_2)), (AV.sc (.string a0_3))])] fun v9 =>
exT2 v9 fun c10 c11 =>
exStr c10 fun s12 =>
ex_i64 c11 fun z13 =>
callQ Tryd.prog KK.gl ((1, some ⟨[(AV.sc (.string a1_0)), (AV.sc (.int .i64 a1_1)), (AV.sc (.int .i64 a1_2)), (AV.sc (.string a1_3))], 24⟩) :: (0, some ⟨[(AV.sc (.string a0_0)), (AV.sc (.int .i64 a0_1)), (AV.sc (.int .i64 a0_2)), (AV.sc (.string a0_3))], 24⟩) :: []) 17 [(AV.agg [(AV.sc (.string a1_0)), (AV.sc (.int .i64 a1_1)), (AV.sc (.int .i64 a1_2)), (AV.sc (.string a1_3))])] fun v14 =>
exT2 v14 fun c15 c16 =>
exStr c15 fun s17 =>
ex_i64 c16 fun z18 =>
callQ Tryd.prog KK.gl ((1, some ⟨[(AV.sc (.string a1_0)), (AV.sc (.int .i64 a1_1)), (AV.sc (.int .i64 a1_2)), (AV.sc (.string a1_3))], 24⟩) :: (0, some ⟨[(AV.sc (.string a0_0)), (AV.sc (.int .i64 a0_1)), (AV.sc (.int .i64 a0_2)), (AV.sc (.string a0_3))], 24⟩) :: []) 20 [(AV.agg [(AV.sc (.string a1_0)), (AV.sc (.int .i64 a1_1)), (AV.sc (.int .i64 a1_2)), (AV.sc (.string a1_3))]), (AV.agg [(AV.sc (.string a0_0)), (AV.sc (.int .i64 a0_1)), (AV.sc (.int .i64 a0_2)), (AV.sc (.string a0_3))])] fun v19 =>
exT2 v19 fun c20 c21 =>
ex_i64 c20 fun z22 =>
ex_i64 c21 fun z23 =>
bif (z13 == (0)) then (
bif (z18 == (0)) then (
bif (z23 == (0)) then (
opP (opA Tryd.prog (.binOp .eql 4 (.tmp 0) (.tmp 1) 4) 4 [(AV.sc (.bool ((s12).toList == (s17).toList))), (AV.sc (.bool (z7 == (0))))] (mget ((1, some ⟨[(AV.sc (.string a1_0)), (AV.sc (.int .i64 a1_1)), (AV.sc (.int .i64 a1_2)), (AV.sc (.string a1_3))], 24⟩) :: (0, some ⟨[(AV.sc (.string a0_0)), (AV.sc (.int .i64 a0_1)), (AV.sc (.int .i64 a0_2)), (AV.sc (.string a0_3))], 24⟩) :: [])) 435) fun v24 =>
exB v24 fun b25 =>
bif b25 then (
bif (z22 == z7) then (
bif (decide (z7 ≥ (0))) then (
retL R ((1, some ⟨[(AV.sc (.string a1_0)), (AV.sc (.int .i64 a1_1)), (AV.sc (.int .i64 a1_2)), (AV.sc (.string a1_3))], 24⟩) :: (0, some ⟨[(AV.sc (.string a0_0)), (AV.sc (.int .i64 a0_1)), (AV.sc (.int .i64 a0_2)), (AV.sc (.string a0_3))], 24⟩) :: []) [some (AV.sc (.bool (decide (z7 < (16)))))]) else (
retL R ((1, some ⟨[(AV.sc (.string a1_0)), (AV.sc (.int .i64 a1_1)), (AV.sc (.int .i64 a1_2)), (AV.sc (.string a1_3))], 24⟩) :: (0, some ⟨[(AV.sc (.string a0_0)), (AV.sc (.int .i64 a0_1)), (AV.sc (.int .i64 a0_2)), (AV.sc (.string a0_3))], 24⟩) :: []) [some (AV.sc (.bool false))])) else (
retL R ((1, some ⟨[(AV.sc (.string a1_0)), (AV.sc (.int .i64 a1_1)), (AV.sc (.int .i64 a1_2)), (AV.sc (.string a1_3))], 24⟩) :: (0, some ⟨[(AV.sc (.string a0_0)), (AV.sc (.int .i64 a0_1)), (AV.sc (.int .i64 a0_2)), (AV.sc (.string a0_3))], 24⟩) :: []) [some (AV.sc (.bool false))])) else (
retL R ((1, some ⟨[(AV.sc (.string a1_0)), (AV.sc (.int .i64 a1_1)), (AV.sc (.int .i64 a1_2)), (AV.sc (.string a1_3))], 24⟩) :: (0, some ⟨[(AV.sc (.string a0_0)), (AV.sc (.int .i64 a0_1)), (AV.sc (.int .i64 a0_2)), (AV.sc (.string a0_3))], 24⟩) :: []) [some (AV.sc (.bool false))])) else (
retL R ((1, some ⟨[(AV.sc (.string a1_0)), (AV.sc (.int .i64 a1_1)), (AV.sc (.int .i64 a1_2)), (AV.sc (.string a1_3))], 24⟩) :: (0, some ⟨[(AV.sc (.string a0_0)), (AV.sc (.int .i64 a0_1)), (AV.sc (.int .i64 a0_2)), (AV.sc (.string a0_3))], 24⟩) :: []) [some (AV.sc (.bool false))])) else (
retL R ((1, some ⟨[(AV.sc (.string a1_0)), (AV.sc (.int .i64 a1_1)), (AV.sc (.int .i64 a1_2)), (AV.sc (.string a1_3))], 24⟩) :: (0, some ⟨[(AV.sc (.string a0_0)), (AV.sc (.int .i64 a0_1)), (AV.sc (.int .i64 a0_2)), (AV.sc (.string a0_3))], 24⟩) :: []) [some (AV.sc (.bool false))])) else (
retL R ((1, some ⟨[(AV.sc (.string a1_0)), (AV.sc (.int .i64 a1_1)), (AV.sc (.int .i64 a1_2)), (AV.sc (.string a1_3))], 24⟩) :: (0, some ⟨[(AV.sc (.string a0_0)), (AV.sc (.int .i64 a0_1)), (AV.sc (.int .i64 a0_2)), (AV.sc (.string a0_3))], 24⟩) :: []) [some (AV.sc (.bool false))]))))
theorem F7_own (a0_0 : ByteArray) (a0_1 : Int) (a0_2 : Int) (a0_3 : ByteArray) (a1_0 : ByteArray) (a1_1 : Int) (a1_2 : Int) (a1_3 : ByteArray) (R : AV → Mem → Prop) (h : F7 a0_0 a0_1 a0_2 a0_3 a1_0 a1_1 a1_2 a1_3 R) : Own Tryd.prog KK.gl 7 [(AV.agg [(AV.sc (.string a0_0)), (AV.sc (.int .i64 a0_1)), (AV.sc (.int .i64 a0_2)), (AV.sc (.string a0_3))]), (AV.agg [(AV.sc (.string a1_0)), (AV.sc (.int .i64 a1_1)), (AV.sc (.int .i64 a1_2)), (AV.sc (.string a1_3))])] R := own_of_F fol Tryd.func7 (code := c7) (by kernel_rfl) (by kernel_rfl) (by kernel_rfl) (X := F7 a0_0 a0_1 a0_2 a0_3 a1_0 a1_1 a1_2 a1_3 R) (by kernel_rfl) h
end Go.Proofs.YtnechdhngpajbaaDoor
