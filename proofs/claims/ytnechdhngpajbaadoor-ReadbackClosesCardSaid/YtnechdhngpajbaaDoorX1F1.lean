/- Functions of the program as conditions on their answers; printed by wip/Gen.lean.txt. -/
import Derived.Test.YtnechdhngpajbaaDoorX1T
set_option linter.unusedVariables false
set_option maxRecDepth 100000
namespace Go.Proofs.YtnechdhngpajbaaDoor
/- skyway/chart.Name -/
noncomputable def c43 : Code := ((Tryd.f43).body).getD .skip
noncomputable def q43 (R : AV → Mem → Prop) : AExit → St → Prop := retQ Tryd.prog Tryd.f43 R
noncomputable def c43_0 : Code := loopB c43 0
noncomputable def q43_0 (R : AV → Mem → Prop) : AExit → St → Prop := contW Tryd.prog KK 41 0 c43 0 (q43 R)
noncomputable def qq43_0 (R : AV → Mem → Prop) (N0 : St → Prop) : AExit → St → Prop := thenQ N0 (q43_0 R)
def h43_0 (t2 : Bool) (t14 : AV) (t15 : Int) (t16 : Int) (m : Mem) : St := ⟨[(2, (AV.sc (.bool t2))), (14, t14), (15, (AV.sc (.int .i64 t15))), (16, (AV.sc (.int .i64 t16)))], m, 100000⟩
noncomputable def B43_0 (t2 : Bool) (t14 : AV) (t15 : Int) (t16 : Int) (m : Mem) (R : AV → Mem → Prop) (N0 : St → Prop) : Prop :=
bif (decide (t16 < t15)) then (
opP (idxS 1 t14 (AV.sc (.int .i64 t16))) fun v7 =>
opP (ldS (mget m) v7) fun v8 =>
ex_u8 v8 fun z9 =>
bif (decide (z9 ≥ (65))) then (
bif (decide (z9 ≤ (90))) then (
N0 ⟨[(2, (AV.sc (.bool t2))), (14, t14), (15, (AV.sc (.int .i64 t15))), (16, (AV.sc (.int .i64 (IntKind.wrap .i64 (t16 + (1)))))), (17, (AV.sc (.bool (decide (t16 < t15))))), (18, (AV.sc (.int .i64 t16))), (19, v7), (20, (AV.sc (.int .u8 z9))), (3, (AV.sc (.int .i64 t16))), (4, (AV.sc (.int .u8 z9))), (21, (AV.sc (.int .u8 z9))), (22, (AV.sc (.bool (decide (z9 ≥ (65)))))), (23, (AV.sc (.bool true))), (24, (AV.sc (.int .u8 z9))), (25, (AV.sc (.bool (decide (z9 ≤ (90)))))), (26, (AV.sc (.bool (decide (z9 ≤ (90)))))), (27, (AV.sc (.bool true))), (28, (AV.tup [])), (29, (AV.tup [])), (30, (AV.tup [])), (31, (AV.tup [])), (32, (AV.tup [])), (33, (AV.tup [])), (34, (AV.tup [])), (35, (AV.tup [])), (36, (AV.tup [])), (37, (AV.tup [])), (38, (AV.sc (.bool true))), (39, (AV.sc (.bool false))), (40, (AV.sc (.int .i64 (IntKind.wrap .i64 (t16 + (1))))))], m, 100017⟩) else (
bif (decide (t16 > (0))) then (
bif (decide (z9 ≥ (48))) then (
bif (!(decide (z9 ≤ (57)))) then (
retL R m [some (AV.sc (.bool false))]) else (
N0 ⟨[(2, (AV.sc (.bool t2))), (14, t14), (15, (AV.sc (.int .i64 t15))), (16, (AV.sc (.int .i64 (IntKind.wrap .i64 (t16 + (1)))))), (17, (AV.sc (.bool (decide (t16 < t15))))), (18, (AV.sc (.int .i64 t16))), (19, v7), (20, (AV.sc (.int .u8 z9))), (3, (AV.sc (.int .i64 t16))), (4, (AV.sc (.int .u8 z9))), (21, (AV.sc (.int .u8 z9))), (22, (AV.sc (.bool (decide (z9 ≥ (65)))))), (23, (AV.sc (.bool true))), (24, (AV.sc (.int .u8 z9))), (25, (AV.sc (.bool (decide (z9 ≤ (90)))))), (26, (AV.sc (.bool (decide (z9 ≤ (90)))))), (27, (AV.sc (.bool false))), (28, (AV.sc (.int .i64 t16))), (29, (AV.sc (.bool (decide (t16 > (0)))))), (30, (AV.sc (.bool true))), (31, (AV.sc (.int .u8 z9))), (32, (AV.sc (.bool (decide (z9 ≥ (48)))))), (33, (AV.sc (.bool (decide (z9 ≥ (48)))))), (34, (AV.sc (.bool true))), (35, (AV.sc (.int .u8 z9))), (36, (AV.sc (.bool (decide (z9 ≤ (57)))))), (37, (AV.sc (.bool (decide (z9 ≤ (57)))))), (38, (AV.sc (.bool (decide (z9 ≤ (57)))))), (39, (AV.sc (.bool (!(decide (z9 ≤ (57))))))), (40, (AV.sc (.int .i64 (IntKind.wrap .i64 (t16 + (1))))))], m, 100027⟩)) else (
retL R m [some (AV.sc (.bool false))])) else (
retL R m [some (AV.sc (.bool false))]))) else (
bif (decide (t16 > (0))) then (
bif (decide (z9 ≥ (48))) then (
bif (!(decide (z9 ≤ (57)))) then (
retL R m [some (AV.sc (.bool false))]) else (
N0 ⟨[(2, (AV.sc (.bool t2))), (14, t14), (15, (AV.sc (.int .i64 t15))), (16, (AV.sc (.int .i64 (IntKind.wrap .i64 (t16 + (1)))))), (17, (AV.sc (.bool (decide (t16 < t15))))), (18, (AV.sc (.int .i64 t16))), (19, v7), (20, (AV.sc (.int .u8 z9))), (3, (AV.sc (.int .i64 t16))), (4, (AV.sc (.int .u8 z9))), (21, (AV.sc (.int .u8 z9))), (22, (AV.sc (.bool (decide (z9 ≥ (65)))))), (23, (AV.sc (.bool false))), (24, (AV.tup [])), (25, (AV.tup [])), (26, (AV.sc (.bool false))), (27, (AV.sc (.bool false))), (28, (AV.sc (.int .i64 t16))), (29, (AV.sc (.bool (decide (t16 > (0)))))), (30, (AV.sc (.bool true))), (31, (AV.sc (.int .u8 z9))), (32, (AV.sc (.bool (decide (z9 ≥ (48)))))), (33, (AV.sc (.bool (decide (z9 ≥ (48)))))), (34, (AV.sc (.bool true))), (35, (AV.sc (.int .u8 z9))), (36, (AV.sc (.bool (decide (z9 ≤ (57)))))), (37, (AV.sc (.bool (decide (z9 ≤ (57)))))), (38, (AV.sc (.bool (decide (z9 ≤ (57)))))), (39, (AV.sc (.bool (!(decide (z9 ≤ (57))))))), (40, (AV.sc (.int .i64 (IntKind.wrap .i64 (t16 + (1))))))], m, 100025⟩)) else (
retL R m [some (AV.sc (.bool false))])) else (
retL R m [some (AV.sc (.bool false))]))) else (
retL R m [some (AV.sc (.bool true))])
theorem B43_0_eq (t2 : Bool) (t14 : AV) (t15 : Int) (t16 : Int) (m : Mem) (R : AV → Mem → Prop) (N0 : St → Prop) : W Tryd.prog KK 41 0 c43_0 (h43_0 t2 t14 t15 t16 m) (qq43_0 R N0) = B43_0 t2 t14 t15 t16 m R N0 := by kernel_rfl
theorem L43_0 (R : AV → Mem → Prop) {σ : Type} (I : σ → Prop) (t2 : σ → Bool) (t14 : σ → AV) (t15 : σ → Int) (t16 : σ → Int) (m : σ → Mem) (μ : σ → Nat) (step : ∀ x, I x → B43_0 (t2 x) (t14 x) (t15 x) (t16 x) (m x) R (fun s' => ∃ y, I y ∧ μ y < μ x ∧ Weak KK 41 0 s' (h43_0 (t2 y) (t14 y) (t15 y) (t16 y) (m y)))) (x : σ) (hx : I x) {s : St} (hw : Weak KK 41 0 s (h43_0 (t2 x) (t14 x) (t15 x) (t16 x) (m x))) : Tri Tryd.prog KK 41 0 (.loop c43_0) s (q43_0 R) :=
  Tri.weak hw (Tri.loops fol I (fun x => h43_0 (t2 x) (t14 x) (t15 x) (t16 x) (m x)) μ (fun x hx => (B43_0_eq (t2 x) (t14 x) (t15 x) (t16 x) (m x) R _).mpr (step x hx)) x hx)
noncomputable def F43 (a0 : ByteArray) (R : AV → Mem → Prop) : Prop :=
opP (opA Tryd.prog (.call ⟨.builtin .len, #[.tmp 0], #[9]⟩) 3 [(AV.sc (.string a0))] (mget []) 2) fun v0 =>
ex_i64 v0 fun z1 =>
bif (decide (z1 < (1))) then (
retL R [] [some (AV.sc (.bool false))]) else (
opP (opA Tryd.prog (.call ⟨.builtin .len, #[.tmp 0], #[9]⟩) 3 [(AV.sc (.string a0))] (mget []) 6) fun v2 =>
ex_i64 v2 fun z3 =>
bif (decide (z3 > (8))) then (
retL R [] [some (AV.sc (.bool false))]) else (
opP (opA Tryd.prog (.convert 9 84 (.tmp 0)) 84 [(AV.sc (.string a0))] (mget []) 10) fun v4 =>
opP (lenS v4) fun v5 =>
ex_i64 v5 fun z6 =>
Tri Tryd.prog KK 41 0 (.loop c43_0) ⟨[(0, (AV.sc (.string a0))), (2, (AV.sc (.bool false))), (5, (AV.sc (.string a0))), (6, (AV.sc (.int .i64 z1))), (7, (AV.sc (.bool (decide (z1 < (1)))))), (8, (AV.sc (.bool false))), (9, (AV.sc (.string a0))), (10, (AV.sc (.int .i64 z3))), (11, (AV.sc (.bool (decide (z3 > (8)))))), (12, (AV.sc (.bool (decide (z3 > (8)))))), (13, (AV.sc (.string a0))), (14, v4), (15, (AV.sc (.int .i64 z6))), (16, (AV.sc (.int .i64 (0))))], [], 13⟩ (q43_0 R)))
theorem F43_own (a0 : ByteArray) (R : AV → Mem → Prop) (h : F43 a0 R) : Own Tryd.prog KK.gl 43 [(AV.sc (.string a0))] R := own_of_F fol Tryd.func43 (code := c43) (by kernel_rfl) (by kernel_rfl) (by kernel_rfl) (X := F43 a0 R) (by kernel_rfl) h
/- slices.Index[[]string,string] -/
noncomputable def c48 : Code := ((Tryd.f48).body).getD .skip
noncomputable def q48 (R : AV → Mem → Prop) : AExit → St → Prop := retQ Tryd.prog Tryd.f48 R
noncomputable def c48_0 : Code := loopB c48 0
noncomputable def q48_0 (R : AV → Mem → Prop) : AExit → St → Prop := contW Tryd.prog KK 19 0 c48 0 (q48 R)
noncomputable def qq48_0 (R : AV → Mem → Prop) (N0 : St → Prop) : AExit → St → Prop := thenQ N0 (q48_0 R)
def h48_0 (t0 : AV) (t1 : ByteArray) (t4 : Int) (t7 : Int) (t8 : Int) (m : Mem) : St := ⟨[(0, t0), (1, (AV.sc (.string t1))), (4, (AV.sc (.int .i64 t4))), (7, (AV.sc (.int .i64 t7))), (8, (AV.sc (.int .i64 t8)))], m, 100000⟩
noncomputable def B48_0 (t0 : AV) (t1 : ByteArray) (t4 : Int) (t7 : Int) (t8 : Int) (m : Mem) (R : AV → Mem → Prop) (N0 : St → Prop) : Prop :=
bif (decide (t8 < t7)) then (
opP (idxS 1 t0 (AV.sc (.int .i64 t8))) fun v2 =>
opP (ldS (mget m) v2) fun v3 =>
exStr v3 fun s4 =>
bif ((t1).toList == (s4).toList) then (
retL R m [some (AV.sc (.int .i64 t8))]) else (
N0 ⟨[(0, t0), (1, (AV.sc (.string t1))), (4, (AV.sc (.int .i64 t4))), (7, (AV.sc (.int .i64 t7))), (8, (AV.sc (.int .i64 (IntKind.wrap .i64 (t8 + (1)))))), (9, (AV.sc (.bool (decide (t8 < t7))))), (10, (AV.sc (.int .i64 t8))), (5, (AV.sc (.int .i64 t8))), (11, (AV.sc (.string t1))), (12, t0), (13, (AV.sc (.int .i64 t8))), (14, v2), (15, (AV.sc (.string s4))), (16, (AV.sc (.bool ((t1).toList == (s4).toList)))), (18, (AV.sc (.int .i64 (IntKind.wrap .i64 (t8 + (1))))))], m, 100011⟩)) else (
retL R m [some (AV.sc (.int .i64 (-1)))])
theorem B48_0_eq (t0 : AV) (t1 : ByteArray) (t4 : Int) (t7 : Int) (t8 : Int) (m : Mem) (R : AV → Mem → Prop) (N0 : St → Prop) : W Tryd.prog KK 19 0 c48_0 (h48_0 t0 t1 t4 t7 t8 m) (qq48_0 R N0) = B48_0 t0 t1 t4 t7 t8 m R N0 := by kernel_rfl
theorem L48_0 (R : AV → Mem → Prop) {σ : Type} (I : σ → Prop) (t0 : σ → AV) (t1 : σ → ByteArray) (t4 : σ → Int) (t7 : σ → Int) (t8 : σ → Int) (m : σ → Mem) (μ : σ → Nat) (step : ∀ x, I x → B48_0 (t0 x) (t1 x) (t4 x) (t7 x) (t8 x) (m x) R (fun s' => ∃ y, I y ∧ μ y < μ x ∧ Weak KK 19 0 s' (h48_0 (t0 y) (t1 y) (t4 y) (t7 y) (t8 y) (m y)))) (x : σ) (hx : I x) {s : St} (hw : Weak KK 19 0 s (h48_0 (t0 x) (t1 x) (t4 x) (t7 x) (t8 x) (m x))) : Tri Tryd.prog KK 19 0 (.loop c48_0) s (q48_0 R) :=
  Tri.weak hw (Tri.loops fol I (fun x => h48_0 (t0 x) (t1 x) (t4 x) (t7 x) (t8 x) (m x)) μ (fun x hx => (B48_0_eq (t0 x) (t1 x) (t4 x) (t7 x) (t8 x) (m x) R _).mpr (step x hx)) x hx)
noncomputable def F48 (a0 : AV) (a1 : ByteArray) (R : AV → Mem → Prop) : Prop :=
opP (lenS a0) fun v0 =>
ex_i64 v0 fun z1 =>
Tri Tryd.prog KK 19 0 (.loop c48_0) ⟨[(0, a0), (1, (AV.sc (.string a1))), (4, (AV.sc (.int .i64 (0)))), (6, a0), (7, (AV.sc (.int .i64 z1))), (8, (AV.sc (.int .i64 (0))))], [], 4⟩ (q48_0 R)
theorem F48_own (a0 : AV) (a1 : ByteArray) (R : AV → Mem → Prop) (h : F48 a0 a1 R) : Own Tryd.prog KK.gl 48 [a0, (AV.sc (.string a1))] R := own_of_F fol Tryd.func48 (code := c48) (by kernel_rfl) (by kernel_rfl) (by kernel_rfl) (X := F48 a0 a1 R) (by kernel_rfl) h
/- skyway/phrase.kind -/
noncomputable def c41 : Code := ((Tryd.f41).body).getD .skip
noncomputable def q41 (R : AV → Mem → Prop) : AExit → St → Prop := retQ Tryd.prog Tryd.f41 R
noncomputable def F41 (a0 : ByteArray) (R : AV → Mem → Prop) : Prop :=
opP (opA Tryd.prog (.slice 72 (.tmp 0) none none none) 63 [(gval 1)] (mget []) 1) fun v0 =>
callQ Tryd.prog KK.gl [] 48 [v0, (AV.sc (.string a0))] fun v1 =>
ex_i64 v1 fun z2 =>
retL R [] [some (AV.sc (.int .i64 z2))]
theorem F41_own (a0 : ByteArray) (R : AV → Mem → Prop) (h : F41 a0 R) : Own Tryd.prog KK.gl 41 [(AV.sc (.string a0))] R := own_of_F fol Tryd.func41 (code := c41) (by kernel_rfl) (by kernel_rfl) (by kernel_rfl) (X := F41 a0 R) (by kernel_rfl) h
/- skyway/phrase.name -/
noncomputable def c38 : Code := ((Tryd.f38).body).getD .skip
noncomputable def q38 (R : AV → Mem → Prop) : AExit → St → Prop := retQ Tryd.prog Tryd.f38 R
noncomputable def F38 (a0 : ByteArray) (R : AV → Mem → Prop) : Prop :=
callQ Tryd.prog KK.gl [] 43 [(AV.sc (.string a0))] fun v0 =>
exB v0 fun b1 =>
bif b1 then (
callQ Tryd.prog KK.gl [] 41 [(AV.sc (.string a0))] fun v2 =>
ex_i64 v2 fun z3 =>
retL R [] [some (AV.sc (.bool (decide (z3 < (0)))))]) else (
retL R [] [some (AV.sc (.bool false))])
theorem F38_own (a0 : ByteArray) (R : AV → Mem → Prop) (h : F38 a0 R) : Own Tryd.prog KK.gl 38 [(AV.sc (.string a0))] R := own_of_F fol Tryd.func38 (code := c38) (by kernel_rfl) (by kernel_rfl) (by kernel_rfl) (X := F38 a0 R) (by kernel_rfl) h
/- skyway/phrase.Check -/
noncomputable def c32 : Code := ((Tryd.f32).body).getD .skip
noncomputable def q32 (R : AV → Mem → Prop) : AExit → St → Prop := retQ Tryd.prog Tryd.f32 R
noncomputable def F32 (a0_0 : ByteArray) (a0_1 : Int) (a0_2 : Int) (a0_3 : ByteArray) (R : AV → Mem → Prop) : Prop :=
callQ Tryd.prog KK.gl ((0, some ⟨[(AV.sc (.string a0_0)), (AV.sc (.int .i64 a0_1)), (AV.sc (.int .i64 a0_2)), (AV.sc (.string a0_3))], 24⟩) :: []) 38 [(AV.sc (.string a0_0))] fun v0 =>
exB v0 fun b1 =>
bif (!b1) then (
retL R ((0, some ⟨[(AV.sc (.string a0_0)), (AV.sc (.int .i64 a0_1)), (AV.sc (.int .i64 a0_2)), (AV.sc (.string a0_3))], 24⟩) :: []) [some (AV.sc (.int .i64 (3)))]) else (
bif (decide (a0_1 < (0))) then (
retL R ((0, some ⟨[(AV.sc (.string a0_0)), (AV.sc (.int .i64 a0_1)), (AV.sc (.int .i64 a0_2)), (AV.sc (.string a0_3))], 24⟩) :: []) [some (AV.sc (.int .i64 (1)))]) else (
bif (decide (a0_1 > (6))) then (
retL R ((0, some ⟨[(AV.sc (.string a0_0)), (AV.sc (.int .i64 a0_1)), (AV.sc (.int .i64 a0_2)), (AV.sc (.string a0_3))], 24⟩) :: []) [some (AV.sc (.int .i64 (1)))]) else (
bif (decide (a0_1 > (2))) then (
bif (a0_2 != (0)) then (
retL R ((0, some ⟨[(AV.sc (.string a0_0)), (AV.sc (.int .i64 a0_1)), (AV.sc (.int .i64 a0_2)), (AV.sc (.string a0_3))], 24⟩) :: []) [some (AV.sc (.int .i64 (3)))]) else (
callQ Tryd.prog KK.gl ((0, some ⟨[(AV.sc (.string a0_0)), (AV.sc (.int .i64 a0_1)), (AV.sc (.int .i64 a0_2)), (AV.sc (.string a0_3))], 24⟩) :: []) 38 [(AV.sc (.string a0_3))] fun v2 =>
exB v2 fun b3 =>
bif (!b3) then (
retL R ((0, some ⟨[(AV.sc (.string a0_0)), (AV.sc (.int .i64 a0_1)), (AV.sc (.int .i64 a0_2)), (AV.sc (.string a0_3))], 24⟩) :: []) [some (AV.sc (.int .i64 (3)))]) else (
retL R ((0, some ⟨[(AV.sc (.string a0_0)), (AV.sc (.int .i64 a0_1)), (AV.sc (.int .i64 a0_2)), (AV.sc (.string a0_3))], 24⟩) :: []) [some (AV.sc (.int .i64 (0)))]))) else (
bif (!((a0_3).toList == ((⟨#[]⟩ : ByteArray)).toList)) then (
retL R ((0, some ⟨[(AV.sc (.string a0_0)), (AV.sc (.int .i64 a0_1)), (AV.sc (.int .i64 a0_2)), (AV.sc (.string a0_3))], 24⟩) :: []) [some (AV.sc (.int .i64 (3)))]) else (
bif (decide (a0_2 < (0))) then (
retL R ((0, some ⟨[(AV.sc (.string a0_0)), (AV.sc (.int .i64 a0_1)), (AV.sc (.int .i64 a0_2)), (AV.sc (.string a0_3))], 24⟩) :: []) [some (AV.sc (.int .i64 (4)))]) else (
opP (idxA 3 1 (gval 0) (AV.sc (.int .i64 a0_1))) fun v4 =>
opP (ldS (mget ((0, some ⟨[(AV.sc (.string a0_0)), (AV.sc (.int .i64 a0_1)), (AV.sc (.int .i64 a0_2)), (AV.sc (.string a0_3))], 24⟩) :: [])) v4) fun v5 =>
ex_i64 v5 fun z6 =>
bif (decide (a0_2 > z6)) then (
retL R ((0, some ⟨[(AV.sc (.string a0_0)), (AV.sc (.int .i64 a0_1)), (AV.sc (.int .i64 a0_2)), (AV.sc (.string a0_3))], 24⟩) :: []) [some (AV.sc (.int .i64 (4)))]) else (
retL R ((0, some ⟨[(AV.sc (.string a0_0)), (AV.sc (.int .i64 a0_1)), (AV.sc (.int .i64 a0_2)), (AV.sc (.string a0_3))], 24⟩) :: []) [some (AV.sc (.int .i64 (0)))])))))))
theorem F32_own (a0_0 : ByteArray) (a0_1 : Int) (a0_2 : Int) (a0_3 : ByteArray) (R : AV → Mem → Prop) (h : F32 a0_0 a0_1 a0_2 a0_3 R) : Own Tryd.prog KK.gl 32 [(AV.agg [(AV.sc (.string a0_0)), (AV.sc (.int .i64 a0_1)), (AV.sc (.int .i64 a0_2)), (AV.sc (.string a0_3))])] R := own_of_F fol Tryd.func32 (code := c32) (by kernel_rfl) (by kernel_rfl) (by kernel_rfl) (X := F32 a0_0 a0_1 a0_2 a0_3 R) (by kernel_rfl) h
/- skyway/readback.wrong -/
noncomputable def c30 : Code := ((Tryd.f30).body).getD .skip
noncomputable def q30 (R : AV → Mem → Prop) : AExit → St → Prop := retQ Tryd.prog Tryd.f30 R
noncomputable def F30 (a0 : AV) (a1 : Int) (R : AV → Mem → Prop) : Prop :=
bif (decide (a1 < (0))) then (
retL R [] [some (AV.sc (.bool true))]) else (
bif (decide (a1 > (200000))) then (
retL R [] [some (AV.sc (.bool true))]) else (
opP (lenS a0) fun v0 =>
ex_i64 v0 fun z1 =>
bif (decide (z1 > (0))) then (
opP (lenS a0) fun v2 =>
ex_i64 v2 fun z3 =>
opP (idxS 5 a0 (AV.sc (.int .i64 (IntKind.wrap .i64 (z3 - (1)))))) fun v4 =>
opP (fldO 4 v4) fun v5 =>
opP (ldS (mget []) v5) fun v6 =>
ex_i64 v6 fun z7 =>
retL R [] [some (AV.sc (.bool (decide (a1 < z7))))]) else (
retL R [] [some (AV.sc (.bool false))])))
theorem F30_own (a0 : AV) (a1 : Int) (R : AV → Mem → Prop) (h : F30 a0 a1 R) : Own Tryd.prog KK.gl 30 [a0, (AV.sc (.int .i64 a1))] R := own_of_F fol Tryd.func30 (code := c30) (by kernel_rfl) (by kernel_rfl) (by kernel_rfl) (X := F30 a0 a1 R) (by kernel_rfl) h
/- skyway/readback.index$1 -/
noncomputable def c37 : Code := ((Tryd.f37).body).getD .skip
noncomputable def q37 (R : AV → Mem → Prop) : AExit → St → Prop := retQ Tryd.prog Tryd.f37 R
noncomputable def F37 (a0_0 : ByteArray) (a0_1 : Int) (a0_2 : Int) (a0_3 : ByteArray) (a0_4 : Int) (a1 : AV) (R : AV → Mem → Prop) : Prop :=
opP (fldO 0 a1) fun v0 =>
opP (ldS (mget ((0, some ⟨[(AV.sc (.string a0_0)), (AV.sc (.int .i64 a0_1)), (AV.sc (.int .i64 a0_2)), (AV.sc (.string a0_3)), (AV.sc (.int .i64 a0_4))], 38⟩) :: [])) v0) fun v1 =>
exStr v1 fun s2 =>
bif ((a0_0).toList == (s2).toList) then (
opP (fldO 1 a1) fun v3 =>
opP (ldS (mget ((0, some ⟨[(AV.sc (.string a0_0)), (AV.sc (.int .i64 a0_1)), (AV.sc (.int .i64 a0_2)), (AV.sc (.string a0_3)), (AV.sc (.int .i64 a0_4))], 38⟩) :: [])) v3) fun v4 =>
ex_i64 v4 fun z5 =>
retL R ((0, some ⟨[(AV.sc (.string a0_0)), (AV.sc (.int .i64 a0_1)), (AV.sc (.int .i64 a0_2)), (AV.sc (.string a0_3)), (AV.sc (.int .i64 a0_4))], 38⟩) :: []) [some (AV.sc (.bool (a0_1 == z5)))]) else (
retL R ((0, some ⟨[(AV.sc (.string a0_0)), (AV.sc (.int .i64 a0_1)), (AV.sc (.int .i64 a0_2)), (AV.sc (.string a0_3)), (AV.sc (.int .i64 a0_4))], 38⟩) :: []) [some (AV.sc (.bool false))])
theorem F37_own (a0_0 : ByteArray) (a0_1 : Int) (a0_2 : Int) (a0_3 : ByteArray) (a0_4 : Int) (a1 : AV) (R : AV → Mem → Prop) (h : F37 a0_0 a0_1 a0_2 a0_3 a0_4 a1 R) : Own Tryd.prog KK.gl 37 [(AV.agg [(AV.sc (.string a0_0)), (AV.sc (.int .i64 a0_1)), (AV.sc (.int .i64 a0_2)), (AV.sc (.string a0_3)), (AV.sc (.int .i64 a0_4))]), a1] R := own_of_F fol Tryd.func37 (code := c37) (by kernel_rfl) (by kernel_rfl) (by kernel_rfl) (X := F37 a0_0 a0_1 a0_2 a0_3 a0_4 a1 R) (by kernel_rfl) h
/- slices.IndexFunc[[]skyway/api.ReadbackOpen,skyway/api.ReadbackOpen] -/
noncomputable def c36 : Code := ((Tryd.f36).body).getD .skip
noncomputable def q36 (R : AV → Mem → Prop) : AExit → St → Prop := retQ Tryd.prog Tryd.f36 R
noncomputable def c36_0 : Code := loopB c36 0
noncomputable def q36_0 (R : AV → Mem → Prop) : AExit → St → Prop := contW Tryd.prog KK 19 0 c36 0 (q36 R)
noncomputable def qq36_0 (R : AV → Mem → Prop) (N0 : St → Prop) : AExit → St → Prop := thenQ N0 (q36_0 R)
def h36_0 (t0 : AV) (t1 : AV) (t4 : Int) (t7 : Int) (t8 : Int) (m : Mem) : St := ⟨[(0, t0), (1, t1), (4, (AV.sc (.int .i64 t4))), (7, (AV.sc (.int .i64 t7))), (8, (AV.sc (.int .i64 t8)))], m, 100000⟩
noncomputable def B36_0 (t0 : AV) (t1 : AV) (t4 : Int) (t7 : Int) (t8 : Int) (m : Mem) (R : AV → Mem → Prop) (N0 : St → Prop) : Prop :=
bif (decide (t8 < t7)) then (
opP (idxS 5 t0 (AV.sc (.int .i64 t8))) fun v2 =>
opP (ldA (mget m) 5 v2) fun v3 =>
exA5 v3 fun c4 c5 c6 c7 c8 =>
exStr c4 fun s9 =>
ex_i64 c5 fun z10 =>
ex_i64 c6 fun z11 =>
exStr c7 fun s12 =>
ex_i64 c8 fun z13 =>
fnArgs (some t1) (some [(AV.agg [(AV.sc (.string s9)), (AV.sc (.int .i64 z10)), (AV.sc (.int .i64 z11)), (AV.sc (.string s12)), (AV.sc (.int .i64 z13))])]) fun f14 a14 => bif KK.pm f14 then callQ Tryd.prog KK.gl m f14 a14 (fun v14 =>
exB v14 fun b15 =>
bif b15 then (
retL R m [some (AV.sc (.int .i64 t8))]) else (
N0 ⟨[(0, t0), (1, t1), (4, (AV.sc (.int .i64 t4))), (7, (AV.sc (.int .i64 t7))), (8, (AV.sc (.int .i64 (IntKind.wrap .i64 (t8 + (1)))))), (9, (AV.sc (.bool (decide (t8 < t7))))), (10, (AV.sc (.int .i64 t8))), (5, (AV.sc (.int .i64 t8))), (11, t1), (12, t0), (13, (AV.sc (.int .i64 t8))), (14, v2), (15, (AV.agg [(AV.sc (.string s9)), (AV.sc (.int .i64 z10)), (AV.sc (.int .i64 z11)), (AV.sc (.string s12)), (AV.sc (.int .i64 z13))])), (16, (AV.sc (.bool b15))), (18, (AV.sc (.int .i64 (IntKind.wrap .i64 (t8 + (1))))))], m, 100074⟩)) else callW Tryd.prog KK.gl m 100008 f14 a14 fun v14 m14 =>
exB v14 fun b15 =>
bif b15 then (
retL R m14 [some (AV.sc (.int .i64 t8))]) else (
N0 ⟨[(0, t0), (1, t1), (4, (AV.sc (.int .i64 t4))), (7, (AV.sc (.int .i64 t7))), (8, (AV.sc (.int .i64 (IntKind.wrap .i64 (t8 + (1)))))), (9, (AV.sc (.bool (decide (t8 < t7))))), (10, (AV.sc (.int .i64 t8))), (5, (AV.sc (.int .i64 t8))), (11, t1), (12, t0), (13, (AV.sc (.int .i64 t8))), (14, v2), (15, (AV.agg [(AV.sc (.string s9)), (AV.sc (.int .i64 z10)), (AV.sc (.int .i64 z11)), (AV.sc (.string s12)), (AV.sc (.int .i64 z13))])), (16, (AV.sc (.bool b15))), (18, (AV.sc (.int .i64 (IntKind.wrap .i64 (t8 + (1))))))], m14, 100074⟩)) else (
retL R m [some (AV.sc (.int .i64 (-1)))])
theorem B36_0_eq (t0 : AV) (t1 : AV) (t4 : Int) (t7 : Int) (t8 : Int) (m : Mem) (R : AV → Mem → Prop) (N0 : St → Prop) : W Tryd.prog KK 19 0 c36_0 (h36_0 t0 t1 t4 t7 t8 m) (qq36_0 R N0) = B36_0 t0 t1 t4 t7 t8 m R N0 := by kernel_rfl
theorem L36_0 (R : AV → Mem → Prop) {σ : Type} (I : σ → Prop) (t0 : σ → AV) (t1 : σ → AV) (t4 : σ → Int) (t7 : σ → Int) (t8 : σ → Int) (m : σ → Mem) (μ : σ → Nat) (step : ∀ x, I x → B36_0 (t0 x) (t1 x) (t4 x) (t7 x) (t8 x) (m x) R (fun s' => ∃ y, I y ∧ μ y < μ x ∧ Weak KK 19 0 s' (h36_0 (t0 y) (t1 y) (t4 y) (t7 y) (t8 y) (m y)))) (x : σ) (hx : I x) {s : St} (hw : Weak KK 19 0 s (h36_0 (t0 x) (t1 x) (t4 x) (t7 x) (t8 x) (m x))) : Tri Tryd.prog KK 19 0 (.loop c36_0) s (q36_0 R) :=
  Tri.weak hw (Tri.loops fol I (fun x => h36_0 (t0 x) (t1 x) (t4 x) (t7 x) (t8 x) (m x)) μ (fun x hx => (B36_0_eq (t0 x) (t1 x) (t4 x) (t7 x) (t8 x) (m x) R _).mpr (step x hx)) x hx)
noncomputable def F36 (a0 : AV) (a1 : AV) (R : AV → Mem → Prop) : Prop :=
opP (lenS a0) fun v0 =>
ex_i64 v0 fun z1 =>
Tri Tryd.prog KK 19 0 (.loop c36_0) ⟨[(0, a0), (1, a1), (4, (AV.sc (.int .i64 (0)))), (6, a0), (7, (AV.sc (.int .i64 z1))), (8, (AV.sc (.int .i64 (0))))], [], 4⟩ (q36_0 R)
theorem F36_own (a0 : AV) (a1 : AV) (R : AV → Mem → Prop) (h : F36 a0 a1 R) : Own Tryd.prog KK.gl 36 [a0, a1] R := own_of_F fol Tryd.func36 (code := c36) (by kernel_rfl) (by kernel_rfl) (by kernel_rfl) (X := F36 a0 a1 R) (by kernel_rfl) h
/- skyway/readback.index -/
noncomputable def c27 : Code := ((Tryd.f27).body).getD .skip
noncomputable def q27 (R : AV → Mem → Prop) : AExit → St → Prop := retQ Tryd.prog Tryd.f27 R
noncomputable def F27 (a0 : AV) (a1_0 : ByteArray) (a1_1 : Int) (a1_2 : Int) (a1_3 : ByteArray) (R : AV → Mem → Prop) : Prop :=
callQ Tryd.prog KK.gl ((0, some ⟨[(AV.sc (.string a1_0)), (AV.sc (.int .i64 a1_1)), (AV.sc (.int .i64 a1_2)), (AV.sc (.string a1_3))], 24⟩) :: []) 36 [a0, (AV.fn 37 [(AV.ptr 0 0)])] fun v0 =>
ex_i64 v0 fun z1 =>
retL R ((0, some ⟨[(AV.sc (.string a1_0)), (AV.sc (.int .i64 a1_1)), (AV.sc (.int .i64 a1_2)), (AV.sc (.string a1_3))], 24⟩) :: []) [some (AV.sc (.int .i64 z1))]
theorem F27_own (a0 : AV) (a1_0 : ByteArray) (a1_1 : Int) (a1_2 : Int) (a1_3 : ByteArray) (R : AV → Mem → Prop) (h : F27 a0 a1_0 a1_1 a1_2 a1_3 R) : Own Tryd.prog KK.gl 27 [a0, (AV.agg [(AV.sc (.string a1_0)), (AV.sc (.int .i64 a1_1)), (AV.sc (.int .i64 a1_2)), (AV.sc (.string a1_3))])] R := own_of_F fol Tryd.func27 (code := c27) (by kernel_rfl) (by kernel_rfl) (by kernel_rfl) (X := F27 a0 a1_0 a1_1 a1_2 a1_3 R) (by kernel_rfl) h
/- skyway/readback.Check -/
noncomputable def c24 : Code := ((Tryd.f24).body).getD .skip
noncomputable def q24 (R : AV → Mem → Prop) : AExit → St → Prop := retQ Tryd.prog Tryd.f24 R
noncomputable def c24_0 : Code := loopB c24 0
noncomputable def q24_0 (R : AV → Mem → Prop) : AExit → St → Prop := contW Tryd.prog KK 38 0 c24 0 (q24 R)
noncomputable def qq24_0 (R : AV → Mem → Prop) (N0 : St → Prop) : AExit → St → Prop := thenQ N0 (q24_0 R)
def h24_0 (t0 : AV) (t2 : Int) (t9 : AV) (t10 : Int) (t11 : Int) (m : Mem) : St := ⟨[(0, t0), (2, (AV.sc (.int .i64 t2))), (9, t9), (10, (AV.sc (.int .i64 t10))), (11, (AV.sc (.int .i64 t11)))], m, 100000⟩
noncomputable def B24_0 (t0 : AV) (t2 : Int) (t9 : AV) (t10 : Int) (t11 : Int) (m : Mem) (R : AV → Mem → Prop) (N0 : St → Prop) : Prop :=
bif (decide (t11 < t10)) then (
opP (idxS 5 t9 (AV.sc (.int .i64 t11))) fun v4 =>
opP (ldA (mget m) 5 v4) fun v5 =>
exA5 v5 fun c6 c7 c8 c9 c10 =>
exStr c6 fun s11 =>
ex_i64 c7 fun z12 =>
ex_i64 c8 fun z13 =>
exStr c9 fun s14 =>
ex_i64 c10 fun z15 =>
callQ Tryd.prog KK.gl ((100004, some ⟨[(AV.sc (.string s11)), (AV.sc (.int .i64 z12)), (AV.sc (.int .i64 z13)), (AV.sc (.string s14)), (AV.sc (.int .i64 z15))], 38⟩) :: (100004, some ⟨[(AV.sc (.string ⟨#[]⟩)), (AV.sc (.int .i64 (0))), (AV.sc (.int .i64 (0))), (AV.sc (.string ⟨#[]⟩)), (AV.sc (.int .i64 (0)))], 38⟩) :: m) 32 [(AV.agg [(AV.sc (.string s11)), (AV.sc (.int .i64 z12)), (AV.sc (.int .i64 z13)), (AV.sc (.string s14))])] fun v16 =>
ex_i64 v16 fun z17 =>
bif (z17 != (0)) then (
retL R ((100004, some ⟨[(AV.sc (.string s11)), (AV.sc (.int .i64 z12)), (AV.sc (.int .i64 z13)), (AV.sc (.string s14)), (AV.sc (.int .i64 z15))], 38⟩) :: (100004, some ⟨[(AV.sc (.string ⟨#[]⟩)), (AV.sc (.int .i64 (0))), (AV.sc (.int .i64 (0))), (AV.sc (.string ⟨#[]⟩)), (AV.sc (.int .i64 (0)))], 38⟩) :: m) [some (AV.sc (.int .i64 z17))]) else (
opP (opA Tryd.prog (.slice 22 (.tmp 0) none (some (.tmp 1)) none) 22 [t0, (AV.sc (.int .i64 t11))] (mget ((100004, some ⟨[(AV.sc (.string s11)), (AV.sc (.int .i64 z12)), (AV.sc (.int .i64 z13)), (AV.sc (.string s14)), (AV.sc (.int .i64 z15))], 38⟩) :: (100004, some ⟨[(AV.sc (.string ⟨#[]⟩)), (AV.sc (.int .i64 (0))), (AV.sc (.int .i64 (0))), (AV.sc (.string ⟨#[]⟩)), (AV.sc (.int .i64 (0)))], 38⟩) :: m)) 100078) fun v18 =>
callQ Tryd.prog KK.gl ((100004, some ⟨[(AV.sc (.string s11)), (AV.sc (.int .i64 z12)), (AV.sc (.int .i64 z13)), (AV.sc (.string s14)), (AV.sc (.int .i64 z15))], 38⟩) :: (100004, some ⟨[(AV.sc (.string ⟨#[]⟩)), (AV.sc (.int .i64 (0))), (AV.sc (.int .i64 (0))), (AV.sc (.string ⟨#[]⟩)), (AV.sc (.int .i64 (0)))], 38⟩) :: m) 30 [v18, (AV.sc (.int .i64 z15))] fun v19 =>
exB v19 fun b20 =>
bif b20 then (
retL R ((100004, some ⟨[(AV.sc (.string s11)), (AV.sc (.int .i64 z12)), (AV.sc (.int .i64 z13)), (AV.sc (.string s14)), (AV.sc (.int .i64 z15))], 38⟩) :: (100004, some ⟨[(AV.sc (.string ⟨#[]⟩)), (AV.sc (.int .i64 (0))), (AV.sc (.int .i64 (0))), (AV.sc (.string ⟨#[]⟩)), (AV.sc (.int .i64 (0)))], 38⟩) :: m) [some (AV.sc (.int .i64 (12)))]) else (
opP (opA Tryd.prog (.slice 22 (.tmp 0) none (some (.tmp 1)) none) 22 [t0, (AV.sc (.int .i64 t11))] (mget ((100004, some ⟨[(AV.sc (.string s11)), (AV.sc (.int .i64 z12)), (AV.sc (.int .i64 z13)), (AV.sc (.string s14)), (AV.sc (.int .i64 z15))], 38⟩) :: (100004, some ⟨[(AV.sc (.string ⟨#[]⟩)), (AV.sc (.int .i64 (0))), (AV.sc (.int .i64 (0))), (AV.sc (.string ⟨#[]⟩)), (AV.sc (.int .i64 (0)))], 38⟩) :: m)) 100085) fun v21 =>
callQ Tryd.prog KK.gl ((100004, some ⟨[(AV.sc (.string s11)), (AV.sc (.int .i64 z12)), (AV.sc (.int .i64 z13)), (AV.sc (.string s14)), (AV.sc (.int .i64 z15))], 38⟩) :: (100004, some ⟨[(AV.sc (.string ⟨#[]⟩)), (AV.sc (.int .i64 (0))), (AV.sc (.int .i64 (0))), (AV.sc (.string ⟨#[]⟩)), (AV.sc (.int .i64 (0)))], 38⟩) :: m) 27 [v21, (AV.agg [(AV.sc (.string s11)), (AV.sc (.int .i64 z12)), (AV.sc (.int .i64 z13)), (AV.sc (.string s14))])] fun v22 =>
ex_i64 v22 fun z23 =>
bif (decide (z23 ≥ (0))) then (
retL R ((100004, some ⟨[(AV.sc (.string s11)), (AV.sc (.int .i64 z12)), (AV.sc (.int .i64 z13)), (AV.sc (.string s14)), (AV.sc (.int .i64 z15))], 38⟩) :: (100004, some ⟨[(AV.sc (.string ⟨#[]⟩)), (AV.sc (.int .i64 (0))), (AV.sc (.int .i64 (0))), (AV.sc (.string ⟨#[]⟩)), (AV.sc (.int .i64 (0)))], 38⟩) :: m) [some (AV.sc (.int .i64 (7)))]) else (
N0 ⟨[(0, t0), (2, (AV.sc (.int .i64 t2))), (9, t9), (10, (AV.sc (.int .i64 t10))), (11, (AV.sc (.int .i64 (IntKind.wrap .i64 (t11 + (1)))))), (12, (AV.sc (.bool (decide (t11 < t10))))), (13, (AV.sc (.int .i64 t11))), (14, v4), (15, (AV.agg [(AV.sc (.string s11)), (AV.sc (.int .i64 z12)), (AV.sc (.int .i64 z13)), (AV.sc (.string s14)), (AV.sc (.int .i64 z15))])), (4, (AV.ptr 100004 0)), (3, (AV.sc (.int .i64 t11))), (16, (AV.ptr 100004 0)), (17, (AV.agg [(AV.sc (.string s11)), (AV.sc (.int .i64 z12)), (AV.sc (.int .i64 z13)), (AV.sc (.string s14))])), (18, (AV.sc (.int .i64 z17))), (5, (AV.sc (.int .i64 z17))), (19, (AV.sc (.int .i64 z17))), (20, (AV.sc (.bool (z17 != (0))))), (23, t0), (24, (AV.sc (.int .i64 t11))), (25, v18), (26, (AV.ptr 100004 4)), (27, (AV.sc (.int .i64 z15))), (28, (AV.sc (.bool b20))), (22, (AV.sc (.bool b20))), (30, t0), (31, (AV.sc (.int .i64 t11))), (32, v21), (33, (AV.ptr 100004 0)), (34, (AV.agg [(AV.sc (.string s11)), (AV.sc (.int .i64 z12)), (AV.sc (.int .i64 z13)), (AV.sc (.string s14))])), (35, (AV.sc (.int .i64 z23))), (36, (AV.sc (.bool (decide (z23 ≥ (0)))))), (29, (AV.sc (.bool (decide (z23 ≥ (0)))))), (37, (AV.sc (.int .i64 (IntKind.wrap .i64 (t11 + (1))))))], ((100004, some ⟨[(AV.sc (.string s11)), (AV.sc (.int .i64 z12)), (AV.sc (.int .i64 z13)), (AV.sc (.string s14)), (AV.sc (.int .i64 z15))], 38⟩) :: (100004, some ⟨[(AV.sc (.string ⟨#[]⟩)), (AV.sc (.int .i64 (0))), (AV.sc (.int .i64 (0))), (AV.sc (.string ⟨#[]⟩)), (AV.sc (.int .i64 (0)))], 38⟩) :: m), 100093⟩)))) else (
retL R m [some (AV.sc (.int .i64 (0)))])
theorem B24_0_eq (t0 : AV) (t2 : Int) (t9 : AV) (t10 : Int) (t11 : Int) (m : Mem) (R : AV → Mem → Prop) (N0 : St → Prop) : W Tryd.prog KK 38 0 c24_0 (h24_0 t0 t2 t9 t10 t11 m) (qq24_0 R N0) = B24_0 t0 t2 t9 t10 t11 m R N0 := by kernel_rfl
theorem L24_0 (R : AV → Mem → Prop) {σ : Type} (I : σ → Prop) (t0 : σ → AV) (t2 : σ → Int) (t9 : σ → AV) (t10 : σ → Int) (t11 : σ → Int) (m : σ → Mem) (μ : σ → Nat) (step : ∀ x, I x → B24_0 (t0 x) (t2 x) (t9 x) (t10 x) (t11 x) (m x) R (fun s' => ∃ y, I y ∧ μ y < μ x ∧ Weak KK 38 0 s' (h24_0 (t0 y) (t2 y) (t9 y) (t10 y) (t11 y) (m y)))) (x : σ) (hx : I x) {s : St} (hw : Weak KK 38 0 s (h24_0 (t0 x) (t2 x) (t9 x) (t10 x) (t11 x) (m x))) : Tri Tryd.prog KK 38 0 (.loop c24_0) s (q24_0 R) :=
  Tri.weak hw (Tri.loops fol I (fun x => h24_0 (t0 x) (t2 x) (t9 x) (t10 x) (t11 x) (m x)) μ (fun x hx => (B24_0_eq (t0 x) (t2 x) (t9 x) (t10 x) (t11 x) (m x) R _).mpr (step x hx)) x hx)
noncomputable def F24 (a0 : AV) (R : AV → Mem → Prop) : Prop :=
opP (lenS a0) fun v0 =>
ex_i64 v0 fun z1 =>
bif (decide (z1 > (12))) then (
retL R [] [some (AV.sc (.int .i64 (2)))]) else (
opP (lenS a0) fun v2 =>
ex_i64 v2 fun z3 =>
Tri Tryd.prog KK 38 0 (.loop c24_0) ⟨[(0, a0), (2, (AV.sc (.int .i64 (0)))), (6, a0), (7, (AV.sc (.int .i64 z1))), (8, (AV.sc (.bool (decide (z1 > (12)))))), (9, a0), (10, (AV.sc (.int .i64 z3))), (11, (AV.sc (.int .i64 (0))))], [], 7⟩ (q24_0 R))
theorem F24_own (a0 : AV) (R : AV → Mem → Prop) (h : F24 a0 R) : Own Tryd.prog KK.gl 24 [a0] R := own_of_F fol Tryd.func24 (code := c24) (by kernel_rfl) (by kernel_rfl) (by kernel_rfl) (X := F24 a0 R) (by kernel_rfl) h
/- skyway/readback.check -/
noncomputable def c25 : Code := ((Tryd.f25).body).getD .skip
noncomputable def q25 (R : AV → Mem → Prop) : AExit → St → Prop := retQ Tryd.prog Tryd.f25 R
noncomputable def F25 (a0 : AV) (a1_0 : ByteArray) (a1_1 : Int) (a1_2 : Int) (a1_3 : ByteArray) (a2 : Int) (R : AV → Mem → Prop) : Prop :=
callQ Tryd.prog KK.gl ((0, some ⟨[(AV.sc (.string a1_0)), (AV.sc (.int .i64 a1_1)), (AV.sc (.int .i64 a1_2)), (AV.sc (.string a1_3))], 24⟩) :: []) 24 [a0] fun v0 =>
ex_i64 v0 fun z1 =>
bif (z1 != (0)) then (
retL R ((0, some ⟨[(AV.sc (.string a1_0)), (AV.sc (.int .i64 a1_1)), (AV.sc (.int .i64 a1_2)), (AV.sc (.string a1_3))], 24⟩) :: []) [some (AV.sc (.int .i64 z1))]) else (
callQ Tryd.prog KK.gl ((0, some ⟨[(AV.sc (.string a1_0)), (AV.sc (.int .i64 a1_1)), (AV.sc (.int .i64 a1_2)), (AV.sc (.string a1_3))], 24⟩) :: []) 32 [(AV.agg [(AV.sc (.string a1_0)), (AV.sc (.int .i64 a1_1)), (AV.sc (.int .i64 a1_2)), (AV.sc (.string a1_3))])] fun v2 =>
ex_i64 v2 fun z3 =>
bif (z3 != (0)) then (
retL R ((0, some ⟨[(AV.sc (.string a1_0)), (AV.sc (.int .i64 a1_1)), (AV.sc (.int .i64 a1_2)), (AV.sc (.string a1_3))], 24⟩) :: []) [some (AV.sc (.int .i64 z3))]) else (
callQ Tryd.prog KK.gl ((0, some ⟨[(AV.sc (.string a1_0)), (AV.sc (.int .i64 a1_1)), (AV.sc (.int .i64 a1_2)), (AV.sc (.string a1_3))], 24⟩) :: []) 30 [a0, (AV.sc (.int .i64 a2))] fun v4 =>
exB v4 fun b5 =>
bif b5 then (
retL R ((0, some ⟨[(AV.sc (.string a1_0)), (AV.sc (.int .i64 a1_1)), (AV.sc (.int .i64 a1_2)), (AV.sc (.string a1_3))], 24⟩) :: []) [some (AV.sc (.int .i64 (12)))]) else (
retL R ((0, some ⟨[(AV.sc (.string a1_0)), (AV.sc (.int .i64 a1_1)), (AV.sc (.int .i64 a1_2)), (AV.sc (.string a1_3))], 24⟩) :: []) [some (AV.sc (.int .i64 (0)))])))
theorem F25_own (a0 : AV) (a1_0 : ByteArray) (a1_1 : Int) (a1_2 : Int) (a1_3 : ByteArray) (a2 : Int) (R : AV → Mem → Prop) (h : F25 a0 a1_0 a1_1 a1_2 a1_3 a2 R) : Own Tryd.prog KK.gl 25 [a0, (AV.agg [(AV.sc (.string a1_0)), (AV.sc (.int .i64 a1_1)), (AV.sc (.int .i64 a1_2)), (AV.sc (.string a1_3))]), (AV.sc (.int .i64 a2))] R := own_of_F fol Tryd.func25 (code := c25) (by kernel_rfl) (by kernel_rfl) (by kernel_rfl) (X := F25 a0 a1_0 a1_1 a1_2 a1_3 a2 R) (by kernel_rfl) h
/- skyway/readback.Say -/
noncomputable def c9 : Code := ((Tryd.f9).body).getD .skip
noncomputable def q9 (R : AV → Mem → Prop) : AExit → St → Prop := retQ Tryd.prog Tryd.f9 R
noncomputable def F9 (a0 : AV) (a1_0 : ByteArray) (a1_1 : Int) (a1_2 : Int) (a1_3 : ByteArray) (a2 : Int) (R : AV → Mem → Prop) : Prop :=
callQ Tryd.prog KK.gl ((0, some ⟨[(AV.sc (.string a1_0)), (AV.sc (.int .i64 a1_1)), (AV.sc (.int .i64 a1_2)), (AV.sc (.string a1_3))], 24⟩) :: []) 25 [a0, (AV.agg [(AV.sc (.string a1_0)), (AV.sc (.int .i64 a1_1)), (AV.sc (.int .i64 a1_2)), (AV.sc (.string a1_3))]), (AV.sc (.int .i64 a2))] fun v0 =>
ex_i64 v0 fun z1 =>
bif (z1 != (0)) then (
retL R ((0, some ⟨[(AV.sc (.string a1_0)), (AV.sc (.int .i64 a1_1)), (AV.sc (.int .i64 a1_2)), (AV.sc (.string a1_3))], 24⟩) :: []) [some AV.nils, some (AV.sc (.int .i64 z1))]) else (
callW Tryd.prog KK.gl ((0, some ⟨[(AV.sc (.string a1_0)), (AV.sc (.int .i64 a1_1)), (AV.sc (.int .i64 a1_2)), (AV.sc (.string a1_3))], 24⟩) :: []) 74 26 [a0] fun v2 m2 =>
opP (ldA (mget m2) 4 (AV.ptr 0 0)) fun v3 =>
exA4 v3 fun c4 c5 c6 c7 =>
exStr c4 fun s8 =>
ex_i64 c5 fun z9 =>
ex_i64 c6 fun z10 =>
exStr c7 fun s11 =>
callQ Tryd.prog KK.gl m2 27 [v2, (AV.agg [(AV.sc (.string s8)), (AV.sc (.int .i64 z9)), (AV.sc (.int .i64 z10)), (AV.sc (.string s11))])] fun v12 =>
ex_i64 v12 fun z13 =>
bif (decide (z13 ≥ (0))) then (
callW Tryd.prog KK.gl m2 212 28 [v2, (AV.sc (.int .i64 z13)), (AV.sc (.int .i64 (IntKind.wrap .i64 (z13 + (1)))))] fun v14 m14 =>
opP (lenS v14) fun v15 =>
ex_i64 v15 fun z16 =>
bif (z16 == (12)) then (
retL R m14 [some AV.nils, some (AV.sc (.int .i64 (9)))]) else (
opP (ldA (mget m14) 4 (AV.ptr 0 0)) fun v17 =>
exA4 v17 fun c18 c19 c20 c21 =>
exStr c18 fun s22 =>
ex_i64 c19 fun z23 =>
ex_i64 c20 fun z24 =>
exStr c21 fun s25 =>
opP (bld [(AV.sc (.string ⟨#[]⟩)), (AV.sc (.int .i64 (0))), (AV.sc (.int .i64 (0))), (AV.sc (.string ⟨#[]⟩)), (AV.sc (.int .i64 (0)))] [(0, 4), (4, 1)] [(0, (AV.agg [(AV.sc (.string s22)), (AV.sc (.int .i64 z23)), (AV.sc (.int .i64 z24)), (AV.sc (.string s25))])), (1, (AV.sc (.int .i64 a2)))]) fun v26 =>
opN (bsl 284 38 5 1 [(AV.sc (.string ⟨#[]⟩)), (AV.sc (.int .i64 (0))), (AV.sc (.int .i64 (0))), (AV.sc (.string ⟨#[]⟩)), (AV.sc (.int .i64 (0)))] [(0, v26)]) m14 fun v27 m27 =>
opN (app (mget m27) 38 5 56 [(AV.sc (.string ⟨#[]⟩)), (AV.sc (.int .i64 (0))), (AV.sc (.int .i64 (0))), (AV.sc (.string ⟨#[]⟩)), (AV.sc (.int .i64 (0)))] 285 v14 v27) m27 fun v28 m28 =>
retL R m28 [some v28, some (AV.sc (.int .i64 (0)))])) else (
opP (lenS v2) fun v29 =>
ex_i64 v29 fun z30 =>
bif (z30 == (12)) then (
retL R m2 [some AV.nils, some (AV.sc (.int .i64 (9)))]) else (
opP (ldA (mget m2) 4 (AV.ptr 0 0)) fun v31 =>
exA4 v31 fun c32 c33 c34 c35 =>
exStr c32 fun s36 =>
ex_i64 c33 fun z37 =>
ex_i64 c34 fun z38 =>
exStr c35 fun s39 =>
opP (bld [(AV.sc (.string ⟨#[]⟩)), (AV.sc (.int .i64 (0))), (AV.sc (.int .i64 (0))), (AV.sc (.string ⟨#[]⟩)), (AV.sc (.int .i64 (0)))] [(0, 4), (4, 1)] [(0, (AV.agg [(AV.sc (.string s36)), (AV.sc (.int .i64 z37)), (AV.sc (.int .i64 z38)), (AV.sc (.string s39))])), (1, (AV.sc (.int .i64 a2)))]) fun v40 =>
opN (bsl 215 38 5 1 [(AV.sc (.string ⟨#[]⟩)), (AV.sc (.int .i64 (0))), (AV.sc (.int .i64 (0))), (AV.sc (.string ⟨#[]⟩)), (AV.sc (.int .i64 (0)))] [(0, v40)]) m2 fun v41 m41 =>
opN (app (mget m41) 38 5 56 [(AV.sc (.string ⟨#[]⟩)), (AV.sc (.int .i64 (0))), (AV.sc (.int .i64 (0))), (AV.sc (.string ⟨#[]⟩)), (AV.sc (.int .i64 (0)))] 216 v2 v41) m41 fun v42 m42 =>
retL R m42 [some v42, some (AV.sc (.int .i64 (0)))])))
theorem F9_own (a0 : AV) (a1_0 : ByteArray) (a1_1 : Int) (a1_2 : Int) (a1_3 : ByteArray) (a2 : Int) (R : AV → Mem → Prop) (h : F9 a0 a1_0 a1_1 a1_2 a1_3 a2 R) : Own Tryd.prog KK.gl 9 [a0, (AV.agg [(AV.sc (.string a1_0)), (AV.sc (.int .i64 a1_1)), (AV.sc (.int .i64 a1_2)), (AV.sc (.string a1_3))]), (AV.sc (.int .i64 a2))] R := own_of_F fol Tryd.func9 (code := c9) (by kernel_rfl) (by kernel_rfl) (by kernel_rfl) (X := F9 a0 a1_0 a1_1 a1_2 a1_3 a2 R) (by kernel_rfl) h
/- skyway/skywaykeep3.pick -/
noncomputable def c10 : Code := ((Tryd.f10).body).getD .skip
noncomputable def q10 (R : AV → Mem → Prop) : AExit → St → Prop := retQ Tryd.prog Tryd.f10 R
noncomputable def F10 (a0 : Int) (a1 : Int) (R : AV → Mem → Prop) : Prop :=
opP (opA Tryd.prog (.convert 3 58 (.tmp 0)) 58 [(AV.sc (.int .i64 a0))] (mget []) 2) fun v0 =>
ex_u64 v0 fun z1 =>
opP (opA Tryd.prog (.convert 3 58 (.tmp 0)) 58 [(AV.sc (.int .i64 a1))] (mget []) 4) fun v2 =>
ex_u64 v2 fun z3 =>
opP (opA Tryd.prog (.binOp .rem 58 (.tmp 0) (.tmp 1) 58) 58 [(AV.sc (.int .u64 z1)), (AV.sc (.int .u64 z3))] (mget []) 5) fun v4 =>
ex_u64 v4 fun z5 =>
opP (opA Tryd.prog (.convert 58 3 (.tmp 0)) 3 [(AV.sc (.int .u64 z5))] (mget []) 6) fun v6 =>
ex_i64 v6 fun z7 =>
retL R [] [some (AV.sc (.int .i64 z7))]
theorem F10_own (a0 : Int) (a1 : Int) (R : AV → Mem → Prop) (h : F10 a0 a1 R) : Own Tryd.prog KK.gl 10 [(AV.sc (.int .i64 a0)), (AV.sc (.int .i64 a1))] R := own_of_F fol Tryd.func10 (code := c10) (by kernel_rfl) (by kernel_rfl) (by kernel_rfl) (X := F10 a0 a1 R) (by kernel_rfl) h
/- skyway/readback.Hear -/
noncomputable def c11 : Code := ((Tryd.f11).body).getD .skip
noncomputable def q11 (R : AV → Mem → Prop) : AExit → St → Prop := retQ Tryd.prog Tryd.f11 R
noncomputable def F11 (a0 : AV) (a1_0 : ByteArray) (a1_1 : Int) (a1_2 : Int) (a1_3 : ByteArray) (a2 : Int) (R : AV → Mem → Prop) : Prop :=
callQ Tryd.prog KK.gl ((0, some ⟨[(AV.sc (.string a1_0)), (AV.sc (.int .i64 a1_1)), (AV.sc (.int .i64 a1_2)), (AV.sc (.string a1_3))], 24⟩) :: []) 25 [a0, (AV.agg [(AV.sc (.string a1_0)), (AV.sc (.int .i64 a1_1)), (AV.sc (.int .i64 a1_2)), (AV.sc (.string a1_3))]), (AV.sc (.int .i64 a2))] fun v0 =>
ex_i64 v0 fun z1 =>
bif (z1 != (0)) then (
retL R ((0, some ⟨[(AV.sc (.string a1_0)), (AV.sc (.int .i64 a1_1)), (AV.sc (.int .i64 a1_2)), (AV.sc (.string a1_3))], 24⟩) :: []) [some AV.nils, some (AV.sc (.int .i64 z1))]) else (
callQ Tryd.prog KK.gl ((0, some ⟨[(AV.sc (.string a1_0)), (AV.sc (.int .i64 a1_1)), (AV.sc (.int .i64 a1_2)), (AV.sc (.string a1_3))], 24⟩) :: []) 27 [a0, (AV.agg [(AV.sc (.string a1_0)), (AV.sc (.int .i64 a1_1)), (AV.sc (.int .i64 a1_2)), (AV.sc (.string a1_3))])] fun v2 =>
ex_i64 v2 fun z3 =>
bif (decide (z3 < (0))) then (
retL R ((0, some ⟨[(AV.sc (.string a1_0)), (AV.sc (.int .i64 a1_1)), (AV.sc (.int .i64 a1_2)), (AV.sc (.string a1_3))], 24⟩) :: []) [some AV.nils, some (AV.sc (.int .i64 (8)))]) else (
opP (idxS 5 a0 (AV.sc (.int .i64 z3))) fun v4 =>
opP (fldO 4 v4) fun v5 =>
opP (ldS (mget ((0, some ⟨[(AV.sc (.string a1_0)), (AV.sc (.int .i64 a1_1)), (AV.sc (.int .i64 a1_2)), (AV.sc (.string a1_3))], 24⟩) :: [])) v5) fun v6 =>
ex_i64 v6 fun z7 =>
bif (decide ((IntKind.wrap .i64 (a2 - z7)) > (40))) then (
retL R ((0, some ⟨[(AV.sc (.string a1_0)), (AV.sc (.int .i64 a1_1)), (AV.sc (.int .i64 a1_2)), (AV.sc (.string a1_3))], 24⟩) :: []) [some AV.nils, some (AV.sc (.int .i64 (21)))]) else (
opP (idxS 5 a0 (AV.sc (.int .i64 z3))) fun v8 =>
opP (fldO 0 v8) fun v9 =>
opP (ldA (mget ((0, some ⟨[(AV.sc (.string a1_0)), (AV.sc (.int .i64 a1_1)), (AV.sc (.int .i64 a1_2)), (AV.sc (.string a1_3))], 24⟩) :: [])) 4 v9) fun v10 =>
exA4 v10 fun c11 c12 c13 c14 =>
exStr c11 fun s15 =>
ex_i64 c12 fun z16 =>
ex_i64 c13 fun z17 =>
exStr c14 fun s18 =>
opP (opA Tryd.prog (.binOp .neq 24 (.tmp 0) (.tmp 1) 24) 4 [(AV.agg [(AV.sc (.string s15)), (AV.sc (.int .i64 z16)), (AV.sc (.int .i64 z17)), (AV.sc (.string s18))]), (AV.agg [(AV.sc (.string a1_0)), (AV.sc (.int .i64 a1_1)), (AV.sc (.int .i64 a1_2)), (AV.sc (.string a1_3))])] (mget ((0, some ⟨[(AV.sc (.string a1_0)), (AV.sc (.int .i64 a1_1)), (AV.sc (.int .i64 a1_2)), (AV.sc (.string a1_3))], 24⟩) :: [])) 158) fun v19 =>
exB v19 fun b20 =>
bif b20 then (
retL R ((0, some ⟨[(AV.sc (.string a1_0)), (AV.sc (.int .i64 a1_1)), (AV.sc (.int .i64 a1_2)), (AV.sc (.string a1_3))], 24⟩) :: []) [some AV.nils, some (AV.sc (.int .i64 (17)))]) else (
callW Tryd.prog KK.gl ((0, some ⟨[(AV.sc (.string a1_0)), (AV.sc (.int .i64 a1_1)), (AV.sc (.int .i64 a1_2)), (AV.sc (.string a1_3))], 24⟩) :: []) 161 26 [a0] fun v21 m21 =>
callW Tryd.prog KK.gl m21 228 28 [v21, (AV.sc (.int .i64 z3)), (AV.sc (.int .i64 (IntKind.wrap .i64 (z3 + (1)))))] fun v22 m22 =>
retL R m22 [some v22, some (AV.sc (.int .i64 (0)))]))))
theorem F11_own (a0 : AV) (a1_0 : ByteArray) (a1_1 : Int) (a1_2 : Int) (a1_3 : ByteArray) (a2 : Int) (R : AV → Mem → Prop) (h : F11 a0 a1_0 a1_1 a1_2 a1_3 a2 R) : Own Tryd.prog KK.gl 11 [a0, (AV.agg [(AV.sc (.string a1_0)), (AV.sc (.int .i64 a1_1)), (AV.sc (.int .i64 a1_2)), (AV.sc (.string a1_3))]), (AV.sc (.int .i64 a2))] R := own_of_F fol Tryd.func11 (code := c11) (by kernel_rfl) (by kernel_rfl) (by kernel_rfl) (X := F11 a0 a1_0 a1_1 a1_2 a1_3 a2 R) (by kernel_rfl) h
/- skyway/readback.Of -/
noncomputable def c12 : Code := ((Tryd.f12).body).getD .skip
noncomputable def q12 (R : AV → Mem → Prop) : AExit → St → Prop := retQ Tryd.prog Tryd.f12 R
noncomputable def c12_0 : Code := loopB c12 0
noncomputable def q12_0 (R : AV → Mem → Prop) : AExit → St → Prop := contW Tryd.prog KK 33 0 c12 0 (q12 R)
noncomputable def qq12_0 (R : AV → Mem → Prop) (N0 : St → Prop) : AExit → St → Prop := thenQ N0 (q12_0 R)
def h12_0 (t1 : ByteArray) (t4 : AV) (t5 : Int) (t7 : AV) (t15 : AV) (t16 : Int) (t17 : Int) (m : Mem) : St := ⟨[(1, (AV.sc (.string t1))), (4, t4), (5, (AV.sc (.int .i64 t5))), (7, t7), (15, t15), (16, (AV.sc (.int .i64 t16))), (17, (AV.sc (.int .i64 t17)))], m, 100000⟩
noncomputable def B12_0 (t1 : ByteArray) (t4 : AV) (t5 : Int) (t7 : AV) (t15 : AV) (t16 : Int) (t17 : Int) (m : Mem) (R : AV → Mem → Prop) (N0 : St → Prop) : Prop :=
bif (decide (t17 < t16)) then (
opP (idxS 5 t15 (AV.sc (.int .i64 t17))) fun v4 =>
opP (ldA (mget m) 5 v4) fun v5 =>
exA5 v5 fun c6 c7 c8 c9 c10 =>
exStr c6 fun s11 =>
ex_i64 c7 fun z12 =>
ex_i64 c8 fun z13 =>
exStr c9 fun s14 =>
ex_i64 c10 fun z15 =>
bif ((s11).toList == (t1).toList) then (
opN (bsl 100013 24 4 1 [(AV.sc (.string ⟨#[]⟩)), (AV.sc (.int .i64 (0))), (AV.sc (.int .i64 (0))), (AV.sc (.string ⟨#[]⟩))] [(0, (AV.agg [(AV.sc (.string s11)), (AV.sc (.int .i64 z12)), (AV.sc (.int .i64 z13)), (AV.sc (.string s14))]))]) ((100003, some ⟨[(AV.sc (.string s11)), (AV.sc (.int .i64 z12)), (AV.sc (.int .i64 z13)), (AV.sc (.string s14)), (AV.sc (.int .i64 z15))], 38⟩) :: (100003, some ⟨[(AV.sc (.string ⟨#[]⟩)), (AV.sc (.int .i64 (0))), (AV.sc (.int .i64 (0))), (AV.sc (.string ⟨#[]⟩)), (AV.sc (.int .i64 (0)))], 38⟩) :: m) fun v16 m16 =>
opN (app (mget m16) 24 4 48 [(AV.sc (.string ⟨#[]⟩)), (AV.sc (.int .i64 (0))), (AV.sc (.int .i64 (0))), (AV.sc (.string ⟨#[]⟩))] 100014 t7 v16) m16 fun v17 m17 =>
N0 ⟨[(1, (AV.sc (.string t1))), (4, t4), (5, (AV.sc (.int .i64 t5))), (7, v17), (15, t15), (16, (AV.sc (.int .i64 t16))), (17, (AV.sc (.int .i64 (IntKind.wrap .i64 (t17 + (1)))))), (18, (AV.sc (.bool (decide (t17 < t16))))), (19, v4), (20, (AV.agg [(AV.sc (.string s11)), (AV.sc (.int .i64 z12)), (AV.sc (.int .i64 z13)), (AV.sc (.string s14)), (AV.sc (.int .i64 z15))])), (9, (AV.ptr 100003 0)), (21, (AV.ptr 100003 0)), (22, (AV.ptr 100003 0)), (23, (AV.sc (.string s11))), (24, (AV.sc (.string t1))), (25, (AV.sc (.bool ((s11).toList == (t1).toList)))), (26, t7), (27, (AV.ptr 100003 0)), (28, (AV.agg [(AV.sc (.string s11)), (AV.sc (.int .i64 z12)), (AV.sc (.int .i64 z13)), (AV.sc (.string s14))])), (29, v16), (30, v17), (31, (AV.sc (.int .i64 (IntKind.wrap .i64 (t17 + (1))))))], m17, 100018⟩) else (
N0 ⟨[(1, (AV.sc (.string t1))), (4, t4), (5, (AV.sc (.int .i64 t5))), (7, t7), (15, t15), (16, (AV.sc (.int .i64 t16))), (17, (AV.sc (.int .i64 (IntKind.wrap .i64 (t17 + (1)))))), (18, (AV.sc (.bool (decide (t17 < t16))))), (19, v4), (20, (AV.agg [(AV.sc (.string s11)), (AV.sc (.int .i64 z12)), (AV.sc (.int .i64 z13)), (AV.sc (.string s14)), (AV.sc (.int .i64 z15))])), (9, (AV.ptr 100003 0)), (21, (AV.ptr 100003 0)), (22, (AV.ptr 100003 0)), (23, (AV.sc (.string s11))), (24, (AV.sc (.string t1))), (25, (AV.sc (.bool ((s11).toList == (t1).toList)))), (31, (AV.sc (.int .i64 (IntKind.wrap .i64 (t17 + (1))))))], ((100003, some ⟨[(AV.sc (.string s11)), (AV.sc (.int .i64 z12)), (AV.sc (.int .i64 z13)), (AV.sc (.string s14)), (AV.sc (.int .i64 z15))], 38⟩) :: (100003, some ⟨[(AV.sc (.string ⟨#[]⟩)), (AV.sc (.int .i64 (0))), (AV.sc (.int .i64 (0))), (AV.sc (.string ⟨#[]⟩)), (AV.sc (.int .i64 (0)))], 38⟩) :: m), 100012⟩)) else (
retL R m [some t7, some (AV.sc (.int .i64 (0)))])
theorem B12_0_eq (t1 : ByteArray) (t4 : AV) (t5 : Int) (t7 : AV) (t15 : AV) (t16 : Int) (t17 : Int) (m : Mem) (R : AV → Mem → Prop) (N0 : St → Prop) : W Tryd.prog KK 33 0 c12_0 (h12_0 t1 t4 t5 t7 t15 t16 t17 m) (qq12_0 R N0) = B12_0 t1 t4 t5 t7 t15 t16 t17 m R N0 := by kernel_rfl
theorem L12_0 (R : AV → Mem → Prop) {σ : Type} (I : σ → Prop) (t1 : σ → ByteArray) (t4 : σ → AV) (t5 : σ → Int) (t7 : σ → AV) (t15 : σ → AV) (t16 : σ → Int) (t17 : σ → Int) (m : σ → Mem) (μ : σ → Nat) (step : ∀ x, I x → B12_0 (t1 x) (t4 x) (t5 x) (t7 x) (t15 x) (t16 x) (t17 x) (m x) R (fun s' => ∃ y, I y ∧ μ y < μ x ∧ Weak KK 33 0 s' (h12_0 (t1 y) (t4 y) (t5 y) (t7 y) (t15 y) (t16 y) (t17 y) (m y)))) (x : σ) (hx : I x) {s : St} (hw : Weak KK 33 0 s (h12_0 (t1 x) (t4 x) (t5 x) (t7 x) (t15 x) (t16 x) (t17 x) (m x))) : Tri Tryd.prog KK 33 0 (.loop c12_0) s (q12_0 R) :=
  Tri.weak hw (Tri.loops fol I (fun x => h12_0 (t1 x) (t4 x) (t5 x) (t7 x) (t15 x) (t16 x) (t17 x) (m x)) μ (fun x hx => (B12_0_eq (t1 x) (t4 x) (t5 x) (t7 x) (t15 x) (t16 x) (t17 x) (m x) R _).mpr (step x hx)) x hx)
noncomputable def F12 (a0 : AV) (a1 : ByteArray) (R : AV → Mem → Prop) : Prop :=
callQ Tryd.prog KK.gl [] 24 [a0] fun v0 =>
ex_i64 v0 fun z1 =>
bif (z1 != (0)) then (
retL R [] [some AV.nils, some (AV.sc (.int .i64 z1))]) else (
opP (lenS a0) fun v2 =>
ex_i64 v2 fun z3 =>
Tri Tryd.prog KK 33 0 (.loop c12_0) ⟨[(0, a0), (1, (AV.sc (.string a1))), (4, AV.nils), (5, (AV.sc (.int .i64 (0)))), (10, a0), (11, (AV.sc (.int .i64 z1))), (6, (AV.sc (.int .i64 z1))), (12, (AV.sc (.int .i64 z1))), (13, (AV.sc (.bool (z1 != (0))))), (7, AV.nils), (15, a0), (16, (AV.sc (.int .i64 z3))), (17, (AV.sc (.int .i64 (0))))], [], 74⟩ (q12_0 R))
theorem F12_own (a0 : AV) (a1 : ByteArray) (R : AV → Mem → Prop) (h : F12 a0 a1 R) : Own Tryd.prog KK.gl 12 [a0, (AV.sc (.string a1))] R := own_of_F fol Tryd.func12 (code := c12) (by kernel_rfl) (by kernel_rfl) (by kernel_rfl) (X := F12 a0 a1 R) (by kernel_rfl) h
/- slices.Index[[]skyway/api.Clearance,skyway/api.Clearance] -/
noncomputable def c29 : Code := ((Tryd.f29).body).getD .skip
noncomputable def q29 (R : AV → Mem → Prop) : AExit → St → Prop := retQ Tryd.prog Tryd.f29 R
noncomputable def c29_0 : Code := loopB c29 0
noncomputable def q29_0 (R : AV → Mem → Prop) : AExit → St → Prop := contW Tryd.prog KK 19 0 c29 0 (q29 R)
noncomputable def qq29_0 (R : AV → Mem → Prop) (N0 : St → Prop) : AExit → St → Prop := thenQ N0 (q29_0 R)
def h29_0 (t0 : AV) (t4 : Int) (t7 : Int) (t8 : Int) (b0_0 : ByteArray) (b0_1 : Int) (b0_2 : Int) (b0_3 : ByteArray) (m : Mem) : St := ⟨[(0, t0), (3, (AV.ptr 0 0)), (4, (AV.sc (.int .i64 t4))), (7, (AV.sc (.int .i64 t7))), (8, (AV.sc (.int .i64 t8)))], ((0, some ⟨[(AV.sc (.string b0_0)), (AV.sc (.int .i64 b0_1)), (AV.sc (.int .i64 b0_2)), (AV.sc (.string b0_3))], 24⟩) :: m), 100000⟩
noncomputable def B29_0 (t0 : AV) (t4 : Int) (t7 : Int) (t8 : Int) (b0_0 : ByteArray) (b0_1 : Int) (b0_2 : Int) (b0_3 : ByteArray) (m : Mem) (R : AV → Mem → Prop) (N0 : St → Prop) : Prop :=
bif (decide (t8 < t7)) then (
opP (idxS 4 t0 (AV.sc (.int .i64 t8))) fun v2 =>
opP (ldA (mget ((0, some ⟨[(AV.sc (.string b0_0)), (AV.sc (.int .i64 b0_1)), (AV.sc (.int .i64 b0_2)), (AV.sc (.string b0_3))], 24⟩) :: m)) 4 v2) fun v3 =>
exA4 v3 fun c4 c5 c6 c7 =>
exStr c4 fun s8 =>
ex_i64 c5 fun z9 =>
ex_i64 c6 fun z10 =>
exStr c7 fun s11 =>
opP (opA Tryd.prog (.binOp .eql 24 (.tmp 0) (.tmp 1) 24) 4 [(AV.agg [(AV.sc (.string b0_0)), (AV.sc (.int .i64 b0_1)), (AV.sc (.int .i64 b0_2)), (AV.sc (.string b0_3))]), (AV.agg [(AV.sc (.string s8)), (AV.sc (.int .i64 z9)), (AV.sc (.int .i64 z10)), (AV.sc (.string s11))])] (mget ((0, some ⟨[(AV.sc (.string b0_0)), (AV.sc (.int .i64 b0_1)), (AV.sc (.int .i64 b0_2)), (AV.sc (.string b0_3))], 24⟩) :: m)) 100008) fun v12 =>
exB v12 fun b13 =>
bif b13 then (
retL R ((0, some ⟨[(AV.sc (.string b0_0)), (AV.sc (.int .i64 b0_1)), (AV.sc (.int .i64 b0_2)), (AV.sc (.string b0_3))], 24⟩) :: m) [some (AV.sc (.int .i64 t8))]) else (
N0 ⟨[(0, t0), (3, (AV.ptr 0 0)), (4, (AV.sc (.int .i64 t4))), (7, (AV.sc (.int .i64 t7))), (8, (AV.sc (.int .i64 (IntKind.wrap .i64 (t8 + (1)))))), (9, (AV.sc (.bool (decide (t8 < t7))))), (10, (AV.sc (.int .i64 t8))), (5, (AV.sc (.int .i64 t8))), (11, (AV.agg [(AV.sc (.string b0_0)), (AV.sc (.int .i64 b0_1)), (AV.sc (.int .i64 b0_2)), (AV.sc (.string b0_3))])), (12, t0), (13, (AV.sc (.int .i64 t8))), (14, v2), (15, (AV.agg [(AV.sc (.string s8)), (AV.sc (.int .i64 z9)), (AV.sc (.int .i64 z10)), (AV.sc (.string s11))])), (16, (AV.sc (.bool b13))), (18, (AV.sc (.int .i64 (IntKind.wrap .i64 (t8 + (1))))))], ((0, some ⟨[(AV.sc (.string b0_0)), (AV.sc (.int .i64 b0_1)), (AV.sc (.int .i64 b0_2)), (AV.sc (.string b0_3))], 24⟩) :: m), 100011⟩)) else (
retL R ((0, some ⟨[(AV.sc (.string b0_0)), (AV.sc (.int .i64 b0_1)), (AV.sc (.int .i64 b0_2)), (AV.sc (.string b0_3))], 24⟩) :: m) [some (AV.sc (.int .i64 (-1)))])
theorem B29_0_eq (t0 : AV) (t4 : Int) (t7 : Int) (t8 : Int) (b0_0 : ByteArray) (b0_1 : Int) (b0_2 : Int) (b0_3 : ByteArray) (m : Mem) (R : AV → Mem → Prop) (N0 : St → Prop) : W Tryd.prog KK 19 0 c29_0 (h29_0 t0 t4 t7 t8 b0_0 b0_1 b0_2 b0_3 m) (qq29_0 R N0) = B29_0 t0 t4 t7 t8 b0_0 b0_1 b0_2 b0_3 m R N0 := by kernel_rfl
theorem L29_0 (R : AV → Mem → Prop) {σ : Type} (I : σ → Prop) (t0 : σ → AV) (t4 : σ → Int) (t7 : σ → Int) (t8 : σ → Int) (b0_0 : σ → ByteArray) (b0_1 : σ → Int) (b0_2 : σ → Int) (b0_3 : σ → ByteArray) (m : σ → Mem) (μ : σ → Nat) (step : ∀ x, I x → B29_0 (t0 x) (t4 x) (t7 x) (t8 x) (b0_0 x) (b0_1 x) (b0_2 x) (b0_3 x) (m x) R (fun s' => ∃ y, I y ∧ μ y < μ x ∧ Weak KK 19 0 s' (h29_0 (t0 y) (t4 y) (t7 y) (t8 y) (b0_0 y) (b0_1 y) (b0_2 y) (b0_3 y) (m y)))) (x : σ) (hx : I x) {s : St} (hw : Weak KK 19 0 s (h29_0 (t0 x) (t4 x) (t7 x) (t8 x) (b0_0 x) (b0_1 x) (b0_2 x) (b0_3 x) (m x))) : Tri Tryd.prog KK 19 0 (.loop c29_0) s (q29_0 R) :=
  Tri.weak hw (Tri.loops fol I (fun x => h29_0 (t0 x) (t4 x) (t7 x) (t8 x) (b0_0 x) (b0_1 x) (b0_2 x) (b0_3 x) (m x)) μ (fun x hx => (B29_0_eq (t0 x) (t4 x) (t7 x) (t8 x) (b0_0 x) (b0_1 x) (b0_2 x) (b0_3 x) (m x) R _).mpr (step x hx)) x hx)
noncomputable def F29 (a0 : AV) (a1_0 : ByteArray) (a1_1 : Int) (a1_2 : Int) (a1_3 : ByteArray) (R : AV → Mem → Prop) : Prop :=
opP (lenS a0) fun v0 =>
ex_i64 v0 fun z1 =>
Tri Tryd.prog KK 19 0 (.loop c29_0) ⟨[(0, a0), (1, (AV.agg [(AV.sc (.string a1_0)), (AV.sc (.int .i64 a1_1)), (AV.sc (.int .i64 a1_2)), (AV.sc (.string a1_3))])), (3, (AV.ptr 0 0)), (4, (AV.sc (.int .i64 (0)))), (6, a0), (7, (AV.sc (.int .i64 z1))), (8, (AV.sc (.int .i64 (0))))], ((0, some ⟨[(AV.sc (.string a1_0)), (AV.sc (.int .i64 a1_1)), (AV.sc (.int .i64 a1_2)), (AV.sc (.string a1_3))], 24⟩) :: []), 5⟩ (q29_0 R)
theorem F29_own (a0 : AV) (a1_0 : ByteArray) (a1_1 : Int) (a1_2 : Int) (a1_3 : ByteArray) (R : AV → Mem → Prop) (h : F29 a0 a1_0 a1_1 a1_2 a1_3 R) : Own Tryd.prog KK.gl 29 [a0, (AV.agg [(AV.sc (.string a1_0)), (AV.sc (.int .i64 a1_1)), (AV.sc (.int .i64 a1_2)), (AV.sc (.string a1_3))])] R := own_of_F fol Tryd.func29 (code := c29) (by kernel_rfl) (by kernel_rfl) (by kernel_rfl) (X := F29 a0 a1_0 a1_1 a1_2 a1_3 R) (by kernel_rfl) h
/- slices.Contains[[]skyway/api.Clearance,skyway/api.Clearance] -/
noncomputable def c13 : Code := ((Tryd.f13).body).getD .skip
noncomputable def q13 (R : AV → Mem → Prop) : AExit → St → Prop := retQ Tryd.prog Tryd.f13 R
noncomputable def F13 (a0 : AV) (a1_0 : ByteArray) (a1_1 : Int) (a1_2 : Int) (a1_3 : ByteArray) (R : AV → Mem → Prop) : Prop :=
callQ Tryd.prog KK.gl ((0, some ⟨[(AV.sc (.string a1_0)), (AV.sc (.int .i64 a1_1)), (AV.sc (.int .i64 a1_2)), (AV.sc (.string a1_3))], 24⟩) :: []) 29 [a0, (AV.agg [(AV.sc (.string a1_0)), (AV.sc (.int .i64 a1_1)), (AV.sc (.int .i64 a1_2)), (AV.sc (.string a1_3))])] fun v0 =>
ex_i64 v0 fun z1 =>
retL R ((0, some ⟨[(AV.sc (.string a1_0)), (AV.sc (.int .i64 a1_1)), (AV.sc (.int .i64 a1_2)), (AV.sc (.string a1_3))], 24⟩) :: []) [some (AV.sc (.bool (decide (z1 ≥ (0)))))]
theorem F13_own (a0 : AV) (a1_0 : ByteArray) (a1_1 : Int) (a1_2 : Int) (a1_3 : ByteArray) (R : AV → Mem → Prop) (h : F13 a0 a1_0 a1_1 a1_2 a1_3 R) : Own Tryd.prog KK.gl 13 [a0, (AV.agg [(AV.sc (.string a1_0)), (AV.sc (.int .i64 a1_1)), (AV.sc (.int .i64 a1_2)), (AV.sc (.string a1_3))])] R := own_of_F fol Tryd.func13 (code := c13) (by kernel_rfl) (by kernel_rfl) (by kernel_rfl) (X := F13 a0 a1_0 a1_1 a1_2 a1_3 R) (by kernel_rfl) h
/- skyway/skywaykeep3.ReadbackCloses -/
noncomputable def c3 : Code := ((Tryd.f3).body).getD .skip
noncomputable def q3 (R : AV → Mem → Prop) : AExit → St → Prop := retQ Tryd.prog Tryd.f3 R
noncomputable def F3 (a0 : AV) (a1_0 : ByteArray) (a1_1 : Int) (a1_2 : Int) (a1_3 : ByteArray) (a2 : Int) (a3 : Int) (R : AV → Mem → Prop) : Prop :=
callQ Tryd.prog KK.gl ((0, some ⟨[(AV.sc (.string a1_0)), (AV.sc (.int .i64 a1_1)), (AV.sc (.int .i64 a1_2)), (AV.sc (.string a1_3))], 24⟩) :: []) 8 [] fun v0 =>
exB v0 fun b1 =>
bif (!b1) then (
retL R ((0, some ⟨[(AV.sc (.string a1_0)), (AV.sc (.int .i64 a1_1)), (AV.sc (.int .i64 a1_2)), (AV.sc (.string a1_3))], 24⟩) :: []) [some (AV.sc (.bool false))]) else (
callQ Tryd.prog KK.gl ((0, some ⟨[(AV.sc (.string a1_0)), (AV.sc (.int .i64 a1_1)), (AV.sc (.int .i64 a1_2)), (AV.sc (.string a1_3))], 24⟩) :: []) 9 [a0, (AV.agg [(AV.sc (.string a1_0)), (AV.sc (.int .i64 a1_1)), (AV.sc (.int .i64 a1_2)), (AV.sc (.string a1_3))]), (AV.sc (.int .i64 a2))] fun v2 =>
exT2 v2 fun c3 c4 =>
ex_i64 c4 fun z5 =>
bif (z5 != (0)) then (
opP (lenS c3) fun v6 =>
ex_i64 v6 fun z7 =>
retL R ((0, some ⟨[(AV.sc (.string a1_0)), (AV.sc (.int .i64 a1_1)), (AV.sc (.int .i64 a1_2)), (AV.sc (.string a1_3))], 24⟩) :: []) [some (AV.sc (.bool (z7 == (0))))]) else (
callQ Tryd.prog KK.gl ((0, some ⟨[(AV.sc (.string a1_0)), (AV.sc (.int .i64 a1_1)), (AV.sc (.int .i64 a1_2)), (AV.sc (.string a1_3))], 24⟩) :: []) 10 [(AV.sc (.int .i64 a3)), (AV.sc (.int .i64 (60)))] fun v8 =>
ex_i64 v8 fun z9 =>
bif (decide ((IntKind.wrap .i64 (a2 + z9)) > (200000))) then (
retL R ((0, some ⟨[(AV.sc (.string a1_0)), (AV.sc (.int .i64 a1_1)), (AV.sc (.int .i64 a1_2)), (AV.sc (.string a1_3))], 24⟩) :: []) [some (AV.sc (.bool true))]) else (
callQ Tryd.prog KK.gl ((0, some ⟨[(AV.sc (.string a1_0)), (AV.sc (.int .i64 a1_1)), (AV.sc (.int .i64 a1_2)), (AV.sc (.string a1_3))], 24⟩) :: []) 11 [c3, (AV.agg [(AV.sc (.string a1_0)), (AV.sc (.int .i64 a1_1)), (AV.sc (.int .i64 a1_2)), (AV.sc (.string a1_3))]), (AV.sc (.int .i64 (IntKind.wrap .i64 (a2 + z9))))] fun v10 =>
exT2 v10 fun c11 c12 =>
ex_i64 c12 fun z13 =>
bif (decide ((IntKind.wrap .i64 ((IntKind.wrap .i64 (a2 + z9)) - a2)) > (40))) then (
bif (z13 == (21)) then (
opP (lenS c11) fun v14 =>
ex_i64 v14 fun z15 =>
retL R ((0, some ⟨[(AV.sc (.string a1_0)), (AV.sc (.int .i64 a1_1)), (AV.sc (.int .i64 a1_2)), (AV.sc (.string a1_3))], 24⟩) :: []) [some (AV.sc (.bool (z15 == (0))))]) else (
retL R ((0, some ⟨[(AV.sc (.string a1_0)), (AV.sc (.int .i64 a1_1)), (AV.sc (.int .i64 a1_2)), (AV.sc (.string a1_3))], 24⟩) :: []) [some (AV.sc (.bool false))])) else (
callQ Tryd.prog KK.gl ((0, some ⟨[(AV.sc (.string a1_0)), (AV.sc (.int .i64 a1_1)), (AV.sc (.int .i64 a1_2)), (AV.sc (.string a1_3))], 24⟩) :: []) 11 [c11, (AV.agg [(AV.sc (.string a1_0)), (AV.sc (.int .i64 a1_1)), (AV.sc (.int .i64 a1_2)), (AV.sc (.string a1_3))]), (AV.sc (.int .i64 (IntKind.wrap .i64 (a2 + z9))))] fun v16 =>
exT2 v16 fun c17 c18 =>
ex_i64 c18 fun z19 =>
callQ Tryd.prog KK.gl ((0, some ⟨[(AV.sc (.string a1_0)), (AV.sc (.int .i64 a1_1)), (AV.sc (.int .i64 a1_2)), (AV.sc (.string a1_3))], 24⟩) :: []) 12 [c11, (AV.sc (.string a1_0))] fun v20 =>
exT2 v20 fun c21 c22 =>
ex_i64 c22 fun z23 =>
bif (z13 == (0)) then (
bif (z19 == (8)) then (
bif (z23 == (0)) then (
callQ Tryd.prog KK.gl ((0, some ⟨[(AV.sc (.string a1_0)), (AV.sc (.int .i64 a1_1)), (AV.sc (.int .i64 a1_2)), (AV.sc (.string a1_3))], 24⟩) :: []) 13 [c21, (AV.agg [(AV.sc (.string a1_0)), (AV.sc (.int .i64 a1_1)), (AV.sc (.int .i64 a1_2)), (AV.sc (.string a1_3))])] fun v24 =>
exB v24 fun b25 =>
bif (!b25) then (
opP (lenS c11) fun v26 =>
ex_i64 v26 fun z27 =>
opP (lenS c3) fun v28 =>
ex_i64 v28 fun z29 =>
retL R ((0, some ⟨[(AV.sc (.string a1_0)), (AV.sc (.int .i64 a1_1)), (AV.sc (.int .i64 a1_2)), (AV.sc (.string a1_3))], 24⟩) :: []) [some (AV.sc (.bool (z27 == (IntKind.wrap .i64 (z29 - (1))))))]) else (
retL R ((0, some ⟨[(AV.sc (.string a1_0)), (AV.sc (.int .i64 a1_1)), (AV.sc (.int .i64 a1_2)), (AV.sc (.string a1_3))], 24⟩) :: []) [some (AV.sc (.bool false))])) else (
retL R ((0, some ⟨[(AV.sc (.string a1_0)), (AV.sc (.int .i64 a1_1)), (AV.sc (.int .i64 a1_2)), (AV.sc (.string a1_3))], 24⟩) :: []) [some (AV.sc (.bool false))])) else (
retL R ((0, some ⟨[(AV.sc (.string a1_0)), (AV.sc (.int .i64 a1_1)), (AV.sc (.int .i64 a1_2)), (AV.sc (.string a1_3))], 24⟩) :: []) [some (AV.sc (.bool false))])) else (
retL R ((0, some ⟨[(AV.sc (.string a1_0)), (AV.sc (.int .i64 a1_1)), (AV.sc (.int .i64 a1_2)), (AV.sc (.string a1_3))], 24⟩) :: []) [some (AV.sc (.bool false))])))))
theorem F3_own (a0 : AV) (a1_0 : ByteArray) (a1_1 : Int) (a1_2 : Int) (a1_3 : ByteArray) (a2 : Int) (a3 : Int) (R : AV → Mem → Prop) (h : F3 a0 a1_0 a1_1 a1_2 a1_3 a2 a3 R) : Own Tryd.prog KK.gl 3 [a0, (AV.agg [(AV.sc (.string a1_0)), (AV.sc (.int .i64 a1_1)), (AV.sc (.int .i64 a1_2)), (AV.sc (.string a1_3))]), (AV.sc (.int .i64 a2)), (AV.sc (.int .i64 a3))] R := own_of_F fol Tryd.func3 (code := c3) (by kernel_rfl) (by kernel_rfl) (by kernel_rfl) (X := F3 a0 a1_0 a1_1 a1_2 a1_3 a2 a3 R) (by kernel_rfl) h
/- skyway/readback.Lapse -/
noncomputable def c14 : Code := ((Tryd.f14).body).getD .skip
noncomputable def q14 (R : AV → Mem → Prop) : AExit → St → Prop := retQ Tryd.prog Tryd.f14 R
noncomputable def c14_0 : Code := loopB c14 0
noncomputable def q14_0 (R : AV → Mem → Prop) : AExit → St → Prop := contW Tryd.prog KK 43 0 c14 0 (q14 R)
noncomputable def qq14_0 (R : AV → Mem → Prop) (N0 : St → Prop) : AExit → St → Prop := thenQ N0 (q14_0 R)
def h14_0 (t1 : Int) (t4 : AV) (t5 : AV) (t6 : Int) (t8 : AV) (t9 : AV) (t20 : AV) (t21 : Int) (t22 : Int) (m : Mem) : St := ⟨[(1, (AV.sc (.int .i64 t1))), (4, t4), (5, t5), (6, (AV.sc (.int .i64 t6))), (8, t8), (9, t9), (20, t20), (21, (AV.sc (.int .i64 t21))), (22, (AV.sc (.int .i64 t22)))], m, 100000⟩
noncomputable def B14_0 (t1 : Int) (t4 : AV) (t5 : AV) (t6 : Int) (t8 : AV) (t9 : AV) (t20 : AV) (t21 : Int) (t22 : Int) (m : Mem) (R : AV → Mem → Prop) (N0 : St → Prop) : Prop :=
bif (decide (t22 < t21)) then (
opP (idxS 5 t20 (AV.sc (.int .i64 t22))) fun v6 =>
opP (ldA (mget m) 5 v6) fun v7 =>
exA5 v7 fun c8 c9 c10 c11 c12 =>
exStr c8 fun s13 =>
ex_i64 c9 fun z14 =>
ex_i64 c10 fun z15 =>
exStr c11 fun s16 =>
ex_i64 c12 fun z17 =>
bif (decide ((IntKind.wrap .i64 (t1 - z17)) > (40))) then (
opN (bsl 100013 24 4 1 [(AV.sc (.string ⟨#[]⟩)), (AV.sc (.int .i64 (0))), (AV.sc (.int .i64 (0))), (AV.sc (.string ⟨#[]⟩))] [(0, (AV.agg [(AV.sc (.string s13)), (AV.sc (.int .i64 z14)), (AV.sc (.int .i64 z15)), (AV.sc (.string s16))]))]) ((100003, some ⟨[(AV.sc (.string s13)), (AV.sc (.int .i64 z14)), (AV.sc (.int .i64 z15)), (AV.sc (.string s16)), (AV.sc (.int .i64 z17))], 38⟩) :: (100003, some ⟨[(AV.sc (.string ⟨#[]⟩)), (AV.sc (.int .i64 (0))), (AV.sc (.int .i64 (0))), (AV.sc (.string ⟨#[]⟩)), (AV.sc (.int .i64 (0)))], 38⟩) :: m) fun v18 m18 =>
opN (app (mget m18) 24 4 48 [(AV.sc (.string ⟨#[]⟩)), (AV.sc (.int .i64 (0))), (AV.sc (.int .i64 (0))), (AV.sc (.string ⟨#[]⟩))] 100014 t9 v18) m18 fun v19 m19 =>
N0 ⟨[(1, (AV.sc (.int .i64 t1))), (4, t4), (5, t5), (6, (AV.sc (.int .i64 t6))), (8, t8), (9, v19), (20, t20), (21, (AV.sc (.int .i64 t21))), (22, (AV.sc (.int .i64 (IntKind.wrap .i64 (t22 + (1)))))), (23, (AV.sc (.bool (decide (t22 < t21))))), (24, v6), (25, (AV.agg [(AV.sc (.string s13)), (AV.sc (.int .i64 z14)), (AV.sc (.int .i64 z15)), (AV.sc (.string s16)), (AV.sc (.int .i64 z17))])), (11, (AV.ptr 100003 0)), (26, (AV.sc (.int .i64 t1))), (27, (AV.ptr 100003 4)), (28, (AV.sc (.int .i64 z17))), (29, (AV.sc (.int .i64 (IntKind.wrap .i64 (t1 - z17))))), (30, (AV.sc (.bool (decide ((IntKind.wrap .i64 (t1 - z17)) > (40)))))), (31, t9), (32, (AV.ptr 100003 0)), (33, (AV.agg [(AV.sc (.string s13)), (AV.sc (.int .i64 z14)), (AV.sc (.int .i64 z15)), (AV.sc (.string s16))])), (34, v18), (35, v19), (40, (AV.sc (.int .i64 (IntKind.wrap .i64 (t22 + (1))))))], m19, 100018⟩) else (
opN (bsl 100012 38 5 1 [(AV.sc (.string ⟨#[]⟩)), (AV.sc (.int .i64 (0))), (AV.sc (.int .i64 (0))), (AV.sc (.string ⟨#[]⟩)), (AV.sc (.int .i64 (0)))] [(0, (AV.agg [(AV.sc (.string s13)), (AV.sc (.int .i64 z14)), (AV.sc (.int .i64 z15)), (AV.sc (.string s16)), (AV.sc (.int .i64 z17))]))]) ((100003, some ⟨[(AV.sc (.string s13)), (AV.sc (.int .i64 z14)), (AV.sc (.int .i64 z15)), (AV.sc (.string s16)), (AV.sc (.int .i64 z17))], 38⟩) :: (100003, some ⟨[(AV.sc (.string ⟨#[]⟩)), (AV.sc (.int .i64 (0))), (AV.sc (.int .i64 (0))), (AV.sc (.string ⟨#[]⟩)), (AV.sc (.int .i64 (0)))], 38⟩) :: m) fun v20 m20 =>
opN (app (mget m20) 38 5 56 [(AV.sc (.string ⟨#[]⟩)), (AV.sc (.int .i64 (0))), (AV.sc (.int .i64 (0))), (AV.sc (.string ⟨#[]⟩)), (AV.sc (.int .i64 (0)))] 100013 t8 v20) m20 fun v21 m21 =>
N0 ⟨[(1, (AV.sc (.int .i64 t1))), (4, t4), (5, t5), (6, (AV.sc (.int .i64 t6))), (8, v21), (9, t9), (20, t20), (21, (AV.sc (.int .i64 t21))), (22, (AV.sc (.int .i64 (IntKind.wrap .i64 (t22 + (1)))))), (23, (AV.sc (.bool (decide (t22 < t21))))), (24, v6), (25, (AV.agg [(AV.sc (.string s13)), (AV.sc (.int .i64 z14)), (AV.sc (.int .i64 z15)), (AV.sc (.string s16)), (AV.sc (.int .i64 z17))])), (11, (AV.ptr 100003 0)), (26, (AV.sc (.int .i64 t1))), (27, (AV.ptr 100003 4)), (28, (AV.sc (.int .i64 z17))), (29, (AV.sc (.int .i64 (IntKind.wrap .i64 (t1 - z17))))), (30, (AV.sc (.bool (decide ((IntKind.wrap .i64 (t1 - z17)) > (40)))))), (36, t8), (37, (AV.agg [(AV.sc (.string s13)), (AV.sc (.int .i64 z14)), (AV.sc (.int .i64 z15)), (AV.sc (.string s16)), (AV.sc (.int .i64 z17))])), (38, v20), (39, v21), (40, (AV.sc (.int .i64 (IntKind.wrap .i64 (t22 + (1))))))], m21, 100017⟩)) else (
retL R m [some t8, some t9, some (AV.sc (.int .i64 (0)))])
theorem B14_0_eq (t1 : Int) (t4 : AV) (t5 : AV) (t6 : Int) (t8 : AV) (t9 : AV) (t20 : AV) (t21 : Int) (t22 : Int) (m : Mem) (R : AV → Mem → Prop) (N0 : St → Prop) : W Tryd.prog KK 43 0 c14_0 (h14_0 t1 t4 t5 t6 t8 t9 t20 t21 t22 m) (qq14_0 R N0) = B14_0 t1 t4 t5 t6 t8 t9 t20 t21 t22 m R N0 := by kernel_rfl
theorem L14_0 (R : AV → Mem → Prop) {σ : Type} (I : σ → Prop) (t1 : σ → Int) (t4 : σ → AV) (t5 : σ → AV) (t6 : σ → Int) (t8 : σ → AV) (t9 : σ → AV) (t20 : σ → AV) (t21 : σ → Int) (t22 : σ → Int) (m : σ → Mem) (μ : σ → Nat) (step : ∀ x, I x → B14_0 (t1 x) (t4 x) (t5 x) (t6 x) (t8 x) (t9 x) (t20 x) (t21 x) (t22 x) (m x) R (fun s' => ∃ y, I y ∧ μ y < μ x ∧ Weak KK 43 0 s' (h14_0 (t1 y) (t4 y) (t5 y) (t6 y) (t8 y) (t9 y) (t20 y) (t21 y) (t22 y) (m y)))) (x : σ) (hx : I x) {s : St} (hw : Weak KK 43 0 s (h14_0 (t1 x) (t4 x) (t5 x) (t6 x) (t8 x) (t9 x) (t20 x) (t21 x) (t22 x) (m x))) : Tri Tryd.prog KK 43 0 (.loop c14_0) s (q14_0 R) :=
  Tri.weak hw (Tri.loops fol I (fun x => h14_0 (t1 x) (t4 x) (t5 x) (t6 x) (t8 x) (t9 x) (t20 x) (t21 x) (t22 x) (m x)) μ (fun x hx => (B14_0_eq (t1 x) (t4 x) (t5 x) (t6 x) (t8 x) (t9 x) (t20 x) (t21 x) (t22 x) (m x) R _).mpr (step x hx)) x hx)
noncomputable def F14 (a0 : AV) (a1 : Int) (R : AV → Mem → Prop) : Prop :=
callQ Tryd.prog KK.gl [] 24 [a0] fun v0 =>
ex_i64 v0 fun z1 =>
bif (z1 != (0)) then (
retL R [] [some AV.nils, some AV.nils, some (AV.sc (.int .i64 z1))]) else (
callQ Tryd.prog KK.gl [] 30 [a0, (AV.sc (.int .i64 a1))] fun v2 =>
exB v2 fun b3 =>
bif b3 then (
retL R [] [some AV.nils, some AV.nils, some (AV.sc (.int .i64 (12)))]) else (
opP (lenS a0) fun v4 =>
ex_i64 v4 fun z5 =>
Tri Tryd.prog KK 43 0 (.loop c14_0) ⟨[(0, a0), (1, (AV.sc (.int .i64 a1))), (4, AV.nils), (5, AV.nils), (6, (AV.sc (.int .i64 (0)))), (12, a0), (13, (AV.sc (.int .i64 z1))), (7, (AV.sc (.int .i64 z1))), (14, (AV.sc (.int .i64 z1))), (15, (AV.sc (.bool (z1 != (0))))), (17, a0), (18, (AV.sc (.int .i64 a1))), (19, (AV.sc (.bool b3))), (8, AV.nils), (9, AV.nils), (20, a0), (21, (AV.sc (.int .i64 z5))), (22, (AV.sc (.int .i64 (0))))], [], 142⟩ (q14_0 R)))
theorem F14_own (a0 : AV) (a1 : Int) (R : AV → Mem → Prop) (h : F14 a0 a1 R) : Own Tryd.prog KK.gl 14 [a0, (AV.sc (.int .i64 a1))] R := own_of_F fol Tryd.func14 (code := c14) (by kernel_rfl) (by kernel_rfl) (by kernel_rfl) (X := F14 a0 a1 R) (by kernel_rfl) h
/- slices.Index[[]skyway/api.ReadbackOpen,skyway/api.ReadbackOpen] -/
noncomputable def c31 : Code := ((Tryd.f31).body).getD .skip
noncomputable def q31 (R : AV → Mem → Prop) : AExit → St → Prop := retQ Tryd.prog Tryd.f31 R
noncomputable def c31_0 : Code := loopB c31 0
noncomputable def q31_0 (R : AV → Mem → Prop) : AExit → St → Prop := contW Tryd.prog KK 19 0 c31 0 (q31 R)
noncomputable def qq31_0 (R : AV → Mem → Prop) (N0 : St → Prop) : AExit → St → Prop := thenQ N0 (q31_0 R)
def h31_0 (t0 : AV) (t4 : Int) (t7 : Int) (t8 : Int) (b0_0 : ByteArray) (b0_1 : Int) (b0_2 : Int) (b0_3 : ByteArray) (b0_4 : Int) (m : Mem) : St := ⟨[(0, t0), (3, (AV.ptr 0 0)), (4, (AV.sc (.int .i64 t4))), (7, (AV.sc (.int .i64 t7))), (8, (AV.sc (.int .i64 t8)))], ((0, some ⟨[(AV.sc (.string b0_0)), (AV.sc (.int .i64 b0_1)), (AV.sc (.int .i64 b0_2)), (AV.sc (.string b0_3)), (AV.sc (.int .i64 b0_4))], 38⟩) :: m), 100000⟩
noncomputable def B31_0 (t0 : AV) (t4 : Int) (t7 : Int) (t8 : Int) (b0_0 : ByteArray) (b0_1 : Int) (b0_2 : Int) (b0_3 : ByteArray) (b0_4 : Int) (m : Mem) (R : AV → Mem → Prop) (N0 : St → Prop) : Prop :=
bif (decide (t8 < t7)) then (
opP (idxS 5 t0 (AV.sc (.int .i64 t8))) fun v2 =>
opP (ldA (mget ((0, some ⟨[(AV.sc (.string b0_0)), (AV.sc (.int .i64 b0_1)), (AV.sc (.int .i64 b0_2)), (AV.sc (.string b0_3)), (AV.sc (.int .i64 b0_4))], 38⟩) :: m)) 5 v2) fun v3 =>
exA5 v3 fun c4 c5 c6 c7 c8 =>
exStr c4 fun s9 =>
ex_i64 c5 fun z10 =>
ex_i64 c6 fun z11 =>
exStr c7 fun s12 =>
ex_i64 c8 fun z13 =>
opP (opA Tryd.prog (.binOp .eql 38 (.tmp 0) (.tmp 1) 38) 4 [(AV.agg [(AV.sc (.string b0_0)), (AV.sc (.int .i64 b0_1)), (AV.sc (.int .i64 b0_2)), (AV.sc (.string b0_3)), (AV.sc (.int .i64 b0_4))]), (AV.agg [(AV.sc (.string s9)), (AV.sc (.int .i64 z10)), (AV.sc (.int .i64 z11)), (AV.sc (.string s12)), (AV.sc (.int .i64 z13))])] (mget ((0, some ⟨[(AV.sc (.string b0_0)), (AV.sc (.int .i64 b0_1)), (AV.sc (.int .i64 b0_2)), (AV.sc (.string b0_3)), (AV.sc (.int .i64 b0_4))], 38⟩) :: m)) 100008) fun v14 =>
exB v14 fun b15 =>
bif b15 then (
retL R ((0, some ⟨[(AV.sc (.string b0_0)), (AV.sc (.int .i64 b0_1)), (AV.sc (.int .i64 b0_2)), (AV.sc (.string b0_3)), (AV.sc (.int .i64 b0_4))], 38⟩) :: m) [some (AV.sc (.int .i64 t8))]) else (
N0 ⟨[(0, t0), (3, (AV.ptr 0 0)), (4, (AV.sc (.int .i64 t4))), (7, (AV.sc (.int .i64 t7))), (8, (AV.sc (.int .i64 (IntKind.wrap .i64 (t8 + (1)))))), (9, (AV.sc (.bool (decide (t8 < t7))))), (10, (AV.sc (.int .i64 t8))), (5, (AV.sc (.int .i64 t8))), (11, (AV.agg [(AV.sc (.string b0_0)), (AV.sc (.int .i64 b0_1)), (AV.sc (.int .i64 b0_2)), (AV.sc (.string b0_3)), (AV.sc (.int .i64 b0_4))])), (12, t0), (13, (AV.sc (.int .i64 t8))), (14, v2), (15, (AV.agg [(AV.sc (.string s9)), (AV.sc (.int .i64 z10)), (AV.sc (.int .i64 z11)), (AV.sc (.string s12)), (AV.sc (.int .i64 z13))])), (16, (AV.sc (.bool b15))), (18, (AV.sc (.int .i64 (IntKind.wrap .i64 (t8 + (1))))))], ((0, some ⟨[(AV.sc (.string b0_0)), (AV.sc (.int .i64 b0_1)), (AV.sc (.int .i64 b0_2)), (AV.sc (.string b0_3)), (AV.sc (.int .i64 b0_4))], 38⟩) :: m), 100011⟩)) else (
retL R ((0, some ⟨[(AV.sc (.string b0_0)), (AV.sc (.int .i64 b0_1)), (AV.sc (.int .i64 b0_2)), (AV.sc (.string b0_3)), (AV.sc (.int .i64 b0_4))], 38⟩) :: m) [some (AV.sc (.int .i64 (-1)))])
theorem B31_0_eq (t0 : AV) (t4 : Int) (t7 : Int) (t8 : Int) (b0_0 : ByteArray) (b0_1 : Int) (b0_2 : Int) (b0_3 : ByteArray) (b0_4 : Int) (m : Mem) (R : AV → Mem → Prop) (N0 : St → Prop) : W Tryd.prog KK 19 0 c31_0 (h31_0 t0 t4 t7 t8 b0_0 b0_1 b0_2 b0_3 b0_4 m) (qq31_0 R N0) = B31_0 t0 t4 t7 t8 b0_0 b0_1 b0_2 b0_3 b0_4 m R N0 := by kernel_rfl
theorem L31_0 (R : AV → Mem → Prop) {σ : Type} (I : σ → Prop) (t0 : σ → AV) (t4 : σ → Int) (t7 : σ → Int) (t8 : σ → Int) (b0_0 : σ → ByteArray) (b0_1 : σ → Int) (b0_2 : σ → Int) (b0_3 : σ → ByteArray) (b0_4 : σ → Int) (m : σ → Mem) (μ : σ → Nat) (step : ∀ x, I x → B31_0 (t0 x) (t4 x) (t7 x) (t8 x) (b0_0 x) (b0_1 x) (b0_2 x) (b0_3 x) (b0_4 x) (m x) R (fun s' => ∃ y, I y ∧ μ y < μ x ∧ Weak KK 19 0 s' (h31_0 (t0 y) (t4 y) (t7 y) (t8 y) (b0_0 y) (b0_1 y) (b0_2 y) (b0_3 y) (b0_4 y) (m y)))) (x : σ) (hx : I x) {s : St} (hw : Weak KK 19 0 s (h31_0 (t0 x) (t4 x) (t7 x) (t8 x) (b0_0 x) (b0_1 x) (b0_2 x) (b0_3 x) (b0_4 x) (m x))) : Tri Tryd.prog KK 19 0 (.loop c31_0) s (q31_0 R) :=
  Tri.weak hw (Tri.loops fol I (fun x => h31_0 (t0 x) (t4 x) (t7 x) (t8 x) (b0_0 x) (b0_1 x) (b0_2 x) (b0_3 x) (b0_4 x) (m x)) μ (fun x hx => (B31_0_eq (t0 x) (t4 x) (t7 x) (t8 x) (b0_0 x) (b0_1 x) (b0_2 x) (b0_3 x) (b0_4 x) (m x) R _).mpr (step x hx)) x hx)
noncomputable def F31 (a0 : AV) (a1_0 : ByteArray) (a1_1 : Int) (a1_2 : Int) (a1_3 : ByteArray) (a1_4 : Int) (R : AV → Mem → Prop) : Prop :=
opP (lenS a0) fun v0 =>
ex_i64 v0 fun z1 =>
Tri Tryd.prog KK 19 0 (.loop c31_0) ⟨[(0, a0), (1, (AV.agg [(AV.sc (.string a1_0)), (AV.sc (.int .i64 a1_1)), (AV.sc (.int .i64 a1_2)), (AV.sc (.string a1_3)), (AV.sc (.int .i64 a1_4))])), (3, (AV.ptr 0 0)), (4, (AV.sc (.int .i64 (0)))), (6, a0), (7, (AV.sc (.int .i64 z1))), (8, (AV.sc (.int .i64 (0))))], ((0, some ⟨[(AV.sc (.string a1_0)), (AV.sc (.int .i64 a1_1)), (AV.sc (.int .i64 a1_2)), (AV.sc (.string a1_3)), (AV.sc (.int .i64 a1_4))], 38⟩) :: []), 5⟩ (q31_0 R)
theorem F31_own (a0 : AV) (a1_0 : ByteArray) (a1_1 : Int) (a1_2 : Int) (a1_3 : ByteArray) (a1_4 : Int) (R : AV → Mem → Prop) (h : F31 a0 a1_0 a1_1 a1_2 a1_3 a1_4 R) : Own Tryd.prog KK.gl 31 [a0, (AV.agg [(AV.sc (.string a1_0)), (AV.sc (.int .i64 a1_1)), (AV.sc (.int .i64 a1_2)), (AV.sc (.string a1_3)), (AV.sc (.int .i64 a1_4))])] R := own_of_F fol Tryd.func31 (code := c31) (by kernel_rfl) (by kernel_rfl) (by kernel_rfl) (X := F31 a0 a1_0 a1_1 a1_2 a1_3 a1_4 R) (by kernel_rfl) h
/- slices.Contains[[]skyway/api.ReadbackOpen,skyway/api.ReadbackOpen] -/
noncomputable def c15 : Code := ((Tryd.f15).body).getD .skip
noncomputable def q15 (R : AV → Mem → Prop) : AExit → St → Prop := retQ Tryd.prog Tryd.f15 R
noncomputable def F15 (a0 : AV) (a1_0 : ByteArray) (a1_1 : Int) (a1_2 : Int) (a1_3 : ByteArray) (a1_4 : Int) (R : AV → Mem → Prop) : Prop :=
callQ Tryd.prog KK.gl ((0, some ⟨[(AV.sc (.string a1_0)), (AV.sc (.int .i64 a1_1)), (AV.sc (.int .i64 a1_2)), (AV.sc (.string a1_3)), (AV.sc (.int .i64 a1_4))], 38⟩) :: []) 31 [a0, (AV.agg [(AV.sc (.string a1_0)), (AV.sc (.int .i64 a1_1)), (AV.sc (.int .i64 a1_2)), (AV.sc (.string a1_3)), (AV.sc (.int .i64 a1_4))])] fun v0 =>
ex_i64 v0 fun z1 =>
retL R ((0, some ⟨[(AV.sc (.string a1_0)), (AV.sc (.int .i64 a1_1)), (AV.sc (.int .i64 a1_2)), (AV.sc (.string a1_3)), (AV.sc (.int .i64 a1_4))], 38⟩) :: []) [some (AV.sc (.bool (decide (z1 ≥ (0)))))]
theorem F15_own (a0 : AV) (a1_0 : ByteArray) (a1_1 : Int) (a1_2 : Int) (a1_3 : ByteArray) (a1_4 : Int) (R : AV → Mem → Prop) (h : F15 a0 a1_0 a1_1 a1_2 a1_3 a1_4 R) : Own Tryd.prog KK.gl 15 [a0, (AV.agg [(AV.sc (.string a1_0)), (AV.sc (.int .i64 a1_1)), (AV.sc (.int .i64 a1_2)), (AV.sc (.string a1_3)), (AV.sc (.int .i64 a1_4))])] R := own_of_F fol Tryd.func15 (code := c15) (by kernel_rfl) (by kernel_rfl) (by kernel_rfl) (X := F15 a0 a1_0 a1_1 a1_2 a1_3 a1_4 R) (by kernel_rfl) h
/- skyway/skywaykeep3.ReadbackWaits -/
noncomputable def c4 : Code := ((Tryd.f4).body).getD .skip
noncomputable def q4 (R : AV → Mem → Prop) : AExit → St → Prop := retQ Tryd.prog Tryd.f4 R
noncomputable def c4_0 : Code := loopB c4 0
noncomputable def q4_0 (R : AV → Mem → Prop) : AExit → St → Prop := contW Tryd.prog KK 67 0 c4 0 (q4 R)
noncomputable def qq4_0 (R : AV → Mem → Prop) (N0 : St → Prop) : AExit → St → Prop := thenQ N0 (q4_0 R)
def h4_0 (t0 : AV) (t1 : Int) (t4 : Bool) (t5 : AV) (t6 : AV) (t37 : AV) (t38 : Int) (t39 : Int) (m : Mem) : St := ⟨[(0, t0), (1, (AV.sc (.int .i64 t1))), (4, (AV.sc (.bool t4))), (5, t5), (6, t6), (37, t37), (38, (AV.sc (.int .i64 t38))), (39, (AV.sc (.int .i64 t39)))], m, 100000⟩
noncomputable def B4_0 (t0 : AV) (t1 : Int) (t4 : Bool) (t5 : AV) (t6 : AV) (t37 : AV) (t38 : Int) (t39 : Int) (m : Mem) (R : AV → Mem → Prop) (N0 : St → Prop) : Prop :=
bif (decide (t39 < t38)) then (
opP (idxS 5 t37 (AV.sc (.int .i64 t39))) fun v19 =>
opP (ldA (mget m) 5 v19) fun v20 =>
exA5 v20 fun c21 c22 c23 c24 c25 =>
exStr c21 fun s26 =>
ex_i64 c22 fun z27 =>
ex_i64 c23 fun z28 =>
exStr c24 fun s29 =>
ex_i64 c25 fun z30 =>
callQ Tryd.prog KK.gl ((100003, some ⟨[(AV.sc (.string s26)), (AV.sc (.int .i64 z27)), (AV.sc (.int .i64 z28)), (AV.sc (.string s29)), (AV.sc (.int .i64 z30))], 38⟩) :: (100003, some ⟨[(AV.sc (.string ⟨#[]⟩)), (AV.sc (.int .i64 (0))), (AV.sc (.int .i64 (0))), (AV.sc (.string ⟨#[]⟩)), (AV.sc (.int .i64 (0)))], 38⟩) :: m) 11 [t0, (AV.agg [(AV.sc (.string s26)), (AV.sc (.int .i64 z27)), (AV.sc (.int .i64 z28)), (AV.sc (.string s29))]), (AV.sc (.int .i64 t1))] fun v31 =>
exT2 v31 fun c32 c33 =>
ex_i64 c33 fun z34 =>
callQ Tryd.prog KK.gl ((100003, some ⟨[(AV.sc (.string s26)), (AV.sc (.int .i64 z27)), (AV.sc (.int .i64 z28)), (AV.sc (.string s29)), (AV.sc (.int .i64 z30))], 38⟩) :: (100003, some ⟨[(AV.sc (.string ⟨#[]⟩)), (AV.sc (.int .i64 (0))), (AV.sc (.int .i64 (0))), (AV.sc (.string ⟨#[]⟩)), (AV.sc (.int .i64 (0)))], 38⟩) :: m) 15 [t5, (AV.agg [(AV.sc (.string s26)), (AV.sc (.int .i64 z27)), (AV.sc (.int .i64 z28)), (AV.sc (.string s29)), (AV.sc (.int .i64 z30))])] fun v35 =>
exB v35 fun b36 =>
opP (opA Tryd.prog (.binOp .neq 4 (.tmp 0) (.tmp 1) 4) 4 [(AV.sc (.bool (z34 == (0)))), (AV.sc (.bool b36))] (mget ((100003, some ⟨[(AV.sc (.string s26)), (AV.sc (.int .i64 z27)), (AV.sc (.int .i64 z28)), (AV.sc (.string s29)), (AV.sc (.int .i64 z30))], 38⟩) :: (100003, some ⟨[(AV.sc (.string ⟨#[]⟩)), (AV.sc (.int .i64 (0))), (AV.sc (.int .i64 (0))), (AV.sc (.string ⟨#[]⟩)), (AV.sc (.int .i64 (0)))], 38⟩) :: m)) 100146) fun v37 =>
exB v37 fun b38 =>
bif b38 then (
retL R ((100003, some ⟨[(AV.sc (.string s26)), (AV.sc (.int .i64 z27)), (AV.sc (.int .i64 z28)), (AV.sc (.string s29)), (AV.sc (.int .i64 z30))], 38⟩) :: (100003, some ⟨[(AV.sc (.string ⟨#[]⟩)), (AV.sc (.int .i64 (0))), (AV.sc (.int .i64 (0))), (AV.sc (.string ⟨#[]⟩)), (AV.sc (.int .i64 (0)))], 38⟩) :: m) [some (AV.sc (.bool false))]) else (
callQ Tryd.prog KK.gl ((100003, some ⟨[(AV.sc (.string s26)), (AV.sc (.int .i64 z27)), (AV.sc (.int .i64 z28)), (AV.sc (.string s29)), (AV.sc (.int .i64 z30))], 38⟩) :: (100003, some ⟨[(AV.sc (.string ⟨#[]⟩)), (AV.sc (.int .i64 (0))), (AV.sc (.int .i64 (0))), (AV.sc (.string ⟨#[]⟩)), (AV.sc (.int .i64 (0)))], 38⟩) :: m) 13 [t6, (AV.agg [(AV.sc (.string s26)), (AV.sc (.int .i64 z27)), (AV.sc (.int .i64 z28)), (AV.sc (.string s29))])] fun v39 =>
exB v39 fun b40 =>
opP (opA Tryd.prog (.binOp .neq 4 (.tmp 0) (.tmp 1) 4) 4 [(AV.sc (.bool (z34 == (21)))), (AV.sc (.bool b40))] (mget ((100003, some ⟨[(AV.sc (.string s26)), (AV.sc (.int .i64 z27)), (AV.sc (.int .i64 z28)), (AV.sc (.string s29)), (AV.sc (.int .i64 z30))], 38⟩) :: (100003, some ⟨[(AV.sc (.string ⟨#[]⟩)), (AV.sc (.int .i64 (0))), (AV.sc (.int .i64 (0))), (AV.sc (.string ⟨#[]⟩)), (AV.sc (.int .i64 (0)))], 38⟩) :: m)) 100217) fun v41 =>
exB v41 fun b42 =>
bif b42 then (
retL R ((100003, some ⟨[(AV.sc (.string s26)), (AV.sc (.int .i64 z27)), (AV.sc (.int .i64 z28)), (AV.sc (.string s29)), (AV.sc (.int .i64 z30))], 38⟩) :: (100003, some ⟨[(AV.sc (.string ⟨#[]⟩)), (AV.sc (.int .i64 (0))), (AV.sc (.int .i64 (0))), (AV.sc (.string ⟨#[]⟩)), (AV.sc (.int .i64 (0)))], 38⟩) :: m) [some (AV.sc (.bool false))]) else (
N0 ⟨[(0, t0), (1, (AV.sc (.int .i64 t1))), (4, (AV.sc (.bool t4))), (5, t5), (6, t6), (37, t37), (38, (AV.sc (.int .i64 t38))), (39, (AV.sc (.int .i64 (IntKind.wrap .i64 (t39 + (1)))))), (40, (AV.sc (.bool (decide (t39 < t38))))), (41, v19), (42, (AV.agg [(AV.sc (.string s26)), (AV.sc (.int .i64 z27)), (AV.sc (.int .i64 z28)), (AV.sc (.string s29)), (AV.sc (.int .i64 z30))])), (9, (AV.ptr 100003 0)), (44, t0), (45, (AV.ptr 100003 0)), (46, (AV.agg [(AV.sc (.string s26)), (AV.sc (.int .i64 z27)), (AV.sc (.int .i64 z28)), (AV.sc (.string s29))])), (47, (AV.sc (.int .i64 t1))), (48, (AV.tup [c32, (AV.sc (.int .i64 z34))])), (43, (AV.tup [c32, (AV.sc (.int .i64 z34))])), (49, c32), (50, (AV.sc (.int .i64 z34))), (10, c32), (11, (AV.sc (.int .i64 z34))), (51, (AV.sc (.int .i64 z34))), (52, (AV.sc (.bool (z34 == (0))))), (53, t5), (54, (AV.agg [(AV.sc (.string s26)), (AV.sc (.int .i64 z27)), (AV.sc (.int .i64 z28)), (AV.sc (.string s29)), (AV.sc (.int .i64 z30))])), (55, (AV.sc (.bool b36))), (56, (AV.sc (.bool b38))), (57, (AV.sc (.bool false))), (58, (AV.sc (.int .i64 z34))), (59, (AV.sc (.bool (z34 == (21))))), (60, t6), (61, (AV.ptr 100003 0)), (62, (AV.agg [(AV.sc (.string s26)), (AV.sc (.int .i64 z27)), (AV.sc (.int .i64 z28)), (AV.sc (.string s29))])), (63, (AV.sc (.bool b40))), (64, (AV.sc (.bool b42))), (65, (AV.sc (.bool b42))), (66, (AV.sc (.int .i64 (IntKind.wrap .i64 (t39 + (1))))))], ((100003, some ⟨[(AV.sc (.string s26)), (AV.sc (.int .i64 z27)), (AV.sc (.int .i64 z28)), (AV.sc (.string s29)), (AV.sc (.int .i64 z30))], 38⟩) :: (100003, some ⟨[(AV.sc (.string ⟨#[]⟩)), (AV.sc (.int .i64 (0))), (AV.sc (.int .i64 (0))), (AV.sc (.string ⟨#[]⟩)), (AV.sc (.int .i64 (0)))], 38⟩) :: m), 100221⟩))) else (
retL R m [some (AV.sc (.bool true))])
theorem B4_0_eq (t0 : AV) (t1 : Int) (t4 : Bool) (t5 : AV) (t6 : AV) (t37 : AV) (t38 : Int) (t39 : Int) (m : Mem) (R : AV → Mem → Prop) (N0 : St → Prop) : W Tryd.prog KK 67 0 c4_0 (h4_0 t0 t1 t4 t5 t6 t37 t38 t39 m) (qq4_0 R N0) = B4_0 t0 t1 t4 t5 t6 t37 t38 t39 m R N0 := by kernel_rfl
theorem L4_0 (R : AV → Mem → Prop) {σ : Type} (I : σ → Prop) (t0 : σ → AV) (t1 : σ → Int) (t4 : σ → Bool) (t5 : σ → AV) (t6 : σ → AV) (t37 : σ → AV) (t38 : σ → Int) (t39 : σ → Int) (m : σ → Mem) (μ : σ → Nat) (step : ∀ x, I x → B4_0 (t0 x) (t1 x) (t4 x) (t5 x) (t6 x) (t37 x) (t38 x) (t39 x) (m x) R (fun s' => ∃ y, I y ∧ μ y < μ x ∧ Weak KK 67 0 s' (h4_0 (t0 y) (t1 y) (t4 y) (t5 y) (t6 y) (t37 y) (t38 y) (t39 y) (m y)))) (x : σ) (hx : I x) {s : St} (hw : Weak KK 67 0 s (h4_0 (t0 x) (t1 x) (t4 x) (t5 x) (t6 x) (t37 x) (t38 x) (t39 x) (m x))) : Tri Tryd.prog KK 67 0 (.loop c4_0) s (q4_0 R) :=
  Tri.weak hw (Tri.loops fol I (fun x => h4_0 (t0 x) (t1 x) (t4 x) (t5 x) (t6 x) (t37 x) (t38 x) (t39 x) (m x)) μ (fun x hx => (B4_0_eq (t0 x) (t1 x) (t4 x) (t5 x) (t6 x) (t37 x) (t38 x) (t39 x) (m x) R _).mpr (step x hx)) x hx)
noncomputable def F4 (a0 : AV) (a1 : Int) (R : AV → Mem → Prop) : Prop :=
callQ Tryd.prog KK.gl [] 8 [] fun v0 =>
exB v0 fun b1 =>
bif (!b1) then (
retL R [] [some (AV.sc (.bool false))]) else (
callQ Tryd.prog KK.gl [] 14 [a0, (AV.sc (.int .i64 a1))] fun v2 =>
exT3 v2 fun c3 c4 c5 =>
ex_i64 c5 fun z6 =>
bif (z6 != (0)) then (
opP (lenS c3) fun v7 =>
ex_i64 v7 fun z8 =>
opP (lenS c4) fun v9 =>
ex_i64 v9 fun z10 =>
retL R [] [some (AV.sc (.bool ((IntKind.wrap .i64 (z8 + z10)) == (0))))]) else (
opP (lenS c3) fun v11 =>
ex_i64 v11 fun z12 =>
opP (lenS c4) fun v13 =>
ex_i64 v13 fun z14 =>
opP (lenS a0) fun v15 =>
ex_i64 v15 fun z16 =>
bif ((IntKind.wrap .i64 (z12 + z14)) != z16) then (
retL R [] [some (AV.sc (.bool false))]) else (
opP (lenS a0) fun v17 =>
ex_i64 v17 fun z18 =>
Tri Tryd.prog KK 67 0 (.loop c4_0) ⟨[(0, a0), (1, (AV.sc (.int .i64 a1))), (4, (AV.sc (.bool false))), (12, (AV.sc (.bool b1))), (13, (AV.sc (.bool (!b1)))), (15, a0), (16, (AV.sc (.int .i64 a1))), (17, (AV.tup [c3, c4, (AV.sc (.int .i64 z6))])), (14, (AV.tup [c3, c4, (AV.sc (.int .i64 z6))])), (18, c3), (19, c4), (20, (AV.sc (.int .i64 z6))), (5, c3), (6, c4), (7, (AV.sc (.int .i64 z6))), (21, (AV.sc (.int .i64 z6))), (22, (AV.sc (.bool (z6 != (0))))), (29, c3), (30, (AV.sc (.int .i64 z12))), (31, c4), (32, (AV.sc (.int .i64 z14))), (33, (AV.sc (.int .i64 (IntKind.wrap .i64 (z12 + z14))))), (34, a0), (35, (AV.sc (.int .i64 z16))), (36, (AV.sc (.bool ((IntKind.wrap .i64 (z12 + z14)) != z16)))), (37, a0), (38, (AV.sc (.int .i64 z18))), (39, (AV.sc (.int .i64 (0))))], [], 152⟩ (q4_0 R))))
theorem F4_own (a0 : AV) (a1 : Int) (R : AV → Mem → Prop) (h : F4 a0 a1 R) : Own Tryd.prog KK.gl 4 [a0, (AV.sc (.int .i64 a1))] R := own_of_F fol Tryd.func4 (code := c4) (by kernel_rfl) (by kernel_rfl) (by kernel_rfl) (X := F4 a0 a1 R) (by kernel_rfl) h
/- slices.Clone[[]skyway/api.ReadbackOpen,skyway/api.ReadbackOpen] -/
noncomputable def c26 : Code := ((Tryd.f26).body).getD .skip
noncomputable def q26 (R : AV → Mem → Prop) : AExit → St → Prop := retQ Tryd.prog Tryd.f26 R
noncomputable def F26 (a0 : AV) (R : AV → Mem → Prop) : Prop :=
nilK a0 fun b0 =>
bif b0 then (
retL R [] [some AV.nils]) else (
opN (bsl 3 38 5 0 [(AV.sc (.string ⟨#[]⟩)), (AV.sc (.int .i64 (0))), (AV.sc (.int .i64 (0))), (AV.sc (.string ⟨#[]⟩)), (AV.sc (.int .i64 (0)))] []) [] fun v2 m2 =>
opN (app (mget m2) 38 5 56 [(AV.sc (.string ⟨#[]⟩)), (AV.sc (.int .i64 (0))), (AV.sc (.int .i64 (0))), (AV.sc (.string ⟨#[]⟩)), (AV.sc (.int .i64 (0)))] 5 v2 a0) m2 fun v3 m3 =>
retL R m3 [some v3])
theorem F26_own (a0 : AV) (R : AV → Mem → Prop) (h : F26 a0 R) : Own Tryd.prog KK.gl 26 [a0] R := own_of_F fol Tryd.func26 (code := c26) (by kernel_rfl) (by kernel_rfl) (by kernel_rfl) (X := F26 a0 R) (by kernel_rfl) h
/- slices.Delete[[]skyway/api.ReadbackOpen,skyway/api.ReadbackOpen] at 1 -/
noncomputable def F28_1 (a0 : AV) (a1 : Int) (a2 : Int) (m : Mem) (R : AV → Mem → Prop) : Prop :=
opP (lenS a0) fun v0 =>
ex_i64 v0 fun z1 =>
opP (opA Tryd.prog (.slice 22 (.tmp 0) (some (.tmp 1)) (some (.tmp 2)) (some (.tmp 3))) 22 [a0, (AV.sc (.int .i64 a1)), (AV.sc (.int .i64 a2)), (AV.sc (.int .i64 z1))] (mget m) 7) fun v2 =>
bif (a1 == a2) then (
chk (Nat.ble 13 65) (retL R m [some a0])) else (
opP (lenS a0) fun v3 =>
ex_i64 v3 fun z4 =>
opM (opA Tryd.prog (.slice 22 (.tmp 0) none (some (.tmp 1)) none) 22 [a0, (AV.sc (.int .i64 a1))] (look' m (topId a0 ++ (topId (AV.sc (.int .i64 a1)) ++ ([])))) 16) fun v5 d5 =>
opM (opA Tryd.prog (.slice 22 (.tmp 0) (some (.tmp 1)) none none) 22 [a0, (AV.sc (.int .i64 a2))] (look' (mpushs m d5) (topId a0 ++ (topId (AV.sc (.int .i64 a2)) ++ ([])))) 19) fun v6 d6 =>
opM (app (look' (mpushs (mpushs m d5) d6) (topId v5 ++ (topId v6 ++ ([])))) 38 5 56 [(AV.sc (.string ⟨#[]⟩)), (AV.sc (.int .i64 (0))), (AV.sc (.int .i64 (0))), (AV.sc (.string ⟨#[]⟩)), (AV.sc (.int .i64 (0)))] 20 v5 v6) fun v7 d7 =>
chk (confOk [0, 0, 3, 0, 0, 24, 63, 127] [⟨[], []⟩, ⟨[], []⟩, ⟨d5, (topId a0 ++ (topId (AV.sc (.int .i64 a1)) ++ ([])))⟩, ⟨[], []⟩, ⟨[], []⟩, ⟨d6, (topId a0 ++ (topId (AV.sc (.int .i64 a2)) ++ ([])))⟩, ⟨d7, (topId v5 ++ (topId v6 ++ ([])))⟩, ⟨[], []⟩]) (opP (lenS v7) fun v8 =>
ex_i64 v8 fun z9 =>
opP (opA Tryd.prog (.slice 22 (.tmp 0) (some (.tmp 1)) (some (.tmp 2)) none) 22 [v7, (AV.sc (.int .i64 z9)), (AV.sc (.int .i64 z4))] (mget (mpushs (mpushs (mpushs m d5) d6) d7)) 26) fun v10 =>
opN (opA Tryd.prog (.call ⟨.builtin .clear, #[.tmp 0], #[22]⟩) 0 [v10] (mget (mpushs (mpushs (mpushs m d5) d6) d7)) 27) (mpushs (mpushs (mpushs m d5) d6) d7) fun v11 m11 =>
exT0 v11 <|
chk (Nat.ble 30 65) (retL R m11 [some v7])))
theorem F28_1_call (a0 : AV) (a1 : Int) (a2 : Int) (m : Mem) (R : AV → Mem → Prop) (h : F28_1 a0 a1 a2 m R) : callW Tryd.prog KK.gl m 1 28 [a0, (AV.sc (.int .i64 a1)), (AV.sc (.int .i64 a2))] R := call_of_F fol Tryd.func28 (code := ((Tryd.f28).body).getD .skip) (by kernel_rfl) (by kernel_rfl) (by kernel_rfl) (X := F28_1 a0 a1 a2 m R) (by kernel_rfl) h
end Go.Proofs.YtnechdhngpajbaaDoor
