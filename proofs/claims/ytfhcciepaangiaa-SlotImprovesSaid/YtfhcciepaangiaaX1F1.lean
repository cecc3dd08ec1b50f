/- Functions of the program as conditions on their answers; printed by wip/Gen.lean.txt. -/
import Derived.Test.YtfhcciepaangiaaX1T
set_option linter.unusedVariables false
set_option maxRecDepth 100000
namespace Go.Proofs.Ytfhcciepaangiaa
/- slices.DeleteFunc[[]skyway/api.SlotDemand,skyway/api.SlotDemand], changing its argument -/
noncomputable def c42m : Code := ((Try.f42).body).getD .skip
noncomputable def q42m (R : AV → Mem → Prop) : AExit → St → Prop := retQ Try.prog Try.f42 R
noncomputable def c42m_0 : Code := loopB c42m 0
noncomputable def q42m_0 (R : AV → Mem → Prop) : AExit → St → Prop := contW Try.prog KK 42 0 c42m 0 (q42m R)
noncomputable def qq42m_0 (R : AV → Mem → Prop) (N0 : St → Prop) : AExit → St → Prop := thenQ N0 (q42m_0 R)
def h42m_0 (t0 : AV) (t1 : AV) (t4 : AV) (t5 : Int) (t6 : Int) (m : Mem) : St := ⟨[(0, t0), (1, t1), (4, t4), (5, (AV.sc (.int .i64 t5))), (6, (AV.sc (.int .i64 t6)))], m, 100000⟩
noncomputable def B42m_0 (t0 : AV) (t1 : AV) (t4 : AV) (t5 : Int) (t6 : Int) (m : Mem) (R : AV → Mem → Prop) (N0 : St → Prop) : Prop :=
opP (lenS t0) fun v2 =>
ex_i64 v2 fun z3 =>
bif (decide (t6 < z3)) then (
opP (idxS 2 t0 (AV.sc (.int .i64 t6))) fun v4 =>
opP (ldA (mget m) 2 v4) fun v5 =>
exA2 v5 fun c6 c7 =>
exStr c6 fun s8 =>
ex_i64 c7 fun z9 =>
fnArgs (some t1) (some [(AV.agg [(AV.sc (.string s8)), (AV.sc (.int .i64 z9))])]) fun f10 a10 => bif KK.pm f10 then callQ Try.prog KK.gl ((100008, some ⟨[(AV.sc (.string s8)), (AV.sc (.int .i64 z9))], 44⟩) :: (100008, some ⟨[(AV.sc (.string ⟨#[]⟩)), (AV.sc (.int .i64 (0)))], 44⟩) :: m) f10 a10 (fun v10 =>
exB v10 fun b11 =>
bif (!b11) then (
opP (idxS 2 t0 (AV.sc (.int .i64 t5))) fun v12 =>
storeW Try.prog (mget ((100008, some ⟨[(AV.sc (.string s8)), (AV.sc (.int .i64 z9))], 44⟩) :: (100008, some ⟨[(AV.sc (.string ⟨#[]⟩)), (AV.sc (.int .i64 (0)))], 44⟩) :: m)) 44 v12 (AV.agg [(AV.sc (.string s8)), (AV.sc (.int .i64 z9))]) fun v13 d13 =>
N0 ⟨[(0, t0), (1, t1), (4, t4), (5, (AV.sc (.int .i64 (IntKind.wrap .i64 (t5 + (1)))))), (6, (AV.sc (.int .i64 (IntKind.wrap .i64 (t6 + (1)))))), (16, (AV.sc (.int .i64 t6))), (17, t0), (18, (AV.sc (.int .i64 z3))), (19, (AV.sc (.bool (decide (t6 < z3))))), (22, t0), (23, (AV.sc (.int .i64 t6))), (24, v4), (25, (AV.agg [(AV.sc (.string s8)), (AV.sc (.int .i64 z9))])), (7, (AV.ptr 100008 0)), (26, t1), (27, (AV.agg [(AV.sc (.string s8)), (AV.sc (.int .i64 z9))])), (28, (AV.sc (.bool b11))), (29, (AV.sc (.bool (!b11)))), (30, t0), (31, (AV.sc (.int .i64 t5))), (32, (AV.agg [(AV.sc (.string s8)), (AV.sc (.int .i64 z9))])), (33, v12), (34, (AV.sc (.int .i64 t5))), (35, (AV.sc (.int .i64 (IntKind.wrap .i64 (t5 + (1)))))), (20, (AV.sc (.int .i64 t6))), (21, (AV.sc (.int .i64 (IntKind.wrap .i64 (t6 + (1))))))], (mpushs ((100008, some ⟨[(AV.sc (.string s8)), (AV.sc (.int .i64 z9))], 44⟩) :: (100008, some ⟨[(AV.sc (.string ⟨#[]⟩)), (AV.sc (.int .i64 (0)))], 44⟩) :: m) d13), 100088⟩) else (
N0 ⟨[(0, t0), (1, t1), (4, t4), (5, (AV.sc (.int .i64 t5))), (6, (AV.sc (.int .i64 (IntKind.wrap .i64 (t6 + (1)))))), (16, (AV.sc (.int .i64 t6))), (17, t0), (18, (AV.sc (.int .i64 z3))), (19, (AV.sc (.bool (decide (t6 < z3))))), (22, t0), (23, (AV.sc (.int .i64 t6))), (24, v4), (25, (AV.agg [(AV.sc (.string s8)), (AV.sc (.int .i64 z9))])), (7, (AV.ptr 100008 0)), (26, t1), (27, (AV.agg [(AV.sc (.string s8)), (AV.sc (.int .i64 z9))])), (28, (AV.sc (.bool b11))), (29, (AV.sc (.bool (!b11)))), (20, (AV.sc (.int .i64 t6))), (21, (AV.sc (.int .i64 (IntKind.wrap .i64 (t6 + (1))))))], ((100008, some ⟨[(AV.sc (.string s8)), (AV.sc (.int .i64 z9))], 44⟩) :: (100008, some ⟨[(AV.sc (.string ⟨#[]⟩)), (AV.sc (.int .i64 (0)))], 44⟩) :: m), 100080⟩)) else callW Try.prog KK.gl ((100008, some ⟨[(AV.sc (.string s8)), (AV.sc (.int .i64 z9))], 44⟩) :: (100008, some ⟨[(AV.sc (.string ⟨#[]⟩)), (AV.sc (.int .i64 (0)))], 44⟩) :: m) 100012 f10 a10 fun v10 m10 =>
exB v10 fun b11 =>
bif (!b11) then (
opP (ldA (mget m10) 2 (AV.ptr 100008 0)) fun v14 =>
exA2 v14 fun c15 c16 =>
exStr c15 fun s17 =>
ex_i64 c16 fun z18 =>
opP (idxS 2 t0 (AV.sc (.int .i64 t5))) fun v19 =>
storeW Try.prog (mget m10) 44 v19 (AV.agg [(AV.sc (.string s17)), (AV.sc (.int .i64 z18))]) fun v20 d20 =>
N0 ⟨[(0, t0), (1, t1), (4, t4), (5, (AV.sc (.int .i64 (IntKind.wrap .i64 (t5 + (1)))))), (6, (AV.sc (.int .i64 (IntKind.wrap .i64 (t6 + (1)))))), (16, (AV.sc (.int .i64 t6))), (17, t0), (18, (AV.sc (.int .i64 z3))), (19, (AV.sc (.bool (decide (t6 < z3))))), (22, t0), (23, (AV.sc (.int .i64 t6))), (24, v4), (25, (AV.agg [(AV.sc (.string s8)), (AV.sc (.int .i64 z9))])), (7, (AV.ptr 100008 0)), (26, t1), (27, (AV.agg [(AV.sc (.string s8)), (AV.sc (.int .i64 z9))])), (28, (AV.sc (.bool b11))), (29, (AV.sc (.bool (!b11)))), (30, t0), (31, (AV.sc (.int .i64 t5))), (32, (AV.agg [(AV.sc (.string s17)), (AV.sc (.int .i64 z18))])), (33, v19), (34, (AV.sc (.int .i64 t5))), (35, (AV.sc (.int .i64 (IntKind.wrap .i64 (t5 + (1)))))), (20, (AV.sc (.int .i64 t6))), (21, (AV.sc (.int .i64 (IntKind.wrap .i64 (t6 + (1))))))], (mpushs m10 d20), 100088⟩) else (
N0 ⟨[(0, t0), (1, t1), (4, t4), (5, (AV.sc (.int .i64 t5))), (6, (AV.sc (.int .i64 (IntKind.wrap .i64 (t6 + (1)))))), (16, (AV.sc (.int .i64 t6))), (17, t0), (18, (AV.sc (.int .i64 z3))), (19, (AV.sc (.bool (decide (t6 < z3))))), (22, t0), (23, (AV.sc (.int .i64 t6))), (24, v4), (25, (AV.agg [(AV.sc (.string s8)), (AV.sc (.int .i64 z9))])), (7, (AV.ptr 100008 0)), (26, t1), (27, (AV.agg [(AV.sc (.string s8)), (AV.sc (.int .i64 z9))])), (28, (AV.sc (.bool b11))), (29, (AV.sc (.bool (!b11)))), (20, (AV.sc (.int .i64 t6))), (21, (AV.sc (.int .i64 (IntKind.wrap .i64 (t6 + (1))))))], m10, 100080⟩)) else (
opP (opA Try.prog (.slice 39 (.tmp 0) (some (.tmp 1)) none none) 39 [t0, (AV.sc (.int .i64 t5))] (mget m) 100006) fun v21 =>
opN (opA Try.prog (.call ⟨.builtin .clear, #[.tmp 0], #[39]⟩) 0 [v21] (mget m) 100007) m fun v22 m22 =>
exT0 v22 <|
opP (opA Try.prog (.slice 39 (.tmp 0) none (some (.tmp 1)) none) 39 [t0, (AV.sc (.int .i64 t5))] (mget m22) 100010) fun v23 =>
retL R m22 [some v23])
theorem B42m_0_eq (t0 : AV) (t1 : AV) (t4 : AV) (t5 : Int) (t6 : Int) (m : Mem) (R : AV → Mem → Prop) (N0 : St → Prop) : W Try.prog KK 42 0 c42m_0 (h42m_0 t0 t1 t4 t5 t6 m) (qq42m_0 R N0) = B42m_0 t0 t1 t4 t5 t6 m R N0 := by kernel_rfl
theorem L42m_0 (R : AV → Mem → Prop) {σ : Type} (I : σ → Prop) (t0 : σ → AV) (t1 : σ → AV) (t4 : σ → AV) (t5 : σ → Int) (t6 : σ → Int) (m : σ → Mem) (μ : σ → Nat) (step : ∀ x, I x → B42m_0 (t0 x) (t1 x) (t4 x) (t5 x) (t6 x) (m x) R (fun s' => ∃ y, I y ∧ μ y < μ x ∧ Weak KK 42 0 s' (h42m_0 (t0 y) (t1 y) (t4 y) (t5 y) (t6 y) (m y)))) (x : σ) (hx : I x) {s : St} (hw : Weak KK 42 0 s (h42m_0 (t0 x) (t1 x) (t4 x) (t5 x) (t6 x) (m x))) : Tri Try.prog KK 42 0 (.loop c42m_0) s (q42m_0 R) :=
  Tri.weak hw (Tri.loops fol I (fun x => h42m_0 (t0 x) (t1 x) (t4 x) (t5 x) (t6 x) (m x)) μ (fun x hx => (B42m_0_eq (t0 x) (t1 x) (t4 x) (t5 x) (t6 x) (m x) R _).mpr (step x hx)) x hx)
noncomputable def F42m (a0 : AV) (a1 : AV) (m0 : Mem) (R : AV → Mem → Prop) : Prop :=
callQ Try.prog KK.gl m0 54 [a0, a1] fun v0 =>
ex_i64 v0 fun z1 =>
bif (z1 == (-1)) then (
retL R m0 [some a0]) else (
Tri Try.prog KK 42 0 (.loop c42m_0) ⟨[(0, a0), (1, a1), (4, AV.nils), (8, a0), (9, a1), (10, (AV.sc (.int .i64 z1))), (5, (AV.sc (.int .i64 z1))), (11, (AV.sc (.int .i64 z1))), (12, (AV.sc (.bool (z1 == (-1))))), (14, (AV.sc (.int .i64 z1))), (15, (AV.sc (.int .i64 (IntKind.wrap .i64 (z1 + (1)))))), (6, (AV.sc (.int .i64 (IntKind.wrap .i64 (z1 + (1))))))], m0, 74⟩ (q42m_0 R))
theorem F42m_call (a0 : AV) (a1 : AV) (m0 : Mem) (R : AV → Mem → Prop) (h : F42m a0 a1 m0 R) : callN Try.prog KK.gl m0 1 42 [a0, a1] R := callN_of_F fol Try.func42 (code := c42m) (by kernel_rfl) (by kernel_rfl) (by kernel_rfl) (X := F42m a0 a1 m0 R) (by kernel_rfl) h
/- skyway/chart.Name -/
noncomputable def c48 : Code := ((Try.f48).body).getD .skip
noncomputable def q48 (R : AV → Mem → Prop) : AExit → St → Prop := retQ Try.prog Try.f48 R
noncomputable def c48_0 : Code := loopB c48 0
noncomputable def q48_0 (R : AV → Mem → Prop) : AExit → St → Prop := contW Try.prog KK 41 0 c48 0 (q48 R)
noncomputable def qq48_0 (R : AV → Mem → Prop) (N0 : St → Prop) : AExit → St → Prop := thenQ N0 (q48_0 R)
def h48_0 (t2 : Bool) (t14 : AV) (t15 : Int) (t16 : Int) (m : Mem) : St := ⟨[(2, (AV.sc (.bool t2))), (14, t14), (15, (AV.sc (.int .i64 t15))), (16, (AV.sc (.int .i64 t16)))], m, 100000⟩
noncomputable def B48_0 (t2 : Bool) (t14 : AV) (t15 : Int) (t16 : Int) (m : Mem) (R : AV → Mem → Prop) (N0 : St → Prop) : Prop :=
bif (decide (t16 < t15)) then (
opP (idxS 1 t14 (AV.sc (.int .i64 t16))) fun v7 =>
opP (ldS (mget m) v7) fun v8 =>
ex_u8 v8 fun z9 =>
bif (decide (z9 ≥ (65))) then (
bif (decide (z9 ≤ (90))) then (
N0 ⟨[(2, (AV.sc (.bool t2))), (14, t14), (15, (AV.sc (.int .i64 t15))), (16, (AV.sc (.int .i64 (IntKind.wrap .i64 (t16 + (1)))))), (17, (AV.sc (.bool (decide (t16 < t15))))), (18, (AV.sc (.int .i64 t16))), (19, v7), (20, (AV.sc (.int .u8 z9))), (3, (AV.sc (.int .i64 t16))), (4, (AV.sc (.int .u8 z9))), (21, (AV.sc (.int .u8 z9))), (22, (AV.sc (.bool (decide (z9 ≥ (65)))))), (23, (AV.sc (.bool true))), (24, (AV.sc (.int .u8 z9))), (25, (AV.sc (.bool (decide (z9 ≤ (90)))))), (26, (AV.sc (.bool (decide (z9 ≤ (90)))))), (27, (AV.sc (.bool true))), (28, (AV.tup [])), (29, (AV.tup [])), (30, (AV.tup [])), (31, (AV.tup [])), (32, (AV.tup [])), (33, (AV.tup [])), (34, (AV.tup [])), (35, (AV.tup [])), (36, (AV.tup [])), (37, (AV.tup [])), (38, (AV.sc (.bool true))), (39, (AV.sc (.bool false))), (40, (AV.sc (.int .i64 (IntKind.wrap .i64 (t16 + (1))))))], m, 100017⟩) else (
bif (decide (t16 > (0))) then (
bif (decide (z9 ≥ (48))) then (
bif (!(decide (z9 ≤ (57)))) then (
retL R m [some (AV.sc (.bool false))]) else (
N0 ⟨[(2, (AV.sc (.bool t2))), (14, t14), (15, (AV.sc (.int .i64 t15))), (16, (AV.sc (.int .i64 (IntKind.wrap .i64 (t16 + (1)))))), (17, (AV.sc (.bool (decide (t16 < t15))))), (18, (AV.sc (.int .i64 t16))), (19, v7), (20, (AV.sc (.int .u8 z9))), (3, (AV.sc (.int .i64 t16))), (4, (AV.sc (.int .u8 z9))), (21, (AV.sc (.int .u8 z9))), (22, (AV.sc (.bool (decide (z9 ≥ (65)))))), (23, (AV.sc (.bool true))), (24, (AV.sc (.int .u8 z9))), (25, (AV.sc (.bool (decide (z9 ≤ (90)))))), (26, (AV.sc (.bool (decide (z9 ≤ (90)))))), (27, (AV.sc (.bool false))), (28, (AV.sc (.int .i64 t16))), (29, (AV.sc (.bool (decide (t16 > (0)))))), (30, (AV.sc (.bool true))), (31, (AV.sc (.int .u8 z9))), (32, (AV.sc (.bool (decide (z9 ≥ (48)))))), (33, (AV.sc (.bool (decide (z9 ≥ (48)))))), (34, (AV.sc (.bool true))), (35, (AV.sc (.int .u8 z9))), (36, (AV.sc (.bool (decide (z9 ≤ (57)))))), (37, (AV.sc (.bool (decide (z9 ≤ (57)))))), (38, (AV.sc (.bool (decide (z9 ≤ (57)))))), (39, (AV.sc (.bool (!(decide (z9 ≤ (57))))))), (40, (AV.sc (.int .i64 (IntKind.wrap .i64 (t16 + (1))))))], m, 100027⟩)) else (
retL R m [some (AV.sc (.bool false))])) else (
retL R m [some (AV.sc (.bool false))]))) else (
bif (decide (t16 > (0))) then (
bif (decide (z9 ≥ (48))) then (
bif (!(decide (z9 ≤ (57)))) then (
retL R m [some (AV.sc (.bool false))]) else (
N0 ⟨[(2, (AV.sc (.bool t2))), (14, t14), (15, (AV.sc (.int .i64 t15))), (16, (AV.sc (.int .i64 (IntKind.wrap .i64 (t16 + (1)))))), (17, (AV.sc (.bool (decide (t16 < t15))))), (18, (AV.sc (.int .i64 t16))), (19, v7), (20, (AV.sc (.int .u8 z9))), (3, (AV.sc (.int .i64 t16))), (4, (AV.sc (.int .u8 z9))), (21, (AV.sc (.int .u8 z9))), (22, (AV.sc (.bool (decide (z9 ≥ (65)))))), (23, (AV.sc (.bool false))), (24, (AV.tup [])), (25, (AV.tup [])), (26, (AV.sc (.bool false))), (27, (AV.sc (.bool false))), (28, (AV.sc (.int .i64 t16))), (29, (AV.sc (.bool (decide (t16 > (0)))))), (30, (AV.sc (.bool true))), (31, (AV.sc (.int .u8 z9))), (32, (AV.sc (.bool (decide (z9 ≥ (48)))))), (33, (AV.sc (.bool (decide (z9 ≥ (48)))))), (34, (AV.sc (.bool true))), (35, (AV.sc (.int .u8 z9))), (36, (AV.sc (.bool (decide (z9 ≤ (57)))))), (37, (AV.sc (.bool (decide (z9 ≤ (57)))))), (38, (AV.sc (.bool (decide (z9 ≤ (57)))))), (39, (AV.sc (.bool (!(decide (z9 ≤ (57))))))), (40, (AV.sc (.int .i64 (IntKind.wrap .i64 (t16 + (1))))))], m, 100025⟩)) else (
retL R m [some (AV.sc (.bool false))])) else (
retL R m [some (AV.sc (.bool false))]))) else (
retL R m [some (AV.sc (.bool true))])
theorem B48_0_eq (t2 : Bool) (t14 : AV) (t15 : Int) (t16 : Int) (m : Mem) (R : AV → Mem → Prop) (N0 : St → Prop) : W Try.prog KK 41 0 c48_0 (h48_0 t2 t14 t15 t16 m) (qq48_0 R N0) = B48_0 t2 t14 t15 t16 m R N0 := by kernel_rfl
theorem L48_0 (R : AV → Mem → Prop) {σ : Type} (I : σ → Prop) (t2 : σ → Bool) (t14 : σ → AV) (t15 : σ → Int) (t16 : σ → Int) (m : σ → Mem) (μ : σ → Nat) (step : ∀ x, I x → B48_0 (t2 x) (t14 x) (t15 x) (t16 x) (m x) R (fun s' => ∃ y, I y ∧ μ y < μ x ∧ Weak KK 41 0 s' (h48_0 (t2 y) (t14 y) (t15 y) (t16 y) (m y)))) (x : σ) (hx : I x) {s : St} (hw : Weak KK 41 0 s (h48_0 (t2 x) (t14 x) (t15 x) (t16 x) (m x))) : Tri Try.prog KK 41 0 (.loop c48_0) s (q48_0 R) :=
  Tri.weak hw (Tri.loops fol I (fun x => h48_0 (t2 x) (t14 x) (t15 x) (t16 x) (m x)) μ (fun x hx => (B48_0_eq (t2 x) (t14 x) (t15 x) (t16 x) (m x) R _).mpr (step x hx)) x hx)
noncomputable def F48 (a0 : ByteArray) (R : AV → Mem → Prop) : Prop :=
opP (opA Try.prog (.call ⟨.builtin .len, #[.tmp 0], #[9]⟩) 3 [(AV.sc (.string a0))] (mget []) 2) fun v0 =>
ex_i64 v0 fun z1 =>
bif (decide (z1 < (1))) then (
retL R [] [some (AV.sc (.bool false))]) else (
opP (opA Try.prog (.call ⟨.builtin .len, #[.tmp 0], #[9]⟩) 3 [(AV.sc (.string a0))] (mget []) 6) fun v2 =>
ex_i64 v2 fun z3 =>
bif (decide (z3 > (8))) then (
retL R [] [some (AV.sc (.bool false))]) else (
opP (opA Try.prog (.convert 9 85 (.tmp 0)) 85 [(AV.sc (.string a0))] (mget []) 10) fun v4 =>
opP (lenS v4) fun v5 =>
ex_i64 v5 fun z6 =>
Tri Try.prog KK 41 0 (.loop c48_0) ⟨[(0, (AV.sc (.string a0))), (2, (AV.sc (.bool false))), (5, (AV.sc (.string a0))), (6, (AV.sc (.int .i64 z1))), (7, (AV.sc (.bool (decide (z1 < (1)))))), (8, (AV.sc (.bool false))), (9, (AV.sc (.string a0))), (10, (AV.sc (.int .i64 z3))), (11, (AV.sc (.bool (decide (z3 > (8)))))), (12, (AV.sc (.bool (decide (z3 > (8)))))), (13, (AV.sc (.string a0))), (14, v4), (15, (AV.sc (.int .i64 z6))), (16, (AV.sc (.int .i64 (0))))], [], 13⟩ (q48_0 R)))
theorem F48_own (a0 : ByteArray) (R : AV → Mem → Prop) (h : F48 a0 R) : Own Try.prog KK.gl 48 [(AV.sc (.string a0))] R := own_of_F fol Try.func48 (code := c48) (by kernel_rfl) (by kernel_rfl) (by kernel_rfl) (X := F48 a0 R) (by kernel_rfl) h
/- skyway/slot.Name -/
noncomputable def c34 : Code := ((Try.f34).body).getD .skip
noncomputable def q34 (R : AV → Mem → Prop) : AExit → St → Prop := retQ Try.prog Try.f34 R
noncomputable def F34 (a0 : ByteArray) (R : AV → Mem → Prop) : Prop :=
callQ Try.prog KK.gl [] 48 [(AV.sc (.string a0))] fun v0 =>
exB v0 fun b1 =>
retL R [] [some (AV.sc (.bool b1))]
theorem F34_own (a0 : ByteArray) (R : AV → Mem → Prop) (h : F34 a0 R) : Own Try.prog KK.gl 34 [(AV.sc (.string a0))] R := own_of_F fol Try.func34 (code := c34) (by kernel_rfl) (by kernel_rfl) (by kernel_rfl) (X := F34 a0 R) (by kernel_rfl) h
/- skyway/slot.Check$1 -/
noncomputable def c50 : Code := ((Try.f50).body).getD .skip
noncomputable def q50 (R : AV → Mem → Prop) : AExit → St → Prop := retQ Try.prog Try.f50 R
noncomputable def F50 (a0_0 : ByteArray) (a0_1 : Int) (a1 : AV) (R : AV → Mem → Prop) : Prop :=
opP (fldO 0 a1) fun v0 =>
opP (ldS (mget ((0, some ⟨[(AV.sc (.string a0_0)), (AV.sc (.int .i64 a0_1))], 44⟩) :: [])) v0) fun v1 =>
exStr v1 fun s2 =>
retL R ((0, some ⟨[(AV.sc (.string a0_0)), (AV.sc (.int .i64 a0_1))], 44⟩) :: []) [some (AV.sc (.bool ((a0_0).toList == (s2).toList)))]
theorem F50_own (a0_0 : ByteArray) (a0_1 : Int) (a1 : AV) (R : AV → Mem → Prop) (h : F50 a0_0 a0_1 a1 R) : Own Try.prog KK.gl 50 [(AV.agg [(AV.sc (.string a0_0)), (AV.sc (.int .i64 a0_1))]), a1] R := own_of_F fol Try.func50 (code := c50) (by kernel_rfl) (by kernel_rfl) (by kernel_rfl) (X := F50 a0_0 a0_1 a1 R) (by kernel_rfl) h
/- slices.IndexFunc[[]skyway/api.SlotDemand,skyway/api.SlotDemand] -/
noncomputable def c54 : Code := ((Try.f54).body).getD .skip
noncomputable def q54 (R : AV → Mem → Prop) : AExit → St → Prop := retQ Try.prog Try.f54 R
noncomputable def c54_0 : Code := loopB c54 0
noncomputable def q54_0 (R : AV → Mem → Prop) : AExit → St → Prop := contW Try.prog KK 19 0 c54 0 (q54 R)
noncomputable def qq54_0 (R : AV → Mem → Prop) (N0 : St → Prop) : AExit → St → Prop := thenQ N0 (q54_0 R)
def h54_0 (t0 : AV) (t1 : AV) (t4 : Int) (t7 : Int) (t8 : Int) (m : Mem) : St := ⟨[(0, t0), (1, t1), (4, (AV.sc (.int .i64 t4))), (7, (AV.sc (.int .i64 t7))), (8, (AV.sc (.int .i64 t8)))], m, 100000⟩
noncomputable def B54_0 (t0 : AV) (t1 : AV) (t4 : Int) (t7 : Int) (t8 : Int) (m : Mem) (R : AV → Mem → Prop) (N0 : St → Prop) : Prop :=
bif (decide (t8 < t7)) then (
opP (idxS 2 t0 (AV.sc (.int .i64 t8))) fun v2 =>
opP (ldA (mget m) 2 v2) fun v3 =>
exA2 v3 fun c4 c5 =>
exStr c4 fun s6 =>
ex_i64 c5 fun z7 =>
fnArgs (some t1) (some [(AV.agg [(AV.sc (.string s6)), (AV.sc (.int .i64 z7))])]) fun f8 a8 => bif KK.pm f8 then callQ Try.prog KK.gl m f8 a8 (fun v8 =>
exB v8 fun b9 =>
bif b9 then (
retL R m [some (AV.sc (.int .i64 t8))]) else (
N0 ⟨[(0, t0), (1, t1), (4, (AV.sc (.int .i64 t4))), (7, (AV.sc (.int .i64 t7))), (8, (AV.sc (.int .i64 (IntKind.wrap .i64 (t8 + (1)))))), (9, (AV.sc (.bool (decide (t8 < t7))))), (10, (AV.sc (.int .i64 t8))), (5, (AV.sc (.int .i64 t8))), (11, t1), (12, t0), (13, (AV.sc (.int .i64 t8))), (14, v2), (15, (AV.agg [(AV.sc (.string s6)), (AV.sc (.int .i64 z7))])), (16, (AV.sc (.bool b9))), (18, (AV.sc (.int .i64 (IntKind.wrap .i64 (t8 + (1))))))], m, 100074⟩)) else callW Try.prog KK.gl m 100008 f8 a8 fun v8 m8 =>
exB v8 fun b9 =>
bif b9 then (
retL R m8 [some (AV.sc (.int .i64 t8))]) else (
N0 ⟨[(0, t0), (1, t1), (4, (AV.sc (.int .i64 t4))), (7, (AV.sc (.int .i64 t7))), (8, (AV.sc (.int .i64 (IntKind.wrap .i64 (t8 + (1)))))), (9, (AV.sc (.bool (decide (t8 < t7))))), (10, (AV.sc (.int .i64 t8))), (5, (AV.sc (.int .i64 t8))), (11, t1), (12, t0), (13, (AV.sc (.int .i64 t8))), (14, v2), (15, (AV.agg [(AV.sc (.string s6)), (AV.sc (.int .i64 z7))])), (16, (AV.sc (.bool b9))), (18, (AV.sc (.int .i64 (IntKind.wrap .i64 (t8 + (1))))))], m8, 100074⟩)) else (
retL R m [some (AV.sc (.int .i64 (-1)))])
theorem B54_0_eq (t0 : AV) (t1 : AV) (t4 : Int) (t7 : Int) (t8 : Int) (m : Mem) (R : AV → Mem → Prop) (N0 : St → Prop) : W Try.prog KK 19 0 c54_0 (h54_0 t0 t1 t4 t7 t8 m) (qq54_0 R N0) = B54_0 t0 t1 t4 t7 t8 m R N0 := by kernel_rfl
theorem L54_0 (R : AV → Mem → Prop) {σ : Type} (I : σ → Prop) (t0 : σ → AV) (t1 : σ → AV) (t4 : σ → Int) (t7 : σ → Int) (t8 : σ → Int) (m : σ → Mem) (μ : σ → Nat) (step : ∀ x, I x → B54_0 (t0 x) (t1 x) (t4 x) (t7 x) (t8 x) (m x) R (fun s' => ∃ y, I y ∧ μ y < μ x ∧ Weak KK 19 0 s' (h54_0 (t0 y) (t1 y) (t4 y) (t7 y) (t8 y) (m y)))) (x : σ) (hx : I x) {s : St} (hw : Weak KK 19 0 s (h54_0 (t0 x) (t1 x) (t4 x) (t7 x) (t8 x) (m x))) : Tri Try.prog KK 19 0 (.loop c54_0) s (q54_0 R) :=
  Tri.weak hw (Tri.loops fol I (fun x => h54_0 (t0 x) (t1 x) (t4 x) (t7 x) (t8 x) (m x)) μ (fun x hx => (B54_0_eq (t0 x) (t1 x) (t4 x) (t7 x) (t8 x) (m x) R _).mpr (step x hx)) x hx)
noncomputable def F54 (a0 : AV) (a1 : AV) (R : AV → Mem → Prop) : Prop :=
opP (lenS a0) fun v0 =>
ex_i64 v0 fun z1 =>
Tri Try.prog KK 19 0 (.loop c54_0) ⟨[(0, a0), (1, a1), (4, (AV.sc (.int .i64 (0)))), (6, a0), (7, (AV.sc (.int .i64 z1))), (8, (AV.sc (.int .i64 (0))))], [], 4⟩ (q54_0 R)
theorem F54_own (a0 : AV) (a1 : AV) (R : AV → Mem → Prop) (h : F54 a0 a1 R) : Own Try.prog KK.gl 54 [a0, a1] R := own_of_F fol Try.func54 (code := c54) (by kernel_rfl) (by kernel_rfl) (by kernel_rfl) (X := F54 a0 a1 R) (by kernel_rfl) h
/- slices.ContainsFunc[[]skyway/api.SlotDemand,skyway/api.SlotDemand] -/
noncomputable def c49 : Code := ((Try.f49).body).getD .skip
noncomputable def q49 (R : AV → Mem → Prop) : AExit → St → Prop := retQ Try.prog Try.f49 R
noncomputable def F49 (a0 : AV) (a1 : AV) (R : AV → Mem → Prop) : Prop :=
callQ Try.prog KK.gl [] 54 [a0, a1] fun v0 =>
ex_i64 v0 fun z1 =>
retL R [] [some (AV.sc (.bool (decide (z1 ≥ (0)))))]
theorem F49_own (a0 : AV) (a1 : AV) (R : AV → Mem → Prop) (h : F49 a0 a1 R) : Own Try.prog KK.gl 49 [a0, a1] R := own_of_F fol Try.func49 (code := c49) (by kernel_rfl) (by kernel_rfl) (by kernel_rfl) (X := F49 a0 a1 R) (by kernel_rfl) h
/- skyway/slot.Check -/
noncomputable def c35 : Code := ((Try.f35).body).getD .skip
noncomputable def q35 (R : AV → Mem → Prop) : AExit → St → Prop := retQ Try.prog Try.f35 R
noncomputable def c35_0 : Code := loopB c35 0
noncomputable def q35_0 (R : AV → Mem → Prop) : AExit → St → Prop := contW Try.prog KK 36 0 c35 0 (q35 R)
noncomputable def qq35_0 (R : AV → Mem → Prop) (N0 : St → Prop) : AExit → St → Prop := thenQ N0 (q35_0 R)
def h35_0 (t0 : AV) (t2 : Int) (t8 : AV) (t9 : Int) (t10 : Int) (m : Mem) : St := ⟨[(0, t0), (2, (AV.sc (.int .i64 t2))), (8, t8), (9, (AV.sc (.int .i64 t9))), (10, (AV.sc (.int .i64 t10)))], m, 100000⟩
noncomputable def B35_0 (t0 : AV) (t2 : Int) (t8 : AV) (t9 : Int) (t10 : Int) (m : Mem) (R : AV → Mem → Prop) (N0 : St → Prop) : Prop :=
bif (decide (t10 < t9)) then (
opP (idxS 2 t8 (AV.sc (.int .i64 t10))) fun v4 =>
opP (ldA (mget m) 2 v4) fun v5 =>
exA2 v5 fun c6 c7 =>
exStr c6 fun s8 =>
ex_i64 c7 fun z9 =>
callQ Try.prog KK.gl ((100004, some ⟨[(AV.sc (.string s8)), (AV.sc (.int .i64 z9))], 44⟩) :: (100004, some ⟨[(AV.sc (.string ⟨#[]⟩)), (AV.sc (.int .i64 (0)))], 44⟩) :: m) 34 [(AV.sc (.string s8))] fun v10 =>
exB v10 fun b11 =>
bif (!b11) then (
retL R ((100004, some ⟨[(AV.sc (.string s8)), (AV.sc (.int .i64 z9))], 44⟩) :: (100004, some ⟨[(AV.sc (.string ⟨#[]⟩)), (AV.sc (.int .i64 (0)))], 44⟩) :: m) [some (AV.sc (.int .i64 (3)))]) else (
bif (decide (z9 < (0))) then (
retL R ((100004, some ⟨[(AV.sc (.string s8)), (AV.sc (.int .i64 z9))], 44⟩) :: (100004, some ⟨[(AV.sc (.string ⟨#[]⟩)), (AV.sc (.int .i64 (0)))], 44⟩) :: m) [some (AV.sc (.int .i64 (12)))]) else (
bif (decide (z9 > (200000))) then (
retL R ((100004, some ⟨[(AV.sc (.string s8)), (AV.sc (.int .i64 z9))], 44⟩) :: (100004, some ⟨[(AV.sc (.string ⟨#[]⟩)), (AV.sc (.int .i64 (0)))], 44⟩) :: m) [some (AV.sc (.int .i64 (12)))]) else (
opP (opA Try.prog (.slice 39 (.tmp 0) none (some (.tmp 1)) none) 39 [t0, (AV.sc (.int .i64 t10))] (mget ((100004, some ⟨[(AV.sc (.string s8)), (AV.sc (.int .i64 z9))], 44⟩) :: (100004, some ⟨[(AV.sc (.string ⟨#[]⟩)), (AV.sc (.int .i64 (0)))], 44⟩) :: m)) 100086) fun v12 =>
callQ Try.prog KK.gl ((100004, some ⟨[(AV.sc (.string s8)), (AV.sc (.int .i64 z9))], 44⟩) :: (100004, some ⟨[(AV.sc (.string ⟨#[]⟩)), (AV.sc (.int .i64 (0)))], 44⟩) :: m) 49 [v12, (AV.fn 50 [(AV.ptr 100004 0)])] fun v13 =>
exB v13 fun b14 =>
bif b14 then (
retL R ((100004, some ⟨[(AV.sc (.string s8)), (AV.sc (.int .i64 z9))], 44⟩) :: (100004, some ⟨[(AV.sc (.string ⟨#[]⟩)), (AV.sc (.int .i64 (0)))], 44⟩) :: m) [some (AV.sc (.int .i64 (7)))]) else (
N0 ⟨[(0, t0), (2, (AV.sc (.int .i64 t2))), (8, t8), (9, (AV.sc (.int .i64 t9))), (10, (AV.sc (.int .i64 (IntKind.wrap .i64 (t10 + (1)))))), (11, (AV.sc (.bool (decide (t10 < t9))))), (12, (AV.sc (.int .i64 t10))), (13, v4), (14, (AV.agg [(AV.sc (.string s8)), (AV.sc (.int .i64 z9))])), (4, (AV.ptr 100004 0)), (3, (AV.sc (.int .i64 t10))), (16, (AV.ptr 100004 0)), (17, (AV.sc (.string s8))), (18, (AV.sc (.bool b11))), (19, (AV.sc (.bool (!b11)))), (15, (AV.sc (.bool (!b11)))), (21, (AV.ptr 100004 1)), (22, (AV.sc (.int .i64 z9))), (23, (AV.sc (.bool (decide (z9 < (0)))))), (24, (AV.sc (.bool false))), (25, (AV.ptr 100004 1)), (26, (AV.sc (.int .i64 z9))), (27, (AV.sc (.bool (decide (z9 > (200000)))))), (28, (AV.sc (.bool (decide (z9 > (200000)))))), (20, (AV.sc (.bool (decide (z9 > (200000)))))), (30, t0), (31, (AV.sc (.int .i64 t10))), (32, v12), (33, (AV.fn 50 [(AV.ptr 100004 0)])), (34, (AV.sc (.bool b14))), (29, (AV.sc (.bool b14))), (35, (AV.sc (.int .i64 (IntKind.wrap .i64 (t10 + (1))))))], ((100004, some ⟨[(AV.sc (.string s8)), (AV.sc (.int .i64 z9))], 44⟩) :: (100004, some ⟨[(AV.sc (.string ⟨#[]⟩)), (AV.sc (.int .i64 (0)))], 44⟩) :: m), 100155⟩))))) else (
retL R m [some (AV.sc (.int .i64 (0)))])
theorem B35_0_eq (t0 : AV) (t2 : Int) (t8 : AV) (t9 : Int) (t10 : Int) (m : Mem) (R : AV → Mem → Prop) (N0 : St → Prop) : W Try.prog KK 36 0 c35_0 (h35_0 t0 t2 t8 t9 t10 m) (qq35_0 R N0) = B35_0 t0 t2 t8 t9 t10 m R N0 := by kernel_rfl
theorem L35_0 (R : AV → Mem → Prop) {σ : Type} (I : σ → Prop) (t0 : σ → AV) (t2 : σ → Int) (t8 : σ → AV) (t9 : σ → Int) (t10 : σ → Int) (m : σ → Mem) (μ : σ → Nat) (step : ∀ x, I x → B35_0 (t0 x) (t2 x) (t8 x) (t9 x) (t10 x) (m x) R (fun s' => ∃ y, I y ∧ μ y < μ x ∧ Weak KK 36 0 s' (h35_0 (t0 y) (t2 y) (t8 y) (t9 y) (t10 y) (m y)))) (x : σ) (hx : I x) {s : St} (hw : Weak KK 36 0 s (h35_0 (t0 x) (t2 x) (t8 x) (t9 x) (t10 x) (m x))) : Tri Try.prog KK 36 0 (.loop c35_0) s (q35_0 R) :=
  Tri.weak hw (Tri.loops fol I (fun x => h35_0 (t0 x) (t2 x) (t8 x) (t9 x) (t10 x) (m x)) μ (fun x hx => (B35_0_eq (t0 x) (t2 x) (t8 x) (t9 x) (t10 x) (m x) R _).mpr (step x hx)) x hx)
noncomputable def F35 (a0 : AV) (R : AV → Mem → Prop) : Prop :=
opP (lenS a0) fun v0 =>
ex_i64 v0 fun z1 =>
bif (decide (z1 > (24))) then (
retL R [] [some (AV.sc (.int .i64 (2)))]) else (
opP (lenS a0) fun v2 =>
ex_i64 v2 fun z3 =>
Tri Try.prog KK 36 0 (.loop c35_0) ⟨[(0, a0), (2, (AV.sc (.int .i64 (0)))), (5, a0), (6, (AV.sc (.int .i64 z1))), (7, (AV.sc (.bool (decide (z1 > (24)))))), (8, a0), (9, (AV.sc (.int .i64 z3))), (10, (AV.sc (.int .i64 (0))))], [], 7⟩ (q35_0 R))
theorem F35_own (a0 : AV) (R : AV → Mem → Prop) (h : F35 a0 R) : Own Try.prog KK.gl 35 [a0] R := own_of_F fol Try.func35 (code := c35) (by kernel_rfl) (by kernel_rfl) (by kernel_rfl) (X := F35 a0 R) (by kernel_rfl) h
/- skyway/flow.Check -/
noncomputable def c10 : Code := ((Try.f10).body).getD .skip
noncomputable def q10 (R : AV → Mem → Prop) : AExit → St → Prop := retQ Try.prog Try.f10 R
noncomputable def c10_0 : Code := loopB c10 0
noncomputable def q10_0 (R : AV → Mem → Prop) : AExit → St → Prop := contW Try.prog KK 62 0 c10 0 (q10 R)
noncomputable def qq10_0 (R : AV → Mem → Prop) (N0 : St → Prop) : AExit → St → Prop := thenQ N0 (q10_0 R)
def h10_0 (t0 : AV) (t2 : Int) (t8 : AV) (t9 : Int) (t10 : Int) (m : Mem) : St := ⟨[(0, t0), (2, (AV.sc (.int .i64 t2))), (8, t8), (9, (AV.sc (.int .i64 t9))), (10, (AV.sc (.int .i64 t10)))], m, 100000⟩
noncomputable def B10_0 (t0 : AV) (t2 : Int) (t8 : AV) (t9 : Int) (t10 : Int) (m : Mem) (R : AV → Mem → Prop) (N0 : St → Prop) : Prop :=
bif (decide (t10 < t9)) then (
opP (idxS 3 t8 (AV.sc (.int .i64 t10))) fun v4 =>
opP (ldA (mget m) 3 v4) fun v5 =>
exA3 v5 fun c6 c7 c8 =>
ex_i64 c6 fun z9 =>
ex_i64 c7 fun z10 =>
ex_i64 c8 fun z11 =>
bif (decide (z9 < (0))) then (
retL R ((100004, some ⟨[(AV.sc (.int .i64 z9)), (AV.sc (.int .i64 z10)), (AV.sc (.int .i64 z11))], 64⟩) :: (100004, some ⟨[(AV.sc (.int .i64 (0))), (AV.sc (.int .i64 (0))), (AV.sc (.int .i64 (0)))], 64⟩) :: m) [some (AV.sc (.int .i64 (4)))]) else (
bif (decide (z10 > (200000))) then (
retL R ((100004, some ⟨[(AV.sc (.int .i64 z9)), (AV.sc (.int .i64 z10)), (AV.sc (.int .i64 z11))], 64⟩) :: (100004, some ⟨[(AV.sc (.int .i64 (0))), (AV.sc (.int .i64 (0))), (AV.sc (.int .i64 (0)))], 64⟩) :: m) [some (AV.sc (.int .i64 (4)))]) else (
bif (decide (z9 ≥ z10)) then (
retL R ((100004, some ⟨[(AV.sc (.int .i64 z9)), (AV.sc (.int .i64 z10)), (AV.sc (.int .i64 z11))], 64⟩) :: (100004, some ⟨[(AV.sc (.int .i64 (0))), (AV.sc (.int .i64 (0))), (AV.sc (.int .i64 (0)))], 64⟩) :: m) [some (AV.sc (.int .i64 (4)))]) else (
bif (decide (z11 < (0))) then (
retL R ((100004, some ⟨[(AV.sc (.int .i64 z9)), (AV.sc (.int .i64 z10)), (AV.sc (.int .i64 z11))], 64⟩) :: (100004, some ⟨[(AV.sc (.int .i64 (0))), (AV.sc (.int .i64 (0))), (AV.sc (.int .i64 (0)))], 64⟩) :: m) [some (AV.sc (.int .i64 (4)))]) else (
bif (decide (z11 > (24))) then (
retL R ((100004, some ⟨[(AV.sc (.int .i64 z9)), (AV.sc (.int .i64 z10)), (AV.sc (.int .i64 z11))], 64⟩) :: (100004, some ⟨[(AV.sc (.int .i64 (0))), (AV.sc (.int .i64 (0))), (AV.sc (.int .i64 (0)))], 64⟩) :: m) [some (AV.sc (.int .i64 (4)))]) else (
bif (decide (t10 > (0))) then (
opP (idxS 3 t0 (AV.sc (.int .i64 (IntKind.wrap .i64 (t10 - (1)))))) fun v12 =>
opP (fldO 0 v12) fun v13 =>
opP (fldO 1 v13) fun v14 =>
opP (ldS (mget ((100004, some ⟨[(AV.sc (.int .i64 z9)), (AV.sc (.int .i64 z10)), (AV.sc (.int .i64 z11))], 64⟩) :: (100004, some ⟨[(AV.sc (.int .i64 (0))), (AV.sc (.int .i64 (0))), (AV.sc (.int .i64 (0)))], 64⟩) :: m)) v14) fun v15 =>
ex_i64 v15 fun z16 =>
bif (decide (z9 < z16)) then (
retL R ((100004, some ⟨[(AV.sc (.int .i64 z9)), (AV.sc (.int .i64 z10)), (AV.sc (.int .i64 z11))], 64⟩) :: (100004, some ⟨[(AV.sc (.int .i64 (0))), (AV.sc (.int .i64 (0))), (AV.sc (.int .i64 (0)))], 64⟩) :: m) [some (AV.sc (.int .i64 (12)))]) else (
N0 ⟨[(0, t0), (2, (AV.sc (.int .i64 t2))), (8, t8), (9, (AV.sc (.int .i64 t9))), (10, (AV.sc (.int .i64 (IntKind.wrap .i64 (t10 + (1)))))), (11, (AV.sc (.bool (decide (t10 < t9))))), (12, (AV.sc (.int .i64 t10))), (13, v4), (14, (AV.agg [(AV.sc (.int .i64 z9)), (AV.sc (.int .i64 z10)), (AV.sc (.int .i64 z11))])), (4, (AV.ptr 100004 0)), (3, (AV.sc (.int .i64 t10))), (16, (AV.ptr 100004 0)), (17, (AV.ptr 100004 0)), (18, (AV.sc (.int .i64 z9))), (19, (AV.sc (.bool (decide (z9 < (0)))))), (20, (AV.sc (.bool false))), (21, (AV.ptr 100004 0)), (22, (AV.ptr 100004 1)), (23, (AV.sc (.int .i64 z10))), (24, (AV.sc (.bool (decide (z10 > (200000)))))), (25, (AV.sc (.bool (decide (z10 > (200000)))))), (26, (AV.sc (.bool false))), (27, (AV.ptr 100004 0)), (28, (AV.ptr 100004 0)), (29, (AV.sc (.int .i64 z9))), (30, (AV.ptr 100004 0)), (31, (AV.ptr 100004 1)), (32, (AV.sc (.int .i64 z10))), (33, (AV.sc (.bool (decide (z9 ≥ z10))))), (34, (AV.sc (.bool (decide (z9 ≥ z10))))), (35, (AV.sc (.bool false))), (36, (AV.ptr 100004 2)), (37, (AV.sc (.int .i64 z11))), (38, (AV.sc (.bool (decide (z11 < (0)))))), (39, (AV.sc (.bool (decide (z11 < (0)))))), (40, (AV.sc (.bool false))), (41, (AV.ptr 100004 2)), (42, (AV.sc (.int .i64 z11))), (43, (AV.sc (.bool (decide (z11 > (24)))))), (44, (AV.sc (.bool (decide (z11 > (24)))))), (15, (AV.sc (.bool (decide (z11 > (24)))))), (46, (AV.sc (.int .i64 t10))), (47, (AV.sc (.bool (decide (t10 > (0)))))), (48, (AV.sc (.bool true))), (49, (AV.ptr 100004 0)), (50, (AV.ptr 100004 0)), (51, (AV.sc (.int .i64 z9))), (52, t0), (53, (AV.sc (.int .i64 t10))), (54, (AV.sc (.int .i64 (IntKind.wrap .i64 (t10 - (1)))))), (55, v12), (56, v13), (57, v14), (58, (AV.sc (.int .i64 z16))), (59, (AV.sc (.bool (decide (z9 < z16))))), (60, (AV.sc (.bool (decide (z9 < z16))))), (45, (AV.sc (.bool (decide (z9 < z16))))), (61, (AV.sc (.int .i64 (IntKind.wrap .i64 (t10 + (1))))))], ((100004, some ⟨[(AV.sc (.int .i64 z9)), (AV.sc (.int .i64 z10)), (AV.sc (.int .i64 z11))], 64⟩) :: (100004, some ⟨[(AV.sc (.int .i64 (0))), (AV.sc (.int .i64 (0))), (AV.sc (.int .i64 (0)))], 64⟩) :: m), 100055⟩)) else (
N0 ⟨[(0, t0), (2, (AV.sc (.int .i64 t2))), (8, t8), (9, (AV.sc (.int .i64 t9))), (10, (AV.sc (.int .i64 (IntKind.wrap .i64 (t10 + (1)))))), (11, (AV.sc (.bool (decide (t10 < t9))))), (12, (AV.sc (.int .i64 t10))), (13, v4), (14, (AV.agg [(AV.sc (.int .i64 z9)), (AV.sc (.int .i64 z10)), (AV.sc (.int .i64 z11))])), (4, (AV.ptr 100004 0)), (3, (AV.sc (.int .i64 t10))), (16, (AV.ptr 100004 0)), (17, (AV.ptr 100004 0)), (18, (AV.sc (.int .i64 z9))), (19, (AV.sc (.bool (decide (z9 < (0)))))), (20, (AV.sc (.bool false))), (21, (AV.ptr 100004 0)), (22, (AV.ptr 100004 1)), (23, (AV.sc (.int .i64 z10))), (24, (AV.sc (.bool (decide (z10 > (200000)))))), (25, (AV.sc (.bool (decide (z10 > (200000)))))), (26, (AV.sc (.bool false))), (27, (AV.ptr 100004 0)), (28, (AV.ptr 100004 0)), (29, (AV.sc (.int .i64 z9))), (30, (AV.ptr 100004 0)), (31, (AV.ptr 100004 1)), (32, (AV.sc (.int .i64 z10))), (33, (AV.sc (.bool (decide (z9 ≥ z10))))), (34, (AV.sc (.bool (decide (z9 ≥ z10))))), (35, (AV.sc (.bool false))), (36, (AV.ptr 100004 2)), (37, (AV.sc (.int .i64 z11))), (38, (AV.sc (.bool (decide (z11 < (0)))))), (39, (AV.sc (.bool (decide (z11 < (0)))))), (40, (AV.sc (.bool false))), (41, (AV.ptr 100004 2)), (42, (AV.sc (.int .i64 z11))), (43, (AV.sc (.bool (decide (z11 > (24)))))), (44, (AV.sc (.bool (decide (z11 > (24)))))), (15, (AV.sc (.bool (decide (z11 > (24)))))), (46, (AV.sc (.int .i64 t10))), (47, (AV.sc (.bool (decide (t10 > (0)))))), (48, (AV.sc (.bool false))), (49, (AV.tup [])), (50, (AV.tup [])), (51, (AV.tup [])), (52, (AV.tup [])), (53, (AV.tup [])), (54, (AV.tup [])), (55, (AV.tup [])), (56, (AV.tup [])), (57, (AV.tup [])), (58, (AV.tup [])), (59, (AV.tup [])), (60, (AV.sc (.bool false))), (45, (AV.sc (.bool false))), (61, (AV.sc (.int .i64 (IntKind.wrap .i64 (t10 + (1))))))], ((100004, some ⟨[(AV.sc (.int .i64 z9)), (AV.sc (.int .i64 z10)), (AV.sc (.int .i64 z11))], 64⟩) :: (100004, some ⟨[(AV.sc (.int .i64 (0))), (AV.sc (.int .i64 (0))), (AV.sc (.int .i64 (0)))], 64⟩) :: m), 100055⟩))))))) else (
retL R m [some (AV.sc (.int .i64 (0)))])
theorem B10_0_eq (t0 : AV) (t2 : Int) (t8 : AV) (t9 : Int) (t10 : Int) (m : Mem) (R : AV → Mem → Prop) (N0 : St → Prop) : W Try.prog KK 62 0 c10_0 (h10_0 t0 t2 t8 t9 t10 m) (qq10_0 R N0) = B10_0 t0 t2 t8 t9 t10 m R N0 := by kernel_rfl
theorem L10_0 (R : AV → Mem → Prop) {σ : Type} (I : σ → Prop) (t0 : σ → AV) (t2 : σ → Int) (t8 : σ → AV) (t9 : σ → Int) (t10 : σ → Int) (m : σ → Mem) (μ : σ → Nat) (step : ∀ x, I x → B10_0 (t0 x) (t2 x) (t8 x) (t9 x) (t10 x) (m x) R (fun s' => ∃ y, I y ∧ μ y < μ x ∧ Weak KK 62 0 s' (h10_0 (t0 y) (t2 y) (t8 y) (t9 y) (t10 y) (m y)))) (x : σ) (hx : I x) {s : St} (hw : Weak KK 62 0 s (h10_0 (t0 x) (t2 x) (t8 x) (t9 x) (t10 x) (m x))) : Tri Try.prog KK 62 0 (.loop c10_0) s (q10_0 R) :=
  Tri.weak hw (Tri.loops fol I (fun x => h10_0 (t0 x) (t2 x) (t8 x) (t9 x) (t10 x) (m x)) μ (fun x hx => (B10_0_eq (t0 x) (t2 x) (t8 x) (t9 x) (t10 x) (m x) R _).mpr (step x hx)) x hx)
noncomputable def F10 (a0 : AV) (R : AV → Mem → Prop) : Prop :=
opP (lenS a0) fun v0 =>
ex_i64 v0 fun z1 =>
bif (decide (z1 > (256))) then (
retL R [] [some (AV.sc (.int .i64 (2)))]) else (
opP (lenS a0) fun v2 =>
ex_i64 v2 fun z3 =>
Tri Try.prog KK 62 0 (.loop c10_0) ⟨[(0, a0), (2, (AV.sc (.int .i64 (0)))), (5, a0), (6, (AV.sc (.int .i64 z1))), (7, (AV.sc (.bool (decide (z1 > (256)))))), (8, a0), (9, (AV.sc (.int .i64 z3))), (10, (AV.sc (.int .i64 (0))))], [], 7⟩ (q10_0 R))
theorem F10_own (a0 : AV) (R : AV → Mem → Prop) (h : F10 a0 R) : Own Try.prog KK.gl 10 [a0] R := own_of_F fol Try.func10 (code := c10) (by kernel_rfl) (by kernel_rfl) (by kernel_rfl) (X := F10 a0 R) (by kernel_rfl) h
/- cmp.isNaN[string] -/
noncomputable def c53 : Code := ((Try.f53).body).getD .skip
noncomputable def q53 (R : AV → Mem → Prop) : AExit → St → Prop := retQ Try.prog Try.f53 R
noncomputable def F53 (a0 : ByteArray) (R : AV → Mem → Prop) : Prop :=
retL R [] [some (AV.sc (.bool (!((a0).toList == (a0).toList))))]
theorem F53_own (a0 : ByteArray) (R : AV → Mem → Prop) (h : F53 a0 R) : Own Try.prog KK.gl 53 [(AV.sc (.string a0))] R := own_of_F fol Try.func53 (code := c53) (by kernel_rfl) (by kernel_rfl) (by kernel_rfl) (X := F53 a0 R) (by kernel_rfl) h
/- cmp.Compare[string] -/
noncomputable def c39 : Code := ((Try.f39).body).getD .skip
noncomputable def q39 (R : AV → Mem → Prop) : AExit → St → Prop := retQ Try.prog Try.f39 R
noncomputable def F39 (a0 : ByteArray) (a1 : ByteArray) (R : AV → Mem → Prop) : Prop :=
callQ Try.prog KK.gl [] 53 [(AV.sc (.string a0))] fun v0 =>
exB v0 fun b1 =>
callQ Try.prog KK.gl [] 53 [(AV.sc (.string a1))] fun v2 =>
exB v2 fun b3 =>
bif b1 then (
bif b3 then (
retL R [] [some (AV.sc (.int .i64 (0)))]) else (
retL R [] [some (AV.sc (.int .i64 (-1)))])) else (
bif b3 then (
retL R [] [some (AV.sc (.int .i64 (1)))]) else (
bif (Op.bytesLess (a0).toList (a1).toList) then (
retL R [] [some (AV.sc (.int .i64 (-1)))]) else (
bif (!(Op.bytesLess (a0).toList (a1).toList || (a0).toList == (a1).toList)) then (
retL R [] [some (AV.sc (.int .i64 (1)))]) else (
retL R [] [some (AV.sc (.int .i64 (0)))]))))
theorem F39_own (a0 : ByteArray) (a1 : ByteArray) (R : AV → Mem → Prop) (h : F39 a0 a1 R) : Own Try.prog KK.gl 39 [(AV.sc (.string a0)), (AV.sc (.string a1))] R := own_of_F fol Try.func39 (code := c39) (by kernel_rfl) (by kernel_rfl) (by kernel_rfl) (X := F39 a0 a1 R) (by kernel_rfl) h
/- cmp.Or[int] -/
noncomputable def c38 : Code := ((Try.f38).body).getD .skip
noncomputable def q38 (R : AV → Mem → Prop) : AExit → St → Prop := retQ Try.prog Try.f38 R
noncomputable def c38_0 : Code := loopB c38 0
noncomputable def q38_0 (R : AV → Mem → Prop) : AExit → St → Prop := contW Try.prog KK 18 0 c38 0 (q38 R)
noncomputable def qq38_0 (R : AV → Mem → Prop) (N0 : St → Prop) : AExit → St → Prop := thenQ N0 (q38_0 R)
def h38_0 (t2 : Int) (t3 : Int) (t6 : AV) (t7 : Int) (t8 : Int) (m : Mem) : St := ⟨[(2, (AV.sc (.int .i64 t2))), (3, (AV.sc (.int .i64 t3))), (6, t6), (7, (AV.sc (.int .i64 t7))), (8, (AV.sc (.int .i64 t8)))], m, 100000⟩
noncomputable def B38_0 (t2 : Int) (t3 : Int) (t6 : AV) (t7 : Int) (t8 : Int) (m : Mem) (R : AV → Mem → Prop) (N0 : St → Prop) : Prop :=
bif (decide (t8 < t7)) then (
opP (idxS 1 t6 (AV.sc (.int .i64 t8))) fun v2 =>
opP (ldS (mget m) v2) fun v3 =>
ex_i64 v3 fun z4 =>
bif (z4 != t3) then (
retL R m [some (AV.sc (.int .i64 z4))]) else (
N0 ⟨[(2, (AV.sc (.int .i64 t2))), (3, (AV.sc (.int .i64 t3))), (6, t6), (7, (AV.sc (.int .i64 t7))), (8, (AV.sc (.int .i64 (IntKind.wrap .i64 (t8 + (1)))))), (9, (AV.sc (.bool (decide (t8 < t7))))), (10, v2), (11, (AV.sc (.int .i64 z4))), (5, (AV.sc (.int .i64 z4))), (12, (AV.sc (.int .i64 z4))), (13, (AV.sc (.int .i64 t3))), (14, (AV.sc (.bool (z4 != t3)))), (16, (AV.sc (.int .i64 (IntKind.wrap .i64 (t8 + (1))))))], m, 100009⟩)) else (
retL R m [some (AV.sc (.int .i64 t3))])
theorem B38_0_eq (t2 : Int) (t3 : Int) (t6 : AV) (t7 : Int) (t8 : Int) (m : Mem) (R : AV → Mem → Prop) (N0 : St → Prop) : W Try.prog KK 18 0 c38_0 (h38_0 t2 t3 t6 t7 t8 m) (qq38_0 R N0) = B38_0 t2 t3 t6 t7 t8 m R N0 := by kernel_rfl
theorem L38_0 (R : AV → Mem → Prop) {σ : Type} (I : σ → Prop) (t2 : σ → Int) (t3 : σ → Int) (t6 : σ → AV) (t7 : σ → Int) (t8 : σ → Int) (m : σ → Mem) (μ : σ → Nat) (step : ∀ x, I x → B38_0 (t2 x) (t3 x) (t6 x) (t7 x) (t8 x) (m x) R (fun s' => ∃ y, I y ∧ μ y < μ x ∧ Weak KK 18 0 s' (h38_0 (t2 y) (t3 y) (t6 y) (t7 y) (t8 y) (m y)))) (x : σ) (hx : I x) {s : St} (hw : Weak KK 18 0 s (h38_0 (t2 x) (t3 x) (t6 x) (t7 x) (t8 x) (m x))) : Tri Try.prog KK 18 0 (.loop c38_0) s (q38_0 R) :=
  Tri.weak hw (Tri.loops fol I (fun x => h38_0 (t2 x) (t3 x) (t6 x) (t7 x) (t8 x) (m x)) μ (fun x hx => (B38_0_eq (t2 x) (t3 x) (t6 x) (t7 x) (t8 x) (m x) R _).mpr (step x hx)) x hx)
noncomputable def F38 (a0 : AV) (R : AV → Mem → Prop) : Prop :=
opP (lenS a0) fun v0 =>
ex_i64 v0 fun z1 =>
Tri Try.prog KK 18 0 (.loop c38_0) ⟨[(0, a0), (2, (AV.sc (.int .i64 (0)))), (3, (AV.sc (.int .i64 (0)))), (6, a0), (7, (AV.sc (.int .i64 z1))), (8, (AV.sc (.int .i64 (0))))], [], 5⟩ (q38_0 R)
theorem F38_own (a0 : AV) (R : AV → Mem → Prop) (h : F38 a0 R) : Own Try.prog KK.gl 38 [a0] R := own_of_F fol Try.func38 (code := c38) (by kernel_rfl) (by kernel_rfl) (by kernel_rfl) (X := F38 a0 R) (by kernel_rfl) h
/- skyway/slot.Assign$1 -/
noncomputable def c37 : Code := ((Try.f37).body).getD .skip
noncomputable def q37 (R : AV → Mem → Prop) : AExit → St → Prop := retQ Try.prog Try.f37 R
noncomputable def F37 (a0_0 : ByteArray) (a0_1 : Int) (a1_0 : ByteArray) (a1_1 : Int) (R : AV → Mem → Prop) : Prop :=
opM (ldS (look' ((1, some ⟨[(AV.sc (.string a1_0)), (AV.sc (.int .i64 a1_1))], 44⟩) :: (0, some ⟨[(AV.sc (.string a0_0)), (AV.sc (.int .i64 a0_1))], 44⟩) :: []) (topId (AV.ptr 0 1) ++ ([]))) (AV.ptr 0 1)) fun v0 d0 =>
ex_i64 v0 fun z1 =>
opM (ldS (look' (mpushs ((1, some ⟨[(AV.sc (.string a1_0)), (AV.sc (.int .i64 a1_1))], 44⟩) :: (0, some ⟨[(AV.sc (.string a0_0)), (AV.sc (.int .i64 a0_1))], 44⟩) :: []) d0) (topId (AV.ptr 1 1) ++ ([]))) (AV.ptr 1 1)) fun v2 d2 =>
ex_i64 v2 fun z3 =>
opM (ldS (look' (mpushs (mpushs ((1, some ⟨[(AV.sc (.string a1_0)), (AV.sc (.int .i64 a1_1))], 44⟩) :: (0, some ⟨[(AV.sc (.string a0_0)), (AV.sc (.int .i64 a0_1))], 44⟩) :: []) d0) d2) (topId (AV.ptr 0 0) ++ ([]))) (AV.ptr 0 0)) fun v4 d4 =>
exStr v4 fun s5 =>
opM (ldS (look' (mpushs (mpushs (mpushs ((1, some ⟨[(AV.sc (.string a1_0)), (AV.sc (.int .i64 a1_1))], 44⟩) :: (0, some ⟨[(AV.sc (.string a0_0)), (AV.sc (.int .i64 a0_1))], 44⟩) :: []) d0) d2) d4) (topId (AV.ptr 1 0) ++ ([]))) (AV.ptr 1 0)) fun v6 d6 =>
exStr v6 fun s7 =>
callF Try.prog KK.gl (mpushs (mpushs (mpushs (mpushs ((1, some ⟨[(AV.sc (.string a1_0)), (AV.sc (.int .i64 a1_1))], 44⟩) :: (0, some ⟨[(AV.sc (.string a0_0)), (AV.sc (.int .i64 a0_1))], 44⟩) :: []) d0) d2) d4) d6) 12 39 [(AV.sc (.string s5)), (AV.sc (.string s7))] fun v8 d8 ft8 =>
ex_i64 v8 fun z9 =>
opM (bsl 13 3 1 2 [(AV.sc (.int .i64 (0)))] [(0, (AV.sc (.int .i64 (IntKind.wrap .i64 (z1 - z3))))), (1, (AV.sc (.int .i64 z9)))]) fun v10 d10 =>
callF Try.prog KK.gl (mpushs (mpushs (mpushs (mpushs (mpushs (mpushs ((1, some ⟨[(AV.sc (.string a1_0)), (AV.sc (.int .i64 a1_1))], 44⟩) :: (0, some ⟨[(AV.sc (.string a0_0)), (AV.sc (.int .i64 a0_1))], 44⟩) :: []) d0) d2) d4) d6) d8) d10) 14 38 [v10] fun v11 d11 ft11 =>
ex_i64 v11 fun z12 =>
chk (confOk [0, 1, 0, 4, 15, 0, 32, 0, 128, 480, 1023, 2047, 4095] [⟨[], []⟩, ⟨d0, (topId (AV.ptr 0 1) ++ ([]))⟩, ⟨[], []⟩, ⟨d2, (topId (AV.ptr 1 1) ++ ([]))⟩, ⟨[], []⟩, ⟨[], []⟩, ⟨d4, (topId (AV.ptr 0 0) ++ ([]))⟩, ⟨[], []⟩, ⟨d6, (topId (AV.ptr 1 0) ++ ([]))⟩, ⟨d8, ft8⟩, ⟨d10, []⟩, ⟨d11, ft11⟩, ⟨[], []⟩]) (retL R (mpushs (mpushs (mpushs (mpushs (mpushs (mpushs (mpushs ((1, some ⟨[(AV.sc (.string a1_0)), (AV.sc (.int .i64 a1_1))], 44⟩) :: (0, some ⟨[(AV.sc (.string a0_0)), (AV.sc (.int .i64 a0_1))], 44⟩) :: []) d0) d2) d4) d6) d8) d10) d11) [some (AV.sc (.int .i64 z12))])
theorem F37_own (a0_0 : ByteArray) (a0_1 : Int) (a1_0 : ByteArray) (a1_1 : Int) (R : AV → Mem → Prop) (h : F37 a0_0 a0_1 a1_0 a1_1 R) : Own Try.prog KK.gl 37 [(AV.agg [(AV.sc (.string a0_0)), (AV.sc (.int .i64 a0_1))]), (AV.agg [(AV.sc (.string a1_0)), (AV.sc (.int .i64 a1_1))])] R := own_of_F fol Try.func37 (code := c37) (by kernel_rfl) (by kernel_rfl) (by kernel_rfl) (X := F37 a0_0 a0_1 a1_0 a1_1 R) (by kernel_rfl) h
/- skyway/slot.Assign$2 -/
noncomputable def c41 : Code := ((Try.f41).body).getD .skip
noncomputable def q41 (R : AV → Mem → Prop) : AExit → St → Prop := retQ Try.prog Try.f41 R
noncomputable def F41 (a0_0 : Int) (a0_1 : Int) (a0_2 : Int) (a1 : AV) (R : AV → Mem → Prop) : Prop :=
opP (fldO 1 a1) fun v0 =>
opP (ldS (mget ((0, some ⟨[(AV.sc (.int .i64 a0_0)), (AV.sc (.int .i64 a0_1)), (AV.sc (.int .i64 a0_2))], 64⟩) :: [])) v0) fun v1 =>
ex_i64 v1 fun z2 =>
retL R ((0, some ⟨[(AV.sc (.int .i64 a0_0)), (AV.sc (.int .i64 a0_1)), (AV.sc (.int .i64 a0_2))], 64⟩) :: []) [some (AV.sc (.bool (decide (a0_1 > z2))))]
theorem F41_own (a0_0 : Int) (a0_1 : Int) (a0_2 : Int) (a1 : AV) (R : AV → Mem → Prop) (h : F41 a0_0 a0_1 a0_2 a1 R) : Own Try.prog KK.gl 41 [(AV.agg [(AV.sc (.int .i64 a0_0)), (AV.sc (.int .i64 a0_1)), (AV.sc (.int .i64 a0_2))]), a1] R := own_of_F fol Try.func41 (code := c41) (by kernel_rfl) (by kernel_rfl) (by kernel_rfl) (X := F41 a0_0 a0_1 a0_2 a1 R) (by kernel_rfl) h
/- slices.IndexFunc[[]skyway/api.FlowCap,skyway/api.FlowCap] -/
noncomputable def c40 : Code := ((Try.f40).body).getD .skip
noncomputable def q40 (R : AV → Mem → Prop) : AExit → St → Prop := retQ Try.prog Try.f40 R
noncomputable def c40_0 : Code := loopB c40 0
noncomputable def q40_0 (R : AV → Mem → Prop) : AExit → St → Prop := contW Try.prog KK 19 0 c40 0 (q40 R)
noncomputable def qq40_0 (R : AV → Mem → Prop) (N0 : St → Prop) : AExit → St → Prop := thenQ N0 (q40_0 R)
def h40_0 (t0 : AV) (t1 : AV) (t4 : Int) (t7 : Int) (t8 : Int) (m : Mem) : St := ⟨[(0, t0), (1, t1), (4, (AV.sc (.int .i64 t4))), (7, (AV.sc (.int .i64 t7))), (8, (AV.sc (.int .i64 t8)))], m, 100000⟩
noncomputable def B40_0 (t0 : AV) (t1 : AV) (t4 : Int) (t7 : Int) (t8 : Int) (m : Mem) (R : AV → Mem → Prop) (N0 : St → Prop) : Prop :=
bif (decide (t8 < t7)) then (
opP (idxS 3 t0 (AV.sc (.int .i64 t8))) fun v2 =>
opP (ldA (mget m) 3 v2) fun v3 =>
exA3 v3 fun c4 c5 c6 =>
ex_i64 c4 fun z7 =>
ex_i64 c5 fun z8 =>
ex_i64 c6 fun z9 =>
fnArgs (some t1) (some [(AV.agg [(AV.sc (.int .i64 z7)), (AV.sc (.int .i64 z8)), (AV.sc (.int .i64 z9))])]) fun f10 a10 => bif KK.pm f10 then callQ Try.prog KK.gl m f10 a10 (fun v10 =>
exB v10 fun b11 =>
bif b11 then (
retL R m [some (AV.sc (.int .i64 t8))]) else (
N0 ⟨[(0, t0), (1, t1), (4, (AV.sc (.int .i64 t4))), (7, (AV.sc (.int .i64 t7))), (8, (AV.sc (.int .i64 (IntKind.wrap .i64 (t8 + (1)))))), (9, (AV.sc (.bool (decide (t8 < t7))))), (10, (AV.sc (.int .i64 t8))), (5, (AV.sc (.int .i64 t8))), (11, t1), (12, t0), (13, (AV.sc (.int .i64 t8))), (14, v2), (15, (AV.agg [(AV.sc (.int .i64 z7)), (AV.sc (.int .i64 z8)), (AV.sc (.int .i64 z9))])), (16, (AV.sc (.bool b11))), (18, (AV.sc (.int .i64 (IntKind.wrap .i64 (t8 + (1))))))], m, 100074⟩)) else callW Try.prog KK.gl m 100008 f10 a10 fun v10 m10 =>
exB v10 fun b11 =>
bif b11 then (
retL R m10 [some (AV.sc (.int .i64 t8))]) else (
N0 ⟨[(0, t0), (1, t1), (4, (AV.sc (.int .i64 t4))), (7, (AV.sc (.int .i64 t7))), (8, (AV.sc (.int .i64 (IntKind.wrap .i64 (t8 + (1)))))), (9, (AV.sc (.bool (decide (t8 < t7))))), (10, (AV.sc (.int .i64 t8))), (5, (AV.sc (.int .i64 t8))), (11, t1), (12, t0), (13, (AV.sc (.int .i64 t8))), (14, v2), (15, (AV.agg [(AV.sc (.int .i64 z7)), (AV.sc (.int .i64 z8)), (AV.sc (.int .i64 z9))])), (16, (AV.sc (.bool b11))), (18, (AV.sc (.int .i64 (IntKind.wrap .i64 (t8 + (1))))))], m10, 100074⟩)) else (
retL R m [some (AV.sc (.int .i64 (-1)))])
theorem B40_0_eq (t0 : AV) (t1 : AV) (t4 : Int) (t7 : Int) (t8 : Int) (m : Mem) (R : AV → Mem → Prop) (N0 : St → Prop) : W Try.prog KK 19 0 c40_0 (h40_0 t0 t1 t4 t7 t8 m) (qq40_0 R N0) = B40_0 t0 t1 t4 t7 t8 m R N0 := by kernel_rfl
theorem L40_0 (R : AV → Mem → Prop) {σ : Type} (I : σ → Prop) (t0 : σ → AV) (t1 : σ → AV) (t4 : σ → Int) (t7 : σ → Int) (t8 : σ → Int) (m : σ → Mem) (μ : σ → Nat) (step : ∀ x, I x → B40_0 (t0 x) (t1 x) (t4 x) (t7 x) (t8 x) (m x) R (fun s' => ∃ y, I y ∧ μ y < μ x ∧ Weak KK 19 0 s' (h40_0 (t0 y) (t1 y) (t4 y) (t7 y) (t8 y) (m y)))) (x : σ) (hx : I x) {s : St} (hw : Weak KK 19 0 s (h40_0 (t0 x) (t1 x) (t4 x) (t7 x) (t8 x) (m x))) : Tri Try.prog KK 19 0 (.loop c40_0) s (q40_0 R) :=
  Tri.weak hw (Tri.loops fol I (fun x => h40_0 (t0 x) (t1 x) (t4 x) (t7 x) (t8 x) (m x)) μ (fun x hx => (B40_0_eq (t0 x) (t1 x) (t4 x) (t7 x) (t8 x) (m x) R _).mpr (step x hx)) x hx)
noncomputable def F40 (a0 : AV) (a1 : AV) (R : AV → Mem → Prop) : Prop :=
opP (lenS a0) fun v0 =>
ex_i64 v0 fun z1 =>
Tri Try.prog KK 19 0 (.loop c40_0) ⟨[(0, a0), (1, a1), (4, (AV.sc (.int .i64 (0)))), (6, a0), (7, (AV.sc (.int .i64 z1))), (8, (AV.sc (.int .i64 (0))))], [], 4⟩ (q40_0 R)
theorem F40_own (a0 : AV) (a1 : AV) (R : AV → Mem → Prop) (h : F40 a0 a1 R) : Own Try.prog KK.gl 40 [a0, a1] R := own_of_F fol Try.func40 (code := c40) (by kernel_rfl) (by kernel_rfl) (by kernel_rfl) (X := F40 a0 a1 R) (by kernel_rfl) h
/- skyway/slot.Assign -/
noncomputable def c19 : Code := ((Try.f19).body).getD .skip
noncomputable def q19 (R : AV → Mem → Prop) : AExit → St → Prop := retQ Try.prog Try.f19 R
noncomputable def c19_0 : Code := loopB c19 0
noncomputable def q19_0 (R : AV → Mem → Prop) : AExit → St → Prop := contW Try.prog KK 99 0 c19 0 (q19 R)
noncomputable def qq19_0 (R : AV → Mem → Prop) (N0 : St → Prop) : AExit → St → Prop := thenQ N0 (q19_0 R)
def h19_0 (t0 : ByteArray) (t2 : AV) (t6 : AV) (t7 : Int) (t11 : AV) (t12 : AV) (t36 : AV) (t37 : Int) (t38 : Int) (m : Mem) : St := ⟨[(0, (AV.sc (.string t0))), (2, t2), (6, t6), (7, (AV.sc (.int .i64 t7))), (11, t11), (12, t12), (36, t36), (37, (AV.sc (.int .i64 t37))), (38, (AV.sc (.int .i64 t38)))], m, 100000⟩
noncomputable def c19_0_0 : Code := loopB c19_0 0
noncomputable def q19_0_0 (R : AV → Mem → Prop) (N0 : St → Prop) : AExit → St → Prop := contW Try.prog KK 99 0 c19_0 0 (qq19_0 R N0)
noncomputable def qq19_0_0 (R : AV → Mem → Prop) (N0 : St → Prop) (N1 : St → Prop) : AExit → St → Prop := thenQ N1 (q19_0_0 R N0)
def h19_0_0 (t0 : ByteArray) (t2 : AV) (t6 : AV) (t7 : Int) (t11 : AV) (t12 : AV) (t15 : Int) (t36 : AV) (t37 : Int) (t38 : Int) (b100003_0 : ByteArray) (b100003_1 : Int) (m : Mem) : St := ⟨[(0, (AV.sc (.string t0))), (2, t2), (6, t6), (7, (AV.sc (.int .i64 t7))), (11, t11), (12, t12), (14, (AV.ptr 100003 0)), (15, (AV.sc (.int .i64 t15))), (36, t36), (37, (AV.sc (.int .i64 t37))), (38, (AV.sc (.int .i64 t38)))], ((100003, some ⟨[(AV.sc (.string b100003_0)), (AV.sc (.int .i64 b100003_1))], 44⟩) :: m), 200000⟩
noncomputable def B19_0 (t0 : ByteArray) (t2 : AV) (t6 : AV) (t7 : Int) (t11 : AV) (t12 : AV) (t36 : AV) (t37 : Int) (t38 : Int) (m : Mem) (R : AV → Mem → Prop) (N0 : St → Prop) : Prop :=
bif (decide (t38 < t37)) then (
opP (idxS 2 t36 (AV.sc (.int .i64 t38))) fun v13 =>
opP (ldA (mget m) 2 v13) fun v14 =>
exA2 v14 fun c15 c16 =>
exStr c15 fun s17 =>
ex_i64 c16 fun z18 =>
callQ Try.prog KK.gl ((100003, some ⟨[(AV.sc (.string s17)), (AV.sc (.int .i64 z18))], 44⟩) :: (100003, some ⟨[(AV.sc (.string ⟨#[]⟩)), (AV.sc (.int .i64 (0)))], 44⟩) :: m) 40 [t2, (AV.fn 41 [(AV.ptr 100003 0)])] fun v19 =>
ex_i64 v19 fun z20 =>
Tri Try.prog KK 99 0 (.loop c19_0_0) ⟨[(0, (AV.sc (.string t0))), (2, t2), (6, t6), (7, (AV.sc (.int .i64 t7))), (11, t11), (12, t12), (36, t36), (37, (AV.sc (.int .i64 t37))), (38, (AV.sc (.int .i64 t38))), (39, (AV.sc (.bool (decide (t38 < t37))))), (40, v13), (41, (AV.agg [(AV.sc (.string s17)), (AV.sc (.int .i64 z18))])), (14, (AV.ptr 100003 0)), (42, t2), (43, (AV.fn 41 [(AV.ptr 100003 0)])), (44, (AV.sc (.int .i64 z20))), (15, (AV.sc (.int .i64 z20)))], ((100003, some ⟨[(AV.sc (.string s17)), (AV.sc (.int .i64 z18))], 44⟩) :: (100003, some ⟨[(AV.sc (.string ⟨#[]⟩)), (AV.sc (.int .i64 (0)))], 44⟩) :: m), 100072⟩ (q19_0_0 R N0)) else (
retL R m [some t12, some (AV.sc (.int .i64 (0)))])
theorem B19_0_eq (t0 : ByteArray) (t2 : AV) (t6 : AV) (t7 : Int) (t11 : AV) (t12 : AV) (t36 : AV) (t37 : Int) (t38 : Int) (m : Mem) (R : AV → Mem → Prop) (N0 : St → Prop) : W Try.prog KK 99 0 c19_0 (h19_0 t0 t2 t6 t7 t11 t12 t36 t37 t38 m) (qq19_0 R N0) = B19_0 t0 t2 t6 t7 t11 t12 t36 t37 t38 m R N0 := by kernel_rfl
theorem L19_0 (R : AV → Mem → Prop) {σ : Type} (I : σ → Prop) (t0 : σ → ByteArray) (t2 : σ → AV) (t6 : σ → AV) (t7 : σ → Int) (t11 : σ → AV) (t12 : σ → AV) (t36 : σ → AV) (t37 : σ → Int) (t38 : σ → Int) (m : σ → Mem) (μ : σ → Nat) (step : ∀ x, I x → B19_0 (t0 x) (t2 x) (t6 x) (t7 x) (t11 x) (t12 x) (t36 x) (t37 x) (t38 x) (m x) R (fun s' => ∃ y, I y ∧ μ y < μ x ∧ Weak KK 99 0 s' (h19_0 (t0 y) (t2 y) (t6 y) (t7 y) (t11 y) (t12 y) (t36 y) (t37 y) (t38 y) (m y)))) (x : σ) (hx : I x) {s : St} (hw : Weak KK 99 0 s (h19_0 (t0 x) (t2 x) (t6 x) (t7 x) (t11 x) (t12 x) (t36 x) (t37 x) (t38 x) (m x))) : Tri Try.prog KK 99 0 (.loop c19_0) s (q19_0 R) :=
  Tri.weak hw (Tri.loops fol I (fun x => h19_0 (t0 x) (t2 x) (t6 x) (t7 x) (t11 x) (t12 x) (t36 x) (t37 x) (t38 x) (m x)) μ (fun x hx => (B19_0_eq (t0 x) (t2 x) (t6 x) (t7 x) (t11 x) (t12 x) (t36 x) (t37 x) (t38 x) (m x) R _).mpr (step x hx)) x hx)
noncomputable def B19_0_0 (t0 : ByteArray) (t2 : AV) (t6 : AV) (t7 : Int) (t11 : AV) (t12 : AV) (t15 : Int) (t36 : AV) (t37 : Int) (t38 : Int) (b100003_0 : ByteArray) (b100003_1 : Int) (m : Mem) (R : AV → Mem → Prop) (N0 : St → Prop) (N1 : St → Prop) : Prop :=
bif (decide (t15 ≥ (0))) then (
opP (lenS t2) fun v21 =>
ex_i64 v21 fun z22 =>
bif (decide (t15 < z22)) then (
opP (idxS 1 t11 (AV.sc (.int .i64 t15))) fun v23 =>
opP (ldS (mget ((100003, some ⟨[(AV.sc (.string b100003_0)), (AV.sc (.int .i64 b100003_1))], 44⟩) :: m)) v23) fun v24 =>
ex_i64 v24 fun z25 =>
opP (idxS 3 t2 (AV.sc (.int .i64 t15))) fun v26 =>
opP (fldO 2 v26) fun v27 =>
opP (ldS (mget ((100003, some ⟨[(AV.sc (.string b100003_0)), (AV.sc (.int .i64 b100003_1))], 44⟩) :: m)) v27) fun v28 =>
ex_i64 v28 fun z29 =>
bif (decide (z25 ≥ z29)) then (
N1 ⟨[(0, (AV.sc (.string t0))), (2, t2), (6, t6), (7, (AV.sc (.int .i64 t7))), (11, t11), (12, t12), (14, (AV.ptr 100003 0)), (15, (AV.sc (.int .i64 (IntKind.wrap .i64 (t15 + (1)))))), (36, t36), (37, (AV.sc (.int .i64 t37))), (38, (AV.sc (.int .i64 t38))), (45, (AV.sc (.int .i64 t15))), (46, (AV.sc (.bool (decide (t15 ≥ (0)))))), (47, (AV.sc (.bool true))), (48, (AV.sc (.int .i64 t15))), (49, t2), (50, (AV.sc (.int .i64 z22))), (51, (AV.sc (.bool (decide (t15 < z22))))), (52, (AV.sc (.bool (decide (t15 < z22))))), (53, (AV.sc (.bool true))), (54, t11), (55, (AV.sc (.int .i64 t15))), (56, v23), (57, (AV.sc (.int .i64 z25))), (58, t2), (59, (AV.sc (.int .i64 t15))), (60, v26), (61, v27), (62, (AV.sc (.int .i64 z29))), (63, (AV.sc (.bool (decide (z25 ≥ z29))))), (64, (AV.sc (.bool (decide (z25 ≥ z29))))), (65, (AV.sc (.int .i64 t15))), (66, (AV.sc (.int .i64 (IntKind.wrap .i64 (t15 + (1))))))], ((100003, some ⟨[(AV.sc (.string b100003_0)), (AV.sc (.int .i64 b100003_1))], 44⟩) :: m), 200023⟩) else (
bif (decide (t15 < (0))) then (
retL R ((100003, some ⟨[(AV.sc (.string b100003_0)), (AV.sc (.int .i64 b100003_1))], 44⟩) :: m) [some AV.nils, some (AV.sc (.int .i64 (18)))]) else (
opP (lenS t2) fun v30 =>
ex_i64 v30 fun z31 =>
bif (t15 == z31) then (
retL R ((100003, some ⟨[(AV.sc (.string b100003_0)), (AV.sc (.int .i64 b100003_1))], 44⟩) :: m) [some AV.nils, some (AV.sc (.int .i64 (18)))]) else (
opP (idxS 1 t11 (AV.sc (.int .i64 t15))) fun v32 =>
opP (ldS (mget ((100003, some ⟨[(AV.sc (.string b100003_0)), (AV.sc (.int .i64 b100003_1))], 44⟩) :: m)) v32) fun v33 =>
ex_i64 v33 fun z34 =>
opP (idxS 1 t11 (AV.sc (.int .i64 t15))) fun v35 =>
storeW Try.prog (mget ((100003, some ⟨[(AV.sc (.string b100003_0)), (AV.sc (.int .i64 b100003_1))], 44⟩) :: m)) 3 v35 (AV.sc (.int .i64 (IntKind.wrap .i64 (z34 + (1))))) fun v36 d36 =>
opM (ldS (look' (mpushs ((100003, some ⟨[(AV.sc (.string b100003_0)), (AV.sc (.int .i64 b100003_1))], 44⟩) :: m) d36) (topId (AV.ptr 100003 0) ++ ([]))) (AV.ptr 100003 0)) fun v37 d37 =>
exStr v37 fun s38 =>
opM (ldS (look' (mpushs (mpushs ((100003, some ⟨[(AV.sc (.string b100003_0)), (AV.sc (.int .i64 b100003_1))], 44⟩) :: m) d36) d37) (topId (AV.ptr 100003 1) ++ ([]))) (AV.ptr 100003 1)) fun v39 d39 =>
ex_i64 v39 fun z40 =>
opM (idxS 3 t2 (AV.sc (.int .i64 t15))) fun v41 d41 =>
opM (fldO 0 v41) fun v42 d42 =>
opM (fldO 0 v42) fun v43 d43 =>
opM (ldS (look' (mpushs (mpushs (mpushs (mpushs (mpushs (mpushs ((100003, some ⟨[(AV.sc (.string b100003_0)), (AV.sc (.int .i64 b100003_1))], 44⟩) :: m) d36) d37) d39) d41) d42) d43) (topId v43 ++ ([]))) v43) fun v44 d44 =>
ex_i64 v44 fun z45 =>
opM (opA Try.prog (.call ⟨.builtin .max, #[.tmp 0, .tmp 1], #[3, 3]⟩) 3 [(AV.sc (.int .i64 z40)), (AV.sc (.int .i64 z45))] (look' (mpushs (mpushs (mpushs (mpushs (mpushs (mpushs (mpushs ((100003, some ⟨[(AV.sc (.string b100003_0)), (AV.sc (.int .i64 b100003_1))], 44⟩) :: m) d36) d37) d39) d41) d42) d43) d44) (topId (AV.sc (.int .i64 z40)) ++ (topId (AV.sc (.int .i64 z45)) ++ ([])))) 200047) fun v46 d46 =>
ex_i64 v46 fun z47 =>
opM (bld [(AV.sc (.string ⟨#[]⟩)), (AV.sc (.string ⟨#[]⟩)), (AV.sc (.int .i64 (0)))] [(0, 1), (1, 1), (2, 1)] [(0, (AV.sc (.string s38))), (1, (AV.sc (.string t0))), (2, (AV.sc (.int .i64 z47)))]) fun v48 d48 =>
opM (bsl 200049 49 3 1 [(AV.sc (.string ⟨#[]⟩)), (AV.sc (.string ⟨#[]⟩)), (AV.sc (.int .i64 (0)))] [(0, v48)]) fun v49 d49 =>
opM (app (look' (mpushs (mpushs (mpushs (mpushs (mpushs (mpushs (mpushs (mpushs (mpushs (mpushs ((100003, some ⟨[(AV.sc (.string b100003_0)), (AV.sc (.int .i64 b100003_1))], 44⟩) :: m) d36) d37) d39) d41) d42) d43) d44) d46) d48) d49) (topId t12 ++ (topId v49 ++ ([])))) 49 3 40 [(AV.sc (.string ⟨#[]⟩)), (AV.sc (.string ⟨#[]⟩)), (AV.sc (.int .i64 (0)))] 200050 t12 v49) fun v50 d50 =>
chk (confOk [0, 0, 2, 0, 0, 16, 0, 0, 192, 448, 960, 1984, 4080, 8190, 16382, 32767, 65535] [⟨[], []⟩, ⟨[], []⟩, ⟨d37, (topId (AV.ptr 100003 0) ++ ([]))⟩, ⟨[], []⟩, ⟨[], []⟩, ⟨d39, (topId (AV.ptr 100003 1) ++ ([]))⟩, ⟨[], []⟩, ⟨[], []⟩, ⟨d41, []⟩, ⟨d42, []⟩, ⟨d43, []⟩, ⟨d44, (topId v43 ++ ([]))⟩, ⟨d46, (topId (AV.sc (.int .i64 z40)) ++ (topId (AV.sc (.int .i64 z45)) ++ ([])))⟩, ⟨d48, []⟩, ⟨d49, []⟩, ⟨d50, (topId t12 ++ (topId v49 ++ ([])))⟩, ⟨[], []⟩]) (N0 ⟨[(0, (AV.sc (.string t0))), (2, t2), (6, t6), (7, (AV.sc (.int .i64 t7))), (11, t11), (12, v50), (14, (AV.ptr 100003 0)), (15, (AV.sc (.int .i64 t15))), (36, t36), (37, (AV.sc (.int .i64 t37))), (38, (AV.sc (.int .i64 (IntKind.wrap .i64 (t38 + (1)))))), (45, (AV.sc (.int .i64 t15))), (46, (AV.sc (.bool (decide (t15 ≥ (0)))))), (47, (AV.sc (.bool true))), (48, (AV.sc (.int .i64 t15))), (49, t2), (50, (AV.sc (.int .i64 z22))), (51, (AV.sc (.bool (decide (t15 < z22))))), (52, (AV.sc (.bool (decide (t15 < z22))))), (53, (AV.sc (.bool true))), (54, t11), (55, (AV.sc (.int .i64 t15))), (56, v23), (57, (AV.sc (.int .i64 z25))), (58, t2), (59, (AV.sc (.int .i64 t15))), (60, v26), (61, v27), (62, (AV.sc (.int .i64 z29))), (63, (AV.sc (.bool (decide (z25 ≥ z29))))), (64, (AV.sc (.bool (decide (z25 ≥ z29))))), (67, (AV.sc (.int .i64 t15))), (68, (AV.sc (.bool (decide (t15 < (0)))))), (69, (AV.sc (.bool false))), (70, (AV.sc (.int .i64 t15))), (71, t2), (72, (AV.sc (.int .i64 z31))), (73, (AV.sc (.bool (t15 == z31)))), (74, (AV.sc (.bool (t15 == z31)))), (75, t11), (76, (AV.sc (.int .i64 t15))), (77, v32), (78, (AV.sc (.int .i64 z34))), (79, (AV.sc (.int .i64 (IntKind.wrap .i64 (z34 + (1)))))), (80, v35), (81, t12), (82, (AV.ptr 100003 0)), (83, (AV.sc (.string s38))), (84, (AV.sc (.string t0))), (85, (AV.ptr 100003 1)), (86, (AV.sc (.int .i64 z40))), (87, t2), (88, (AV.sc (.int .i64 t15))), (89, v41), (90, v42), (91, v43), (92, (AV.sc (.int .i64 z45))), (93, (AV.sc (.int .i64 z47))), (94, v48), (95, v49), (96, v50), (97, (AV.sc (.int .i64 (IntKind.wrap .i64 (t38 + (1))))))], (mpushs (mpushs (mpushs (mpushs (mpushs (mpushs (mpushs (mpushs (mpushs (mpushs (mpushs ((100003, some ⟨[(AV.sc (.string b100003_0)), (AV.sc (.int .i64 b100003_1))], 44⟩) :: m) d36) d37) d39) d41) d42) d43) d44) d46) d48) d49) d50), 200054⟩))))) else (
bif (decide (t15 < (0))) then (
retL R ((100003, some ⟨[(AV.sc (.string b100003_0)), (AV.sc (.int .i64 b100003_1))], 44⟩) :: m) [some AV.nils, some (AV.sc (.int .i64 (18)))]) else (
opP (lenS t2) fun v51 =>
ex_i64 v51 fun z52 =>
bif (t15 == z52) then (
retL R ((100003, some ⟨[(AV.sc (.string b100003_0)), (AV.sc (.int .i64 b100003_1))], 44⟩) :: m) [some AV.nils, some (AV.sc (.int .i64 (18)))]) else (
opP (idxS 1 t11 (AV.sc (.int .i64 t15))) fun v53 =>
opP (ldS (mget ((100003, some ⟨[(AV.sc (.string b100003_0)), (AV.sc (.int .i64 b100003_1))], 44⟩) :: m)) v53) fun v54 =>
ex_i64 v54 fun z55 =>
opP (idxS 1 t11 (AV.sc (.int .i64 t15))) fun v56 =>
storeW Try.prog (mget ((100003, some ⟨[(AV.sc (.string b100003_0)), (AV.sc (.int .i64 b100003_1))], 44⟩) :: m)) 3 v56 (AV.sc (.int .i64 (IntKind.wrap .i64 (z55 + (1))))) fun v57 d57 =>
opM (ldS (look' (mpushs ((100003, some ⟨[(AV.sc (.string b100003_0)), (AV.sc (.int .i64 b100003_1))], 44⟩) :: m) d57) (topId (AV.ptr 100003 0) ++ ([]))) (AV.ptr 100003 0)) fun v58 d58 =>
exStr v58 fun s59 =>
opM (ldS (look' (mpushs (mpushs ((100003, some ⟨[(AV.sc (.string b100003_0)), (AV.sc (.int .i64 b100003_1))], 44⟩) :: m) d57) d58) (topId (AV.ptr 100003 1) ++ ([]))) (AV.ptr 100003 1)) fun v60 d60 =>
ex_i64 v60 fun z61 =>
opM (idxS 3 t2 (AV.sc (.int .i64 t15))) fun v62 d62 =>
opM (fldO 0 v62) fun v63 d63 =>
opM (fldO 0 v63) fun v64 d64 =>
opM (ldS (look' (mpushs (mpushs (mpushs (mpushs (mpushs (mpushs ((100003, some ⟨[(AV.sc (.string b100003_0)), (AV.sc (.int .i64 b100003_1))], 44⟩) :: m) d57) d58) d60) d62) d63) d64) (topId v64 ++ ([]))) v64) fun v65 d65 =>
ex_i64 v65 fun z66 =>
opM (opA Try.prog (.call ⟨.builtin .max, #[.tmp 0, .tmp 1], #[3, 3]⟩) 3 [(AV.sc (.int .i64 z61)), (AV.sc (.int .i64 z66))] (look' (mpushs (mpushs (mpushs (mpushs (mpushs (mpushs (mpushs ((100003, some ⟨[(AV.sc (.string b100003_0)), (AV.sc (.int .i64 b100003_1))], 44⟩) :: m) d57) d58) d60) d62) d63) d64) d65) (topId (AV.sc (.int .i64 z61)) ++ (topId (AV.sc (.int .i64 z66)) ++ ([])))) 200047) fun v67 d67 =>
ex_i64 v67 fun z68 =>
opM (bld [(AV.sc (.string ⟨#[]⟩)), (AV.sc (.string ⟨#[]⟩)), (AV.sc (.int .i64 (0)))] [(0, 1), (1, 1), (2, 1)] [(0, (AV.sc (.string s59))), (1, (AV.sc (.string t0))), (2, (AV.sc (.int .i64 z68)))]) fun v69 d69 =>
opM (bsl 200049 49 3 1 [(AV.sc (.string ⟨#[]⟩)), (AV.sc (.string ⟨#[]⟩)), (AV.sc (.int .i64 (0)))] [(0, v69)]) fun v70 d70 =>
opM (app (look' (mpushs (mpushs (mpushs (mpushs (mpushs (mpushs (mpushs (mpushs (mpushs (mpushs ((100003, some ⟨[(AV.sc (.string b100003_0)), (AV.sc (.int .i64 b100003_1))], 44⟩) :: m) d57) d58) d60) d62) d63) d64) d65) d67) d69) d70) (topId t12 ++ (topId v70 ++ ([])))) 49 3 40 [(AV.sc (.string ⟨#[]⟩)), (AV.sc (.string ⟨#[]⟩)), (AV.sc (.int .i64 (0)))] 200050 t12 v70) fun v71 d71 =>
chk (confOk [0, 0, 2, 0, 0, 16, 0, 0, 192, 448, 960, 1984, 4080, 8190, 16382, 32767, 65535] [⟨[], []⟩, ⟨[], []⟩, ⟨d58, (topId (AV.ptr 100003 0) ++ ([]))⟩, ⟨[], []⟩, ⟨[], []⟩, ⟨d60, (topId (AV.ptr 100003 1) ++ ([]))⟩, ⟨[], []⟩, ⟨[], []⟩, ⟨d62, []⟩, ⟨d63, []⟩, ⟨d64, []⟩, ⟨d65, (topId v64 ++ ([]))⟩, ⟨d67, (topId (AV.sc (.int .i64 z61)) ++ (topId (AV.sc (.int .i64 z66)) ++ ([])))⟩, ⟨d69, []⟩, ⟨d70, []⟩, ⟨d71, (topId t12 ++ (topId v70 ++ ([])))⟩, ⟨[], []⟩]) (N0 ⟨[(0, (AV.sc (.string t0))), (2, t2), (6, t6), (7, (AV.sc (.int .i64 t7))), (11, t11), (12, v71), (14, (AV.ptr 100003 0)), (15, (AV.sc (.int .i64 t15))), (36, t36), (37, (AV.sc (.int .i64 t37))), (38, (AV.sc (.int .i64 (IntKind.wrap .i64 (t38 + (1)))))), (45, (AV.sc (.int .i64 t15))), (46, (AV.sc (.bool (decide (t15 ≥ (0)))))), (47, (AV.sc (.bool true))), (48, (AV.sc (.int .i64 t15))), (49, t2), (50, (AV.sc (.int .i64 z22))), (51, (AV.sc (.bool (decide (t15 < z22))))), (52, (AV.sc (.bool (decide (t15 < z22))))), (53, (AV.sc (.bool false))), (54, (AV.tup [])), (55, (AV.tup [])), (56, (AV.tup [])), (57, (AV.tup [])), (58, (AV.tup [])), (59, (AV.tup [])), (60, (AV.tup [])), (61, (AV.tup [])), (62, (AV.tup [])), (63, (AV.tup [])), (64, (AV.sc (.bool false))), (67, (AV.sc (.int .i64 t15))), (68, (AV.sc (.bool (decide (t15 < (0)))))), (69, (AV.sc (.bool false))), (70, (AV.sc (.int .i64 t15))), (71, t2), (72, (AV.sc (.int .i64 z52))), (73, (AV.sc (.bool (t15 == z52)))), (74, (AV.sc (.bool (t15 == z52)))), (75, t11), (76, (AV.sc (.int .i64 t15))), (77, v53), (78, (AV.sc (.int .i64 z55))), (79, (AV.sc (.int .i64 (IntKind.wrap .i64 (z55 + (1)))))), (80, v56), (81, t12), (82, (AV.ptr 100003 0)), (83, (AV.sc (.string s59))), (84, (AV.sc (.string t0))), (85, (AV.ptr 100003 1)), (86, (AV.sc (.int .i64 z61))), (87, t2), (88, (AV.sc (.int .i64 t15))), (89, v62), (90, v63), (91, v64), (92, (AV.sc (.int .i64 z66))), (93, (AV.sc (.int .i64 z68))), (94, v69), (95, v70), (96, v71), (97, (AV.sc (.int .i64 (IntKind.wrap .i64 (t38 + (1))))))], (mpushs (mpushs (mpushs (mpushs (mpushs (mpushs (mpushs (mpushs (mpushs (mpushs (mpushs ((100003, some ⟨[(AV.sc (.string b100003_0)), (AV.sc (.int .i64 b100003_1))], 44⟩) :: m) d57) d58) d60) d62) d63) d64) d65) d67) d69) d70) d71), 200054⟩))))) else (
bif (decide (t15 < (0))) then (
retL R ((100003, some ⟨[(AV.sc (.string b100003_0)), (AV.sc (.int .i64 b100003_1))], 44⟩) :: m) [some AV.nils, some (AV.sc (.int .i64 (18)))]) else (
opP (lenS t2) fun v72 =>
ex_i64 v72 fun z73 =>
bif (t15 == z73) then (
retL R ((100003, some ⟨[(AV.sc (.string b100003_0)), (AV.sc (.int .i64 b100003_1))], 44⟩) :: m) [some AV.nils, some (AV.sc (.int .i64 (18)))]) else (
opP (idxS 1 t11 (AV.sc (.int .i64 t15))) fun v74 =>
opP (ldS (mget ((100003, some ⟨[(AV.sc (.string b100003_0)), (AV.sc (.int .i64 b100003_1))], 44⟩) :: m)) v74) fun v75 =>
ex_i64 v75 fun z76 =>
opP (idxS 1 t11 (AV.sc (.int .i64 t15))) fun v77 =>
storeW Try.prog (mget ((100003, some ⟨[(AV.sc (.string b100003_0)), (AV.sc (.int .i64 b100003_1))], 44⟩) :: m)) 3 v77 (AV.sc (.int .i64 (IntKind.wrap .i64 (z76 + (1))))) fun v78 d78 =>
opM (ldS (look' (mpushs ((100003, some ⟨[(AV.sc (.string b100003_0)), (AV.sc (.int .i64 b100003_1))], 44⟩) :: m) d78) (topId (AV.ptr 100003 0) ++ ([]))) (AV.ptr 100003 0)) fun v79 d79 =>
exStr v79 fun s80 =>
opM (ldS (look' (mpushs (mpushs ((100003, some ⟨[(AV.sc (.string b100003_0)), (AV.sc (.int .i64 b100003_1))], 44⟩) :: m) d78) d79) (topId (AV.ptr 100003 1) ++ ([]))) (AV.ptr 100003 1)) fun v81 d81 =>
ex_i64 v81 fun z82 =>
opM (idxS 3 t2 (AV.sc (.int .i64 t15))) fun v83 d83 =>
opM (fldO 0 v83) fun v84 d84 =>
opM (fldO 0 v84) fun v85 d85 =>
opM (ldS (look' (mpushs (mpushs (mpushs (mpushs (mpushs (mpushs ((100003, some ⟨[(AV.sc (.string b100003_0)), (AV.sc (.int .i64 b100003_1))], 44⟩) :: m) d78) d79) d81) d83) d84) d85) (topId v85 ++ ([]))) v85) fun v86 d86 =>
ex_i64 v86 fun z87 =>
opM (opA Try.prog (.call ⟨.builtin .max, #[.tmp 0, .tmp 1], #[3, 3]⟩) 3 [(AV.sc (.int .i64 z82)), (AV.sc (.int .i64 z87))] (look' (mpushs (mpushs (mpushs (mpushs (mpushs (mpushs (mpushs ((100003, some ⟨[(AV.sc (.string b100003_0)), (AV.sc (.int .i64 b100003_1))], 44⟩) :: m) d78) d79) d81) d83) d84) d85) d86) (topId (AV.sc (.int .i64 z82)) ++ (topId (AV.sc (.int .i64 z87)) ++ ([])))) 200047) fun v88 d88 =>
ex_i64 v88 fun z89 =>
opM (bld [(AV.sc (.string ⟨#[]⟩)), (AV.sc (.string ⟨#[]⟩)), (AV.sc (.int .i64 (0)))] [(0, 1), (1, 1), (2, 1)] [(0, (AV.sc (.string s80))), (1, (AV.sc (.string t0))), (2, (AV.sc (.int .i64 z89)))]) fun v90 d90 =>
opM (bsl 200049 49 3 1 [(AV.sc (.string ⟨#[]⟩)), (AV.sc (.string ⟨#[]⟩)), (AV.sc (.int .i64 (0)))] [(0, v90)]) fun v91 d91 =>
opM (app (look' (mpushs (mpushs (mpushs (mpushs (mpushs (mpushs (mpushs (mpushs (mpushs (mpushs ((100003, some ⟨[(AV.sc (.string b100003_0)), (AV.sc (.int .i64 b100003_1))], 44⟩) :: m) d78) d79) d81) d83) d84) d85) d86) d88) d90) d91) (topId t12 ++ (topId v91 ++ ([])))) 49 3 40 [(AV.sc (.string ⟨#[]⟩)), (AV.sc (.string ⟨#[]⟩)), (AV.sc (.int .i64 (0)))] 200050 t12 v91) fun v92 d92 =>
chk (confOk [0, 0, 2, 0, 0, 16, 0, 0, 192, 448, 960, 1984, 4080, 8190, 16382, 32767, 65535] [⟨[], []⟩, ⟨[], []⟩, ⟨d79, (topId (AV.ptr 100003 0) ++ ([]))⟩, ⟨[], []⟩, ⟨[], []⟩, ⟨d81, (topId (AV.ptr 100003 1) ++ ([]))⟩, ⟨[], []⟩, ⟨[], []⟩, ⟨d83, []⟩, ⟨d84, []⟩, ⟨d85, []⟩, ⟨d86, (topId v85 ++ ([]))⟩, ⟨d88, (topId (AV.sc (.int .i64 z82)) ++ (topId (AV.sc (.int .i64 z87)) ++ ([])))⟩, ⟨d90, []⟩, ⟨d91, []⟩, ⟨d92, (topId t12 ++ (topId v91 ++ ([])))⟩, ⟨[], []⟩]) (N0 ⟨[(0, (AV.sc (.string t0))), (2, t2), (6, t6), (7, (AV.sc (.int .i64 t7))), (11, t11), (12, v92), (14, (AV.ptr 100003 0)), (15, (AV.sc (.int .i64 t15))), (36, t36), (37, (AV.sc (.int .i64 t37))), (38, (AV.sc (.int .i64 (IntKind.wrap .i64 (t38 + (1)))))), (45, (AV.sc (.int .i64 t15))), (46, (AV.sc (.bool (decide (t15 ≥ (0)))))), (47, (AV.sc (.bool false))), (48, (AV.tup [])), (49, (AV.tup [])), (50, (AV.tup [])), (51, (AV.tup [])), (52, (AV.sc (.bool false))), (53, (AV.sc (.bool false))), (54, (AV.tup [])), (55, (AV.tup [])), (56, (AV.tup [])), (57, (AV.tup [])), (58, (AV.tup [])), (59, (AV.tup [])), (60, (AV.tup [])), (61, (AV.tup [])), (62, (AV.tup [])), (63, (AV.tup [])), (64, (AV.sc (.bool false))), (67, (AV.sc (.int .i64 t15))), (68, (AV.sc (.bool (decide (t15 < (0)))))), (69, (AV.sc (.bool false))), (70, (AV.sc (.int .i64 t15))), (71, t2), (72, (AV.sc (.int .i64 z73))), (73, (AV.sc (.bool (t15 == z73)))), (74, (AV.sc (.bool (t15 == z73)))), (75, t11), (76, (AV.sc (.int .i64 t15))), (77, v74), (78, (AV.sc (.int .i64 z76))), (79, (AV.sc (.int .i64 (IntKind.wrap .i64 (z76 + (1)))))), (80, v77), (81, t12), (82, (AV.ptr 100003 0)), (83, (AV.sc (.string s80))), (84, (AV.sc (.string t0))), (85, (AV.ptr 100003 1)), (86, (AV.sc (.int .i64 z82))), (87, t2), (88, (AV.sc (.int .i64 t15))), (89, v83), (90, v84), (91, v85), (92, (AV.sc (.int .i64 z87))), (93, (AV.sc (.int .i64 z89))), (94, v90), (95, v91), (96, v92), (97, (AV.sc (.int .i64 (IntKind.wrap .i64 (t38 + (1))))))], (mpushs (mpushs (mpushs (mpushs (mpushs (mpushs (mpushs (mpushs (mpushs (mpushs (mpushs ((100003, some ⟨[(AV.sc (.string b100003_0)), (AV.sc (.int .i64 b100003_1))], 44⟩) :: m) d78) d79) d81) d83) d84) d85) d86) d88) d90) d91) d92), 200054⟩))))
theorem B19_0_0_eq (t0 : ByteArray) (t2 : AV) (t6 : AV) (t7 : Int) (t11 : AV) (t12 : AV) (t15 : Int) (t36 : AV) (t37 : Int) (t38 : Int) (b100003_0 : ByteArray) (b100003_1 : Int) (m : Mem) (R : AV → Mem → Prop) (N0 : St → Prop) (N1 : St → Prop) : W Try.prog KK 99 0 c19_0_0 (h19_0_0 t0 t2 t6 t7 t11 t12 t15 t36 t37 t38 b100003_0 b100003_1 m) (qq19_0_0 R N0 N1) = B19_0_0 t0 t2 t6 t7 t11 t12 t15 t36 t37 t38 b100003_0 b100003_1 m R N0 N1 := by kernel_rfl
theorem L19_0_0 (R : AV → Mem → Prop) (N0 : St → Prop) {σ : Type} (I : σ → Prop) (t0 : σ → ByteArray) (t2 : σ → AV) (t6 : σ → AV) (t7 : σ → Int) (t11 : σ → AV) (t12 : σ → AV) (t15 : σ → Int) (t36 : σ → AV) (t37 : σ → Int) (t38 : σ → Int) (b100003_0 : σ → ByteArray) (b100003_1 : σ → Int) (m : σ → Mem) (μ : σ → Nat) (step : ∀ x, I x → B19_0_0 (t0 x) (t2 x) (t6 x) (t7 x) (t11 x) (t12 x) (t15 x) (t36 x) (t37 x) (t38 x) (b100003_0 x) (b100003_1 x) (m x) R N0 (fun s' => ∃ y, I y ∧ μ y < μ x ∧ Weak KK 99 0 s' (h19_0_0 (t0 y) (t2 y) (t6 y) (t7 y) (t11 y) (t12 y) (t15 y) (t36 y) (t37 y) (t38 y) (b100003_0 y) (b100003_1 y) (m y)))) (x : σ) (hx : I x) {s : St} (hw : Weak KK 99 0 s (h19_0_0 (t0 x) (t2 x) (t6 x) (t7 x) (t11 x) (t12 x) (t15 x) (t36 x) (t37 x) (t38 x) (b100003_0 x) (b100003_1 x) (m x))) : Tri Try.prog KK 99 0 (.loop c19_0_0) s (q19_0_0 R N0) :=
  Tri.weak hw (Tri.loops fol I (fun x => h19_0_0 (t0 x) (t2 x) (t6 x) (t7 x) (t11 x) (t12 x) (t15 x) (t36 x) (t37 x) (t38 x) (b100003_0 x) (b100003_1 x) (m x)) μ (fun x hx => (B19_0_0_eq (t0 x) (t2 x) (t6 x) (t7 x) (t11 x) (t12 x) (t15 x) (t36 x) (t37 x) (t38 x) (b100003_0 x) (b100003_1 x) (m x) R N0 _).mpr (step x hx)) x hx)
noncomputable def F19 (a0 : ByteArray) (a1 : AV) (a2 : AV) (R : AV → Mem → Prop) : Prop :=
callQ Try.prog KK.gl [] 34 [(AV.sc (.string a0))] fun v0 =>
exB v0 fun b1 =>
bif (!b1) then (
retL R [] [some AV.nils, some (AV.sc (.int .i64 (3)))]) else (
callQ Try.prog KK.gl [] 35 [a1] fun v2 =>
ex_i64 v2 fun z3 =>
bif (z3 != (0)) then (
retL R [] [some AV.nils, some (AV.sc (.int .i64 z3))]) else (
callQ Try.prog KK.gl [] 10 [a2] fun v4 =>
ex_i64 v4 fun z5 =>
bif (z5 != (0)) then (
retL R [] [some AV.nils, some (AV.sc (.int .i64 z5))]) else (
callW Try.prog KK.gl [] 205 21 [a1] fun v6 m6 =>
callW Try.prog KK.gl m6 271 36 [v6, (AV.fn 37 [])] fun v7 m7 =>
exT0 v7 <|
opP (lenS a2) fun v8 =>
ex_i64 v8 fun z9 =>
opN (mks 337 3 1 8 [(AV.sc (.int .i64 (0)))] (AV.sc (.int .i64 z9)) (AV.sc (.int .i64 z9))) m7 fun v10 m10 =>
opP (lenS v6) fun v11 =>
ex_i64 v11 fun z12 =>
Tri Try.prog KK 99 0 (.loop c19_0) ⟨[(0, (AV.sc (.string a0))), (1, a1), (2, a2), (6, AV.nils), (7, (AV.sc (.int .i64 (0)))), (16, (AV.sc (.string a0))), (17, (AV.sc (.bool b1))), (18, (AV.sc (.bool (!b1)))), (19, a1), (20, (AV.sc (.int .i64 z3))), (8, (AV.sc (.int .i64 z3))), (21, (AV.sc (.int .i64 z3))), (22, (AV.sc (.bool (z3 != (0))))), (24, a2), (25, (AV.sc (.int .i64 z5))), (9, (AV.sc (.int .i64 z5))), (26, (AV.sc (.int .i64 z5))), (27, (AV.sc (.bool (z5 != (0))))), (29, a1), (30, v6), (10, v6), (31, v6), (32, (AV.tup [])), (33, a2), (34, (AV.sc (.int .i64 z9))), (35, v10), (11, v10), (12, AV.nils), (36, v6), (37, (AV.sc (.int .i64 z12))), (38, (AV.sc (.int .i64 (0))))], m10, 343⟩ (q19_0 R))))
theorem F19_own (a0 : ByteArray) (a1 : AV) (a2 : AV) (R : AV → Mem → Prop) (h : F19 a0 a1 a2 R) : Own Try.prog KK.gl 19 [(AV.sc (.string a0)), a1, a2] R := own_of_F fol Try.func19 (code := c19) (by kernel_rfl) (by kernel_rfl) (by kernel_rfl) (X := F19 a0 a1 a2 R) (by kernel_rfl) h
/- skyway/skywaykeep3.pick -/
noncomputable def c20 : Code := ((Try.f20).body).getD .skip
noncomputable def q20 (R : AV → Mem → Prop) : AExit → St → Prop := retQ Try.prog Try.f20 R
noncomputable def F20 (a0 : Int) (a1 : Int) (R : AV → Mem → Prop) : Prop :=
opP (opA Try.prog (.convert 3 75 (.tmp 0)) 75 [(AV.sc (.int .i64 a0))] (mget []) 2) fun v0 =>
ex_u64 v0 fun z1 =>
opP (opA Try.prog (.convert 3 75 (.tmp 0)) 75 [(AV.sc (.int .i64 a1))] (mget []) 4) fun v2 =>
ex_u64 v2 fun z3 =>
opP (opA Try.prog (.binOp .rem 75 (.tmp 0) (.tmp 1) 75) 75 [(AV.sc (.int .u64 z1)), (AV.sc (.int .u64 z3))] (mget []) 5) fun v4 =>
ex_u64 v4 fun z5 =>
opP (opA Try.prog (.convert 75 3 (.tmp 0)) 3 [(AV.sc (.int .u64 z5))] (mget []) 6) fun v6 =>
ex_i64 v6 fun z7 =>
retL R [] [some (AV.sc (.int .i64 z7))]
theorem F20_own (a0 : Int) (a1 : Int) (R : AV → Mem → Prop) (h : F20 a0 a1 R) : Own Try.prog KK.gl 20 [(AV.sc (.int .i64 a0)), (AV.sc (.int .i64 a1))] R := own_of_F fol Try.func20 (code := c20) (by kernel_rfl) (by kernel_rfl) (by kernel_rfl) (X := F20 a0 a1 R) (by kernel_rfl) h
/- slices.Equal[[]skyway/api.Slot,skyway/api.Slot] -/
noncomputable def c22 : Code := ((Try.f22).body).getD .skip
noncomputable def q22 (R : AV → Mem → Prop) : AExit → St → Prop := retQ Try.prog Try.f22 R
noncomputable def c22_0 : Code := loopB c22 0
noncomputable def q22_0 (R : AV → Mem → Prop) : AExit → St → Prop := contW Try.prog KK 26 0 c22 0 (q22 R)
noncomputable def qq22_0 (R : AV → Mem → Prop) (N0 : St → Prop) : AExit → St → Prop := thenQ N0 (q22_0 R)
def h22_0 (t0 : AV) (t1 : AV) (t4 : Bool) (t12 : Int) (t13 : Int) (m : Mem) : St := ⟨[(0, t0), (1, t1), (4, (AV.sc (.bool t4))), (12, (AV.sc (.int .i64 t12))), (13, (AV.sc (.int .i64 t13)))], m, 100000⟩
noncomputable def B22_0 (t0 : AV) (t1 : AV) (t4 : Bool) (t12 : Int) (t13 : Int) (m : Mem) (R : AV → Mem → Prop) (N0 : St → Prop) : Prop :=
bif (decide (t13 < t12)) then (
opP (idxS 3 t0 (AV.sc (.int .i64 t13))) fun v6 =>
opP (ldA (mget m) 3 v6) fun v7 =>
exA3 v7 fun c8 c9 c10 =>
exStr c8 fun s11 =>
exStr c9 fun s12 =>
ex_i64 c10 fun z13 =>
opP (idxS 3 t1 (AV.sc (.int .i64 t13))) fun v14 =>
opP (ldA (mget m) 3 v14) fun v15 =>
exA3 v15 fun c16 c17 c18 =>
exStr c16 fun s19 =>
exStr c17 fun s20 =>
ex_i64 c18 fun z21 =>
opP (opA Try.prog (.binOp .neq 49 (.tmp 0) (.tmp 1) 49) 4 [(AV.agg [(AV.sc (.string s11)), (AV.sc (.string s12)), (AV.sc (.int .i64 z13))]), (AV.agg [(AV.sc (.string s19)), (AV.sc (.string s20)), (AV.sc (.int .i64 z21))])] (mget m) 100011) fun v22 =>
exB v22 fun b23 =>
bif b23 then (
retL R m [some (AV.sc (.bool false))]) else (
N0 ⟨[(0, t0), (1, t1), (4, (AV.sc (.bool t4))), (12, (AV.sc (.int .i64 t12))), (13, (AV.sc (.int .i64 (IntKind.wrap .i64 (t13 + (1)))))), (14, (AV.sc (.bool (decide (t13 < t12))))), (15, (AV.sc (.int .i64 t13))), (5, (AV.sc (.int .i64 t13))), (16, t0), (17, (AV.sc (.int .i64 t13))), (18, v6), (19, (AV.agg [(AV.sc (.string s11)), (AV.sc (.string s12)), (AV.sc (.int .i64 z13))])), (20, t1), (21, (AV.sc (.int .i64 t13))), (22, v14), (23, (AV.agg [(AV.sc (.string s19)), (AV.sc (.string s20)), (AV.sc (.int .i64 z21))])), (24, (AV.sc (.bool b23))), (25, (AV.sc (.int .i64 (IntKind.wrap .i64 (t13 + (1))))))], m, 100014⟩)) else (
retL R m [some (AV.sc (.bool true))])
theorem B22_0_eq (t0 : AV) (t1 : AV) (t4 : Bool) (t12 : Int) (t13 : Int) (m : Mem) (R : AV → Mem → Prop) (N0 : St → Prop) : W Try.prog KK 26 0 c22_0 (h22_0 t0 t1 t4 t12 t13 m) (qq22_0 R N0) = B22_0 t0 t1 t4 t12 t13 m R N0 := by kernel_rfl
theorem L22_0 (R : AV → Mem → Prop) {σ : Type} (I : σ → Prop) (t0 : σ → AV) (t1 : σ → AV) (t4 : σ → Bool) (t12 : σ → Int) (t13 : σ → Int) (m : σ → Mem) (μ : σ → Nat) (step : ∀ x, I x → B22_0 (t0 x) (t1 x) (t4 x) (t12 x) (t13 x) (m x) R (fun s' => ∃ y, I y ∧ μ y < μ x ∧ Weak KK 26 0 s' (h22_0 (t0 y) (t1 y) (t4 y) (t12 y) (t13 y) (m y)))) (x : σ) (hx : I x) {s : St} (hw : Weak KK 26 0 s (h22_0 (t0 x) (t1 x) (t4 x) (t12 x) (t13 x) (m x))) : Tri Try.prog KK 26 0 (.loop c22_0) s (q22_0 R) :=
  Tri.weak hw (Tri.loops fol I (fun x => h22_0 (t0 x) (t1 x) (t4 x) (t12 x) (t13 x) (m x)) μ (fun x hx => (B22_0_eq (t0 x) (t1 x) (t4 x) (t12 x) (t13 x) (m x) R _).mpr (step x hx)) x hx)
noncomputable def F22 (a0 : AV) (a1 : AV) (R : AV → Mem → Prop) : Prop :=
opP (lenS a0) fun v0 =>
ex_i64 v0 fun z1 =>
opP (lenS a1) fun v2 =>
ex_i64 v2 fun z3 =>
bif (z1 != z3) then (
retL R [] [some (AV.sc (.bool false))]) else (
opP (lenS a0) fun v4 =>
ex_i64 v4 fun z5 =>
Tri Try.prog KK 26 0 (.loop c22_0) ⟨[(0, a0), (1, a1), (4, (AV.sc (.bool false))), (6, a0), (7, (AV.sc (.int .i64 z1))), (8, a1), (9, (AV.sc (.int .i64 z3))), (10, (AV.sc (.bool (z1 != z3)))), (11, a0), (12, (AV.sc (.int .i64 z5))), (13, (AV.sc (.int .i64 (0))))], [], 9⟩ (q22_0 R))
theorem F22_own (a0 : AV) (a1 : AV) (R : AV → Mem → Prop) (h : F22 a0 a1 R) : Own Try.prog KK.gl 22 [a0, a1] R := own_of_F fol Try.func22 (code := c22) (by kernel_rfl) (by kernel_rfl) (by kernel_rfl) (X := F22 a0 a1 R) (by kernel_rfl) h
/- skyway/skywaykeep3.SlotEarlier -/
noncomputable def c5 : Code := ((Try.f5).body).getD .skip
noncomputable def q5 (R : AV → Mem → Prop) : AExit → St → Prop := retQ Try.prog Try.f5 R
noncomputable def c5_0 : Code := loopB c5 0
noncomputable def q5_0 (R : AV → Mem → Prop) : AExit → St → Prop := contW Try.prog KK 87 0 c5 0 (q5 R)
noncomputable def qq5_0 (R : AV → Mem → Prop) (N0 : St → Prop) : AExit → St → Prop := thenQ N0 (q5_0 R)
def h5_0 (t0 : AV) (t1 : AV) (t2 : Int) (t6 : Bool) (t7 : AV) (t9 : Int) (t30 : AV) (t31 : Int) (t32 : Int) (m : Mem) : St := ⟨[(0, t0), (1, t1), (2, (AV.sc (.int .i64 t2))), (6, (AV.sc (.bool t6))), (7, t7), (9, (AV.sc (.int .i64 t9))), (30, t30), (31, (AV.sc (.int .i64 t31))), (32, (AV.sc (.int .i64 t32)))], m, 100000⟩
noncomputable def B5_0 (t0 : AV) (t1 : AV) (t2 : Int) (t6 : Bool) (t7 : AV) (t9 : Int) (t30 : AV) (t31 : Int) (t32 : Int) (m : Mem) (R : AV → Mem → Prop) (N0 : St → Prop) : Prop :=
bif (decide (t32 < t31)) then (
opP (idxS 2 t30 (AV.sc (.int .i64 t32))) fun v10 =>
opP (ldA (mget m) 2 v10) fun v11 =>
exA2 v11 fun c12 c13 =>
exStr c12 fun s14 =>
ex_i64 c13 fun z15 =>
bif (!(Op.bytesLess (s14).toList ((⟨#[90, 90, 90, 90]⟩ : ByteArray)).toList)) then (
retL R ((100003, some ⟨[(AV.sc (.string s14)), (AV.sc (.int .i64 z15))], 44⟩) :: (100003, some ⟨[(AV.sc (.string ⟨#[]⟩)), (AV.sc (.int .i64 (0)))], 44⟩) :: m) [some (AV.sc (.bool true))]) else (
opP (opA Try.prog (.call ⟨.builtin .max, #[.tmp 0, .tmp 1], #[3, 3]⟩) 3 [(AV.sc (.int .i64 t9)), (AV.sc (.int .i64 z15))] (mget ((100003, some ⟨[(AV.sc (.string s14)), (AV.sc (.int .i64 z15))], 44⟩) :: (100003, some ⟨[(AV.sc (.string ⟨#[]⟩)), (AV.sc (.int .i64 (0)))], 44⟩) :: m)) 100011) fun v16 =>
ex_i64 v16 fun z17 =>
N0 ⟨[(0, t0), (1, t1), (2, (AV.sc (.int .i64 t2))), (6, (AV.sc (.bool t6))), (7, t7), (9, (AV.sc (.int .i64 z17))), (30, t30), (31, (AV.sc (.int .i64 t31))), (32, (AV.sc (.int .i64 (IntKind.wrap .i64 (t32 + (1)))))), (33, (AV.sc (.bool (decide (t32 < t31))))), (34, v10), (35, (AV.agg [(AV.sc (.string s14)), (AV.sc (.int .i64 z15))])), (11, (AV.ptr 100003 0)), (36, (AV.ptr 100003 0)), (37, (AV.sc (.string s14))), (38, (AV.sc (.bool (!(Op.bytesLess (s14).toList ((⟨#[90, 90, 90, 90]⟩ : ByteArray)).toList))))), (39, (AV.sc (.int .i64 t9))), (40, (AV.ptr 100003 1)), (41, (AV.sc (.int .i64 z15))), (42, (AV.sc (.int .i64 z17))), (43, (AV.sc (.int .i64 (IntKind.wrap .i64 (t32 + (1))))))], ((100003, some ⟨[(AV.sc (.string s14)), (AV.sc (.int .i64 z15))], 44⟩) :: (100003, some ⟨[(AV.sc (.string ⟨#[]⟩)), (AV.sc (.int .i64 (0)))], 44⟩) :: m), 100015⟩)) else (
callQ Try.prog KK.gl m 20 [(AV.sc (.int .i64 t2)), (AV.sc (.int .i64 (50)))] fun v18 =>
ex_i64 v18 fun z19 =>
opP (opA Try.prog (.call ⟨.builtin .min, #[.tmp 0, .tmp 1], #[3, 3]⟩) 3 [(AV.sc (.int .i64 (200000))), (AV.sc (.int .i64 (IntKind.wrap .i64 (t9 + z19))))] (mget m) 100068) fun v20 =>
ex_i64 v20 fun z21 =>
callW Try.prog KK.gl m 100071 21 [t0] fun v22 m22 =>
opP (bld [(AV.sc (.string ⟨#[]⟩)), (AV.sc (.int .i64 (0)))] [(0, 1), (1, 1)] [(0, (AV.sc (.string ⟨#[90, 90, 90, 90]⟩))), (1, (AV.sc (.int .i64 z21)))]) fun v23 =>
opN (bsl 100137 44 2 1 [(AV.sc (.string ⟨#[]⟩)), (AV.sc (.int .i64 (0)))] [(0, v23)]) m22 fun v24 m24 =>
opN (app (mget m24) 44 2 24 [(AV.sc (.string ⟨#[]⟩)), (AV.sc (.int .i64 (0)))] 100138 v22 v24) m24 fun v25 m25 =>
callW Try.prog KK.gl m25 100140 19 [(AV.sc (.string ⟨#[82, 87, 89]⟩)), v25, t1] fun v26 m26 =>
exT2 v26 fun c27 c28 =>
ex_i64 c28 fun z29 =>
bif (z29 == (18)) then (
opP (lenS c27) fun v30 =>
ex_i64 v30 fun z31 =>
bif (z31 == (0)) then (
retL R m26 [some (AV.sc (.bool true))]) else (
bif (z29 == (0)) then (
opP (lenS c27) fun v32 =>
ex_i64 v32 fun z33 =>
opP (lenS t7) fun v34 =>
ex_i64 v34 fun z35 =>
bif (z33 == (IntKind.wrap .i64 (z35 + (1)))) then (
opP (lenS t7) fun v36 =>
ex_i64 v36 fun z37 =>
opP (opA Try.prog (.slice 40 (.tmp 0) none (some (.tmp 1)) none) 40 [c27, (AV.sc (.int .i64 z37))] (mget m26) 100231) fun v38 =>
callQ Try.prog KK.gl m26 22 [v38, t7] fun v39 =>
exB v39 fun b40 =>
retL R m26 [some (AV.sc (.bool b40))]) else (
retL R m26 [some (AV.sc (.bool false))])) else (
retL R m26 [some (AV.sc (.bool false))]))) else (
bif (z29 == (0)) then (
opP (lenS c27) fun v41 =>
ex_i64 v41 fun z42 =>
opP (lenS t7) fun v43 =>
ex_i64 v43 fun z44 =>
bif (z42 == (IntKind.wrap .i64 (z44 + (1)))) then (
opP (lenS t7) fun v45 =>
ex_i64 v45 fun z46 =>
opP (opA Try.prog (.slice 40 (.tmp 0) none (some (.tmp 1)) none) 40 [c27, (AV.sc (.int .i64 z46))] (mget m26) 100228) fun v47 =>
callQ Try.prog KK.gl m26 22 [v47, t7] fun v48 =>
exB v48 fun b49 =>
retL R m26 [some (AV.sc (.bool b49))]) else (
retL R m26 [some (AV.sc (.bool false))])) else (
retL R m26 [some (AV.sc (.bool false))])))
theorem B5_0_eq (t0 : AV) (t1 : AV) (t2 : Int) (t6 : Bool) (t7 : AV) (t9 : Int) (t30 : AV) (t31 : Int) (t32 : Int) (m : Mem) (R : AV → Mem → Prop) (N0 : St → Prop) : W Try.prog KK 87 0 c5_0 (h5_0 t0 t1 t2 t6 t7 t9 t30 t31 t32 m) (qq5_0 R N0) = B5_0 t0 t1 t2 t6 t7 t9 t30 t31 t32 m R N0 := by kernel_rfl
theorem L5_0 (R : AV → Mem → Prop) {σ : Type} (I : σ → Prop) (t0 : σ → AV) (t1 : σ → AV) (t2 : σ → Int) (t6 : σ → Bool) (t7 : σ → AV) (t9 : σ → Int) (t30 : σ → AV) (t31 : σ → Int) (t32 : σ → Int) (m : σ → Mem) (μ : σ → Nat) (step : ∀ x, I x → B5_0 (t0 x) (t1 x) (t2 x) (t6 x) (t7 x) (t9 x) (t30 x) (t31 x) (t32 x) (m x) R (fun s' => ∃ y, I y ∧ μ y < μ x ∧ Weak KK 87 0 s' (h5_0 (t0 y) (t1 y) (t2 y) (t6 y) (t7 y) (t9 y) (t30 y) (t31 y) (t32 y) (m y)))) (x : σ) (hx : I x) {s : St} (hw : Weak KK 87 0 s (h5_0 (t0 x) (t1 x) (t2 x) (t6 x) (t7 x) (t9 x) (t30 x) (t31 x) (t32 x) (m x))) : Tri Try.prog KK 87 0 (.loop c5_0) s (q5_0 R) :=
  Tri.weak hw (Tri.loops fol I (fun x => h5_0 (t0 x) (t1 x) (t2 x) (t6 x) (t7 x) (t9 x) (t30 x) (t31 x) (t32 x) (m x)) μ (fun x hx => (B5_0_eq (t0 x) (t1 x) (t2 x) (t6 x) (t7 x) (t9 x) (t30 x) (t31 x) (t32 x) (m x) R _).mpr (step x hx)) x hx)
noncomputable def F5 (a0 : AV) (a1 : AV) (a2 : Int) (R : AV → Mem → Prop) : Prop :=
callQ Try.prog KK.gl [] 18 [] fun v0 =>
exB v0 fun b1 =>
bif (!b1) then (
retL R [] [some (AV.sc (.bool false))]) else (
callW Try.prog KK.gl [] 68 19 [(AV.sc (.string ⟨#[82, 87, 89]⟩)), a0, a1] fun v2 m2 =>
exT2 v2 fun c3 c4 =>
ex_i64 c4 fun z5 =>
bif (z5 != (0)) then (
retL R m2 [some (AV.sc (.bool true))]) else (
opP (lenS a0) fun v6 =>
ex_i64 v6 fun z7 =>
bif (decide (z7 ≥ (24))) then (
retL R m2 [some (AV.sc (.bool true))]) else (
opP (lenS a0) fun v8 =>
ex_i64 v8 fun z9 =>
Tri Try.prog KK 87 0 (.loop c5_0) ⟨[(0, a0), (1, a1), (2, (AV.sc (.int .i64 a2))), (6, (AV.sc (.bool false))), (15, (AV.sc (.bool b1))), (16, (AV.sc (.bool (!b1)))), (18, a0), (19, a1), (20, (AV.tup [c3, (AV.sc (.int .i64 z5))])), (17, (AV.tup [c3, (AV.sc (.int .i64 z5))])), (21, c3), (22, (AV.sc (.int .i64 z5))), (7, c3), (8, (AV.sc (.int .i64 z5))), (23, (AV.sc (.int .i64 z5))), (24, (AV.sc (.bool (z5 != (0))))), (25, (AV.sc (.bool false))), (26, a0), (27, (AV.sc (.int .i64 z7))), (28, (AV.sc (.bool (decide (z7 ≥ (24)))))), (29, (AV.sc (.bool (decide (z7 ≥ (24)))))), (9, (AV.sc (.int .i64 (0)))), (30, a0), (31, (AV.sc (.int .i64 z9))), (32, (AV.sc (.int .i64 (0))))], m2, 148⟩ (q5_0 R))))
theorem F5_own (a0 : AV) (a1 : AV) (a2 : Int) (R : AV → Mem → Prop) (h : F5 a0 a1 a2 R) : Own Try.prog KK.gl 5 [a0, a1, (AV.sc (.int .i64 a2))] R := own_of_F fol Try.func5 (code := c5) (by kernel_rfl) (by kernel_rfl) (by kernel_rfl) (X := F5 a0 a1 a2 R) (by kernel_rfl) h
/- skyway/slot.Release$1 -/
noncomputable def c43 : Code := ((Try.f43).body).getD .skip
noncomputable def q43 (R : AV → Mem → Prop) : AExit → St → Prop := retQ Try.prog Try.f43 R
noncomputable def F43 (a0_0 : ByteArray) (a0_1 : Int) (a1 : AV) (R : AV → Mem → Prop) : Prop :=
opP (ldS (mget ((0, some ⟨[(AV.sc (.string a0_0)), (AV.sc (.int .i64 a0_1))], 44⟩) :: [])) a1) fun v0 =>
exStr v0 fun s1 =>
retL R ((0, some ⟨[(AV.sc (.string a0_0)), (AV.sc (.int .i64 a0_1))], 44⟩) :: []) [some (AV.sc (.bool ((a0_0).toList == (s1).toList)))]
theorem F43_own (a0_0 : ByteArray) (a0_1 : Int) (a1 : AV) (R : AV → Mem → Prop) (h : F43 a0_0 a0_1 a1 R) : Own Try.prog KK.gl 43 [(AV.agg [(AV.sc (.string a0_0)), (AV.sc (.int .i64 a0_1))]), a1] R := own_of_F fol Try.func43 (code := c43) (by kernel_rfl) (by kernel_rfl) (by kernel_rfl) (X := F43 a0_0 a0_1 a1 R) (by kernel_rfl) h
/- skyway/slot.Release -/
noncomputable def c23 : Code := ((Try.f23).body).getD .skip
noncomputable def q23 (R : AV → Mem → Prop) : AExit → St → Prop := retQ Try.prog Try.f23 R
noncomputable def F23 (a0 : ByteArray) (a1 : ByteArray) (a2 : AV) (a3 : AV) (R : AV → Mem → Prop) : Prop :=
callW Try.prog KK.gl ((0, some ⟨[(AV.sc (.string a1))], 9⟩) :: []) 6 19 [(AV.sc (.string a0)), a2, a3] fun v0 m0 =>
exT2 v0 fun c1 c2 =>
ex_i64 c2 fun z3 =>
bif (z3 != (0)) then (
retL R m0 [some AV.nils, some (AV.sc (.int .i64 z3))]) else (
callW Try.prog KK.gl m0 78 21 [a2] fun v4 m4 =>
callW Try.prog KK.gl m4 143 42 [v4, (AV.fn 43 [(AV.ptr 0 0)])] fun v5 m5 =>
opP (lenS v5) fun v6 =>
ex_i64 v6 fun z7 =>
opP (lenS a2) fun v8 =>
ex_i64 v8 fun z9 =>
bif (z7 == z9) then (
retL R m5 [some AV.nils, some (AV.sc (.int .i64 (8)))]) else (
callW Try.prog KK.gl m5 216 19 [(AV.sc (.string a0)), v5, a3] fun v10 m10 =>
exT2 v10 fun c11 c12 =>
ex_i64 c12 fun z13 =>
retL R m10 [some c11, some (AV.sc (.int .i64 z13))]))
theorem F23_own (a0 : ByteArray) (a1 : ByteArray) (a2 : AV) (a3 : AV) (R : AV → Mem → Prop) (h : F23 a0 a1 a2 a3 R) : Own Try.prog KK.gl 23 [(AV.sc (.string a0)), (AV.sc (.string a1)), a2, a3] R := own_of_F fol Try.func23 (code := c23) (by kernel_rfl) (by kernel_rfl) (by kernel_rfl) (X := F23 a0 a1 a2 a3 R) (by kernel_rfl) h
/- skyway/skywaykeep3.SlotImproves$1 -/
noncomputable def c25 : Code := ((Try.f25).body).getD .skip
noncomputable def q25 (R : AV → Mem → Prop) : AExit → St → Prop := retQ Try.prog Try.f25 R
noncomputable def F25 (a0_0 : ByteArray) (a0_1 : ByteArray) (a0_2 : Int) (a1 : AV) (R : AV → Mem → Prop) : Prop :=
opP (fldO 0 a1) fun v0 =>
opP (ldS (mget ((0, some ⟨[(AV.sc (.string a0_0)), (AV.sc (.string a0_1)), (AV.sc (.int .i64 a0_2))], 49⟩) :: [])) v0) fun v1 =>
exStr v1 fun s2 =>
retL R ((0, some ⟨[(AV.sc (.string a0_0)), (AV.sc (.string a0_1)), (AV.sc (.int .i64 a0_2))], 49⟩) :: []) [some (AV.sc (.bool ((a0_0).toList == (s2).toList)))]
theorem F25_own (a0_0 : ByteArray) (a0_1 : ByteArray) (a0_2 : Int) (a1 : AV) (R : AV → Mem → Prop) (h : F25 a0_0 a0_1 a0_2 a1 R) : Own Try.prog KK.gl 25 [(AV.agg [(AV.sc (.string a0_0)), (AV.sc (.string a0_1)), (AV.sc (.int .i64 a0_2))]), a1] R := own_of_F fol Try.func25 (code := c25) (by kernel_rfl) (by kernel_rfl) (by kernel_rfl) (X := F25 a0_0 a0_1 a0_2 a1 R) (by kernel_rfl) h
/- slices.IndexFunc[[]skyway/api.Slot,skyway/api.Slot] -/
noncomputable def c24 : Code := ((Try.f24).body).getD .skip
noncomputable def q24 (R : AV → Mem → Prop) : AExit → St → Prop := retQ Try.prog Try.f24 R
noncomputable def c24_0 : Code := loopB c24 0
noncomputable def q24_0 (R : AV → Mem → Prop) : AExit → St → Prop := contW Try.prog KK 19 0 c24 0 (q24 R)
noncomputable def qq24_0 (R : AV → Mem → Prop) (N0 : St → Prop) : AExit → St → Prop := thenQ N0 (q24_0 R)
def h24_0 (t0 : AV) (t1 : AV) (t4 : Int) (t7 : Int) (t8 : Int) (m : Mem) : St := ⟨[(0, t0), (1, t1), (4, (AV.sc (.int .i64 t4))), (7, (AV.sc (.int .i64 t7))), (8, (AV.sc (.int .i64 t8)))], m, 100000⟩
noncomputable def B24_0 (t0 : AV) (t1 : AV) (t4 : Int) (t7 : Int) (t8 : Int) (m : Mem) (R : AV → Mem → Prop) (N0 : St → Prop) : Prop :=
bif (decide (t8 < t7)) then (
opP (idxS 3 t0 (AV.sc (.int .i64 t8))) fun v2 =>
opP (ldA (mget m) 3 v2) fun v3 =>
exA3 v3 fun c4 c5 c6 =>
exStr c4 fun s7 =>
exStr c5 fun s8 =>
ex_i64 c6 fun z9 =>
fnArgs (some t1) (some [(AV.agg [(AV.sc (.string s7)), (AV.sc (.string s8)), (AV.sc (.int .i64 z9))])]) fun f10 a10 => bif KK.pm f10 then callQ Try.prog KK.gl m f10 a10 (fun v10 =>
exB v10 fun b11 =>
bif b11 then (
retL R m [some (AV.sc (.int .i64 t8))]) else (
N0 ⟨[(0, t0), (1, t1), (4, (AV.sc (.int .i64 t4))), (7, (AV.sc (.int .i64 t7))), (8, (AV.sc (.int .i64 (IntKind.wrap .i64 (t8 + (1)))))), (9, (AV.sc (.bool (decide (t8 < t7))))), (10, (AV.sc (.int .i64 t8))), (5, (AV.sc (.int .i64 t8))), (11, t1), (12, t0), (13, (AV.sc (.int .i64 t8))), (14, v2), (15, (AV.agg [(AV.sc (.string s7)), (AV.sc (.string s8)), (AV.sc (.int .i64 z9))])), (16, (AV.sc (.bool b11))), (18, (AV.sc (.int .i64 (IntKind.wrap .i64 (t8 + (1))))))], m, 100074⟩)) else callW Try.prog KK.gl m 100008 f10 a10 fun v10 m10 =>
exB v10 fun b11 =>
bif b11 then (
retL R m10 [some (AV.sc (.int .i64 t8))]) else (
N0 ⟨[(0, t0), (1, t1), (4, (AV.sc (.int .i64 t4))), (7, (AV.sc (.int .i64 t7))), (8, (AV.sc (.int .i64 (IntKind.wrap .i64 (t8 + (1)))))), (9, (AV.sc (.bool (decide (t8 < t7))))), (10, (AV.sc (.int .i64 t8))), (5, (AV.sc (.int .i64 t8))), (11, t1), (12, t0), (13, (AV.sc (.int .i64 t8))), (14, v2), (15, (AV.agg [(AV.sc (.string s7)), (AV.sc (.string s8)), (AV.sc (.int .i64 z9))])), (16, (AV.sc (.bool b11))), (18, (AV.sc (.int .i64 (IntKind.wrap .i64 (t8 + (1))))))], m10, 100074⟩)) else (
retL R m [some (AV.sc (.int .i64 (-1)))])
theorem B24_0_eq (t0 : AV) (t1 : AV) (t4 : Int) (t7 : Int) (t8 : Int) (m : Mem) (R : AV → Mem → Prop) (N0 : St → Prop) : W Try.prog KK 19 0 c24_0 (h24_0 t0 t1 t4 t7 t8 m) (qq24_0 R N0) = B24_0 t0 t1 t4 t7 t8 m R N0 := by kernel_rfl
theorem L24_0 (R : AV → Mem → Prop) {σ : Type} (I : σ → Prop) (t0 : σ → AV) (t1 : σ → AV) (t4 : σ → Int) (t7 : σ → Int) (t8 : σ → Int) (m : σ → Mem) (μ : σ → Nat) (step : ∀ x, I x → B24_0 (t0 x) (t1 x) (t4 x) (t7 x) (t8 x) (m x) R (fun s' => ∃ y, I y ∧ μ y < μ x ∧ Weak KK 19 0 s' (h24_0 (t0 y) (t1 y) (t4 y) (t7 y) (t8 y) (m y)))) (x : σ) (hx : I x) {s : St} (hw : Weak KK 19 0 s (h24_0 (t0 x) (t1 x) (t4 x) (t7 x) (t8 x) (m x))) : Tri Try.prog KK 19 0 (.loop c24_0) s (q24_0 R) :=
  Tri.weak hw (Tri.loops fol I (fun x => h24_0 (t0 x) (t1 x) (t4 x) (t7 x) (t8 x) (m x)) μ (fun x hx => (B24_0_eq (t0 x) (t1 x) (t4 x) (t7 x) (t8 x) (m x) R _).mpr (step x hx)) x hx)
noncomputable def F24 (a0 : AV) (a1 : AV) (R : AV → Mem → Prop) : Prop :=
opP (lenS a0) fun v0 =>
ex_i64 v0 fun z1 =>
Tri Try.prog KK 19 0 (.loop c24_0) ⟨[(0, a0), (1, a1), (4, (AV.sc (.int .i64 (0)))), (6, a0), (7, (AV.sc (.int .i64 z1))), (8, (AV.sc (.int .i64 (0))))], [], 4⟩ (q24_0 R)
theorem F24_own (a0 : AV) (a1 : AV) (R : AV → Mem → Prop) (h : F24 a0 a1 R) : Own Try.prog KK.gl 24 [a0, a1] R := own_of_F fol Try.func24 (code := c24) (by kernel_rfl) (by kernel_rfl) (by kernel_rfl) (X := F24 a0 a1 R) (by kernel_rfl) h
/- skyway/skywaykeep3.SlotImproves -/
noncomputable def c6 : Code := ((Try.f6).body).getD .skip
noncomputable def q6 (R : AV → Mem → Prop) : AExit → St → Prop := retQ Try.prog Try.f6 R
noncomputable def c6_0 : Code := loopB c6 0
noncomputable def q6_0 (R : AV → Mem → Prop) : AExit → St → Prop := contW Try.prog KK 85 0 c6 0 (q6 R)
noncomputable def qq6_0 (R : AV → Mem → Prop) (N0 : St → Prop) : AExit → St → Prop := thenQ N0 (q6_0 R)
def h6_0 (t6 : Bool) (t7 : AV) (t9 : ByteArray) (t57 : AV) (t58 : Int) (t59 : Int) (m : Mem) : St := ⟨[(6, (AV.sc (.bool t6))), (7, t7), (9, (AV.sc (.string t9))), (57, t57), (58, (AV.sc (.int .i64 t58))), (59, (AV.sc (.int .i64 t59)))], m, 100000⟩
noncomputable def B6_0 (t6 : Bool) (t7 : AV) (t9 : ByteArray) (t57 : AV) (t58 : Int) (t59 : Int) (m : Mem) (R : AV → Mem → Prop) (N0 : St → Prop) : Prop :=
bif (decide (t59 < t58)) then (
opP (idxS 3 t57 (AV.sc (.int .i64 t59))) fun v30 =>
opP (ldA (mget m) 3 v30) fun v31 =>
exA3 v31 fun c32 c33 c34 =>
exStr c32 fun s35 =>
exStr c33 fun s36 =>
ex_i64 c34 fun z37 =>
callQ Try.prog KK.gl ((100003, some ⟨[(AV.sc (.string s35)), (AV.sc (.string s36)), (AV.sc (.int .i64 z37))], 49⟩) :: (100003, some ⟨[(AV.sc (.string ⟨#[]⟩)), (AV.sc (.string ⟨#[]⟩)), (AV.sc (.int .i64 (0)))], 49⟩) :: m) 24 [t7, (AV.fn 25 [(AV.ptr 100003 0)])] fun v38 =>
ex_i64 v38 fun z39 =>
bif (decide (z39 < (0))) then (
retL R ((100003, some ⟨[(AV.sc (.string s35)), (AV.sc (.string s36)), (AV.sc (.int .i64 z37))], 49⟩) :: (100003, some ⟨[(AV.sc (.string ⟨#[]⟩)), (AV.sc (.string ⟨#[]⟩)), (AV.sc (.int .i64 (0)))], 49⟩) :: m) [some (AV.sc (.bool false))]) else (
bif ((s35).toList == (t9).toList) then (
retL R ((100003, some ⟨[(AV.sc (.string s35)), (AV.sc (.string s36)), (AV.sc (.int .i64 z37))], 49⟩) :: (100003, some ⟨[(AV.sc (.string ⟨#[]⟩)), (AV.sc (.string ⟨#[]⟩)), (AV.sc (.int .i64 (0)))], 49⟩) :: m) [some (AV.sc (.bool false))]) else (
opP (idxS 3 t7 (AV.sc (.int .i64 z39))) fun v40 =>
opP (fldO 2 v40) fun v41 =>
opP (ldS (mget ((100003, some ⟨[(AV.sc (.string s35)), (AV.sc (.string s36)), (AV.sc (.int .i64 z37))], 49⟩) :: (100003, some ⟨[(AV.sc (.string ⟨#[]⟩)), (AV.sc (.string ⟨#[]⟩)), (AV.sc (.int .i64 (0)))], 49⟩) :: m)) v41) fun v42 =>
ex_i64 v42 fun z43 =>
bif (decide (z37 > z43)) then (
retL R ((100003, some ⟨[(AV.sc (.string s35)), (AV.sc (.string s36)), (AV.sc (.int .i64 z37))], 49⟩) :: (100003, some ⟨[(AV.sc (.string ⟨#[]⟩)), (AV.sc (.string ⟨#[]⟩)), (AV.sc (.int .i64 (0)))], 49⟩) :: m) [some (AV.sc (.bool false))]) else (
N0 ⟨[(6, (AV.sc (.bool t6))), (7, t7), (9, (AV.sc (.string t9))), (57, t57), (58, (AV.sc (.int .i64 t58))), (59, (AV.sc (.int .i64 (IntKind.wrap .i64 (t59 + (1)))))), (60, (AV.sc (.bool (decide (t59 < t58))))), (61, v30), (62, (AV.agg [(AV.sc (.string s35)), (AV.sc (.string s36)), (AV.sc (.int .i64 z37))])), (12, (AV.ptr 100003 0)), (63, t7), (64, (AV.fn 25 [(AV.ptr 100003 0)])), (65, (AV.sc (.int .i64 z39))), (13, (AV.sc (.int .i64 z39))), (66, (AV.sc (.int .i64 z39))), (67, (AV.sc (.bool (decide (z39 < (0)))))), (68, (AV.sc (.bool false))), (69, (AV.ptr 100003 0)), (70, (AV.sc (.string s35))), (71, (AV.sc (.string t9))), (72, (AV.sc (.bool ((s35).toList == (t9).toList)))), (73, (AV.sc (.bool ((s35).toList == (t9).toList)))), (74, (AV.sc (.bool false))), (75, (AV.ptr 100003 2)), (76, (AV.sc (.int .i64 z37))), (77, t7), (78, (AV.sc (.int .i64 z39))), (79, v40), (80, v41), (81, (AV.sc (.int .i64 z43))), (82, (AV.sc (.bool (decide (z37 > z43))))), (83, (AV.sc (.bool (decide (z37 > z43))))), (84, (AV.sc (.int .i64 (IntKind.wrap .i64 (t59 + (1))))))], ((100003, some ⟨[(AV.sc (.string s35)), (AV.sc (.string s36)), (AV.sc (.int .i64 z37))], 49⟩) :: (100003, some ⟨[(AV.sc (.string ⟨#[]⟩)), (AV.sc (.string ⟨#[]⟩)), (AV.sc (.int .i64 (0)))], 49⟩) :: m), 100092⟩)))) else (
retL R m [some (AV.sc (.bool true))])
theorem B6_0_eq (t6 : Bool) (t7 : AV) (t9 : ByteArray) (t57 : AV) (t58 : Int) (t59 : Int) (m : Mem) (R : AV → Mem → Prop) (N0 : St → Prop) : W Try.prog KK 85 0 c6_0 (h6_0 t6 t7 t9 t57 t58 t59 m) (qq6_0 R N0) = B6_0 t6 t7 t9 t57 t58 t59 m R N0 := by kernel_rfl
theorem L6_0 (R : AV → Mem → Prop) {σ : Type} (I : σ → Prop) (t6 : σ → Bool) (t7 : σ → AV) (t9 : σ → ByteArray) (t57 : σ → AV) (t58 : σ → Int) (t59 : σ → Int) (m : σ → Mem) (μ : σ → Nat) (step : ∀ x, I x → B6_0 (t6 x) (t7 x) (t9 x) (t57 x) (t58 x) (t59 x) (m x) R (fun s' => ∃ y, I y ∧ μ y < μ x ∧ Weak KK 85 0 s' (h6_0 (t6 y) (t7 y) (t9 y) (t57 y) (t58 y) (t59 y) (m y)))) (x : σ) (hx : I x) {s : St} (hw : Weak KK 85 0 s (h6_0 (t6 x) (t7 x) (t9 x) (t57 x) (t58 x) (t59 x) (m x))) : Tri Try.prog KK 85 0 (.loop c6_0) s (q6_0 R) :=
  Tri.weak hw (Tri.loops fol I (fun x => h6_0 (t6 x) (t7 x) (t9 x) (t57 x) (t58 x) (t59 x) (m x)) μ (fun x hx => (B6_0_eq (t6 x) (t7 x) (t9 x) (t57 x) (t58 x) (t59 x) (m x) R _).mpr (step x hx)) x hx)
noncomputable def F6 (a0 : AV) (a1 : AV) (a2 : Int) (R : AV → Mem → Prop) : Prop :=
callQ Try.prog KK.gl [] 18 [] fun v0 =>
exB v0 fun b1 =>
bif (!b1) then (
retL R [] [some (AV.sc (.bool false))]) else (
callW Try.prog KK.gl [] 68 19 [(AV.sc (.string ⟨#[82, 87, 89]⟩)), a0, a1] fun v2 m2 =>
exT2 v2 fun c3 c4 =>
ex_i64 c4 fun z5 =>
bif (z5 != (0)) then (
opP (lenS c3) fun v6 =>
ex_i64 v6 fun z7 =>
retL R m2 [some (AV.sc (.bool (z7 == (0))))]) else (
opP (lenS a0) fun v8 =>
ex_i64 v8 fun z9 =>
bif (z9 == (0)) then (
opP (lenS c3) fun v10 =>
ex_i64 v10 fun z11 =>
retL R m2 [some (AV.sc (.bool (z11 == (0))))]) else (
opP (lenS a0) fun v12 =>
ex_i64 v12 fun z13 =>
callQ Try.prog KK.gl m2 20 [(AV.sc (.int .i64 a2)), (AV.sc (.int .i64 z13))] fun v14 =>
ex_i64 v14 fun z15 =>
opP (idxS 2 a0 (AV.sc (.int .i64 z15))) fun v16 =>
opP (fldO 0 v16) fun v17 =>
opP (ldS (mget m2) v17) fun v18 =>
exStr v18 fun s19 =>
callW Try.prog KK.gl m2 219 23 [(AV.sc (.string ⟨#[82, 87, 89]⟩)), (AV.sc (.string s19)), a0, a1] fun v20 m20 =>
exT2 v20 fun c21 c22 =>
ex_i64 c22 fun z23 =>
bif (z23 != (0)) then (
retL R m20 [some (AV.sc (.bool false))]) else (
opP (lenS c21) fun v24 =>
ex_i64 v24 fun z25 =>
opP (lenS a0) fun v26 =>
ex_i64 v26 fun z27 =>
bif (z25 != (IntKind.wrap .i64 (z27 - (1)))) then (
retL R m20 [some (AV.sc (.bool false))]) else (
opP (lenS c21) fun v28 =>
ex_i64 v28 fun z29 =>
Tri Try.prog KK 85 0 (.loop c6_0) ⟨[(0, a0), (1, a1), (2, (AV.sc (.int .i64 a2))), (6, (AV.sc (.bool false))), (14, (AV.sc (.bool b1))), (15, (AV.sc (.bool (!b1)))), (17, a0), (18, a1), (19, (AV.tup [c3, (AV.sc (.int .i64 z5))])), (16, (AV.tup [c3, (AV.sc (.int .i64 z5))])), (20, c3), (21, (AV.sc (.int .i64 z5))), (7, c3), (8, (AV.sc (.int .i64 z23))), (22, (AV.sc (.int .i64 z5))), (23, (AV.sc (.bool (z5 != (0))))), (24, (AV.sc (.bool false))), (25, a0), (26, (AV.sc (.int .i64 z9))), (27, (AV.sc (.bool (z9 == (0))))), (28, (AV.sc (.bool (z9 == (0))))), (32, a0), (33, (AV.sc (.int .i64 a2))), (34, a0), (35, (AV.sc (.int .i64 z13))), (36, (AV.sc (.int .i64 z15))), (37, v16), (38, v17), (39, (AV.sc (.string s19))), (9, (AV.sc (.string s19))), (41, (AV.sc (.string s19))), (42, a0), (43, a1), (44, (AV.tup [c21, (AV.sc (.int .i64 z23))])), (40, (AV.tup [c21, (AV.sc (.int .i64 z23))])), (45, c21), (46, (AV.sc (.int .i64 z23))), (10, c21), (47, (AV.sc (.int .i64 z23))), (48, (AV.sc (.bool (z23 != (0))))), (49, (AV.sc (.bool false))), (50, c21), (51, (AV.sc (.int .i64 z25))), (52, a0), (53, (AV.sc (.int .i64 z27))), (54, (AV.sc (.int .i64 (IntKind.wrap .i64 (z27 - (1)))))), (55, (AV.sc (.bool (z25 != (IntKind.wrap .i64 (z27 - (1))))))), (56, (AV.sc (.bool (z25 != (IntKind.wrap .i64 (z27 - (1))))))), (57, c21), (58, (AV.sc (.int .i64 z29))), (59, (AV.sc (.int .i64 (0))))], m20, 301⟩ (q6_0 R))))))
theorem F6_own (a0 : AV) (a1 : AV) (a2 : Int) (R : AV → Mem → Prop) (h : F6 a0 a1 a2 R) : Own Try.prog KK.gl 6 [a0, a1, (AV.sc (.int .i64 a2))] R := own_of_F fol Try.func6 (code := c6) (by kernel_rfl) (by kernel_rfl) (by kernel_rfl) (X := F6 a0 a1 a2 R) (by kernel_rfl) h
/- skyway/slot.index$1 -/
noncomputable def c55 : Code := ((Try.f55).body).getD .skip
noncomputable def q55 (R : AV → Mem → Prop) : AExit → St → Prop := retQ Try.prog Try.f55 R
noncomputable def F55 (a0_0 : ByteArray) (a0_1 : ByteArray) (a0_2 : Int) (a1 : AV) (R : AV → Mem → Prop) : Prop :=
opP (ldS (mget ((0, some ⟨[(AV.sc (.string a0_0)), (AV.sc (.string a0_1)), (AV.sc (.int .i64 a0_2))], 49⟩) :: [])) a1) fun v0 =>
exStr v0 fun s1 =>
retL R ((0, some ⟨[(AV.sc (.string a0_0)), (AV.sc (.string a0_1)), (AV.sc (.int .i64 a0_2))], 49⟩) :: []) [some (AV.sc (.bool ((a0_0).toList == (s1).toList)))]
theorem F55_own (a0_0 : ByteArray) (a0_1 : ByteArray) (a0_2 : Int) (a1 : AV) (R : AV → Mem → Prop) (h : F55 a0_0 a0_1 a0_2 a1 R) : Own Try.prog KK.gl 55 [(AV.agg [(AV.sc (.string a0_0)), (AV.sc (.string a0_1)), (AV.sc (.int .i64 a0_2))]), a1] R := own_of_F fol Try.func55 (code := c55) (by kernel_rfl) (by kernel_rfl) (by kernel_rfl) (X := F55 a0_0 a0_1 a0_2 a1 R) (by kernel_rfl) h
/- skyway/slot.index -/
noncomputable def c44 : Code := ((Try.f44).body).getD .skip
noncomputable def q44 (R : AV → Mem → Prop) : AExit → St → Prop := retQ Try.prog Try.f44 R
noncomputable def F44 (a0 : AV) (a1 : ByteArray) (R : AV → Mem → Prop) : Prop :=
callQ Try.prog KK.gl ((0, some ⟨[(AV.sc (.string a1))], 9⟩) :: []) 24 [a0, (AV.fn 55 [(AV.ptr 0 0)])] fun v0 =>
ex_i64 v0 fun z1 =>
retL R ((0, some ⟨[(AV.sc (.string a1))], 9⟩) :: []) [some (AV.sc (.int .i64 z1))]
theorem F44_own (a0 : AV) (a1 : ByteArray) (R : AV → Mem → Prop) (h : F44 a0 a1 R) : Own Try.prog KK.gl 44 [a0, (AV.sc (.string a1))] R := own_of_F fol Try.func44 (code := c44) (by kernel_rfl) (by kernel_rfl) (by kernel_rfl) (X := F44 a0 a1 R) (by kernel_rfl) h
/- skyway/slot.Delays -/
noncomputable def c27 : Code := ((Try.f27).body).getD .skip
noncomputable def q27 (R : AV → Mem → Prop) : AExit → St → Prop := retQ Try.prog Try.f27 R
noncomputable def c27_0 : Code := loopB c27 0
noncomputable def q27_0 (R : AV → Mem → Prop) : AExit → St → Prop := contW Try.prog KK 62 0 c27 0 (q27 R)
noncomputable def qq27_0 (R : AV → Mem → Prop) (N0 : St → Prop) : AExit → St → Prop := thenQ N0 (q27_0 R)
def h27_0 (t1 : AV) (t4 : AV) (t5 : Int) (t7 : AV) (t19 : AV) (t20 : Int) (t21 : Int) (m : Mem) : St := ⟨[(1, t1), (4, t4), (5, (AV.sc (.int .i64 t5))), (7, t7), (19, t19), (20, (AV.sc (.int .i64 t20))), (21, (AV.sc (.int .i64 t21)))], m, 100000⟩
noncomputable def B27_0 (t1 : AV) (t4 : AV) (t5 : Int) (t7 : AV) (t19 : AV) (t20 : Int) (t21 : Int) (m : Mem) (R : AV → Mem → Prop) (N0 : St → Prop) : Prop :=
bif (decide (t21 < t20)) then (
opP (idxS 2 t19 (AV.sc (.int .i64 t21))) fun v6 =>
opP (ldA (mget m) 2 v6) fun v7 =>
exA2 v7 fun c8 c9 =>
exStr c8 fun s10 =>
ex_i64 c9 fun z11 =>
callQ Try.prog KK.gl ((100003, some ⟨[(AV.sc (.string s10)), (AV.sc (.int .i64 z11))], 44⟩) :: (100003, some ⟨[(AV.sc (.string ⟨#[]⟩)), (AV.sc (.int .i64 (0)))], 44⟩) :: m) 44 [t1, (AV.sc (.string s10))] fun v12 =>
ex_i64 v12 fun z13 =>
bif (decide (z13 < (0))) then (
retL R ((100003, some ⟨[(AV.sc (.string s10)), (AV.sc (.int .i64 z11))], 44⟩) :: (100003, some ⟨[(AV.sc (.string ⟨#[]⟩)), (AV.sc (.int .i64 (0)))], 44⟩) :: m) [some AV.nils, some (AV.sc (.int .i64 (8)))]) else (
opP (idxS 3 t1 (AV.sc (.int .i64 z13))) fun v14 =>
opP (fldO 2 v14) fun v15 =>
opP (ldS (mget ((100003, some ⟨[(AV.sc (.string s10)), (AV.sc (.int .i64 z11))], 44⟩) :: (100003, some ⟨[(AV.sc (.string ⟨#[]⟩)), (AV.sc (.int .i64 (0)))], 44⟩) :: m)) v15) fun v16 =>
ex_i64 v16 fun z17 =>
bif (decide (z17 < z11)) then (
retL R ((100003, some ⟨[(AV.sc (.string s10)), (AV.sc (.int .i64 z11))], 44⟩) :: (100003, some ⟨[(AV.sc (.string ⟨#[]⟩)), (AV.sc (.int .i64 (0)))], 44⟩) :: m) [some AV.nils, some (AV.sc (.int .i64 (12)))]) else (
opP (idxS 3 t1 (AV.sc (.int .i64 z13))) fun v18 =>
opP (fldO 2 v18) fun v19 =>
opP (ldS (mget ((100003, some ⟨[(AV.sc (.string s10)), (AV.sc (.int .i64 z11))], 44⟩) :: (100003, some ⟨[(AV.sc (.string ⟨#[]⟩)), (AV.sc (.int .i64 (0)))], 44⟩) :: m)) v19) fun v20 =>
ex_i64 v20 fun z21 =>
bif (decide (z21 > (200000))) then (
retL R ((100003, some ⟨[(AV.sc (.string s10)), (AV.sc (.int .i64 z11))], 44⟩) :: (100003, some ⟨[(AV.sc (.string ⟨#[]⟩)), (AV.sc (.int .i64 (0)))], 44⟩) :: m) [some AV.nils, some (AV.sc (.int .i64 (12)))]) else (
opM (idxS 3 t1 (AV.sc (.int .i64 z13))) fun v22 d22 =>
opM (fldO 2 v22) fun v23 d23 =>
opM (ldS (look' (mpushs (mpushs ((100003, some ⟨[(AV.sc (.string s10)), (AV.sc (.int .i64 z11))], 44⟩) :: (100003, some ⟨[(AV.sc (.string ⟨#[]⟩)), (AV.sc (.int .i64 (0)))], 44⟩) :: m) d22) d23) (topId v23 ++ ([]))) v23) fun v24 d24 =>
ex_i64 v24 fun z25 =>
opM (ldS (look' (mpushs (mpushs (mpushs ((100003, some ⟨[(AV.sc (.string s10)), (AV.sc (.int .i64 z11))], 44⟩) :: (100003, some ⟨[(AV.sc (.string ⟨#[]⟩)), (AV.sc (.int .i64 (0)))], 44⟩) :: m) d22) d23) d24) (topId (AV.ptr 100003 1) ++ ([]))) (AV.ptr 100003 1)) fun v26 d26 =>
ex_i64 v26 fun z27 =>
opM (bsl 100102 3 1 1 [(AV.sc (.int .i64 (0)))] [(0, (AV.sc (.int .i64 (IntKind.wrap .i64 (z25 - z27)))))]) fun v28 d28 =>
opM (app (look' (mpushs (mpushs (mpushs (mpushs (mpushs ((100003, some ⟨[(AV.sc (.string s10)), (AV.sc (.int .i64 z11))], 44⟩) :: (100003, some ⟨[(AV.sc (.string ⟨#[]⟩)), (AV.sc (.int .i64 (0)))], 44⟩) :: m) d22) d23) d24) d26) d28) (topId t7 ++ (topId v28 ++ ([])))) 3 1 8 [(AV.sc (.int .i64 (0)))] 100103 t7 v28) fun v29 d29 =>
chk (confOk [0, 0, 0, 6, 14, 30, 0, 64, 254, 510, 1023, 2047] [⟨[], []⟩, ⟨[], []⟩, ⟨[], []⟩, ⟨d22, []⟩, ⟨d23, []⟩, ⟨d24, (topId v23 ++ ([]))⟩, ⟨[], []⟩, ⟨d26, (topId (AV.ptr 100003 1) ++ ([]))⟩, ⟨[], []⟩, ⟨d28, []⟩, ⟨d29, (topId t7 ++ (topId v28 ++ ([])))⟩, ⟨[], []⟩]) (N0 ⟨[(1, t1), (4, t4), (5, (AV.sc (.int .i64 t5))), (7, v29), (19, t19), (20, (AV.sc (.int .i64 t20))), (21, (AV.sc (.int .i64 (IntKind.wrap .i64 (t21 + (1)))))), (22, (AV.sc (.bool (decide (t21 < t20))))), (23, v6), (24, (AV.agg [(AV.sc (.string s10)), (AV.sc (.int .i64 z11))])), (9, (AV.ptr 100003 0)), (25, t1), (26, (AV.ptr 100003 0)), (27, (AV.sc (.string s10))), (28, (AV.sc (.int .i64 z13))), (10, (AV.sc (.int .i64 z13))), (30, (AV.sc (.int .i64 z13))), (31, (AV.sc (.bool (decide (z13 < (0)))))), (29, (AV.sc (.bool (decide (z13 < (0)))))), (33, t1), (34, (AV.sc (.int .i64 z13))), (35, v14), (36, v15), (37, (AV.sc (.int .i64 z17))), (38, (AV.ptr 100003 1)), (39, (AV.sc (.int .i64 z11))), (40, (AV.sc (.bool (decide (z17 < z11))))), (41, (AV.sc (.bool false))), (42, t1), (43, (AV.sc (.int .i64 z13))), (44, v18), (45, v19), (46, (AV.sc (.int .i64 z21))), (47, (AV.sc (.bool (decide (z21 > (200000)))))), (48, (AV.sc (.bool (decide (z21 > (200000)))))), (32, (AV.sc (.bool (decide (z21 > (200000)))))), (49, t7), (50, t1), (51, (AV.sc (.int .i64 z13))), (52, v22), (53, v23), (54, (AV.sc (.int .i64 z25))), (55, (AV.ptr 100003 1)), (56, (AV.sc (.int .i64 z27))), (57, (AV.sc (.int .i64 (IntKind.wrap .i64 (z25 - z27))))), (58, v28), (59, v29), (60, (AV.sc (.int .i64 (IntKind.wrap .i64 (t21 + (1))))))], (mpushs (mpushs (mpushs (mpushs (mpushs (mpushs ((100003, some ⟨[(AV.sc (.string s10)), (AV.sc (.int .i64 z11))], 44⟩) :: (100003, some ⟨[(AV.sc (.string ⟨#[]⟩)), (AV.sc (.int .i64 (0)))], 44⟩) :: m) d22) d23) d24) d26) d28) d29), 100107⟩))))) else (
retL R m [some t7, some (AV.sc (.int .i64 (0)))])
theorem B27_0_eq (t1 : AV) (t4 : AV) (t5 : Int) (t7 : AV) (t19 : AV) (t20 : Int) (t21 : Int) (m : Mem) (R : AV → Mem → Prop) (N0 : St → Prop) : W Try.prog KK 62 0 c27_0 (h27_0 t1 t4 t5 t7 t19 t20 t21 m) (qq27_0 R N0) = B27_0 t1 t4 t5 t7 t19 t20 t21 m R N0 := by kernel_rfl
theorem L27_0 (R : AV → Mem → Prop) {σ : Type} (I : σ → Prop) (t1 : σ → AV) (t4 : σ → AV) (t5 : σ → Int) (t7 : σ → AV) (t19 : σ → AV) (t20 : σ → Int) (t21 : σ → Int) (m : σ → Mem) (μ : σ → Nat) (step : ∀ x, I x → B27_0 (t1 x) (t4 x) (t5 x) (t7 x) (t19 x) (t20 x) (t21 x) (m x) R (fun s' => ∃ y, I y ∧ μ y < μ x ∧ Weak KK 62 0 s' (h27_0 (t1 y) (t4 y) (t5 y) (t7 y) (t19 y) (t20 y) (t21 y) (m y)))) (x : σ) (hx : I x) {s : St} (hw : Weak KK 62 0 s (h27_0 (t1 x) (t4 x) (t5 x) (t7 x) (t19 x) (t20 x) (t21 x) (m x))) : Tri Try.prog KK 62 0 (.loop c27_0) s (q27_0 R) :=
  Tri.weak hw (Tri.loops fol I (fun x => h27_0 (t1 x) (t4 x) (t5 x) (t7 x) (t19 x) (t20 x) (t21 x) (m x)) μ (fun x hx => (B27_0_eq (t1 x) (t4 x) (t5 x) (t7 x) (t19 x) (t20 x) (t21 x) (m x) R _).mpr (step x hx)) x hx)
noncomputable def F27 (a0 : AV) (a1 : AV) (R : AV → Mem → Prop) : Prop :=
callQ Try.prog KK.gl [] 35 [a0] fun v0 =>
ex_i64 v0 fun z1 =>
bif (z1 != (0)) then (
retL R [] [some AV.nils, some (AV.sc (.int .i64 z1))]) else (
opP (lenS a1) fun v2 =>
ex_i64 v2 fun z3 =>
bif (decide (z3 > (24))) then (
retL R [] [some AV.nils, some (AV.sc (.int .i64 (2)))]) else (
opP (lenS a0) fun v4 =>
ex_i64 v4 fun z5 =>
Tri Try.prog KK 62 0 (.loop c27_0) ⟨[(0, a0), (1, a1), (4, AV.nils), (5, (AV.sc (.int .i64 (0)))), (11, a0), (12, (AV.sc (.int .i64 z1))), (6, (AV.sc (.int .i64 z1))), (13, (AV.sc (.int .i64 z1))), (14, (AV.sc (.bool (z1 != (0))))), (16, a1), (17, (AV.sc (.int .i64 z3))), (18, (AV.sc (.bool (decide (z3 > (24)))))), (7, AV.nils), (19, a0), (20, (AV.sc (.int .i64 z5))), (21, (AV.sc (.int .i64 (0))))], [], 77⟩ (q27_0 R)))
theorem F27_own (a0 : AV) (a1 : AV) (R : AV → Mem → Prop) (h : F27 a0 a1 R) : Own Try.prog KK.gl 27 [a0, a1] R := own_of_F fol Try.func27 (code := c27) (by kernel_rfl) (by kernel_rfl) (by kernel_rfl) (X := F27 a0 a1 R) (by kernel_rfl) h
/- skyway/slot.Swap -/
noncomputable def c26 : Code := ((Try.f26).body).getD .skip
noncomputable def q26 (R : AV → Mem → Prop) : AExit → St → Prop := retQ Try.prog Try.f26 R
noncomputable def F26 (a0 : AV) (a1 : AV) (a2 : ByteArray) (a3 : ByteArray) (R : AV → Mem → Prop) : Prop :=
callW Try.prog KK.gl [] 4 27 [a0, a1] fun v0 m0 =>
exT2 v0 fun c1 c2 =>
ex_i64 c2 fun z3 =>
bif (z3 != (0)) then (
retL R m0 [some AV.nils, some (AV.sc (.int .i64 z3))]) else (
callQ Try.prog KK.gl m0 44 [a1, (AV.sc (.string a2))] fun v4 =>
ex_i64 v4 fun z5 =>
callQ Try.prog KK.gl m0 44 [a1, (AV.sc (.string a3))] fun v6 =>
ex_i64 v6 fun z7 =>
bif (decide (z5 < (0))) then (
retL R m0 [some AV.nils, some (AV.sc (.int .i64 (8)))]) else (
bif (decide (z7 < (0))) then (
retL R m0 [some AV.nils, some (AV.sc (.int .i64 (8)))]) else (
callW Try.prog KK.gl m0 216 45 [a1] fun v8 m8 =>
opM (idxS 3 v8 (AV.sc (.int .i64 z7))) fun v9 d9 =>
opM (fldO 2 v9) fun v10 d10 =>
opM (ldS (look' (mpushs (mpushs m8 d9) d10) (topId v10 ++ ([]))) v10) fun v11 d11 =>
ex_i64 v11 fun z12 =>
opM (idxS 3 v8 (AV.sc (.int .i64 z5))) fun v13 d13 =>
opM (fldO 2 v13) fun v14 d14 =>
opM (ldS (look' (mpushs (mpushs (mpushs (mpushs (mpushs m8 d9) d10) d11) d13) d14) (topId v14 ++ ([]))) v14) fun v15 d15 =>
ex_i64 v15 fun z16 =>
opM (idxS 3 v8 (AV.sc (.int .i64 z5))) fun v17 d17 =>
opM (fldO 2 v17) fun v18 d18 =>
storeW Try.prog (look' (mpushs (mpushs (mpushs (mpushs (mpushs (mpushs (mpushs (mpushs m8 d9) d10) d11) d13) d14) d15) d17) d18) (topId v18 ++ (topId (AV.sc (.int .i64 z12)) ++ ([])))) 3 v18 (AV.sc (.int .i64 z12)) fun v19 d19 =>
opM (idxS 3 v8 (AV.sc (.int .i64 z7))) fun v20 d20 =>
opM (fldO 2 v20) fun v21 d21 =>
storeW Try.prog (look' (mpushs (mpushs (mpushs (mpushs (mpushs (mpushs (mpushs (mpushs (mpushs (mpushs (mpushs m8 d9) d10) d11) d13) d14) d15) d17) d18) d19) d20) d21) (topId v21 ++ (topId (AV.sc (.int .i64 z16)) ++ ([])))) 3 v21 (AV.sc (.int .i64 z16)) fun v22 d22 =>
chk (confOk [0, 0, 0, 0, 0, 0, 48, 112, 240, 0, 0, 1536, 3584, 7680, 16371, 32755, 65523, 131071, 262143, 524287] [⟨[], []⟩, ⟨[], []⟩, ⟨[], []⟩, ⟨[], []⟩, ⟨[], []⟩, ⟨[], []⟩, ⟨d9, []⟩, ⟨d10, []⟩, ⟨d11, (topId v10 ++ ([]))⟩, ⟨[], []⟩, ⟨[], []⟩, ⟨d13, []⟩, ⟨d14, []⟩, ⟨d15, (topId v14 ++ ([]))⟩, ⟨d17, []⟩, ⟨d18, []⟩, ⟨d19, (topId v18 ++ (topId (AV.sc (.int .i64 z12)) ++ ([])))⟩, ⟨d20, []⟩, ⟨d21, []⟩, ⟨d22, (topId v21 ++ (topId (AV.sc (.int .i64 z16)) ++ ([])))⟩]) (callW Try.prog KK.gl (mpushs (mpushs (mpushs (mpushs (mpushs (mpushs (mpushs (mpushs (mpushs (mpushs (mpushs (mpushs m8 d9) d10) d11) d13) d14) d15) d17) d18) d19) d20) d21) d22) 303 27 [a0, v8] fun v23 m23 =>
exT2 v23 fun c24 c25 =>
ex_i64 c25 fun z26 =>
bif (z26 != (0)) then (
retL R m23 [some AV.nils, some (AV.sc (.int .i64 (12)))]) else (
retL R m23 [some v8, some (AV.sc (.int .i64 (0)))])))))
theorem F26_own (a0 : AV) (a1 : AV) (a2 : ByteArray) (a3 : ByteArray) (R : AV → Mem → Prop) (h : F26 a0 a1 a2 a3 R) : Own Try.prog KK.gl 26 [a0, a1, (AV.sc (.string a2)), (AV.sc (.string a3))] R := own_of_F fol Try.func26 (code := c26) (by kernel_rfl) (by kernel_rfl) (by kernel_rfl) (X := F26 a0 a1 a2 a3 R) (by kernel_rfl) h
/- skyway/skywaykeep3.SlotSwaps -/
noncomputable def c7 : Code := ((Try.f7).body).getD .skip
noncomputable def q7 (R : AV → Mem → Prop) : AExit → St → Prop := retQ Try.prog Try.f7 R
noncomputable def c7_0 : Code := loopB c7 0
noncomputable def q7_0 (R : AV → Mem → Prop) : AExit → St → Prop := contW Try.prog KK 144 0 c7 0 (q7 R)
noncomputable def qq7_0 (R : AV → Mem → Prop) (N0 : St → Prop) : AExit → St → Prop := thenQ N0 (q7_0 R)
def h7_0 (t8 : Bool) (t9 : AV) (t14 : AV) (t15 : Int) (t16 : AV) (t17 : Int) (t18 : AV) (t19 : Int) (t20 : Int) (t102 : Int) (t103 : Int) (m : Mem) : St := ⟨[(8, (AV.sc (.bool t8))), (9, t9), (14, t14), (15, (AV.sc (.int .i64 t15))), (16, t16), (17, (AV.sc (.int .i64 t17))), (18, t18), (19, (AV.sc (.int .i64 t19))), (20, (AV.sc (.int .i64 t20))), (102, (AV.sc (.int .i64 t102))), (103, (AV.sc (.int .i64 t103)))], m, 100000⟩
noncomputable def B7_0 (t8 : Bool) (t9 : AV) (t14 : AV) (t15 : Int) (t16 : AV) (t17 : Int) (t18 : AV) (t19 : Int) (t20 : Int) (t102 : Int) (t103 : Int) (m : Mem) (R : AV → Mem → Prop) (N0 : St → Prop) : Prop :=
bif (decide (t103 < t102)) then (
opP (idxS 1 t16 (AV.sc (.int .i64 t103))) fun v52 =>
opP (ldS (mget m) v52) fun v53 =>
ex_i64 v53 fun z54 =>
opP (idxS 1 t18 (AV.sc (.int .i64 t103))) fun v55 =>
opP (ldS (mget m) v55) fun v56 =>
ex_i64 v56 fun z57 =>
N0 ⟨[(8, (AV.sc (.bool t8))), (9, t9), (14, t14), (15, (AV.sc (.int .i64 t15))), (16, t16), (17, (AV.sc (.int .i64 t17))), (18, t18), (19, (AV.sc (.int .i64 t19))), (20, (AV.sc (.int .i64 (IntKind.wrap .i64 (t20 + (IntKind.wrap .i64 (z54 - z57))))))), (102, (AV.sc (.int .i64 t102))), (103, (AV.sc (.int .i64 (IntKind.wrap .i64 (t103 + (1)))))), (104, (AV.sc (.bool (decide (t103 < t102))))), (105, (AV.sc (.int .i64 t103))), (21, (AV.sc (.int .i64 t103))), (106, (AV.sc (.int .i64 t20))), (107, t16), (108, (AV.sc (.int .i64 t103))), (109, v52), (110, (AV.sc (.int .i64 z54))), (111, t18), (112, (AV.sc (.int .i64 t103))), (113, v55), (114, (AV.sc (.int .i64 z57))), (115, (AV.sc (.int .i64 (IntKind.wrap .i64 (z54 - z57))))), (116, (AV.sc (.int .i64 (IntKind.wrap .i64 (t20 + (IntKind.wrap .i64 (z54 - z57))))))), (117, (AV.sc (.int .i64 (IntKind.wrap .i64 (t103 + (1))))))], m, 100017⟩) else (
bif (t15 == (0)) then (
bif (t17 == (0)) then (
bif (t19 == (0)) then (
callQ Try.prog KK.gl m 22 [t14, t9] fun v58 =>
exB v58 fun b59 =>
bif b59 then (
bif (t20 == (0)) then (
opP (lenS t16) fun v60 =>
ex_i64 v60 fun z61 =>
opP (lenS t18) fun v62 =>
ex_i64 v62 fun z63 =>
retL R m [some (AV.sc (.bool (z61 == z63)))]) else (
retL R m [some (AV.sc (.bool false))])) else (
retL R m [some (AV.sc (.bool false))])) else (
retL R m [some (AV.sc (.bool false))])) else (
retL R m [some (AV.sc (.bool false))])) else (
retL R m [some (AV.sc (.bool false))]))
theorem B7_0_eq (t8 : Bool) (t9 : AV) (t14 : AV) (t15 : Int) (t16 : AV) (t17 : Int) (t18 : AV) (t19 : Int) (t20 : Int) (t102 : Int) (t103 : Int) (m : Mem) (R : AV → Mem → Prop) (N0 : St → Prop) : W Try.prog KK 144 0 c7_0 (h7_0 t8 t9 t14 t15 t16 t17 t18 t19 t20 t102 t103 m) (qq7_0 R N0) = B7_0 t8 t9 t14 t15 t16 t17 t18 t19 t20 t102 t103 m R N0 := by kernel_rfl
theorem L7_0 (R : AV → Mem → Prop) {σ : Type} (I : σ → Prop) (t8 : σ → Bool) (t9 : σ → AV) (t14 : σ → AV) (t15 : σ → Int) (t16 : σ → AV) (t17 : σ → Int) (t18 : σ → AV) (t19 : σ → Int) (t20 : σ → Int) (t102 : σ → Int) (t103 : σ → Int) (m : σ → Mem) (μ : σ → Nat) (step : ∀ x, I x → B7_0 (t8 x) (t9 x) (t14 x) (t15 x) (t16 x) (t17 x) (t18 x) (t19 x) (t20 x) (t102 x) (t103 x) (m x) R (fun s' => ∃ y, I y ∧ μ y < μ x ∧ Weak KK 144 0 s' (h7_0 (t8 y) (t9 y) (t14 y) (t15 y) (t16 y) (t17 y) (t18 y) (t19 y) (t20 y) (t102 y) (t103 y) (m y)))) (x : σ) (hx : I x) {s : St} (hw : Weak KK 144 0 s (h7_0 (t8 x) (t9 x) (t14 x) (t15 x) (t16 x) (t17 x) (t18 x) (t19 x) (t20 x) (t102 x) (t103 x) (m x))) : Tri Try.prog KK 144 0 (.loop c7_0) s (q7_0 R) :=
  Tri.weak hw (Tri.loops fol I (fun x => h7_0 (t8 x) (t9 x) (t14 x) (t15 x) (t16 x) (t17 x) (t18 x) (t19 x) (t20 x) (t102 x) (t103 x) (m x)) μ (fun x hx => (B7_0_eq (t8 x) (t9 x) (t14 x) (t15 x) (t16 x) (t17 x) (t18 x) (t19 x) (t20 x) (t102 x) (t103 x) (m x) R _).mpr (step x hx)) x hx)
noncomputable def F7 (a0 : AV) (a1 : AV) (a2 : Int) (a3 : Int) (R : AV → Mem → Prop) : Prop :=
callQ Try.prog KK.gl [] 18 [] fun v0 =>
exB v0 fun b1 =>
bif (!b1) then (
retL R [] [some (AV.sc (.bool false))]) else (
callW Try.prog KK.gl [] 68 19 [(AV.sc (.string ⟨#[82, 87, 89]⟩)), a0, a1] fun v2 m2 =>
exT2 v2 fun c3 c4 =>
ex_i64 c4 fun z5 =>
bif (z5 != (0)) then (
opP (lenS c3) fun v6 =>
ex_i64 v6 fun z7 =>
retL R m2 [some (AV.sc (.bool (z7 == (0))))]) else (
opP (lenS a0) fun v8 =>
ex_i64 v8 fun z9 =>
bif (z9 == (0)) then (
opP (lenS c3) fun v10 =>
ex_i64 v10 fun z11 =>
retL R m2 [some (AV.sc (.bool (z11 == (0))))]) else (
opP (lenS a0) fun v12 =>
ex_i64 v12 fun z13 =>
callQ Try.prog KK.gl m2 20 [(AV.sc (.int .i64 a2)), (AV.sc (.int .i64 z13))] fun v14 =>
ex_i64 v14 fun z15 =>
opP (idxS 2 a0 (AV.sc (.int .i64 z15))) fun v16 =>
opP (fldO 0 v16) fun v17 =>
opP (ldS (mget m2) v17) fun v18 =>
exStr v18 fun s19 =>
opP (lenS a0) fun v20 =>
ex_i64 v20 fun z21 =>
callQ Try.prog KK.gl m2 20 [(AV.sc (.int .i64 a3)), (AV.sc (.int .i64 z21))] fun v22 =>
ex_i64 v22 fun z23 =>
opP (idxS 2 a0 (AV.sc (.int .i64 z23))) fun v24 =>
opP (fldO 0 v24) fun v25 =>
opP (ldS (mget m2) v25) fun v26 =>
exStr v26 fun s27 =>
callW Try.prog KK.gl m2 166 26 [a0, c3, (AV.sc (.string s19)), (AV.sc (.string s27))] fun v28 m28 =>
exT2 v28 fun c29 c30 =>
ex_i64 c30 fun z31 =>
bif (z31 != (0)) then (
opP (lenS c29) fun v32 =>
ex_i64 v32 fun z33 =>
bif (z33 == (0)) then (
bif (z31 == (12)) then (
retL R m28 [some (AV.sc (.bool (!((s19).toList == (s27).toList))))]) else (
retL R m28 [some (AV.sc (.bool false))])) else (
retL R m28 [some (AV.sc (.bool false))])) else (
callW Try.prog KK.gl m28 241 26 [a0, c29, (AV.sc (.string s19)), (AV.sc (.string s27))] fun v34 m34 =>
exT2 v34 fun c35 c36 =>
ex_i64 c36 fun z37 =>
callW Try.prog KK.gl m34 312 27 [a0, c3] fun v38 m38 =>
exT2 v38 fun c39 c40 =>
ex_i64 c40 fun z41 =>
callW Try.prog KK.gl m38 383 27 [a0, c29] fun v42 m42 =>
exT2 v42 fun c43 c44 =>
ex_i64 c44 fun z45 =>
opP (lenS c39) fun v46 =>
ex_i64 v46 fun z47 =>
opP (lenS c43) fun v48 =>
ex_i64 v48 fun z49 =>
opP (opA Try.prog (.call ⟨.builtin .min, #[.tmp 0, .tmp 1], #[3, 3]⟩) 3 [(AV.sc (.int .i64 z47)), (AV.sc (.int .i64 z49))] (mget m42) 457) fun v50 =>
ex_i64 v50 fun z51 =>
Tri Try.prog KK 144 0 (.loop c7_0) ⟨[(0, a0), (1, a1), (2, (AV.sc (.int .i64 a2))), (3, (AV.sc (.int .i64 a3))), (8, (AV.sc (.bool false))), (22, (AV.sc (.bool b1))), (23, (AV.sc (.bool (!b1)))), (25, a0), (26, a1), (27, (AV.tup [c3, (AV.sc (.int .i64 z5))])), (24, (AV.tup [c3, (AV.sc (.int .i64 z5))])), (28, c3), (29, (AV.sc (.int .i64 z5))), (9, c3), (10, (AV.sc (.int .i64 z31))), (30, (AV.sc (.int .i64 z5))), (31, (AV.sc (.bool (z5 != (0))))), (32, (AV.sc (.bool false))), (33, a0), (34, (AV.sc (.int .i64 z9))), (35, (AV.sc (.bool (z9 == (0))))), (36, (AV.sc (.bool (z9 == (0))))), (40, a0), (41, (AV.sc (.int .i64 a2))), (42, a0), (43, (AV.sc (.int .i64 z13))), (44, (AV.sc (.int .i64 z15))), (45, v16), (46, v17), (47, (AV.sc (.string s19))), (48, a0), (49, (AV.sc (.int .i64 a3))), (50, a0), (51, (AV.sc (.int .i64 z21))), (52, (AV.sc (.int .i64 z23))), (53, v24), (54, v25), (55, (AV.sc (.string s27))), (11, (AV.sc (.string s19))), (12, (AV.sc (.string s27))), (57, a0), (58, c3), (59, (AV.sc (.string s19))), (60, (AV.sc (.string s27))), (61, (AV.tup [c29, (AV.sc (.int .i64 z31))])), (56, (AV.tup [c29, (AV.sc (.int .i64 z31))])), (62, c29), (63, (AV.sc (.int .i64 z31))), (13, c29), (64, (AV.sc (.int .i64 z31))), (65, (AV.sc (.bool (z31 != (0))))), (79, a0), (80, c29), (81, (AV.sc (.string s19))), (82, (AV.sc (.string s27))), (83, (AV.tup [c35, (AV.sc (.int .i64 z37))])), (78, (AV.tup [c35, (AV.sc (.int .i64 z37))])), (84, c35), (85, (AV.sc (.int .i64 z37))), (14, c35), (15, (AV.sc (.int .i64 z37))), (87, a0), (88, c3), (89, (AV.tup [c39, (AV.sc (.int .i64 z41))])), (86, (AV.tup [c39, (AV.sc (.int .i64 z41))])), (90, c39), (91, (AV.sc (.int .i64 z41))), (16, c39), (17, (AV.sc (.int .i64 z41))), (93, a0), (94, c29), (95, (AV.tup [c43, (AV.sc (.int .i64 z45))])), (92, (AV.tup [c43, (AV.sc (.int .i64 z45))])), (96, c43), (97, (AV.sc (.int .i64 z45))), (18, c43), (19, (AV.sc (.int .i64 z45))), (20, (AV.sc (.int .i64 (0)))), (98, c39), (99, (AV.sc (.int .i64 z47))), (100, c43), (101, (AV.sc (.int .i64 z49))), (102, (AV.sc (.int .i64 z51))), (103, (AV.sc (.int .i64 (0))))], m42, 459⟩ (q7_0 R)))))
theorem F7_own (a0 : AV) (a1 : AV) (a2 : Int) (a3 : Int) (R : AV → Mem → Prop) (h : F7 a0 a1 a2 a3 R) : Own Try.prog KK.gl 7 [a0, a1, (AV.sc (.int .i64 a2)), (AV.sc (.int .i64 a3))] R := own_of_F fol Try.func7 (code := c7) (by kernel_rfl) (by kernel_rfl) (by kernel_rfl) (X := F7 a0 a1 a2 a3 R) (by kernel_rfl) h
/- skyway/flow.index$1 -/
noncomputable def c47 : Code := ((Try.f47).body).getD .skip
noncomputable def q47 (R : AV → Mem → Prop) : AExit → St → Prop := retQ Try.prog Try.f47 R
noncomputable def F47 (a0_0 : Int) (a0_1 : Int) (a0_2 : Int) (a1 : AV) (R : AV → Mem → Prop) : Prop :=
opP (ldS (mget ((0, some ⟨[(AV.sc (.int .i64 a0_0)), (AV.sc (.int .i64 a0_1)), (AV.sc (.int .i64 a0_2))], 64⟩) :: [])) a1) fun v0 =>
ex_i64 v0 fun z1 =>
bif (decide (z1 ≥ a0_0)) then (
opP (ldS (mget ((0, some ⟨[(AV.sc (.int .i64 a0_0)), (AV.sc (.int .i64 a0_1)), (AV.sc (.int .i64 a0_2))], 64⟩) :: [])) a1) fun v2 =>
ex_i64 v2 fun z3 =>
retL R ((0, some ⟨[(AV.sc (.int .i64 a0_0)), (AV.sc (.int .i64 a0_1)), (AV.sc (.int .i64 a0_2))], 64⟩) :: []) [some (AV.sc (.bool (decide (z3 < a0_1))))]) else (
retL R ((0, some ⟨[(AV.sc (.int .i64 a0_0)), (AV.sc (.int .i64 a0_1)), (AV.sc (.int .i64 a0_2))], 64⟩) :: []) [some (AV.sc (.bool false))])
theorem F47_own (a0_0 : Int) (a0_1 : Int) (a0_2 : Int) (a1 : AV) (R : AV → Mem → Prop) (h : F47 a0_0 a0_1 a0_2 a1 R) : Own Try.prog KK.gl 47 [(AV.agg [(AV.sc (.int .i64 a0_0)), (AV.sc (.int .i64 a0_1)), (AV.sc (.int .i64 a0_2))]), a1] R := own_of_F fol Try.func47 (code := c47) (by kernel_rfl) (by kernel_rfl) (by kernel_rfl) (X := F47 a0_0 a0_1 a0_2 a1 R) (by kernel_rfl) h
/- skyway/flow.index -/
noncomputable def c33 : Code := ((Try.f33).body).getD .skip
noncomputable def q33 (R : AV → Mem → Prop) : AExit → St → Prop := retQ Try.prog Try.f33 R
noncomputable def F33 (a0 : AV) (a1 : Int) (R : AV → Mem → Prop) : Prop :=
callQ Try.prog KK.gl ((0, some ⟨[(AV.sc (.int .i64 a1))], 3⟩) :: []) 40 [a0, (AV.fn 47 [(AV.ptr 0 0)])] fun v0 =>
ex_i64 v0 fun z1 =>
retL R ((0, some ⟨[(AV.sc (.int .i64 a1))], 3⟩) :: []) [some (AV.sc (.int .i64 z1))]
theorem F33_own (a0 : AV) (a1 : Int) (R : AV → Mem → Prop) (h : F33 a0 a1 R) : Own Try.prog KK.gl 33 [a0, (AV.sc (.int .i64 a1))] R := own_of_F fol Try.func33 (code := c33) (by kernel_rfl) (by kernel_rfl) (by kernel_rfl) (X := F33 a0 a1 R) (by kernel_rfl) h
/- skyway/flow.Demand -/
noncomputable def c16 : Code := ((Try.f16).body).getD .skip
noncomputable def q16 (R : AV → Mem → Prop) : AExit → St → Prop := retQ Try.prog Try.f16 R
noncomputable def c16_0 : Code := loopB c16 0
noncomputable def q16_0 (R : AV → Mem → Prop) : AExit → St → Prop := contW Try.prog KK 52 0 c16 0 (q16 R)
noncomputable def qq16_0 (R : AV → Mem → Prop) (N0 : St → Prop) : AExit → St → Prop := thenQ N0 (q16_0 R)
def h16_0 (t0 : AV) (t4 : AV) (t5 : Int) (t6 : Int) (t8 : AV) (t9 : Int) (t24 : AV) (t25 : Int) (t26 : Int) (m : Mem) : St := ⟨[(0, t0), (4, t4), (5, (AV.sc (.int .i64 t5))), (6, (AV.sc (.int .i64 t6))), (8, t8), (9, (AV.sc (.int .i64 t9))), (24, t24), (25, (AV.sc (.int .i64 t25))), (26, (AV.sc (.int .i64 t26)))], m, 100000⟩
noncomputable def B16_0 (t0 : AV) (t4 : AV) (t5 : Int) (t6 : Int) (t8 : AV) (t9 : Int) (t24 : AV) (t25 : Int) (t26 : Int) (m : Mem) (R : AV → Mem → Prop) (N0 : St → Prop) : Prop :=
bif (decide (t26 < t25)) then (
opP (idxS 1 t24 (AV.sc (.int .i64 t26))) fun v9 =>
opP (ldS (mget m) v9) fun v10 =>
ex_i64 v10 fun z11 =>
bif (decide (z11 < (0))) then (
retL R m [some AV.nils, some (AV.sc (.int .i64 (0))), some (AV.sc (.int .i64 (12)))]) else (
bif (decide (z11 > (200000))) then (
retL R m [some AV.nils, some (AV.sc (.int .i64 (0))), some (AV.sc (.int .i64 (12)))]) else (
callQ Try.prog KK.gl m 33 [t0, (AV.sc (.int .i64 z11))] fun v12 =>
ex_i64 v12 fun z13 =>
bif (decide (z13 ≥ (0))) then (
opP (idxS 1 t8 (AV.sc (.int .i64 z13))) fun v14 =>
opP (ldS (mget m) v14) fun v15 =>
ex_i64 v15 fun z16 =>
opP (idxS 1 t8 (AV.sc (.int .i64 z13))) fun v17 =>
storeW Try.prog (mget m) 3 v17 (AV.sc (.int .i64 (IntKind.wrap .i64 (z16 + (1))))) fun v18 d18 =>
N0 ⟨[(0, t0), (4, t4), (5, (AV.sc (.int .i64 t5))), (6, (AV.sc (.int .i64 t6))), (8, t8), (9, (AV.sc (.int .i64 t9))), (24, t24), (25, (AV.sc (.int .i64 t25))), (26, (AV.sc (.int .i64 (IntKind.wrap .i64 (t26 + (1)))))), (27, (AV.sc (.bool (decide (t26 < t25))))), (28, v9), (29, (AV.sc (.int .i64 z11))), (11, (AV.sc (.int .i64 z11))), (30, (AV.sc (.int .i64 z11))), (31, (AV.sc (.bool (decide (z11 < (0)))))), (32, (AV.sc (.bool false))), (33, (AV.sc (.int .i64 z11))), (34, (AV.sc (.bool (decide (z11 > (200000)))))), (35, (AV.sc (.bool (decide (z11 > (200000)))))), (36, t0), (37, (AV.sc (.int .i64 z11))), (38, (AV.sc (.int .i64 z13))), (12, (AV.sc (.int .i64 z13))), (39, (AV.sc (.int .i64 z13))), (40, (AV.sc (.bool (decide (z13 ≥ (0)))))), (41, t8), (42, (AV.sc (.int .i64 z13))), (43, v14), (44, (AV.sc (.int .i64 z16))), (45, (AV.sc (.int .i64 (IntKind.wrap .i64 (z16 + (1)))))), (46, v17), (49, (AV.sc (.int .i64 (IntKind.wrap .i64 (t26 + (1))))))], (mpushs m d18), 100088⟩) else (
N0 ⟨[(0, t0), (4, t4), (5, (AV.sc (.int .i64 t5))), (6, (AV.sc (.int .i64 t6))), (8, t8), (9, (AV.sc (.int .i64 (IntKind.wrap .i64 (t9 + (1)))))), (24, t24), (25, (AV.sc (.int .i64 t25))), (26, (AV.sc (.int .i64 (IntKind.wrap .i64 (t26 + (1)))))), (27, (AV.sc (.bool (decide (t26 < t25))))), (28, v9), (29, (AV.sc (.int .i64 z11))), (11, (AV.sc (.int .i64 z11))), (30, (AV.sc (.int .i64 z11))), (31, (AV.sc (.bool (decide (z11 < (0)))))), (32, (AV.sc (.bool false))), (33, (AV.sc (.int .i64 z11))), (34, (AV.sc (.bool (decide (z11 > (200000)))))), (35, (AV.sc (.bool (decide (z11 > (200000)))))), (36, t0), (37, (AV.sc (.int .i64 z11))), (38, (AV.sc (.int .i64 z13))), (12, (AV.sc (.int .i64 z13))), (39, (AV.sc (.int .i64 z13))), (40, (AV.sc (.bool (decide (z13 ≥ (0)))))), (47, (AV.sc (.int .i64 t9))), (48, (AV.sc (.int .i64 (IntKind.wrap .i64 (t9 + (1)))))), (49, (AV.sc (.int .i64 (IntKind.wrap .i64 (t26 + (1))))))], m, 100084⟩)))) else (
retL R m [some t8, some (AV.sc (.int .i64 t9)), some (AV.sc (.int .i64 (0)))])
theorem B16_0_eq (t0 : AV) (t4 : AV) (t5 : Int) (t6 : Int) (t8 : AV) (t9 : Int) (t24 : AV) (t25 : Int) (t26 : Int) (m : Mem) (R : AV → Mem → Prop) (N0 : St → Prop) : W Try.prog KK 52 0 c16_0 (h16_0 t0 t4 t5 t6 t8 t9 t24 t25 t26 m) (qq16_0 R N0) = B16_0 t0 t4 t5 t6 t8 t9 t24 t25 t26 m R N0 := by kernel_rfl
theorem L16_0 (R : AV → Mem → Prop) {σ : Type} (I : σ → Prop) (t0 : σ → AV) (t4 : σ → AV) (t5 : σ → Int) (t6 : σ → Int) (t8 : σ → AV) (t9 : σ → Int) (t24 : σ → AV) (t25 : σ → Int) (t26 : σ → Int) (m : σ → Mem) (μ : σ → Nat) (step : ∀ x, I x → B16_0 (t0 x) (t4 x) (t5 x) (t6 x) (t8 x) (t9 x) (t24 x) (t25 x) (t26 x) (m x) R (fun s' => ∃ y, I y ∧ μ y < μ x ∧ Weak KK 52 0 s' (h16_0 (t0 y) (t4 y) (t5 y) (t6 y) (t8 y) (t9 y) (t24 y) (t25 y) (t26 y) (m y)))) (x : σ) (hx : I x) {s : St} (hw : Weak KK 52 0 s (h16_0 (t0 x) (t4 x) (t5 x) (t6 x) (t8 x) (t9 x) (t24 x) (t25 x) (t26 x) (m x))) : Tri Try.prog KK 52 0 (.loop c16_0) s (q16_0 R) :=
  Tri.weak hw (Tri.loops fol I (fun x => h16_0 (t0 x) (t4 x) (t5 x) (t6 x) (t8 x) (t9 x) (t24 x) (t25 x) (t26 x) (m x)) μ (fun x hx => (B16_0_eq (t0 x) (t4 x) (t5 x) (t6 x) (t8 x) (t9 x) (t24 x) (t25 x) (t26 x) (m x) R _).mpr (step x hx)) x hx)
noncomputable def F16 (a0 : AV) (a1 : AV) (R : AV → Mem → Prop) : Prop :=
callQ Try.prog KK.gl [] 10 [a0] fun v0 =>
ex_i64 v0 fun z1 =>
bif (z1 != (0)) then (
retL R [] [some AV.nils, some (AV.sc (.int .i64 (0))), some (AV.sc (.int .i64 z1))]) else (
opP (lenS a1) fun v2 =>
ex_i64 v2 fun z3 =>
bif (decide (z3 > (256))) then (
retL R [] [some AV.nils, some (AV.sc (.int .i64 (0))), some (AV.sc (.int .i64 (2)))]) else (
opP (lenS a0) fun v4 =>
ex_i64 v4 fun z5 =>
opN (mks 76 3 1 8 [(AV.sc (.int .i64 (0)))] (AV.sc (.int .i64 z5)) (AV.sc (.int .i64 z5))) [] fun v6 m6 =>
opP (lenS a1) fun v7 =>
ex_i64 v7 fun z8 =>
Tri Try.prog KK 52 0 (.loop c16_0) ⟨[(0, a0), (1, a1), (4, AV.nils), (5, (AV.sc (.int .i64 (0)))), (6, (AV.sc (.int .i64 (0)))), (13, a0), (14, (AV.sc (.int .i64 z1))), (7, (AV.sc (.int .i64 z1))), (15, (AV.sc (.int .i64 z1))), (16, (AV.sc (.bool (z1 != (0))))), (18, a1), (19, (AV.sc (.int .i64 z3))), (20, (AV.sc (.bool (decide (z3 > (256)))))), (21, a0), (22, (AV.sc (.int .i64 z5))), (23, v6), (8, v6), (9, (AV.sc (.int .i64 (0)))), (24, a1), (25, (AV.sc (.int .i64 z8))), (26, (AV.sc (.int .i64 (0))))], m6, 82⟩ (q16_0 R)))
theorem F16_own (a0 : AV) (a1 : AV) (R : AV → Mem → Prop) (h : F16 a0 a1 R) : Own Try.prog KK.gl 16 [a0, a1] R := own_of_F fol Try.func16 (code := c16) (by kernel_rfl) (by kernel_rfl) (by kernel_rfl) (X := F16 a0 a1 R) (by kernel_rfl) h
/- skyway/flow.Over -/
noncomputable def c12 : Code := ((Try.f12).body).getD .skip
noncomputable def q12 (R : AV → Mem → Prop) : AExit → St → Prop := retQ Try.prog Try.f12 R
noncomputable def c12_0 : Code := loopB c12 0
noncomputable def q12_0 (R : AV → Mem → Prop) : AExit → St → Prop := contW Try.prog KK 42 0 c12 0 (q12 R)
noncomputable def qq12_0 (R : AV → Mem → Prop) (N0 : St → Prop) : AExit → St → Prop := thenQ N0 (q12_0 R)
def h12_0 (t4 : AV) (t5 : Int) (t6 : AV) (t9 : AV) (t22 : AV) (t23 : Int) (t24 : Int) (m : Mem) : St := ⟨[(4, t4), (5, (AV.sc (.int .i64 t5))), (6, t6), (9, t9), (22, t22), (23, (AV.sc (.int .i64 t23))), (24, (AV.sc (.int .i64 t24)))], m, 100000⟩
noncomputable def B12_0 (t4 : AV) (t5 : Int) (t6 : AV) (t9 : AV) (t22 : AV) (t23 : Int) (t24 : Int) (m : Mem) (R : AV → Mem → Prop) (N0 : St → Prop) : Prop :=
bif (decide (t24 < t23)) then (
opP (idxS 3 t22 (AV.sc (.int .i64 t24))) fun v8 =>
opP (ldA (mget m) 3 v8) fun v9 =>
exA3 v9 fun c10 c11 c12 =>
ex_i64 c10 fun z13 =>
ex_i64 c11 fun z14 =>
ex_i64 c12 fun z15 =>
opP (idxS 1 t6 (AV.sc (.int .i64 t24))) fun v16 =>
opP (ldS (mget ((100004, some ⟨[(AV.sc (.int .i64 z13)), (AV.sc (.int .i64 z14)), (AV.sc (.int .i64 z15))], 64⟩) :: (100004, some ⟨[(AV.sc (.int .i64 (0))), (AV.sc (.int .i64 (0))), (AV.sc (.int .i64 (0)))], 64⟩) :: m)) v16) fun v17 =>
ex_i64 v17 fun z18 =>
bif (decide (z18 > z15)) then (
opN (bsl 100016 3 1 1 [(AV.sc (.int .i64 (0)))] [(0, (AV.sc (.int .i64 t24)))]) ((100004, some ⟨[(AV.sc (.int .i64 z13)), (AV.sc (.int .i64 z14)), (AV.sc (.int .i64 z15))], 64⟩) :: (100004, some ⟨[(AV.sc (.int .i64 (0))), (AV.sc (.int .i64 (0))), (AV.sc (.int .i64 (0)))], 64⟩) :: m) fun v19 m19 =>
opN (app (mget m19) 3 1 8 [(AV.sc (.int .i64 (0)))] 100017 t9 v19) m19 fun v20 m20 =>
N0 ⟨[(4, t4), (5, (AV.sc (.int .i64 t5))), (6, t6), (9, v20), (22, t22), (23, (AV.sc (.int .i64 t23))), (24, (AV.sc (.int .i64 (IntKind.wrap .i64 (t24 + (1)))))), (25, (AV.sc (.bool (decide (t24 < t23))))), (26, (AV.sc (.int .i64 t24))), (27, v8), (28, (AV.agg [(AV.sc (.int .i64 z13)), (AV.sc (.int .i64 z14)), (AV.sc (.int .i64 z15))])), (11, (AV.ptr 100004 0)), (10, (AV.sc (.int .i64 t24))), (29, t6), (30, (AV.sc (.int .i64 t24))), (31, v16), (32, (AV.sc (.int .i64 z18))), (33, (AV.ptr 100004 2)), (34, (AV.sc (.int .i64 z15))), (35, (AV.sc (.bool (decide (z18 > z15))))), (36, t9), (37, (AV.sc (.int .i64 t24))), (38, v19), (39, v20), (40, (AV.sc (.int .i64 (IntKind.wrap .i64 (t24 + (1))))))], m20, 100021⟩) else (
N0 ⟨[(4, t4), (5, (AV.sc (.int .i64 t5))), (6, t6), (9, t9), (22, t22), (23, (AV.sc (.int .i64 t23))), (24, (AV.sc (.int .i64 (IntKind.wrap .i64 (t24 + (1)))))), (25, (AV.sc (.bool (decide (t24 < t23))))), (26, (AV.sc (.int .i64 t24))), (27, v8), (28, (AV.agg [(AV.sc (.int .i64 z13)), (AV.sc (.int .i64 z14)), (AV.sc (.int .i64 z15))])), (11, (AV.ptr 100004 0)), (10, (AV.sc (.int .i64 t24))), (29, t6), (30, (AV.sc (.int .i64 t24))), (31, v16), (32, (AV.sc (.int .i64 z18))), (33, (AV.ptr 100004 2)), (34, (AV.sc (.int .i64 z15))), (35, (AV.sc (.bool (decide (z18 > z15))))), (40, (AV.sc (.int .i64 (IntKind.wrap .i64 (t24 + (1))))))], ((100004, some ⟨[(AV.sc (.int .i64 z13)), (AV.sc (.int .i64 z14)), (AV.sc (.int .i64 z15))], 64⟩) :: (100004, some ⟨[(AV.sc (.int .i64 (0))), (AV.sc (.int .i64 (0))), (AV.sc (.int .i64 (0)))], 64⟩) :: m), 100016⟩)) else (
retL R m [some t9, some (AV.sc (.int .i64 (0)))])
theorem B12_0_eq (t4 : AV) (t5 : Int) (t6 : AV) (t9 : AV) (t22 : AV) (t23 : Int) (t24 : Int) (m : Mem) (R : AV → Mem → Prop) (N0 : St → Prop) : W Try.prog KK 42 0 c12_0 (h12_0 t4 t5 t6 t9 t22 t23 t24 m) (qq12_0 R N0) = B12_0 t4 t5 t6 t9 t22 t23 t24 m R N0 := by kernel_rfl
theorem L12_0 (R : AV → Mem → Prop) {σ : Type} (I : σ → Prop) (t4 : σ → AV) (t5 : σ → Int) (t6 : σ → AV) (t9 : σ → AV) (t22 : σ → AV) (t23 : σ → Int) (t24 : σ → Int) (m : σ → Mem) (μ : σ → Nat) (step : ∀ x, I x → B12_0 (t4 x) (t5 x) (t6 x) (t9 x) (t22 x) (t23 x) (t24 x) (m x) R (fun s' => ∃ y, I y ∧ μ y < μ x ∧ Weak KK 42 0 s' (h12_0 (t4 y) (t5 y) (t6 y) (t9 y) (t22 y) (t23 y) (t24 y) (m y)))) (x : σ) (hx : I x) {s : St} (hw : Weak KK 42 0 s (h12_0 (t4 x) (t5 x) (t6 x) (t9 x) (t22 x) (t23 x) (t24 x) (m x))) : Tri Try.prog KK 42 0 (.loop c12_0) s (q12_0 R) :=
  Tri.weak hw (Tri.loops fol I (fun x => h12_0 (t4 x) (t5 x) (t6 x) (t9 x) (t22 x) (t23 x) (t24 x) (m x)) μ (fun x hx => (B12_0_eq (t4 x) (t5 x) (t6 x) (t9 x) (t22 x) (t23 x) (t24 x) (m x) R _).mpr (step x hx)) x hx)
noncomputable def F12 (a0 : AV) (a1 : AV) (R : AV → Mem → Prop) : Prop :=
callW Try.prog KK.gl [] 4 16 [a0, a1] fun v0 m0 =>
exT3 v0 fun c1 c2 c3 =>
ex_i64 c2 fun z4 =>
ex_i64 c3 fun z5 =>
bif (z5 != (0)) then (
retL R m0 [some AV.nils, some (AV.sc (.int .i64 z5))]) else (
opP (lenS a0) fun v6 =>
ex_i64 v6 fun z7 =>
Tri Try.prog KK 42 0 (.loop c12_0) ⟨[(0, a0), (1, a1), (4, AV.nils), (5, (AV.sc (.int .i64 (0)))), (13, a0), (14, a1), (15, (AV.tup [c1, (AV.sc (.int .i64 z4)), (AV.sc (.int .i64 z5))])), (12, (AV.tup [c1, (AV.sc (.int .i64 z4)), (AV.sc (.int .i64 z5))])), (16, c1), (17, (AV.sc (.int .i64 z4))), (18, (AV.sc (.int .i64 z5))), (6, c1), (7, (AV.sc (.int .i64 z4))), (8, (AV.sc (.int .i64 z5))), (19, (AV.sc (.int .i64 z5))), (20, (AV.sc (.bool (z5 != (0))))), (9, AV.nils), (22, a0), (23, (AV.sc (.int .i64 z7))), (24, (AV.sc (.int .i64 (0))))], m0, 81⟩ (q12_0 R))
theorem F12_own (a0 : AV) (a1 : AV) (R : AV → Mem → Prop) (h : F12 a0 a1 R) : Own Try.prog KK.gl 12 [a0, a1] R := own_of_F fol Try.func12 (code := c12) (by kernel_rfl) (by kernel_rfl) (by kernel_rfl) (X := F12 a0 a1 R) (by kernel_rfl) h
/- skyway/skywaykeep3.SlotFits$1 -/
noncomputable def c29 : Code := ((Try.f29).body).getD .skip
noncomputable def q29 (R : AV → Mem → Prop) : AExit → St → Prop := retQ Try.prog Try.f29 R
noncomputable def F29 (a0 : Int) (R : AV → Mem → Prop) : Prop :=
retL R [] [some (AV.sc (.bool (decide (a0 < (0)))))]
theorem F29_own (a0 : Int) (R : AV → Mem → Prop) (h : F29 a0 R) : Own Try.prog KK.gl 29 [(AV.sc (.int .i64 a0))] R := own_of_F fol Try.func29 (code := c29) (by kernel_rfl) (by kernel_rfl) (by kernel_rfl) (X := F29 a0 R) (by kernel_rfl) h
/- slices.IndexFunc[[]int,int] -/
noncomputable def c46 : Code := ((Try.f46).body).getD .skip
noncomputable def q46 (R : AV → Mem → Prop) : AExit → St → Prop := retQ Try.prog Try.f46 R
noncomputable def c46_0 : Code := loopB c46 0
noncomputable def q46_0 (R : AV → Mem → Prop) : AExit → St → Prop := contW Try.prog KK 19 0 c46 0 (q46 R)
noncomputable def qq46_0 (R : AV → Mem → Prop) (N0 : St → Prop) : AExit → St → Prop := thenQ N0 (q46_0 R)
def h46_0 (t0 : AV) (t1 : AV) (t4 : Int) (t7 : Int) (t8 : Int) (m : Mem) : St := ⟨[(0, t0), (1, t1), (4, (AV.sc (.int .i64 t4))), (7, (AV.sc (.int .i64 t7))), (8, (AV.sc (.int .i64 t8)))], m, 100000⟩
noncomputable def B46_0 (t0 : AV) (t1 : AV) (t4 : Int) (t7 : Int) (t8 : Int) (m : Mem) (R : AV → Mem → Prop) (N0 : St → Prop) : Prop :=
bif (decide (t8 < t7)) then (
opP (idxS 1 t0 (AV.sc (.int .i64 t8))) fun v2 =>
opP (ldS (mget m) v2) fun v3 =>
ex_i64 v3 fun z4 =>
fnArgs (some t1) (some [(AV.sc (.int .i64 z4))]) fun f5 a5 => bif KK.pm f5 then callQ Try.prog KK.gl m f5 a5 (fun v5 =>
exB v5 fun b6 =>
bif b6 then (
retL R m [some (AV.sc (.int .i64 t8))]) else (
N0 ⟨[(0, t0), (1, t1), (4, (AV.sc (.int .i64 t4))), (7, (AV.sc (.int .i64 t7))), (8, (AV.sc (.int .i64 (IntKind.wrap .i64 (t8 + (1)))))), (9, (AV.sc (.bool (decide (t8 < t7))))), (10, (AV.sc (.int .i64 t8))), (5, (AV.sc (.int .i64 t8))), (11, t1), (12, t0), (13, (AV.sc (.int .i64 t8))), (14, v2), (15, (AV.sc (.int .i64 z4))), (16, (AV.sc (.bool b6))), (18, (AV.sc (.int .i64 (IntKind.wrap .i64 (t8 + (1))))))], m, 100074⟩)) else callW Try.prog KK.gl m 100008 f5 a5 fun v5 m5 =>
exB v5 fun b6 =>
bif b6 then (
retL R m5 [some (AV.sc (.int .i64 t8))]) else (
N0 ⟨[(0, t0), (1, t1), (4, (AV.sc (.int .i64 t4))), (7, (AV.sc (.int .i64 t7))), (8, (AV.sc (.int .i64 (IntKind.wrap .i64 (t8 + (1)))))), (9, (AV.sc (.bool (decide (t8 < t7))))), (10, (AV.sc (.int .i64 t8))), (5, (AV.sc (.int .i64 t8))), (11, t1), (12, t0), (13, (AV.sc (.int .i64 t8))), (14, v2), (15, (AV.sc (.int .i64 z4))), (16, (AV.sc (.bool b6))), (18, (AV.sc (.int .i64 (IntKind.wrap .i64 (t8 + (1))))))], m5, 100074⟩)) else (
retL R m [some (AV.sc (.int .i64 (-1)))])
theorem B46_0_eq (t0 : AV) (t1 : AV) (t4 : Int) (t7 : Int) (t8 : Int) (m : Mem) (R : AV → Mem → Prop) (N0 : St → Prop) : W Try.prog KK 19 0 c46_0 (h46_0 t0 t1 t4 t7 t8 m) (qq46_0 R N0) = B46_0 t0 t1 t4 t7 t8 m R N0 := by kernel_rfl
theorem L46_0 (R : AV → Mem → Prop) {σ : Type} (I : σ → Prop) (t0 : σ → AV) (t1 : σ → AV) (t4 : σ → Int) (t7 : σ → Int) (t8 : σ → Int) (m : σ → Mem) (μ : σ → Nat) (step : ∀ x, I x → B46_0 (t0 x) (t1 x) (t4 x) (t7 x) (t8 x) (m x) R (fun s' => ∃ y, I y ∧ μ y < μ x ∧ Weak KK 19 0 s' (h46_0 (t0 y) (t1 y) (t4 y) (t7 y) (t8 y) (m y)))) (x : σ) (hx : I x) {s : St} (hw : Weak KK 19 0 s (h46_0 (t0 x) (t1 x) (t4 x) (t7 x) (t8 x) (m x))) : Tri Try.prog KK 19 0 (.loop c46_0) s (q46_0 R) :=
  Tri.weak hw (Tri.loops fol I (fun x => h46_0 (t0 x) (t1 x) (t4 x) (t7 x) (t8 x) (m x)) μ (fun x hx => (B46_0_eq (t0 x) (t1 x) (t4 x) (t7 x) (t8 x) (m x) R _).mpr (step x hx)) x hx)
noncomputable def F46 (a0 : AV) (a1 : AV) (R : AV → Mem → Prop) : Prop :=
opP (lenS a0) fun v0 =>
ex_i64 v0 fun z1 =>
Tri Try.prog KK 19 0 (.loop c46_0) ⟨[(0, a0), (1, a1), (4, (AV.sc (.int .i64 (0)))), (6, a0), (7, (AV.sc (.int .i64 z1))), (8, (AV.sc (.int .i64 (0))))], [], 4⟩ (q46_0 R)
theorem F46_own (a0 : AV) (a1 : AV) (R : AV → Mem → Prop) (h : F46 a0 a1 R) : Own Try.prog KK.gl 46 [a0, a1] R := own_of_F fol Try.func46 (code := c46) (by kernel_rfl) (by kernel_rfl) (by kernel_rfl) (X := F46 a0 a1 R) (by kernel_rfl) h
/- slices.ContainsFunc[[]int,int] -/
noncomputable def c28 : Code := ((Try.f28).body).getD .skip
noncomputable def q28 (R : AV → Mem → Prop) : AExit → St → Prop := retQ Try.prog Try.f28 R
noncomputable def F28 (a0 : AV) (a1 : AV) (R : AV → Mem → Prop) : Prop :=
callQ Try.prog KK.gl [] 46 [a0, a1] fun v0 =>
ex_i64 v0 fun z1 =>
retL R [] [some (AV.sc (.bool (decide (z1 ≥ (0)))))]
theorem F28_own (a0 : AV) (a1 : AV) (R : AV → Mem → Prop) (h : F28 a0 a1 R) : Own Try.prog KK.gl 28 [a0, a1] R := own_of_F fol Try.func28 (code := c28) (by kernel_rfl) (by kernel_rfl) (by kernel_rfl) (X := F28 a0 a1 R) (by kernel_rfl) h
/- skyway/skywaykeep3.SlotFits -/
noncomputable def c8 : Code := ((Try.f8).body).getD .skip
noncomputable def q8 (R : AV → Mem → Prop) : AExit → St → Prop := retQ Try.prog Try.f8 R
noncomputable def c8_0 : Code := loopB c8 0
noncomputable def q8_0 (R : AV → Mem → Prop) : AExit → St → Prop := contW Try.prog KK 91 0 c8 0 (q8 R)
noncomputable def qq8_0 (R : AV → Mem → Prop) (N0 : St → Prop) : AExit → St → Prop := thenQ N0 (q8_0 R)
def h8_0 (t0 : AV) (t1 : AV) (t4 : Bool) (t5 : AV) (t6 : Int) (t7 : AV) (t8 : AV) (t35 : AV) (t36 : Int) (t37 : Int) (m : Mem) : St := ⟨[(0, t0), (1, t1), (4, (AV.sc (.bool t4))), (5, t5), (6, (AV.sc (.int .i64 t6))), (7, t7), (8, t8), (35, t35), (36, (AV.sc (.int .i64 t36))), (37, (AV.sc (.int .i64 t37)))], m, 100000⟩
noncomputable def B8_0 (t0 : AV) (t1 : AV) (t4 : Bool) (t5 : AV) (t6 : Int) (t7 : AV) (t8 : AV) (t35 : AV) (t36 : Int) (t37 : Int) (m : Mem) (R : AV → Mem → Prop) (N0 : St → Prop) : Prop :=
bif (decide (t37 < t36)) then (
opP (idxS 3 t35 (AV.sc (.int .i64 t37))) fun v14 =>
opP (ldA (mget m) 3 v14) fun v15 =>
exA3 v15 fun c16 c17 c18 =>
exStr c16 fun s19 =>
exStr c17 fun s20 =>
ex_i64 c18 fun z21 =>
opN (bsl 100008 3 1 1 [(AV.sc (.int .i64 (0)))] [(0, (AV.sc (.int .i64 z21)))]) ((100003, some ⟨[(AV.sc (.string s19)), (AV.sc (.string s20)), (AV.sc (.int .i64 z21))], 49⟩) :: (100003, some ⟨[(AV.sc (.string ⟨#[]⟩)), (AV.sc (.string ⟨#[]⟩)), (AV.sc (.int .i64 (0)))], 49⟩) :: m) fun v22 m22 =>
opN (app (mget m22) 3 1 8 [(AV.sc (.int .i64 (0)))] 100009 t8 v22) m22 fun v23 m23 =>
N0 ⟨[(0, t0), (1, t1), (4, (AV.sc (.bool t4))), (5, t5), (6, (AV.sc (.int .i64 t6))), (7, t7), (8, v23), (35, t35), (36, (AV.sc (.int .i64 t36))), (37, (AV.sc (.int .i64 (IntKind.wrap .i64 (t37 + (1)))))), (38, (AV.sc (.bool (decide (t37 < t36))))), (39, v14), (40, (AV.agg [(AV.sc (.string s19)), (AV.sc (.string s20)), (AV.sc (.int .i64 z21))])), (10, (AV.ptr 100003 0)), (41, t8), (42, (AV.ptr 100003 2)), (43, (AV.sc (.int .i64 z21))), (44, v22), (45, v23), (46, (AV.sc (.int .i64 (IntKind.wrap .i64 (t37 + (1))))))], m23, 100013⟩) else (
callW Try.prog KK.gl m 100003 12 [t1, t8] fun v24 m24 =>
exT2 v24 fun c25 c26 =>
ex_i64 c26 fun z27 =>
callW Try.prog KK.gl m24 100074 16 [t1, t8] fun v28 m28 =>
exT3 v28 fun c29 c30 c31 =>
ex_i64 c30 fun z32 =>
ex_i64 c31 fun z33 =>
bif (t6 == (0)) then (
bif (z27 == (0)) then (
bif (z33 == (0)) then (
opP (lenS c25) fun v34 =>
ex_i64 v34 fun z35 =>
bif (z35 == (0)) then (
bif (z32 == (0)) then (
opP (lenS t5) fun v36 =>
ex_i64 v36 fun z37 =>
opP (lenS t0) fun v38 =>
ex_i64 v38 fun z39 =>
bif (z37 == z39) then (
callQ Try.prog KK.gl m28 28 [t7, (AV.fn 29 [])] fun v40 =>
exB v40 fun b41 =>
retL R m28 [some (AV.sc (.bool (!b41)))]) else (
retL R m28 [some (AV.sc (.bool false))])) else (
retL R m28 [some (AV.sc (.bool false))])) else (
retL R m28 [some (AV.sc (.bool false))])) else (
retL R m28 [some (AV.sc (.bool false))])) else (
retL R m28 [some (AV.sc (.bool false))])) else (
retL R m28 [some (AV.sc (.bool false))]))
theorem B8_0_eq (t0 : AV) (t1 : AV) (t4 : Bool) (t5 : AV) (t6 : Int) (t7 : AV) (t8 : AV) (t35 : AV) (t36 : Int) (t37 : Int) (m : Mem) (R : AV → Mem → Prop) (N0 : St → Prop) : W Try.prog KK 91 0 c8_0 (h8_0 t0 t1 t4 t5 t6 t7 t8 t35 t36 t37 m) (qq8_0 R N0) = B8_0 t0 t1 t4 t5 t6 t7 t8 t35 t36 t37 m R N0 := by kernel_rfl
theorem L8_0 (R : AV → Mem → Prop) {σ : Type} (I : σ → Prop) (t0 : σ → AV) (t1 : σ → AV) (t4 : σ → Bool) (t5 : σ → AV) (t6 : σ → Int) (t7 : σ → AV) (t8 : σ → AV) (t35 : σ → AV) (t36 : σ → Int) (t37 : σ → Int) (m : σ → Mem) (μ : σ → Nat) (step : ∀ x, I x → B8_0 (t0 x) (t1 x) (t4 x) (t5 x) (t6 x) (t7 x) (t8 x) (t35 x) (t36 x) (t37 x) (m x) R (fun s' => ∃ y, I y ∧ μ y < μ x ∧ Weak KK 91 0 s' (h8_0 (t0 y) (t1 y) (t4 y) (t5 y) (t6 y) (t7 y) (t8 y) (t35 y) (t36 y) (t37 y) (m y)))) (x : σ) (hx : I x) {s : St} (hw : Weak KK 91 0 s (h8_0 (t0 x) (t1 x) (t4 x) (t5 x) (t6 x) (t7 x) (t8 x) (t35 x) (t36 x) (t37 x) (m x))) : Tri Try.prog KK 91 0 (.loop c8_0) s (q8_0 R) :=
  Tri.weak hw (Tri.loops fol I (fun x => h8_0 (t0 x) (t1 x) (t4 x) (t5 x) (t6 x) (t7 x) (t8 x) (t35 x) (t36 x) (t37 x) (m x)) μ (fun x hx => (B8_0_eq (t0 x) (t1 x) (t4 x) (t5 x) (t6 x) (t7 x) (t8 x) (t35 x) (t36 x) (t37 x) (m x) R _).mpr (step x hx)) x hx)
noncomputable def F8 (a0 : AV) (a1 : AV) (R : AV → Mem → Prop) : Prop :=
callQ Try.prog KK.gl [] 18 [] fun v0 =>
exB v0 fun b1 =>
bif (!b1) then (
retL R [] [some (AV.sc (.bool false))]) else (
callW Try.prog KK.gl [] 68 19 [(AV.sc (.string ⟨#[82, 87, 89]⟩)), a0, a1] fun v2 m2 =>
exT2 v2 fun c3 c4 =>
ex_i64 c4 fun z5 =>
bif (z5 != (0)) then (
opP (lenS c3) fun v6 =>
ex_i64 v6 fun z7 =>
retL R m2 [some (AV.sc (.bool (z7 == (0))))]) else (
callW Try.prog KK.gl m2 141 27 [a0, c3] fun v8 m8 =>
exT2 v8 fun c9 c10 =>
ex_i64 c10 fun z11 =>
opP (lenS c3) fun v12 =>
ex_i64 v12 fun z13 =>
Tri Try.prog KK 91 0 (.loop c8_0) ⟨[(0, a0), (1, a1), (4, (AV.sc (.bool false))), (16, (AV.sc (.bool b1))), (17, (AV.sc (.bool (!b1)))), (19, a0), (20, a1), (21, (AV.tup [c3, (AV.sc (.int .i64 z5))])), (18, (AV.tup [c3, (AV.sc (.int .i64 z5))])), (22, c3), (23, (AV.sc (.int .i64 z5))), (5, c3), (6, (AV.sc (.int .i64 z11))), (24, (AV.sc (.int .i64 z5))), (25, (AV.sc (.bool (z5 != (0))))), (30, a0), (31, c3), (32, (AV.tup [c9, (AV.sc (.int .i64 z11))])), (29, (AV.tup [c9, (AV.sc (.int .i64 z11))])), (33, c9), (34, (AV.sc (.int .i64 z11))), (7, c9), (8, AV.nils), (35, c3), (36, (AV.sc (.int .i64 z13))), (37, (AV.sc (.int .i64 (0))))], m8, 214⟩ (q8_0 R)))
theorem F8_own (a0 : AV) (a1 : AV) (R : AV → Mem → Prop) (h : F8 a0 a1 R) : Own Try.prog KK.gl 8 [a0, a1] R := own_of_F fol Try.func8 (code := c8) (by kernel_rfl) (by kernel_rfl) (by kernel_rfl) (X := F8 a0 a1 R) (by kernel_rfl) h
/- slices.Clone[[]skyway/api.SlotDemand,skyway/api.SlotDemand] -/
noncomputable def c21 : Code := ((Try.f21).body).getD .skip
noncomputable def q21 (R : AV → Mem → Prop) : AExit → St → Prop := retQ Try.prog Try.f21 R
noncomputable def F21 (a0 : AV) (R : AV → Mem → Prop) : Prop :=
nilK a0 fun b0 =>
bif b0 then (
retL R [] [some AV.nils]) else (
opN (bsl 3 44 2 0 [(AV.sc (.string ⟨#[]⟩)), (AV.sc (.int .i64 (0)))] []) [] fun v2 m2 =>
opN (app (mget m2) 44 2 24 [(AV.sc (.string ⟨#[]⟩)), (AV.sc (.int .i64 (0)))] 5 v2 a0) m2 fun v3 m3 =>
retL R m3 [some v3])
theorem F21_own (a0 : AV) (R : AV → Mem → Prop) (h : F21 a0 R) : Own Try.prog KK.gl 21 [a0] R := own_of_F fol Try.func21 (code := c21) (by kernel_rfl) (by kernel_rfl) (by kernel_rfl) (X := F21 a0 R) (by kernel_rfl) h
/- slices.Clone[[]skyway/api.Slot,skyway/api.Slot] -/
noncomputable def c45 : Code := ((Try.f45).body).getD .skip
noncomputable def q45 (R : AV → Mem → Prop) : AExit → St → Prop := retQ Try.prog Try.f45 R
noncomputable def F45 (a0 : AV) (R : AV → Mem → Prop) : Prop :=
nilK a0 fun b0 =>
bif b0 then (
retL R [] [some AV.nils]) else (
opN (bsl 3 49 3 0 [(AV.sc (.string ⟨#[]⟩)), (AV.sc (.string ⟨#[]⟩)), (AV.sc (.int .i64 (0)))] []) [] fun v2 m2 =>
opN (app (mget m2) 49 3 40 [(AV.sc (.string ⟨#[]⟩)), (AV.sc (.string ⟨#[]⟩)), (AV.sc (.int .i64 (0)))] 5 v2 a0) m2 fun v3 m3 =>
retL R m3 [some v3])
theorem F45_own (a0 : AV) (R : AV → Mem → Prop) (h : F45 a0 R) : Own Try.prog KK.gl 45 [a0] R := own_of_F fol Try.func45 (code := c45) (by kernel_rfl) (by kernel_rfl) (by kernel_rfl) (X := F45 a0 R) (by kernel_rfl) h
end Go.Proofs.Ytfhcciepaangiaa
