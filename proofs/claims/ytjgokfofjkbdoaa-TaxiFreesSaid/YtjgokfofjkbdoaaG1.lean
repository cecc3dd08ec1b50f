/- Functions of the program as conditions on their answers; printed by wip/Gen.lean.txt. -/
import Derived.Test.YtjgokfofjkbdoaaGenBase
set_option linter.unusedVariables false
set_option maxRecDepth 100000
namespace Go.Proofs.Ytjgokfofjkbdoaa
/- skyway/skywaykeep3.TaxiFrees -/
noncomputable def c4 : Code := ((Try.f4).body).getD .skip
noncomputable def q4 (R : AV → Mem → Prop) : AExit → St → Prop := retQ Try.prog Try.f4 R
noncomputable def F4 (a0 : AV) (a1 : Int) (R : AV → Mem → Prop) : Prop :=
callQ Try.prog KK.gl [] 5 [] fun v0 =>
exB v0 fun b1 =>
bif (!b1) then (
retL R [] [some (AV.sc (.bool false))]) else (
opP (lenS a0) fun v2 =>
ex_i64 v2 fun z3 =>
bif (decide (z3 > (60))) then (
retL R [] [some (AV.sc (.bool true))]) else (
callQ Try.prog KK.gl [] 8 [a0] fun v4 =>
exT2 v4 fun c5 c6 =>
ex_i64 c5 fun z7 =>
ex_i64 c6 fun z8 =>
callQ Try.prog KK.gl [] 9 [a0, (AV.sc (.int .i64 a1))] fun v9 =>
ex_i64 v9 fun z10 =>
bif (decide (z10 > z7)) then (
retL R [] [some (AV.sc (.bool false))]) else (
bif (decide (z7 < (0))) then (
retL R [] [some (AV.sc (.bool false))]) else (
bif (z7 == (0)) then (
bif (z8 == (0)) then (
retL R [] [some (AV.sc (.bool true))]) else (
callQ Try.prog KK.gl [] 9 [a0, (AV.sc (.int .i64 z8))] fun v11 =>
ex_i64 v11 fun z12 =>
retL R [] [some (AV.sc (.bool (z12 == z7)))])) else (
callQ Try.prog KK.gl [] 9 [a0, (AV.sc (.int .i64 z8))] fun v13 =>
ex_i64 v13 fun z14 =>
retL R [] [some (AV.sc (.bool (z14 == z7)))])))))
theorem F4_own (a0 : AV) (a1 : Int) (R : AV → Mem → Prop) (h : F4 a0 a1 R) : Own Try.prog KK.gl 4 [a0, (AV.sc (.int .i64 a1))] R := own_of_F fol Try.func4 (code := c4) (by kernel_rfl) (by kernel_rfl) (by kernel_rfl) (X := F4 a0 a1 R) (by kernel_rfl) h
/- skyway/taxi.Most -/
noncomputable def c8 : Code := ((Try.f8).body).getD .skip
noncomputable def q8 (R : AV → Mem → Prop) : AExit → St → Prop := retQ Try.prog Try.f8 R
noncomputable def c8_0 : Code := loopB c8 0
noncomputable def q8_0 (R : AV → Mem → Prop) : AExit → St → Prop := contW Try.prog KK 43 0 c8 0 (q8 R)
noncomputable def qq8_0 (R : AV → Mem → Prop) (N0 : St → Prop) : AExit → St → Prop := thenQ N0 (q8_0 R)
def h8_0 (t0 : AV) (t2 : Int) (t3 : Int) (t4 : Int) (t5 : Int) (t9 : AV) (t10 : Int) (t11 : Int) (m : Mem) : St := ⟨[(0, t0), (2, (AV.sc (.int .i64 t2))), (3, (AV.sc (.int .i64 t3))), (4, (AV.sc (.int .i64 t4))), (5, (AV.sc (.int .i64 t5))), (9, t9), (10, (AV.sc (.int .i64 t10))), (11, (AV.sc (.int .i64 t11)))], m, 1000⟩
noncomputable def B8_0 (t0 : AV) (t2 : Int) (t3 : Int) (t4 : Int) (t5 : Int) (t9 : AV) (t10 : Int) (t11 : Int) (m : Mem) (R : AV → Mem → Prop) (N0 : St → Prop) : Prop :=
bif (decide (t11 < t10)) then (
opP (idxS 4 t9 (AV.sc (.int .i64 t11))) fun v2 =>
opP (ldA (mget m) 4 v2) fun v3 =>
exA4 v3 fun c4 c5 c6 c7 =>
exStr c4 fun s8 =>
ex_i64 c5 fun z9 =>
ex_i64 c6 fun z10 =>
ex_i64 c7 fun z11 =>
callQ Try.prog KK.gl ((1003, some ⟨[(AV.sc (.string s8)), (AV.sc (.int .i64 z9)), (AV.sc (.int .i64 z10)), (AV.sc (.int .i64 z11))], 31⟩) :: (1003, some ⟨[(AV.sc (.string ⟨#[]⟩)), (AV.sc (.int .i64 (0))), (AV.sc (.int .i64 (0))), (AV.sc (.int .i64 (0)))], 31⟩) :: m) 9 [t0, (AV.sc (.int .i64 z10))] fun v12 =>
ex_i64 v12 fun z13 =>
bif (decide (z13 > t4)) then (
N0 ⟨[(0, t0), (2, (AV.sc (.int .i64 t2))), (3, (AV.sc (.int .i64 t3))), (4, (AV.sc (.int .i64 z13))), (5, (AV.sc (.int .i64 z10))), (9, t9), (10, (AV.sc (.int .i64 t10))), (11, (AV.sc (.int .i64 (IntKind.wrap .i64 (t11 + (1)))))), (12, (AV.sc (.bool (decide (t11 < t10))))), (13, v2), (14, (AV.agg [(AV.sc (.string s8)), (AV.sc (.int .i64 z9)), (AV.sc (.int .i64 z10)), (AV.sc (.int .i64 z11))])), (7, (AV.ptr 1003 0)), (15, t0), (16, (AV.ptr 1003 2)), (17, (AV.sc (.int .i64 z10))), (18, (AV.sc (.int .i64 z13))), (8, (AV.sc (.int .i64 z13))), (19, (AV.sc (.int .i64 z13))), (20, (AV.sc (.int .i64 t4))), (21, (AV.sc (.bool (decide (z13 > t4))))), (22, (AV.sc (.bool true))), (23, (AV.tup [])), (24, (AV.tup [])), (25, (AV.tup [])), (26, (AV.tup [])), (27, (AV.tup [])), (28, (AV.tup [])), (29, (AV.tup [])), (30, (AV.tup [])), (31, (AV.tup [])), (32, (AV.tup [])), (33, (AV.tup [])), (34, (AV.tup [])), (35, (AV.tup [])), (36, (AV.sc (.bool true))), (37, (AV.sc (.int .i64 z13))), (38, (AV.ptr 1003 2)), (39, (AV.sc (.int .i64 z10))), (40, (AV.sc (.int .i64 (IntKind.wrap .i64 (t11 + (1))))))], ((1003, some ⟨[(AV.sc (.string s8)), (AV.sc (.int .i64 z9)), (AV.sc (.int .i64 z10)), (AV.sc (.int .i64 z11))], 31⟩) :: (1003, some ⟨[(AV.sc (.string ⟨#[]⟩)), (AV.sc (.int .i64 (0))), (AV.sc (.int .i64 (0))), (AV.sc (.int .i64 (0)))], 31⟩) :: m), 1085⟩) else (
bif (z13 == t4) then (
bif (decide (z13 > (0))) then (
bif (decide (z10 < t5)) then (
N0 ⟨[(0, t0), (2, (AV.sc (.int .i64 t2))), (3, (AV.sc (.int .i64 t3))), (4, (AV.sc (.int .i64 z13))), (5, (AV.sc (.int .i64 z10))), (9, t9), (10, (AV.sc (.int .i64 t10))), (11, (AV.sc (.int .i64 (IntKind.wrap .i64 (t11 + (1)))))), (12, (AV.sc (.bool (decide (t11 < t10))))), (13, v2), (14, (AV.agg [(AV.sc (.string s8)), (AV.sc (.int .i64 z9)), (AV.sc (.int .i64 z10)), (AV.sc (.int .i64 z11))])), (7, (AV.ptr 1003 0)), (15, t0), (16, (AV.ptr 1003 2)), (17, (AV.sc (.int .i64 z10))), (18, (AV.sc (.int .i64 z13))), (8, (AV.sc (.int .i64 z13))), (19, (AV.sc (.int .i64 z13))), (20, (AV.sc (.int .i64 t4))), (21, (AV.sc (.bool (decide (z13 > t4))))), (22, (AV.sc (.bool false))), (23, (AV.sc (.int .i64 z13))), (24, (AV.sc (.int .i64 t4))), (25, (AV.sc (.bool (z13 == t4)))), (26, (AV.sc (.bool true))), (27, (AV.sc (.int .i64 z13))), (28, (AV.sc (.bool (decide (z13 > (0)))))), (29, (AV.sc (.bool (decide (z13 > (0)))))), (30, (AV.sc (.bool true))), (31, (AV.ptr 1003 2)), (32, (AV.sc (.int .i64 z10))), (33, (AV.sc (.int .i64 t5))), (34, (AV.sc (.bool (decide (z10 < t5))))), (35, (AV.sc (.bool (decide (z10 < t5))))), (36, (AV.sc (.bool (decide (z10 < t5))))), (37, (AV.sc (.int .i64 z13))), (38, (AV.ptr 1003 2)), (39, (AV.sc (.int .i64 z10))), (40, (AV.sc (.int .i64 (IntKind.wrap .i64 (t11 + (1))))))], ((1003, some ⟨[(AV.sc (.string s8)), (AV.sc (.int .i64 z9)), (AV.sc (.int .i64 z10)), (AV.sc (.int .i64 z11))], 31⟩) :: (1003, some ⟨[(AV.sc (.string ⟨#[]⟩)), (AV.sc (.int .i64 (0))), (AV.sc (.int .i64 (0))), (AV.sc (.int .i64 (0)))], 31⟩) :: m), 1098⟩) else (
N0 ⟨[(0, t0), (2, (AV.sc (.int .i64 t2))), (3, (AV.sc (.int .i64 t3))), (4, (AV.sc (.int .i64 t4))), (5, (AV.sc (.int .i64 t5))), (9, t9), (10, (AV.sc (.int .i64 t10))), (11, (AV.sc (.int .i64 (IntKind.wrap .i64 (t11 + (1)))))), (12, (AV.sc (.bool (decide (t11 < t10))))), (13, v2), (14, (AV.agg [(AV.sc (.string s8)), (AV.sc (.int .i64 z9)), (AV.sc (.int .i64 z10)), (AV.sc (.int .i64 z11))])), (7, (AV.ptr 1003 0)), (15, t0), (16, (AV.ptr 1003 2)), (17, (AV.sc (.int .i64 z10))), (18, (AV.sc (.int .i64 z13))), (8, (AV.sc (.int .i64 z13))), (19, (AV.sc (.int .i64 z13))), (20, (AV.sc (.int .i64 t4))), (21, (AV.sc (.bool (decide (z13 > t4))))), (22, (AV.sc (.bool false))), (23, (AV.sc (.int .i64 z13))), (24, (AV.sc (.int .i64 t4))), (25, (AV.sc (.bool (z13 == t4)))), (26, (AV.sc (.bool true))), (27, (AV.sc (.int .i64 z13))), (28, (AV.sc (.bool (decide (z13 > (0)))))), (29, (AV.sc (.bool (decide (z13 > (0)))))), (30, (AV.sc (.bool true))), (31, (AV.ptr 1003 2)), (32, (AV.sc (.int .i64 z10))), (33, (AV.sc (.int .i64 t5))), (34, (AV.sc (.bool (decide (z10 < t5))))), (35, (AV.sc (.bool (decide (z10 < t5))))), (36, (AV.sc (.bool (decide (z10 < t5))))), (40, (AV.sc (.int .i64 (IntKind.wrap .i64 (t11 + (1))))))], ((1003, some ⟨[(AV.sc (.string s8)), (AV.sc (.int .i64 z9)), (AV.sc (.int .i64 z10)), (AV.sc (.int .i64 z11))], 31⟩) :: (1003, some ⟨[(AV.sc (.string ⟨#[]⟩)), (AV.sc (.int .i64 (0))), (AV.sc (.int .i64 (0))), (AV.sc (.int .i64 (0)))], 31⟩) :: m), 1093⟩)) else (
N0 ⟨[(0, t0), (2, (AV.sc (.int .i64 t2))), (3, (AV.sc (.int .i64 t3))), (4, (AV.sc (.int .i64 t4))), (5, (AV.sc (.int .i64 t5))), (9, t9), (10, (AV.sc (.int .i64 t10))), (11, (AV.sc (.int .i64 (IntKind.wrap .i64 (t11 + (1)))))), (12, (AV.sc (.bool (decide (t11 < t10))))), (13, v2), (14, (AV.agg [(AV.sc (.string s8)), (AV.sc (.int .i64 z9)), (AV.sc (.int .i64 z10)), (AV.sc (.int .i64 z11))])), (7, (AV.ptr 1003 0)), (15, t0), (16, (AV.ptr 1003 2)), (17, (AV.sc (.int .i64 z10))), (18, (AV.sc (.int .i64 z13))), (8, (AV.sc (.int .i64 z13))), (19, (AV.sc (.int .i64 z13))), (20, (AV.sc (.int .i64 t4))), (21, (AV.sc (.bool (decide (z13 > t4))))), (22, (AV.sc (.bool false))), (23, (AV.sc (.int .i64 z13))), (24, (AV.sc (.int .i64 t4))), (25, (AV.sc (.bool (z13 == t4)))), (26, (AV.sc (.bool true))), (27, (AV.sc (.int .i64 z13))), (28, (AV.sc (.bool (decide (z13 > (0)))))), (29, (AV.sc (.bool (decide (z13 > (0)))))), (30, (AV.sc (.bool false))), (31, (AV.tup [])), (32, (AV.tup [])), (33, (AV.tup [])), (34, (AV.tup [])), (35, (AV.sc (.bool false))), (36, (AV.sc (.bool false))), (40, (AV.sc (.int .i64 (IntKind.wrap .i64 (t11 + (1))))))], ((1003, some ⟨[(AV.sc (.string s8)), (AV.sc (.int .i64 z9)), (AV.sc (.int .i64 z10)), (AV.sc (.int .i64 z11))], 31⟩) :: (1003, some ⟨[(AV.sc (.string ⟨#[]⟩)), (AV.sc (.int .i64 (0))), (AV.sc (.int .i64 (0))), (AV.sc (.int .i64 (0)))], 31⟩) :: m), 1089⟩)) else (
N0 ⟨[(0, t0), (2, (AV.sc (.int .i64 t2))), (3, (AV.sc (.int .i64 t3))), (4, (AV.sc (.int .i64 t4))), (5, (AV.sc (.int .i64 t5))), (9, t9), (10, (AV.sc (.int .i64 t10))), (11, (AV.sc (.int .i64 (IntKind.wrap .i64 (t11 + (1)))))), (12, (AV.sc (.bool (decide (t11 < t10))))), (13, v2), (14, (AV.agg [(AV.sc (.string s8)), (AV.sc (.int .i64 z9)), (AV.sc (.int .i64 z10)), (AV.sc (.int .i64 z11))])), (7, (AV.ptr 1003 0)), (15, t0), (16, (AV.ptr 1003 2)), (17, (AV.sc (.int .i64 z10))), (18, (AV.sc (.int .i64 z13))), (8, (AV.sc (.int .i64 z13))), (19, (AV.sc (.int .i64 z13))), (20, (AV.sc (.int .i64 t4))), (21, (AV.sc (.bool (decide (z13 > t4))))), (22, (AV.sc (.bool false))), (23, (AV.sc (.int .i64 z13))), (24, (AV.sc (.int .i64 t4))), (25, (AV.sc (.bool (z13 == t4)))), (26, (AV.sc (.bool false))), (27, (AV.tup [])), (28, (AV.tup [])), (29, (AV.sc (.bool false))), (30, (AV.sc (.bool false))), (31, (AV.tup [])), (32, (AV.tup [])), (33, (AV.tup [])), (34, (AV.tup [])), (35, (AV.sc (.bool false))), (36, (AV.sc (.bool false))), (40, (AV.sc (.int .i64 (IntKind.wrap .i64 (t11 + (1))))))], ((1003, some ⟨[(AV.sc (.string s8)), (AV.sc (.int .i64 z9)), (AV.sc (.int .i64 z10)), (AV.sc (.int .i64 z11))], 31⟩) :: (1003, some ⟨[(AV.sc (.string ⟨#[]⟩)), (AV.sc (.int .i64 (0))), (AV.sc (.int .i64 (0))), (AV.sc (.int .i64 (0)))], 31⟩) :: m), 1087⟩))) else (
retL R m [some (AV.sc (.int .i64 t4)), some (AV.sc (.int .i64 t5))])
theorem B8_0_eq (t0 : AV) (t2 : Int) (t3 : Int) (t4 : Int) (t5 : Int) (t9 : AV) (t10 : Int) (t11 : Int) (m : Mem) (R : AV → Mem → Prop) (N0 : St → Prop) : W Try.prog KK 43 0 c8_0 (h8_0 t0 t2 t3 t4 t5 t9 t10 t11 m) (qq8_0 R N0) = B8_0 t0 t2 t3 t4 t5 t9 t10 t11 m R N0 := by kernel_rfl
theorem L8_0 (R : AV → Mem → Prop) {σ : Type} (I : σ → Prop) (t0 : σ → AV) (t2 : σ → Int) (t3 : σ → Int) (t4 : σ → Int) (t5 : σ → Int) (t9 : σ → AV) (t10 : σ → Int) (t11 : σ → Int) (m : σ → Mem) (μ : σ → Nat) (step : ∀ x, I x → B8_0 (t0 x) (t2 x) (t3 x) (t4 x) (t5 x) (t9 x) (t10 x) (t11 x) (m x) R (fun s' => ∃ y, I y ∧ μ y < μ x ∧ Weak KK 43 0 s' (h8_0 (t0 y) (t2 y) (t3 y) (t4 y) (t5 y) (t9 y) (t10 y) (t11 y) (m y)))) (x : σ) (hx : I x) {s : St} (hw : Weak KK 43 0 s (h8_0 (t0 x) (t2 x) (t3 x) (t4 x) (t5 x) (t9 x) (t10 x) (t11 x) (m x))) : Tri Try.prog KK 43 0 (.loop c8_0) s (q8_0 R) :=
  Tri.weak hw (Tri.loops fol I (fun x => h8_0 (t0 x) (t2 x) (t3 x) (t4 x) (t5 x) (t9 x) (t10 x) (t11 x) (m x)) μ (fun x hx => (B8_0_eq (t0 x) (t2 x) (t3 x) (t4 x) (t5 x) (t9 x) (t10 x) (t11 x) (m x) R _).mpr (step x hx)) x hx)
noncomputable def F8 (a0 : AV) (R : AV → Mem → Prop) : Prop :=
opP (lenS a0) fun v0 =>
ex_i64 v0 fun z1 =>
Tri Try.prog KK 43 0 (.loop c8_0) ⟨[(0, a0), (2, (AV.sc (.int .i64 (0)))), (3, (AV.sc (.int .i64 (0)))), (4, (AV.sc (.int .i64 (0)))), (5, (AV.sc (.int .i64 (0)))), (9, a0), (10, (AV.sc (.int .i64 z1))), (11, (AV.sc (.int .i64 (0))))], [], 7⟩ (q8_0 R)
theorem F8_own (a0 : AV) (R : AV → Mem → Prop) (h : F8 a0 R) : Own Try.prog KK.gl 8 [a0] R := own_of_F fol Try.func8 (code := c8) (by kernel_rfl) (by kernel_rfl) (by kernel_rfl) (X := F8 a0 R) (by kernel_rfl) h
/- skyway/taxi.Waiting -/
noncomputable def c9 : Code := ((Try.f9).body).getD .skip
noncomputable def q9 (R : AV → Mem → Prop) : AExit → St → Prop := retQ Try.prog Try.f9 R
noncomputable def c9_0 : Code := loopB c9 0
noncomputable def q9_0 (R : AV → Mem → Prop) : AExit → St → Prop := contW Try.prog KK 28 0 c9 0 (q9 R)
noncomputable def qq9_0 (R : AV → Mem → Prop) (N0 : St → Prop) : AExit → St → Prop := thenQ N0 (q9_0 R)
def h9_0 (t1 : Int) (t4 : Int) (t5 : Int) (t8 : AV) (t9 : Int) (t10 : Int) (m : Mem) : St := ⟨[(1, (AV.sc (.int .i64 t1))), (4, (AV.sc (.int .i64 t4))), (5, (AV.sc (.int .i64 t5))), (8, t8), (9, (AV.sc (.int .i64 t9))), (10, (AV.sc (.int .i64 t10)))], m, 1000⟩
noncomputable def B9_0 (t1 : Int) (t4 : Int) (t5 : Int) (t8 : AV) (t9 : Int) (t10 : Int) (m : Mem) (R : AV → Mem → Prop) (N0 : St → Prop) : Prop :=
bif (decide (t10 < t9)) then (
opP (idxS 4 t8 (AV.sc (.int .i64 t10))) fun v2 =>
opP (ldA (mget m) 4 v2) fun v3 =>
exA4 v3 fun c4 c5 c6 c7 =>
exStr c4 fun s8 =>
ex_i64 c5 fun z9 =>
ex_i64 c6 fun z10 =>
ex_i64 c7 fun z11 =>
bif (decide (t1 ≥ z10)) then (
bif (decide (t1 < z11)) then (
N0 ⟨[(1, (AV.sc (.int .i64 t1))), (4, (AV.sc (.int .i64 t4))), (5, (AV.sc (.int .i64 (IntKind.wrap .i64 (t5 + (1)))))), (8, t8), (9, (AV.sc (.int .i64 t9))), (10, (AV.sc (.int .i64 (IntKind.wrap .i64 (t10 + (1)))))), (11, (AV.sc (.bool (decide (t10 < t9))))), (12, v2), (13, (AV.agg [(AV.sc (.string s8)), (AV.sc (.int .i64 z9)), (AV.sc (.int .i64 z10)), (AV.sc (.int .i64 z11))])), (7, (AV.ptr 1003 0)), (14, (AV.sc (.int .i64 t1))), (15, (AV.ptr 1003 2)), (16, (AV.sc (.int .i64 z10))), (17, (AV.sc (.bool (decide (t1 ≥ z10))))), (18, (AV.sc (.bool true))), (19, (AV.sc (.int .i64 t1))), (20, (AV.ptr 1003 3)), (21, (AV.sc (.int .i64 z11))), (22, (AV.sc (.bool (decide (t1 < z11))))), (23, (AV.sc (.bool (decide (t1 < z11))))), (24, (AV.sc (.int .i64 t5))), (25, (AV.sc (.int .i64 (IntKind.wrap .i64 (t5 + (1)))))), (26, (AV.sc (.int .i64 (IntKind.wrap .i64 (t10 + (1))))))], ((1003, some ⟨[(AV.sc (.string s8)), (AV.sc (.int .i64 z9)), (AV.sc (.int .i64 z10)), (AV.sc (.int .i64 z11))], 31⟩) :: (1003, some ⟨[(AV.sc (.string ⟨#[]⟩)), (AV.sc (.int .i64 (0))), (AV.sc (.int .i64 (0))), (AV.sc (.int .i64 (0)))], 31⟩) :: m), 1020⟩) else (
N0 ⟨[(1, (AV.sc (.int .i64 t1))), (4, (AV.sc (.int .i64 t4))), (5, (AV.sc (.int .i64 t5))), (8, t8), (9, (AV.sc (.int .i64 t9))), (10, (AV.sc (.int .i64 (IntKind.wrap .i64 (t10 + (1)))))), (11, (AV.sc (.bool (decide (t10 < t9))))), (12, v2), (13, (AV.agg [(AV.sc (.string s8)), (AV.sc (.int .i64 z9)), (AV.sc (.int .i64 z10)), (AV.sc (.int .i64 z11))])), (7, (AV.ptr 1003 0)), (14, (AV.sc (.int .i64 t1))), (15, (AV.ptr 1003 2)), (16, (AV.sc (.int .i64 z10))), (17, (AV.sc (.bool (decide (t1 ≥ z10))))), (18, (AV.sc (.bool true))), (19, (AV.sc (.int .i64 t1))), (20, (AV.ptr 1003 3)), (21, (AV.sc (.int .i64 z11))), (22, (AV.sc (.bool (decide (t1 < z11))))), (23, (AV.sc (.bool (decide (t1 < z11))))), (26, (AV.sc (.int .i64 (IntKind.wrap .i64 (t10 + (1))))))], ((1003, some ⟨[(AV.sc (.string s8)), (AV.sc (.int .i64 z9)), (AV.sc (.int .i64 z10)), (AV.sc (.int .i64 z11))], 31⟩) :: (1003, some ⟨[(AV.sc (.string ⟨#[]⟩)), (AV.sc (.int .i64 (0))), (AV.sc (.int .i64 (0))), (AV.sc (.int .i64 (0)))], 31⟩) :: m), 1017⟩)) else (
N0 ⟨[(1, (AV.sc (.int .i64 t1))), (4, (AV.sc (.int .i64 t4))), (5, (AV.sc (.int .i64 t5))), (8, t8), (9, (AV.sc (.int .i64 t9))), (10, (AV.sc (.int .i64 (IntKind.wrap .i64 (t10 + (1)))))), (11, (AV.sc (.bool (decide (t10 < t9))))), (12, v2), (13, (AV.agg [(AV.sc (.string s8)), (AV.sc (.int .i64 z9)), (AV.sc (.int .i64 z10)), (AV.sc (.int .i64 z11))])), (7, (AV.ptr 1003 0)), (14, (AV.sc (.int .i64 t1))), (15, (AV.ptr 1003 2)), (16, (AV.sc (.int .i64 z10))), (17, (AV.sc (.bool (decide (t1 ≥ z10))))), (18, (AV.sc (.bool false))), (19, (AV.tup [])), (20, (AV.tup [])), (21, (AV.tup [])), (22, (AV.tup [])), (23, (AV.sc (.bool false))), (26, (AV.sc (.int .i64 (IntKind.wrap .i64 (t10 + (1))))))], ((1003, some ⟨[(AV.sc (.string s8)), (AV.sc (.int .i64 z9)), (AV.sc (.int .i64 z10)), (AV.sc (.int .i64 z11))], 31⟩) :: (1003, some ⟨[(AV.sc (.string ⟨#[]⟩)), (AV.sc (.int .i64 (0))), (AV.sc (.int .i64 (0))), (AV.sc (.int .i64 (0)))], 31⟩) :: m), 1013⟩)) else (
retL R m [some (AV.sc (.int .i64 t5))])
theorem B9_0_eq (t1 : Int) (t4 : Int) (t5 : Int) (t8 : AV) (t9 : Int) (t10 : Int) (m : Mem) (R : AV → Mem → Prop) (N0 : St → Prop) : W Try.prog KK 28 0 c9_0 (h9_0 t1 t4 t5 t8 t9 t10 m) (qq9_0 R N0) = B9_0 t1 t4 t5 t8 t9 t10 m R N0 := by kernel_rfl
theorem L9_0 (R : AV → Mem → Prop) {σ : Type} (I : σ → Prop) (t1 : σ → Int) (t4 : σ → Int) (t5 : σ → Int) (t8 : σ → AV) (t9 : σ → Int) (t10 : σ → Int) (m : σ → Mem) (μ : σ → Nat) (step : ∀ x, I x → B9_0 (t1 x) (t4 x) (t5 x) (t8 x) (t9 x) (t10 x) (m x) R (fun s' => ∃ y, I y ∧ μ y < μ x ∧ Weak KK 28 0 s' (h9_0 (t1 y) (t4 y) (t5 y) (t8 y) (t9 y) (t10 y) (m y)))) (x : σ) (hx : I x) {s : St} (hw : Weak KK 28 0 s (h9_0 (t1 x) (t4 x) (t5 x) (t8 x) (t9 x) (t10 x) (m x))) : Tri Try.prog KK 28 0 (.loop c9_0) s (q9_0 R) :=
  Tri.weak hw (Tri.loops fol I (fun x => h9_0 (t1 x) (t4 x) (t5 x) (t8 x) (t9 x) (t10 x) (m x)) μ (fun x hx => (B9_0_eq (t1 x) (t4 x) (t5 x) (t8 x) (t9 x) (t10 x) (m x) R _).mpr (step x hx)) x hx)
noncomputable def F9 (a0 : AV) (a1 : Int) (R : AV → Mem → Prop) : Prop :=
opP (lenS a0) fun v0 =>
ex_i64 v0 fun z1 =>
Tri Try.prog KK 28 0 (.loop c9_0) ⟨[(0, a0), (1, (AV.sc (.int .i64 a1))), (4, (AV.sc (.int .i64 (0)))), (5, (AV.sc (.int .i64 (0)))), (8, a0), (9, (AV.sc (.int .i64 z1))), (10, (AV.sc (.int .i64 (0))))], [], 5⟩ (q9_0 R)
theorem F9_own (a0 : AV) (a1 : Int) (R : AV → Mem → Prop) (h : F9 a0 a1 R) : Own Try.prog KK.gl 9 [a0, (AV.sc (.int .i64 a1))] R := own_of_F fol Try.func9 (code := c9) (by kernel_rfl) (by kernel_rfl) (by kernel_rfl) (X := F9 a0 a1 R) (by kernel_rfl) h
end Go.Proofs.Ytjgokfofjkbdoaa
