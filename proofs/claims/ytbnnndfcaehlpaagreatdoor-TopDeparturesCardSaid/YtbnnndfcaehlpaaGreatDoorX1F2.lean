/- Functions of the program as conditions on their answers; printed by wip/Gen.lean.txt. -/
import Derived.Test.YtbnnndfcaehlpaaGreatDoorX1T
set_option linter.unusedVariables false
set_option maxRecDepth 100000
set_option maxHeartbeats 4000000
namespace Go.Proofs.YtbnnndfcaehlpaaGreatDoor
/- skyway/taxi.Check -/
noncomputable def c94 : Code := ((Tryz.f94).body).getD .skip
noncomputable def q94 (R : AV → Mem → Prop) : AExit → St → Prop := retQ pg Tryz.f94 R
noncomputable def c94_0 : Code := loopB c94 0
noncomputable def q94_0 (R : AV → Mem → Prop) : AExit → St → Prop := contW pg KK 50 0 c94 0 (q94 R)
noncomputable def qq94_0 (R : AV → Mem → Prop) (N0 : St → Prop) : AExit → St → Prop := thenQ N0 (q94_0 R)
def h94_0 (t0 : AV) (t1 : AV) (t4 : Int) (t16 : AV) (t17 : Int) (t18 : Int) (m : Mem) : St := ⟨[(0, t0), (1, t1), (4, (intA t4)), (16, t16), (17, (intA t17)), (18, (intA t18))], m, 100000⟩
noncomputable def B94_0 (t0 : AV) (t1 : AV) (t4 : Int) (t16 : AV) (t17 : Int) (t18 : Int) (m : Mem) (R : AV → Mem → Prop) (N0 : St → Prop) : Prop :=
bif (decide (t18 < t17)) then (
opP (idxS 3 t16 (intA t18)) fun v6 =>
opP (ldA (mget m) 3 v6) fun v7 =>
exA3 v7 fun c8 c9 c10 =>
exStr c8 fun s11 =>
exStr c9 fun s12 =>
ex_i64 c10 fun z13 =>
callQ pg KK.gl ((100004, some ⟨[(AV.sc (.string s11)), (AV.sc (.string s12)), (intA z13)], 113⟩) :: (100004, some ⟨[(AV.sc (.string ⟨#[]⟩)), (AV.sc (.string ⟨#[]⟩)), (intA (0))], 113⟩) :: m) 50 [(AV.sc (.string s11))] fun v14 =>
exB v14 fun b15 =>
bif (!b15) then (
retL R ((100004, some ⟨[(AV.sc (.string s11)), (AV.sc (.string s12)), (intA z13)], 113⟩) :: (100004, some ⟨[(AV.sc (.string ⟨#[]⟩)), (AV.sc (.string ⟨#[]⟩)), (intA (0))], 113⟩) :: m) [some (intA (3))]) else (
callQ pg KK.gl ((100004, some ⟨[(AV.sc (.string s11)), (AV.sc (.string s12)), (intA z13)], 113⟩) :: (100004, some ⟨[(AV.sc (.string ⟨#[]⟩)), (AV.sc (.string ⟨#[]⟩)), (intA (0))], 113⟩) :: m) 95 [t0, (AV.sc (.string s12))] fun v16 =>
ex_i64 v16 fun z17 =>
bif (decide (z17 < (0))) then (
retL R ((100004, some ⟨[(AV.sc (.string s11)), (AV.sc (.string s12)), (intA z13)], 113⟩) :: (100004, some ⟨[(AV.sc (.string ⟨#[]⟩)), (AV.sc (.string ⟨#[]⟩)), (intA (0))], 113⟩) :: m) [some (intA (6))]) else (
bif (decide (z13 < (0))) then (
retL R ((100004, some ⟨[(AV.sc (.string s11)), (AV.sc (.string s12)), (intA z13)], 113⟩) :: (100004, some ⟨[(AV.sc (.string ⟨#[]⟩)), (AV.sc (.string ⟨#[]⟩)), (intA (0))], 113⟩) :: m) [some (intA (12))]) else (
bif (decide (z13 > (200000))) then (
retL R ((100004, some ⟨[(AV.sc (.string s11)), (AV.sc (.string s12)), (intA z13)], 113⟩) :: (100004, some ⟨[(AV.sc (.string ⟨#[]⟩)), (AV.sc (.string ⟨#[]⟩)), (intA (0))], 113⟩) :: m) [some (intA (12))]) else (
opP (opA pg (.slice 23 (.tmp 0) none (some (.tmp 1)) none) 23 [t1, (intA t18)] (mget ((100004, some ⟨[(AV.sc (.string s11)), (AV.sc (.string s12)), (intA z13)], 113⟩) :: (100004, some ⟨[(AV.sc (.string ⟨#[]⟩)), (AV.sc (.string ⟨#[]⟩)), (intA (0))], 113⟩) :: m)) 100155) fun v18 =>
callQ pg KK.gl ((100004, some ⟨[(AV.sc (.string s11)), (AV.sc (.string s12)), (intA z13)], 113⟩) :: (100004, some ⟨[(AV.sc (.string ⟨#[]⟩)), (AV.sc (.string ⟨#[]⟩)), (intA (0))], 113⟩) :: m) 153 [v18, (AV.fn 154 [(AV.ptr 100004 0)])] fun v19 =>
exB v19 fun b20 =>
bif b20 then (
retL R ((100004, some ⟨[(AV.sc (.string s11)), (AV.sc (.string s12)), (intA z13)], 113⟩) :: (100004, some ⟨[(AV.sc (.string ⟨#[]⟩)), (AV.sc (.string ⟨#[]⟩)), (intA (0))], 113⟩) :: m) [some (intA (7))]) else (
N0 ⟨[(0, t0), (1, t1), (4, (intA t4)), (16, t16), (17, (intA t17)), (18, (intA (IntKind.wrap .i64 (t18 + (1))))), (19, (boolA (decide (t18 < t17)))), (20, (intA t18)), (21, v6), (22, (AV.agg [(AV.sc (.string s11)), (AV.sc (.string s12)), (intA z13)])), (7, (AV.ptr 100004 0)), (6, (intA t18)), (24, (AV.ptr 100004 0)), (25, (AV.sc (.string s11))), (26, (boolA b15)), (27, (boolA (!b15))), (23, (boolA (!b15))), (29, t0), (30, (AV.ptr 100004 1)), (31, (AV.sc (.string s12))), (32, (intA z17)), (33, (boolA (decide (z17 < (0))))), (28, (boolA (decide (z17 < (0))))), (35, (AV.ptr 100004 2)), (36, (intA z13)), (37, (boolA (decide (z13 < (0))))), (38, (boolA false)), (39, (AV.ptr 100004 2)), (40, (intA z13)), (41, (boolA (decide (z13 > (200000))))), (42, (boolA (decide (z13 > (200000))))), (34, (boolA (decide (z13 > (200000))))), (44, t1), (45, (intA t18)), (46, v18), (47, (AV.fn 154 [(AV.ptr 100004 0)])), (48, (boolA b20)), (43, (boolA b20)), (49, (intA (IntKind.wrap .i64 (t18 + (1)))))], ((100004, some ⟨[(AV.sc (.string s11)), (AV.sc (.string s12)), (intA z13)], 113⟩) :: (100004, some ⟨[(AV.sc (.string ⟨#[]⟩)), (AV.sc (.string ⟨#[]⟩)), (intA (0))], 113⟩) :: m), 100224⟩)))))) else (
retL R m [some (intA (0))])
theorem B94_0_eq (t0 : AV) (t1 : AV) (t4 : Int) (t16 : AV) (t17 : Int) (t18 : Int) (m : Mem) (R : AV → Mem → Prop) (N0 : St → Prop) : W pg KK 50 0 c94_0 (h94_0 t0 t1 t4 t16 t17 t18 m) (qq94_0 R N0) = B94_0 t0 t1 t4 t16 t17 t18 m R N0 := by kernel_rfl
theorem L94_0 (R : AV → Mem → Prop) {σ : Type} (I : σ → Prop) (t0 : σ → AV) (t1 : σ → AV) (t4 : σ → Int) (t16 : σ → AV) (t17 : σ → Int) (t18 : σ → Int) (m : σ → Mem) (μ : σ → Nat) (step : ∀ x, I x → B94_0 (t0 x) (t1 x) (t4 x) (t16 x) (t17 x) (t18 x) (m x) R (fun s' => ∃ y, I y ∧ μ y < μ x ∧ Weak KK 50 0 s' (h94_0 (t0 y) (t1 y) (t4 y) (t16 y) (t17 y) (t18 y) (m y)))) (x : σ) (hx : I x) {s : St} (hw : Weak KK 50 0 s (h94_0 (t0 x) (t1 x) (t4 x) (t16 x) (t17 x) (t18 x) (m x))) : Tri pg KK 50 0 (.loop c94_0) s (q94_0 R) :=
  Tri.weak hw (Tri.loops fol I (fun x => h94_0 (t0 x) (t1 x) (t4 x) (t16 x) (t17 x) (t18 x) (m x)) μ (fun x hx => (B94_0_eq (t0 x) (t1 x) (t4 x) (t16 x) (t17 x) (t18 x) (m x) R _).mpr (step x hx)) x hx)
noncomputable def F94 (a0 : AV) (a1 : AV) (R : AV → Mem → Prop) : Prop :=
callQ pg KK.gl [] 152 [a0] fun v0 =>
ex_i64 v0 fun z1 =>
bif (z1 != (0)) then (
retL R [] [some (intA z1)]) else (
opP (lenS a1) fun v2 =>
ex_i64 v2 fun z3 =>
bif (decide (z3 > (16))) then (
retL R [] [some (intA (2))]) else (
opP (lenS a1) fun v4 =>
ex_i64 v4 fun z5 =>
Tri pg KK 50 0 (.loop c94_0) ⟨[(0, a0), (1, a1), (4, (intA (0))), (8, a0), (9, (intA z1)), (5, (intA z1)), (10, (intA z1)), (11, (boolA (z1 != (0)))), (13, a1), (14, (intA z3)), (15, (boolA (decide (z3 > (16))))), (16, a1), (17, (intA z5)), (18, (intA (0)))], [], 75⟩ (q94_0 R)))
theorem F94_own (a0 : AV) (a1 : AV) (R : AV → Mem → Prop) (h : F94 a0 a1 R) : Own pg KK.gl 94 [a0, a1] R := own_of_F fol Tryz.func94 (code := c94) (by kernel_rfl) (by kernel_rfl) (by kernel_rfl) (X := F94 a0 a1 R) (by kernel_rfl) h
/- cmp.isNaN[string] -/
noncomputable def c145 : Code := ((Tryz.f145).body).getD .skip
noncomputable def q145 (R : AV → Mem → Prop) : AExit → St → Prop := retQ pg Tryz.f145 R
noncomputable def F145 (a0 : ByteArray) (R : AV → Mem → Prop) : Prop :=
retL R [] [some (boolA (!((a0).toList == (a0).toList)))]
theorem F145_own (a0 : ByteArray) (R : AV → Mem → Prop) (h : F145 a0 R) : Own pg KK.gl 145 [(AV.sc (.string a0))] R := own_of_F fol Tryz.func145 (code := c145) (by kernel_rfl) (by kernel_rfl) (by kernel_rfl) (X := F145 a0 R) (by kernel_rfl) h
/- cmp.Compare[string] -/
noncomputable def c85 : Code := ((Tryz.f85).body).getD .skip
noncomputable def q85 (R : AV → Mem → Prop) : AExit → St → Prop := retQ pg Tryz.f85 R
noncomputable def F85 (a0 : ByteArray) (a1 : ByteArray) (R : AV → Mem → Prop) : Prop :=
callQ pg KK.gl [] 145 [(AV.sc (.string a0))] fun v0 =>
exB v0 fun b1 =>
callQ pg KK.gl [] 145 [(AV.sc (.string a1))] fun v2 =>
exB v2 fun b3 =>
bif b1 then (
bif b3 then (
retL R [] [some (intA (0))]) else (
retL R [] [some (intA (-1))])) else (
bif b3 then (
retL R [] [some (intA (1))]) else (
bif (Op.bytesLess (a0).toList (a1).toList) then (
retL R [] [some (intA (-1))]) else (
bif (!(Op.bytesLess (a0).toList (a1).toList || (a0).toList == (a1).toList)) then (
retL R [] [some (intA (1))]) else (
retL R [] [some (intA (0))]))))
theorem F85_own (a0 : ByteArray) (a1 : ByteArray) (R : AV → Mem → Prop) (h : F85 a0 a1 R) : Own pg KK.gl 85 [(AV.sc (.string a0)), (AV.sc (.string a1))] R := own_of_F fol Tryz.func85 (code := c85) (by kernel_rfl) (by kernel_rfl) (by kernel_rfl) (X := F85 a0 a1 R) (by kernel_rfl) h
/- cmp.Or[int] -/
noncomputable def c84 : Code := ((Tryz.f84).body).getD .skip
noncomputable def q84 (R : AV → Mem → Prop) : AExit → St → Prop := retQ pg Tryz.f84 R
noncomputable def c84_0 : Code := loopB c84 0
noncomputable def q84_0 (R : AV → Mem → Prop) : AExit → St → Prop := contW pg KK 18 0 c84 0 (q84 R)
noncomputable def qq84_0 (R : AV → Mem → Prop) (N0 : St → Prop) : AExit → St → Prop := thenQ N0 (q84_0 R)
def h84_0 (t2 : Int) (t3 : Int) (t6 : AV) (t7 : Int) (t8 : Int) (m : Mem) : St := ⟨[(2, (intA t2)), (3, (intA t3)), (6, t6), (7, (intA t7)), (8, (intA t8))], m, 100000⟩
noncomputable def B84_0 (t2 : Int) (t3 : Int) (t6 : AV) (t7 : Int) (t8 : Int) (m : Mem) (R : AV → Mem → Prop) (N0 : St → Prop) : Prop :=
bif (decide (t8 < t7)) then (
opP (idxS 1 t6 (intA t8)) fun v2 =>
opP (ldS (mget m) v2) fun v3 =>
ex_i64 v3 fun z4 =>
bif (z4 != t3) then (
retL R m [some (intA z4)]) else (
N0 ⟨[(2, (intA t2)), (3, (intA t3)), (6, t6), (7, (intA t7)), (8, (intA (IntKind.wrap .i64 (t8 + (1))))), (9, (boolA (decide (t8 < t7)))), (10, v2), (11, (intA z4)), (5, (intA z4)), (12, (intA z4)), (13, (intA t3)), (14, (boolA (z4 != t3))), (16, (intA (IntKind.wrap .i64 (t8 + (1)))))], m, 100009⟩)) else (
retL R m [some (intA t3)])
theorem B84_0_eq (t2 : Int) (t3 : Int) (t6 : AV) (t7 : Int) (t8 : Int) (m : Mem) (R : AV → Mem → Prop) (N0 : St → Prop) : W pg KK 18 0 c84_0 (h84_0 t2 t3 t6 t7 t8 m) (qq84_0 R N0) = B84_0 t2 t3 t6 t7 t8 m R N0 := by kernel_rfl
theorem L84_0 (R : AV → Mem → Prop) {σ : Type} (I : σ → Prop) (t2 : σ → Int) (t3 : σ → Int) (t6 : σ → AV) (t7 : σ → Int) (t8 : σ → Int) (m : σ → Mem) (μ : σ → Nat) (step : ∀ x, I x → B84_0 (t2 x) (t3 x) (t6 x) (t7 x) (t8 x) (m x) R (fun s' => ∃ y, I y ∧ μ y < μ x ∧ Weak KK 18 0 s' (h84_0 (t2 y) (t3 y) (t6 y) (t7 y) (t8 y) (m y)))) (x : σ) (hx : I x) {s : St} (hw : Weak KK 18 0 s (h84_0 (t2 x) (t3 x) (t6 x) (t7 x) (t8 x) (m x))) : Tri pg KK 18 0 (.loop c84_0) s (q84_0 R) :=
  Tri.weak hw (Tri.loops fol I (fun x => h84_0 (t2 x) (t3 x) (t6 x) (t7 x) (t8 x) (m x)) μ (fun x hx => (B84_0_eq (t2 x) (t3 x) (t6 x) (t7 x) (t8 x) (m x) R _).mpr (step x hx)) x hx)
noncomputable def F84 (a0 : AV) (R : AV → Mem → Prop) : Prop :=
opP (lenS a0) fun v0 =>
ex_i64 v0 fun z1 =>
Tri pg KK 18 0 (.loop c84_0) ⟨[(0, a0), (2, (intA (0))), (3, (intA (0))), (6, a0), (7, (intA z1)), (8, (intA (0)))], [], 5⟩ (q84_0 R)
theorem F84_own (a0 : AV) (R : AV → Mem → Prop) (h : F84 a0 R) : Own pg KK.gl 84 [a0] R := own_of_F fol Tryz.func84 (code := c84) (by kernel_rfl) (by kernel_rfl) (by kernel_rfl) (X := F84 a0 R) (by kernel_rfl) h
/- skyway/taxi.Queue$1 -/
noncomputable def c97 : Code := ((Tryz.f97).body).getD .skip
noncomputable def q97 (R : AV → Mem → Prop) : AExit → St → Prop := retQ pg Tryz.f97 R
noncomputable def F97 (a0_0 : ByteArray) (a0_1 : Int) (a0_2 : Int) (a0_3 : Int) (a1_0 : ByteArray) (a1_1 : Int) (a1_2 : Int) (a1_3 : Int) (R : AV → Mem → Prop) : Prop :=
opM (ldS (look' ((1, some ⟨[(AV.sc (.string a1_0)), (intA a1_1), (intA a1_2), (intA a1_3)], 38⟩) :: (0, some ⟨[(AV.sc (.string a0_0)), (intA a0_1), (intA a0_2), (intA a0_3)], 38⟩) :: []) (topId (AV.ptr 0 2) ++ ([]))) (AV.ptr 0 2)) fun v0 d0 =>
ex_i64 v0 fun z1 =>
opM (ldS (look' (mpushs ((1, some ⟨[(AV.sc (.string a1_0)), (intA a1_1), (intA a1_2), (intA a1_3)], 38⟩) :: (0, some ⟨[(AV.sc (.string a0_0)), (intA a0_1), (intA a0_2), (intA a0_3)], 38⟩) :: []) d0) (topId (AV.ptr 1 2) ++ ([]))) (AV.ptr 1 2)) fun v2 d2 =>
ex_i64 v2 fun z3 =>
opM (ldS (look' (mpushs (mpushs ((1, some ⟨[(AV.sc (.string a1_0)), (intA a1_1), (intA a1_2), (intA a1_3)], 38⟩) :: (0, some ⟨[(AV.sc (.string a0_0)), (intA a0_1), (intA a0_2), (intA a0_3)], 38⟩) :: []) d0) d2) (topId (AV.ptr 0 0) ++ ([]))) (AV.ptr 0 0)) fun v4 d4 =>
exStr v4 fun s5 =>
opM (ldS (look' (mpushs (mpushs (mpushs ((1, some ⟨[(AV.sc (.string a1_0)), (intA a1_1), (intA a1_2), (intA a1_3)], 38⟩) :: (0, some ⟨[(AV.sc (.string a0_0)), (intA a0_1), (intA a0_2), (intA a0_3)], 38⟩) :: []) d0) d2) d4) (topId (AV.ptr 1 0) ++ ([]))) (AV.ptr 1 0)) fun v6 d6 =>
exStr v6 fun s7 =>
callF pg KK.gl (mpushs (mpushs (mpushs (mpushs ((1, some ⟨[(AV.sc (.string a1_0)), (intA a1_1), (intA a1_2), (intA a1_3)], 38⟩) :: (0, some ⟨[(AV.sc (.string a0_0)), (intA a0_1), (intA a0_2), (intA a0_3)], 38⟩) :: []) d0) d2) d4) d6) 12 85 [(AV.sc (.string s5)), (AV.sc (.string s7))] fun v8 d8 ft8 =>
ex_i64 v8 fun z9 =>
opM (bsl 13 3 1 2 [(intA (0))] [(0, (intA (IntKind.wrap .i64 (z1 - z3)))), (1, (intA z9))]) fun v10 d10 =>
callF pg KK.gl (mpushs (mpushs (mpushs (mpushs (mpushs (mpushs ((1, some ⟨[(AV.sc (.string a1_0)), (intA a1_1), (intA a1_2), (intA a1_3)], 38⟩) :: (0, some ⟨[(AV.sc (.string a0_0)), (intA a0_1), (intA a0_2), (intA a0_3)], 38⟩) :: []) d0) d2) d4) d6) d8) d10) 14 84 [v10] fun v11 d11 ft11 =>
ex_i64 v11 fun z12 =>
chk (confOk [0, 1, 0, 4, 15, 0, 32, 0, 128, 480, 1023, 2047, 4095] [⟨[], []⟩, ⟨d0, (topId (AV.ptr 0 2) ++ ([]))⟩, ⟨[], []⟩, ⟨d2, (topId (AV.ptr 1 2) ++ ([]))⟩, ⟨[], []⟩, ⟨[], []⟩, ⟨d4, (topId (AV.ptr 0 0) ++ ([]))⟩, ⟨[], []⟩, ⟨d6, (topId (AV.ptr 1 0) ++ ([]))⟩, ⟨d8, ft8⟩, ⟨d10, []⟩, ⟨d11, ft11⟩, ⟨[], []⟩]) (retL R (mpushs (mpushs (mpushs (mpushs (mpushs (mpushs (mpushs ((1, some ⟨[(AV.sc (.string a1_0)), (intA a1_1), (intA a1_2), (intA a1_3)], 38⟩) :: (0, some ⟨[(AV.sc (.string a0_0)), (intA a0_1), (intA a0_2), (intA a0_3)], 38⟩) :: []) d0) d2) d4) d6) d8) d10) d11) [some (intA z12)])
theorem F97_own (a0_0 : ByteArray) (a0_1 : Int) (a0_2 : Int) (a0_3 : Int) (a1_0 : ByteArray) (a1_1 : Int) (a1_2 : Int) (a1_3 : Int) (R : AV → Mem → Prop) (h : F97 a0_0 a0_1 a0_2 a0_3 a1_0 a1_1 a1_2 a1_3 R) : Own pg KK.gl 97 [(AV.agg [(AV.sc (.string a0_0)), (intA a0_1), (intA a0_2), (intA a0_3)]), (AV.agg [(AV.sc (.string a1_0)), (intA a1_1), (intA a1_2), (intA a1_3)])] R := own_of_F fol Tryz.func97 (code := c97) (by kernel_rfl) (by kernel_rfl) (by kernel_rfl) (X := F97 a0_0 a0_1 a0_2 a0_3 a1_0 a1_1 a1_2 a1_3 R) (by kernel_rfl) h
/- skyway/taxi.Queue -/
noncomputable def c26 : Code := ((Tryz.f26).body).getD .skip
noncomputable def q26 (R : AV → Mem → Prop) : AExit → St → Prop := retQ pg Tryz.f26 R
noncomputable def c26_0 : Code := loopB c26 0
noncomputable def q26_0 (R : AV → Mem → Prop) : AExit → St → Prop := contW pg KK 95 0 c26 0 (q26 R)
noncomputable def qq26_0 (R : AV → Mem → Prop) (N0 : St → Prop) : AExit → St → Prop := thenQ N0 (q26_0 R)
def h26_0 (t0 : AV) (t2 : Int) (t6 : AV) (t7 : Int) (t9 : AV) (t25 : AV) (t26 : Int) (t27 : Int) (m : Mem) : St := ⟨[(0, t0), (2, (intA t2)), (6, t6), (7, (intA t7)), (9, t9), (25, t25), (26, (intA t26)), (27, (intA t27))], m, 100000⟩
noncomputable def c26_1 : Code := loopB c26 1
noncomputable def q26_1 (R : AV → Mem → Prop) : AExit → St → Prop := contW pg KK 95 0 c26 1 (q26 R)
noncomputable def qq26_1 (R : AV → Mem → Prop) (N0 : St → Prop) : AExit → St → Prop := thenQ N0 (q26_1 R)
def h26_1 (t2 : Int) (t6 : AV) (t7 : Int) (t9 : AV) (t54 : Int) (t55 : Int) (m : Mem) : St := ⟨[(2, (intA t2)), (6, t6), (7, (intA t7)), (9, t9), (54, (intA t54)), (55, (intA t55))], m, 200000⟩
noncomputable def B26_0 (t0 : AV) (t2 : Int) (t6 : AV) (t7 : Int) (t9 : AV) (t25 : AV) (t26 : Int) (t27 : Int) (m : Mem) (R : AV → Mem → Prop) (N0 : St → Prop) : Prop :=
bif (decide (t27 < t26)) then (
opP (idxS 3 t25 (intA t27)) fun v4 =>
opP (ldA (mget m) 3 v4) fun v5 =>
exA3 v5 fun c6 c7 c8 =>
exStr c6 fun s9 =>
exStr c7 fun s10 =>
ex_i64 c8 fun z11 =>
opM (ldS (look' ((100003, some ⟨[(AV.sc (.string s9)), (AV.sc (.string s10)), (intA z11)], 113⟩) :: (100003, some ⟨[(AV.sc (.string ⟨#[]⟩)), (AV.sc (.string ⟨#[]⟩)), (intA (0))], 113⟩) :: m) (topId (AV.ptr 100003 0) ++ ([]))) (AV.ptr 100003 0)) fun v12 d12 =>
exStr v12 fun s13 =>
opM (ldS (look' (mpushs ((100003, some ⟨[(AV.sc (.string s9)), (AV.sc (.string s10)), (intA z11)], 113⟩) :: (100003, some ⟨[(AV.sc (.string ⟨#[]⟩)), (AV.sc (.string ⟨#[]⟩)), (intA (0))], 113⟩) :: m) d12) (topId (AV.ptr 100003 2) ++ ([]))) (AV.ptr 100003 2)) fun v14 d14 =>
ex_i64 v14 fun z15 =>
opM (ldS (look' (mpushs (mpushs ((100003, some ⟨[(AV.sc (.string s9)), (AV.sc (.string s10)), (intA z11)], 113⟩) :: (100003, some ⟨[(AV.sc (.string ⟨#[]⟩)), (AV.sc (.string ⟨#[]⟩)), (intA (0))], 113⟩) :: m) d12) d14) (topId (AV.ptr 100003 2) ++ ([]))) (AV.ptr 100003 2)) fun v16 d16 =>
ex_i64 v16 fun z17 =>
opM (ldS (look' (mpushs (mpushs (mpushs ((100003, some ⟨[(AV.sc (.string s9)), (AV.sc (.string s10)), (intA z11)], 113⟩) :: (100003, some ⟨[(AV.sc (.string ⟨#[]⟩)), (AV.sc (.string ⟨#[]⟩)), (intA (0))], 113⟩) :: m) d12) d14) d16) (topId (AV.ptr 100003 1) ++ ([]))) (AV.ptr 100003 1)) fun v18 d18 =>
exStr v18 fun s19 =>
callF pg KK.gl (mpushs (mpushs (mpushs (mpushs ((100003, some ⟨[(AV.sc (.string s9)), (AV.sc (.string s10)), (intA z11)], 113⟩) :: (100003, some ⟨[(AV.sc (.string ⟨#[]⟩)), (AV.sc (.string ⟨#[]⟩)), (intA (0))], 113⟩) :: m) d12) d14) d16) d18) 100016 95 [t0, (AV.sc (.string s19))] fun v20 d20 ft20 =>
ex_i64 v20 fun z21 =>
opM (idxS 2 t0 (intA z21)) fun v22 d22 =>
opM (fldO 1 v22) fun v23 d23 =>
opM (ldS (look' (mpushs (mpushs (mpushs (mpushs (mpushs (mpushs (mpushs ((100003, some ⟨[(AV.sc (.string s9)), (AV.sc (.string s10)), (intA z11)], 113⟩) :: (100003, some ⟨[(AV.sc (.string ⟨#[]⟩)), (AV.sc (.string ⟨#[]⟩)), (intA (0))], 113⟩) :: m) d12) d14) d16) d18) d20) d22) d23) (topId v23 ++ ([]))) v23) fun v24 d24 =>
ex_i64 v24 fun z25 =>
opM (bld [(AV.sc (.string ⟨#[]⟩)), (intA (0)), (intA (0)), (intA (0))] [(0, 1), (1, 1), (2, 1), (3, 1)] [(0, (AV.sc (.string s13))), (1, (intA z15)), (2, (intA (IntKind.wrap .i64 (z17 + z25))))]) fun v26 d26 =>
opM (bsl 100022 38 4 1 [(AV.sc (.string ⟨#[]⟩)), (intA (0)), (intA (0)), (intA (0))] [(0, v26)]) fun v27 d27 =>
opM (app (look' (mpushs (mpushs (mpushs (mpushs (mpushs (mpushs (mpushs (mpushs (mpushs (mpushs ((100003, some ⟨[(AV.sc (.string s9)), (AV.sc (.string s10)), (intA z11)], 113⟩) :: (100003, some ⟨[(AV.sc (.string ⟨#[]⟩)), (AV.sc (.string ⟨#[]⟩)), (intA (0))], 113⟩) :: m) d12) d14) d16) d18) d20) d22) d23) d24) d26) d27) (topId t9 ++ (topId v27 ++ ([])))) 38 4 40 [(AV.sc (.string ⟨#[]⟩)), (intA (0)), (intA (0)), (intA (0))] 100023 t9 v27) fun v28 d28 =>
chk (confOk [0, 0, 2, 0, 8, 0, 32, 0, 0, 0, 512, 1792, 3968, 8064, 16256, 32736, 65534, 131070, 262143, 524287] [⟨[], []⟩, ⟨[], []⟩, ⟨d12, (topId (AV.ptr 100003 0) ++ ([]))⟩, ⟨[], []⟩, ⟨d14, (topId (AV.ptr 100003 2) ++ ([]))⟩, ⟨[], []⟩, ⟨d16, (topId (AV.ptr 100003 2) ++ ([]))⟩, ⟨[], []⟩, ⟨[], []⟩, ⟨[], []⟩, ⟨d18, (topId (AV.ptr 100003 1) ++ ([]))⟩, ⟨d20, ft20⟩, ⟨d22, []⟩, ⟨d23, []⟩, ⟨d24, (topId v23 ++ ([]))⟩, ⟨[], []⟩, ⟨d26, []⟩, ⟨d27, []⟩, ⟨d28, (topId t9 ++ (topId v27 ++ ([])))⟩, ⟨[], []⟩]) (N0 ⟨[(0, t0), (2, (intA t2)), (6, t6), (7, (intA t7)), (9, v28), (25, t25), (26, (intA t26)), (27, (intA (IntKind.wrap .i64 (t27 + (1))))), (28, (boolA (decide (t27 < t26)))), (29, v4), (30, (AV.agg [(AV.sc (.string s9)), (AV.sc (.string s10)), (intA z11)])), (11, (AV.ptr 100003 0)), (31, t9), (32, (AV.ptr 100003 0)), (33, (AV.sc (.string s13))), (34, (AV.ptr 100003 2)), (35, (intA z15)), (36, (AV.ptr 100003 2)), (37, (intA z17)), (38, t0), (39, t0), (40, (AV.ptr 100003 1)), (41, (AV.sc (.string s19))), (42, (intA z21)), (43, v22), (44, v23), (45, (intA z25)), (46, (intA (IntKind.wrap .i64 (z17 + z25)))), (47, v26), (48, v27), (49, v28), (50, (intA (IntKind.wrap .i64 (t27 + (1)))))], (mpushs (mpushs (mpushs (mpushs (mpushs (mpushs (mpushs (mpushs (mpushs (mpushs (mpushs ((100003, some ⟨[(AV.sc (.string s9)), (AV.sc (.string s10)), (intA z11)], 113⟩) :: (100003, some ⟨[(AV.sc (.string ⟨#[]⟩)), (AV.sc (.string ⟨#[]⟩)), (intA (0))], 113⟩) :: m) d12) d14) d16) d18) d20) d22) d23) d24) d26) d27) d28), 100027⟩)) else (
callW pg KK.gl m 100002 96 [t9, (AV.fn 97 [])] fun v29 m29 =>
exT0 v29 <|
opP (lenS t9) fun v30 =>
ex_i64 v30 fun z31 =>
Tri pg KK 95 0 (.loop c26_1) ⟨[(0, t0), (2, (intA t2)), (6, t6), (7, (intA t7)), (9, t9), (25, t25), (26, (intA t26)), (27, (intA t27)), (28, (boolA (decide (t27 < t26)))), (51, t9), (52, (AV.tup [])), (53, t9), (54, (intA z31)), (55, (intA (0)))], m29, 100069⟩ (q26_1 R))
theorem B26_0_eq (t0 : AV) (t2 : Int) (t6 : AV) (t7 : Int) (t9 : AV) (t25 : AV) (t26 : Int) (t27 : Int) (m : Mem) (R : AV → Mem → Prop) (N0 : St → Prop) : W pg KK 95 0 c26_0 (h26_0 t0 t2 t6 t7 t9 t25 t26 t27 m) (qq26_0 R N0) = B26_0 t0 t2 t6 t7 t9 t25 t26 t27 m R N0 := by kernel_rfl
theorem L26_0 (R : AV → Mem → Prop) {σ : Type} (I : σ → Prop) (t0 : σ → AV) (t2 : σ → Int) (t6 : σ → AV) (t7 : σ → Int) (t9 : σ → AV) (t25 : σ → AV) (t26 : σ → Int) (t27 : σ → Int) (m : σ → Mem) (μ : σ → Nat) (step : ∀ x, I x → B26_0 (t0 x) (t2 x) (t6 x) (t7 x) (t9 x) (t25 x) (t26 x) (t27 x) (m x) R (fun s' => ∃ y, I y ∧ μ y < μ x ∧ Weak KK 95 0 s' (h26_0 (t0 y) (t2 y) (t6 y) (t7 y) (t9 y) (t25 y) (t26 y) (t27 y) (m y)))) (x : σ) (hx : I x) {s : St} (hw : Weak KK 95 0 s (h26_0 (t0 x) (t2 x) (t6 x) (t7 x) (t9 x) (t25 x) (t26 x) (t27 x) (m x))) : Tri pg KK 95 0 (.loop c26_0) s (q26_0 R) :=
  Tri.weak hw (Tri.loops fol I (fun x => h26_0 (t0 x) (t2 x) (t6 x) (t7 x) (t9 x) (t25 x) (t26 x) (t27 x) (m x)) μ (fun x hx => (B26_0_eq (t0 x) (t2 x) (t6 x) (t7 x) (t9 x) (t25 x) (t26 x) (t27 x) (m x) R _).mpr (step x hx)) x hx)
noncomputable def B26_1 (t2 : Int) (t6 : AV) (t7 : Int) (t9 : AV) (t54 : Int) (t55 : Int) (m : Mem) (R : AV → Mem → Prop) (N0 : St → Prop) : Prop :=
bif (decide (t55 < t54)) then (
opP (idxS 4 t9 (intA t55)) fun v32 =>
opP (fldO 2 v32) fun v33 =>
opP (ldS (mget m) v33) fun v34 =>
ex_i64 v34 fun z35 =>
opP (idxS 4 t9 (intA t55)) fun v36 =>
opP (fldO 3 v36) fun v37 =>
storeW pg (mget m) 3 v37 (intA z35) fun v38 d38 =>
bif (decide (t55 > (0))) then (
opM (idxS 4 t9 (intA t55)) fun v39 d39 =>
opM (fldO 3 v39) fun v40 d40 =>
opM (ldS (look' (mpushs (mpushs (mpushs m d38) d39) d40) (topId v40 ++ ([]))) v40) fun v41 d41 =>
ex_i64 v41 fun z42 =>
opM (idxS 4 t9 (intA (IntKind.wrap .i64 (t55 - (1))))) fun v43 d43 =>
opM (fldO 3 v43) fun v44 d44 =>
opM (ldS (look' (mpushs (mpushs (mpushs (mpushs (mpushs (mpushs m d38) d39) d40) d41) d43) d44) (topId v44 ++ ([]))) v44) fun v45 d45 =>
ex_i64 v45 fun z46 =>
opM (opA pg (.call ⟨.builtin .max, #[.tmp 0, .tmp 1], #[3, 3]⟩) 3 [(intA z42), (intA (IntKind.wrap .i64 (z46 + t2)))] (look' (mpushs (mpushs (mpushs (mpushs (mpushs (mpushs (mpushs m d38) d39) d40) d41) d43) d44) d45) (topId (intA z42) ++ (topId (intA (IntKind.wrap .i64 (z46 + t2))) ++ ([])))) 200030) fun v47 d47 =>
ex_i64 v47 fun z48 =>
opM (idxS 4 t9 (intA t55)) fun v49 d49 =>
opM (fldO 3 v49) fun v50 d50 =>
storeW pg (look' (mpushs (mpushs (mpushs (mpushs (mpushs (mpushs (mpushs (mpushs (mpushs (mpushs m d38) d39) d40) d41) d43) d44) d45) d47) d49) d50) (topId v50 ++ (topId (intA z48) ++ ([])))) 3 v50 (intA z48) fun v51 d51 =>
chk (confOk [0, 0, 0, 0, 12, 28, 60, 0, 0, 256, 896, 1920, 3968, 0, 16256, 32764, 65535, 131071, 262143] [⟨[], []⟩, ⟨[], []⟩, ⟨[], []⟩, ⟨[], []⟩, ⟨d39, []⟩, ⟨d40, []⟩, ⟨d41, (topId v40 ++ ([]))⟩, ⟨[], []⟩, ⟨[], []⟩, ⟨[], []⟩, ⟨d43, []⟩, ⟨d44, []⟩, ⟨d45, (topId v44 ++ ([]))⟩, ⟨[], []⟩, ⟨[], []⟩, ⟨d47, (topId (intA z42) ++ (topId (intA (IntKind.wrap .i64 (z46 + t2))) ++ ([])))⟩, ⟨d49, []⟩, ⟨d50, []⟩, ⟨d51, (topId v50 ++ (topId (intA z48) ++ ([])))⟩]) (opP (idxS 4 t9 (intA t55)) fun v52 =>
opP (fldO 3 v52) fun v53 =>
opP (ldS (mget (mpushs (mpushs (mpushs (mpushs (mpushs (mpushs (mpushs (mpushs (mpushs (mpushs (mpushs m d38) d39) d40) d41) d43) d44) d45) d47) d49) d50) d51)) v53) fun v54 =>
ex_i64 v54 fun z55 =>
bif (decide (z55 > (200000))) then (
retL R (mpushs (mpushs (mpushs (mpushs (mpushs (mpushs (mpushs (mpushs (mpushs (mpushs (mpushs m d38) d39) d40) d41) d43) d44) d45) d47) d49) d50) d51) [some AV.nils, some (intA (12))]) else (
N0 ⟨[(2, (intA t2)), (6, t6), (7, (intA t7)), (9, t9), (54, (intA t54)), (55, (intA (IntKind.wrap .i64 (t55 + (1))))), (56, (boolA (decide (t55 < t54)))), (57, (intA t55)), (12, (intA t55)), (58, t9), (59, (intA t55)), (60, t9), (61, (intA t55)), (62, v32), (63, v33), (64, (intA z35)), (65, v36), (66, v37), (67, (intA t55)), (68, (boolA (decide (t55 > (0))))), (69, t9), (70, (intA t55)), (71, t9), (72, (intA t55)), (73, v39), (74, v40), (75, (intA z42)), (76, t9), (77, (intA t55)), (78, (intA (IntKind.wrap .i64 (t55 - (1))))), (79, v43), (80, v44), (81, (intA z46)), (82, (intA t2)), (83, (intA (IntKind.wrap .i64 (z46 + t2)))), (84, (intA z48)), (85, v49), (86, v50), (87, t9), (88, (intA t55)), (89, v52), (90, v53), (91, (intA z55)), (92, (boolA (decide (z55 > (200000))))), (93, (intA (IntKind.wrap .i64 (t55 + (1)))))], (mpushs (mpushs (mpushs (mpushs (mpushs (mpushs (mpushs (mpushs (mpushs (mpushs (mpushs m d38) d39) d40) d41) d43) d44) d45) d47) d49) d50) d51), 200042⟩))) else (
opP (idxS 4 t9 (intA t55)) fun v56 =>
opP (fldO 3 v56) fun v57 =>
opP (ldS (mget (mpushs m d38)) v57) fun v58 =>
ex_i64 v58 fun z59 =>
bif (decide (z59 > (200000))) then (
retL R (mpushs m d38) [some AV.nils, some (intA (12))]) else (
N0 ⟨[(2, (intA t2)), (6, t6), (7, (intA t7)), (9, t9), (54, (intA t54)), (55, (intA (IntKind.wrap .i64 (t55 + (1))))), (56, (boolA (decide (t55 < t54)))), (57, (intA t55)), (12, (intA t55)), (58, t9), (59, (intA t55)), (60, t9), (61, (intA t55)), (62, v32), (63, v33), (64, (intA z35)), (65, v36), (66, v37), (67, (intA t55)), (68, (boolA (decide (t55 > (0))))), (87, t9), (88, (intA t55)), (89, v56), (90, v57), (91, (intA z59)), (92, (boolA (decide (z59 > (200000))))), (93, (intA (IntKind.wrap .i64 (t55 + (1)))))], (mpushs m d38), 200023⟩))) else (
retL R m [some t9, some (intA (0))])
theorem B26_1_eq (t2 : Int) (t6 : AV) (t7 : Int) (t9 : AV) (t54 : Int) (t55 : Int) (m : Mem) (R : AV → Mem → Prop) (N0 : St → Prop) : W pg KK 95 0 c26_1 (h26_1 t2 t6 t7 t9 t54 t55 m) (qq26_1 R N0) = B26_1 t2 t6 t7 t9 t54 t55 m R N0 := by kernel_rfl
theorem L26_1 (R : AV → Mem → Prop) {σ : Type} (I : σ → Prop) (t2 : σ → Int) (t6 : σ → AV) (t7 : σ → Int) (t9 : σ → AV) (t54 : σ → Int) (t55 : σ → Int) (m : σ → Mem) (μ : σ → Nat) (step : ∀ x, I x → B26_1 (t2 x) (t6 x) (t7 x) (t9 x) (t54 x) (t55 x) (m x) R (fun s' => ∃ y, I y ∧ μ y < μ x ∧ Weak KK 95 0 s' (h26_1 (t2 y) (t6 y) (t7 y) (t9 y) (t54 y) (t55 y) (m y)))) (x : σ) (hx : I x) {s : St} (hw : Weak KK 95 0 s (h26_1 (t2 x) (t6 x) (t7 x) (t9 x) (t54 x) (t55 x) (m x))) : Tri pg KK 95 0 (.loop c26_1) s (q26_1 R) :=
  Tri.weak hw (Tri.loops fol I (fun x => h26_1 (t2 x) (t6 x) (t7 x) (t9 x) (t54 x) (t55 x) (m x)) μ (fun x hx => (B26_1_eq (t2 x) (t6 x) (t7 x) (t9 x) (t54 x) (t55 x) (m x) R _).mpr (step x hx)) x hx)
noncomputable def F26 (a0 : AV) (a1 : AV) (a2 : Int) (R : AV → Mem → Prop) : Prop :=
callQ pg KK.gl [] 94 [a0, a1] fun v0 =>
ex_i64 v0 fun z1 =>
bif (z1 != (0)) then (
retL R [] [some AV.nils, some (intA z1)]) else (
bif (decide (a2 < (0))) then (
retL R [] [some AV.nils, some (intA (4))]) else (
bif (decide (a2 > (1800))) then (
retL R [] [some AV.nils, some (intA (4))]) else (
opP (lenS a1) fun v2 =>
ex_i64 v2 fun z3 =>
Tri pg KK 95 0 (.loop c26_0) ⟨[(0, a0), (1, a1), (2, (intA a2)), (6, AV.nils), (7, (intA (0))), (13, a0), (14, a1), (15, (intA z1)), (8, (intA z1)), (16, (intA z1)), (17, (boolA (z1 != (0)))), (19, (intA a2)), (20, (boolA (decide (a2 < (0))))), (21, (boolA false)), (22, (intA a2)), (23, (boolA (decide (a2 > (1800))))), (24, (boolA (decide (a2 > (1800))))), (9, AV.nils), (25, a1), (26, (intA z3)), (27, (intA (0)))], [], 81⟩ (q26_0 R))))
theorem F26_own (a0 : AV) (a1 : AV) (a2 : Int) (R : AV → Mem → Prop) (h : F26 a0 a1 a2 R) : Own pg KK.gl 26 [a0, a1, (intA a2)] R := own_of_F fol Tryz.func26 (code := c26) (by kernel_rfl) (by kernel_rfl) (by kernel_rfl) (X := F26 a0 a1 a2 R) (by kernel_rfl) h
/- skyway/taxi.Late -/
noncomputable def c8 : Code := ((Tryz.f8).body).getD .skip
noncomputable def q8 (R : AV → Mem → Prop) : AExit → St → Prop := retQ pg Tryz.f8 R
noncomputable def c8_0 : Code := loopB c8 0
noncomputable def q8_0 (R : AV → Mem → Prop) : AExit → St → Prop := contW pg KK 70 0 c8 0 (q8 R)
noncomputable def qq8_0 (R : AV → Mem → Prop) (N0 : St → Prop) : AExit → St → Prop := thenQ N0 (q8_0 R)
def h8_0 (t3 : Int) (t8 : AV) (t9 : Int) (t10 : AV) (t31 : Int) (t32 : Int) (m : Mem) : St := ⟨[(3, (intA t3)), (8, t8), (9, (intA t9)), (10, t10), (31, (intA t31)), (32, (intA t32))], m, 100000⟩
noncomputable def B8_0 (t3 : Int) (t8 : AV) (t9 : Int) (t10 : AV) (t31 : Int) (t32 : Int) (m : Mem) (R : AV → Mem → Prop) (N0 : St → Prop) : Prop :=
bif (decide (t32 < t31)) then (
opP (idxS 4 t10 (intA t32)) fun v6 =>
opP (fldO 3 v6) fun v7 =>
opP (ldS (mget m) v7) fun v8 =>
ex_i64 v8 fun z9 =>
opP (idxS 4 t10 (intA t32)) fun v10 =>
opP (fldO 2 v10) fun v11 =>
opP (ldS (mget m) v11) fun v12 =>
ex_i64 v12 fun z13 =>
bif (decide ((IntKind.wrap .i64 ((IntKind.wrap .i64 (z9 - z13)) - t3)) > (0))) then (
opP (idxS 4 t10 (intA t32)) fun v14 =>
opP (fldO 1 v14) fun v15 =>
opP (ldS (mget m) v15) fun v16 =>
ex_i64 v16 fun z17 =>
opP (idxS 4 t10 (intA t32)) fun v18 =>
opP (fldO 1 v18) fun v19 =>
storeW pg (mget m) 3 v19 (intA (IntKind.wrap .i64 (z17 + (IntKind.wrap .i64 ((IntKind.wrap .i64 (z9 - z13)) - t3))))) fun v20 d20 =>
opP (idxS 4 t10 (intA t32)) fun v21 =>
opP (fldO 2 v21) fun v22 =>
opP (ldS (mget (mpushs m d20)) v22) fun v23 =>
ex_i64 v23 fun z24 =>
opP (idxS 4 t10 (intA t32)) fun v25 =>
opP (fldO 2 v25) fun v26 =>
storeW pg (mget (mpushs m d20)) 3 v26 (intA (IntKind.wrap .i64 (z24 + (IntKind.wrap .i64 ((IntKind.wrap .i64 (z9 - z13)) - t3))))) fun v27 d27 =>
N0 ⟨[(3, (intA t3)), (8, t8), (9, (intA t9)), (10, t10), (31, (intA t31)), (32, (intA (IntKind.wrap .i64 (t32 + (1))))), (33, (boolA (decide (t32 < t31)))), (34, (intA t32)), (12, (intA t32)), (35, t10), (36, (intA t32)), (37, v6), (38, v7), (39, (intA z9)), (40, t10), (41, (intA t32)), (42, v10), (43, v11), (44, (intA z13)), (45, (intA (IntKind.wrap .i64 (z9 - z13)))), (46, (intA t3)), (47, (intA (IntKind.wrap .i64 ((IntKind.wrap .i64 (z9 - z13)) - t3)))), (13, (intA (IntKind.wrap .i64 ((IntKind.wrap .i64 (z9 - z13)) - t3)))), (48, (intA (IntKind.wrap .i64 ((IntKind.wrap .i64 (z9 - z13)) - t3)))), (49, (boolA (decide ((IntKind.wrap .i64 ((IntKind.wrap .i64 (z9 - z13)) - t3)) > (0))))), (50, t10), (51, (intA t32)), (52, v14), (53, v15), (54, (intA z17)), (55, (intA (IntKind.wrap .i64 ((IntKind.wrap .i64 (z9 - z13)) - t3)))), (56, (intA (IntKind.wrap .i64 (z17 + (IntKind.wrap .i64 ((IntKind.wrap .i64 (z9 - z13)) - t3)))))), (57, v18), (58, v19), (59, t10), (60, (intA t32)), (61, v21), (62, v22), (63, (intA z24)), (64, (intA (IntKind.wrap .i64 ((IntKind.wrap .i64 (z9 - z13)) - t3)))), (65, (intA (IntKind.wrap .i64 (z24 + (IntKind.wrap .i64 ((IntKind.wrap .i64 (z9 - z13)) - t3)))))), (66, v25), (67, v26), (68, (intA (IntKind.wrap .i64 (t32 + (1)))))], (mpushs (mpushs m d20) d27), 100041⟩) else (
N0 ⟨[(3, (intA t3)), (8, t8), (9, (intA t9)), (10, t10), (31, (intA t31)), (32, (intA (IntKind.wrap .i64 (t32 + (1))))), (33, (boolA (decide (t32 < t31)))), (34, (intA t32)), (12, (intA t32)), (35, t10), (36, (intA t32)), (37, v6), (38, v7), (39, (intA z9)), (40, t10), (41, (intA t32)), (42, v10), (43, v11), (44, (intA z13)), (45, (intA (IntKind.wrap .i64 (z9 - z13)))), (46, (intA t3)), (47, (intA (IntKind.wrap .i64 ((IntKind.wrap .i64 (z9 - z13)) - t3)))), (13, (intA (IntKind.wrap .i64 ((IntKind.wrap .i64 (z9 - z13)) - t3)))), (48, (intA (IntKind.wrap .i64 ((IntKind.wrap .i64 (z9 - z13)) - t3)))), (49, (boolA (decide ((IntKind.wrap .i64 ((IntKind.wrap .i64 (z9 - z13)) - t3)) > (0))))), (68, (intA (IntKind.wrap .i64 (t32 + (1)))))], m, 100021⟩)) else (
retL R m [some t10, some (intA (0))])
theorem B8_0_eq (t3 : Int) (t8 : AV) (t9 : Int) (t10 : AV) (t31 : Int) (t32 : Int) (m : Mem) (R : AV → Mem → Prop) (N0 : St → Prop) : W pg KK 70 0 c8_0 (h8_0 t3 t8 t9 t10 t31 t32 m) (qq8_0 R N0) = B8_0 t3 t8 t9 t10 t31 t32 m R N0 := by kernel_rfl
theorem L8_0 (R : AV → Mem → Prop) {σ : Type} (I : σ → Prop) (t3 : σ → Int) (t8 : σ → AV) (t9 : σ → Int) (t10 : σ → AV) (t31 : σ → Int) (t32 : σ → Int) (m : σ → Mem) (μ : σ → Nat) (step : ∀ x, I x → B8_0 (t3 x) (t8 x) (t9 x) (t10 x) (t31 x) (t32 x) (m x) R (fun s' => ∃ y, I y ∧ μ y < μ x ∧ Weak KK 70 0 s' (h8_0 (t3 y) (t8 y) (t9 y) (t10 y) (t31 y) (t32 y) (m y)))) (x : σ) (hx : I x) {s : St} (hw : Weak KK 70 0 s (h8_0 (t3 x) (t8 x) (t9 x) (t10 x) (t31 x) (t32 x) (m x))) : Tri pg KK 70 0 (.loop c8_0) s (q8_0 R) :=
  Tri.weak hw (Tri.loops fol I (fun x => h8_0 (t3 x) (t8 x) (t9 x) (t10 x) (t31 x) (t32 x) (m x)) μ (fun x hx => (B8_0_eq (t3 x) (t8 x) (t9 x) (t10 x) (t31 x) (t32 x) (m x) R _).mpr (step x hx)) x hx)
noncomputable def F8 (a0 : AV) (a1 : AV) (a2 : Int) (a3 : Int) (R : AV → Mem → Prop) : Prop :=
callW pg KK.gl [] 5 26 [a0, a1, (intA a2)] fun v0 m0 =>
exT2 v0 fun c1 c2 =>
ex_i64 c2 fun z3 =>
bif (z3 != (0)) then (
retL R m0 [some AV.nils, some (intA z3)]) else (
bif (decide (a3 < (0))) then (
retL R m0 [some AV.nils, some (intA (4))]) else (
bif (decide (a3 > (1800))) then (
retL R m0 [some AV.nils, some (intA (4))]) else (
opP (lenS c1) fun v4 =>
ex_i64 v4 fun z5 =>
Tri pg KK 70 0 (.loop c8_0) ⟨[(0, a0), (1, a1), (2, (intA a2)), (3, (intA a3)), (8, AV.nils), (9, (intA (0))), (15, a0), (16, a1), (17, (intA a2)), (18, (AV.tup [c1, (intA z3)])), (14, (AV.tup [c1, (intA z3)])), (19, c1), (20, (intA z3)), (10, c1), (11, (intA z3)), (21, (intA z3)), (22, (boolA (z3 != (0)))), (24, (intA a3)), (25, (boolA (decide (a3 < (0))))), (26, (boolA false)), (27, (intA a3)), (28, (boolA (decide (a3 > (1800))))), (29, (boolA (decide (a3 > (1800))))), (30, c1), (31, (intA z5)), (32, (intA (0)))], m0, 85⟩ (q8_0 R))))
theorem F8_own (a0 : AV) (a1 : AV) (a2 : Int) (a3 : Int) (R : AV → Mem → Prop) (h : F8 a0 a1 a2 a3 R) : Own pg KK.gl 8 [a0, a1, (intA a2), (intA a3)] R := own_of_F fol Tryz.func8 (code := c8) (by kernel_rfl) (by kernel_rfl) (by kernel_rfl) (X := F8 a0 a1 a2 a3 R) (by kernel_rfl) h
/- skyway/runway.wrongTime -/
noncomputable def c37 : Code := ((Tryz.f37).body).getD .skip
noncomputable def q37 (R : AV → Mem → Prop) : AExit → St → Prop := retQ pg Tryz.f37 R
noncomputable def F37 (a0 : Int) (R : AV → Mem → Prop) : Prop :=
bif (decide (a0 < (0))) then (
retL R [] [some (boolA true)]) else (
retL R [] [some (boolA (decide (a0 > (200000))))])
theorem F37_own (a0 : Int) (R : AV → Mem → Prop) (h : F37 a0 R) : Own pg KK.gl 37 [(intA a0)] R := own_of_F fol Tryz.func37 (code := c37) (by kernel_rfl) (by kernel_rfl) (by kernel_rfl) (X := F37 a0 R) (by kernel_rfl) h
/- skyway/runway.Check -/
noncomputable def c104 : Code := ((Tryz.f104).body).getD .skip
noncomputable def q104 (R : AV → Mem → Prop) : AExit → St → Prop := retQ pg Tryz.f104 R
noncomputable def c104_0 : Code := loopB c104 0
noncomputable def q104_0 (R : AV → Mem → Prop) : AExit → St → Prop := contW pg KK 49 0 c104 0 (q104 R)
noncomputable def qq104_0 (R : AV → Mem → Prop) (N0 : St → Prop) : AExit → St → Prop := thenQ N0 (q104_0 R)
def h104_0 (t0 : AV) (t2 : Int) (t9 : AV) (t10 : Int) (t11 : Int) (m : Mem) : St := ⟨[(0, t0), (2, (intA t2)), (9, t9), (10, (intA t10)), (11, (intA t11))], m, 100000⟩
noncomputable def B104_0 (t0 : AV) (t2 : Int) (t9 : AV) (t10 : Int) (t11 : Int) (m : Mem) (R : AV → Mem → Prop) (N0 : St → Prop) : Prop :=
bif (decide (t11 < t10)) then (
opP (idxS 4 t9 (intA t11)) fun v4 =>
opP (ldA (mget m) 4 v4) fun v5 =>
exA4 v5 fun c6 c7 c8 c9 =>
ex_i64 c6 fun z10 =>
ex_i64 c7 fun z11 =>
exB c8 fun b12 =>
ex_i64 c9 fun z13 =>
callQ pg KK.gl ((100004, some ⟨[(intA z10), (intA z11), (boolA b12), (intA z13)], 48⟩) :: (100004, some ⟨[(intA (0)), (intA (0)), (boolA false), (intA (0))], 48⟩) :: m) 37 [(intA z10)] fun v14 =>
exB v14 fun b15 =>
bif b15 then (
retL R ((100004, some ⟨[(intA z10), (intA z11), (boolA b12), (intA z13)], 48⟩) :: (100004, some ⟨[(intA (0)), (intA (0)), (boolA false), (intA (0))], 48⟩) :: m) [some (intA (12))]) else (
bif (decide (t11 > (0))) then (
opP (idxS 4 t0 (intA (IntKind.wrap .i64 (t11 - (1))))) fun v16 =>
opP (fldO 0 v16) fun v17 =>
opP (ldS (mget ((100004, some ⟨[(intA z10), (intA z11), (boolA b12), (intA z13)], 48⟩) :: (100004, some ⟨[(intA (0)), (intA (0)), (boolA false), (intA (0))], 48⟩) :: m)) v17) fun v18 =>
ex_i64 v18 fun z19 =>
bif (decide (z10 < z19)) then (
retL R ((100004, some ⟨[(intA z10), (intA z11), (boolA b12), (intA z13)], 48⟩) :: (100004, some ⟨[(intA (0)), (intA (0)), (boolA false), (intA (0))], 48⟩) :: m) [some (intA (12))]) else (
callQ pg KK.gl ((100004, some ⟨[(intA z10), (intA z11), (boolA b12), (intA z13)], 48⟩) :: (100004, some ⟨[(intA (0)), (intA (0)), (boolA false), (intA (0))], 48⟩) :: m) 38 [(intA z11)] fun v20 =>
ex_i64 v20 fun z21 =>
bif (z21 != (0)) then (
retL R ((100004, some ⟨[(intA z10), (intA z11), (boolA b12), (intA z13)], 48⟩) :: (100004, some ⟨[(intA (0)), (intA (0)), (boolA false), (intA (0))], 48⟩) :: m) [some (intA z21)]) else (
bif (z13 != (0)) then (
bif (z13 != (1)) then (
retL R ((100004, some ⟨[(intA z10), (intA z11), (boolA b12), (intA z13)], 48⟩) :: (100004, some ⟨[(intA (0)), (intA (0)), (boolA false), (intA (0))], 48⟩) :: m) [some (intA (1))]) else (
N0 ⟨[(0, t0), (2, (intA t2)), (9, t9), (10, (intA t10)), (11, (intA (IntKind.wrap .i64 (t11 + (1))))), (12, (boolA (decide (t11 < t10)))), (13, (intA t11)), (14, v4), (15, (AV.agg [(intA z10), (intA z11), (boolA b12), (intA z13)])), (4, (AV.ptr 100004 0)), (3, (intA t11)), (16, (AV.ptr 100004 0)), (17, (intA z10)), (18, (boolA b15)), (19, (boolA false)), (20, (intA t11)), (21, (boolA (decide (t11 > (0))))), (22, (boolA true)), (23, (AV.ptr 100004 0)), (24, (intA z10)), (25, t0), (26, (intA t11)), (27, (intA (IntKind.wrap .i64 (t11 - (1))))), (28, v16), (29, v17), (30, (intA z19)), (31, (boolA (decide (z10 < z19)))), (32, (boolA (decide (z10 < z19)))), (33, (boolA (decide (z10 < z19)))), (34, (AV.ptr 100004 1)), (35, (intA z11)), (36, (intA z21)), (5, (intA z21)), (37, (intA z21)), (38, (boolA (z21 != (0)))), (40, (AV.ptr 100004 3)), (41, (intA z13)), (42, (boolA (z13 != (0)))), (43, (boolA true)), (44, (AV.ptr 100004 3)), (45, (intA z13)), (46, (boolA (z13 != (1)))), (47, (boolA (z13 != (1)))), (48, (intA (IntKind.wrap .i64 (t11 + (1)))))], ((100004, some ⟨[(intA z10), (intA z11), (boolA b12), (intA z13)], 48⟩) :: (100004, some ⟨[(intA (0)), (intA (0)), (boolA false), (intA (0))], 48⟩) :: m), 100104⟩)) else (
N0 ⟨[(0, t0), (2, (intA t2)), (9, t9), (10, (intA t10)), (11, (intA (IntKind.wrap .i64 (t11 + (1))))), (12, (boolA (decide (t11 < t10)))), (13, (intA t11)), (14, v4), (15, (AV.agg [(intA z10), (intA z11), (boolA b12), (intA z13)])), (4, (AV.ptr 100004 0)), (3, (intA t11)), (16, (AV.ptr 100004 0)), (17, (intA z10)), (18, (boolA b15)), (19, (boolA false)), (20, (intA t11)), (21, (boolA (decide (t11 > (0))))), (22, (boolA true)), (23, (AV.ptr 100004 0)), (24, (intA z10)), (25, t0), (26, (intA t11)), (27, (intA (IntKind.wrap .i64 (t11 - (1))))), (28, v16), (29, v17), (30, (intA z19)), (31, (boolA (decide (z10 < z19)))), (32, (boolA (decide (z10 < z19)))), (33, (boolA (decide (z10 < z19)))), (34, (AV.ptr 100004 1)), (35, (intA z11)), (36, (intA z21)), (5, (intA z21)), (37, (intA z21)), (38, (boolA (z21 != (0)))), (40, (AV.ptr 100004 3)), (41, (intA z13)), (42, (boolA (z13 != (0)))), (43, (boolA false)), (44, (AV.tup [])), (45, (AV.tup [])), (46, (AV.tup [])), (47, (boolA false)), (48, (intA (IntKind.wrap .i64 (t11 + (1)))))], ((100004, some ⟨[(intA z10), (intA z11), (boolA b12), (intA z13)], 48⟩) :: (100004, some ⟨[(intA (0)), (intA (0)), (boolA false), (intA (0))], 48⟩) :: m), 100101⟩)))) else (
callQ pg KK.gl ((100004, some ⟨[(intA z10), (intA z11), (boolA b12), (intA z13)], 48⟩) :: (100004, some ⟨[(intA (0)), (intA (0)), (boolA false), (intA (0))], 48⟩) :: m) 38 [(intA z11)] fun v22 =>
ex_i64 v22 fun z23 =>
bif (z23 != (0)) then (
retL R ((100004, some ⟨[(intA z10), (intA z11), (boolA b12), (intA z13)], 48⟩) :: (100004, some ⟨[(intA (0)), (intA (0)), (boolA false), (intA (0))], 48⟩) :: m) [some (intA z23)]) else (
bif (z13 != (0)) then (
bif (z13 != (1)) then (
retL R ((100004, some ⟨[(intA z10), (intA z11), (boolA b12), (intA z13)], 48⟩) :: (100004, some ⟨[(intA (0)), (intA (0)), (boolA false), (intA (0))], 48⟩) :: m) [some (intA (1))]) else (
N0 ⟨[(0, t0), (2, (intA t2)), (9, t9), (10, (intA t10)), (11, (intA (IntKind.wrap .i64 (t11 + (1))))), (12, (boolA (decide (t11 < t10)))), (13, (intA t11)), (14, v4), (15, (AV.agg [(intA z10), (intA z11), (boolA b12), (intA z13)])), (4, (AV.ptr 100004 0)), (3, (intA t11)), (16, (AV.ptr 100004 0)), (17, (intA z10)), (18, (boolA b15)), (19, (boolA false)), (20, (intA t11)), (21, (boolA (decide (t11 > (0))))), (22, (boolA false)), (23, (AV.tup [])), (24, (AV.tup [])), (25, (AV.tup [])), (26, (AV.tup [])), (27, (AV.tup [])), (28, (AV.tup [])), (29, (AV.tup [])), (30, (AV.tup [])), (31, (AV.tup [])), (32, (boolA false)), (33, (boolA false)), (34, (AV.ptr 100004 1)), (35, (intA z11)), (36, (intA z23)), (5, (intA z23)), (37, (intA z23)), (38, (boolA (z23 != (0)))), (40, (AV.ptr 100004 3)), (41, (intA z13)), (42, (boolA (z13 != (0)))), (43, (boolA true)), (44, (AV.ptr 100004 3)), (45, (intA z13)), (46, (boolA (z13 != (1)))), (47, (boolA (z13 != (1)))), (48, (intA (IntKind.wrap .i64 (t11 + (1)))))], ((100004, some ⟨[(intA z10), (intA z11), (boolA b12), (intA z13)], 48⟩) :: (100004, some ⟨[(intA (0)), (intA (0)), (boolA false), (intA (0))], 48⟩) :: m), 100104⟩)) else (
N0 ⟨[(0, t0), (2, (intA t2)), (9, t9), (10, (intA t10)), (11, (intA (IntKind.wrap .i64 (t11 + (1))))), (12, (boolA (decide (t11 < t10)))), (13, (intA t11)), (14, v4), (15, (AV.agg [(intA z10), (intA z11), (boolA b12), (intA z13)])), (4, (AV.ptr 100004 0)), (3, (intA t11)), (16, (AV.ptr 100004 0)), (17, (intA z10)), (18, (boolA b15)), (19, (boolA false)), (20, (intA t11)), (21, (boolA (decide (t11 > (0))))), (22, (boolA false)), (23, (AV.tup [])), (24, (AV.tup [])), (25, (AV.tup [])), (26, (AV.tup [])), (27, (AV.tup [])), (28, (AV.tup [])), (29, (AV.tup [])), (30, (AV.tup [])), (31, (AV.tup [])), (32, (boolA false)), (33, (boolA false)), (34, (AV.ptr 100004 1)), (35, (intA z11)), (36, (intA z23)), (5, (intA z23)), (37, (intA z23)), (38, (boolA (z23 != (0)))), (40, (AV.ptr 100004 3)), (41, (intA z13)), (42, (boolA (z13 != (0)))), (43, (boolA false)), (44, (AV.tup [])), (45, (AV.tup [])), (46, (AV.tup [])), (47, (boolA false)), (48, (intA (IntKind.wrap .i64 (t11 + (1)))))], ((100004, some ⟨[(intA z10), (intA z11), (boolA b12), (intA z13)], 48⟩) :: (100004, some ⟨[(intA (0)), (intA (0)), (boolA false), (intA (0))], 48⟩) :: m), 100101⟩))))) else (
retL R m [some (intA (0))])
theorem B104_0_eq (t0 : AV) (t2 : Int) (t9 : AV) (t10 : Int) (t11 : Int) (m : Mem) (R : AV → Mem → Prop) (N0 : St → Prop) : W pg KK 49 0 c104_0 (h104_0 t0 t2 t9 t10 t11 m) (qq104_0 R N0) = B104_0 t0 t2 t9 t10 t11 m R N0 := by kernel_rfl
theorem L104_0 (R : AV → Mem → Prop) {σ : Type} (I : σ → Prop) (t0 : σ → AV) (t2 : σ → Int) (t9 : σ → AV) (t10 : σ → Int) (t11 : σ → Int) (m : σ → Mem) (μ : σ → Nat) (step : ∀ x, I x → B104_0 (t0 x) (t2 x) (t9 x) (t10 x) (t11 x) (m x) R (fun s' => ∃ y, I y ∧ μ y < μ x ∧ Weak KK 49 0 s' (h104_0 (t0 y) (t2 y) (t9 y) (t10 y) (t11 y) (m y)))) (x : σ) (hx : I x) {s : St} (hw : Weak KK 49 0 s (h104_0 (t0 x) (t2 x) (t9 x) (t10 x) (t11 x) (m x))) : Tri pg KK 49 0 (.loop c104_0) s (q104_0 R) :=
  Tri.weak hw (Tri.loops fol I (fun x => h104_0 (t0 x) (t2 x) (t9 x) (t10 x) (t11 x) (m x)) μ (fun x hx => (B104_0_eq (t0 x) (t2 x) (t9 x) (t10 x) (t11 x) (m x) R _).mpr (step x hx)) x hx)
noncomputable def F104 (a0 : AV) (R : AV → Mem → Prop) : Prop :=
opP (lenS a0) fun v0 =>
ex_i64 v0 fun z1 =>
bif (decide (z1 > (24))) then (
retL R [] [some (intA (2))]) else (
opP (lenS a0) fun v2 =>
ex_i64 v2 fun z3 =>
Tri pg KK 49 0 (.loop c104_0) ⟨[(0, a0), (2, (intA (0))), (6, a0), (7, (intA z1)), (8, (boolA (decide (z1 > (24))))), (9, a0), (10, (intA z3)), (11, (intA (0)))], [], 7⟩ (q104_0 R))
theorem F104_own (a0 : AV) (R : AV → Mem → Prop) (h : F104 a0 R) : Own pg KK.gl 104 [a0] R := own_of_F fol Tryz.func104 (code := c104) (by kernel_rfl) (by kernel_rfl) (by kernel_rfl) (X := F104 a0 R) (by kernel_rfl) h
/- skyway/runway.Spans -/
noncomputable def c105 : Code := ((Tryz.f105).body).getD .skip
noncomputable def q105 (R : AV → Mem → Prop) : AExit → St → Prop := retQ pg Tryz.f105 R
noncomputable def c105_0 : Code := loopB c105 0
noncomputable def q105_0 (R : AV → Mem → Prop) : AExit → St → Prop := contW pg KK 64 0 c105 0 (q105 R)
noncomputable def qq105_0 (R : AV → Mem → Prop) (N0 : St → Prop) : AExit → St → Prop := thenQ N0 (q105_0 R)
def h105_0 (t0 : AV) (t2 : Int) (t13 : AV) (t14 : Int) (t15 : Int) (m : Mem) : St := ⟨[(0, t0), (2, (intA t2)), (13, t13), (14, (intA t14)), (15, (intA t15))], m, 100000⟩
noncomputable def B105_0 (t0 : AV) (t2 : Int) (t13 : AV) (t14 : Int) (t15 : Int) (m : Mem) (R : AV → Mem → Prop) (N0 : St → Prop) : Prop :=
bif (decide (t15 < t14)) then (
opP (idxS 2 t13 (intA t15)) fun v6 =>
opP (ldA (mget m) 2 v6) fun v7 =>
exA2 v7 fun c8 c9 =>
ex_i64 c8 fun z10 =>
ex_i64 c9 fun z11 =>
bif (z11 != (0)) then (
bif (z11 != (1)) then (
retL R ((100004, some ⟨[(intA z10), (intA z11)], 45⟩) :: (100004, some ⟨[(intA (0)), (intA (0))], 45⟩) :: m) [some (intA (1))]) else (
callQ pg KK.gl ((100004, some ⟨[(intA z10), (intA z11)], 45⟩) :: (100004, some ⟨[(intA (0)), (intA (0))], 45⟩) :: m) 37 [(intA z10)] fun v12 =>
exB v12 fun b13 =>
bif b13 then (
retL R ((100004, some ⟨[(intA z10), (intA z11)], 45⟩) :: (100004, some ⟨[(intA (0)), (intA (0))], 45⟩) :: m) [some (intA (12))]) else (
bif (decide (t15 > (0))) then (
opP (idxS 2 t0 (intA (IntKind.wrap .i64 (t15 - (1))))) fun v14 =>
opP (fldO 0 v14) fun v15 =>
opP (ldS (mget ((100004, some ⟨[(intA z10), (intA z11)], 45⟩) :: (100004, some ⟨[(intA (0)), (intA (0))], 45⟩) :: m)) v15) fun v16 =>
ex_i64 v16 fun z17 =>
bif (decide (z10 < (IntKind.wrap .i64 (z17 + (360))))) then (
retL R ((100004, some ⟨[(intA z10), (intA z11)], 45⟩) :: (100004, some ⟨[(intA (0)), (intA (0))], 45⟩) :: m) [some (intA (12))]) else (
bif (decide (t15 > (0))) then (
opP (idxS 2 t0 (intA (IntKind.wrap .i64 (t15 - (1))))) fun v18 =>
opP (fldO 1 v18) fun v19 =>
opP (ldS (mget ((100004, some ⟨[(intA z10), (intA z11)], 45⟩) :: (100004, some ⟨[(intA (0)), (intA (0))], 45⟩) :: m)) v19) fun v20 =>
ex_i64 v20 fun z21 =>
bif (z11 == z21) then (
retL R ((100004, some ⟨[(intA z10), (intA z11)], 45⟩) :: (100004, some ⟨[(intA (0)), (intA (0))], 45⟩) :: m) [some (intA (11))]) else (
N0 ⟨[(0, t0), (2, (intA t2)), (13, t13), (14, (intA t14)), (15, (intA (IntKind.wrap .i64 (t15 + (1))))), (16, (boolA (decide (t15 < t14)))), (17, (intA t15)), (18, v6), (19, (AV.agg [(intA z10), (intA z11)])), (4, (AV.ptr 100004 0)), (3, (intA t15)), (21, (AV.ptr 100004 1)), (22, (intA z11)), (23, (boolA (z11 != (0)))), (24, (boolA true)), (25, (AV.ptr 100004 1)), (26, (intA z11)), (27, (boolA (z11 != (1)))), (28, (boolA (z11 != (1)))), (20, (boolA (z11 != (1)))), (30, (AV.ptr 100004 0)), (31, (intA z10)), (32, (boolA b13)), (33, (boolA false)), (34, (intA t15)), (35, (boolA (decide (t15 > (0))))), (36, (boolA true)), (37, (AV.ptr 100004 0)), (38, (intA z10)), (39, t0), (40, (intA t15)), (41, (intA (IntKind.wrap .i64 (t15 - (1))))), (42, v14), (43, v15), (44, (intA z17)), (45, (intA (IntKind.wrap .i64 (z17 + (360))))), (46, (boolA (decide (z10 < (IntKind.wrap .i64 (z17 + (360))))))), (47, (boolA (decide (z10 < (IntKind.wrap .i64 (z17 + (360))))))), (48, (boolA (decide (z10 < (IntKind.wrap .i64 (z17 + (360))))))), (29, (boolA (decide (z10 < (IntKind.wrap .i64 (z17 + (360))))))), (50, (intA t15)), (51, (boolA (decide (t15 > (0))))), (52, (boolA true)), (53, (AV.ptr 100004 1)), (54, (intA z11)), (55, t0), (56, (intA t15)), (57, (intA (IntKind.wrap .i64 (t15 - (1))))), (58, v18), (59, v19), (60, (intA z21)), (61, (boolA (z11 == z21))), (62, (boolA (z11 == z21))), (49, (boolA (z11 == z21))), (63, (intA (IntKind.wrap .i64 (t15 + (1)))))], ((100004, some ⟨[(intA z10), (intA z11)], 45⟩) :: (100004, some ⟨[(intA (0)), (intA (0))], 45⟩) :: m), 100052⟩)) else (
N0 ⟨[(0, t0), (2, (intA t2)), (13, t13), (14, (intA t14)), (15, (intA (IntKind.wrap .i64 (t15 + (1))))), (16, (boolA (decide (t15 < t14)))), (17, (intA t15)), (18, v6), (19, (AV.agg [(intA z10), (intA z11)])), (4, (AV.ptr 100004 0)), (3, (intA t15)), (21, (AV.ptr 100004 1)), (22, (intA z11)), (23, (boolA (z11 != (0)))), (24, (boolA true)), (25, (AV.ptr 100004 1)), (26, (intA z11)), (27, (boolA (z11 != (1)))), (28, (boolA (z11 != (1)))), (20, (boolA (z11 != (1)))), (30, (AV.ptr 100004 0)), (31, (intA z10)), (32, (boolA b13)), (33, (boolA false)), (34, (intA t15)), (35, (boolA (decide (t15 > (0))))), (36, (boolA true)), (37, (AV.ptr 100004 0)), (38, (intA z10)), (39, t0), (40, (intA t15)), (41, (intA (IntKind.wrap .i64 (t15 - (1))))), (42, v14), (43, v15), (44, (intA z17)), (45, (intA (IntKind.wrap .i64 (z17 + (360))))), (46, (boolA (decide (z10 < (IntKind.wrap .i64 (z17 + (360))))))), (47, (boolA (decide (z10 < (IntKind.wrap .i64 (z17 + (360))))))), (48, (boolA (decide (z10 < (IntKind.wrap .i64 (z17 + (360))))))), (29, (boolA (decide (z10 < (IntKind.wrap .i64 (z17 + (360))))))), (50, (intA t15)), (51, (boolA (decide (t15 > (0))))), (52, (boolA false)), (53, (AV.tup [])), (54, (AV.tup [])), (55, (AV.tup [])), (56, (AV.tup [])), (57, (AV.tup [])), (58, (AV.tup [])), (59, (AV.tup [])), (60, (AV.tup [])), (61, (AV.tup [])), (62, (boolA false)), (49, (boolA false)), (63, (intA (IntKind.wrap .i64 (t15 + (1)))))], ((100004, some ⟨[(intA z10), (intA z11)], 45⟩) :: (100004, some ⟨[(intA (0)), (intA (0))], 45⟩) :: m), 100052⟩))) else (
bif (decide (t15 > (0))) then (
opP (idxS 2 t0 (intA (IntKind.wrap .i64 (t15 - (1))))) fun v22 =>
opP (fldO 1 v22) fun v23 =>
opP (ldS (mget ((100004, some ⟨[(intA z10), (intA z11)], 45⟩) :: (100004, some ⟨[(intA (0)), (intA (0))], 45⟩) :: m)) v23) fun v24 =>
ex_i64 v24 fun z25 =>
bif (z11 == z25) then (
retL R ((100004, some ⟨[(intA z10), (intA z11)], 45⟩) :: (100004, some ⟨[(intA (0)), (intA (0))], 45⟩) :: m) [some (intA (11))]) else (
N0 ⟨[(0, t0), (2, (intA t2)), (13, t13), (14, (intA t14)), (15, (intA (IntKind.wrap .i64 (t15 + (1))))), (16, (boolA (decide (t15 < t14)))), (17, (intA t15)), (18, v6), (19, (AV.agg [(intA z10), (intA z11)])), (4, (AV.ptr 100004 0)), (3, (intA t15)), (21, (AV.ptr 100004 1)), (22, (intA z11)), (23, (boolA (z11 != (0)))), (24, (boolA true)), (25, (AV.ptr 100004 1)), (26, (intA z11)), (27, (boolA (z11 != (1)))), (28, (boolA (z11 != (1)))), (20, (boolA (z11 != (1)))), (30, (AV.ptr 100004 0)), (31, (intA z10)), (32, (boolA b13)), (33, (boolA false)), (34, (intA t15)), (35, (boolA (decide (t15 > (0))))), (36, (boolA false)), (37, (AV.tup [])), (38, (AV.tup [])), (39, (AV.tup [])), (40, (AV.tup [])), (41, (AV.tup [])), (42, (AV.tup [])), (43, (AV.tup [])), (44, (AV.tup [])), (45, (AV.tup [])), (46, (AV.tup [])), (47, (boolA false)), (48, (boolA false)), (29, (boolA false)), (50, (intA t15)), (51, (boolA (decide (t15 > (0))))), (52, (boolA true)), (53, (AV.ptr 100004 1)), (54, (intA z11)), (55, t0), (56, (intA t15)), (57, (intA (IntKind.wrap .i64 (t15 - (1))))), (58, v22), (59, v23), (60, (intA z25)), (61, (boolA (z11 == z25))), (62, (boolA (z11 == z25))), (49, (boolA (z11 == z25))), (63, (intA (IntKind.wrap .i64 (t15 + (1)))))], ((100004, some ⟨[(intA z10), (intA z11)], 45⟩) :: (100004, some ⟨[(intA (0)), (intA (0))], 45⟩) :: m), 100052⟩)) else (
N0 ⟨[(0, t0), (2, (intA t2)), (13, t13), (14, (intA t14)), (15, (intA (IntKind.wrap .i64 (t15 + (1))))), (16, (boolA (decide (t15 < t14)))), (17, (intA t15)), (18, v6), (19, (AV.agg [(intA z10), (intA z11)])), (4, (AV.ptr 100004 0)), (3, (intA t15)), (21, (AV.ptr 100004 1)), (22, (intA z11)), (23, (boolA (z11 != (0)))), (24, (boolA true)), (25, (AV.ptr 100004 1)), (26, (intA z11)), (27, (boolA (z11 != (1)))), (28, (boolA (z11 != (1)))), (20, (boolA (z11 != (1)))), (30, (AV.ptr 100004 0)), (31, (intA z10)), (32, (boolA b13)), (33, (boolA false)), (34, (intA t15)), (35, (boolA (decide (t15 > (0))))), (36, (boolA false)), (37, (AV.tup [])), (38, (AV.tup [])), (39, (AV.tup [])), (40, (AV.tup [])), (41, (AV.tup [])), (42, (AV.tup [])), (43, (AV.tup [])), (44, (AV.tup [])), (45, (AV.tup [])), (46, (AV.tup [])), (47, (boolA false)), (48, (boolA false)), (29, (boolA false)), (50, (intA t15)), (51, (boolA (decide (t15 > (0))))), (52, (boolA false)), (53, (AV.tup [])), (54, (AV.tup [])), (55, (AV.tup [])), (56, (AV.tup [])), (57, (AV.tup [])), (58, (AV.tup [])), (59, (AV.tup [])), (60, (AV.tup [])), (61, (AV.tup [])), (62, (boolA false)), (49, (boolA false)), (63, (intA (IntKind.wrap .i64 (t15 + (1)))))], ((100004, some ⟨[(intA z10), (intA z11)], 45⟩) :: (100004, some ⟨[(intA (0)), (intA (0))], 45⟩) :: m), 100052⟩))))) else (
callQ pg KK.gl ((100004, some ⟨[(intA z10), (intA z11)], 45⟩) :: (100004, some ⟨[(intA (0)), (intA (0))], 45⟩) :: m) 37 [(intA z10)] fun v26 =>
exB v26 fun b27 =>
bif b27 then (
retL R ((100004, some ⟨[(intA z10), (intA z11)], 45⟩) :: (100004, some ⟨[(intA (0)), (intA (0))], 45⟩) :: m) [some (intA (12))]) else (
bif (decide (t15 > (0))) then (
opP (idxS 2 t0 (intA (IntKind.wrap .i64 (t15 - (1))))) fun v28 =>
opP (fldO 0 v28) fun v29 =>
opP (ldS (mget ((100004, some ⟨[(intA z10), (intA z11)], 45⟩) :: (100004, some ⟨[(intA (0)), (intA (0))], 45⟩) :: m)) v29) fun v30 =>
ex_i64 v30 fun z31 =>
bif (decide (z10 < (IntKind.wrap .i64 (z31 + (360))))) then (
retL R ((100004, some ⟨[(intA z10), (intA z11)], 45⟩) :: (100004, some ⟨[(intA (0)), (intA (0))], 45⟩) :: m) [some (intA (12))]) else (
bif (decide (t15 > (0))) then (
opP (idxS 2 t0 (intA (IntKind.wrap .i64 (t15 - (1))))) fun v32 =>
opP (fldO 1 v32) fun v33 =>
opP (ldS (mget ((100004, some ⟨[(intA z10), (intA z11)], 45⟩) :: (100004, some ⟨[(intA (0)), (intA (0))], 45⟩) :: m)) v33) fun v34 =>
ex_i64 v34 fun z35 =>
bif (z11 == z35) then (
retL R ((100004, some ⟨[(intA z10), (intA z11)], 45⟩) :: (100004, some ⟨[(intA (0)), (intA (0))], 45⟩) :: m) [some (intA (11))]) else (
N0 ⟨[(0, t0), (2, (intA t2)), (13, t13), (14, (intA t14)), (15, (intA (IntKind.wrap .i64 (t15 + (1))))), (16, (boolA (decide (t15 < t14)))), (17, (intA t15)), (18, v6), (19, (AV.agg [(intA z10), (intA z11)])), (4, (AV.ptr 100004 0)), (3, (intA t15)), (21, (AV.ptr 100004 1)), (22, (intA z11)), (23, (boolA (z11 != (0)))), (24, (boolA false)), (25, (AV.tup [])), (26, (AV.tup [])), (27, (AV.tup [])), (28, (boolA false)), (20, (boolA false)), (30, (AV.ptr 100004 0)), (31, (intA z10)), (32, (boolA b27)), (33, (boolA false)), (34, (intA t15)), (35, (boolA (decide (t15 > (0))))), (36, (boolA true)), (37, (AV.ptr 100004 0)), (38, (intA z10)), (39, t0), (40, (intA t15)), (41, (intA (IntKind.wrap .i64 (t15 - (1))))), (42, v28), (43, v29), (44, (intA z31)), (45, (intA (IntKind.wrap .i64 (z31 + (360))))), (46, (boolA (decide (z10 < (IntKind.wrap .i64 (z31 + (360))))))), (47, (boolA (decide (z10 < (IntKind.wrap .i64 (z31 + (360))))))), (48, (boolA (decide (z10 < (IntKind.wrap .i64 (z31 + (360))))))), (29, (boolA (decide (z10 < (IntKind.wrap .i64 (z31 + (360))))))), (50, (intA t15)), (51, (boolA (decide (t15 > (0))))), (52, (boolA true)), (53, (AV.ptr 100004 1)), (54, (intA z11)), (55, t0), (56, (intA t15)), (57, (intA (IntKind.wrap .i64 (t15 - (1))))), (58, v32), (59, v33), (60, (intA z35)), (61, (boolA (z11 == z35))), (62, (boolA (z11 == z35))), (49, (boolA (z11 == z35))), (63, (intA (IntKind.wrap .i64 (t15 + (1)))))], ((100004, some ⟨[(intA z10), (intA z11)], 45⟩) :: (100004, some ⟨[(intA (0)), (intA (0))], 45⟩) :: m), 100049⟩)) else (
N0 ⟨[(0, t0), (2, (intA t2)), (13, t13), (14, (intA t14)), (15, (intA (IntKind.wrap .i64 (t15 + (1))))), (16, (boolA (decide (t15 < t14)))), (17, (intA t15)), (18, v6), (19, (AV.agg [(intA z10), (intA z11)])), (4, (AV.ptr 100004 0)), (3, (intA t15)), (21, (AV.ptr 100004 1)), (22, (intA z11)), (23, (boolA (z11 != (0)))), (24, (boolA false)), (25, (AV.tup [])), (26, (AV.tup [])), (27, (AV.tup [])), (28, (boolA false)), (20, (boolA false)), (30, (AV.ptr 100004 0)), (31, (intA z10)), (32, (boolA b27)), (33, (boolA false)), (34, (intA t15)), (35, (boolA (decide (t15 > (0))))), (36, (boolA true)), (37, (AV.ptr 100004 0)), (38, (intA z10)), (39, t0), (40, (intA t15)), (41, (intA (IntKind.wrap .i64 (t15 - (1))))), (42, v28), (43, v29), (44, (intA z31)), (45, (intA (IntKind.wrap .i64 (z31 + (360))))), (46, (boolA (decide (z10 < (IntKind.wrap .i64 (z31 + (360))))))), (47, (boolA (decide (z10 < (IntKind.wrap .i64 (z31 + (360))))))), (48, (boolA (decide (z10 < (IntKind.wrap .i64 (z31 + (360))))))), (29, (boolA (decide (z10 < (IntKind.wrap .i64 (z31 + (360))))))), (50, (intA t15)), (51, (boolA (decide (t15 > (0))))), (52, (boolA false)), (53, (AV.tup [])), (54, (AV.tup [])), (55, (AV.tup [])), (56, (AV.tup [])), (57, (AV.tup [])), (58, (AV.tup [])), (59, (AV.tup [])), (60, (AV.tup [])), (61, (AV.tup [])), (62, (boolA false)), (49, (boolA false)), (63, (intA (IntKind.wrap .i64 (t15 + (1)))))], ((100004, some ⟨[(intA z10), (intA z11)], 45⟩) :: (100004, some ⟨[(intA (0)), (intA (0))], 45⟩) :: m), 100049⟩))) else (
bif (decide (t15 > (0))) then (
opP (idxS 2 t0 (intA (IntKind.wrap .i64 (t15 - (1))))) fun v36 =>
opP (fldO 1 v36) fun v37 =>
opP (ldS (mget ((100004, some ⟨[(intA z10), (intA z11)], 45⟩) :: (100004, some ⟨[(intA (0)), (intA (0))], 45⟩) :: m)) v37) fun v38 =>
ex_i64 v38 fun z39 =>
bif (z11 == z39) then (
retL R ((100004, some ⟨[(intA z10), (intA z11)], 45⟩) :: (100004, some ⟨[(intA (0)), (intA (0))], 45⟩) :: m) [some (intA (11))]) else (
N0 ⟨[(0, t0), (2, (intA t2)), (13, t13), (14, (intA t14)), (15, (intA (IntKind.wrap .i64 (t15 + (1))))), (16, (boolA (decide (t15 < t14)))), (17, (intA t15)), (18, v6), (19, (AV.agg [(intA z10), (intA z11)])), (4, (AV.ptr 100004 0)), (3, (intA t15)), (21, (AV.ptr 100004 1)), (22, (intA z11)), (23, (boolA (z11 != (0)))), (24, (boolA false)), (25, (AV.tup [])), (26, (AV.tup [])), (27, (AV.tup [])), (28, (boolA false)), (20, (boolA false)), (30, (AV.ptr 100004 0)), (31, (intA z10)), (32, (boolA b27)), (33, (boolA false)), (34, (intA t15)), (35, (boolA (decide (t15 > (0))))), (36, (boolA false)), (37, (AV.tup [])), (38, (AV.tup [])), (39, (AV.tup [])), (40, (AV.tup [])), (41, (AV.tup [])), (42, (AV.tup [])), (43, (AV.tup [])), (44, (AV.tup [])), (45, (AV.tup [])), (46, (AV.tup [])), (47, (boolA false)), (48, (boolA false)), (29, (boolA false)), (50, (intA t15)), (51, (boolA (decide (t15 > (0))))), (52, (boolA true)), (53, (AV.ptr 100004 1)), (54, (intA z11)), (55, t0), (56, (intA t15)), (57, (intA (IntKind.wrap .i64 (t15 - (1))))), (58, v36), (59, v37), (60, (intA z39)), (61, (boolA (z11 == z39))), (62, (boolA (z11 == z39))), (49, (boolA (z11 == z39))), (63, (intA (IntKind.wrap .i64 (t15 + (1)))))], ((100004, some ⟨[(intA z10), (intA z11)], 45⟩) :: (100004, some ⟨[(intA (0)), (intA (0))], 45⟩) :: m), 100049⟩)) else (
N0 ⟨[(0, t0), (2, (intA t2)), (13, t13), (14, (intA t14)), (15, (intA (IntKind.wrap .i64 (t15 + (1))))), (16, (boolA (decide (t15 < t14)))), (17, (intA t15)), (18, v6), (19, (AV.agg [(intA z10), (intA z11)])), (4, (AV.ptr 100004 0)), (3, (intA t15)), (21, (AV.ptr 100004 1)), (22, (intA z11)), (23, (boolA (z11 != (0)))), (24, (boolA false)), (25, (AV.tup [])), (26, (AV.tup [])), (27, (AV.tup [])), (28, (boolA false)), (20, (boolA false)), (30, (AV.ptr 100004 0)), (31, (intA z10)), (32, (boolA b27)), (33, (boolA false)), (34, (intA t15)), (35, (boolA (decide (t15 > (0))))), (36, (boolA false)), (37, (AV.tup [])), (38, (AV.tup [])), (39, (AV.tup [])), (40, (AV.tup [])), (41, (AV.tup [])), (42, (AV.tup [])), (43, (AV.tup [])), (44, (AV.tup [])), (45, (AV.tup [])), (46, (AV.tup [])), (47, (boolA false)), (48, (boolA false)), (29, (boolA false)), (50, (intA t15)), (51, (boolA (decide (t15 > (0))))), (52, (boolA false)), (53, (AV.tup [])), (54, (AV.tup [])), (55, (AV.tup [])), (56, (AV.tup [])), (57, (AV.tup [])), (58, (AV.tup [])), (59, (AV.tup [])), (60, (AV.tup [])), (61, (AV.tup [])), (62, (boolA false)), (49, (boolA false)), (63, (intA (IntKind.wrap .i64 (t15 + (1)))))], ((100004, some ⟨[(intA z10), (intA z11)], 45⟩) :: (100004, some ⟨[(intA (0)), (intA (0))], 45⟩) :: m), 100049⟩))))) else (
retL R m [some (intA (0))])
theorem B105_0_eq (t0 : AV) (t2 : Int) (t13 : AV) (t14 : Int) (t15 : Int) (m : Mem) (R : AV → Mem → Prop) (N0 : St → Prop) : W pg KK 64 0 c105_0 (h105_0 t0 t2 t13 t14 t15 m) (qq105_0 R N0) = B105_0 t0 t2 t13 t14 t15 m R N0 := by kernel_rfl
theorem L105_0 (R : AV → Mem → Prop) {σ : Type} (I : σ → Prop) (t0 : σ → AV) (t2 : σ → Int) (t13 : σ → AV) (t14 : σ → Int) (t15 : σ → Int) (m : σ → Mem) (μ : σ → Nat) (step : ∀ x, I x → B105_0 (t0 x) (t2 x) (t13 x) (t14 x) (t15 x) (m x) R (fun s' => ∃ y, I y ∧ μ y < μ x ∧ Weak KK 64 0 s' (h105_0 (t0 y) (t2 y) (t13 y) (t14 y) (t15 y) (m y)))) (x : σ) (hx : I x) {s : St} (hw : Weak KK 64 0 s (h105_0 (t0 x) (t2 x) (t13 x) (t14 x) (t15 x) (m x))) : Tri pg KK 64 0 (.loop c105_0) s (q105_0 R) :=
  Tri.weak hw (Tri.loops fol I (fun x => h105_0 (t0 x) (t2 x) (t13 x) (t14 x) (t15 x) (m x)) μ (fun x hx => (B105_0_eq (t0 x) (t2 x) (t13 x) (t14 x) (t15 x) (m x) R _).mpr (step x hx)) x hx)
noncomputable def F105 (a0 : AV) (R : AV → Mem → Prop) : Prop :=
opP (lenS a0) fun v0 =>
ex_i64 v0 fun z1 =>
bif (decide (z1 > (24))) then (
retL R [] [some (intA (2))]) else (
opP (lenS a0) fun v2 =>
ex_i64 v2 fun z3 =>
bif (z3 == (0)) then (
retL R [] [some (intA (8))]) else (
opP (lenS a0) fun v4 =>
ex_i64 v4 fun z5 =>
Tri pg KK 64 0 (.loop c105_0) ⟨[(0, a0), (2, (intA (0))), (6, a0), (7, (intA z1)), (8, (boolA (decide (z1 > (24))))), (5, (boolA (decide (z1 > (24))))), (10, a0), (11, (intA z3)), (12, (boolA (z3 == (0)))), (9, (boolA (z3 == (0)))), (13, a0), (14, (intA z5)), (15, (intA (0)))], [], 12⟩ (q105_0 R)))
theorem F105_own (a0 : AV) (R : AV → Mem → Prop) (h : F105 a0 R) : Own pg KK.gl 105 [a0] R := own_of_F fol Tryz.func105 (code := c105) (by kernel_rfl) (by kernel_rfl) (by kernel_rfl) (X := F105 a0 R) (by kernel_rfl) h
/- skyway/runway.direction -/
noncomputable def c39 : Code := ((Tryz.f39).body).getD .skip
noncomputable def q39 (R : AV → Mem → Prop) : AExit → St → Prop := retQ pg Tryz.f39 R
noncomputable def c39_0 : Code := loopB c39 0
noncomputable def q39_0 (R : AV → Mem → Prop) : AExit → St → Prop := contW pg KK 44 0 c39 0 (q39 R)
noncomputable def qq39_0 (R : AV → Mem → Prop) (N0 : St → Prop) : AExit → St → Prop := thenQ N0 (q39_0 R)
def h39_0 (t1 : Int) (t4 : Int) (t5 : Bool) (t6 : Int) (t20 : AV) (t21 : Int) (t22 : Int) (m : Mem) : St := ⟨[(1, (intA t1)), (4, (intA t4)), (5, (boolA t5)), (6, (intA t6)), (20, t20), (21, (intA t21)), (22, (intA t22))], m, 100000⟩
noncomputable def B39_0 (t1 : Int) (t4 : Int) (t5 : Bool) (t6 : Int) (t20 : AV) (t21 : Int) (t22 : Int) (m : Mem) (R : AV → Mem → Prop) (N0 : St → Prop) : Prop :=
bif (decide (t22 < t21)) then (
opP (idxS 2 t20 (intA t22)) fun v11 =>
opP (ldA (mget m) 2 v11) fun v12 =>
exA2 v12 fun c13 c14 =>
ex_i64 c13 fun z15 =>
ex_i64 c14 fun z16 =>
opP (opA pg (.call ⟨.builtin .max, #[.tmp 0, .tmp 1], #[3, 3]⟩) 3 [(intA (IntKind.wrap .i64 (t1 - z15))), (intA (IntKind.wrap .i64 (z15 - t1)))] (mget ((100003, some ⟨[(intA z15), (intA z16)], 45⟩) :: (100003, some ⟨[(intA (0)), (intA (0))], 45⟩) :: m)) 100013) fun v17 =>
ex_i64 v17 fun z18 =>
bif (decide (z18 < (180))) then (
retL R ((100003, some ⟨[(intA z15), (intA z16)], 45⟩) :: (100003, some ⟨[(intA (0)), (intA (0))], 45⟩) :: m) [some (intA (0)), some (boolA false)]) else (
bif (decide (z15 ≤ t1)) then (
N0 ⟨[(1, (intA t1)), (4, (intA t4)), (5, (boolA t5)), (6, (intA z16)), (20, t20), (21, (intA t21)), (22, (intA (IntKind.wrap .i64 (t22 + (1))))), (23, (boolA (decide (t22 < t21)))), (24, v11), (25, (AV.agg [(intA z15), (intA z16)])), (8, (AV.ptr 100003 0)), (26, (intA t1)), (27, (AV.ptr 100003 0)), (28, (intA z15)), (29, (intA (IntKind.wrap .i64 (t1 - z15)))), (30, (AV.ptr 100003 0)), (31, (intA z15)), (32, (intA t1)), (33, (intA (IntKind.wrap .i64 (z15 - t1)))), (34, (intA z18)), (35, (boolA (decide (z18 < (180))))), (36, (AV.ptr 100003 0)), (37, (intA z15)), (38, (intA t1)), (39, (boolA (decide (z15 ≤ t1)))), (40, (AV.ptr 100003 1)), (41, (intA z16)), (42, (intA (IntKind.wrap .i64 (t22 + (1)))))], ((100003, some ⟨[(intA z15), (intA z16)], 45⟩) :: (100003, some ⟨[(intA (0)), (intA (0))], 45⟩) :: m), 100024⟩) else (
N0 ⟨[(1, (intA t1)), (4, (intA t4)), (5, (boolA t5)), (6, (intA t6)), (20, t20), (21, (intA t21)), (22, (intA (IntKind.wrap .i64 (t22 + (1))))), (23, (boolA (decide (t22 < t21)))), (24, v11), (25, (AV.agg [(intA z15), (intA z16)])), (8, (AV.ptr 100003 0)), (26, (intA t1)), (27, (AV.ptr 100003 0)), (28, (intA z15)), (29, (intA (IntKind.wrap .i64 (t1 - z15)))), (30, (AV.ptr 100003 0)), (31, (intA z15)), (32, (intA t1)), (33, (intA (IntKind.wrap .i64 (z15 - t1)))), (34, (intA z18)), (35, (boolA (decide (z18 < (180))))), (36, (AV.ptr 100003 0)), (37, (intA z15)), (38, (intA t1)), (39, (boolA (decide (z15 ≤ t1)))), (42, (intA (IntKind.wrap .i64 (t22 + (1)))))], ((100003, some ⟨[(intA z15), (intA z16)], 45⟩) :: (100003, some ⟨[(intA (0)), (intA (0))], 45⟩) :: m), 100021⟩))) else (
retL R m [some (intA t6), some (boolA true)])
theorem B39_0_eq (t1 : Int) (t4 : Int) (t5 : Bool) (t6 : Int) (t20 : AV) (t21 : Int) (t22 : Int) (m : Mem) (R : AV → Mem → Prop) (N0 : St → Prop) : W pg KK 44 0 c39_0 (h39_0 t1 t4 t5 t6 t20 t21 t22 m) (qq39_0 R N0) = B39_0 t1 t4 t5 t6 t20 t21 t22 m R N0 := by kernel_rfl
theorem L39_0 (R : AV → Mem → Prop) {σ : Type} (I : σ → Prop) (t1 : σ → Int) (t4 : σ → Int) (t5 : σ → Bool) (t6 : σ → Int) (t20 : σ → AV) (t21 : σ → Int) (t22 : σ → Int) (m : σ → Mem) (μ : σ → Nat) (step : ∀ x, I x → B39_0 (t1 x) (t4 x) (t5 x) (t6 x) (t20 x) (t21 x) (t22 x) (m x) R (fun s' => ∃ y, I y ∧ μ y < μ x ∧ Weak KK 44 0 s' (h39_0 (t1 y) (t4 y) (t5 y) (t6 y) (t20 y) (t21 y) (t22 y) (m y)))) (x : σ) (hx : I x) {s : St} (hw : Weak KK 44 0 s (h39_0 (t1 x) (t4 x) (t5 x) (t6 x) (t20 x) (t21 x) (t22 x) (m x))) : Tri pg KK 44 0 (.loop c39_0) s (q39_0 R) :=
  Tri.weak hw (Tri.loops fol I (fun x => h39_0 (t1 x) (t4 x) (t5 x) (t6 x) (t20 x) (t21 x) (t22 x) (m x)) μ (fun x hx => (B39_0_eq (t1 x) (t4 x) (t5 x) (t6 x) (t20 x) (t21 x) (t22 x) (m x) R _).mpr (step x hx)) x hx)
noncomputable def F39 (a0 : AV) (a1 : Int) (R : AV → Mem → Prop) : Prop :=
opP (idxS 2 a0 (intA (0))) fun v0 =>
opP (fldO 0 v0) fun v1 =>
opP (ldS (mget []) v1) fun v2 =>
ex_i64 v2 fun z3 =>
bif (decide (a1 < z3)) then (
retL R [] [some (intA (0)), some (boolA false)]) else (
opP (idxS 2 a0 (intA (0))) fun v4 =>
opP (fldO 1 v4) fun v5 =>
opP (ldS (mget []) v5) fun v6 =>
ex_i64 v6 fun z7 =>
opP (opA pg (.slice 46 (.tmp 0) (some (.tmp 1)) none none) 46 [a0, (intA (1))] (mget []) 14) fun v8 =>
opP (lenS v8) fun v9 =>
ex_i64 v9 fun z10 =>
Tri pg KK 44 0 (.loop c39_0) ⟨[(0, a0), (1, (intA a1)), (4, (intA (0))), (5, (boolA false)), (9, (intA a1)), (10, a0), (11, v0), (12, v1), (13, (intA z3)), (14, (boolA (decide (a1 < z3)))), (15, a0), (16, v4), (17, v5), (18, (intA z7)), (6, (intA z7)), (19, a0), (20, v8), (21, (intA z10)), (22, (intA (0)))], [], 17⟩ (q39_0 R))
theorem F39_own (a0 : AV) (a1 : Int) (R : AV → Mem → Prop) (h : F39 a0 a1 R) : Own pg KK.gl 39 [a0, (intA a1)] R := own_of_F fol Tryz.func39 (code := c39) (by kernel_rfl) (by kernel_rfl) (by kernel_rfl) (X := F39 a0 a1 R) (by kernel_rfl) h
/- skyway/runway.gap -/
noncomputable def c106 : Code := ((Tryz.f106).body).getD .skip
noncomputable def q106 (R : AV → Mem → Prop) : AExit → St → Prop := retQ pg Tryz.f106 R
noncomputable def F106 (a0_0 : Int) (a0_1 : Int) (a0_2 : Int) (a0_3 : Int) (a0_4 : Int) (a0_5 : Int) (a0_6 : Int) (a0_7 : Int) (a0_8 : Int) (a0_9 : Int) (a0_10 : Int) (a0_11 : Int) (a0_12 : Int) (a0_13 : Int) (a0_14 : Int) (a0_15 : Int) (a1_0 : Int) (a1_1 : Int) (a1_2 : Bool) (a1_3 : Int) (a2_0 : Int) (a2_1 : Int) (a2_2 : Bool) (a2_3 : Int) (R : AV → Mem → Prop) : Prop :=
opP (opA pg (.binOp .neq 4 (.tmp 0) (.tmp 1) 4) 4 [(boolA a1_2), (boolA a2_2)] (mget ((2, some ⟨[(intA a2_0), (intA a2_1), (boolA a2_2), (intA a2_3)], 48⟩) :: (1, some ⟨[(intA a1_0), (intA a1_1), (boolA a1_2), (intA a1_3)], 48⟩) :: (0, some ⟨[(intA a0_0), (intA a0_1), (intA a0_2), (intA a0_3), (intA a0_4), (intA a0_5), (intA a0_6), (intA a0_7), (intA a0_8), (intA a0_9), (intA a0_10), (intA a0_11), (intA a0_12), (intA a0_13), (intA a0_14), (intA a0_15)], 31⟩) :: [])) 8) fun v0 =>
exB v0 fun b1 =>
bif b1 then (
retL R ((2, some ⟨[(intA a2_0), (intA a2_1), (boolA a2_2), (intA a2_3)], 48⟩) :: (1, some ⟨[(intA a1_0), (intA a1_1), (boolA a1_2), (intA a1_3)], 48⟩) :: (0, some ⟨[(intA a0_0), (intA a0_1), (intA a0_2), (intA a0_3), (intA a0_4), (intA a0_5), (intA a0_6), (intA a0_7), (intA a0_8), (intA a0_9), (intA a0_10), (intA a0_11), (intA a0_12), (intA a0_13), (intA a0_14), (intA a0_15)], 31⟩) :: []) [some (intA (60))]) else (
opP (idxA 4 4 (AV.ptr 0 0) (intA a1_1)) fun v2 =>
opP (idxA 4 1 v2 (intA a2_1)) fun v3 =>
opP (ldS (mget ((2, some ⟨[(intA a2_0), (intA a2_1), (boolA a2_2), (intA a2_3)], 48⟩) :: (1, some ⟨[(intA a1_0), (intA a1_1), (boolA a1_2), (intA a1_3)], 48⟩) :: (0, some ⟨[(intA a0_0), (intA a0_1), (intA a0_2), (intA a0_3), (intA a0_4), (intA a0_5), (intA a0_6), (intA a0_7), (intA a0_8), (intA a0_9), (intA a0_10), (intA a0_11), (intA a0_12), (intA a0_13), (intA a0_14), (intA a0_15)], 31⟩) :: [])) v3) fun v4 =>
ex_i64 v4 fun z5 =>
retL R ((2, some ⟨[(intA a2_0), (intA a2_1), (boolA a2_2), (intA a2_3)], 48⟩) :: (1, some ⟨[(intA a1_0), (intA a1_1), (boolA a1_2), (intA a1_3)], 48⟩) :: (0, some ⟨[(intA a0_0), (intA a0_1), (intA a0_2), (intA a0_3), (intA a0_4), (intA a0_5), (intA a0_6), (intA a0_7), (intA a0_8), (intA a0_9), (intA a0_10), (intA a0_11), (intA a0_12), (intA a0_13), (intA a0_14), (intA a0_15)], 31⟩) :: []) [some (intA z5)])
theorem F106_own (a0_0 : Int) (a0_1 : Int) (a0_2 : Int) (a0_3 : Int) (a0_4 : Int) (a0_5 : Int) (a0_6 : Int) (a0_7 : Int) (a0_8 : Int) (a0_9 : Int) (a0_10 : Int) (a0_11 : Int) (a0_12 : Int) (a0_13 : Int) (a0_14 : Int) (a0_15 : Int) (a1_0 : Int) (a1_1 : Int) (a1_2 : Bool) (a1_3 : Int) (a2_0 : Int) (a2_1 : Int) (a2_2 : Bool) (a2_3 : Int) (R : AV → Mem → Prop) (h : F106 a0_0 a0_1 a0_2 a0_3 a0_4 a0_5 a0_6 a0_7 a0_8 a0_9 a0_10 a0_11 a0_12 a0_13 a0_14 a0_15 a1_0 a1_1 a1_2 a1_3 a2_0 a2_1 a2_2 a2_3 R) : Own pg KK.gl 106 [(AV.agg [(intA a0_0), (intA a0_1), (intA a0_2), (intA a0_3), (intA a0_4), (intA a0_5), (intA a0_6), (intA a0_7), (intA a0_8), (intA a0_9), (intA a0_10), (intA a0_11), (intA a0_12), (intA a0_13), (intA a0_14), (intA a0_15)]), (AV.agg [(intA a1_0), (intA a1_1), (boolA a1_2), (intA a1_3)]), (AV.agg [(intA a2_0), (intA a2_1), (boolA a2_2), (intA a2_3)])] R := own_of_F fol Tryz.func106 (code := c106) (by kernel_rfl) (by kernel_rfl) (by kernel_rfl) (X := F106 a0_0 a0_1 a0_2 a0_3 a0_4 a0_5 a0_6 a0_7 a0_8 a0_9 a0_10 a0_11 a0_12 a0_13 a0_14 a0_15 a1_0 a1_1 a1_2 a1_3 a2_0 a2_1 a2_2 a2_3 R) (by kernel_rfl) h
/- skyway/runway.Safe -/
noncomputable def c35 : Code := ((Tryz.f35).body).getD .skip
noncomputable def q35 (R : AV → Mem → Prop) : AExit → St → Prop := retQ pg Tryz.f35 R
noncomputable def c35_0 : Code := loopB c35 0
noncomputable def q35_0 (R : AV → Mem → Prop) : AExit → St → Prop := contW pg KK 93 0 c35 0 (q35 R)
noncomputable def qq35_0 (R : AV → Mem → Prop) (N0 : St → Prop) : AExit → St → Prop := thenQ N0 (q35_0 R)
def h35_0 (t0 : AV) (t1 : AV) (t6 : Int) (t7 : Int) (t8 : Int) (t34 : AV) (t35 : Int) (t36 : Int) (b0_0 : Int) (b0_1 : Int) (b0_2 : Int) (b0_3 : Int) (b0_4 : Int) (b0_5 : Int) (b0_6 : Int) (b0_7 : Int) (b0_8 : Int) (b0_9 : Int) (b0_10 : Int) (b0_11 : Int) (b0_12 : Int) (b0_13 : Int) (b0_14 : Int) (b0_15 : Int) (m : Mem) : St := ⟨[(0, t0), (1, t1), (5, (AV.ptr 0 0)), (6, (intA t6)), (7, (intA t7)), (8, (intA t8)), (34, t34), (35, (intA t35)), (36, (intA t36))], ((0, some ⟨[(intA b0_0), (intA b0_1), (intA b0_2), (intA b0_3), (intA b0_4), (intA b0_5), (intA b0_6), (intA b0_7), (intA b0_8), (intA b0_9), (intA b0_10), (intA b0_11), (intA b0_12), (intA b0_13), (intA b0_14), (intA b0_15)], 31⟩) :: m), 100000⟩
noncomputable def c35_1 : Code := loopB c35 1
noncomputable def q35_1 (R : AV → Mem → Prop) : AExit → St → Prop := contW pg KK 93 0 c35 1 (q35 R)
noncomputable def qq35_1 (R : AV → Mem → Prop) (N0 : St → Prop) : AExit → St → Prop := thenQ N0 (q35_1 R)
def h35_1 (t0 : AV) (t6 : Int) (t7 : Int) (t8 : Int) (t59 : AV) (t60 : Int) (t61 : Int) (b0_0 : Int) (b0_1 : Int) (b0_2 : Int) (b0_3 : Int) (b0_4 : Int) (b0_5 : Int) (b0_6 : Int) (b0_7 : Int) (b0_8 : Int) (b0_9 : Int) (b0_10 : Int) (b0_11 : Int) (b0_12 : Int) (b0_13 : Int) (b0_14 : Int) (b0_15 : Int) (m : Mem) : St := ⟨[(0, t0), (5, (AV.ptr 0 0)), (6, (intA t6)), (7, (intA t7)), (8, (intA t8)), (59, t59), (60, (intA t60)), (61, (intA t61))], ((0, some ⟨[(intA b0_0), (intA b0_1), (intA b0_2), (intA b0_3), (intA b0_4), (intA b0_5), (intA b0_6), (intA b0_7), (intA b0_8), (intA b0_9), (intA b0_10), (intA b0_11), (intA b0_12), (intA b0_13), (intA b0_14), (intA b0_15)], 31⟩) :: m), 200000⟩
noncomputable def c35_1_0 : Code := loopB c35_1 0
noncomputable def q35_1_0 (R : AV → Mem → Prop) (N0 : St → Prop) : AExit → St → Prop := contW pg KK 93 0 c35_1 0 (qq35_1 R N0)
noncomputable def qq35_1_0 (R : AV → Mem → Prop) (N0 : St → Prop) (N1 : St → Prop) : AExit → St → Prop := thenQ N1 (q35_1_0 R N0)
def h35_1_0 (t0 : AV) (t6 : Int) (t7 : Int) (t8 : Int) (t16 : Int) (t18 : Int) (t59 : AV) (t60 : Int) (t61 : Int) (b0_0 : Int) (b0_1 : Int) (b0_2 : Int) (b0_3 : Int) (b0_4 : Int) (b0_5 : Int) (b0_6 : Int) (b0_7 : Int) (b0_8 : Int) (b0_9 : Int) (b0_10 : Int) (b0_11 : Int) (b0_12 : Int) (b0_13 : Int) (b0_14 : Int) (b0_15 : Int) (b200004_0 : Int) (b200004_1 : Int) (b200004_2 : Bool) (b200004_3 : Int) (m : Mem) : St := ⟨[(0, t0), (5, (AV.ptr 0 0)), (6, (intA t6)), (7, (intA t7)), (8, (intA t8)), (16, (intA t16)), (17, (AV.ptr 200004 0)), (18, (intA t18)), (59, t59), (60, (intA t60)), (61, (intA t61))], ((0, some ⟨[(intA b0_0), (intA b0_1), (intA b0_2), (intA b0_3), (intA b0_4), (intA b0_5), (intA b0_6), (intA b0_7), (intA b0_8), (intA b0_9), (intA b0_10), (intA b0_11), (intA b0_12), (intA b0_13), (intA b0_14), (intA b0_15)], 31⟩) :: (200004, some ⟨[(intA b200004_0), (intA b200004_1), (boolA b200004_2), (intA b200004_3)], 48⟩) :: m), 300000⟩
noncomputable def B35_0 (t0 : AV) (t1 : AV) (t6 : Int) (t7 : Int) (t8 : Int) (t34 : AV) (t35 : Int) (t36 : Int) (b0_0 : Int) (b0_1 : Int) (b0_2 : Int) (b0_3 : Int) (b0_4 : Int) (b0_5 : Int) (b0_6 : Int) (b0_7 : Int) (b0_8 : Int) (b0_9 : Int) (b0_10 : Int) (b0_11 : Int) (b0_12 : Int) (b0_13 : Int) (b0_14 : Int) (b0_15 : Int) (m : Mem) (R : AV → Mem → Prop) (N0 : St → Prop) : Prop :=
bif (decide (t36 < t35)) then (
opP (idxS 4 t34 (intA t36)) fun v8 =>
opP (ldA (mget ((0, some ⟨[(intA b0_0), (intA b0_1), (intA b0_2), (intA b0_3), (intA b0_4), (intA b0_5), (intA b0_6), (intA b0_7), (intA b0_8), (intA b0_9), (intA b0_10), (intA b0_11), (intA b0_12), (intA b0_13), (intA b0_14), (intA b0_15)], 31⟩) :: m)) 4 v8) fun v9 =>
exA4 v9 fun c10 c11 c12 c13 =>
ex_i64 c10 fun z14 =>
ex_i64 c11 fun z15 =>
exB c12 fun b16 =>
ex_i64 c13 fun z17 =>
callQ pg KK.gl ((100004, some ⟨[(intA z14), (intA z15), (boolA b16), (intA z17)], 48⟩) :: (100004, some ⟨[(intA (0)), (intA (0)), (boolA false), (intA (0))], 48⟩) :: (0, some ⟨[(intA b0_0), (intA b0_1), (intA b0_2), (intA b0_3), (intA b0_4), (intA b0_5), (intA b0_6), (intA b0_7), (intA b0_8), (intA b0_9), (intA b0_10), (intA b0_11), (intA b0_12), (intA b0_13), (intA b0_14), (intA b0_15)], 31⟩) :: m) 39 [t1, (intA z14)] fun v18 =>
exT2 v18 fun c19 c20 =>
ex_i64 c19 fun z21 =>
exB c20 fun b22 =>
bif (!b22) then (
retL R ((100004, some ⟨[(intA z14), (intA z15), (boolA b16), (intA z17)], 48⟩) :: (100004, some ⟨[(intA (0)), (intA (0)), (boolA false), (intA (0))], 48⟩) :: (0, some ⟨[(intA b0_0), (intA b0_1), (intA b0_2), (intA b0_3), (intA b0_4), (intA b0_5), (intA b0_6), (intA b0_7), (intA b0_8), (intA b0_9), (intA b0_10), (intA b0_11), (intA b0_12), (intA b0_13), (intA b0_14), (intA b0_15)], 31⟩) :: m) [some (intA t36), some (intA t36), some (intA (14))]) else (
bif (z21 != z17) then (
retL R ((100004, some ⟨[(intA z14), (intA z15), (boolA b16), (intA z17)], 48⟩) :: (100004, some ⟨[(intA (0)), (intA (0)), (boolA false), (intA (0))], 48⟩) :: (0, some ⟨[(intA b0_0), (intA b0_1), (intA b0_2), (intA b0_3), (intA b0_4), (intA b0_5), (intA b0_6), (intA b0_7), (intA b0_8), (intA b0_9), (intA b0_10), (intA b0_11), (intA b0_12), (intA b0_13), (intA b0_14), (intA b0_15)], 31⟩) :: m) [some (intA t36), some (intA t36), some (intA (14))]) else (
N0 ⟨[(0, t0), (1, t1), (5, (AV.ptr 0 0)), (6, (intA t6)), (7, (intA t7)), (8, (intA t8)), (34, t34), (35, (intA t35)), (36, (intA (IntKind.wrap .i64 (t36 + (1))))), (37, (boolA (decide (t36 < t35)))), (38, (intA t36)), (39, v8), (40, (AV.agg [(intA z14), (intA z15), (boolA b16), (intA z17)])), (13, (AV.ptr 100004 0)), (12, (intA t36)), (42, t1), (43, (AV.ptr 100004 0)), (44, (intA z14)), (45, (AV.tup [(intA z21), (boolA b22)])), (41, (AV.tup [(intA z21), (boolA b22)])), (46, (intA z21)), (47, (boolA b22)), (14, (intA z21)), (15, (boolA b22)), (48, (boolA b22)), (49, (boolA (!b22))), (50, (boolA false)), (51, (intA z21)), (52, (AV.ptr 100004 3)), (53, (intA z17)), (54, (boolA (z21 != z17))), (55, (boolA (z21 != z17))), (58, (intA (IntKind.wrap .i64 (t36 + (1)))))], ((100004, some ⟨[(intA z14), (intA z15), (boolA b16), (intA z17)], 48⟩) :: (100004, some ⟨[(intA (0)), (intA (0)), (boolA false), (intA (0))], 48⟩) :: (0, some ⟨[(intA b0_0), (intA b0_1), (intA b0_2), (intA b0_3), (intA b0_4), (intA b0_5), (intA b0_6), (intA b0_7), (intA b0_8), (intA b0_9), (intA b0_10), (intA b0_11), (intA b0_12), (intA b0_13), (intA b0_14), (intA b0_15)], 31⟩) :: m), 100089⟩))) else (
opP (lenS t0) fun v23 =>
ex_i64 v23 fun z24 =>
Tri pg KK 93 0 (.loop c35_1) ⟨[(0, t0), (1, t1), (5, (AV.ptr 0 0)), (6, (intA t6)), (7, (intA t7)), (8, (intA t8)), (34, t34), (35, (intA t35)), (36, (intA t36)), (37, (boolA (decide (t36 < t35)))), (59, t0), (60, (intA z24)), (61, (intA (0)))], ((0, some ⟨[(intA b0_0), (intA b0_1), (intA b0_2), (intA b0_3), (intA b0_4), (intA b0_5), (intA b0_6), (intA b0_7), (intA b0_8), (intA b0_9), (intA b0_10), (intA b0_11), (intA b0_12), (intA b0_13), (intA b0_14), (intA b0_15)], 31⟩) :: m), 100004⟩ (q35_1 R))
theorem B35_0_eq (t0 : AV) (t1 : AV) (t6 : Int) (t7 : Int) (t8 : Int) (t34 : AV) (t35 : Int) (t36 : Int) (b0_0 : Int) (b0_1 : Int) (b0_2 : Int) (b0_3 : Int) (b0_4 : Int) (b0_5 : Int) (b0_6 : Int) (b0_7 : Int) (b0_8 : Int) (b0_9 : Int) (b0_10 : Int) (b0_11 : Int) (b0_12 : Int) (b0_13 : Int) (b0_14 : Int) (b0_15 : Int) (m : Mem) (R : AV → Mem → Prop) (N0 : St → Prop) : W pg KK 93 0 c35_0 (h35_0 t0 t1 t6 t7 t8 t34 t35 t36 b0_0 b0_1 b0_2 b0_3 b0_4 b0_5 b0_6 b0_7 b0_8 b0_9 b0_10 b0_11 b0_12 b0_13 b0_14 b0_15 m) (qq35_0 R N0) = B35_0 t0 t1 t6 t7 t8 t34 t35 t36 b0_0 b0_1 b0_2 b0_3 b0_4 b0_5 b0_6 b0_7 b0_8 b0_9 b0_10 b0_11 b0_12 b0_13 b0_14 b0_15 m R N0 := by kernel_rfl
theorem L35_0 (R : AV → Mem → Prop) {σ : Type} (I : σ → Prop) (t0 : σ → AV) (t1 : σ → AV) (t6 : σ → Int) (t7 : σ → Int) (t8 : σ → Int) (t34 : σ → AV) (t35 : σ → Int) (t36 : σ → Int) (b0_0 : σ → Int) (b0_1 : σ → Int) (b0_2 : σ → Int) (b0_3 : σ → Int) (b0_4 : σ → Int) (b0_5 : σ → Int) (b0_6 : σ → Int) (b0_7 : σ → Int) (b0_8 : σ → Int) (b0_9 : σ → Int) (b0_10 : σ → Int) (b0_11 : σ → Int) (b0_12 : σ → Int) (b0_13 : σ → Int) (b0_14 : σ → Int) (b0_15 : σ → Int) (m : σ → Mem) (μ : σ → Nat) (step : ∀ x, I x → B35_0 (t0 x) (t1 x) (t6 x) (t7 x) (t8 x) (t34 x) (t35 x) (t36 x) (b0_0 x) (b0_1 x) (b0_2 x) (b0_3 x) (b0_4 x) (b0_5 x) (b0_6 x) (b0_7 x) (b0_8 x) (b0_9 x) (b0_10 x) (b0_11 x) (b0_12 x) (b0_13 x) (b0_14 x) (b0_15 x) (m x) R (fun s' => ∃ y, I y ∧ μ y < μ x ∧ Weak KK 93 0 s' (h35_0 (t0 y) (t1 y) (t6 y) (t7 y) (t8 y) (t34 y) (t35 y) (t36 y) (b0_0 y) (b0_1 y) (b0_2 y) (b0_3 y) (b0_4 y) (b0_5 y) (b0_6 y) (b0_7 y) (b0_8 y) (b0_9 y) (b0_10 y) (b0_11 y) (b0_12 y) (b0_13 y) (b0_14 y) (b0_15 y) (m y)))) (x : σ) (hx : I x) {s : St} (hw : Weak KK 93 0 s (h35_0 (t0 x) (t1 x) (t6 x) (t7 x) (t8 x) (t34 x) (t35 x) (t36 x) (b0_0 x) (b0_1 x) (b0_2 x) (b0_3 x) (b0_4 x) (b0_5 x) (b0_6 x) (b0_7 x) (b0_8 x) (b0_9 x) (b0_10 x) (b0_11 x) (b0_12 x) (b0_13 x) (b0_14 x) (b0_15 x) (m x))) : Tri pg KK 93 0 (.loop c35_0) s (q35_0 R) :=
  Tri.weak hw (Tri.loops fol I (fun x => h35_0 (t0 x) (t1 x) (t6 x) (t7 x) (t8 x) (t34 x) (t35 x) (t36 x) (b0_0 x) (b0_1 x) (b0_2 x) (b0_3 x) (b0_4 x) (b0_5 x) (b0_6 x) (b0_7 x) (b0_8 x) (b0_9 x) (b0_10 x) (b0_11 x) (b0_12 x) (b0_13 x) (b0_14 x) (b0_15 x) (m x)) μ (fun x hx => (B35_0_eq (t0 x) (t1 x) (t6 x) (t7 x) (t8 x) (t34 x) (t35 x) (t36 x) (b0_0 x) (b0_1 x) (b0_2 x) (b0_3 x) (b0_4 x) (b0_5 x) (b0_6 x) (b0_7 x) (b0_8 x) (b0_9 x) (b0_10 x) (b0_11 x) (b0_12 x) (b0_13 x) (b0_14 x) (b0_15 x) (m x) R _).mpr (step x hx)) x hx)
noncomputable def B35_1 (t0 : AV) (t6 : Int) (t7 : Int) (t8 : Int) (t59 : AV) (t60 : Int) (t61 : Int) (b0_0 : Int) (b0_1 : Int) (b0_2 : Int) (b0_3 : Int) (b0_4 : Int) (b0_5 : Int) (b0_6 : Int) (b0_7 : Int) (b0_8 : Int) (b0_9 : Int) (b0_10 : Int) (b0_11 : Int) (b0_12 : Int) (b0_13 : Int) (b0_14 : Int) (b0_15 : Int) (m : Mem) (R : AV → Mem → Prop) (N0 : St → Prop) : Prop :=
bif (decide (t61 < t60)) then (
opP (idxS 4 t59 (intA t61)) fun v25 =>
opP (ldA (mget ((0, some ⟨[(intA b0_0), (intA b0_1), (intA b0_2), (intA b0_3), (intA b0_4), (intA b0_5), (intA b0_6), (intA b0_7), (intA b0_8), (intA b0_9), (intA b0_10), (intA b0_11), (intA b0_12), (intA b0_13), (intA b0_14), (intA b0_15)], 31⟩) :: m)) 4 v25) fun v26 =>
exA4 v26 fun c27 c28 c29 c30 =>
ex_i64 c27 fun z31 =>
ex_i64 c28 fun z32 =>
exB c29 fun b33 =>
ex_i64 c30 fun z34 =>
Tri pg KK 93 0 (.loop c35_1_0) ⟨[(0, t0), (5, (AV.ptr 0 0)), (6, (intA t6)), (7, (intA t7)), (8, (intA t8)), (59, t59), (60, (intA t60)), (61, (intA t61)), (62, (boolA (decide (t61 < t60)))), (63, (intA t61)), (64, v25), (65, (AV.agg [(intA z31), (intA z32), (boolA b33), (intA z34)])), (17, (AV.ptr 200004 0)), (16, (intA t61)), (66, (intA t61)), (67, (intA (IntKind.wrap .i64 (t61 + (1))))), (18, (intA (IntKind.wrap .i64 (t61 + (1)))))], ((200004, some ⟨[(intA z31), (intA z32), (boolA b33), (intA z34)], 48⟩) :: (200004, some ⟨[(intA (0)), (intA (0)), (boolA false), (intA (0))], 48⟩) :: (0, some ⟨[(intA b0_0), (intA b0_1), (intA b0_2), (intA b0_3), (intA b0_4), (intA b0_5), (intA b0_6), (intA b0_7), (intA b0_8), (intA b0_9), (intA b0_10), (intA b0_11), (intA b0_12), (intA b0_13), (intA b0_14), (intA b0_15)], 31⟩) :: m), 200010⟩ (q35_1_0 R N0)) else (
retL R ((0, some ⟨[(intA b0_0), (intA b0_1), (intA b0_2), (intA b0_3), (intA b0_4), (intA b0_5), (intA b0_6), (intA b0_7), (intA b0_8), (intA b0_9), (intA b0_10), (intA b0_11), (intA b0_12), (intA b0_13), (intA b0_14), (intA b0_15)], 31⟩) :: m) [some (intA (0)), some (intA (0)), some (intA (0))])
theorem B35_1_eq (t0 : AV) (t6 : Int) (t7 : Int) (t8 : Int) (t59 : AV) (t60 : Int) (t61 : Int) (b0_0 : Int) (b0_1 : Int) (b0_2 : Int) (b0_3 : Int) (b0_4 : Int) (b0_5 : Int) (b0_6 : Int) (b0_7 : Int) (b0_8 : Int) (b0_9 : Int) (b0_10 : Int) (b0_11 : Int) (b0_12 : Int) (b0_13 : Int) (b0_14 : Int) (b0_15 : Int) (m : Mem) (R : AV → Mem → Prop) (N0 : St → Prop) : W pg KK 93 0 c35_1 (h35_1 t0 t6 t7 t8 t59 t60 t61 b0_0 b0_1 b0_2 b0_3 b0_4 b0_5 b0_6 b0_7 b0_8 b0_9 b0_10 b0_11 b0_12 b0_13 b0_14 b0_15 m) (qq35_1 R N0) = B35_1 t0 t6 t7 t8 t59 t60 t61 b0_0 b0_1 b0_2 b0_3 b0_4 b0_5 b0_6 b0_7 b0_8 b0_9 b0_10 b0_11 b0_12 b0_13 b0_14 b0_15 m R N0 := by kernel_rfl
theorem L35_1 (R : AV → Mem → Prop) {σ : Type} (I : σ → Prop) (t0 : σ → AV) (t6 : σ → Int) (t7 : σ → Int) (t8 : σ → Int) (t59 : σ → AV) (t60 : σ → Int) (t61 : σ → Int) (b0_0 : σ → Int) (b0_1 : σ → Int) (b0_2 : σ → Int) (b0_3 : σ → Int) (b0_4 : σ → Int) (b0_5 : σ → Int) (b0_6 : σ → Int) (b0_7 : σ → Int) (b0_8 : σ → Int) (b0_9 : σ → Int) (b0_10 : σ → Int) (b0_11 : σ → Int) (b0_12 : σ → Int) (b0_13 : σ → Int) (b0_14 : σ → Int) (b0_15 : σ → Int) (m : σ → Mem) (μ : σ → Nat) (step : ∀ x, I x → B35_1 (t0 x) (t6 x) (t7 x) (t8 x) (t59 x) (t60 x) (t61 x) (b0_0 x) (b0_1 x) (b0_2 x) (b0_3 x) (b0_4 x) (b0_5 x) (b0_6 x) (b0_7 x) (b0_8 x) (b0_9 x) (b0_10 x) (b0_11 x) (b0_12 x) (b0_13 x) (b0_14 x) (b0_15 x) (m x) R (fun s' => ∃ y, I y ∧ μ y < μ x ∧ Weak KK 93 0 s' (h35_1 (t0 y) (t6 y) (t7 y) (t8 y) (t59 y) (t60 y) (t61 y) (b0_0 y) (b0_1 y) (b0_2 y) (b0_3 y) (b0_4 y) (b0_5 y) (b0_6 y) (b0_7 y) (b0_8 y) (b0_9 y) (b0_10 y) (b0_11 y) (b0_12 y) (b0_13 y) (b0_14 y) (b0_15 y) (m y)))) (x : σ) (hx : I x) {s : St} (hw : Weak KK 93 0 s (h35_1 (t0 x) (t6 x) (t7 x) (t8 x) (t59 x) (t60 x) (t61 x) (b0_0 x) (b0_1 x) (b0_2 x) (b0_3 x) (b0_4 x) (b0_5 x) (b0_6 x) (b0_7 x) (b0_8 x) (b0_9 x) (b0_10 x) (b0_11 x) (b0_12 x) (b0_13 x) (b0_14 x) (b0_15 x) (m x))) : Tri pg KK 93 0 (.loop c35_1) s (q35_1 R) :=
  Tri.weak hw (Tri.loops fol I (fun x => h35_1 (t0 x) (t6 x) (t7 x) (t8 x) (t59 x) (t60 x) (t61 x) (b0_0 x) (b0_1 x) (b0_2 x) (b0_3 x) (b0_4 x) (b0_5 x) (b0_6 x) (b0_7 x) (b0_8 x) (b0_9 x) (b0_10 x) (b0_11 x) (b0_12 x) (b0_13 x) (b0_14 x) (b0_15 x) (m x)) μ (fun x hx => (B35_1_eq (t0 x) (t6 x) (t7 x) (t8 x) (t59 x) (t60 x) (t61 x) (b0_0 x) (b0_1 x) (b0_2 x) (b0_3 x) (b0_4 x) (b0_5 x) (b0_6 x) (b0_7 x) (b0_8 x) (b0_9 x) (b0_10 x) (b0_11 x) (b0_12 x) (b0_13 x) (b0_14 x) (b0_15 x) (m x) R _).mpr (step x hx)) x hx)
noncomputable def B35_1_0 (t0 : AV) (t6 : Int) (t7 : Int) (t8 : Int) (t16 : Int) (t18 : Int) (t59 : AV) (t60 : Int) (t61 : Int) (b0_0 : Int) (b0_1 : Int) (b0_2 : Int) (b0_3 : Int) (b0_4 : Int) (b0_5 : Int) (b0_6 : Int) (b0_7 : Int) (b0_8 : Int) (b0_9 : Int) (b0_10 : Int) (b0_11 : Int) (b0_12 : Int) (b0_13 : Int) (b0_14 : Int) (b0_15 : Int) (b200004_0 : Int) (b200004_1 : Int) (b200004_2 : Bool) (b200004_3 : Int) (m : Mem) (R : AV → Mem → Prop) (N0 : St → Prop) (N1 : St → Prop) : Prop :=
opP (lenS t0) fun v35 =>
ex_i64 v35 fun z36 =>
bif (decide (t18 < z36)) then (
opP (idxS 4 t0 (intA t18)) fun v37 =>
opP (fldO 0 v37) fun v38 =>
opP (ldS (mget ((0, some ⟨[(intA b0_0), (intA b0_1), (intA b0_2), (intA b0_3), (intA b0_4), (intA b0_5), (intA b0_6), (intA b0_7), (intA b0_8), (intA b0_9), (intA b0_10), (intA b0_11), (intA b0_12), (intA b0_13), (intA b0_14), (intA b0_15)], 31⟩) :: (200004, some ⟨[(intA b200004_0), (intA b200004_1), (boolA b200004_2), (intA b200004_3)], 48⟩) :: m)) v38) fun v39 =>
ex_i64 v39 fun z40 =>
opP (idxS 4 t0 (intA t18)) fun v41 =>
opP (ldA (mget ((0, some ⟨[(intA b0_0), (intA b0_1), (intA b0_2), (intA b0_3), (intA b0_4), (intA b0_5), (intA b0_6), (intA b0_7), (intA b0_8), (intA b0_9), (intA b0_10), (intA b0_11), (intA b0_12), (intA b0_13), (intA b0_14), (intA b0_15)], 31⟩) :: (200004, some ⟨[(intA b200004_0), (intA b200004_1), (boolA b200004_2), (intA b200004_3)], 48⟩) :: m)) 4 v41) fun v42 =>
exA4 v42 fun c43 c44 c45 c46 =>
ex_i64 c43 fun z47 =>
ex_i64 c44 fun z48 =>
exB c45 fun b49 =>
ex_i64 c46 fun z50 =>
callQ pg KK.gl ((0, some ⟨[(intA b0_0), (intA b0_1), (intA b0_2), (intA b0_3), (intA b0_4), (intA b0_5), (intA b0_6), (intA b0_7), (intA b0_8), (intA b0_9), (intA b0_10), (intA b0_11), (intA b0_12), (intA b0_13), (intA b0_14), (intA b0_15)], 31⟩) :: (200004, some ⟨[(intA b200004_0), (intA b200004_1), (boolA b200004_2), (intA b200004_3)], 48⟩) :: m) 106 [(AV.agg [(intA b0_0), (intA b0_1), (intA b0_2), (intA b0_3), (intA b0_4), (intA b0_5), (intA b0_6), (intA b0_7), (intA b0_8), (intA b0_9), (intA b0_10), (intA b0_11), (intA b0_12), (intA b0_13), (intA b0_14), (intA b0_15)]), (AV.agg [(intA b200004_0), (intA b200004_1), (boolA b200004_2), (intA b200004_3)]), (AV.agg [(intA z47), (intA z48), (boolA b49), (intA z50)])] fun v51 =>
ex_i64 v51 fun z52 =>
bif (decide ((IntKind.wrap .i64 (z40 - b200004_0)) < z52)) then (
retL R ((0, some ⟨[(intA b0_0), (intA b0_1), (intA b0_2), (intA b0_3), (intA b0_4), (intA b0_5), (intA b0_6), (intA b0_7), (intA b0_8), (intA b0_9), (intA b0_10), (intA b0_11), (intA b0_12), (intA b0_13), (intA b0_14), (intA b0_15)], 31⟩) :: (200004, some ⟨[(intA b200004_0), (intA b200004_1), (boolA b200004_2), (intA b200004_3)], 48⟩) :: m) [some (intA t16), some (intA t18), some (intA (15))]) else (
N1 ⟨[(0, t0), (5, (AV.ptr 0 0)), (6, (intA t6)), (7, (intA t7)), (8, (intA t8)), (16, (intA t16)), (17, (AV.ptr 200004 0)), (18, (intA (IntKind.wrap .i64 (t18 + (1))))), (59, t59), (60, (intA t60)), (61, (intA t61)), (68, (intA t18)), (69, t0), (70, (intA z36)), (71, (boolA (decide (t18 < z36)))), (74, t0), (75, (intA t18)), (76, v37), (77, v38), (78, (intA z40)), (79, (AV.ptr 200004 0)), (80, (intA b200004_0)), (81, (intA (IntKind.wrap .i64 (z40 - b200004_0)))), (82, (AV.agg [(intA b0_0), (intA b0_1), (intA b0_2), (intA b0_3), (intA b0_4), (intA b0_5), (intA b0_6), (intA b0_7), (intA b0_8), (intA b0_9), (intA b0_10), (intA b0_11), (intA b0_12), (intA b0_13), (intA b0_14), (intA b0_15)])), (83, (AV.agg [(intA b200004_0), (intA b200004_1), (boolA b200004_2), (intA b200004_3)])), (84, t0), (85, (intA t18)), (86, v41), (87, (AV.agg [(intA z47), (intA z48), (boolA b49), (intA z50)])), (88, (intA z52)), (89, (boolA (decide ((IntKind.wrap .i64 (z40 - b200004_0)) < z52)))), (72, (intA t18)), (73, (intA (IntKind.wrap .i64 (t18 + (1)))))], ((0, some ⟨[(intA b0_0), (intA b0_1), (intA b0_2), (intA b0_3), (intA b0_4), (intA b0_5), (intA b0_6), (intA b0_7), (intA b0_8), (intA b0_9), (intA b0_10), (intA b0_11), (intA b0_12), (intA b0_13), (intA b0_14), (intA b0_15)], 31⟩) :: (200004, some ⟨[(intA b200004_0), (intA b200004_1), (boolA b200004_2), (intA b200004_3)], 48⟩) :: m), 300023⟩)) else (
N0 ⟨[(0, t0), (5, (AV.ptr 0 0)), (6, (intA t6)), (7, (intA t7)), (8, (intA t8)), (16, (intA t16)), (17, (AV.ptr 200004 0)), (18, (intA t18)), (59, t59), (60, (intA t60)), (61, (intA (IntKind.wrap .i64 (t61 + (1))))), (68, (intA t18)), (69, t0), (70, (intA z36)), (71, (boolA (decide (t18 < z36)))), (92, (intA (IntKind.wrap .i64 (t61 + (1)))))], ((0, some ⟨[(intA b0_0), (intA b0_1), (intA b0_2), (intA b0_3), (intA b0_4), (intA b0_5), (intA b0_6), (intA b0_7), (intA b0_8), (intA b0_9), (intA b0_10), (intA b0_11), (intA b0_12), (intA b0_13), (intA b0_14), (intA b0_15)], 31⟩) :: (200004, some ⟨[(intA b200004_0), (intA b200004_1), (boolA b200004_2), (intA b200004_3)], 48⟩) :: m), 300006⟩)
theorem B35_1_0_eq (t0 : AV) (t6 : Int) (t7 : Int) (t8 : Int) (t16 : Int) (t18 : Int) (t59 : AV) (t60 : Int) (t61 : Int) (b0_0 : Int) (b0_1 : Int) (b0_2 : Int) (b0_3 : Int) (b0_4 : Int) (b0_5 : Int) (b0_6 : Int) (b0_7 : Int) (b0_8 : Int) (b0_9 : Int) (b0_10 : Int) (b0_11 : Int) (b0_12 : Int) (b0_13 : Int) (b0_14 : Int) (b0_15 : Int) (b200004_0 : Int) (b200004_1 : Int) (b200004_2 : Bool) (b200004_3 : Int) (m : Mem) (R : AV → Mem → Prop) (N0 : St → Prop) (N1 : St → Prop) : W pg KK 93 0 c35_1_0 (h35_1_0 t0 t6 t7 t8 t16 t18 t59 t60 t61 b0_0 b0_1 b0_2 b0_3 b0_4 b0_5 b0_6 b0_7 b0_8 b0_9 b0_10 b0_11 b0_12 b0_13 b0_14 b0_15 b200004_0 b200004_1 b200004_2 b200004_3 m) (qq35_1_0 R N0 N1) = B35_1_0 t0 t6 t7 t8 t16 t18 t59 t60 t61 b0_0 b0_1 b0_2 b0_3 b0_4 b0_5 b0_6 b0_7 b0_8 b0_9 b0_10 b0_11 b0_12 b0_13 b0_14 b0_15 b200004_0 b200004_1 b200004_2 b200004_3 m R N0 N1 := by kernel_rfl
theorem L35_1_0 (R : AV → Mem → Prop) (N0 : St → Prop) {σ : Type} (I : σ → Prop) (t0 : σ → AV) (t6 : σ → Int) (t7 : σ → Int) (t8 : σ → Int) (t16 : σ → Int) (t18 : σ → Int) (t59 : σ → AV) (t60 : σ → Int) (t61 : σ → Int) (b0_0 : σ → Int) (b0_1 : σ → Int) (b0_2 : σ → Int) (b0_3 : σ → Int) (b0_4 : σ → Int) (b0_5 : σ → Int) (b0_6 : σ → Int) (b0_7 : σ → Int) (b0_8 : σ → Int) (b0_9 : σ → Int) (b0_10 : σ → Int) (b0_11 : σ → Int) (b0_12 : σ → Int) (b0_13 : σ → Int) (b0_14 : σ → Int) (b0_15 : σ → Int) (b200004_0 : σ → Int) (b200004_1 : σ → Int) (b200004_2 : σ → Bool) (b200004_3 : σ → Int) (m : σ → Mem) (μ : σ → Nat) (step : ∀ x, I x → B35_1_0 (t0 x) (t6 x) (t7 x) (t8 x) (t16 x) (t18 x) (t59 x) (t60 x) (t61 x) (b0_0 x) (b0_1 x) (b0_2 x) (b0_3 x) (b0_4 x) (b0_5 x) (b0_6 x) (b0_7 x) (b0_8 x) (b0_9 x) (b0_10 x) (b0_11 x) (b0_12 x) (b0_13 x) (b0_14 x) (b0_15 x) (b200004_0 x) (b200004_1 x) (b200004_2 x) (b200004_3 x) (m x) R N0 (fun s' => ∃ y, I y ∧ μ y < μ x ∧ Weak KK 93 0 s' (h35_1_0 (t0 y) (t6 y) (t7 y) (t8 y) (t16 y) (t18 y) (t59 y) (t60 y) (t61 y) (b0_0 y) (b0_1 y) (b0_2 y) (b0_3 y) (b0_4 y) (b0_5 y) (b0_6 y) (b0_7 y) (b0_8 y) (b0_9 y) (b0_10 y) (b0_11 y) (b0_12 y) (b0_13 y) (b0_14 y) (b0_15 y) (b200004_0 y) (b200004_1 y) (b200004_2 y) (b200004_3 y) (m y)))) (x : σ) (hx : I x) {s : St} (hw : Weak KK 93 0 s (h35_1_0 (t0 x) (t6 x) (t7 x) (t8 x) (t16 x) (t18 x) (t59 x) (t60 x) (t61 x) (b0_0 x) (b0_1 x) (b0_2 x) (b0_3 x) (b0_4 x) (b0_5 x) (b0_6 x) (b0_7 x) (b0_8 x) (b0_9 x) (b0_10 x) (b0_11 x) (b0_12 x) (b0_13 x) (b0_14 x) (b0_15 x) (b200004_0 x) (b200004_1 x) (b200004_2 x) (b200004_3 x) (m x))) : Tri pg KK 93 0 (.loop c35_1_0) s (q35_1_0 R N0) :=
  Tri.weak hw (Tri.loops fol I (fun x => h35_1_0 (t0 x) (t6 x) (t7 x) (t8 x) (t16 x) (t18 x) (t59 x) (t60 x) (t61 x) (b0_0 x) (b0_1 x) (b0_2 x) (b0_3 x) (b0_4 x) (b0_5 x) (b0_6 x) (b0_7 x) (b0_8 x) (b0_9 x) (b0_10 x) (b0_11 x) (b0_12 x) (b0_13 x) (b0_14 x) (b0_15 x) (b200004_0 x) (b200004_1 x) (b200004_2 x) (b200004_3 x) (m x)) μ (fun x hx => (B35_1_0_eq (t0 x) (t6 x) (t7 x) (t8 x) (t16 x) (t18 x) (t59 x) (t60 x) (t61 x) (b0_0 x) (b0_1 x) (b0_2 x) (b0_3 x) (b0_4 x) (b0_5 x) (b0_6 x) (b0_7 x) (b0_8 x) (b0_9 x) (b0_10 x) (b0_11 x) (b0_12 x) (b0_13 x) (b0_14 x) (b0_15 x) (b200004_0 x) (b200004_1 x) (b200004_2 x) (b200004_3 x) (m x) R N0 _).mpr (step x hx)) x hx)
noncomputable def F35 (a0 : AV) (a1 : AV) (a2_0 : Int) (a2_1 : Int) (a2_2 : Int) (a2_3 : Int) (a2_4 : Int) (a2_5 : Int) (a2_6 : Int) (a2_7 : Int) (a2_8 : Int) (a2_9 : Int) (a2_10 : Int) (a2_11 : Int) (a2_12 : Int) (a2_13 : Int) (a2_14 : Int) (a2_15 : Int) (R : AV → Mem → Prop) : Prop :=
callQ pg KK.gl ((0, some ⟨[(intA a2_0), (intA a2_1), (intA a2_2), (intA a2_3), (intA a2_4), (intA a2_5), (intA a2_6), (intA a2_7), (intA a2_8), (intA a2_9), (intA a2_10), (intA a2_11), (intA a2_12), (intA a2_13), (intA a2_14), (intA a2_15)], 31⟩) :: []) 104 [a0] fun v0 =>
ex_i64 v0 fun z1 =>
bif (z1 != (0)) then (
retL R ((0, some ⟨[(intA a2_0), (intA a2_1), (intA a2_2), (intA a2_3), (intA a2_4), (intA a2_5), (intA a2_6), (intA a2_7), (intA a2_8), (intA a2_9), (intA a2_10), (intA a2_11), (intA a2_12), (intA a2_13), (intA a2_14), (intA a2_15)], 31⟩) :: []) [some (intA (0)), some (intA (0)), some (intA z1)]) else (
callQ pg KK.gl ((0, some ⟨[(intA a2_0), (intA a2_1), (intA a2_2), (intA a2_3), (intA a2_4), (intA a2_5), (intA a2_6), (intA a2_7), (intA a2_8), (intA a2_9), (intA a2_10), (intA a2_11), (intA a2_12), (intA a2_13), (intA a2_14), (intA a2_15)], 31⟩) :: []) 105 [a1] fun v2 =>
ex_i64 v2 fun z3 =>
bif (z3 != (0)) then (
retL R ((0, some ⟨[(intA a2_0), (intA a2_1), (intA a2_2), (intA a2_3), (intA a2_4), (intA a2_5), (intA a2_6), (intA a2_7), (intA a2_8), (intA a2_9), (intA a2_10), (intA a2_11), (intA a2_12), (intA a2_13), (intA a2_14), (intA a2_15)], 31⟩) :: []) [some (intA (0)), some (intA (0)), some (intA z3)]) else (
callQ pg KK.gl ((0, some ⟨[(intA a2_0), (intA a2_1), (intA a2_2), (intA a2_3), (intA a2_4), (intA a2_5), (intA a2_6), (intA a2_7), (intA a2_8), (intA a2_9), (intA a2_10), (intA a2_11), (intA a2_12), (intA a2_13), (intA a2_14), (intA a2_15)], 31⟩) :: []) 89 [(AV.agg [(intA a2_0), (intA a2_1), (intA a2_2), (intA a2_3), (intA a2_4), (intA a2_5), (intA a2_6), (intA a2_7), (intA a2_8), (intA a2_9), (intA a2_10), (intA a2_11), (intA a2_12), (intA a2_13), (intA a2_14), (intA a2_15)])] fun v4 =>
ex_i64 v4 fun z5 =>
bif (z5 != (0)) then (
retL R ((0, some ⟨[(intA a2_0), (intA a2_1), (intA a2_2), (intA a2_3), (intA a2_4), (intA a2_5), (intA a2_6), (intA a2_7), (intA a2_8), (intA a2_9), (intA a2_10), (intA a2_11), (intA a2_12), (intA a2_13), (intA a2_14), (intA a2_15)], 31⟩) :: []) [some (intA (0)), some (intA (0)), some (intA z5)]) else (
opP (lenS a0) fun v6 =>
ex_i64 v6 fun z7 =>
Tri pg KK 93 0 (.loop c35_0) ⟨[(0, a0), (1, a1), (2, (AV.agg [(intA a2_0), (intA a2_1), (intA a2_2), (intA a2_3), (intA a2_4), (intA a2_5), (intA a2_6), (intA a2_7), (intA a2_8), (intA a2_9), (intA a2_10), (intA a2_11), (intA a2_12), (intA a2_13), (intA a2_14), (intA a2_15)])), (5, (AV.ptr 0 0)), (6, (intA (0))), (7, (intA (0))), (8, (intA (0))), (19, a0), (20, (intA z1)), (9, (intA z1)), (21, (intA z1)), (22, (boolA (z1 != (0)))), (24, a1), (25, (intA z3)), (10, (intA z3)), (26, (intA z3)), (27, (boolA (z3 != (0)))), (29, (AV.agg [(intA a2_0), (intA a2_1), (intA a2_2), (intA a2_3), (intA a2_4), (intA a2_5), (intA a2_6), (intA a2_7), (intA a2_8), (intA a2_9), (intA a2_10), (intA a2_11), (intA a2_12), (intA a2_13), (intA a2_14), (intA a2_15)])), (30, (intA z5)), (11, (intA z5)), (31, (intA z5)), (32, (boolA (z5 != (0)))), (34, a0), (35, (intA z7)), (36, (intA (0)))], ((0, some ⟨[(intA a2_0), (intA a2_1), (intA a2_2), (intA a2_3), (intA a2_4), (intA a2_5), (intA a2_6), (intA a2_7), (intA a2_8), (intA a2_9), (intA a2_10), (intA a2_11), (intA a2_12), (intA a2_13), (intA a2_14), (intA a2_15)], 31⟩) :: []), 211⟩ (q35_0 R))))
theorem F35_own (a0 : AV) (a1 : AV) (a2_0 : Int) (a2_1 : Int) (a2_2 : Int) (a2_3 : Int) (a2_4 : Int) (a2_5 : Int) (a2_6 : Int) (a2_7 : Int) (a2_8 : Int) (a2_9 : Int) (a2_10 : Int) (a2_11 : Int) (a2_12 : Int) (a2_13 : Int) (a2_14 : Int) (a2_15 : Int) (R : AV → Mem → Prop) (h : F35 a0 a1 a2_0 a2_1 a2_2 a2_3 a2_4 a2_5 a2_6 a2_7 a2_8 a2_9 a2_10 a2_11 a2_12 a2_13 a2_14 a2_15 R) : Own pg KK.gl 35 [a0, a1, (AV.agg [(intA a2_0), (intA a2_1), (intA a2_2), (intA a2_3), (intA a2_4), (intA a2_5), (intA a2_6), (intA a2_7), (intA a2_8), (intA a2_9), (intA a2_10), (intA a2_11), (intA a2_12), (intA a2_13), (intA a2_14), (intA a2_15)])] R := own_of_F fol Tryz.func35 (code := c35) (by kernel_rfl) (by kernel_rfl) (by kernel_rfl) (X := F35 a0 a1 a2_0 a2_1 a2_2 a2_3 a2_4 a2_5 a2_6 a2_7 a2_8 a2_9 a2_10 a2_11 a2_12 a2_13 a2_14 a2_15 R) (by kernel_rfl) h
/- skyway/runway.fits -/
noncomputable def c40 : Code := ((Tryz.f40).body).getD .skip
noncomputable def q40 (R : AV → Mem → Prop) : AExit → St → Prop := retQ pg Tryz.f40 R
noncomputable def c40_0 : Code := loopB c40 0
noncomputable def q40_0 (R : AV → Mem → Prop) : AExit → St → Prop := contW pg KK 52 0 c40 0 (q40 R)
noncomputable def qq40_0 (R : AV → Mem → Prop) (N0 : St → Prop) : AExit → St → Prop := thenQ N0 (q40_0 R)
def h40_0 (t6 : Bool) (t9 : AV) (t10 : Int) (t11 : Int) (b0_0 : Int) (b0_1 : Int) (b0_2 : Bool) (b0_3 : Int) (b1_0 : Int) (b1_1 : Int) (b1_2 : Int) (b1_3 : Int) (b1_4 : Int) (b1_5 : Int) (b1_6 : Int) (b1_7 : Int) (b1_8 : Int) (b1_9 : Int) (b1_10 : Int) (b1_11 : Int) (b1_12 : Int) (b1_13 : Int) (b1_14 : Int) (b1_15 : Int) (m : Mem) : St := ⟨[(4, (AV.ptr 0 0)), (5, (AV.ptr 1 0)), (6, (boolA t6)), (9, t9), (10, (intA t10)), (11, (intA t11))], ((0, some ⟨[(intA b0_0), (intA b0_1), (boolA b0_2), (intA b0_3)], 48⟩) :: (1, some ⟨[(intA b1_0), (intA b1_1), (intA b1_2), (intA b1_3), (intA b1_4), (intA b1_5), (intA b1_6), (intA b1_7), (intA b1_8), (intA b1_9), (intA b1_10), (intA b1_11), (intA b1_12), (intA b1_13), (intA b1_14), (intA b1_15)], 31⟩) :: m), 100000⟩
noncomputable def B40_0 (t6 : Bool) (t9 : AV) (t10 : Int) (t11 : Int) (b0_0 : Int) (b0_1 : Int) (b0_2 : Bool) (b0_3 : Int) (b1_0 : Int) (b1_1 : Int) (b1_2 : Int) (b1_3 : Int) (b1_4 : Int) (b1_5 : Int) (b1_6 : Int) (b1_7 : Int) (b1_8 : Int) (b1_9 : Int) (b1_10 : Int) (b1_11 : Int) (b1_12 : Int) (b1_13 : Int) (b1_14 : Int) (b1_15 : Int) (m : Mem) (R : AV → Mem → Prop) (N0 : St → Prop) : Prop :=
bif (decide (t11 < t10)) then (
opP (idxS 4 t9 (intA t11)) fun v2 =>
opP (ldA (mget ((0, some ⟨[(intA b0_0), (intA b0_1), (boolA b0_2), (intA b0_3)], 48⟩) :: (1, some ⟨[(intA b1_0), (intA b1_1), (intA b1_2), (intA b1_3), (intA b1_4), (intA b1_5), (intA b1_6), (intA b1_7), (intA b1_8), (intA b1_9), (intA b1_10), (intA b1_11), (intA b1_12), (intA b1_13), (intA b1_14), (intA b1_15)], 31⟩) :: m)) 4 v2) fun v3 =>
exA4 v3 fun c4 c5 c6 c7 =>
ex_i64 c4 fun z8 =>
ex_i64 c5 fun z9 =>
exB c6 fun b10 =>
ex_i64 c7 fun z11 =>
bif (decide (z8 ≤ b0_0)) then (
callQ pg KK.gl ((100003, some ⟨[(intA z8), (intA z9), (boolA b10), (intA z11)], 48⟩) :: (100003, some ⟨[(intA (0)), (intA (0)), (boolA false), (intA (0))], 48⟩) :: (0, some ⟨[(intA b0_0), (intA b0_1), (boolA b0_2), (intA b0_3)], 48⟩) :: (1, some ⟨[(intA b1_0), (intA b1_1), (intA b1_2), (intA b1_3), (intA b1_4), (intA b1_5), (intA b1_6), (intA b1_7), (intA b1_8), (intA b1_9), (intA b1_10), (intA b1_11), (intA b1_12), (intA b1_13), (intA b1_14), (intA b1_15)], 31⟩) :: m) 106 [(AV.agg [(intA b1_0), (intA b1_1), (intA b1_2), (intA b1_3), (intA b1_4), (intA b1_5), (intA b1_6), (intA b1_7), (intA b1_8), (intA b1_9), (intA b1_10), (intA b1_11), (intA b1_12), (intA b1_13), (intA b1_14), (intA b1_15)]), (AV.agg [(intA z8), (intA z9), (boolA b10), (intA z11)]), (AV.agg [(intA b0_0), (intA b0_1), (boolA b0_2), (intA b0_3)])] fun v12 =>
ex_i64 v12 fun z13 =>
bif (decide ((IntKind.wrap .i64 (b0_0 - z8)) < z13)) then (
retL R ((100003, some ⟨[(intA z8), (intA z9), (boolA b10), (intA z11)], 48⟩) :: (100003, some ⟨[(intA (0)), (intA (0)), (boolA false), (intA (0))], 48⟩) :: (0, some ⟨[(intA b0_0), (intA b0_1), (boolA b0_2), (intA b0_3)], 48⟩) :: (1, some ⟨[(intA b1_0), (intA b1_1), (intA b1_2), (intA b1_3), (intA b1_4), (intA b1_5), (intA b1_6), (intA b1_7), (intA b1_8), (intA b1_9), (intA b1_10), (intA b1_11), (intA b1_12), (intA b1_13), (intA b1_14), (intA b1_15)], 31⟩) :: m) [some (boolA false)]) else (
bif (decide (z8 ≥ b0_0)) then (
callQ pg KK.gl ((100003, some ⟨[(intA z8), (intA z9), (boolA b10), (intA z11)], 48⟩) :: (100003, some ⟨[(intA (0)), (intA (0)), (boolA false), (intA (0))], 48⟩) :: (0, some ⟨[(intA b0_0), (intA b0_1), (boolA b0_2), (intA b0_3)], 48⟩) :: (1, some ⟨[(intA b1_0), (intA b1_1), (intA b1_2), (intA b1_3), (intA b1_4), (intA b1_5), (intA b1_6), (intA b1_7), (intA b1_8), (intA b1_9), (intA b1_10), (intA b1_11), (intA b1_12), (intA b1_13), (intA b1_14), (intA b1_15)], 31⟩) :: m) 106 [(AV.agg [(intA b1_0), (intA b1_1), (intA b1_2), (intA b1_3), (intA b1_4), (intA b1_5), (intA b1_6), (intA b1_7), (intA b1_8), (intA b1_9), (intA b1_10), (intA b1_11), (intA b1_12), (intA b1_13), (intA b1_14), (intA b1_15)]), (AV.agg [(intA b0_0), (intA b0_1), (boolA b0_2), (intA b0_3)]), (AV.agg [(intA z8), (intA z9), (boolA b10), (intA z11)])] fun v14 =>
ex_i64 v14 fun z15 =>
bif (decide ((IntKind.wrap .i64 (z8 - b0_0)) < z15)) then (
retL R ((100003, some ⟨[(intA z8), (intA z9), (boolA b10), (intA z11)], 48⟩) :: (100003, some ⟨[(intA (0)), (intA (0)), (boolA false), (intA (0))], 48⟩) :: (0, some ⟨[(intA b0_0), (intA b0_1), (boolA b0_2), (intA b0_3)], 48⟩) :: (1, some ⟨[(intA b1_0), (intA b1_1), (intA b1_2), (intA b1_3), (intA b1_4), (intA b1_5), (intA b1_6), (intA b1_7), (intA b1_8), (intA b1_9), (intA b1_10), (intA b1_11), (intA b1_12), (intA b1_13), (intA b1_14), (intA b1_15)], 31⟩) :: m) [some (boolA false)]) else (
N0 ⟨[(4, (AV.ptr 0 0)), (5, (AV.ptr 1 0)), (6, (boolA t6)), (9, t9), (10, (intA t10)), (11, (intA (IntKind.wrap .i64 (t11 + (1))))), (12, (boolA (decide (t11 < t10)))), (13, v2), (14, (AV.agg [(intA z8), (intA z9), (boolA b10), (intA z11)])), (8, (AV.ptr 100003 0)), (15, (AV.ptr 100003 0)), (16, (intA z8)), (17, (AV.ptr 0 0)), (18, (intA b0_0)), (19, (boolA (decide (z8 ≤ b0_0)))), (20, (boolA true)), (21, (AV.ptr 0 0)), (22, (intA b0_0)), (23, (AV.ptr 100003 0)), (24, (intA z8)), (25, (intA (IntKind.wrap .i64 (b0_0 - z8)))), (26, (AV.agg [(intA b1_0), (intA b1_1), (intA b1_2), (intA b1_3), (intA b1_4), (intA b1_5), (intA b1_6), (intA b1_7), (intA b1_8), (intA b1_9), (intA b1_10), (intA b1_11), (intA b1_12), (intA b1_13), (intA b1_14), (intA b1_15)])), (27, (AV.agg [(intA z8), (intA z9), (boolA b10), (intA z11)])), (28, (AV.agg [(intA b0_0), (intA b0_1), (boolA b0_2), (intA b0_3)])), (29, (intA z13)), (30, (boolA (decide ((IntKind.wrap .i64 (b0_0 - z8)) < z13)))), (31, (boolA (decide ((IntKind.wrap .i64 (b0_0 - z8)) < z13)))), (32, (boolA false)), (33, (AV.ptr 100003 0)), (34, (intA z8)), (35, (AV.ptr 0 0)), (36, (intA b0_0)), (37, (boolA (decide (z8 ≥ b0_0)))), (38, (boolA true)), (39, (AV.ptr 100003 0)), (40, (intA z8)), (41, (AV.ptr 0 0)), (42, (intA b0_0)), (43, (intA (IntKind.wrap .i64 (z8 - b0_0)))), (44, (AV.agg [(intA b1_0), (intA b1_1), (intA b1_2), (intA b1_3), (intA b1_4), (intA b1_5), (intA b1_6), (intA b1_7), (intA b1_8), (intA b1_9), (intA b1_10), (intA b1_11), (intA b1_12), (intA b1_13), (intA b1_14), (intA b1_15)])), (45, (AV.agg [(intA b0_0), (intA b0_1), (boolA b0_2), (intA b0_3)])), (46, (AV.agg [(intA z8), (intA z9), (boolA b10), (intA z11)])), (47, (intA z15)), (48, (boolA (decide ((IntKind.wrap .i64 (z8 - b0_0)) < z15)))), (49, (boolA (decide ((IntKind.wrap .i64 (z8 - b0_0)) < z15)))), (50, (boolA (decide ((IntKind.wrap .i64 (z8 - b0_0)) < z15)))), (51, (intA (IntKind.wrap .i64 (t11 + (1)))))], ((100003, some ⟨[(intA z8), (intA z9), (boolA b10), (intA z11)], 48⟩) :: (100003, some ⟨[(intA (0)), (intA (0)), (boolA false), (intA (0))], 48⟩) :: (0, some ⟨[(intA b0_0), (intA b0_1), (boolA b0_2), (intA b0_3)], 48⟩) :: (1, some ⟨[(intA b1_0), (intA b1_1), (intA b1_2), (intA b1_3), (intA b1_4), (intA b1_5), (intA b1_6), (intA b1_7), (intA b1_8), (intA b1_9), (intA b1_10), (intA b1_11), (intA b1_12), (intA b1_13), (intA b1_14), (intA b1_15)], 31⟩) :: m), 100043⟩)) else (
N0 ⟨[(4, (AV.ptr 0 0)), (5, (AV.ptr 1 0)), (6, (boolA t6)), (9, t9), (10, (intA t10)), (11, (intA (IntKind.wrap .i64 (t11 + (1))))), (12, (boolA (decide (t11 < t10)))), (13, v2), (14, (AV.agg [(intA z8), (intA z9), (boolA b10), (intA z11)])), (8, (AV.ptr 100003 0)), (15, (AV.ptr 100003 0)), (16, (intA z8)), (17, (AV.ptr 0 0)), (18, (intA b0_0)), (19, (boolA (decide (z8 ≤ b0_0)))), (20, (boolA true)), (21, (AV.ptr 0 0)), (22, (intA b0_0)), (23, (AV.ptr 100003 0)), (24, (intA z8)), (25, (intA (IntKind.wrap .i64 (b0_0 - z8)))), (26, (AV.agg [(intA b1_0), (intA b1_1), (intA b1_2), (intA b1_3), (intA b1_4), (intA b1_5), (intA b1_6), (intA b1_7), (intA b1_8), (intA b1_9), (intA b1_10), (intA b1_11), (intA b1_12), (intA b1_13), (intA b1_14), (intA b1_15)])), (27, (AV.agg [(intA z8), (intA z9), (boolA b10), (intA z11)])), (28, (AV.agg [(intA b0_0), (intA b0_1), (boolA b0_2), (intA b0_3)])), (29, (intA z13)), (30, (boolA (decide ((IntKind.wrap .i64 (b0_0 - z8)) < z13)))), (31, (boolA (decide ((IntKind.wrap .i64 (b0_0 - z8)) < z13)))), (32, (boolA false)), (33, (AV.ptr 100003 0)), (34, (intA z8)), (35, (AV.ptr 0 0)), (36, (intA b0_0)), (37, (boolA (decide (z8 ≥ b0_0)))), (38, (boolA false)), (39, (AV.tup [])), (40, (AV.tup [])), (41, (AV.tup [])), (42, (AV.tup [])), (43, (AV.tup [])), (44, (AV.tup [])), (45, (AV.tup [])), (46, (AV.tup [])), (47, (AV.tup [])), (48, (AV.tup [])), (49, (boolA false)), (50, (boolA false)), (51, (intA (IntKind.wrap .i64 (t11 + (1)))))], ((100003, some ⟨[(intA z8), (intA z9), (boolA b10), (intA z11)], 48⟩) :: (100003, some ⟨[(intA (0)), (intA (0)), (boolA false), (intA (0))], 48⟩) :: (0, some ⟨[(intA b0_0), (intA b0_1), (boolA b0_2), (intA b0_3)], 48⟩) :: (1, some ⟨[(intA b1_0), (intA b1_1), (intA b1_2), (intA b1_3), (intA b1_4), (intA b1_5), (intA b1_6), (intA b1_7), (intA b1_8), (intA b1_9), (intA b1_10), (intA b1_11), (intA b1_12), (intA b1_13), (intA b1_14), (intA b1_15)], 31⟩) :: m), 100043⟩))) else (
bif (decide (z8 ≥ b0_0)) then (
callQ pg KK.gl ((100003, some ⟨[(intA z8), (intA z9), (boolA b10), (intA z11)], 48⟩) :: (100003, some ⟨[(intA (0)), (intA (0)), (boolA false), (intA (0))], 48⟩) :: (0, some ⟨[(intA b0_0), (intA b0_1), (boolA b0_2), (intA b0_3)], 48⟩) :: (1, some ⟨[(intA b1_0), (intA b1_1), (intA b1_2), (intA b1_3), (intA b1_4), (intA b1_5), (intA b1_6), (intA b1_7), (intA b1_8), (intA b1_9), (intA b1_10), (intA b1_11), (intA b1_12), (intA b1_13), (intA b1_14), (intA b1_15)], 31⟩) :: m) 106 [(AV.agg [(intA b1_0), (intA b1_1), (intA b1_2), (intA b1_3), (intA b1_4), (intA b1_5), (intA b1_6), (intA b1_7), (intA b1_8), (intA b1_9), (intA b1_10), (intA b1_11), (intA b1_12), (intA b1_13), (intA b1_14), (intA b1_15)]), (AV.agg [(intA b0_0), (intA b0_1), (boolA b0_2), (intA b0_3)]), (AV.agg [(intA z8), (intA z9), (boolA b10), (intA z11)])] fun v16 =>
ex_i64 v16 fun z17 =>
bif (decide ((IntKind.wrap .i64 (z8 - b0_0)) < z17)) then (
retL R ((100003, some ⟨[(intA z8), (intA z9), (boolA b10), (intA z11)], 48⟩) :: (100003, some ⟨[(intA (0)), (intA (0)), (boolA false), (intA (0))], 48⟩) :: (0, some ⟨[(intA b0_0), (intA b0_1), (boolA b0_2), (intA b0_3)], 48⟩) :: (1, some ⟨[(intA b1_0), (intA b1_1), (intA b1_2), (intA b1_3), (intA b1_4), (intA b1_5), (intA b1_6), (intA b1_7), (intA b1_8), (intA b1_9), (intA b1_10), (intA b1_11), (intA b1_12), (intA b1_13), (intA b1_14), (intA b1_15)], 31⟩) :: m) [some (boolA false)]) else (
N0 ⟨[(4, (AV.ptr 0 0)), (5, (AV.ptr 1 0)), (6, (boolA t6)), (9, t9), (10, (intA t10)), (11, (intA (IntKind.wrap .i64 (t11 + (1))))), (12, (boolA (decide (t11 < t10)))), (13, v2), (14, (AV.agg [(intA z8), (intA z9), (boolA b10), (intA z11)])), (8, (AV.ptr 100003 0)), (15, (AV.ptr 100003 0)), (16, (intA z8)), (17, (AV.ptr 0 0)), (18, (intA b0_0)), (19, (boolA (decide (z8 ≤ b0_0)))), (20, (boolA false)), (21, (AV.tup [])), (22, (AV.tup [])), (23, (AV.tup [])), (24, (AV.tup [])), (25, (AV.tup [])), (26, (AV.tup [])), (27, (AV.tup [])), (28, (AV.tup [])), (29, (AV.tup [])), (30, (AV.tup [])), (31, (boolA false)), (32, (boolA false)), (33, (AV.ptr 100003 0)), (34, (intA z8)), (35, (AV.ptr 0 0)), (36, (intA b0_0)), (37, (boolA (decide (z8 ≥ b0_0)))), (38, (boolA true)), (39, (AV.ptr 100003 0)), (40, (intA z8)), (41, (AV.ptr 0 0)), (42, (intA b0_0)), (43, (intA (IntKind.wrap .i64 (z8 - b0_0)))), (44, (AV.agg [(intA b1_0), (intA b1_1), (intA b1_2), (intA b1_3), (intA b1_4), (intA b1_5), (intA b1_6), (intA b1_7), (intA b1_8), (intA b1_9), (intA b1_10), (intA b1_11), (intA b1_12), (intA b1_13), (intA b1_14), (intA b1_15)])), (45, (AV.agg [(intA b0_0), (intA b0_1), (boolA b0_2), (intA b0_3)])), (46, (AV.agg [(intA z8), (intA z9), (boolA b10), (intA z11)])), (47, (intA z17)), (48, (boolA (decide ((IntKind.wrap .i64 (z8 - b0_0)) < z17)))), (49, (boolA (decide ((IntKind.wrap .i64 (z8 - b0_0)) < z17)))), (50, (boolA (decide ((IntKind.wrap .i64 (z8 - b0_0)) < z17)))), (51, (intA (IntKind.wrap .i64 (t11 + (1)))))], ((100003, some ⟨[(intA z8), (intA z9), (boolA b10), (intA z11)], 48⟩) :: (100003, some ⟨[(intA (0)), (intA (0)), (boolA false), (intA (0))], 48⟩) :: (0, some ⟨[(intA b0_0), (intA b0_1), (boolA b0_2), (intA b0_3)], 48⟩) :: (1, some ⟨[(intA b1_0), (intA b1_1), (intA b1_2), (intA b1_3), (intA b1_4), (intA b1_5), (intA b1_6), (intA b1_7), (intA b1_8), (intA b1_9), (intA b1_10), (intA b1_11), (intA b1_12), (intA b1_13), (intA b1_14), (intA b1_15)], 31⟩) :: m), 100043⟩)) else (
N0 ⟨[(4, (AV.ptr 0 0)), (5, (AV.ptr 1 0)), (6, (boolA t6)), (9, t9), (10, (intA t10)), (11, (intA (IntKind.wrap .i64 (t11 + (1))))), (12, (boolA (decide (t11 < t10)))), (13, v2), (14, (AV.agg [(intA z8), (intA z9), (boolA b10), (intA z11)])), (8, (AV.ptr 100003 0)), (15, (AV.ptr 100003 0)), (16, (intA z8)), (17, (AV.ptr 0 0)), (18, (intA b0_0)), (19, (boolA (decide (z8 ≤ b0_0)))), (20, (boolA false)), (21, (AV.tup [])), (22, (AV.tup [])), (23, (AV.tup [])), (24, (AV.tup [])), (25, (AV.tup [])), (26, (AV.tup [])), (27, (AV.tup [])), (28, (AV.tup [])), (29, (AV.tup [])), (30, (AV.tup [])), (31, (boolA false)), (32, (boolA false)), (33, (AV.ptr 100003 0)), (34, (intA z8)), (35, (AV.ptr 0 0)), (36, (intA b0_0)), (37, (boolA (decide (z8 ≥ b0_0)))), (38, (boolA false)), (39, (AV.tup [])), (40, (AV.tup [])), (41, (AV.tup [])), (42, (AV.tup [])), (43, (AV.tup [])), (44, (AV.tup [])), (45, (AV.tup [])), (46, (AV.tup [])), (47, (AV.tup [])), (48, (AV.tup [])), (49, (boolA false)), (50, (boolA false)), (51, (intA (IntKind.wrap .i64 (t11 + (1)))))], ((100003, some ⟨[(intA z8), (intA z9), (boolA b10), (intA z11)], 48⟩) :: (100003, some ⟨[(intA (0)), (intA (0)), (boolA false), (intA (0))], 48⟩) :: (0, some ⟨[(intA b0_0), (intA b0_1), (boolA b0_2), (intA b0_3)], 48⟩) :: (1, some ⟨[(intA b1_0), (intA b1_1), (intA b1_2), (intA b1_3), (intA b1_4), (intA b1_5), (intA b1_6), (intA b1_7), (intA b1_8), (intA b1_9), (intA b1_10), (intA b1_11), (intA b1_12), (intA b1_13), (intA b1_14), (intA b1_15)], 31⟩) :: m), 100043⟩))) else (
retL R ((0, some ⟨[(intA b0_0), (intA b0_1), (boolA b0_2), (intA b0_3)], 48⟩) :: (1, some ⟨[(intA b1_0), (intA b1_1), (intA b1_2), (intA b1_3), (intA b1_4), (intA b1_5), (intA b1_6), (intA b1_7), (intA b1_8), (intA b1_9), (intA b1_10), (intA b1_11), (intA b1_12), (intA b1_13), (intA b1_14), (intA b1_15)], 31⟩) :: m) [some (boolA true)])
theorem B40_0_eq (t6 : Bool) (t9 : AV) (t10 : Int) (t11 : Int) (b0_0 : Int) (b0_1 : Int) (b0_2 : Bool) (b0_3 : Int) (b1_0 : Int) (b1_1 : Int) (b1_2 : Int) (b1_3 : Int) (b1_4 : Int) (b1_5 : Int) (b1_6 : Int) (b1_7 : Int) (b1_8 : Int) (b1_9 : Int) (b1_10 : Int) (b1_11 : Int) (b1_12 : Int) (b1_13 : Int) (b1_14 : Int) (b1_15 : Int) (m : Mem) (R : AV → Mem → Prop) (N0 : St → Prop) : W pg KK 52 0 c40_0 (h40_0 t6 t9 t10 t11 b0_0 b0_1 b0_2 b0_3 b1_0 b1_1 b1_2 b1_3 b1_4 b1_5 b1_6 b1_7 b1_8 b1_9 b1_10 b1_11 b1_12 b1_13 b1_14 b1_15 m) (qq40_0 R N0) = B40_0 t6 t9 t10 t11 b0_0 b0_1 b0_2 b0_3 b1_0 b1_1 b1_2 b1_3 b1_4 b1_5 b1_6 b1_7 b1_8 b1_9 b1_10 b1_11 b1_12 b1_13 b1_14 b1_15 m R N0 := by kernel_rfl
theorem L40_0 (R : AV → Mem → Prop) {σ : Type} (I : σ → Prop) (t6 : σ → Bool) (t9 : σ → AV) (t10 : σ → Int) (t11 : σ → Int) (b0_0 : σ → Int) (b0_1 : σ → Int) (b0_2 : σ → Bool) (b0_3 : σ → Int) (b1_0 : σ → Int) (b1_1 : σ → Int) (b1_2 : σ → Int) (b1_3 : σ → Int) (b1_4 : σ → Int) (b1_5 : σ → Int) (b1_6 : σ → Int) (b1_7 : σ → Int) (b1_8 : σ → Int) (b1_9 : σ → Int) (b1_10 : σ → Int) (b1_11 : σ → Int) (b1_12 : σ → Int) (b1_13 : σ → Int) (b1_14 : σ → Int) (b1_15 : σ → Int) (m : σ → Mem) (μ : σ → Nat) (step : ∀ x, I x → B40_0 (t6 x) (t9 x) (t10 x) (t11 x) (b0_0 x) (b0_1 x) (b0_2 x) (b0_3 x) (b1_0 x) (b1_1 x) (b1_2 x) (b1_3 x) (b1_4 x) (b1_5 x) (b1_6 x) (b1_7 x) (b1_8 x) (b1_9 x) (b1_10 x) (b1_11 x) (b1_12 x) (b1_13 x) (b1_14 x) (b1_15 x) (m x) R (fun s' => ∃ y, I y ∧ μ y < μ x ∧ Weak KK 52 0 s' (h40_0 (t6 y) (t9 y) (t10 y) (t11 y) (b0_0 y) (b0_1 y) (b0_2 y) (b0_3 y) (b1_0 y) (b1_1 y) (b1_2 y) (b1_3 y) (b1_4 y) (b1_5 y) (b1_6 y) (b1_7 y) (b1_8 y) (b1_9 y) (b1_10 y) (b1_11 y) (b1_12 y) (b1_13 y) (b1_14 y) (b1_15 y) (m y)))) (x : σ) (hx : I x) {s : St} (hw : Weak KK 52 0 s (h40_0 (t6 x) (t9 x) (t10 x) (t11 x) (b0_0 x) (b0_1 x) (b0_2 x) (b0_3 x) (b1_0 x) (b1_1 x) (b1_2 x) (b1_3 x) (b1_4 x) (b1_5 x) (b1_6 x) (b1_7 x) (b1_8 x) (b1_9 x) (b1_10 x) (b1_11 x) (b1_12 x) (b1_13 x) (b1_14 x) (b1_15 x) (m x))) : Tri pg KK 52 0 (.loop c40_0) s (q40_0 R) :=
  Tri.weak hw (Tri.loops fol I (fun x => h40_0 (t6 x) (t9 x) (t10 x) (t11 x) (b0_0 x) (b0_1 x) (b0_2 x) (b0_3 x) (b1_0 x) (b1_1 x) (b1_2 x) (b1_3 x) (b1_4 x) (b1_5 x) (b1_6 x) (b1_7 x) (b1_8 x) (b1_9 x) (b1_10 x) (b1_11 x) (b1_12 x) (b1_13 x) (b1_14 x) (b1_15 x) (m x)) μ (fun x hx => (B40_0_eq (t6 x) (t9 x) (t10 x) (t11 x) (b0_0 x) (b0_1 x) (b0_2 x) (b0_3 x) (b1_0 x) (b1_1 x) (b1_2 x) (b1_3 x) (b1_4 x) (b1_5 x) (b1_6 x) (b1_7 x) (b1_8 x) (b1_9 x) (b1_10 x) (b1_11 x) (b1_12 x) (b1_13 x) (b1_14 x) (b1_15 x) (m x) R _).mpr (step x hx)) x hx)
noncomputable def F40 (a0 : AV) (a1_0 : Int) (a1_1 : Int) (a1_2 : Bool) (a1_3 : Int) (a2_0 : Int) (a2_1 : Int) (a2_2 : Int) (a2_3 : Int) (a2_4 : Int) (a2_5 : Int) (a2_6 : Int) (a2_7 : Int) (a2_8 : Int) (a2_9 : Int) (a2_10 : Int) (a2_11 : Int) (a2_12 : Int) (a2_13 : Int) (a2_14 : Int) (a2_15 : Int) (R : AV → Mem → Prop) : Prop :=
opP (lenS a0) fun v0 =>
ex_i64 v0 fun z1 =>
Tri pg KK 52 0 (.loop c40_0) ⟨[(0, a0), (1, (AV.agg [(intA a1_0), (intA a1_1), (boolA a1_2), (intA a1_3)])), (2, (AV.agg [(intA a2_0), (intA a2_1), (intA a2_2), (intA a2_3), (intA a2_4), (intA a2_5), (intA a2_6), (intA a2_7), (intA a2_8), (intA a2_9), (intA a2_10), (intA a2_11), (intA a2_12), (intA a2_13), (intA a2_14), (intA a2_15)])), (4, (AV.ptr 0 0)), (5, (AV.ptr 1 0)), (6, (boolA false)), (9, a0), (10, (intA z1)), (11, (intA (0)))], ((1, some ⟨[(intA a2_0), (intA a2_1), (intA a2_2), (intA a2_3), (intA a2_4), (intA a2_5), (intA a2_6), (intA a2_7), (intA a2_8), (intA a2_9), (intA a2_10), (intA a2_11), (intA a2_12), (intA a2_13), (intA a2_14), (intA a2_15)], 31⟩) :: (0, some ⟨[(intA a1_0), (intA a1_1), (boolA a1_2), (intA a1_3)], 48⟩) :: []), 6⟩ (q40_0 R)
theorem F40_own (a0 : AV) (a1_0 : Int) (a1_1 : Int) (a1_2 : Bool) (a1_3 : Int) (a2_0 : Int) (a2_1 : Int) (a2_2 : Int) (a2_3 : Int) (a2_4 : Int) (a2_5 : Int) (a2_6 : Int) (a2_7 : Int) (a2_8 : Int) (a2_9 : Int) (a2_10 : Int) (a2_11 : Int) (a2_12 : Int) (a2_13 : Int) (a2_14 : Int) (a2_15 : Int) (R : AV → Mem → Prop) (h : F40 a0 a1_0 a1_1 a1_2 a1_3 a2_0 a2_1 a2_2 a2_3 a2_4 a2_5 a2_6 a2_7 a2_8 a2_9 a2_10 a2_11 a2_12 a2_13 a2_14 a2_15 R) : Own pg KK.gl 40 [a0, (AV.agg [(intA a1_0), (intA a1_1), (boolA a1_2), (intA a1_3)]), (AV.agg [(intA a2_0), (intA a2_1), (intA a2_2), (intA a2_3), (intA a2_4), (intA a2_5), (intA a2_6), (intA a2_7), (intA a2_8), (intA a2_9), (intA a2_10), (intA a2_11), (intA a2_12), (intA a2_13), (intA a2_14), (intA a2_15)])] R := own_of_F fol Tryz.func40 (code := c40) (by kernel_rfl) (by kernel_rfl) (by kernel_rfl) (X := F40 a0 a1_0 a1_1 a1_2 a1_3 a2_0 a2_1 a2_2 a2_3 a2_4 a2_5 a2_6 a2_7 a2_8 a2_9 a2_10 a2_11 a2_12 a2_13 a2_14 a2_15 R) (by kernel_rfl) h
/- skyway/runway.Insert$1 -/
noncomputable def c42 : Code := ((Tryz.f42).body).getD .skip
noncomputable def q42 (R : AV → Mem → Prop) : AExit → St → Prop := retQ pg Tryz.f42 R
noncomputable def F42 (a0_0 : Int) (a0_1 : Int) (a0_2 : Bool) (a0_3 : Int) (a1 : AV) (R : AV → Mem → Prop) : Prop :=
opP (fldO 0 a1) fun v0 =>
opP (ldS (mget ((0, some ⟨[(intA a0_0), (intA a0_1), (boolA a0_2), (intA a0_3)], 48⟩) :: [])) v0) fun v1 =>
ex_i64 v1 fun z2 =>
retL R ((0, some ⟨[(intA a0_0), (intA a0_1), (boolA a0_2), (intA a0_3)], 48⟩) :: []) [some (boolA (decide (a0_0 > z2)))]
theorem F42_own (a0_0 : Int) (a0_1 : Int) (a0_2 : Bool) (a0_3 : Int) (a1 : AV) (R : AV → Mem → Prop) (h : F42 a0_0 a0_1 a0_2 a0_3 a1 R) : Own pg KK.gl 42 [(AV.agg [(intA a0_0), (intA a0_1), (boolA a0_2), (intA a0_3)]), a1] R := own_of_F fol Tryz.func42 (code := c42) (by kernel_rfl) (by kernel_rfl) (by kernel_rfl) (X := F42 a0_0 a0_1 a0_2 a0_3 a1 R) (by kernel_rfl) h
/- slices.IndexFunc[[]skyway/api.RunwayMove,skyway/api.RunwayMove] -/
noncomputable def c41 : Code := ((Tryz.f41).body).getD .skip
noncomputable def q41 (R : AV → Mem → Prop) : AExit → St → Prop := retQ pg Tryz.f41 R
noncomputable def c41_0 : Code := loopB c41 0
noncomputable def q41_0 (R : AV → Mem → Prop) : AExit → St → Prop := contW pg KK 19 0 c41 0 (q41 R)
noncomputable def qq41_0 (R : AV → Mem → Prop) (N0 : St → Prop) : AExit → St → Prop := thenQ N0 (q41_0 R)
def h41_0 (t0 : AV) (t1 : AV) (t4 : Int) (t7 : Int) (t8 : Int) (m : Mem) : St := ⟨[(0, t0), (1, t1), (4, (intA t4)), (7, (intA t7)), (8, (intA t8))], m, 100000⟩
noncomputable def B41_0 (t0 : AV) (t1 : AV) (t4 : Int) (t7 : Int) (t8 : Int) (m : Mem) (R : AV → Mem → Prop) (N0 : St → Prop) : Prop :=
bif (decide (t8 < t7)) then (
opP (idxS 4 t0 (intA t8)) fun v2 =>
opP (ldA (mget m) 4 v2) fun v3 =>
exA4 v3 fun c4 c5 c6 c7 =>
ex_i64 c4 fun z8 =>
ex_i64 c5 fun z9 =>
exB c6 fun b10 =>
ex_i64 c7 fun z11 =>
fnArgs (some t1) (some [(AV.agg [(intA z8), (intA z9), (boolA b10), (intA z11)])]) fun f12 a12 => bif KK.pm f12 then callQ pg KK.gl m f12 a12 (fun v12 =>
exB v12 fun b13 =>
bif b13 then (
retL R m [some (intA t8)]) else (
N0 ⟨[(0, t0), (1, t1), (4, (intA t4)), (7, (intA t7)), (8, (intA (IntKind.wrap .i64 (t8 + (1))))), (9, (boolA (decide (t8 < t7)))), (10, (intA t8)), (5, (intA t8)), (11, t1), (12, t0), (13, (intA t8)), (14, v2), (15, (AV.agg [(intA z8), (intA z9), (boolA b10), (intA z11)])), (16, (boolA b13)), (18, (intA (IntKind.wrap .i64 (t8 + (1)))))], m, 100074⟩)) else callW pg KK.gl m 100008 f12 a12 fun v12 m12 =>
exB v12 fun b13 =>
bif b13 then (
retL R m12 [some (intA t8)]) else (
N0 ⟨[(0, t0), (1, t1), (4, (intA t4)), (7, (intA t7)), (8, (intA (IntKind.wrap .i64 (t8 + (1))))), (9, (boolA (decide (t8 < t7)))), (10, (intA t8)), (5, (intA t8)), (11, t1), (12, t0), (13, (intA t8)), (14, v2), (15, (AV.agg [(intA z8), (intA z9), (boolA b10), (intA z11)])), (16, (boolA b13)), (18, (intA (IntKind.wrap .i64 (t8 + (1)))))], m12, 100074⟩)) else (
retL R m [some (intA (-1))])
theorem B41_0_eq (t0 : AV) (t1 : AV) (t4 : Int) (t7 : Int) (t8 : Int) (m : Mem) (R : AV → Mem → Prop) (N0 : St → Prop) : W pg KK 19 0 c41_0 (h41_0 t0 t1 t4 t7 t8 m) (qq41_0 R N0) = B41_0 t0 t1 t4 t7 t8 m R N0 := by kernel_rfl
theorem L41_0 (R : AV → Mem → Prop) {σ : Type} (I : σ → Prop) (t0 : σ → AV) (t1 : σ → AV) (t4 : σ → Int) (t7 : σ → Int) (t8 : σ → Int) (m : σ → Mem) (μ : σ → Nat) (step : ∀ x, I x → B41_0 (t0 x) (t1 x) (t4 x) (t7 x) (t8 x) (m x) R (fun s' => ∃ y, I y ∧ μ y < μ x ∧ Weak KK 19 0 s' (h41_0 (t0 y) (t1 y) (t4 y) (t7 y) (t8 y) (m y)))) (x : σ) (hx : I x) {s : St} (hw : Weak KK 19 0 s (h41_0 (t0 x) (t1 x) (t4 x) (t7 x) (t8 x) (m x))) : Tri pg KK 19 0 (.loop c41_0) s (q41_0 R) :=
  Tri.weak hw (Tri.loops fol I (fun x => h41_0 (t0 x) (t1 x) (t4 x) (t7 x) (t8 x) (m x)) μ (fun x hx => (B41_0_eq (t0 x) (t1 x) (t4 x) (t7 x) (t8 x) (m x) R _).mpr (step x hx)) x hx)
noncomputable def F41 (a0 : AV) (a1 : AV) (R : AV → Mem → Prop) : Prop :=
opP (lenS a0) fun v0 =>
ex_i64 v0 fun z1 =>
Tri pg KK 19 0 (.loop c41_0) ⟨[(0, a0), (1, a1), (4, (intA (0))), (6, a0), (7, (intA z1)), (8, (intA (0)))], [], 4⟩ (q41_0 R)
theorem F41_own (a0 : AV) (a1 : AV) (R : AV → Mem → Prop) (h : F41 a0 a1 R) : Own pg KK.gl 41 [a0, a1] R := own_of_F fol Tryz.func41 (code := c41) (by kernel_rfl) (by kernel_rfl) (by kernel_rfl) (X := F41 a0 a1 R) (by kernel_rfl) h
/- skyway/runway.Insert -/
noncomputable def c9 : Code := ((Tryz.f9).body).getD .skip
noncomputable def q9 (R : AV → Mem → Prop) : AExit → St → Prop := retQ pg Tryz.f9 R
noncomputable def c9_0 : Code := loopB c9 0
noncomputable def q9_0 (R : AV → Mem → Prop) : AExit → St → Prop := contW pg KK 100 0 c9 0 (q9 R)
noncomputable def qq9_0 (R : AV → Mem → Prop) (N0 : St → Prop) : AExit → St → Prop := thenQ N0 (q9_0 R)
def h9_0 (t1 : AV) (t8 : AV) (t9 : Int) (t13 : AV) (t40 : AV) (t41 : Int) (t42 : Int) (m : Mem) : St := ⟨[(1, t1), (6, (AV.ptr 0 0)), (8, t8), (9, (intA t9)), (13, t13), (40, t40), (41, (intA t41)), (42, (intA t42))], m, 100000⟩
noncomputable def c9_0_0 : Code := loopB c9_0 0
noncomputable def q9_0_0 (R : AV → Mem → Prop) (N0 : St → Prop) : AExit → St → Prop := contW pg KK 100 0 c9_0 0 (qq9_0 R N0)
noncomputable def qq9_0_0 (R : AV → Mem → Prop) (N0 : St → Prop) (N1 : St → Prop) : AExit → St → Prop := thenQ N1 (q9_0_0 R N0)
def h9_0_0 (t1 : AV) (t8 : AV) (t9 : Int) (t13 : AV) (t40 : AV) (t41 : Int) (t42 : Int) (m : Mem) : St := ⟨[(1, t1), (6, (AV.ptr 0 0)), (8, t8), (9, (intA t9)), (13, t13), (17, (AV.ptr 100145 0)), (40, t40), (41, (intA t41)), (42, (intA t42))], m, 200000⟩
noncomputable def B9_0 (t1 : AV) (t8 : AV) (t9 : Int) (t13 : AV) (t40 : AV) (t41 : Int) (t42 : Int) (m : Mem) (R : AV → Mem → Prop) (N0 : St → Prop) : Prop :=
bif (decide (t42 < t41)) then (
opP (idxS 2 t40 (intA t42)) fun v14 =>
opP (ldA (mget m) 2 v14) fun v15 =>
exA2 v15 fun c16 c17 =>
ex_i64 c16 fun z18 =>
ex_i64 c17 fun z19 =>
callQ pg KK.gl ((100003, some ⟨[(intA z18), (intA z19)], 40⟩) :: (100003, some ⟨[(intA (0)), (intA (0))], 40⟩) :: m) 37 [(intA z18)] fun v20 =>
exB v20 fun b21 =>
bif b21 then (
retL R ((100003, some ⟨[(intA z18), (intA z19)], 40⟩) :: (100003, some ⟨[(intA (0)), (intA (0))], 40⟩) :: m) [some AV.nils, some (intA (12))]) else (
callQ pg KK.gl ((100003, some ⟨[(intA z18), (intA z19)], 40⟩) :: (100003, some ⟨[(intA (0)), (intA (0))], 40⟩) :: m) 38 [(intA z19)] fun v22 =>
ex_i64 v22 fun z23 =>
bif (z23 != (0)) then (
retL R ((100003, some ⟨[(intA z18), (intA z19)], 40⟩) :: (100003, some ⟨[(intA (0)), (intA (0))], 40⟩) :: m) [some AV.nils, some (intA z23)]) else (
opP (bld [(intA (0)), (intA (0)), (boolA false), (intA (0))] [(0, 1), (1, 1), (2, 1), (3, 1)] [(0, (intA z18)), (1, (intA z19)), (2, (boolA true))]) fun v24 =>
storeW pg (mget ((100145, some ⟨[(intA (0)), (intA (0)), (boolA false), (intA (0))], 48⟩) :: (100003, some ⟨[(intA z18), (intA z19)], 40⟩) :: (100003, some ⟨[(intA (0)), (intA (0))], 40⟩) :: m)) 48 (AV.ptr 100145 0) v24 fun v25 d25 =>
Tri pg KK 100 0 (.loop c9_0_0) ⟨[(1, t1), (6, (AV.ptr 0 0)), (8, t8), (9, (intA t9)), (13, t13), (40, t40), (41, (intA t41)), (42, (intA t42)), (43, (boolA (decide (t42 < t41)))), (44, v14), (45, (AV.agg [(intA z18), (intA z19)])), (15, (AV.ptr 100003 0)), (46, (AV.ptr 100003 0)), (47, (intA z18)), (48, (boolA b21)), (49, (AV.ptr 100003 1)), (50, (intA z19)), (51, (intA z23)), (16, (intA z23)), (52, (intA z23)), (53, (boolA (z23 != (0)))), (55, (AV.ptr 100003 0)), (56, (intA z18)), (57, (AV.ptr 100003 1)), (58, (intA z19)), (59, v24), (17, (AV.ptr 100145 0))], (mpushs ((100145, some ⟨[(intA (0)), (intA (0)), (boolA false), (intA (0))], 48⟩) :: (100003, some ⟨[(intA z18), (intA z19)], 40⟩) :: (100003, some ⟨[(intA (0)), (intA (0))], 40⟩) :: m) d25), 100147⟩ (q9_0_0 R N0)))) else (
retL R m [some t13, some (intA (0))])
theorem B9_0_eq (t1 : AV) (t8 : AV) (t9 : Int) (t13 : AV) (t40 : AV) (t41 : Int) (t42 : Int) (m : Mem) (R : AV → Mem → Prop) (N0 : St → Prop) : W pg KK 100 0 c9_0 (h9_0 t1 t8 t9 t13 t40 t41 t42 m) (qq9_0 R N0) = B9_0 t1 t8 t9 t13 t40 t41 t42 m R N0 := by kernel_rfl
theorem L9_0 (R : AV → Mem → Prop) {σ : Type} (I : σ → Prop) (t1 : σ → AV) (t8 : σ → AV) (t9 : σ → Int) (t13 : σ → AV) (t40 : σ → AV) (t41 : σ → Int) (t42 : σ → Int) (m : σ → Mem) (μ : σ → Nat) (step : ∀ x, I x → B9_0 (t1 x) (t8 x) (t9 x) (t13 x) (t40 x) (t41 x) (t42 x) (m x) R (fun s' => ∃ y, I y ∧ μ y < μ x ∧ Weak KK 100 0 s' (h9_0 (t1 y) (t8 y) (t9 y) (t13 y) (t40 y) (t41 y) (t42 y) (m y)))) (x : σ) (hx : I x) {s : St} (hw : Weak KK 100 0 s (h9_0 (t1 x) (t8 x) (t9 x) (t13 x) (t40 x) (t41 x) (t42 x) (m x))) : Tri pg KK 100 0 (.loop c9_0) s (q9_0 R) :=
  Tri.weak hw (Tri.loops fol I (fun x => h9_0 (t1 x) (t8 x) (t9 x) (t13 x) (t40 x) (t41 x) (t42 x) (m x)) μ (fun x hx => (B9_0_eq (t1 x) (t8 x) (t9 x) (t13 x) (t40 x) (t41 x) (t42 x) (m x) R _).mpr (step x hx)) x hx)
noncomputable def B9_0_0 (t1 : AV) (t8 : AV) (t9 : Int) (t13 : AV) (t40 : AV) (t41 : Int) (t42 : Int) (m : Mem) (R : AV → Mem → Prop) (N0 : St → Prop) (N1 : St → Prop) : Prop :=
opP (ldS (mget m) (AV.ptr 100145 0)) fun v26 =>
ex_i64 v26 fun z27 =>
bif (decide (z27 ≤ (200000))) then (
opP (ldS (mget m) (AV.ptr 100145 0)) fun v28 =>
ex_i64 v28 fun z29 =>
callQ pg KK.gl m 39 [t1, (intA z29)] fun v30 =>
exT2 v30 fun c31 c32 =>
ex_i64 c31 fun z33 =>
exB c32 fun b34 =>
bif b34 then (
opP (ldA (mget m) 4 (AV.ptr 100145 0)) fun v35 =>
exA4 v35 fun c36 c37 c38 c39 =>
ex_i64 c36 fun z40 =>
ex_i64 c37 fun z41 =>
exB c38 fun b42 =>
ex_i64 c39 fun z43 =>
opP (ldA (mget m) 16 (AV.ptr 0 0)) fun v44 =>
exA16 v44 fun c45 c46 c47 c48 c49 c50 c51 c52 c53 c54 c55 c56 c57 c58 c59 c60 =>
ex_i64 c45 fun z61 =>
ex_i64 c46 fun z62 =>
ex_i64 c47 fun z63 =>
ex_i64 c48 fun z64 =>
ex_i64 c49 fun z65 =>
ex_i64 c50 fun z66 =>
ex_i64 c51 fun z67 =>
ex_i64 c52 fun z68 =>
ex_i64 c53 fun z69 =>
ex_i64 c54 fun z70 =>
ex_i64 c55 fun z71 =>
ex_i64 c56 fun z72 =>
ex_i64 c57 fun z73 =>
ex_i64 c58 fun z74 =>
ex_i64 c59 fun z75 =>
ex_i64 c60 fun z76 =>
callQ pg KK.gl m 40 [t13, (AV.agg [(intA z40), (intA z41), (boolA b42), (intA z43)]), (AV.agg [(intA z61), (intA z62), (intA z63), (intA z64), (intA z65), (intA z66), (intA z67), (intA z68), (intA z69), (intA z70), (intA z71), (intA z72), (intA z73), (intA z74), (intA z75), (intA z76)])] fun v77 =>
exB v77 fun b78 =>
bif b78 then (
storeW pg (mget m) 3 (AV.ptr 100145 3) (intA z33) fun v79 d79 =>
opP (ldS (mget (mpushs m d79)) (AV.ptr 100145 0)) fun v80 =>
ex_i64 v80 fun z81 =>
bif (decide (z81 > (200000))) then (
retL R (mpushs m d79) [some AV.nils, some (intA (8))]) else (
callQ pg KK.gl (mpushs m d79) 41 [t13, (AV.fn 42 [(AV.ptr 100145 0)])] fun v82 =>
ex_i64 v82 fun z83 =>
bif (decide (z83 < (0))) then (
opP (lenS t13) fun v84 =>
ex_i64 v84 fun z85 =>
opP (ldA (mget (mpushs m d79)) 4 (AV.ptr 100145 0)) fun v86 =>
exA4 v86 fun c87 c88 c89 c90 =>
ex_i64 c87 fun z91 =>
ex_i64 c88 fun z92 =>
exB c89 fun b93 =>
ex_i64 c90 fun z94 =>
opN (bsl 200226 48 4 1 [(intA (0)), (intA (0)), (boolA false), (intA (0))] [(0, (AV.agg [(intA z91), (intA z92), (boolA b93), (intA z94)]))]) (mpushs m d79) fun v95 m95 =>
callW pg KK.gl m95 200227 43 [t13, (intA z85), v95] fun v96 m96 =>
N0 ⟨[(1, t1), (6, (AV.ptr 0 0)), (8, t8), (9, (intA t9)), (13, v96), (17, (AV.ptr 100145 0)), (40, t40), (41, (intA t41)), (42, (intA (IntKind.wrap .i64 (t42 + (1))))), (60, (AV.ptr 100145 0)), (61, (intA z27)), (62, (boolA (decide (z27 ≤ (200000))))), (68, t1), (69, (AV.ptr 100145 0)), (70, (intA z29)), (71, (AV.tup [(intA z33), (boolA b34)])), (67, (AV.tup [(intA z33), (boolA b34)])), (72, (intA z33)), (73, (boolA b34)), (18, (intA z33)), (19, (boolA b34)), (74, (boolA b34)), (75, (boolA true)), (76, t13), (77, (AV.agg [(intA z40), (intA z41), (boolA b42), (intA z43)])), (78, (AV.agg [(intA z61), (intA z62), (intA z63), (intA z64), (intA z65), (intA z66), (intA z67), (intA z68), (intA z69), (intA z70), (intA z71), (intA z72), (intA z73), (intA z74), (intA z75), (intA z76)])), (79, (boolA b78)), (80, (boolA b78)), (81, (intA z33)), (82, (AV.ptr 100145 3)), (83, (AV.ptr 100145 0)), (84, (intA z81)), (85, (boolA (decide (z81 > (200000))))), (86, t13), (87, (AV.fn 42 [(AV.ptr 100145 0)])), (88, (intA z83)), (20, (intA z85)), (89, (intA z83)), (90, (boolA (decide (z83 < (0))))), (91, t13), (92, (intA z85)), (93, t13), (94, (intA z85)), (95, (AV.agg [(intA z91), (intA z92), (boolA b93), (intA z94)])), (96, v95), (97, v96), (98, (intA (IntKind.wrap .i64 (t42 + (1)))))], m96, 200294⟩) else (
opP (ldA (mget (mpushs m d79)) 4 (AV.ptr 100145 0)) fun v97 =>
exA4 v97 fun c98 c99 c100 c101 =>
ex_i64 c98 fun z102 =>
ex_i64 c99 fun z103 =>
exB c100 fun b104 =>
ex_i64 c101 fun z105 =>
opN (bsl 200223 48 4 1 [(intA (0)), (intA (0)), (boolA false), (intA (0))] [(0, (AV.agg [(intA z102), (intA z103), (boolA b104), (intA z105)]))]) (mpushs m d79) fun v106 m106 =>
callW pg KK.gl m106 200224 43 [t13, (intA z83), v106] fun v107 m107 =>
N0 ⟨[(1, t1), (6, (AV.ptr 0 0)), (8, t8), (9, (intA t9)), (13, v107), (17, (AV.ptr 100145 0)), (40, t40), (41, (intA t41)), (42, (intA (IntKind.wrap .i64 (t42 + (1))))), (60, (AV.ptr 100145 0)), (61, (intA z27)), (62, (boolA (decide (z27 ≤ (200000))))), (68, t1), (69, (AV.ptr 100145 0)), (70, (intA z29)), (71, (AV.tup [(intA z33), (boolA b34)])), (67, (AV.tup [(intA z33), (boolA b34)])), (72, (intA z33)), (73, (boolA b34)), (18, (intA z33)), (19, (boolA b34)), (74, (boolA b34)), (75, (boolA true)), (76, t13), (77, (AV.agg [(intA z40), (intA z41), (boolA b42), (intA z43)])), (78, (AV.agg [(intA z61), (intA z62), (intA z63), (intA z64), (intA z65), (intA z66), (intA z67), (intA z68), (intA z69), (intA z70), (intA z71), (intA z72), (intA z73), (intA z74), (intA z75), (intA z76)])), (79, (boolA b78)), (80, (boolA b78)), (81, (intA z33)), (82, (AV.ptr 100145 3)), (83, (AV.ptr 100145 0)), (84, (intA z81)), (85, (boolA (decide (z81 > (200000))))), (86, t13), (87, (AV.fn 42 [(AV.ptr 100145 0)])), (88, (intA z83)), (20, (intA z83)), (89, (intA z83)), (90, (boolA (decide (z83 < (0))))), (93, t13), (94, (intA z83)), (95, (AV.agg [(intA z102), (intA z103), (boolA b104), (intA z105)])), (96, v106), (97, v107), (98, (intA (IntKind.wrap .i64 (t42 + (1)))))], m107, 200291⟩))) else (
opP (ldS (mget m) (AV.ptr 100145 0)) fun v108 =>
ex_i64 v108 fun z109 =>
storeW pg (mget m) 3 (AV.ptr 100145 0) (intA (IntKind.wrap .i64 (z109 + (1)))) fun v110 d110 =>
N1 ⟨[(1, t1), (6, (AV.ptr 0 0)), (8, t8), (9, (intA t9)), (13, t13), (17, (AV.ptr 100145 0)), (40, t40), (41, (intA t41)), (42, (intA t42)), (60, (AV.ptr 100145 0)), (61, (intA z27)), (62, (boolA (decide (z27 ≤ (200000))))), (68, t1), (69, (AV.ptr 100145 0)), (70, (intA z29)), (71, (AV.tup [(intA z33), (boolA b34)])), (67, (AV.tup [(intA z33), (boolA b34)])), (72, (intA z33)), (73, (boolA b34)), (18, (intA z33)), (19, (boolA b34)), (74, (boolA b34)), (75, (boolA true)), (76, t13), (77, (AV.agg [(intA z40), (intA z41), (boolA b42), (intA z43)])), (78, (AV.agg [(intA z61), (intA z62), (intA z63), (intA z64), (intA z65), (intA z66), (intA z67), (intA z68), (intA z69), (intA z70), (intA z71), (intA z72), (intA z73), (intA z74), (intA z75), (intA z76)])), (79, (boolA b78)), (80, (boolA b78)), (63, (AV.ptr 100145 0)), (64, (intA z109)), (65, (intA (IntKind.wrap .i64 (z109 + (1))))), (66, (AV.ptr 100145 0))], (mpushs m d110), 200150⟩)) else (
opP (ldS (mget m) (AV.ptr 100145 0)) fun v111 =>
ex_i64 v111 fun z112 =>
storeW pg (mget m) 3 (AV.ptr 100145 0) (intA (IntKind.wrap .i64 (z112 + (1)))) fun v113 d113 =>
N1 ⟨[(1, t1), (6, (AV.ptr 0 0)), (8, t8), (9, (intA t9)), (13, t13), (17, (AV.ptr 100145 0)), (40, t40), (41, (intA t41)), (42, (intA t42)), (60, (AV.ptr 100145 0)), (61, (intA z27)), (62, (boolA (decide (z27 ≤ (200000))))), (68, t1), (69, (AV.ptr 100145 0)), (70, (intA z29)), (71, (AV.tup [(intA z33), (boolA b34)])), (67, (AV.tup [(intA z33), (boolA b34)])), (72, (intA z33)), (73, (boolA b34)), (18, (intA z33)), (19, (boolA b34)), (74, (boolA b34)), (75, (boolA false)), (76, (AV.tup [])), (77, (AV.tup [])), (78, (AV.tup [])), (79, (AV.tup [])), (80, (boolA false)), (63, (AV.ptr 100145 0)), (64, (intA z112)), (65, (intA (IntKind.wrap .i64 (z112 + (1))))), (66, (AV.ptr 100145 0))], (mpushs m d113), 200083⟩)) else (
opP (ldS (mget m) (AV.ptr 100145 0)) fun v114 =>
ex_i64 v114 fun z115 =>
bif (decide (z115 > (200000))) then (
retL R m [some AV.nils, some (intA (8))]) else (
callQ pg KK.gl m 41 [t13, (AV.fn 42 [(AV.ptr 100145 0)])] fun v116 =>
ex_i64 v116 fun z117 =>
bif (decide (z117 < (0))) then (
opP (lenS t13) fun v118 =>
ex_i64 v118 fun z119 =>
opP (ldA (mget m) 4 (AV.ptr 100145 0)) fun v120 =>
exA4 v120 fun c121 c122 c123 c124 =>
ex_i64 c121 fun z125 =>
ex_i64 c122 fun z126 =>
exB c123 fun b127 =>
ex_i64 c124 fun z128 =>
opN (bsl 200081 48 4 1 [(intA (0)), (intA (0)), (boolA false), (intA (0))] [(0, (AV.agg [(intA z125), (intA z126), (boolA b127), (intA z128)]))]) m fun v129 m129 =>
callW pg KK.gl m129 200082 43 [t13, (intA z119), v129] fun v130 m130 =>
N0 ⟨[(1, t1), (6, (AV.ptr 0 0)), (8, t8), (9, (intA t9)), (13, v130), (17, (AV.ptr 100145 0)), (40, t40), (41, (intA t41)), (42, (intA (IntKind.wrap .i64 (t42 + (1))))), (60, (AV.ptr 100145 0)), (61, (intA z27)), (62, (boolA (decide (z27 ≤ (200000))))), (83, (AV.ptr 100145 0)), (84, (intA z115)), (85, (boolA (decide (z115 > (200000))))), (86, t13), (87, (AV.fn 42 [(AV.ptr 100145 0)])), (88, (intA z117)), (20, (intA z119)), (89, (intA z117)), (90, (boolA (decide (z117 < (0))))), (91, t13), (92, (intA z119)), (93, t13), (94, (intA z119)), (95, (AV.agg [(intA z125), (intA z126), (boolA b127), (intA z128)])), (96, v129), (97, v130), (98, (intA (IntKind.wrap .i64 (t42 + (1)))))], m130, 200149⟩) else (
opP (ldA (mget m) 4 (AV.ptr 100145 0)) fun v131 =>
exA4 v131 fun c132 c133 c134 c135 =>
ex_i64 c132 fun z136 =>
ex_i64 c133 fun z137 =>
exB c134 fun b138 =>
ex_i64 c135 fun z139 =>
opN (bsl 200078 48 4 1 [(intA (0)), (intA (0)), (boolA false), (intA (0))] [(0, (AV.agg [(intA z136), (intA z137), (boolA b138), (intA z139)]))]) m fun v140 m140 =>
callW pg KK.gl m140 200079 43 [t13, (intA z117), v140] fun v141 m141 =>
N0 ⟨[(1, t1), (6, (AV.ptr 0 0)), (8, t8), (9, (intA t9)), (13, v141), (17, (AV.ptr 100145 0)), (40, t40), (41, (intA t41)), (42, (intA (IntKind.wrap .i64 (t42 + (1))))), (60, (AV.ptr 100145 0)), (61, (intA z27)), (62, (boolA (decide (z27 ≤ (200000))))), (83, (AV.ptr 100145 0)), (84, (intA z115)), (85, (boolA (decide (z115 > (200000))))), (86, t13), (87, (AV.fn 42 [(AV.ptr 100145 0)])), (88, (intA z117)), (20, (intA z117)), (89, (intA z117)), (90, (boolA (decide (z117 < (0))))), (93, t13), (94, (intA z117)), (95, (AV.agg [(intA z136), (intA z137), (boolA b138), (intA z139)])), (96, v140), (97, v141), (98, (intA (IntKind.wrap .i64 (t42 + (1)))))], m141, 200146⟩)))
theorem B9_0_0_eq (t1 : AV) (t8 : AV) (t9 : Int) (t13 : AV) (t40 : AV) (t41 : Int) (t42 : Int) (m : Mem) (R : AV → Mem → Prop) (N0 : St → Prop) (N1 : St → Prop) : W pg KK 100 0 c9_0_0 (h9_0_0 t1 t8 t9 t13 t40 t41 t42 m) (qq9_0_0 R N0 N1) = B9_0_0 t1 t8 t9 t13 t40 t41 t42 m R N0 N1 := by kernel_rfl
theorem L9_0_0 (R : AV → Mem → Prop) (N0 : St → Prop) {σ : Type} (I : σ → Prop) (t1 : σ → AV) (t8 : σ → AV) (t9 : σ → Int) (t13 : σ → AV) (t40 : σ → AV) (t41 : σ → Int) (t42 : σ → Int) (m : σ → Mem) (μ : σ → Nat) (step : ∀ x, I x → B9_0_0 (t1 x) (t8 x) (t9 x) (t13 x) (t40 x) (t41 x) (t42 x) (m x) R N0 (fun s' => ∃ y, I y ∧ μ y < μ x ∧ Weak KK 100 0 s' (h9_0_0 (t1 y) (t8 y) (t9 y) (t13 y) (t40 y) (t41 y) (t42 y) (m y)))) (x : σ) (hx : I x) {s : St} (hw : Weak KK 100 0 s (h9_0_0 (t1 x) (t8 x) (t9 x) (t13 x) (t40 x) (t41 x) (t42 x) (m x))) : Tri pg KK 100 0 (.loop c9_0_0) s (q9_0_0 R N0) :=
  Tri.weak hw (Tri.loops fol I (fun x => h9_0_0 (t1 x) (t8 x) (t9 x) (t13 x) (t40 x) (t41 x) (t42 x) (m x)) μ (fun x hx => (B9_0_0_eq (t1 x) (t8 x) (t9 x) (t13 x) (t40 x) (t41 x) (t42 x) (m x) R N0 _).mpr (step x hx)) x hx)
noncomputable def F9 (a0 : AV) (a1 : AV) (a2_0 : Int) (a2_1 : Int) (a2_2 : Int) (a2_3 : Int) (a2_4 : Int) (a2_5 : Int) (a2_6 : Int) (a2_7 : Int) (a2_8 : Int) (a2_9 : Int) (a2_10 : Int) (a2_11 : Int) (a2_12 : Int) (a2_13 : Int) (a2_14 : Int) (a2_15 : Int) (a3 : AV) (R : AV → Mem → Prop) : Prop :=
callQ pg KK.gl ((0, some ⟨[(intA a2_0), (intA a2_1), (intA a2_2), (intA a2_3), (intA a2_4), (intA a2_5), (intA a2_6), (intA a2_7), (intA a2_8), (intA a2_9), (intA a2_10), (intA a2_11), (intA a2_12), (intA a2_13), (intA a2_14), (intA a2_15)], 31⟩) :: []) 35 [a0, a1, (AV.agg [(intA a2_0), (intA a2_1), (intA a2_2), (intA a2_3), (intA a2_4), (intA a2_5), (intA a2_6), (intA a2_7), (intA a2_8), (intA a2_9), (intA a2_10), (intA a2_11), (intA a2_12), (intA a2_13), (intA a2_14), (intA a2_15)])] fun v0 =>
exT3 v0 fun c1 c2 c3 =>
ex_i64 c1 fun z4 =>
ex_i64 c2 fun z5 =>
ex_i64 c3 fun z6 =>
bif (z6 != (0)) then (
retL R ((0, some ⟨[(intA a2_0), (intA a2_1), (intA a2_2), (intA a2_3), (intA a2_4), (intA a2_5), (intA a2_6), (intA a2_7), (intA a2_8), (intA a2_9), (intA a2_10), (intA a2_11), (intA a2_12), (intA a2_13), (intA a2_14), (intA a2_15)], 31⟩) :: []) [some AV.nils, some (intA z6)]) else (
opP (lenS a0) fun v7 =>
ex_i64 v7 fun z8 =>
opP (lenS a3) fun v9 =>
ex_i64 v9 fun z10 =>
bif (decide ((IntKind.wrap .i64 (z8 + z10)) > (24))) then (
retL R ((0, some ⟨[(intA a2_0), (intA a2_1), (intA a2_2), (intA a2_3), (intA a2_4), (intA a2_5), (intA a2_6), (intA a2_7), (intA a2_8), (intA a2_9), (intA a2_10), (intA a2_11), (intA a2_12), (intA a2_13), (intA a2_14), (intA a2_15)], 31⟩) :: []) [some AV.nils, some (intA (2))]) else (
callW pg KK.gl ((0, some ⟨[(intA a2_0), (intA a2_1), (intA a2_2), (intA a2_3), (intA a2_4), (intA a2_5), (intA a2_6), (intA a2_7), (intA a2_8), (intA a2_9), (intA a2_10), (intA a2_11), (intA a2_12), (intA a2_13), (intA a2_14), (intA a2_15)], 31⟩) :: []) 86 36 [a0] fun v11 m11 =>
opP (lenS a3) fun v12 =>
ex_i64 v12 fun z13 =>
Tri pg KK 100 0 (.loop c9_0) ⟨[(0, a0), (1, a1), (2, (AV.agg [(intA a2_0), (intA a2_1), (intA a2_2), (intA a2_3), (intA a2_4), (intA a2_5), (intA a2_6), (intA a2_7), (intA a2_8), (intA a2_9), (intA a2_10), (intA a2_11), (intA a2_12), (intA a2_13), (intA a2_14), (intA a2_15)])), (3, a3), (6, (AV.ptr 0 0)), (8, AV.nils), (9, (intA (0))), (22, a0), (23, a1), (24, (AV.agg [(intA a2_0), (intA a2_1), (intA a2_2), (intA a2_3), (intA a2_4), (intA a2_5), (intA a2_6), (intA a2_7), (intA a2_8), (intA a2_9), (intA a2_10), (intA a2_11), (intA a2_12), (intA a2_13), (intA a2_14), (intA a2_15)])), (25, (AV.tup [(intA z4), (intA z5), (intA z6)])), (21, (AV.tup [(intA z4), (intA z5), (intA z6)])), (26, (intA z4)), (27, (intA z5)), (28, (intA z6)), (10, (intA z4)), (11, (intA z5)), (12, (intA z6)), (29, (intA z6)), (30, (boolA (z6 != (0)))), (32, a0), (33, (intA z8)), (34, a3), (35, (intA z10)), (36, (intA (IntKind.wrap .i64 (z8 + z10)))), (37, (boolA (decide ((IntKind.wrap .i64 (z8 + z10)) > (24))))), (38, a0), (39, v11), (13, v11), (40, a3), (41, (intA z13)), (42, (intA (0)))], m11, 154⟩ (q9_0 R)))
theorem F9_own (a0 : AV) (a1 : AV) (a2_0 : Int) (a2_1 : Int) (a2_2 : Int) (a2_3 : Int) (a2_4 : Int) (a2_5 : Int) (a2_6 : Int) (a2_7 : Int) (a2_8 : Int) (a2_9 : Int) (a2_10 : Int) (a2_11 : Int) (a2_12 : Int) (a2_13 : Int) (a2_14 : Int) (a2_15 : Int) (a3 : AV) (R : AV → Mem → Prop) (h : F9 a0 a1 a2_0 a2_1 a2_2 a2_3 a2_4 a2_5 a2_6 a2_7 a2_8 a2_9 a2_10 a2_11 a2_12 a2_13 a2_14 a2_15 a3 R) : Own pg KK.gl 9 [a0, a1, (AV.agg [(intA a2_0), (intA a2_1), (intA a2_2), (intA a2_3), (intA a2_4), (intA a2_5), (intA a2_6), (intA a2_7), (intA a2_8), (intA a2_9), (intA a2_10), (intA a2_11), (intA a2_12), (intA a2_13), (intA a2_14), (intA a2_15)]), a3] R := own_of_F fol Tryz.func9 (code := c9) (by kernel_rfl) (by kernel_rfl) (by kernel_rfl) (X := F9 a0 a1 a2_0 a2_1 a2_2 a2_3 a2_4 a2_5 a2_6 a2_7 a2_8 a2_9 a2_10 a2_11 a2_12 a2_13 a2_14 a2_15 a3 R) (by kernel_rfl) h
/- skyway/skywaytop.TopDepartures -/
noncomputable def c3 : Code := ((Tryz.f3).body).getD .skip
noncomputable def q3 (R : AV → Mem → Prop) : AExit → St → Prop := retQ pg Tryz.f3 R
noncomputable def c3_0 : Code := loopB c3 0
noncomputable def q3_0 (R : AV → Mem → Prop) : AExit → St → Prop := contW pg KK 112 0 c3 0 (q3 R)
noncomputable def qq3_0 (R : AV → Mem → Prop) (N0 : St → Prop) : AExit → St → Prop := thenQ N0 (q3_0 R)
def h3_0 (t2 : Int) (t8 : Bool) (t10 : Int) (t11 : AV) (t12 : AV) (t46 : AV) (t47 : Int) (t48 : Int) (m : Mem) : St := ⟨[(2, (intA t2)), (8, (boolA t8)), (10, (intA t10)), (11, t11), (12, t12), (46, t46), (47, (intA t47)), (48, (intA t48))], m, 100000⟩
noncomputable def c3_1 : Code := loopB c3 1
noncomputable def q3_1 (R : AV → Mem → Prop) : AExit → St → Prop := contW pg KK 112 0 c3 1 (q3 R)
noncomputable def qq3_1 (R : AV → Mem → Prop) (N0 : St → Prop) : AExit → St → Prop := thenQ N0 (q3_1 R)
def h3_1 (t8 : Bool) (t11 : AV) (t77 : AV) (t78 : Int) (t79 : Int) (m : Mem) : St := ⟨[(8, (boolA t8)), (11, t11), (77, t77), (78, (intA t78)), (79, (intA t79))], m, 200000⟩
noncomputable def B3_0 (t2 : Int) (t8 : Bool) (t10 : Int) (t11 : AV) (t12 : AV) (t46 : AV) (t47 : Int) (t48 : Int) (m : Mem) (R : AV → Mem → Prop) (N0 : St → Prop) : Prop :=
bif (decide (t48 < t47)) then (
opP (idxS 4 t46 (intA t48)) fun v52 =>
opP (ldA (mget m) 4 v52) fun v53 =>
exA4 v53 fun c54 c55 c56 c57 =>
exStr c54 fun s58 =>
ex_i64 c55 fun z59 =>
ex_i64 c56 fun z60 =>
ex_i64 c57 fun z61 =>
opP (bld [(intA (0)), (intA (0))] [(0, 1), (1, 1)] [(0, (intA z61)), (1, (intA t2))]) fun v62 =>
opN (bsl 100010 40 2 1 [(intA (0)), (intA (0))] [(0, v62)]) ((100003, some ⟨[(AV.sc (.string s58)), (intA z59), (intA z60), (intA z61)], 38⟩) :: (100003, some ⟨[(AV.sc (.string ⟨#[]⟩)), (intA (0)), (intA (0)), (intA (0))], 38⟩) :: m) fun v63 m63 =>
opN (app (mget m63) 40 2 16 [(intA (0)), (intA (0))] 100011 t12 v63) m63 fun v64 m64 =>
N0 ⟨[(2, (intA t2)), (8, (boolA t8)), (10, (intA t10)), (11, t11), (12, v64), (46, t46), (47, (intA t47)), (48, (intA (IntKind.wrap .i64 (t48 + (1))))), (49, (boolA (decide (t48 < t47)))), (50, v52), (51, (AV.agg [(AV.sc (.string s58)), (intA z59), (intA z60), (intA z61)])), (14, (AV.ptr 100003 0)), (52, t12), (53, (AV.ptr 100003 3)), (54, (intA z61)), (55, (intA t2)), (56, v62), (57, v63), (58, v64), (59, (intA (IntKind.wrap .i64 (t48 + (1)))))], m64, 100015⟩) else (
opP (bld [(intA (0)), (intA (0))] [(0, 1), (1, 1)] []) fun v65 =>
opN (bsl 100002 45 2 1 [(intA (0)), (intA (0))] [(0, v65)]) m fun v66 m66 =>
callQ pg KK.gl m66 7 [] fun v67 =>
exA16 v67 fun c68 c69 c70 c71 c72 c73 c74 c75 c76 c77 c78 c79 c80 c81 c82 c83 =>
ex_i64 c68 fun z84 =>
ex_i64 c69 fun z85 =>
ex_i64 c70 fun z86 =>
ex_i64 c71 fun z87 =>
ex_i64 c72 fun z88 =>
ex_i64 c73 fun z89 =>
ex_i64 c74 fun z90 =>
ex_i64 c75 fun z91 =>
ex_i64 c76 fun z92 =>
ex_i64 c77 fun z93 =>
ex_i64 c78 fun z94 =>
ex_i64 c79 fun z95 =>
ex_i64 c80 fun z96 =>
ex_i64 c81 fun z97 =>
ex_i64 c82 fun z98 =>
ex_i64 c83 fun z99 =>
callW pg KK.gl m66 100068 9 [AV.nils, v66, (AV.agg [(intA z84), (intA z85), (intA z86), (intA z87), (intA z88), (intA z89), (intA z90), (intA z91), (intA z92), (intA z93), (intA z94), (intA z95), (intA z96), (intA z97), (intA z98), (intA z99)]), t12] fun v100 m100 =>
exT2 v100 fun c101 c102 =>
ex_i64 c102 fun z103 =>
bif (z103 != (0)) then (
retL R m100 [some (boolA false)]) else (
opP (lenS c101) fun v104 =>
ex_i64 v104 fun z105 =>
opP (lenS t11) fun v106 =>
ex_i64 v106 fun z107 =>
bif (z105 != z107) then (
retL R m100 [some (boolA false)]) else (
opP (lenS c101) fun v108 =>
ex_i64 v108 fun z109 =>
Tri pg KK 112 0 (.loop c3_1) ⟨[(2, (intA t2)), (8, (boolA t8)), (10, (intA z103)), (11, t11), (12, t12), (46, t46), (47, (intA t47)), (48, (intA t48)), (49, (boolA (decide (t48 < t47)))), (61, v65), (62, v66), (63, (AV.agg [(intA z84), (intA z85), (intA z86), (intA z87), (intA z88), (intA z89), (intA z90), (intA z91), (intA z92), (intA z93), (intA z94), (intA z95), (intA z96), (intA z97), (intA z98), (intA z99)])), (64, t12), (65, (AV.tup [c101, (intA z103)])), (60, (AV.tup [c101, (intA z103)])), (66, c101), (67, (intA z103)), (15, c101), (68, (intA z103)), (69, (boolA (z103 != (0)))), (70, (boolA false)), (71, c101), (72, (intA z105)), (73, t11), (74, (intA z107)), (75, (boolA (z105 != z107))), (76, (boolA (z105 != z107))), (77, c101), (78, (intA z109)), (79, (intA (0)))], m100, 100149⟩ (q3_1 R))))
theorem B3_0_eq (t2 : Int) (t8 : Bool) (t10 : Int) (t11 : AV) (t12 : AV) (t46 : AV) (t47 : Int) (t48 : Int) (m : Mem) (R : AV → Mem → Prop) (N0 : St → Prop) : W pg KK 112 0 c3_0 (h3_0 t2 t8 t10 t11 t12 t46 t47 t48 m) (qq3_0 R N0) = B3_0 t2 t8 t10 t11 t12 t46 t47 t48 m R N0 := by kernel_rfl
theorem L3_0 (R : AV → Mem → Prop) {σ : Type} (I : σ → Prop) (t2 : σ → Int) (t8 : σ → Bool) (t10 : σ → Int) (t11 : σ → AV) (t12 : σ → AV) (t46 : σ → AV) (t47 : σ → Int) (t48 : σ → Int) (m : σ → Mem) (μ : σ → Nat) (step : ∀ x, I x → B3_0 (t2 x) (t8 x) (t10 x) (t11 x) (t12 x) (t46 x) (t47 x) (t48 x) (m x) R (fun s' => ∃ y, I y ∧ μ y < μ x ∧ Weak KK 112 0 s' (h3_0 (t2 y) (t8 y) (t10 y) (t11 y) (t12 y) (t46 y) (t47 y) (t48 y) (m y)))) (x : σ) (hx : I x) {s : St} (hw : Weak KK 112 0 s (h3_0 (t2 x) (t8 x) (t10 x) (t11 x) (t12 x) (t46 x) (t47 x) (t48 x) (m x))) : Tri pg KK 112 0 (.loop c3_0) s (q3_0 R) :=
  Tri.weak hw (Tri.loops fol I (fun x => h3_0 (t2 x) (t8 x) (t10 x) (t11 x) (t12 x) (t46 x) (t47 x) (t48 x) (m x)) μ (fun x hx => (B3_0_eq (t2 x) (t8 x) (t10 x) (t11 x) (t12 x) (t46 x) (t47 x) (t48 x) (m x) R _).mpr (step x hx)) x hx)
noncomputable def B3_1 (t8 : Bool) (t11 : AV) (t77 : AV) (t78 : Int) (t79 : Int) (m : Mem) (R : AV → Mem → Prop) (N0 : St → Prop) : Prop :=
bif (decide (t79 < t78)) then (
opP (idxS 4 t77 (intA t79)) fun v110 =>
opP (ldA (mget m) 4 v110) fun v111 =>
exA4 v111 fun c112 c113 c114 c115 =>
ex_i64 c112 fun z116 =>
ex_i64 c113 fun z117 =>
exB c114 fun b118 =>
ex_i64 c115 fun z119 =>
opP (idxS 4 t11 (intA t79)) fun v120 =>
opP (fldO 3 v120) fun v121 =>
opP (ldS (mget ((200004, some ⟨[(intA z116), (intA z117), (boolA b118), (intA z119)], 48⟩) :: (200004, some ⟨[(intA (0)), (intA (0)), (boolA false), (intA (0))], 48⟩) :: m)) v121) fun v122 =>
ex_i64 v122 fun z123 =>
bif (z116 != z123) then (
retL R ((200004, some ⟨[(intA z116), (intA z117), (boolA b118), (intA z119)], 48⟩) :: (200004, some ⟨[(intA (0)), (intA (0)), (boolA false), (intA (0))], 48⟩) :: m) [some (boolA false)]) else (
bif (!b118) then (
retL R ((200004, some ⟨[(intA z116), (intA z117), (boolA b118), (intA z119)], 48⟩) :: (200004, some ⟨[(intA (0)), (intA (0)), (boolA false), (intA (0))], 48⟩) :: m) [some (boolA false)]) else (
opP (idxS 4 t11 (intA t79)) fun v124 =>
opP (fldO 2 v124) fun v125 =>
opP (ldS (mget ((200004, some ⟨[(intA z116), (intA z117), (boolA b118), (intA z119)], 48⟩) :: (200004, some ⟨[(intA (0)), (intA (0)), (boolA false), (intA (0))], 48⟩) :: m)) v125) fun v126 =>
ex_i64 v126 fun z127 =>
opP (idxS 4 t11 (intA t79)) fun v128 =>
opP (fldO 1 v128) fun v129 =>
opP (ldS (mget ((200004, some ⟨[(intA z116), (intA z117), (boolA b118), (intA z119)], 48⟩) :: (200004, some ⟨[(intA (0)), (intA (0)), (boolA false), (intA (0))], 48⟩) :: m)) v129) fun v130 =>
ex_i64 v130 fun z131 =>
bif (decide ((IntKind.wrap .i64 (z127 - z131)) < (0))) then (
retL R ((200004, some ⟨[(intA z116), (intA z117), (boolA b118), (intA z119)], 48⟩) :: (200004, some ⟨[(intA (0)), (intA (0)), (boolA false), (intA (0))], 48⟩) :: m) [some (boolA false)]) else (
N0 ⟨[(8, (boolA t8)), (11, t11), (77, t77), (78, (intA t78)), (79, (intA (IntKind.wrap .i64 (t79 + (1))))), (80, (boolA (decide (t79 < t78)))), (81, (intA t79)), (82, v110), (83, (AV.agg [(intA z116), (intA z117), (boolA b118), (intA z119)])), (17, (AV.ptr 200004 0)), (16, (intA t79)), (84, (AV.ptr 200004 0)), (85, (intA z116)), (86, t11), (87, (intA t79)), (88, v120), (89, v121), (90, (intA z123)), (91, (boolA (z116 != z123))), (92, (boolA false)), (93, (AV.ptr 200004 2)), (94, (boolA b118)), (95, (boolA (!b118))), (96, (boolA (!b118))), (97, (boolA false)), (98, t11), (99, (intA t79)), (100, v124), (101, v125), (102, (intA z127)), (103, t11), (104, (intA t79)), (105, v128), (106, v129), (107, (intA z131)), (108, (intA (IntKind.wrap .i64 (z127 - z131)))), (109, (boolA (decide ((IntKind.wrap .i64 (z127 - z131)) < (0))))), (110, (boolA (decide ((IntKind.wrap .i64 (z127 - z131)) < (0))))), (111, (intA (IntKind.wrap .i64 (t79 + (1)))))], ((200004, some ⟨[(intA z116), (intA z117), (boolA b118), (intA z119)], 48⟩) :: (200004, some ⟨[(intA (0)), (intA (0)), (boolA false), (intA (0))], 48⟩) :: m), 200036⟩)))) else (
retL R m [some (boolA true)])
theorem B3_1_eq (t8 : Bool) (t11 : AV) (t77 : AV) (t78 : Int) (t79 : Int) (m : Mem) (R : AV → Mem → Prop) (N0 : St → Prop) : W pg KK 112 0 c3_1 (h3_1 t8 t11 t77 t78 t79 m) (qq3_1 R N0) = B3_1 t8 t11 t77 t78 t79 m R N0 := by kernel_rfl
theorem L3_1 (R : AV → Mem → Prop) {σ : Type} (I : σ → Prop) (t8 : σ → Bool) (t11 : σ → AV) (t77 : σ → AV) (t78 : σ → Int) (t79 : σ → Int) (m : σ → Mem) (μ : σ → Nat) (step : ∀ x, I x → B3_1 (t8 x) (t11 x) (t77 x) (t78 x) (t79 x) (m x) R (fun s' => ∃ y, I y ∧ μ y < μ x ∧ Weak KK 112 0 s' (h3_1 (t8 y) (t11 y) (t77 y) (t78 y) (t79 y) (m y)))) (x : σ) (hx : I x) {s : St} (hw : Weak KK 112 0 s (h3_1 (t8 x) (t11 x) (t77 x) (t78 x) (t79 x) (m x))) : Tri pg KK 112 0 (.loop c3_1) s (q3_1 R) :=
  Tri.weak hw (Tri.loops fol I (fun x => h3_1 (t8 x) (t11 x) (t77 x) (t78 x) (t79 x) (m x)) μ (fun x hx => (B3_1_eq (t8 x) (t11 x) (t77 x) (t78 x) (t79 x) (m x) R _).mpr (step x hx)) x hx)
noncomputable def F3 (a0 : AV) (a1 : AV) (a2 : Int) (a3 : Int) (R : AV → Mem → Prop) : Prop :=
callQ pg KK.gl [] 4 [] fun v0 =>
exB v0 fun b1 =>
bif (!b1) then (
retL R [] [some (boolA false)]) else (
callQ pg KK.gl [] 5 [(intA a2), (intA (4))] fun v2 =>
ex_i64 v2 fun z3 =>
callQ pg KK.gl [] 5 [(intA a3), (intA (900))] fun v4 =>
ex_i64 v4 fun z5 =>
callQ pg KK.gl [] 7 [] fun v6 =>
exA16 v6 fun c7 c8 c9 c10 c11 c12 c13 c14 c15 c16 c17 c18 c19 c20 c21 c22 =>
ex_i64 c7 fun z23 =>
ex_i64 c8 fun z24 =>
ex_i64 c9 fun z25 =>
ex_i64 c10 fun z26 =>
ex_i64 c11 fun z27 =>
ex_i64 c12 fun z28 =>
ex_i64 c13 fun z29 =>
ex_i64 c14 fun z30 =>
ex_i64 c15 fun z31 =>
ex_i64 c16 fun z32 =>
ex_i64 c17 fun z33 =>
ex_i64 c18 fun z34 =>
ex_i64 c19 fun z35 =>
ex_i64 c20 fun z36 =>
ex_i64 c21 fun z37 =>
ex_i64 c22 fun z38 =>
callQ pg KK.gl [] 6 [(AV.agg [(intA z23), (intA z24), (intA z25), (intA z26), (intA z27), (intA z28), (intA z29), (intA z30), (intA z31), (intA z32), (intA z33), (intA z34), (intA z35), (intA z36), (intA z37), (intA z38)]), (intA z3), (intA z3)] fun v39 =>
exT2 v39 fun c40 c41 =>
ex_i64 c40 fun z42 =>
ex_i64 c41 fun z43 =>
bif (z43 != (0)) then (
retL R [] [some (boolA false)]) else (
callW pg KK.gl [] 339 8 [a0, a1, (intA z42), (intA z5)] fun v44 m44 =>
exT2 v44 fun c45 c46 =>
ex_i64 c46 fun z47 =>
bif (z47 != (0)) then (
opP (lenS c45) fun v48 =>
ex_i64 v48 fun z49 =>
retL R m44 [some (boolA (z49 == (0)))]) else (
opP (lenS c45) fun v50 =>
ex_i64 v50 fun z51 =>
Tri pg KK 112 0 (.loop c3_0) ⟨[(0, a0), (1, a1), (2, (intA z3)), (3, (intA z5)), (8, (boolA false)), (18, (boolA b1)), (19, (boolA (!b1))), (20, (intA a2)), (21, (intA z3)), (22, (intA a3)), (23, (intA z5)), (25, (AV.agg [(intA z23), (intA z24), (intA z25), (intA z26), (intA z27), (intA z28), (intA z29), (intA z30), (intA z31), (intA z32), (intA z33), (intA z34), (intA z35), (intA z36), (intA z37), (intA z38)])), (26, (intA z3)), (27, (intA z3)), (28, (AV.tup [(intA z42), (intA z43)])), (24, (AV.tup [(intA z42), (intA z43)])), (29, (intA z42)), (30, (intA z43)), (9, (intA z42)), (10, (intA z47)), (31, (intA z43)), (32, (boolA (z43 != (0)))), (34, a0), (35, a1), (36, (intA z42)), (37, (intA z5)), (38, (AV.tup [c45, (intA z47)])), (33, (AV.tup [c45, (intA z47)])), (39, c45), (40, (intA z47)), (11, c45), (41, (intA z47)), (42, (boolA (z47 != (0)))), (12, AV.nils), (46, c45), (47, (intA z51)), (48, (intA (0)))], m44, 414⟩ (q3_0 R))))
theorem F3_own (a0 : AV) (a1 : AV) (a2 : Int) (a3 : Int) (R : AV → Mem → Prop) (h : F3 a0 a1 a2 a3 R) : Own pg KK.gl 3 [a0, a1, (intA a2), (intA a3)] R := own_of_F fol Tryz.func3 (code := c3) (by kernel_rfl) (by kernel_rfl) (by kernel_rfl) (X := F3 a0 a1 a2 a3 R) (by kernel_rfl) h
/- slices.Clone[[]skyway/api.RunwayMove,skyway/api.RunwayMove] -/
noncomputable def c36 : Code := ((Tryz.f36).body).getD .skip
noncomputable def q36 (R : AV → Mem → Prop) : AExit → St → Prop := retQ pg Tryz.f36 R
noncomputable def F36 (a0 : AV) (R : AV → Mem → Prop) : Prop :=
nilK a0 fun b0 =>
bif b0 then (
retL R [] [some AV.nils]) else (
opN (bsl 3 48 4 0 [(intA (0)), (intA (0)), (boolA false), (intA (0))] []) [] fun v2 m2 =>
opN (app (mget m2) 48 4 32 [(intA (0)), (intA (0)), (boolA false), (intA (0))] 5 v2 a0) m2 fun v3 m3 =>
retL R m3 [some v3])
theorem F36_own (a0 : AV) (R : AV → Mem → Prop) (h : F36 a0 R) : Own pg KK.gl 36 [a0] R := own_of_F fol Tryz.func36 (code := c36) (by kernel_rfl) (by kernel_rfl) (by kernel_rfl) (X := F36 a0 R) (by kernel_rfl) h
end Go.Proofs.YtbnnndfcaehlpaaGreatDoor
