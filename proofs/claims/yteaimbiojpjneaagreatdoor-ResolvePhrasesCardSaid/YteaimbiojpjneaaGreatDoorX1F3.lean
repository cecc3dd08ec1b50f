/- Functions of the program as conditions on their answers; printed by wip/Gen.lean.txt. -/
import Derived.Test.YteaimbiojpjneaaGreatDoorX1T
set_option linter.unusedVariables false
set_option maxRecDepth 100000
set_option maxHeartbeats 4000000
namespace Go.Proofs.YteaimbiojpjneaaGreatDoor
/- slices.Index[[]string,string] -/
noncomputable def c79 : Code := ((Tryz.f79).body).getD .skip
noncomputable def q79 (R : AV → Mem → Prop) : AExit → St → Prop := retQ pg Tryz.f79 R
noncomputable def c79_0 : Code := loopB c79 0
noncomputable def q79_0 (R : AV → Mem → Prop) : AExit → St → Prop := contW pg KK 19 0 c79 0 (q79 R)
noncomputable def qq79_0 (R : AV → Mem → Prop) (N0 : St → Prop) : AExit → St → Prop := thenQ N0 (q79_0 R)
def h79_0 (t0 : AV) (t1 : ByteArray) (t4 : Int) (t7 : Int) (t8 : Int) (m : Mem) : St := ⟨[(0, t0), (1, (AV.sc (.string t1))), (4, (intA t4)), (7, (intA t7)), (8, (intA t8))], m, 100000⟩
noncomputable def B79_0 (t0 : AV) (t1 : ByteArray) (t4 : Int) (t7 : Int) (t8 : Int) (m : Mem) (R : AV → Mem → Prop) (N0 : St → Prop) : Prop :=
bif (decide (t8 < t7)) then (
opP (idxS 1 t0 (intA t8)) fun v2 =>
opP (ldS (mget m) v2) fun v3 =>
exStr v3 fun s4 =>
bif ((t1).toList == (s4).toList) then (
retL R m [some (intA t8)]) else (
N0 ⟨[(0, t0), (1, (AV.sc (.string t1))), (4, (intA t4)), (7, (intA t7)), (8, (intA (IntKind.wrap .i64 (t8 + (1))))), (9, (boolA (decide (t8 < t7)))), (10, (intA t8)), (5, (intA t8)), (11, (AV.sc (.string t1))), (12, t0), (13, (intA t8)), (14, v2), (15, (AV.sc (.string s4))), (16, (boolA ((t1).toList == (s4).toList))), (18, (intA (IntKind.wrap .i64 (t8 + (1)))))], m, 100011⟩)) else (
retL R m [some (intA (-1))])
theorem B79_0_eq (t0 : AV) (t1 : ByteArray) (t4 : Int) (t7 : Int) (t8 : Int) (m : Mem) (R : AV → Mem → Prop) (N0 : St → Prop) : W pg KK 19 0 c79_0 (h79_0 t0 t1 t4 t7 t8 m) (qq79_0 R N0) = B79_0 t0 t1 t4 t7 t8 m R N0 := by kernel_rfl
theorem L79_0 (R : AV → Mem → Prop) {σ : Type} (I : σ → Prop) (t0 : σ → AV) (t1 : σ → ByteArray) (t4 : σ → Int) (t7 : σ → Int) (t8 : σ → Int) (m : σ → Mem) (μ : σ → Nat) (step : ∀ x, I x → B79_0 (t0 x) (t1 x) (t4 x) (t7 x) (t8 x) (m x) R (fun s' => ∃ y, I y ∧ μ y < μ x ∧ Weak KK 19 0 s' (h79_0 (t0 y) (t1 y) (t4 y) (t7 y) (t8 y) (m y)))) (x : σ) (hx : I x) {s : St} (hw : Weak KK 19 0 s (h79_0 (t0 x) (t1 x) (t4 x) (t7 x) (t8 x) (m x))) : Tri pg KK 19 0 (.loop c79_0) s (q79_0 R) :=
  Tri.weak hw (Tri.loops fol I (fun x => h79_0 (t0 x) (t1 x) (t4 x) (t7 x) (t8 x) (m x)) μ (fun x hx => (B79_0_eq (t0 x) (t1 x) (t4 x) (t7 x) (t8 x) (m x) R _).mpr (step x hx)) x hx)
noncomputable def F79 (a0 : AV) (a1 : ByteArray) (R : AV → Mem → Prop) : Prop :=
opP (lenS a0) fun v0 =>
ex_i64 v0 fun z1 =>
Tri pg KK 19 0 (.loop c79_0) ⟨[(0, a0), (1, (AV.sc (.string a1))), (4, (intA (0))), (6, a0), (7, (intA z1)), (8, (intA (0)))], [], 4⟩ (q79_0 R)
theorem F79_own (a0 : AV) (a1 : ByteArray) (R : AV → Mem → Prop) (h : F79 a0 a1 R) : Own pg KK.gl 79 [a0, (AV.sc (.string a1))] R := own_of_F fol Tryz.func79 (code := c79) (by kernel_rfl) (by kernel_rfl) (by kernel_rfl) (X := F79 a0 a1 R) (by kernel_rfl) h
/- skyway/phrase.kind -/
noncomputable def c57 : Code := ((Tryz.f57).body).getD .skip
noncomputable def q57 (R : AV → Mem → Prop) : AExit → St → Prop := retQ pg Tryz.f57 R
noncomputable def F57 (a0 : ByteArray) (R : AV → Mem → Prop) : Prop :=
opP (opA pg (.slice 134 (.tmp 0) none none none) 133 [(gval 1)] (mget []) 1) fun v0 =>
callQ pg KK.gl [] 79 [v0, (AV.sc (.string a0))] fun v1 =>
ex_i64 v1 fun z2 =>
retL R [] [some (intA z2)]
theorem F57_own (a0 : ByteArray) (R : AV → Mem → Prop) (h : F57 a0 R) : Own pg KK.gl 57 [(AV.sc (.string a0))] R := own_of_F fol Tryz.func57 (code := c57) (by kernel_rfl) (by kernel_rfl) (by kernel_rfl) (X := F57 a0 R) (by kernel_rfl) h
/- skyway/phrase.name -/
noncomputable def c30 : Code := ((Tryz.f30).body).getD .skip
noncomputable def q30 (R : AV → Mem → Prop) : AExit → St → Prop := retQ pg Tryz.f30 R
noncomputable def F30 (a0 : ByteArray) (R : AV → Mem → Prop) : Prop :=
callQ pg KK.gl [] 51 [(AV.sc (.string a0))] fun v0 =>
exB v0 fun b1 =>
bif b1 then (
callQ pg KK.gl [] 57 [(AV.sc (.string a0))] fun v2 =>
ex_i64 v2 fun z3 =>
retL R [] [some (boolA (decide (z3 < (0))))]) else (
retL R [] [some (boolA false)])
theorem F30_own (a0 : ByteArray) (R : AV → Mem → Prop) (h : F30 a0 R) : Own pg KK.gl 30 [(AV.sc (.string a0))] R := own_of_F fol Tryz.func30 (code := c30) (by kernel_rfl) (by kernel_rfl) (by kernel_rfl) (X := F30 a0 R) (by kernel_rfl) h
/- skyway/phrase.Check -/
noncomputable def c8 : Code := ((Tryz.f8).body).getD .skip
noncomputable def q8 (R : AV → Mem → Prop) : AExit → St → Prop := retQ pg Tryz.f8 R
noncomputable def F8 (a0_0 : ByteArray) (a0_1 : Int) (a0_2 : Int) (a0_3 : ByteArray) (R : AV → Mem → Prop) : Prop :=
callQ pg KK.gl ((0, some ⟨[(AV.sc (.string a0_0)), (intA a0_1), (intA a0_2), (AV.sc (.string a0_3))], 32⟩) :: []) 30 [(AV.sc (.string a0_0))] fun v0 =>
exB v0 fun b1 =>
bif (!b1) then (
retL R ((0, some ⟨[(AV.sc (.string a0_0)), (intA a0_1), (intA a0_2), (AV.sc (.string a0_3))], 32⟩) :: []) [some (intA (3))]) else (
bif (decide (a0_1 < (0))) then (
retL R ((0, some ⟨[(AV.sc (.string a0_0)), (intA a0_1), (intA a0_2), (AV.sc (.string a0_3))], 32⟩) :: []) [some (intA (1))]) else (
bif (decide (a0_1 > (6))) then (
retL R ((0, some ⟨[(AV.sc (.string a0_0)), (intA a0_1), (intA a0_2), (AV.sc (.string a0_3))], 32⟩) :: []) [some (intA (1))]) else (
bif (decide (a0_1 > (2))) then (
bif (a0_2 != (0)) then (
retL R ((0, some ⟨[(AV.sc (.string a0_0)), (intA a0_1), (intA a0_2), (AV.sc (.string a0_3))], 32⟩) :: []) [some (intA (3))]) else (
callQ pg KK.gl ((0, some ⟨[(AV.sc (.string a0_0)), (intA a0_1), (intA a0_2), (AV.sc (.string a0_3))], 32⟩) :: []) 30 [(AV.sc (.string a0_3))] fun v2 =>
exB v2 fun b3 =>
bif (!b3) then (
retL R ((0, some ⟨[(AV.sc (.string a0_0)), (intA a0_1), (intA a0_2), (AV.sc (.string a0_3))], 32⟩) :: []) [some (intA (3))]) else (
retL R ((0, some ⟨[(AV.sc (.string a0_0)), (intA a0_1), (intA a0_2), (AV.sc (.string a0_3))], 32⟩) :: []) [some (intA (0))]))) else (
bif (!((a0_3).toList == ((⟨#[]⟩ : ByteArray)).toList)) then (
retL R ((0, some ⟨[(AV.sc (.string a0_0)), (intA a0_1), (intA a0_2), (AV.sc (.string a0_3))], 32⟩) :: []) [some (intA (3))]) else (
bif (decide (a0_2 < (0))) then (
retL R ((0, some ⟨[(AV.sc (.string a0_0)), (intA a0_1), (intA a0_2), (AV.sc (.string a0_3))], 32⟩) :: []) [some (intA (4))]) else (
opP (idxA 3 1 (gval 0) (intA a0_1)) fun v4 =>
opP (ldS (mget ((0, some ⟨[(AV.sc (.string a0_0)), (intA a0_1), (intA a0_2), (AV.sc (.string a0_3))], 32⟩) :: [])) v4) fun v5 =>
ex_i64 v5 fun z6 =>
bif (decide (a0_2 > z6)) then (
retL R ((0, some ⟨[(AV.sc (.string a0_0)), (intA a0_1), (intA a0_2), (AV.sc (.string a0_3))], 32⟩) :: []) [some (intA (4))]) else (
retL R ((0, some ⟨[(AV.sc (.string a0_0)), (intA a0_1), (intA a0_2), (AV.sc (.string a0_3))], 32⟩) :: []) [some (intA (0))])))))))
theorem F8_own (a0_0 : ByteArray) (a0_1 : Int) (a0_2 : Int) (a0_3 : ByteArray) (R : AV → Mem → Prop) (h : F8 a0_0 a0_1 a0_2 a0_3 R) : Own pg KK.gl 8 [(AV.agg [(AV.sc (.string a0_0)), (intA a0_1), (intA a0_2), (AV.sc (.string a0_3))])] R := own_of_F fol Tryz.func8 (code := c8) (by kernel_rfl) (by kernel_rfl) (by kernel_rfl) (X := F8 a0_0 a0_1 a0_2 a0_3 R) (by kernel_rfl) h
/- skyway/resolve.course -/
noncomputable def c27 : Code := ((Tryz.f27).body).getD .skip
noncomputable def q27 (R : AV → Mem → Prop) : AExit → St → Prop := retQ pg Tryz.f27 R
noncomputable def c27_0 : Code := loopB c27 0
noncomputable def q27_0 (R : AV → Mem → Prop) : AExit → St → Prop := contW pg KK 60 0 c27 0 (q27 R)
noncomputable def qq27_0 (R : AV → Mem → Prop) (N0 : St → Prop) : AExit → St → Prop := thenQ N0 (q27_0 R)
def h27_0 (t4 : Int) (t5 : Int) (t6 : Bool) (t13 : AV) (t14 : Int) (t15 : Int) (b0_0 : Int) (b0_1 : Int) (b0_2 : Int) (b0_3 : Int) (b0_4 : Int) (b0_5 : Int) (m : Mem) : St := ⟨[(3, (AV.ptr 0 0)), (4, (intA t4)), (5, (intA t5)), (6, (boolA t6)), (13, t13), (14, (intA t14)), (15, (intA t15))], ((0, some ⟨[(intA b0_0), (intA b0_1), (intA b0_2), (intA b0_3), (intA b0_4), (intA b0_5)], 50⟩) :: m), 100000⟩
noncomputable def B27_0 (t4 : Int) (t5 : Int) (t6 : Bool) (t13 : AV) (t14 : Int) (t15 : Int) (b0_0 : Int) (b0_1 : Int) (b0_2 : Int) (b0_3 : Int) (b0_4 : Int) (b0_5 : Int) (m : Mem) (R : AV → Mem → Prop) (N0 : St → Prop) : Prop :=
bif (decide (t15 < t14)) then (
opP (idxS 6 t13 (intA t15)) fun v2 =>
opP (ldA (mget ((0, some ⟨[(intA b0_0), (intA b0_1), (intA b0_2), (intA b0_3), (intA b0_4), (intA b0_5)], 50⟩) :: m)) 6 v2) fun v3 =>
exA6 v3 fun c4 c5 c6 c7 c8 c9 =>
ex_i64 c4 fun z10 =>
ex_i64 c5 fun z11 =>
ex_i64 c6 fun z12 =>
ex_i64 c7 fun z13 =>
ex_i64 c8 fun z14 =>
ex_i64 c9 fun z15 =>
bif (decide (z10 > b0_0)) then (
callQ pg KK.gl ((100003, some ⟨[(intA z10), (intA z11), (intA z12), (intA z13), (intA z14), (intA z15)], 50⟩) :: (100003, some ⟨[(intA (0)), (intA (0)), (intA (0)), (intA (0)), (intA (0)), (intA (0))], 50⟩) :: (0, some ⟨[(intA b0_0), (intA b0_1), (intA b0_2), (intA b0_3), (intA b0_4), (intA b0_5)], 50⟩) :: m) 55 [(AV.agg [(intA z11), (intA z12)]), (AV.agg [(intA b0_1), (intA b0_2)])] fun v16 =>
exA2 v16 fun c17 c18 =>
ex_i64 c17 fun z19 =>
ex_i64 c18 fun z20 =>
callQ pg KK.gl ((100003, some ⟨[(intA z10), (intA z11), (intA z12), (intA z13), (intA z14), (intA z15)], 50⟩) :: (100003, some ⟨[(intA (0)), (intA (0)), (intA (0)), (intA (0)), (intA (0)), (intA (0))], 50⟩) :: (0, some ⟨[(intA b0_0), (intA b0_1), (intA b0_2), (intA b0_3), (intA b0_4), (intA b0_5)], 50⟩) :: m) 54 [(AV.agg [(intA z19), (intA z20)])] fun v21 =>
exT2 v21 fun c22 c23 =>
ex_i64 c22 fun z24 =>
ex_i64 c23 fun z25 =>
callQ pg KK.gl ((100003, some ⟨[(intA z10), (intA z11), (intA z12), (intA z13), (intA z14), (intA z15)], 50⟩) :: (100003, some ⟨[(intA (0)), (intA (0)), (intA (0)), (intA (0)), (intA (0)), (intA (0))], 50⟩) :: (0, some ⟨[(intA b0_0), (intA b0_1), (intA b0_2), (intA b0_3), (intA b0_4), (intA b0_5)], 50⟩) :: m) 56 [(AV.agg [(intA b0_1), (intA b0_2)]), (AV.agg [(intA z11), (intA z12)])] fun v26 =>
exT2 v26 fun c27 c28 =>
ex_i64 c27 fun z29 =>
ex_i64 c28 fun z30 =>
opP (opA pg (.binOp .quo 3 (.tmp 0) (.tmp 1) 3) 3 [(intA z29), (intA (IntKind.wrap .i64 (z10 - b0_0)))] (mget ((100003, some ⟨[(intA z10), (intA z11), (intA z12), (intA z13), (intA z14), (intA z15)], 50⟩) :: (100003, some ⟨[(intA (0)), (intA (0)), (intA (0)), (intA (0)), (intA (0)), (intA (0))], 50⟩) :: (0, some ⟨[(intA b0_0), (intA b0_1), (intA b0_2), (intA b0_3), (intA b0_4), (intA b0_5)], 50⟩) :: m)) 100235) fun v31 =>
ex_i64 v31 fun z32 =>
retL R ((100003, some ⟨[(intA z10), (intA z11), (intA z12), (intA z13), (intA z14), (intA z15)], 50⟩) :: (100003, some ⟨[(intA (0)), (intA (0)), (intA (0)), (intA (0)), (intA (0)), (intA (0))], 50⟩) :: (0, some ⟨[(intA b0_0), (intA b0_1), (intA b0_2), (intA b0_3), (intA b0_4), (intA b0_5)], 50⟩) :: m) [some (intA z24), some (intA z32), some (boolA (z25 == (0)))]) else (
N0 ⟨[(3, (AV.ptr 0 0)), (4, (intA t4)), (5, (intA t5)), (6, (boolA t6)), (13, t13), (14, (intA t14)), (15, (intA (IntKind.wrap .i64 (t15 + (1))))), (16, (boolA (decide (t15 < t14)))), (17, v2), (18, (AV.agg [(intA z10), (intA z11), (intA z12), (intA z13), (intA z14), (intA z15)])), (8, (AV.ptr 100003 0)), (19, (AV.ptr 100003 0)), (20, (AV.ptr 100003 0)), (21, (intA z10)), (22, (AV.ptr 0 0)), (23, (AV.ptr 0 0)), (24, (intA b0_0)), (25, (boolA (decide (z10 > b0_0)))), (59, (intA (IntKind.wrap .i64 (t15 + (1)))))], ((100003, some ⟨[(intA z10), (intA z11), (intA z12), (intA z13), (intA z14), (intA z15)], 50⟩) :: (100003, some ⟨[(intA (0)), (intA (0)), (intA (0)), (intA (0)), (intA (0)), (intA (0))], 50⟩) :: (0, some ⟨[(intA b0_0), (intA b0_1), (intA b0_2), (intA b0_3), (intA b0_4), (intA b0_5)], 50⟩) :: m), 100014⟩)) else (
retL R ((0, some ⟨[(intA b0_0), (intA b0_1), (intA b0_2), (intA b0_3), (intA b0_4), (intA b0_5)], 50⟩) :: m) [some (intA (0)), some (intA (0)), some (boolA false)])
theorem B27_0_eq (t4 : Int) (t5 : Int) (t6 : Bool) (t13 : AV) (t14 : Int) (t15 : Int) (b0_0 : Int) (b0_1 : Int) (b0_2 : Int) (b0_3 : Int) (b0_4 : Int) (b0_5 : Int) (m : Mem) (R : AV → Mem → Prop) (N0 : St → Prop) : W pg KK 60 0 c27_0 (h27_0 t4 t5 t6 t13 t14 t15 b0_0 b0_1 b0_2 b0_3 b0_4 b0_5 m) (qq27_0 R N0) = B27_0 t4 t5 t6 t13 t14 t15 b0_0 b0_1 b0_2 b0_3 b0_4 b0_5 m R N0 := by kernel_rfl
theorem L27_0 (R : AV → Mem → Prop) {σ : Type} (I : σ → Prop) (t4 : σ → Int) (t5 : σ → Int) (t6 : σ → Bool) (t13 : σ → AV) (t14 : σ → Int) (t15 : σ → Int) (b0_0 : σ → Int) (b0_1 : σ → Int) (b0_2 : σ → Int) (b0_3 : σ → Int) (b0_4 : σ → Int) (b0_5 : σ → Int) (m : σ → Mem) (μ : σ → Nat) (step : ∀ x, I x → B27_0 (t4 x) (t5 x) (t6 x) (t13 x) (t14 x) (t15 x) (b0_0 x) (b0_1 x) (b0_2 x) (b0_3 x) (b0_4 x) (b0_5 x) (m x) R (fun s' => ∃ y, I y ∧ μ y < μ x ∧ Weak KK 60 0 s' (h27_0 (t4 y) (t5 y) (t6 y) (t13 y) (t14 y) (t15 y) (b0_0 y) (b0_1 y) (b0_2 y) (b0_3 y) (b0_4 y) (b0_5 y) (m y)))) (x : σ) (hx : I x) {s : St} (hw : Weak KK 60 0 s (h27_0 (t4 x) (t5 x) (t6 x) (t13 x) (t14 x) (t15 x) (b0_0 x) (b0_1 x) (b0_2 x) (b0_3 x) (b0_4 x) (b0_5 x) (m x))) : Tri pg KK 60 0 (.loop c27_0) s (q27_0 R) :=
  Tri.weak hw (Tri.loops fol I (fun x => h27_0 (t4 x) (t5 x) (t6 x) (t13 x) (t14 x) (t15 x) (b0_0 x) (b0_1 x) (b0_2 x) (b0_3 x) (b0_4 x) (b0_5 x) (m x)) μ (fun x hx => (B27_0_eq (t4 x) (t5 x) (t6 x) (t13 x) (t14 x) (t15 x) (b0_0 x) (b0_1 x) (b0_2 x) (b0_3 x) (b0_4 x) (b0_5 x) (m x) R _).mpr (step x hx)) x hx)
noncomputable def F27 (a0 : AV) (a1_0 : Int) (a1_1 : Int) (a1_2 : Int) (a1_3 : Int) (a1_4 : Int) (a1_5 : Int) (R : AV → Mem → Prop) : Prop :=
opP (lenS a0) fun v0 =>
ex_i64 v0 fun z1 =>
Tri pg KK 60 0 (.loop c27_0) ⟨[(0, a0), (1, (AV.agg [(intA a1_0), (intA a1_1), (intA a1_2), (intA a1_3), (intA a1_4), (intA a1_5)])), (3, (AV.ptr 0 0)), (4, (intA (0))), (5, (intA (0))), (6, (boolA false)), (13, a0), (14, (intA z1)), (15, (intA (0)))], ((0, some ⟨[(intA a1_0), (intA a1_1), (intA a1_2), (intA a1_3), (intA a1_4), (intA a1_5)], 50⟩) :: []), 7⟩ (q27_0 R)
theorem F27_own (a0 : AV) (a1_0 : Int) (a1_1 : Int) (a1_2 : Int) (a1_3 : Int) (a1_4 : Int) (a1_5 : Int) (R : AV → Mem → Prop) (h : F27 a0 a1_0 a1_1 a1_2 a1_3 a1_4 a1_5 R) : Own pg KK.gl 27 [a0, (AV.agg [(intA a1_0), (intA a1_1), (intA a1_2), (intA a1_3), (intA a1_4), (intA a1_5)])] R := own_of_F fol Tryz.func27 (code := c27) (by kernel_rfl) (by kernel_rfl) (by kernel_rfl) (X := F27 a0 a1_0 a1_1 a1_2 a1_3 a1_4 a1_5 R) (by kernel_rfl) h
/- skyway/resolve.Candidates -/
noncomputable def c7 : Code := ((Tryz.f7).body).getD .skip
noncomputable def q7 (R : AV → Mem → Prop) : AExit → St → Prop := retQ pg Tryz.f7 R
noncomputable def c7_0 : Code := loopB c7 0
noncomputable def q7_0 (R : AV → Mem → Prop) : AExit → St → Prop := contW pg KK 138 0 c7 0 (q7 R)
noncomputable def qq7_0 (R : AV → Mem → Prop) (N0 : St → Prop) : AExit → St → Prop := thenQ N0 (q7_0 R)
def h7_0 (t8 : AV) (t9 : Int) (t15 : Int) (t16 : Int) (t17 : Bool) (t20 : Int) (b1_0 : ByteArray) (b1_1 : Int) (b1_2 : Int) (b1_3 : Int) (b1_4 : Int) (b1_5 : Int) (b1_6 : Int) (b209_0 : Int) (b209_1 : Int) (b209_2 : Int) (b209_3 : Int) (b209_4 : Int) (b209_5 : Int) (b356_0 : AV) (b0_0 : ByteArray) (m : Mem) : St := ⟨[(7, (AV.ptr 1 0)), (8, t8), (9, (intA t9)), (12, (AV.ptr 209 0)), (15, (intA t15)), (16, (intA t16)), (17, (boolA t17)), (18, (AV.ptr 356 0)), (19, (AV.fn 28 [(AV.ptr 356 0), (AV.ptr 0 0)])), (20, (intA t20))], ((1, some ⟨[(AV.sc (.string b1_0)), (intA b1_1), (intA b1_2), (intA b1_3), (intA b1_4), (intA b1_5), (intA b1_6)], 25⟩) :: (209, some ⟨[(intA b209_0), (intA b209_1), (intA b209_2), (intA b209_3), (intA b209_4), (intA b209_5)], 50⟩) :: (356, some ⟨[b356_0], 27⟩) :: (0, some ⟨[(AV.sc (.string b0_0))], 9⟩) :: m), 100000⟩
noncomputable def c7_0_0 : Code := loopB c7_0 0
noncomputable def q7_0_0 (R : AV → Mem → Prop) (N0 : St → Prop) : AExit → St → Prop := contW pg KK 138 0 c7_0 0 (qq7_0 R N0)
noncomputable def qq7_0_0 (R : AV → Mem → Prop) (N0 : St → Prop) (N1 : St → Prop) : AExit → St → Prop := thenQ N1 (q7_0_0 R N0)
def h7_0_0 (t8 : AV) (t9 : Int) (t15 : Int) (t16 : Int) (t17 : Bool) (t20 : Int) (t76 : AV) (t77 : Int) (b1_0 : ByteArray) (b1_1 : Int) (b1_2 : Int) (b1_3 : Int) (b1_4 : Int) (b1_5 : Int) (b1_6 : Int) (b209_0 : Int) (b209_1 : Int) (b209_2 : Int) (b209_3 : Int) (b209_4 : Int) (b209_5 : Int) (b356_0 : AV) (b0_0 : ByteArray) (m : Mem) : St := ⟨[(7, (AV.ptr 1 0)), (8, t8), (9, (intA t9)), (12, (AV.ptr 209 0)), (15, (intA t15)), (16, (intA t16)), (17, (boolA t17)), (18, (AV.ptr 356 0)), (19, (AV.fn 28 [(AV.ptr 356 0), (AV.ptr 0 0)])), (20, (intA t20)), (76, t76), (77, (intA t77))], ((1, some ⟨[(AV.sc (.string b1_0)), (intA b1_1), (intA b1_2), (intA b1_3), (intA b1_4), (intA b1_5), (intA b1_6)], 25⟩) :: (209, some ⟨[(intA b209_0), (intA b209_1), (intA b209_2), (intA b209_3), (intA b209_4), (intA b209_5)], 50⟩) :: (356, some ⟨[b356_0], 27⟩) :: (0, some ⟨[(AV.sc (.string b0_0))], 9⟩) :: m), 200000⟩
noncomputable def c7_0_1 : Code := loopB c7_0 1
noncomputable def q7_0_1 (R : AV → Mem → Prop) (N0 : St → Prop) : AExit → St → Prop := contW pg KK 138 0 c7_0 1 (qq7_0 R N0)
noncomputable def qq7_0_1 (R : AV → Mem → Prop) (N0 : St → Prop) (N1 : St → Prop) : AExit → St → Prop := thenQ N1 (q7_0_1 R N0)
def h7_0_1 (t8 : AV) (t9 : Int) (t15 : Int) (t16 : Int) (t17 : Bool) (t20 : Int) (t102 : AV) (t103 : Int) (b1_0 : ByteArray) (b1_1 : Int) (b1_2 : Int) (b1_3 : Int) (b1_4 : Int) (b1_5 : Int) (b1_6 : Int) (b209_0 : Int) (b209_1 : Int) (b209_2 : Int) (b209_3 : Int) (b209_4 : Int) (b209_5 : Int) (b356_0 : AV) (b0_0 : ByteArray) (m : Mem) : St := ⟨[(7, (AV.ptr 1 0)), (8, t8), (9, (intA t9)), (12, (AV.ptr 209 0)), (15, (intA t15)), (16, (intA t16)), (17, (boolA t17)), (18, (AV.ptr 356 0)), (19, (AV.fn 28 [(AV.ptr 356 0), (AV.ptr 0 0)])), (20, (intA t20)), (102, t102), (103, (intA t103))], ((1, some ⟨[(AV.sc (.string b1_0)), (intA b1_1), (intA b1_2), (intA b1_3), (intA b1_4), (intA b1_5), (intA b1_6)], 25⟩) :: (209, some ⟨[(intA b209_0), (intA b209_1), (intA b209_2), (intA b209_3), (intA b209_4), (intA b209_5)], 50⟩) :: (356, some ⟨[b356_0], 27⟩) :: (0, some ⟨[(AV.sc (.string b0_0))], 9⟩) :: m), 300000⟩
noncomputable def c7_0_2 : Code := loopB c7_0 2
noncomputable def q7_0_2 (R : AV → Mem → Prop) (N0 : St → Prop) : AExit → St → Prop := contW pg KK 138 0 c7_0 2 (qq7_0 R N0)
noncomputable def qq7_0_2 (R : AV → Mem → Prop) (N0 : St → Prop) (N1 : St → Prop) : AExit → St → Prop := thenQ N1 (q7_0_2 R N0)
def h7_0_2 (t8 : AV) (t9 : Int) (t15 : Int) (t16 : Int) (t17 : Bool) (t20 : Int) (t128 : AV) (t129 : Int) (b1_0 : ByteArray) (b1_1 : Int) (b1_2 : Int) (b1_3 : Int) (b1_4 : Int) (b1_5 : Int) (b1_6 : Int) (b209_0 : Int) (b209_1 : Int) (b209_2 : Int) (b209_3 : Int) (b209_4 : Int) (b209_5 : Int) (b356_0 : AV) (b0_0 : ByteArray) (m : Mem) : St := ⟨[(7, (AV.ptr 1 0)), (8, t8), (9, (intA t9)), (12, (AV.ptr 209 0)), (15, (intA t15)), (16, (intA t16)), (17, (boolA t17)), (18, (AV.ptr 356 0)), (19, (AV.fn 28 [(AV.ptr 356 0), (AV.ptr 0 0)])), (20, (intA t20)), (128, t128), (129, (intA t129))], ((1, some ⟨[(AV.sc (.string b1_0)), (intA b1_1), (intA b1_2), (intA b1_3), (intA b1_4), (intA b1_5), (intA b1_6)], 25⟩) :: (209, some ⟨[(intA b209_0), (intA b209_1), (intA b209_2), (intA b209_3), (intA b209_4), (intA b209_5)], 50⟩) :: (356, some ⟨[b356_0], 27⟩) :: (0, some ⟨[(AV.sc (.string b0_0))], 9⟩) :: m), 400000⟩
noncomputable def B7_0 (t8 : AV) (t9 : Int) (t15 : Int) (t16 : Int) (t17 : Bool) (t20 : Int) (b1_0 : ByteArray) (b1_1 : Int) (b1_2 : Int) (b1_3 : Int) (b1_4 : Int) (b1_5 : Int) (b1_6 : Int) (b209_0 : Int) (b209_1 : Int) (b209_2 : Int) (b209_3 : Int) (b209_4 : Int) (b209_5 : Int) (b356_0 : AV) (b0_0 : ByteArray) (m : Mem) (R : AV → Mem → Prop) (N0 : St → Prop) : Prop :=
bif (decide (t20 ≤ (3))) then (
opP (opA pg (.build 75 #[(0, .tmp 0), (1, .tmp 1)]) 75 [(intA (IntKind.wrap .i64 (b209_3 + (IntKind.wrap .i64 ((1000) * t20))))), (intA (IntKind.wrap .i64 (b209_3 - (IntKind.wrap .i64 ((1000) * t20)))))] (mget ((1, some ⟨[(AV.sc (.string b1_0)), (intA b1_1), (intA b1_2), (intA b1_3), (intA b1_4), (intA b1_5), (intA b1_6)], 25⟩) :: (209, some ⟨[(intA b209_0), (intA b209_1), (intA b209_2), (intA b209_3), (intA b209_4), (intA b209_5)], 50⟩) :: (356, some ⟨[b356_0], 27⟩) :: (0, some ⟨[(AV.sc (.string b0_0))], 9⟩) :: m)) 100014) fun v30 =>
Tri pg KK 138 0 (.loop c7_0_0) ⟨[(7, (AV.ptr 1 0)), (8, t8), (9, (intA t9)), (12, (AV.ptr 209 0)), (15, (intA t15)), (16, (intA t16)), (17, (boolA t17)), (18, (AV.ptr 356 0)), (19, (AV.fn 28 [(AV.ptr 356 0), (AV.ptr 0 0)])), (20, (intA t20)), (60, (intA t20)), (61, (boolA (decide (t20 ≤ (3))))), (64, (AV.ptr 209 0)), (65, (AV.ptr 209 3)), (66, (intA b209_3)), (67, (intA t20)), (68, (intA (IntKind.wrap .i64 ((1000) * t20)))), (69, (intA (IntKind.wrap .i64 (b209_3 + (IntKind.wrap .i64 ((1000) * t20)))))), (70, (AV.ptr 209 0)), (71, (AV.ptr 209 3)), (72, (intA b209_3)), (73, (intA t20)), (74, (intA (IntKind.wrap .i64 ((1000) * t20)))), (75, (intA (IntKind.wrap .i64 (b209_3 - (IntKind.wrap .i64 ((1000) * t20)))))), (76, v30), (77, (intA (0)))], ((1, some ⟨[(AV.sc (.string b1_0)), (intA b1_1), (intA b1_2), (intA b1_3), (intA b1_4), (intA b1_5), (intA b1_6)], 25⟩) :: (209, some ⟨[(intA b209_0), (intA b209_1), (intA b209_2), (intA b209_3), (intA b209_4), (intA b209_5)], 50⟩) :: (356, some ⟨[b356_0], 27⟩) :: (0, some ⟨[(AV.sc (.string b0_0))], 9⟩) :: m), 100016⟩ (q7_0_0 R N0)) else (
retL R ((1, some ⟨[(AV.sc (.string b1_0)), (intA b1_1), (intA b1_2), (intA b1_3), (intA b1_4), (intA b1_5), (intA b1_6)], 25⟩) :: (209, some ⟨[(intA b209_0), (intA b209_1), (intA b209_2), (intA b209_3), (intA b209_4), (intA b209_5)], 50⟩) :: (356, some ⟨[b356_0], 27⟩) :: (0, some ⟨[(AV.sc (.string b0_0))], 9⟩) :: m) [some b356_0, some (intA (0))])
theorem B7_0_eq (t8 : AV) (t9 : Int) (t15 : Int) (t16 : Int) (t17 : Bool) (t20 : Int) (b1_0 : ByteArray) (b1_1 : Int) (b1_2 : Int) (b1_3 : Int) (b1_4 : Int) (b1_5 : Int) (b1_6 : Int) (b209_0 : Int) (b209_1 : Int) (b209_2 : Int) (b209_3 : Int) (b209_4 : Int) (b209_5 : Int) (b356_0 : AV) (b0_0 : ByteArray) (m : Mem) (R : AV → Mem → Prop) (N0 : St → Prop) : W pg KK 138 0 c7_0 (h7_0 t8 t9 t15 t16 t17 t20 b1_0 b1_1 b1_2 b1_3 b1_4 b1_5 b1_6 b209_0 b209_1 b209_2 b209_3 b209_4 b209_5 b356_0 b0_0 m) (qq7_0 R N0) = B7_0 t8 t9 t15 t16 t17 t20 b1_0 b1_1 b1_2 b1_3 b1_4 b1_5 b1_6 b209_0 b209_1 b209_2 b209_3 b209_4 b209_5 b356_0 b0_0 m R N0 := by kernel_rfl
theorem L7_0 (R : AV → Mem → Prop) {σ : Type} (I : σ → Prop) (t8 : σ → AV) (t9 : σ → Int) (t15 : σ → Int) (t16 : σ → Int) (t17 : σ → Bool) (t20 : σ → Int) (b1_0 : σ → ByteArray) (b1_1 : σ → Int) (b1_2 : σ → Int) (b1_3 : σ → Int) (b1_4 : σ → Int) (b1_5 : σ → Int) (b1_6 : σ → Int) (b209_0 : σ → Int) (b209_1 : σ → Int) (b209_2 : σ → Int) (b209_3 : σ → Int) (b209_4 : σ → Int) (b209_5 : σ → Int) (b356_0 : σ → AV) (b0_0 : σ → ByteArray) (m : σ → Mem) (μ : σ → Nat) (step : ∀ x, I x → B7_0 (t8 x) (t9 x) (t15 x) (t16 x) (t17 x) (t20 x) (b1_0 x) (b1_1 x) (b1_2 x) (b1_3 x) (b1_4 x) (b1_5 x) (b1_6 x) (b209_0 x) (b209_1 x) (b209_2 x) (b209_3 x) (b209_4 x) (b209_5 x) (b356_0 x) (b0_0 x) (m x) R (fun s' => ∃ y, I y ∧ μ y < μ x ∧ Weak KK 138 0 s' (h7_0 (t8 y) (t9 y) (t15 y) (t16 y) (t17 y) (t20 y) (b1_0 y) (b1_1 y) (b1_2 y) (b1_3 y) (b1_4 y) (b1_5 y) (b1_6 y) (b209_0 y) (b209_1 y) (b209_2 y) (b209_3 y) (b209_4 y) (b209_5 y) (b356_0 y) (b0_0 y) (m y)))) (x : σ) (hx : I x) {s : St} (hw : Weak KK 138 0 s (h7_0 (t8 x) (t9 x) (t15 x) (t16 x) (t17 x) (t20 x) (b1_0 x) (b1_1 x) (b1_2 x) (b1_3 x) (b1_4 x) (b1_5 x) (b1_6 x) (b209_0 x) (b209_1 x) (b209_2 x) (b209_3 x) (b209_4 x) (b209_5 x) (b356_0 x) (b0_0 x) (m x))) : Tri pg KK 138 0 (.loop c7_0) s (q7_0 R) :=
  Tri.weak hw (Tri.loops fol I (fun x => h7_0 (t8 x) (t9 x) (t15 x) (t16 x) (t17 x) (t20 x) (b1_0 x) (b1_1 x) (b1_2 x) (b1_3 x) (b1_4 x) (b1_5 x) (b1_6 x) (b209_0 x) (b209_1 x) (b209_2 x) (b209_3 x) (b209_4 x) (b209_5 x) (b356_0 x) (b0_0 x) (m x)) μ (fun x hx => (B7_0_eq (t8 x) (t9 x) (t15 x) (t16 x) (t17 x) (t20 x) (b1_0 x) (b1_1 x) (b1_2 x) (b1_3 x) (b1_4 x) (b1_5 x) (b1_6 x) (b209_0 x) (b209_1 x) (b209_2 x) (b209_3 x) (b209_4 x) (b209_5 x) (b356_0 x) (b0_0 x) (m x) R _).mpr (step x hx)) x hx)
noncomputable def B7_0_0 (t8 : AV) (t9 : Int) (t15 : Int) (t16 : Int) (t17 : Bool) (t20 : Int) (t76 : AV) (t77 : Int) (b1_0 : ByteArray) (b1_1 : Int) (b1_2 : Int) (b1_3 : Int) (b1_4 : Int) (b1_5 : Int) (b1_6 : Int) (b209_0 : Int) (b209_1 : Int) (b209_2 : Int) (b209_3 : Int) (b209_4 : Int) (b209_5 : Int) (b356_0 : AV) (b0_0 : ByteArray) (m : Mem) (R : AV → Mem → Prop) (N0 : St → Prop) (N1 : St → Prop) : Prop :=
bif (decide (t77 < (2))) then (
opP (opA pg (.index 75 (.tmp 0) (.tmp 1)) 3 [t76, (intA t77)] (mget ((1, some ⟨[(AV.sc (.string b1_0)), (intA b1_1), (intA b1_2), (intA b1_3), (intA b1_4), (intA b1_5), (intA b1_6)], 25⟩) :: (209, some ⟨[(intA b209_0), (intA b209_1), (intA b209_2), (intA b209_3), (intA b209_4), (intA b209_5)], 50⟩) :: (356, some ⟨[b356_0], 27⟩) :: (0, some ⟨[(AV.sc (.string b0_0))], 9⟩) :: m)) 200001) fun v31 =>
ex_i64 v31 fun z32 =>
bif (decide (z32 ≥ (0))) then (
bif (decide (z32 ≤ b1_2)) then (
callW pg KK.gl ((1, some ⟨[(AV.sc (.string b1_0)), (intA b1_1), (intA b1_2), (intA b1_3), (intA b1_4), (intA b1_5), (intA b1_6)], 25⟩) :: (209, some ⟨[(intA b209_0), (intA b209_1), (intA b209_2), (intA b209_3), (intA b209_4), (intA b209_5)], 50⟩) :: (356, some ⟨[b356_0], 27⟩) :: (0, some ⟨[(AV.sc (.string b0_0))], 9⟩) :: m) 200013 28 [(intA (0)), (intA z32), (AV.ptr 356 0), (AV.ptr 0 0)] fun v33 m33 =>
exT0 v33 <|
N1 ⟨[(7, (AV.ptr 1 0)), (8, t8), (9, (intA t9)), (12, (AV.ptr 209 0)), (15, (intA t15)), (16, (intA t16)), (17, (boolA t17)), (18, (AV.ptr 356 0)), (19, (AV.fn 28 [(AV.ptr 356 0), (AV.ptr 0 0)])), (20, (intA t20)), (76, t76), (77, (intA (IntKind.wrap .i64 (t77 + (1))))), (78, (boolA (decide (t77 < (2))))), (79, (intA z32)), (22, (intA z32)), (80, (intA z32)), (81, (boolA (decide (z32 ≥ (0))))), (82, (boolA true)), (83, (intA z32)), (84, (AV.ptr 1 2)), (85, (intA b1_2)), (86, (boolA (decide (z32 ≤ b1_2)))), (87, (boolA (decide (z32 ≤ b1_2)))), (88, (AV.fn 28 [(AV.ptr 356 0), (AV.ptr 0 0)])), (89, (intA z32)), (90, (AV.tup [])), (91, (intA (IntKind.wrap .i64 (t77 + (1)))))], m33, 200079⟩) else (
N1 ⟨[(7, (AV.ptr 1 0)), (8, t8), (9, (intA t9)), (12, (AV.ptr 209 0)), (15, (intA t15)), (16, (intA t16)), (17, (boolA t17)), (18, (AV.ptr 356 0)), (19, (AV.fn 28 [(AV.ptr 356 0), (AV.ptr 0 0)])), (20, (intA t20)), (76, t76), (77, (intA (IntKind.wrap .i64 (t77 + (1))))), (78, (boolA (decide (t77 < (2))))), (79, (intA z32)), (22, (intA z32)), (80, (intA z32)), (81, (boolA (decide (z32 ≥ (0))))), (82, (boolA true)), (83, (intA z32)), (84, (AV.ptr 1 2)), (85, (intA b1_2)), (86, (boolA (decide (z32 ≤ b1_2)))), (87, (boolA (decide (z32 ≤ b1_2)))), (91, (intA (IntKind.wrap .i64 (t77 + (1)))))], ((1, some ⟨[(AV.sc (.string b1_0)), (intA b1_1), (intA b1_2), (intA b1_3), (intA b1_4), (intA b1_5), (intA b1_6)], 25⟩) :: (209, some ⟨[(intA b209_0), (intA b209_1), (intA b209_2), (intA b209_3), (intA b209_4), (intA b209_5)], 50⟩) :: (356, some ⟨[b356_0], 27⟩) :: (0, some ⟨[(AV.sc (.string b0_0))], 9⟩) :: m), 200013⟩)) else (
N1 ⟨[(7, (AV.ptr 1 0)), (8, t8), (9, (intA t9)), (12, (AV.ptr 209 0)), (15, (intA t15)), (16, (intA t16)), (17, (boolA t17)), (18, (AV.ptr 356 0)), (19, (AV.fn 28 [(AV.ptr 356 0), (AV.ptr 0 0)])), (20, (intA t20)), (76, t76), (77, (intA (IntKind.wrap .i64 (t77 + (1))))), (78, (boolA (decide (t77 < (2))))), (79, (intA z32)), (22, (intA z32)), (80, (intA z32)), (81, (boolA (decide (z32 ≥ (0))))), (82, (boolA false)), (83, (AV.tup [])), (84, (AV.tup [])), (85, (AV.tup [])), (86, (AV.tup [])), (87, (boolA false)), (91, (intA (IntKind.wrap .i64 (t77 + (1)))))], ((1, some ⟨[(AV.sc (.string b1_0)), (intA b1_1), (intA b1_2), (intA b1_3), (intA b1_4), (intA b1_5), (intA b1_6)], 25⟩) :: (209, some ⟨[(intA b209_0), (intA b209_1), (intA b209_2), (intA b209_3), (intA b209_4), (intA b209_5)], 50⟩) :: (356, some ⟨[b356_0], 27⟩) :: (0, some ⟨[(AV.sc (.string b0_0))], 9⟩) :: m), 200009⟩)) else (
bif (!t17) then (
N0 ⟨[(7, (AV.ptr 1 0)), (8, t8), (9, (intA t9)), (12, (AV.ptr 209 0)), (15, (intA t15)), (16, (intA t16)), (17, (boolA t17)), (18, (AV.ptr 356 0)), (19, (AV.fn 28 [(AV.ptr 356 0), (AV.ptr 0 0)])), (20, (intA (IntKind.wrap .i64 (t20 + (1))))), (76, t76), (77, (intA t77)), (78, (boolA (decide (t77 < (2))))), (92, (boolA t17)), (93, (boolA (!t17))), (62, (intA t20)), (63, (intA (IntKind.wrap .i64 (t20 + (1)))))], ((1, some ⟨[(AV.sc (.string b1_0)), (intA b1_1), (intA b1_2), (intA b1_3), (intA b1_4), (intA b1_5), (intA b1_6)], 25⟩) :: (209, some ⟨[(intA b209_0), (intA b209_1), (intA b209_2), (intA b209_3), (intA b209_4), (intA b209_5)], 50⟩) :: (356, some ⟨[b356_0], 27⟩) :: (0, some ⟨[(AV.sc (.string b0_0))], 9⟩) :: m), 200006⟩) else (
opP (opA pg (.build 75 #[(0, .tmp 0), (1, .tmp 1)]) 75 [(intA (IntKind.wrap .i64 (t16 + (IntKind.wrap .i64 ((15) * t20))))), (intA (IntKind.wrap .i64 (t16 - (IntKind.wrap .i64 ((15) * t20)))))] (mget ((1, some ⟨[(AV.sc (.string b1_0)), (intA b1_1), (intA b1_2), (intA b1_3), (intA b1_4), (intA b1_5), (intA b1_6)], 25⟩) :: (209, some ⟨[(intA b209_0), (intA b209_1), (intA b209_2), (intA b209_3), (intA b209_4), (intA b209_5)], 50⟩) :: (356, some ⟨[b356_0], 27⟩) :: (0, some ⟨[(AV.sc (.string b0_0))], 9⟩) :: m)) 200011) fun v34 =>
Tri pg KK 138 0 (.loop c7_0_1) ⟨[(7, (AV.ptr 1 0)), (8, t8), (9, (intA t9)), (12, (AV.ptr 209 0)), (15, (intA t15)), (16, (intA t16)), (17, (boolA t17)), (18, (AV.ptr 356 0)), (19, (AV.fn 28 [(AV.ptr 356 0), (AV.ptr 0 0)])), (20, (intA t20)), (76, t76), (77, (intA t77)), (78, (boolA (decide (t77 < (2))))), (92, (boolA t17)), (93, (boolA (!t17))), (94, (intA t16)), (95, (intA t20)), (96, (intA (IntKind.wrap .i64 ((15) * t20)))), (97, (intA (IntKind.wrap .i64 (t16 + (IntKind.wrap .i64 ((15) * t20)))))), (98, (intA t16)), (99, (intA t20)), (100, (intA (IntKind.wrap .i64 ((15) * t20)))), (101, (intA (IntKind.wrap .i64 (t16 - (IntKind.wrap .i64 ((15) * t20)))))), (102, v34), (103, (intA (0)))], ((1, some ⟨[(AV.sc (.string b1_0)), (intA b1_1), (intA b1_2), (intA b1_3), (intA b1_4), (intA b1_5), (intA b1_6)], 25⟩) :: (209, some ⟨[(intA b209_0), (intA b209_1), (intA b209_2), (intA b209_3), (intA b209_4), (intA b209_5)], 50⟩) :: (356, some ⟨[b356_0], 27⟩) :: (0, some ⟨[(AV.sc (.string b0_0))], 9⟩) :: m), 200013⟩ (q7_0_1 R N0)))
theorem B7_0_0_eq (t8 : AV) (t9 : Int) (t15 : Int) (t16 : Int) (t17 : Bool) (t20 : Int) (t76 : AV) (t77 : Int) (b1_0 : ByteArray) (b1_1 : Int) (b1_2 : Int) (b1_3 : Int) (b1_4 : Int) (b1_5 : Int) (b1_6 : Int) (b209_0 : Int) (b209_1 : Int) (b209_2 : Int) (b209_3 : Int) (b209_4 : Int) (b209_5 : Int) (b356_0 : AV) (b0_0 : ByteArray) (m : Mem) (R : AV → Mem → Prop) (N0 : St → Prop) (N1 : St → Prop) : W pg KK 138 0 c7_0_0 (h7_0_0 t8 t9 t15 t16 t17 t20 t76 t77 b1_0 b1_1 b1_2 b1_3 b1_4 b1_5 b1_6 b209_0 b209_1 b209_2 b209_3 b209_4 b209_5 b356_0 b0_0 m) (qq7_0_0 R N0 N1) = B7_0_0 t8 t9 t15 t16 t17 t20 t76 t77 b1_0 b1_1 b1_2 b1_3 b1_4 b1_5 b1_6 b209_0 b209_1 b209_2 b209_3 b209_4 b209_5 b356_0 b0_0 m R N0 N1 := by kernel_rfl
theorem L7_0_0 (R : AV → Mem → Prop) (N0 : St → Prop) {σ : Type} (I : σ → Prop) (t8 : σ → AV) (t9 : σ → Int) (t15 : σ → Int) (t16 : σ → Int) (t17 : σ → Bool) (t20 : σ → Int) (t76 : σ → AV) (t77 : σ → Int) (b1_0 : σ → ByteArray) (b1_1 : σ → Int) (b1_2 : σ → Int) (b1_3 : σ → Int) (b1_4 : σ → Int) (b1_5 : σ → Int) (b1_6 : σ → Int) (b209_0 : σ → Int) (b209_1 : σ → Int) (b209_2 : σ → Int) (b209_3 : σ → Int) (b209_4 : σ → Int) (b209_5 : σ → Int) (b356_0 : σ → AV) (b0_0 : σ → ByteArray) (m : σ → Mem) (μ : σ → Nat) (step : ∀ x, I x → B7_0_0 (t8 x) (t9 x) (t15 x) (t16 x) (t17 x) (t20 x) (t76 x) (t77 x) (b1_0 x) (b1_1 x) (b1_2 x) (b1_3 x) (b1_4 x) (b1_5 x) (b1_6 x) (b209_0 x) (b209_1 x) (b209_2 x) (b209_3 x) (b209_4 x) (b209_5 x) (b356_0 x) (b0_0 x) (m x) R N0 (fun s' => ∃ y, I y ∧ μ y < μ x ∧ Weak KK 138 0 s' (h7_0_0 (t8 y) (t9 y) (t15 y) (t16 y) (t17 y) (t20 y) (t76 y) (t77 y) (b1_0 y) (b1_1 y) (b1_2 y) (b1_3 y) (b1_4 y) (b1_5 y) (b1_6 y) (b209_0 y) (b209_1 y) (b209_2 y) (b209_3 y) (b209_4 y) (b209_5 y) (b356_0 y) (b0_0 y) (m y)))) (x : σ) (hx : I x) {s : St} (hw : Weak KK 138 0 s (h7_0_0 (t8 x) (t9 x) (t15 x) (t16 x) (t17 x) (t20 x) (t76 x) (t77 x) (b1_0 x) (b1_1 x) (b1_2 x) (b1_3 x) (b1_4 x) (b1_5 x) (b1_6 x) (b209_0 x) (b209_1 x) (b209_2 x) (b209_3 x) (b209_4 x) (b209_5 x) (b356_0 x) (b0_0 x) (m x))) : Tri pg KK 138 0 (.loop c7_0_0) s (q7_0_0 R N0) :=
  Tri.weak hw (Tri.loops fol I (fun x => h7_0_0 (t8 x) (t9 x) (t15 x) (t16 x) (t17 x) (t20 x) (t76 x) (t77 x) (b1_0 x) (b1_1 x) (b1_2 x) (b1_3 x) (b1_4 x) (b1_5 x) (b1_6 x) (b209_0 x) (b209_1 x) (b209_2 x) (b209_3 x) (b209_4 x) (b209_5 x) (b356_0 x) (b0_0 x) (m x)) μ (fun x hx => (B7_0_0_eq (t8 x) (t9 x) (t15 x) (t16 x) (t17 x) (t20 x) (t76 x) (t77 x) (b1_0 x) (b1_1 x) (b1_2 x) (b1_3 x) (b1_4 x) (b1_5 x) (b1_6 x) (b209_0 x) (b209_1 x) (b209_2 x) (b209_3 x) (b209_4 x) (b209_5 x) (b356_0 x) (b0_0 x) (m x) R N0 _).mpr (step x hx)) x hx)
noncomputable def B7_0_1 (t8 : AV) (t9 : Int) (t15 : Int) (t16 : Int) (t17 : Bool) (t20 : Int) (t102 : AV) (t103 : Int) (b1_0 : ByteArray) (b1_1 : Int) (b1_2 : Int) (b1_3 : Int) (b1_4 : Int) (b1_5 : Int) (b1_6 : Int) (b209_0 : Int) (b209_1 : Int) (b209_2 : Int) (b209_3 : Int) (b209_4 : Int) (b209_5 : Int) (b356_0 : AV) (b0_0 : ByteArray) (m : Mem) (R : AV → Mem → Prop) (N0 : St → Prop) (N1 : St → Prop) : Prop :=
bif (decide (t103 < (2))) then (
opP (opA pg (.index 75 (.tmp 0) (.tmp 1)) 3 [t102, (intA t103)] (mget ((1, some ⟨[(AV.sc (.string b1_0)), (intA b1_1), (intA b1_2), (intA b1_3), (intA b1_4), (intA b1_5), (intA b1_6)], 25⟩) :: (209, some ⟨[(intA b209_0), (intA b209_1), (intA b209_2), (intA b209_3), (intA b209_4), (intA b209_5)], 50⟩) :: (356, some ⟨[b356_0], 27⟩) :: (0, some ⟨[(AV.sc (.string b0_0))], 9⟩) :: m)) 300001) fun v35 =>
ex_i64 v35 fun z36 =>
bif (decide (z36 ≥ b1_5)) then (
bif (decide (z36 ≤ b1_6)) then (
callW pg KK.gl ((1, some ⟨[(AV.sc (.string b1_0)), (intA b1_1), (intA b1_2), (intA b1_3), (intA b1_4), (intA b1_5), (intA b1_6)], 25⟩) :: (209, some ⟨[(intA b209_0), (intA b209_1), (intA b209_2), (intA b209_3), (intA b209_4), (intA b209_5)], 50⟩) :: (356, some ⟨[b356_0], 27⟩) :: (0, some ⟨[(AV.sc (.string b0_0))], 9⟩) :: m) 300015 28 [(intA (2)), (intA z36), (AV.ptr 356 0), (AV.ptr 0 0)] fun v37 m37 =>
exT0 v37 <|
N1 ⟨[(7, (AV.ptr 1 0)), (8, t8), (9, (intA t9)), (12, (AV.ptr 209 0)), (15, (intA t15)), (16, (intA t16)), (17, (boolA t17)), (18, (AV.ptr 356 0)), (19, (AV.fn 28 [(AV.ptr 356 0), (AV.ptr 0 0)])), (20, (intA t20)), (102, t102), (103, (intA (IntKind.wrap .i64 (t103 + (1))))), (104, (boolA (decide (t103 < (2))))), (105, (intA z36)), (24, (intA z36)), (106, (intA z36)), (107, (AV.ptr 1 5)), (108, (intA b1_5)), (109, (boolA (decide (z36 ≥ b1_5)))), (110, (boolA true)), (111, (intA z36)), (112, (AV.ptr 1 6)), (113, (intA b1_6)), (114, (boolA (decide (z36 ≤ b1_6)))), (115, (boolA (decide (z36 ≤ b1_6)))), (116, (AV.fn 28 [(AV.ptr 356 0), (AV.ptr 0 0)])), (117, (intA z36)), (118, (AV.tup [])), (119, (intA (IntKind.wrap .i64 (t103 + (1)))))], m37, 300081⟩) else (
N1 ⟨[(7, (AV.ptr 1 0)), (8, t8), (9, (intA t9)), (12, (AV.ptr 209 0)), (15, (intA t15)), (16, (intA t16)), (17, (boolA t17)), (18, (AV.ptr 356 0)), (19, (AV.fn 28 [(AV.ptr 356 0), (AV.ptr 0 0)])), (20, (intA t20)), (102, t102), (103, (intA (IntKind.wrap .i64 (t103 + (1))))), (104, (boolA (decide (t103 < (2))))), (105, (intA z36)), (24, (intA z36)), (106, (intA z36)), (107, (AV.ptr 1 5)), (108, (intA b1_5)), (109, (boolA (decide (z36 ≥ b1_5)))), (110, (boolA true)), (111, (intA z36)), (112, (AV.ptr 1 6)), (113, (intA b1_6)), (114, (boolA (decide (z36 ≤ b1_6)))), (115, (boolA (decide (z36 ≤ b1_6)))), (119, (intA (IntKind.wrap .i64 (t103 + (1)))))], ((1, some ⟨[(AV.sc (.string b1_0)), (intA b1_1), (intA b1_2), (intA b1_3), (intA b1_4), (intA b1_5), (intA b1_6)], 25⟩) :: (209, some ⟨[(intA b209_0), (intA b209_1), (intA b209_2), (intA b209_3), (intA b209_4), (intA b209_5)], 50⟩) :: (356, some ⟨[b356_0], 27⟩) :: (0, some ⟨[(AV.sc (.string b0_0))], 9⟩) :: m), 300015⟩)) else (
N1 ⟨[(7, (AV.ptr 1 0)), (8, t8), (9, (intA t9)), (12, (AV.ptr 209 0)), (15, (intA t15)), (16, (intA t16)), (17, (boolA t17)), (18, (AV.ptr 356 0)), (19, (AV.fn 28 [(AV.ptr 356 0), (AV.ptr 0 0)])), (20, (intA t20)), (102, t102), (103, (intA (IntKind.wrap .i64 (t103 + (1))))), (104, (boolA (decide (t103 < (2))))), (105, (intA z36)), (24, (intA z36)), (106, (intA z36)), (107, (AV.ptr 1 5)), (108, (intA b1_5)), (109, (boolA (decide (z36 ≥ b1_5)))), (110, (boolA false)), (111, (AV.tup [])), (112, (AV.tup [])), (113, (AV.tup [])), (114, (AV.tup [])), (115, (boolA false)), (119, (intA (IntKind.wrap .i64 (t103 + (1)))))], ((1, some ⟨[(AV.sc (.string b1_0)), (intA b1_1), (intA b1_2), (intA b1_3), (intA b1_4), (intA b1_5), (intA b1_6)], 25⟩) :: (209, some ⟨[(intA b209_0), (intA b209_1), (intA b209_2), (intA b209_3), (intA b209_4), (intA b209_5)], 50⟩) :: (356, some ⟨[b356_0], 27⟩) :: (0, some ⟨[(AV.sc (.string b0_0))], 9⟩) :: m), 300011⟩)) else (
opP (opA pg (.build 75 #[(0, .tmp 0), (1, .tmp 1)]) 75 [(intA (IntKind.wrap .i64 (t15 + (IntKind.wrap .i64 ((171) * t20))))), (intA (IntKind.wrap .i64 (t15 - (IntKind.wrap .i64 ((171) * t20)))))] (mget ((1, some ⟨[(AV.sc (.string b1_0)), (intA b1_1), (intA b1_2), (intA b1_3), (intA b1_4), (intA b1_5), (intA b1_6)], 25⟩) :: (209, some ⟨[(intA b209_0), (intA b209_1), (intA b209_2), (intA b209_3), (intA b209_4), (intA b209_5)], 50⟩) :: (356, some ⟨[b356_0], 27⟩) :: (0, some ⟨[(AV.sc (.string b0_0))], 9⟩) :: m)) 300009) fun v38 =>
Tri pg KK 138 0 (.loop c7_0_2) ⟨[(7, (AV.ptr 1 0)), (8, t8), (9, (intA t9)), (12, (AV.ptr 209 0)), (15, (intA t15)), (16, (intA t16)), (17, (boolA t17)), (18, (AV.ptr 356 0)), (19, (AV.fn 28 [(AV.ptr 356 0), (AV.ptr 0 0)])), (20, (intA t20)), (102, t102), (103, (intA t103)), (104, (boolA (decide (t103 < (2))))), (120, (intA t15)), (121, (intA t20)), (122, (intA (IntKind.wrap .i64 ((171) * t20)))), (123, (intA (IntKind.wrap .i64 (t15 + (IntKind.wrap .i64 ((171) * t20)))))), (124, (intA t15)), (125, (intA t20)), (126, (intA (IntKind.wrap .i64 ((171) * t20)))), (127, (intA (IntKind.wrap .i64 (t15 - (IntKind.wrap .i64 ((171) * t20)))))), (128, v38), (129, (intA (0)))], ((1, some ⟨[(AV.sc (.string b1_0)), (intA b1_1), (intA b1_2), (intA b1_3), (intA b1_4), (intA b1_5), (intA b1_6)], 25⟩) :: (209, some ⟨[(intA b209_0), (intA b209_1), (intA b209_2), (intA b209_3), (intA b209_4), (intA b209_5)], 50⟩) :: (356, some ⟨[b356_0], 27⟩) :: (0, some ⟨[(AV.sc (.string b0_0))], 9⟩) :: m), 300011⟩ (q7_0_2 R N0))
theorem B7_0_1_eq (t8 : AV) (t9 : Int) (t15 : Int) (t16 : Int) (t17 : Bool) (t20 : Int) (t102 : AV) (t103 : Int) (b1_0 : ByteArray) (b1_1 : Int) (b1_2 : Int) (b1_3 : Int) (b1_4 : Int) (b1_5 : Int) (b1_6 : Int) (b209_0 : Int) (b209_1 : Int) (b209_2 : Int) (b209_3 : Int) (b209_4 : Int) (b209_5 : Int) (b356_0 : AV) (b0_0 : ByteArray) (m : Mem) (R : AV → Mem → Prop) (N0 : St → Prop) (N1 : St → Prop) : W pg KK 138 0 c7_0_1 (h7_0_1 t8 t9 t15 t16 t17 t20 t102 t103 b1_0 b1_1 b1_2 b1_3 b1_4 b1_5 b1_6 b209_0 b209_1 b209_2 b209_3 b209_4 b209_5 b356_0 b0_0 m) (qq7_0_1 R N0 N1) = B7_0_1 t8 t9 t15 t16 t17 t20 t102 t103 b1_0 b1_1 b1_2 b1_3 b1_4 b1_5 b1_6 b209_0 b209_1 b209_2 b209_3 b209_4 b209_5 b356_0 b0_0 m R N0 N1 := by kernel_rfl
theorem L7_0_1 (R : AV → Mem → Prop) (N0 : St → Prop) {σ : Type} (I : σ → Prop) (t8 : σ → AV) (t9 : σ → Int) (t15 : σ → Int) (t16 : σ → Int) (t17 : σ → Bool) (t20 : σ → Int) (t102 : σ → AV) (t103 : σ → Int) (b1_0 : σ → ByteArray) (b1_1 : σ → Int) (b1_2 : σ → Int) (b1_3 : σ → Int) (b1_4 : σ → Int) (b1_5 : σ → Int) (b1_6 : σ → Int) (b209_0 : σ → Int) (b209_1 : σ → Int) (b209_2 : σ → Int) (b209_3 : σ → Int) (b209_4 : σ → Int) (b209_5 : σ → Int) (b356_0 : σ → AV) (b0_0 : σ → ByteArray) (m : σ → Mem) (μ : σ → Nat) (step : ∀ x, I x → B7_0_1 (t8 x) (t9 x) (t15 x) (t16 x) (t17 x) (t20 x) (t102 x) (t103 x) (b1_0 x) (b1_1 x) (b1_2 x) (b1_3 x) (b1_4 x) (b1_5 x) (b1_6 x) (b209_0 x) (b209_1 x) (b209_2 x) (b209_3 x) (b209_4 x) (b209_5 x) (b356_0 x) (b0_0 x) (m x) R N0 (fun s' => ∃ y, I y ∧ μ y < μ x ∧ Weak KK 138 0 s' (h7_0_1 (t8 y) (t9 y) (t15 y) (t16 y) (t17 y) (t20 y) (t102 y) (t103 y) (b1_0 y) (b1_1 y) (b1_2 y) (b1_3 y) (b1_4 y) (b1_5 y) (b1_6 y) (b209_0 y) (b209_1 y) (b209_2 y) (b209_3 y) (b209_4 y) (b209_5 y) (b356_0 y) (b0_0 y) (m y)))) (x : σ) (hx : I x) {s : St} (hw : Weak KK 138 0 s (h7_0_1 (t8 x) (t9 x) (t15 x) (t16 x) (t17 x) (t20 x) (t102 x) (t103 x) (b1_0 x) (b1_1 x) (b1_2 x) (b1_3 x) (b1_4 x) (b1_5 x) (b1_6 x) (b209_0 x) (b209_1 x) (b209_2 x) (b209_3 x) (b209_4 x) (b209_5 x) (b356_0 x) (b0_0 x) (m x))) : Tri pg KK 138 0 (.loop c7_0_1) s (q7_0_1 R N0) :=
  Tri.weak hw (Tri.loops fol I (fun x => h7_0_1 (t8 x) (t9 x) (t15 x) (t16 x) (t17 x) (t20 x) (t102 x) (t103 x) (b1_0 x) (b1_1 x) (b1_2 x) (b1_3 x) (b1_4 x) (b1_5 x) (b1_6 x) (b209_0 x) (b209_1 x) (b209_2 x) (b209_3 x) (b209_4 x) (b209_5 x) (b356_0 x) (b0_0 x) (m x)) μ (fun x hx => (B7_0_1_eq (t8 x) (t9 x) (t15 x) (t16 x) (t17 x) (t20 x) (t102 x) (t103 x) (b1_0 x) (b1_1 x) (b1_2 x) (b1_3 x) (b1_4 x) (b1_5 x) (b1_6 x) (b209_0 x) (b209_1 x) (b209_2 x) (b209_3 x) (b209_4 x) (b209_5 x) (b356_0 x) (b0_0 x) (m x) R N0 _).mpr (step x hx)) x hx)
noncomputable def B7_0_2 (t8 : AV) (t9 : Int) (t15 : Int) (t16 : Int) (t17 : Bool) (t20 : Int) (t128 : AV) (t129 : Int) (b1_0 : ByteArray) (b1_1 : Int) (b1_2 : Int) (b1_3 : Int) (b1_4 : Int) (b1_5 : Int) (b1_6 : Int) (b209_0 : Int) (b209_1 : Int) (b209_2 : Int) (b209_3 : Int) (b209_4 : Int) (b209_5 : Int) (b356_0 : AV) (b0_0 : ByteArray) (m : Mem) (R : AV → Mem → Prop) (N0 : St → Prop) (N1 : St → Prop) : Prop :=
bif (decide (t129 < (2))) then (
opP (opA pg (.index 75 (.tmp 0) (.tmp 1)) 3 [t128, (intA t129)] (mget ((1, some ⟨[(AV.sc (.string b1_0)), (intA b1_1), (intA b1_2), (intA b1_3), (intA b1_4), (intA b1_5), (intA b1_6)], 25⟩) :: (209, some ⟨[(intA b209_0), (intA b209_1), (intA b209_2), (intA b209_3), (intA b209_4), (intA b209_5)], 50⟩) :: (356, some ⟨[b356_0], 27⟩) :: (0, some ⟨[(AV.sc (.string b0_0))], 9⟩) :: m)) 400001) fun v39 =>
ex_i64 v39 fun z40 =>
callQ pg KK.gl ((1, some ⟨[(AV.sc (.string b1_0)), (intA b1_1), (intA b1_2), (intA b1_3), (intA b1_4), (intA b1_5), (intA b1_6)], 25⟩) :: (209, some ⟨[(intA b209_0), (intA b209_1), (intA b209_2), (intA b209_3), (intA b209_4), (intA b209_5)], 50⟩) :: (356, some ⟨[b356_0], 27⟩) :: (0, some ⟨[(AV.sc (.string b0_0))], 9⟩) :: m) 29 [(intA z40)] fun v41 =>
ex_i64 v41 fun z42 =>
callW pg KK.gl ((1, some ⟨[(AV.sc (.string b1_0)), (intA b1_1), (intA b1_2), (intA b1_3), (intA b1_4), (intA b1_5), (intA b1_6)], 25⟩) :: (209, some ⟨[(intA b209_0), (intA b209_1), (intA b209_2), (intA b209_3), (intA b209_4), (intA b209_5)], 50⟩) :: (356, some ⟨[b356_0], 27⟩) :: (0, some ⟨[(AV.sc (.string b0_0))], 9⟩) :: m) 400069 28 [(intA (1)), (intA z42), (AV.ptr 356 0), (AV.ptr 0 0)] fun v43 m43 =>
exT0 v43 <|
N1 ⟨[(7, (AV.ptr 1 0)), (8, t8), (9, (intA t9)), (12, (AV.ptr 209 0)), (15, (intA t15)), (16, (intA t16)), (17, (boolA t17)), (18, (AV.ptr 356 0)), (19, (AV.fn 28 [(AV.ptr 356 0), (AV.ptr 0 0)])), (20, (intA t20)), (128, t128), (129, (intA (IntKind.wrap .i64 (t129 + (1))))), (130, (boolA (decide (t129 < (2))))), (131, (intA z40)), (26, (intA z40)), (132, (AV.fn 28 [(AV.ptr 356 0), (AV.ptr 0 0)])), (133, (intA z40)), (134, (intA z42)), (135, (AV.tup [])), (136, (intA (IntKind.wrap .i64 (t129 + (1)))))], m43, 400135⟩) else (
N0 ⟨[(7, (AV.ptr 1 0)), (8, t8), (9, (intA t9)), (12, (AV.ptr 209 0)), (15, (intA t15)), (16, (intA t16)), (17, (boolA t17)), (18, (AV.ptr 356 0)), (19, (AV.fn 28 [(AV.ptr 356 0), (AV.ptr 0 0)])), (20, (intA (IntKind.wrap .i64 (t20 + (1))))), (128, t128), (129, (intA t129)), (130, (boolA (decide (t129 < (2))))), (62, (intA t20)), (63, (intA (IntKind.wrap .i64 (t20 + (1)))))], ((1, some ⟨[(AV.sc (.string b1_0)), (intA b1_1), (intA b1_2), (intA b1_3), (intA b1_4), (intA b1_5), (intA b1_6)], 25⟩) :: (209, some ⟨[(intA b209_0), (intA b209_1), (intA b209_2), (intA b209_3), (intA b209_4), (intA b209_5)], 50⟩) :: (356, some ⟨[b356_0], 27⟩) :: (0, some ⟨[(AV.sc (.string b0_0))], 9⟩) :: m), 400004⟩)
theorem B7_0_2_eq (t8 : AV) (t9 : Int) (t15 : Int) (t16 : Int) (t17 : Bool) (t20 : Int) (t128 : AV) (t129 : Int) (b1_0 : ByteArray) (b1_1 : Int) (b1_2 : Int) (b1_3 : Int) (b1_4 : Int) (b1_5 : Int) (b1_6 : Int) (b209_0 : Int) (b209_1 : Int) (b209_2 : Int) (b209_3 : Int) (b209_4 : Int) (b209_5 : Int) (b356_0 : AV) (b0_0 : ByteArray) (m : Mem) (R : AV → Mem → Prop) (N0 : St → Prop) (N1 : St → Prop) : W pg KK 138 0 c7_0_2 (h7_0_2 t8 t9 t15 t16 t17 t20 t128 t129 b1_0 b1_1 b1_2 b1_3 b1_4 b1_5 b1_6 b209_0 b209_1 b209_2 b209_3 b209_4 b209_5 b356_0 b0_0 m) (qq7_0_2 R N0 N1) = B7_0_2 t8 t9 t15 t16 t17 t20 t128 t129 b1_0 b1_1 b1_2 b1_3 b1_4 b1_5 b1_6 b209_0 b209_1 b209_2 b209_3 b209_4 b209_5 b356_0 b0_0 m R N0 N1 := by kernel_rfl
theorem L7_0_2 (R : AV → Mem → Prop) (N0 : St → Prop) {σ : Type} (I : σ → Prop) (t8 : σ → AV) (t9 : σ → Int) (t15 : σ → Int) (t16 : σ → Int) (t17 : σ → Bool) (t20 : σ → Int) (t128 : σ → AV) (t129 : σ → Int) (b1_0 : σ → ByteArray) (b1_1 : σ → Int) (b1_2 : σ → Int) (b1_3 : σ → Int) (b1_4 : σ → Int) (b1_5 : σ → Int) (b1_6 : σ → Int) (b209_0 : σ → Int) (b209_1 : σ → Int) (b209_2 : σ → Int) (b209_3 : σ → Int) (b209_4 : σ → Int) (b209_5 : σ → Int) (b356_0 : σ → AV) (b0_0 : σ → ByteArray) (m : σ → Mem) (μ : σ → Nat) (step : ∀ x, I x → B7_0_2 (t8 x) (t9 x) (t15 x) (t16 x) (t17 x) (t20 x) (t128 x) (t129 x) (b1_0 x) (b1_1 x) (b1_2 x) (b1_3 x) (b1_4 x) (b1_5 x) (b1_6 x) (b209_0 x) (b209_1 x) (b209_2 x) (b209_3 x) (b209_4 x) (b209_5 x) (b356_0 x) (b0_0 x) (m x) R N0 (fun s' => ∃ y, I y ∧ μ y < μ x ∧ Weak KK 138 0 s' (h7_0_2 (t8 y) (t9 y) (t15 y) (t16 y) (t17 y) (t20 y) (t128 y) (t129 y) (b1_0 y) (b1_1 y) (b1_2 y) (b1_3 y) (b1_4 y) (b1_5 y) (b1_6 y) (b209_0 y) (b209_1 y) (b209_2 y) (b209_3 y) (b209_4 y) (b209_5 y) (b356_0 y) (b0_0 y) (m y)))) (x : σ) (hx : I x) {s : St} (hw : Weak KK 138 0 s (h7_0_2 (t8 x) (t9 x) (t15 x) (t16 x) (t17 x) (t20 x) (t128 x) (t129 x) (b1_0 x) (b1_1 x) (b1_2 x) (b1_3 x) (b1_4 x) (b1_5 x) (b1_6 x) (b209_0 x) (b209_1 x) (b209_2 x) (b209_3 x) (b209_4 x) (b209_5 x) (b356_0 x) (b0_0 x) (m x))) : Tri pg KK 138 0 (.loop c7_0_2) s (q7_0_2 R N0) :=
  Tri.weak hw (Tri.loops fol I (fun x => h7_0_2 (t8 x) (t9 x) (t15 x) (t16 x) (t17 x) (t20 x) (t128 x) (t129 x) (b1_0 x) (b1_1 x) (b1_2 x) (b1_3 x) (b1_4 x) (b1_5 x) (b1_6 x) (b209_0 x) (b209_1 x) (b209_2 x) (b209_3 x) (b209_4 x) (b209_5 x) (b356_0 x) (b0_0 x) (m x)) μ (fun x hx => (B7_0_2_eq (t8 x) (t9 x) (t15 x) (t16 x) (t17 x) (t20 x) (t128 x) (t129 x) (b1_0 x) (b1_1 x) (b1_2 x) (b1_3 x) (b1_4 x) (b1_5 x) (b1_6 x) (b209_0 x) (b209_1 x) (b209_2 x) (b209_3 x) (b209_4 x) (b209_5 x) (b356_0 x) (b0_0 x) (m x) R N0 _).mpr (step x hx)) x hx)
noncomputable def F7 (a0 : ByteArray) (a1 : AV) (a2 : Int) (a3_0 : ByteArray) (a3_1 : Int) (a3_2 : Int) (a3_3 : Int) (a3_4 : Int) (a3_5 : Int) (a3_6 : Int) (R : AV → Mem → Prop) : Prop :=
callQ pg KK.gl ((1, some ⟨[(AV.sc (.string a3_0)), (intA a3_1), (intA a3_2), (intA a3_3), (intA a3_4), (intA a3_5), (intA a3_6)], 25⟩) :: (0, some ⟨[(AV.sc (.string a0))], 9⟩) :: []) 24 [a1] fun v0 =>
ex_i64 v0 fun z1 =>
bif (z1 != (0)) then (
retL R ((1, some ⟨[(AV.sc (.string a3_0)), (intA a3_1), (intA a3_2), (intA a3_3), (intA a3_4), (intA a3_5), (intA a3_6)], 25⟩) :: (0, some ⟨[(AV.sc (.string a0))], 9⟩) :: []) [some AV.nils, some (intA z1)]) else (
callQ pg KK.gl ((1, some ⟨[(AV.sc (.string a3_0)), (intA a3_1), (intA a3_2), (intA a3_3), (intA a3_4), (intA a3_5), (intA a3_6)], 25⟩) :: (0, some ⟨[(AV.sc (.string a0))], 9⟩) :: []) 25 [(AV.agg [(AV.sc (.string a3_0)), (intA a3_1), (intA a3_2), (intA a3_3), (intA a3_4), (intA a3_5), (intA a3_6)])] fun v2 =>
ex_i64 v2 fun z3 =>
bif (z3 != (0)) then (
retL R ((1, some ⟨[(AV.sc (.string a3_0)), (intA a3_1), (intA a3_2), (intA a3_3), (intA a3_4), (intA a3_5), (intA a3_6)], 25⟩) :: (0, some ⟨[(AV.sc (.string a0))], 9⟩) :: []) [some AV.nils, some (intA z3)]) else (
callQ pg KK.gl ((1, some ⟨[(AV.sc (.string a3_0)), (intA a3_1), (intA a3_2), (intA a3_3), (intA a3_4), (intA a3_5), (intA a3_6)], 25⟩) :: (0, some ⟨[(AV.sc (.string a0))], 9⟩) :: []) 26 [a1, (intA a2)] fun v4 =>
exT2 v4 fun c5 c6 =>
exA6 c5 fun c7 c8 c9 c10 c11 c12 =>
ex_i64 c7 fun z13 =>
ex_i64 c8 fun z14 =>
ex_i64 c9 fun z15 =>
ex_i64 c10 fun z16 =>
ex_i64 c11 fun z17 =>
ex_i64 c12 fun z18 =>
ex_i64 c6 fun z19 =>
bif (z19 != (0)) then (
retL R ((209, some ⟨[(intA z13), (intA z14), (intA z15), (intA z16), (intA z17), (intA z18)], 50⟩) :: (209, some ⟨[(intA (0)), (intA (0)), (intA (0)), (intA (0)), (intA (0)), (intA (0))], 50⟩) :: (1, some ⟨[(AV.sc (.string a3_0)), (intA a3_1), (intA a3_2), (intA a3_3), (intA a3_4), (intA a3_5), (intA a3_6)], 25⟩) :: (0, some ⟨[(AV.sc (.string a0))], 9⟩) :: []) [some AV.nils, some (intA z19)]) else (
opP (bld [(AV.sc (.string ⟨#[]⟩)), (intA (0)), (intA (0)), (AV.sc (.string ⟨#[]⟩))] [(0, 1), (1, 1), (2, 1), (3, 1)] [(0, (AV.sc (.string a0)))]) fun v20 =>
callQ pg KK.gl ((209, some ⟨[(intA z13), (intA z14), (intA z15), (intA z16), (intA z17), (intA z18)], 50⟩) :: (209, some ⟨[(intA (0)), (intA (0)), (intA (0)), (intA (0)), (intA (0)), (intA (0))], 50⟩) :: (1, some ⟨[(AV.sc (.string a3_0)), (intA a3_1), (intA a3_2), (intA a3_3), (intA a3_4), (intA a3_5), (intA a3_6)], 25⟩) :: (0, some ⟨[(AV.sc (.string a0))], 9⟩) :: []) 8 [v20] fun v21 =>
ex_i64 v21 fun z22 =>
bif (z22 != (0)) then (
retL R ((209, some ⟨[(intA z13), (intA z14), (intA z15), (intA z16), (intA z17), (intA z18)], 50⟩) :: (209, some ⟨[(intA (0)), (intA (0)), (intA (0)), (intA (0)), (intA (0)), (intA (0))], 50⟩) :: (1, some ⟨[(AV.sc (.string a3_0)), (intA a3_1), (intA a3_2), (intA a3_3), (intA a3_4), (intA a3_5), (intA a3_6)], 25⟩) :: (0, some ⟨[(AV.sc (.string a0))], 9⟩) :: []) [some AV.nils, some (intA z22)]) else (
callQ pg KK.gl ((209, some ⟨[(intA z13), (intA z14), (intA z15), (intA z16), (intA z17), (intA z18)], 50⟩) :: (209, some ⟨[(intA (0)), (intA (0)), (intA (0)), (intA (0)), (intA (0)), (intA (0))], 50⟩) :: (1, some ⟨[(AV.sc (.string a3_0)), (intA a3_1), (intA a3_2), (intA a3_3), (intA a3_4), (intA a3_5), (intA a3_6)], 25⟩) :: (0, some ⟨[(AV.sc (.string a0))], 9⟩) :: []) 27 [a1, (AV.agg [(intA z13), (intA z14), (intA z15), (intA z16), (intA z17), (intA z18)])] fun v23 =>
exT3 v23 fun c24 c25 c26 =>
ex_i64 c24 fun z27 =>
ex_i64 c25 fun z28 =>
exB c26 fun b29 =>
Tri pg KK 138 0 (.loop c7_0) ⟨[(0, (AV.sc (.string a0))), (1, a1), (2, (intA a2)), (3, (AV.agg [(AV.sc (.string a3_0)), (intA a3_1), (intA a3_2), (intA a3_3), (intA a3_4), (intA a3_5), (intA a3_6)])), (4, (AV.ptr 0 0)), (7, (AV.ptr 1 0)), (8, AV.nils), (9, (intA (0))), (27, a1), (28, (intA z1)), (10, (intA z1)), (29, (intA z1)), (30, (boolA (z1 != (0)))), (32, (AV.agg [(AV.sc (.string a3_0)), (intA a3_1), (intA a3_2), (intA a3_3), (intA a3_4), (intA a3_5), (intA a3_6)])), (33, (intA z3)), (11, (intA z3)), (34, (intA z3)), (35, (boolA (z3 != (0)))), (38, a1), (39, (intA a2)), (40, (AV.tup [(AV.agg [(intA z13), (intA z14), (intA z15), (intA z16), (intA z17), (intA z18)]), (intA z19)])), (37, (AV.tup [(AV.agg [(intA z13), (intA z14), (intA z15), (intA z16), (intA z17), (intA z18)]), (intA z19)])), (41, (AV.agg [(intA z13), (intA z14), (intA z15), (intA z16), (intA z17), (intA z18)])), (42, (intA z19)), (12, (AV.ptr 209 0)), (13, (intA z19)), (43, (intA z19)), (44, (boolA (z19 != (0)))), (46, (AV.sc (.string a0))), (47, v20), (48, (intA z22)), (14, (intA z22)), (49, (intA z22)), (50, (boolA (z22 != (0)))), (53, a1), (54, (AV.agg [(intA z13), (intA z14), (intA z15), (intA z16), (intA z17), (intA z18)])), (55, (AV.tup [(intA z27), (intA z28), (boolA b29)])), (52, (AV.tup [(intA z27), (intA z28), (boolA b29)])), (56, (intA z27)), (57, (intA z28)), (58, (boolA b29)), (15, (intA z27)), (16, (intA z28)), (17, (boolA b29)), (18, (AV.ptr 356 0)), (59, (AV.fn 28 [(AV.ptr 356 0), (AV.ptr 0 0)])), (19, (AV.fn 28 [(AV.ptr 356 0), (AV.ptr 0 0)])), (20, (intA (1)))], ((356, some ⟨[AV.nils], 27⟩) :: (209, some ⟨[(intA z13), (intA z14), (intA z15), (intA z16), (intA z17), (intA z18)], 50⟩) :: (209, some ⟨[(intA (0)), (intA (0)), (intA (0)), (intA (0)), (intA (0)), (intA (0))], 50⟩) :: (1, some ⟨[(AV.sc (.string a3_0)), (intA a3_1), (intA a3_2), (intA a3_3), (intA a3_4), (intA a3_5), (intA a3_6)], 25⟩) :: (0, some ⟨[(AV.sc (.string a0))], 9⟩) :: []), 360⟩ (q7_0 R)))))
theorem F7_own (a0 : ByteArray) (a1 : AV) (a2 : Int) (a3_0 : ByteArray) (a3_1 : Int) (a3_2 : Int) (a3_3 : Int) (a3_4 : Int) (a3_5 : Int) (a3_6 : Int) (R : AV → Mem → Prop) (h : F7 a0 a1 a2 a3_0 a3_1 a3_2 a3_3 a3_4 a3_5 a3_6 R) : Own pg KK.gl 7 [(AV.sc (.string a0)), a1, (intA a2), (AV.agg [(AV.sc (.string a3_0)), (intA a3_1), (intA a3_2), (intA a3_3), (intA a3_4), (intA a3_5), (intA a3_6)])] R := own_of_F fol Tryz.func7 (code := c7) (by kernel_rfl) (by kernel_rfl) (by kernel_rfl) (X := F7 a0 a1 a2 a3_0 a3_1 a3_2 a3_3 a3_4 a3_5 a3_6 R) (by kernel_rfl) h
/- slices.Index[[]skyway/api.Clearance,skyway/api.Clearance] -/
noncomputable def c31 : Code := ((Tryz.f31).body).getD .skip
noncomputable def q31 (R : AV → Mem → Prop) : AExit → St → Prop := retQ pg Tryz.f31 R
noncomputable def c31_0 : Code := loopB c31 0
noncomputable def q31_0 (R : AV → Mem → Prop) : AExit → St → Prop := contW pg KK 19 0 c31 0 (q31 R)
noncomputable def qq31_0 (R : AV → Mem → Prop) (N0 : St → Prop) : AExit → St → Prop := thenQ N0 (q31_0 R)
def h31_0 (t0 : AV) (t4 : Int) (t7 : Int) (t8 : Int) (b0_0 : ByteArray) (b0_1 : Int) (b0_2 : Int) (b0_3 : ByteArray) (m : Mem) : St := ⟨[(0, t0), (3, (AV.ptr 0 0)), (4, (intA t4)), (7, (intA t7)), (8, (intA t8))], ((0, some ⟨[(AV.sc (.string b0_0)), (intA b0_1), (intA b0_2), (AV.sc (.string b0_3))], 32⟩) :: m), 100000⟩
noncomputable def B31_0 (t0 : AV) (t4 : Int) (t7 : Int) (t8 : Int) (b0_0 : ByteArray) (b0_1 : Int) (b0_2 : Int) (b0_3 : ByteArray) (m : Mem) (R : AV → Mem → Prop) (N0 : St → Prop) : Prop :=
bif (decide (t8 < t7)) then (
opP (idxS 4 t0 (intA t8)) fun v2 =>
opP (ldA (mget ((0, some ⟨[(AV.sc (.string b0_0)), (intA b0_1), (intA b0_2), (AV.sc (.string b0_3))], 32⟩) :: m)) 4 v2) fun v3 =>
exA4 v3 fun c4 c5 c6 c7 =>
exStr c4 fun s8 =>
ex_i64 c5 fun z9 =>
ex_i64 c6 fun z10 =>
exStr c7 fun s11 =>
opP (opA pg (.binOp .eql 32 (.tmp 0) (.tmp 1) 32) 4 [(AV.agg [(AV.sc (.string b0_0)), (intA b0_1), (intA b0_2), (AV.sc (.string b0_3))]), (AV.agg [(AV.sc (.string s8)), (intA z9), (intA z10), (AV.sc (.string s11))])] (mget ((0, some ⟨[(AV.sc (.string b0_0)), (intA b0_1), (intA b0_2), (AV.sc (.string b0_3))], 32⟩) :: m)) 100008) fun v12 =>
exB v12 fun b13 =>
bif b13 then (
retL R ((0, some ⟨[(AV.sc (.string b0_0)), (intA b0_1), (intA b0_2), (AV.sc (.string b0_3))], 32⟩) :: m) [some (intA t8)]) else (
N0 ⟨[(0, t0), (3, (AV.ptr 0 0)), (4, (intA t4)), (7, (intA t7)), (8, (intA (IntKind.wrap .i64 (t8 + (1))))), (9, (boolA (decide (t8 < t7)))), (10, (intA t8)), (5, (intA t8)), (11, (AV.agg [(AV.sc (.string b0_0)), (intA b0_1), (intA b0_2), (AV.sc (.string b0_3))])), (12, t0), (13, (intA t8)), (14, v2), (15, (AV.agg [(AV.sc (.string s8)), (intA z9), (intA z10), (AV.sc (.string s11))])), (16, (boolA b13)), (18, (intA (IntKind.wrap .i64 (t8 + (1)))))], ((0, some ⟨[(AV.sc (.string b0_0)), (intA b0_1), (intA b0_2), (AV.sc (.string b0_3))], 32⟩) :: m), 100011⟩)) else (
retL R ((0, some ⟨[(AV.sc (.string b0_0)), (intA b0_1), (intA b0_2), (AV.sc (.string b0_3))], 32⟩) :: m) [some (intA (-1))])
theorem B31_0_eq (t0 : AV) (t4 : Int) (t7 : Int) (t8 : Int) (b0_0 : ByteArray) (b0_1 : Int) (b0_2 : Int) (b0_3 : ByteArray) (m : Mem) (R : AV → Mem → Prop) (N0 : St → Prop) : W pg KK 19 0 c31_0 (h31_0 t0 t4 t7 t8 b0_0 b0_1 b0_2 b0_3 m) (qq31_0 R N0) = B31_0 t0 t4 t7 t8 b0_0 b0_1 b0_2 b0_3 m R N0 := by kernel_rfl
theorem L31_0 (R : AV → Mem → Prop) {σ : Type} (I : σ → Prop) (t0 : σ → AV) (t4 : σ → Int) (t7 : σ → Int) (t8 : σ → Int) (b0_0 : σ → ByteArray) (b0_1 : σ → Int) (b0_2 : σ → Int) (b0_3 : σ → ByteArray) (m : σ → Mem) (μ : σ → Nat) (step : ∀ x, I x → B31_0 (t0 x) (t4 x) (t7 x) (t8 x) (b0_0 x) (b0_1 x) (b0_2 x) (b0_3 x) (m x) R (fun s' => ∃ y, I y ∧ μ y < μ x ∧ Weak KK 19 0 s' (h31_0 (t0 y) (t4 y) (t7 y) (t8 y) (b0_0 y) (b0_1 y) (b0_2 y) (b0_3 y) (m y)))) (x : σ) (hx : I x) {s : St} (hw : Weak KK 19 0 s (h31_0 (t0 x) (t4 x) (t7 x) (t8 x) (b0_0 x) (b0_1 x) (b0_2 x) (b0_3 x) (m x))) : Tri pg KK 19 0 (.loop c31_0) s (q31_0 R) :=
  Tri.weak hw (Tri.loops fol I (fun x => h31_0 (t0 x) (t4 x) (t7 x) (t8 x) (b0_0 x) (b0_1 x) (b0_2 x) (b0_3 x) (m x)) μ (fun x hx => (B31_0_eq (t0 x) (t4 x) (t7 x) (t8 x) (b0_0 x) (b0_1 x) (b0_2 x) (b0_3 x) (m x) R _).mpr (step x hx)) x hx)
noncomputable def F31 (a0 : AV) (a1_0 : ByteArray) (a1_1 : Int) (a1_2 : Int) (a1_3 : ByteArray) (R : AV → Mem → Prop) : Prop :=
opP (lenS a0) fun v0 =>
ex_i64 v0 fun z1 =>
Tri pg KK 19 0 (.loop c31_0) ⟨[(0, a0), (1, (AV.agg [(AV.sc (.string a1_0)), (intA a1_1), (intA a1_2), (AV.sc (.string a1_3))])), (3, (AV.ptr 0 0)), (4, (intA (0))), (6, a0), (7, (intA z1)), (8, (intA (0)))], ((0, some ⟨[(AV.sc (.string a1_0)), (intA a1_1), (intA a1_2), (AV.sc (.string a1_3))], 32⟩) :: []), 5⟩ (q31_0 R)
theorem F31_own (a0 : AV) (a1_0 : ByteArray) (a1_1 : Int) (a1_2 : Int) (a1_3 : ByteArray) (R : AV → Mem → Prop) (h : F31 a0 a1_0 a1_1 a1_2 a1_3 R) : Own pg KK.gl 31 [a0, (AV.agg [(AV.sc (.string a1_0)), (intA a1_1), (intA a1_2), (AV.sc (.string a1_3))])] R := own_of_F fol Tryz.func31 (code := c31) (by kernel_rfl) (by kernel_rfl) (by kernel_rfl) (X := F31 a0 a1_0 a1_1 a1_2 a1_3 R) (by kernel_rfl) h
/- slices.Contains[[]skyway/api.Clearance,skyway/api.Clearance] -/
noncomputable def c9 : Code := ((Tryz.f9).body).getD .skip
noncomputable def q9 (R : AV → Mem → Prop) : AExit → St → Prop := retQ pg Tryz.f9 R
noncomputable def F9 (a0 : AV) (a1_0 : ByteArray) (a1_1 : Int) (a1_2 : Int) (a1_3 : ByteArray) (R : AV → Mem → Prop) : Prop :=
callQ pg KK.gl ((0, some ⟨[(AV.sc (.string a1_0)), (intA a1_1), (intA a1_2), (AV.sc (.string a1_3))], 32⟩) :: []) 31 [a0, (AV.agg [(AV.sc (.string a1_0)), (intA a1_1), (intA a1_2), (AV.sc (.string a1_3))])] fun v0 =>
ex_i64 v0 fun z1 =>
retL R ((0, some ⟨[(AV.sc (.string a1_0)), (intA a1_1), (intA a1_2), (AV.sc (.string a1_3))], 32⟩) :: []) [some (boolA (decide (z1 ≥ (0))))]
theorem F9_own (a0 : AV) (a1_0 : ByteArray) (a1_1 : Int) (a1_2 : Int) (a1_3 : ByteArray) (R : AV → Mem → Prop) (h : F9 a0 a1_0 a1_1 a1_2 a1_3 R) : Own pg KK.gl 9 [a0, (AV.agg [(AV.sc (.string a1_0)), (intA a1_1), (intA a1_2), (AV.sc (.string a1_3))])] R := own_of_F fol Tryz.func9 (code := c9) (by kernel_rfl) (by kernel_rfl) (by kernel_rfl) (X := F9 a0 a1_0 a1_1 a1_2 a1_3 R) (by kernel_rfl) h
/- skyway/skywaykeep3.ResolvePhrases -/
noncomputable def c3 : Code := ((Tryz.f3).body).getD .skip
noncomputable def q3 (R : AV → Mem → Prop) : AExit → St → Prop := retQ pg Tryz.f3 R
noncomputable def c3_0 : Code := loopB c3 0
noncomputable def q3_0 (R : AV → Mem → Prop) : AExit → St → Prop := contW pg KK 55 0 c3 0 (q3 R)
noncomputable def qq3_0 (R : AV → Mem → Prop) (N0 : St → Prop) : AExit → St → Prop := thenQ N0 (q3_0 R)
def h3_0 (t1 : ByteArray) (t8 : Bool) (t9 : AV) (t28 : AV) (t29 : Int) (t30 : Int) (m : Mem) : St := ⟨[(1, (AV.sc (.string t1))), (8, (boolA t8)), (9, t9), (28, t28), (29, (intA t29)), (30, (intA t30))], m, 100000⟩
noncomputable def B3_0 (t1 : ByteArray) (t8 : Bool) (t9 : AV) (t28 : AV) (t29 : Int) (t30 : Int) (m : Mem) (R : AV → Mem → Prop) (N0 : St → Prop) : Prop :=
bif (decide (t30 < t29)) then (
opP (idxS 4 t28 (intA t30)) fun v10 =>
opP (ldA (mget m) 4 v10) fun v11 =>
exA4 v11 fun c12 c13 c14 c15 =>
exStr c12 fun s16 =>
ex_i64 c13 fun z17 =>
ex_i64 c14 fun z18 =>
exStr c15 fun s19 =>
bif (!((s16).toList == (t1).toList)) then (
retL R ((100004, some ⟨[(AV.sc (.string s16)), (intA z17), (intA z18), (AV.sc (.string s19))], 32⟩) :: (100004, some ⟨[(AV.sc (.string ⟨#[]⟩)), (intA (0)), (intA (0)), (AV.sc (.string ⟨#[]⟩))], 32⟩) :: m) [some (boolA false)]) else (
callQ pg KK.gl ((100004, some ⟨[(AV.sc (.string s16)), (intA z17), (intA z18), (AV.sc (.string s19))], 32⟩) :: (100004, some ⟨[(AV.sc (.string ⟨#[]⟩)), (intA (0)), (intA (0)), (AV.sc (.string ⟨#[]⟩))], 32⟩) :: m) 8 [(AV.agg [(AV.sc (.string s16)), (intA z17), (intA z18), (AV.sc (.string s19))])] fun v20 =>
ex_i64 v20 fun z21 =>
bif (z21 != (0)) then (
retL R ((100004, some ⟨[(AV.sc (.string s16)), (intA z17), (intA z18), (AV.sc (.string s19))], 32⟩) :: (100004, some ⟨[(AV.sc (.string ⟨#[]⟩)), (intA (0)), (intA (0)), (AV.sc (.string ⟨#[]⟩))], 32⟩) :: m) [some (boolA false)]) else (
opP (opA pg (.slice 27 (.tmp 0) none (some (.tmp 1)) none) 27 [t9, (intA t30)] (mget ((100004, some ⟨[(AV.sc (.string s16)), (intA z17), (intA z18), (AV.sc (.string s19))], 32⟩) :: (100004, some ⟨[(AV.sc (.string ⟨#[]⟩)), (intA (0)), (intA (0)), (AV.sc (.string ⟨#[]⟩))], 32⟩) :: m)) 100019) fun v22 =>
callQ pg KK.gl ((100004, some ⟨[(AV.sc (.string s16)), (intA z17), (intA z18), (AV.sc (.string s19))], 32⟩) :: (100004, some ⟨[(AV.sc (.string ⟨#[]⟩)), (intA (0)), (intA (0)), (AV.sc (.string ⟨#[]⟩))], 32⟩) :: m) 9 [v22, (AV.agg [(AV.sc (.string s16)), (intA z17), (intA z18), (AV.sc (.string s19))])] fun v23 =>
exB v23 fun b24 =>
bif b24 then (
retL R ((100004, some ⟨[(AV.sc (.string s16)), (intA z17), (intA z18), (AV.sc (.string s19))], 32⟩) :: (100004, some ⟨[(AV.sc (.string ⟨#[]⟩)), (intA (0)), (intA (0)), (AV.sc (.string ⟨#[]⟩))], 32⟩) :: m) [some (boolA false)]) else (
N0 ⟨[(1, (AV.sc (.string t1))), (8, (boolA t8)), (9, t9), (28, t28), (29, (intA t29)), (30, (intA (IntKind.wrap .i64 (t30 + (1))))), (31, (boolA (decide (t30 < t29)))), (32, (intA t30)), (33, v10), (34, (AV.agg [(AV.sc (.string s16)), (intA z17), (intA z18), (AV.sc (.string s19))])), (12, (AV.ptr 100004 0)), (11, (intA t30)), (35, (AV.ptr 100004 0)), (36, (AV.sc (.string s16))), (37, (AV.sc (.string t1))), (38, (boolA (!((s16).toList == (t1).toList)))), (39, (boolA false)), (40, (AV.agg [(AV.sc (.string s16)), (intA z17), (intA z18), (AV.sc (.string s19))])), (41, (intA z21)), (42, (boolA (z21 != (0)))), (43, (boolA (z21 != (0)))), (44, (boolA false)), (45, t9), (46, (intA t30)), (47, v22), (48, (AV.agg [(AV.sc (.string s16)), (intA z17), (intA z18), (AV.sc (.string s19))])), (49, (boolA b24)), (50, (boolA b24)), (51, (intA (IntKind.wrap .i64 (t30 + (1)))))], ((100004, some ⟨[(AV.sc (.string s16)), (intA z17), (intA z18), (AV.sc (.string s19))], 32⟩) :: (100004, some ⟨[(AV.sc (.string ⟨#[]⟩)), (intA (0)), (intA (0)), (AV.sc (.string ⟨#[]⟩))], 32⟩) :: m), 100025⟩)))) else (
opP (lenS t9) fun v25 =>
ex_i64 v25 fun z26 =>
retL R m [some (boolA (decide (z26 ≤ (18))))])
theorem B3_0_eq (t1 : ByteArray) (t8 : Bool) (t9 : AV) (t28 : AV) (t29 : Int) (t30 : Int) (m : Mem) (R : AV → Mem → Prop) (N0 : St → Prop) : W pg KK 55 0 c3_0 (h3_0 t1 t8 t9 t28 t29 t30 m) (qq3_0 R N0) = B3_0 t1 t8 t9 t28 t29 t30 m R N0 := by kernel_rfl
theorem L3_0 (R : AV → Mem → Prop) {σ : Type} (I : σ → Prop) (t1 : σ → ByteArray) (t8 : σ → Bool) (t9 : σ → AV) (t28 : σ → AV) (t29 : σ → Int) (t30 : σ → Int) (m : σ → Mem) (μ : σ → Nat) (step : ∀ x, I x → B3_0 (t1 x) (t8 x) (t9 x) (t28 x) (t29 x) (t30 x) (m x) R (fun s' => ∃ y, I y ∧ μ y < μ x ∧ Weak KK 55 0 s' (h3_0 (t1 y) (t8 y) (t9 y) (t28 y) (t29 y) (t30 y) (m y)))) (x : σ) (hx : I x) {s : St} (hw : Weak KK 55 0 s (h3_0 (t1 x) (t8 x) (t9 x) (t28 x) (t29 x) (t30 x) (m x))) : Tri pg KK 55 0 (.loop c3_0) s (q3_0 R) :=
  Tri.weak hw (Tri.loops fol I (fun x => h3_0 (t1 x) (t8 x) (t9 x) (t28 x) (t29 x) (t30 x) (m x)) μ (fun x hx => (B3_0_eq (t1 x) (t8 x) (t9 x) (t28 x) (t29 x) (t30 x) (m x) R _).mpr (step x hx)) x hx)
noncomputable def F3 (a0 : AV) (a1 : ByteArray) (a2 : Int) (a3_0 : ByteArray) (a3_1 : Int) (a3_2 : Int) (a3_3 : Int) (a3_4 : Int) (a3_5 : Int) (a3_6 : Int) (R : AV → Mem → Prop) : Prop :=
callQ pg KK.gl ((0, some ⟨[(AV.sc (.string a3_0)), (intA a3_1), (intA a3_2), (intA a3_3), (intA a3_4), (intA a3_5), (intA a3_6)], 25⟩) :: []) 6 [] fun v0 =>
exB v0 fun b1 =>
bif (!b1) then (
retL R ((0, some ⟨[(AV.sc (.string a3_0)), (intA a3_1), (intA a3_2), (intA a3_3), (intA a3_4), (intA a3_5), (intA a3_6)], 25⟩) :: []) [some (boolA false)]) else (
callQ pg KK.gl ((0, some ⟨[(AV.sc (.string a3_0)), (intA a3_1), (intA a3_2), (intA a3_3), (intA a3_4), (intA a3_5), (intA a3_6)], 25⟩) :: []) 7 [(AV.sc (.string a1)), a0, (intA a2), (AV.agg [(AV.sc (.string a3_0)), (intA a3_1), (intA a3_2), (intA a3_3), (intA a3_4), (intA a3_5), (intA a3_6)])] fun v2 =>
exT2 v2 fun c3 c4 =>
ex_i64 c4 fun z5 =>
bif (z5 != (0)) then (
opP (lenS c3) fun v6 =>
ex_i64 v6 fun z7 =>
retL R ((0, some ⟨[(AV.sc (.string a3_0)), (intA a3_1), (intA a3_2), (intA a3_3), (intA a3_4), (intA a3_5), (intA a3_6)], 25⟩) :: []) [some (boolA (z7 == (0)))]) else (
opP (lenS c3) fun v8 =>
ex_i64 v8 fun z9 =>
Tri pg KK 55 0 (.loop c3_0) ⟨[(0, a0), (1, (AV.sc (.string a1))), (2, (intA a2)), (3, (AV.agg [(AV.sc (.string a3_0)), (intA a3_1), (intA a3_2), (intA a3_3), (intA a3_4), (intA a3_5), (intA a3_6)])), (7, (AV.ptr 0 0)), (8, (boolA false)), (13, (boolA b1)), (14, (boolA (!b1))), (16, (AV.sc (.string a1))), (17, a0), (18, (intA a2)), (19, (AV.agg [(AV.sc (.string a3_0)), (intA a3_1), (intA a3_2), (intA a3_3), (intA a3_4), (intA a3_5), (intA a3_6)])), (20, (AV.tup [c3, (intA z5)])), (15, (AV.tup [c3, (intA z5)])), (21, c3), (22, (intA z5)), (9, c3), (10, (intA z5)), (23, (intA z5)), (24, (boolA (z5 != (0)))), (28, c3), (29, (intA z9)), (30, (intA (0)))], ((0, some ⟨[(AV.sc (.string a3_0)), (intA a3_1), (intA a3_2), (intA a3_3), (intA a3_4), (intA a3_5), (intA a3_6)], 25⟩) :: []), 145⟩ (q3_0 R)))
theorem F3_own (a0 : AV) (a1 : ByteArray) (a2 : Int) (a3_0 : ByteArray) (a3_1 : Int) (a3_2 : Int) (a3_3 : Int) (a3_4 : Int) (a3_5 : Int) (a3_6 : Int) (R : AV → Mem → Prop) (h : F3 a0 a1 a2 a3_0 a3_1 a3_2 a3_3 a3_4 a3_5 a3_6 R) : Own pg KK.gl 3 [a0, (AV.sc (.string a1)), (intA a2), (AV.agg [(AV.sc (.string a3_0)), (intA a3_1), (intA a3_2), (intA a3_3), (intA a3_4), (intA a3_5), (intA a3_6)])] R := own_of_F fol Tryz.func3 (code := c3) (by kernel_rfl) (by kernel_rfl) (by kernel_rfl) (X := F3 a0 a1 a2 a3_0 a3_1 a3_2 a3_3 a3_4 a3_5 a3_6 R) (by kernel_rfl) h
/- skyway/resolve.Candidates$1 at 200013 -/
noncomputable def F28_200013 (a0 : Int) (a1 : Int) (a2 : AV) (a3 : AV) (m : Mem) (R : AV → Mem → Prop) : Prop :=
opP (ldS (mget m) a2) fun v0 =>
opP (ldS (mget m) a3) fun v1 =>
exStr v1 fun s2 =>
opP (bld [(AV.sc (.string ⟨#[]⟩)), (intA (0)), (intA (0)), (AV.sc (.string ⟨#[]⟩))] [(0, 1), (1, 1), (2, 1), (3, 1)] [(0, (AV.sc (.string s2))), (1, (intA a0)), (2, (intA a1))]) fun v3 =>
opN (bsl 200018 32 4 1 [(AV.sc (.string ⟨#[]⟩)), (intA (0)), (intA (0)), (AV.sc (.string ⟨#[]⟩))] [(0, v3)]) m fun v4 m4 =>
opN (app (mget m4) 32 4 48 [(AV.sc (.string ⟨#[]⟩)), (intA (0)), (intA (0)), (AV.sc (.string ⟨#[]⟩))] 200019 v0 v4) m4 fun v5 m5 =>
storeW pg (mget m5) 27 a2 v5 fun v6 d6 =>
chk (Nat.ble 200021 200077) (retL R (mpushs m5 d6) [])
theorem F28_200013_call (a0 : Int) (a1 : Int) (a2 : AV) (a3 : AV) (m : Mem) (R : AV → Mem → Prop) (h : F28_200013 a0 a1 a2 a3 m R) : callW pg KK.gl m 200013 28 [(intA a0), (intA a1), a2, a3] R := call_of_F fol Tryz.func28 (code := ((Tryz.f28).body).getD .skip) (by kernel_rfl) (by kernel_rfl) (by kernel_rfl) (X := F28_200013 a0 a1 a2 a3 m R) (by kernel_rfl) h
/- skyway/resolve.Candidates$1 at 300015 -/
noncomputable def F28_300015 (a0 : Int) (a1 : Int) (a2 : AV) (a3 : AV) (m : Mem) (R : AV → Mem → Prop) : Prop :=
opP (ldS (mget m) a2) fun v0 =>
opP (ldS (mget m) a3) fun v1 =>
exStr v1 fun s2 =>
opP (bld [(AV.sc (.string ⟨#[]⟩)), (intA (0)), (intA (0)), (AV.sc (.string ⟨#[]⟩))] [(0, 1), (1, 1), (2, 1), (3, 1)] [(0, (AV.sc (.string s2))), (1, (intA a0)), (2, (intA a1))]) fun v3 =>
opN (bsl 300020 32 4 1 [(AV.sc (.string ⟨#[]⟩)), (intA (0)), (intA (0)), (AV.sc (.string ⟨#[]⟩))] [(0, v3)]) m fun v4 m4 =>
opN (app (mget m4) 32 4 48 [(AV.sc (.string ⟨#[]⟩)), (intA (0)), (intA (0)), (AV.sc (.string ⟨#[]⟩))] 300021 v0 v4) m4 fun v5 m5 =>
storeW pg (mget m5) 27 a2 v5 fun v6 d6 =>
chk (Nat.ble 300023 300079) (retL R (mpushs m5 d6) [])
theorem F28_300015_call (a0 : Int) (a1 : Int) (a2 : AV) (a3 : AV) (m : Mem) (R : AV → Mem → Prop) (h : F28_300015 a0 a1 a2 a3 m R) : callW pg KK.gl m 300015 28 [(intA a0), (intA a1), a2, a3] R := call_of_F fol Tryz.func28 (code := ((Tryz.f28).body).getD .skip) (by kernel_rfl) (by kernel_rfl) (by kernel_rfl) (X := F28_300015 a0 a1 a2 a3 m R) (by kernel_rfl) h
/- skyway/resolve.Candidates$1 at 400069 -/
noncomputable def F28_400069 (a0 : Int) (a1 : Int) (a2 : AV) (a3 : AV) (m : Mem) (R : AV → Mem → Prop) : Prop :=
opP (ldS (mget m) a2) fun v0 =>
opP (ldS (mget m) a3) fun v1 =>
exStr v1 fun s2 =>
opP (bld [(AV.sc (.string ⟨#[]⟩)), (intA (0)), (intA (0)), (AV.sc (.string ⟨#[]⟩))] [(0, 1), (1, 1), (2, 1), (3, 1)] [(0, (AV.sc (.string s2))), (1, (intA a0)), (2, (intA a1))]) fun v3 =>
opN (bsl 400074 32 4 1 [(AV.sc (.string ⟨#[]⟩)), (intA (0)), (intA (0)), (AV.sc (.string ⟨#[]⟩))] [(0, v3)]) m fun v4 m4 =>
opN (app (mget m4) 32 4 48 [(AV.sc (.string ⟨#[]⟩)), (intA (0)), (intA (0)), (AV.sc (.string ⟨#[]⟩))] 400075 v0 v4) m4 fun v5 m5 =>
storeW pg (mget m5) 27 a2 v5 fun v6 d6 =>
chk (Nat.ble 400077 400133) (retL R (mpushs m5 d6) [])
theorem F28_400069_call (a0 : Int) (a1 : Int) (a2 : AV) (a3 : AV) (m : Mem) (R : AV → Mem → Prop) (h : F28_400069 a0 a1 a2 a3 m R) : callW pg KK.gl m 400069 28 [(intA a0), (intA a1), a2, a3] R := call_of_F fol Tryz.func28 (code := ((Tryz.f28).body).getD .skip) (by kernel_rfl) (by kernel_rfl) (by kernel_rfl) (X := F28_400069 a0 a1 a2 a3 m R) (by kernel_rfl) h
end Go.Proofs.YteaimbiojpjneaaGreatDoor
