/- A part. -/
import Derived.Test.YtbfabclpcamlnaaGreatDoorX1T
set_option linter.unusedVariables false
set_option maxRecDepth 100000
set_option maxHeartbeats 4000000
namespace Go.Proofs.YtbfabclpcamlnaaGreatDoor
noncomputable def Aax : Code := ((Tryz.f10).body).getD .skip
noncomputable def Afm (R : AV → Mem → Prop) : A9 → St → Prop := Dj pg Tryz.f10 R
noncomputable def Up : Code := Dt Aax 0
noncomputable def U4 (R : AV → Mem → Prop) : A9 → St → Prop := Du pg KK 42 0 Aax 0 (Afm R)
noncomputable def qE (R : AV → Mem → Prop) (N0 : St → Prop) : A9 → St → Prop := Dv N0 (U4 R)
def O0 (t0 : AV) (t1 : AV) (t4 : AV) (t5 : Int) (t6 : Int) (m : Mem) : St := ⟨[(0, t0), (1, t1), (4, t4), (5, (Aa t5)), (6, (Aa t6))], m, 100000⟩
noncomputable def Un (t0 : AV) (t1 : AV) (t4 : AV) (t5 : Int) (t6 : Int) (m : Mem) (R : AV → Mem → Prop) (N0 : St → Prop) : Prop :=
Bg (Dh t0) fun v2 =>
Af v2 fun z3 =>
bif (decide (t6 < z3)) then (
Bg (Db 4 t0 (Aa t6)) fun v4 =>
Bg (Ju (Al m) 4 v4) fun v5 =>
Jf v5 fun c6 c7 c8 c9 =>
Af c6 fun z10 =>
Af c7 fun z11 =>
G2 c8 fun b12 =>
Af c9 fun z13 =>
Hp (some t1) (some [(AV.agg [(Aa z10), (Aa z11), (Ac b12), (Aa z13)])]) fun f14 a14 => bif KK.pm f14 then Bv pg KK.gl ((100008, some ⟨[(Aa z10), (Aa z11), (Ac b12), (Aa z13)], 37⟩) :: (100008, some ⟨[(Aa (0)), (Aa (0)), (Ac false), (Aa (0))], 37⟩) :: m) f14 a14 (fun v14 =>
G2 v14 fun b15 =>
bif (!b15) then (
Bg (Db 4 t0 (Aa t5)) fun v16 =>
C4 pg (Al ((100008, some ⟨[(Aa z10), (Aa z11), (Ac b12), (Aa z13)], 37⟩) :: (100008, some ⟨[(Aa (0)), (Aa (0)), (Ac false), (Aa (0))], 37⟩) :: m)) 37 v16 (AV.agg [(Aa z10), (Aa z11), (Ac b12), (Aa z13)]) fun v17 d17 =>
N0 ⟨[(0, t0), (1, t1), (4, t4), (5, (Aa (IntKind.wrap .i64 (t5 + (1))))), (6, (Aa (IntKind.wrap .i64 (t6 + (1))))), (16, (Aa t6)), (17, t0), (18, (Aa z3)), (19, (Ac (decide (t6 < z3)))), (22, t0), (23, (Aa t6)), (24, v4), (25, (AV.agg [(Aa z10), (Aa z11), (Ac b12), (Aa z13)])), (7, (AV.ptr 100008 0)), (26, t1), (27, (AV.agg [(Aa z10), (Aa z11), (Ac b12), (Aa z13)])), (28, (Ac b15)), (29, (Ac (!b15))), (30, t0), (31, (Aa t5)), (32, (AV.agg [(Aa z10), (Aa z11), (Ac b12), (Aa z13)])), (33, v16), (34, (Aa t5)), (35, (Aa (IntKind.wrap .i64 (t5 + (1))))), (20, (Aa t6)), (21, (Aa (IntKind.wrap .i64 (t6 + (1)))))], (Ae ((100008, some ⟨[(Aa z10), (Aa z11), (Ac b12), (Aa z13)], 37⟩) :: (100008, some ⟨[(Aa (0)), (Aa (0)), (Ac false), (Aa (0))], 37⟩) :: m) d17), 100088⟩) else (
N0 ⟨[(0, t0), (1, t1), (4, t4), (5, (Aa t5)), (6, (Aa (IntKind.wrap .i64 (t6 + (1))))), (16, (Aa t6)), (17, t0), (18, (Aa z3)), (19, (Ac (decide (t6 < z3)))), (22, t0), (23, (Aa t6)), (24, v4), (25, (AV.agg [(Aa z10), (Aa z11), (Ac b12), (Aa z13)])), (7, (AV.ptr 100008 0)), (26, t1), (27, (AV.agg [(Aa z10), (Aa z11), (Ac b12), (Aa z13)])), (28, (Ac b15)), (29, (Ac (!b15))), (20, (Aa t6)), (21, (Aa (IntKind.wrap .i64 (t6 + (1)))))], ((100008, some ⟨[(Aa z10), (Aa z11), (Ac b12), (Aa z13)], 37⟩) :: (100008, some ⟨[(Aa (0)), (Aa (0)), (Ac false), (Aa (0))], 37⟩) :: m), 100080⟩)) else Ed pg KK.gl ((100008, some ⟨[(Aa z10), (Aa z11), (Ac b12), (Aa z13)], 37⟩) :: (100008, some ⟨[(Aa (0)), (Aa (0)), (Ac false), (Aa (0))], 37⟩) :: m) 100012 f14 a14 fun v14 m14 =>
G2 v14 fun b15 =>
bif (!b15) then (
Bg (Ju (Al m14) 4 (AV.ptr 100008 0)) fun v18 =>
Jf v18 fun c19 c20 c21 c22 =>
Af c19 fun z23 =>
Af c20 fun z24 =>
G2 c21 fun b25 =>
Af c22 fun z26 =>
Bg (Db 4 t0 (Aa t5)) fun v27 =>
C4 pg (Al m14) 37 v27 (AV.agg [(Aa z23), (Aa z24), (Ac b25), (Aa z26)]) fun v28 d28 =>
N0 ⟨[(0, t0), (1, t1), (4, t4), (5, (Aa (IntKind.wrap .i64 (t5 + (1))))), (6, (Aa (IntKind.wrap .i64 (t6 + (1))))), (16, (Aa t6)), (17, t0), (18, (Aa z3)), (19, (Ac (decide (t6 < z3)))), (22, t0), (23, (Aa t6)), (24, v4), (25, (AV.agg [(Aa z10), (Aa z11), (Ac b12), (Aa z13)])), (7, (AV.ptr 100008 0)), (26, t1), (27, (AV.agg [(Aa z10), (Aa z11), (Ac b12), (Aa z13)])), (28, (Ac b15)), (29, (Ac (!b15))), (30, t0), (31, (Aa t5)), (32, (AV.agg [(Aa z23), (Aa z24), (Ac b25), (Aa z26)])), (33, v27), (34, (Aa t5)), (35, (Aa (IntKind.wrap .i64 (t5 + (1))))), (20, (Aa t6)), (21, (Aa (IntKind.wrap .i64 (t6 + (1)))))], (Ae m14 d28), 100088⟩) else (
N0 ⟨[(0, t0), (1, t1), (4, t4), (5, (Aa t5)), (6, (Aa (IntKind.wrap .i64 (t6 + (1))))), (16, (Aa t6)), (17, t0), (18, (Aa z3)), (19, (Ac (decide (t6 < z3)))), (22, t0), (23, (Aa t6)), (24, v4), (25, (AV.agg [(Aa z10), (Aa z11), (Ac b12), (Aa z13)])), (7, (AV.ptr 100008 0)), (26, t1), (27, (AV.agg [(Aa z10), (Aa z11), (Ac b12), (Aa z13)])), (28, (Ac b15)), (29, (Ac (!b15))), (20, (Aa t6)), (21, (Aa (IntKind.wrap .i64 (t6 + (1)))))], m14, 100080⟩)) else (
Bg (B9 pg (.slice 33 (.tmp 0) (some (.tmp 1)) none none) 33 [t0, (Aa t5)] (Al m) 100006) fun v29 =>
Fy (B9 pg (.call ⟨.builtin .clear, #[.tmp 0], #[33]⟩) 0 [v29] (Al m) 100007) m fun v30 m30 =>
Ry v30 <|
Bg (B9 pg (.slice 33 (.tmp 0) none (some (.tmp 1)) none) 33 [t0, (Aa t5)] (Al m30) 100010) fun v31 =>
A4 R m30 [some v31])
theorem jN (t0 : AV) (t1 : AV) (t4 : AV) (t5 : Int) (t6 : Int) (m : Mem) (R : AV → Mem → Prop) (N0 : St → Prop) : W pg KK 42 0 Up (O0 t0 t1 t4 t5 t6 m) (qE R N0) = Un t0 t1 t4 t5 t6 m R N0 := by kernel_rfl
theorem Abh (R : AV → Mem → Prop) {σ : Type} (I : σ → Prop) (t0 : σ → AV) (t1 : σ → AV) (t4 : σ → AV) (t5 : σ → Int) (t6 : σ → Int) (m : σ → Mem) (μ : σ → Nat) (step : ∀ x, I x → Un (t0 x) (t1 x) (t4 x) (t5 x) (t6 x) (m x) R (fun s' => ∃ y, I y ∧ μ y < μ x ∧ Bo KK 42 0 s' (O0 (t0 y) (t1 y) (t4 y) (t5 y) (t6 y) (m y)))) (x : σ) (hx : I x) {s : St} (hw : Bo KK 42 0 s (O0 (t0 x) (t1 x) (t4 x) (t5 x) (t6 x) (m x))) : Ca pg KK 42 0 (.loop Up) s (U4 R) :=
  Ca.Fk hw (Ca.loops Ee I (fun x => O0 (t0 x) (t1 x) (t4 x) (t5 x) (t6 x) (m x)) μ (fun x hx => (jN (t0 x) (t1 x) (t4 x) (t5 x) (t6 x) (m x) R _).mpr (step x hx)) x hx)
noncomputable def sB (a0 : AV) (a1 : AV) (m0 : Mem) (R : AV → Mem → Prop) : Prop :=
Bv pg KK.gl m0 52 [a0, a1] fun v0 =>
Af v0 fun z1 =>
bif (z1 == (-1)) then (
A4 R m0 [some a0]) else (
Ca pg KK 42 0 (.loop Up) ⟨[(0, a0), (1, a1), (4, AV.Cc), (8, a0), (9, a1), (10, (Aa z1)), (5, (Aa z1)), (11, (Aa z1)), (12, (Ac (z1 == (-1)))), (14, (Aa z1)), (15, (Aa (IntKind.wrap .i64 (z1 + (1))))), (6, (Aa (IntKind.wrap .i64 (z1 + (1)))))], m0, 74⟩ (U4 R))
theorem gW (a0 : AV) (a1 : AV) (m0 : Mem) (R : AV → Mem → Prop) (h : sB a0 a1 m0 R) : Kf pg KK.gl m0 1 10 [a0, a1] R := Hl Ee Tryz.func10 (code := Aax) (by kernel_rfl) (by kernel_rfl) (by kernel_rfl) (X := sB a0 a1 m0 R) (by kernel_rfl) h
noncomputable def c42 : Code := ((Tryz.f42).body).getD .skip
noncomputable def q42 (R : AV → Mem → Prop) : A9 → St → Prop := Dj pg Tryz.f42 R
noncomputable def Xh : Code := Dt c42 0
noncomputable def Yq (R : AV → Mem → Prop) : A9 → St → Prop := Du pg KK 64 0 c42 0 (q42 R)
noncomputable def Abi (R : AV → Mem → Prop) (N0 : St → Prop) : A9 → St → Prop := Dv N0 (Yq R)
def Pt (t0 : AV) (t1 : AV) (t6 : AV) (t7 : Bool) (t8 : AV) (t12 : AV) (t13 : Int) (t14 : Int) (b0_0 : Int) (b0_1 : Int) (b0_2 : Int) (b0_3 : Int) (b0_4 : Int) (b0_5 : Int) (b0_6 : Int) (b0_7 : Int) (b0_8 : Int) (b0_9 : Int) (b0_10 : Int) (b0_11 : Int) (b0_12 : Int) (b0_13 : Int) (b0_14 : Int) (b0_15 : Int) (m : Mem) : St := ⟨[(0, t0), (1, t1), (5, (AV.ptr 0 0)), (6, t6), (7, (Ac t7)), (8, t8), (12, t12), (13, (Aa t13)), (14, (Aa t14))], ((0, some ⟨[(Aa b0_0), (Aa b0_1), (Aa b0_2), (Aa b0_3), (Aa b0_4), (Aa b0_5), (Aa b0_6), (Aa b0_7), (Aa b0_8), (Aa b0_9), (Aa b0_10), (Aa b0_11), (Aa b0_12), (Aa b0_13), (Aa b0_14), (Aa b0_15)], 25⟩) :: m), 100000⟩
noncomputable def S0 (t0 : AV) (t1 : AV) (t6 : AV) (t7 : Bool) (t8 : AV) (t12 : AV) (t13 : Int) (t14 : Int) (b0_0 : Int) (b0_1 : Int) (b0_2 : Int) (b0_3 : Int) (b0_4 : Int) (b0_5 : Int) (b0_6 : Int) (b0_7 : Int) (b0_8 : Int) (b0_9 : Int) (b0_10 : Int) (b0_11 : Int) (b0_12 : Int) (b0_13 : Int) (b0_14 : Int) (b0_15 : Int) (m : Mem) (R : AV → Mem → Prop) (N0 : St → Prop) : Prop :=
bif (decide (t14 < t13)) then (
Bg (Db 1 t12 (Aa t14)) fun v2 =>
Bg (Fe (Al ((0, some ⟨[(Aa b0_0), (Aa b0_1), (Aa b0_2), (Aa b0_3), (Aa b0_4), (Aa b0_5), (Aa b0_6), (Aa b0_7), (Aa b0_8), (Aa b0_9), (Aa b0_10), (Aa b0_11), (Aa b0_12), (Aa b0_13), (Aa b0_14), (Aa b0_15)], 25⟩) :: m)) v2) fun v3 =>
Af v3 fun z4 =>
Bg (Db 4 t0 (Aa z4)) fun v5 =>
Bg (E1 2 v5) fun v6 =>
Bg (Fe (Al ((0, some ⟨[(Aa b0_0), (Aa b0_1), (Aa b0_2), (Aa b0_3), (Aa b0_4), (Aa b0_5), (Aa b0_6), (Aa b0_7), (Aa b0_8), (Aa b0_9), (Aa b0_10), (Aa b0_11), (Aa b0_12), (Aa b0_13), (Aa b0_14), (Aa b0_15)], 25⟩) :: m)) v6) fun v7 =>
Af v7 fun z8 =>
bif (decide (t14 > (0))) then (
Bg (Db 1 t8 (Aa (IntKind.wrap .i64 (t14 - (1))))) fun v9 =>
Bg (Fe (Al ((0, some ⟨[(Aa b0_0), (Aa b0_1), (Aa b0_2), (Aa b0_3), (Aa b0_4), (Aa b0_5), (Aa b0_6), (Aa b0_7), (Aa b0_8), (Aa b0_9), (Aa b0_10), (Aa b0_11), (Aa b0_12), (Aa b0_13), (Aa b0_14), (Aa b0_15)], 25⟩) :: m)) v9) fun v10 =>
Af v10 fun z11 =>
Bg (Db 1 t1 (Aa (IntKind.wrap .i64 (t14 - (1))))) fun v12 =>
Bg (Fe (Al ((0, some ⟨[(Aa b0_0), (Aa b0_1), (Aa b0_2), (Aa b0_3), (Aa b0_4), (Aa b0_5), (Aa b0_6), (Aa b0_7), (Aa b0_8), (Aa b0_9), (Aa b0_10), (Aa b0_11), (Aa b0_12), (Aa b0_13), (Aa b0_14), (Aa b0_15)], 25⟩) :: m)) v12) fun v13 =>
Af v13 fun z14 =>
Bg (Db 4 t0 (Aa z14)) fun v15 =>
Bg (E1 1 v15) fun v16 =>
Bg (Fe (Al ((0, some ⟨[(Aa b0_0), (Aa b0_1), (Aa b0_2), (Aa b0_3), (Aa b0_4), (Aa b0_5), (Aa b0_6), (Aa b0_7), (Aa b0_8), (Aa b0_9), (Aa b0_10), (Aa b0_11), (Aa b0_12), (Aa b0_13), (Aa b0_14), (Aa b0_15)], 25⟩) :: m)) v16) fun v17 =>
Af v17 fun z18 =>
Bg (Db 4 t0 (Aa z4)) fun v19 =>
Bg (E1 1 v19) fun v20 =>
Bg (Fe (Al ((0, some ⟨[(Aa b0_0), (Aa b0_1), (Aa b0_2), (Aa b0_3), (Aa b0_4), (Aa b0_5), (Aa b0_6), (Aa b0_7), (Aa b0_8), (Aa b0_9), (Aa b0_10), (Aa b0_11), (Aa b0_12), (Aa b0_13), (Aa b0_14), (Aa b0_15)], 25⟩) :: m)) v20) fun v21 =>
Af v21 fun z22 =>
Bg (Nq 4 4 (AV.ptr 0 0) (Aa z18)) fun v23 =>
Bg (Nq 4 1 v23 (Aa z22)) fun v24 =>
Bg (Fe (Al ((0, some ⟨[(Aa b0_0), (Aa b0_1), (Aa b0_2), (Aa b0_3), (Aa b0_4), (Aa b0_5), (Aa b0_6), (Aa b0_7), (Aa b0_8), (Aa b0_9), (Aa b0_10), (Aa b0_11), (Aa b0_12), (Aa b0_13), (Aa b0_14), (Aa b0_15)], 25⟩) :: m)) v24) fun v25 =>
Af v25 fun z26 =>
Bg (B9 pg (.call ⟨.builtin .max, #[.tmp 0, .tmp 1], #[3, 3]⟩) 3 [(Aa z8), (Aa (IntKind.wrap .i64 (z11 + z26)))] (Al ((0, some ⟨[(Aa b0_0), (Aa b0_1), (Aa b0_2), (Aa b0_3), (Aa b0_4), (Aa b0_5), (Aa b0_6), (Aa b0_7), (Aa b0_8), (Aa b0_9), (Aa b0_10), (Aa b0_11), (Aa b0_12), (Aa b0_13), (Aa b0_14), (Aa b0_15)], 25⟩) :: m)) 100038) fun v27 =>
Af v27 fun z28 =>
Bg (Db 4 t0 (Aa z4)) fun v29 =>
Bg (E1 3 v29) fun v30 =>
Bg (Fe (Al ((0, some ⟨[(Aa b0_0), (Aa b0_1), (Aa b0_2), (Aa b0_3), (Aa b0_4), (Aa b0_5), (Aa b0_6), (Aa b0_7), (Aa b0_8), (Aa b0_9), (Aa b0_10), (Aa b0_11), (Aa b0_12), (Aa b0_13), (Aa b0_14), (Aa b0_15)], 25⟩) :: m)) v30) fun v31 =>
Af v31 fun z32 =>
bif (decide (z28 > z32)) then (
A4 R ((0, some ⟨[(Aa b0_0), (Aa b0_1), (Aa b0_2), (Aa b0_3), (Aa b0_4), (Aa b0_5), (Aa b0_6), (Aa b0_7), (Aa b0_8), (Aa b0_9), (Aa b0_10), (Aa b0_11), (Aa b0_12), (Aa b0_13), (Aa b0_14), (Aa b0_15)], 25⟩) :: m) [some AV.Cc, some (Ac false)]) else (
Fy (Ww 100049 3 1 1 [(Aa (0))] [(0, (Aa z28))]) ((0, some ⟨[(Aa b0_0), (Aa b0_1), (Aa b0_2), (Aa b0_3), (Aa b0_4), (Aa b0_5), (Aa b0_6), (Aa b0_7), (Aa b0_8), (Aa b0_9), (Aa b0_10), (Aa b0_11), (Aa b0_12), (Aa b0_13), (Aa b0_14), (Aa b0_15)], 25⟩) :: m) fun v33 m33 =>
Fy (app (Al m33) 3 1 8 [(Aa (0))] 100050 t8 v33) m33 fun v34 m34 =>
N0 ⟨[(0, t0), (1, t1), (5, (AV.ptr 0 0)), (6, t6), (7, (Ac t7)), (8, v34), (12, t12), (13, (Aa t13)), (14, (Aa (IntKind.wrap .i64 (t14 + (1))))), (15, (Ac (decide (t14 < t13)))), (16, (Aa t14)), (17, v2), (18, (Aa z4)), (9, (Aa t14)), (10, (Aa z4)), (19, t0), (20, (Aa z4)), (21, v5), (22, v6), (23, (Aa z8)), (11, (Aa z28)), (24, (Aa t14)), (25, (Ac (decide (t14 > (0))))), (26, (Aa z8)), (27, t8), (28, (Aa t14)), (29, (Aa (IntKind.wrap .i64 (t14 - (1))))), (30, v9), (31, (Aa z11)), (32, t0), (33, t1), (34, (Aa t14)), (35, (Aa (IntKind.wrap .i64 (t14 - (1))))), (36, v12), (37, (Aa z14)), (38, v15), (39, v16), (40, (Aa z18)), (41, t0), (42, (Aa z4)), (43, v19), (44, v20), (45, (Aa z22)), (46, v23), (47, v24), (48, (Aa z26)), (49, (Aa (IntKind.wrap .i64 (z11 + z26)))), (50, (Aa z28)), (51, (Aa z28)), (52, t0), (53, (Aa z4)), (54, v29), (55, v30), (56, (Aa z32)), (57, (Ac (decide (z28 > z32)))), (58, t8), (59, (Aa z28)), (60, v33), (61, v34), (62, (Aa (IntKind.wrap .i64 (t14 + (1)))))], m34, 100054⟩)) else (
Bg (Db 4 t0 (Aa z4)) fun v35 =>
Bg (E1 3 v35) fun v36 =>
Bg (Fe (Al ((0, some ⟨[(Aa b0_0), (Aa b0_1), (Aa b0_2), (Aa b0_3), (Aa b0_4), (Aa b0_5), (Aa b0_6), (Aa b0_7), (Aa b0_8), (Aa b0_9), (Aa b0_10), (Aa b0_11), (Aa b0_12), (Aa b0_13), (Aa b0_14), (Aa b0_15)], 25⟩) :: m)) v36) fun v37 =>
Af v37 fun z38 =>
bif (decide (z8 > z38)) then (
A4 R ((0, some ⟨[(Aa b0_0), (Aa b0_1), (Aa b0_2), (Aa b0_3), (Aa b0_4), (Aa b0_5), (Aa b0_6), (Aa b0_7), (Aa b0_8), (Aa b0_9), (Aa b0_10), (Aa b0_11), (Aa b0_12), (Aa b0_13), (Aa b0_14), (Aa b0_15)], 25⟩) :: m) [some AV.Cc, some (Ac false)]) else (
Fy (Ww 100023 3 1 1 [(Aa (0))] [(0, (Aa z8))]) ((0, some ⟨[(Aa b0_0), (Aa b0_1), (Aa b0_2), (Aa b0_3), (Aa b0_4), (Aa b0_5), (Aa b0_6), (Aa b0_7), (Aa b0_8), (Aa b0_9), (Aa b0_10), (Aa b0_11), (Aa b0_12), (Aa b0_13), (Aa b0_14), (Aa b0_15)], 25⟩) :: m) fun v39 m39 =>
Fy (app (Al m39) 3 1 8 [(Aa (0))] 100024 t8 v39) m39 fun v40 m40 =>
N0 ⟨[(0, t0), (1, t1), (5, (AV.ptr 0 0)), (6, t6), (7, (Ac t7)), (8, v40), (12, t12), (13, (Aa t13)), (14, (Aa (IntKind.wrap .i64 (t14 + (1))))), (15, (Ac (decide (t14 < t13)))), (16, (Aa t14)), (17, v2), (18, (Aa z4)), (9, (Aa t14)), (10, (Aa z4)), (19, t0), (20, (Aa z4)), (21, v5), (22, v6), (23, (Aa z8)), (11, (Aa z8)), (24, (Aa t14)), (25, (Ac (decide (t14 > (0))))), (51, (Aa z8)), (52, t0), (53, (Aa z4)), (54, v35), (55, v36), (56, (Aa z38)), (57, (Ac (decide (z8 > z38)))), (58, t8), (59, (Aa z8)), (60, v39), (61, v40), (62, (Aa (IntKind.wrap .i64 (t14 + (1)))))], m40, 100028⟩))) else (
A4 R ((0, some ⟨[(Aa b0_0), (Aa b0_1), (Aa b0_2), (Aa b0_3), (Aa b0_4), (Aa b0_5), (Aa b0_6), (Aa b0_7), (Aa b0_8), (Aa b0_9), (Aa b0_10), (Aa b0_11), (Aa b0_12), (Aa b0_13), (Aa b0_14), (Aa b0_15)], 25⟩) :: m) [some t8, some (Ac true)])
theorem j9 (t0 : AV) (t1 : AV) (t6 : AV) (t7 : Bool) (t8 : AV) (t12 : AV) (t13 : Int) (t14 : Int) (b0_0 : Int) (b0_1 : Int) (b0_2 : Int) (b0_3 : Int) (b0_4 : Int) (b0_5 : Int) (b0_6 : Int) (b0_7 : Int) (b0_8 : Int) (b0_9 : Int) (b0_10 : Int) (b0_11 : Int) (b0_12 : Int) (b0_13 : Int) (b0_14 : Int) (b0_15 : Int) (m : Mem) (R : AV → Mem → Prop) (N0 : St → Prop) : W pg KK 64 0 Xh (Pt t0 t1 t6 t7 t8 t12 t13 t14 b0_0 b0_1 b0_2 b0_3 b0_4 b0_5 b0_6 b0_7 b0_8 b0_9 b0_10 b0_11 b0_12 b0_13 b0_14 b0_15 m) (Abi R N0) = S0 t0 t1 t6 t7 t8 t12 t13 t14 b0_0 b0_1 b0_2 b0_3 b0_4 b0_5 b0_6 b0_7 b0_8 b0_9 b0_10 b0_11 b0_12 b0_13 b0_14 b0_15 m R N0 := by kernel_rfl
theorem xH (R : AV → Mem → Prop) {σ : Type} (I : σ → Prop) (t0 : σ → AV) (t1 : σ → AV) (t6 : σ → AV) (t7 : σ → Bool) (t8 : σ → AV) (t12 : σ → AV) (t13 : σ → Int) (t14 : σ → Int) (b0_0 : σ → Int) (b0_1 : σ → Int) (b0_2 : σ → Int) (b0_3 : σ → Int) (b0_4 : σ → Int) (b0_5 : σ → Int) (b0_6 : σ → Int) (b0_7 : σ → Int) (b0_8 : σ → Int) (b0_9 : σ → Int) (b0_10 : σ → Int) (b0_11 : σ → Int) (b0_12 : σ → Int) (b0_13 : σ → Int) (b0_14 : σ → Int) (b0_15 : σ → Int) (m : σ → Mem) (μ : σ → Nat) (step : ∀ x, I x → S0 (t0 x) (t1 x) (t6 x) (t7 x) (t8 x) (t12 x) (t13 x) (t14 x) (b0_0 x) (b0_1 x) (b0_2 x) (b0_3 x) (b0_4 x) (b0_5 x) (b0_6 x) (b0_7 x) (b0_8 x) (b0_9 x) (b0_10 x) (b0_11 x) (b0_12 x) (b0_13 x) (b0_14 x) (b0_15 x) (m x) R (fun s' => ∃ y, I y ∧ μ y < μ x ∧ Bo KK 64 0 s' (Pt (t0 y) (t1 y) (t6 y) (t7 y) (t8 y) (t12 y) (t13 y) (t14 y) (b0_0 y) (b0_1 y) (b0_2 y) (b0_3 y) (b0_4 y) (b0_5 y) (b0_6 y) (b0_7 y) (b0_8 y) (b0_9 y) (b0_10 y) (b0_11 y) (b0_12 y) (b0_13 y) (b0_14 y) (b0_15 y) (m y)))) (x : σ) (hx : I x) {s : St} (hw : Bo KK 64 0 s (Pt (t0 x) (t1 x) (t6 x) (t7 x) (t8 x) (t12 x) (t13 x) (t14 x) (b0_0 x) (b0_1 x) (b0_2 x) (b0_3 x) (b0_4 x) (b0_5 x) (b0_6 x) (b0_7 x) (b0_8 x) (b0_9 x) (b0_10 x) (b0_11 x) (b0_12 x) (b0_13 x) (b0_14 x) (b0_15 x) (m x))) : Ca pg KK 64 0 (.loop Xh) s (Yq R) :=
  Ca.Fk hw (Ca.loops Ee I (fun x => Pt (t0 x) (t1 x) (t6 x) (t7 x) (t8 x) (t12 x) (t13 x) (t14 x) (b0_0 x) (b0_1 x) (b0_2 x) (b0_3 x) (b0_4 x) (b0_5 x) (b0_6 x) (b0_7 x) (b0_8 x) (b0_9 x) (b0_10 x) (b0_11 x) (b0_12 x) (b0_13 x) (b0_14 x) (b0_15 x) (m x)) μ (fun x hx => (j9 (t0 x) (t1 x) (t6 x) (t7 x) (t8 x) (t12 x) (t13 x) (t14 x) (b0_0 x) (b0_1 x) (b0_2 x) (b0_3 x) (b0_4 x) (b0_5 x) (b0_6 x) (b0_7 x) (b0_8 x) (b0_9 x) (b0_10 x) (b0_11 x) (b0_12 x) (b0_13 x) (b0_14 x) (b0_15 x) (m x) R _).mpr (step x hx)) x hx)
noncomputable def F42 (a0 : AV) (a1 : AV) (a2_0 : Int) (a2_1 : Int) (a2_2 : Int) (a2_3 : Int) (a2_4 : Int) (a2_5 : Int) (a2_6 : Int) (a2_7 : Int) (a2_8 : Int) (a2_9 : Int) (a2_10 : Int) (a2_11 : Int) (a2_12 : Int) (a2_13 : Int) (a2_14 : Int) (a2_15 : Int) (R : AV → Mem → Prop) : Prop :=
Bg (Dh a1) fun v0 =>
Af v0 fun z1 =>
Ca pg KK 64 0 (.loop Xh) ⟨[(0, a0), (1, a1), (2, (AV.agg [(Aa a2_0), (Aa a2_1), (Aa a2_2), (Aa a2_3), (Aa a2_4), (Aa a2_5), (Aa a2_6), (Aa a2_7), (Aa a2_8), (Aa a2_9), (Aa a2_10), (Aa a2_11), (Aa a2_12), (Aa a2_13), (Aa a2_14), (Aa a2_15)])), (5, (AV.ptr 0 0)), (6, AV.Cc), (7, (Ac false)), (8, AV.Cc), (12, a1), (13, (Aa z1)), (14, (Aa (0)))], ((0, some ⟨[(Aa a2_0), (Aa a2_1), (Aa a2_2), (Aa a2_3), (Aa a2_4), (Aa a2_5), (Aa a2_6), (Aa a2_7), (Aa a2_8), (Aa a2_9), (Aa a2_10), (Aa a2_11), (Aa a2_12), (Aa a2_13), (Aa a2_14), (Aa a2_15)], 25⟩) :: []), 7⟩ (Yq R)
theorem eG (a0 : AV) (a1 : AV) (a2_0 : Int) (a2_1 : Int) (a2_2 : Int) (a2_3 : Int) (a2_4 : Int) (a2_5 : Int) (a2_6 : Int) (a2_7 : Int) (a2_8 : Int) (a2_9 : Int) (a2_10 : Int) (a2_11 : Int) (a2_12 : Int) (a2_13 : Int) (a2_14 : Int) (a2_15 : Int) (R : AV → Mem → Prop) (h : F42 a0 a1 a2_0 a2_1 a2_2 a2_3 a2_4 a2_5 a2_6 a2_7 a2_8 a2_9 a2_10 a2_11 a2_12 a2_13 a2_14 a2_15 R) : Own pg KK.gl 42 [a0, a1, (AV.agg [(Aa a2_0), (Aa a2_1), (Aa a2_2), (Aa a2_3), (Aa a2_4), (Aa a2_5), (Aa a2_6), (Aa a2_7), (Aa a2_8), (Aa a2_9), (Aa a2_10), (Aa a2_11), (Aa a2_12), (Aa a2_13), (Aa a2_14), (Aa a2_15)])] R := Bj Ee Tryz.func42 (code := c42) (by kernel_rfl) (by kernel_rfl) (by kernel_rfl) (X := F42 a0 a1 a2_0 a2_1 a2_2 a2_3 a2_4 a2_5 a2_6 a2_7 a2_8 a2_9 a2_10 a2_11 a2_12 a2_13 a2_14 a2_15 R) (by kernel_rfl) h
noncomputable def Afj : Code := ((Tryz.f161).body).getD .skip
noncomputable def Ahh (R : AV → Mem → Prop) : A9 → St → Prop := Dj pg Tryz.f161 R
noncomputable def uA (a0_0 : Int) (a0_1 : Int) (R : AV → Mem → Prop) : Prop :=
bif (decide (a0_0 < (0))) then (
A4 R ((0, some ⟨[(Aa a0_0), (Aa a0_1)], 93⟩) :: []) [some (Aa (4))]) else (
bif (decide (a0_0 > (1000000))) then (
A4 R ((0, some ⟨[(Aa a0_0), (Aa a0_1)], 93⟩) :: []) [some (Aa (4))]) else (
bif (decide (a0_1 < (0))) then (
A4 R ((0, some ⟨[(Aa a0_0), (Aa a0_1)], 93⟩) :: []) [some (Aa (4))]) else (
bif (decide (a0_1 > (60000))) then (
A4 R ((0, some ⟨[(Aa a0_0), (Aa a0_1)], 93⟩) :: []) [some (Aa (4))]) else (
A4 R ((0, some ⟨[(Aa a0_0), (Aa a0_1)], 93⟩) :: []) [some (Aa (0))]))))
theorem nV (a0_0 : Int) (a0_1 : Int) (R : AV → Mem → Prop) (h : uA a0_0 a0_1 R) : Own pg KK.gl 161 [(AV.agg [(Aa a0_0), (Aa a0_1)])] R := Bj Ee Tryz.func161 (code := Afj) (by kernel_rfl) (by kernel_rfl) (by kernel_rfl) (X := uA a0_0 a0_1 R) (by kernel_rfl) h
noncomputable def c83 : Code := ((Tryz.f83).body).getD .skip
noncomputable def q83 (R : AV → Mem → Prop) : A9 → St → Prop := Dj pg Tryz.f83 R
noncomputable def F83 (a0_0 : Int) (a0_1 : Int) (R : AV → Mem → Prop) : Prop :=
bif (decide (a0_0 < (-1000000))) then (
A4 R ((0, some ⟨[(Aa a0_0), (Aa a0_1)], 88⟩) :: []) [some (Aa (4))]) else (
bif (decide (a0_0 > (1000000))) then (
A4 R ((0, some ⟨[(Aa a0_0), (Aa a0_1)], 88⟩) :: []) [some (Aa (4))]) else (
bif (decide (a0_1 < (-1000000))) then (
A4 R ((0, some ⟨[(Aa a0_0), (Aa a0_1)], 88⟩) :: []) [some (Aa (4))]) else (
bif (decide (a0_1 > (1000000))) then (
A4 R ((0, some ⟨[(Aa a0_0), (Aa a0_1)], 88⟩) :: []) [some (Aa (4))]) else (
A4 R ((0, some ⟨[(Aa a0_0), (Aa a0_1)], 88⟩) :: []) [some (Aa (0))]))))
theorem wV (a0_0 : Int) (a0_1 : Int) (R : AV → Mem → Prop) (h : F83 a0_0 a0_1 R) : Own pg KK.gl 83 [(AV.agg [(Aa a0_0), (Aa a0_1)])] R := Bj Ee Tryz.func83 (code := c83) (by kernel_rfl) (by kernel_rfl) (by kernel_rfl) (X := F83 a0_0 a0_1 R) (by kernel_rfl) h
noncomputable def c78 : Code := ((Tryz.f78).body).getD .skip
noncomputable def q78 (R : AV → Mem → Prop) : A9 → St → Prop := Dj pg Tryz.f78 R
noncomputable def cM : Code := Dt c78 0
noncomputable def dL (R : AV → Mem → Prop) : A9 → St → Prop := Du pg KK 86 0 c78 0 (q78 R)
noncomputable def yD (R : AV → Mem → Prop) (N0 : St → Prop) : A9 → St → Prop := Dv N0 (dL R)
def Ti (t0 : AV) (t2 : Int) (t14 : AV) (t15 : Int) (t16 : Int) (m : Mem) : St := ⟨[(0, t0), (2, (Aa t2)), (14, t14), (15, (Aa t15)), (16, (Aa t16))], m, 100000⟩
noncomputable def dA (t0 : AV) (t2 : Int) (t14 : AV) (t15 : Int) (t16 : Int) (m : Mem) (R : AV → Mem → Prop) (N0 : St → Prop) : Prop :=
bif (decide (t16 < t15)) then (
Bg (Db 6 t14 (Aa t16)) fun v6 =>
Bg (Ju (Al m) 6 v6) fun v7 =>
R7 v7 fun c8 c9 c10 Oh Q6 Ho =>
Af c8 fun z14 =>
Af c9 fun z15 =>
Af c10 fun z16 =>
Af Oh fun z17 =>
Af Q6 fun z18 =>
Af Ho fun z19 =>
bif (decide (z14 < (0))) then (
A4 R ((100004, some ⟨[(Aa z14), (Aa z15), (Aa z16), (Aa z17), (Aa z18), (Aa z19)], 134⟩) :: (100004, some ⟨[(Aa (0)), (Aa (0)), (Aa (0)), (Aa (0)), (Aa (0)), (Aa (0))], 134⟩) :: m) [some (Aa (12))]) else (
bif (decide (z14 > (200000))) then (
A4 R ((100004, some ⟨[(Aa z14), (Aa z15), (Aa z16), (Aa z17), (Aa z18), (Aa z19)], 134⟩) :: (100004, some ⟨[(Aa (0)), (Aa (0)), (Aa (0)), (Aa (0)), (Aa (0)), (Aa (0))], 134⟩) :: m) [some (Aa (12))]) else (
bif (decide (t16 > (0))) then (
Bg (Db 6 t0 (Aa (IntKind.wrap .i64 (t16 - (1))))) fun v20 =>
Bg (E1 0 v20) fun v21 =>
Bg (E1 0 v21) fun v22 =>
Bg (Fe (Al ((100004, some ⟨[(Aa z14), (Aa z15), (Aa z16), (Aa z17), (Aa z18), (Aa z19)], 134⟩) :: (100004, some ⟨[(Aa (0)), (Aa (0)), (Aa (0)), (Aa (0)), (Aa (0)), (Aa (0))], 134⟩) :: m)) v22) fun v23 =>
Af v23 fun z24 =>
bif (decide (z14 ≤ z24)) then (
A4 R ((100004, some ⟨[(Aa z14), (Aa z15), (Aa z16), (Aa z17), (Aa z18), (Aa z19)], 134⟩) :: (100004, some ⟨[(Aa (0)), (Aa (0)), (Aa (0)), (Aa (0)), (Aa (0)), (Aa (0))], 134⟩) :: m) [some (Aa (12))]) else (
Bv pg KK.gl ((100004, some ⟨[(Aa z14), (Aa z15), (Aa z16), (Aa z17), (Aa z18), (Aa z19)], 134⟩) :: (100004, some ⟨[(Aa (0)), (Aa (0)), (Aa (0)), (Aa (0)), (Aa (0)), (Aa (0))], 134⟩) :: m) 83 [(AV.agg [(Aa z15), (Aa z16)])] fun v25 =>
Af v25 fun z26 =>
bif (z26 != (0)) then (
A4 R ((100004, some ⟨[(Aa z14), (Aa z15), (Aa z16), (Aa z17), (Aa z18), (Aa z19)], 134⟩) :: (100004, some ⟨[(Aa (0)), (Aa (0)), (Aa (0)), (Aa (0)), (Aa (0)), (Aa (0))], 134⟩) :: m) [some (Aa z26)]) else (
bif (decide (z17 < (0))) then (
A4 R ((100004, some ⟨[(Aa z14), (Aa z15), (Aa z16), (Aa z17), (Aa z18), (Aa z19)], 134⟩) :: (100004, some ⟨[(Aa (0)), (Aa (0)), (Aa (0)), (Aa (0)), (Aa (0)), (Aa (0))], 134⟩) :: m) [some (Aa (4))]) else (
bif (decide (z17 > (60000))) then (
A4 R ((100004, some ⟨[(Aa z14), (Aa z15), (Aa z16), (Aa z17), (Aa z18), (Aa z19)], 134⟩) :: (100004, some ⟨[(Aa (0)), (Aa (0)), (Aa (0)), (Aa (0)), (Aa (0)), (Aa (0))], 134⟩) :: m) [some (Aa (4))]) else (
bif (decide (z18 < (0))) then (
A4 R ((100004, some ⟨[(Aa z14), (Aa z15), (Aa z16), (Aa z17), (Aa z18), (Aa z19)], 134⟩) :: (100004, some ⟨[(Aa (0)), (Aa (0)), (Aa (0)), (Aa (0)), (Aa (0)), (Aa (0))], 134⟩) :: m) [some (Aa (4))]) else (
bif (decide (z18 > (1000000))) then (
A4 R ((100004, some ⟨[(Aa z14), (Aa z15), (Aa z16), (Aa z17), (Aa z18), (Aa z19)], 134⟩) :: (100004, some ⟨[(Aa (0)), (Aa (0)), (Aa (0)), (Aa (0)), (Aa (0)), (Aa (0))], 134⟩) :: m) [some (Aa (4))]) else (
bif (decide (z19 < (0))) then (
A4 R ((100004, some ⟨[(Aa z14), (Aa z15), (Aa z16), (Aa z17), (Aa z18), (Aa z19)], 134⟩) :: (100004, some ⟨[(Aa (0)), (Aa (0)), (Aa (0)), (Aa (0)), (Aa (0)), (Aa (0))], 134⟩) :: m) [some (Aa (4))]) else (
bif (decide (z19 > (60000))) then (
A4 R ((100004, some ⟨[(Aa z14), (Aa z15), (Aa z16), (Aa z17), (Aa z18), (Aa z19)], 134⟩) :: (100004, some ⟨[(Aa (0)), (Aa (0)), (Aa (0)), (Aa (0)), (Aa (0)), (Aa (0))], 134⟩) :: m) [some (Aa (4))]) else (
N0 ⟨[(0, t0), (2, (Aa t2)), (14, t14), (15, (Aa t15)), (16, (Aa (IntKind.wrap .i64 (t16 + (1))))), (17, (Ac (decide (t16 < t15)))), (18, (Aa t16)), (19, v6), (20, (AV.agg [(Aa z14), (Aa z15), (Aa z16), (Aa z17), (Aa z18), (Aa z19)])), (4, (AV.ptr 100004 0)), (3, (Aa t16)), (21, (AV.ptr 100004 0)), (22, (AV.ptr 100004 0)), (23, (Aa z14)), (24, (Ac (decide (z14 < (0))))), (25, (Ac false)), (26, (AV.ptr 100004 0)), (27, (AV.ptr 100004 0)), (28, (Aa z14)), (29, (Ac (decide (z14 > (200000))))), (30, (Ac (decide (z14 > (200000))))), (31, (Ac false)), (32, (Aa t16)), (33, (Ac (decide (t16 > (0))))), (34, (Ac true)), (35, (AV.ptr 100004 0)), (36, (AV.ptr 100004 0)), (37, (Aa z14)), (38, t0), (39, (Aa t16)), (40, (Aa (IntKind.wrap .i64 (t16 - (1))))), (41, v20), (42, v21), (43, v22), (44, (Aa z24)), (45, (Ac (decide (z14 ≤ z24)))), (46, (Ac (decide (z14 ≤ z24)))), (47, (Ac (decide (z14 ≤ z24)))), (48, (AV.ptr 100004 0)), (49, (AV.ptr 100004 1)), (50, (AV.agg [(Aa z15), (Aa z16)])), (51, (Aa z26)), (5, (Aa z26)), (52, (Aa z26)), (53, (Ac (z26 != (0)))), (55, (AV.ptr 100004 0)), (56, (AV.ptr 100004 3)), (57, (Aa z17)), (58, (Ac (decide (z17 < (0))))), (59, (Ac false)), (60, (AV.ptr 100004 0)), (61, (AV.ptr 100004 3)), (62, (Aa z17)), (63, (Ac (decide (z17 > (60000))))), (64, (Ac (decide (z17 > (60000))))), (65, (Ac false)), (66, (AV.ptr 100004 4)), (67, (Aa z18)), (68, (Ac (decide (z18 < (0))))), (69, (Ac (decide (z18 < (0))))), (70, (Ac false)), (71, (AV.ptr 100004 4)), (72, (Aa z18)), (73, (Ac (decide (z18 > (1000000))))), (74, (Ac (decide (z18 > (1000000))))), (75, (Ac false)), (76, (AV.ptr 100004 5)), (77, (Aa z19)), (78, (Ac (decide (z19 < (0))))), (79, (Ac (decide (z19 < (0))))), (80, (Ac false)), (81, (AV.ptr 100004 5)), (82, (Aa z19)), (83, (Ac (decide (z19 > (60000))))), (84, (Ac (decide (z19 > (60000))))), (85, (Aa (IntKind.wrap .i64 (t16 + (1)))))], ((100004, some ⟨[(Aa z14), (Aa z15), (Aa z16), (Aa z17), (Aa z18), (Aa z19)], 134⟩) :: (100004, some ⟨[(Aa (0)), (Aa (0)), (Aa (0)), (Aa (0)), (Aa (0)), (Aa (0))], 134⟩) :: m), 100136⟩))))))))) else (
Bv pg KK.gl ((100004, some ⟨[(Aa z14), (Aa z15), (Aa z16), (Aa z17), (Aa z18), (Aa z19)], 134⟩) :: (100004, some ⟨[(Aa (0)), (Aa (0)), (Aa (0)), (Aa (0)), (Aa (0)), (Aa (0))], 134⟩) :: m) 83 [(AV.agg [(Aa z15), (Aa z16)])] fun v27 =>
Af v27 fun z28 =>
bif (z28 != (0)) then (
A4 R ((100004, some ⟨[(Aa z14), (Aa z15), (Aa z16), (Aa z17), (Aa z18), (Aa z19)], 134⟩) :: (100004, some ⟨[(Aa (0)), (Aa (0)), (Aa (0)), (Aa (0)), (Aa (0)), (Aa (0))], 134⟩) :: m) [some (Aa z28)]) else (
bif (decide (z17 < (0))) then (
A4 R ((100004, some ⟨[(Aa z14), (Aa z15), (Aa z16), (Aa z17), (Aa z18), (Aa z19)], 134⟩) :: (100004, some ⟨[(Aa (0)), (Aa (0)), (Aa (0)), (Aa (0)), (Aa (0)), (Aa (0))], 134⟩) :: m) [some (Aa (4))]) else (
bif (decide (z17 > (60000))) then (
A4 R ((100004, some ⟨[(Aa z14), (Aa z15), (Aa z16), (Aa z17), (Aa z18), (Aa z19)], 134⟩) :: (100004, some ⟨[(Aa (0)), (Aa (0)), (Aa (0)), (Aa (0)), (Aa (0)), (Aa (0))], 134⟩) :: m) [some (Aa (4))]) else (
bif (decide (z18 < (0))) then (
A4 R ((100004, some ⟨[(Aa z14), (Aa z15), (Aa z16), (Aa z17), (Aa z18), (Aa z19)], 134⟩) :: (100004, some ⟨[(Aa (0)), (Aa (0)), (Aa (0)), (Aa (0)), (Aa (0)), (Aa (0))], 134⟩) :: m) [some (Aa (4))]) else (
bif (decide (z18 > (1000000))) then (
A4 R ((100004, some ⟨[(Aa z14), (Aa z15), (Aa z16), (Aa z17), (Aa z18), (Aa z19)], 134⟩) :: (100004, some ⟨[(Aa (0)), (Aa (0)), (Aa (0)), (Aa (0)), (Aa (0)), (Aa (0))], 134⟩) :: m) [some (Aa (4))]) else (
bif (decide (z19 < (0))) then (
A4 R ((100004, some ⟨[(Aa z14), (Aa z15), (Aa z16), (Aa z17), (Aa z18), (Aa z19)], 134⟩) :: (100004, some ⟨[(Aa (0)), (Aa (0)), (Aa (0)), (Aa (0)), (Aa (0)), (Aa (0))], 134⟩) :: m) [some (Aa (4))]) else (
bif (decide (z19 > (60000))) then (
A4 R ((100004, some ⟨[(Aa z14), (Aa z15), (Aa z16), (Aa z17), (Aa z18), (Aa z19)], 134⟩) :: (100004, some ⟨[(Aa (0)), (Aa (0)), (Aa (0)), (Aa (0)), (Aa (0)), (Aa (0))], 134⟩) :: m) [some (Aa (4))]) else (
N0 ⟨[(0, t0), (2, (Aa t2)), (14, t14), (15, (Aa t15)), (16, (Aa (IntKind.wrap .i64 (t16 + (1))))), (17, (Ac (decide (t16 < t15)))), (18, (Aa t16)), (19, v6), (20, (AV.agg [(Aa z14), (Aa z15), (Aa z16), (Aa z17), (Aa z18), (Aa z19)])), (4, (AV.ptr 100004 0)), (3, (Aa t16)), (21, (AV.ptr 100004 0)), (22, (AV.ptr 100004 0)), (23, (Aa z14)), (24, (Ac (decide (z14 < (0))))), (25, (Ac false)), (26, (AV.ptr 100004 0)), (27, (AV.ptr 100004 0)), (28, (Aa z14)), (29, (Ac (decide (z14 > (200000))))), (30, (Ac (decide (z14 > (200000))))), (31, (Ac false)), (32, (Aa t16)), (33, (Ac (decide (t16 > (0))))), (34, (Ac false)), (35, (AV.tup [])), (36, (AV.tup [])), (37, (AV.tup [])), (38, (AV.tup [])), (39, (AV.tup [])), (40, (AV.tup [])), (41, (AV.tup [])), (42, (AV.tup [])), (43, (AV.tup [])), (44, (AV.tup [])), (45, (AV.tup [])), (46, (Ac false)), (47, (Ac false)), (48, (AV.ptr 100004 0)), (49, (AV.ptr 100004 1)), (50, (AV.agg [(Aa z15), (Aa z16)])), (51, (Aa z28)), (5, (Aa z28)), (52, (Aa z28)), (53, (Ac (z28 != (0)))), (55, (AV.ptr 100004 0)), (56, (AV.ptr 100004 3)), (57, (Aa z17)), (58, (Ac (decide (z17 < (0))))), (59, (Ac false)), (60, (AV.ptr 100004 0)), (61, (AV.ptr 100004 3)), (62, (Aa z17)), (63, (Ac (decide (z17 > (60000))))), (64, (Ac (decide (z17 > (60000))))), (65, (Ac false)), (66, (AV.ptr 100004 4)), (67, (Aa z18)), (68, (Ac (decide (z18 < (0))))), (69, (Ac (decide (z18 < (0))))), (70, (Ac false)), (71, (AV.ptr 100004 4)), (72, (Aa z18)), (73, (Ac (decide (z18 > (1000000))))), (74, (Ac (decide (z18 > (1000000))))), (75, (Ac false)), (76, (AV.ptr 100004 5)), (77, (Aa z19)), (78, (Ac (decide (z19 < (0))))), (79, (Ac (decide (z19 < (0))))), (80, (Ac false)), (81, (AV.ptr 100004 5)), (82, (Aa z19)), (83, (Ac (decide (z19 > (60000))))), (84, (Ac (decide (z19 > (60000))))), (85, (Aa (IntKind.wrap .i64 (t16 + (1)))))], ((100004, some ⟨[(Aa z14), (Aa z15), (Aa z16), (Aa z17), (Aa z18), (Aa z19)], 134⟩) :: (100004, some ⟨[(Aa (0)), (Aa (0)), (Aa (0)), (Aa (0)), (Aa (0)), (Aa (0))], 134⟩) :: m), 100136⟩))))))))))) else (
A4 R m [some (Aa (0))])
theorem nH (t0 : AV) (t2 : Int) (t14 : AV) (t15 : Int) (t16 : Int) (m : Mem) (R : AV → Mem → Prop) (N0 : St → Prop) : W pg KK 86 0 cM (Ti t0 t2 t14 t15 t16 m) (yD R N0) = dA t0 t2 t14 t15 t16 m R N0 := by kernel_rfl
theorem Adx (R : AV → Mem → Prop) {σ : Type} (I : σ → Prop) (t0 : σ → AV) (t2 : σ → Int) (t14 : σ → AV) (t15 : σ → Int) (t16 : σ → Int) (m : σ → Mem) (μ : σ → Nat) (step : ∀ x, I x → dA (t0 x) (t2 x) (t14 x) (t15 x) (t16 x) (m x) R (fun s' => ∃ y, I y ∧ μ y < μ x ∧ Bo KK 86 0 s' (Ti (t0 y) (t2 y) (t14 y) (t15 y) (t16 y) (m y)))) (x : σ) (hx : I x) {s : St} (hw : Bo KK 86 0 s (Ti (t0 x) (t2 x) (t14 x) (t15 x) (t16 x) (m x))) : Ca pg KK 86 0 (.loop cM) s (dL R) :=
  Ca.Fk hw (Ca.loops Ee I (fun x => Ti (t0 x) (t2 x) (t14 x) (t15 x) (t16 x) (m x)) μ (fun x hx => (nH (t0 x) (t2 x) (t14 x) (t15 x) (t16 x) (m x) R _).mpr (step x hx)) x hx)
noncomputable def F78 (a0 : AV) (R : AV → Mem → Prop) : Prop :=
Bg (Dh a0) fun v0 =>
Af v0 fun z1 =>
bif (decide (z1 > (64))) then (
A4 R [] [some (Aa (2))]) else (
Bg (Dh a0) fun v2 =>
Af v2 fun z3 =>
bif (z3 == (0)) then (
A4 R [] [some (Aa (3))]) else (
Bg (Dh a0) fun v4 =>
Af v4 fun z5 =>
Ca pg KK 86 0 (.loop cM) ⟨[(0, a0), (2, (Aa (0))), (7, a0), (8, (Aa z1)), (9, (Ac (decide (z1 > (64))))), (6, (Ac (decide (z1 > (64))))), (11, a0), (12, (Aa z3)), (13, (Ac (z3 == (0)))), (10, (Ac (z3 == (0)))), (14, a0), (15, (Aa z5)), (16, (Aa (0)))], [], 12⟩ (dL R)))
theorem tY (a0 : AV) (R : AV → Mem → Prop) (h : F78 a0 R) : Own pg KK.gl 78 [a0] R := Bj Ee Tryz.func78 (code := c78) (by kernel_rfl) (by kernel_rfl) (by kernel_rfl) (X := F78 a0 R) (by kernel_rfl) h
noncomputable def yZ : Code := ((Tryz.f148).body).getD .skip
noncomputable def Aev (R : AV → Mem → Prop) : A9 → St → Prop := Dj pg Tryz.f148 R
noncomputable def V6 : Code := Dt yZ 0
noncomputable def Ws (R : AV → Mem → Prop) : A9 → St → Prop := Du pg KK 26 0 yZ 0 (Aev R)
noncomputable def vG (R : AV → Mem → Prop) (N0 : St → Prop) : A9 → St → Prop := Dv N0 (Ws R)
def Oe (t4 : Int) (t14 : AV) (t15 : Int) (t16 : Int) (m : Mem) : St := ⟨[(4, (Aa t4)), (14, t14), (15, (Aa t15)), (16, (Aa t16))], m, 100000⟩
noncomputable def Um (t4 : Int) (t14 : AV) (t15 : Int) (t16 : Int) (m : Mem) (R : AV → Mem → Prop) (N0 : St → Prop) : Prop :=
bif (decide (t16 < t15)) then (
Bg (Db 1 t14 (Aa t16)) fun v4 =>
Bg (Fe (Al m) v4) fun v5 =>
Bv pg KK.gl m 78 [v5] fun v6 =>
Af v6 fun z7 =>
bif (z7 != (0)) then (
A4 R m [some (Aa z7)]) else (
N0 ⟨[(4, (Aa t4)), (14, t14), (15, (Aa t15)), (16, (Aa (IntKind.wrap .i64 (t16 + (1))))), (17, (Ac (decide (t16 < t15)))), (18, v4), (19, v5), (7, v5), (20, v5), (21, (Aa z7)), (8, (Aa z7)), (22, (Aa z7)), (23, (Ac (z7 != (0)))), (25, (Aa (IntKind.wrap .i64 (t16 + (1)))))], m, 100074⟩)) else (
A4 R m [some (Aa (0))])
theorem gA (t4 : Int) (t14 : AV) (t15 : Int) (t16 : Int) (m : Mem) (R : AV → Mem → Prop) (N0 : St → Prop) : W pg KK 26 0 V6 (Oe t4 t14 t15 t16 m) (vG R N0) = Um t4 t14 t15 t16 m R N0 := by kernel_rfl
theorem Aa2 (R : AV → Mem → Prop) {σ : Type} (I : σ → Prop) (t4 : σ → Int) (t14 : σ → AV) (t15 : σ → Int) (t16 : σ → Int) (m : σ → Mem) (μ : σ → Nat) (step : ∀ x, I x → Um (t4 x) (t14 x) (t15 x) (t16 x) (m x) R (fun s' => ∃ y, I y ∧ μ y < μ x ∧ Bo KK 26 0 s' (Oe (t4 y) (t14 y) (t15 y) (t16 y) (m y)))) (x : σ) (hx : I x) {s : St} (hw : Bo KK 26 0 s (Oe (t4 x) (t14 x) (t15 x) (t16 x) (m x))) : Ca pg KK 26 0 (.loop V6) s (Ws R) :=
  Ca.Fk hw (Ca.loops Ee I (fun x => Oe (t4 x) (t14 x) (t15 x) (t16 x) (m x)) μ (fun x hx => (gA (t4 x) (t14 x) (t15 x) (t16 x) (m x) R _).mpr (step x hx)) x hx)
noncomputable def tT (a0_0 : Int) (a0_1 : Int) (a1 : AV) (R : AV → Mem → Prop) : Prop :=
Bv pg KK.gl ((0, some ⟨[(Aa a0_0), (Aa a0_1)], 93⟩) :: []) 161 [(AV.agg [(Aa a0_0), (Aa a0_1)])] fun v0 =>
Af v0 fun z1 =>
bif (z1 != (0)) then (
A4 R ((0, some ⟨[(Aa a0_0), (Aa a0_1)], 93⟩) :: []) [some (Aa z1)]) else (
Bg (Dh a1) fun v2 =>
Af v2 fun z3 =>
Ca pg KK 26 0 (.loop V6) ⟨[(0, (AV.agg [(Aa a0_0), (Aa a0_1)])), (1, a1), (2, (AV.ptr 0 0)), (4, (Aa (0))), (9, (AV.agg [(Aa a0_0), (Aa a0_1)])), (10, (Aa z1)), (5, (Aa z1)), (11, (Aa z1)), (12, (Ac (z1 != (0)))), (14, a1), (15, (Aa z3)), (16, (Aa (0)))], ((0, some ⟨[(Aa a0_0), (Aa a0_1)], 93⟩) :: []), 73⟩ (Ws R))
theorem nB (a0_0 : Int) (a0_1 : Int) (a1 : AV) (R : AV → Mem → Prop) (h : tT a0_0 a0_1 a1 R) : Own pg KK.gl 148 [(AV.agg [(Aa a0_0), (Aa a0_1)]), a1] R := Bj Ee Tryz.func148 (code := yZ) (by kernel_rfl) (by kernel_rfl) (by kernel_rfl) (X := tT a0_0 a0_1 a1 R) (by kernel_rfl) h
noncomputable def Ae2 : Code := ((Tryz.f201).body).getD .skip
noncomputable def Ago (R : AV → Mem → Prop) : A9 → St → Prop := Dj pg Tryz.f201 R
noncomputable def rT (a0 : AV) (a1 : AV) (R : AV → Mem → Prop) : Prop :=
Bg (Db 6 a0 (Aa (0))) fun v0 =>
Bg (E1 0 v0) fun v1 =>
Bg (E1 0 v1) fun v2 =>
Bg (Fe (Al []) v2) fun v3 =>
Af v3 fun z4 =>
Bg (Db 6 a1 (Aa (0))) fun v5 =>
Bg (E1 0 v5) fun v6 =>
Bg (E1 0 v6) fun v7 =>
Bg (Fe (Al []) v7) fun v8 =>
Af v8 fun z9 =>
Bg (B9 pg (.call ⟨.builtin .max, #[.tmp 0, .tmp 1], #[3, 3]⟩) 3 [(Aa z4), (Aa z9)] (Al []) 12) fun v10 =>
Af v10 fun z11 =>
Bg (Dh a0) fun v12 =>
Af v12 fun z13 =>
Bg (Db 6 a0 (Aa (IntKind.wrap .i64 (z13 - (1))))) fun v14 =>
Bg (E1 0 v14) fun v15 =>
Bg (E1 0 v15) fun v16 =>
Bg (Fe (Al []) v16) fun v17 =>
Af v17 fun z18 =>
Bg (Dh a1) fun v19 =>
Af v19 fun z20 =>
Bg (Db 6 a1 (Aa (IntKind.wrap .i64 (z20 - (1))))) fun v21 =>
Bg (E1 0 v21) fun v22 =>
Bg (E1 0 v22) fun v23 =>
Bg (Fe (Al []) v23) fun v24 =>
Af v24 fun z25 =>
Bg (B9 pg (.call ⟨.builtin .min, #[.tmp 0, .tmp 1], #[3, 3]⟩) 3 [(Aa z18), (Aa z25)] (Al []) 29) fun v26 =>
Af v26 fun z27 =>
A4 R [] [some (Aa z11), some (Aa z27)]
theorem oL (a0 : AV) (a1 : AV) (R : AV → Mem → Prop) (h : rT a0 a1 R) : Own pg KK.gl 201 [a0, a1] R := Bj Ee Tryz.func201 (code := Ae2) (by kernel_rfl) (by kernel_rfl) (by kernel_rfl) (X := rT a0 a1 R) (by kernel_rfl) h
noncomputable def Aa7 : Code := ((Tryz.f141).body).getD .skip
noncomputable def Aha (R : AV → Mem → Prop) : A9 → St → Prop := Dj pg Tryz.f141 R
noncomputable def uF (a0 : AV) (R : AV → Mem → Prop) : Prop :=
Bg (Db 6 a0 (Aa (0))) fun v0 =>
Bg (E1 0 v0) fun v1 =>
Bg (E1 0 v1) fun v2 =>
Bg (Fe (Al []) v2) fun v3 =>
Af v3 fun z4 =>
Bg (Dh a0) fun v5 =>
Af v5 fun z6 =>
Bg (Db 6 a0 (Aa (IntKind.wrap .i64 (z6 - (1))))) fun v7 =>
Bg (E1 0 v7) fun v8 =>
Bg (E1 0 v8) fun v9 =>
Bg (Fe (Al []) v9) fun v10 =>
Af v10 fun z11 =>
A4 R [] [some (Aa z4), some (Aa z11)]
theorem oX (a0 : AV) (R : AV → Mem → Prop) (h : uF a0 R) : Own pg KK.gl 141 [a0] R := Bj Ee Tryz.func141 (code := Aa7) (by kernel_rfl) (by kernel_rfl) (by kernel_rfl) (X := uF a0 R) (by kernel_rfl) h
noncomputable def Afy : Code := ((Tryz.f190).body).getD .skip
noncomputable def Agn (R : AV → Mem → Prop) : A9 → St → Prop := Dj pg Tryz.f190 R
noncomputable def wY (a0_0 : Int) (a0_1 : Int) (a0_2 : Int) (a0_3 : Int) (a0_4 : Int) (a0_5 : Int) (a1 : Int) (R : AV → Mem → Prop) : Prop :=
A4 R ((0, some ⟨[(Aa a0_0), (Aa a0_1), (Aa a0_2), (Aa a0_3), (Aa a0_4), (Aa a0_5)], 134⟩) :: []) [some (Aa (IntKind.wrap .i64 (a0_0 - a1)))]
theorem mI (a0_0 : Int) (a0_1 : Int) (a0_2 : Int) (a0_3 : Int) (a0_4 : Int) (a0_5 : Int) (a1 : Int) (R : AV → Mem → Prop) (h : wY a0_0 a0_1 a0_2 a0_3 a0_4 a0_5 a1 R) : Own pg KK.gl 190 [(AV.agg [(Aa a0_0), (Aa a0_1), (Aa a0_2), (Aa a0_3), (Aa a0_4), (Aa a0_5)]), (Aa a1)] R := Bj Ee Tryz.func190 (code := Afy) (by kernel_rfl) (by kernel_rfl) (by kernel_rfl) (X := wY a0_0 a0_1 a0_2 a0_3 a0_4 a0_5 a1 R) (by kernel_rfl) h
noncomputable def zY : Code := ((Tryz.f189).body).getD .skip
noncomputable def Afq (R : AV → Mem → Prop) : A9 → St → Prop := Dj pg Tryz.f189 R
noncomputable def Vc : Code := Dt zY 0
noncomputable def Ty (R : AV → Mem → Prop) : A9 → St → Prop := Du pg KK 49 0 zY 0 (Afq R)
noncomputable def uS (R : AV → Mem → Prop) (N0 : St → Prop) : A9 → St → Prop := Dv N0 (Ty R)
def Oj (t0 : AV) (t1 : Int) (t2 : AV) (t6 : Int) (t7 : Bool) (t8 : Int) (t9 : Int) (t10 : Int) (m : Mem) : St := ⟨[(0, t0), (1, (Aa t1)), (2, t2), (6, (Aa t6)), (7, (Ac t7)), (8, (Aa t8)), (9, (Aa t9)), (10, (Aa t10))], m, 100000⟩
noncomputable def Vg (t0 : AV) (t1 : Int) (t2 : AV) (t6 : Int) (t7 : Bool) (t8 : Int) (t9 : Int) (t10 : Int) (m : Mem) (R : AV → Mem → Prop) (N0 : St → Prop) : Prop :=
bif (decide (t9 < t10)) then (
Bg (B9 pg (.convert 3 140 (.tmp 0)) 140 [(Aa (IntKind.wrap .i64 (t9 + t10)))] (Al m) 100006) fun v2 =>
J8 v2 fun z3 =>
Bg (B9 pg (.binOp .shr 140 (.tmp 0) (.tmp 1) 140) 140 [(AV.sc (.int .u64 z3)), (AV.sc (.int .u64 (1)))] (Al m) 100007) fun v4 =>
J8 v4 fun z5 =>
Bg (B9 pg (.convert 140 3 (.tmp 0)) 3 [(AV.sc (.int .u64 z5))] (Al m) 100008) fun v6 =>
Af v6 fun z7 =>
Bg (Db 6 t0 (Aa z7)) fun v8 =>
Bg (Ju (Al m) 6 v8) fun v9 =>
R7 v9 fun c10 Oh Q6 Ho c14 c15 =>
Af c10 fun z16 =>
Af Oh fun z17 =>
Af Q6 fun z18 =>
Af Ho fun z19 =>
Af c14 fun z20 =>
Af c15 fun z21 =>
Hp (some t2) (some [(AV.agg [(Aa z16), (Aa z17), (Aa z18), (Aa z19), (Aa z20), (Aa z21)]), (Aa t1)]) fun f22 a22 => bif KK.pm f22 then Bv pg KK.gl m f22 a22 (fun v22 =>
Af v22 fun z23 =>
bif (decide (z23 < (0))) then (
N0 ⟨[(0, t0), (1, (Aa t1)), (2, t2), (6, (Aa t6)), (7, (Ac t7)), (8, (Aa t8)), (9, (Aa (IntKind.wrap .i64 (z7 + (1))))), (10, (Aa t10)), (15, (Aa t9)), (16, (Aa t10)), (17, (Ac (decide (t9 < t10)))), (18, (Aa t9)), (19, (Aa t10)), (20, (Aa (IntKind.wrap .i64 (t9 + t10)))), (21, (AV.sc (.int .u64 z3))), (22, (AV.sc (.int .u64 z5))), (23, (Aa z7)), (11, (Aa z7)), (24, t2), (25, t0), (26, (Aa z7)), (27, v8), (28, (AV.agg [(Aa z16), (Aa z17), (Aa z18), (Aa z19), (Aa z20), (Aa z21)])), (29, (Aa t1)), (30, (Aa z23)), (31, (Ac (decide (z23 < (0))))), (32, (Aa z7)), (33, (Aa (IntKind.wrap .i64 (z7 + (1)))))], m, 100084⟩) else (
N0 ⟨[(0, t0), (1, (Aa t1)), (2, t2), (6, (Aa t6)), (7, (Ac t7)), (8, (Aa t8)), (9, (Aa t9)), (10, (Aa z7)), (15, (Aa t9)), (16, (Aa t10)), (17, (Ac (decide (t9 < t10)))), (18, (Aa t9)), (19, (Aa t10)), (20, (Aa (IntKind.wrap .i64 (t9 + t10)))), (21, (AV.sc (.int .u64 z3))), (22, (AV.sc (.int .u64 z5))), (23, (Aa z7)), (11, (Aa z7)), (24, t2), (25, t0), (26, (Aa z7)), (27, v8), (28, (AV.agg [(Aa z16), (Aa z17), (Aa z18), (Aa z19), (Aa z20), (Aa z21)])), (29, (Aa t1)), (30, (Aa z23)), (31, (Ac (decide (z23 < (0))))), (34, (Aa z7))], m, 100083⟩)) else Ed pg KK.gl m 100016 f22 a22 fun v22 m22 =>
Af v22 fun z23 =>
bif (decide (z23 < (0))) then (
N0 ⟨[(0, t0), (1, (Aa t1)), (2, t2), (6, (Aa t6)), (7, (Ac t7)), (8, (Aa t8)), (9, (Aa (IntKind.wrap .i64 (z7 + (1))))), (10, (Aa t10)), (15, (Aa t9)), (16, (Aa t10)), (17, (Ac (decide (t9 < t10)))), (18, (Aa t9)), (19, (Aa t10)), (20, (Aa (IntKind.wrap .i64 (t9 + t10)))), (21, (AV.sc (.int .u64 z3))), (22, (AV.sc (.int .u64 z5))), (23, (Aa z7)), (11, (Aa z7)), (24, t2), (25, t0), (26, (Aa z7)), (27, v8), (28, (AV.agg [(Aa z16), (Aa z17), (Aa z18), (Aa z19), (Aa z20), (Aa z21)])), (29, (Aa t1)), (30, (Aa z23)), (31, (Ac (decide (z23 < (0))))), (32, (Aa z7)), (33, (Aa (IntKind.wrap .i64 (z7 + (1)))))], m22, 100084⟩) else (
N0 ⟨[(0, t0), (1, (Aa t1)), (2, t2), (6, (Aa t6)), (7, (Ac t7)), (8, (Aa t8)), (9, (Aa t9)), (10, (Aa z7)), (15, (Aa t9)), (16, (Aa t10)), (17, (Ac (decide (t9 < t10)))), (18, (Aa t9)), (19, (Aa t10)), (20, (Aa (IntKind.wrap .i64 (t9 + t10)))), (21, (AV.sc (.int .u64 z3))), (22, (AV.sc (.int .u64 z5))), (23, (Aa z7)), (11, (Aa z7)), (24, t2), (25, t0), (26, (Aa z7)), (27, v8), (28, (AV.agg [(Aa z16), (Aa z17), (Aa z18), (Aa z19), (Aa z20), (Aa z21)])), (29, (Aa t1)), (30, (Aa z23)), (31, (Ac (decide (z23 < (0))))), (34, (Aa z7))], m22, 100083⟩)) else (
bif (decide (t9 < t8)) then (
Bg (Db 6 t0 (Aa t9)) fun v24 =>
Bg (Ju (Al m) 6 v24) fun v25 =>
R7 v25 fun c26 kZ c28 c29 c30 c31 =>
Af c26 fun z32 =>
Af kZ fun z33 =>
Af c28 fun z34 =>
Af c29 fun z35 =>
Af c30 fun z36 =>
Af c31 fun z37 =>
Hp (some t2) (some [(AV.agg [(Aa z32), (Aa z33), (Aa z34), (Aa z35), (Aa z36), (Aa z37)]), (Aa t1)]) fun f38 a38 => bif KK.pm f38 then Bv pg KK.gl m f38 a38 (fun v38 =>
Af v38 fun z39 =>
A4 R m [some (Aa t9), some (Ac (z39 == (0)))]) else Ed pg KK.gl m 100014 f38 a38 fun v38 m38 =>
Af v38 fun z39 =>
A4 R m38 [some (Aa t9), some (Ac (z39 == (0)))]) else (
A4 R m [some (Aa t9), some (Ac false)]))
theorem fY (t0 : AV) (t1 : Int) (t2 : AV) (t6 : Int) (t7 : Bool) (t8 : Int) (t9 : Int) (t10 : Int) (m : Mem) (R : AV → Mem → Prop) (N0 : St → Prop) : W pg KK 49 0 Vc (Oj t0 t1 t2 t6 t7 t8 t9 t10 m) (uS R N0) = Vg t0 t1 t2 t6 t7 t8 t9 t10 m R N0 := by kernel_rfl
theorem yS (R : AV → Mem → Prop) {σ : Type} (I : σ → Prop) (t0 : σ → AV) (t1 : σ → Int) (t2 : σ → AV) (t6 : σ → Int) (t7 : σ → Bool) (t8 : σ → Int) (t9 : σ → Int) (t10 : σ → Int) (m : σ → Mem) (μ : σ → Nat) (step : ∀ x, I x → Vg (t0 x) (t1 x) (t2 x) (t6 x) (t7 x) (t8 x) (t9 x) (t10 x) (m x) R (fun s' => ∃ y, I y ∧ μ y < μ x ∧ Bo KK 49 0 s' (Oj (t0 y) (t1 y) (t2 y) (t6 y) (t7 y) (t8 y) (t9 y) (t10 y) (m y)))) (x : σ) (hx : I x) {s : St} (hw : Bo KK 49 0 s (Oj (t0 x) (t1 x) (t2 x) (t6 x) (t7 x) (t8 x) (t9 x) (t10 x) (m x))) : Ca pg KK 49 0 (.loop Vc) s (Ty R) :=
  Ca.Fk hw (Ca.loops Ee I (fun x => Oj (t0 x) (t1 x) (t2 x) (t6 x) (t7 x) (t8 x) (t9 x) (t10 x) (m x)) μ (fun x hx => (fY (t0 x) (t1 x) (t2 x) (t6 x) (t7 x) (t8 x) (t9 x) (t10 x) (m x) R _).mpr (step x hx)) x hx)
noncomputable def wI (a0 : AV) (a1 : Int) (a2 : AV) (R : AV → Mem → Prop) : Prop :=
Bg (Dh a0) fun v0 =>
Af v0 fun z1 =>
Ca pg KK 49 0 (.loop Vc) ⟨[(0, a0), (1, (Aa a1)), (2, a2), (6, (Aa (0))), (7, (Ac false)), (12, a0), (13, (Aa z1)), (8, (Aa z1)), (14, (Aa z1)), (9, (Aa (0))), (10, (Aa z1))], [], 8⟩ (Ty R)
theorem j4 (a0 : AV) (a1 : Int) (a2 : AV) (R : AV → Mem → Prop) (h : wI a0 a1 a2 R) : Own pg KK.gl 189 [a0, (Aa a1), a2] R := Bj Ee Tryz.func189 (code := zY) (by kernel_rfl) (by kernel_rfl) (by kernel_rfl) (X := wI a0 a1 a2 R) (by kernel_rfl) h
noncomputable def Ae3 : Code := ((Tryz.f192).body).getD .skip
noncomputable def Aho (R : AV → Mem → Prop) : A9 → St → Prop := Dj pg Tryz.f192 R
noncomputable def qQ (a0 : Int) (a1 : Int) (R : AV → Mem → Prop) : Prop :=
bif (a1 == (0)) then (
A4 R [] [some (Aa (0)), some (Aa (10))]) else (
bif (a0 == (-9223372036854775808)) then (
bif (a1 == (-1)) then (
A4 R [] [some (Aa (0)), some (Aa (2))]) else (
Bg (B9 pg (.binOp .quo 3 (.tmp 0) (.tmp 1) 3) 3 [(Aa a0), (Aa a1)] (Al []) 14) fun v0 =>
Af v0 fun z1 =>
Bg (B9 pg (.binOp .rem 3 (.tmp 0) (.tmp 1) 3) 3 [(Aa a0), (Aa a1)] (Al []) 18) fun v2 =>
Af v2 fun z3 =>
bif (z3 != (0)) then (
Bg (B9 pg (.binOp .neq 4 (.tmp 0) (.tmp 1) 4) 4 [(Ac (decide (a0 < (0)))), (Ac (decide (a1 < (0))))] (Al []) 25) fun v4 =>
G2 v4 fun b5 =>
bif b5 then (
A4 R [] [some (Aa (IntKind.wrap .i64 (z1 - (1)))), some (Aa (0))]) else (
A4 R [] [some (Aa z1), some (Aa (0))])) else (
A4 R [] [some (Aa z1), some (Aa (0))]))) else (
Bg (B9 pg (.binOp .quo 3 (.tmp 0) (.tmp 1) 3) 3 [(Aa a0), (Aa a1)] (Al []) 12) fun v6 =>
Af v6 fun z7 =>
Bg (B9 pg (.binOp .rem 3 (.tmp 0) (.tmp 1) 3) 3 [(Aa a0), (Aa a1)] (Al []) 16) fun v8 =>
Af v8 fun z9 =>
bif (z9 != (0)) then (
Bg (B9 pg (.binOp .neq 4 (.tmp 0) (.tmp 1) 4) 4 [(Ac (decide (a0 < (0)))), (Ac (decide (a1 < (0))))] (Al []) 23) fun v10 =>
G2 v10 fun b11 =>
bif b11 then (
A4 R [] [some (Aa (IntKind.wrap .i64 (z7 - (1)))), some (Aa (0))]) else (
A4 R [] [some (Aa z7), some (Aa (0))])) else (
A4 R [] [some (Aa z7), some (Aa (0))])))
theorem lB (a0 : Int) (a1 : Int) (R : AV → Mem → Prop) (h : qQ a0 a1 R) : Own pg KK.gl 192 [(Aa a0), (Aa a1)] R := Bj Ee Tryz.func192 (code := Ae3) (by kernel_rfl) (by kernel_rfl) (by kernel_rfl) (X := qQ a0 a1 R) (by kernel_rfl) h
noncomputable def Aen : Code := ((Tryz.f191).body).getD .skip
noncomputable def Ag3 (R : AV → Mem → Prop) : A9 → St → Prop := Dj pg Tryz.f191 R
noncomputable def tA (a0_0 : Int) (a0_1 : Int) (a1_0 : Int) (a1_1 : Int) (a2 : Int) (a3 : Int) (R : AV → Mem → Prop) : Prop :=
bif (decide (a3 ≤ (0))) then (
Bg (Wx [(Aa (0)), (Aa (0))] [(0, 1), (1, 1)] []) fun v0 =>
C4 pg (Al ((2, some ⟨[(Aa (0)), (Aa (0))], 88⟩) :: (1, some ⟨[(Aa a1_0), (Aa a1_1)], 88⟩) :: (0, some ⟨[(Aa a0_0), (Aa a0_1)], 88⟩) :: [])) 88 (AV.ptr 2 0) v0 fun v1 d1 =>
A4 R (Ae ((2, some ⟨[(Aa (0)), (Aa (0))], 88⟩) :: (1, some ⟨[(Aa a1_0), (Aa a1_1)], 88⟩) :: (0, some ⟨[(Aa a0_0), (Aa a0_1)], 88⟩) :: []) d1) [(Gl pg (Al (Ae ((2, some ⟨[(Aa (0)), (Aa (0))], 88⟩) :: (1, some ⟨[(Aa a1_0), (Aa a1_1)], 88⟩) :: (0, some ⟨[(Aa a0_0), (Aa a0_1)], 88⟩) :: []) d1)) 88 (AV.ptr 2 0)).map (·.1), some (Aa (10))]) else (
bif (decide (a3 > (200000))) then (
Bg (Wx [(Aa (0)), (Aa (0))] [(0, 1), (1, 1)] []) fun v2 =>
C4 pg (Al ((2, some ⟨[(Aa (0)), (Aa (0))], 88⟩) :: (1, some ⟨[(Aa a1_0), (Aa a1_1)], 88⟩) :: (0, some ⟨[(Aa a0_0), (Aa a0_1)], 88⟩) :: [])) 88 (AV.ptr 2 0) v2 fun v3 d3 =>
A4 R (Ae ((2, some ⟨[(Aa (0)), (Aa (0))], 88⟩) :: (1, some ⟨[(Aa a1_0), (Aa a1_1)], 88⟩) :: (0, some ⟨[(Aa a0_0), (Aa a0_1)], 88⟩) :: []) d3) [(Gl pg (Al (Ae ((2, some ⟨[(Aa (0)), (Aa (0))], 88⟩) :: (1, some ⟨[(Aa a1_0), (Aa a1_1)], 88⟩) :: (0, some ⟨[(Aa a0_0), (Aa a0_1)], 88⟩) :: []) d3)) 88 (AV.ptr 2 0)).map (·.1), some (Aa (4))]) else (
bif (decide (a2 < (0))) then (
Bg (Wx [(Aa (0)), (Aa (0))] [(0, 1), (1, 1)] []) fun v4 =>
C4 pg (Al ((2, some ⟨[(Aa (0)), (Aa (0))], 88⟩) :: (1, some ⟨[(Aa a1_0), (Aa a1_1)], 88⟩) :: (0, some ⟨[(Aa a0_0), (Aa a0_1)], 88⟩) :: [])) 88 (AV.ptr 2 0) v4 fun v5 d5 =>
A4 R (Ae ((2, some ⟨[(Aa (0)), (Aa (0))], 88⟩) :: (1, some ⟨[(Aa a1_0), (Aa a1_1)], 88⟩) :: (0, some ⟨[(Aa a0_0), (Aa a0_1)], 88⟩) :: []) d5) [(Gl pg (Al (Ae ((2, some ⟨[(Aa (0)), (Aa (0))], 88⟩) :: (1, some ⟨[(Aa a1_0), (Aa a1_1)], 88⟩) :: (0, some ⟨[(Aa a0_0), (Aa a0_1)], 88⟩) :: []) d5)) 88 (AV.ptr 2 0)).map (·.1), some (Aa (4))]) else (
bif (decide (a2 > a3)) then (
Bg (Wx [(Aa (0)), (Aa (0))] [(0, 1), (1, 1)] []) fun v6 =>
C4 pg (Al ((2, some ⟨[(Aa (0)), (Aa (0))], 88⟩) :: (1, some ⟨[(Aa a1_0), (Aa a1_1)], 88⟩) :: (0, some ⟨[(Aa a0_0), (Aa a0_1)], 88⟩) :: [])) 88 (AV.ptr 2 0) v6 fun v7 d7 =>
A4 R (Ae ((2, some ⟨[(Aa (0)), (Aa (0))], 88⟩) :: (1, some ⟨[(Aa a1_0), (Aa a1_1)], 88⟩) :: (0, some ⟨[(Aa a0_0), (Aa a0_1)], 88⟩) :: []) d7) [(Gl pg (Al (Ae ((2, some ⟨[(Aa (0)), (Aa (0))], 88⟩) :: (1, some ⟨[(Aa a1_0), (Aa a1_1)], 88⟩) :: (0, some ⟨[(Aa a0_0), (Aa a0_1)], 88⟩) :: []) d7)) 88 (AV.ptr 2 0)).map (·.1), some (Aa (4))]) else (
Bv pg KK.gl ((2, some ⟨[(Aa (0)), (Aa (0))], 88⟩) :: (1, some ⟨[(Aa a1_0), (Aa a1_1)], 88⟩) :: (0, some ⟨[(Aa a0_0), (Aa a0_1)], 88⟩) :: []) 83 [(AV.agg [(Aa a0_0), (Aa a0_1)])] fun v8 =>
Af v8 fun z9 =>
bif (z9 != (0)) then (
Bg (Wx [(Aa (0)), (Aa (0))] [(0, 1), (1, 1)] []) fun v10 =>
Bv pg KK.gl ((2, some ⟨[(Aa (0)), (Aa (0))], 88⟩) :: (1, some ⟨[(Aa a1_0), (Aa a1_1)], 88⟩) :: (0, some ⟨[(Aa a0_0), (Aa a0_1)], 88⟩) :: []) 83 [(AV.agg [(Aa a0_0), (Aa a0_1)])] fun v11 =>
Af v11 fun z12 =>
C4 pg (Al ((2, some ⟨[(Aa (0)), (Aa (0))], 88⟩) :: (1, some ⟨[(Aa a1_0), (Aa a1_1)], 88⟩) :: (0, some ⟨[(Aa a0_0), (Aa a0_1)], 88⟩) :: [])) 88 (AV.ptr 2 0) v10 fun v13 d13 =>
A4 R (Ae ((2, some ⟨[(Aa (0)), (Aa (0))], 88⟩) :: (1, some ⟨[(Aa a1_0), (Aa a1_1)], 88⟩) :: (0, some ⟨[(Aa a0_0), (Aa a0_1)], 88⟩) :: []) d13) [(Gl pg (Al (Ae ((2, some ⟨[(Aa (0)), (Aa (0))], 88⟩) :: (1, some ⟨[(Aa a1_0), (Aa a1_1)], 88⟩) :: (0, some ⟨[(Aa a0_0), (Aa a0_1)], 88⟩) :: []) d13)) 88 (AV.ptr 2 0)).map (·.1), some (Aa z12)]) else (
Bv pg KK.gl ((2, some ⟨[(Aa (0)), (Aa (0))], 88⟩) :: (1, some ⟨[(Aa a1_0), (Aa a1_1)], 88⟩) :: (0, some ⟨[(Aa a0_0), (Aa a0_1)], 88⟩) :: []) 83 [(AV.agg [(Aa a1_0), (Aa a1_1)])] fun v14 =>
Af v14 fun z15 =>
bif (z15 != (0)) then (
Bg (Wx [(Aa (0)), (Aa (0))] [(0, 1), (1, 1)] []) fun v16 =>
Bv pg KK.gl ((2, some ⟨[(Aa (0)), (Aa (0))], 88⟩) :: (1, some ⟨[(Aa a1_0), (Aa a1_1)], 88⟩) :: (0, some ⟨[(Aa a0_0), (Aa a0_1)], 88⟩) :: []) 83 [(AV.agg [(Aa a1_0), (Aa a1_1)])] fun v17 =>
Af v17 fun z18 =>
C4 pg (Al ((2, some ⟨[(Aa (0)), (Aa (0))], 88⟩) :: (1, some ⟨[(Aa a1_0), (Aa a1_1)], 88⟩) :: (0, some ⟨[(Aa a0_0), (Aa a0_1)], 88⟩) :: [])) 88 (AV.ptr 2 0) v16 fun v19 d19 =>
A4 R (Ae ((2, some ⟨[(Aa (0)), (Aa (0))], 88⟩) :: (1, some ⟨[(Aa a1_0), (Aa a1_1)], 88⟩) :: (0, some ⟨[(Aa a0_0), (Aa a0_1)], 88⟩) :: []) d19) [(Gl pg (Al (Ae ((2, some ⟨[(Aa (0)), (Aa (0))], 88⟩) :: (1, some ⟨[(Aa a1_0), (Aa a1_1)], 88⟩) :: (0, some ⟨[(Aa a0_0), (Aa a0_1)], 88⟩) :: []) d19)) 88 (AV.ptr 2 0)).map (·.1), some (Aa z18)]) else (
Bv pg KK.gl ((2, some ⟨[(Aa (0)), (Aa (0))], 88⟩) :: (1, some ⟨[(Aa a1_0), (Aa a1_1)], 88⟩) :: (0, some ⟨[(Aa a0_0), (Aa a0_1)], 88⟩) :: []) 192 [(Aa (IntKind.wrap .i64 ((IntKind.wrap .i64 (a1_0 - a0_0)) * a2))), (Aa a3)] fun v20 =>
Iw v20 fun c21 c22 =>
Af c21 fun z23 =>
Af c22 fun z24 =>
Bv pg KK.gl ((2, some ⟨[(Aa (0)), (Aa (0))], 88⟩) :: (1, some ⟨[(Aa a1_0), (Aa a1_1)], 88⟩) :: (0, some ⟨[(Aa a0_0), (Aa a0_1)], 88⟩) :: []) 192 [(Aa (IntKind.wrap .i64 ((IntKind.wrap .i64 (a1_1 - a0_1)) * a2))), (Aa a3)] fun v25 =>
Iw v25 fun c26 kZ =>
Af c26 fun z28 =>
Af kZ fun z29 =>
Bg (Wx [(Aa (0)), (Aa (0))] [(0, 1), (1, 1)] [(0, (Aa (IntKind.wrap .i64 (a0_0 + z23)))), (1, (Aa (IntKind.wrap .i64 (a0_1 + z28))))]) fun v30 =>
C4 pg (Al ((2, some ⟨[(Aa (0)), (Aa (0))], 88⟩) :: (1, some ⟨[(Aa a1_0), (Aa a1_1)], 88⟩) :: (0, some ⟨[(Aa a0_0), (Aa a0_1)], 88⟩) :: [])) 88 (AV.ptr 2 0) v30 fun v31 d31 =>
A4 R (Ae ((2, some ⟨[(Aa (0)), (Aa (0))], 88⟩) :: (1, some ⟨[(Aa a1_0), (Aa a1_1)], 88⟩) :: (0, some ⟨[(Aa a0_0), (Aa a0_1)], 88⟩) :: []) d31) [(Gl pg (Al (Ae ((2, some ⟨[(Aa (0)), (Aa (0))], 88⟩) :: (1, some ⟨[(Aa a1_0), (Aa a1_1)], 88⟩) :: (0, some ⟨[(Aa a0_0), (Aa a0_1)], 88⟩) :: []) d31)) 88 (AV.ptr 2 0)).map (·.1), some (Aa (0))]))))))
theorem nJ (a0_0 : Int) (a0_1 : Int) (a1_0 : Int) (a1_1 : Int) (a2 : Int) (a3 : Int) (R : AV → Mem → Prop) (h : tA a0_0 a0_1 a1_0 a1_1 a2 a3 R) : Own pg KK.gl 191 [(AV.agg [(Aa a0_0), (Aa a0_1)]), (AV.agg [(Aa a1_0), (Aa a1_1)]), (Aa a2), (Aa a3)] R := Bj Ee Tryz.func191 (code := Aen) (by kernel_rfl) (by kernel_rfl) (by kernel_rfl) (X := tA a0_0 a0_1 a1_0 a1_1 a2 a3 R) (by kernel_rfl) h
noncomputable def Ae9 : Code := ((Tryz.f193).body).getD .skip
noncomputable def Agv (R : AV → Mem → Prop) : A9 → St → Prop := Dj pg Tryz.f193 R
noncomputable def qC (a0 : Int) (a1 : Int) (R : AV → Mem → Prop) : Prop :=
Bv pg KK.gl [] 192 [(Aa a0), (Aa a1)] fun v0 =>
Iw v0 fun c1 c2 =>
Af c1 fun z3 =>
Af c2 fun z4 =>
bif (z4 == (0)) then (
Bg (B9 pg (.binOp .rem 3 (.tmp 0) (.tmp 1) 3) 3 [(Aa a0), (Aa a1)] (Al []) 78) fun v5 =>
Af v5 fun z6 =>
bif (z6 != (0)) then (
A4 R [] [some (Aa (IntKind.wrap .i64 (z3 + (1)))), some (Aa z4)]) else (
A4 R [] [some (Aa z3), some (Aa z4)])) else (
A4 R [] [some (Aa z3), some (Aa z4)])
theorem kF (a0 : Int) (a1 : Int) (R : AV → Mem → Prop) (h : qC a0 a1 R) : Own pg KK.gl 193 [(Aa a0), (Aa a1)] R := Bj Ee Tryz.func193 (code := Ae9) (by kernel_rfl) (by kernel_rfl) (by kernel_rfl) (X := qC a0 a1 R) (by kernel_rfl) h
noncomputable def Abn : Code := ((Tryz.f142).body).getD .skip
noncomputable def Ag8 (R : AV → Mem → Prop) : A9 → St → Prop := Dj pg Tryz.f142 R
noncomputable def s4 (a0 : AV) (a1 : Int) (R : AV → Mem → Prop) : Prop :=
Ed pg KK.gl ((0, some ⟨[(Aa (0)), (Aa (0)), (Aa (0)), (Aa (0)), (Aa (0)), (Aa (0))], 134⟩) :: []) 3 189 [a0, (Aa a1), (AV.fn 190 [])] fun v0 m0 =>
Iw v0 fun c1 c2 =>
Af c1 fun z3 =>
G2 c2 fun b4 =>
bif b4 then (
Bg (Db 6 a0 (Aa z3)) fun v5 =>
Bg (Ju (Al m0) 6 v5) fun v6 =>
R7 v6 fun c7 c8 c9 c10 Oh Q6 =>
Af c7 fun z13 =>
Af c8 fun z14 =>
Af c9 fun z15 =>
Af c10 fun z16 =>
Af Oh fun z17 =>
Af Q6 fun z18 =>
C4 pg (Al m0) 134 (AV.ptr 0 0) (AV.agg [(Aa z13), (Aa z14), (Aa z15), (Aa z16), (Aa z17), (Aa z18)]) fun v19 d19 =>
A4 R (Ae m0 d19) [(Gl pg (Al (Ae m0 d19)) 134 (AV.ptr 0 0)).map (·.1)]) else (
E8 (Db 6 a0 (Aa (IntKind.wrap .i64 (z3 - (1))))) fun v20 d20 =>
E8 (Ju (B3 (Ae m0 d20) (Ax v20 ++ ([]))) 6 v20) fun v21 d21 =>
R7 v21 fun c22 c23 c24 c25 c26 kZ =>
Af c22 fun z28 =>
Af c23 fun z29 =>
Af c24 fun z30 =>
Af c25 fun z31 =>
Af c26 fun z32 =>
Af kZ fun z33 =>
E8 (Db 6 a0 (Aa z3)) fun v34 d34 =>
E8 (Ju (B3 (Ae (Ae (Ae m0 d20) d21) d34) (Ax v34 ++ ([]))) 6 v34) fun v35 d35 =>
R7 v35 fun c36 c37 c38 qU c40 c41 =>
Af c36 fun z42 =>
Af c37 fun z43 =>
Af c38 fun z44 =>
Af qU fun z45 =>
Af c40 fun z46 =>
Af c41 fun z47 =>
C4 pg (B3 ((83, some ⟨[(Aa (0)), (Aa (0)), (Aa (0)), (Aa (0)), (Aa (0)), (Aa (0))], 134⟩) :: (82, some ⟨[(Aa (0)), (Aa (0)), (Aa (0)), (Aa (0)), (Aa (0)), (Aa (0))], 134⟩) :: (Ae (Ae (Ae (Ae m0 d20) d21) d34) d35)) (Ax (AV.ptr 82 0) ++ (Ax (AV.agg [(Aa z28), (Aa z29), (Aa z30), (Aa z31), (Aa z32), (Aa z33)]) ++ ([])))) 134 (AV.ptr 82 0) (AV.agg [(Aa z28), (Aa z29), (Aa z30), (Aa z31), (Aa z32), (Aa z33)]) fun v48 d48 =>
C4 pg (B3 (Ae ((83, some ⟨[(Aa (0)), (Aa (0)), (Aa (0)), (Aa (0)), (Aa (0)), (Aa (0))], 134⟩) :: (82, some ⟨[(Aa (0)), (Aa (0)), (Aa (0)), (Aa (0)), (Aa (0)), (Aa (0))], 134⟩) :: (Ae (Ae (Ae (Ae m0 d20) d21) d34) d35)) d48) (Ax (AV.ptr 83 0) ++ (Ax (AV.agg [(Aa z42), (Aa z43), (Aa z44), (Aa z45), (Aa z46), (Aa z47)]) ++ ([])))) 134 (AV.ptr 83 0) (AV.agg [(Aa z42), (Aa z43), (Aa z44), (Aa z45), (Aa z46), (Aa z47)]) fun v49 d49 =>
Mo (D1 [0, 0, 2, 7, 15, 0, 0, 96, 224, 0, 0, 1567, 4095] [⟨[], []⟩, ⟨[], []⟩, ⟨[], []⟩, ⟨d20, []⟩, ⟨d21, (Ax v20 ++ ([]))⟩, ⟨[], []⟩, ⟨[], []⟩, ⟨d34, []⟩, ⟨d35, (Ax v34 ++ ([]))⟩, ⟨[(82, some ⟨[(Aa (0)), (Aa (0)), (Aa (0)), (Aa (0)), (Aa (0)), (Aa (0))], 134⟩)], []⟩, ⟨[(83, some ⟨[(Aa (0)), (Aa (0)), (Aa (0)), (Aa (0)), (Aa (0)), (Aa (0))], 134⟩)], []⟩, ⟨d48, (Ax (AV.ptr 82 0) ++ (Ax (AV.agg [(Aa z28), (Aa z29), (Aa z30), (Aa z31), (Aa z32), (Aa z33)]) ++ ([])))⟩, ⟨d49, (Ax (AV.ptr 83 0) ++ (Ax (AV.agg [(Aa z42), (Aa z43), (Aa z44), (Aa z45), (Aa z46), (Aa z47)]) ++ ([])))⟩]) (Bg (Fe (Al (Ae (Ae ((83, some ⟨[(Aa (0)), (Aa (0)), (Aa (0)), (Aa (0)), (Aa (0)), (Aa (0))], 134⟩) :: (82, some ⟨[(Aa (0)), (Aa (0)), (Aa (0)), (Aa (0)), (Aa (0)), (Aa (0))], 134⟩) :: (Ae (Ae (Ae (Ae m0 d20) d21) d34) d35)) d48) d49)) (AV.ptr 82 0)) fun v50 =>
Af v50 fun z51 =>
Bg (Fe (Al (Ae (Ae ((83, some ⟨[(Aa (0)), (Aa (0)), (Aa (0)), (Aa (0)), (Aa (0)), (Aa (0))], 134⟩) :: (82, some ⟨[(Aa (0)), (Aa (0)), (Aa (0)), (Aa (0)), (Aa (0)), (Aa (0))], 134⟩) :: (Ae (Ae (Ae (Ae m0 d20) d21) d34) d35)) d48) d49)) (AV.ptr 83 0)) fun v52 =>
Af v52 fun z53 =>
Bg (Fe (Al (Ae (Ae ((83, some ⟨[(Aa (0)), (Aa (0)), (Aa (0)), (Aa (0)), (Aa (0)), (Aa (0))], 134⟩) :: (82, some ⟨[(Aa (0)), (Aa (0)), (Aa (0)), (Aa (0)), (Aa (0)), (Aa (0))], 134⟩) :: (Ae (Ae (Ae (Ae m0 d20) d21) d34) d35)) d48) d49)) (AV.ptr 82 0)) fun v54 =>
Af v54 fun z55 =>
Bg (Ju (Al (Ae (Ae ((83, some ⟨[(Aa (0)), (Aa (0)), (Aa (0)), (Aa (0)), (Aa (0)), (Aa (0))], 134⟩) :: (82, some ⟨[(Aa (0)), (Aa (0)), (Aa (0)), (Aa (0)), (Aa (0)), (Aa (0))], 134⟩) :: (Ae (Ae (Ae (Ae m0 d20) d21) d34) d35)) d48) d49)) 2 (AV.ptr 82 1)) fun v56 =>
Uv v56 fun c57 c58 =>
Af c57 fun z59 =>
Af c58 fun z60 =>
Bg (Ju (Al (Ae (Ae ((83, some ⟨[(Aa (0)), (Aa (0)), (Aa (0)), (Aa (0)), (Aa (0)), (Aa (0))], 134⟩) :: (82, some ⟨[(Aa (0)), (Aa (0)), (Aa (0)), (Aa (0)), (Aa (0)), (Aa (0))], 134⟩) :: (Ae (Ae (Ae (Ae m0 d20) d21) d34) d35)) d48) d49)) 2 (AV.ptr 83 1)) fun v61 =>
Uv v61 fun c62 c63 =>
Af c62 fun z64 =>
Af c63 fun z65 =>
Bv pg KK.gl (Ae (Ae ((83, some ⟨[(Aa (0)), (Aa (0)), (Aa (0)), (Aa (0)), (Aa (0)), (Aa (0))], 134⟩) :: (82, some ⟨[(Aa (0)), (Aa (0)), (Aa (0)), (Aa (0)), (Aa (0)), (Aa (0))], 134⟩) :: (Ae (Ae (Ae (Ae m0 d20) d21) d34) d35)) d48) d49) 191 [(AV.agg [(Aa z59), (Aa z60)]), (AV.agg [(Aa z64), (Aa z65)]), (Aa (IntKind.wrap .i64 (a1 - z51))), (Aa (IntKind.wrap .i64 (z53 - z55)))] fun v66 =>
Iw v66 fun c67 c68 =>
Uv c67 fun c69 c70 =>
Af c69 fun z71 =>
Af c70 fun z72 =>
Af c68 fun z73 =>
Bg (Fe (Al ((175, some ⟨[(Aa z71), (Aa z72)], 88⟩) :: (175, some ⟨[(Aa (0)), (Aa (0))], 88⟩) :: (Ae (Ae ((83, some ⟨[(Aa (0)), (Aa (0)), (Aa (0)), (Aa (0)), (Aa (0)), (Aa (0))], 134⟩) :: (82, some ⟨[(Aa (0)), (Aa (0)), (Aa (0)), (Aa (0)), (Aa (0)), (Aa (0))], 134⟩) :: (Ae (Ae (Ae (Ae m0 d20) d21) d34) d35)) d48) d49))) (AV.ptr 83 3)) fun v74 =>
Af v74 fun z75 =>
Bg (Fe (Al ((175, some ⟨[(Aa z71), (Aa z72)], 88⟩) :: (175, some ⟨[(Aa (0)), (Aa (0))], 88⟩) :: (Ae (Ae ((83, some ⟨[(Aa (0)), (Aa (0)), (Aa (0)), (Aa (0)), (Aa (0)), (Aa (0))], 134⟩) :: (82, some ⟨[(Aa (0)), (Aa (0)), (Aa (0)), (Aa (0)), (Aa (0)), (Aa (0))], 134⟩) :: (Ae (Ae (Ae (Ae m0 d20) d21) d34) d35)) d48) d49))) (AV.ptr 82 3)) fun v76 =>
Af v76 fun z77 =>
Bv pg KK.gl ((175, some ⟨[(Aa z71), (Aa z72)], 88⟩) :: (175, some ⟨[(Aa (0)), (Aa (0))], 88⟩) :: (Ae (Ae ((83, some ⟨[(Aa (0)), (Aa (0)), (Aa (0)), (Aa (0)), (Aa (0)), (Aa (0))], 134⟩) :: (82, some ⟨[(Aa (0)), (Aa (0)), (Aa (0)), (Aa (0)), (Aa (0)), (Aa (0))], 134⟩) :: (Ae (Ae (Ae (Ae m0 d20) d21) d34) d35)) d48) d49)) 192 [(Aa (IntKind.wrap .i64 ((IntKind.wrap .i64 (z75 - z77)) * (IntKind.wrap .i64 (a1 - z51))))), (Aa (IntKind.wrap .i64 (z53 - z55)))] fun v78 =>
Iw v78 fun c79 c80 =>
Af c79 fun z81 =>
Af c80 fun z82 =>
Bg (Fe (Al ((175, some ⟨[(Aa z71), (Aa z72)], 88⟩) :: (175, some ⟨[(Aa (0)), (Aa (0))], 88⟩) :: (Ae (Ae ((83, some ⟨[(Aa (0)), (Aa (0)), (Aa (0)), (Aa (0)), (Aa (0)), (Aa (0))], 134⟩) :: (82, some ⟨[(Aa (0)), (Aa (0)), (Aa (0)), (Aa (0)), (Aa (0)), (Aa (0))], 134⟩) :: (Ae (Ae (Ae (Ae m0 d20) d21) d34) d35)) d48) d49))) (AV.ptr 83 4)) fun v83 =>
Af v83 fun z84 =>
Bg (Fe (Al ((175, some ⟨[(Aa z71), (Aa z72)], 88⟩) :: (175, some ⟨[(Aa (0)), (Aa (0))], 88⟩) :: (Ae (Ae ((83, some ⟨[(Aa (0)), (Aa (0)), (Aa (0)), (Aa (0)), (Aa (0)), (Aa (0))], 134⟩) :: (82, some ⟨[(Aa (0)), (Aa (0)), (Aa (0)), (Aa (0)), (Aa (0)), (Aa (0))], 134⟩) :: (Ae (Ae (Ae (Ae m0 d20) d21) d34) d35)) d48) d49))) (AV.ptr 82 4)) fun v85 =>
Af v85 fun z86 =>
Bv pg KK.gl ((175, some ⟨[(Aa z71), (Aa z72)], 88⟩) :: (175, some ⟨[(Aa (0)), (Aa (0))], 88⟩) :: (Ae (Ae ((83, some ⟨[(Aa (0)), (Aa (0)), (Aa (0)), (Aa (0)), (Aa (0)), (Aa (0))], 134⟩) :: (82, some ⟨[(Aa (0)), (Aa (0)), (Aa (0)), (Aa (0)), (Aa (0)), (Aa (0))], 134⟩) :: (Ae (Ae (Ae (Ae m0 d20) d21) d34) d35)) d48) d49)) 193 [(Aa (IntKind.wrap .i64 ((IntKind.wrap .i64 (z84 - z86)) * (IntKind.wrap .i64 (a1 - z51))))), (Aa (IntKind.wrap .i64 (z53 - z55)))] fun v87 =>
Iw v87 fun c88 c89 =>
Af c88 fun z90 =>
Af c89 fun z91 =>
Bg (Fe (Al ((175, some ⟨[(Aa z71), (Aa z72)], 88⟩) :: (175, some ⟨[(Aa (0)), (Aa (0))], 88⟩) :: (Ae (Ae ((83, some ⟨[(Aa (0)), (Aa (0)), (Aa (0)), (Aa (0)), (Aa (0)), (Aa (0))], 134⟩) :: (82, some ⟨[(Aa (0)), (Aa (0)), (Aa (0)), (Aa (0)), (Aa (0)), (Aa (0))], 134⟩) :: (Ae (Ae (Ae (Ae m0 d20) d21) d34) d35)) d48) d49))) (AV.ptr 83 5)) fun v92 =>
Af v92 fun z93 =>
Bg (Fe (Al ((175, some ⟨[(Aa z71), (Aa z72)], 88⟩) :: (175, some ⟨[(Aa (0)), (Aa (0))], 88⟩) :: (Ae (Ae ((83, some ⟨[(Aa (0)), (Aa (0)), (Aa (0)), (Aa (0)), (Aa (0)), (Aa (0))], 134⟩) :: (82, some ⟨[(Aa (0)), (Aa (0)), (Aa (0)), (Aa (0)), (Aa (0)), (Aa (0))], 134⟩) :: (Ae (Ae (Ae (Ae m0 d20) d21) d34) d35)) d48) d49))) (AV.ptr 82 5)) fun v94 =>
Af v94 fun z95 =>
Bv pg KK.gl ((175, some ⟨[(Aa z71), (Aa z72)], 88⟩) :: (175, some ⟨[(Aa (0)), (Aa (0))], 88⟩) :: (Ae (Ae ((83, some ⟨[(Aa (0)), (Aa (0)), (Aa (0)), (Aa (0)), (Aa (0)), (Aa (0))], 134⟩) :: (82, some ⟨[(Aa (0)), (Aa (0)), (Aa (0)), (Aa (0)), (Aa (0)), (Aa (0))], 134⟩) :: (Ae (Ae (Ae (Ae m0 d20) d21) d34) d35)) d48) d49)) 193 [(Aa (IntKind.wrap .i64 ((IntKind.wrap .i64 (z93 - z95)) * (IntKind.wrap .i64 (a1 - z51))))), (Aa (IntKind.wrap .i64 (z53 - z55)))] fun v96 =>
Iw v96 fun c97 c98 =>
Af c97 fun z99 =>
Af c98 fun z100 =>
Bg (Fe (Al ((175, some ⟨[(Aa z71), (Aa z72)], 88⟩) :: (175, some ⟨[(Aa (0)), (Aa (0))], 88⟩) :: (Ae (Ae ((83, some ⟨[(Aa (0)), (Aa (0)), (Aa (0)), (Aa (0)), (Aa (0)), (Aa (0))], 134⟩) :: (82, some ⟨[(Aa (0)), (Aa (0)), (Aa (0)), (Aa (0)), (Aa (0)), (Aa (0))], 134⟩) :: (Ae (Ae (Ae (Ae m0 d20) d21) d34) d35)) d48) d49))) (AV.ptr 82 3)) fun v101 =>
Af v101 fun z102 =>
Bg (Wx [(Aa (0)), (Aa (0)), (Aa (0)), (Aa (0))] [(0, 1), (1, 2), (3, 1)] [(0, (Aa a1)), (1, (AV.agg [(Aa z71), (Aa z72)])), (2, (Aa (IntKind.wrap .i64 (z102 + z81))))]) fun v103 =>
Bg (Fe (Al ((175, some ⟨[(Aa z71), (Aa z72)], 88⟩) :: (175, some ⟨[(Aa (0)), (Aa (0))], 88⟩) :: (Ae (Ae ((83, some ⟨[(Aa (0)), (Aa (0)), (Aa (0)), (Aa (0)), (Aa (0)), (Aa (0))], 134⟩) :: (82, some ⟨[(Aa (0)), (Aa (0)), (Aa (0)), (Aa (0)), (Aa (0)), (Aa (0))], 134⟩) :: (Ae (Ae (Ae (Ae m0 d20) d21) d34) d35)) d48) d49))) (AV.ptr 82 4)) fun v104 =>
Af v104 fun z105 =>
Bg (Fe (Al ((175, some ⟨[(Aa z71), (Aa z72)], 88⟩) :: (175, some ⟨[(Aa (0)), (Aa (0))], 88⟩) :: (Ae (Ae ((83, some ⟨[(Aa (0)), (Aa (0)), (Aa (0)), (Aa (0)), (Aa (0)), (Aa (0))], 134⟩) :: (82, some ⟨[(Aa (0)), (Aa (0)), (Aa (0)), (Aa (0)), (Aa (0)), (Aa (0))], 134⟩) :: (Ae (Ae (Ae (Ae m0 d20) d21) d34) d35)) d48) d49))) (AV.ptr 82 5)) fun v106 =>
Af v106 fun z107 =>
Bg (Wx [(Aa (0)), (Aa (0)), (Aa (0)), (Aa (0)), (Aa (0)), (Aa (0))] [(0, 4), (4, 1), (5, 1)] [(0, v103), (1, (Aa (IntKind.wrap .i64 (z105 + z90)))), (2, (Aa (IntKind.wrap .i64 (z107 + z99))))]) fun v108 =>
C4 pg (Al ((175, some ⟨[(Aa z71), (Aa z72)], 88⟩) :: (175, some ⟨[(Aa (0)), (Aa (0))], 88⟩) :: (Ae (Ae ((83, some ⟨[(Aa (0)), (Aa (0)), (Aa (0)), (Aa (0)), (Aa (0)), (Aa (0))], 134⟩) :: (82, some ⟨[(Aa (0)), (Aa (0)), (Aa (0)), (Aa (0)), (Aa (0)), (Aa (0))], 134⟩) :: (Ae (Ae (Ae (Ae m0 d20) d21) d34) d35)) d48) d49))) 134 (AV.ptr 0 0) v108 fun v109 d109 =>
A4 R (Ae ((175, some ⟨[(Aa z71), (Aa z72)], 88⟩) :: (175, some ⟨[(Aa (0)), (Aa (0))], 88⟩) :: (Ae (Ae ((83, some ⟨[(Aa (0)), (Aa (0)), (Aa (0)), (Aa (0)), (Aa (0)), (Aa (0))], 134⟩) :: (82, some ⟨[(Aa (0)), (Aa (0)), (Aa (0)), (Aa (0)), (Aa (0)), (Aa (0))], 134⟩) :: (Ae (Ae (Ae (Ae m0 d20) d21) d34) d35)) d48) d49)) d109) [(Gl pg (Al (Ae ((175, some ⟨[(Aa z71), (Aa z72)], 88⟩) :: (175, some ⟨[(Aa (0)), (Aa (0))], 88⟩) :: (Ae (Ae ((83, some ⟨[(Aa (0)), (Aa (0)), (Aa (0)), (Aa (0)), (Aa (0)), (Aa (0))], 134⟩) :: (82, some ⟨[(Aa (0)), (Aa (0)), (Aa (0)), (Aa (0)), (Aa (0)), (Aa (0))], 134⟩) :: (Ae (Ae (Ae (Ae m0 d20) d21) d34) d35)) d48) d49)) d109)) 134 (AV.ptr 0 0)).map (·.1)]))
theorem pD (a0 : AV) (a1 : Int) (R : AV → Mem → Prop) (h : s4 a0 a1 R) : Own pg KK.gl 142 [a0, (Aa a1)] R := Bj Ee Tryz.func142 (code := Abn) (by kernel_rfl) (by kernel_rfl) (by kernel_rfl) (X := s4 a0 a1 R) (by kernel_rfl) h
noncomputable def c84 : Code := ((Tryz.f84).body).getD .skip
noncomputable def q84 (R : AV → Mem → Prop) : A9 → St → Prop := Dj pg Tryz.f84 R
noncomputable def F84 (a0 : AV) (a1 : Int) (R : AV → Mem → Prop) : Prop :=
Bv pg KK.gl ((0, some ⟨[(Aa (0)), (Aa (0)), (Aa (0)), (Aa (0)), (Aa (0)), (Aa (0))], 134⟩) :: []) 78 [a0] fun v0 =>
Af v0 fun z1 =>
bif (z1 != (0)) then (
Bg (Wx [(Aa (0)), (Aa (0)), (Aa (0)), (Aa (0)), (Aa (0)), (Aa (0))] [(0, 4), (4, 1), (5, 1)] []) fun v2 =>
C4 pg (Al ((0, some ⟨[(Aa (0)), (Aa (0)), (Aa (0)), (Aa (0)), (Aa (0)), (Aa (0))], 134⟩) :: [])) 134 (AV.ptr 0 0) v2 fun v3 d3 =>
A4 R (Ae ((0, some ⟨[(Aa (0)), (Aa (0)), (Aa (0)), (Aa (0)), (Aa (0)), (Aa (0))], 134⟩) :: []) d3) [(Gl pg (Al (Ae ((0, some ⟨[(Aa (0)), (Aa (0)), (Aa (0)), (Aa (0)), (Aa (0)), (Aa (0))], 134⟩) :: []) d3)) 134 (AV.ptr 0 0)).map (·.1), some (Aa z1)]) else (
Bv pg KK.gl ((0, some ⟨[(Aa (0)), (Aa (0)), (Aa (0)), (Aa (0)), (Aa (0)), (Aa (0))], 134⟩) :: []) 141 [a0] fun v4 =>
Iw v4 fun c5 c6 =>
Af c5 fun z7 =>
Af c6 fun z8 =>
bif (decide (a1 < z7)) then (
Bg (Wx [(Aa (0)), (Aa (0)), (Aa (0)), (Aa (0)), (Aa (0)), (Aa (0))] [(0, 4), (4, 1), (5, 1)] []) fun v9 =>
C4 pg (Al ((0, some ⟨[(Aa (0)), (Aa (0)), (Aa (0)), (Aa (0)), (Aa (0)), (Aa (0))], 134⟩) :: [])) 134 (AV.ptr 0 0) v9 fun v10 d10 =>
A4 R (Ae ((0, some ⟨[(Aa (0)), (Aa (0)), (Aa (0)), (Aa (0)), (Aa (0)), (Aa (0))], 134⟩) :: []) d10) [(Gl pg (Al (Ae ((0, some ⟨[(Aa (0)), (Aa (0)), (Aa (0)), (Aa (0)), (Aa (0)), (Aa (0))], 134⟩) :: []) d10)) 134 (AV.ptr 0 0)).map (·.1), some (Aa (12))]) else (
bif (decide (a1 > z8)) then (
Bg (Wx [(Aa (0)), (Aa (0)), (Aa (0)), (Aa (0)), (Aa (0)), (Aa (0))] [(0, 4), (4, 1), (5, 1)] []) fun v11 =>
C4 pg (Al ((0, some ⟨[(Aa (0)), (Aa (0)), (Aa (0)), (Aa (0)), (Aa (0)), (Aa (0))], 134⟩) :: [])) 134 (AV.ptr 0 0) v11 fun v12 d12 =>
A4 R (Ae ((0, some ⟨[(Aa (0)), (Aa (0)), (Aa (0)), (Aa (0)), (Aa (0)), (Aa (0))], 134⟩) :: []) d12) [(Gl pg (Al (Ae ((0, some ⟨[(Aa (0)), (Aa (0)), (Aa (0)), (Aa (0)), (Aa (0)), (Aa (0))], 134⟩) :: []) d12)) 134 (AV.ptr 0 0)).map (·.1), some (Aa (12))]) else (
Bv pg KK.gl ((0, some ⟨[(Aa (0)), (Aa (0)), (Aa (0)), (Aa (0)), (Aa (0)), (Aa (0))], 134⟩) :: []) 142 [a0, (Aa a1)] fun v13 =>
R7 v13 fun c14 c15 c16 c17 c18 c19 =>
Af c14 fun z20 =>
Af c15 fun z21 =>
Af c16 fun z22 =>
Af c17 fun z23 =>
Af c18 fun z24 =>
Af c19 fun z25 =>
A4 R ((0, some ⟨[(Aa z20), (Aa z21), (Aa z22), (Aa z23), (Aa z24), (Aa z25)], 134⟩) :: (0, some ⟨[(Aa (0)), (Aa (0)), (Aa (0)), (Aa (0)), (Aa (0)), (Aa (0))], 134⟩) :: []) [some (AV.agg [(Aa z20), (Aa z21), (Aa z22), (Aa z23), (Aa z24), (Aa z25)]), some (Aa (0))])))
theorem wR (a0 : AV) (a1 : Int) (R : AV → Mem → Prop) (h : F84 a0 a1 R) : Own pg KK.gl 84 [a0, (Aa a1)] R := Bj Ee Tryz.func84 (code := c84) (by kernel_rfl) (by kernel_rfl) (by kernel_rfl) (X := F84 a0 a1 R) (by kernel_rfl) h
noncomputable def Afa : Code := ((Tryz.f223).body).getD .skip
noncomputable def Ahg (R : AV → Mem → Prop) : A9 → St → Prop := Dj pg Tryz.f223 R
noncomputable def qO (a0_0 : Int) (a0_1 : Int) (a1_0 : Int) (a1_1 : Int) (R : AV → Mem → Prop) : Prop :=
Bg (Wx [(Aa (0)), (Aa (0))] [(0, 1), (1, 1)] [(0, (Aa (IntKind.wrap .i64 (a0_0 - a1_0)))), (1, (Aa (IntKind.wrap .i64 (a0_1 - a1_1))))]) fun v0 =>
C4 pg (Al ((2, some ⟨[(Aa (0)), (Aa (0))], 88⟩) :: (1, some ⟨[(Aa a1_0), (Aa a1_1)], 88⟩) :: (0, some ⟨[(Aa a0_0), (Aa a0_1)], 88⟩) :: [])) 88 (AV.ptr 2 0) v0 fun v1 d1 =>
A4 R (Ae ((2, some ⟨[(Aa (0)), (Aa (0))], 88⟩) :: (1, some ⟨[(Aa a1_0), (Aa a1_1)], 88⟩) :: (0, some ⟨[(Aa a0_0), (Aa a0_1)], 88⟩) :: []) d1) [(Gl pg (Al (Ae ((2, some ⟨[(Aa (0)), (Aa (0))], 88⟩) :: (1, some ⟨[(Aa a1_0), (Aa a1_1)], 88⟩) :: (0, some ⟨[(Aa a0_0), (Aa a0_1)], 88⟩) :: []) d1)) 88 (AV.ptr 2 0)).map (·.1)]
theorem kU (a0_0 : Int) (a0_1 : Int) (a1_0 : Int) (a1_1 : Int) (R : AV → Mem → Prop) (h : qO a0_0 a0_1 a1_0 a1_1 R) : Own pg KK.gl 223 [(AV.agg [(Aa a0_0), (Aa a0_1)]), (AV.agg [(Aa a1_0), (Aa a1_1)])] R := Bj Ee Tryz.func223 (code := Afa) (by kernel_rfl) (by kernel_rfl) (by kernel_rfl) (X := qO a0_0 a0_1 a1_0 a1_1 R) (by kernel_rfl) h
noncomputable def Afs : Code := ((Tryz.f298).body).getD .skip
noncomputable def Ahd (R : AV → Mem → Prop) : A9 → St → Prop := Dj pg Tryz.f298 R
noncomputable def vY (a0_0 : Int) (a0_1 : Int) (a1_0 : Int) (a1_1 : Int) (R : AV → Mem → Prop) : Prop :=
A4 R ((1, some ⟨[(Aa a1_0), (Aa a1_1)], 88⟩) :: (0, some ⟨[(Aa a0_0), (Aa a0_1)], 88⟩) :: []) [some (Aa (IntKind.wrap .i64 ((IntKind.wrap .i64 (a0_0 * a1_0)) + (IntKind.wrap .i64 (a0_1 * a1_1)))))]
theorem lL (a0_0 : Int) (a0_1 : Int) (a1_0 : Int) (a1_1 : Int) (R : AV → Mem → Prop) (h : vY a0_0 a0_1 a1_0 a1_1 R) : Own pg KK.gl 298 [(AV.agg [(Aa a0_0), (Aa a0_1)]), (AV.agg [(Aa a1_0), (Aa a1_1)])] R := Bj Ee Tryz.func298 (code := Afs) (by kernel_rfl) (by kernel_rfl) (by kernel_rfl) (X := vY a0_0 a0_1 a1_0 a1_1 R) (by kernel_rfl) h
noncomputable def Aeo : Code := ((Tryz.f264).body).getD .skip
noncomputable def Agw (R : AV → Mem → Prop) : A9 → St → Prop := Dj pg Tryz.f264 R
noncomputable def sE (a0_0 : Int) (a0_1 : Int) (a1_0 : Int) (a1_1 : Int) (R : AV → Mem → Prop) : Prop :=
Bv pg KK.gl ((1, some ⟨[(Aa a1_0), (Aa a1_1)], 88⟩) :: (0, some ⟨[(Aa a0_0), (Aa a0_1)], 88⟩) :: []) 223 [(AV.agg [(Aa a0_0), (Aa a0_1)]), (AV.agg [(Aa a1_0), (Aa a1_1)])] fun v0 =>
Uv v0 fun c1 c2 =>
Af c1 fun z3 =>
Af c2 fun z4 =>
Bv pg KK.gl ((69, some ⟨[(Aa z3), (Aa z4)], 88⟩) :: (69, some ⟨[(Aa (0)), (Aa (0))], 88⟩) :: (1, some ⟨[(Aa a1_0), (Aa a1_1)], 88⟩) :: (0, some ⟨[(Aa a0_0), (Aa a0_1)], 88⟩) :: []) 298 [(AV.agg [(Aa z3), (Aa z4)]), (AV.agg [(Aa z3), (Aa z4)])] fun v5 =>
Af v5 fun z6 =>
A4 R ((69, some ⟨[(Aa z3), (Aa z4)], 88⟩) :: (69, some ⟨[(Aa (0)), (Aa (0))], 88⟩) :: (1, some ⟨[(Aa a1_0), (Aa a1_1)], 88⟩) :: (0, some ⟨[(Aa a0_0), (Aa a0_1)], 88⟩) :: []) [some (Aa z6)]
theorem nD (a0_0 : Int) (a0_1 : Int) (a1_0 : Int) (a1_1 : Int) (R : AV → Mem → Prop) (h : sE a0_0 a0_1 a1_0 a1_1 R) : Own pg KK.gl 264 [(AV.agg [(Aa a0_0), (Aa a0_1)]), (AV.agg [(Aa a1_0), (Aa a1_1)])] R := Bj Ee Tryz.func264 (code := Aeo) (by kernel_rfl) (by kernel_rfl) (by kernel_rfl) (X := sE a0_0 a0_1 a1_0 a1_1 R) (by kernel_rfl) h
noncomputable def yF : Code := ((Tryz.f265).body).getD .skip
noncomputable def Ae1 (R : AV → Mem → Prop) : A9 → St → Prop := Dj pg Tryz.f265 R
noncomputable def Wf : Code := Dt yF 0
noncomputable def Ug (R : AV → Mem → Prop) : A9 → St → Prop := Du pg KK 27 0 yF 0 (Ae1 R)
noncomputable def r8 (R : AV → Mem → Prop) (N0 : St → Prop) : A9 → St → Prop := Dv N0 (Ug R)
def N3 (t0 : Int) (t2 : Int) (t3 : Int) (t4 : Int) (m : Mem) : St := ⟨[(0, (Aa t0)), (2, (Aa t2)), (3, (Aa t3)), (4, (Aa t4))], m, 100000⟩
noncomputable def Vl (t0 : Int) (t2 : Int) (t3 : Int) (t4 : Int) (m : Mem) (R : AV → Mem → Prop) (N0 : St → Prop) : Prop :=
bif (decide (t3 < t4)) then (
bif (decide ((IntKind.wrap .i64 ((IntKind.wrap .i64 (t3 + (IntKind.wrap .i64 (Int.tdiv (IntKind.wrap .i64 ((IntKind.wrap .i64 (t4 - t3)) + (1))) (2))))) * (IntKind.wrap .i64 (t3 + (IntKind.wrap .i64 (Int.tdiv (IntKind.wrap .i64 ((IntKind.wrap .i64 (t4 - t3)) + (1))) (2))))))) ≤ t0)) then (
N0 ⟨[(0, (Aa t0)), (2, (Aa t2)), (3, (Aa (IntKind.wrap .i64 (t3 + (IntKind.wrap .i64 (Int.tdiv (IntKind.wrap .i64 ((IntKind.wrap .i64 (t4 - t3)) + (1))) (2))))))), (4, (Aa t4)), (8, (Aa t3)), (9, (Aa t4)), (10, (Ac (decide (t3 < t4)))), (11, (Aa t3)), (12, (Aa t4)), (13, (Aa t3)), (14, (Aa (IntKind.wrap .i64 (t4 - t3)))), (15, (Aa (IntKind.wrap .i64 ((IntKind.wrap .i64 (t4 - t3)) + (1))))), (16, (Aa (IntKind.wrap .i64 (Int.tdiv (IntKind.wrap .i64 ((IntKind.wrap .i64 (t4 - t3)) + (1))) (2))))), (17, (Aa (IntKind.wrap .i64 (t3 + (IntKind.wrap .i64 (Int.tdiv (IntKind.wrap .i64 ((IntKind.wrap .i64 (t4 - t3)) + (1))) (2))))))), (5, (Aa (IntKind.wrap .i64 (t3 + (IntKind.wrap .i64 (Int.tdiv (IntKind.wrap .i64 ((IntKind.wrap .i64 (t4 - t3)) + (1))) (2))))))), (18, (Aa (IntKind.wrap .i64 (t3 + (IntKind.wrap .i64 (Int.tdiv (IntKind.wrap .i64 ((IntKind.wrap .i64 (t4 - t3)) + (1))) (2))))))), (19, (Aa (IntKind.wrap .i64 (t3 + (IntKind.wrap .i64 (Int.tdiv (IntKind.wrap .i64 ((IntKind.wrap .i64 (t4 - t3)) + (1))) (2))))))), (20, (Aa (IntKind.wrap .i64 ((IntKind.wrap .i64 (t3 + (IntKind.wrap .i64 (Int.tdiv (IntKind.wrap .i64 ((IntKind.wrap .i64 (t4 - t3)) + (1))) (2))))) * (IntKind.wrap .i64 (t3 + (IntKind.wrap .i64 (Int.tdiv (IntKind.wrap .i64 ((IntKind.wrap .i64 (t4 - t3)) + (1))) (2))))))))), (21, (Aa t0)), (22, (Ac (decide ((IntKind.wrap .i64 ((IntKind.wrap .i64 (t3 + (IntKind.wrap .i64 (Int.tdiv (IntKind.wrap .i64 ((IntKind.wrap .i64 (t4 - t3)) + (1))) (2))))) * (IntKind.wrap .i64 (t3 + (IntKind.wrap .i64 (Int.tdiv (IntKind.wrap .i64 ((IntKind.wrap .i64 (t4 - t3)) + (1))) (2))))))) ≤ t0)))), (23, (Aa (IntKind.wrap .i64 (t3 + (IntKind.wrap .i64 (Int.tdiv (IntKind.wrap .i64 ((IntKind.wrap .i64 (t4 - t3)) + (1))) (2)))))))], m, 100018⟩) else (
N0 ⟨[(0, (Aa t0)), (2, (Aa t2)), (3, (Aa t3)), (4, (Aa (IntKind.wrap .i64 ((IntKind.wrap .i64 (t3 + (IntKind.wrap .i64 (Int.tdiv (IntKind.wrap .i64 ((IntKind.wrap .i64 (t4 - t3)) + (1))) (2))))) - (1))))), (8, (Aa t3)), (9, (Aa t4)), (10, (Ac (decide (t3 < t4)))), (11, (Aa t3)), (12, (Aa t4)), (13, (Aa t3)), (14, (Aa (IntKind.wrap .i64 (t4 - t3)))), (15, (Aa (IntKind.wrap .i64 ((IntKind.wrap .i64 (t4 - t3)) + (1))))), (16, (Aa (IntKind.wrap .i64 (Int.tdiv (IntKind.wrap .i64 ((IntKind.wrap .i64 (t4 - t3)) + (1))) (2))))), (17, (Aa (IntKind.wrap .i64 (t3 + (IntKind.wrap .i64 (Int.tdiv (IntKind.wrap .i64 ((IntKind.wrap .i64 (t4 - t3)) + (1))) (2))))))), (5, (Aa (IntKind.wrap .i64 (t3 + (IntKind.wrap .i64 (Int.tdiv (IntKind.wrap .i64 ((IntKind.wrap .i64 (t4 - t3)) + (1))) (2))))))), (18, (Aa (IntKind.wrap .i64 (t3 + (IntKind.wrap .i64 (Int.tdiv (IntKind.wrap .i64 ((IntKind.wrap .i64 (t4 - t3)) + (1))) (2))))))), (19, (Aa (IntKind.wrap .i64 (t3 + (IntKind.wrap .i64 (Int.tdiv (IntKind.wrap .i64 ((IntKind.wrap .i64 (t4 - t3)) + (1))) (2))))))), (20, (Aa (IntKind.wrap .i64 ((IntKind.wrap .i64 (t3 + (IntKind.wrap .i64 (Int.tdiv (IntKind.wrap .i64 ((IntKind.wrap .i64 (t4 - t3)) + (1))) (2))))) * (IntKind.wrap .i64 (t3 + (IntKind.wrap .i64 (Int.tdiv (IntKind.wrap .i64 ((IntKind.wrap .i64 (t4 - t3)) + (1))) (2))))))))), (21, (Aa t0)), (22, (Ac (decide ((IntKind.wrap .i64 ((IntKind.wrap .i64 (t3 + (IntKind.wrap .i64 (Int.tdiv (IntKind.wrap .i64 ((IntKind.wrap .i64 (t4 - t3)) + (1))) (2))))) * (IntKind.wrap .i64 (t3 + (IntKind.wrap .i64 (Int.tdiv (IntKind.wrap .i64 ((IntKind.wrap .i64 (t4 - t3)) + (1))) (2))))))) ≤ t0)))), (24, (Aa (IntKind.wrap .i64 (t3 + (IntKind.wrap .i64 (Int.tdiv (IntKind.wrap .i64 ((IntKind.wrap .i64 (t4 - t3)) + (1))) (2))))))), (25, (Aa (IntKind.wrap .i64 ((IntKind.wrap .i64 (t3 + (IntKind.wrap .i64 (Int.tdiv (IntKind.wrap .i64 ((IntKind.wrap .i64 (t4 - t3)) + (1))) (2))))) - (1)))))], m, 100019⟩)) else (
A4 R m [some (Aa t3)])
theorem iT (t0 : Int) (t2 : Int) (t3 : Int) (t4 : Int) (m : Mem) (R : AV → Mem → Prop) (N0 : St → Prop) : W pg KK 27 0 Wf (N3 t0 t2 t3 t4 m) (r8 R N0) = Vl t0 t2 t3 t4 m R N0 := by kernel_rfl
theorem Aal (R : AV → Mem → Prop) {σ : Type} (I : σ → Prop) (t0 : σ → Int) (t2 : σ → Int) (t3 : σ → Int) (t4 : σ → Int) (m : σ → Mem) (μ : σ → Nat) (step : ∀ x, I x → Vl (t0 x) (t2 x) (t3 x) (t4 x) (m x) R (fun s' => ∃ y, I y ∧ μ y < μ x ∧ Bo KK 27 0 s' (N3 (t0 y) (t2 y) (t3 y) (t4 y) (m y)))) (x : σ) (hx : I x) {s : St} (hw : Bo KK 27 0 s (N3 (t0 x) (t2 x) (t3 x) (t4 x) (m x))) : Ca pg KK 27 0 (.loop Wf) s (Ug R) :=
  Ca.Fk hw (Ca.loops Ee I (fun x => N3 (t0 x) (t2 x) (t3 x) (t4 x) (m x)) μ (fun x hx => (iT (t0 x) (t2 x) (t3 x) (t4 x) (m x) R _).mpr (step x hx)) x hx)
noncomputable def rI (a0 : Int) (R : AV → Mem → Prop) : Prop :=
bif (decide (a0 ≤ (0))) then (
A4 R [] [some (Aa (0))]) else (
Ca pg KK 27 0 (.loop Wf) ⟨[(0, (Aa a0)), (2, (Aa (0))), (6, (Aa a0)), (7, (Ac (decide (a0 ≤ (0))))), (3, (Aa (0))), (4, (Aa (3037000499)))], [], 5⟩ (Ug R))
theorem pO (a0 : Int) (R : AV → Mem → Prop) (h : rI a0 R) : Own pg KK.gl 265 [(Aa a0)] R := Bj Ee Tryz.func265 (code := yF) (by kernel_rfl) (by kernel_rfl) (by kernel_rfl) (X := rI a0 R) (by kernel_rfl) h
noncomputable def Afb : Code := ((Tryz.f200).body).getD .skip
noncomputable def Ahc (R : AV → Mem → Prop) : A9 → St → Prop := Dj pg Tryz.f200 R
noncomputable def tS (a0_0 : Int) (a0_1 : Int) (a1_0 : Int) (a1_1 : Int) (R : AV → Mem → Prop) : Prop :=
Bv pg KK.gl ((1, some ⟨[(Aa a1_0), (Aa a1_1)], 88⟩) :: (0, some ⟨[(Aa a0_0), (Aa a0_1)], 88⟩) :: []) 264 [(AV.agg [(Aa a0_0), (Aa a0_1)]), (AV.agg [(Aa a1_0), (Aa a1_1)])] fun v0 =>
Af v0 fun z1 =>
Bv pg KK.gl ((1, some ⟨[(Aa a1_0), (Aa a1_1)], 88⟩) :: (0, some ⟨[(Aa a0_0), (Aa a0_1)], 88⟩) :: []) 265 [(Aa z1)] fun v2 =>
Af v2 fun z3 =>
bif (decide ((IntKind.wrap .i64 (z3 * z3)) < z1)) then (
A4 R ((1, some ⟨[(Aa a1_0), (Aa a1_1)], 88⟩) :: (0, some ⟨[(Aa a0_0), (Aa a0_1)], 88⟩) :: []) [some (Aa z3), some (Aa (IntKind.wrap .i64 (z3 + (1))))]) else (
A4 R ((1, some ⟨[(Aa a1_0), (Aa a1_1)], 88⟩) :: (0, some ⟨[(Aa a0_0), (Aa a0_1)], 88⟩) :: []) [some (Aa z3), some (Aa z3)])
theorem lR (a0_0 : Int) (a0_1 : Int) (a1_0 : Int) (a1_1 : Int) (R : AV → Mem → Prop) (h : tS a0_0 a0_1 a1_0 a1_1 R) : Own pg KK.gl 200 [(AV.agg [(Aa a0_0), (Aa a0_1)]), (AV.agg [(Aa a1_0), (Aa a1_1)])] R := Bj Ee Tryz.func200 (code := Afb) (by kernel_rfl) (by kernel_rfl) (by kernel_rfl) (X := tS a0_0 a0_1 a1_0 a1_1 R) (by kernel_rfl) h
noncomputable def Aer : Code := ((Tryz.f202).body).getD .skip
noncomputable def Agy (R : AV → Mem → Prop) : A9 → St → Prop := Dj pg Tryz.f202 R
noncomputable def tE (a0_0 : Int) (a0_1 : Int) (a0_2 : Int) (a0_3 : Int) (a0_4 : Int) (a0_5 : Int) (a1_0 : Int) (a1_1 : Int) (a1_2 : Int) (a1_3 : Int) (a1_4 : Int) (a1_5 : Int) (a2_0 : Int) (a2_1 : Int) (R : AV → Mem → Prop) : Prop :=
Bv pg KK.gl ((2, some ⟨[(Aa a2_0), (Aa a2_1)], 93⟩) :: (1, some ⟨[(Aa a1_0), (Aa a1_1), (Aa a1_2), (Aa a1_3), (Aa a1_4), (Aa a1_5)], 134⟩) :: (0, some ⟨[(Aa a0_0), (Aa a0_1), (Aa a0_2), (Aa a0_3), (Aa a0_4), (Aa a0_5)], 134⟩) :: []) 200 [(AV.agg [(Aa a0_1), (Aa a0_2)]), (AV.agg [(Aa a1_1), (Aa a1_2)])] fun v0 =>
Iw v0 fun c1 c2 =>
Af c1 fun z3 =>
Af c2 fun z4 =>
bif (decide ((IntKind.wrap .i64 ((IntKind.wrap .i64 (z3 - a0_4)) - a1_4)) ≥ a2_0)) then (
A4 R ((2, some ⟨[(Aa a2_0), (Aa a2_1)], 93⟩) :: (1, some ⟨[(Aa a1_0), (Aa a1_1), (Aa a1_2), (Aa a1_3), (Aa a1_4), (Aa a1_5)], 134⟩) :: (0, some ⟨[(Aa a0_0), (Aa a0_1), (Aa a0_2), (Aa a0_3), (Aa a0_4), (Aa a0_5)], 134⟩) :: []) [some (Ac true)]) else (
Bg (B9 pg (.call ⟨.builtin .max, #[.tmp 0, .tmp 1], #[3, 3]⟩) 3 [(Aa (IntKind.wrap .i64 (a0_3 - a1_3))), (Aa (IntKind.wrap .i64 (a1_3 - a0_3)))] (Al ((2, some ⟨[(Aa a2_0), (Aa a2_1)], 93⟩) :: (1, some ⟨[(Aa a1_0), (Aa a1_1), (Aa a1_2), (Aa a1_3), (Aa a1_4), (Aa a1_5)], 134⟩) :: (0, some ⟨[(Aa a0_0), (Aa a0_1), (Aa a0_2), (Aa a0_3), (Aa a0_4), (Aa a0_5)], 134⟩) :: [])) 104) fun v5 =>
Af v5 fun z6 =>
A4 R ((2, some ⟨[(Aa a2_0), (Aa a2_1)], 93⟩) :: (1, some ⟨[(Aa a1_0), (Aa a1_1), (Aa a1_2), (Aa a1_3), (Aa a1_4), (Aa a1_5)], 134⟩) :: (0, some ⟨[(Aa a0_0), (Aa a0_1), (Aa a0_2), (Aa a0_3), (Aa a0_4), (Aa a0_5)], 134⟩) :: []) [some (Ac (decide ((IntKind.wrap .i64 ((IntKind.wrap .i64 (z6 - a0_5)) - a1_5)) ≥ a2_1)))])
theorem lF (a0_0 : Int) (a0_1 : Int) (a0_2 : Int) (a0_3 : Int) (a0_4 : Int) (a0_5 : Int) (a1_0 : Int) (a1_1 : Int) (a1_2 : Int) (a1_3 : Int) (a1_4 : Int) (a1_5 : Int) (a2_0 : Int) (a2_1 : Int) (R : AV → Mem → Prop) (h : tE a0_0 a0_1 a0_2 a0_3 a0_4 a0_5 a1_0 a1_1 a1_2 a1_3 a1_4 a1_5 a2_0 a2_1 R) : Own pg KK.gl 202 [(AV.agg [(Aa a0_0), (Aa a0_1), (Aa a0_2), (Aa a0_3), (Aa a0_4), (Aa a0_5)]), (AV.agg [(Aa a1_0), (Aa a1_1), (Aa a1_2), (Aa a1_3), (Aa a1_4), (Aa a1_5)]), (AV.agg [(Aa a2_0), (Aa a2_1)])] R := Bj Ee Tryz.func202 (code := Aer) (by kernel_rfl) (by kernel_rfl) (by kernel_rfl) (X := tE a0_0 a0_1 a0_2 a0_3 a0_4 a0_5 a1_0 a1_1 a1_2 a1_3 a1_4 a1_5 a2_0 a2_1 R) (by kernel_rfl) h
noncomputable def yO : Code := ((Tryz.f149).body).getD .skip
noncomputable def Aep (R : AV → Mem → Prop) : A9 → St → Prop := Dj pg Tryz.f149 R
noncomputable def Ul : Code := Dt yO 0
noncomputable def U2 (R : AV → Mem → Prop) : A9 → St → Prop := Du pg KK 73 0 yO 0 (Aep R)
noncomputable def sC (R : AV → Mem → Prop) (N0 : St → Prop) : A9 → St → Prop := Dv N0 (U2 R)
def O1 (t0 : AV) (t1 : AV) (t6 : AV) (t7 : AV) (t9 : Int) (t10 : Int) (b0_0 : Int) (b0_1 : Int) (m : Mem) : St := ⟨[(0, t0), (1, t1), (5, (AV.ptr 0 0)), (6, t6), (7, t7), (9, (Aa t9)), (10, (Aa t10))], ((0, some ⟨[(Aa b0_0), (Aa b0_1)], 93⟩) :: m), 100000⟩
noncomputable def Va (t0 : AV) (t1 : AV) (t6 : AV) (t7 : AV) (t9 : Int) (t10 : Int) (b0_0 : Int) (b0_1 : Int) (m : Mem) (R : AV → Mem → Prop) (N0 : St → Prop) : Prop :=
bif (decide (t10 ≤ t9)) then (
Bv pg KK.gl ((0, some ⟨[(Aa b0_0), (Aa b0_1)], 93⟩) :: m) 84 [t0, (Aa t10)] fun v5 =>
Iw v5 fun c6 c7 =>
R7 c6 fun c8 c9 c10 Oh Q6 Ho =>
Af c8 fun z14 =>
Af c9 fun z15 =>
Af c10 fun z16 =>
Af Oh fun z17 =>
Af Q6 fun z18 =>
Af Ho fun z19 =>
Af c7 fun z20 =>
Bv pg KK.gl ((100072, some ⟨[(Aa z14), (Aa z15), (Aa z16), (Aa z17), (Aa z18), (Aa z19)], 134⟩) :: (100072, some ⟨[(Aa (0)), (Aa (0)), (Aa (0)), (Aa (0)), (Aa (0)), (Aa (0))], 134⟩) :: (0, some ⟨[(Aa b0_0), (Aa b0_1)], 93⟩) :: m) 84 [t1, (Aa t10)] fun v21 =>
Iw v21 fun c22 c23 =>
R7 c22 fun c24 c25 c26 kZ c28 c29 =>
Af c24 fun z30 =>
Af c25 fun z31 =>
Af c26 fun z32 =>
Af kZ fun z33 =>
Af c28 fun z34 =>
Af c29 fun z35 =>
Af c23 fun z36 =>
Bv pg KK.gl ((100144, some ⟨[(Aa z30), (Aa z31), (Aa z32), (Aa z33), (Aa z34), (Aa z35)], 134⟩) :: (100144, some ⟨[(Aa (0)), (Aa (0)), (Aa (0)), (Aa (0)), (Aa (0)), (Aa (0))], 134⟩) :: (100072, some ⟨[(Aa z14), (Aa z15), (Aa z16), (Aa z17), (Aa z18), (Aa z19)], 134⟩) :: (100072, some ⟨[(Aa (0)), (Aa (0)), (Aa (0)), (Aa (0)), (Aa (0)), (Aa (0))], 134⟩) :: (0, some ⟨[(Aa b0_0), (Aa b0_1)], 93⟩) :: m) 202 [(AV.agg [(Aa z14), (Aa z15), (Aa z16), (Aa z17), (Aa z18), (Aa z19)]), (AV.agg [(Aa z30), (Aa z31), (Aa z32), (Aa z33), (Aa z34), (Aa z35)]), (AV.agg [(Aa b0_0), (Aa b0_1)])] fun v37 =>
G2 v37 fun b38 =>
bif b38 then (
N0 ⟨[(0, t0), (1, t1), (5, (AV.ptr 0 0)), (6, t6), (7, t7), (9, (Aa t9)), (10, (Aa (IntKind.wrap .i64 (t10 + (1))))), (23, (Aa t10)), (24, (Aa t9)), (25, (Ac (decide (t10 ≤ t9)))), (29, t0), (30, (Aa t10)), (31, (AV.tup [(AV.agg [(Aa z14), (Aa z15), (Aa z16), (Aa z17), (Aa z18), (Aa z19)]), (Aa z20)])), (28, (AV.tup [(AV.agg [(Aa z14), (Aa z15), (Aa z16), (Aa z17), (Aa z18), (Aa z19)]), (Aa z20)])), (32, (AV.agg [(Aa z14), (Aa z15), (Aa z16), (Aa z17), (Aa z18), (Aa z19)])), (33, (Aa z20)), (11, (AV.ptr 100072 0)), (12, (Aa z20)), (35, t1), (36, (Aa t10)), (37, (AV.tup [(AV.agg [(Aa z30), (Aa z31), (Aa z32), (Aa z33), (Aa z34), (Aa z35)]), (Aa z36)])), (34, (AV.tup [(AV.agg [(Aa z30), (Aa z31), (Aa z32), (Aa z33), (Aa z34), (Aa z35)]), (Aa z36)])), (38, (AV.agg [(Aa z30), (Aa z31), (Aa z32), (Aa z33), (Aa z34), (Aa z35)])), (39, (Aa z36)), (13, (AV.ptr 100144 0)), (14, (Aa z36)), (40, (AV.agg [(Aa z14), (Aa z15), (Aa z16), (Aa z17), (Aa z18), (Aa z19)])), (41, (AV.agg [(Aa z30), (Aa z31), (Aa z32), (Aa z33), (Aa z34), (Aa z35)])), (42, (AV.agg [(Aa b0_0), (Aa b0_1)])), (43, (Ac b38)), (26, (Aa t10)), (27, (Aa (IntKind.wrap .i64 (t10 + (1)))))], ((100144, some ⟨[(Aa z30), (Aa z31), (Aa z32), (Aa z33), (Aa z34), (Aa z35)], 134⟩) :: (100144, some ⟨[(Aa (0)), (Aa (0)), (Aa (0)), (Aa (0)), (Aa (0)), (Aa (0))], 134⟩) :: (100072, some ⟨[(Aa z14), (Aa z15), (Aa z16), (Aa z17), (Aa z18), (Aa z19)], 134⟩) :: (100072, some ⟨[(Aa (0)), (Aa (0)), (Aa (0)), (Aa (0)), (Aa (0)), (Aa (0))], 134⟩) :: (0, some ⟨[(Aa b0_0), (Aa b0_1)], 93⟩) :: m), 100217⟩) else (
Bg (Dh t7) fun v39 =>
Af v39 fun z40 =>
bif (decide (z40 > (0))) then (
Bg (Db 2 t7 (Aa (IntKind.wrap .i64 (z40 - (1))))) fun v41 =>
Bg (E1 1 v41) fun v42 =>
Bg (Fe (Al ((100144, some ⟨[(Aa z30), (Aa z31), (Aa z32), (Aa z33), (Aa z34), (Aa z35)], 134⟩) :: (100144, some ⟨[(Aa (0)), (Aa (0)), (Aa (0)), (Aa (0)), (Aa (0)), (Aa (0))], 134⟩) :: (100072, some ⟨[(Aa z14), (Aa z15), (Aa z16), (Aa z17), (Aa z18), (Aa z19)], 134⟩) :: (100072, some ⟨[(Aa (0)), (Aa (0)), (Aa (0)), (Aa (0)), (Aa (0)), (Aa (0))], 134⟩) :: (0, some ⟨[(Aa b0_0), (Aa b0_1)], 93⟩) :: m)) v42) fun v43 =>
Af v43 fun z44 =>
bif (z44 == t10) then (
Bg (Db 2 t7 (Aa (IntKind.wrap .i64 (z40 - (1))))) fun v45 =>
Bg (E1 1 v45) fun v46 =>
C4 pg (Al ((100144, some ⟨[(Aa z30), (Aa z31), (Aa z32), (Aa z33), (Aa z34), (Aa z35)], 134⟩) :: (100144, some ⟨[(Aa (0)), (Aa (0)), (Aa (0)), (Aa (0)), (Aa (0)), (Aa (0))], 134⟩) :: (100072, some ⟨[(Aa z14), (Aa z15), (Aa z16), (Aa z17), (Aa z18), (Aa z19)], 134⟩) :: (100072, some ⟨[(Aa (0)), (Aa (0)), (Aa (0)), (Aa (0)), (Aa (0)), (Aa (0))], 134⟩) :: (0, some ⟨[(Aa b0_0), (Aa b0_1)], 93⟩) :: m)) 3 v46 (Aa (IntKind.wrap .i64 (t10 + (1)))) fun v47 d47 =>
N0 ⟨[(0, t0), (1, t1), (5, (AV.ptr 0 0)), (6, t6), (7, t7), (9, (Aa t9)), (10, (Aa (IntKind.wrap .i64 (t10 + (1))))), (23, (Aa t10)), (24, (Aa t9)), (25, (Ac (decide (t10 ≤ t9)))), (29, t0), (30, (Aa t10)), (31, (AV.tup [(AV.agg [(Aa z14), (Aa z15), (Aa z16), (Aa z17), (Aa z18), (Aa z19)]), (Aa z20)])), (28, (AV.tup [(AV.agg [(Aa z14), (Aa z15), (Aa z16), (Aa z17), (Aa z18), (Aa z19)]), (Aa z20)])), (32, (AV.agg [(Aa z14), (Aa z15), (Aa z16), (Aa z17), (Aa z18), (Aa z19)])), (33, (Aa z20)), (11, (AV.ptr 100072 0)), (12, (Aa z20)), (35, t1), (36, (Aa t10)), (37, (AV.tup [(AV.agg [(Aa z30), (Aa z31), (Aa z32), (Aa z33), (Aa z34), (Aa z35)]), (Aa z36)])), (34, (AV.tup [(AV.agg [(Aa z30), (Aa z31), (Aa z32), (Aa z33), (Aa z34), (Aa z35)]), (Aa z36)])), (38, (AV.agg [(Aa z30), (Aa z31), (Aa z32), (Aa z33), (Aa z34), (Aa z35)])), (39, (Aa z36)), (13, (AV.ptr 100144 0)), (14, (Aa z36)), (40, (AV.agg [(Aa z14), (Aa z15), (Aa z16), (Aa z17), (Aa z18), (Aa z19)])), (41, (AV.agg [(Aa z30), (Aa z31), (Aa z32), (Aa z33), (Aa z34), (Aa z35)])), (42, (AV.agg [(Aa b0_0), (Aa b0_1)])), (43, (Ac b38)), (44, t7), (45, (Aa z40)), (15, (Aa z40)), (46, (Aa z40)), (47, (Ac (decide (z40 > (0))))), (48, (Ac true)), (49, t7), (50, (Aa z40)), (51, (Aa (IntKind.wrap .i64 (z40 - (1))))), (52, v41), (53, v42), (54, (Aa z44)), (55, (Aa t10)), (56, (Ac (z44 == t10))), (57, (Ac (z44 == t10))), (58, t7), (59, (Aa z40)), (60, (Aa (IntKind.wrap .i64 (z40 - (1))))), (61, (Aa t10)), (62, (Aa (IntKind.wrap .i64 (t10 + (1))))), (63, v45), (64, v46), (26, (Aa t10)), (27, (Aa (IntKind.wrap .i64 (t10 + (1)))))], (Ae ((100144, some ⟨[(Aa z30), (Aa z31), (Aa z32), (Aa z33), (Aa z34), (Aa z35)], 134⟩) :: (100144, some ⟨[(Aa (0)), (Aa (0)), (Aa (0)), (Aa (0)), (Aa (0)), (Aa (0))], 134⟩) :: (100072, some ⟨[(Aa z14), (Aa z15), (Aa z16), (Aa z17), (Aa z18), (Aa z19)], 134⟩) :: (100072, some ⟨[(Aa (0)), (Aa (0)), (Aa (0)), (Aa (0)), (Aa (0)), (Aa (0))], 134⟩) :: (0, some ⟨[(Aa b0_0), (Aa b0_1)], 93⟩) :: m) d47), 100240⟩) else (
Bg (Wx [(Aa (0)), (Aa (0))] [(0, 1), (1, 1)] [(0, (Aa t10)), (1, (Aa (IntKind.wrap .i64 (t10 + (1)))))]) fun v48 =>
Fy (Ww 100234 101 2 1 [(Aa (0)), (Aa (0))] [(0, v48)]) ((100144, some ⟨[(Aa z30), (Aa z31), (Aa z32), (Aa z33), (Aa z34), (Aa z35)], 134⟩) :: (100144, some ⟨[(Aa (0)), (Aa (0)), (Aa (0)), (Aa (0)), (Aa (0)), (Aa (0))], 134⟩) :: (100072, some ⟨[(Aa z14), (Aa z15), (Aa z16), (Aa z17), (Aa z18), (Aa z19)], 134⟩) :: (100072, some ⟨[(Aa (0)), (Aa (0)), (Aa (0)), (Aa (0)), (Aa (0)), (Aa (0))], 134⟩) :: (0, some ⟨[(Aa b0_0), (Aa b0_1)], 93⟩) :: m) fun v49 m49 =>
Fy (app (Al m49) 101 2 16 [(Aa (0)), (Aa (0))] 100235 t7 v49) m49 fun v50 m50 =>
N0 ⟨[(0, t0), (1, t1), (5, (AV.ptr 0 0)), (6, t6), (7, v50), (9, (Aa t9)), (10, (Aa (IntKind.wrap .i64 (t10 + (1))))), (23, (Aa t10)), (24, (Aa t9)), (25, (Ac (decide (t10 ≤ t9)))), (29, t0), (30, (Aa t10)), (31, (AV.tup [(AV.agg [(Aa z14), (Aa z15), (Aa z16), (Aa z17), (Aa z18), (Aa z19)]), (Aa z20)])), (28, (AV.tup [(AV.agg [(Aa z14), (Aa z15), (Aa z16), (Aa z17), (Aa z18), (Aa z19)]), (Aa z20)])), (32, (AV.agg [(Aa z14), (Aa z15), (Aa z16), (Aa z17), (Aa z18), (Aa z19)])), (33, (Aa z20)), (11, (AV.ptr 100072 0)), (12, (Aa z20)), (35, t1), (36, (Aa t10)), (37, (AV.tup [(AV.agg [(Aa z30), (Aa z31), (Aa z32), (Aa z33), (Aa z34), (Aa z35)]), (Aa z36)])), (34, (AV.tup [(AV.agg [(Aa z30), (Aa z31), (Aa z32), (Aa z33), (Aa z34), (Aa z35)]), (Aa z36)])), (38, (AV.agg [(Aa z30), (Aa z31), (Aa z32), (Aa z33), (Aa z34), (Aa z35)])), (39, (Aa z36)), (13, (AV.ptr 100144 0)), (14, (Aa z36)), (40, (AV.agg [(Aa z14), (Aa z15), (Aa z16), (Aa z17), (Aa z18), (Aa z19)])), (41, (AV.agg [(Aa z30), (Aa z31), (Aa z32), (Aa z33), (Aa z34), (Aa z35)])), (42, (AV.agg [(Aa b0_0), (Aa b0_1)])), (43, (Ac b38)), (44, t7), (45, (Aa z40)), (15, (Aa z40)), (46, (Aa z40)), (47, (Ac (decide (z40 > (0))))), (48, (Ac true)), (49, t7), (50, (Aa z40)), (51, (Aa (IntKind.wrap .i64 (z40 - (1))))), (52, v41), (53, v42), (54, (Aa z44)), (55, (Aa t10)), (56, (Ac (z44 == t10))), (57, (Ac (z44 == t10))), (65, t7), (66, (Aa t10)), (67, (Aa t10)), (68, (Aa (IntKind.wrap .i64 (t10 + (1))))), (69, v48), (70, v49), (71, v50), (26, (Aa t10)), (27, (Aa (IntKind.wrap .i64 (t10 + (1)))))], m50, 100240⟩)) else (
Bg (Wx [(Aa (0)), (Aa (0))] [(0, 1), (1, 1)] [(0, (Aa t10)), (1, (Aa (IntKind.wrap .i64 (t10 + (1)))))]) fun v51 =>
Fy (Ww 100226 101 2 1 [(Aa (0)), (Aa (0))] [(0, v51)]) ((100144, some ⟨[(Aa z30), (Aa z31), (Aa z32), (Aa z33), (Aa z34), (Aa z35)], 134⟩) :: (100144, some ⟨[(Aa (0)), (Aa (0)), (Aa (0)), (Aa (0)), (Aa (0)), (Aa (0))], 134⟩) :: (100072, some ⟨[(Aa z14), (Aa z15), (Aa z16), (Aa z17), (Aa z18), (Aa z19)], 134⟩) :: (100072, some ⟨[(Aa (0)), (Aa (0)), (Aa (0)), (Aa (0)), (Aa (0)), (Aa (0))], 134⟩) :: (0, some ⟨[(Aa b0_0), (Aa b0_1)], 93⟩) :: m) fun v52 m52 =>
Fy (app (Al m52) 101 2 16 [(Aa (0)), (Aa (0))] 100227 t7 v52) m52 fun v53 m53 =>
N0 ⟨[(0, t0), (1, t1), (5, (AV.ptr 0 0)), (6, t6), (7, v53), (9, (Aa t9)), (10, (Aa (IntKind.wrap .i64 (t10 + (1))))), (23, (Aa t10)), (24, (Aa t9)), (25, (Ac (decide (t10 ≤ t9)))), (29, t0), (30, (Aa t10)), (31, (AV.tup [(AV.agg [(Aa z14), (Aa z15), (Aa z16), (Aa z17), (Aa z18), (Aa z19)]), (Aa z20)])), (28, (AV.tup [(AV.agg [(Aa z14), (Aa z15), (Aa z16), (Aa z17), (Aa z18), (Aa z19)]), (Aa z20)])), (32, (AV.agg [(Aa z14), (Aa z15), (Aa z16), (Aa z17), (Aa z18), (Aa z19)])), (33, (Aa z20)), (11, (AV.ptr 100072 0)), (12, (Aa z20)), (35, t1), (36, (Aa t10)), (37, (AV.tup [(AV.agg [(Aa z30), (Aa z31), (Aa z32), (Aa z33), (Aa z34), (Aa z35)]), (Aa z36)])), (34, (AV.tup [(AV.agg [(Aa z30), (Aa z31), (Aa z32), (Aa z33), (Aa z34), (Aa z35)]), (Aa z36)])), (38, (AV.agg [(Aa z30), (Aa z31), (Aa z32), (Aa z33), (Aa z34), (Aa z35)])), (39, (Aa z36)), (13, (AV.ptr 100144 0)), (14, (Aa z36)), (40, (AV.agg [(Aa z14), (Aa z15), (Aa z16), (Aa z17), (Aa z18), (Aa z19)])), (41, (AV.agg [(Aa z30), (Aa z31), (Aa z32), (Aa z33), (Aa z34), (Aa z35)])), (42, (AV.agg [(Aa b0_0), (Aa b0_1)])), (43, (Ac b38)), (44, t7), (45, (Aa z40)), (15, (Aa z40)), (46, (Aa z40)), (47, (Ac (decide (z40 > (0))))), (48, (Ac false)), (49, (AV.tup [])), (50, (AV.tup [])), (51, (AV.tup [])), (52, (AV.tup [])), (53, (AV.tup [])), (54, (AV.tup [])), (55, (AV.tup [])), (56, (AV.tup [])), (57, (Ac false)), (65, t7), (66, (Aa t10)), (67, (Aa t10)), (68, (Aa (IntKind.wrap .i64 (t10 + (1))))), (69, v51), (70, v52), (71, v53), (26, (Aa t10)), (27, (Aa (IntKind.wrap .i64 (t10 + (1)))))], m53, 100232⟩))) else (
A4 R ((0, some ⟨[(Aa b0_0), (Aa b0_1)], 93⟩) :: m) [some t7])
theorem iL (t0 : AV) (t1 : AV) (t6 : AV) (t7 : AV) (t9 : Int) (t10 : Int) (b0_0 : Int) (b0_1 : Int) (m : Mem) (R : AV → Mem → Prop) (N0 : St → Prop) : W pg KK 73 0 Ul (O1 t0 t1 t6 t7 t9 t10 b0_0 b0_1 m) (sC R N0) = Va t0 t1 t6 t7 t9 t10 b0_0 b0_1 m R N0 := by kernel_rfl
theorem yX (R : AV → Mem → Prop) {σ : Type} (I : σ → Prop) (t0 : σ → AV) (t1 : σ → AV) (t6 : σ → AV) (t7 : σ → AV) (t9 : σ → Int) (t10 : σ → Int) (b0_0 : σ → Int) (b0_1 : σ → Int) (m : σ → Mem) (μ : σ → Nat) (step : ∀ x, I x → Va (t0 x) (t1 x) (t6 x) (t7 x) (t9 x) (t10 x) (b0_0 x) (b0_1 x) (m x) R (fun s' => ∃ y, I y ∧ μ y < μ x ∧ Bo KK 73 0 s' (O1 (t0 y) (t1 y) (t6 y) (t7 y) (t9 y) (t10 y) (b0_0 y) (b0_1 y) (m y)))) (x : σ) (hx : I x) {s : St} (hw : Bo KK 73 0 s (O1 (t0 x) (t1 x) (t6 x) (t7 x) (t9 x) (t10 x) (b0_0 x) (b0_1 x) (m x))) : Ca pg KK 73 0 (.loop Ul) s (U2 R) :=
  Ca.Fk hw (Ca.loops Ee I (fun x => O1 (t0 x) (t1 x) (t6 x) (t7 x) (t9 x) (t10 x) (b0_0 x) (b0_1 x) (m x)) μ (fun x hx => (iL (t0 x) (t1 x) (t6 x) (t7 x) (t9 x) (t10 x) (b0_0 x) (b0_1 x) (m x) R _).mpr (step x hx)) x hx)
noncomputable def s7 (a0 : AV) (a1 : AV) (a2_0 : Int) (a2_1 : Int) (R : AV → Mem → Prop) : Prop :=
Bv pg KK.gl ((0, some ⟨[(Aa a2_0), (Aa a2_1)], 93⟩) :: []) 201 [a0, a1] fun v0 =>
Iw v0 fun c1 c2 =>
Af c1 fun z3 =>
Af c2 fun z4 =>
Ca pg KK 73 0 (.loop Ul) ⟨[(0, a0), (1, a1), (2, (AV.agg [(Aa a2_0), (Aa a2_1)])), (5, (AV.ptr 0 0)), (6, AV.Cc), (7, AV.Cc), (17, a0), (18, a1), (19, (AV.tup [(Aa z3), (Aa z4)])), (16, (AV.tup [(Aa z3), (Aa z4)])), (20, (Aa z3)), (21, (Aa z4)), (8, (Aa z3)), (9, (Aa z4)), (22, (Aa z3)), (10, (Aa z3))], ((0, some ⟨[(Aa a2_0), (Aa a2_1)], 93⟩) :: []), 76⟩ (U2 R)
theorem n9 (a0 : AV) (a1 : AV) (a2_0 : Int) (a2_1 : Int) (R : AV → Mem → Prop) (h : s7 a0 a1 a2_0 a2_1 R) : Own pg KK.gl 149 [a0, a1, (AV.agg [(Aa a2_0), (Aa a2_1)])] R := Bj Ee Tryz.func149 (code := yO) (by kernel_rfl) (by kernel_rfl) (by kernel_rfl) (X := s7 a0 a1 a2_0 a2_1 R) (by kernel_rfl) h
noncomputable def c88 : Code := ((Tryz.f88).body).getD .skip
noncomputable def q88 (R : AV → Mem → Prop) : A9 → St → Prop := Dj pg Tryz.f88 R
noncomputable def F88 (a0 : AV) (a1 : AV) (a2_0 : Int) (a2_1 : Int) (R : AV → Mem → Prop) : Prop :=
Fy (Ww 6 80 1 2 [AV.Cc] [(0, a0), (1, a1)]) ((0, some ⟨[(Aa a2_0), (Aa a2_1)], 93⟩) :: []) fun v0 m0 =>
Bv pg KK.gl m0 148 [(AV.agg [(Aa a2_0), (Aa a2_1)]), v0] fun v1 =>
Af v1 fun z2 =>
bif (z2 != (0)) then (
A4 R m0 [some AV.Cc, some (Aa z2)]) else (
Bg (Ju (Al m0) 2 (AV.ptr 0 0)) fun v3 =>
Uv v3 fun c4 c5 =>
Af c4 fun z6 =>
Af c5 fun z7 =>
Bv pg KK.gl m0 149 [a0, a1, (AV.agg [(Aa z6), (Aa z7)])] fun v8 =>
A4 R m0 [some v8, some (Aa (0))])
theorem uL (a0 : AV) (a1 : AV) (a2_0 : Int) (a2_1 : Int) (R : AV → Mem → Prop) (h : F88 a0 a1 a2_0 a2_1 R) : Own pg KK.gl 88 [a0, a1, (AV.agg [(Aa a2_0), (Aa a2_1)])] R := Bj Ee Tryz.func88 (code := c88) (by kernel_rfl) (by kernel_rfl) (by kernel_rfl) (X := F88 a0 a1 a2_0 a2_1 R) (by kernel_rfl) h
noncomputable def kZ : Code := ((Tryz.f27).body).getD .skip
noncomputable def q27 (R : AV → Mem → Prop) : A9 → St → Prop := Dj pg Tryz.f27 R
noncomputable def F27 (a0 : AV) (a1 : AV) (a2_0 : Int) (a2_1 : Int) (R : AV → Mem → Prop) : Prop :=
Bv pg KK.gl ((0, some ⟨[(Aa a2_0), (Aa a2_1)], 93⟩) :: []) 88 [a0, a1, (AV.agg [(Aa a2_0), (Aa a2_1)])] fun v0 =>
Iw v0 fun c1 c2 =>
Af c2 fun z3 =>
bif (z3 != (0)) then (
A4 R ((0, some ⟨[(Aa a2_0), (Aa a2_1)], 93⟩) :: []) [some (Aa (0)), some (Aa z3)]) else (
Bg (Dh c1) fun v4 =>
Af v4 fun z5 =>
bif (z5 == (0)) then (
A4 R ((0, some ⟨[(Aa a2_0), (Aa a2_1)], 93⟩) :: []) [some (Aa (0)), some (Aa (8))]) else (
Bg (Db 2 c1 (Aa (0))) fun v6 =>
Bg (E1 0 v6) fun v7 =>
Bg (Fe (Al ((0, some ⟨[(Aa a2_0), (Aa a2_1)], 93⟩) :: [])) v7) fun v8 =>
Af v8 fun z9 =>
A4 R ((0, some ⟨[(Aa a2_0), (Aa a2_1)], 93⟩) :: []) [some (Aa z9), some (Aa (0))]))
theorem tU (a0 : AV) (a1 : AV) (a2_0 : Int) (a2_1 : Int) (R : AV → Mem → Prop) (h : F27 a0 a1 a2_0 a2_1 R) : Own pg KK.gl 27 [a0, a1, (AV.agg [(Aa a2_0), (Aa a2_1)])] R := Bj Ee Tryz.func27 (code := kZ) (by kernel_rfl) (by kernel_rfl) (by kernel_rfl) (X := F27 a0 a1 a2_0 a2_1 R) (by kernel_rfl) h
noncomputable def qU : Code := ((Tryz.f39).body).getD .skip
noncomputable def q39 (R : AV → Mem → Prop) : A9 → St → Prop := Dj pg Tryz.f39 R
noncomputable def Tq : Code := Dt qU 0
noncomputable def cZ (R : AV → Mem → Prop) : A9 → St → Prop := Du pg KK 55 0 qU 0 (q39 R)
noncomputable def lG (R : AV → Mem → Prop) (N0 : St → Prop) : A9 → St → Prop := Dv N0 (cZ R)
def Py (t2 : Int) (t10_0 : Int) (t10_1 : Int) (t10_2 : Int) (t10_3 : Int) (t10_4 : Int) (t10_5 : Int) (t10_6 : Int) (t10_7 : Int) (t10_8 : Int) (t10_9 : Int) (t10_10 : Int) (t10_11 : Int) (t10_12 : Int) (t10_13 : Int) (t10_14 : Int) (t10_15 : Int) (t11 : Int) (b0_0 : Int) (b0_1 : Int) (b0_2 : Int) (b0_3 : Int) (b0_4 : Int) (b0_5 : Int) (b0_6 : Int) (b0_7 : Int) (b0_8 : Int) (b0_9 : Int) (b0_10 : Int) (b0_11 : Int) (b0_12 : Int) (b0_13 : Int) (b0_14 : Int) (b0_15 : Int) (m : Mem) : St := ⟨[(1, (AV.ptr 0 0)), (2, (Aa t2)), (10, (AV.agg [(Aa t10_0), (Aa t10_1), (Aa t10_2), (Aa t10_3), (Aa t10_4), (Aa t10_5), (Aa t10_6), (Aa t10_7), (Aa t10_8), (Aa t10_9), (Aa t10_10), (Aa t10_11), (Aa t10_12), (Aa t10_13), (Aa t10_14), (Aa t10_15)])), (11, (Aa t11))], ((0, some ⟨[(Aa b0_0), (Aa b0_1), (Aa b0_2), (Aa b0_3), (Aa b0_4), (Aa b0_5), (Aa b0_6), (Aa b0_7), (Aa b0_8), (Aa b0_9), (Aa b0_10), (Aa b0_11), (Aa b0_12), (Aa b0_13), (Aa b0_14), (Aa b0_15)], 25⟩) :: m), 100000⟩
noncomputable def Qj : Code := Dt Tq 0
noncomputable def Qi (R : AV → Mem → Prop) (N0 : St → Prop) : A9 → St → Prop := Du pg KK 55 0 Tq 0 (lG R N0)
noncomputable def mZ (R : AV → Mem → Prop) (N0 : St → Prop) (N1 : St → Prop) : A9 → St → Prop := Dv N1 (Qi R N0)
def Lj (t2 : Int) (t10_0 : Int) (t10_1 : Int) (t10_2 : Int) (t10_3 : Int) (t10_4 : Int) (t10_5 : Int) (t10_6 : Int) (t10_7 : Int) (t10_8 : Int) (t10_9 : Int) (t10_10 : Int) (t10_11 : Int) (t10_12 : Int) (t10_13 : Int) (t10_14 : Int) (t10_15 : Int) (t11 : Int) (t14_0 : Int) (t14_1 : Int) (t14_2 : Int) (t14_3 : Int) (t15 : Int) (b0_0 : Int) (b0_1 : Int) (b0_2 : Int) (b0_3 : Int) (b0_4 : Int) (b0_5 : Int) (b0_6 : Int) (b0_7 : Int) (b0_8 : Int) (b0_9 : Int) (b0_10 : Int) (b0_11 : Int) (b0_12 : Int) (b0_13 : Int) (b0_14 : Int) (b0_15 : Int) (m : Mem) : St := ⟨[(1, (AV.ptr 0 0)), (2, (Aa t2)), (10, (AV.agg [(Aa t10_0), (Aa t10_1), (Aa t10_2), (Aa t10_3), (Aa t10_4), (Aa t10_5), (Aa t10_6), (Aa t10_7), (Aa t10_8), (Aa t10_9), (Aa t10_10), (Aa t10_11), (Aa t10_12), (Aa t10_13), (Aa t10_14), (Aa t10_15)])), (11, (Aa t11)), (14, (AV.agg [(Aa t14_0), (Aa t14_1), (Aa t14_2), (Aa t14_3)])), (15, (Aa t15))], ((0, some ⟨[(Aa b0_0), (Aa b0_1), (Aa b0_2), (Aa b0_3), (Aa b0_4), (Aa b0_5), (Aa b0_6), (Aa b0_7), (Aa b0_8), (Aa b0_9), (Aa b0_10), (Aa b0_11), (Aa b0_12), (Aa b0_13), (Aa b0_14), (Aa b0_15)], 25⟩) :: m), 200000⟩
noncomputable def Tf : Code := Dt qU 1
noncomputable def bZ (R : AV → Mem → Prop) : A9 → St → Prop := Du pg KK 55 0 qU 1 (q39 R)
noncomputable def nL (R : AV → Mem → Prop) (N0 : St → Prop) : A9 → St → Prop := Dv N0 (bZ R)
def Ma (t2 : Int) (t26 : Int) (b0_0 : Int) (b0_1 : Int) (b0_2 : Int) (b0_3 : Int) (b0_4 : Int) (b0_5 : Int) (b0_6 : Int) (b0_7 : Int) (b0_8 : Int) (b0_9 : Int) (b0_10 : Int) (b0_11 : Int) (b0_12 : Int) (b0_13 : Int) (b0_14 : Int) (b0_15 : Int) (m : Mem) : St := ⟨[(1, (AV.ptr 0 0)), (2, (Aa t2)), (26, (Aa t26))], ((0, some ⟨[(Aa b0_0), (Aa b0_1), (Aa b0_2), (Aa b0_3), (Aa b0_4), (Aa b0_5), (Aa b0_6), (Aa b0_7), (Aa b0_8), (Aa b0_9), (Aa b0_10), (Aa b0_11), (Aa b0_12), (Aa b0_13), (Aa b0_14), (Aa b0_15)], 25⟩) :: m), 200000⟩
noncomputable def K5 : Code := Dt Tf 0
noncomputable def P9 (R : AV → Mem → Prop) (N0 : St → Prop) : A9 → St → Prop := Du pg KK 55 0 Tf 0 (nL R N0)
noncomputable def Xf (R : AV → Mem → Prop) (N0 : St → Prop) (N1 : St → Prop) : A9 → St → Prop := Dv N1 (P9 R N0)
def H8 (t2 : Int) (t7 : Int) (t26 : Int) (t29 : Int) (b0_0 : Int) (b0_1 : Int) (b0_2 : Int) (b0_3 : Int) (b0_4 : Int) (b0_5 : Int) (b0_6 : Int) (b0_7 : Int) (b0_8 : Int) (b0_9 : Int) (b0_10 : Int) (b0_11 : Int) (b0_12 : Int) (b0_13 : Int) (b0_14 : Int) (b0_15 : Int) (m : Mem) : St := ⟨[(1, (AV.ptr 0 0)), (2, (Aa t2)), (7, (Aa t7)), (26, (Aa t26)), (29, (Aa t29))], ((0, some ⟨[(Aa b0_0), (Aa b0_1), (Aa b0_2), (Aa b0_3), (Aa b0_4), (Aa b0_5), (Aa b0_6), (Aa b0_7), (Aa b0_8), (Aa b0_9), (Aa b0_10), (Aa b0_11), (Aa b0_12), (Aa b0_13), (Aa b0_14), (Aa b0_15)], 25⟩) :: m), 300000⟩
noncomputable def La : Code := Dt K5 0
noncomputable def Li (R : AV → Mem → Prop) (N0 : St → Prop) (N1 : St → Prop) : A9 → St → Prop := Du pg KK 55 0 K5 0 (Xf R N0 N1)
noncomputable def Zx (R : AV → Mem → Prop) (N0 : St → Prop) (N1 : St → Prop) (N2 : St → Prop) : A9 → St → Prop := Dv N2 (Li R N0 N1)
def Hh (t2 : Int) (t7 : Int) (t8 : Int) (t26 : Int) (t29 : Int) (t32 : Int) (b0_0 : Int) (b0_1 : Int) (b0_2 : Int) (b0_3 : Int) (b0_4 : Int) (b0_5 : Int) (b0_6 : Int) (b0_7 : Int) (b0_8 : Int) (b0_9 : Int) (b0_10 : Int) (b0_11 : Int) (b0_12 : Int) (b0_13 : Int) (b0_14 : Int) (b0_15 : Int) (m : Mem) : St := ⟨[(1, (AV.ptr 0 0)), (2, (Aa t2)), (7, (Aa t7)), (8, (Aa t8)), (26, (Aa t26)), (29, (Aa t29)), (32, (Aa t32))], ((0, some ⟨[(Aa b0_0), (Aa b0_1), (Aa b0_2), (Aa b0_3), (Aa b0_4), (Aa b0_5), (Aa b0_6), (Aa b0_7), (Aa b0_8), (Aa b0_9), (Aa b0_10), (Aa b0_11), (Aa b0_12), (Aa b0_13), (Aa b0_14), (Aa b0_15)], 25⟩) :: m), 400000⟩
noncomputable def fE (t2 : Int) (t10_0 : Int) (t10_1 : Int) (t10_2 : Int) (t10_3 : Int) (t10_4 : Int) (t10_5 : Int) (t10_6 : Int) (t10_7 : Int) (t10_8 : Int) (t10_9 : Int) (t10_10 : Int) (t10_11 : Int) (t10_12 : Int) (t10_13 : Int) (t10_14 : Int) (t10_15 : Int) (t11 : Int) (b0_0 : Int) (b0_1 : Int) (b0_2 : Int) (b0_3 : Int) (b0_4 : Int) (b0_5 : Int) (b0_6 : Int) (b0_7 : Int) (b0_8 : Int) (b0_9 : Int) (b0_10 : Int) (b0_11 : Int) (b0_12 : Int) (b0_13 : Int) (b0_14 : Int) (b0_15 : Int) (m : Mem) (R : AV → Mem → Prop) (N0 : St → Prop) : Prop :=
bif (decide (t11 < (4))) then (
Bg (B9 pg (.index 25 (.tmp 0) (.tmp 1)) 23 [(AV.agg [(Aa t10_0), (Aa t10_1), (Aa t10_2), (Aa t10_3), (Aa t10_4), (Aa t10_5), (Aa t10_6), (Aa t10_7), (Aa t10_8), (Aa t10_9), (Aa t10_10), (Aa t10_11), (Aa t10_12), (Aa t10_13), (Aa t10_14), (Aa t10_15)]), (Aa t11)] (Al ((0, some ⟨[(Aa b0_0), (Aa b0_1), (Aa b0_2), (Aa b0_3), (Aa b0_4), (Aa b0_5), (Aa b0_6), (Aa b0_7), (Aa b0_8), (Aa b0_9), (Aa b0_10), (Aa b0_11), (Aa b0_12), (Aa b0_13), (Aa b0_14), (Aa b0_15)], 25⟩) :: m)) 100001) fun v0 =>
Jf v0 fun c1 c2 c3 c4 =>
Af c1 fun z5 =>
Af c2 fun z6 =>
Af c3 fun z7 =>
Af c4 fun z8 =>
Ca pg KK 55 0 (.loop Qj) ⟨[(1, (AV.ptr 0 0)), (2, (Aa t2)), (10, (AV.agg [(Aa t10_0), (Aa t10_1), (Aa t10_2), (Aa t10_3), (Aa t10_4), (Aa t10_5), (Aa t10_6), (Aa t10_7), (Aa t10_8), (Aa t10_9), (Aa t10_10), (Aa t10_11), (Aa t10_12), (Aa t10_13), (Aa t10_14), (Aa t10_15)])), (11, (Aa t11)), (12, (Ac (decide (t11 < (4))))), (13, (AV.agg [(Aa z5), (Aa z6), (Aa z7), (Aa z8)])), (4, (AV.ptr 100002 0)), (14, (AV.agg [(Aa z5), (Aa z6), (Aa z7), (Aa z8)])), (15, (Aa (0)))], ((100002, some ⟨[(Aa z5), (Aa z6), (Aa z7), (Aa z8)], 23⟩) :: (100002, some ⟨[(Aa (0)), (Aa (0)), (Aa (0)), (Aa (0))], 23⟩) :: (0, some ⟨[(Aa b0_0), (Aa b0_1), (Aa b0_2), (Aa b0_3), (Aa b0_4), (Aa b0_5), (Aa b0_6), (Aa b0_7), (Aa b0_8), (Aa b0_9), (Aa b0_10), (Aa b0_11), (Aa b0_12), (Aa b0_13), (Aa b0_14), (Aa b0_15)], 25⟩) :: m), 100006⟩ (Qi R N0)) else (
Ca pg KK 55 0 (.loop Tf) ⟨[(1, (AV.ptr 0 0)), (2, (Aa t2)), (10, (AV.agg [(Aa t10_0), (Aa t10_1), (Aa t10_2), (Aa t10_3), (Aa t10_4), (Aa t10_5), (Aa t10_6), (Aa t10_7), (Aa t10_8), (Aa t10_9), (Aa t10_10), (Aa t10_11), (Aa t10_12), (Aa t10_13), (Aa t10_14), (Aa t10_15)])), (11, (Aa t11)), (12, (Ac (decide (t11 < (4))))), (26, (Aa (0)))], ((0, some ⟨[(Aa b0_0), (Aa b0_1), (Aa b0_2), (Aa b0_3), (Aa b0_4), (Aa b0_5), (Aa b0_6), (Aa b0_7), (Aa b0_8), (Aa b0_9), (Aa b0_10), (Aa b0_11), (Aa b0_12), (Aa b0_13), (Aa b0_14), (Aa b0_15)], 25⟩) :: m), 100002⟩ (bZ R))
theorem mP (t2 : Int) (t10_0 : Int) (t10_1 : Int) (t10_2 : Int) (t10_3 : Int) (t10_4 : Int) (t10_5 : Int) (t10_6 : Int) (t10_7 : Int) (t10_8 : Int) (t10_9 : Int) (t10_10 : Int) (t10_11 : Int) (t10_12 : Int) (t10_13 : Int) (t10_14 : Int) (t10_15 : Int) (t11 : Int) (b0_0 : Int) (b0_1 : Int) (b0_2 : Int) (b0_3 : Int) (b0_4 : Int) (b0_5 : Int) (b0_6 : Int) (b0_7 : Int) (b0_8 : Int) (b0_9 : Int) (b0_10 : Int) (b0_11 : Int) (b0_12 : Int) (b0_13 : Int) (b0_14 : Int) (b0_15 : Int) (m : Mem) (R : AV → Mem → Prop) (N0 : St → Prop) : W pg KK 55 0 Tq (Py t2 t10_0 t10_1 t10_2 t10_3 t10_4 t10_5 t10_6 t10_7 t10_8 t10_9 t10_10 t10_11 t10_12 t10_13 t10_14 t10_15 t11 b0_0 b0_1 b0_2 b0_3 b0_4 b0_5 b0_6 b0_7 b0_8 b0_9 b0_10 b0_11 b0_12 b0_13 b0_14 b0_15 m) (lG R N0) = fE t2 t10_0 t10_1 t10_2 t10_3 t10_4 t10_5 t10_6 t10_7 t10_8 t10_9 t10_10 t10_11 t10_12 t10_13 t10_14 t10_15 t11 b0_0 b0_1 b0_2 b0_3 b0_4 b0_5 b0_6 b0_7 b0_8 b0_9 b0_10 b0_11 b0_12 b0_13 b0_14 b0_15 m R N0 := by kernel_rfl
theorem Adf (R : AV → Mem → Prop) {σ : Type} (I : σ → Prop) (t2 : σ → Int) (t10_0 : σ → Int) (t10_1 : σ → Int) (t10_2 : σ → Int) (t10_3 : σ → Int) (t10_4 : σ → Int) (t10_5 : σ → Int) (t10_6 : σ → Int) (t10_7 : σ → Int) (t10_8 : σ → Int) (t10_9 : σ → Int) (t10_10 : σ → Int) (t10_11 : σ → Int) (t10_12 : σ → Int) (t10_13 : σ → Int) (t10_14 : σ → Int) (t10_15 : σ → Int) (t11 : σ → Int) (b0_0 : σ → Int) (b0_1 : σ → Int) (b0_2 : σ → Int) (b0_3 : σ → Int) (b0_4 : σ → Int) (b0_5 : σ → Int) (b0_6 : σ → Int) (b0_7 : σ → Int) (b0_8 : σ → Int) (b0_9 : σ → Int) (b0_10 : σ → Int) (b0_11 : σ → Int) (b0_12 : σ → Int) (b0_13 : σ → Int) (b0_14 : σ → Int) (b0_15 : σ → Int) (m : σ → Mem) (μ : σ → Nat) (step : ∀ x, I x → fE (t2 x) (t10_0 x) (t10_1 x) (t10_2 x) (t10_3 x) (t10_4 x) (t10_5 x) (t10_6 x) (t10_7 x) (t10_8 x) (t10_9 x) (t10_10 x) (t10_11 x) (t10_12 x) (t10_13 x) (t10_14 x) (t10_15 x) (t11 x) (b0_0 x) (b0_1 x) (b0_2 x) (b0_3 x) (b0_4 x) (b0_5 x) (b0_6 x) (b0_7 x) (b0_8 x) (b0_9 x) (b0_10 x) (b0_11 x) (b0_12 x) (b0_13 x) (b0_14 x) (b0_15 x) (m x) R (fun s' => ∃ y, I y ∧ μ y < μ x ∧ Bo KK 55 0 s' (Py (t2 y) (t10_0 y) (t10_1 y) (t10_2 y) (t10_3 y) (t10_4 y) (t10_5 y) (t10_6 y) (t10_7 y) (t10_8 y) (t10_9 y) (t10_10 y) (t10_11 y) (t10_12 y) (t10_13 y) (t10_14 y) (t10_15 y) (t11 y) (b0_0 y) (b0_1 y) (b0_2 y) (b0_3 y) (b0_4 y) (b0_5 y) (b0_6 y) (b0_7 y) (b0_8 y) (b0_9 y) (b0_10 y) (b0_11 y) (b0_12 y) (b0_13 y) (b0_14 y) (b0_15 y) (m y)))) (x : σ) (hx : I x) {s : St} (hw : Bo KK 55 0 s (Py (t2 x) (t10_0 x) (t10_1 x) (t10_2 x) (t10_3 x) (t10_4 x) (t10_5 x) (t10_6 x) (t10_7 x) (t10_8 x) (t10_9 x) (t10_10 x) (t10_11 x) (t10_12 x) (t10_13 x) (t10_14 x) (t10_15 x) (t11 x) (b0_0 x) (b0_1 x) (b0_2 x) (b0_3 x) (b0_4 x) (b0_5 x) (b0_6 x) (b0_7 x) (b0_8 x) (b0_9 x) (b0_10 x) (b0_11 x) (b0_12 x) (b0_13 x) (b0_14 x) (b0_15 x) (m x))) : Ca pg KK 55 0 (.loop Tq) s (cZ R) :=
  Ca.Fk hw (Ca.loops Ee I (fun x => Py (t2 x) (t10_0 x) (t10_1 x) (t10_2 x) (t10_3 x) (t10_4 x) (t10_5 x) (t10_6 x) (t10_7 x) (t10_8 x) (t10_9 x) (t10_10 x) (t10_11 x) (t10_12 x) (t10_13 x) (t10_14 x) (t10_15 x) (t11 x) (b0_0 x) (b0_1 x) (b0_2 x) (b0_3 x) (b0_4 x) (b0_5 x) (b0_6 x) (b0_7 x) (b0_8 x) (b0_9 x) (b0_10 x) (b0_11 x) (b0_12 x) (b0_13 x) (b0_14 x) (b0_15 x) (m x)) μ (fun x hx => (mP (t2 x) (t10_0 x) (t10_1 x) (t10_2 x) (t10_3 x) (t10_4 x) (t10_5 x) (t10_6 x) (t10_7 x) (t10_8 x) (t10_9 x) (t10_10 x) (t10_11 x) (t10_12 x) (t10_13 x) (t10_14 x) (t10_15 x) (t11 x) (b0_0 x) (b0_1 x) (b0_2 x) (b0_3 x) (b0_4 x) (b0_5 x) (b0_6 x) (b0_7 x) (b0_8 x) (b0_9 x) (b0_10 x) (b0_11 x) (b0_12 x) (b0_13 x) (b0_14 x) (b0_15 x) (m x) R _).mpr (step x hx)) x hx)
noncomputable def P8 (t2 : Int) (t10_0 : Int) (t10_1 : Int) (t10_2 : Int) (t10_3 : Int) (t10_4 : Int) (t10_5 : Int) (t10_6 : Int) (t10_7 : Int) (t10_8 : Int) (t10_9 : Int) (t10_10 : Int) (t10_11 : Int) (t10_12 : Int) (t10_13 : Int) (t10_14 : Int) (t10_15 : Int) (t11 : Int) (t14_0 : Int) (t14_1 : Int) (t14_2 : Int) (t14_3 : Int) (t15 : Int) (b0_0 : Int) (b0_1 : Int) (b0_2 : Int) (b0_3 : Int) (b0_4 : Int) (b0_5 : Int) (b0_6 : Int) (b0_7 : Int) (b0_8 : Int) (b0_9 : Int) (b0_10 : Int) (b0_11 : Int) (b0_12 : Int) (b0_13 : Int) (b0_14 : Int) (b0_15 : Int) (m : Mem) (R : AV → Mem → Prop) (N0 : St → Prop) (N1 : St → Prop) : Prop :=
bif (decide (t15 < (4))) then (
Bg (B9 pg (.index 23 (.tmp 0) (.tmp 1)) 3 [(AV.agg [(Aa t14_0), (Aa t14_1), (Aa t14_2), (Aa t14_3)]), (Aa t15)] (Al ((0, some ⟨[(Aa b0_0), (Aa b0_1), (Aa b0_2), (Aa b0_3), (Aa b0_4), (Aa b0_5), (Aa b0_6), (Aa b0_7), (Aa b0_8), (Aa b0_9), (Aa b0_10), (Aa b0_11), (Aa b0_12), (Aa b0_13), (Aa b0_14), (Aa b0_15)], 25⟩) :: m)) 200001) fun v9 =>
Af v9 fun z10 =>
bif (decide (z10 < (30))) then (
A4 R ((0, some ⟨[(Aa b0_0), (Aa b0_1), (Aa b0_2), (Aa b0_3), (Aa b0_4), (Aa b0_5), (Aa b0_6), (Aa b0_7), (Aa b0_8), (Aa b0_9), (Aa b0_10), (Aa b0_11), (Aa b0_12), (Aa b0_13), (Aa b0_14), (Aa b0_15)], 25⟩) :: m) [some (Aa (4))]) else (
bif (decide (z10 > (600))) then (
A4 R ((0, some ⟨[(Aa b0_0), (Aa b0_1), (Aa b0_2), (Aa b0_3), (Aa b0_4), (Aa b0_5), (Aa b0_6), (Aa b0_7), (Aa b0_8), (Aa b0_9), (Aa b0_10), (Aa b0_11), (Aa b0_12), (Aa b0_13), (Aa b0_14), (Aa b0_15)], 25⟩) :: m) [some (Aa (4))]) else (
N1 ⟨[(1, (AV.ptr 0 0)), (2, (Aa t2)), (10, (AV.agg [(Aa t10_0), (Aa t10_1), (Aa t10_2), (Aa t10_3), (Aa t10_4), (Aa t10_5), (Aa t10_6), (Aa t10_7), (Aa t10_8), (Aa t10_9), (Aa t10_10), (Aa t10_11), (Aa t10_12), (Aa t10_13), (Aa t10_14), (Aa t10_15)])), (11, (Aa t11)), (14, (AV.agg [(Aa t14_0), (Aa t14_1), (Aa t14_2), (Aa t14_3)])), (15, (Aa (IntKind.wrap .i64 (t15 + (1))))), (16, (Ac (decide (t15 < (4))))), (17, (Aa z10)), (6, (Aa z10)), (18, (Aa z10)), (19, (Ac (decide (z10 < (30))))), (20, (Ac false)), (21, (Aa z10)), (22, (Ac (decide (z10 > (600))))), (23, (Ac (decide (z10 > (600))))), (24, (Aa (IntKind.wrap .i64 (t15 + (1)))))], ((0, some ⟨[(Aa b0_0), (Aa b0_1), (Aa b0_2), (Aa b0_3), (Aa b0_4), (Aa b0_5), (Aa b0_6), (Aa b0_7), (Aa b0_8), (Aa b0_9), (Aa b0_10), (Aa b0_11), (Aa b0_12), (Aa b0_13), (Aa b0_14), (Aa b0_15)], 25⟩) :: m), 200011⟩))) else (
N0 ⟨[(1, (AV.ptr 0 0)), (2, (Aa t2)), (10, (AV.agg [(Aa t10_0), (Aa t10_1), (Aa t10_2), (Aa t10_3), (Aa t10_4), (Aa t10_5), (Aa t10_6), (Aa t10_7), (Aa t10_8), (Aa t10_9), (Aa t10_10), (Aa t10_11), (Aa t10_12), (Aa t10_13), (Aa t10_14), (Aa t10_15)])), (11, (Aa (IntKind.wrap .i64 (t11 + (1))))), (14, (AV.agg [(Aa t14_0), (Aa t14_1), (Aa t14_2), (Aa t14_3)])), (15, (Aa t15)), (16, (Ac (decide (t15 < (4))))), (25, (Aa (IntKind.wrap .i64 (t11 + (1)))))], ((0, some ⟨[(Aa b0_0), (Aa b0_1), (Aa b0_2), (Aa b0_3), (Aa b0_4), (Aa b0_5), (Aa b0_6), (Aa b0_7), (Aa b0_8), (Aa b0_9), (Aa b0_10), (Aa b0_11), (Aa b0_12), (Aa b0_13), (Aa b0_14), (Aa b0_15)], 25⟩) :: m), 200003⟩)
theorem Zt (t2 : Int) (t10_0 : Int) (t10_1 : Int) (t10_2 : Int) (t10_3 : Int) (t10_4 : Int) (t10_5 : Int) (t10_6 : Int) (t10_7 : Int) (t10_8 : Int) (t10_9 : Int) (t10_10 : Int) (t10_11 : Int) (t10_12 : Int) (t10_13 : Int) (t10_14 : Int) (t10_15 : Int) (t11 : Int) (t14_0 : Int) (t14_1 : Int) (t14_2 : Int) (t14_3 : Int) (t15 : Int) (b0_0 : Int) (b0_1 : Int) (b0_2 : Int) (b0_3 : Int) (b0_4 : Int) (b0_5 : Int) (b0_6 : Int) (b0_7 : Int) (b0_8 : Int) (b0_9 : Int) (b0_10 : Int) (b0_11 : Int) (b0_12 : Int) (b0_13 : Int) (b0_14 : Int) (b0_15 : Int) (m : Mem) (R : AV → Mem → Prop) (N0 : St → Prop) (N1 : St → Prop) : W pg KK 55 0 Qj (Lj t2 t10_0 t10_1 t10_2 t10_3 t10_4 t10_5 t10_6 t10_7 t10_8 t10_9 t10_10 t10_11 t10_12 t10_13 t10_14 t10_15 t11 t14_0 t14_1 t14_2 t14_3 t15 b0_0 b0_1 b0_2 b0_3 b0_4 b0_5 b0_6 b0_7 b0_8 b0_9 b0_10 b0_11 b0_12 b0_13 b0_14 b0_15 m) (mZ R N0 N1) = P8 t2 t10_0 t10_1 t10_2 t10_3 t10_4 t10_5 t10_6 t10_7 t10_8 t10_9 t10_10 t10_11 t10_12 t10_13 t10_14 t10_15 t11 t14_0 t14_1 t14_2 t14_3 t15 b0_0 b0_1 b0_2 b0_3 b0_4 b0_5 b0_6 b0_7 b0_8 b0_9 b0_10 b0_11 b0_12 b0_13 b0_14 b0_15 m R N0 N1 := by kernel_rfl
theorem tL (R : AV → Mem → Prop) (N0 : St → Prop) {σ : Type} (I : σ → Prop) (t2 : σ → Int) (t10_0 : σ → Int) (t10_1 : σ → Int) (t10_2 : σ → Int) (t10_3 : σ → Int) (t10_4 : σ → Int) (t10_5 : σ → Int) (t10_6 : σ → Int) (t10_7 : σ → Int) (t10_8 : σ → Int) (t10_9 : σ → Int) (t10_10 : σ → Int) (t10_11 : σ → Int) (t10_12 : σ → Int) (t10_13 : σ → Int) (t10_14 : σ → Int) (t10_15 : σ → Int) (t11 : σ → Int) (t14_0 : σ → Int) (t14_1 : σ → Int) (t14_2 : σ → Int) (t14_3 : σ → Int) (t15 : σ → Int) (b0_0 : σ → Int) (b0_1 : σ → Int) (b0_2 : σ → Int) (b0_3 : σ → Int) (b0_4 : σ → Int) (b0_5 : σ → Int) (b0_6 : σ → Int) (b0_7 : σ → Int) (b0_8 : σ → Int) (b0_9 : σ → Int) (b0_10 : σ → Int) (b0_11 : σ → Int) (b0_12 : σ → Int) (b0_13 : σ → Int) (b0_14 : σ → Int) (b0_15 : σ → Int) (m : σ → Mem) (μ : σ → Nat) (step : ∀ x, I x → P8 (t2 x) (t10_0 x) (t10_1 x) (t10_2 x) (t10_3 x) (t10_4 x) (t10_5 x) (t10_6 x) (t10_7 x) (t10_8 x) (t10_9 x) (t10_10 x) (t10_11 x) (t10_12 x) (t10_13 x) (t10_14 x) (t10_15 x) (t11 x) (t14_0 x) (t14_1 x) (t14_2 x) (t14_3 x) (t15 x) (b0_0 x) (b0_1 x) (b0_2 x) (b0_3 x) (b0_4 x) (b0_5 x) (b0_6 x) (b0_7 x) (b0_8 x) (b0_9 x) (b0_10 x) (b0_11 x) (b0_12 x) (b0_13 x) (b0_14 x) (b0_15 x) (m x) R N0 (fun s' => ∃ y, I y ∧ μ y < μ x ∧ Bo KK 55 0 s' (Lj (t2 y) (t10_0 y) (t10_1 y) (t10_2 y) (t10_3 y) (t10_4 y) (t10_5 y) (t10_6 y) (t10_7 y) (t10_8 y) (t10_9 y) (t10_10 y) (t10_11 y) (t10_12 y) (t10_13 y) (t10_14 y) (t10_15 y) (t11 y) (t14_0 y) (t14_1 y) (t14_2 y) (t14_3 y) (t15 y) (b0_0 y) (b0_1 y) (b0_2 y) (b0_3 y) (b0_4 y) (b0_5 y) (b0_6 y) (b0_7 y) (b0_8 y) (b0_9 y) (b0_10 y) (b0_11 y) (b0_12 y) (b0_13 y) (b0_14 y) (b0_15 y) (m y)))) (x : σ) (hx : I x) {s : St} (hw : Bo KK 55 0 s (Lj (t2 x) (t10_0 x) (t10_1 x) (t10_2 x) (t10_3 x) (t10_4 x) (t10_5 x) (t10_6 x) (t10_7 x) (t10_8 x) (t10_9 x) (t10_10 x) (t10_11 x) (t10_12 x) (t10_13 x) (t10_14 x) (t10_15 x) (t11 x) (t14_0 x) (t14_1 x) (t14_2 x) (t14_3 x) (t15 x) (b0_0 x) (b0_1 x) (b0_2 x) (b0_3 x) (b0_4 x) (b0_5 x) (b0_6 x) (b0_7 x) (b0_8 x) (b0_9 x) (b0_10 x) (b0_11 x) (b0_12 x) (b0_13 x) (b0_14 x) (b0_15 x) (m x))) : Ca pg KK 55 0 (.loop Qj) s (Qi R N0) :=
  Ca.Fk hw (Ca.loops Ee I (fun x => Lj (t2 x) (t10_0 x) (t10_1 x) (t10_2 x) (t10_3 x) (t10_4 x) (t10_5 x) (t10_6 x) (t10_7 x) (t10_8 x) (t10_9 x) (t10_10 x) (t10_11 x) (t10_12 x) (t10_13 x) (t10_14 x) (t10_15 x) (t11 x) (t14_0 x) (t14_1 x) (t14_2 x) (t14_3 x) (t15 x) (b0_0 x) (b0_1 x) (b0_2 x) (b0_3 x) (b0_4 x) (b0_5 x) (b0_6 x) (b0_7 x) (b0_8 x) (b0_9 x) (b0_10 x) (b0_11 x) (b0_12 x) (b0_13 x) (b0_14 x) (b0_15 x) (m x)) μ (fun x hx => (Zt (t2 x) (t10_0 x) (t10_1 x) (t10_2 x) (t10_3 x) (t10_4 x) (t10_5 x) (t10_6 x) (t10_7 x) (t10_8 x) (t10_9 x) (t10_10 x) (t10_11 x) (t10_12 x) (t10_13 x) (t10_14 x) (t10_15 x) (t11 x) (t14_0 x) (t14_1 x) (t14_2 x) (t14_3 x) (t15 x) (b0_0 x) (b0_1 x) (b0_2 x) (b0_3 x) (b0_4 x) (b0_5 x) (b0_6 x) (b0_7 x) (b0_8 x) (b0_9 x) (b0_10 x) (b0_11 x) (b0_12 x) (b0_13 x) (b0_14 x) (b0_15 x) (m x) R N0 _).mpr (step x hx)) x hx)
noncomputable def dS (t2 : Int) (t26 : Int) (b0_0 : Int) (b0_1 : Int) (b0_2 : Int) (b0_3 : Int) (b0_4 : Int) (b0_5 : Int) (b0_6 : Int) (b0_7 : Int) (b0_8 : Int) (b0_9 : Int) (b0_10 : Int) (b0_11 : Int) (b0_12 : Int) (b0_13 : Int) (b0_14 : Int) (b0_15 : Int) (m : Mem) (R : AV → Mem → Prop) (N0 : St → Prop) : Prop :=
bif (decide (t26 < (4))) then (
Ca pg KK 55 0 (.loop K5) ⟨[(1, (AV.ptr 0 0)), (2, (Aa t2)), (26, (Aa t26)), (27, (Ac (decide (t26 < (4))))), (28, (Aa t26)), (7, (Aa t26)), (29, (Aa (0)))], ((0, some ⟨[(Aa b0_0), (Aa b0_1), (Aa b0_2), (Aa b0_3), (Aa b0_4), (Aa b0_5), (Aa b0_6), (Aa b0_7), (Aa b0_8), (Aa b0_9), (Aa b0_10), (Aa b0_11), (Aa b0_12), (Aa b0_13), (Aa b0_14), (Aa b0_15)], 25⟩) :: m), 200004⟩ (P9 R N0)) else (
A4 R ((0, some ⟨[(Aa b0_0), (Aa b0_1), (Aa b0_2), (Aa b0_3), (Aa b0_4), (Aa b0_5), (Aa b0_6), (Aa b0_7), (Aa b0_8), (Aa b0_9), (Aa b0_10), (Aa b0_11), (Aa b0_12), (Aa b0_13), (Aa b0_14), (Aa b0_15)], 25⟩) :: m) [some (Aa (0))])
theorem lO (t2 : Int) (t26 : Int) (b0_0 : Int) (b0_1 : Int) (b0_2 : Int) (b0_3 : Int) (b0_4 : Int) (b0_5 : Int) (b0_6 : Int) (b0_7 : Int) (b0_8 : Int) (b0_9 : Int) (b0_10 : Int) (b0_11 : Int) (b0_12 : Int) (b0_13 : Int) (b0_14 : Int) (b0_15 : Int) (m : Mem) (R : AV → Mem → Prop) (N0 : St → Prop) : W pg KK 55 0 Tf (Ma t2 t26 b0_0 b0_1 b0_2 b0_3 b0_4 b0_5 b0_6 b0_7 b0_8 b0_9 b0_10 b0_11 b0_12 b0_13 b0_14 b0_15 m) (nL R N0) = dS t2 t26 b0_0 b0_1 b0_2 b0_3 b0_4 b0_5 b0_6 b0_7 b0_8 b0_9 b0_10 b0_11 b0_12 b0_13 b0_14 b0_15 m R N0 := by kernel_rfl
theorem Ac2 (R : AV → Mem → Prop) {σ : Type} (I : σ → Prop) (t2 : σ → Int) (t26 : σ → Int) (b0_0 : σ → Int) (b0_1 : σ → Int) (b0_2 : σ → Int) (b0_3 : σ → Int) (b0_4 : σ → Int) (b0_5 : σ → Int) (b0_6 : σ → Int) (b0_7 : σ → Int) (b0_8 : σ → Int) (b0_9 : σ → Int) (b0_10 : σ → Int) (b0_11 : σ → Int) (b0_12 : σ → Int) (b0_13 : σ → Int) (b0_14 : σ → Int) (b0_15 : σ → Int) (m : σ → Mem) (μ : σ → Nat) (step : ∀ x, I x → dS (t2 x) (t26 x) (b0_0 x) (b0_1 x) (b0_2 x) (b0_3 x) (b0_4 x) (b0_5 x) (b0_6 x) (b0_7 x) (b0_8 x) (b0_9 x) (b0_10 x) (b0_11 x) (b0_12 x) (b0_13 x) (b0_14 x) (b0_15 x) (m x) R (fun s' => ∃ y, I y ∧ μ y < μ x ∧ Bo KK 55 0 s' (Ma (t2 y) (t26 y) (b0_0 y) (b0_1 y) (b0_2 y) (b0_3 y) (b0_4 y) (b0_5 y) (b0_6 y) (b0_7 y) (b0_8 y) (b0_9 y) (b0_10 y) (b0_11 y) (b0_12 y) (b0_13 y) (b0_14 y) (b0_15 y) (m y)))) (x : σ) (hx : I x) {s : St} (hw : Bo KK 55 0 s (Ma (t2 x) (t26 x) (b0_0 x) (b0_1 x) (b0_2 x) (b0_3 x) (b0_4 x) (b0_5 x) (b0_6 x) (b0_7 x) (b0_8 x) (b0_9 x) (b0_10 x) (b0_11 x) (b0_12 x) (b0_13 x) (b0_14 x) (b0_15 x) (m x))) : Ca pg KK 55 0 (.loop Tf) s (bZ R) :=
  Ca.Fk hw (Ca.loops Ee I (fun x => Ma (t2 x) (t26 x) (b0_0 x) (b0_1 x) (b0_2 x) (b0_3 x) (b0_4 x) (b0_5 x) (b0_6 x) (b0_7 x) (b0_8 x) (b0_9 x) (b0_10 x) (b0_11 x) (b0_12 x) (b0_13 x) (b0_14 x) (b0_15 x) (m x)) μ (fun x hx => (lO (t2 x) (t26 x) (b0_0 x) (b0_1 x) (b0_2 x) (b0_3 x) (b0_4 x) (b0_5 x) (b0_6 x) (b0_7 x) (b0_8 x) (b0_9 x) (b0_10 x) (b0_11 x) (b0_12 x) (b0_13 x) (b0_14 x) (b0_15 x) (m x) R _).mpr (step x hx)) x hx)
noncomputable def Qd (t2 : Int) (t7 : Int) (t26 : Int) (t29 : Int) (b0_0 : Int) (b0_1 : Int) (b0_2 : Int) (b0_3 : Int) (b0_4 : Int) (b0_5 : Int) (b0_6 : Int) (b0_7 : Int) (b0_8 : Int) (b0_9 : Int) (b0_10 : Int) (b0_11 : Int) (b0_12 : Int) (b0_13 : Int) (b0_14 : Int) (b0_15 : Int) (m : Mem) (R : AV → Mem → Prop) (N0 : St → Prop) (N1 : St → Prop) : Prop :=
bif (decide (t29 < (4))) then (
Ca pg KK 55 0 (.loop La) ⟨[(1, (AV.ptr 0 0)), (2, (Aa t2)), (7, (Aa t7)), (26, (Aa t26)), (29, (Aa t29)), (30, (Ac (decide (t29 < (4))))), (31, (Aa t29)), (8, (Aa t29)), (32, (Aa (0)))], ((0, some ⟨[(Aa b0_0), (Aa b0_1), (Aa b0_2), (Aa b0_3), (Aa b0_4), (Aa b0_5), (Aa b0_6), (Aa b0_7), (Aa b0_8), (Aa b0_9), (Aa b0_10), (Aa b0_11), (Aa b0_12), (Aa b0_13), (Aa b0_14), (Aa b0_15)], 25⟩) :: m), 300004⟩ (Li R N0 N1)) else (
N0 ⟨[(1, (AV.ptr 0 0)), (2, (Aa t2)), (7, (Aa t7)), (26, (Aa (IntKind.wrap .i64 (t26 + (1))))), (29, (Aa t29)), (30, (Ac (decide (t29 < (4))))), (54, (Aa (IntKind.wrap .i64 (t26 + (1)))))], ((0, some ⟨[(Aa b0_0), (Aa b0_1), (Aa b0_2), (Aa b0_3), (Aa b0_4), (Aa b0_5), (Aa b0_6), (Aa b0_7), (Aa b0_8), (Aa b0_9), (Aa b0_10), (Aa b0_11), (Aa b0_12), (Aa b0_13), (Aa b0_14), (Aa b0_15)], 25⟩) :: m), 300003⟩)
theorem Zv (t2 : Int) (t7 : Int) (t26 : Int) (t29 : Int) (b0_0 : Int) (b0_1 : Int) (b0_2 : Int) (b0_3 : Int) (b0_4 : Int) (b0_5 : Int) (b0_6 : Int) (b0_7 : Int) (b0_8 : Int) (b0_9 : Int) (b0_10 : Int) (b0_11 : Int) (b0_12 : Int) (b0_13 : Int) (b0_14 : Int) (b0_15 : Int) (m : Mem) (R : AV → Mem → Prop) (N0 : St → Prop) (N1 : St → Prop) : W pg KK 55 0 K5 (H8 t2 t7 t26 t29 b0_0 b0_1 b0_2 b0_3 b0_4 b0_5 b0_6 b0_7 b0_8 b0_9 b0_10 b0_11 b0_12 b0_13 b0_14 b0_15 m) (Xf R N0 N1) = Qd t2 t7 t26 t29 b0_0 b0_1 b0_2 b0_3 b0_4 b0_5 b0_6 b0_7 b0_8 b0_9 b0_10 b0_11 b0_12 b0_13 b0_14 b0_15 m R N0 N1 := by kernel_rfl
theorem xA (R : AV → Mem → Prop) (N0 : St → Prop) {σ : Type} (I : σ → Prop) (t2 : σ → Int) (t7 : σ → Int) (t26 : σ → Int) (t29 : σ → Int) (b0_0 : σ → Int) (b0_1 : σ → Int) (b0_2 : σ → Int) (b0_3 : σ → Int) (b0_4 : σ → Int) (b0_5 : σ → Int) (b0_6 : σ → Int) (b0_7 : σ → Int) (b0_8 : σ → Int) (b0_9 : σ → Int) (b0_10 : σ → Int) (b0_11 : σ → Int) (b0_12 : σ → Int) (b0_13 : σ → Int) (b0_14 : σ → Int) (b0_15 : σ → Int) (m : σ → Mem) (μ : σ → Nat) (step : ∀ x, I x → Qd (t2 x) (t7 x) (t26 x) (t29 x) (b0_0 x) (b0_1 x) (b0_2 x) (b0_3 x) (b0_4 x) (b0_5 x) (b0_6 x) (b0_7 x) (b0_8 x) (b0_9 x) (b0_10 x) (b0_11 x) (b0_12 x) (b0_13 x) (b0_14 x) (b0_15 x) (m x) R N0 (fun s' => ∃ y, I y ∧ μ y < μ x ∧ Bo KK 55 0 s' (H8 (t2 y) (t7 y) (t26 y) (t29 y) (b0_0 y) (b0_1 y) (b0_2 y) (b0_3 y) (b0_4 y) (b0_5 y) (b0_6 y) (b0_7 y) (b0_8 y) (b0_9 y) (b0_10 y) (b0_11 y) (b0_12 y) (b0_13 y) (b0_14 y) (b0_15 y) (m y)))) (x : σ) (hx : I x) {s : St} (hw : Bo KK 55 0 s (H8 (t2 x) (t7 x) (t26 x) (t29 x) (b0_0 x) (b0_1 x) (b0_2 x) (b0_3 x) (b0_4 x) (b0_5 x) (b0_6 x) (b0_7 x) (b0_8 x) (b0_9 x) (b0_10 x) (b0_11 x) (b0_12 x) (b0_13 x) (b0_14 x) (b0_15 x) (m x))) : Ca pg KK 55 0 (.loop K5) s (P9 R N0) :=
  Ca.Fk hw (Ca.loops Ee I (fun x => H8 (t2 x) (t7 x) (t26 x) (t29 x) (b0_0 x) (b0_1 x) (b0_2 x) (b0_3 x) (b0_4 x) (b0_5 x) (b0_6 x) (b0_7 x) (b0_8 x) (b0_9 x) (b0_10 x) (b0_11 x) (b0_12 x) (b0_13 x) (b0_14 x) (b0_15 x) (m x)) μ (fun x hx => (Zv (t2 x) (t7 x) (t26 x) (t29 x) (b0_0 x) (b0_1 x) (b0_2 x) (b0_3 x) (b0_4 x) (b0_5 x) (b0_6 x) (b0_7 x) (b0_8 x) (b0_9 x) (b0_10 x) (b0_11 x) (b0_12 x) (b0_13 x) (b0_14 x) (b0_15 x) (m x) R N0 _).mpr (step x hx)) x hx)
noncomputable def Ld (t2 : Int) (t7 : Int) (t8 : Int) (t26 : Int) (t29 : Int) (t32 : Int) (b0_0 : Int) (b0_1 : Int) (b0_2 : Int) (b0_3 : Int) (b0_4 : Int) (b0_5 : Int) (b0_6 : Int) (b0_7 : Int) (b0_8 : Int) (b0_9 : Int) (b0_10 : Int) (b0_11 : Int) (b0_12 : Int) (b0_13 : Int) (b0_14 : Int) (b0_15 : Int) (m : Mem) (R : AV → Mem → Prop) (N0 : St → Prop) (N1 : St → Prop) (N2 : St → Prop) : Prop :=
bif (decide (t32 < (4))) then (
Bg (Nq 4 4 (AV.ptr 0 0) (Aa t7)) fun v11 =>
Bg (Nq 4 1 v11 (Aa t32)) fun v12 =>
Bg (Fe (Al ((0, some ⟨[(Aa b0_0), (Aa b0_1), (Aa b0_2), (Aa b0_3), (Aa b0_4), (Aa b0_5), (Aa b0_6), (Aa b0_7), (Aa b0_8), (Aa b0_9), (Aa b0_10), (Aa b0_11), (Aa b0_12), (Aa b0_13), (Aa b0_14), (Aa b0_15)], 25⟩) :: m)) v12) fun v13 =>
Af v13 fun z14 =>
Bg (Nq 4 4 (AV.ptr 0 0) (Aa t7)) fun v15 =>
Bg (Nq 4 1 v15 (Aa t8)) fun v16 =>
Bg (Fe (Al ((0, some ⟨[(Aa b0_0), (Aa b0_1), (Aa b0_2), (Aa b0_3), (Aa b0_4), (Aa b0_5), (Aa b0_6), (Aa b0_7), (Aa b0_8), (Aa b0_9), (Aa b0_10), (Aa b0_11), (Aa b0_12), (Aa b0_13), (Aa b0_14), (Aa b0_15)], 25⟩) :: m)) v16) fun v17 =>
Af v17 fun z18 =>
Bg (Nq 4 4 (AV.ptr 0 0) (Aa t8)) fun v19 =>
Bg (Nq 4 1 v19 (Aa t32)) fun v20 =>
Bg (Fe (Al ((0, some ⟨[(Aa b0_0), (Aa b0_1), (Aa b0_2), (Aa b0_3), (Aa b0_4), (Aa b0_5), (Aa b0_6), (Aa b0_7), (Aa b0_8), (Aa b0_9), (Aa b0_10), (Aa b0_11), (Aa b0_12), (Aa b0_13), (Aa b0_14), (Aa b0_15)], 25⟩) :: m)) v20) fun v21 =>
Af v21 fun z22 =>
bif (decide (z14 > (IntKind.wrap .i64 (z18 + z22)))) then (
A4 R ((0, some ⟨[(Aa b0_0), (Aa b0_1), (Aa b0_2), (Aa b0_3), (Aa b0_4), (Aa b0_5), (Aa b0_6), (Aa b0_7), (Aa b0_8), (Aa b0_9), (Aa b0_10), (Aa b0_11), (Aa b0_12), (Aa b0_13), (Aa b0_14), (Aa b0_15)], 25⟩) :: m) [some (Aa (3))]) else (
N2 ⟨[(1, (AV.ptr 0 0)), (2, (Aa t2)), (7, (Aa t7)), (8, (Aa t8)), (26, (Aa t26)), (29, (Aa t29)), (32, (Aa (IntKind.wrap .i64 (t32 + (1))))), (33, (Ac (decide (t32 < (4))))), (34, (Aa t32)), (9, (Aa t32)), (35, (Aa t7)), (36, (Aa t32)), (37, v11), (38, v12), (39, (Aa z14)), (40, (Aa t7)), (41, (Aa t8)), (42, v15), (43, v16), (44, (Aa z18)), (45, (Aa t8)), (46, (Aa t32)), (47, v19), (48, v20), (49, (Aa z22)), (50, (Aa (IntKind.wrap .i64 (z18 + z22)))), (51, (Ac (decide (z14 > (IntKind.wrap .i64 (z18 + z22)))))), (52, (Aa (IntKind.wrap .i64 (t32 + (1)))))], ((0, some ⟨[(Aa b0_0), (Aa b0_1), (Aa b0_2), (Aa b0_3), (Aa b0_4), (Aa b0_5), (Aa b0_6), (Aa b0_7), (Aa b0_8), (Aa b0_9), (Aa b0_10), (Aa b0_11), (Aa b0_12), (Aa b0_13), (Aa b0_14), (Aa b0_15)], 25⟩) :: m), 400022⟩)) else (
N1 ⟨[(1, (AV.ptr 0 0)), (2, (Aa t2)), (7, (Aa t7)), (8, (Aa t8)), (26, (Aa t26)), (29, (Aa (IntKind.wrap .i64 (t29 + (1))))), (32, (Aa t32)), (33, (Ac (decide (t32 < (4))))), (53, (Aa (IntKind.wrap .i64 (t29 + (1)))))], ((0, some ⟨[(Aa b0_0), (Aa b0_1), (Aa b0_2), (Aa b0_3), (Aa b0_4), (Aa b0_5), (Aa b0_6), (Aa b0_7), (Aa b0_8), (Aa b0_9), (Aa b0_10), (Aa b0_11), (Aa b0_12), (Aa b0_13), (Aa b0_14), (Aa b0_15)], 25⟩) :: m), 400003⟩)
theorem Vm (t2 : Int) (t7 : Int) (t8 : Int) (t26 : Int) (t29 : Int) (t32 : Int) (b0_0 : Int) (b0_1 : Int) (b0_2 : Int) (b0_3 : Int) (b0_4 : Int) (b0_5 : Int) (b0_6 : Int) (b0_7 : Int) (b0_8 : Int) (b0_9 : Int) (b0_10 : Int) (b0_11 : Int) (b0_12 : Int) (b0_13 : Int) (b0_14 : Int) (b0_15 : Int) (m : Mem) (R : AV → Mem → Prop) (N0 : St → Prop) (N1 : St → Prop) (N2 : St → Prop) : W pg KK 55 0 La (Hh t2 t7 t8 t26 t29 t32 b0_0 b0_1 b0_2 b0_3 b0_4 b0_5 b0_6 b0_7 b0_8 b0_9 b0_10 b0_11 b0_12 b0_13 b0_14 b0_15 m) (Zx R N0 N1 N2) = Ld t2 t7 t8 t26 t29 t32 b0_0 b0_1 b0_2 b0_3 b0_4 b0_5 b0_6 b0_7 b0_8 b0_9 b0_10 b0_11 b0_12 b0_13 b0_14 b0_15 m R N0 N1 N2 := by kernel_rfl
theorem iQ (R : AV → Mem → Prop) (N0 : St → Prop) (N1 : St → Prop) {σ : Type} (I : σ → Prop) (t2 : σ → Int) (t7 : σ → Int) (t8 : σ → Int) (t26 : σ → Int) (t29 : σ → Int) (t32 : σ → Int) (b0_0 : σ → Int) (b0_1 : σ → Int) (b0_2 : σ → Int) (b0_3 : σ → Int) (b0_4 : σ → Int) (b0_5 : σ → Int) (b0_6 : σ → Int) (b0_7 : σ → Int) (b0_8 : σ → Int) (b0_9 : σ → Int) (b0_10 : σ → Int) (b0_11 : σ → Int) (b0_12 : σ → Int) (b0_13 : σ → Int) (b0_14 : σ → Int) (b0_15 : σ → Int) (m : σ → Mem) (μ : σ → Nat) (step : ∀ x, I x → Ld (t2 x) (t7 x) (t8 x) (t26 x) (t29 x) (t32 x) (b0_0 x) (b0_1 x) (b0_2 x) (b0_3 x) (b0_4 x) (b0_5 x) (b0_6 x) (b0_7 x) (b0_8 x) (b0_9 x) (b0_10 x) (b0_11 x) (b0_12 x) (b0_13 x) (b0_14 x) (b0_15 x) (m x) R N0 N1 (fun s' => ∃ y, I y ∧ μ y < μ x ∧ Bo KK 55 0 s' (Hh (t2 y) (t7 y) (t8 y) (t26 y) (t29 y) (t32 y) (b0_0 y) (b0_1 y) (b0_2 y) (b0_3 y) (b0_4 y) (b0_5 y) (b0_6 y) (b0_7 y) (b0_8 y) (b0_9 y) (b0_10 y) (b0_11 y) (b0_12 y) (b0_13 y) (b0_14 y) (b0_15 y) (m y)))) (x : σ) (hx : I x) {s : St} (hw : Bo KK 55 0 s (Hh (t2 x) (t7 x) (t8 x) (t26 x) (t29 x) (t32 x) (b0_0 x) (b0_1 x) (b0_2 x) (b0_3 x) (b0_4 x) (b0_5 x) (b0_6 x) (b0_7 x) (b0_8 x) (b0_9 x) (b0_10 x) (b0_11 x) (b0_12 x) (b0_13 x) (b0_14 x) (b0_15 x) (m x))) : Ca pg KK 55 0 (.loop La) s (Li R N0 N1) :=
  Ca.Fk hw (Ca.loops Ee I (fun x => Hh (t2 x) (t7 x) (t8 x) (t26 x) (t29 x) (t32 x) (b0_0 x) (b0_1 x) (b0_2 x) (b0_3 x) (b0_4 x) (b0_5 x) (b0_6 x) (b0_7 x) (b0_8 x) (b0_9 x) (b0_10 x) (b0_11 x) (b0_12 x) (b0_13 x) (b0_14 x) (b0_15 x) (m x)) μ (fun x hx => (Vm (t2 x) (t7 x) (t8 x) (t26 x) (t29 x) (t32 x) (b0_0 x) (b0_1 x) (b0_2 x) (b0_3 x) (b0_4 x) (b0_5 x) (b0_6 x) (b0_7 x) (b0_8 x) (b0_9 x) (b0_10 x) (b0_11 x) (b0_12 x) (b0_13 x) (b0_14 x) (b0_15 x) (m x) R N0 N1 _).mpr (step x hx)) x hx)
noncomputable def F39 (a0_0 : Int) (a0_1 : Int) (a0_2 : Int) (a0_3 : Int) (a0_4 : Int) (a0_5 : Int) (a0_6 : Int) (a0_7 : Int) (a0_8 : Int) (a0_9 : Int) (a0_10 : Int) (a0_11 : Int) (a0_12 : Int) (a0_13 : Int) (a0_14 : Int) (a0_15 : Int) (R : AV → Mem → Prop) : Prop :=
Ca pg KK 55 0 (.loop Tq) ⟨[(0, (AV.agg [(Aa a0_0), (Aa a0_1), (Aa a0_2), (Aa a0_3), (Aa a0_4), (Aa a0_5), (Aa a0_6), (Aa a0_7), (Aa a0_8), (Aa a0_9), (Aa a0_10), (Aa a0_11), (Aa a0_12), (Aa a0_13), (Aa a0_14), (Aa a0_15)])), (1, (AV.ptr 0 0)), (2, (Aa (0))), (10, (AV.agg [(Aa a0_0), (Aa a0_1), (Aa a0_2), (Aa a0_3), (Aa a0_4), (Aa a0_5), (Aa a0_6), (Aa a0_7), (Aa a0_8), (Aa a0_9), (Aa a0_10), (Aa a0_11), (Aa a0_12), (Aa a0_13), (Aa a0_14), (Aa a0_15)])), (11, (Aa (0)))], ((0, some ⟨[(Aa a0_0), (Aa a0_1), (Aa a0_2), (Aa a0_3), (Aa a0_4), (Aa a0_5), (Aa a0_6), (Aa a0_7), (Aa a0_8), (Aa a0_9), (Aa a0_10), (Aa a0_11), (Aa a0_12), (Aa a0_13), (Aa a0_14), (Aa a0_15)], 25⟩) :: []), 4⟩ (cZ R)
theorem wB (a0_0 : Int) (a0_1 : Int) (a0_2 : Int) (a0_3 : Int) (a0_4 : Int) (a0_5 : Int) (a0_6 : Int) (a0_7 : Int) (a0_8 : Int) (a0_9 : Int) (a0_10 : Int) (a0_11 : Int) (a0_12 : Int) (a0_13 : Int) (a0_14 : Int) (a0_15 : Int) (R : AV → Mem → Prop) (h : F39 a0_0 a0_1 a0_2 a0_3 a0_4 a0_5 a0_6 a0_7 a0_8 a0_9 a0_10 a0_11 a0_12 a0_13 a0_14 a0_15 R) : Own pg KK.gl 39 [(AV.agg [(Aa a0_0), (Aa a0_1), (Aa a0_2), (Aa a0_3), (Aa a0_4), (Aa a0_5), (Aa a0_6), (Aa a0_7), (Aa a0_8), (Aa a0_9), (Aa a0_10), (Aa a0_11), (Aa a0_12), (Aa a0_13), (Aa a0_14), (Aa a0_15)])] R := Bj Ee Tryz.func39 (code := qU) (by kernel_rfl) (by kernel_rfl) (by kernel_rfl) (X := F39 a0_0 a0_1 a0_2 a0_3 a0_4 a0_5 a0_6 a0_7 a0_8 a0_9 a0_10 a0_11 a0_12 a0_13 a0_14 a0_15 R) (by kernel_rfl) h
noncomputable def c61 : Code := ((Tryz.f61).body).getD .skip
noncomputable def q61 (R : AV → Mem → Prop) : A9 → St → Prop := Dj pg Tryz.f61 R
noncomputable def bV : Code := Dt c61 0
noncomputable def dB (R : AV → Mem → Prop) : A9 → St → Prop := Du pg KK 41 0 c61 0 (q61 R)
noncomputable def yG (R : AV → Mem → Prop) (N0 : St → Prop) : A9 → St → Prop := Dv N0 (dB R)
def Sq (t2 : Bool) (t14 : AV) (t15 : Int) (t16 : Int) (m : Mem) : St := ⟨[(2, (Ac t2)), (14, t14), (15, (Aa t15)), (16, (Aa t16))], m, 100000⟩
noncomputable def bK (t2 : Bool) (t14 : AV) (t15 : Int) (t16 : Int) (m : Mem) (R : AV → Mem → Prop) (N0 : St → Prop) : Prop :=
bif (decide (t16 < t15)) then (
Bg (Db 1 t14 (Aa t16)) fun v7 =>
Bg (Fe (Al m) v7) fun v8 =>
eY v8 fun z9 =>
bif (decide (z9 ≥ (65))) then (
bif (decide (z9 ≤ (90))) then (
N0 ⟨[(2, (Ac t2)), (14, t14), (15, (Aa t15)), (16, (Aa (IntKind.wrap .i64 (t16 + (1))))), (17, (Ac (decide (t16 < t15)))), (18, (Aa t16)), (19, v7), (20, (AV.sc (.int .u8 z9))), (3, (Aa t16)), (4, (AV.sc (.int .u8 z9))), (21, (AV.sc (.int .u8 z9))), (22, (Ac (decide (z9 ≥ (65))))), (23, (Ac true)), (24, (AV.sc (.int .u8 z9))), (25, (Ac (decide (z9 ≤ (90))))), (26, (Ac (decide (z9 ≤ (90))))), (27, (Ac true)), (28, (AV.tup [])), (29, (AV.tup [])), (30, (AV.tup [])), (31, (AV.tup [])), (32, (AV.tup [])), (33, (AV.tup [])), (34, (AV.tup [])), (35, (AV.tup [])), (36, (AV.tup [])), (37, (AV.tup [])), (38, (Ac true)), (39, (Ac false)), (40, (Aa (IntKind.wrap .i64 (t16 + (1)))))], m, 100017⟩) else (
bif (decide (t16 > (0))) then (
bif (decide (z9 ≥ (48))) then (
bif (!(decide (z9 ≤ (57)))) then (
A4 R m [some (Ac false)]) else (
N0 ⟨[(2, (Ac t2)), (14, t14), (15, (Aa t15)), (16, (Aa (IntKind.wrap .i64 (t16 + (1))))), (17, (Ac (decide (t16 < t15)))), (18, (Aa t16)), (19, v7), (20, (AV.sc (.int .u8 z9))), (3, (Aa t16)), (4, (AV.sc (.int .u8 z9))), (21, (AV.sc (.int .u8 z9))), (22, (Ac (decide (z9 ≥ (65))))), (23, (Ac true)), (24, (AV.sc (.int .u8 z9))), (25, (Ac (decide (z9 ≤ (90))))), (26, (Ac (decide (z9 ≤ (90))))), (27, (Ac false)), (28, (Aa t16)), (29, (Ac (decide (t16 > (0))))), (30, (Ac true)), (31, (AV.sc (.int .u8 z9))), (32, (Ac (decide (z9 ≥ (48))))), (33, (Ac (decide (z9 ≥ (48))))), (34, (Ac true)), (35, (AV.sc (.int .u8 z9))), (36, (Ac (decide (z9 ≤ (57))))), (37, (Ac (decide (z9 ≤ (57))))), (38, (Ac (decide (z9 ≤ (57))))), (39, (Ac (!(decide (z9 ≤ (57)))))), (40, (Aa (IntKind.wrap .i64 (t16 + (1)))))], m, 100027⟩)) else (
A4 R m [some (Ac false)])) else (
A4 R m [some (Ac false)]))) else (
bif (decide (t16 > (0))) then (
bif (decide (z9 ≥ (48))) then (
bif (!(decide (z9 ≤ (57)))) then (
A4 R m [some (Ac false)]) else (
N0 ⟨[(2, (Ac t2)), (14, t14), (15, (Aa t15)), (16, (Aa (IntKind.wrap .i64 (t16 + (1))))), (17, (Ac (decide (t16 < t15)))), (18, (Aa t16)), (19, v7), (20, (AV.sc (.int .u8 z9))), (3, (Aa t16)), (4, (AV.sc (.int .u8 z9))), (21, (AV.sc (.int .u8 z9))), (22, (Ac (decide (z9 ≥ (65))))), (23, (Ac false)), (24, (AV.tup [])), (25, (AV.tup [])), (26, (Ac false)), (27, (Ac false)), (28, (Aa t16)), (29, (Ac (decide (t16 > (0))))), (30, (Ac true)), (31, (AV.sc (.int .u8 z9))), (32, (Ac (decide (z9 ≥ (48))))), (33, (Ac (decide (z9 ≥ (48))))), (34, (Ac true)), (35, (AV.sc (.int .u8 z9))), (36, (Ac (decide (z9 ≤ (57))))), (37, (Ac (decide (z9 ≤ (57))))), (38, (Ac (decide (z9 ≤ (57))))), (39, (Ac (!(decide (z9 ≤ (57)))))), (40, (Aa (IntKind.wrap .i64 (t16 + (1)))))], m, 100025⟩)) else (
A4 R m [some (Ac false)])) else (
A4 R m [some (Ac false)]))) else (
A4 R m [some (Ac true)])
theorem l5 (t2 : Bool) (t14 : AV) (t15 : Int) (t16 : Int) (m : Mem) (R : AV → Mem → Prop) (N0 : St → Prop) : W pg KK 41 0 bV (Sq t2 t14 t15 t16 m) (yG R N0) = bK t2 t14 t15 t16 m R N0 := by kernel_rfl
theorem Ad0 (R : AV → Mem → Prop) {σ : Type} (I : σ → Prop) (t2 : σ → Bool) (t14 : σ → AV) (t15 : σ → Int) (t16 : σ → Int) (m : σ → Mem) (μ : σ → Nat) (step : ∀ x, I x → bK (t2 x) (t14 x) (t15 x) (t16 x) (m x) R (fun s' => ∃ y, I y ∧ μ y < μ x ∧ Bo KK 41 0 s' (Sq (t2 y) (t14 y) (t15 y) (t16 y) (m y)))) (x : σ) (hx : I x) {s : St} (hw : Bo KK 41 0 s (Sq (t2 x) (t14 x) (t15 x) (t16 x) (m x))) : Ca pg KK 41 0 (.loop bV) s (dB R) :=
  Ca.Fk hw (Ca.loops Ee I (fun x => Sq (t2 x) (t14 x) (t15 x) (t16 x) (m x)) μ (fun x hx => (l5 (t2 x) (t14 x) (t15 x) (t16 x) (m x) R _).mpr (step x hx)) x hx)
noncomputable def F61 (a0 : ByteArray) (R : AV → Mem → Prop) : Prop :=
Bg (B9 pg (.call ⟨.builtin .len, #[.tmp 0], #[9]⟩) 3 [(AV.sc (.string a0))] (Al []) 2) fun v0 =>
Af v0 fun z1 =>
bif (decide (z1 < (1))) then (
A4 R [] [some (Ac false)]) else (
Bg (B9 pg (.call ⟨.builtin .len, #[.tmp 0], #[9]⟩) 3 [(AV.sc (.string a0))] (Al []) 6) fun v2 =>
Af v2 fun z3 =>
bif (decide (z3 > (8))) then (
A4 R [] [some (Ac false)]) else (
Bg (B9 pg (.convert 9 233 (.tmp 0)) 233 [(AV.sc (.string a0))] (Al []) 10) fun v4 =>
Bg (Dh v4) fun v5 =>
Af v5 fun z6 =>
Ca pg KK 41 0 (.loop bV) ⟨[(0, (AV.sc (.string a0))), (2, (Ac false)), (5, (AV.sc (.string a0))), (6, (Aa z1)), (7, (Ac (decide (z1 < (1))))), (8, (Ac false)), (9, (AV.sc (.string a0))), (10, (Aa z3)), (11, (Ac (decide (z3 > (8))))), (12, (Ac (decide (z3 > (8))))), (13, (AV.sc (.string a0))), (14, v4), (15, (Aa z6)), (16, (Aa (0)))], [], 13⟩ (dB R)))
theorem wP (a0 : ByteArray) (R : AV → Mem → Prop) (h : F61 a0 R) : Own pg KK.gl 61 [(AV.sc (.string a0))] R := Bj Ee Tryz.func61 (code := c61) (by kernel_rfl) (by kernel_rfl) (by kernel_rfl) (X := F61 a0 R) (by kernel_rfl) h
noncomputable def c50 : Code := ((Tryz.f50).body).getD .skip
noncomputable def q50 (R : AV → Mem → Prop) : A9 → St → Prop := Dj pg Tryz.f50 R
noncomputable def F50 (a0 : Int) (R : AV → Mem → Prop) : Prop :=
bif (decide (a0 < (0))) then (
A4 R [] [some (Aa (1))]) else (
bif (decide (a0 > (3))) then (
A4 R [] [some (Aa (1))]) else (
A4 R [] [some (Aa (0))]))
theorem qT (a0 : Int) (R : AV → Mem → Prop) (h : F50 a0 R) : Own pg KK.gl 50 [(Aa a0)] R := Bj Ee Tryz.func50 (code := c50) (by kernel_rfl) (by kernel_rfl) (by kernel_rfl) (X := F50 a0 R) (by kernel_rfl) h
noncomputable def Afv : Code := ((Tryz.f166).body).getD .skip
noncomputable def Ahe (R : AV → Mem → Prop) : A9 → St → Prop := Dj pg Tryz.f166 R
noncomputable def uH (a0_0 : ByteArray) (a0_1 : Int) (a0_2 : Int) (a0_3 : Int) (a1 : AV) (R : AV → Mem → Prop) : Prop :=
Bg (E1 0 a1) fun v0 =>
Bg (Fe (Al ((0, some ⟨[(AV.sc (.string a0_0)), (Aa a0_1), (Aa a0_2), (Aa a0_3)], 35⟩) :: [])) v0) fun v1 =>
O8 v1 fun s2 =>
A4 R ((0, some ⟨[(AV.sc (.string a0_0)), (Aa a0_1), (Aa a0_2), (Aa a0_3)], 35⟩) :: []) [some (Ac ((a0_0).toList == (s2).toList))]
theorem oG (a0_0 : ByteArray) (a0_1 : Int) (a0_2 : Int) (a0_3 : Int) (a1 : AV) (R : AV → Mem → Prop) (h : uH a0_0 a0_1 a0_2 a0_3 a1 R) : Own pg KK.gl 166 [(AV.agg [(AV.sc (.string a0_0)), (Aa a0_1), (Aa a0_2), (Aa a0_3)]), a1] R := Bj Ee Tryz.func166 (code := Afv) (by kernel_rfl) (by kernel_rfl) (by kernel_rfl) (X := uH a0_0 a0_1 a0_2 a0_3 a1 R) (by kernel_rfl) h
noncomputable def yL : Code := ((Tryz.f224).body).getD .skip
noncomputable def Aeg (R : AV → Mem → Prop) : A9 → St → Prop := Dj pg Tryz.f224 R
noncomputable def U7 : Code := Dt yL 0
noncomputable def Uj (R : AV → Mem → Prop) : A9 → St → Prop := Du pg KK 19 0 yL 0 (Aeg R)
noncomputable def wT (R : AV → Mem → Prop) (N0 : St → Prop) : A9 → St → Prop := Dv N0 (Uj R)
def Oi (t0 : AV) (t1 : AV) (t4 : Int) (t7 : Int) (t8 : Int) (m : Mem) : St := ⟨[(0, t0), (1, t1), (4, (Aa t4)), (7, (Aa t7)), (8, (Aa t8))], m, 100000⟩
noncomputable def Uw (t0 : AV) (t1 : AV) (t4 : Int) (t7 : Int) (t8 : Int) (m : Mem) (R : AV → Mem → Prop) (N0 : St → Prop) : Prop :=
bif (decide (t8 < t7)) then (
Bg (Db 4 t0 (Aa t8)) fun v2 =>
Bg (Ju (Al m) 4 v2) fun v3 =>
Jf v3 fun c4 c5 c6 c7 =>
O8 c4 fun s8 =>
Af c5 fun z9 =>
Af c6 fun z10 =>
Af c7 fun z11 =>
Hp (some t1) (some [(AV.agg [(AV.sc (.string s8)), (Aa z9), (Aa z10), (Aa z11)])]) fun f12 a12 => bif KK.pm f12 then Bv pg KK.gl m f12 a12 (fun v12 =>
G2 v12 fun b13 =>
bif b13 then (
A4 R m [some (Aa t8)]) else (
N0 ⟨[(0, t0), (1, t1), (4, (Aa t4)), (7, (Aa t7)), (8, (Aa (IntKind.wrap .i64 (t8 + (1))))), (9, (Ac (decide (t8 < t7)))), (10, (Aa t8)), (5, (Aa t8)), (11, t1), (12, t0), (13, (Aa t8)), (14, v2), (15, (AV.agg [(AV.sc (.string s8)), (Aa z9), (Aa z10), (Aa z11)])), (16, (Ac b13)), (18, (Aa (IntKind.wrap .i64 (t8 + (1)))))], m, 100074⟩)) else Ed pg KK.gl m 100008 f12 a12 fun v12 m12 =>
G2 v12 fun b13 =>
bif b13 then (
A4 R m12 [some (Aa t8)]) else (
N0 ⟨[(0, t0), (1, t1), (4, (Aa t4)), (7, (Aa t7)), (8, (Aa (IntKind.wrap .i64 (t8 + (1))))), (9, (Ac (decide (t8 < t7)))), (10, (Aa t8)), (5, (Aa t8)), (11, t1), (12, t0), (13, (Aa t8)), (14, v2), (15, (AV.agg [(AV.sc (.string s8)), (Aa z9), (Aa z10), (Aa z11)])), (16, (Ac b13)), (18, (Aa (IntKind.wrap .i64 (t8 + (1)))))], m12, 100074⟩)) else (
A4 R m [some (Aa (-1))])
theorem jU (t0 : AV) (t1 : AV) (t4 : Int) (t7 : Int) (t8 : Int) (m : Mem) (R : AV → Mem → Prop) (N0 : St → Prop) : W pg KK 19 0 U7 (Oi t0 t1 t4 t7 t8 m) (wT R N0) = Uw t0 t1 t4 t7 t8 m R N0 := by kernel_rfl
theorem zP (R : AV → Mem → Prop) {σ : Type} (I : σ → Prop) (t0 : σ → AV) (t1 : σ → AV) (t4 : σ → Int) (t7 : σ → Int) (t8 : σ → Int) (m : σ → Mem) (μ : σ → Nat) (step : ∀ x, I x → Uw (t0 x) (t1 x) (t4 x) (t7 x) (t8 x) (m x) R (fun s' => ∃ y, I y ∧ μ y < μ x ∧ Bo KK 19 0 s' (Oi (t0 y) (t1 y) (t4 y) (t7 y) (t8 y) (m y)))) (x : σ) (hx : I x) {s : St} (hw : Bo KK 19 0 s (Oi (t0 x) (t1 x) (t4 x) (t7 x) (t8 x) (m x))) : Ca pg KK 19 0 (.loop U7) s (Uj R) :=
  Ca.Fk hw (Ca.loops Ee I (fun x => Oi (t0 x) (t1 x) (t4 x) (t7 x) (t8 x) (m x)) μ (fun x hx => (jU (t0 x) (t1 x) (t4 x) (t7 x) (t8 x) (m x) R _).mpr (step x hx)) x hx)
noncomputable def uY (a0 : AV) (a1 : AV) (R : AV → Mem → Prop) : Prop :=
Bg (Dh a0) fun v0 =>
Af v0 fun z1 =>
Ca pg KK 19 0 (.loop U7) ⟨[(0, a0), (1, a1), (4, (Aa (0))), (6, a0), (7, (Aa z1)), (8, (Aa (0)))], [], 4⟩ (Uj R)
theorem pH (a0 : AV) (a1 : AV) (R : AV → Mem → Prop) (h : uY a0 a1 R) : Own pg KK.gl 224 [a0, a1] R := Bj Ee Tryz.func224 (code := yL) (by kernel_rfl) (by kernel_rfl) (by kernel_rfl) (X := uY a0 a1 R) (by kernel_rfl) h
noncomputable def Afl : Code := ((Tryz.f165).body).getD .skip
noncomputable def Ags (R : AV → Mem → Prop) : A9 → St → Prop := Dj pg Tryz.f165 R
noncomputable def s5 (a0 : AV) (a1 : AV) (R : AV → Mem → Prop) : Prop :=
Bv pg KK.gl [] 224 [a0, a1] fun v0 =>
Af v0 fun z1 =>
A4 R [] [some (Ac (decide (z1 ≥ (0))))]
theorem lQ (a0 : AV) (a1 : AV) (R : AV → Mem → Prop) (h : s5 a0 a1 R) : Own pg KK.gl 165 [a0, a1] R := Bj Ee Tryz.func165 (code := Afl) (by kernel_rfl) (by kernel_rfl) (by kernel_rfl) (X := s5 a0 a1 R) (by kernel_rfl) h
end Go.Proofs.YtbfabclpcamlnaaGreatDoor
