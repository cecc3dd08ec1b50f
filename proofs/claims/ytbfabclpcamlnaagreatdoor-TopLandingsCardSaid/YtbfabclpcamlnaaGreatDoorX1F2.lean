/- A part. -/
import Derived.Test.YtbfabclpcamlnaaGreatDoorX1T
set_option linter.unusedVariables false
set_option maxRecDepth 100000
set_option maxHeartbeats 4000000
namespace Go.Proofs.YtbfabclpcamlnaaGreatDoor
noncomputable def yU : Code := ((Tryz.f109).body).getD .skip
noncomputable def Afc (R : AV → Mem → Prop) : A9 → St → Prop := Dj pg Tryz.f109 R
noncomputable def Ub : Code := Dt yU 0
noncomputable def Wg (R : AV → Mem → Prop) : A9 → St → Prop := Du pg KK 49 0 yU 0 (Afc R)
noncomputable def r9 (R : AV → Mem → Prop) (N0 : St → Prop) : A9 → St → Prop := Dv N0 (Wg R)
def O5 (t0 : AV) (t2 : Int) (t9 : AV) (t10 : Int) (t11 : Int) (m : Mem) : St := ⟨[(0, t0), (2, (Aa t2)), (9, t9), (10, (Aa t10)), (11, (Aa t11))], m, 100000⟩
noncomputable def U5 (t0 : AV) (t2 : Int) (t9 : AV) (t10 : Int) (t11 : Int) (m : Mem) (R : AV → Mem → Prop) (N0 : St → Prop) : Prop :=
bif (decide (t11 < t10)) then (
Bg (Db 4 t9 (Aa t11)) fun v4 =>
Bg (Ju (Al m) 4 v4) fun v5 =>
Jf v5 fun c6 c7 c8 c9 =>
O8 c6 fun s10 =>
Af c7 fun z11 =>
Af c8 fun z12 =>
Af c9 fun z13 =>
Bv pg KK.gl ((100004, some ⟨[(AV.sc (.string s10)), (Aa z11), (Aa z12), (Aa z13)], 35⟩) :: (100004, some ⟨[(AV.sc (.string ⟨#[]⟩)), (Aa (0)), (Aa (0)), (Aa (0))], 35⟩) :: m) 61 [(AV.sc (.string s10))] fun v14 =>
G2 v14 fun b15 =>
bif (!b15) then (
A4 R ((100004, some ⟨[(AV.sc (.string s10)), (Aa z11), (Aa z12), (Aa z13)], 35⟩) :: (100004, some ⟨[(AV.sc (.string ⟨#[]⟩)), (Aa (0)), (Aa (0)), (Aa (0))], 35⟩) :: m) [some (Aa (3))]) else (
Bv pg KK.gl ((100004, some ⟨[(AV.sc (.string s10)), (Aa z11), (Aa z12), (Aa z13)], 35⟩) :: (100004, some ⟨[(AV.sc (.string ⟨#[]⟩)), (Aa (0)), (Aa (0)), (Aa (0))], 35⟩) :: m) 50 [(Aa z11)] fun v16 =>
Af v16 fun z17 =>
bif (z17 != (0)) then (
A4 R ((100004, some ⟨[(AV.sc (.string s10)), (Aa z11), (Aa z12), (Aa z13)], 35⟩) :: (100004, some ⟨[(AV.sc (.string ⟨#[]⟩)), (Aa (0)), (Aa (0)), (Aa (0))], 35⟩) :: m) [some (Aa z17)]) else (
bif (decide (z12 < (0))) then (
A4 R ((100004, some ⟨[(AV.sc (.string s10)), (Aa z11), (Aa z12), (Aa z13)], 35⟩) :: (100004, some ⟨[(AV.sc (.string ⟨#[]⟩)), (Aa (0)), (Aa (0)), (Aa (0))], 35⟩) :: m) [some (Aa (12))]) else (
bif (decide (z12 > z13)) then (
A4 R ((100004, some ⟨[(AV.sc (.string s10)), (Aa z11), (Aa z12), (Aa z13)], 35⟩) :: (100004, some ⟨[(AV.sc (.string ⟨#[]⟩)), (Aa (0)), (Aa (0)), (Aa (0))], 35⟩) :: m) [some (Aa (12))]) else (
bif (decide (z13 > (200000))) then (
A4 R ((100004, some ⟨[(AV.sc (.string s10)), (Aa z11), (Aa z12), (Aa z13)], 35⟩) :: (100004, some ⟨[(AV.sc (.string ⟨#[]⟩)), (Aa (0)), (Aa (0)), (Aa (0))], 35⟩) :: m) [some (Aa (12))]) else (
Bg (B9 pg (.slice 22 (.tmp 0) none (some (.tmp 1)) none) 22 [t0, (Aa t11)] (Al ((100004, some ⟨[(AV.sc (.string s10)), (Aa z11), (Aa z12), (Aa z13)], 35⟩) :: (100004, some ⟨[(AV.sc (.string ⟨#[]⟩)), (Aa (0)), (Aa (0)), (Aa (0))], 35⟩) :: m)) 100161) fun v18 =>
Bv pg KK.gl ((100004, some ⟨[(AV.sc (.string s10)), (Aa z11), (Aa z12), (Aa z13)], 35⟩) :: (100004, some ⟨[(AV.sc (.string ⟨#[]⟩)), (Aa (0)), (Aa (0)), (Aa (0))], 35⟩) :: m) 165 [v18, (AV.fn 166 [(AV.ptr 100004 0)])] fun v19 =>
G2 v19 fun b20 =>
bif b20 then (
A4 R ((100004, some ⟨[(AV.sc (.string s10)), (Aa z11), (Aa z12), (Aa z13)], 35⟩) :: (100004, some ⟨[(AV.sc (.string ⟨#[]⟩)), (Aa (0)), (Aa (0)), (Aa (0))], 35⟩) :: m) [some (Aa (7))]) else (
N0 ⟨[(0, t0), (2, (Aa t2)), (9, t9), (10, (Aa t10)), (11, (Aa (IntKind.wrap .i64 (t11 + (1))))), (12, (Ac (decide (t11 < t10)))), (13, (Aa t11)), (14, v4), (15, (AV.agg [(AV.sc (.string s10)), (Aa z11), (Aa z12), (Aa z13)])), (4, (AV.ptr 100004 0)), (3, (Aa t11)), (16, (AV.ptr 100004 0)), (17, (AV.sc (.string s10))), (18, (Ac b15)), (19, (Ac (!b15))), (20, (AV.ptr 100004 1)), (21, (Aa z11)), (22, (Aa z17)), (5, (Aa z17)), (23, (Aa z17)), (24, (Ac (z17 != (0)))), (27, (AV.ptr 100004 2)), (28, (Aa z12)), (29, (Ac (decide (z12 < (0))))), (30, (Ac false)), (31, (AV.ptr 100004 2)), (32, (Aa z12)), (33, (AV.ptr 100004 3)), (34, (Aa z13)), (35, (Ac (decide (z12 > z13)))), (36, (Ac (decide (z12 > z13)))), (37, (Ac false)), (38, (AV.ptr 100004 3)), (39, (Aa z13)), (40, (Ac (decide (z13 > (200000))))), (41, (Ac (decide (z13 > (200000))))), (26, (Ac (decide (z13 > (200000))))), (43, t0), (44, (Aa t11)), (45, v18), (46, (AV.fn 166 [(AV.ptr 100004 0)])), (47, (Ac b20)), (42, (Ac b20)), (48, (Aa (IntKind.wrap .i64 (t11 + (1)))))], ((100004, some ⟨[(AV.sc (.string s10)), (Aa z11), (Aa z12), (Aa z13)], 35⟩) :: (100004, some ⟨[(AV.sc (.string ⟨#[]⟩)), (Aa (0)), (Aa (0)), (Aa (0))], 35⟩) :: m), 100230⟩))))))) else (
A4 R m [some (Aa (0))])
theorem hY (t0 : AV) (t2 : Int) (t9 : AV) (t10 : Int) (t11 : Int) (m : Mem) (R : AV → Mem → Prop) (N0 : St → Prop) : W pg KK 49 0 Ub (O5 t0 t2 t9 t10 t11 m) (r9 R N0) = U5 t0 t2 t9 t10 t11 m R N0 := by kernel_rfl
theorem Aa8 (R : AV → Mem → Prop) {σ : Type} (I : σ → Prop) (t0 : σ → AV) (t2 : σ → Int) (t9 : σ → AV) (t10 : σ → Int) (t11 : σ → Int) (m : σ → Mem) (μ : σ → Nat) (step : ∀ x, I x → U5 (t0 x) (t2 x) (t9 x) (t10 x) (t11 x) (m x) R (fun s' => ∃ y, I y ∧ μ y < μ x ∧ Bo KK 49 0 s' (O5 (t0 y) (t2 y) (t9 y) (t10 y) (t11 y) (m y)))) (x : σ) (hx : I x) {s : St} (hw : Bo KK 49 0 s (O5 (t0 x) (t2 x) (t9 x) (t10 x) (t11 x) (m x))) : Ca pg KK 49 0 (.loop Ub) s (Wg R) :=
  Ca.Fk hw (Ca.loops Ee I (fun x => O5 (t0 x) (t2 x) (t9 x) (t10 x) (t11 x) (m x)) μ (fun x hx => (hY (t0 x) (t2 x) (t9 x) (t10 x) (t11 x) (m x) R _).mpr (step x hx)) x hx)
noncomputable def wM (a0 : AV) (R : AV → Mem → Prop) : Prop :=
Bg (Dh a0) fun v0 =>
Af v0 fun z1 =>
bif (decide (z1 > (8))) then (
A4 R [] [some (Aa (2))]) else (
Bg (Dh a0) fun v2 =>
Af v2 fun z3 =>
Ca pg KK 49 0 (.loop Ub) ⟨[(0, a0), (2, (Aa (0))), (6, a0), (7, (Aa z1)), (8, (Ac (decide (z1 > (8))))), (9, a0), (10, (Aa z3)), (11, (Aa (0)))], [], 7⟩ (Wg R))
theorem mV (a0 : AV) (R : AV → Mem → Prop) (h : wM a0 R) : Own pg KK.gl 109 [a0] R := Bj Ee Tryz.func109 (code := yU) (by kernel_rfl) (by kernel_rfl) (by kernel_rfl) (X := wM a0 R) (by kernel_rfl) h
noncomputable def Ae5 : Code := ((Tryz.f153).body).getD .skip
noncomputable def Ahb (R : AV → Mem → Prop) : A9 → St → Prop := Dj pg Tryz.f153 R
noncomputable def vD (a0 : ByteArray) (R : AV → Mem → Prop) : Prop :=
A4 R [] [some (Ac (!((a0).toList == (a0).toList)))]
theorem nC (a0 : ByteArray) (R : AV → Mem → Prop) (h : vD a0 R) : Own pg KK.gl 153 [(AV.sc (.string a0))] R := Bj Ee Tryz.func153 (code := Ae5) (by kernel_rfl) (by kernel_rfl) (by kernel_rfl) (X := vD a0 R) (by kernel_rfl) h
noncomputable def c96 : Code := ((Tryz.f96).body).getD .skip
noncomputable def q96 (R : AV → Mem → Prop) : A9 → St → Prop := Dj pg Tryz.f96 R
noncomputable def F96 (a0 : ByteArray) (a1 : ByteArray) (R : AV → Mem → Prop) : Prop :=
Bv pg KK.gl [] 153 [(AV.sc (.string a0))] fun v0 =>
G2 v0 fun b1 =>
Bv pg KK.gl [] 153 [(AV.sc (.string a1))] fun v2 =>
G2 v2 fun b3 =>
bif b1 then (
bif b3 then (
A4 R [] [some (Aa (0))]) else (
A4 R [] [some (Aa (-1))])) else (
bif b3 then (
A4 R [] [some (Aa (1))]) else (
bif (Op.bytesLess (a0).toList (a1).toList) then (
A4 R [] [some (Aa (-1))]) else (
bif (!(Op.bytesLess (a0).toList (a1).toList || (a0).toList == (a1).toList)) then (
A4 R [] [some (Aa (1))]) else (
A4 R [] [some (Aa (0))]))))
theorem sH (a0 : ByteArray) (a1 : ByteArray) (R : AV → Mem → Prop) (h : F96 a0 a1 R) : Own pg KK.gl 96 [(AV.sc (.string a0)), (AV.sc (.string a1))] R := Bj Ee Tryz.func96 (code := c96) (by kernel_rfl) (by kernel_rfl) (by kernel_rfl) (X := F96 a0 a1 R) (by kernel_rfl) h
noncomputable def c95 : Code := ((Tryz.f95).body).getD .skip
noncomputable def q95 (R : AV → Mem → Prop) : A9 → St → Prop := Dj pg Tryz.f95 R
noncomputable def fI : Code := Dt c95 0
noncomputable def eK (R : AV → Mem → Prop) : A9 → St → Prop := Du pg KK 18 0 c95 0 (q95 R)
noncomputable def Abq (R : AV → Mem → Prop) (N0 : St → Prop) : A9 → St → Prop := Dv N0 (eK R)
def Te (t2 : Int) (t3 : Int) (t6 : AV) (t7 : Int) (t8 : Int) (m : Mem) : St := ⟨[(2, (Aa t2)), (3, (Aa t3)), (6, t6), (7, (Aa t7)), (8, (Aa t8))], m, 100000⟩
noncomputable def dY (t2 : Int) (t3 : Int) (t6 : AV) (t7 : Int) (t8 : Int) (m : Mem) (R : AV → Mem → Prop) (N0 : St → Prop) : Prop :=
bif (decide (t8 < t7)) then (
Bg (Db 1 t6 (Aa t8)) fun v2 =>
Bg (Fe (Al m) v2) fun v3 =>
Af v3 fun z4 =>
bif (z4 != t3) then (
A4 R m [some (Aa z4)]) else (
N0 ⟨[(2, (Aa t2)), (3, (Aa t3)), (6, t6), (7, (Aa t7)), (8, (Aa (IntKind.wrap .i64 (t8 + (1))))), (9, (Ac (decide (t8 < t7)))), (10, v2), (11, (Aa z4)), (5, (Aa z4)), (12, (Aa z4)), (13, (Aa t3)), (14, (Ac (z4 != t3))), (16, (Aa (IntKind.wrap .i64 (t8 + (1)))))], m, 100009⟩)) else (
A4 R m [some (Aa t3)])
theorem mW (t2 : Int) (t3 : Int) (t6 : AV) (t7 : Int) (t8 : Int) (m : Mem) (R : AV → Mem → Prop) (N0 : St → Prop) : W pg KK 18 0 fI (Te t2 t3 t6 t7 t8 m) (Abq R N0) = dY t2 t3 t6 t7 t8 m R N0 := by kernel_rfl
theorem Ac3 (R : AV → Mem → Prop) {σ : Type} (I : σ → Prop) (t2 : σ → Int) (t3 : σ → Int) (t6 : σ → AV) (t7 : σ → Int) (t8 : σ → Int) (m : σ → Mem) (μ : σ → Nat) (step : ∀ x, I x → dY (t2 x) (t3 x) (t6 x) (t7 x) (t8 x) (m x) R (fun s' => ∃ y, I y ∧ μ y < μ x ∧ Bo KK 18 0 s' (Te (t2 y) (t3 y) (t6 y) (t7 y) (t8 y) (m y)))) (x : σ) (hx : I x) {s : St} (hw : Bo KK 18 0 s (Te (t2 x) (t3 x) (t6 x) (t7 x) (t8 x) (m x))) : Ca pg KK 18 0 (.loop fI) s (eK R) :=
  Ca.Fk hw (Ca.loops Ee I (fun x => Te (t2 x) (t3 x) (t6 x) (t7 x) (t8 x) (m x)) μ (fun x hx => (mW (t2 x) (t3 x) (t6 x) (t7 x) (t8 x) (m x) R _).mpr (step x hx)) x hx)
noncomputable def F95 (a0 : AV) (R : AV → Mem → Prop) : Prop :=
Bg (Dh a0) fun v0 =>
Af v0 fun z1 =>
Ca pg KK 18 0 (.loop fI) ⟨[(0, a0), (2, (Aa (0))), (3, (Aa (0))), (6, a0), (7, (Aa z1)), (8, (Aa (0)))], [], 5⟩ (eK R)
theorem qL (a0 : AV) (R : AV → Mem → Prop) (h : F95 a0 R) : Own pg KK.gl 95 [a0] R := Bj Ee Tryz.func95 (code := c95) (by kernel_rfl) (by kernel_rfl) (by kernel_rfl) (X := F95 a0 R) (by kernel_rfl) h
noncomputable def Afh : Code := ((Tryz.f111).body).getD .skip
noncomputable def Ahf (R : AV → Mem → Prop) : A9 → St → Prop := Dj pg Tryz.f111 R
noncomputable def sX (a0 : Int) (a1 : Int) (a2 : AV) (R : AV → Mem → Prop) : Prop :=
E8 (Fe (B3 [] (Ax a2 ++ ([]))) a2) fun v0 d0 =>
E8 (Db 4 v0 (Aa a0)) fun v1 d1 =>
E8 (E1 2 v1) fun v2 d2 =>
E8 (Fe (B3 (Ae (Ae (Ae [] d0) d1) d2) (Ax v2 ++ ([]))) v2) fun v3 d3 =>
Af v3 fun z4 =>
E8 (Fe (B3 (Ae (Ae (Ae (Ae [] d0) d1) d2) d3) (Ax a2 ++ ([]))) a2) fun v5 d5 =>
E8 (Db 4 v5 (Aa a1)) fun v6 d6 =>
E8 (E1 2 v6) fun v7 d7 =>
E8 (Fe (B3 (Ae (Ae (Ae (Ae (Ae (Ae (Ae [] d0) d1) d2) d3) d5) d6) d7) (Ax v7 ++ ([]))) v7) fun v8 d8 =>
Af v8 fun z9 =>
E8 (Fe (B3 (Ae (Ae (Ae (Ae (Ae (Ae (Ae (Ae [] d0) d1) d2) d3) d5) d6) d7) d8) (Ax a2 ++ ([]))) a2) fun v10 d10 =>
E8 (Db 4 v10 (Aa a0)) fun v11 d11 =>
E8 (E1 0 v11) fun v12 d12 =>
E8 (Fe (B3 (Ae (Ae (Ae (Ae (Ae (Ae (Ae (Ae (Ae (Ae (Ae [] d0) d1) d2) d3) d5) d6) d7) d8) d10) d11) d12) (Ax v12 ++ ([]))) v12) fun v13 d13 =>
O8 v13 fun s14 =>
E8 (Fe (B3 (Ae (Ae (Ae (Ae (Ae (Ae (Ae (Ae (Ae (Ae (Ae (Ae [] d0) d1) d2) d3) d5) d6) d7) d8) d10) d11) d12) d13) (Ax a2 ++ ([]))) a2) fun v15 d15 =>
E8 (Db 4 v15 (Aa a1)) fun v16 d16 =>
E8 (E1 0 v16) fun v17 d17 =>
E8 (Fe (B3 (Ae (Ae (Ae (Ae (Ae (Ae (Ae (Ae (Ae (Ae (Ae (Ae (Ae (Ae (Ae [] d0) d1) d2) d3) d5) d6) d7) d8) d10) d11) d12) d13) d15) d16) d17) (Ax v17 ++ ([]))) v17) fun v18 d18 =>
O8 v18 fun s19 =>
Yo pg KK.gl (Ae (Ae (Ae (Ae (Ae (Ae (Ae (Ae (Ae (Ae (Ae (Ae (Ae (Ae (Ae (Ae [] d0) d1) d2) d3) d5) d6) d7) d8) d10) d11) d12) d13) d15) d16) d17) d18) 22 96 [(AV.sc (.string s14)), (AV.sc (.string s19))] fun v20 d20 ft20 =>
Af v20 fun z21 =>
E8 (Ww 23 3 1 2 [(Aa (0))] [(0, (Aa (IntKind.wrap .i64 (z4 - z9)))), (1, (Aa z21))]) fun v22 d22 =>
Yo pg KK.gl (Ae (Ae (Ae (Ae (Ae (Ae (Ae (Ae (Ae (Ae (Ae (Ae (Ae (Ae (Ae (Ae (Ae (Ae [] d0) d1) d2) d3) d5) d6) d7) d8) d10) d11) d12) d13) d15) d16) d17) d18) d20) d22) 24 95 [v22] fun v23 d23 ft23 =>
Af v23 fun z24 =>
Mo (D1 [0, 0, 3, 7, 15, 0, 0, 96, 224, 480, 1023, 0, 0, 6144, 14336, 30720, 0, 0, 196608, 458752, 983040, 2095104, 4194303, 8388607, 16777215] [⟨d0, (Ax a2 ++ ([]))⟩, ⟨[], []⟩, ⟨d1, []⟩, ⟨d2, []⟩, ⟨d3, (Ax v2 ++ ([]))⟩, ⟨d5, (Ax a2 ++ ([]))⟩, ⟨[], []⟩, ⟨d6, []⟩, ⟨d7, []⟩, ⟨d8, (Ax v7 ++ ([]))⟩, ⟨[], []⟩, ⟨d10, (Ax a2 ++ ([]))⟩, ⟨[], []⟩, ⟨d11, []⟩, ⟨d12, []⟩, ⟨d13, (Ax v12 ++ ([]))⟩, ⟨d15, (Ax a2 ++ ([]))⟩, ⟨[], []⟩, ⟨d16, []⟩, ⟨d17, []⟩, ⟨d18, (Ax v17 ++ ([]))⟩, ⟨d20, ft20⟩, ⟨d22, []⟩, ⟨d23, ft23⟩, ⟨[], []⟩]) (A4 R (Ae (Ae (Ae (Ae (Ae (Ae (Ae (Ae (Ae (Ae (Ae (Ae (Ae (Ae (Ae (Ae (Ae (Ae (Ae [] d0) d1) d2) d3) d5) d6) d7) d8) d10) d11) d12) d13) d15) d16) d17) d18) d20) d22) d23) [some (Aa z24)])
theorem o7 (a0 : Int) (a1 : Int) (a2 : AV) (R : AV → Mem → Prop) (h : sX a0 a1 a2 R) : Own pg KK.gl 111 [(Aa a0), (Aa a1), a2] R := Bj Ee Tryz.func111 (code := Afh) (by kernel_rfl) (by kernel_rfl) (by kernel_rfl) (X := sX a0 a1 a2 R) (by kernel_rfl) h
noncomputable def c38 : Code := ((Tryz.f38).body).getD .skip
noncomputable def q38 (R : AV → Mem → Prop) : A9 → St → Prop := Dj pg Tryz.f38 R
noncomputable def eC : Code := Dt c38 0
noncomputable def bJ (R : AV → Mem → Prop) : A9 → St → Prop := Du pg KK 26 0 c38 0 (q38 R)
noncomputable def Abk (R : AV → Mem → Prop) (N0 : St → Prop) : A9 → St → Prop := Dv N0 (bJ R)
def Tw (t2 : AV) (t3 : Int) (t5 : AV) (t13 : Int) (t14 : Int) (b0_0 : AV) (m : Mem) : St := ⟨[(1, (AV.ptr 0 0)), (2, t2), (3, (Aa t3)), (5, t5), (13, (Aa t13)), (14, (Aa t14))], ((0, some ⟨[b0_0], 22⟩) :: m), 100000⟩
noncomputable def cY (t2 : AV) (t3 : Int) (t5 : AV) (t13 : Int) (t14 : Int) (b0_0 : AV) (m : Mem) (R : AV → Mem → Prop) (N0 : St → Prop) : Prop :=
bif (decide (t14 < t13)) then (
Fy (Ww 100005 3 1 1 [(Aa (0))] [(0, (Aa t14))]) ((0, some ⟨[b0_0], 22⟩) :: m) fun v4 m4 =>
Fy (app (Al m4) 3 1 8 [(Aa (0))] 100006 t5 v4) m4 fun v5 m5 =>
N0 ⟨[(1, (AV.ptr 0 0)), (2, t2), (3, (Aa t3)), (5, v5), (13, (Aa t13)), (14, (Aa (IntKind.wrap .i64 (t14 + (1))))), (15, (Ac (decide (t14 < t13)))), (16, (Aa t14)), (6, (Aa t14)), (17, t5), (18, (Aa t14)), (19, v4), (20, v5), (21, (Aa (IntKind.wrap .i64 (t14 + (1)))))], m5, 100010⟩) else (
Ed pg KK.gl ((0, some ⟨[b0_0], 22⟩) :: m) 100003 110 [t5, (AV.fn 111 [(AV.ptr 0 0)])] fun v6 m6 =>
Ry v6 <|
A4 R m6 [some t5, some (Aa (0))])
theorem mJ (t2 : AV) (t3 : Int) (t5 : AV) (t13 : Int) (t14 : Int) (b0_0 : AV) (m : Mem) (R : AV → Mem → Prop) (N0 : St → Prop) : W pg KK 26 0 eC (Tw t2 t3 t5 t13 t14 b0_0 m) (Abk R N0) = cY t2 t3 t5 t13 t14 b0_0 m R N0 := by kernel_rfl
theorem Acx (R : AV → Mem → Prop) {σ : Type} (I : σ → Prop) (t2 : σ → AV) (t3 : σ → Int) (t5 : σ → AV) (t13 : σ → Int) (t14 : σ → Int) (b0_0 : σ → AV) (m : σ → Mem) (μ : σ → Nat) (step : ∀ x, I x → cY (t2 x) (t3 x) (t5 x) (t13 x) (t14 x) (b0_0 x) (m x) R (fun s' => ∃ y, I y ∧ μ y < μ x ∧ Bo KK 26 0 s' (Tw (t2 y) (t3 y) (t5 y) (t13 y) (t14 y) (b0_0 y) (m y)))) (x : σ) (hx : I x) {s : St} (hw : Bo KK 26 0 s (Tw (t2 x) (t3 x) (t5 x) (t13 x) (t14 x) (b0_0 x) (m x))) : Ca pg KK 26 0 (.loop eC) s (bJ R) :=
  Ca.Fk hw (Ca.loops Ee I (fun x => Tw (t2 x) (t3 x) (t5 x) (t13 x) (t14 x) (b0_0 x) (m x)) μ (fun x hx => (mJ (t2 x) (t3 x) (t5 x) (t13 x) (t14 x) (b0_0 x) (m x) R _).mpr (step x hx)) x hx)
noncomputable def F38 (a0 : AV) (R : AV → Mem → Prop) : Prop :=
Mo (Dd a0) <| Bv pg KK.gl ((0, some ⟨[a0], 22⟩) :: []) 109 [a0] fun v0 =>
Af v0 fun z1 =>
bif (z1 != (0)) then (
A4 R ((0, some ⟨[a0], 22⟩) :: []) [some AV.Cc, some (Aa z1)]) else (
Bg (Dh a0) fun v2 =>
Af v2 fun z3 =>
Ca pg KK 26 0 (.loop eC) ⟨[(0, a0), (1, (AV.ptr 0 0)), (2, AV.Cc), (3, (Aa (0))), (7, a0), (8, (Aa z1)), (4, (Aa z1)), (9, (Aa z1)), (10, (Ac (z1 != (0)))), (5, AV.Cc), (12, a0), (13, (Aa z3)), (14, (Aa (0)))], ((0, some ⟨[a0], 22⟩) :: []), 75⟩ (bJ R))
theorem s6 (a0 : AV) (R : AV → Mem → Prop) (h : F38 a0 R) : Own pg KK.gl 38 [a0] R := Bj Ee Tryz.func38 (code := c38) (by kernel_rfl) (by kernel_rfl) (by kernel_rfl) (X := F38 a0 R) (by kernel_rfl) h
noncomputable def Abt : Code := ((Tryz.f114).body).getD .skip
noncomputable def Aek (R : AV → Mem → Prop) : A9 → St → Prop := Dj pg Tryz.f114 R
noncomputable def Wn : Code := Dt Abt 0
noncomputable def Vy (R : AV → Mem → Prop) : A9 → St → Prop := Du pg KK 19 0 Abt 0 (Aek R)
noncomputable def sT (R : AV → Mem → Prop) (N0 : St → Prop) : A9 → St → Prop := Dv N0 (Vy R)
def Nz (t0 : AV) (t1 : Int) (t4 : Int) (t7 : Int) (t8 : Int) (m : Mem) : St := ⟨[(0, t0), (1, (Aa t1)), (4, (Aa t4)), (7, (Aa t7)), (8, (Aa t8))], m, 100000⟩
noncomputable def Vp (t0 : AV) (t1 : Int) (t4 : Int) (t7 : Int) (t8 : Int) (m : Mem) (R : AV → Mem → Prop) (N0 : St → Prop) : Prop :=
bif (decide (t8 < t7)) then (
Bg (Db 1 t0 (Aa t8)) fun v2 =>
Bg (Fe (Al m) v2) fun v3 =>
Af v3 fun z4 =>
bif (t1 == z4) then (
A4 R m [some (Aa t8)]) else (
N0 ⟨[(0, t0), (1, (Aa t1)), (4, (Aa t4)), (7, (Aa t7)), (8, (Aa (IntKind.wrap .i64 (t8 + (1))))), (9, (Ac (decide (t8 < t7)))), (10, (Aa t8)), (5, (Aa t8)), (11, (Aa t1)), (12, t0), (13, (Aa t8)), (14, v2), (15, (Aa z4)), (16, (Ac (t1 == z4))), (18, (Aa (IntKind.wrap .i64 (t8 + (1)))))], m, 100011⟩)) else (
A4 R m [some (Aa (-1))])
theorem gJ (t0 : AV) (t1 : Int) (t4 : Int) (t7 : Int) (t8 : Int) (m : Mem) (R : AV → Mem → Prop) (N0 : St → Prop) : W pg KK 19 0 Wn (Nz t0 t1 t4 t7 t8 m) (sT R N0) = Vp t0 t1 t4 t7 t8 m R N0 := by kernel_rfl
theorem Aa3 (R : AV → Mem → Prop) {σ : Type} (I : σ → Prop) (t0 : σ → AV) (t1 : σ → Int) (t4 : σ → Int) (t7 : σ → Int) (t8 : σ → Int) (m : σ → Mem) (μ : σ → Nat) (step : ∀ x, I x → Vp (t0 x) (t1 x) (t4 x) (t7 x) (t8 x) (m x) R (fun s' => ∃ y, I y ∧ μ y < μ x ∧ Bo KK 19 0 s' (Nz (t0 y) (t1 y) (t4 y) (t7 y) (t8 y) (m y)))) (x : σ) (hx : I x) {s : St} (hw : Bo KK 19 0 s (Nz (t0 x) (t1 x) (t4 x) (t7 x) (t8 x) (m x))) : Ca pg KK 19 0 (.loop Wn) s (Vy R) :=
  Ca.Fk hw (Ca.loops Ee I (fun x => Nz (t0 x) (t1 x) (t4 x) (t7 x) (t8 x) (m x)) μ (fun x hx => (gJ (t0 x) (t1 x) (t4 x) (t7 x) (t8 x) (m x) R _).mpr (step x hx)) x hx)
noncomputable def rK (a0 : AV) (a1 : Int) (R : AV → Mem → Prop) : Prop :=
Bg (Dh a0) fun v0 =>
Af v0 fun z1 =>
Ca pg KK 19 0 (.loop Wn) ⟨[(0, a0), (1, (Aa a1)), (4, (Aa (0))), (6, a0), (7, (Aa z1)), (8, (Aa (0)))], [], 4⟩ (Vy R)
theorem kR (a0 : AV) (a1 : Int) (R : AV → Mem → Prop) (h : rK a0 a1 R) : Own pg KK.gl 114 [a0, (Aa a1)] R := Bj Ee Tryz.func114 (code := Abt) (by kernel_rfl) (by kernel_rfl) (by kernel_rfl) (X := rK a0 a1 R) (by kernel_rfl) h
noncomputable def c43 : Code := ((Tryz.f43).body).getD .skip
noncomputable def q43 (R : AV → Mem → Prop) : A9 → St → Prop := Dj pg Tryz.f43 R
noncomputable def dC : Code := Dt c43 0
noncomputable def b6 (R : AV → Mem → Prop) : A9 → St → Prop := Du pg KK 28 0 c43 0 (q43 R)
noncomputable def zT (R : AV → Mem → Prop) (N0 : St → Prop) : A9 → St → Prop := Dv N0 (b6 R)
def Tb (t0 : AV) (t4 : Int) (t5 : Int) (t9 : AV) (t10 : Int) (t11 : Int) (m : Mem) : St := ⟨[(0, t0), (4, (Aa t4)), (5, (Aa t5)), (9, t9), (10, (Aa t10)), (11, (Aa t11))], m, 100000⟩
noncomputable def cB (t0 : AV) (t4 : Int) (t5 : Int) (t9 : AV) (t10 : Int) (t11 : Int) (m : Mem) (R : AV → Mem → Prop) (N0 : St → Prop) : Prop :=
bif (decide (t11 < t10)) then (
Bg (Db 1 t9 (Aa t11)) fun v2 =>
Bg (Fe (Al m) v2) fun v3 =>
Af v3 fun z4 =>
Bv pg KK.gl m 114 [t0, (Aa z4)] fun v5 =>
Af v5 fun z6 =>
Bg (B9 pg (.unOp .neg 3 (.tmp 0)) 3 [(Aa (IntKind.wrap .i64 (t11 - z6)))] (Al m) 100078) fun v7 =>
Af v7 fun z8 =>
Bg (B9 pg (.call ⟨.builtin .max, #[.tmp 0, .tmp 1, .tmp 2], #[3, 3, 3]⟩) 3 [(Aa t5), (Aa (IntKind.wrap .i64 (t11 - z6))), (Aa z8)] (Al m) 100079) fun v9 =>
Af v9 fun z10 =>
N0 ⟨[(0, t0), (4, (Aa t4)), (5, (Aa z10)), (9, t9), (10, (Aa t10)), (11, (Aa (IntKind.wrap .i64 (t11 + (1))))), (12, (Ac (decide (t11 < t10)))), (13, (Aa t11)), (14, v2), (15, (Aa z4)), (6, (Aa t11)), (7, (Aa z4)), (16, (Aa t11)), (17, t0), (18, (Aa z4)), (19, (Aa z6)), (20, (Aa (IntKind.wrap .i64 (t11 - z6)))), (8, (Aa (IntKind.wrap .i64 (t11 - z6)))), (21, (Aa t5)), (22, (Aa (IntKind.wrap .i64 (t11 - z6)))), (23, (Aa (IntKind.wrap .i64 (t11 - z6)))), (24, (Aa z8)), (25, (Aa z10)), (26, (Aa (IntKind.wrap .i64 (t11 + (1)))))], m, 100083⟩) else (
A4 R m [some (Aa t5)])
theorem kJ (t0 : AV) (t4 : Int) (t5 : Int) (t9 : AV) (t10 : Int) (t11 : Int) (m : Mem) (R : AV → Mem → Prop) (N0 : St → Prop) : W pg KK 28 0 dC (Tb t0 t4 t5 t9 t10 t11 m) (zT R N0) = cB t0 t4 t5 t9 t10 t11 m R N0 := by kernel_rfl
theorem Adp (R : AV → Mem → Prop) {σ : Type} (I : σ → Prop) (t0 : σ → AV) (t4 : σ → Int) (t5 : σ → Int) (t9 : σ → AV) (t10 : σ → Int) (t11 : σ → Int) (m : σ → Mem) (μ : σ → Nat) (step : ∀ x, I x → cB (t0 x) (t4 x) (t5 x) (t9 x) (t10 x) (t11 x) (m x) R (fun s' => ∃ y, I y ∧ μ y < μ x ∧ Bo KK 28 0 s' (Tb (t0 y) (t4 y) (t5 y) (t9 y) (t10 y) (t11 y) (m y)))) (x : σ) (hx : I x) {s : St} (hw : Bo KK 28 0 s (Tb (t0 x) (t4 x) (t5 x) (t9 x) (t10 x) (t11 x) (m x))) : Ca pg KK 28 0 (.loop dC) s (b6 R) :=
  Ca.Fk hw (Ca.loops Ee I (fun x => Tb (t0 x) (t4 x) (t5 x) (t9 x) (t10 x) (t11 x) (m x)) μ (fun x hx => (kJ (t0 x) (t4 x) (t5 x) (t9 x) (t10 x) (t11 x) (m x) R _).mpr (step x hx)) x hx)
noncomputable def F43 (a0 : AV) (a1 : AV) (R : AV → Mem → Prop) : Prop :=
Bg (Dh a1) fun v0 =>
Af v0 fun z1 =>
Ca pg KK 28 0 (.loop dC) ⟨[(0, a0), (1, a1), (4, (Aa (0))), (5, (Aa (0))), (9, a1), (10, (Aa z1)), (11, (Aa (0)))], [], 5⟩ (b6 R)
theorem qA (a0 : AV) (a1 : AV) (R : AV → Mem → Prop) (h : F43 a0 a1 R) : Own pg KK.gl 43 [a0, a1] R := Bj Ee Tryz.func43 (code := c43) (by kernel_rfl) (by kernel_rfl) (by kernel_rfl) (X := F43 a0 a1 R) (by kernel_rfl) h
noncomputable def Afp : Code := ((Tryz.f112).body).getD .skip
noncomputable def Agt (R : AV → Mem → Prop) : A9 → St → Prop := Dj pg Tryz.f112 R
noncomputable def vT (a0 : AV) (a1 : Int) (R : AV → Mem → Prop) : Prop :=
Bv pg KK.gl [] 114 [a0, (Aa a1)] fun v0 =>
Af v0 fun z1 =>
A4 R [] [some (Ac (decide (z1 ≥ (0))))]
theorem nG (a0 : AV) (a1 : Int) (R : AV → Mem → Prop) (h : vT a0 a1 R) : Own pg KK.gl 112 [a0, (Aa a1)] R := Bj Ee Tryz.func112 (code := Afp) (by kernel_rfl) (by kernel_rfl) (by kernel_rfl) (X := vT a0 a1 R) (by kernel_rfl) h
noncomputable def c5 : Code := ((Tryz.f5).body).getD .skip
noncomputable def q5 (R : AV → Mem → Prop) : A9 → St → Prop := Dj pg Tryz.f5 R
noncomputable def F5 (a0 : Int) (a1 : Int) (R : AV → Mem → Prop) : Prop :=
Bg (B9 pg (.convert 3 140 (.tmp 0)) 140 [(Aa a0)] (Al []) 2) fun v0 =>
J8 v0 fun z1 =>
Bg (B9 pg (.convert 3 140 (.tmp 0)) 140 [(Aa a1)] (Al []) 4) fun v2 =>
J8 v2 fun z3 =>
Bg (B9 pg (.binOp .rem 140 (.tmp 0) (.tmp 1) 140) 140 [(AV.sc (.int .u64 z1)), (AV.sc (.int .u64 z3))] (Al []) 5) fun v4 =>
J8 v4 fun z5 =>
Bg (B9 pg (.convert 140 3 (.tmp 0)) 3 [(AV.sc (.int .u64 z5))] (Al []) 6) fun v6 =>
Af v6 fun z7 =>
A4 R [] [some (Aa z7)]
theorem zW (a0 : Int) (a1 : Int) (R : AV → Mem → Prop) (h : F5 a0 a1 R) : Own pg KK.gl 5 [(Aa a0), (Aa a1)] R := Bj Ee Tryz.func5 (code := c5) (by kernel_rfl) (by kernel_rfl) (by kernel_rfl) (X := F5 a0 a1 R) (by kernel_rfl) h
noncomputable def c49 : Code := ((Tryz.f49).body).getD .skip
noncomputable def q49 (R : AV → Mem → Prop) : A9 → St → Prop := Dj pg Tryz.f49 R
noncomputable def F49 (a0 : Int) (R : AV → Mem → Prop) : Prop :=
bif (decide (a0 < (0))) then (
A4 R [] [some (Ac true)]) else (
A4 R [] [some (Ac (decide (a0 > (200000))))])
theorem vC (a0 : Int) (R : AV → Mem → Prop) (h : F49 a0 R) : Own pg KK.gl 49 [(Aa a0)] R := Bj Ee Tryz.func49 (code := c49) (by kernel_rfl) (by kernel_rfl) (by kernel_rfl) (X := F49 a0 R) (by kernel_rfl) h
noncomputable def c44 : Code := ((Tryz.f44).body).getD .skip
noncomputable def q44 (R : AV → Mem → Prop) : A9 → St → Prop := Dj pg Tryz.f44 R
noncomputable def dT : Code := Dt c44 0
noncomputable def e7 (R : AV → Mem → Prop) : A9 → St → Prop := Du pg KK 49 0 c44 0 (q44 R)
noncomputable def yB (R : AV → Mem → Prop) (N0 : St → Prop) : A9 → St → Prop := Dv N0 (e7 R)
def Sg (t0 : AV) (t2 : Int) (t9 : AV) (t10 : Int) (t11 : Int) (m : Mem) : St := ⟨[(0, t0), (2, (Aa t2)), (9, t9), (10, (Aa t10)), (11, (Aa t11))], m, 100000⟩
noncomputable def cG (t0 : AV) (t2 : Int) (t9 : AV) (t10 : Int) (t11 : Int) (m : Mem) (R : AV → Mem → Prop) (N0 : St → Prop) : Prop :=
bif (decide (t11 < t10)) then (
Bg (Db 4 t9 (Aa t11)) fun v4 =>
Bg (Ju (Al m) 4 v4) fun v5 =>
Jf v5 fun c6 c7 c8 c9 =>
Af c6 fun z10 =>
Af c7 fun z11 =>
G2 c8 fun b12 =>
Af c9 fun z13 =>
Bv pg KK.gl ((100004, some ⟨[(Aa z10), (Aa z11), (Ac b12), (Aa z13)], 37⟩) :: (100004, some ⟨[(Aa (0)), (Aa (0)), (Ac false), (Aa (0))], 37⟩) :: m) 49 [(Aa z10)] fun v14 =>
G2 v14 fun b15 =>
bif b15 then (
A4 R ((100004, some ⟨[(Aa z10), (Aa z11), (Ac b12), (Aa z13)], 37⟩) :: (100004, some ⟨[(Aa (0)), (Aa (0)), (Ac false), (Aa (0))], 37⟩) :: m) [some (Aa (12))]) else (
bif (decide (t11 > (0))) then (
Bg (Db 4 t0 (Aa (IntKind.wrap .i64 (t11 - (1))))) fun v16 =>
Bg (E1 0 v16) fun v17 =>
Bg (Fe (Al ((100004, some ⟨[(Aa z10), (Aa z11), (Ac b12), (Aa z13)], 37⟩) :: (100004, some ⟨[(Aa (0)), (Aa (0)), (Ac false), (Aa (0))], 37⟩) :: m)) v17) fun v18 =>
Af v18 fun z19 =>
bif (decide (z10 < z19)) then (
A4 R ((100004, some ⟨[(Aa z10), (Aa z11), (Ac b12), (Aa z13)], 37⟩) :: (100004, some ⟨[(Aa (0)), (Aa (0)), (Ac false), (Aa (0))], 37⟩) :: m) [some (Aa (12))]) else (
Bv pg KK.gl ((100004, some ⟨[(Aa z10), (Aa z11), (Ac b12), (Aa z13)], 37⟩) :: (100004, some ⟨[(Aa (0)), (Aa (0)), (Ac false), (Aa (0))], 37⟩) :: m) 50 [(Aa z11)] fun v20 =>
Af v20 fun z21 =>
bif (z21 != (0)) then (
A4 R ((100004, some ⟨[(Aa z10), (Aa z11), (Ac b12), (Aa z13)], 37⟩) :: (100004, some ⟨[(Aa (0)), (Aa (0)), (Ac false), (Aa (0))], 37⟩) :: m) [some (Aa z21)]) else (
bif (z13 != (0)) then (
bif (z13 != (1)) then (
A4 R ((100004, some ⟨[(Aa z10), (Aa z11), (Ac b12), (Aa z13)], 37⟩) :: (100004, some ⟨[(Aa (0)), (Aa (0)), (Ac false), (Aa (0))], 37⟩) :: m) [some (Aa (1))]) else (
N0 ⟨[(0, t0), (2, (Aa t2)), (9, t9), (10, (Aa t10)), (11, (Aa (IntKind.wrap .i64 (t11 + (1))))), (12, (Ac (decide (t11 < t10)))), (13, (Aa t11)), (14, v4), (15, (AV.agg [(Aa z10), (Aa z11), (Ac b12), (Aa z13)])), (4, (AV.ptr 100004 0)), (3, (Aa t11)), (16, (AV.ptr 100004 0)), (17, (Aa z10)), (18, (Ac b15)), (19, (Ac false)), (20, (Aa t11)), (21, (Ac (decide (t11 > (0))))), (22, (Ac true)), (23, (AV.ptr 100004 0)), (24, (Aa z10)), (25, t0), (26, (Aa t11)), (27, (Aa (IntKind.wrap .i64 (t11 - (1))))), (28, v16), (29, v17), (30, (Aa z19)), (31, (Ac (decide (z10 < z19)))), (32, (Ac (decide (z10 < z19)))), (33, (Ac (decide (z10 < z19)))), (34, (AV.ptr 100004 1)), (35, (Aa z11)), (36, (Aa z21)), (5, (Aa z21)), (37, (Aa z21)), (38, (Ac (z21 != (0)))), (40, (AV.ptr 100004 3)), (41, (Aa z13)), (42, (Ac (z13 != (0)))), (43, (Ac true)), (44, (AV.ptr 100004 3)), (45, (Aa z13)), (46, (Ac (z13 != (1)))), (47, (Ac (z13 != (1)))), (48, (Aa (IntKind.wrap .i64 (t11 + (1)))))], ((100004, some ⟨[(Aa z10), (Aa z11), (Ac b12), (Aa z13)], 37⟩) :: (100004, some ⟨[(Aa (0)), (Aa (0)), (Ac false), (Aa (0))], 37⟩) :: m), 100104⟩)) else (
N0 ⟨[(0, t0), (2, (Aa t2)), (9, t9), (10, (Aa t10)), (11, (Aa (IntKind.wrap .i64 (t11 + (1))))), (12, (Ac (decide (t11 < t10)))), (13, (Aa t11)), (14, v4), (15, (AV.agg [(Aa z10), (Aa z11), (Ac b12), (Aa z13)])), (4, (AV.ptr 100004 0)), (3, (Aa t11)), (16, (AV.ptr 100004 0)), (17, (Aa z10)), (18, (Ac b15)), (19, (Ac false)), (20, (Aa t11)), (21, (Ac (decide (t11 > (0))))), (22, (Ac true)), (23, (AV.ptr 100004 0)), (24, (Aa z10)), (25, t0), (26, (Aa t11)), (27, (Aa (IntKind.wrap .i64 (t11 - (1))))), (28, v16), (29, v17), (30, (Aa z19)), (31, (Ac (decide (z10 < z19)))), (32, (Ac (decide (z10 < z19)))), (33, (Ac (decide (z10 < z19)))), (34, (AV.ptr 100004 1)), (35, (Aa z11)), (36, (Aa z21)), (5, (Aa z21)), (37, (Aa z21)), (38, (Ac (z21 != (0)))), (40, (AV.ptr 100004 3)), (41, (Aa z13)), (42, (Ac (z13 != (0)))), (43, (Ac false)), (44, (AV.tup [])), (45, (AV.tup [])), (46, (AV.tup [])), (47, (Ac false)), (48, (Aa (IntKind.wrap .i64 (t11 + (1)))))], ((100004, some ⟨[(Aa z10), (Aa z11), (Ac b12), (Aa z13)], 37⟩) :: (100004, some ⟨[(Aa (0)), (Aa (0)), (Ac false), (Aa (0))], 37⟩) :: m), 100101⟩)))) else (
Bv pg KK.gl ((100004, some ⟨[(Aa z10), (Aa z11), (Ac b12), (Aa z13)], 37⟩) :: (100004, some ⟨[(Aa (0)), (Aa (0)), (Ac false), (Aa (0))], 37⟩) :: m) 50 [(Aa z11)] fun v22 =>
Af v22 fun z23 =>
bif (z23 != (0)) then (
A4 R ((100004, some ⟨[(Aa z10), (Aa z11), (Ac b12), (Aa z13)], 37⟩) :: (100004, some ⟨[(Aa (0)), (Aa (0)), (Ac false), (Aa (0))], 37⟩) :: m) [some (Aa z23)]) else (
bif (z13 != (0)) then (
bif (z13 != (1)) then (
A4 R ((100004, some ⟨[(Aa z10), (Aa z11), (Ac b12), (Aa z13)], 37⟩) :: (100004, some ⟨[(Aa (0)), (Aa (0)), (Ac false), (Aa (0))], 37⟩) :: m) [some (Aa (1))]) else (
N0 ⟨[(0, t0), (2, (Aa t2)), (9, t9), (10, (Aa t10)), (11, (Aa (IntKind.wrap .i64 (t11 + (1))))), (12, (Ac (decide (t11 < t10)))), (13, (Aa t11)), (14, v4), (15, (AV.agg [(Aa z10), (Aa z11), (Ac b12), (Aa z13)])), (4, (AV.ptr 100004 0)), (3, (Aa t11)), (16, (AV.ptr 100004 0)), (17, (Aa z10)), (18, (Ac b15)), (19, (Ac false)), (20, (Aa t11)), (21, (Ac (decide (t11 > (0))))), (22, (Ac false)), (23, (AV.tup [])), (24, (AV.tup [])), (25, (AV.tup [])), (26, (AV.tup [])), (27, (AV.tup [])), (28, (AV.tup [])), (29, (AV.tup [])), (30, (AV.tup [])), (31, (AV.tup [])), (32, (Ac false)), (33, (Ac false)), (34, (AV.ptr 100004 1)), (35, (Aa z11)), (36, (Aa z23)), (5, (Aa z23)), (37, (Aa z23)), (38, (Ac (z23 != (0)))), (40, (AV.ptr 100004 3)), (41, (Aa z13)), (42, (Ac (z13 != (0)))), (43, (Ac true)), (44, (AV.ptr 100004 3)), (45, (Aa z13)), (46, (Ac (z13 != (1)))), (47, (Ac (z13 != (1)))), (48, (Aa (IntKind.wrap .i64 (t11 + (1)))))], ((100004, some ⟨[(Aa z10), (Aa z11), (Ac b12), (Aa z13)], 37⟩) :: (100004, some ⟨[(Aa (0)), (Aa (0)), (Ac false), (Aa (0))], 37⟩) :: m), 100104⟩)) else (
N0 ⟨[(0, t0), (2, (Aa t2)), (9, t9), (10, (Aa t10)), (11, (Aa (IntKind.wrap .i64 (t11 + (1))))), (12, (Ac (decide (t11 < t10)))), (13, (Aa t11)), (14, v4), (15, (AV.agg [(Aa z10), (Aa z11), (Ac b12), (Aa z13)])), (4, (AV.ptr 100004 0)), (3, (Aa t11)), (16, (AV.ptr 100004 0)), (17, (Aa z10)), (18, (Ac b15)), (19, (Ac false)), (20, (Aa t11)), (21, (Ac (decide (t11 > (0))))), (22, (Ac false)), (23, (AV.tup [])), (24, (AV.tup [])), (25, (AV.tup [])), (26, (AV.tup [])), (27, (AV.tup [])), (28, (AV.tup [])), (29, (AV.tup [])), (30, (AV.tup [])), (31, (AV.tup [])), (32, (Ac false)), (33, (Ac false)), (34, (AV.ptr 100004 1)), (35, (Aa z11)), (36, (Aa z23)), (5, (Aa z23)), (37, (Aa z23)), (38, (Ac (z23 != (0)))), (40, (AV.ptr 100004 3)), (41, (Aa z13)), (42, (Ac (z13 != (0)))), (43, (Ac false)), (44, (AV.tup [])), (45, (AV.tup [])), (46, (AV.tup [])), (47, (Ac false)), (48, (Aa (IntKind.wrap .i64 (t11 + (1)))))], ((100004, some ⟨[(Aa z10), (Aa z11), (Ac b12), (Aa z13)], 37⟩) :: (100004, some ⟨[(Aa (0)), (Aa (0)), (Ac false), (Aa (0))], 37⟩) :: m), 100101⟩))))) else (
A4 R m [some (Aa (0))])
theorem kA (t0 : AV) (t2 : Int) (t9 : AV) (t10 : Int) (t11 : Int) (m : Mem) (R : AV → Mem → Prop) (N0 : St → Prop) : W pg KK 49 0 dT (Sg t0 t2 t9 t10 t11 m) (yB R N0) = cG t0 t2 t9 t10 t11 m R N0 := by kernel_rfl
theorem Ace (R : AV → Mem → Prop) {σ : Type} (I : σ → Prop) (t0 : σ → AV) (t2 : σ → Int) (t9 : σ → AV) (t10 : σ → Int) (t11 : σ → Int) (m : σ → Mem) (μ : σ → Nat) (step : ∀ x, I x → cG (t0 x) (t2 x) (t9 x) (t10 x) (t11 x) (m x) R (fun s' => ∃ y, I y ∧ μ y < μ x ∧ Bo KK 49 0 s' (Sg (t0 y) (t2 y) (t9 y) (t10 y) (t11 y) (m y)))) (x : σ) (hx : I x) {s : St} (hw : Bo KK 49 0 s (Sg (t0 x) (t2 x) (t9 x) (t10 x) (t11 x) (m x))) : Ca pg KK 49 0 (.loop dT) s (e7 R) :=
  Ca.Fk hw (Ca.loops Ee I (fun x => Sg (t0 x) (t2 x) (t9 x) (t10 x) (t11 x) (m x)) μ (fun x hx => (kA (t0 x) (t2 x) (t9 x) (t10 x) (t11 x) (m x) R _).mpr (step x hx)) x hx)
noncomputable def F44 (a0 : AV) (R : AV → Mem → Prop) : Prop :=
Bg (Dh a0) fun v0 =>
Af v0 fun z1 =>
bif (decide (z1 > (24))) then (
A4 R [] [some (Aa (2))]) else (
Bg (Dh a0) fun v2 =>
Af v2 fun z3 =>
Ca pg KK 49 0 (.loop dT) ⟨[(0, a0), (2, (Aa (0))), (6, a0), (7, (Aa z1)), (8, (Ac (decide (z1 > (24))))), (9, a0), (10, (Aa z3)), (11, (Aa (0)))], [], 7⟩ (e7 R))
theorem u2 (a0 : AV) (R : AV → Mem → Prop) (h : F44 a0 R) : Own pg KK.gl 44 [a0] R := Bj Ee Tryz.func44 (code := c44) (by kernel_rfl) (by kernel_rfl) (by kernel_rfl) (X := F44 a0 R) (by kernel_rfl) h
noncomputable def tG : Code := ((Tryz.f45).body).getD .skip
noncomputable def q45 (R : AV → Mem → Prop) : A9 → St → Prop := Dj pg Tryz.f45 R
noncomputable def eJ : Code := Dt tG 0
noncomputable def dO (R : AV → Mem → Prop) : A9 → St → Prop := Du pg KK 64 0 tG 0 (q45 R)
noncomputable def zF (R : AV → Mem → Prop) (N0 : St → Prop) : A9 → St → Prop := Dv N0 (dO R)
def Sj (t0 : AV) (t2 : Int) (t13 : AV) (t14 : Int) (t15 : Int) (m : Mem) : St := ⟨[(0, t0), (2, (Aa t2)), (13, t13), (14, (Aa t14)), (15, (Aa t15))], m, 100000⟩
noncomputable def cI (t0 : AV) (t2 : Int) (t13 : AV) (t14 : Int) (t15 : Int) (m : Mem) (R : AV → Mem → Prop) (N0 : St → Prop) : Prop :=
bif (decide (t15 < t14)) then (
Bg (Db 2 t13 (Aa t15)) fun v6 =>
Bg (Ju (Al m) 2 v6) fun v7 =>
Uv v7 fun c8 c9 =>
Af c8 fun z10 =>
Af c9 fun z11 =>
bif (z11 != (0)) then (
bif (z11 != (1)) then (
A4 R ((100004, some ⟨[(Aa z10), (Aa z11)], 39⟩) :: (100004, some ⟨[(Aa (0)), (Aa (0))], 39⟩) :: m) [some (Aa (1))]) else (
Bv pg KK.gl ((100004, some ⟨[(Aa z10), (Aa z11)], 39⟩) :: (100004, some ⟨[(Aa (0)), (Aa (0))], 39⟩) :: m) 49 [(Aa z10)] fun v12 =>
G2 v12 fun b13 =>
bif b13 then (
A4 R ((100004, some ⟨[(Aa z10), (Aa z11)], 39⟩) :: (100004, some ⟨[(Aa (0)), (Aa (0))], 39⟩) :: m) [some (Aa (12))]) else (
bif (decide (t15 > (0))) then (
Bg (Db 2 t0 (Aa (IntKind.wrap .i64 (t15 - (1))))) fun v14 =>
Bg (E1 0 v14) fun v15 =>
Bg (Fe (Al ((100004, some ⟨[(Aa z10), (Aa z11)], 39⟩) :: (100004, some ⟨[(Aa (0)), (Aa (0))], 39⟩) :: m)) v15) fun v16 =>
Af v16 fun z17 =>
bif (decide (z10 < (IntKind.wrap .i64 (z17 + (360))))) then (
A4 R ((100004, some ⟨[(Aa z10), (Aa z11)], 39⟩) :: (100004, some ⟨[(Aa (0)), (Aa (0))], 39⟩) :: m) [some (Aa (12))]) else (
bif (decide (t15 > (0))) then (
Bg (Db 2 t0 (Aa (IntKind.wrap .i64 (t15 - (1))))) fun v18 =>
Bg (E1 1 v18) fun v19 =>
Bg (Fe (Al ((100004, some ⟨[(Aa z10), (Aa z11)], 39⟩) :: (100004, some ⟨[(Aa (0)), (Aa (0))], 39⟩) :: m)) v19) fun v20 =>
Af v20 fun z21 =>
bif (z11 == z21) then (
A4 R ((100004, some ⟨[(Aa z10), (Aa z11)], 39⟩) :: (100004, some ⟨[(Aa (0)), (Aa (0))], 39⟩) :: m) [some (Aa (11))]) else (
N0 ⟨[(0, t0), (2, (Aa t2)), (13, t13), (14, (Aa t14)), (15, (Aa (IntKind.wrap .i64 (t15 + (1))))), (16, (Ac (decide (t15 < t14)))), (17, (Aa t15)), (18, v6), (19, (AV.agg [(Aa z10), (Aa z11)])), (4, (AV.ptr 100004 0)), (3, (Aa t15)), (21, (AV.ptr 100004 1)), (22, (Aa z11)), (23, (Ac (z11 != (0)))), (24, (Ac true)), (25, (AV.ptr 100004 1)), (26, (Aa z11)), (27, (Ac (z11 != (1)))), (28, (Ac (z11 != (1)))), (20, (Ac (z11 != (1)))), (30, (AV.ptr 100004 0)), (31, (Aa z10)), (32, (Ac b13)), (33, (Ac false)), (34, (Aa t15)), (35, (Ac (decide (t15 > (0))))), (36, (Ac true)), (37, (AV.ptr 100004 0)), (38, (Aa z10)), (39, t0), (40, (Aa t15)), (41, (Aa (IntKind.wrap .i64 (t15 - (1))))), (42, v14), (43, v15), (44, (Aa z17)), (45, (Aa (IntKind.wrap .i64 (z17 + (360))))), (46, (Ac (decide (z10 < (IntKind.wrap .i64 (z17 + (360))))))), (47, (Ac (decide (z10 < (IntKind.wrap .i64 (z17 + (360))))))), (48, (Ac (decide (z10 < (IntKind.wrap .i64 (z17 + (360))))))), (29, (Ac (decide (z10 < (IntKind.wrap .i64 (z17 + (360))))))), (50, (Aa t15)), (51, (Ac (decide (t15 > (0))))), (52, (Ac true)), (53, (AV.ptr 100004 1)), (54, (Aa z11)), (55, t0), (56, (Aa t15)), (57, (Aa (IntKind.wrap .i64 (t15 - (1))))), (58, v18), (59, v19), (60, (Aa z21)), (61, (Ac (z11 == z21))), (62, (Ac (z11 == z21))), (49, (Ac (z11 == z21))), (63, (Aa (IntKind.wrap .i64 (t15 + (1)))))], ((100004, some ⟨[(Aa z10), (Aa z11)], 39⟩) :: (100004, some ⟨[(Aa (0)), (Aa (0))], 39⟩) :: m), 100052⟩)) else (
N0 ⟨[(0, t0), (2, (Aa t2)), (13, t13), (14, (Aa t14)), (15, (Aa (IntKind.wrap .i64 (t15 + (1))))), (16, (Ac (decide (t15 < t14)))), (17, (Aa t15)), (18, v6), (19, (AV.agg [(Aa z10), (Aa z11)])), (4, (AV.ptr 100004 0)), (3, (Aa t15)), (21, (AV.ptr 100004 1)), (22, (Aa z11)), (23, (Ac (z11 != (0)))), (24, (Ac true)), (25, (AV.ptr 100004 1)), (26, (Aa z11)), (27, (Ac (z11 != (1)))), (28, (Ac (z11 != (1)))), (20, (Ac (z11 != (1)))), (30, (AV.ptr 100004 0)), (31, (Aa z10)), (32, (Ac b13)), (33, (Ac false)), (34, (Aa t15)), (35, (Ac (decide (t15 > (0))))), (36, (Ac true)), (37, (AV.ptr 100004 0)), (38, (Aa z10)), (39, t0), (40, (Aa t15)), (41, (Aa (IntKind.wrap .i64 (t15 - (1))))), (42, v14), (43, v15), (44, (Aa z17)), (45, (Aa (IntKind.wrap .i64 (z17 + (360))))), (46, (Ac (decide (z10 < (IntKind.wrap .i64 (z17 + (360))))))), (47, (Ac (decide (z10 < (IntKind.wrap .i64 (z17 + (360))))))), (48, (Ac (decide (z10 < (IntKind.wrap .i64 (z17 + (360))))))), (29, (Ac (decide (z10 < (IntKind.wrap .i64 (z17 + (360))))))), (50, (Aa t15)), (51, (Ac (decide (t15 > (0))))), (52, (Ac false)), (53, (AV.tup [])), (54, (AV.tup [])), (55, (AV.tup [])), (56, (AV.tup [])), (57, (AV.tup [])), (58, (AV.tup [])), (59, (AV.tup [])), (60, (AV.tup [])), (61, (AV.tup [])), (62, (Ac false)), (49, (Ac false)), (63, (Aa (IntKind.wrap .i64 (t15 + (1)))))], ((100004, some ⟨[(Aa z10), (Aa z11)], 39⟩) :: (100004, some ⟨[(Aa (0)), (Aa (0))], 39⟩) :: m), 100052⟩))) else (
bif (decide (t15 > (0))) then (
Bg (Db 2 t0 (Aa (IntKind.wrap .i64 (t15 - (1))))) fun v22 =>
Bg (E1 1 v22) fun v23 =>
Bg (Fe (Al ((100004, some ⟨[(Aa z10), (Aa z11)], 39⟩) :: (100004, some ⟨[(Aa (0)), (Aa (0))], 39⟩) :: m)) v23) fun v24 =>
Af v24 fun z25 =>
bif (z11 == z25) then (
A4 R ((100004, some ⟨[(Aa z10), (Aa z11)], 39⟩) :: (100004, some ⟨[(Aa (0)), (Aa (0))], 39⟩) :: m) [some (Aa (11))]) else (
N0 ⟨[(0, t0), (2, (Aa t2)), (13, t13), (14, (Aa t14)), (15, (Aa (IntKind.wrap .i64 (t15 + (1))))), (16, (Ac (decide (t15 < t14)))), (17, (Aa t15)), (18, v6), (19, (AV.agg [(Aa z10), (Aa z11)])), (4, (AV.ptr 100004 0)), (3, (Aa t15)), (21, (AV.ptr 100004 1)), (22, (Aa z11)), (23, (Ac (z11 != (0)))), (24, (Ac true)), (25, (AV.ptr 100004 1)), (26, (Aa z11)), (27, (Ac (z11 != (1)))), (28, (Ac (z11 != (1)))), (20, (Ac (z11 != (1)))), (30, (AV.ptr 100004 0)), (31, (Aa z10)), (32, (Ac b13)), (33, (Ac false)), (34, (Aa t15)), (35, (Ac (decide (t15 > (0))))), (36, (Ac false)), (37, (AV.tup [])), (38, (AV.tup [])), (39, (AV.tup [])), (40, (AV.tup [])), (41, (AV.tup [])), (42, (AV.tup [])), (43, (AV.tup [])), (44, (AV.tup [])), (45, (AV.tup [])), (46, (AV.tup [])), (47, (Ac false)), (48, (Ac false)), (29, (Ac false)), (50, (Aa t15)), (51, (Ac (decide (t15 > (0))))), (52, (Ac true)), (53, (AV.ptr 100004 1)), (54, (Aa z11)), (55, t0), (56, (Aa t15)), (57, (Aa (IntKind.wrap .i64 (t15 - (1))))), (58, v22), (59, v23), (60, (Aa z25)), (61, (Ac (z11 == z25))), (62, (Ac (z11 == z25))), (49, (Ac (z11 == z25))), (63, (Aa (IntKind.wrap .i64 (t15 + (1)))))], ((100004, some ⟨[(Aa z10), (Aa z11)], 39⟩) :: (100004, some ⟨[(Aa (0)), (Aa (0))], 39⟩) :: m), 100052⟩)) else (
N0 ⟨[(0, t0), (2, (Aa t2)), (13, t13), (14, (Aa t14)), (15, (Aa (IntKind.wrap .i64 (t15 + (1))))), (16, (Ac (decide (t15 < t14)))), (17, (Aa t15)), (18, v6), (19, (AV.agg [(Aa z10), (Aa z11)])), (4, (AV.ptr 100004 0)), (3, (Aa t15)), (21, (AV.ptr 100004 1)), (22, (Aa z11)), (23, (Ac (z11 != (0)))), (24, (Ac true)), (25, (AV.ptr 100004 1)), (26, (Aa z11)), (27, (Ac (z11 != (1)))), (28, (Ac (z11 != (1)))), (20, (Ac (z11 != (1)))), (30, (AV.ptr 100004 0)), (31, (Aa z10)), (32, (Ac b13)), (33, (Ac false)), (34, (Aa t15)), (35, (Ac (decide (t15 > (0))))), (36, (Ac false)), (37, (AV.tup [])), (38, (AV.tup [])), (39, (AV.tup [])), (40, (AV.tup [])), (41, (AV.tup [])), (42, (AV.tup [])), (43, (AV.tup [])), (44, (AV.tup [])), (45, (AV.tup [])), (46, (AV.tup [])), (47, (Ac false)), (48, (Ac false)), (29, (Ac false)), (50, (Aa t15)), (51, (Ac (decide (t15 > (0))))), (52, (Ac false)), (53, (AV.tup [])), (54, (AV.tup [])), (55, (AV.tup [])), (56, (AV.tup [])), (57, (AV.tup [])), (58, (AV.tup [])), (59, (AV.tup [])), (60, (AV.tup [])), (61, (AV.tup [])), (62, (Ac false)), (49, (Ac false)), (63, (Aa (IntKind.wrap .i64 (t15 + (1)))))], ((100004, some ⟨[(Aa z10), (Aa z11)], 39⟩) :: (100004, some ⟨[(Aa (0)), (Aa (0))], 39⟩) :: m), 100052⟩))))) else (
Bv pg KK.gl ((100004, some ⟨[(Aa z10), (Aa z11)], 39⟩) :: (100004, some ⟨[(Aa (0)), (Aa (0))], 39⟩) :: m) 49 [(Aa z10)] fun v26 =>
G2 v26 fun b27 =>
bif b27 then (
A4 R ((100004, some ⟨[(Aa z10), (Aa z11)], 39⟩) :: (100004, some ⟨[(Aa (0)), (Aa (0))], 39⟩) :: m) [some (Aa (12))]) else (
bif (decide (t15 > (0))) then (
Bg (Db 2 t0 (Aa (IntKind.wrap .i64 (t15 - (1))))) fun v28 =>
Bg (E1 0 v28) fun v29 =>
Bg (Fe (Al ((100004, some ⟨[(Aa z10), (Aa z11)], 39⟩) :: (100004, some ⟨[(Aa (0)), (Aa (0))], 39⟩) :: m)) v29) fun v30 =>
Af v30 fun z31 =>
bif (decide (z10 < (IntKind.wrap .i64 (z31 + (360))))) then (
A4 R ((100004, some ⟨[(Aa z10), (Aa z11)], 39⟩) :: (100004, some ⟨[(Aa (0)), (Aa (0))], 39⟩) :: m) [some (Aa (12))]) else (
bif (decide (t15 > (0))) then (
Bg (Db 2 t0 (Aa (IntKind.wrap .i64 (t15 - (1))))) fun v32 =>
Bg (E1 1 v32) fun v33 =>
Bg (Fe (Al ((100004, some ⟨[(Aa z10), (Aa z11)], 39⟩) :: (100004, some ⟨[(Aa (0)), (Aa (0))], 39⟩) :: m)) v33) fun v34 =>
Af v34 fun z35 =>
bif (z11 == z35) then (
A4 R ((100004, some ⟨[(Aa z10), (Aa z11)], 39⟩) :: (100004, some ⟨[(Aa (0)), (Aa (0))], 39⟩) :: m) [some (Aa (11))]) else (
N0 ⟨[(0, t0), (2, (Aa t2)), (13, t13), (14, (Aa t14)), (15, (Aa (IntKind.wrap .i64 (t15 + (1))))), (16, (Ac (decide (t15 < t14)))), (17, (Aa t15)), (18, v6), (19, (AV.agg [(Aa z10), (Aa z11)])), (4, (AV.ptr 100004 0)), (3, (Aa t15)), (21, (AV.ptr 100004 1)), (22, (Aa z11)), (23, (Ac (z11 != (0)))), (24, (Ac false)), (25, (AV.tup [])), (26, (AV.tup [])), (27, (AV.tup [])), (28, (Ac false)), (20, (Ac false)), (30, (AV.ptr 100004 0)), (31, (Aa z10)), (32, (Ac b27)), (33, (Ac false)), (34, (Aa t15)), (35, (Ac (decide (t15 > (0))))), (36, (Ac true)), (37, (AV.ptr 100004 0)), (38, (Aa z10)), (39, t0), (40, (Aa t15)), (41, (Aa (IntKind.wrap .i64 (t15 - (1))))), (42, v28), (43, v29), (44, (Aa z31)), (45, (Aa (IntKind.wrap .i64 (z31 + (360))))), (46, (Ac (decide (z10 < (IntKind.wrap .i64 (z31 + (360))))))), (47, (Ac (decide (z10 < (IntKind.wrap .i64 (z31 + (360))))))), (48, (Ac (decide (z10 < (IntKind.wrap .i64 (z31 + (360))))))), (29, (Ac (decide (z10 < (IntKind.wrap .i64 (z31 + (360))))))), (50, (Aa t15)), (51, (Ac (decide (t15 > (0))))), (52, (Ac true)), (53, (AV.ptr 100004 1)), (54, (Aa z11)), (55, t0), (56, (Aa t15)), (57, (Aa (IntKind.wrap .i64 (t15 - (1))))), (58, v32), (59, v33), (60, (Aa z35)), (61, (Ac (z11 == z35))), (62, (Ac (z11 == z35))), (49, (Ac (z11 == z35))), (63, (Aa (IntKind.wrap .i64 (t15 + (1)))))], ((100004, some ⟨[(Aa z10), (Aa z11)], 39⟩) :: (100004, some ⟨[(Aa (0)), (Aa (0))], 39⟩) :: m), 100049⟩)) else (
N0 ⟨[(0, t0), (2, (Aa t2)), (13, t13), (14, (Aa t14)), (15, (Aa (IntKind.wrap .i64 (t15 + (1))))), (16, (Ac (decide (t15 < t14)))), (17, (Aa t15)), (18, v6), (19, (AV.agg [(Aa z10), (Aa z11)])), (4, (AV.ptr 100004 0)), (3, (Aa t15)), (21, (AV.ptr 100004 1)), (22, (Aa z11)), (23, (Ac (z11 != (0)))), (24, (Ac false)), (25, (AV.tup [])), (26, (AV.tup [])), (27, (AV.tup [])), (28, (Ac false)), (20, (Ac false)), (30, (AV.ptr 100004 0)), (31, (Aa z10)), (32, (Ac b27)), (33, (Ac false)), (34, (Aa t15)), (35, (Ac (decide (t15 > (0))))), (36, (Ac true)), (37, (AV.ptr 100004 0)), (38, (Aa z10)), (39, t0), (40, (Aa t15)), (41, (Aa (IntKind.wrap .i64 (t15 - (1))))), (42, v28), (43, v29), (44, (Aa z31)), (45, (Aa (IntKind.wrap .i64 (z31 + (360))))), (46, (Ac (decide (z10 < (IntKind.wrap .i64 (z31 + (360))))))), (47, (Ac (decide (z10 < (IntKind.wrap .i64 (z31 + (360))))))), (48, (Ac (decide (z10 < (IntKind.wrap .i64 (z31 + (360))))))), (29, (Ac (decide (z10 < (IntKind.wrap .i64 (z31 + (360))))))), (50, (Aa t15)), (51, (Ac (decide (t15 > (0))))), (52, (Ac false)), (53, (AV.tup [])), (54, (AV.tup [])), (55, (AV.tup [])), (56, (AV.tup [])), (57, (AV.tup [])), (58, (AV.tup [])), (59, (AV.tup [])), (60, (AV.tup [])), (61, (AV.tup [])), (62, (Ac false)), (49, (Ac false)), (63, (Aa (IntKind.wrap .i64 (t15 + (1)))))], ((100004, some ⟨[(Aa z10), (Aa z11)], 39⟩) :: (100004, some ⟨[(Aa (0)), (Aa (0))], 39⟩) :: m), 100049⟩))) else (
bif (decide (t15 > (0))) then (
Bg (Db 2 t0 (Aa (IntKind.wrap .i64 (t15 - (1))))) fun v36 =>
Bg (E1 1 v36) fun v37 =>
Bg (Fe (Al ((100004, some ⟨[(Aa z10), (Aa z11)], 39⟩) :: (100004, some ⟨[(Aa (0)), (Aa (0))], 39⟩) :: m)) v37) fun v38 =>
Af v38 fun z39 =>
bif (z11 == z39) then (
A4 R ((100004, some ⟨[(Aa z10), (Aa z11)], 39⟩) :: (100004, some ⟨[(Aa (0)), (Aa (0))], 39⟩) :: m) [some (Aa (11))]) else (
N0 ⟨[(0, t0), (2, (Aa t2)), (13, t13), (14, (Aa t14)), (15, (Aa (IntKind.wrap .i64 (t15 + (1))))), (16, (Ac (decide (t15 < t14)))), (17, (Aa t15)), (18, v6), (19, (AV.agg [(Aa z10), (Aa z11)])), (4, (AV.ptr 100004 0)), (3, (Aa t15)), (21, (AV.ptr 100004 1)), (22, (Aa z11)), (23, (Ac (z11 != (0)))), (24, (Ac false)), (25, (AV.tup [])), (26, (AV.tup [])), (27, (AV.tup [])), (28, (Ac false)), (20, (Ac false)), (30, (AV.ptr 100004 0)), (31, (Aa z10)), (32, (Ac b27)), (33, (Ac false)), (34, (Aa t15)), (35, (Ac (decide (t15 > (0))))), (36, (Ac false)), (37, (AV.tup [])), (38, (AV.tup [])), (39, (AV.tup [])), (40, (AV.tup [])), (41, (AV.tup [])), (42, (AV.tup [])), (43, (AV.tup [])), (44, (AV.tup [])), (45, (AV.tup [])), (46, (AV.tup [])), (47, (Ac false)), (48, (Ac false)), (29, (Ac false)), (50, (Aa t15)), (51, (Ac (decide (t15 > (0))))), (52, (Ac true)), (53, (AV.ptr 100004 1)), (54, (Aa z11)), (55, t0), (56, (Aa t15)), (57, (Aa (IntKind.wrap .i64 (t15 - (1))))), (58, v36), (59, v37), (60, (Aa z39)), (61, (Ac (z11 == z39))), (62, (Ac (z11 == z39))), (49, (Ac (z11 == z39))), (63, (Aa (IntKind.wrap .i64 (t15 + (1)))))], ((100004, some ⟨[(Aa z10), (Aa z11)], 39⟩) :: (100004, some ⟨[(Aa (0)), (Aa (0))], 39⟩) :: m), 100049⟩)) else (
N0 ⟨[(0, t0), (2, (Aa t2)), (13, t13), (14, (Aa t14)), (15, (Aa (IntKind.wrap .i64 (t15 + (1))))), (16, (Ac (decide (t15 < t14)))), (17, (Aa t15)), (18, v6), (19, (AV.agg [(Aa z10), (Aa z11)])), (4, (AV.ptr 100004 0)), (3, (Aa t15)), (21, (AV.ptr 100004 1)), (22, (Aa z11)), (23, (Ac (z11 != (0)))), (24, (Ac false)), (25, (AV.tup [])), (26, (AV.tup [])), (27, (AV.tup [])), (28, (Ac false)), (20, (Ac false)), (30, (AV.ptr 100004 0)), (31, (Aa z10)), (32, (Ac b27)), (33, (Ac false)), (34, (Aa t15)), (35, (Ac (decide (t15 > (0))))), (36, (Ac false)), (37, (AV.tup [])), (38, (AV.tup [])), (39, (AV.tup [])), (40, (AV.tup [])), (41, (AV.tup [])), (42, (AV.tup [])), (43, (AV.tup [])), (44, (AV.tup [])), (45, (AV.tup [])), (46, (AV.tup [])), (47, (Ac false)), (48, (Ac false)), (29, (Ac false)), (50, (Aa t15)), (51, (Ac (decide (t15 > (0))))), (52, (Ac false)), (53, (AV.tup [])), (54, (AV.tup [])), (55, (AV.tup [])), (56, (AV.tup [])), (57, (AV.tup [])), (58, (AV.tup [])), (59, (AV.tup [])), (60, (AV.tup [])), (61, (AV.tup [])), (62, (Ac false)), (49, (Ac false)), (63, (Aa (IntKind.wrap .i64 (t15 + (1)))))], ((100004, some ⟨[(Aa z10), (Aa z11)], 39⟩) :: (100004, some ⟨[(Aa (0)), (Aa (0))], 39⟩) :: m), 100049⟩))))) else (
A4 R m [some (Aa (0))])
theorem lD (t0 : AV) (t2 : Int) (t13 : AV) (t14 : Int) (t15 : Int) (m : Mem) (R : AV → Mem → Prop) (N0 : St → Prop) : W pg KK 64 0 eJ (Sj t0 t2 t13 t14 t15 m) (zF R N0) = cI t0 t2 t13 t14 t15 m R N0 := by kernel_rfl
theorem Ab2 (R : AV → Mem → Prop) {σ : Type} (I : σ → Prop) (t0 : σ → AV) (t2 : σ → Int) (t13 : σ → AV) (t14 : σ → Int) (t15 : σ → Int) (m : σ → Mem) (μ : σ → Nat) (step : ∀ x, I x → cI (t0 x) (t2 x) (t13 x) (t14 x) (t15 x) (m x) R (fun s' => ∃ y, I y ∧ μ y < μ x ∧ Bo KK 64 0 s' (Sj (t0 y) (t2 y) (t13 y) (t14 y) (t15 y) (m y)))) (x : σ) (hx : I x) {s : St} (hw : Bo KK 64 0 s (Sj (t0 x) (t2 x) (t13 x) (t14 x) (t15 x) (m x))) : Ca pg KK 64 0 (.loop eJ) s (dO R) :=
  Ca.Fk hw (Ca.loops Ee I (fun x => Sj (t0 x) (t2 x) (t13 x) (t14 x) (t15 x) (m x)) μ (fun x hx => (lD (t0 x) (t2 x) (t13 x) (t14 x) (t15 x) (m x) R _).mpr (step x hx)) x hx)
noncomputable def F45 (a0 : AV) (R : AV → Mem → Prop) : Prop :=
Bg (Dh a0) fun v0 =>
Af v0 fun z1 =>
bif (decide (z1 > (24))) then (
A4 R [] [some (Aa (2))]) else (
Bg (Dh a0) fun v2 =>
Af v2 fun z3 =>
bif (z3 == (0)) then (
A4 R [] [some (Aa (8))]) else (
Bg (Dh a0) fun v4 =>
Af v4 fun z5 =>
Ca pg KK 64 0 (.loop eJ) ⟨[(0, a0), (2, (Aa (0))), (6, a0), (7, (Aa z1)), (8, (Ac (decide (z1 > (24))))), (5, (Ac (decide (z1 > (24))))), (10, a0), (11, (Aa z3)), (12, (Ac (z3 == (0)))), (9, (Ac (z3 == (0)))), (13, a0), (14, (Aa z5)), (15, (Aa (0)))], [], 12⟩ (dO R)))
theorem sM (a0 : AV) (R : AV → Mem → Prop) (h : F45 a0 R) : Own pg KK.gl 45 [a0] R := Bj Ee Tryz.func45 (code := tG) (by kernel_rfl) (by kernel_rfl) (by kernel_rfl) (X := F45 a0 R) (by kernel_rfl) h
noncomputable def rX : Code := ((Tryz.f46).body).getD .skip
noncomputable def q46 (R : AV → Mem → Prop) : A9 → St → Prop := Dj pg Tryz.f46 R
noncomputable def cC : Code := Dt rX 0
noncomputable def dE (R : AV → Mem → Prop) : A9 → St → Prop := Du pg KK 44 0 rX 0 (q46 R)
noncomputable def y4 (R : AV → Mem → Prop) (N0 : St → Prop) : A9 → St → Prop := Dv N0 (dE R)
def S4 (t1 : Int) (t4 : Int) (t5 : Bool) (t6 : Int) (t20 : AV) (t21 : Int) (t22 : Int) (m : Mem) : St := ⟨[(1, (Aa t1)), (4, (Aa t4)), (5, (Ac t5)), (6, (Aa t6)), (20, t20), (21, (Aa t21)), (22, (Aa t22))], m, 100000⟩
noncomputable def eT (t1 : Int) (t4 : Int) (t5 : Bool) (t6 : Int) (t20 : AV) (t21 : Int) (t22 : Int) (m : Mem) (R : AV → Mem → Prop) (N0 : St → Prop) : Prop :=
bif (decide (t22 < t21)) then (
Bg (Db 2 t20 (Aa t22)) fun v11 =>
Bg (Ju (Al m) 2 v11) fun v12 =>
Uv v12 fun Ho c14 =>
Af Ho fun z15 =>
Af c14 fun z16 =>
Bg (B9 pg (.call ⟨.builtin .max, #[.tmp 0, .tmp 1], #[3, 3]⟩) 3 [(Aa (IntKind.wrap .i64 (t1 - z15))), (Aa (IntKind.wrap .i64 (z15 - t1)))] (Al ((100003, some ⟨[(Aa z15), (Aa z16)], 39⟩) :: (100003, some ⟨[(Aa (0)), (Aa (0))], 39⟩) :: m)) 100013) fun v17 =>
Af v17 fun z18 =>
bif (decide (z18 < (180))) then (
A4 R ((100003, some ⟨[(Aa z15), (Aa z16)], 39⟩) :: (100003, some ⟨[(Aa (0)), (Aa (0))], 39⟩) :: m) [some (Aa (0)), some (Ac false)]) else (
bif (decide (z15 ≤ t1)) then (
N0 ⟨[(1, (Aa t1)), (4, (Aa t4)), (5, (Ac t5)), (6, (Aa z16)), (20, t20), (21, (Aa t21)), (22, (Aa (IntKind.wrap .i64 (t22 + (1))))), (23, (Ac (decide (t22 < t21)))), (24, v11), (25, (AV.agg [(Aa z15), (Aa z16)])), (8, (AV.ptr 100003 0)), (26, (Aa t1)), (27, (AV.ptr 100003 0)), (28, (Aa z15)), (29, (Aa (IntKind.wrap .i64 (t1 - z15)))), (30, (AV.ptr 100003 0)), (31, (Aa z15)), (32, (Aa t1)), (33, (Aa (IntKind.wrap .i64 (z15 - t1)))), (34, (Aa z18)), (35, (Ac (decide (z18 < (180))))), (36, (AV.ptr 100003 0)), (37, (Aa z15)), (38, (Aa t1)), (39, (Ac (decide (z15 ≤ t1)))), (40, (AV.ptr 100003 1)), (41, (Aa z16)), (42, (Aa (IntKind.wrap .i64 (t22 + (1)))))], ((100003, some ⟨[(Aa z15), (Aa z16)], 39⟩) :: (100003, some ⟨[(Aa (0)), (Aa (0))], 39⟩) :: m), 100024⟩) else (
N0 ⟨[(1, (Aa t1)), (4, (Aa t4)), (5, (Ac t5)), (6, (Aa t6)), (20, t20), (21, (Aa t21)), (22, (Aa (IntKind.wrap .i64 (t22 + (1))))), (23, (Ac (decide (t22 < t21)))), (24, v11), (25, (AV.agg [(Aa z15), (Aa z16)])), (8, (AV.ptr 100003 0)), (26, (Aa t1)), (27, (AV.ptr 100003 0)), (28, (Aa z15)), (29, (Aa (IntKind.wrap .i64 (t1 - z15)))), (30, (AV.ptr 100003 0)), (31, (Aa z15)), (32, (Aa t1)), (33, (Aa (IntKind.wrap .i64 (z15 - t1)))), (34, (Aa z18)), (35, (Ac (decide (z18 < (180))))), (36, (AV.ptr 100003 0)), (37, (Aa z15)), (38, (Aa t1)), (39, (Ac (decide (z15 ≤ t1)))), (42, (Aa (IntKind.wrap .i64 (t22 + (1)))))], ((100003, some ⟨[(Aa z15), (Aa z16)], 39⟩) :: (100003, some ⟨[(Aa (0)), (Aa (0))], 39⟩) :: m), 100021⟩))) else (
A4 R m [some (Aa t6), some (Ac true)])
theorem nP (t1 : Int) (t4 : Int) (t5 : Bool) (t6 : Int) (t20 : AV) (t21 : Int) (t22 : Int) (m : Mem) (R : AV → Mem → Prop) (N0 : St → Prop) : W pg KK 44 0 cC (S4 t1 t4 t5 t6 t20 t21 t22 m) (y4 R N0) = eT t1 t4 t5 t6 t20 t21 t22 m R N0 := by kernel_rfl
theorem Ad6 (R : AV → Mem → Prop) {σ : Type} (I : σ → Prop) (t1 : σ → Int) (t4 : σ → Int) (t5 : σ → Bool) (t6 : σ → Int) (t20 : σ → AV) (t21 : σ → Int) (t22 : σ → Int) (m : σ → Mem) (μ : σ → Nat) (step : ∀ x, I x → eT (t1 x) (t4 x) (t5 x) (t6 x) (t20 x) (t21 x) (t22 x) (m x) R (fun s' => ∃ y, I y ∧ μ y < μ x ∧ Bo KK 44 0 s' (S4 (t1 y) (t4 y) (t5 y) (t6 y) (t20 y) (t21 y) (t22 y) (m y)))) (x : σ) (hx : I x) {s : St} (hw : Bo KK 44 0 s (S4 (t1 x) (t4 x) (t5 x) (t6 x) (t20 x) (t21 x) (t22 x) (m x))) : Ca pg KK 44 0 (.loop cC) s (dE R) :=
  Ca.Fk hw (Ca.loops Ee I (fun x => S4 (t1 x) (t4 x) (t5 x) (t6 x) (t20 x) (t21 x) (t22 x) (m x)) μ (fun x hx => (nP (t1 x) (t4 x) (t5 x) (t6 x) (t20 x) (t21 x) (t22 x) (m x) R _).mpr (step x hx)) x hx)
noncomputable def F46 (a0 : AV) (a1 : Int) (R : AV → Mem → Prop) : Prop :=
Bg (Db 2 a0 (Aa (0))) fun v0 =>
Bg (E1 0 v0) fun v1 =>
Bg (Fe (Al []) v1) fun v2 =>
Af v2 fun z3 =>
bif (decide (a1 < z3)) then (
A4 R [] [some (Aa (0)), some (Ac false)]) else (
Bg (Db 2 a0 (Aa (0))) fun v4 =>
Bg (E1 1 v4) fun v5 =>
Bg (Fe (Al []) v5) fun v6 =>
Af v6 fun z7 =>
Bg (B9 pg (.slice 40 (.tmp 0) (some (.tmp 1)) none none) 40 [a0, (Aa (1))] (Al []) 14) fun v8 =>
Bg (Dh v8) fun v9 =>
Af v9 fun z10 =>
Ca pg KK 44 0 (.loop cC) ⟨[(0, a0), (1, (Aa a1)), (4, (Aa (0))), (5, (Ac false)), (9, (Aa a1)), (10, a0), (11, v0), (12, v1), (13, (Aa z3)), (14, (Ac (decide (a1 < z3)))), (15, a0), (16, v4), (17, v5), (18, (Aa z7)), (6, (Aa z7)), (19, a0), (20, v8), (21, (Aa z10)), (22, (Aa (0)))], [], 17⟩ (dE R))
theorem rO (a0 : AV) (a1 : Int) (R : AV → Mem → Prop) (h : F46 a0 a1 R) : Own pg KK.gl 46 [a0, (Aa a1)] R := Bj Ee Tryz.func46 (code := rX) (by kernel_rfl) (by kernel_rfl) (by kernel_rfl) (X := F46 a0 a1 R) (by kernel_rfl) h
noncomputable def c47 : Code := ((Tryz.f47).body).getD .skip
noncomputable def q47 (R : AV → Mem → Prop) : A9 → St → Prop := Dj pg Tryz.f47 R
noncomputable def F47 (a0_0 : Int) (a0_1 : Int) (a0_2 : Int) (a0_3 : Int) (a0_4 : Int) (a0_5 : Int) (a0_6 : Int) (a0_7 : Int) (a0_8 : Int) (a0_9 : Int) (a0_10 : Int) (a0_11 : Int) (a0_12 : Int) (a0_13 : Int) (a0_14 : Int) (a0_15 : Int) (a1_0 : Int) (a1_1 : Int) (a1_2 : Bool) (a1_3 : Int) (a2_0 : Int) (a2_1 : Int) (a2_2 : Bool) (a2_3 : Int) (R : AV → Mem → Prop) : Prop :=
Bg (B9 pg (.binOp .neq 4 (.tmp 0) (.tmp 1) 4) 4 [(Ac a1_2), (Ac a2_2)] (Al ((2, some ⟨[(Aa a2_0), (Aa a2_1), (Ac a2_2), (Aa a2_3)], 37⟩) :: (1, some ⟨[(Aa a1_0), (Aa a1_1), (Ac a1_2), (Aa a1_3)], 37⟩) :: (0, some ⟨[(Aa a0_0), (Aa a0_1), (Aa a0_2), (Aa a0_3), (Aa a0_4), (Aa a0_5), (Aa a0_6), (Aa a0_7), (Aa a0_8), (Aa a0_9), (Aa a0_10), (Aa a0_11), (Aa a0_12), (Aa a0_13), (Aa a0_14), (Aa a0_15)], 25⟩) :: [])) 8) fun v0 =>
G2 v0 fun b1 =>
bif b1 then (
A4 R ((2, some ⟨[(Aa a2_0), (Aa a2_1), (Ac a2_2), (Aa a2_3)], 37⟩) :: (1, some ⟨[(Aa a1_0), (Aa a1_1), (Ac a1_2), (Aa a1_3)], 37⟩) :: (0, some ⟨[(Aa a0_0), (Aa a0_1), (Aa a0_2), (Aa a0_3), (Aa a0_4), (Aa a0_5), (Aa a0_6), (Aa a0_7), (Aa a0_8), (Aa a0_9), (Aa a0_10), (Aa a0_11), (Aa a0_12), (Aa a0_13), (Aa a0_14), (Aa a0_15)], 25⟩) :: []) [some (Aa (60))]) else (
Bg (Nq 4 4 (AV.ptr 0 0) (Aa a1_1)) fun v2 =>
Bg (Nq 4 1 v2 (Aa a2_1)) fun v3 =>
Bg (Fe (Al ((2, some ⟨[(Aa a2_0), (Aa a2_1), (Ac a2_2), (Aa a2_3)], 37⟩) :: (1, some ⟨[(Aa a1_0), (Aa a1_1), (Ac a1_2), (Aa a1_3)], 37⟩) :: (0, some ⟨[(Aa a0_0), (Aa a0_1), (Aa a0_2), (Aa a0_3), (Aa a0_4), (Aa a0_5), (Aa a0_6), (Aa a0_7), (Aa a0_8), (Aa a0_9), (Aa a0_10), (Aa a0_11), (Aa a0_12), (Aa a0_13), (Aa a0_14), (Aa a0_15)], 25⟩) :: [])) v3) fun v4 =>
Af v4 fun z5 =>
A4 R ((2, some ⟨[(Aa a2_0), (Aa a2_1), (Ac a2_2), (Aa a2_3)], 37⟩) :: (1, some ⟨[(Aa a1_0), (Aa a1_1), (Ac a1_2), (Aa a1_3)], 37⟩) :: (0, some ⟨[(Aa a0_0), (Aa a0_1), (Aa a0_2), (Aa a0_3), (Aa a0_4), (Aa a0_5), (Aa a0_6), (Aa a0_7), (Aa a0_8), (Aa a0_9), (Aa a0_10), (Aa a0_11), (Aa a0_12), (Aa a0_13), (Aa a0_14), (Aa a0_15)], 25⟩) :: []) [some (Aa z5)])
theorem uC (a0_0 : Int) (a0_1 : Int) (a0_2 : Int) (a0_3 : Int) (a0_4 : Int) (a0_5 : Int) (a0_6 : Int) (a0_7 : Int) (a0_8 : Int) (a0_9 : Int) (a0_10 : Int) (a0_11 : Int) (a0_12 : Int) (a0_13 : Int) (a0_14 : Int) (a0_15 : Int) (a1_0 : Int) (a1_1 : Int) (a1_2 : Bool) (a1_3 : Int) (a2_0 : Int) (a2_1 : Int) (a2_2 : Bool) (a2_3 : Int) (R : AV → Mem → Prop) (h : F47 a0_0 a0_1 a0_2 a0_3 a0_4 a0_5 a0_6 a0_7 a0_8 a0_9 a0_10 a0_11 a0_12 a0_13 a0_14 a0_15 a1_0 a1_1 a1_2 a1_3 a2_0 a2_1 a2_2 a2_3 R) : Own pg KK.gl 47 [(AV.agg [(Aa a0_0), (Aa a0_1), (Aa a0_2), (Aa a0_3), (Aa a0_4), (Aa a0_5), (Aa a0_6), (Aa a0_7), (Aa a0_8), (Aa a0_9), (Aa a0_10), (Aa a0_11), (Aa a0_12), (Aa a0_13), (Aa a0_14), (Aa a0_15)]), (AV.agg [(Aa a1_0), (Aa a1_1), (Ac a1_2), (Aa a1_3)]), (AV.agg [(Aa a2_0), (Aa a2_1), (Ac a2_2), (Aa a2_3)])] R := Bj Ee Tryz.func47 (code := c47) (by kernel_rfl) (by kernel_rfl) (by kernel_rfl) (X := F47 a0_0 a0_1 a0_2 a0_3 a0_4 a0_5 a0_6 a0_7 a0_8 a0_9 a0_10 a0_11 a0_12 a0_13 a0_14 a0_15 a1_0 a1_1 a1_2 a1_3 a2_0 a2_1 a2_2 a2_3 R) (by kernel_rfl) h
noncomputable def c7 : Code := ((Tryz.f7).body).getD .skip
noncomputable def q7 (R : AV → Mem → Prop) : A9 → St → Prop := Dj pg Tryz.f7 R
noncomputable def rR : Code := Dt c7 0
noncomputable def wK (R : AV → Mem → Prop) : A9 → St → Prop := Du pg KK 93 0 c7 0 (q7 R)
noncomputable def Aea (R : AV → Mem → Prop) (N0 : St → Prop) : A9 → St → Prop := Dv N0 (wK R)
def iH (t0 : AV) (t1 : AV) (t6 : Int) (t7 : Int) (t8 : Int) (t34 : AV) (t35 : Int) (t36 : Int) (b0_0 : Int) (b0_1 : Int) (b0_2 : Int) (b0_3 : Int) (b0_4 : Int) (b0_5 : Int) (b0_6 : Int) (b0_7 : Int) (b0_8 : Int) (b0_9 : Int) (b0_10 : Int) (b0_11 : Int) (b0_12 : Int) (b0_13 : Int) (b0_14 : Int) (b0_15 : Int) (m : Mem) : St := ⟨[(0, t0), (1, t1), (5, (AV.ptr 0 0)), (6, (Aa t6)), (7, (Aa t7)), (8, (Aa t8)), (34, t34), (35, (Aa t35)), (36, (Aa t36))], ((0, some ⟨[(Aa b0_0), (Aa b0_1), (Aa b0_2), (Aa b0_3), (Aa b0_4), (Aa b0_5), (Aa b0_6), (Aa b0_7), (Aa b0_8), (Aa b0_9), (Aa b0_10), (Aa b0_11), (Aa b0_12), (Aa b0_13), (Aa b0_14), (Aa b0_15)], 25⟩) :: m), 100000⟩
noncomputable def iO : Code := Dt c7 1
noncomputable def vQ (R : AV → Mem → Prop) : A9 → St → Prop := Du pg KK 93 0 c7 1 (q7 R)
noncomputable def xL (R : AV → Mem → Prop) (N0 : St → Prop) : A9 → St → Prop := Dv N0 (vQ R)
def Xd (t0 : AV) (t6 : Int) (t7 : Int) (t8 : Int) (t59 : AV) (t60 : Int) (t61 : Int) (b0_0 : Int) (b0_1 : Int) (b0_2 : Int) (b0_3 : Int) (b0_4 : Int) (b0_5 : Int) (b0_6 : Int) (b0_7 : Int) (b0_8 : Int) (b0_9 : Int) (b0_10 : Int) (b0_11 : Int) (b0_12 : Int) (b0_13 : Int) (b0_14 : Int) (b0_15 : Int) (m : Mem) : St := ⟨[(0, t0), (5, (AV.ptr 0 0)), (6, (Aa t6)), (7, (Aa t7)), (8, (Aa t8)), (59, t59), (60, (Aa t60)), (61, (Aa t61))], ((0, some ⟨[(Aa b0_0), (Aa b0_1), (Aa b0_2), (Aa b0_3), (Aa b0_4), (Aa b0_5), (Aa b0_6), (Aa b0_7), (Aa b0_8), (Aa b0_9), (Aa b0_10), (Aa b0_11), (Aa b0_12), (Aa b0_13), (Aa b0_14), (Aa b0_15)], 25⟩) :: m), 200000⟩
noncomputable def Vr : Code := Dt iO 0
noncomputable def Vx (R : AV → Mem → Prop) (N0 : St → Prop) : A9 → St → Prop := Du pg KK 93 0 iO 0 (xL R N0)
noncomputable def wJ (R : AV → Mem → Prop) (N0 : St → Prop) (N1 : St → Prop) : A9 → St → Prop := Dv N1 (Vx R N0)
def N9 (t0 : AV) (t6 : Int) (t7 : Int) (t8 : Int) (t16 : Int) (t18 : Int) (t59 : AV) (t60 : Int) (t61 : Int) (b0_0 : Int) (b0_1 : Int) (b0_2 : Int) (b0_3 : Int) (b0_4 : Int) (b0_5 : Int) (b0_6 : Int) (b0_7 : Int) (b0_8 : Int) (b0_9 : Int) (b0_10 : Int) (b0_11 : Int) (b0_12 : Int) (b0_13 : Int) (b0_14 : Int) (b0_15 : Int) (b200004_0 : Int) (b200004_1 : Int) (b200004_2 : Bool) (b200004_3 : Int) (m : Mem) : St := ⟨[(0, t0), (5, (AV.ptr 0 0)), (6, (Aa t6)), (7, (Aa t7)), (8, (Aa t8)), (16, (Aa t16)), (17, (AV.ptr 200004 0)), (18, (Aa t18)), (59, t59), (60, (Aa t60)), (61, (Aa t61))], ((0, some ⟨[(Aa b0_0), (Aa b0_1), (Aa b0_2), (Aa b0_3), (Aa b0_4), (Aa b0_5), (Aa b0_6), (Aa b0_7), (Aa b0_8), (Aa b0_9), (Aa b0_10), (Aa b0_11), (Aa b0_12), (Aa b0_13), (Aa b0_14), (Aa b0_15)], 25⟩) :: (200004, some ⟨[(Aa b200004_0), (Aa b200004_1), (Ac b200004_2), (Aa b200004_3)], 37⟩) :: m), 300000⟩
noncomputable def qH (t0 : AV) (t1 : AV) (t6 : Int) (t7 : Int) (t8 : Int) (t34 : AV) (t35 : Int) (t36 : Int) (b0_0 : Int) (b0_1 : Int) (b0_2 : Int) (b0_3 : Int) (b0_4 : Int) (b0_5 : Int) (b0_6 : Int) (b0_7 : Int) (b0_8 : Int) (b0_9 : Int) (b0_10 : Int) (b0_11 : Int) (b0_12 : Int) (b0_13 : Int) (b0_14 : Int) (b0_15 : Int) (m : Mem) (R : AV → Mem → Prop) (N0 : St → Prop) : Prop :=
bif (decide (t36 < t35)) then (
Bg (Db 4 t34 (Aa t36)) fun v8 =>
Bg (Ju (Al ((0, some ⟨[(Aa b0_0), (Aa b0_1), (Aa b0_2), (Aa b0_3), (Aa b0_4), (Aa b0_5), (Aa b0_6), (Aa b0_7), (Aa b0_8), (Aa b0_9), (Aa b0_10), (Aa b0_11), (Aa b0_12), (Aa b0_13), (Aa b0_14), (Aa b0_15)], 25⟩) :: m)) 4 v8) fun v9 =>
Jf v9 fun c10 Oh Q6 Ho =>
Af c10 fun z14 =>
Af Oh fun z15 =>
G2 Q6 fun b16 =>
Af Ho fun z17 =>
Bv pg KK.gl ((100004, some ⟨[(Aa z14), (Aa z15), (Ac b16), (Aa z17)], 37⟩) :: (100004, some ⟨[(Aa (0)), (Aa (0)), (Ac false), (Aa (0))], 37⟩) :: (0, some ⟨[(Aa b0_0), (Aa b0_1), (Aa b0_2), (Aa b0_3), (Aa b0_4), (Aa b0_5), (Aa b0_6), (Aa b0_7), (Aa b0_8), (Aa b0_9), (Aa b0_10), (Aa b0_11), (Aa b0_12), (Aa b0_13), (Aa b0_14), (Aa b0_15)], 25⟩) :: m) 46 [t1, (Aa z14)] fun v18 =>
Iw v18 fun c19 c20 =>
Af c19 fun z21 =>
G2 c20 fun b22 =>
bif (!b22) then (
A4 R ((100004, some ⟨[(Aa z14), (Aa z15), (Ac b16), (Aa z17)], 37⟩) :: (100004, some ⟨[(Aa (0)), (Aa (0)), (Ac false), (Aa (0))], 37⟩) :: (0, some ⟨[(Aa b0_0), (Aa b0_1), (Aa b0_2), (Aa b0_3), (Aa b0_4), (Aa b0_5), (Aa b0_6), (Aa b0_7), (Aa b0_8), (Aa b0_9), (Aa b0_10), (Aa b0_11), (Aa b0_12), (Aa b0_13), (Aa b0_14), (Aa b0_15)], 25⟩) :: m) [some (Aa t36), some (Aa t36), some (Aa (14))]) else (
bif (z21 != z17) then (
A4 R ((100004, some ⟨[(Aa z14), (Aa z15), (Ac b16), (Aa z17)], 37⟩) :: (100004, some ⟨[(Aa (0)), (Aa (0)), (Ac false), (Aa (0))], 37⟩) :: (0, some ⟨[(Aa b0_0), (Aa b0_1), (Aa b0_2), (Aa b0_3), (Aa b0_4), (Aa b0_5), (Aa b0_6), (Aa b0_7), (Aa b0_8), (Aa b0_9), (Aa b0_10), (Aa b0_11), (Aa b0_12), (Aa b0_13), (Aa b0_14), (Aa b0_15)], 25⟩) :: m) [some (Aa t36), some (Aa t36), some (Aa (14))]) else (
N0 ⟨[(0, t0), (1, t1), (5, (AV.ptr 0 0)), (6, (Aa t6)), (7, (Aa t7)), (8, (Aa t8)), (34, t34), (35, (Aa t35)), (36, (Aa (IntKind.wrap .i64 (t36 + (1))))), (37, (Ac (decide (t36 < t35)))), (38, (Aa t36)), (39, v8), (40, (AV.agg [(Aa z14), (Aa z15), (Ac b16), (Aa z17)])), (13, (AV.ptr 100004 0)), (12, (Aa t36)), (42, t1), (43, (AV.ptr 100004 0)), (44, (Aa z14)), (45, (AV.tup [(Aa z21), (Ac b22)])), (41, (AV.tup [(Aa z21), (Ac b22)])), (46, (Aa z21)), (47, (Ac b22)), (14, (Aa z21)), (15, (Ac b22)), (48, (Ac b22)), (49, (Ac (!b22))), (50, (Ac false)), (51, (Aa z21)), (52, (AV.ptr 100004 3)), (53, (Aa z17)), (54, (Ac (z21 != z17))), (55, (Ac (z21 != z17))), (58, (Aa (IntKind.wrap .i64 (t36 + (1)))))], ((100004, some ⟨[(Aa z14), (Aa z15), (Ac b16), (Aa z17)], 37⟩) :: (100004, some ⟨[(Aa (0)), (Aa (0)), (Ac false), (Aa (0))], 37⟩) :: (0, some ⟨[(Aa b0_0), (Aa b0_1), (Aa b0_2), (Aa b0_3), (Aa b0_4), (Aa b0_5), (Aa b0_6), (Aa b0_7), (Aa b0_8), (Aa b0_9), (Aa b0_10), (Aa b0_11), (Aa b0_12), (Aa b0_13), (Aa b0_14), (Aa b0_15)], 25⟩) :: m), 100089⟩))) else (
Bg (Dh t0) fun v23 =>
Af v23 fun z24 =>
Ca pg KK 93 0 (.loop iO) ⟨[(0, t0), (1, t1), (5, (AV.ptr 0 0)), (6, (Aa t6)), (7, (Aa t7)), (8, (Aa t8)), (34, t34), (35, (Aa t35)), (36, (Aa t36)), (37, (Ac (decide (t36 < t35)))), (59, t0), (60, (Aa z24)), (61, (Aa (0)))], ((0, some ⟨[(Aa b0_0), (Aa b0_1), (Aa b0_2), (Aa b0_3), (Aa b0_4), (Aa b0_5), (Aa b0_6), (Aa b0_7), (Aa b0_8), (Aa b0_9), (Aa b0_10), (Aa b0_11), (Aa b0_12), (Aa b0_13), (Aa b0_14), (Aa b0_15)], 25⟩) :: m), 100004⟩ (vQ R))
theorem rS (t0 : AV) (t1 : AV) (t6 : Int) (t7 : Int) (t8 : Int) (t34 : AV) (t35 : Int) (t36 : Int) (b0_0 : Int) (b0_1 : Int) (b0_2 : Int) (b0_3 : Int) (b0_4 : Int) (b0_5 : Int) (b0_6 : Int) (b0_7 : Int) (b0_8 : Int) (b0_9 : Int) (b0_10 : Int) (b0_11 : Int) (b0_12 : Int) (b0_13 : Int) (b0_14 : Int) (b0_15 : Int) (m : Mem) (R : AV → Mem → Prop) (N0 : St → Prop) : W pg KK 93 0 rR (iH t0 t1 t6 t7 t8 t34 t35 t36 b0_0 b0_1 b0_2 b0_3 b0_4 b0_5 b0_6 b0_7 b0_8 b0_9 b0_10 b0_11 b0_12 b0_13 b0_14 b0_15 m) (Aea R N0) = qH t0 t1 t6 t7 t8 t34 t35 t36 b0_0 b0_1 b0_2 b0_3 b0_4 b0_5 b0_6 b0_7 b0_8 b0_9 b0_10 b0_11 b0_12 b0_13 b0_14 b0_15 m R N0 := by kernel_rfl
theorem Ae0 (R : AV → Mem → Prop) {σ : Type} (I : σ → Prop) (t0 : σ → AV) (t1 : σ → AV) (t6 : σ → Int) (t7 : σ → Int) (t8 : σ → Int) (t34 : σ → AV) (t35 : σ → Int) (t36 : σ → Int) (b0_0 : σ → Int) (b0_1 : σ → Int) (b0_2 : σ → Int) (b0_3 : σ → Int) (b0_4 : σ → Int) (b0_5 : σ → Int) (b0_6 : σ → Int) (b0_7 : σ → Int) (b0_8 : σ → Int) (b0_9 : σ → Int) (b0_10 : σ → Int) (b0_11 : σ → Int) (b0_12 : σ → Int) (b0_13 : σ → Int) (b0_14 : σ → Int) (b0_15 : σ → Int) (m : σ → Mem) (μ : σ → Nat) (step : ∀ x, I x → qH (t0 x) (t1 x) (t6 x) (t7 x) (t8 x) (t34 x) (t35 x) (t36 x) (b0_0 x) (b0_1 x) (b0_2 x) (b0_3 x) (b0_4 x) (b0_5 x) (b0_6 x) (b0_7 x) (b0_8 x) (b0_9 x) (b0_10 x) (b0_11 x) (b0_12 x) (b0_13 x) (b0_14 x) (b0_15 x) (m x) R (fun s' => ∃ y, I y ∧ μ y < μ x ∧ Bo KK 93 0 s' (iH (t0 y) (t1 y) (t6 y) (t7 y) (t8 y) (t34 y) (t35 y) (t36 y) (b0_0 y) (b0_1 y) (b0_2 y) (b0_3 y) (b0_4 y) (b0_5 y) (b0_6 y) (b0_7 y) (b0_8 y) (b0_9 y) (b0_10 y) (b0_11 y) (b0_12 y) (b0_13 y) (b0_14 y) (b0_15 y) (m y)))) (x : σ) (hx : I x) {s : St} (hw : Bo KK 93 0 s (iH (t0 x) (t1 x) (t6 x) (t7 x) (t8 x) (t34 x) (t35 x) (t36 x) (b0_0 x) (b0_1 x) (b0_2 x) (b0_3 x) (b0_4 x) (b0_5 x) (b0_6 x) (b0_7 x) (b0_8 x) (b0_9 x) (b0_10 x) (b0_11 x) (b0_12 x) (b0_13 x) (b0_14 x) (b0_15 x) (m x))) : Ca pg KK 93 0 (.loop rR) s (wK R) :=
  Ca.Fk hw (Ca.loops Ee I (fun x => iH (t0 x) (t1 x) (t6 x) (t7 x) (t8 x) (t34 x) (t35 x) (t36 x) (b0_0 x) (b0_1 x) (b0_2 x) (b0_3 x) (b0_4 x) (b0_5 x) (b0_6 x) (b0_7 x) (b0_8 x) (b0_9 x) (b0_10 x) (b0_11 x) (b0_12 x) (b0_13 x) (b0_14 x) (b0_15 x) (m x)) μ (fun x hx => (rS (t0 x) (t1 x) (t6 x) (t7 x) (t8 x) (t34 x) (t35 x) (t36 x) (b0_0 x) (b0_1 x) (b0_2 x) (b0_3 x) (b0_4 x) (b0_5 x) (b0_6 x) (b0_7 x) (b0_8 x) (b0_9 x) (b0_10 x) (b0_11 x) (b0_12 x) (b0_13 x) (b0_14 x) (b0_15 x) (m x) R _).mpr (step x hx)) x hx)
noncomputable def qY (t0 : AV) (t6 : Int) (t7 : Int) (t8 : Int) (t59 : AV) (t60 : Int) (t61 : Int) (b0_0 : Int) (b0_1 : Int) (b0_2 : Int) (b0_3 : Int) (b0_4 : Int) (b0_5 : Int) (b0_6 : Int) (b0_7 : Int) (b0_8 : Int) (b0_9 : Int) (b0_10 : Int) (b0_11 : Int) (b0_12 : Int) (b0_13 : Int) (b0_14 : Int) (b0_15 : Int) (m : Mem) (R : AV → Mem → Prop) (N0 : St → Prop) : Prop :=
bif (decide (t61 < t60)) then (
Bg (Db 4 t59 (Aa t61)) fun v25 =>
Bg (Ju (Al ((0, some ⟨[(Aa b0_0), (Aa b0_1), (Aa b0_2), (Aa b0_3), (Aa b0_4), (Aa b0_5), (Aa b0_6), (Aa b0_7), (Aa b0_8), (Aa b0_9), (Aa b0_10), (Aa b0_11), (Aa b0_12), (Aa b0_13), (Aa b0_14), (Aa b0_15)], 25⟩) :: m)) 4 v25) fun v26 =>
Jf v26 fun kZ c28 c29 c30 =>
Af kZ fun z31 =>
Af c28 fun z32 =>
G2 c29 fun b33 =>
Af c30 fun z34 =>
Ca pg KK 93 0 (.loop Vr) ⟨[(0, t0), (5, (AV.ptr 0 0)), (6, (Aa t6)), (7, (Aa t7)), (8, (Aa t8)), (59, t59), (60, (Aa t60)), (61, (Aa t61)), (62, (Ac (decide (t61 < t60)))), (63, (Aa t61)), (64, v25), (65, (AV.agg [(Aa z31), (Aa z32), (Ac b33), (Aa z34)])), (17, (AV.ptr 200004 0)), (16, (Aa t61)), (66, (Aa t61)), (67, (Aa (IntKind.wrap .i64 (t61 + (1))))), (18, (Aa (IntKind.wrap .i64 (t61 + (1)))))], ((200004, some ⟨[(Aa z31), (Aa z32), (Ac b33), (Aa z34)], 37⟩) :: (200004, some ⟨[(Aa (0)), (Aa (0)), (Ac false), (Aa (0))], 37⟩) :: (0, some ⟨[(Aa b0_0), (Aa b0_1), (Aa b0_2), (Aa b0_3), (Aa b0_4), (Aa b0_5), (Aa b0_6), (Aa b0_7), (Aa b0_8), (Aa b0_9), (Aa b0_10), (Aa b0_11), (Aa b0_12), (Aa b0_13), (Aa b0_14), (Aa b0_15)], 25⟩) :: m), 200010⟩ (Vx R N0)) else (
A4 R ((0, some ⟨[(Aa b0_0), (Aa b0_1), (Aa b0_2), (Aa b0_3), (Aa b0_4), (Aa b0_5), (Aa b0_6), (Aa b0_7), (Aa b0_8), (Aa b0_9), (Aa b0_10), (Aa b0_11), (Aa b0_12), (Aa b0_13), (Aa b0_14), (Aa b0_15)], 25⟩) :: m) [some (Aa (0)), some (Aa (0)), some (Aa (0))])
theorem vP (t0 : AV) (t6 : Int) (t7 : Int) (t8 : Int) (t59 : AV) (t60 : Int) (t61 : Int) (b0_0 : Int) (b0_1 : Int) (b0_2 : Int) (b0_3 : Int) (b0_4 : Int) (b0_5 : Int) (b0_6 : Int) (b0_7 : Int) (b0_8 : Int) (b0_9 : Int) (b0_10 : Int) (b0_11 : Int) (b0_12 : Int) (b0_13 : Int) (b0_14 : Int) (b0_15 : Int) (m : Mem) (R : AV → Mem → Prop) (N0 : St → Prop) : W pg KK 93 0 iO (Xd t0 t6 t7 t8 t59 t60 t61 b0_0 b0_1 b0_2 b0_3 b0_4 b0_5 b0_6 b0_7 b0_8 b0_9 b0_10 b0_11 b0_12 b0_13 b0_14 b0_15 m) (xL R N0) = qY t0 t6 t7 t8 t59 t60 t61 b0_0 b0_1 b0_2 b0_3 b0_4 b0_5 b0_6 b0_7 b0_8 b0_9 b0_10 b0_11 b0_12 b0_13 b0_14 b0_15 m R N0 := by kernel_rfl
theorem Af1 (R : AV → Mem → Prop) {σ : Type} (I : σ → Prop) (t0 : σ → AV) (t6 : σ → Int) (t7 : σ → Int) (t8 : σ → Int) (t59 : σ → AV) (t60 : σ → Int) (t61 : σ → Int) (b0_0 : σ → Int) (b0_1 : σ → Int) (b0_2 : σ → Int) (b0_3 : σ → Int) (b0_4 : σ → Int) (b0_5 : σ → Int) (b0_6 : σ → Int) (b0_7 : σ → Int) (b0_8 : σ → Int) (b0_9 : σ → Int) (b0_10 : σ → Int) (b0_11 : σ → Int) (b0_12 : σ → Int) (b0_13 : σ → Int) (b0_14 : σ → Int) (b0_15 : σ → Int) (m : σ → Mem) (μ : σ → Nat) (step : ∀ x, I x → qY (t0 x) (t6 x) (t7 x) (t8 x) (t59 x) (t60 x) (t61 x) (b0_0 x) (b0_1 x) (b0_2 x) (b0_3 x) (b0_4 x) (b0_5 x) (b0_6 x) (b0_7 x) (b0_8 x) (b0_9 x) (b0_10 x) (b0_11 x) (b0_12 x) (b0_13 x) (b0_14 x) (b0_15 x) (m x) R (fun s' => ∃ y, I y ∧ μ y < μ x ∧ Bo KK 93 0 s' (Xd (t0 y) (t6 y) (t7 y) (t8 y) (t59 y) (t60 y) (t61 y) (b0_0 y) (b0_1 y) (b0_2 y) (b0_3 y) (b0_4 y) (b0_5 y) (b0_6 y) (b0_7 y) (b0_8 y) (b0_9 y) (b0_10 y) (b0_11 y) (b0_12 y) (b0_13 y) (b0_14 y) (b0_15 y) (m y)))) (x : σ) (hx : I x) {s : St} (hw : Bo KK 93 0 s (Xd (t0 x) (t6 x) (t7 x) (t8 x) (t59 x) (t60 x) (t61 x) (b0_0 x) (b0_1 x) (b0_2 x) (b0_3 x) (b0_4 x) (b0_5 x) (b0_6 x) (b0_7 x) (b0_8 x) (b0_9 x) (b0_10 x) (b0_11 x) (b0_12 x) (b0_13 x) (b0_14 x) (b0_15 x) (m x))) : Ca pg KK 93 0 (.loop iO) s (vQ R) :=
  Ca.Fk hw (Ca.loops Ee I (fun x => Xd (t0 x) (t6 x) (t7 x) (t8 x) (t59 x) (t60 x) (t61 x) (b0_0 x) (b0_1 x) (b0_2 x) (b0_3 x) (b0_4 x) (b0_5 x) (b0_6 x) (b0_7 x) (b0_8 x) (b0_9 x) (b0_10 x) (b0_11 x) (b0_12 x) (b0_13 x) (b0_14 x) (b0_15 x) (m x)) μ (fun x hx => (vP (t0 x) (t6 x) (t7 x) (t8 x) (t59 x) (t60 x) (t61 x) (b0_0 x) (b0_1 x) (b0_2 x) (b0_3 x) (b0_4 x) (b0_5 x) (b0_6 x) (b0_7 x) (b0_8 x) (b0_9 x) (b0_10 x) (b0_11 x) (b0_12 x) (b0_13 x) (b0_14 x) (b0_15 x) (m x) R _).mpr (step x hx)) x hx)
noncomputable def Ui (t0 : AV) (t6 : Int) (t7 : Int) (t8 : Int) (t16 : Int) (t18 : Int) (t59 : AV) (t60 : Int) (t61 : Int) (b0_0 : Int) (b0_1 : Int) (b0_2 : Int) (b0_3 : Int) (b0_4 : Int) (b0_5 : Int) (b0_6 : Int) (b0_7 : Int) (b0_8 : Int) (b0_9 : Int) (b0_10 : Int) (b0_11 : Int) (b0_12 : Int) (b0_13 : Int) (b0_14 : Int) (b0_15 : Int) (b200004_0 : Int) (b200004_1 : Int) (b200004_2 : Bool) (b200004_3 : Int) (m : Mem) (R : AV → Mem → Prop) (N0 : St → Prop) (N1 : St → Prop) : Prop :=
Bg (Dh t0) fun v35 =>
Af v35 fun z36 =>
bif (decide (t18 < z36)) then (
Bg (Db 4 t0 (Aa t18)) fun v37 =>
Bg (E1 0 v37) fun v38 =>
Bg (Fe (Al ((0, some ⟨[(Aa b0_0), (Aa b0_1), (Aa b0_2), (Aa b0_3), (Aa b0_4), (Aa b0_5), (Aa b0_6), (Aa b0_7), (Aa b0_8), (Aa b0_9), (Aa b0_10), (Aa b0_11), (Aa b0_12), (Aa b0_13), (Aa b0_14), (Aa b0_15)], 25⟩) :: (200004, some ⟨[(Aa b200004_0), (Aa b200004_1), (Ac b200004_2), (Aa b200004_3)], 37⟩) :: m)) v38) fun v39 =>
Af v39 fun z40 =>
Bg (Db 4 t0 (Aa t18)) fun v41 =>
Bg (Ju (Al ((0, some ⟨[(Aa b0_0), (Aa b0_1), (Aa b0_2), (Aa b0_3), (Aa b0_4), (Aa b0_5), (Aa b0_6), (Aa b0_7), (Aa b0_8), (Aa b0_9), (Aa b0_10), (Aa b0_11), (Aa b0_12), (Aa b0_13), (Aa b0_14), (Aa b0_15)], 25⟩) :: (200004, some ⟨[(Aa b200004_0), (Aa b200004_1), (Ac b200004_2), (Aa b200004_3)], 37⟩) :: m)) 4 v41) fun v42 =>
Jf v42 fun c43 c44 tG rX =>
Af c43 fun z47 =>
Af c44 fun z48 =>
G2 tG fun b49 =>
Af rX fun z50 =>
Bv pg KK.gl ((0, some ⟨[(Aa b0_0), (Aa b0_1), (Aa b0_2), (Aa b0_3), (Aa b0_4), (Aa b0_5), (Aa b0_6), (Aa b0_7), (Aa b0_8), (Aa b0_9), (Aa b0_10), (Aa b0_11), (Aa b0_12), (Aa b0_13), (Aa b0_14), (Aa b0_15)], 25⟩) :: (200004, some ⟨[(Aa b200004_0), (Aa b200004_1), (Ac b200004_2), (Aa b200004_3)], 37⟩) :: m) 47 [(AV.agg [(Aa b0_0), (Aa b0_1), (Aa b0_2), (Aa b0_3), (Aa b0_4), (Aa b0_5), (Aa b0_6), (Aa b0_7), (Aa b0_8), (Aa b0_9), (Aa b0_10), (Aa b0_11), (Aa b0_12), (Aa b0_13), (Aa b0_14), (Aa b0_15)]), (AV.agg [(Aa b200004_0), (Aa b200004_1), (Ac b200004_2), (Aa b200004_3)]), (AV.agg [(Aa z47), (Aa z48), (Ac b49), (Aa z50)])] fun v51 =>
Af v51 fun z52 =>
bif (decide ((IntKind.wrap .i64 (z40 - b200004_0)) < z52)) then (
A4 R ((0, some ⟨[(Aa b0_0), (Aa b0_1), (Aa b0_2), (Aa b0_3), (Aa b0_4), (Aa b0_5), (Aa b0_6), (Aa b0_7), (Aa b0_8), (Aa b0_9), (Aa b0_10), (Aa b0_11), (Aa b0_12), (Aa b0_13), (Aa b0_14), (Aa b0_15)], 25⟩) :: (200004, some ⟨[(Aa b200004_0), (Aa b200004_1), (Ac b200004_2), (Aa b200004_3)], 37⟩) :: m) [some (Aa t16), some (Aa t18), some (Aa (15))]) else (
N1 ⟨[(0, t0), (5, (AV.ptr 0 0)), (6, (Aa t6)), (7, (Aa t7)), (8, (Aa t8)), (16, (Aa t16)), (17, (AV.ptr 200004 0)), (18, (Aa (IntKind.wrap .i64 (t18 + (1))))), (59, t59), (60, (Aa t60)), (61, (Aa t61)), (68, (Aa t18)), (69, t0), (70, (Aa z36)), (71, (Ac (decide (t18 < z36)))), (74, t0), (75, (Aa t18)), (76, v37), (77, v38), (78, (Aa z40)), (79, (AV.ptr 200004 0)), (80, (Aa b200004_0)), (81, (Aa (IntKind.wrap .i64 (z40 - b200004_0)))), (82, (AV.agg [(Aa b0_0), (Aa b0_1), (Aa b0_2), (Aa b0_3), (Aa b0_4), (Aa b0_5), (Aa b0_6), (Aa b0_7), (Aa b0_8), (Aa b0_9), (Aa b0_10), (Aa b0_11), (Aa b0_12), (Aa b0_13), (Aa b0_14), (Aa b0_15)])), (83, (AV.agg [(Aa b200004_0), (Aa b200004_1), (Ac b200004_2), (Aa b200004_3)])), (84, t0), (85, (Aa t18)), (86, v41), (87, (AV.agg [(Aa z47), (Aa z48), (Ac b49), (Aa z50)])), (88, (Aa z52)), (89, (Ac (decide ((IntKind.wrap .i64 (z40 - b200004_0)) < z52)))), (72, (Aa t18)), (73, (Aa (IntKind.wrap .i64 (t18 + (1)))))], ((0, some ⟨[(Aa b0_0), (Aa b0_1), (Aa b0_2), (Aa b0_3), (Aa b0_4), (Aa b0_5), (Aa b0_6), (Aa b0_7), (Aa b0_8), (Aa b0_9), (Aa b0_10), (Aa b0_11), (Aa b0_12), (Aa b0_13), (Aa b0_14), (Aa b0_15)], 25⟩) :: (200004, some ⟨[(Aa b200004_0), (Aa b200004_1), (Ac b200004_2), (Aa b200004_3)], 37⟩) :: m), 300023⟩)) else (
N0 ⟨[(0, t0), (5, (AV.ptr 0 0)), (6, (Aa t6)), (7, (Aa t7)), (8, (Aa t8)), (16, (Aa t16)), (17, (AV.ptr 200004 0)), (18, (Aa t18)), (59, t59), (60, (Aa t60)), (61, (Aa (IntKind.wrap .i64 (t61 + (1))))), (68, (Aa t18)), (69, t0), (70, (Aa z36)), (71, (Ac (decide (t18 < z36)))), (92, (Aa (IntKind.wrap .i64 (t61 + (1)))))], ((0, some ⟨[(Aa b0_0), (Aa b0_1), (Aa b0_2), (Aa b0_3), (Aa b0_4), (Aa b0_5), (Aa b0_6), (Aa b0_7), (Aa b0_8), (Aa b0_9), (Aa b0_10), (Aa b0_11), (Aa b0_12), (Aa b0_13), (Aa b0_14), (Aa b0_15)], 25⟩) :: (200004, some ⟨[(Aa b200004_0), (Aa b200004_1), (Ac b200004_2), (Aa b200004_3)], 37⟩) :: m), 300006⟩)
theorem iY (t0 : AV) (t6 : Int) (t7 : Int) (t8 : Int) (t16 : Int) (t18 : Int) (t59 : AV) (t60 : Int) (t61 : Int) (b0_0 : Int) (b0_1 : Int) (b0_2 : Int) (b0_3 : Int) (b0_4 : Int) (b0_5 : Int) (b0_6 : Int) (b0_7 : Int) (b0_8 : Int) (b0_9 : Int) (b0_10 : Int) (b0_11 : Int) (b0_12 : Int) (b0_13 : Int) (b0_14 : Int) (b0_15 : Int) (b200004_0 : Int) (b200004_1 : Int) (b200004_2 : Bool) (b200004_3 : Int) (m : Mem) (R : AV → Mem → Prop) (N0 : St → Prop) (N1 : St → Prop) : W pg KK 93 0 Vr (N9 t0 t6 t7 t8 t16 t18 t59 t60 t61 b0_0 b0_1 b0_2 b0_3 b0_4 b0_5 b0_6 b0_7 b0_8 b0_9 b0_10 b0_11 b0_12 b0_13 b0_14 b0_15 b200004_0 b200004_1 b200004_2 b200004_3 m) (wJ R N0 N1) = Ui t0 t6 t7 t8 t16 t18 t59 t60 t61 b0_0 b0_1 b0_2 b0_3 b0_4 b0_5 b0_6 b0_7 b0_8 b0_9 b0_10 b0_11 b0_12 b0_13 b0_14 b0_15 b200004_0 b200004_1 b200004_2 b200004_3 m R N0 N1 := by kernel_rfl
theorem Abm (R : AV → Mem → Prop) (N0 : St → Prop) {σ : Type} (I : σ → Prop) (t0 : σ → AV) (t6 : σ → Int) (t7 : σ → Int) (t8 : σ → Int) (t16 : σ → Int) (t18 : σ → Int) (t59 : σ → AV) (t60 : σ → Int) (t61 : σ → Int) (b0_0 : σ → Int) (b0_1 : σ → Int) (b0_2 : σ → Int) (b0_3 : σ → Int) (b0_4 : σ → Int) (b0_5 : σ → Int) (b0_6 : σ → Int) (b0_7 : σ → Int) (b0_8 : σ → Int) (b0_9 : σ → Int) (b0_10 : σ → Int) (b0_11 : σ → Int) (b0_12 : σ → Int) (b0_13 : σ → Int) (b0_14 : σ → Int) (b0_15 : σ → Int) (b200004_0 : σ → Int) (b200004_1 : σ → Int) (b200004_2 : σ → Bool) (b200004_3 : σ → Int) (m : σ → Mem) (μ : σ → Nat) (step : ∀ x, I x → Ui (t0 x) (t6 x) (t7 x) (t8 x) (t16 x) (t18 x) (t59 x) (t60 x) (t61 x) (b0_0 x) (b0_1 x) (b0_2 x) (b0_3 x) (b0_4 x) (b0_5 x) (b0_6 x) (b0_7 x) (b0_8 x) (b0_9 x) (b0_10 x) (b0_11 x) (b0_12 x) (b0_13 x) (b0_14 x) (b0_15 x) (b200004_0 x) (b200004_1 x) (b200004_2 x) (b200004_3 x) (m x) R N0 (fun s' => ∃ y, I y ∧ μ y < μ x ∧ Bo KK 93 0 s' (N9 (t0 y) (t6 y) (t7 y) (t8 y) (t16 y) (t18 y) (t59 y) (t60 y) (t61 y) (b0_0 y) (b0_1 y) (b0_2 y) (b0_3 y) (b0_4 y) (b0_5 y) (b0_6 y) (b0_7 y) (b0_8 y) (b0_9 y) (b0_10 y) (b0_11 y) (b0_12 y) (b0_13 y) (b0_14 y) (b0_15 y) (b200004_0 y) (b200004_1 y) (b200004_2 y) (b200004_3 y) (m y)))) (x : σ) (hx : I x) {s : St} (hw : Bo KK 93 0 s (N9 (t0 x) (t6 x) (t7 x) (t8 x) (t16 x) (t18 x) (t59 x) (t60 x) (t61 x) (b0_0 x) (b0_1 x) (b0_2 x) (b0_3 x) (b0_4 x) (b0_5 x) (b0_6 x) (b0_7 x) (b0_8 x) (b0_9 x) (b0_10 x) (b0_11 x) (b0_12 x) (b0_13 x) (b0_14 x) (b0_15 x) (b200004_0 x) (b200004_1 x) (b200004_2 x) (b200004_3 x) (m x))) : Ca pg KK 93 0 (.loop Vr) s (Vx R N0) :=
  Ca.Fk hw (Ca.loops Ee I (fun x => N9 (t0 x) (t6 x) (t7 x) (t8 x) (t16 x) (t18 x) (t59 x) (t60 x) (t61 x) (b0_0 x) (b0_1 x) (b0_2 x) (b0_3 x) (b0_4 x) (b0_5 x) (b0_6 x) (b0_7 x) (b0_8 x) (b0_9 x) (b0_10 x) (b0_11 x) (b0_12 x) (b0_13 x) (b0_14 x) (b0_15 x) (b200004_0 x) (b200004_1 x) (b200004_2 x) (b200004_3 x) (m x)) μ (fun x hx => (iY (t0 x) (t6 x) (t7 x) (t8 x) (t16 x) (t18 x) (t59 x) (t60 x) (t61 x) (b0_0 x) (b0_1 x) (b0_2 x) (b0_3 x) (b0_4 x) (b0_5 x) (b0_6 x) (b0_7 x) (b0_8 x) (b0_9 x) (b0_10 x) (b0_11 x) (b0_12 x) (b0_13 x) (b0_14 x) (b0_15 x) (b200004_0 x) (b200004_1 x) (b200004_2 x) (b200004_3 x) (m x) R N0 _).mpr (step x hx)) x hx)
noncomputable def F7 (a0 : AV) (a1 : AV) (a2_0 : Int) (a2_1 : Int) (a2_2 : Int) (a2_3 : Int) (a2_4 : Int) (a2_5 : Int) (a2_6 : Int) (a2_7 : Int) (a2_8 : Int) (a2_9 : Int) (a2_10 : Int) (a2_11 : Int) (a2_12 : Int) (a2_13 : Int) (a2_14 : Int) (a2_15 : Int) (R : AV → Mem → Prop) : Prop :=
Bv pg KK.gl ((0, some ⟨[(Aa a2_0), (Aa a2_1), (Aa a2_2), (Aa a2_3), (Aa a2_4), (Aa a2_5), (Aa a2_6), (Aa a2_7), (Aa a2_8), (Aa a2_9), (Aa a2_10), (Aa a2_11), (Aa a2_12), (Aa a2_13), (Aa a2_14), (Aa a2_15)], 25⟩) :: []) 44 [a0] fun v0 =>
Af v0 fun z1 =>
bif (z1 != (0)) then (
A4 R ((0, some ⟨[(Aa a2_0), (Aa a2_1), (Aa a2_2), (Aa a2_3), (Aa a2_4), (Aa a2_5), (Aa a2_6), (Aa a2_7), (Aa a2_8), (Aa a2_9), (Aa a2_10), (Aa a2_11), (Aa a2_12), (Aa a2_13), (Aa a2_14), (Aa a2_15)], 25⟩) :: []) [some (Aa (0)), some (Aa (0)), some (Aa z1)]) else (
Bv pg KK.gl ((0, some ⟨[(Aa a2_0), (Aa a2_1), (Aa a2_2), (Aa a2_3), (Aa a2_4), (Aa a2_5), (Aa a2_6), (Aa a2_7), (Aa a2_8), (Aa a2_9), (Aa a2_10), (Aa a2_11), (Aa a2_12), (Aa a2_13), (Aa a2_14), (Aa a2_15)], 25⟩) :: []) 45 [a1] fun v2 =>
Af v2 fun z3 =>
bif (z3 != (0)) then (
A4 R ((0, some ⟨[(Aa a2_0), (Aa a2_1), (Aa a2_2), (Aa a2_3), (Aa a2_4), (Aa a2_5), (Aa a2_6), (Aa a2_7), (Aa a2_8), (Aa a2_9), (Aa a2_10), (Aa a2_11), (Aa a2_12), (Aa a2_13), (Aa a2_14), (Aa a2_15)], 25⟩) :: []) [some (Aa (0)), some (Aa (0)), some (Aa z3)]) else (
Bv pg KK.gl ((0, some ⟨[(Aa a2_0), (Aa a2_1), (Aa a2_2), (Aa a2_3), (Aa a2_4), (Aa a2_5), (Aa a2_6), (Aa a2_7), (Aa a2_8), (Aa a2_9), (Aa a2_10), (Aa a2_11), (Aa a2_12), (Aa a2_13), (Aa a2_14), (Aa a2_15)], 25⟩) :: []) 39 [(AV.agg [(Aa a2_0), (Aa a2_1), (Aa a2_2), (Aa a2_3), (Aa a2_4), (Aa a2_5), (Aa a2_6), (Aa a2_7), (Aa a2_8), (Aa a2_9), (Aa a2_10), (Aa a2_11), (Aa a2_12), (Aa a2_13), (Aa a2_14), (Aa a2_15)])] fun v4 =>
Af v4 fun z5 =>
bif (z5 != (0)) then (
A4 R ((0, some ⟨[(Aa a2_0), (Aa a2_1), (Aa a2_2), (Aa a2_3), (Aa a2_4), (Aa a2_5), (Aa a2_6), (Aa a2_7), (Aa a2_8), (Aa a2_9), (Aa a2_10), (Aa a2_11), (Aa a2_12), (Aa a2_13), (Aa a2_14), (Aa a2_15)], 25⟩) :: []) [some (Aa (0)), some (Aa (0)), some (Aa z5)]) else (
Bg (Dh a0) fun v6 =>
Af v6 fun z7 =>
Ca pg KK 93 0 (.loop rR) ⟨[(0, a0), (1, a1), (2, (AV.agg [(Aa a2_0), (Aa a2_1), (Aa a2_2), (Aa a2_3), (Aa a2_4), (Aa a2_5), (Aa a2_6), (Aa a2_7), (Aa a2_8), (Aa a2_9), (Aa a2_10), (Aa a2_11), (Aa a2_12), (Aa a2_13), (Aa a2_14), (Aa a2_15)])), (5, (AV.ptr 0 0)), (6, (Aa (0))), (7, (Aa (0))), (8, (Aa (0))), (19, a0), (20, (Aa z1)), (9, (Aa z1)), (21, (Aa z1)), (22, (Ac (z1 != (0)))), (24, a1), (25, (Aa z3)), (10, (Aa z3)), (26, (Aa z3)), (27, (Ac (z3 != (0)))), (29, (AV.agg [(Aa a2_0), (Aa a2_1), (Aa a2_2), (Aa a2_3), (Aa a2_4), (Aa a2_5), (Aa a2_6), (Aa a2_7), (Aa a2_8), (Aa a2_9), (Aa a2_10), (Aa a2_11), (Aa a2_12), (Aa a2_13), (Aa a2_14), (Aa a2_15)])), (30, (Aa z5)), (11, (Aa z5)), (31, (Aa z5)), (32, (Ac (z5 != (0)))), (34, a0), (35, (Aa z7)), (36, (Aa (0)))], ((0, some ⟨[(Aa a2_0), (Aa a2_1), (Aa a2_2), (Aa a2_3), (Aa a2_4), (Aa a2_5), (Aa a2_6), (Aa a2_7), (Aa a2_8), (Aa a2_9), (Aa a2_10), (Aa a2_11), (Aa a2_12), (Aa a2_13), (Aa a2_14), (Aa a2_15)], 25⟩) :: []), 211⟩ (wK R))))
theorem Aby (a0 : AV) (a1 : AV) (a2_0 : Int) (a2_1 : Int) (a2_2 : Int) (a2_3 : Int) (a2_4 : Int) (a2_5 : Int) (a2_6 : Int) (a2_7 : Int) (a2_8 : Int) (a2_9 : Int) (a2_10 : Int) (a2_11 : Int) (a2_12 : Int) (a2_13 : Int) (a2_14 : Int) (a2_15 : Int) (R : AV → Mem → Prop) (h : F7 a0 a1 a2_0 a2_1 a2_2 a2_3 a2_4 a2_5 a2_6 a2_7 a2_8 a2_9 a2_10 a2_11 a2_12 a2_13 a2_14 a2_15 R) : Own pg KK.gl 7 [a0, a1, (AV.agg [(Aa a2_0), (Aa a2_1), (Aa a2_2), (Aa a2_3), (Aa a2_4), (Aa a2_5), (Aa a2_6), (Aa a2_7), (Aa a2_8), (Aa a2_9), (Aa a2_10), (Aa a2_11), (Aa a2_12), (Aa a2_13), (Aa a2_14), (Aa a2_15)])] R := Bj Ee Tryz.func7 (code := c7) (by kernel_rfl) (by kernel_rfl) (by kernel_rfl) (X := F7 a0 a1 a2_0 a2_1 a2_2 a2_3 a2_4 a2_5 a2_6 a2_7 a2_8 a2_9 a2_10 a2_11 a2_12 a2_13 a2_14 a2_15 R) (by kernel_rfl) h
noncomputable def zV : Code := ((Tryz.f48).body).getD .skip
noncomputable def q48 (R : AV → Mem → Prop) : A9 → St → Prop := Dj pg Tryz.f48 R
noncomputable def eE : Code := Dt zV 0
noncomputable def bU (R : AV → Mem → Prop) : A9 → St → Prop := Du pg KK 37 0 zV 0 (q48 R)
noncomputable def zJ (R : AV → Mem → Prop) (N0 : St → Prop) : A9 → St → Prop := Dv N0 (bU R)
def Tn (t0 : AV) (t1 : Int) (t4 : Bool) (t5 : AV) (t10 : AV) (t11 : Int) (t12 : Int) (m : Mem) : St := ⟨[(0, t0), (1, (Aa t1)), (4, (Ac t4)), (5, t5), (10, t10), (11, (Aa t11)), (12, (Aa t12))], m, 100000⟩
noncomputable def cH (t0 : AV) (t1 : Int) (t4 : Bool) (t5 : AV) (t10 : AV) (t11 : Int) (t12 : Int) (m : Mem) (R : AV → Mem → Prop) (N0 : St → Prop) : Prop :=
bif (decide (t12 < t11)) then (
Bg (Db 1 t10 (Aa t12)) fun v3 =>
Bg (Fe (Al m) v3) fun v4 =>
Af v4 fun z5 =>
bif (decide (z5 < (0))) then (
A4 R m [some (Ac false)]) else (
bif (decide (z5 ≥ t1)) then (
A4 R m [some (Ac false)]) else (
Bg (Db 1 t5 (Aa z5)) fun v6 =>
Bg (Fe (Al m) v6) fun v7 =>
G2 v7 fun b8 =>
bif b8 then (
A4 R m [some (Ac false)]) else (
Bg (Db 1 t5 (Aa z5)) fun v9 =>
C4 pg (Al m) 4 v9 (Ac true) fun v10 d10 =>
N0 ⟨[(0, t0), (1, (Aa t1)), (4, (Ac t4)), (5, t5), (10, t10), (11, (Aa t11)), (12, (Aa (IntKind.wrap .i64 (t12 + (1))))), (13, (Ac (decide (t12 < t11)))), (14, v3), (15, (Aa z5)), (7, (Aa z5)), (16, (Aa z5)), (17, (Ac (decide (z5 < (0))))), (18, (Ac false)), (19, (Aa z5)), (20, (Aa t1)), (21, (Ac (decide (z5 ≥ t1)))), (22, (Ac (decide (z5 ≥ t1)))), (23, (Ac false)), (24, t5), (25, (Aa z5)), (26, v6), (27, (Ac b8)), (28, (Ac b8)), (29, t5), (30, (Aa z5)), (31, v9), (32, (Aa (IntKind.wrap .i64 (t12 + (1)))))], (Ae m d10), 100023⟩)))) else (
Bg (Dh t0) fun v11 =>
Af v11 fun z12 =>
A4 R m [some (Ac (z12 == t1))])
theorem oV (t0 : AV) (t1 : Int) (t4 : Bool) (t5 : AV) (t10 : AV) (t11 : Int) (t12 : Int) (m : Mem) (R : AV → Mem → Prop) (N0 : St → Prop) : W pg KK 37 0 eE (Tn t0 t1 t4 t5 t10 t11 t12 m) (zJ R N0) = cH t0 t1 t4 t5 t10 t11 t12 m R N0 := by kernel_rfl
theorem Acq (R : AV → Mem → Prop) {σ : Type} (I : σ → Prop) (t0 : σ → AV) (t1 : σ → Int) (t4 : σ → Bool) (t5 : σ → AV) (t10 : σ → AV) (t11 : σ → Int) (t12 : σ → Int) (m : σ → Mem) (μ : σ → Nat) (step : ∀ x, I x → cH (t0 x) (t1 x) (t4 x) (t5 x) (t10 x) (t11 x) (t12 x) (m x) R (fun s' => ∃ y, I y ∧ μ y < μ x ∧ Bo KK 37 0 s' (Tn (t0 y) (t1 y) (t4 y) (t5 y) (t10 y) (t11 y) (t12 y) (m y)))) (x : σ) (hx : I x) {s : St} (hw : Bo KK 37 0 s (Tn (t0 x) (t1 x) (t4 x) (t5 x) (t10 x) (t11 x) (t12 x) (m x))) : Ca pg KK 37 0 (.loop eE) s (bU R) :=
  Ca.Fk hw (Ca.loops Ee I (fun x => Tn (t0 x) (t1 x) (t4 x) (t5 x) (t10 x) (t11 x) (t12 x) (m x)) μ (fun x hx => (oV (t0 x) (t1 x) (t4 x) (t5 x) (t10 x) (t11 x) (t12 x) (m x) R _).mpr (step x hx)) x hx)
noncomputable def F48 (a0 : AV) (a1 : Int) (R : AV → Mem → Prop) : Prop :=
Fy (mks 2 4 1 1 [(Ac false)] (Aa a1) (Aa a1)) [] fun v0 m0 =>
Bg (Dh a0) fun v1 =>
Af v1 fun z2 =>
Ca pg KK 37 0 (.loop eE) ⟨[(0, a0), (1, (Aa a1)), (4, (Ac false)), (8, (Aa a1)), (9, v0), (5, v0), (10, a0), (11, (Aa z2)), (12, (Aa (0)))], m0, 7⟩ (bU R)
theorem p8 (a0 : AV) (a1 : Int) (R : AV → Mem → Prop) (h : F48 a0 a1 R) : Own pg KK.gl 48 [a0, (Aa a1)] R := Bj Ee Tryz.func48 (code := zV) (by kernel_rfl) (by kernel_rfl) (by kernel_rfl) (X := F48 a0 a1 R) (by kernel_rfl) h
noncomputable def c8 : Code := ((Tryz.f8).body).getD .skip
noncomputable def q8 (R : AV → Mem → Prop) : A9 → St → Prop := Dj pg Tryz.f8 R
noncomputable def F8 (a0 : AV) (a1 : AV) (R : AV → Mem → Prop) : Prop :=
Bv pg KK.gl [] 38 [a0] fun v0 =>
Iw v0 fun c1 c2 =>
Af c2 fun z3 =>
bif (z3 != (0)) then (
A4 R [] [some (Aa (0)), some (Aa z3)]) else (
Bg (Dh a0) fun v4 =>
Af v4 fun z5 =>
Bv pg KK.gl [] 48 [a1, (Aa z5)] fun v6 =>
G2 v6 fun b7 =>
bif (!b7) then (
A4 R [] [some (Aa (0)), some (Aa (3))]) else (
Bv pg KK.gl [] 43 [c1, a1] fun v8 =>
Af v8 fun z9 =>
A4 R [] [some (Aa z9), some (Aa (0))]))
theorem zE (a0 : AV) (a1 : AV) (R : AV → Mem → Prop) (h : F8 a0 a1 R) : Own pg KK.gl 8 [a0, a1] R := Bj Ee Tryz.func8 (code := c8) (by kernel_rfl) (by kernel_rfl) (by kernel_rfl) (X := F8 a0 a1 R) (by kernel_rfl) h
noncomputable def c51 : Code := ((Tryz.f51).body).getD .skip
noncomputable def q51 (R : AV → Mem → Prop) : A9 → St → Prop := Dj pg Tryz.f51 R
noncomputable def eO : Code := Dt c51 0
noncomputable def dM (R : AV → Mem → Prop) : A9 → St → Prop := Du pg KK 52 0 c51 0 (q51 R)
noncomputable def Aah (R : AV → Mem → Prop) (N0 : St → Prop) : A9 → St → Prop := Dv N0 (dM R)
def Ts (t6 : Bool) (t9 : AV) (t10 : Int) (t11 : Int) (b0_0 : Int) (b0_1 : Int) (b0_2 : Bool) (b0_3 : Int) (b1_0 : Int) (b1_1 : Int) (b1_2 : Int) (b1_3 : Int) (b1_4 : Int) (b1_5 : Int) (b1_6 : Int) (b1_7 : Int) (b1_8 : Int) (b1_9 : Int) (b1_10 : Int) (b1_11 : Int) (b1_12 : Int) (b1_13 : Int) (b1_14 : Int) (b1_15 : Int) (m : Mem) : St := ⟨[(4, (AV.ptr 0 0)), (5, (AV.ptr 1 0)), (6, (Ac t6)), (9, t9), (10, (Aa t10)), (11, (Aa t11))], ((0, some ⟨[(Aa b0_0), (Aa b0_1), (Ac b0_2), (Aa b0_3)], 37⟩) :: (1, some ⟨[(Aa b1_0), (Aa b1_1), (Aa b1_2), (Aa b1_3), (Aa b1_4), (Aa b1_5), (Aa b1_6), (Aa b1_7), (Aa b1_8), (Aa b1_9), (Aa b1_10), (Aa b1_11), (Aa b1_12), (Aa b1_13), (Aa b1_14), (Aa b1_15)], 25⟩) :: m), 100000⟩
noncomputable def eB (t6 : Bool) (t9 : AV) (t10 : Int) (t11 : Int) (b0_0 : Int) (b0_1 : Int) (b0_2 : Bool) (b0_3 : Int) (b1_0 : Int) (b1_1 : Int) (b1_2 : Int) (b1_3 : Int) (b1_4 : Int) (b1_5 : Int) (b1_6 : Int) (b1_7 : Int) (b1_8 : Int) (b1_9 : Int) (b1_10 : Int) (b1_11 : Int) (b1_12 : Int) (b1_13 : Int) (b1_14 : Int) (b1_15 : Int) (m : Mem) (R : AV → Mem → Prop) (N0 : St → Prop) : Prop :=
bif (decide (t11 < t10)) then (
Bg (Db 4 t9 (Aa t11)) fun v2 =>
Bg (Ju (Al ((0, some ⟨[(Aa b0_0), (Aa b0_1), (Ac b0_2), (Aa b0_3)], 37⟩) :: (1, some ⟨[(Aa b1_0), (Aa b1_1), (Aa b1_2), (Aa b1_3), (Aa b1_4), (Aa b1_5), (Aa b1_6), (Aa b1_7), (Aa b1_8), (Aa b1_9), (Aa b1_10), (Aa b1_11), (Aa b1_12), (Aa b1_13), (Aa b1_14), (Aa b1_15)], 25⟩) :: m)) 4 v2) fun v3 =>
Jf v3 fun c4 c5 c6 c7 =>
Af c4 fun z8 =>
Af c5 fun z9 =>
G2 c6 fun b10 =>
Af c7 fun z11 =>
bif (decide (z8 ≤ b0_0)) then (
Bv pg KK.gl ((100003, some ⟨[(Aa z8), (Aa z9), (Ac b10), (Aa z11)], 37⟩) :: (100003, some ⟨[(Aa (0)), (Aa (0)), (Ac false), (Aa (0))], 37⟩) :: (0, some ⟨[(Aa b0_0), (Aa b0_1), (Ac b0_2), (Aa b0_3)], 37⟩) :: (1, some ⟨[(Aa b1_0), (Aa b1_1), (Aa b1_2), (Aa b1_3), (Aa b1_4), (Aa b1_5), (Aa b1_6), (Aa b1_7), (Aa b1_8), (Aa b1_9), (Aa b1_10), (Aa b1_11), (Aa b1_12), (Aa b1_13), (Aa b1_14), (Aa b1_15)], 25⟩) :: m) 47 [(AV.agg [(Aa b1_0), (Aa b1_1), (Aa b1_2), (Aa b1_3), (Aa b1_4), (Aa b1_5), (Aa b1_6), (Aa b1_7), (Aa b1_8), (Aa b1_9), (Aa b1_10), (Aa b1_11), (Aa b1_12), (Aa b1_13), (Aa b1_14), (Aa b1_15)]), (AV.agg [(Aa z8), (Aa z9), (Ac b10), (Aa z11)]), (AV.agg [(Aa b0_0), (Aa b0_1), (Ac b0_2), (Aa b0_3)])] fun v12 =>
Af v12 fun z13 =>
bif (decide ((IntKind.wrap .i64 (b0_0 - z8)) < z13)) then (
A4 R ((100003, some ⟨[(Aa z8), (Aa z9), (Ac b10), (Aa z11)], 37⟩) :: (100003, some ⟨[(Aa (0)), (Aa (0)), (Ac false), (Aa (0))], 37⟩) :: (0, some ⟨[(Aa b0_0), (Aa b0_1), (Ac b0_2), (Aa b0_3)], 37⟩) :: (1, some ⟨[(Aa b1_0), (Aa b1_1), (Aa b1_2), (Aa b1_3), (Aa b1_4), (Aa b1_5), (Aa b1_6), (Aa b1_7), (Aa b1_8), (Aa b1_9), (Aa b1_10), (Aa b1_11), (Aa b1_12), (Aa b1_13), (Aa b1_14), (Aa b1_15)], 25⟩) :: m) [some (Ac false)]) else (
bif (decide (z8 ≥ b0_0)) then (
Bv pg KK.gl ((100003, some ⟨[(Aa z8), (Aa z9), (Ac b10), (Aa z11)], 37⟩) :: (100003, some ⟨[(Aa (0)), (Aa (0)), (Ac false), (Aa (0))], 37⟩) :: (0, some ⟨[(Aa b0_0), (Aa b0_1), (Ac b0_2), (Aa b0_3)], 37⟩) :: (1, some ⟨[(Aa b1_0), (Aa b1_1), (Aa b1_2), (Aa b1_3), (Aa b1_4), (Aa b1_5), (Aa b1_6), (Aa b1_7), (Aa b1_8), (Aa b1_9), (Aa b1_10), (Aa b1_11), (Aa b1_12), (Aa b1_13), (Aa b1_14), (Aa b1_15)], 25⟩) :: m) 47 [(AV.agg [(Aa b1_0), (Aa b1_1), (Aa b1_2), (Aa b1_3), (Aa b1_4), (Aa b1_5), (Aa b1_6), (Aa b1_7), (Aa b1_8), (Aa b1_9), (Aa b1_10), (Aa b1_11), (Aa b1_12), (Aa b1_13), (Aa b1_14), (Aa b1_15)]), (AV.agg [(Aa b0_0), (Aa b0_1), (Ac b0_2), (Aa b0_3)]), (AV.agg [(Aa z8), (Aa z9), (Ac b10), (Aa z11)])] fun v14 =>
Af v14 fun z15 =>
bif (decide ((IntKind.wrap .i64 (z8 - b0_0)) < z15)) then (
A4 R ((100003, some ⟨[(Aa z8), (Aa z9), (Ac b10), (Aa z11)], 37⟩) :: (100003, some ⟨[(Aa (0)), (Aa (0)), (Ac false), (Aa (0))], 37⟩) :: (0, some ⟨[(Aa b0_0), (Aa b0_1), (Ac b0_2), (Aa b0_3)], 37⟩) :: (1, some ⟨[(Aa b1_0), (Aa b1_1), (Aa b1_2), (Aa b1_3), (Aa b1_4), (Aa b1_5), (Aa b1_6), (Aa b1_7), (Aa b1_8), (Aa b1_9), (Aa b1_10), (Aa b1_11), (Aa b1_12), (Aa b1_13), (Aa b1_14), (Aa b1_15)], 25⟩) :: m) [some (Ac false)]) else (
N0 ⟨[(4, (AV.ptr 0 0)), (5, (AV.ptr 1 0)), (6, (Ac t6)), (9, t9), (10, (Aa t10)), (11, (Aa (IntKind.wrap .i64 (t11 + (1))))), (12, (Ac (decide (t11 < t10)))), (13, v2), (14, (AV.agg [(Aa z8), (Aa z9), (Ac b10), (Aa z11)])), (8, (AV.ptr 100003 0)), (15, (AV.ptr 100003 0)), (16, (Aa z8)), (17, (AV.ptr 0 0)), (18, (Aa b0_0)), (19, (Ac (decide (z8 ≤ b0_0)))), (20, (Ac true)), (21, (AV.ptr 0 0)), (22, (Aa b0_0)), (23, (AV.ptr 100003 0)), (24, (Aa z8)), (25, (Aa (IntKind.wrap .i64 (b0_0 - z8)))), (26, (AV.agg [(Aa b1_0), (Aa b1_1), (Aa b1_2), (Aa b1_3), (Aa b1_4), (Aa b1_5), (Aa b1_6), (Aa b1_7), (Aa b1_8), (Aa b1_9), (Aa b1_10), (Aa b1_11), (Aa b1_12), (Aa b1_13), (Aa b1_14), (Aa b1_15)])), (27, (AV.agg [(Aa z8), (Aa z9), (Ac b10), (Aa z11)])), (28, (AV.agg [(Aa b0_0), (Aa b0_1), (Ac b0_2), (Aa b0_3)])), (29, (Aa z13)), (30, (Ac (decide ((IntKind.wrap .i64 (b0_0 - z8)) < z13)))), (31, (Ac (decide ((IntKind.wrap .i64 (b0_0 - z8)) < z13)))), (32, (Ac false)), (33, (AV.ptr 100003 0)), (34, (Aa z8)), (35, (AV.ptr 0 0)), (36, (Aa b0_0)), (37, (Ac (decide (z8 ≥ b0_0)))), (38, (Ac true)), (39, (AV.ptr 100003 0)), (40, (Aa z8)), (41, (AV.ptr 0 0)), (42, (Aa b0_0)), (43, (Aa (IntKind.wrap .i64 (z8 - b0_0)))), (44, (AV.agg [(Aa b1_0), (Aa b1_1), (Aa b1_2), (Aa b1_3), (Aa b1_4), (Aa b1_5), (Aa b1_6), (Aa b1_7), (Aa b1_8), (Aa b1_9), (Aa b1_10), (Aa b1_11), (Aa b1_12), (Aa b1_13), (Aa b1_14), (Aa b1_15)])), (45, (AV.agg [(Aa b0_0), (Aa b0_1), (Ac b0_2), (Aa b0_3)])), (46, (AV.agg [(Aa z8), (Aa z9), (Ac b10), (Aa z11)])), (47, (Aa z15)), (48, (Ac (decide ((IntKind.wrap .i64 (z8 - b0_0)) < z15)))), (49, (Ac (decide ((IntKind.wrap .i64 (z8 - b0_0)) < z15)))), (50, (Ac (decide ((IntKind.wrap .i64 (z8 - b0_0)) < z15)))), (51, (Aa (IntKind.wrap .i64 (t11 + (1)))))], ((100003, some ⟨[(Aa z8), (Aa z9), (Ac b10), (Aa z11)], 37⟩) :: (100003, some ⟨[(Aa (0)), (Aa (0)), (Ac false), (Aa (0))], 37⟩) :: (0, some ⟨[(Aa b0_0), (Aa b0_1), (Ac b0_2), (Aa b0_3)], 37⟩) :: (1, some ⟨[(Aa b1_0), (Aa b1_1), (Aa b1_2), (Aa b1_3), (Aa b1_4), (Aa b1_5), (Aa b1_6), (Aa b1_7), (Aa b1_8), (Aa b1_9), (Aa b1_10), (Aa b1_11), (Aa b1_12), (Aa b1_13), (Aa b1_14), (Aa b1_15)], 25⟩) :: m), 100043⟩)) else (
N0 ⟨[(4, (AV.ptr 0 0)), (5, (AV.ptr 1 0)), (6, (Ac t6)), (9, t9), (10, (Aa t10)), (11, (Aa (IntKind.wrap .i64 (t11 + (1))))), (12, (Ac (decide (t11 < t10)))), (13, v2), (14, (AV.agg [(Aa z8), (Aa z9), (Ac b10), (Aa z11)])), (8, (AV.ptr 100003 0)), (15, (AV.ptr 100003 0)), (16, (Aa z8)), (17, (AV.ptr 0 0)), (18, (Aa b0_0)), (19, (Ac (decide (z8 ≤ b0_0)))), (20, (Ac true)), (21, (AV.ptr 0 0)), (22, (Aa b0_0)), (23, (AV.ptr 100003 0)), (24, (Aa z8)), (25, (Aa (IntKind.wrap .i64 (b0_0 - z8)))), (26, (AV.agg [(Aa b1_0), (Aa b1_1), (Aa b1_2), (Aa b1_3), (Aa b1_4), (Aa b1_5), (Aa b1_6), (Aa b1_7), (Aa b1_8), (Aa b1_9), (Aa b1_10), (Aa b1_11), (Aa b1_12), (Aa b1_13), (Aa b1_14), (Aa b1_15)])), (27, (AV.agg [(Aa z8), (Aa z9), (Ac b10), (Aa z11)])), (28, (AV.agg [(Aa b0_0), (Aa b0_1), (Ac b0_2), (Aa b0_3)])), (29, (Aa z13)), (30, (Ac (decide ((IntKind.wrap .i64 (b0_0 - z8)) < z13)))), (31, (Ac (decide ((IntKind.wrap .i64 (b0_0 - z8)) < z13)))), (32, (Ac false)), (33, (AV.ptr 100003 0)), (34, (Aa z8)), (35, (AV.ptr 0 0)), (36, (Aa b0_0)), (37, (Ac (decide (z8 ≥ b0_0)))), (38, (Ac false)), (39, (AV.tup [])), (40, (AV.tup [])), (41, (AV.tup [])), (42, (AV.tup [])), (43, (AV.tup [])), (44, (AV.tup [])), (45, (AV.tup [])), (46, (AV.tup [])), (47, (AV.tup [])), (48, (AV.tup [])), (49, (Ac false)), (50, (Ac false)), (51, (Aa (IntKind.wrap .i64 (t11 + (1)))))], ((100003, some ⟨[(Aa z8), (Aa z9), (Ac b10), (Aa z11)], 37⟩) :: (100003, some ⟨[(Aa (0)), (Aa (0)), (Ac false), (Aa (0))], 37⟩) :: (0, some ⟨[(Aa b0_0), (Aa b0_1), (Ac b0_2), (Aa b0_3)], 37⟩) :: (1, some ⟨[(Aa b1_0), (Aa b1_1), (Aa b1_2), (Aa b1_3), (Aa b1_4), (Aa b1_5), (Aa b1_6), (Aa b1_7), (Aa b1_8), (Aa b1_9), (Aa b1_10), (Aa b1_11), (Aa b1_12), (Aa b1_13), (Aa b1_14), (Aa b1_15)], 25⟩) :: m), 100043⟩))) else (
bif (decide (z8 ≥ b0_0)) then (
Bv pg KK.gl ((100003, some ⟨[(Aa z8), (Aa z9), (Ac b10), (Aa z11)], 37⟩) :: (100003, some ⟨[(Aa (0)), (Aa (0)), (Ac false), (Aa (0))], 37⟩) :: (0, some ⟨[(Aa b0_0), (Aa b0_1), (Ac b0_2), (Aa b0_3)], 37⟩) :: (1, some ⟨[(Aa b1_0), (Aa b1_1), (Aa b1_2), (Aa b1_3), (Aa b1_4), (Aa b1_5), (Aa b1_6), (Aa b1_7), (Aa b1_8), (Aa b1_9), (Aa b1_10), (Aa b1_11), (Aa b1_12), (Aa b1_13), (Aa b1_14), (Aa b1_15)], 25⟩) :: m) 47 [(AV.agg [(Aa b1_0), (Aa b1_1), (Aa b1_2), (Aa b1_3), (Aa b1_4), (Aa b1_5), (Aa b1_6), (Aa b1_7), (Aa b1_8), (Aa b1_9), (Aa b1_10), (Aa b1_11), (Aa b1_12), (Aa b1_13), (Aa b1_14), (Aa b1_15)]), (AV.agg [(Aa b0_0), (Aa b0_1), (Ac b0_2), (Aa b0_3)]), (AV.agg [(Aa z8), (Aa z9), (Ac b10), (Aa z11)])] fun v16 =>
Af v16 fun z17 =>
bif (decide ((IntKind.wrap .i64 (z8 - b0_0)) < z17)) then (
A4 R ((100003, some ⟨[(Aa z8), (Aa z9), (Ac b10), (Aa z11)], 37⟩) :: (100003, some ⟨[(Aa (0)), (Aa (0)), (Ac false), (Aa (0))], 37⟩) :: (0, some ⟨[(Aa b0_0), (Aa b0_1), (Ac b0_2), (Aa b0_3)], 37⟩) :: (1, some ⟨[(Aa b1_0), (Aa b1_1), (Aa b1_2), (Aa b1_3), (Aa b1_4), (Aa b1_5), (Aa b1_6), (Aa b1_7), (Aa b1_8), (Aa b1_9), (Aa b1_10), (Aa b1_11), (Aa b1_12), (Aa b1_13), (Aa b1_14), (Aa b1_15)], 25⟩) :: m) [some (Ac false)]) else (
N0 ⟨[(4, (AV.ptr 0 0)), (5, (AV.ptr 1 0)), (6, (Ac t6)), (9, t9), (10, (Aa t10)), (11, (Aa (IntKind.wrap .i64 (t11 + (1))))), (12, (Ac (decide (t11 < t10)))), (13, v2), (14, (AV.agg [(Aa z8), (Aa z9), (Ac b10), (Aa z11)])), (8, (AV.ptr 100003 0)), (15, (AV.ptr 100003 0)), (16, (Aa z8)), (17, (AV.ptr 0 0)), (18, (Aa b0_0)), (19, (Ac (decide (z8 ≤ b0_0)))), (20, (Ac false)), (21, (AV.tup [])), (22, (AV.tup [])), (23, (AV.tup [])), (24, (AV.tup [])), (25, (AV.tup [])), (26, (AV.tup [])), (27, (AV.tup [])), (28, (AV.tup [])), (29, (AV.tup [])), (30, (AV.tup [])), (31, (Ac false)), (32, (Ac false)), (33, (AV.ptr 100003 0)), (34, (Aa z8)), (35, (AV.ptr 0 0)), (36, (Aa b0_0)), (37, (Ac (decide (z8 ≥ b0_0)))), (38, (Ac true)), (39, (AV.ptr 100003 0)), (40, (Aa z8)), (41, (AV.ptr 0 0)), (42, (Aa b0_0)), (43, (Aa (IntKind.wrap .i64 (z8 - b0_0)))), (44, (AV.agg [(Aa b1_0), (Aa b1_1), (Aa b1_2), (Aa b1_3), (Aa b1_4), (Aa b1_5), (Aa b1_6), (Aa b1_7), (Aa b1_8), (Aa b1_9), (Aa b1_10), (Aa b1_11), (Aa b1_12), (Aa b1_13), (Aa b1_14), (Aa b1_15)])), (45, (AV.agg [(Aa b0_0), (Aa b0_1), (Ac b0_2), (Aa b0_3)])), (46, (AV.agg [(Aa z8), (Aa z9), (Ac b10), (Aa z11)])), (47, (Aa z17)), (48, (Ac (decide ((IntKind.wrap .i64 (z8 - b0_0)) < z17)))), (49, (Ac (decide ((IntKind.wrap .i64 (z8 - b0_0)) < z17)))), (50, (Ac (decide ((IntKind.wrap .i64 (z8 - b0_0)) < z17)))), (51, (Aa (IntKind.wrap .i64 (t11 + (1)))))], ((100003, some ⟨[(Aa z8), (Aa z9), (Ac b10), (Aa z11)], 37⟩) :: (100003, some ⟨[(Aa (0)), (Aa (0)), (Ac false), (Aa (0))], 37⟩) :: (0, some ⟨[(Aa b0_0), (Aa b0_1), (Ac b0_2), (Aa b0_3)], 37⟩) :: (1, some ⟨[(Aa b1_0), (Aa b1_1), (Aa b1_2), (Aa b1_3), (Aa b1_4), (Aa b1_5), (Aa b1_6), (Aa b1_7), (Aa b1_8), (Aa b1_9), (Aa b1_10), (Aa b1_11), (Aa b1_12), (Aa b1_13), (Aa b1_14), (Aa b1_15)], 25⟩) :: m), 100043⟩)) else (
N0 ⟨[(4, (AV.ptr 0 0)), (5, (AV.ptr 1 0)), (6, (Ac t6)), (9, t9), (10, (Aa t10)), (11, (Aa (IntKind.wrap .i64 (t11 + (1))))), (12, (Ac (decide (t11 < t10)))), (13, v2), (14, (AV.agg [(Aa z8), (Aa z9), (Ac b10), (Aa z11)])), (8, (AV.ptr 100003 0)), (15, (AV.ptr 100003 0)), (16, (Aa z8)), (17, (AV.ptr 0 0)), (18, (Aa b0_0)), (19, (Ac (decide (z8 ≤ b0_0)))), (20, (Ac false)), (21, (AV.tup [])), (22, (AV.tup [])), (23, (AV.tup [])), (24, (AV.tup [])), (25, (AV.tup [])), (26, (AV.tup [])), (27, (AV.tup [])), (28, (AV.tup [])), (29, (AV.tup [])), (30, (AV.tup [])), (31, (Ac false)), (32, (Ac false)), (33, (AV.ptr 100003 0)), (34, (Aa z8)), (35, (AV.ptr 0 0)), (36, (Aa b0_0)), (37, (Ac (decide (z8 ≥ b0_0)))), (38, (Ac false)), (39, (AV.tup [])), (40, (AV.tup [])), (41, (AV.tup [])), (42, (AV.tup [])), (43, (AV.tup [])), (44, (AV.tup [])), (45, (AV.tup [])), (46, (AV.tup [])), (47, (AV.tup [])), (48, (AV.tup [])), (49, (Ac false)), (50, (Ac false)), (51, (Aa (IntKind.wrap .i64 (t11 + (1)))))], ((100003, some ⟨[(Aa z8), (Aa z9), (Ac b10), (Aa z11)], 37⟩) :: (100003, some ⟨[(Aa (0)), (Aa (0)), (Ac false), (Aa (0))], 37⟩) :: (0, some ⟨[(Aa b0_0), (Aa b0_1), (Ac b0_2), (Aa b0_3)], 37⟩) :: (1, some ⟨[(Aa b1_0), (Aa b1_1), (Aa b1_2), (Aa b1_3), (Aa b1_4), (Aa b1_5), (Aa b1_6), (Aa b1_7), (Aa b1_8), (Aa b1_9), (Aa b1_10), (Aa b1_11), (Aa b1_12), (Aa b1_13), (Aa b1_14), (Aa b1_15)], 25⟩) :: m), 100043⟩))) else (
A4 R ((0, some ⟨[(Aa b0_0), (Aa b0_1), (Ac b0_2), (Aa b0_3)], 37⟩) :: (1, some ⟨[(Aa b1_0), (Aa b1_1), (Aa b1_2), (Aa b1_3), (Aa b1_4), (Aa b1_5), (Aa b1_6), (Aa b1_7), (Aa b1_8), (Aa b1_9), (Aa b1_10), (Aa b1_11), (Aa b1_12), (Aa b1_13), (Aa b1_14), (Aa b1_15)], 25⟩) :: m) [some (Ac true)])
theorem nN (t6 : Bool) (t9 : AV) (t10 : Int) (t11 : Int) (b0_0 : Int) (b0_1 : Int) (b0_2 : Bool) (b0_3 : Int) (b1_0 : Int) (b1_1 : Int) (b1_2 : Int) (b1_3 : Int) (b1_4 : Int) (b1_5 : Int) (b1_6 : Int) (b1_7 : Int) (b1_8 : Int) (b1_9 : Int) (b1_10 : Int) (b1_11 : Int) (b1_12 : Int) (b1_13 : Int) (b1_14 : Int) (b1_15 : Int) (m : Mem) (R : AV → Mem → Prop) (N0 : St → Prop) : W pg KK 52 0 eO (Ts t6 t9 t10 t11 b0_0 b0_1 b0_2 b0_3 b1_0 b1_1 b1_2 b1_3 b1_4 b1_5 b1_6 b1_7 b1_8 b1_9 b1_10 b1_11 b1_12 b1_13 b1_14 b1_15 m) (Aah R N0) = eB t6 t9 t10 t11 b0_0 b0_1 b0_2 b0_3 b1_0 b1_1 b1_2 b1_3 b1_4 b1_5 b1_6 b1_7 b1_8 b1_9 b1_10 b1_11 b1_12 b1_13 b1_14 b1_15 m R N0 := by kernel_rfl
theorem Ado (R : AV → Mem → Prop) {σ : Type} (I : σ → Prop) (t6 : σ → Bool) (t9 : σ → AV) (t10 : σ → Int) (t11 : σ → Int) (b0_0 : σ → Int) (b0_1 : σ → Int) (b0_2 : σ → Bool) (b0_3 : σ → Int) (b1_0 : σ → Int) (b1_1 : σ → Int) (b1_2 : σ → Int) (b1_3 : σ → Int) (b1_4 : σ → Int) (b1_5 : σ → Int) (b1_6 : σ → Int) (b1_7 : σ → Int) (b1_8 : σ → Int) (b1_9 : σ → Int) (b1_10 : σ → Int) (b1_11 : σ → Int) (b1_12 : σ → Int) (b1_13 : σ → Int) (b1_14 : σ → Int) (b1_15 : σ → Int) (m : σ → Mem) (μ : σ → Nat) (step : ∀ x, I x → eB (t6 x) (t9 x) (t10 x) (t11 x) (b0_0 x) (b0_1 x) (b0_2 x) (b0_3 x) (b1_0 x) (b1_1 x) (b1_2 x) (b1_3 x) (b1_4 x) (b1_5 x) (b1_6 x) (b1_7 x) (b1_8 x) (b1_9 x) (b1_10 x) (b1_11 x) (b1_12 x) (b1_13 x) (b1_14 x) (b1_15 x) (m x) R (fun s' => ∃ y, I y ∧ μ y < μ x ∧ Bo KK 52 0 s' (Ts (t6 y) (t9 y) (t10 y) (t11 y) (b0_0 y) (b0_1 y) (b0_2 y) (b0_3 y) (b1_0 y) (b1_1 y) (b1_2 y) (b1_3 y) (b1_4 y) (b1_5 y) (b1_6 y) (b1_7 y) (b1_8 y) (b1_9 y) (b1_10 y) (b1_11 y) (b1_12 y) (b1_13 y) (b1_14 y) (b1_15 y) (m y)))) (x : σ) (hx : I x) {s : St} (hw : Bo KK 52 0 s (Ts (t6 x) (t9 x) (t10 x) (t11 x) (b0_0 x) (b0_1 x) (b0_2 x) (b0_3 x) (b1_0 x) (b1_1 x) (b1_2 x) (b1_3 x) (b1_4 x) (b1_5 x) (b1_6 x) (b1_7 x) (b1_8 x) (b1_9 x) (b1_10 x) (b1_11 x) (b1_12 x) (b1_13 x) (b1_14 x) (b1_15 x) (m x))) : Ca pg KK 52 0 (.loop eO) s (dM R) :=
  Ca.Fk hw (Ca.loops Ee I (fun x => Ts (t6 x) (t9 x) (t10 x) (t11 x) (b0_0 x) (b0_1 x) (b0_2 x) (b0_3 x) (b1_0 x) (b1_1 x) (b1_2 x) (b1_3 x) (b1_4 x) (b1_5 x) (b1_6 x) (b1_7 x) (b1_8 x) (b1_9 x) (b1_10 x) (b1_11 x) (b1_12 x) (b1_13 x) (b1_14 x) (b1_15 x) (m x)) μ (fun x hx => (nN (t6 x) (t9 x) (t10 x) (t11 x) (b0_0 x) (b0_1 x) (b0_2 x) (b0_3 x) (b1_0 x) (b1_1 x) (b1_2 x) (b1_3 x) (b1_4 x) (b1_5 x) (b1_6 x) (b1_7 x) (b1_8 x) (b1_9 x) (b1_10 x) (b1_11 x) (b1_12 x) (b1_13 x) (b1_14 x) (b1_15 x) (m x) R _).mpr (step x hx)) x hx)
noncomputable def F51 (a0 : AV) (a1_0 : Int) (a1_1 : Int) (a1_2 : Bool) (a1_3 : Int) (a2_0 : Int) (a2_1 : Int) (a2_2 : Int) (a2_3 : Int) (a2_4 : Int) (a2_5 : Int) (a2_6 : Int) (a2_7 : Int) (a2_8 : Int) (a2_9 : Int) (a2_10 : Int) (a2_11 : Int) (a2_12 : Int) (a2_13 : Int) (a2_14 : Int) (a2_15 : Int) (R : AV → Mem → Prop) : Prop :=
Bg (Dh a0) fun v0 =>
Af v0 fun z1 =>
Ca pg KK 52 0 (.loop eO) ⟨[(0, a0), (1, (AV.agg [(Aa a1_0), (Aa a1_1), (Ac a1_2), (Aa a1_3)])), (2, (AV.agg [(Aa a2_0), (Aa a2_1), (Aa a2_2), (Aa a2_3), (Aa a2_4), (Aa a2_5), (Aa a2_6), (Aa a2_7), (Aa a2_8), (Aa a2_9), (Aa a2_10), (Aa a2_11), (Aa a2_12), (Aa a2_13), (Aa a2_14), (Aa a2_15)])), (4, (AV.ptr 0 0)), (5, (AV.ptr 1 0)), (6, (Ac false)), (9, a0), (10, (Aa z1)), (11, (Aa (0)))], ((1, some ⟨[(Aa a2_0), (Aa a2_1), (Aa a2_2), (Aa a2_3), (Aa a2_4), (Aa a2_5), (Aa a2_6), (Aa a2_7), (Aa a2_8), (Aa a2_9), (Aa a2_10), (Aa a2_11), (Aa a2_12), (Aa a2_13), (Aa a2_14), (Aa a2_15)], 25⟩) :: (0, some ⟨[(Aa a1_0), (Aa a1_1), (Ac a1_2), (Aa a1_3)], 37⟩) :: []), 6⟩ (dM R)
theorem wU (a0 : AV) (a1_0 : Int) (a1_1 : Int) (a1_2 : Bool) (a1_3 : Int) (a2_0 : Int) (a2_1 : Int) (a2_2 : Int) (a2_3 : Int) (a2_4 : Int) (a2_5 : Int) (a2_6 : Int) (a2_7 : Int) (a2_8 : Int) (a2_9 : Int) (a2_10 : Int) (a2_11 : Int) (a2_12 : Int) (a2_13 : Int) (a2_14 : Int) (a2_15 : Int) (R : AV → Mem → Prop) (h : F51 a0 a1_0 a1_1 a1_2 a1_3 a2_0 a2_1 a2_2 a2_3 a2_4 a2_5 a2_6 a2_7 a2_8 a2_9 a2_10 a2_11 a2_12 a2_13 a2_14 a2_15 R) : Own pg KK.gl 51 [a0, (AV.agg [(Aa a1_0), (Aa a1_1), (Ac a1_2), (Aa a1_3)]), (AV.agg [(Aa a2_0), (Aa a2_1), (Aa a2_2), (Aa a2_3), (Aa a2_4), (Aa a2_5), (Aa a2_6), (Aa a2_7), (Aa a2_8), (Aa a2_9), (Aa a2_10), (Aa a2_11), (Aa a2_12), (Aa a2_13), (Aa a2_14), (Aa a2_15)])] R := Bj Ee Tryz.func51 (code := c51) (by kernel_rfl) (by kernel_rfl) (by kernel_rfl) (X := F51 a0 a1_0 a1_1 a1_2 a1_3 a2_0 a2_1 a2_2 a2_3 a2_4 a2_5 a2_6 a2_7 a2_8 a2_9 a2_10 a2_11 a2_12 a2_13 a2_14 a2_15 R) (by kernel_rfl) h
noncomputable def c53 : Code := ((Tryz.f53).body).getD .skip
noncomputable def q53 (R : AV → Mem → Prop) : A9 → St → Prop := Dj pg Tryz.f53 R
noncomputable def F53 (a0_0 : Int) (a0_1 : Int) (a0_2 : Bool) (a0_3 : Int) (a1 : AV) (R : AV → Mem → Prop) : Prop :=
Bg (E1 0 a1) fun v0 =>
Bg (Fe (Al ((0, some ⟨[(Aa a0_0), (Aa a0_1), (Ac a0_2), (Aa a0_3)], 37⟩) :: [])) v0) fun v1 =>
Af v1 fun z2 =>
A4 R ((0, some ⟨[(Aa a0_0), (Aa a0_1), (Ac a0_2), (Aa a0_3)], 37⟩) :: []) [some (Ac (decide (a0_0 > z2)))]
theorem uB (a0_0 : Int) (a0_1 : Int) (a0_2 : Bool) (a0_3 : Int) (a1 : AV) (R : AV → Mem → Prop) (h : F53 a0_0 a0_1 a0_2 a0_3 a1 R) : Own pg KK.gl 53 [(AV.agg [(Aa a0_0), (Aa a0_1), (Ac a0_2), (Aa a0_3)]), a1] R := Bj Ee Tryz.func53 (code := c53) (by kernel_rfl) (by kernel_rfl) (by kernel_rfl) (X := F53 a0_0 a0_1 a0_2 a0_3 a1 R) (by kernel_rfl) h
noncomputable def c52 : Code := ((Tryz.f52).body).getD .skip
noncomputable def q52 (R : AV → Mem → Prop) : A9 → St → Prop := Dj pg Tryz.f52 R
noncomputable def Yu : Code := Dt c52 0
noncomputable def Xb (R : AV → Mem → Prop) : A9 → St → Prop := Du pg KK 19 0 c52 0 (q52 R)
noncomputable def Aau (R : AV → Mem → Prop) (N0 : St → Prop) : A9 → St → Prop := Dv N0 (Xb R)
def Pc (t0 : AV) (t1 : AV) (t4 : Int) (t7 : Int) (t8 : Int) (m : Mem) : St := ⟨[(0, t0), (1, t1), (4, (Aa t4)), (7, (Aa t7)), (8, (Aa t8))], m, 100000⟩
noncomputable def Sc (t0 : AV) (t1 : AV) (t4 : Int) (t7 : Int) (t8 : Int) (m : Mem) (R : AV → Mem → Prop) (N0 : St → Prop) : Prop :=
bif (decide (t8 < t7)) then (
Bg (Db 4 t0 (Aa t8)) fun v2 =>
Bg (Ju (Al m) 4 v2) fun v3 =>
Jf v3 fun c4 c5 c6 c7 =>
Af c4 fun z8 =>
Af c5 fun z9 =>
G2 c6 fun b10 =>
Af c7 fun z11 =>
Hp (some t1) (some [(AV.agg [(Aa z8), (Aa z9), (Ac b10), (Aa z11)])]) fun f12 a12 => bif KK.pm f12 then Bv pg KK.gl m f12 a12 (fun v12 =>
G2 v12 fun b13 =>
bif b13 then (
A4 R m [some (Aa t8)]) else (
N0 ⟨[(0, t0), (1, t1), (4, (Aa t4)), (7, (Aa t7)), (8, (Aa (IntKind.wrap .i64 (t8 + (1))))), (9, (Ac (decide (t8 < t7)))), (10, (Aa t8)), (5, (Aa t8)), (11, t1), (12, t0), (13, (Aa t8)), (14, v2), (15, (AV.agg [(Aa z8), (Aa z9), (Ac b10), (Aa z11)])), (16, (Ac b13)), (18, (Aa (IntKind.wrap .i64 (t8 + (1)))))], m, 100074⟩)) else Ed pg KK.gl m 100008 f12 a12 fun v12 m12 =>
G2 v12 fun b13 =>
bif b13 then (
A4 R m12 [some (Aa t8)]) else (
N0 ⟨[(0, t0), (1, t1), (4, (Aa t4)), (7, (Aa t7)), (8, (Aa (IntKind.wrap .i64 (t8 + (1))))), (9, (Ac (decide (t8 < t7)))), (10, (Aa t8)), (5, (Aa t8)), (11, t1), (12, t0), (13, (Aa t8)), (14, v2), (15, (AV.agg [(Aa z8), (Aa z9), (Ac b10), (Aa z11)])), (16, (Ac b13)), (18, (Aa (IntKind.wrap .i64 (t8 + (1)))))], m12, 100074⟩)) else (
A4 R m [some (Aa (-1))])
theorem mF (t0 : AV) (t1 : AV) (t4 : Int) (t7 : Int) (t8 : Int) (m : Mem) (R : AV → Mem → Prop) (N0 : St → Prop) : W pg KK 19 0 Yu (Pc t0 t1 t4 t7 t8 m) (Aau R N0) = Sc t0 t1 t4 t7 t8 m R N0 := by kernel_rfl
theorem xP (R : AV → Mem → Prop) {σ : Type} (I : σ → Prop) (t0 : σ → AV) (t1 : σ → AV) (t4 : σ → Int) (t7 : σ → Int) (t8 : σ → Int) (m : σ → Mem) (μ : σ → Nat) (step : ∀ x, I x → Sc (t0 x) (t1 x) (t4 x) (t7 x) (t8 x) (m x) R (fun s' => ∃ y, I y ∧ μ y < μ x ∧ Bo KK 19 0 s' (Pc (t0 y) (t1 y) (t4 y) (t7 y) (t8 y) (m y)))) (x : σ) (hx : I x) {s : St} (hw : Bo KK 19 0 s (Pc (t0 x) (t1 x) (t4 x) (t7 x) (t8 x) (m x))) : Ca pg KK 19 0 (.loop Yu) s (Xb R) :=
  Ca.Fk hw (Ca.loops Ee I (fun x => Pc (t0 x) (t1 x) (t4 x) (t7 x) (t8 x) (m x)) μ (fun x hx => (mF (t0 x) (t1 x) (t4 x) (t7 x) (t8 x) (m x) R _).mpr (step x hx)) x hx)
noncomputable def F52 (a0 : AV) (a1 : AV) (R : AV → Mem → Prop) : Prop :=
Bg (Dh a0) fun v0 =>
Af v0 fun z1 =>
Ca pg KK 19 0 (.loop Yu) ⟨[(0, a0), (1, a1), (4, (Aa (0))), (6, a0), (7, (Aa z1)), (8, (Aa (0)))], [], 4⟩ (Xb R)
theorem cN (a0 : AV) (a1 : AV) (R : AV → Mem → Prop) (h : F52 a0 a1 R) : Own pg KK.gl 52 [a0, a1] R := Bj Ee Tryz.func52 (code := c52) (by kernel_rfl) (by kernel_rfl) (by kernel_rfl) (X := F52 a0 a1 R) (by kernel_rfl) h
noncomputable def c9 : Code := ((Tryz.f9).body).getD .skip
noncomputable def q9 (R : AV → Mem → Prop) : A9 → St → Prop := Dj pg Tryz.f9 R
noncomputable def gV : Code := Dt c9 0
noncomputable def sW (R : AV → Mem → Prop) : A9 → St → Prop := Du pg KK 100 0 c9 0 (q9 R)
noncomputable def xU (R : AV → Mem → Prop) (N0 : St → Prop) : A9 → St → Prop := Dv N0 (sW R)
def Yw (t1 : AV) (t8 : AV) (t9 : Int) (t13 : AV) (t40 : AV) (t41 : Int) (t42 : Int) (m : Mem) : St := ⟨[(1, t1), (6, (AV.ptr 0 0)), (8, t8), (9, (Aa t9)), (13, t13), (40, t40), (41, (Aa t41)), (42, (Aa t42))], m, 100000⟩
noncomputable def Ux : Code := Dt gV 0
noncomputable def Vb (R : AV → Mem → Prop) (N0 : St → Prop) : A9 → St → Prop := Du pg KK 100 0 gV 0 (xU R N0)
noncomputable def sG (R : AV → Mem → Prop) (N0 : St → Prop) (N1 : St → Prop) : A9 → St → Prop := Dv N1 (Vb R N0)
def Ot (t1 : AV) (t8 : AV) (t9 : Int) (t13 : AV) (t40 : AV) (t41 : Int) (t42 : Int) (m : Mem) : St := ⟨[(1, t1), (6, (AV.ptr 0 0)), (8, t8), (9, (Aa t9)), (13, t13), (17, (AV.ptr 100145 0)), (40, t40), (41, (Aa t41)), (42, (Aa t42))], m, 200000⟩
noncomputable def rQ (t1 : AV) (t8 : AV) (t9 : Int) (t13 : AV) (t40 : AV) (t41 : Int) (t42 : Int) (m : Mem) (R : AV → Mem → Prop) (N0 : St → Prop) : Prop :=
bif (decide (t42 < t41)) then (
Bg (Db 2 t40 (Aa t42)) fun v14 =>
Bg (Ju (Al m) 2 v14) fun v15 =>
Uv v15 fun c16 c17 =>
Af c16 fun z18 =>
Af c17 fun z19 =>
Bv pg KK.gl ((100003, some ⟨[(Aa z18), (Aa z19)], 107⟩) :: (100003, some ⟨[(Aa (0)), (Aa (0))], 107⟩) :: m) 49 [(Aa z18)] fun v20 =>
G2 v20 fun b21 =>
bif b21 then (
A4 R ((100003, some ⟨[(Aa z18), (Aa z19)], 107⟩) :: (100003, some ⟨[(Aa (0)), (Aa (0))], 107⟩) :: m) [some AV.Cc, some (Aa (12))]) else (
Bv pg KK.gl ((100003, some ⟨[(Aa z18), (Aa z19)], 107⟩) :: (100003, some ⟨[(Aa (0)), (Aa (0))], 107⟩) :: m) 50 [(Aa z19)] fun v22 =>
Af v22 fun z23 =>
bif (z23 != (0)) then (
A4 R ((100003, some ⟨[(Aa z18), (Aa z19)], 107⟩) :: (100003, some ⟨[(Aa (0)), (Aa (0))], 107⟩) :: m) [some AV.Cc, some (Aa z23)]) else (
Bg (Wx [(Aa (0)), (Aa (0)), (Ac false), (Aa (0))] [(0, 1), (1, 1), (2, 1), (3, 1)] [(0, (Aa z18)), (1, (Aa z19)), (2, (Ac true))]) fun v24 =>
C4 pg (Al ((100145, some ⟨[(Aa (0)), (Aa (0)), (Ac false), (Aa (0))], 37⟩) :: (100003, some ⟨[(Aa z18), (Aa z19)], 107⟩) :: (100003, some ⟨[(Aa (0)), (Aa (0))], 107⟩) :: m)) 37 (AV.ptr 100145 0) v24 fun v25 d25 =>
Ca pg KK 100 0 (.loop Ux) ⟨[(1, t1), (6, (AV.ptr 0 0)), (8, t8), (9, (Aa t9)), (13, t13), (40, t40), (41, (Aa t41)), (42, (Aa t42)), (43, (Ac (decide (t42 < t41)))), (44, v14), (45, (AV.agg [(Aa z18), (Aa z19)])), (15, (AV.ptr 100003 0)), (46, (AV.ptr 100003 0)), (47, (Aa z18)), (48, (Ac b21)), (49, (AV.ptr 100003 1)), (50, (Aa z19)), (51, (Aa z23)), (16, (Aa z23)), (52, (Aa z23)), (53, (Ac (z23 != (0)))), (55, (AV.ptr 100003 0)), (56, (Aa z18)), (57, (AV.ptr 100003 1)), (58, (Aa z19)), (59, v24), (17, (AV.ptr 100145 0))], (Ae ((100145, some ⟨[(Aa (0)), (Aa (0)), (Ac false), (Aa (0))], 37⟩) :: (100003, some ⟨[(Aa z18), (Aa z19)], 107⟩) :: (100003, some ⟨[(Aa (0)), (Aa (0))], 107⟩) :: m) d25), 100147⟩ (Vb R N0)))) else (
A4 R m [some t13, some (Aa (0))])
theorem w9 (t1 : AV) (t8 : AV) (t9 : Int) (t13 : AV) (t40 : AV) (t41 : Int) (t42 : Int) (m : Mem) (R : AV → Mem → Prop) (N0 : St → Prop) : W pg KK 100 0 gV (Yw t1 t8 t9 t13 t40 t41 t42 m) (xU R N0) = rQ t1 t8 t9 t13 t40 t41 t42 m R N0 := by kernel_rfl
theorem Ae4 (R : AV → Mem → Prop) {σ : Type} (I : σ → Prop) (t1 : σ → AV) (t8 : σ → AV) (t9 : σ → Int) (t13 : σ → AV) (t40 : σ → AV) (t41 : σ → Int) (t42 : σ → Int) (m : σ → Mem) (μ : σ → Nat) (step : ∀ x, I x → rQ (t1 x) (t8 x) (t9 x) (t13 x) (t40 x) (t41 x) (t42 x) (m x) R (fun s' => ∃ y, I y ∧ μ y < μ x ∧ Bo KK 100 0 s' (Yw (t1 y) (t8 y) (t9 y) (t13 y) (t40 y) (t41 y) (t42 y) (m y)))) (x : σ) (hx : I x) {s : St} (hw : Bo KK 100 0 s (Yw (t1 x) (t8 x) (t9 x) (t13 x) (t40 x) (t41 x) (t42 x) (m x))) : Ca pg KK 100 0 (.loop gV) s (sW R) :=
  Ca.Fk hw (Ca.loops Ee I (fun x => Yw (t1 x) (t8 x) (t9 x) (t13 x) (t40 x) (t41 x) (t42 x) (m x)) μ (fun x hx => (w9 (t1 x) (t8 x) (t9 x) (t13 x) (t40 x) (t41 x) (t42 x) (m x) R _).mpr (step x hx)) x hx)
noncomputable def Vo (t1 : AV) (t8 : AV) (t9 : Int) (t13 : AV) (t40 : AV) (t41 : Int) (t42 : Int) (m : Mem) (R : AV → Mem → Prop) (N0 : St → Prop) (N1 : St → Prop) : Prop :=
Bg (Fe (Al m) (AV.ptr 100145 0)) fun v26 =>
Af v26 fun z27 =>
bif (decide (z27 ≤ (200000))) then (
Bg (Fe (Al m) (AV.ptr 100145 0)) fun v28 =>
Af v28 fun z29 =>
Bv pg KK.gl m 46 [t1, (Aa z29)] fun v30 =>
Iw v30 fun c31 c32 =>
Af c31 fun z33 =>
G2 c32 fun b34 =>
bif b34 then (
Bg (Ju (Al m) 4 (AV.ptr 100145 0)) fun v35 =>
Jf v35 fun c36 c37 c38 qU =>
Af c36 fun z40 =>
Af c37 fun z41 =>
G2 c38 fun b42 =>
Af qU fun z43 =>
Bg (Ju (Al m) 16 (AV.ptr 0 0)) fun v44 =>
X9 v44 fun tG rX c47 zV c49 c50 c51 c52 c53 c54 c55 c56 c57 c58 c59 c60 =>
Af tG fun z61 =>
Af rX fun z62 =>
Af c47 fun z63 =>
Af zV fun z64 =>
Af c49 fun z65 =>
Af c50 fun z66 =>
Af c51 fun z67 =>
Af c52 fun z68 =>
Af c53 fun z69 =>
Af c54 fun z70 =>
Af c55 fun z71 =>
Af c56 fun z72 =>
Af c57 fun z73 =>
Af c58 fun z74 =>
Af c59 fun z75 =>
Af c60 fun z76 =>
Bv pg KK.gl m 51 [t13, (AV.agg [(Aa z40), (Aa z41), (Ac b42), (Aa z43)]), (AV.agg [(Aa z61), (Aa z62), (Aa z63), (Aa z64), (Aa z65), (Aa z66), (Aa z67), (Aa z68), (Aa z69), (Aa z70), (Aa z71), (Aa z72), (Aa z73), (Aa z74), (Aa z75), (Aa z76)])] fun v77 =>
G2 v77 fun b78 =>
bif b78 then (
C4 pg (Al m) 3 (AV.ptr 100145 3) (Aa z33) fun v79 d79 =>
Bg (Fe (Al (Ae m d79)) (AV.ptr 100145 0)) fun v80 =>
Af v80 fun z81 =>
bif (decide (z81 > (200000))) then (
A4 R (Ae m d79) [some AV.Cc, some (Aa (8))]) else (
Bv pg KK.gl (Ae m d79) 52 [t13, (AV.fn 53 [(AV.ptr 100145 0)])] fun v82 =>
Af v82 fun z83 =>
bif (decide (z83 < (0))) then (
Bg (Dh t13) fun v84 =>
Af v84 fun z85 =>
Bg (Ju (Al (Ae m d79)) 4 (AV.ptr 100145 0)) fun v86 =>
Jf v86 fun c87 c88 c89 c90 =>
Af c87 fun z91 =>
Af c88 fun z92 =>
G2 c89 fun b93 =>
Af c90 fun z94 =>
Fy (Ww 200226 37 4 1 [(Aa (0)), (Aa (0)), (Ac false), (Aa (0))] [(0, (AV.agg [(Aa z91), (Aa z92), (Ac b93), (Aa z94)]))]) (Ae m d79) fun v95 m95 =>
Ed pg KK.gl m95 200227 54 [t13, (Aa z85), v95] fun v96 m96 =>
N0 ⟨[(1, t1), (6, (AV.ptr 0 0)), (8, t8), (9, (Aa t9)), (13, v96), (17, (AV.ptr 100145 0)), (40, t40), (41, (Aa t41)), (42, (Aa (IntKind.wrap .i64 (t42 + (1))))), (60, (AV.ptr 100145 0)), (61, (Aa z27)), (62, (Ac (decide (z27 ≤ (200000))))), (68, t1), (69, (AV.ptr 100145 0)), (70, (Aa z29)), (71, (AV.tup [(Aa z33), (Ac b34)])), (67, (AV.tup [(Aa z33), (Ac b34)])), (72, (Aa z33)), (73, (Ac b34)), (18, (Aa z33)), (19, (Ac b34)), (74, (Ac b34)), (75, (Ac true)), (76, t13), (77, (AV.agg [(Aa z40), (Aa z41), (Ac b42), (Aa z43)])), (78, (AV.agg [(Aa z61), (Aa z62), (Aa z63), (Aa z64), (Aa z65), (Aa z66), (Aa z67), (Aa z68), (Aa z69), (Aa z70), (Aa z71), (Aa z72), (Aa z73), (Aa z74), (Aa z75), (Aa z76)])), (79, (Ac b78)), (80, (Ac b78)), (81, (Aa z33)), (82, (AV.ptr 100145 3)), (83, (AV.ptr 100145 0)), (84, (Aa z81)), (85, (Ac (decide (z81 > (200000))))), (86, t13), (87, (AV.fn 53 [(AV.ptr 100145 0)])), (88, (Aa z83)), (20, (Aa z85)), (89, (Aa z83)), (90, (Ac (decide (z83 < (0))))), (91, t13), (92, (Aa z85)), (93, t13), (94, (Aa z85)), (95, (AV.agg [(Aa z91), (Aa z92), (Ac b93), (Aa z94)])), (96, v95), (97, v96), (98, (Aa (IntKind.wrap .i64 (t42 + (1)))))], m96, 200294⟩) else (
Bg (Ju (Al (Ae m d79)) 4 (AV.ptr 100145 0)) fun v97 =>
Jf v97 fun c98 c99 c100 c101 =>
Af c98 fun z102 =>
Af c99 fun z103 =>
G2 c100 fun b104 =>
Af c101 fun z105 =>
Fy (Ww 200223 37 4 1 [(Aa (0)), (Aa (0)), (Ac false), (Aa (0))] [(0, (AV.agg [(Aa z102), (Aa z103), (Ac b104), (Aa z105)]))]) (Ae m d79) fun v106 m106 =>
Ed pg KK.gl m106 200224 54 [t13, (Aa z83), v106] fun v107 m107 =>
N0 ⟨[(1, t1), (6, (AV.ptr 0 0)), (8, t8), (9, (Aa t9)), (13, v107), (17, (AV.ptr 100145 0)), (40, t40), (41, (Aa t41)), (42, (Aa (IntKind.wrap .i64 (t42 + (1))))), (60, (AV.ptr 100145 0)), (61, (Aa z27)), (62, (Ac (decide (z27 ≤ (200000))))), (68, t1), (69, (AV.ptr 100145 0)), (70, (Aa z29)), (71, (AV.tup [(Aa z33), (Ac b34)])), (67, (AV.tup [(Aa z33), (Ac b34)])), (72, (Aa z33)), (73, (Ac b34)), (18, (Aa z33)), (19, (Ac b34)), (74, (Ac b34)), (75, (Ac true)), (76, t13), (77, (AV.agg [(Aa z40), (Aa z41), (Ac b42), (Aa z43)])), (78, (AV.agg [(Aa z61), (Aa z62), (Aa z63), (Aa z64), (Aa z65), (Aa z66), (Aa z67), (Aa z68), (Aa z69), (Aa z70), (Aa z71), (Aa z72), (Aa z73), (Aa z74), (Aa z75), (Aa z76)])), (79, (Ac b78)), (80, (Ac b78)), (81, (Aa z33)), (82, (AV.ptr 100145 3)), (83, (AV.ptr 100145 0)), (84, (Aa z81)), (85, (Ac (decide (z81 > (200000))))), (86, t13), (87, (AV.fn 53 [(AV.ptr 100145 0)])), (88, (Aa z83)), (20, (Aa z83)), (89, (Aa z83)), (90, (Ac (decide (z83 < (0))))), (93, t13), (94, (Aa z83)), (95, (AV.agg [(Aa z102), (Aa z103), (Ac b104), (Aa z105)])), (96, v106), (97, v107), (98, (Aa (IntKind.wrap .i64 (t42 + (1)))))], m107, 200291⟩))) else (
Bg (Fe (Al m) (AV.ptr 100145 0)) fun v108 =>
Af v108 fun z109 =>
C4 pg (Al m) 3 (AV.ptr 100145 0) (Aa (IntKind.wrap .i64 (z109 + (1)))) fun v110 d110 =>
N1 ⟨[(1, t1), (6, (AV.ptr 0 0)), (8, t8), (9, (Aa t9)), (13, t13), (17, (AV.ptr 100145 0)), (40, t40), (41, (Aa t41)), (42, (Aa t42)), (60, (AV.ptr 100145 0)), (61, (Aa z27)), (62, (Ac (decide (z27 ≤ (200000))))), (68, t1), (69, (AV.ptr 100145 0)), (70, (Aa z29)), (71, (AV.tup [(Aa z33), (Ac b34)])), (67, (AV.tup [(Aa z33), (Ac b34)])), (72, (Aa z33)), (73, (Ac b34)), (18, (Aa z33)), (19, (Ac b34)), (74, (Ac b34)), (75, (Ac true)), (76, t13), (77, (AV.agg [(Aa z40), (Aa z41), (Ac b42), (Aa z43)])), (78, (AV.agg [(Aa z61), (Aa z62), (Aa z63), (Aa z64), (Aa z65), (Aa z66), (Aa z67), (Aa z68), (Aa z69), (Aa z70), (Aa z71), (Aa z72), (Aa z73), (Aa z74), (Aa z75), (Aa z76)])), (79, (Ac b78)), (80, (Ac b78)), (63, (AV.ptr 100145 0)), (64, (Aa z109)), (65, (Aa (IntKind.wrap .i64 (z109 + (1))))), (66, (AV.ptr 100145 0))], (Ae m d110), 200150⟩)) else (
Bg (Fe (Al m) (AV.ptr 100145 0)) fun v111 =>
Af v111 fun z112 =>
C4 pg (Al m) 3 (AV.ptr 100145 0) (Aa (IntKind.wrap .i64 (z112 + (1)))) fun v113 d113 =>
N1 ⟨[(1, t1), (6, (AV.ptr 0 0)), (8, t8), (9, (Aa t9)), (13, t13), (17, (AV.ptr 100145 0)), (40, t40), (41, (Aa t41)), (42, (Aa t42)), (60, (AV.ptr 100145 0)), (61, (Aa z27)), (62, (Ac (decide (z27 ≤ (200000))))), (68, t1), (69, (AV.ptr 100145 0)), (70, (Aa z29)), (71, (AV.tup [(Aa z33), (Ac b34)])), (67, (AV.tup [(Aa z33), (Ac b34)])), (72, (Aa z33)), (73, (Ac b34)), (18, (Aa z33)), (19, (Ac b34)), (74, (Ac b34)), (75, (Ac false)), (76, (AV.tup [])), (77, (AV.tup [])), (78, (AV.tup [])), (79, (AV.tup [])), (80, (Ac false)), (63, (AV.ptr 100145 0)), (64, (Aa z112)), (65, (Aa (IntKind.wrap .i64 (z112 + (1))))), (66, (AV.ptr 100145 0))], (Ae m d113), 200083⟩)) else (
Bg (Fe (Al m) (AV.ptr 100145 0)) fun v114 =>
Af v114 fun z115 =>
bif (decide (z115 > (200000))) then (
A4 R m [some AV.Cc, some (Aa (8))]) else (
Bv pg KK.gl m 52 [t13, (AV.fn 53 [(AV.ptr 100145 0)])] fun v116 =>
Af v116 fun z117 =>
bif (decide (z117 < (0))) then (
Bg (Dh t13) fun v118 =>
Af v118 fun z119 =>
Bg (Ju (Al m) 4 (AV.ptr 100145 0)) fun v120 =>
Jf v120 fun c121 c122 c123 c124 =>
Af c121 fun z125 =>
Af c122 fun z126 =>
G2 c123 fun b127 =>
Af c124 fun z128 =>
Fy (Ww 200081 37 4 1 [(Aa (0)), (Aa (0)), (Ac false), (Aa (0))] [(0, (AV.agg [(Aa z125), (Aa z126), (Ac b127), (Aa z128)]))]) m fun v129 m129 =>
Ed pg KK.gl m129 200082 54 [t13, (Aa z119), v129] fun v130 m130 =>
N0 ⟨[(1, t1), (6, (AV.ptr 0 0)), (8, t8), (9, (Aa t9)), (13, v130), (17, (AV.ptr 100145 0)), (40, t40), (41, (Aa t41)), (42, (Aa (IntKind.wrap .i64 (t42 + (1))))), (60, (AV.ptr 100145 0)), (61, (Aa z27)), (62, (Ac (decide (z27 ≤ (200000))))), (83, (AV.ptr 100145 0)), (84, (Aa z115)), (85, (Ac (decide (z115 > (200000))))), (86, t13), (87, (AV.fn 53 [(AV.ptr 100145 0)])), (88, (Aa z117)), (20, (Aa z119)), (89, (Aa z117)), (90, (Ac (decide (z117 < (0))))), (91, t13), (92, (Aa z119)), (93, t13), (94, (Aa z119)), (95, (AV.agg [(Aa z125), (Aa z126), (Ac b127), (Aa z128)])), (96, v129), (97, v130), (98, (Aa (IntKind.wrap .i64 (t42 + (1)))))], m130, 200149⟩) else (
Bg (Ju (Al m) 4 (AV.ptr 100145 0)) fun v131 =>
Jf v131 fun c132 c133 c134 c135 =>
Af c132 fun z136 =>
Af c133 fun z137 =>
G2 c134 fun b138 =>
Af c135 fun z139 =>
Fy (Ww 200078 37 4 1 [(Aa (0)), (Aa (0)), (Ac false), (Aa (0))] [(0, (AV.agg [(Aa z136), (Aa z137), (Ac b138), (Aa z139)]))]) m fun v140 m140 =>
Ed pg KK.gl m140 200079 54 [t13, (Aa z117), v140] fun v141 m141 =>
N0 ⟨[(1, t1), (6, (AV.ptr 0 0)), (8, t8), (9, (Aa t9)), (13, v141), (17, (AV.ptr 100145 0)), (40, t40), (41, (Aa t41)), (42, (Aa (IntKind.wrap .i64 (t42 + (1))))), (60, (AV.ptr 100145 0)), (61, (Aa z27)), (62, (Ac (decide (z27 ≤ (200000))))), (83, (AV.ptr 100145 0)), (84, (Aa z115)), (85, (Ac (decide (z115 > (200000))))), (86, t13), (87, (AV.fn 53 [(AV.ptr 100145 0)])), (88, (Aa z117)), (20, (Aa z117)), (89, (Aa z117)), (90, (Ac (decide (z117 < (0))))), (93, t13), (94, (Aa z117)), (95, (AV.agg [(Aa z136), (Aa z137), (Ac b138), (Aa z139)])), (96, v140), (97, v141), (98, (Aa (IntKind.wrap .i64 (t42 + (1)))))], m141, 200146⟩)))
theorem jH (t1 : AV) (t8 : AV) (t9 : Int) (t13 : AV) (t40 : AV) (t41 : Int) (t42 : Int) (m : Mem) (R : AV → Mem → Prop) (N0 : St → Prop) (N1 : St → Prop) : W pg KK 100 0 Ux (Ot t1 t8 t9 t13 t40 t41 t42 m) (sG R N0 N1) = Vo t1 t8 t9 t13 t40 t41 t42 m R N0 N1 := by kernel_rfl
theorem yV (R : AV → Mem → Prop) (N0 : St → Prop) {σ : Type} (I : σ → Prop) (t1 : σ → AV) (t8 : σ → AV) (t9 : σ → Int) (t13 : σ → AV) (t40 : σ → AV) (t41 : σ → Int) (t42 : σ → Int) (m : σ → Mem) (μ : σ → Nat) (step : ∀ x, I x → Vo (t1 x) (t8 x) (t9 x) (t13 x) (t40 x) (t41 x) (t42 x) (m x) R N0 (fun s' => ∃ y, I y ∧ μ y < μ x ∧ Bo KK 100 0 s' (Ot (t1 y) (t8 y) (t9 y) (t13 y) (t40 y) (t41 y) (t42 y) (m y)))) (x : σ) (hx : I x) {s : St} (hw : Bo KK 100 0 s (Ot (t1 x) (t8 x) (t9 x) (t13 x) (t40 x) (t41 x) (t42 x) (m x))) : Ca pg KK 100 0 (.loop Ux) s (Vb R N0) :=
  Ca.Fk hw (Ca.loops Ee I (fun x => Ot (t1 x) (t8 x) (t9 x) (t13 x) (t40 x) (t41 x) (t42 x) (m x)) μ (fun x hx => (jH (t1 x) (t8 x) (t9 x) (t13 x) (t40 x) (t41 x) (t42 x) (m x) R N0 _).mpr (step x hx)) x hx)
noncomputable def F9 (a0 : AV) (a1 : AV) (a2_0 : Int) (a2_1 : Int) (a2_2 : Int) (a2_3 : Int) (a2_4 : Int) (a2_5 : Int) (a2_6 : Int) (a2_7 : Int) (a2_8 : Int) (a2_9 : Int) (a2_10 : Int) (a2_11 : Int) (a2_12 : Int) (a2_13 : Int) (a2_14 : Int) (a2_15 : Int) (a3 : AV) (R : AV → Mem → Prop) : Prop :=
Bv pg KK.gl ((0, some ⟨[(Aa a2_0), (Aa a2_1), (Aa a2_2), (Aa a2_3), (Aa a2_4), (Aa a2_5), (Aa a2_6), (Aa a2_7), (Aa a2_8), (Aa a2_9), (Aa a2_10), (Aa a2_11), (Aa a2_12), (Aa a2_13), (Aa a2_14), (Aa a2_15)], 25⟩) :: []) 7 [a0, a1, (AV.agg [(Aa a2_0), (Aa a2_1), (Aa a2_2), (Aa a2_3), (Aa a2_4), (Aa a2_5), (Aa a2_6), (Aa a2_7), (Aa a2_8), (Aa a2_9), (Aa a2_10), (Aa a2_11), (Aa a2_12), (Aa a2_13), (Aa a2_14), (Aa a2_15)])] fun v0 =>
mN v0 fun c1 c2 c3 =>
Af c1 fun z4 =>
Af c2 fun z5 =>
Af c3 fun z6 =>
bif (z6 != (0)) then (
A4 R ((0, some ⟨[(Aa a2_0), (Aa a2_1), (Aa a2_2), (Aa a2_3), (Aa a2_4), (Aa a2_5), (Aa a2_6), (Aa a2_7), (Aa a2_8), (Aa a2_9), (Aa a2_10), (Aa a2_11), (Aa a2_12), (Aa a2_13), (Aa a2_14), (Aa a2_15)], 25⟩) :: []) [some AV.Cc, some (Aa z6)]) else (
Bg (Dh a0) fun v7 =>
Af v7 fun z8 =>
Bg (Dh a3) fun v9 =>
Af v9 fun z10 =>
bif (decide ((IntKind.wrap .i64 (z8 + z10)) > (24))) then (
A4 R ((0, some ⟨[(Aa a2_0), (Aa a2_1), (Aa a2_2), (Aa a2_3), (Aa a2_4), (Aa a2_5), (Aa a2_6), (Aa a2_7), (Aa a2_8), (Aa a2_9), (Aa a2_10), (Aa a2_11), (Aa a2_12), (Aa a2_13), (Aa a2_14), (Aa a2_15)], 25⟩) :: []) [some AV.Cc, some (Aa (2))]) else (
Ed pg KK.gl ((0, some ⟨[(Aa a2_0), (Aa a2_1), (Aa a2_2), (Aa a2_3), (Aa a2_4), (Aa a2_5), (Aa a2_6), (Aa a2_7), (Aa a2_8), (Aa a2_9), (Aa a2_10), (Aa a2_11), (Aa a2_12), (Aa a2_13), (Aa a2_14), (Aa a2_15)], 25⟩) :: []) 86 11 [a0] fun v11 m11 =>
Bg (Dh a3) fun v12 =>
Af v12 fun z13 =>
Ca pg KK 100 0 (.loop gV) ⟨[(0, a0), (1, a1), (2, (AV.agg [(Aa a2_0), (Aa a2_1), (Aa a2_2), (Aa a2_3), (Aa a2_4), (Aa a2_5), (Aa a2_6), (Aa a2_7), (Aa a2_8), (Aa a2_9), (Aa a2_10), (Aa a2_11), (Aa a2_12), (Aa a2_13), (Aa a2_14), (Aa a2_15)])), (3, a3), (6, (AV.ptr 0 0)), (8, AV.Cc), (9, (Aa (0))), (22, a0), (23, a1), (24, (AV.agg [(Aa a2_0), (Aa a2_1), (Aa a2_2), (Aa a2_3), (Aa a2_4), (Aa a2_5), (Aa a2_6), (Aa a2_7), (Aa a2_8), (Aa a2_9), (Aa a2_10), (Aa a2_11), (Aa a2_12), (Aa a2_13), (Aa a2_14), (Aa a2_15)])), (25, (AV.tup [(Aa z4), (Aa z5), (Aa z6)])), (21, (AV.tup [(Aa z4), (Aa z5), (Aa z6)])), (26, (Aa z4)), (27, (Aa z5)), (28, (Aa z6)), (10, (Aa z4)), (11, (Aa z5)), (12, (Aa z6)), (29, (Aa z6)), (30, (Ac (z6 != (0)))), (32, a0), (33, (Aa z8)), (34, a3), (35, (Aa z10)), (36, (Aa (IntKind.wrap .i64 (z8 + z10)))), (37, (Ac (decide ((IntKind.wrap .i64 (z8 + z10)) > (24))))), (38, a0), (39, v11), (13, v11), (40, a3), (41, (Aa z13)), (42, (Aa (0)))], m11, 154⟩ (sW R)))
theorem yR (a0 : AV) (a1 : AV) (a2_0 : Int) (a2_1 : Int) (a2_2 : Int) (a2_3 : Int) (a2_4 : Int) (a2_5 : Int) (a2_6 : Int) (a2_7 : Int) (a2_8 : Int) (a2_9 : Int) (a2_10 : Int) (a2_11 : Int) (a2_12 : Int) (a2_13 : Int) (a2_14 : Int) (a2_15 : Int) (a3 : AV) (R : AV → Mem → Prop) (h : F9 a0 a1 a2_0 a2_1 a2_2 a2_3 a2_4 a2_5 a2_6 a2_7 a2_8 a2_9 a2_10 a2_11 a2_12 a2_13 a2_14 a2_15 a3 R) : Own pg KK.gl 9 [a0, a1, (AV.agg [(Aa a2_0), (Aa a2_1), (Aa a2_2), (Aa a2_3), (Aa a2_4), (Aa a2_5), (Aa a2_6), (Aa a2_7), (Aa a2_8), (Aa a2_9), (Aa a2_10), (Aa a2_11), (Aa a2_12), (Aa a2_13), (Aa a2_14), (Aa a2_15)]), a3] R := Bj Ee Tryz.func9 (code := c9) (by kernel_rfl) (by kernel_rfl) (by kernel_rfl) (X := F9 a0 a1 a2_0 a2_1 a2_2 a2_3 a2_4 a2_5 a2_6 a2_7 a2_8 a2_9 a2_10 a2_11 a2_12 a2_13 a2_14 a2_15 a3 R) (by kernel_rfl) h
noncomputable def Ho : Code := ((Tryz.f13).body).getD .skip
noncomputable def q13 (R : AV → Mem → Prop) : A9 → St → Prop := Dj pg Tryz.f13 R
noncomputable def dI : Code := Dt Ho 0
noncomputable def cJ (R : AV → Mem → Prop) : A9 → St → Prop := Du pg KK 26 0 Ho 0 (q13 R)
noncomputable def zI (R : AV → Mem → Prop) (N0 : St → Prop) : A9 → St → Prop := Dv N0 (cJ R)
def Tj (t0 : AV) (t1 : AV) (t4 : Bool) (t12 : Int) (t13 : Int) (m : Mem) : St := ⟨[(0, t0), (1, t1), (4, (Ac t4)), (12, (Aa t12)), (13, (Aa t13))], m, 100000⟩
noncomputable def bI (t0 : AV) (t1 : AV) (t4 : Bool) (t12 : Int) (t13 : Int) (m : Mem) (R : AV → Mem → Prop) (N0 : St → Prop) : Prop :=
bif (decide (t13 < t12)) then (
Bg (Db 4 t0 (Aa t13)) fun v6 =>
Bg (Ju (Al m) 4 v6) fun v7 =>
Jf v7 fun c8 c9 c10 Oh =>
Af c8 fun z12 =>
Af c9 fun z13 =>
G2 c10 fun b14 =>
Af Oh fun z15 =>
Bg (Db 4 t1 (Aa t13)) fun v16 =>
Bg (Ju (Al m) 4 v16) fun v17 =>
Jf v17 fun c18 c19 c20 c21 =>
Af c18 fun z22 =>
Af c19 fun z23 =>
G2 c20 fun b24 =>
Af c21 fun z25 =>
Bg (B9 pg (.binOp .neq 37 (.tmp 0) (.tmp 1) 37) 4 [(AV.agg [(Aa z12), (Aa z13), (Ac b14), (Aa z15)]), (AV.agg [(Aa z22), (Aa z23), (Ac b24), (Aa z25)])] (Al m) 100011) fun v26 =>
G2 v26 fun b27 =>
bif b27 then (
A4 R m [some (Ac false)]) else (
N0 ⟨[(0, t0), (1, t1), (4, (Ac t4)), (12, (Aa t12)), (13, (Aa (IntKind.wrap .i64 (t13 + (1))))), (14, (Ac (decide (t13 < t12)))), (15, (Aa t13)), (5, (Aa t13)), (16, t0), (17, (Aa t13)), (18, v6), (19, (AV.agg [(Aa z12), (Aa z13), (Ac b14), (Aa z15)])), (20, t1), (21, (Aa t13)), (22, v16), (23, (AV.agg [(Aa z22), (Aa z23), (Ac b24), (Aa z25)])), (24, (Ac b27)), (25, (Aa (IntKind.wrap .i64 (t13 + (1)))))], m, 100014⟩)) else (
A4 R m [some (Ac true)])
theorem lI (t0 : AV) (t1 : AV) (t4 : Bool) (t12 : Int) (t13 : Int) (m : Mem) (R : AV → Mem → Prop) (N0 : St → Prop) : W pg KK 26 0 dI (Tj t0 t1 t4 t12 t13 m) (zI R N0) = bI t0 t1 t4 t12 t13 m R N0 := by kernel_rfl
theorem Ac7 (R : AV → Mem → Prop) {σ : Type} (I : σ → Prop) (t0 : σ → AV) (t1 : σ → AV) (t4 : σ → Bool) (t12 : σ → Int) (t13 : σ → Int) (m : σ → Mem) (μ : σ → Nat) (step : ∀ x, I x → bI (t0 x) (t1 x) (t4 x) (t12 x) (t13 x) (m x) R (fun s' => ∃ y, I y ∧ μ y < μ x ∧ Bo KK 26 0 s' (Tj (t0 y) (t1 y) (t4 y) (t12 y) (t13 y) (m y)))) (x : σ) (hx : I x) {s : St} (hw : Bo KK 26 0 s (Tj (t0 x) (t1 x) (t4 x) (t12 x) (t13 x) (m x))) : Ca pg KK 26 0 (.loop dI) s (cJ R) :=
  Ca.Fk hw (Ca.loops Ee I (fun x => Tj (t0 x) (t1 x) (t4 x) (t12 x) (t13 x) (m x)) μ (fun x hx => (lI (t0 x) (t1 x) (t4 x) (t12 x) (t13 x) (m x) R _).mpr (step x hx)) x hx)
noncomputable def F13 (a0 : AV) (a1 : AV) (R : AV → Mem → Prop) : Prop :=
Bg (Dh a0) fun v0 =>
Af v0 fun z1 =>
Bg (Dh a1) fun v2 =>
Af v2 fun z3 =>
bif (z1 != z3) then (
A4 R [] [some (Ac false)]) else (
Bg (Dh a0) fun v4 =>
Af v4 fun z5 =>
Ca pg KK 26 0 (.loop dI) ⟨[(0, a0), (1, a1), (4, (Ac false)), (6, a0), (7, (Aa z1)), (8, a1), (9, (Aa z3)), (10, (Ac (z1 != z3))), (11, a0), (12, (Aa z5)), (13, (Aa (0)))], [], 9⟩ (cJ R))
theorem vF (a0 : AV) (a1 : AV) (R : AV → Mem → Prop) (h : F13 a0 a1 R) : Own pg KK.gl 13 [a0, a1] R := Bj Ee Tryz.func13 (code := Ho) (by kernel_rfl) (by kernel_rfl) (by kernel_rfl) (X := F13 a0 a1 R) (by kernel_rfl) h
noncomputable def Q6 : Code := ((Tryz.f12).body).getD .skip
noncomputable def q12 (R : AV → Mem → Prop) : A9 → St → Prop := Dj pg Tryz.f12 R
noncomputable def F12 (a0_0 : Int) (a0_1 : Int) (a0_2 : Bool) (a0_3 : Int) (R : AV → Mem → Prop) : Prop :=
A4 R ((0, some ⟨[(Aa a0_0), (Aa a0_1), (Ac a0_2), (Aa a0_3)], 37⟩) :: []) [some (Ac a0_2)]
theorem tW (a0_0 : Int) (a0_1 : Int) (a0_2 : Bool) (a0_3 : Int) (R : AV → Mem → Prop) (h : F12 a0_0 a0_1 a0_2 a0_3 R) : Own pg KK.gl 12 [(AV.agg [(Aa a0_0), (Aa a0_1), (Ac a0_2), (Aa a0_3)])] R := Bj Ee Tryz.func12 (code := Q6) (by kernel_rfl) (by kernel_rfl) (by kernel_rfl) (X := F12 a0_0 a0_1 a0_2 a0_3 R) (by kernel_rfl) h
noncomputable def c3 : Code := ((Tryz.f3).body).getD .skip
noncomputable def q3 (R : AV → Mem → Prop) : A9 → St → Prop := Dj pg Tryz.f3 R
noncomputable def Cb : Code := Dt c3 0
noncomputable def xD (R : AV → Mem → Prop) : A9 → St → Prop := Du pg KK 154 0 c3 0 (q3 R)
noncomputable def Adi (R : AV → Mem → Prop) (N0 : St → Prop) : A9 → St → Prop := Dv N0 (xD R)
def iU (t0 : AV) (t2 : Int) (t3 : AV) (t8 : Bool) (t9 : AV) (t10 : AV) (t12 : AV) (t67 : AV) (t68 : Int) (t69 : Int) (m : Mem) : St := ⟨[(0, t0), (2, (Aa t2)), (3, t3), (5, (AV.ptr 0 0)), (8, (Ac t8)), (9, t9), (10, t10), (12, t12), (67, t67), (68, (Aa t68)), (69, (Aa t69))], m, 100000⟩
noncomputable def vI (t0 : AV) (t2 : Int) (t3 : AV) (t8 : Bool) (t9 : AV) (t10 : AV) (t12 : AV) (t67 : AV) (t68 : Int) (t69 : Int) (m : Mem) (R : AV → Mem → Prop) (N0 : St → Prop) : Prop :=
bif (decide (t69 < t68)) then (
Bg (Db 1 t67 (Aa t69)) fun v27 =>
Bg (Fe (Al m) v27) fun v28 =>
Af v28 fun z29 =>
bif (decide (z29 < (0))) then (
A4 R m [some (Ac false)]) else (
Bg (Dh t0) fun v30 =>
Af v30 fun z31 =>
bif (decide (z29 ≥ z31)) then (
A4 R m [some (Ac false)]) else (
E8 (Db 1 t10 (Aa t69)) fun v32 d32 =>
E8 (Fe (B3 (Ae m d32) (Ax v32 ++ ([]))) v32) fun v33 d33 =>
Af v33 fun z34 =>
E8 (Db 4 t0 (Aa z29)) fun v35 d35 =>
E8 (E1 1 v35) fun v36 d36 =>
E8 (Fe (B3 (Ae (Ae (Ae (Ae m d32) d33) d35) d36) (Ax v36 ++ ([]))) v36) fun v37 d37 =>
Af v37 fun z38 =>
E8 (Wx [(Aa (0)), (Aa (0)), (Ac false), (Aa (0))] [(0, 1), (1, 1), (2, 1), (3, 1)] [(0, (Aa z34)), (1, (Aa z38))]) fun v39 d39 =>
E8 (Ww 100025 37 4 1 [(Aa (0)), (Aa (0)), (Ac false), (Aa (0))] [(0, v39)]) fun v40 d40 =>
E8 (app (B3 (Ae (Ae (Ae (Ae (Ae (Ae (Ae m d32) d33) d35) d36) d37) d39) d40) (Ax t12 ++ (Ax v40 ++ ([])))) 37 4 32 [(Aa (0)), (Aa (0)), (Ac false), (Aa (0))] 100026 t12 v40) fun v41 d41 =>
Mo (D1 [0, 0, 0, 6, 14, 0, 0, 96, 224, 480, 1022, 2046, 4095, 8191] [⟨[], []⟩, ⟨[], []⟩, ⟨[], []⟩, ⟨d32, []⟩, ⟨d33, (Ax v32 ++ ([]))⟩, ⟨[], []⟩, ⟨[], []⟩, ⟨d35, []⟩, ⟨d36, []⟩, ⟨d37, (Ax v36 ++ ([]))⟩, ⟨d39, []⟩, ⟨d40, []⟩, ⟨d41, (Ax t12 ++ (Ax v40 ++ ([])))⟩, ⟨[], []⟩]) (N0 ⟨[(0, t0), (2, (Aa t2)), (3, t3), (5, (AV.ptr 0 0)), (8, (Ac t8)), (9, t9), (10, t10), (12, v41), (67, t67), (68, (Aa t68)), (69, (Aa (IntKind.wrap .i64 (t69 + (1))))), (70, (Ac (decide (t69 < t68)))), (71, (Aa t69)), (72, v27), (73, (Aa z29)), (13, (Aa t69)), (14, (Aa z29)), (74, (Aa z29)), (75, (Ac (decide (z29 < (0))))), (76, (Ac false)), (77, (Aa z29)), (78, t0), (79, (Aa z31)), (80, (Ac (decide (z29 ≥ z31)))), (81, (Ac (decide (z29 ≥ z31)))), (82, t12), (83, t10), (84, (Aa t69)), (85, v32), (86, (Aa z34)), (87, t0), (88, (Aa z29)), (89, v35), (90, v36), (91, (Aa z38)), (92, v39), (93, v40), (94, v41), (95, (Aa (IntKind.wrap .i64 (t69 + (1)))))], (Ae (Ae (Ae (Ae (Ae (Ae (Ae (Ae m d32) d33) d35) d36) d37) d39) d40) d41), 100030⟩)))) else (
Bg (Wx [(Aa (0)), (Aa (0))] [(0, 1), (1, 1)] []) fun v42 =>
Fy (Ww 100002 39 2 1 [(Aa (0)), (Aa (0))] [(0, v42)]) m fun v43 m43 =>
Bg (Ju (Al m43) 16 (AV.ptr 0 0)) fun v44 =>
X9 v44 fun tG rX c47 zV c49 c50 c51 c52 c53 c54 c55 c56 c57 c58 c59 c60 =>
Af tG fun z61 =>
Af rX fun z62 =>
Af c47 fun z63 =>
Af zV fun z64 =>
Af c49 fun z65 =>
Af c50 fun z66 =>
Af c51 fun z67 =>
Af c52 fun z68 =>
Af c53 fun z69 =>
Af c54 fun z70 =>
Af c55 fun z71 =>
Af c56 fun z72 =>
Af c57 fun z73 =>
Af c58 fun z74 =>
Af c59 fun z75 =>
Af c60 fun z76 =>
Bv pg KK.gl m43 7 [t12, v43, (AV.agg [(Aa z61), (Aa z62), (Aa z63), (Aa z64), (Aa z65), (Aa z66), (Aa z67), (Aa z68), (Aa z69), (Aa z70), (Aa z71), (Aa z72), (Aa z73), (Aa z74), (Aa z75), (Aa z76)])] fun v77 =>
mN v77 fun c78 c79 c80 =>
Af c78 fun z81 =>
Af c79 fun z82 =>
Af c80 fun z83 =>
Bv pg KK.gl m43 8 [t0, t9] fun v84 =>
Iw v84 fun c85 c86 =>
Af c85 fun z87 =>
Af c86 fun z88 =>
Bg (Ju (Al m43) 16 (AV.ptr 0 0)) fun v89 =>
X9 v89 fun c90 c91 c92 c93 c94 c95 c96 c97 c98 c99 c100 c101 c102 c103 c104 c105 =>
Af c90 fun z106 =>
Af c91 fun z107 =>
Af c92 fun z108 =>
Af c93 fun z109 =>
Af c94 fun z110 =>
Af c95 fun z111 =>
Af c96 fun z112 =>
Af c97 fun z113 =>
Af c98 fun z114 =>
Af c99 fun z115 =>
Af c100 fun z116 =>
Af c101 fun z117 =>
Af c102 fun z118 =>
Af c103 fun z119 =>
Af c104 fun z120 =>
Af c105 fun z121 =>
Ed pg KK.gl m43 100153 9 [t12, v43, (AV.agg [(Aa z106), (Aa z107), (Aa z108), (Aa z109), (Aa z110), (Aa z111), (Aa z112), (Aa z113), (Aa z114), (Aa z115), (Aa z116), (Aa z117), (Aa z118), (Aa z119), (Aa z120), (Aa z121)]), t3] fun v122 m122 =>
Iw v122 fun c123 c124 =>
Af c124 fun z125 =>
bif (z83 != (0)) then (
A4 R m122 [some (Ac false)]) else (
bif (z88 != (0)) then (
A4 R m122 [some (Ac false)]) else (
bif (decide (z87 > t2)) then (
A4 R m122 [some (Ac false)]) else (
bif (z125 != (0)) then (
Bg (Dh c123) fun v126 =>
Af v126 fun z127 =>
A4 R m122 [some (Ac (z127 == (0)))]) else (
Bg (Ju (Al m122) 16 (AV.ptr 0 0)) fun v128 =>
X9 v128 fun c129 c130 c131 c132 c133 c134 c135 c136 c137 c138 c139 c140 Aa7 Abn c143 c144 =>
Af c129 fun z145 =>
Af c130 fun z146 =>
Af c131 fun z147 =>
Af c132 fun z148 =>
Af c133 fun z149 =>
Af c134 fun z150 =>
Af c135 fun z151 =>
Af c136 fun z152 =>
Af c137 fun z153 =>
Af c138 fun z154 =>
Af c139 fun z155 =>
Af c140 fun z156 =>
Af Aa7 fun z157 =>
Af Abn fun z158 =>
Af c143 fun z159 =>
Af c144 fun z160 =>
Bv pg KK.gl m122 7 [c123, v43, (AV.agg [(Aa z145), (Aa z146), (Aa z147), (Aa z148), (Aa z149), (Aa z150), (Aa z151), (Aa z152), (Aa z153), (Aa z154), (Aa z155), (Aa z156), (Aa z157), (Aa z158), (Aa z159), (Aa z160)])] fun v161 =>
mN v161 fun c162 c163 c164 =>
Af c162 fun z165 =>
Af c163 fun z166 =>
Af c164 fun z167 =>
Ed pg KK.gl m122 100310 11 [c123] fun v168 m168 =>
Ed pg KK.gl m168 100374 10 [v168, (AV.fn 12 [])] fun v169 m169 =>
bif (z167 == (0)) then (
Bv pg KK.gl m169 13 [v169, t12] fun v170 =>
G2 v170 fun b171 =>
A4 R m169 [some (Ac b171)]) else (
A4 R m169 [some (Ac false)]))))))
theorem pZ (t0 : AV) (t2 : Int) (t3 : AV) (t8 : Bool) (t9 : AV) (t10 : AV) (t12 : AV) (t67 : AV) (t68 : Int) (t69 : Int) (m : Mem) (R : AV → Mem → Prop) (N0 : St → Prop) : W pg KK 154 0 Cb (iU t0 t2 t3 t8 t9 t10 t12 t67 t68 t69 m) (Adi R N0) = vI t0 t2 t3 t8 t9 t10 t12 t67 t68 t69 m R N0 := by kernel_rfl
theorem Aez (R : AV → Mem → Prop) {σ : Type} (I : σ → Prop) (t0 : σ → AV) (t2 : σ → Int) (t3 : σ → AV) (t8 : σ → Bool) (t9 : σ → AV) (t10 : σ → AV) (t12 : σ → AV) (t67 : σ → AV) (t68 : σ → Int) (t69 : σ → Int) (m : σ → Mem) (μ : σ → Nat) (step : ∀ x, I x → vI (t0 x) (t2 x) (t3 x) (t8 x) (t9 x) (t10 x) (t12 x) (t67 x) (t68 x) (t69 x) (m x) R (fun s' => ∃ y, I y ∧ μ y < μ x ∧ Bo KK 154 0 s' (iU (t0 y) (t2 y) (t3 y) (t8 y) (t9 y) (t10 y) (t12 y) (t67 y) (t68 y) (t69 y) (m y)))) (x : σ) (hx : I x) {s : St} (hw : Bo KK 154 0 s (iU (t0 x) (t2 x) (t3 x) (t8 x) (t9 x) (t10 x) (t12 x) (t67 x) (t68 x) (t69 x) (m x))) : Ca pg KK 154 0 (.loop Cb) s (xD R) :=
  Ca.Fk hw (Ca.loops Ee I (fun x => iU (t0 x) (t2 x) (t3 x) (t8 x) (t9 x) (t10 x) (t12 x) (t67 x) (t68 x) (t69 x) (m x)) μ (fun x hx => (pZ (t0 x) (t2 x) (t3 x) (t8 x) (t9 x) (t10 x) (t12 x) (t67 x) (t68 x) (t69 x) (m x) R _).mpr (step x hx)) x hx)
noncomputable def F3 (a0 : AV) (a1_0 : Int) (a1_1 : Int) (a1_2 : Int) (a1_3 : Int) (a1_4 : Int) (a1_5 : Int) (a1_6 : Int) (a1_7 : Int) (a1_8 : Int) (a1_9 : Int) (a1_10 : Int) (a1_11 : Int) (a1_12 : Int) (a1_13 : Int) (a1_14 : Int) (a1_15 : Int) (a2 : Int) (a3 : AV) (R : AV → Mem → Prop) : Prop :=
Bv pg KK.gl ((0, some ⟨[(Aa a1_0), (Aa a1_1), (Aa a1_2), (Aa a1_3), (Aa a1_4), (Aa a1_5), (Aa a1_6), (Aa a1_7), (Aa a1_8), (Aa a1_9), (Aa a1_10), (Aa a1_11), (Aa a1_12), (Aa a1_13), (Aa a1_14), (Aa a1_15)], 25⟩) :: []) 4 [] fun v0 =>
G2 v0 fun b1 =>
bif (!b1) then (
A4 R ((0, some ⟨[(Aa a1_0), (Aa a1_1), (Aa a1_2), (Aa a1_3), (Aa a1_4), (Aa a1_5), (Aa a1_6), (Aa a1_7), (Aa a1_8), (Aa a1_9), (Aa a1_10), (Aa a1_11), (Aa a1_12), (Aa a1_13), (Aa a1_14), (Aa a1_15)], 25⟩) :: []) [some (Ac false)]) else (
Bg (Dh a0) fun v2 =>
Af v2 fun z3 =>
bif (decide (z3 > (6))) then (
A4 R ((0, some ⟨[(Aa a1_0), (Aa a1_1), (Aa a1_2), (Aa a1_3), (Aa a1_4), (Aa a1_5), (Aa a1_6), (Aa a1_7), (Aa a1_8), (Aa a1_9), (Aa a1_10), (Aa a1_11), (Aa a1_12), (Aa a1_13), (Aa a1_14), (Aa a1_15)], 25⟩) :: []) [some (Ac true)]) else (
Bg (Dh a3) fun v4 =>
Af v4 fun z5 =>
bif (decide (z5 > (8))) then (
A4 R ((0, some ⟨[(Aa a1_0), (Aa a1_1), (Aa a1_2), (Aa a1_3), (Aa a1_4), (Aa a1_5), (Aa a1_6), (Aa a1_7), (Aa a1_8), (Aa a1_9), (Aa a1_10), (Aa a1_11), (Aa a1_12), (Aa a1_13), (Aa a1_14), (Aa a1_15)], 25⟩) :: []) [some (Ac true)]) else (
Bv pg KK.gl ((0, some ⟨[(Aa a1_0), (Aa a1_1), (Aa a1_2), (Aa a1_3), (Aa a1_4), (Aa a1_5), (Aa a1_6), (Aa a1_7), (Aa a1_8), (Aa a1_9), (Aa a1_10), (Aa a1_11), (Aa a1_12), (Aa a1_13), (Aa a1_14), (Aa a1_15)], 25⟩) :: []) 5 [(Aa a2), (Aa (4))] fun v6 =>
Af v6 fun z7 =>
Ed pg KK.gl ((0, some ⟨[(Aa a1_0), (Aa a1_1), (Aa a1_2), (Aa a1_3), (Aa a1_4), (Aa a1_5), (Aa a1_6), (Aa a1_7), (Aa a1_8), (Aa a1_9), (Aa a1_10), (Aa a1_11), (Aa a1_12), (Aa a1_13), (Aa a1_14), (Aa a1_15)], 25⟩) :: []) 144 6 [a0, (AV.agg [(Aa a1_0), (Aa a1_1), (Aa a1_2), (Aa a1_3), (Aa a1_4), (Aa a1_5), (Aa a1_6), (Aa a1_7), (Aa a1_8), (Aa a1_9), (Aa a1_10), (Aa a1_11), (Aa a1_12), (Aa a1_13), (Aa a1_14), (Aa a1_15)]), (Aa z7)] fun v8 m8 =>
mN v8 fun c9 c10 Oh =>
Af Oh fun z12 =>
bif (z12 != (0)) then (
Bg (Dh c9) fun v13 =>
Af v13 fun z14 =>
Bg (Dh c10) fun v15 =>
Af v15 fun z16 =>
A4 R m8 [some (Ac ((IntKind.wrap .i64 (z14 + z16)) == (0)))]) else (
Bg (Dh c9) fun v17 =>
Af v17 fun z18 =>
Bg (Dh a0) fun v19 =>
Af v19 fun z20 =>
bif (z18 != z20) then (
A4 R m8 [some (Ac false)]) else (
Bg (Dh c10) fun v21 =>
Af v21 fun z22 =>
Bg (Dh a0) fun v23 =>
Af v23 fun z24 =>
bif (z22 != z24) then (
A4 R m8 [some (Ac false)]) else (
Bg (Dh c9) fun v25 =>
Af v25 fun z26 =>
Ca pg KK 154 0 (.loop Cb) ⟨[(0, a0), (1, (AV.agg [(Aa a1_0), (Aa a1_1), (Aa a1_2), (Aa a1_3), (Aa a1_4), (Aa a1_5), (Aa a1_6), (Aa a1_7), (Aa a1_8), (Aa a1_9), (Aa a1_10), (Aa a1_11), (Aa a1_12), (Aa a1_13), (Aa a1_14), (Aa a1_15)])), (2, (Aa z7)), (3, a3), (5, (AV.ptr 0 0)), (8, (Ac false)), (27, (Ac b1)), (28, (Ac (!b1))), (29, a0), (30, (Aa z3)), (31, (Ac (decide (z3 > (6))))), (32, (Ac false)), (33, a3), (34, (Aa z5)), (35, (Ac (decide (z5 > (8))))), (36, (Ac (decide (z5 > (8))))), (37, (Aa a2)), (38, (Aa z7)), (40, a0), (41, (AV.agg [(Aa a1_0), (Aa a1_1), (Aa a1_2), (Aa a1_3), (Aa a1_4), (Aa a1_5), (Aa a1_6), (Aa a1_7), (Aa a1_8), (Aa a1_9), (Aa a1_10), (Aa a1_11), (Aa a1_12), (Aa a1_13), (Aa a1_14), (Aa a1_15)])), (42, (Aa z7)), (43, (AV.tup [c9, c10, (Aa z12)])), (39, (AV.tup [c9, c10, (Aa z12)])), (44, c9), (45, c10), (46, (Aa z12)), (9, c9), (10, c10), (11, (Aa z12)), (47, (Aa z12)), (48, (Ac (z12 != (0)))), (55, c9), (56, (Aa z18)), (57, a0), (58, (Aa z20)), (59, (Ac (z18 != z20))), (60, (Ac false)), (61, c10), (62, (Aa z22)), (63, a0), (64, (Aa z24)), (65, (Ac (z22 != z24))), (66, (Ac (z22 != z24))), (12, AV.Cc), (67, c9), (68, (Aa z26)), (69, (Aa (0)))], m8, 233⟩ (xD R)))))))
theorem Aba (a0 : AV) (a1_0 : Int) (a1_1 : Int) (a1_2 : Int) (a1_3 : Int) (a1_4 : Int) (a1_5 : Int) (a1_6 : Int) (a1_7 : Int) (a1_8 : Int) (a1_9 : Int) (a1_10 : Int) (a1_11 : Int) (a1_12 : Int) (a1_13 : Int) (a1_14 : Int) (a1_15 : Int) (a2 : Int) (a3 : AV) (R : AV → Mem → Prop) (h : F3 a0 a1_0 a1_1 a1_2 a1_3 a1_4 a1_5 a1_6 a1_7 a1_8 a1_9 a1_10 a1_11 a1_12 a1_13 a1_14 a1_15 a2 a3 R) : Own pg KK.gl 3 [a0, (AV.agg [(Aa a1_0), (Aa a1_1), (Aa a1_2), (Aa a1_3), (Aa a1_4), (Aa a1_5), (Aa a1_6), (Aa a1_7), (Aa a1_8), (Aa a1_9), (Aa a1_10), (Aa a1_11), (Aa a1_12), (Aa a1_13), (Aa a1_14), (Aa a1_15)]), (Aa a2), a3] R := Bj Ee Tryz.func3 (code := c3) (by kernel_rfl) (by kernel_rfl) (by kernel_rfl) (X := F3 a0 a1_0 a1_1 a1_2 a1_3 a1_4 a1_5 a1_6 a1_7 a1_8 a1_9 a1_10 a1_11 a1_12 a1_13 a1_14 a1_15 a2 a3 R) (by kernel_rfl) h
noncomputable def Oh : Code := ((Tryz.f11).body).getD .skip
noncomputable def q11 (R : AV → Mem → Prop) : A9 → St → Prop := Dj pg Tryz.f11 R
noncomputable def F11 (a0 : AV) (R : AV → Mem → Prop) : Prop :=
T4 a0 fun b0 =>
bif b0 then (
A4 R [] [some AV.Cc]) else (
Fy (Ww 3 37 4 0 [(Aa (0)), (Aa (0)), (Ac false), (Aa (0))] []) [] fun v2 m2 =>
Fy (app (Al m2) 37 4 32 [(Aa (0)), (Aa (0)), (Ac false), (Aa (0))] 5 v2 a0) m2 fun v3 m3 =>
A4 R m3 [some v3])
theorem eM (a0 : AV) (R : AV → Mem → Prop) (h : F11 a0 R) : Own pg KK.gl 11 [a0] R := Bj Ee Tryz.func11 (code := Oh) (by kernel_rfl) (by kernel_rfl) (by kernel_rfl) (X := F11 a0 R) (by kernel_rfl) h
noncomputable def Agx : Code := ((Tryz.f113).body).getD .skip
noncomputable def Ahl (R : AV → Mem → Prop) : A9 → St → Prop := Dj pg Tryz.f113 R
noncomputable def Agu (a0 : AV) (R : AV → Mem → Prop) : Prop :=
T4 a0 fun b0 =>
bif b0 then (
A4 R [] [some AV.Cc]) else (
Fy (Ww 3 3 1 0 [(Aa (0))] []) [] fun v2 m2 =>
Fy (app (Al m2) 3 1 8 [(Aa (0))] 5 v2 a0) m2 fun v3 m3 =>
A4 R m3 [some v3])
end Go.Proofs.YtbfabclpcamlnaaGreatDoor
