/- A part. -/
import Derived.Test.YtbfabclpcamlnaaGreatDoorX1T
set_option linter.unusedVariables false
set_option maxRecDepth 100000
set_option maxHeartbeats 4000000
namespace Go.Proofs.YtbfabclpcamlnaaGreatDoor
noncomputable def cO (a0 : AV) (a1 : Int) (a2 : AV) (m : Mem) (R : AV → Mem → Prop) : Prop :=
Bg (B9 pg (.slice 33 (.tmp 0) (some (.tmp 1)) none none) 33 [a0, (Aa a1)] (Al m) 4) fun v0 =>
Bg (Dh a2) fun v1 =>
Af v1 fun z2 =>
bif (z2 == (0)) then (
A4 R m [some a0]) else (
Bg (Dh a0) fun v3 =>
Af v3 fun z4 =>
bif (a1 == z4) then (
Fy (app (Al m) 37 4 32 [(Aa (0)), (Aa (0)), (Ac false), (Aa (0))] 18 a0 a2) m fun v5 m5 =>
A4 R m5 [some v5]) else (
Bg (B9 pg (.call ⟨.builtin .cap, #[.tmp 0], #[33]⟩) 3 [a0] (Al m) 20) fun v6 =>
Af v6 fun z7 =>
bif (decide ((IntKind.wrap .i64 (z4 + z2)) > z7)) then (
Bg (B9 pg (.slice 33 (.tmp 0) none (some (.tmp 1)) none) 33 [a0, (Aa a1)] (Al m) 24) fun v8 =>
Fy (B9 pg (.call ⟨.builtin .append, #[.tmp 0, .tmp 1], #[33, 3]⟩) 33 [v8, (Aa (IntKind.wrap .i64 ((IntKind.wrap .i64 (z4 + z2)) - a1)))] (Al m) 30) m fun v9 m9 =>
Bg (B9 pg (.slice 33 (.tmp 0) (some (.tmp 1)) none none) 33 [v9, (Aa a1)] (Al m9) 34) fun v10 =>
Fy (B9 pg (.call ⟨.builtin .copy, #[.tmp 0, .tmp 1], #[33, 33]⟩) 3 [v10, a2] (Al m9) 36) m9 fun v11 m11 =>
Af v11 fun z12 =>
E8 (B9 pg (.slice 33 (.tmp 0) (some (.tmp 1)) none none) 33 [v9, (Aa (IntKind.wrap .i64 (a1 + z2)))] (B3 m11 (Ax v9 ++ (Ax (Aa (IntKind.wrap .i64 (a1 + z2))) ++ ([])))) 41) fun v13 d13 =>
E8 (B9 pg (.slice 33 (.tmp 0) (some (.tmp 1)) none none) 33 [a0, (Aa a1)] (B3 (Ae m11 d13) (Ax a0 ++ (Ax (Aa a1) ++ ([])))) 44) fun v14 d14 =>
E8 (B9 pg (.call ⟨.builtin .copy, #[.tmp 0, .tmp 1], #[33, 33]⟩) 3 [v13, v14] (B3 (Ae (Ae m11 d13) d14) (Ax v13 ++ (Ax v14 ++ ([])))) 45) fun v15 d15 =>
Af v15 fun z16 =>
Mo (D1 [0, 0, 0, 6, 15, 0, 0, 96, 255] [⟨[], []⟩, ⟨[], []⟩, ⟨[], []⟩, ⟨[], []⟩, ⟨d13, (Ax v9 ++ (Ax (Aa (IntKind.wrap .i64 (a1 + z2))) ++ ([])))⟩, ⟨[], []⟩, ⟨[], []⟩, ⟨d14, (Ax a0 ++ (Ax (Aa a1) ++ ([])))⟩, ⟨d15, (Ax v13 ++ (Ax v14 ++ ([])))⟩]) (A4 R (Ae (Ae (Ae m11 d13) d14) d15) [some v9])) else (
Bg (B9 pg (.slice 33 (.tmp 0) none (some (.tmp 1)) none) 33 [a0, (Aa (IntKind.wrap .i64 (z4 + z2)))] (Al m) 26) fun v17 =>
Bg (B9 pg (.slice 33 (.tmp 0) (some (.tmp 1)) none none) 33 [v17, (Aa (IntKind.wrap .i64 (a1 + z2)))] (Al m) 33) fun v18 =>
Bv pg KK.gl m 115 [a2, v18] fun v19 =>
G2 v19 fun b20 =>
bif (!b20) then (
E8 (B9 pg (.slice 33 (.tmp 0) (some (.tmp 1)) none none) 33 [v17, (Aa (IntKind.wrap .i64 (a1 + z2)))] (B3 m (Ax v17 ++ (Ax (Aa (IntKind.wrap .i64 (a1 + z2))) ++ ([])))) 103) fun v21 d21 =>
E8 (B9 pg (.slice 33 (.tmp 0) (some (.tmp 1)) none none) 33 [v17, (Aa a1)] (B3 (Ae m d21) (Ax v17 ++ (Ax (Aa a1) ++ ([])))) 106) fun v22 d22 =>
E8 (B9 pg (.call ⟨.builtin .copy, #[.tmp 0, .tmp 1], #[33, 33]⟩) 3 [v21, v22] (B3 (Ae (Ae m d21) d22) (Ax v21 ++ (Ax v22 ++ ([])))) 107) fun v23 d23 =>
Af v23 fun z24 =>
Mo (D1 [0, 0, 0, 6, 15, 0, 0, 96, 255] [⟨[], []⟩, ⟨[], []⟩, ⟨[], []⟩, ⟨[], []⟩, ⟨d21, (Ax v17 ++ (Ax (Aa (IntKind.wrap .i64 (a1 + z2))) ++ ([])))⟩, ⟨[], []⟩, ⟨[], []⟩, ⟨d22, (Ax v17 ++ (Ax (Aa a1) ++ ([])))⟩, ⟨d23, (Ax v21 ++ (Ax v22 ++ ([])))⟩]) (Bg (B9 pg (.slice 33 (.tmp 0) (some (.tmp 1)) none none) 33 [v17, (Aa a1)] (Al (Ae (Ae (Ae m d21) d22) d23)) 110) fun v25 =>
Fy (B9 pg (.call ⟨.builtin .copy, #[.tmp 0, .tmp 1], #[33, 33]⟩) 3 [v25, a2] (Al (Ae (Ae (Ae m d21) d22) d23)) 112) (Ae (Ae (Ae m d21) d22) d23) fun v26 m26 =>
Af v26 fun z27 =>
A4 R m26 [some v17])) else (
Bg (B9 pg (.slice 33 (.tmp 0) (some (.tmp 1)) none none) 33 [v17, (Aa z4)] (Al m) 101) fun v28 =>
Fy (B9 pg (.call ⟨.builtin .copy, #[.tmp 0, .tmp 1], #[33, 33]⟩) 3 [v28, a2] (Al m) 103) m fun v29 m29 =>
Af v29 fun z30 =>
Bg (B9 pg (.slice 33 (.tmp 0) (some (.tmp 1)) none none) 33 [v17, (Aa a1)] (Al m29) 106) fun v31 =>
Ed pg KK.gl m29 108 116 [v31, (Aa z2)] fun v32 m32 =>
Ry v32 <|
A4 R m32 [some v17]))))
theorem aT (a0 : AV) (a1 : Int) (a2 : AV) (m : Mem) (R : AV → Mem → Prop) (h : cO a0 a1 a2 m R) : Kf pg KK.gl m 1 54 [a0, (Aa a1), a2] R := Hl Ee Tryz.func54 (code := ((Tryz.f54).body).getD .skip) (by kernel_rfl) (by kernel_rfl) (by kernel_rfl) (X := cO a0 a1 a2 m R) (by kernel_rfl) h
noncomputable def eV (a0 : AV) (a1 : Int) (a2 : AV) (m : Mem) (R : AV → Mem → Prop) : Prop :=
Bg (B9 pg (.slice 33 (.tmp 0) (some (.tmp 1)) none none) 33 [a0, (Aa a1)] (Al m) 5) fun v0 =>
Bg (Dh a2) fun v1 =>
Af v1 fun z2 =>
bif (z2 == (0)) then (
A4 R m [some a0]) else (
Bg (Dh a0) fun v3 =>
Af v3 fun z4 =>
bif (a1 == z4) then (
Fy (app (Al m) 37 4 32 [(Aa (0)), (Aa (0)), (Ac false), (Aa (0))] 19 a0 a2) m fun v5 m5 =>
A4 R m5 [some v5]) else (
Bg (B9 pg (.call ⟨.builtin .cap, #[.tmp 0], #[33]⟩) 3 [a0] (Al m) 21) fun v6 =>
Af v6 fun z7 =>
bif (decide ((IntKind.wrap .i64 (z4 + z2)) > z7)) then (
Bg (B9 pg (.slice 33 (.tmp 0) none (some (.tmp 1)) none) 33 [a0, (Aa a1)] (Al m) 25) fun v8 =>
Fy (B9 pg (.call ⟨.builtin .append, #[.tmp 0, .tmp 1], #[33, 3]⟩) 33 [v8, (Aa (IntKind.wrap .i64 ((IntKind.wrap .i64 (z4 + z2)) - a1)))] (Al m) 31) m fun v9 m9 =>
Bg (B9 pg (.slice 33 (.tmp 0) (some (.tmp 1)) none none) 33 [v9, (Aa a1)] (Al m9) 35) fun v10 =>
Fy (B9 pg (.call ⟨.builtin .copy, #[.tmp 0, .tmp 1], #[33, 33]⟩) 3 [v10, a2] (Al m9) 37) m9 fun v11 m11 =>
Af v11 fun z12 =>
E8 (B9 pg (.slice 33 (.tmp 0) (some (.tmp 1)) none none) 33 [v9, (Aa (IntKind.wrap .i64 (a1 + z2)))] (B3 m11 (Ax v9 ++ (Ax (Aa (IntKind.wrap .i64 (a1 + z2))) ++ ([])))) 42) fun v13 d13 =>
E8 (B9 pg (.slice 33 (.tmp 0) (some (.tmp 1)) none none) 33 [a0, (Aa a1)] (B3 (Ae m11 d13) (Ax a0 ++ (Ax (Aa a1) ++ ([])))) 45) fun v14 d14 =>
E8 (B9 pg (.call ⟨.builtin .copy, #[.tmp 0, .tmp 1], #[33, 33]⟩) 3 [v13, v14] (B3 (Ae (Ae m11 d13) d14) (Ax v13 ++ (Ax v14 ++ ([])))) 46) fun v15 d15 =>
Af v15 fun z16 =>
Mo (D1 [0, 0, 0, 6, 15, 0, 0, 96, 255] [⟨[], []⟩, ⟨[], []⟩, ⟨[], []⟩, ⟨[], []⟩, ⟨d13, (Ax v9 ++ (Ax (Aa (IntKind.wrap .i64 (a1 + z2))) ++ ([])))⟩, ⟨[], []⟩, ⟨[], []⟩, ⟨d14, (Ax a0 ++ (Ax (Aa a1) ++ ([])))⟩, ⟨d15, (Ax v13 ++ (Ax v14 ++ ([])))⟩]) (A4 R (Ae (Ae (Ae m11 d13) d14) d15) [some v9])) else (
Bg (B9 pg (.slice 33 (.tmp 0) none (some (.tmp 1)) none) 33 [a0, (Aa (IntKind.wrap .i64 (z4 + z2)))] (Al m) 27) fun v17 =>
Bg (B9 pg (.slice 33 (.tmp 0) (some (.tmp 1)) none none) 33 [v17, (Aa (IntKind.wrap .i64 (a1 + z2)))] (Al m) 34) fun v18 =>
Bv pg KK.gl m 115 [a2, v18] fun v19 =>
G2 v19 fun b20 =>
bif (!b20) then (
E8 (B9 pg (.slice 33 (.tmp 0) (some (.tmp 1)) none none) 33 [v17, (Aa (IntKind.wrap .i64 (a1 + z2)))] (B3 m (Ax v17 ++ (Ax (Aa (IntKind.wrap .i64 (a1 + z2))) ++ ([])))) 104) fun v21 d21 =>
E8 (B9 pg (.slice 33 (.tmp 0) (some (.tmp 1)) none none) 33 [v17, (Aa a1)] (B3 (Ae m d21) (Ax v17 ++ (Ax (Aa a1) ++ ([])))) 107) fun v22 d22 =>
E8 (B9 pg (.call ⟨.builtin .copy, #[.tmp 0, .tmp 1], #[33, 33]⟩) 3 [v21, v22] (B3 (Ae (Ae m d21) d22) (Ax v21 ++ (Ax v22 ++ ([])))) 108) fun v23 d23 =>
Af v23 fun z24 =>
Mo (D1 [0, 0, 0, 6, 15, 0, 0, 96, 255] [⟨[], []⟩, ⟨[], []⟩, ⟨[], []⟩, ⟨[], []⟩, ⟨d21, (Ax v17 ++ (Ax (Aa (IntKind.wrap .i64 (a1 + z2))) ++ ([])))⟩, ⟨[], []⟩, ⟨[], []⟩, ⟨d22, (Ax v17 ++ (Ax (Aa a1) ++ ([])))⟩, ⟨d23, (Ax v21 ++ (Ax v22 ++ ([])))⟩]) (Bg (B9 pg (.slice 33 (.tmp 0) (some (.tmp 1)) none none) 33 [v17, (Aa a1)] (Al (Ae (Ae (Ae m d21) d22) d23)) 111) fun v25 =>
Fy (B9 pg (.call ⟨.builtin .copy, #[.tmp 0, .tmp 1], #[33, 33]⟩) 3 [v25, a2] (Al (Ae (Ae (Ae m d21) d22) d23)) 113) (Ae (Ae (Ae m d21) d22) d23) fun v26 m26 =>
Af v26 fun z27 =>
A4 R m26 [some v17])) else (
Bg (B9 pg (.slice 33 (.tmp 0) (some (.tmp 1)) none none) 33 [v17, (Aa z4)] (Al m) 102) fun v28 =>
Fy (B9 pg (.call ⟨.builtin .copy, #[.tmp 0, .tmp 1], #[33, 33]⟩) 3 [v28, a2] (Al m) 104) m fun v29 m29 =>
Af v29 fun z30 =>
Bg (B9 pg (.slice 33 (.tmp 0) (some (.tmp 1)) none none) 33 [v17, (Aa a1)] (Al m29) 107) fun v31 =>
Ed pg KK.gl m29 109 116 [v31, (Aa z2)] fun v32 m32 =>
Ry v32 <|
A4 R m32 [some v17]))))
theorem aE (a0 : AV) (a1 : Int) (a2 : AV) (m : Mem) (R : AV → Mem → Prop) (h : eV a0 a1 a2 m R) : Kf pg KK.gl m 2 54 [a0, (Aa a1), a2] R := Hl Ee Tryz.func54 (code := ((Tryz.f54).body).getD .skip) (by kernel_rfl) (by kernel_rfl) (by kernel_rfl) (X := eV a0 a1 a2 m R) (by kernel_rfl) h
noncomputable def Uq (a0 : AV) (a1 : Int) (a2 : AV) (m : Mem) (R : AV → Mem → Prop) : Prop :=
Bg (B9 pg (.slice 80 (.tmp 0) (some (.tmp 1)) none none) 80 [a0, (Aa a1)] (Al m) 4) fun v0 =>
Bg (Dh a2) fun v1 =>
Af v1 fun z2 =>
bif (z2 == (0)) then (
A4 R m [some a0]) else (
Bg (Dh a0) fun v3 =>
Af v3 fun z4 =>
bif (a1 == z4) then (
Fy (app (Al m) 134 6 48 [(Aa (0)), (Aa (0)), (Aa (0)), (Aa (0)), (Aa (0)), (Aa (0))] 18 a0 a2) m fun v5 m5 =>
A4 R m5 [some v5]) else (
Bg (B9 pg (.call ⟨.builtin .cap, #[.tmp 0], #[80]⟩) 3 [a0] (Al m) 20) fun v6 =>
Af v6 fun z7 =>
bif (decide ((IntKind.wrap .i64 (z4 + z2)) > z7)) then (
Bg (B9 pg (.slice 80 (.tmp 0) none (some (.tmp 1)) none) 80 [a0, (Aa a1)] (Al m) 24) fun v8 =>
Fy (B9 pg (.call ⟨.builtin .append, #[.tmp 0, .tmp 1], #[80, 3]⟩) 80 [v8, (Aa (IntKind.wrap .i64 ((IntKind.wrap .i64 (z4 + z2)) - a1)))] (Al m) 30) m fun v9 m9 =>
Bg (B9 pg (.slice 80 (.tmp 0) (some (.tmp 1)) none none) 80 [v9, (Aa a1)] (Al m9) 34) fun v10 =>
Fy (B9 pg (.call ⟨.builtin .copy, #[.tmp 0, .tmp 1], #[80, 79]⟩) 3 [v10, a2] (Al m9) 36) m9 fun v11 m11 =>
Af v11 fun z12 =>
E8 (B9 pg (.slice 80 (.tmp 0) (some (.tmp 1)) none none) 80 [v9, (Aa (IntKind.wrap .i64 (a1 + z2)))] (B3 m11 (Ax v9 ++ (Ax (Aa (IntKind.wrap .i64 (a1 + z2))) ++ ([])))) 41) fun v13 d13 =>
E8 (B9 pg (.slice 80 (.tmp 0) (some (.tmp 1)) none none) 80 [a0, (Aa a1)] (B3 (Ae m11 d13) (Ax a0 ++ (Ax (Aa a1) ++ ([])))) 44) fun v14 d14 =>
E8 (B9 pg (.call ⟨.builtin .copy, #[.tmp 0, .tmp 1], #[80, 80]⟩) 3 [v13, v14] (B3 (Ae (Ae m11 d13) d14) (Ax v13 ++ (Ax v14 ++ ([])))) 45) fun v15 d15 =>
Af v15 fun z16 =>
Mo (D1 [0, 0, 0, 6, 15, 0, 0, 96, 255] [⟨[], []⟩, ⟨[], []⟩, ⟨[], []⟩, ⟨[], []⟩, ⟨d13, (Ax v9 ++ (Ax (Aa (IntKind.wrap .i64 (a1 + z2))) ++ ([])))⟩, ⟨[], []⟩, ⟨[], []⟩, ⟨d14, (Ax a0 ++ (Ax (Aa a1) ++ ([])))⟩, ⟨d15, (Ax v13 ++ (Ax v14 ++ ([])))⟩]) (A4 R (Ae (Ae (Ae m11 d13) d14) d15) [some v9])) else (
Bg (B9 pg (.slice 80 (.tmp 0) none (some (.tmp 1)) none) 80 [a0, (Aa (IntKind.wrap .i64 (z4 + z2)))] (Al m) 26) fun v17 =>
Bg (B9 pg (.slice 80 (.tmp 0) (some (.tmp 1)) none none) 80 [v17, (Aa (IntKind.wrap .i64 (a1 + z2)))] (Al m) 33) fun v18 =>
Bv pg KK.gl m 259 [a2, v18] fun v19 =>
G2 v19 fun b20 =>
bif (!b20) then (
E8 (B9 pg (.slice 80 (.tmp 0) (some (.tmp 1)) none none) 80 [v17, (Aa (IntKind.wrap .i64 (a1 + z2)))] (B3 m (Ax v17 ++ (Ax (Aa (IntKind.wrap .i64 (a1 + z2))) ++ ([])))) 103) fun v21 d21 =>
E8 (B9 pg (.slice 80 (.tmp 0) (some (.tmp 1)) none none) 80 [v17, (Aa a1)] (B3 (Ae m d21) (Ax v17 ++ (Ax (Aa a1) ++ ([])))) 106) fun v22 d22 =>
E8 (B9 pg (.call ⟨.builtin .copy, #[.tmp 0, .tmp 1], #[80, 80]⟩) 3 [v21, v22] (B3 (Ae (Ae m d21) d22) (Ax v21 ++ (Ax v22 ++ ([])))) 107) fun v23 d23 =>
Af v23 fun z24 =>
Mo (D1 [0, 0, 0, 6, 15, 0, 0, 96, 255] [⟨[], []⟩, ⟨[], []⟩, ⟨[], []⟩, ⟨[], []⟩, ⟨d21, (Ax v17 ++ (Ax (Aa (IntKind.wrap .i64 (a1 + z2))) ++ ([])))⟩, ⟨[], []⟩, ⟨[], []⟩, ⟨d22, (Ax v17 ++ (Ax (Aa a1) ++ ([])))⟩, ⟨d23, (Ax v21 ++ (Ax v22 ++ ([])))⟩]) (Bg (B9 pg (.slice 80 (.tmp 0) (some (.tmp 1)) none none) 80 [v17, (Aa a1)] (Al (Ae (Ae (Ae m d21) d22) d23)) 110) fun v25 =>
Fy (B9 pg (.call ⟨.builtin .copy, #[.tmp 0, .tmp 1], #[80, 79]⟩) 3 [v25, a2] (Al (Ae (Ae (Ae m d21) d22) d23)) 112) (Ae (Ae (Ae m d21) d22) d23) fun v26 m26 =>
Af v26 fun z27 =>
A4 R m26 [some v17])) else (
Bg (B9 pg (.slice 80 (.tmp 0) (some (.tmp 1)) none none) 80 [v17, (Aa z4)] (Al m) 101) fun v28 =>
Fy (B9 pg (.call ⟨.builtin .copy, #[.tmp 0, .tmp 1], #[80, 79]⟩) 3 [v28, a2] (Al m) 103) m fun v29 m29 =>
Af v29 fun z30 =>
Bg (B9 pg (.slice 80 (.tmp 0) (some (.tmp 1)) none none) 80 [v17, (Aa a1)] (Al m29) 106) fun v31 =>
Ed pg KK.gl m29 108 260 [v31, (Aa z2)] fun v32 m32 =>
Ry v32 <|
A4 R m32 [some v17]))))
theorem W2 (a0 : AV) (a1 : Int) (a2 : AV) (m : Mem) (R : AV → Mem → Prop) (h : Uq a0 a1 a2 m R) : Kf pg KK.gl m 1 197 [a0, (Aa a1), a2] R := Hl Ee Tryz.func197 (code := ((Tryz.f197).body).getD .skip) (by kernel_rfl) (by kernel_rfl) (by kernel_rfl) (X := Uq a0 a1 a2 m R) (by kernel_rfl) h
noncomputable def Wb (a0 : AV) (a1 : Int) (a2 : AV) (m : Mem) (R : AV → Mem → Prop) : Prop :=
Bg (B9 pg (.slice 80 (.tmp 0) (some (.tmp 1)) none none) 80 [a0, (Aa a1)] (Al m) 5) fun v0 =>
Bg (Dh a2) fun v1 =>
Af v1 fun z2 =>
bif (z2 == (0)) then (
A4 R m [some a0]) else (
Bg (Dh a0) fun v3 =>
Af v3 fun z4 =>
bif (a1 == z4) then (
Fy (app (Al m) 134 6 48 [(Aa (0)), (Aa (0)), (Aa (0)), (Aa (0)), (Aa (0)), (Aa (0))] 19 a0 a2) m fun v5 m5 =>
A4 R m5 [some v5]) else (
Bg (B9 pg (.call ⟨.builtin .cap, #[.tmp 0], #[80]⟩) 3 [a0] (Al m) 21) fun v6 =>
Af v6 fun z7 =>
bif (decide ((IntKind.wrap .i64 (z4 + z2)) > z7)) then (
Bg (B9 pg (.slice 80 (.tmp 0) none (some (.tmp 1)) none) 80 [a0, (Aa a1)] (Al m) 25) fun v8 =>
Fy (B9 pg (.call ⟨.builtin .append, #[.tmp 0, .tmp 1], #[80, 3]⟩) 80 [v8, (Aa (IntKind.wrap .i64 ((IntKind.wrap .i64 (z4 + z2)) - a1)))] (Al m) 31) m fun v9 m9 =>
Bg (B9 pg (.slice 80 (.tmp 0) (some (.tmp 1)) none none) 80 [v9, (Aa a1)] (Al m9) 35) fun v10 =>
Fy (B9 pg (.call ⟨.builtin .copy, #[.tmp 0, .tmp 1], #[80, 79]⟩) 3 [v10, a2] (Al m9) 37) m9 fun v11 m11 =>
Af v11 fun z12 =>
E8 (B9 pg (.slice 80 (.tmp 0) (some (.tmp 1)) none none) 80 [v9, (Aa (IntKind.wrap .i64 (a1 + z2)))] (B3 m11 (Ax v9 ++ (Ax (Aa (IntKind.wrap .i64 (a1 + z2))) ++ ([])))) 42) fun v13 d13 =>
E8 (B9 pg (.slice 80 (.tmp 0) (some (.tmp 1)) none none) 80 [a0, (Aa a1)] (B3 (Ae m11 d13) (Ax a0 ++ (Ax (Aa a1) ++ ([])))) 45) fun v14 d14 =>
E8 (B9 pg (.call ⟨.builtin .copy, #[.tmp 0, .tmp 1], #[80, 80]⟩) 3 [v13, v14] (B3 (Ae (Ae m11 d13) d14) (Ax v13 ++ (Ax v14 ++ ([])))) 46) fun v15 d15 =>
Af v15 fun z16 =>
Mo (D1 [0, 0, 0, 6, 15, 0, 0, 96, 255] [⟨[], []⟩, ⟨[], []⟩, ⟨[], []⟩, ⟨[], []⟩, ⟨d13, (Ax v9 ++ (Ax (Aa (IntKind.wrap .i64 (a1 + z2))) ++ ([])))⟩, ⟨[], []⟩, ⟨[], []⟩, ⟨d14, (Ax a0 ++ (Ax (Aa a1) ++ ([])))⟩, ⟨d15, (Ax v13 ++ (Ax v14 ++ ([])))⟩]) (A4 R (Ae (Ae (Ae m11 d13) d14) d15) [some v9])) else (
Bg (B9 pg (.slice 80 (.tmp 0) none (some (.tmp 1)) none) 80 [a0, (Aa (IntKind.wrap .i64 (z4 + z2)))] (Al m) 27) fun v17 =>
Bg (B9 pg (.slice 80 (.tmp 0) (some (.tmp 1)) none none) 80 [v17, (Aa (IntKind.wrap .i64 (a1 + z2)))] (Al m) 34) fun v18 =>
Bv pg KK.gl m 259 [a2, v18] fun v19 =>
G2 v19 fun b20 =>
bif (!b20) then (
E8 (B9 pg (.slice 80 (.tmp 0) (some (.tmp 1)) none none) 80 [v17, (Aa (IntKind.wrap .i64 (a1 + z2)))] (B3 m (Ax v17 ++ (Ax (Aa (IntKind.wrap .i64 (a1 + z2))) ++ ([])))) 104) fun v21 d21 =>
E8 (B9 pg (.slice 80 (.tmp 0) (some (.tmp 1)) none none) 80 [v17, (Aa a1)] (B3 (Ae m d21) (Ax v17 ++ (Ax (Aa a1) ++ ([])))) 107) fun v22 d22 =>
E8 (B9 pg (.call ⟨.builtin .copy, #[.tmp 0, .tmp 1], #[80, 80]⟩) 3 [v21, v22] (B3 (Ae (Ae m d21) d22) (Ax v21 ++ (Ax v22 ++ ([])))) 108) fun v23 d23 =>
Af v23 fun z24 =>
Mo (D1 [0, 0, 0, 6, 15, 0, 0, 96, 255] [⟨[], []⟩, ⟨[], []⟩, ⟨[], []⟩, ⟨[], []⟩, ⟨d21, (Ax v17 ++ (Ax (Aa (IntKind.wrap .i64 (a1 + z2))) ++ ([])))⟩, ⟨[], []⟩, ⟨[], []⟩, ⟨d22, (Ax v17 ++ (Ax (Aa a1) ++ ([])))⟩, ⟨d23, (Ax v21 ++ (Ax v22 ++ ([])))⟩]) (Bg (B9 pg (.slice 80 (.tmp 0) (some (.tmp 1)) none none) 80 [v17, (Aa a1)] (Al (Ae (Ae (Ae m d21) d22) d23)) 111) fun v25 =>
Fy (B9 pg (.call ⟨.builtin .copy, #[.tmp 0, .tmp 1], #[80, 79]⟩) 3 [v25, a2] (Al (Ae (Ae (Ae m d21) d22) d23)) 113) (Ae (Ae (Ae m d21) d22) d23) fun v26 m26 =>
Af v26 fun z27 =>
A4 R m26 [some v17])) else (
Bg (B9 pg (.slice 80 (.tmp 0) (some (.tmp 1)) none none) 80 [v17, (Aa z4)] (Al m) 102) fun v28 =>
Fy (B9 pg (.call ⟨.builtin .copy, #[.tmp 0, .tmp 1], #[80, 79]⟩) 3 [v28, a2] (Al m) 104) m fun v29 m29 =>
Af v29 fun z30 =>
Bg (B9 pg (.slice 80 (.tmp 0) (some (.tmp 1)) none none) 80 [v17, (Aa a1)] (Al m29) 107) fun v31 =>
Ed pg KK.gl m29 109 260 [v31, (Aa z2)] fun v32 m32 =>
Ry v32 <|
A4 R m32 [some v17]))))
theorem Ze (a0 : AV) (a1 : Int) (a2 : AV) (m : Mem) (R : AV → Mem → Prop) (h : Wb a0 a1 a2 m R) : Kf pg KK.gl m 2 197 [a0, (Aa a1), a2] R := Hl Ee Tryz.func197 (code := ((Tryz.f197).body).getD .skip) (by kernel_rfl) (by kernel_rfl) (by kernel_rfl) (X := Wb a0 a1 a2 m R) (by kernel_rfl) h
end Go.Proofs.YtbfabclpcamlnaaGreatDoor
