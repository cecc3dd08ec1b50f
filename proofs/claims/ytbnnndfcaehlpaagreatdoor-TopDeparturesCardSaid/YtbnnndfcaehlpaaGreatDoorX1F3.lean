/- Functions of the program as conditions on their answers; printed by wip/Gen.lean.txt. -/
import Derived.Test.YtbnnndfcaehlpaaGreatDoorX1T
set_option linter.unusedVariables false
set_option maxRecDepth 100000
set_option maxHeartbeats 4000000
namespace Go.Proofs.YtbnnndfcaehlpaaGreatDoor
/- slices.Insert[[]skyway/api.RunwayMove,skyway/api.RunwayMove] at 1 -/
noncomputable def F43n1 (a0 : AV) (a1 : Int) (a2 : AV) (m : Mem) (R : AV → Mem → Prop) : Prop :=
opP (opA pg (.slice 41 (.tmp 0) (some (.tmp 1)) none none) 41 [a0, (intA a1)] (mget m) 4) fun v0 =>
opP (lenS a2) fun v1 =>
ex_i64 v1 fun z2 =>
bif (z2 == (0)) then (
retL R m [some a0]) else (
opP (lenS a0) fun v3 =>
ex_i64 v3 fun z4 =>
bif (a1 == z4) then (
opN (app (mget m) 48 4 32 [(intA (0)), (intA (0)), (boolA false), (intA (0))] 18 a0 a2) m fun v5 m5 =>
retL R m5 [some v5]) else (
opP (opA pg (.call ⟨.builtin .cap, #[.tmp 0], #[41]⟩) 3 [a0] (mget m) 20) fun v6 =>
ex_i64 v6 fun z7 =>
bif (decide ((IntKind.wrap .i64 (z4 + z2)) > z7)) then (
opP (opA pg (.slice 41 (.tmp 0) none (some (.tmp 1)) none) 41 [a0, (intA a1)] (mget m) 24) fun v8 =>
opN (opA pg (.call ⟨.builtin .append, #[.tmp 0, .tmp 1], #[41, 3]⟩) 41 [v8, (intA (IntKind.wrap .i64 ((IntKind.wrap .i64 (z4 + z2)) - a1)))] (mget m) 30) m fun v9 m9 =>
opP (opA pg (.slice 41 (.tmp 0) (some (.tmp 1)) none none) 41 [v9, (intA a1)] (mget m9) 34) fun v10 =>
opN (opA pg (.call ⟨.builtin .copy, #[.tmp 0, .tmp 1], #[41, 41]⟩) 3 [v10, a2] (mget m9) 36) m9 fun v11 m11 =>
ex_i64 v11 fun z12 =>
opM (opA pg (.slice 41 (.tmp 0) (some (.tmp 1)) none none) 41 [v9, (intA (IntKind.wrap .i64 (a1 + z2)))] (look' m11 (topId v9 ++ (topId (intA (IntKind.wrap .i64 (a1 + z2))) ++ ([])))) 41) fun v13 d13 =>
opM (opA pg (.slice 41 (.tmp 0) (some (.tmp 1)) none none) 41 [a0, (intA a1)] (look' (mpushs m11 d13) (topId a0 ++ (topId (intA a1) ++ ([])))) 44) fun v14 d14 =>
opM (opA pg (.call ⟨.builtin .copy, #[.tmp 0, .tmp 1], #[41, 41]⟩) 3 [v13, v14] (look' (mpushs (mpushs m11 d13) d14) (topId v13 ++ (topId v14 ++ ([])))) 45) fun v15 d15 =>
ex_i64 v15 fun z16 =>
chk (confOk [0, 0, 0, 6, 15, 0, 0, 96, 255] [⟨[], []⟩, ⟨[], []⟩, ⟨[], []⟩, ⟨[], []⟩, ⟨d13, (topId v9 ++ (topId (intA (IntKind.wrap .i64 (a1 + z2))) ++ ([])))⟩, ⟨[], []⟩, ⟨[], []⟩, ⟨d14, (topId a0 ++ (topId (intA a1) ++ ([])))⟩, ⟨d15, (topId v13 ++ (topId v14 ++ ([])))⟩]) (retL R (mpushs (mpushs (mpushs m11 d13) d14) d15) [some v9])) else (
opP (opA pg (.slice 41 (.tmp 0) none (some (.tmp 1)) none) 41 [a0, (intA (IntKind.wrap .i64 (z4 + z2)))] (mget m) 26) fun v17 =>
opP (opA pg (.slice 41 (.tmp 0) (some (.tmp 1)) none none) 41 [v17, (intA (IntKind.wrap .i64 (a1 + z2)))] (mget m) 33) fun v18 =>
callQ pg KK.gl m 107 [a2, v18] fun v19 =>
exB v19 fun b20 =>
bif (!b20) then (
opM (opA pg (.slice 41 (.tmp 0) (some (.tmp 1)) none none) 41 [v17, (intA (IntKind.wrap .i64 (a1 + z2)))] (look' m (topId v17 ++ (topId (intA (IntKind.wrap .i64 (a1 + z2))) ++ ([])))) 103) fun v21 d21 =>
opM (opA pg (.slice 41 (.tmp 0) (some (.tmp 1)) none none) 41 [v17, (intA a1)] (look' (mpushs m d21) (topId v17 ++ (topId (intA a1) ++ ([])))) 106) fun v22 d22 =>
opM (opA pg (.call ⟨.builtin .copy, #[.tmp 0, .tmp 1], #[41, 41]⟩) 3 [v21, v22] (look' (mpushs (mpushs m d21) d22) (topId v21 ++ (topId v22 ++ ([])))) 107) fun v23 d23 =>
ex_i64 v23 fun z24 =>
chk (confOk [0, 0, 0, 6, 15, 0, 0, 96, 255] [⟨[], []⟩, ⟨[], []⟩, ⟨[], []⟩, ⟨[], []⟩, ⟨d21, (topId v17 ++ (topId (intA (IntKind.wrap .i64 (a1 + z2))) ++ ([])))⟩, ⟨[], []⟩, ⟨[], []⟩, ⟨d22, (topId v17 ++ (topId (intA a1) ++ ([])))⟩, ⟨d23, (topId v21 ++ (topId v22 ++ ([])))⟩]) (opP (opA pg (.slice 41 (.tmp 0) (some (.tmp 1)) none none) 41 [v17, (intA a1)] (mget (mpushs (mpushs (mpushs m d21) d22) d23)) 110) fun v25 =>
opN (opA pg (.call ⟨.builtin .copy, #[.tmp 0, .tmp 1], #[41, 41]⟩) 3 [v25, a2] (mget (mpushs (mpushs (mpushs m d21) d22) d23)) 112) (mpushs (mpushs (mpushs m d21) d22) d23) fun v26 m26 =>
ex_i64 v26 fun z27 =>
retL R m26 [some v17])) else (
opP (opA pg (.slice 41 (.tmp 0) (some (.tmp 1)) none none) 41 [v17, (intA z4)] (mget m) 101) fun v28 =>
opN (opA pg (.call ⟨.builtin .copy, #[.tmp 0, .tmp 1], #[41, 41]⟩) 3 [v28, a2] (mget m) 103) m fun v29 m29 =>
ex_i64 v29 fun z30 =>
opP (opA pg (.slice 41 (.tmp 0) (some (.tmp 1)) none none) 41 [v17, (intA a1)] (mget m29) 106) fun v31 =>
callW pg KK.gl m29 108 108 [v31, (intA z2)] fun v32 m32 =>
exT0 v32 <|
retL R m32 [some v17]))))
theorem F43n1_call (a0 : AV) (a1 : Int) (a2 : AV) (m : Mem) (R : AV → Mem → Prop) (h : F43n1 a0 a1 a2 m R) : callN pg KK.gl m 1 43 [a0, (intA a1), a2] R := callN_of_F fol Tryz.func43 (code := ((Tryz.f43).body).getD .skip) (by kernel_rfl) (by kernel_rfl) (by kernel_rfl) (X := F43n1 a0 a1 a2 m R) (by kernel_rfl) h
/- slices.Insert[[]skyway/api.RunwayMove,skyway/api.RunwayMove] at 2 -/
noncomputable def F43n2 (a0 : AV) (a1 : Int) (a2 : AV) (m : Mem) (R : AV → Mem → Prop) : Prop :=
opP (opA pg (.slice 41 (.tmp 0) (some (.tmp 1)) none none) 41 [a0, (intA a1)] (mget m) 5) fun v0 =>
opP (lenS a2) fun v1 =>
ex_i64 v1 fun z2 =>
bif (z2 == (0)) then (
retL R m [some a0]) else (
opP (lenS a0) fun v3 =>
ex_i64 v3 fun z4 =>
bif (a1 == z4) then (
opN (app (mget m) 48 4 32 [(intA (0)), (intA (0)), (boolA false), (intA (0))] 19 a0 a2) m fun v5 m5 =>
retL R m5 [some v5]) else (
opP (opA pg (.call ⟨.builtin .cap, #[.tmp 0], #[41]⟩) 3 [a0] (mget m) 21) fun v6 =>
ex_i64 v6 fun z7 =>
bif (decide ((IntKind.wrap .i64 (z4 + z2)) > z7)) then (
opP (opA pg (.slice 41 (.tmp 0) none (some (.tmp 1)) none) 41 [a0, (intA a1)] (mget m) 25) fun v8 =>
opN (opA pg (.call ⟨.builtin .append, #[.tmp 0, .tmp 1], #[41, 3]⟩) 41 [v8, (intA (IntKind.wrap .i64 ((IntKind.wrap .i64 (z4 + z2)) - a1)))] (mget m) 31) m fun v9 m9 =>
opP (opA pg (.slice 41 (.tmp 0) (some (.tmp 1)) none none) 41 [v9, (intA a1)] (mget m9) 35) fun v10 =>
opN (opA pg (.call ⟨.builtin .copy, #[.tmp 0, .tmp 1], #[41, 41]⟩) 3 [v10, a2] (mget m9) 37) m9 fun v11 m11 =>
ex_i64 v11 fun z12 =>
opM (opA pg (.slice 41 (.tmp 0) (some (.tmp 1)) none none) 41 [v9, (intA (IntKind.wrap .i64 (a1 + z2)))] (look' m11 (topId v9 ++ (topId (intA (IntKind.wrap .i64 (a1 + z2))) ++ ([])))) 42) fun v13 d13 =>
opM (opA pg (.slice 41 (.tmp 0) (some (.tmp 1)) none none) 41 [a0, (intA a1)] (look' (mpushs m11 d13) (topId a0 ++ (topId (intA a1) ++ ([])))) 45) fun v14 d14 =>
opM (opA pg (.call ⟨.builtin .copy, #[.tmp 0, .tmp 1], #[41, 41]⟩) 3 [v13, v14] (look' (mpushs (mpushs m11 d13) d14) (topId v13 ++ (topId v14 ++ ([])))) 46) fun v15 d15 =>
ex_i64 v15 fun z16 =>
chk (confOk [0, 0, 0, 6, 15, 0, 0, 96, 255] [⟨[], []⟩, ⟨[], []⟩, ⟨[], []⟩, ⟨[], []⟩, ⟨d13, (topId v9 ++ (topId (intA (IntKind.wrap .i64 (a1 + z2))) ++ ([])))⟩, ⟨[], []⟩, ⟨[], []⟩, ⟨d14, (topId a0 ++ (topId (intA a1) ++ ([])))⟩, ⟨d15, (topId v13 ++ (topId v14 ++ ([])))⟩]) (retL R (mpushs (mpushs (mpushs m11 d13) d14) d15) [some v9])) else (
opP (opA pg (.slice 41 (.tmp 0) none (some (.tmp 1)) none) 41 [a0, (intA (IntKind.wrap .i64 (z4 + z2)))] (mget m) 27) fun v17 =>
opP (opA pg (.slice 41 (.tmp 0) (some (.tmp 1)) none none) 41 [v17, (intA (IntKind.wrap .i64 (a1 + z2)))] (mget m) 34) fun v18 =>
callQ pg KK.gl m 107 [a2, v18] fun v19 =>
exB v19 fun b20 =>
bif (!b20) then (
opM (opA pg (.slice 41 (.tmp 0) (some (.tmp 1)) none none) 41 [v17, (intA (IntKind.wrap .i64 (a1 + z2)))] (look' m (topId v17 ++ (topId (intA (IntKind.wrap .i64 (a1 + z2))) ++ ([])))) 104) fun v21 d21 =>
opM (opA pg (.slice 41 (.tmp 0) (some (.tmp 1)) none none) 41 [v17, (intA a1)] (look' (mpushs m d21) (topId v17 ++ (topId (intA a1) ++ ([])))) 107) fun v22 d22 =>
opM (opA pg (.call ⟨.builtin .copy, #[.tmp 0, .tmp 1], #[41, 41]⟩) 3 [v21, v22] (look' (mpushs (mpushs m d21) d22) (topId v21 ++ (topId v22 ++ ([])))) 108) fun v23 d23 =>
ex_i64 v23 fun z24 =>
chk (confOk [0, 0, 0, 6, 15, 0, 0, 96, 255] [⟨[], []⟩, ⟨[], []⟩, ⟨[], []⟩, ⟨[], []⟩, ⟨d21, (topId v17 ++ (topId (intA (IntKind.wrap .i64 (a1 + z2))) ++ ([])))⟩, ⟨[], []⟩, ⟨[], []⟩, ⟨d22, (topId v17 ++ (topId (intA a1) ++ ([])))⟩, ⟨d23, (topId v21 ++ (topId v22 ++ ([])))⟩]) (opP (opA pg (.slice 41 (.tmp 0) (some (.tmp 1)) none none) 41 [v17, (intA a1)] (mget (mpushs (mpushs (mpushs m d21) d22) d23)) 111) fun v25 =>
opN (opA pg (.call ⟨.builtin .copy, #[.tmp 0, .tmp 1], #[41, 41]⟩) 3 [v25, a2] (mget (mpushs (mpushs (mpushs m d21) d22) d23)) 113) (mpushs (mpushs (mpushs m d21) d22) d23) fun v26 m26 =>
ex_i64 v26 fun z27 =>
retL R m26 [some v17])) else (
opP (opA pg (.slice 41 (.tmp 0) (some (.tmp 1)) none none) 41 [v17, (intA z4)] (mget m) 102) fun v28 =>
opN (opA pg (.call ⟨.builtin .copy, #[.tmp 0, .tmp 1], #[41, 41]⟩) 3 [v28, a2] (mget m) 104) m fun v29 m29 =>
ex_i64 v29 fun z30 =>
opP (opA pg (.slice 41 (.tmp 0) (some (.tmp 1)) none none) 41 [v17, (intA a1)] (mget m29) 107) fun v31 =>
callW pg KK.gl m29 109 108 [v31, (intA z2)] fun v32 m32 =>
exT0 v32 <|
retL R m32 [some v17]))))
theorem F43n2_call (a0 : AV) (a1 : Int) (a2 : AV) (m : Mem) (R : AV → Mem → Prop) (h : F43n2 a0 a1 a2 m R) : callN pg KK.gl m 2 43 [a0, (intA a1), a2] R := callN_of_F fol Tryz.func43 (code := ((Tryz.f43).body).getD .skip) (by kernel_rfl) (by kernel_rfl) (by kernel_rfl) (X := F43n2 a0 a1 a2 m R) (by kernel_rfl) h
/- slices.Insert[skyway/api.Tube,skyway/api.TubeNode] at 1 -/
noncomputable def F192n1 (a0 : AV) (a1 : Int) (a2 : AV) (m : Mem) (R : AV → Mem → Prop) : Prop :=
opP (opA pg (.slice 78 (.tmp 0) (some (.tmp 1)) none none) 78 [a0, (intA a1)] (mget m) 4) fun v0 =>
opP (lenS a2) fun v1 =>
ex_i64 v1 fun z2 =>
bif (z2 == (0)) then (
retL R m [some a0]) else (
opP (lenS a0) fun v3 =>
ex_i64 v3 fun z4 =>
bif (a1 == z4) then (
opN (app (mget m) 131 6 48 [(intA (0)), (intA (0)), (intA (0)), (intA (0)), (intA (0)), (intA (0))] 18 a0 a2) m fun v5 m5 =>
retL R m5 [some v5]) else (
opP (opA pg (.call ⟨.builtin .cap, #[.tmp 0], #[78]⟩) 3 [a0] (mget m) 20) fun v6 =>
ex_i64 v6 fun z7 =>
bif (decide ((IntKind.wrap .i64 (z4 + z2)) > z7)) then (
opP (opA pg (.slice 78 (.tmp 0) none (some (.tmp 1)) none) 78 [a0, (intA a1)] (mget m) 24) fun v8 =>
opN (opA pg (.call ⟨.builtin .append, #[.tmp 0, .tmp 1], #[78, 3]⟩) 78 [v8, (intA (IntKind.wrap .i64 ((IntKind.wrap .i64 (z4 + z2)) - a1)))] (mget m) 30) m fun v9 m9 =>
opP (opA pg (.slice 78 (.tmp 0) (some (.tmp 1)) none none) 78 [v9, (intA a1)] (mget m9) 34) fun v10 =>
opN (opA pg (.call ⟨.builtin .copy, #[.tmp 0, .tmp 1], #[78, 77]⟩) 3 [v10, a2] (mget m9) 36) m9 fun v11 m11 =>
ex_i64 v11 fun z12 =>
opM (opA pg (.slice 78 (.tmp 0) (some (.tmp 1)) none none) 78 [v9, (intA (IntKind.wrap .i64 (a1 + z2)))] (look' m11 (topId v9 ++ (topId (intA (IntKind.wrap .i64 (a1 + z2))) ++ ([])))) 41) fun v13 d13 =>
opM (opA pg (.slice 78 (.tmp 0) (some (.tmp 1)) none none) 78 [a0, (intA a1)] (look' (mpushs m11 d13) (topId a0 ++ (topId (intA a1) ++ ([])))) 44) fun v14 d14 =>
opM (opA pg (.call ⟨.builtin .copy, #[.tmp 0, .tmp 1], #[78, 78]⟩) 3 [v13, v14] (look' (mpushs (mpushs m11 d13) d14) (topId v13 ++ (topId v14 ++ ([])))) 45) fun v15 d15 =>
ex_i64 v15 fun z16 =>
chk (confOk [0, 0, 0, 6, 15, 0, 0, 96, 255] [⟨[], []⟩, ⟨[], []⟩, ⟨[], []⟩, ⟨[], []⟩, ⟨d13, (topId v9 ++ (topId (intA (IntKind.wrap .i64 (a1 + z2))) ++ ([])))⟩, ⟨[], []⟩, ⟨[], []⟩, ⟨d14, (topId a0 ++ (topId (intA a1) ++ ([])))⟩, ⟨d15, (topId v13 ++ (topId v14 ++ ([])))⟩]) (retL R (mpushs (mpushs (mpushs m11 d13) d14) d15) [some v9])) else (
opP (opA pg (.slice 78 (.tmp 0) none (some (.tmp 1)) none) 78 [a0, (intA (IntKind.wrap .i64 (z4 + z2)))] (mget m) 26) fun v17 =>
opP (opA pg (.slice 78 (.tmp 0) (some (.tmp 1)) none none) 78 [v17, (intA (IntKind.wrap .i64 (a1 + z2)))] (mget m) 33) fun v18 =>
callQ pg KK.gl m 248 [a2, v18] fun v19 =>
exB v19 fun b20 =>
bif (!b20) then (
opM (opA pg (.slice 78 (.tmp 0) (some (.tmp 1)) none none) 78 [v17, (intA (IntKind.wrap .i64 (a1 + z2)))] (look' m (topId v17 ++ (topId (intA (IntKind.wrap .i64 (a1 + z2))) ++ ([])))) 103) fun v21 d21 =>
opM (opA pg (.slice 78 (.tmp 0) (some (.tmp 1)) none none) 78 [v17, (intA a1)] (look' (mpushs m d21) (topId v17 ++ (topId (intA a1) ++ ([])))) 106) fun v22 d22 =>
opM (opA pg (.call ⟨.builtin .copy, #[.tmp 0, .tmp 1], #[78, 78]⟩) 3 [v21, v22] (look' (mpushs (mpushs m d21) d22) (topId v21 ++ (topId v22 ++ ([])))) 107) fun v23 d23 =>
ex_i64 v23 fun z24 =>
chk (confOk [0, 0, 0, 6, 15, 0, 0, 96, 255] [⟨[], []⟩, ⟨[], []⟩, ⟨[], []⟩, ⟨[], []⟩, ⟨d21, (topId v17 ++ (topId (intA (IntKind.wrap .i64 (a1 + z2))) ++ ([])))⟩, ⟨[], []⟩, ⟨[], []⟩, ⟨d22, (topId v17 ++ (topId (intA a1) ++ ([])))⟩, ⟨d23, (topId v21 ++ (topId v22 ++ ([])))⟩]) (opP (opA pg (.slice 78 (.tmp 0) (some (.tmp 1)) none none) 78 [v17, (intA a1)] (mget (mpushs (mpushs (mpushs m d21) d22) d23)) 110) fun v25 =>
opN (opA pg (.call ⟨.builtin .copy, #[.tmp 0, .tmp 1], #[78, 77]⟩) 3 [v25, a2] (mget (mpushs (mpushs (mpushs m d21) d22) d23)) 112) (mpushs (mpushs (mpushs m d21) d22) d23) fun v26 m26 =>
ex_i64 v26 fun z27 =>
retL R m26 [some v17])) else (
opP (opA pg (.slice 78 (.tmp 0) (some (.tmp 1)) none none) 78 [v17, (intA z4)] (mget m) 101) fun v28 =>
opN (opA pg (.call ⟨.builtin .copy, #[.tmp 0, .tmp 1], #[78, 77]⟩) 3 [v28, a2] (mget m) 103) m fun v29 m29 =>
ex_i64 v29 fun z30 =>
opP (opA pg (.slice 78 (.tmp 0) (some (.tmp 1)) none none) 78 [v17, (intA a1)] (mget m29) 106) fun v31 =>
callW pg KK.gl m29 108 249 [v31, (intA z2)] fun v32 m32 =>
exT0 v32 <|
retL R m32 [some v17]))))
theorem F192n1_call (a0 : AV) (a1 : Int) (a2 : AV) (m : Mem) (R : AV → Mem → Prop) (h : F192n1 a0 a1 a2 m R) : callN pg KK.gl m 1 192 [a0, (intA a1), a2] R := callN_of_F fol Tryz.func192 (code := ((Tryz.f192).body).getD .skip) (by kernel_rfl) (by kernel_rfl) (by kernel_rfl) (X := F192n1 a0 a1 a2 m R) (by kernel_rfl) h
/- slices.Insert[skyway/api.Tube,skyway/api.TubeNode] at 2 -/
noncomputable def F192n2 (a0 : AV) (a1 : Int) (a2 : AV) (m : Mem) (R : AV → Mem → Prop) : Prop :=
opP (opA pg (.slice 78 (.tmp 0) (some (.tmp 1)) none none) 78 [a0, (intA a1)] (mget m) 5) fun v0 =>
opP (lenS a2) fun v1 =>
ex_i64 v1 fun z2 =>
bif (z2 == (0)) then (
retL R m [some a0]) else (
opP (lenS a0) fun v3 =>
ex_i64 v3 fun z4 =>
bif (a1 == z4) then (
opN (app (mget m) 131 6 48 [(intA (0)), (intA (0)), (intA (0)), (intA (0)), (intA (0)), (intA (0))] 19 a0 a2) m fun v5 m5 =>
retL R m5 [some v5]) else (
opP (opA pg (.call ⟨.builtin .cap, #[.tmp 0], #[78]⟩) 3 [a0] (mget m) 21) fun v6 =>
ex_i64 v6 fun z7 =>
bif (decide ((IntKind.wrap .i64 (z4 + z2)) > z7)) then (
opP (opA pg (.slice 78 (.tmp 0) none (some (.tmp 1)) none) 78 [a0, (intA a1)] (mget m) 25) fun v8 =>
opN (opA pg (.call ⟨.builtin .append, #[.tmp 0, .tmp 1], #[78, 3]⟩) 78 [v8, (intA (IntKind.wrap .i64 ((IntKind.wrap .i64 (z4 + z2)) - a1)))] (mget m) 31) m fun v9 m9 =>
opP (opA pg (.slice 78 (.tmp 0) (some (.tmp 1)) none none) 78 [v9, (intA a1)] (mget m9) 35) fun v10 =>
opN (opA pg (.call ⟨.builtin .copy, #[.tmp 0, .tmp 1], #[78, 77]⟩) 3 [v10, a2] (mget m9) 37) m9 fun v11 m11 =>
ex_i64 v11 fun z12 =>
opM (opA pg (.slice 78 (.tmp 0) (some (.tmp 1)) none none) 78 [v9, (intA (IntKind.wrap .i64 (a1 + z2)))] (look' m11 (topId v9 ++ (topId (intA (IntKind.wrap .i64 (a1 + z2))) ++ ([])))) 42) fun v13 d13 =>
opM (opA pg (.slice 78 (.tmp 0) (some (.tmp 1)) none none) 78 [a0, (intA a1)] (look' (mpushs m11 d13) (topId a0 ++ (topId (intA a1) ++ ([])))) 45) fun v14 d14 =>
opM (opA pg (.call ⟨.builtin .copy, #[.tmp 0, .tmp 1], #[78, 78]⟩) 3 [v13, v14] (look' (mpushs (mpushs m11 d13) d14) (topId v13 ++ (topId v14 ++ ([])))) 46) fun v15 d15 =>
ex_i64 v15 fun z16 =>
chk (confOk [0, 0, 0, 6, 15, 0, 0, 96, 255] [⟨[], []⟩, ⟨[], []⟩, ⟨[], []⟩, ⟨[], []⟩, ⟨d13, (topId v9 ++ (topId (intA (IntKind.wrap .i64 (a1 + z2))) ++ ([])))⟩, ⟨[], []⟩, ⟨[], []⟩, ⟨d14, (topId a0 ++ (topId (intA a1) ++ ([])))⟩, ⟨d15, (topId v13 ++ (topId v14 ++ ([])))⟩]) (retL R (mpushs (mpushs (mpushs m11 d13) d14) d15) [some v9])) else (
opP (opA pg (.slice 78 (.tmp 0) none (some (.tmp 1)) none) 78 [a0, (intA (IntKind.wrap .i64 (z4 + z2)))] (mget m) 27) fun v17 =>
opP (opA pg (.slice 78 (.tmp 0) (some (.tmp 1)) none none) 78 [v17, (intA (IntKind.wrap .i64 (a1 + z2)))] (mget m) 34) fun v18 =>
callQ pg KK.gl m 248 [a2, v18] fun v19 =>
exB v19 fun b20 =>
bif (!b20) then (
opM (opA pg (.slice 78 (.tmp 0) (some (.tmp 1)) none none) 78 [v17, (intA (IntKind.wrap .i64 (a1 + z2)))] (look' m (topId v17 ++ (topId (intA (IntKind.wrap .i64 (a1 + z2))) ++ ([])))) 104) fun v21 d21 =>
opM (opA pg (.slice 78 (.tmp 0) (some (.tmp 1)) none none) 78 [v17, (intA a1)] (look' (mpushs m d21) (topId v17 ++ (topId (intA a1) ++ ([])))) 107) fun v22 d22 =>
opM (opA pg (.call ⟨.builtin .copy, #[.tmp 0, .tmp 1], #[78, 78]⟩) 3 [v21, v22] (look' (mpushs (mpushs m d21) d22) (topId v21 ++ (topId v22 ++ ([])))) 108) fun v23 d23 =>
ex_i64 v23 fun z24 =>
chk (confOk [0, 0, 0, 6, 15, 0, 0, 96, 255] [⟨[], []⟩, ⟨[], []⟩, ⟨[], []⟩, ⟨[], []⟩, ⟨d21, (topId v17 ++ (topId (intA (IntKind.wrap .i64 (a1 + z2))) ++ ([])))⟩, ⟨[], []⟩, ⟨[], []⟩, ⟨d22, (topId v17 ++ (topId (intA a1) ++ ([])))⟩, ⟨d23, (topId v21 ++ (topId v22 ++ ([])))⟩]) (opP (opA pg (.slice 78 (.tmp 0) (some (.tmp 1)) none none) 78 [v17, (intA a1)] (mget (mpushs (mpushs (mpushs m d21) d22) d23)) 111) fun v25 =>
opN (opA pg (.call ⟨.builtin .copy, #[.tmp 0, .tmp 1], #[78, 77]⟩) 3 [v25, a2] (mget (mpushs (mpushs (mpushs m d21) d22) d23)) 113) (mpushs (mpushs (mpushs m d21) d22) d23) fun v26 m26 =>
ex_i64 v26 fun z27 =>
retL R m26 [some v17])) else (
opP (opA pg (.slice 78 (.tmp 0) (some (.tmp 1)) none none) 78 [v17, (intA z4)] (mget m) 102) fun v28 =>
opN (opA pg (.call ⟨.builtin .copy, #[.tmp 0, .tmp 1], #[78, 77]⟩) 3 [v28, a2] (mget m) 104) m fun v29 m29 =>
ex_i64 v29 fun z30 =>
opP (opA pg (.slice 78 (.tmp 0) (some (.tmp 1)) none none) 78 [v17, (intA a1)] (mget m29) 107) fun v31 =>
callW pg KK.gl m29 109 249 [v31, (intA z2)] fun v32 m32 =>
exT0 v32 <|
retL R m32 [some v17]))))
theorem F192n2_call (a0 : AV) (a1 : Int) (a2 : AV) (m : Mem) (R : AV → Mem → Prop) (h : F192n2 a0 a1 a2 m R) : callN pg KK.gl m 2 192 [a0, (intA a1), a2] R := callN_of_F fol Tryz.func192 (code := ((Tryz.f192).body).getD .skip) (by kernel_rfl) (by kernel_rfl) (by kernel_rfl) (X := F192n2 a0 a1 a2 m R) (by kernel_rfl) h
end Go.Proofs.YtbnnndfcaehlpaaGreatDoor
