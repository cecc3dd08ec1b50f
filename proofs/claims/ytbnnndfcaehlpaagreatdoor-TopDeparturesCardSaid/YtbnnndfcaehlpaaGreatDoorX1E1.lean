/- Plain functional programs out of the program's functions, with proofs that the functions compute them; printed by wip/Ext.lean.txt. -/
import Derived.Test.YtbnnndfcaehlpaaGreatDoorX1G
import Derived.Test.YtbnnndfcaehlpaaGreatDoorX1F1
import Derived.Test.YtbnnndfcaehlpaaGreatDoorX1F2
import Derived.Test.YtbnnndfcaehlpaaGreatDoorX1F3
import Derived.Test.YtbnnndfcaehlpaaGreatDoorX1S
set_option linter.unusedVariables false
set_option linter.unusedSimpArgs false
set_option maxRecDepth 100000
set_option maxHeartbeats 4000000
namespace Go.Proofs.YtbnnndfcaehlpaaGreatDoor
theorem cloneC36 {n : Nat} {look : Nat → Option ABlk} {l : List TRunwayMove} {u : Unit} (h : roomO l.length 32 = some u) : PureD pg KK.gl look n 36 [lstA TRunwayMove.E l] (ownV TRunwayMove.E n l) [(n, ownB TRunwayMove.E 48 l)] :=
  made_ownC (by simp [cleans, clean, encs_clean]) (F36_own _ _ (by
    unfold F36
    exact clone_ok (E := TRunwayMove.E) rfl rfl h))
noncomputable def J43 (a1 : Int) (a2 : AV) (m : Mem) (R : AV → Mem → Prop) (z2 z4 : Int) (v17 : AV) : Prop :=

opP (opA pg (.slice 41 (.tmp 0) (some (.tmp 1)) none none) 41 [v17, (AV.sc (.int .i64 z4))] (mget m) 102) fun v28 =>
opN (opA pg (.call ⟨.builtin .copy, #[.tmp 0, .tmp 1], #[41, 41]⟩) 3 [v28, a2] (mget m) 104) m fun v29 m29 =>
ex_i64 v29 fun z30 =>
opP (opA pg (.slice 41 (.tmp 0) (some (.tmp 1)) none none) 41 [v17, (AV.sc (.int .i64 a1))] (mget m29) 107) fun v31 =>
callW pg KK.gl m29 109 108 [v31, (AV.sc (.int .i64 z2))] fun v32 m32 =>
exT0 v32 <|
retL R m32 [some v17]
noncomputable def J43n (a0 : AV) (a1 : Int) (a2 : AV) (m : Mem) (R : AV → Mem → Prop) (z2 z4 : Int) : Prop :=

opP (opA pg (.call ⟨.builtin .cap, #[.tmp 0], #[41]⟩) 3 [a0] (mget m) 20) fun v6 =>
ex_i64 v6 fun z7 =>
bif (decide ((IntKind.wrap .i64 (z4 + z2)) > z7)) then (
opP (opA pg (.slice 41 (.tmp 0) none (some (.tmp 1)) none) 41 [a0, (AV.sc (.int .i64 a1))] (mget m) 24) fun v8 =>
opN (opA pg (.call ⟨.builtin .append, #[.tmp 0, .tmp 1], #[41, 3]⟩) 41 [v8, (AV.sc (.int .i64 (IntKind.wrap .i64 ((IntKind.wrap .i64 (z4 + z2)) - a1))))] (mget m) 30) m fun v9 m9 =>
opP (opA pg (.slice 41 (.tmp 0) (some (.tmp 1)) none none) 41 [v9, (AV.sc (.int .i64 a1))] (mget m9) 34) fun v10 =>
opN (opA pg (.call ⟨.builtin .copy, #[.tmp 0, .tmp 1], #[41, 41]⟩) 3 [v10, a2] (mget m9) 36) m9 fun v11 m11 =>
ex_i64 v11 fun z12 =>
opM (opA pg (.slice 41 (.tmp 0) (some (.tmp 1)) none none) 41 [v9, (AV.sc (.int .i64 (IntKind.wrap .i64 (a1 + z2))))] (look' m11 (topId v9 ++ (topId (AV.sc (.int .i64 (IntKind.wrap .i64 (a1 + z2)))) ++ ([])))) 41) fun v13 d13 =>
opM (opA pg (.slice 41 (.tmp 0) (some (.tmp 1)) none none) 41 [a0, (AV.sc (.int .i64 a1))] (look' (mpushs m11 d13) (topId a0 ++ (topId (AV.sc (.int .i64 a1)) ++ ([])))) 44) fun v14 d14 =>
opM (opA pg (.call ⟨.builtin .copy, #[.tmp 0, .tmp 1], #[41, 41]⟩) 3 [v13, v14] (look' (mpushs (mpushs m11 d13) d14) (topId v13 ++ (topId v14 ++ ([])))) 45) fun v15 d15 =>
ex_i64 v15 fun z16 =>
chk (confOk [0, 0, 0, 6, 15, 0, 0, 96, 255] [⟨[], []⟩, ⟨[], []⟩, ⟨[], []⟩, ⟨[], []⟩, ⟨d13, (topId v9 ++ (topId (AV.sc (.int .i64 (IntKind.wrap .i64 (a1 + z2)))) ++ ([])))⟩, ⟨[], []⟩, ⟨[], []⟩, ⟨d14, (topId a0 ++ (topId (AV.sc (.int .i64 a1)) ++ ([])))⟩, ⟨d15, (topId v13 ++ (topId v14 ++ ([])))⟩]) (retL R (mpushs (mpushs (mpushs m11 d13) d14) d15) [some v9])) else (
opP (opA pg (.slice 41 (.tmp 0) none (some (.tmp 1)) none) 41 [a0, (AV.sc (.int .i64 (IntKind.wrap .i64 (z4 + z2))))] (mget m) 26) fun v17 =>
opP (opA pg (.slice 41 (.tmp 0) (some (.tmp 1)) none none) 41 [v17, (AV.sc (.int .i64 (IntKind.wrap .i64 (a1 + z2))))] (mget m) 33) fun v18 =>
callQ pg KK.gl m 107 [a2, v18] fun v19 =>
exB v19 fun b20 =>
bif (!b20) then (
opM (opA pg (.slice 41 (.tmp 0) (some (.tmp 1)) none none) 41 [v17, (AV.sc (.int .i64 (IntKind.wrap .i64 (a1 + z2))))] (look' m (topId v17 ++ (topId (AV.sc (.int .i64 (IntKind.wrap .i64 (a1 + z2)))) ++ ([])))) 103) fun v21 d21 =>
opM (opA pg (.slice 41 (.tmp 0) (some (.tmp 1)) none none) 41 [v17, (AV.sc (.int .i64 a1))] (look' (mpushs m d21) (topId v17 ++ (topId (AV.sc (.int .i64 a1)) ++ ([])))) 106) fun v22 d22 =>
opM (opA pg (.call ⟨.builtin .copy, #[.tmp 0, .tmp 1], #[41, 41]⟩) 3 [v21, v22] (look' (mpushs (mpushs m d21) d22) (topId v21 ++ (topId v22 ++ ([])))) 107) fun v23 d23 =>
ex_i64 v23 fun z24 =>
chk (confOk [0, 0, 0, 6, 15, 0, 0, 96, 255] [⟨[], []⟩, ⟨[], []⟩, ⟨[], []⟩, ⟨[], []⟩, ⟨d21, (topId v17 ++ (topId (AV.sc (.int .i64 (IntKind.wrap .i64 (a1 + z2)))) ++ ([])))⟩, ⟨[], []⟩, ⟨[], []⟩, ⟨d22, (topId v17 ++ (topId (AV.sc (.int .i64 a1)) ++ ([])))⟩, ⟨d23, (topId v21 ++ (topId v22 ++ ([])))⟩]) (opP (opA pg (.slice 41 (.tmp 0) (some (.tmp 1)) none none) 41 [v17, (AV.sc (.int .i64 a1))] (mget (mpushs (mpushs (mpushs m d21) d22) d23)) 110) fun v25 =>
opN (opA pg (.call ⟨.builtin .copy, #[.tmp 0, .tmp 1], #[41, 41]⟩) 3 [v25, a2] (mget (mpushs (mpushs (mpushs m d21) d22) d23)) 112) (mpushs (mpushs (mpushs m d21) d22) d23) fun v26 m26 =>
ex_i64 v26 fun z27 =>
retL R m26 [some v17])) else (
opP (opA pg (.slice 41 (.tmp 0) (some (.tmp 1)) none none) 41 [v17, (AV.sc (.int .i64 z4))] (mget m) 101) fun v28 =>
opN (opA pg (.call ⟨.builtin .copy, #[.tmp 0, .tmp 1], #[41, 41]⟩) 3 [v28, a2] (mget m) 103) m fun v29 m29 =>
ex_i64 v29 fun z30 =>
opP (opA pg (.slice 41 (.tmp 0) (some (.tmp 1)) none none) 41 [v17, (AV.sc (.int .i64 a1))] (mget m29) 106) fun v31 =>
callW pg KK.gl m29 108 108 [v31, (AV.sc (.int .i64 z2))] fun v32 m32 =>
exT0 v32 <|
retL R m32 [some v17]))
theorem J43_eq (a0 : AV) (a1 : Int) (a2 : AV) (m : Mem) (R : AV → Mem → Prop) : insTxt pg KK.gl 41 3 48 4 32 107 [(AV.sc (.int .i64 (0))), (AV.sc (.int .i64 (0))), (AV.sc (.bool false)), (AV.sc (.int .i64 (0)))] (J43 a1 a2 m R) a0 a1 a2 m R = F43n2 a0 a1 a2 m R := by kernel_rfl
theorem J43n_eq (a0 : AV) (a1 : Int) (a2 : AV) (m : Mem) (R : AV → Mem → Prop) : insTxt1 pg 41 48 4 32 [(AV.sc (.int .i64 (0))), (AV.sc (.int .i64 (0))), (AV.sc (.bool false)), (AV.sc (.int .i64 (0)))] (J43n a0 a1 a2 m R) a0 a1 a2 m R = F43n1 a0 a1 a2 m R := by kernel_rfl
theorem over43 : OverF pg 107 41 4 := ⟨⟨Tryz.f107, Tryz.func107, by kernel_rfl, by kernel_rfl, by kernel_rfl, by kernel_rfl⟩, ⟨48, _, by kernel_rfl, run_size (n := (tsize pg 48).getD 0) (by kernel_rfl)⟩⟩
theorem insa43 {l xs : List TRunwayMove} {C k : Nat} (hC : l.length ≤ C) (hCm : C ≤ maxLen) (hne : l ≠ []) (hx : xs ≠ []) (hk : k ≤ l.length) (r1 : (l.length + xs.length) * 32 ≤ 140737488355328) (r2 : l.length + xs.length ≤ 4611686018427387904) (a0 : AV) (ha0 : a0 = .sl 0 0 TRunwayMove.E.size l.length C true) (a1 : Int) (ha1 : a1 = (k : Int)) (a2 : AV) (ha2 : a2 = .sl 1 0 TRunwayMove.E.size xs.length xs.length false) (m : Mem) (hm : m = [(0, some ⟨encs TRunwayMove.E l ++ List.replicate ((C - l.length) * TRunwayMove.E.size) .und, 48⟩), (1, some ⟨encs TRunwayMove.E xs, 48⟩)]) : F43n2 a0 a1 a2 m (MutO TRunwayMove.E 48 (l.take k ++ xs ++ l.drop k)) := by
  rw [← J43_eq]
  exact insert_ok (P := pg) (gl := KK.gl) (E := TRunwayMove.E) (t := 41) (e := 48) (sz := 4) (by_ := 32) (fo := 107) (ty2 := 48) (i := k) (zs := [(AV.sc (.int .i64 (0))), (AV.sc (.int .i64 (0))), (AV.sc (.bool false)), (AV.sc (.int .i64 (0)))]) (l := l) (xs := xs) (C := C) (f := 0) (nt := 0) (kk := .i64) (by kernel_rfl) (by kernel_rfl) (by kernel_rfl) (by kernel_rfl) rfl rfl (by kernel_rfl) over43 hC hCm hne hx hk r1 r2 (MutO TRunwayMove.E 48 (l.take k ++ xs ++ l.drop k)) (fun _ _ h => h) m hm a0 ha0 a1 ha1 a2 ha2 _
theorem insb43 {xs : List TRunwayMove} (hx : xs ≠ []) (r1 : (0 + xs.length) * 32 ≤ 140737488355328) (r2 : 0 + xs.length ≤ 4611686018427387904) (a0 : AV) (ha0 : a0 = .lst 0 [] true) (a1 : Int) (ha1 : a1 = 0) (a2 : AV) (ha2 : a2 = .sl 0 0 TRunwayMove.E.size xs.length xs.length false) (m : Mem) (hm : m = [(0, some ⟨encs TRunwayMove.E xs, 48⟩)]) : F43n1 a0 a1 a2 m (MutO TRunwayMove.E 48 xs) := by
  rw [← J43n_eq]
  exact insert_nil_ok (by kernel_rfl) (by kernel_rfl) rfl rfl hx r1 r2 _ (fun _ _ h => h) m hm a0 ha0 a1 ha1 a2 ha2 _
theorem ins43 {n id wid : Nat} {look : Nat → Option ABlk} {l0 l xs0 xs y : List TRunwayMove} {i : Int} (hl : l0.length = l.length) (hb : look id = ownB TRunwayMove.E 48 l) (hl2 : xs0.length = xs.length) (hb2 : look wid = some ⟨encs TRunwayMove.E xs, 48⟩) (hid : id ≠ wid) (h : insO 32 l i xs = some y) : PureD pg KK.gl look n 43 [ownV TRunwayMove.E id l0, intA i, blkV TRunwayMove.E wid xs0] (ownV TRunwayMove.E n y) [(n, ownB TRunwayMove.E 48 y), (wid, none), (id, none)] :=
  ins_mk (fun _ => rfl) hl hb hl2 hb2 hid h (fun C k hC hCm hne hx hk r1 r2 => F43n2_call _ _ _ _ _ (insa43 hC hCm hne hx hk r1 r2 _ rfl _ rfl _ rfl _ rfl)) (fun hx r1 r2 => F43n1_call _ _ _ _ _ (insb43 hx r1 r2 _ rfl _ rfl _ rfl _ rfl))
noncomputable def J192 (a1 : Int) (a2 : AV) (m : Mem) (R : AV → Mem → Prop) (z2 z4 : Int) (v17 : AV) : Prop :=

opP (opA pg (.slice 78 (.tmp 0) (some (.tmp 1)) none none) 78 [v17, (AV.sc (.int .i64 z4))] (mget m) 102) fun v28 =>
opN (opA pg (.call ⟨.builtin .copy, #[.tmp 0, .tmp 1], #[78, 77]⟩) 3 [v28, a2] (mget m) 104) m fun v29 m29 =>
ex_i64 v29 fun z30 =>
opP (opA pg (.slice 78 (.tmp 0) (some (.tmp 1)) none none) 78 [v17, (AV.sc (.int .i64 a1))] (mget m29) 107) fun v31 =>
callW pg KK.gl m29 109 249 [v31, (AV.sc (.int .i64 z2))] fun v32 m32 =>
exT0 v32 <|
retL R m32 [some v17]
noncomputable def J192n (a0 : AV) (a1 : Int) (a2 : AV) (m : Mem) (R : AV → Mem → Prop) (z2 z4 : Int) : Prop :=

opP (opA pg (.call ⟨.builtin .cap, #[.tmp 0], #[78]⟩) 3 [a0] (mget m) 20) fun v6 =>
ex_i64 v6 fun z7 =>
bif (decide ((IntKind.wrap .i64 (z4 + z2)) > z7)) then (
opP (opA pg (.slice 78 (.tmp 0) none (some (.tmp 1)) none) 78 [a0, (AV.sc (.int .i64 a1))] (mget m) 24) fun v8 =>
opN (opA pg (.call ⟨.builtin .append, #[.tmp 0, .tmp 1], #[78, 3]⟩) 78 [v8, (AV.sc (.int .i64 (IntKind.wrap .i64 ((IntKind.wrap .i64 (z4 + z2)) - a1))))] (mget m) 30) m fun v9 m9 =>
opP (opA pg (.slice 78 (.tmp 0) (some (.tmp 1)) none none) 78 [v9, (AV.sc (.int .i64 a1))] (mget m9) 34) fun v10 =>
opN (opA pg (.call ⟨.builtin .copy, #[.tmp 0, .tmp 1], #[78, 77]⟩) 3 [v10, a2] (mget m9) 36) m9 fun v11 m11 =>
ex_i64 v11 fun z12 =>
opM (opA pg (.slice 78 (.tmp 0) (some (.tmp 1)) none none) 78 [v9, (AV.sc (.int .i64 (IntKind.wrap .i64 (a1 + z2))))] (look' m11 (topId v9 ++ (topId (AV.sc (.int .i64 (IntKind.wrap .i64 (a1 + z2)))) ++ ([])))) 41) fun v13 d13 =>
opM (opA pg (.slice 78 (.tmp 0) (some (.tmp 1)) none none) 78 [a0, (AV.sc (.int .i64 a1))] (look' (mpushs m11 d13) (topId a0 ++ (topId (AV.sc (.int .i64 a1)) ++ ([])))) 44) fun v14 d14 =>
opM (opA pg (.call ⟨.builtin .copy, #[.tmp 0, .tmp 1], #[78, 78]⟩) 3 [v13, v14] (look' (mpushs (mpushs m11 d13) d14) (topId v13 ++ (topId v14 ++ ([])))) 45) fun v15 d15 =>
ex_i64 v15 fun z16 =>
chk (confOk [0, 0, 0, 6, 15, 0, 0, 96, 255] [⟨[], []⟩, ⟨[], []⟩, ⟨[], []⟩, ⟨[], []⟩, ⟨d13, (topId v9 ++ (topId (AV.sc (.int .i64 (IntKind.wrap .i64 (a1 + z2)))) ++ ([])))⟩, ⟨[], []⟩, ⟨[], []⟩, ⟨d14, (topId a0 ++ (topId (AV.sc (.int .i64 a1)) ++ ([])))⟩, ⟨d15, (topId v13 ++ (topId v14 ++ ([])))⟩]) (retL R (mpushs (mpushs (mpushs m11 d13) d14) d15) [some v9])) else (
opP (opA pg (.slice 78 (.tmp 0) none (some (.tmp 1)) none) 78 [a0, (AV.sc (.int .i64 (IntKind.wrap .i64 (z4 + z2))))] (mget m) 26) fun v17 =>
opP (opA pg (.slice 78 (.tmp 0) (some (.tmp 1)) none none) 78 [v17, (AV.sc (.int .i64 (IntKind.wrap .i64 (a1 + z2))))] (mget m) 33) fun v18 =>
callQ pg KK.gl m 248 [a2, v18] fun v19 =>
exB v19 fun b20 =>
bif (!b20) then (
opM (opA pg (.slice 78 (.tmp 0) (some (.tmp 1)) none none) 78 [v17, (AV.sc (.int .i64 (IntKind.wrap .i64 (a1 + z2))))] (look' m (topId v17 ++ (topId (AV.sc (.int .i64 (IntKind.wrap .i64 (a1 + z2)))) ++ ([])))) 103) fun v21 d21 =>
opM (opA pg (.slice 78 (.tmp 0) (some (.tmp 1)) none none) 78 [v17, (AV.sc (.int .i64 a1))] (look' (mpushs m d21) (topId v17 ++ (topId (AV.sc (.int .i64 a1)) ++ ([])))) 106) fun v22 d22 =>
opM (opA pg (.call ⟨.builtin .copy, #[.tmp 0, .tmp 1], #[78, 78]⟩) 3 [v21, v22] (look' (mpushs (mpushs m d21) d22) (topId v21 ++ (topId v22 ++ ([])))) 107) fun v23 d23 =>
ex_i64 v23 fun z24 =>
chk (confOk [0, 0, 0, 6, 15, 0, 0, 96, 255] [⟨[], []⟩, ⟨[], []⟩, ⟨[], []⟩, ⟨[], []⟩, ⟨d21, (topId v17 ++ (topId (AV.sc (.int .i64 (IntKind.wrap .i64 (a1 + z2)))) ++ ([])))⟩, ⟨[], []⟩, ⟨[], []⟩, ⟨d22, (topId v17 ++ (topId (AV.sc (.int .i64 a1)) ++ ([])))⟩, ⟨d23, (topId v21 ++ (topId v22 ++ ([])))⟩]) (opP (opA pg (.slice 78 (.tmp 0) (some (.tmp 1)) none none) 78 [v17, (AV.sc (.int .i64 a1))] (mget (mpushs (mpushs (mpushs m d21) d22) d23)) 110) fun v25 =>
opN (opA pg (.call ⟨.builtin .copy, #[.tmp 0, .tmp 1], #[78, 77]⟩) 3 [v25, a2] (mget (mpushs (mpushs (mpushs m d21) d22) d23)) 112) (mpushs (mpushs (mpushs m d21) d22) d23) fun v26 m26 =>
ex_i64 v26 fun z27 =>
retL R m26 [some v17])) else (
opP (opA pg (.slice 78 (.tmp 0) (some (.tmp 1)) none none) 78 [v17, (AV.sc (.int .i64 z4))] (mget m) 101) fun v28 =>
opN (opA pg (.call ⟨.builtin .copy, #[.tmp 0, .tmp 1], #[78, 77]⟩) 3 [v28, a2] (mget m) 103) m fun v29 m29 =>
ex_i64 v29 fun z30 =>
opP (opA pg (.slice 78 (.tmp 0) (some (.tmp 1)) none none) 78 [v17, (AV.sc (.int .i64 a1))] (mget m29) 106) fun v31 =>
callW pg KK.gl m29 108 249 [v31, (AV.sc (.int .i64 z2))] fun v32 m32 =>
exT0 v32 <|
retL R m32 [some v17]))
theorem J192_eq (a0 : AV) (a1 : Int) (a2 : AV) (m : Mem) (R : AV → Mem → Prop) : insTxt pg KK.gl 78 3 131 6 48 248 [(AV.sc (.int .i64 (0))), (AV.sc (.int .i64 (0))), (AV.sc (.int .i64 (0))), (AV.sc (.int .i64 (0))), (AV.sc (.int .i64 (0))), (AV.sc (.int .i64 (0)))] (J192 a1 a2 m R) a0 a1 a2 m R = F192n2 a0 a1 a2 m R := by kernel_rfl
theorem J192n_eq (a0 : AV) (a1 : Int) (a2 : AV) (m : Mem) (R : AV → Mem → Prop) : insTxt1 pg 78 131 6 48 [(AV.sc (.int .i64 (0))), (AV.sc (.int .i64 (0))), (AV.sc (.int .i64 (0))), (AV.sc (.int .i64 (0))), (AV.sc (.int .i64 (0))), (AV.sc (.int .i64 (0)))] (J192n a0 a1 a2 m R) a0 a1 a2 m R = F192n1 a0 a1 a2 m R := by kernel_rfl
theorem over192 : OverF pg 248 77 4 := ⟨⟨Tryz.f248, Tryz.func248, by kernel_rfl, by kernel_rfl, by kernel_rfl, by kernel_rfl⟩, ⟨131, _, by kernel_rfl, run_size (n := (tsize pg 131).getD 0) (by kernel_rfl)⟩⟩
theorem insa192 {l xs : List TTubeNode} {C k : Nat} (hC : l.length ≤ C) (hCm : C ≤ maxLen) (hne : l ≠ []) (hx : xs ≠ []) (hk : k ≤ l.length) (r1 : (l.length + xs.length) * 48 ≤ 140737488355328) (r2 : l.length + xs.length ≤ 4611686018427387904) (a0 : AV) (ha0 : a0 = .sl 0 0 TTubeNode.E.size l.length C true) (a1 : Int) (ha1 : a1 = (k : Int)) (a2 : AV) (ha2 : a2 = .sl 1 0 TTubeNode.E.size xs.length xs.length false) (m : Mem) (hm : m = [(0, some ⟨encs TTubeNode.E l ++ List.replicate ((C - l.length) * TTubeNode.E.size) .und, 131⟩), (1, some ⟨encs TTubeNode.E xs, 131⟩)]) : F192n2 a0 a1 a2 m (MutO TTubeNode.E 131 (l.take k ++ xs ++ l.drop k)) := by
  rw [← J192_eq]
  exact insert_ok (P := pg) (gl := KK.gl) (E := TTubeNode.E) (t := 78) (e := 131) (sz := 6) (by_ := 48) (fo := 248) (ty2 := 131) (i := k) (zs := [(AV.sc (.int .i64 (0))), (AV.sc (.int .i64 (0))), (AV.sc (.int .i64 (0))), (AV.sc (.int .i64 (0))), (AV.sc (.int .i64 (0))), (AV.sc (.int .i64 (0)))]) (l := l) (xs := xs) (C := C) (f := 0) (nt := 0) (kk := .i64) (by kernel_rfl) (by kernel_rfl) (by kernel_rfl) (by kernel_rfl) rfl rfl (by kernel_rfl) over192 hC hCm hne hx hk r1 r2 (MutO TTubeNode.E 131 (l.take k ++ xs ++ l.drop k)) (fun _ _ h => h) m hm a0 ha0 a1 ha1 a2 ha2 _
theorem insb192 {xs : List TTubeNode} (hx : xs ≠ []) (r1 : (0 + xs.length) * 48 ≤ 140737488355328) (r2 : 0 + xs.length ≤ 4611686018427387904) (a0 : AV) (ha0 : a0 = .lst 0 [] true) (a1 : Int) (ha1 : a1 = 0) (a2 : AV) (ha2 : a2 = .sl 0 0 TTubeNode.E.size xs.length xs.length false) (m : Mem) (hm : m = [(0, some ⟨encs TTubeNode.E xs, 131⟩)]) : F192n1 a0 a1 a2 m (MutO TTubeNode.E 131 xs) := by
  rw [← J192n_eq]
  exact insert_nil_ok (by kernel_rfl) (by kernel_rfl) rfl rfl hx r1 r2 _ (fun _ _ h => h) m hm a0 ha0 a1 ha1 a2 ha2 _
theorem ins192 {n id wid : Nat} {look : Nat → Option ABlk} {l0 l xs0 xs y : List TTubeNode} {i : Int} (hl : l0.length = l.length) (hb : look id = ownB TTubeNode.E 131 l) (hl2 : xs0.length = xs.length) (hb2 : look wid = some ⟨encs TTubeNode.E xs, 131⟩) (hid : id ≠ wid) (h : insO 48 l i xs = some y) : PureD pg KK.gl look n 192 [ownV TTubeNode.E id l0, intA i, blkV TTubeNode.E wid xs0] (ownV TTubeNode.E n y) [(n, ownB TTubeNode.E 131 y), (wid, none), (id, none)] :=
  ins_mk (fun _ => rfl) hl hb hl2 hb2 hid h (fun C k hC hCm hne hx hk r1 r2 => F192n2_call _ _ _ _ _ (insa192 hC hCm hne hx hk r1 r2 _ rfl _ rfl _ rfl _ rfl)) (fun hx r1 r2 => F192n1_call _ _ _ _ _ (insb192 hx r1 r2 _ rfl _ rfl _ rfl _ rfl))
/- skyway/probe.CheckSep -/
theorem g159_ok (n : Nat) (a0 : TSep) {t : ρ159} (R : AV → Mem → Prop) (hR : ∀ r : ρ159, t = r → ∀ u m, Ans ((intA r)) u m → R u m) : g159 n a0 = some t → F159 a0.Lateral a0.Vertical R := by
  unfold g159 F159
  refine cond_b (fun _ => ?_) (fun _ => ?_)
  · exact fun hg => ret1 (hR _ (Option.some.inj hg).symm) (fz_sc _ _)
  · refine cond_b (fun _ => ?_) (fun _ => ?_)
    · exact fun hg => ret1 (hR _ (Option.some.inj hg).symm) (fz_sc _ _)
    · refine cond_b (fun _ => ?_) (fun _ => ?_)
      · exact fun hg => ret1 (hR _ (Option.some.inj hg).symm) (fz_sc _ _)
      · refine cond_b (fun _ => ?_) (fun _ => ?_)
        · exact fun hg => ret1 (hR _ (Option.some.inj hg).symm) (fz_sc _ _)
        · exact fun hg => ret1 (hR _ (Option.some.inj hg).symm) (fz_sc _ _)
theorem sg159 {n : Nat} {a0 : TSep} {t : ρ159} (h : g159 n a0 = some t) : Says pg KK.gl 159 [(AV.agg [(intA a0.Lateral), (intA a0.Vertical)])] ((intA t)) :=
  says_of_own (by first | rfl | simp [cleans, clean, encs_clean, En.cln]) (by first | rfl | simp [cleans, clean, encs_clean, En.cln]) (F159_own a0.Lateral a0.Vertical _ (g159_ok n a0 (Ans ((intA t))) (fun r e u m h => by rw [e]; exact h) h))
/- skyway/plane.Check -/
theorem g72_ok (n : Nat) (a0 : TP) {t : ρ72} (R : AV → Mem → Prop) (hR : ∀ r : ρ72, t = r → ∀ u m, Ans ((intA r)) u m → R u m) : g72 n a0 = some t → F72 a0.X a0.Y R := by
  unfold g72 F72
  refine cond_b (fun _ => ?_) (fun _ => ?_)
  · exact fun hg => ret1 (hR _ (Option.some.inj hg).symm) (fz_sc _ _)
  · refine cond_b (fun _ => ?_) (fun _ => ?_)
    · exact fun hg => ret1 (hR _ (Option.some.inj hg).symm) (fz_sc _ _)
    · refine cond_b (fun _ => ?_) (fun _ => ?_)
      · exact fun hg => ret1 (hR _ (Option.some.inj hg).symm) (fz_sc _ _)
      · refine cond_b (fun _ => ?_) (fun _ => ?_)
        · exact fun hg => ret1 (hR _ (Option.some.inj hg).symm) (fz_sc _ _)
        · exact fun hg => ret1 (hR _ (Option.some.inj hg).symm) (fz_sc _ _)
theorem sg72 {n : Nat} {a0 : TP} {t : ρ72} (h : g72 n a0 = some t) : Says pg KK.gl 72 [(AV.agg [(intA a0.X), (intA a0.Y)])] ((intA t)) :=
  says_of_own (by first | rfl | simp [cleans, clean, encs_clean, En.cln]) (by first | rfl | simp [cleans, clean, encs_clean, En.cln]) (F72_own a0.X a0.Y _ (g72_ok n a0 (Ans ((intA t))) (fun r e u m h => by rw [e]; exact h) h))
/- skyway/tube.Check -/
theorem B67_0_ok (n : Nat) (a0 : List TTubeNode) (c2 : Int) (c15 : Int) (v16 : Int) {t : (Int) ⊕ ρ67} (R : AV → Mem → Prop) (N0 : St → Prop) (hR : ∀ r : ρ67, t = (.inr r) → ∀ u m, Ans ((intA r)) u m → R u m) (hN0 : ∀ y : Int, t = (.inl y) → ∀ s' : St, Weak KK 86 0 s' (h67_0 (lstA TTubeNode.E a0) c2 (lstA TTubeNode.E a0) c15 y []) → N0 s') : S67_0 n a0 c2 c15 v16 = some t → B67_0 (lstA TTubeNode.E a0) c2 (lstA TTubeNode.E a0) c15 v16 [] R N0 := by
  unfold S67_0 B67_0
  refine cond_b (fun _ => ?_) (fun _ => ?_)
  · refine bind_b fun x0 h0 => ?_
    refine iq (AV.ept [(intA x0.Node_Time), (intA x0.Node_At_X), (intA x0.Node_At_Y), (intA x0.Node_Height), (intA x0.Radius), (intA x0.Band)] 0) (idx_lst (E := TTubeNode.E) rfl h0) ?_
    refine iq (AV.agg [(intA x0.Node_Time), (intA x0.Node_At_X), (intA x0.Node_At_Y), (intA x0.Node_Height), (intA x0.Radius), (intA x0.Band)]) rfl ?_
    refine imp exA6_b ?_
    iterate 6 refine imp ex_i64_b ?_
    refine cond_b (fun _ => ?_) (fun _ => ?_)
    · exact fun hg => ret1 (hR _ (Option.some.inj hg).symm) (fz_sc _ _)
    · refine cond_b (fun _ => ?_) (fun _ => ?_)
      · exact fun hg => ret1 (hR _ (Option.some.inj hg).symm) (fz_sc _ _)
      · refine cond_b (fun _ => ?_) (fun _ => ?_)
        · refine bind_b fun x1 h1 => ?_
          refine iq (AV.ept [(intA x1.Node_Time), (intA x1.Node_At_X), (intA x1.Node_At_Y), (intA x1.Node_Height), (intA x1.Radius), (intA x1.Band)] 0) (idx_lst (E := TTubeNode.E) rfl h1) ?_
          refine iq (AV.ept [(intA x1.Node_Time), (intA x1.Node_At_X), (intA x1.Node_At_Y), (intA x1.Node_Height), (intA x1.Radius), (intA x1.Band)] 0) rfl ?_
          refine iq (AV.ept [(intA x1.Node_Time), (intA x1.Node_At_X), (intA x1.Node_At_Y), (intA x1.Node_Height), (intA x1.Radius), (intA x1.Band)] 0) rfl ?_
          refine iq (intA x1.Node_Time) rfl ?_
          refine imp ex_i64_b ?_
          refine cond_b (fun _ => ?_) (fun _ => ?_)
          · exact fun hg => ret1 (hR _ (Option.some.inj hg).symm) (fz_sc _ _)
          · refine bind_b fun x2 h2 => ?_
            refine imp (callQ_says (sg72 h2)) ?_
            refine imp ex_i64_b ?_
            refine cond_b (fun _ => ?_) (fun _ => ?_)
            · exact fun hg => ret1 (hR _ (Option.some.inj hg).symm) (fz_sc _ _)
            · refine cond_b (fun _ => ?_) (fun _ => ?_)
              · exact fun hg => ret1 (hR _ (Option.some.inj hg).symm) (fz_sc _ _)
              · refine cond_b (fun _ => ?_) (fun _ => ?_)
                · exact fun hg => ret1 (hR _ (Option.some.inj hg).symm) (fz_sc _ _)
                · refine cond_b (fun _ => ?_) (fun _ => ?_)
                  · exact fun hg => ret1 (hR _ (Option.some.inj hg).symm) (fz_sc _ _)
                  · refine cond_b (fun _ => ?_) (fun _ => ?_)
                    · exact fun hg => ret1 (hR _ (Option.some.inj hg).symm) (fz_sc _ _)
                    · refine cond_b (fun _ => ?_) (fun _ => ?_)
                      · exact fun hg => ret1 (hR _ (Option.some.inj hg).symm) (fz_sc _ _)
                      · refine cond_b (fun _ => ?_) (fun _ => ?_)
                        · exact fun hg => ret1 (hR _ (Option.some.inj hg).symm) (fz_sc _ _)
                        · exact fun hg => hN0 _ (Option.some.inj hg).symm _ (weak_mem [] rfl rfl rfl (okW_cons (ent_lst (E := TTubeNode.E) _ false) (okW_cons (.inl (leV_refl _)) (okW_cons (ent_lst (E := TTubeNode.E) _ false) (okW_cons (.inl (leV_refl _)) (okW_cons (.inl (leV_refl _)) okW_nil))))) okB_nil')
        · refine bind_b fun x3 h3 => ?_
          refine imp (callQ_says (sg72 h3)) ?_
          refine imp ex_i64_b ?_
          refine cond_b (fun _ => ?_) (fun _ => ?_)
          · exact fun hg => ret1 (hR _ (Option.some.inj hg).symm) (fz_sc _ _)
          · refine cond_b (fun _ => ?_) (fun _ => ?_)
            · exact fun hg => ret1 (hR _ (Option.some.inj hg).symm) (fz_sc _ _)
            · refine cond_b (fun _ => ?_) (fun _ => ?_)
              · exact fun hg => ret1 (hR _ (Option.some.inj hg).symm) (fz_sc _ _)
              · refine cond_b (fun _ => ?_) (fun _ => ?_)
                · exact fun hg => ret1 (hR _ (Option.some.inj hg).symm) (fz_sc _ _)
                · refine cond_b (fun _ => ?_) (fun _ => ?_)
                  · exact fun hg => ret1 (hR _ (Option.some.inj hg).symm) (fz_sc _ _)
                  · refine cond_b (fun _ => ?_) (fun _ => ?_)
                    · exact fun hg => ret1 (hR _ (Option.some.inj hg).symm) (fz_sc _ _)
                    · refine cond_b (fun _ => ?_) (fun _ => ?_)
                      · exact fun hg => ret1 (hR _ (Option.some.inj hg).symm) (fz_sc _ _)
                      · exact fun hg => hN0 _ (Option.some.inj hg).symm _ (weak_mem [] rfl rfl rfl (okW_cons (ent_lst (E := TTubeNode.E) _ false) (okW_cons (.inl (leV_refl _)) (okW_cons (ent_lst (E := TTubeNode.E) _ false) (okW_cons (.inl (leV_refl _)) (okW_cons (.inl (leV_refl _)) okW_nil))))) okB_nil')
  · exact fun hg => ret1 (hR _ (Option.some.inj hg).symm) (fz_sc _ _)
theorem L67_0_ok (n : Nat) (a0 : List TTubeNode) (c2 : Int) (c15 : Int) {t : ρ67} (R : AV → Mem → Prop) (hR : ∀ r : ρ67, t = r → ∀ u m, Ans ((intA r)) u m → R u m) (k : Nat) (x : Int) (hx : iterO (fun y : Int => S67_0 n a0 c2 c15 y) k x = some t) {s : St} (hw : Weak KK 86 0 s (h67_0 (lstA TTubeNode.E a0) c2 (lstA TTubeNode.E a0) c15 x [])) : Tri pg KK 86 0 (.loop c67_0) s (q67_0 R ) :=
  L67_0 R  (σ := Nat × (Int)) (fun z => iterO (fun y : Int => S67_0 n a0 c2 c15 y) z.1 z.2 = some t) (fun z => (lstA TTubeNode.E a0)) (fun z => c2) (fun z => (lstA TTubeNode.E a0)) (fun z => c15) (fun z => z.2) (fun z => []) (fun z => z.1) (by
    rintro ⟨k, y⟩ h
    cases k with
    | zero => exact (iterO_zero h).elim
    | succ k =>
      obtain ⟨u, h1, h2, h3⟩ := iterO_elim h
      exact B67_0_ok n a0 c2 c15 y R  _ (fun r e => hR r (h3 _ e).symm)  (fun y' e s' hw => ⟨(k, y'), h2 _ e, Nat.lt_succ_self k, hw⟩) h1) (k, x) hx hw
theorem g67_ok (n : Nat) (a0 : List TTubeNode) {t : ρ67} (R : AV → Mem → Prop) (hR : ∀ r : ρ67, t = r → ∀ u m, Ans ((intA r)) u m → R u m) : g67 n a0 = some t → F67 (lstA TTubeNode.E a0) R := by
  unfold g67 F67
  refine iq (intA (a0.length : Int)) rfl ?_
  refine imp ex_i64_b ?_
  refine cond_b (fun _ => ?_) (fun _ => ?_)
  · exact fun hg => ret1 (hR _ (Option.some.inj hg).symm) (fz_sc _ _)
  · refine iq (intA (a0.length : Int)) rfl ?_
    refine imp ex_i64_b ?_
    refine cond_b (fun _ => ?_) (fun _ => ?_)
    · exact fun hg => ret1 (hR _ (Option.some.inj hg).symm) (fz_sc _ _)
    · refine iq (intA (a0.length : Int)) rfl ?_
      refine imp ex_i64_b ?_
      exact fun hg => L67_0_ok n a0 (0) (a0.length : Int) R  hR n _ hg (weak_mem [] rfl rfl rfl (okW_cons (ent_lst (E := TTubeNode.E) _ false) (okW_cons (.inl (leV_refl _)) (okW_cons (ent_lst (E := TTubeNode.E) _ false) (okW_cons (.inl (leV_refl _)) (okW_cons (.inl (leV_refl _)) okW_nil))))) okB_nil')
theorem sg67 {n : Nat} {a0 : List TTubeNode} {t : ρ67} (h : g67 n a0 = some t) : Says pg KK.gl 67 [(lstA TTubeNode.E a0)] ((intA t)) :=
  says_of_own (by first | rfl | simp [cleans, clean, encs_clean, En.cln]) (by first | rfl | simp [cleans, clean, encs_clean, En.cln]) (F67_own (lstA TTubeNode.E a0) _ (g67_ok n a0 (Ans ((intA t))) (fun r e u m h => by rw [e]; exact h) h))
/- skyway/probe.check -/
theorem B140_0_ok (n : Nat) (c4 : Int) (a1 : List (List TTubeNode)) (c15 : Int) (v16 : Int) {t : (Int) ⊕ ρ140} (R : AV → Mem → Prop) (N0 : St → Prop) (hR : ∀ r : ρ140, t = (.inr r) → ∀ u m, Ans ((intA r)) u m → R u m) (hN0 : ∀ y : Int, t = (.inl y) → ∀ s' : St, Weak KK 26 0 s' (h140_0 c4 (lstA (lstE TTubeNode.E) a1) c15 y []) → N0 s') : S140_0 n c4 a1 c15 v16 = some t → B140_0 c4 (lstA (lstE TTubeNode.E) a1) c15 v16 [] R N0 := by
  unfold S140_0 B140_0
  refine cond_b (fun _ => ?_) (fun _ => ?_)
  · refine bind_b fun x5 h5 => ?_
    refine iq (AV.ept [(lstA TTubeNode.E x5)] 0) (idx_lst (E := (lstE TTubeNode.E)) rfl h5) ?_
    refine iq (lstA TTubeNode.E x5) rfl ?_
    refine bind_b fun x6 h6 => ?_
    refine imp (callQ_says (sg67 h6)) ?_
    refine imp ex_i64_b ?_
    refine cond_b (fun _ => ?_) (fun _ => ?_)
    · exact fun hg => ret1 (hR _ (Option.some.inj hg).symm) (fz_sc _ _)
    · exact fun hg => hN0 _ (Option.some.inj hg).symm _ (weak_mem [] rfl rfl rfl (okW_cons (.inl (leV_refl _)) (okW_cons (ent_lst (E := (lstE TTubeNode.E)) _ false) (okW_cons (.inl (leV_refl _)) (okW_cons (.inl (leV_refl _)) okW_nil)))) okB_nil')
  · exact fun hg => ret1 (hR _ (Option.some.inj hg).symm) (fz_sc _ _)
theorem L140_0_ok (n : Nat) (c4 : Int) (a1 : List (List TTubeNode)) (c15 : Int) {t : ρ140} (R : AV → Mem → Prop) (hR : ∀ r : ρ140, t = r → ∀ u m, Ans ((intA r)) u m → R u m) (k : Nat) (x : Int) (hx : iterO (fun y : Int => S140_0 n c4 a1 c15 y) k x = some t) {s : St} (hw : Weak KK 26 0 s (h140_0 c4 (lstA (lstE TTubeNode.E) a1) c15 x [])) : Tri pg KK 26 0 (.loop c140_0) s (q140_0 R ) :=
  L140_0 R  (σ := Nat × (Int)) (fun z => iterO (fun y : Int => S140_0 n c4 a1 c15 y) z.1 z.2 = some t) (fun z => c4) (fun z => (lstA (lstE TTubeNode.E) a1)) (fun z => c15) (fun z => z.2) (fun z => []) (fun z => z.1) (by
    rintro ⟨k, y⟩ h
    cases k with
    | zero => exact (iterO_zero h).elim
    | succ k =>
      obtain ⟨u, h1, h2, h3⟩ := iterO_elim h
      exact B140_0_ok n c4 a1 c15 y R  _ (fun r e => hR r (h3 _ e).symm)  (fun y' e s' hw => ⟨(k, y'), h2 _ e, Nat.lt_succ_self k, hw⟩) h1) (k, x) hx hw
theorem g140_ok (n : Nat) (a0 : TSep) (a1 : List (List TTubeNode)) {t : ρ140} (R : AV → Mem → Prop) (hR : ∀ r : ρ140, t = r → ∀ u m, Ans ((intA r)) u m → R u m) : g140 n a0 a1 = some t → F140 a0.Lateral a0.Vertical (lstA (lstE TTubeNode.E) a1) R := by
  unfold g140 F140
  refine bind_b fun x4 h4 => ?_
  refine imp (callQ_says (sg159 h4)) ?_
  refine imp ex_i64_b ?_
  refine cond_b (fun _ => ?_) (fun _ => ?_)
  · exact fun hg => ret1 (hR _ (Option.some.inj hg).symm) (fz_sc _ _)
  · refine iq (intA (a1.length : Int)) rfl ?_
    refine imp ex_i64_b ?_
    exact fun hg => L140_0_ok n (0) a1 (a1.length : Int) R  hR n _ hg (weak_mem [] rfl rfl rfl (okW_cons (.inl (leV_refl _)) (okW_cons (ent_lst (E := (lstE TTubeNode.E)) _ false) (okW_cons (.inl (leV_refl _)) (okW_cons (.inl (leV_refl _)) okW_nil)))) okB_nil')
theorem sg140 {n : Nat} {a0 : TSep} {a1 : List (List TTubeNode)} {t : ρ140} (h : g140 n a0 a1 = some t) : Says pg KK.gl 140 [(AV.agg [(intA a0.Lateral), (intA a0.Vertical)]), (lstA (lstE TTubeNode.E) a1)] ((intA t)) :=
  says_of_own (by first | rfl | simp [cleans, clean, encs_clean, En.cln]) (by first | rfl | simp [cleans, clean, encs_clean, En.cln]) (F140_own a0.Lateral a0.Vertical (lstA (lstE TTubeNode.E) a1) _ (g140_ok n a0 a1 (Ans ((intA t))) (fun r e u m h => by rw [e]; exact h) h))
/- skyway/probe.common -/
theorem g196_ok (n : Nat) (a0 : List TTubeNode) (a1 : List TTubeNode) {t : ρ196} (R : AV → Mem → Prop) (hR : ∀ r : ρ196, t = r → ∀ u m, Ans ((AV.tup [(intA r.1), (intA r.2)])) u m → R u m) : g196 n a0 a1 = some t → F196 (lstA TTubeNode.E a0) (lstA TTubeNode.E a1) R := by
  unfold g196 F196
  refine bind_b fun x8 h8 => ?_
  refine iq (AV.ept [(intA x8.Node_Time), (intA x8.Node_At_X), (intA x8.Node_At_Y), (intA x8.Node_Height), (intA x8.Radius), (intA x8.Band)] 0) (idx_lst (E := TTubeNode.E) rfl h8) ?_
  refine iq (AV.ept [(intA x8.Node_Time), (intA x8.Node_At_X), (intA x8.Node_At_Y), (intA x8.Node_Height), (intA x8.Radius), (intA x8.Band)] 0) rfl ?_
  refine iq (AV.ept [(intA x8.Node_Time), (intA x8.Node_At_X), (intA x8.Node_At_Y), (intA x8.Node_Height), (intA x8.Radius), (intA x8.Band)] 0) rfl ?_
  refine iq (intA x8.Node_Time) rfl ?_
  refine imp ex_i64_b ?_
  refine bind_b fun x9 h9 => ?_
  refine iq (AV.ept [(intA x9.Node_Time), (intA x9.Node_At_X), (intA x9.Node_At_Y), (intA x9.Node_Height), (intA x9.Radius), (intA x9.Band)] 0) (idx_lst (E := TTubeNode.E) rfl h9) ?_
  refine iq (AV.ept [(intA x9.Node_Time), (intA x9.Node_At_X), (intA x9.Node_At_Y), (intA x9.Node_Height), (intA x9.Radius), (intA x9.Band)] 0) rfl ?_
  refine iq (AV.ept [(intA x9.Node_Time), (intA x9.Node_At_X), (intA x9.Node_At_Y), (intA x9.Node_Height), (intA x9.Radius), (intA x9.Band)] 0) rfl ?_
  refine iq (intA x9.Node_Time) rfl ?_
  refine imp ex_i64_b ?_
  refine iq (intA (if x9.Node_Time > x8.Node_Time then x9.Node_Time else x8.Node_Time)) (by kernel_rfl) ?_
  refine imp ex_i64_b ?_
  refine iq (intA (a0.length : Int)) rfl ?_
  refine imp ex_i64_b ?_
  refine bind_b fun x10 h10 => ?_
  refine iq (AV.ept [(intA x10.Node_Time), (intA x10.Node_At_X), (intA x10.Node_At_Y), (intA x10.Node_Height), (intA x10.Radius), (intA x10.Band)] 0) (idx_lst (E := TTubeNode.E) rfl h10) ?_
  refine iq (AV.ept [(intA x10.Node_Time), (intA x10.Node_At_X), (intA x10.Node_At_Y), (intA x10.Node_Height), (intA x10.Radius), (intA x10.Band)] 0) rfl ?_
  refine iq (AV.ept [(intA x10.Node_Time), (intA x10.Node_At_X), (intA x10.Node_At_Y), (intA x10.Node_Height), (intA x10.Radius), (intA x10.Band)] 0) rfl ?_
  refine iq (intA x10.Node_Time) rfl ?_
  refine imp ex_i64_b ?_
  refine iq (intA (a1.length : Int)) rfl ?_
  refine imp ex_i64_b ?_
  refine bind_b fun x11 h11 => ?_
  refine iq (AV.ept [(intA x11.Node_Time), (intA x11.Node_At_X), (intA x11.Node_At_Y), (intA x11.Node_Height), (intA x11.Radius), (intA x11.Band)] 0) (idx_lst (E := TTubeNode.E) rfl h11) ?_
  refine iq (AV.ept [(intA x11.Node_Time), (intA x11.Node_At_X), (intA x11.Node_At_Y), (intA x11.Node_Height), (intA x11.Radius), (intA x11.Band)] 0) rfl ?_
  refine iq (AV.ept [(intA x11.Node_Time), (intA x11.Node_At_X), (intA x11.Node_At_Y), (intA x11.Node_Height), (intA x11.Radius), (intA x11.Band)] 0) rfl ?_
  refine iq (intA x11.Node_Time) rfl ?_
  refine imp ex_i64_b ?_
  refine iq (intA (if x11.Node_Time < x10.Node_Time then x11.Node_Time else x10.Node_Time)) (by kernel_rfl) ?_
  refine imp ex_i64_b ?_
  exact fun hg => retN rfl (hR _ (Option.some.inj hg).symm) (fzL_cons (fz_sc _ _) (fzL_cons (fz_sc _ _) fzL_nil))
theorem sg196 {n : Nat} {a0 : List TTubeNode} {a1 : List TTubeNode} {t : ρ196} (h : g196 n a0 a1 = some t) : Says pg KK.gl 196 [(lstA TTubeNode.E a0), (lstA TTubeNode.E a1)] ((AV.tup [(intA t.1), (intA t.2)])) :=
  says_of_own (by first | rfl | simp [cleans, clean, encs_clean, En.cln]) (by first | rfl | simp [cleans, clean, encs_clean, En.cln]) (F196_own (lstA TTubeNode.E a0) (lstA TTubeNode.E a1) _ (g196_ok n a0 a1 (Ans ((AV.tup [(intA t.1), (intA t.2)]))) (fun r e u m h => by rw [e]; exact h) h))
/- skyway/tube.ends -/
theorem g133_ok (n : Nat) (a0 : List TTubeNode) {t : ρ133} (R : AV → Mem → Prop) (hR : ∀ r : ρ133, t = r → ∀ u m, Ans ((AV.tup [(intA r.1), (intA r.2)])) u m → R u m) : g133 n a0 = some t → F133 (lstA TTubeNode.E a0) R := by
  unfold g133 F133
  refine bind_b fun x14 h14 => ?_
  refine iq (AV.ept [(intA x14.Node_Time), (intA x14.Node_At_X), (intA x14.Node_At_Y), (intA x14.Node_Height), (intA x14.Radius), (intA x14.Band)] 0) (idx_lst (E := TTubeNode.E) rfl h14) ?_
  refine iq (AV.ept [(intA x14.Node_Time), (intA x14.Node_At_X), (intA x14.Node_At_Y), (intA x14.Node_Height), (intA x14.Radius), (intA x14.Band)] 0) rfl ?_
  refine iq (AV.ept [(intA x14.Node_Time), (intA x14.Node_At_X), (intA x14.Node_At_Y), (intA x14.Node_Height), (intA x14.Radius), (intA x14.Band)] 0) rfl ?_
  refine iq (intA x14.Node_Time) rfl ?_
  refine imp ex_i64_b ?_
  refine iq (intA (a0.length : Int)) rfl ?_
  refine imp ex_i64_b ?_
  refine bind_b fun x15 h15 => ?_
  refine iq (AV.ept [(intA x15.Node_Time), (intA x15.Node_At_X), (intA x15.Node_At_Y), (intA x15.Node_Height), (intA x15.Radius), (intA x15.Band)] 0) (idx_lst (E := TTubeNode.E) rfl h15) ?_
  refine iq (AV.ept [(intA x15.Node_Time), (intA x15.Node_At_X), (intA x15.Node_At_Y), (intA x15.Node_Height), (intA x15.Radius), (intA x15.Band)] 0) rfl ?_
  refine iq (AV.ept [(intA x15.Node_Time), (intA x15.Node_At_X), (intA x15.Node_At_Y), (intA x15.Node_Height), (intA x15.Radius), (intA x15.Band)] 0) rfl ?_
  refine iq (intA x15.Node_Time) rfl ?_
  refine imp ex_i64_b ?_
  exact fun hg => retN rfl (hR _ (Option.some.inj hg).symm) (fzL_cons (fz_sc _ _) (fzL_cons (fz_sc _ _) fzL_nil))
theorem sg133 {n : Nat} {a0 : List TTubeNode} {t : ρ133} (h : g133 n a0 = some t) : Says pg KK.gl 133 [(lstA TTubeNode.E a0)] ((AV.tup [(intA t.1), (intA t.2)])) :=
  says_of_own (by first | rfl | simp [cleans, clean, encs_clean, En.cln]) (by first | rfl | simp [cleans, clean, encs_clean, En.cln]) (F133_own (lstA TTubeNode.E a0) _ (g133_ok n a0 (Ans ((AV.tup [(intA t.1), (intA t.2)]))) (fun r e u m h => by rw [e]; exact h) h))
/- skyway/tube.at$1 -/
theorem g185_ok (n : Nat) (a0 : TTubeNode) (a1 : Int) {t : ρ185} (R : AV → Mem → Prop) (hR : ∀ r : ρ185, t = r → ∀ u m, Ans ((intA r)) u m → R u m) : g185 n a0 a1 = some t → F185 a0.Node_Time a0.Node_At_X a0.Node_At_Y a0.Node_Height a0.Radius a0.Band a1 R := by
  unfold g185 F185
  exact fun hg => ret1 (hR _ (Option.some.inj hg).symm) (fz_sc _ _)
theorem sg185 {n : Nat} {a0 : TTubeNode} {a1 : Int} {t : ρ185} (h : g185 n a0 a1 = some t) : Says pg KK.gl 185 [(AV.agg [(intA a0.Node_Time), (intA a0.Node_At_X), (intA a0.Node_At_Y), (intA a0.Node_Height), (intA a0.Radius), (intA a0.Band)]), (intA a1)] ((intA t)) :=
  says_of_own (by first | rfl | simp [cleans, clean, encs_clean, En.cln]) (by first | rfl | simp [cleans, clean, encs_clean, En.cln]) (F185_own a0.Node_Time a0.Node_At_X a0.Node_At_Y a0.Node_Height a0.Radius a0.Band a1 _ (g185_ok n a0 a1 (Ans ((intA t))) (fun r e u m h => by rw [e]; exact h) h))
/- slices.BinarySearchFunc[skyway/api.Tube,skyway/api.TubeNode,int] -/
theorem B184_0_ok (n : Nat) (a0 : List TTubeNode) (a1 : Int) (c6 : Int) (c7 : Bool) (c8 : Int) (v9 : Int) (v10 : Int) {t : (Int × Int) ⊕ ρ184} (R : AV → Mem → Prop) (N0 : St → Prop) (hR : ∀ r : ρ184, t = (.inr r) → ∀ u m, Ans ((AV.tup [(intA r.1), (boolA r.2)])) u m → R u m) (hN0 : ∀ y : Int × Int, t = (.inl y) → ∀ s' : St, Weak KK 49 0 s' (h184_0 (lstA TTubeNode.E a0) a1 (AV.fn 185 []) c6 c7 c8 y.1 y.2 []) → N0 s') : S184_0 n a0 a1 c6 c7 c8 v9 v10 = some t → B184_0 (lstA TTubeNode.E a0) a1 (AV.fn 185 []) c6 c7 c8 v9 v10 [] R N0 := by
  unfold S184_0 B184_0
  refine cond_b (fun _ => ?_) (fun _ => ?_)
  · refine iq (AV.sc (.int .u64 (IntKind.wrap .u64 (IntKind.wrap .i64 (v9 + v10))))) (by kernel_rfl) ?_
    refine imp ex_u64_b ?_
    refine imp (opP_of (show _ = some ((AV.sc (.int .u64 (Int.fdiv (IntKind.wrap .u64 (IntKind.wrap .i64 (v9 + v10))) 2))), []) from opA_shr1)) ?_
    refine imp ex_u64_b ?_
    refine iq (intA (IntKind.wrap .i64 (Int.fdiv (IntKind.wrap .u64 (IntKind.wrap .i64 (v9 + v10))) 2))) (by kernel_rfl) ?_
    refine imp ex_i64_b ?_
    refine bind_b fun x17 h17 => ?_
    refine iq (AV.ept [(intA x17.Node_Time), (intA x17.Node_At_X), (intA x17.Node_At_Y), (intA x17.Node_Height), (intA x17.Radius), (intA x17.Band)] 0) (idx_lst (E := TTubeNode.E) rfl h17) ?_
    refine iq (AV.agg [(intA x17.Node_Time), (intA x17.Node_At_X), (intA x17.Node_At_Y), (intA x17.Node_Height), (intA x17.Radius), (intA x17.Band)]) rfl ?_
    refine imp exA6_b ?_
    iterate 6 refine imp ex_i64_b ?_
    refine bind_b fun x18 h18 => ?_
    refine imp fnArgs_b ?_
    refine imp (cond_tt rfl) ?_
    refine imp (callQ_says (sg185 h18)) ?_
    refine imp ex_i64_b ?_
    refine cond_b (fun _ => ?_) (fun _ => ?_)
    · exact fun hg => hN0 _ (Option.some.inj hg).symm _ (weak_mem [] rfl rfl rfl (okW_cons (ent_lst (E := TTubeNode.E) _ false) (okW_cons (.inl (leV_refl _)) (okW_cons (.inl (leV_refl _)) (okW_cons (.inl (leV_refl _)) (okW_cons (.inl (leV_refl _)) (okW_cons (.inl (leV_refl _)) (okW_cons (.inl (leV_refl _)) (okW_cons (.inl (leV_refl _)) okW_nil)))))))) okB_nil')
    · exact fun hg => hN0 _ (Option.some.inj hg).symm _ (weak_mem [] rfl rfl rfl (okW_cons (ent_lst (E := TTubeNode.E) _ false) (okW_cons (.inl (leV_refl _)) (okW_cons (.inl (leV_refl _)) (okW_cons (.inl (leV_refl _)) (okW_cons (.inl (leV_refl _)) (okW_cons (.inl (leV_refl _)) (okW_cons (.inl (leV_refl _)) (okW_cons (.inl (leV_refl _)) okW_nil)))))))) okB_nil')
  · refine cond_b (fun _ => ?_) (fun _ => ?_)
    · refine bind_b fun x19 h19 => ?_
      refine iq (AV.ept [(intA x19.Node_Time), (intA x19.Node_At_X), (intA x19.Node_At_Y), (intA x19.Node_Height), (intA x19.Radius), (intA x19.Band)] 0) (idx_lst (E := TTubeNode.E) rfl h19) ?_
      refine iq (AV.agg [(intA x19.Node_Time), (intA x19.Node_At_X), (intA x19.Node_At_Y), (intA x19.Node_Height), (intA x19.Radius), (intA x19.Band)]) rfl ?_
      refine imp exA6_b ?_
      iterate 6 refine imp ex_i64_b ?_
      refine bind_b fun x20 h20 => ?_
      refine imp fnArgs_b ?_
      refine imp (cond_tt rfl) ?_
      refine imp (callQ_says (sg185 h20)) ?_
      refine imp ex_i64_b ?_
      exact fun hg => retN rfl (hR _ (Option.some.inj hg).symm) (fzL_cons (fz_sc _ _) (fzL_cons (fz_sc _ _) fzL_nil))
    · exact fun hg => retN rfl (hR _ (Option.some.inj hg).symm) (fzL_cons (fz_sc _ _) (fzL_cons (fz_sc _ _) fzL_nil))
theorem L184_0_ok (n : Nat) (a0 : List TTubeNode) (a1 : Int) (c6 : Int) (c7 : Bool) (c8 : Int) {t : ρ184} (R : AV → Mem → Prop) (hR : ∀ r : ρ184, t = r → ∀ u m, Ans ((AV.tup [(intA r.1), (boolA r.2)])) u m → R u m) (k : Nat) (x : Int × Int) (hx : iterO (fun y : Int × Int => S184_0 n a0 a1 c6 c7 c8 y.1 y.2) k x = some t) {s : St} (hw : Weak KK 49 0 s (h184_0 (lstA TTubeNode.E a0) a1 (AV.fn 185 []) c6 c7 c8 x.1 x.2 [])) : Tri pg KK 49 0 (.loop c184_0) s (q184_0 R ) :=
  L184_0 R  (σ := Nat × (Int × Int)) (fun z => iterO (fun y : Int × Int => S184_0 n a0 a1 c6 c7 c8 y.1 y.2) z.1 z.2 = some t) (fun z => (lstA TTubeNode.E a0)) (fun z => a1) (fun z => (AV.fn 185 [])) (fun z => c6) (fun z => c7) (fun z => c8) (fun z => z.2.1) (fun z => z.2.2) (fun z => []) (fun z => z.1) (by
    rintro ⟨k, y⟩ h
    cases k with
    | zero => exact (iterO_zero h).elim
    | succ k =>
      obtain ⟨u, h1, h2, h3⟩ := iterO_elim h
      exact B184_0_ok n a0 a1 c6 c7 c8 y.1 y.2 R  _ (fun r e => hR r (h3 _ e).symm)  (fun y' e s' hw => ⟨(k, y'), h2 _ e, Nat.lt_succ_self k, hw⟩) h1) (k, x) hx hw
theorem g184_ok (n : Nat) (a0 : List TTubeNode) (a1 : Int) {t : ρ184} (R : AV → Mem → Prop) (hR : ∀ r : ρ184, t = r → ∀ u m, Ans ((AV.tup [(intA r.1), (boolA r.2)])) u m → R u m) : g184 n a0 a1 = some t → F184 (lstA TTubeNode.E a0) a1 (AV.fn 185 []) R := by
  unfold g184 F184
  refine iq (intA (a0.length : Int)) rfl ?_
  refine imp ex_i64_b ?_
  exact fun hg => L184_0_ok n a0 a1 (0) false (a0.length : Int) R  hR n _ hg (weak_mem [] rfl rfl rfl (okW_cons (ent_lst (E := TTubeNode.E) _ false) (okW_cons (.inl (leV_refl _)) (okW_cons (.inl (leV_refl _)) (okW_cons (.inl (leV_refl _)) (okW_cons (.inl (leV_refl _)) (okW_cons (.inl (leV_refl _)) (okW_cons (.inl (leV_refl _)) (okW_cons (.inl (leV_refl _)) okW_nil)))))))) okB_nil')
theorem sg184 {n : Nat} {a0 : List TTubeNode} {a1 : Int} {t : ρ184} (h : g184 n a0 a1 = some t) : Says pg KK.gl 184 [(lstA TTubeNode.E a0), (intA a1), (AV.fn 185 [])] ((AV.tup [(intA t.1), (boolA t.2)])) :=
  says_of_own (by first | rfl | simp [cleans, clean, encs_clean, En.cln]) (by first | rfl | simp [cleans, clean, encs_clean, En.cln]) (F184_own (lstA TTubeNode.E a0) a1 (AV.fn 185 []) _ (g184_ok n a0 a1 (Ans ((AV.tup [(intA t.1), (boolA t.2)]))) (fun r e u m h => by rw [e]; exact h) h))
/- skyway/num.DivDown -/
theorem g187_ok (n : Nat) (a0 : Int) (a1 : Int) {t : ρ187} (R : AV → Mem → Prop) (hR : ∀ r : ρ187, t = r → ∀ u m, Ans ((AV.tup [(intA r.1), (intA r.2)])) u m → R u m) : g187 n a0 a1 = some t → F187 a0 a1 R := by
  unfold g187 F187
  refine cond_b (fun _ => ?_) (fun _ => ?_)
  · exact fun hg => retN rfl (hR _ (Option.some.inj hg).symm) (fzL_cons (fz_sc _ _) (fzL_cons (fz_sc _ _) fzL_nil))
  · refine cond_b (fun _ => ?_) (fun _ => ?_)
    · refine cond_b (fun _ => ?_) (fun _ => ?_)
      · exact fun hg => retN rfl (hR _ (Option.some.inj hg).symm) (fzL_cons (fz_sc _ _) (fzL_cons (fz_sc _ _) fzL_nil))
      · refine bind_b fun x29 h29 => ?_
        refine iq (intA (IntKind.wrap .i64 x29)) (opA_quo h29) ?_
        refine imp ex_i64_b ?_
        refine bind_b fun x30 h30 => ?_
        refine iq (intA x30) (opA_rem h30) ?_
        refine imp ex_i64_b ?_
        refine cond_b (fun _ => ?_) (fun _ => ?_)
        · refine iq (boolA (!((decide (a0 < (0))) == (decide (a1 < (0)))))) (by kernel_rfl) ?_
          refine imp exB_b ?_
          refine cond_b (fun _ => ?_) (fun _ => ?_)
          · exact fun hg => retN rfl (hR _ (Option.some.inj hg).symm) (fzL_cons (fz_sc _ _) (fzL_cons (fz_sc _ _) fzL_nil))
          · exact fun hg => retN rfl (hR _ (Option.some.inj hg).symm) (fzL_cons (fz_sc _ _) (fzL_cons (fz_sc _ _) fzL_nil))
        · exact fun hg => retN rfl (hR _ (Option.some.inj hg).symm) (fzL_cons (fz_sc _ _) (fzL_cons (fz_sc _ _) fzL_nil))
    · refine bind_b fun x31 h31 => ?_
      refine iq (intA (IntKind.wrap .i64 x31)) (opA_quo h31) ?_
      refine imp ex_i64_b ?_
      refine bind_b fun x32 h32 => ?_
      refine iq (intA x32) (opA_rem h32) ?_
      refine imp ex_i64_b ?_
      refine cond_b (fun _ => ?_) (fun _ => ?_)
      · refine iq (boolA (!((decide (a0 < (0))) == (decide (a1 < (0)))))) (by kernel_rfl) ?_
        refine imp exB_b ?_
        refine cond_b (fun _ => ?_) (fun _ => ?_)
        · exact fun hg => retN rfl (hR _ (Option.some.inj hg).symm) (fzL_cons (fz_sc _ _) (fzL_cons (fz_sc _ _) fzL_nil))
        · exact fun hg => retN rfl (hR _ (Option.some.inj hg).symm) (fzL_cons (fz_sc _ _) (fzL_cons (fz_sc _ _) fzL_nil))
      · exact fun hg => retN rfl (hR _ (Option.some.inj hg).symm) (fzL_cons (fz_sc _ _) (fzL_cons (fz_sc _ _) fzL_nil))
theorem sg187 {n : Nat} {a0 : Int} {a1 : Int} {t : ρ187} (h : g187 n a0 a1 = some t) : Says pg KK.gl 187 [(intA a0), (intA a1)] ((AV.tup [(intA t.1), (intA t.2)])) :=
  says_of_own (by first | rfl | simp [cleans, clean, encs_clean, En.cln]) (by first | rfl | simp [cleans, clean, encs_clean, En.cln]) (F187_own a0 a1 _ (g187_ok n a0 a1 (Ans ((AV.tup [(intA t.1), (intA t.2)]))) (fun r e u m h => by rw [e]; exact h) h))
/- skyway/plane.Toward -/
theorem g186_ok (n : Nat) (a0 : TP) (a1 : TP) (a2 : Int) (a3 : Int) {t : ρ186} (R : AV → Mem → Prop) (hR : ∀ r : ρ186, t = r → ∀ u m, Ans ((AV.tup [(AV.agg (TP.E.enc r.1)), (intA r.2)])) u m → R u m) : g186 n a0 a1 a2 a3 = some t → F186 a0.X a0.Y a1.X a1.Y a2 a3 R := by
  unfold g186 F186
  refine cond_b (fun _ => ?_) (fun _ => ?_)
  · refine iq (AV.agg [(intA (0)), (intA (0))]) rfl ?_
    refine imp (storeW_cells (sz := 2) (by kernel_rfl) (by kernel_rfl) rfl rfl (cs := [(intA (0)), (intA (0))]) (cs' := [(intA (0)), (intA (0))]) (ty := 86) (by first | rfl | (simp (disch := first | decide | assumption) only [mpushs_nil, mpushs_cons, mget_hd, mget_tl, mget_appW_o, mget_appW_n, mget_appW_e])) rfl rfl) ?_
    exact fun hg => retN rfl (hR _ (Option.some.inj hg).symm) (fzL_cons (fz_el (E := TP.E) _ (⟨(0), (0)⟩ : TP)) (fzL_cons (fz_sc _ _) fzL_nil))
  · refine cond_b (fun _ => ?_) (fun _ => ?_)
    · refine iq (AV.agg [(intA (0)), (intA (0))]) rfl ?_
      refine imp (storeW_cells (sz := 2) (by kernel_rfl) (by kernel_rfl) rfl rfl (cs := [(intA (0)), (intA (0))]) (cs' := [(intA (0)), (intA (0))]) (ty := 86) (by first | rfl | (simp (disch := first | decide | assumption) only [mpushs_nil, mpushs_cons, mget_hd, mget_tl, mget_appW_o, mget_appW_n, mget_appW_e])) rfl rfl) ?_
      exact fun hg => retN rfl (hR _ (Option.some.inj hg).symm) (fzL_cons (fz_el (E := TP.E) _ (⟨(0), (0)⟩ : TP)) (fzL_cons (fz_sc _ _) fzL_nil))
    · refine cond_b (fun _ => ?_) (fun _ => ?_)
      · refine iq (AV.agg [(intA (0)), (intA (0))]) rfl ?_
        refine imp (storeW_cells (sz := 2) (by kernel_rfl) (by kernel_rfl) rfl rfl (cs := [(intA (0)), (intA (0))]) (cs' := [(intA (0)), (intA (0))]) (ty := 86) (by first | rfl | (simp (disch := first | decide | assumption) only [mpushs_nil, mpushs_cons, mget_hd, mget_tl, mget_appW_o, mget_appW_n, mget_appW_e])) rfl rfl) ?_
        exact fun hg => retN rfl (hR _ (Option.some.inj hg).symm) (fzL_cons (fz_el (E := TP.E) _ (⟨(0), (0)⟩ : TP)) (fzL_cons (fz_sc _ _) fzL_nil))
      · refine cond_b (fun _ => ?_) (fun _ => ?_)
        · refine iq (AV.agg [(intA (0)), (intA (0))]) rfl ?_
          refine imp (storeW_cells (sz := 2) (by kernel_rfl) (by kernel_rfl) rfl rfl (cs := [(intA (0)), (intA (0))]) (cs' := [(intA (0)), (intA (0))]) (ty := 86) (by first | rfl | (simp (disch := first | decide | assumption) only [mpushs_nil, mpushs_cons, mget_hd, mget_tl, mget_appW_o, mget_appW_n, mget_appW_e])) rfl rfl) ?_
          exact fun hg => retN rfl (hR _ (Option.some.inj hg).symm) (fzL_cons (fz_el (E := TP.E) _ (⟨(0), (0)⟩ : TP)) (fzL_cons (fz_sc _ _) fzL_nil))
        · refine bind_b fun x25 h25 => ?_
          refine imp (callQ_says (sg72 h25)) ?_
          refine imp ex_i64_b ?_
          refine cond_b (fun _ => ?_) (fun _ => ?_)
          · refine iq (AV.agg [(intA (0)), (intA (0))]) rfl ?_
            refine bind_b fun x26 h26 => ?_
            refine imp (callQ_says (sg72 h26)) ?_
            refine imp ex_i64_b ?_
            refine imp (storeW_cells (sz := 2) (by kernel_rfl) (by kernel_rfl) rfl rfl (cs := [(intA (0)), (intA (0))]) (cs' := [(intA (0)), (intA (0))]) (ty := 86) (by first | rfl | (simp (disch := first | decide | assumption) only [mpushs_nil, mpushs_cons, mget_hd, mget_tl, mget_appW_o, mget_appW_n, mget_appW_e])) rfl rfl) ?_
            exact fun hg => retN rfl (hR _ (Option.some.inj hg).symm) (fzL_cons (fz_el (E := TP.E) _ (⟨(0), (0)⟩ : TP)) (fzL_cons (fz_sc _ _) fzL_nil))
          · refine bind_b fun x27 h27 => ?_
            refine imp (callQ_says (sg72 h27)) ?_
            refine imp ex_i64_b ?_
            refine cond_b (fun _ => ?_) (fun _ => ?_)
            · refine iq (AV.agg [(intA (0)), (intA (0))]) rfl ?_
              refine bind_b fun x28 h28 => ?_
              refine imp (callQ_says (sg72 h28)) ?_
              refine imp ex_i64_b ?_
              refine imp (storeW_cells (sz := 2) (by kernel_rfl) (by kernel_rfl) rfl rfl (cs := [(intA (0)), (intA (0))]) (cs' := [(intA (0)), (intA (0))]) (ty := 86) (by first | rfl | (simp (disch := first | decide | assumption) only [mpushs_nil, mpushs_cons, mget_hd, mget_tl, mget_appW_o, mget_appW_n, mget_appW_e])) rfl rfl) ?_
              exact fun hg => retN rfl (hR _ (Option.some.inj hg).symm) (fzL_cons (fz_el (E := TP.E) _ (⟨(0), (0)⟩ : TP)) (fzL_cons (fz_sc _ _) fzL_nil))
            · refine bind_b fun x33 h33 => ?_
              refine imp (callQ_says (sg187 h33)) ?_
              refine imp exT2_b ?_
              iterate 2 refine imp ex_i64_b ?_
              refine bind_b fun x34 h34 => ?_
              refine imp (callQ_says (sg187 h34)) ?_
              refine imp exT2_b ?_
              iterate 2 refine imp ex_i64_b ?_
              refine iq (AV.agg [(intA (IntKind.wrap .i64 (a0.X + x33.1))), (intA (IntKind.wrap .i64 (a0.Y + x34.1)))]) rfl ?_
              refine imp (storeW_cells (sz := 2) (by kernel_rfl) (by kernel_rfl) rfl rfl (cs := [(intA (0)), (intA (0))]) (cs' := [(intA (IntKind.wrap .i64 (a0.X + x33.1))), (intA (IntKind.wrap .i64 (a0.Y + x34.1)))]) (ty := 86) (by first | rfl | (simp (disch := first | decide | assumption) only [mpushs_nil, mpushs_cons, mget_hd, mget_tl, mget_appW_o, mget_appW_n, mget_appW_e])) rfl rfl) ?_
              exact fun hg => retN rfl (hR _ (Option.some.inj hg).symm) (fzL_cons (fz_el (E := TP.E) _ (⟨(IntKind.wrap .i64 (a0.X + x33.1)), (IntKind.wrap .i64 (a0.Y + x34.1))⟩ : TP)) (fzL_cons (fz_sc _ _) fzL_nil))
theorem sg186 {n : Nat} {a0 : TP} {a1 : TP} {a2 : Int} {a3 : Int} {t : ρ186} (h : g186 n a0 a1 a2 a3 = some t) : Says pg KK.gl 186 [(AV.agg [(intA a0.X), (intA a0.Y)]), (AV.agg [(intA a1.X), (intA a1.Y)]), (intA a2), (intA a3)] ((AV.tup [(AV.agg (TP.E.enc t.1)), (intA t.2)])) :=
  says_of_own (by first | rfl | simp [cleans, clean, encs_clean, En.cln]) (by first | rfl | simp [cleans, clean, encs_clean, En.cln]) (F186_own a0.X a0.Y a1.X a1.Y a2 a3 _ (g186_ok n a0 a1 a2 a3 (Ans ((AV.tup [(AV.agg (TP.E.enc t.1)), (intA t.2)]))) (fun r e u m h => by rw [e]; exact h) h))
/- skyway/num.DivUp -/
theorem g188_ok (n : Nat) (a0 : Int) (a1 : Int) {t : ρ188} (R : AV → Mem → Prop) (hR : ∀ r : ρ188, t = r → ∀ u m, Ans ((AV.tup [(intA r.1), (intA r.2)])) u m → R u m) : g188 n a0 a1 = some t → F188 a0 a1 R := by
  unfold g188 F188
  refine bind_b fun x37 h37 => ?_
  refine imp (callQ_says (sg187 h37)) ?_
  refine imp exT2_b ?_
  iterate 2 refine imp ex_i64_b ?_
  refine cond_b (fun _ => ?_) (fun _ => ?_)
  · refine bind_b fun x38 h38 => ?_
    refine iq (intA x38) (opA_rem h38) ?_
    refine imp ex_i64_b ?_
    refine cond_b (fun _ => ?_) (fun _ => ?_)
    · exact fun hg => retN rfl (hR _ (Option.some.inj hg).symm) (fzL_cons (fz_sc _ _) (fzL_cons (fz_sc _ _) fzL_nil))
    · exact fun hg => retN rfl (hR _ (Option.some.inj hg).symm) (fzL_cons (fz_sc _ _) (fzL_cons (fz_sc _ _) fzL_nil))
  · exact fun hg => retN rfl (hR _ (Option.some.inj hg).symm) (fzL_cons (fz_sc _ _) (fzL_cons (fz_sc _ _) fzL_nil))
theorem sg188 {n : Nat} {a0 : Int} {a1 : Int} {t : ρ188} (h : g188 n a0 a1 = some t) : Says pg KK.gl 188 [(intA a0), (intA a1)] ((AV.tup [(intA t.1), (intA t.2)])) :=
  says_of_own (by first | rfl | simp [cleans, clean, encs_clean, En.cln]) (by first | rfl | simp [cleans, clean, encs_clean, En.cln]) (F188_own a0 a1 _ (g188_ok n a0 a1 (Ans ((AV.tup [(intA t.1), (intA t.2)]))) (fun r e u m h => by rw [e]; exact h) h))
/- skyway/tube.at -/
theorem g134_ok (n : Nat) (a0 : List TTubeNode) (a1 : Int) {t : ρ134} (R : AV → Mem → Prop) (hR : ∀ r : ρ134, t = r → ∀ u m, Ans ((AV.agg (TTubeNode.E.enc r))) u m → R u m) : g134 n a0 a1 = some t → F134 (lstA TTubeNode.E a0) a1 R := by
  unfold g134 F134
  refine bind_b fun x21 h21 => ?_
  refine imp (callW_says (sg184 h21)) ?_
  refine imp exT2_b ?_
  refine imp ex_i64_b ?_
  refine imp exB_b ?_
  refine cond_b (fun _ => ?_) (fun _ => ?_)
  · refine bind_b fun x22 h22 => ?_
    refine iq (AV.ept [(intA x22.Node_Time), (intA x22.Node_At_X), (intA x22.Node_At_Y), (intA x22.Node_Height), (intA x22.Radius), (intA x22.Band)] 0) (idx_lst (E := TTubeNode.E) rfl h22) ?_
    refine iq (AV.agg [(intA x22.Node_Time), (intA x22.Node_At_X), (intA x22.Node_At_Y), (intA x22.Node_Height), (intA x22.Radius), (intA x22.Band)]) rfl ?_
    refine imp exA6_b ?_
    iterate 6 refine imp ex_i64_b ?_
    refine imp (storeW_cells (sz := 6) (by kernel_rfl) (by kernel_rfl) rfl rfl (cs := [(intA (0)), (intA (0)), (intA (0)), (intA (0)), (intA (0)), (intA (0))]) (cs' := [(intA x22.Node_Time), (intA x22.Node_At_X), (intA x22.Node_At_Y), (intA x22.Node_Height), (intA x22.Radius), (intA x22.Band)]) (ty := 131) (by first | rfl | (simp (disch := first | decide | assumption) only [mpushs_nil, mpushs_cons, mget_hd, mget_tl, mget_appW_o, mget_appW_n, mget_appW_e])) rfl rfl) ?_
    exact fun hg => ret1 (hR _ (Option.some.inj hg).symm) (fz_el (E := TTubeNode.E) _ x22)
  · refine bind_b fun x23 h23 => ?_
    refine imp (opM_of (show _ = some ((AV.ept [(intA x23.Node_Time), (intA x23.Node_At_X), (intA x23.Node_At_Y), (intA x23.Node_Height), (intA x23.Radius), (intA x23.Band)] 0), []) from (idx_lst (E := TTubeNode.E) rfl h23))) ?_
    refine imp (opM_of (show _ = some ((AV.agg [(intA x23.Node_Time), (intA x23.Node_At_X), (intA x23.Node_At_Y), (intA x23.Node_Height), (intA x23.Radius), (intA x23.Band)]), []) from rfl)) ?_
    refine imp exA6_b ?_
    iterate 6 refine imp ex_i64_b ?_
    refine bind_b fun x24 h24 => ?_
    refine imp (opM_of (show _ = some ((AV.ept [(intA x24.Node_Time), (intA x24.Node_At_X), (intA x24.Node_At_Y), (intA x24.Node_Height), (intA x24.Radius), (intA x24.Band)] 0), []) from (idx_lst (E := TTubeNode.E) rfl h24))) ?_
    refine imp (opM_of (show _ = some ((AV.agg [(intA x24.Node_Time), (intA x24.Node_At_X), (intA x24.Node_At_Y), (intA x24.Node_Height), (intA x24.Radius), (intA x24.Band)]), []) from rfl)) ?_
    refine imp exA6_b ?_
    iterate 6 refine imp ex_i64_b ?_
    refine imp (storeW_cells (sz := 6) (by kernel_rfl) (by kernel_rfl) rfl rfl (cs := [(intA (0)), (intA (0)), (intA (0)), (intA (0)), (intA (0)), (intA (0))]) (cs' := [(intA x23.Node_Time), (intA x23.Node_At_X), (intA x23.Node_At_Y), (intA x23.Node_Height), (intA x23.Radius), (intA x23.Band)]) (ty := 131) (by first | rfl | (rw [look'_mem (by first | rfl | simp [topId_blk] | simp [topId])]; first | rfl | (simp (disch := first | decide | assumption) only [mpushs_nil, mpushs_cons, mget_hd, mget_tl, mget_appW_o, mget_appW_n, mget_appW_e]))) rfl rfl) ?_
    refine imp (storeW_cells (sz := 6) (by kernel_rfl) (by kernel_rfl) rfl rfl (cs := [(intA (0)), (intA (0)), (intA (0)), (intA (0)), (intA (0)), (intA (0))]) (cs' := [(intA x24.Node_Time), (intA x24.Node_At_X), (intA x24.Node_At_Y), (intA x24.Node_Height), (intA x24.Radius), (intA x24.Band)]) (ty := 131) (by first | rfl | (rw [look'_mem (by first | rfl | simp [topId_blk] | simp [topId])]; first | rfl | (simp (disch := first | decide | assumption) only [mpushs_nil, mpushs_cons, mget_hd, mget_tl, mget_appW_o, mget_appW_n, mget_appW_e]))) rfl rfl) ?_
    refine imp (chk_of (by kernel_rfl)) ?_
    refine iq (intA x23.Node_Time) (ldS_ptr (b := ⟨[(intA x23.Node_Time), (intA x23.Node_At_X), (intA x23.Node_At_Y), (intA x23.Node_Height), (intA x23.Radius), (intA x23.Band)], 131⟩) (by first | rfl | (simp (disch := first | decide | assumption) only [mpushs_nil, mpushs_cons, mget_hd, mget_tl, mget_appW_o, mget_appW_n, mget_appW_e])) rfl) ?_
    refine imp ex_i64_b ?_
    refine iq (intA x24.Node_Time) (ldS_ptr (b := ⟨[(intA x24.Node_Time), (intA x24.Node_At_X), (intA x24.Node_At_Y), (intA x24.Node_Height), (intA x24.Radius), (intA x24.Band)], 131⟩) (by first | rfl | (simp (disch := first | decide | assumption) only [mpushs_nil, mpushs_cons, mget_hd, mget_tl, mget_appW_o, mget_appW_n, mget_appW_e])) rfl) ?_
    refine imp ex_i64_b ?_
    refine iq (intA x23.Node_Time) (ldS_ptr (b := ⟨[(intA x23.Node_Time), (intA x23.Node_At_X), (intA x23.Node_At_Y), (intA x23.Node_Height), (intA x23.Radius), (intA x23.Band)], 131⟩) (by first | rfl | (simp (disch := first | decide | assumption) only [mpushs_nil, mpushs_cons, mget_hd, mget_tl, mget_appW_o, mget_appW_n, mget_appW_e])) rfl) ?_
    refine imp ex_i64_b ?_
    refine iq (AV.agg [(intA x23.Node_At_X), (intA x23.Node_At_Y)]) (ldA_ptr (b := ⟨[(intA x23.Node_Time), (intA x23.Node_At_X), (intA x23.Node_At_Y), (intA x23.Node_Height), (intA x23.Radius), (intA x23.Band)], 131⟩) (by first | rfl | (simp (disch := first | decide | assumption) only [mpushs_nil, mpushs_cons, mget_hd, mget_tl, mget_appW_o, mget_appW_n, mget_appW_e])) rfl) ?_
    refine imp exA2_b ?_
    iterate 2 refine imp ex_i64_b ?_
    refine iq (AV.agg [(intA x24.Node_At_X), (intA x24.Node_At_Y)]) (ldA_ptr (b := ⟨[(intA x24.Node_Time), (intA x24.Node_At_X), (intA x24.Node_At_Y), (intA x24.Node_Height), (intA x24.Radius), (intA x24.Band)], 131⟩) (by first | rfl | (simp (disch := first | decide | assumption) only [mpushs_nil, mpushs_cons, mget_hd, mget_tl, mget_appW_o, mget_appW_n, mget_appW_e])) rfl) ?_
    refine imp exA2_b ?_
    iterate 2 refine imp ex_i64_b ?_
    refine bind_b fun x35 h35 => ?_
    refine imp (callQ_says (sg186 h35)) ?_
    refine imp exT2_b ?_
    refine imp exA2_b ?_
    iterate 3 refine imp ex_i64_b ?_
    refine iq (intA x24.Node_Height) (ldS_ptr (b := ⟨[(intA x24.Node_Time), (intA x24.Node_At_X), (intA x24.Node_At_Y), (intA x24.Node_Height), (intA x24.Radius), (intA x24.Band)], 131⟩) (by first | rfl | (simp (disch := first | decide | assumption) only [mpushs_nil, mpushs_cons, mget_hd, mget_tl, mget_appW_o, mget_appW_n, mget_appW_e])) rfl) ?_
    refine imp ex_i64_b ?_
    refine iq (intA x23.Node_Height) (ldS_ptr (b := ⟨[(intA x23.Node_Time), (intA x23.Node_At_X), (intA x23.Node_At_Y), (intA x23.Node_Height), (intA x23.Radius), (intA x23.Band)], 131⟩) (by first | rfl | (simp (disch := first | decide | assumption) only [mpushs_nil, mpushs_cons, mget_hd, mget_tl, mget_appW_o, mget_appW_n, mget_appW_e])) rfl) ?_
    refine imp ex_i64_b ?_
    refine bind_b fun x36 h36 => ?_
    refine imp (callQ_says (sg187 h36)) ?_
    refine imp exT2_b ?_
    iterate 2 refine imp ex_i64_b ?_
    refine iq (intA x24.Radius) (ldS_ptr (b := ⟨[(intA x24.Node_Time), (intA x24.Node_At_X), (intA x24.Node_At_Y), (intA x24.Node_Height), (intA x24.Radius), (intA x24.Band)], 131⟩) (by first | rfl | (simp (disch := first | decide | assumption) only [mpushs_nil, mpushs_cons, mget_hd, mget_tl, mget_appW_o, mget_appW_n, mget_appW_e])) rfl) ?_
    refine imp ex_i64_b ?_
    refine iq (intA x23.Radius) (ldS_ptr (b := ⟨[(intA x23.Node_Time), (intA x23.Node_At_X), (intA x23.Node_At_Y), (intA x23.Node_Height), (intA x23.Radius), (intA x23.Band)], 131⟩) (by first | rfl | (simp (disch := first | decide | assumption) only [mpushs_nil, mpushs_cons, mget_hd, mget_tl, mget_appW_o, mget_appW_n, mget_appW_e])) rfl) ?_
    refine imp ex_i64_b ?_
    refine bind_b fun x39 h39 => ?_
    refine imp (callQ_says (sg188 h39)) ?_
    refine imp exT2_b ?_
    iterate 2 refine imp ex_i64_b ?_
    refine iq (intA x24.Band) (ldS_ptr (b := ⟨[(intA x24.Node_Time), (intA x24.Node_At_X), (intA x24.Node_At_Y), (intA x24.Node_Height), (intA x24.Radius), (intA x24.Band)], 131⟩) (by first | rfl | (simp (disch := first | decide | assumption) only [mpushs_nil, mpushs_cons, mget_hd, mget_tl, mget_appW_o, mget_appW_n, mget_appW_e])) rfl) ?_
    refine imp ex_i64_b ?_
    refine iq (intA x23.Band) (ldS_ptr (b := ⟨[(intA x23.Node_Time), (intA x23.Node_At_X), (intA x23.Node_At_Y), (intA x23.Node_Height), (intA x23.Radius), (intA x23.Band)], 131⟩) (by first | rfl | (simp (disch := first | decide | assumption) only [mpushs_nil, mpushs_cons, mget_hd, mget_tl, mget_appW_o, mget_appW_n, mget_appW_e])) rfl) ?_
    refine imp ex_i64_b ?_
    refine bind_b fun x40 h40 => ?_
    refine imp (callQ_says (sg188 h40)) ?_
    refine imp exT2_b ?_
    iterate 2 refine imp ex_i64_b ?_
    refine iq (intA x23.Node_Height) (ldS_ptr (b := ⟨[(intA x23.Node_Time), (intA x23.Node_At_X), (intA x23.Node_At_Y), (intA x23.Node_Height), (intA x23.Radius), (intA x23.Band)], 131⟩) (by first | rfl | (simp (disch := first | decide | assumption) only [mpushs_nil, mpushs_cons, mget_hd, mget_tl, mget_appW_o, mget_appW_n, mget_appW_e])) rfl) ?_
    refine imp ex_i64_b ?_
    refine iq (AV.agg [(intA a1), (intA x35.1.X), (intA x35.1.Y), (intA (IntKind.wrap .i64 (x23.Node_Height + x36.1)))]) rfl ?_
    refine iq (intA x23.Radius) (ldS_ptr (b := ⟨[(intA x23.Node_Time), (intA x23.Node_At_X), (intA x23.Node_At_Y), (intA x23.Node_Height), (intA x23.Radius), (intA x23.Band)], 131⟩) (by first | rfl | (simp (disch := first | decide | assumption) only [mpushs_nil, mpushs_cons, mget_hd, mget_tl, mget_appW_o, mget_appW_n, mget_appW_e])) rfl) ?_
    refine imp ex_i64_b ?_
    refine iq (intA x23.Band) (ldS_ptr (b := ⟨[(intA x23.Node_Time), (intA x23.Node_At_X), (intA x23.Node_At_Y), (intA x23.Node_Height), (intA x23.Radius), (intA x23.Band)], 131⟩) (by first | rfl | (simp (disch := first | decide | assumption) only [mpushs_nil, mpushs_cons, mget_hd, mget_tl, mget_appW_o, mget_appW_n, mget_appW_e])) rfl) ?_
    refine imp ex_i64_b ?_
    refine iq (AV.agg [(intA a1), (intA x35.1.X), (intA x35.1.Y), (intA (IntKind.wrap .i64 (x23.Node_Height + x36.1))), (intA (IntKind.wrap .i64 (x23.Radius + x39.1))), (intA (IntKind.wrap .i64 (x23.Band + x40.1)))]) rfl ?_
    refine imp (storeW_cells (sz := 6) (by kernel_rfl) (by kernel_rfl) rfl rfl (cs := [(intA (0)), (intA (0)), (intA (0)), (intA (0)), (intA (0)), (intA (0))]) (cs' := [(intA a1), (intA x35.1.X), (intA x35.1.Y), (intA (IntKind.wrap .i64 (x23.Node_Height + x36.1))), (intA (IntKind.wrap .i64 (x23.Radius + x39.1))), (intA (IntKind.wrap .i64 (x23.Band + x40.1)))]) (ty := 131) (by first | rfl | (simp (disch := first | decide | assumption) only [mpushs_nil, mpushs_cons, mget_hd, mget_tl, mget_appW_o, mget_appW_n, mget_appW_e])) rfl rfl) ?_
    exact fun hg => ret1 (hR _ (Option.some.inj hg).symm) (fz_el (E := TTubeNode.E) _ (⟨a1, x35.1.X, x35.1.Y, (IntKind.wrap .i64 (x23.Node_Height + x36.1)), (IntKind.wrap .i64 (x23.Radius + x39.1)), (IntKind.wrap .i64 (x23.Band + x40.1))⟩ : TTubeNode))
theorem sg134 {n : Nat} {a0 : List TTubeNode} {a1 : Int} {t : ρ134} (h : g134 n a0 a1 = some t) : Says pg KK.gl 134 [(lstA TTubeNode.E a0), (intA a1)] ((AV.agg (TTubeNode.E.enc t))) :=
  says_of_own (by first | rfl | simp [cleans, clean, encs_clean, En.cln]) (by first | rfl | simp [cleans, clean, encs_clean, En.cln]) (F134_own (lstA TTubeNode.E a0) a1 _ (g134_ok n a0 a1 (Ans ((AV.agg (TTubeNode.E.enc t)))) (fun r e u m h => by rw [e]; exact h) h))
/- skyway/tube.At -/
theorem g73_ok (n : Nat) (a0 : List TTubeNode) (a1 : Int) {t : ρ73} (R : AV → Mem → Prop) (hR : ∀ r : ρ73, t = r → ∀ u m, Ans ((AV.tup [(AV.agg (TTubeNode.E.enc r.1)), (intA r.2)])) u m → R u m) : g73 n a0 a1 = some t → F73 (lstA TTubeNode.E a0) a1 R := by
  unfold g73 F73
  refine bind_b fun x13 h13 => ?_
  refine imp (callQ_says (sg67 h13)) ?_
  refine imp ex_i64_b ?_
  refine cond_b (fun _ => ?_) (fun _ => ?_)
  · refine iq (AV.agg [(intA (0)), (intA (0)), (intA (0)), (intA (0)), (intA (0)), (intA (0))]) rfl ?_
    refine imp (storeW_cells (sz := 6) (by kernel_rfl) (by kernel_rfl) rfl rfl (cs := [(intA (0)), (intA (0)), (intA (0)), (intA (0)), (intA (0)), (intA (0))]) (cs' := [(intA (0)), (intA (0)), (intA (0)), (intA (0)), (intA (0)), (intA (0))]) (ty := 131) (by first | rfl | (simp (disch := first | decide | assumption) only [mpushs_nil, mpushs_cons, mget_hd, mget_tl, mget_appW_o, mget_appW_n, mget_appW_e])) rfl rfl) ?_
    exact fun hg => retN rfl (hR _ (Option.some.inj hg).symm) (fzL_cons (fz_el (E := TTubeNode.E) _ (⟨(0), (0), (0), (0), (0), (0)⟩ : TTubeNode)) (fzL_cons (fz_sc _ _) fzL_nil))
  · refine bind_b fun x16 h16 => ?_
    refine imp (callQ_says (sg133 h16)) ?_
    refine imp exT2_b ?_
    iterate 2 refine imp ex_i64_b ?_
    refine cond_b (fun _ => ?_) (fun _ => ?_)
    · refine iq (AV.agg [(intA (0)), (intA (0)), (intA (0)), (intA (0)), (intA (0)), (intA (0))]) rfl ?_
      refine imp (storeW_cells (sz := 6) (by kernel_rfl) (by kernel_rfl) rfl rfl (cs := [(intA (0)), (intA (0)), (intA (0)), (intA (0)), (intA (0)), (intA (0))]) (cs' := [(intA (0)), (intA (0)), (intA (0)), (intA (0)), (intA (0)), (intA (0))]) (ty := 131) (by first | rfl | (simp (disch := first | decide | assumption) only [mpushs_nil, mpushs_cons, mget_hd, mget_tl, mget_appW_o, mget_appW_n, mget_appW_e])) rfl rfl) ?_
      exact fun hg => retN rfl (hR _ (Option.some.inj hg).symm) (fzL_cons (fz_el (E := TTubeNode.E) _ (⟨(0), (0), (0), (0), (0), (0)⟩ : TTubeNode)) (fzL_cons (fz_sc _ _) fzL_nil))
    · refine cond_b (fun _ => ?_) (fun _ => ?_)
      · refine iq (AV.agg [(intA (0)), (intA (0)), (intA (0)), (intA (0)), (intA (0)), (intA (0))]) rfl ?_
        refine imp (storeW_cells (sz := 6) (by kernel_rfl) (by kernel_rfl) rfl rfl (cs := [(intA (0)), (intA (0)), (intA (0)), (intA (0)), (intA (0)), (intA (0))]) (cs' := [(intA (0)), (intA (0)), (intA (0)), (intA (0)), (intA (0)), (intA (0))]) (ty := 131) (by first | rfl | (simp (disch := first | decide | assumption) only [mpushs_nil, mpushs_cons, mget_hd, mget_tl, mget_appW_o, mget_appW_n, mget_appW_e])) rfl rfl) ?_
        exact fun hg => retN rfl (hR _ (Option.some.inj hg).symm) (fzL_cons (fz_el (E := TTubeNode.E) _ (⟨(0), (0), (0), (0), (0), (0)⟩ : TTubeNode)) (fzL_cons (fz_sc _ _) fzL_nil))
      · refine bind_b fun x41 h41 => ?_
        refine imp (callQ_says (sg134 h41)) ?_
        refine imp exA6_b ?_
        iterate 6 refine imp ex_i64_b ?_
        exact fun hg => retN rfl (hR _ (Option.some.inj hg).symm) (fzL_cons (fz_el (E := TTubeNode.E) _ x41) (fzL_cons (fz_sc _ _) fzL_nil))
theorem sg73 {n : Nat} {a0 : List TTubeNode} {a1 : Int} {t : ρ73} (h : g73 n a0 a1 = some t) : Says pg KK.gl 73 [(lstA TTubeNode.E a0), (intA a1)] ((AV.tup [(AV.agg (TTubeNode.E.enc t.1)), (intA t.2)])) :=
  says_of_own (by first | rfl | simp [cleans, clean, encs_clean, En.cln]) (by first | rfl | simp [cleans, clean, encs_clean, En.cln]) (F73_own (lstA TTubeNode.E a0) a1 _ (g73_ok n a0 a1 (Ans ((AV.tup [(AV.agg (TTubeNode.E.enc t.1)), (intA t.2)]))) (fun r e u m h => by rw [e]; exact h) h))
/- skyway/plane.Sub -/
theorem g221_ok (n : Nat) (a0 : TP) (a1 : TP) {t : ρ221} (R : AV → Mem → Prop) (hR : ∀ r : ρ221, t = r → ∀ u m, Ans ((AV.agg (TP.E.enc r))) u m → R u m) : g221 n a0 a1 = some t → F221 a0.X a0.Y a1.X a1.Y R := by
  unfold g221 F221
  refine iq (AV.agg [(intA (IntKind.wrap .i64 (a0.X - a1.X))), (intA (IntKind.wrap .i64 (a0.Y - a1.Y)))]) rfl ?_
  refine imp (storeW_cells (sz := 2) (by kernel_rfl) (by kernel_rfl) rfl rfl (cs := [(intA (0)), (intA (0))]) (cs' := [(intA (IntKind.wrap .i64 (a0.X - a1.X))), (intA (IntKind.wrap .i64 (a0.Y - a1.Y)))]) (ty := 86) (by first | rfl | (simp (disch := first | decide | assumption) only [mpushs_nil, mpushs_cons, mget_hd, mget_tl, mget_appW_o, mget_appW_n, mget_appW_e])) rfl rfl) ?_
  exact fun hg => ret1 (hR _ (Option.some.inj hg).symm) (fz_el (E := TP.E) _ (⟨(IntKind.wrap .i64 (a0.X - a1.X)), (IntKind.wrap .i64 (a0.Y - a1.Y))⟩ : TP))
theorem sg221 {n : Nat} {a0 : TP} {a1 : TP} {t : ρ221} (h : g221 n a0 a1 = some t) : Says pg KK.gl 221 [(AV.agg [(intA a0.X), (intA a0.Y)]), (AV.agg [(intA a1.X), (intA a1.Y)])] ((AV.agg (TP.E.enc t))) :=
  says_of_own (by first | rfl | simp [cleans, clean, encs_clean, En.cln]) (by first | rfl | simp [cleans, clean, encs_clean, En.cln]) (F221_own a0.X a0.Y a1.X a1.Y _ (g221_ok n a0 a1 (Ans ((AV.agg (TP.E.enc t)))) (fun r e u m h => by rw [e]; exact h) h))
/- skyway/plane.Dot -/
theorem g293_ok (n : Nat) (a0 : TP) (a1 : TP) {t : ρ293} (R : AV → Mem → Prop) (hR : ∀ r : ρ293, t = r → ∀ u m, Ans ((intA r)) u m → R u m) : g293 n a0 a1 = some t → F293 a0.X a0.Y a1.X a1.Y R := by
  unfold g293 F293
  exact fun hg => ret1 (hR _ (Option.some.inj hg).symm) (fz_sc _ _)
theorem sg293 {n : Nat} {a0 : TP} {a1 : TP} {t : ρ293} (h : g293 n a0 a1 = some t) : Says pg KK.gl 293 [(AV.agg [(intA a0.X), (intA a0.Y)]), (AV.agg [(intA a1.X), (intA a1.Y)])] ((intA t)) :=
  says_of_own (by first | rfl | simp [cleans, clean, encs_clean, En.cln]) (by first | rfl | simp [cleans, clean, encs_clean, En.cln]) (F293_own a0.X a0.Y a1.X a1.Y _ (g293_ok n a0 a1 (Ans ((intA t))) (fun r e u m h => by rw [e]; exact h) h))
/- skyway/plane.Square -/
theorem g253_ok (n : Nat) (a0 : TP) (a1 : TP) {t : ρ253} (R : AV → Mem → Prop) (hR : ∀ r : ρ253, t = r → ∀ u m, Ans ((intA r)) u m → R u m) : g253 n a0 a1 = some t → F253 a0.X a0.Y a1.X a1.Y R := by
  unfold g253 F253
  refine bind_b fun x44 h44 => ?_
  refine imp (callQ_says (sg221 h44)) ?_
  refine imp exA2_b ?_
  iterate 2 refine imp ex_i64_b ?_
  refine bind_b fun x45 h45 => ?_
  refine imp (callQ_says (sg293 h45)) ?_
  refine imp ex_i64_b ?_
  exact fun hg => ret1 (hR _ (Option.some.inj hg).symm) (fz_sc _ _)
theorem sg253 {n : Nat} {a0 : TP} {a1 : TP} {t : ρ253} (h : g253 n a0 a1 = some t) : Says pg KK.gl 253 [(AV.agg [(intA a0.X), (intA a0.Y)]), (AV.agg [(intA a1.X), (intA a1.Y)])] ((intA t)) :=
  says_of_own (by first | rfl | simp [cleans, clean, encs_clean, En.cln]) (by first | rfl | simp [cleans, clean, encs_clean, En.cln]) (F253_own a0.X a0.Y a1.X a1.Y _ (g253_ok n a0 a1 (Ans ((intA t))) (fun r e u m h => by rw [e]; exact h) h))
/- skyway/num.Root -/
theorem B254_0_ok (n : Nat) (a0 : Int) (c2 : Int) (v3 : Int) (v4 : Int) {t : (Int × Int) ⊕ ρ254} (R : AV → Mem → Prop) (N0 : St → Prop) (hR : ∀ r : ρ254, t = (.inr r) → ∀ u m, Ans ((intA r)) u m → R u m) (hN0 : ∀ y : Int × Int, t = (.inl y) → ∀ s' : St, Weak KK 27 0 s' (h254_0 a0 c2 y.1 y.2 []) → N0 s') : S254_0 n a0 c2 v3 v4 = some t → B254_0 a0 c2 v3 v4 [] R N0 := by
  unfold S254_0 B254_0
  refine cond_b (fun _ => ?_) (fun _ => ?_)
  · refine cond_b (fun _ => ?_) (fun _ => ?_)
    · exact fun hg => hN0 _ (Option.some.inj hg).symm _ (weak_mem [] rfl rfl rfl (okW_cons (.inl (leV_refl _)) (okW_cons (.inl (leV_refl _)) (okW_cons (.inl (leV_refl _)) (okW_cons (.inl (leV_refl _)) okW_nil)))) okB_nil')
    · exact fun hg => hN0 _ (Option.some.inj hg).symm _ (weak_mem [] rfl rfl rfl (okW_cons (.inl (leV_refl _)) (okW_cons (.inl (leV_refl _)) (okW_cons (.inl (leV_refl _)) (okW_cons (.inl (leV_refl _)) okW_nil)))) okB_nil')
  · exact fun hg => ret1 (hR _ (Option.some.inj hg).symm) (fz_sc _ _)
theorem L254_0_ok (n : Nat) (a0 : Int) (c2 : Int) {t : ρ254} (R : AV → Mem → Prop) (hR : ∀ r : ρ254, t = r → ∀ u m, Ans ((intA r)) u m → R u m) (k : Nat) (x : Int × Int) (hx : iterO (fun y : Int × Int => S254_0 n a0 c2 y.1 y.2) k x = some t) {s : St} (hw : Weak KK 27 0 s (h254_0 a0 c2 x.1 x.2 [])) : Tri pg KK 27 0 (.loop c254_0) s (q254_0 R ) :=
  L254_0 R  (σ := Nat × (Int × Int)) (fun z => iterO (fun y : Int × Int => S254_0 n a0 c2 y.1 y.2) z.1 z.2 = some t) (fun z => a0) (fun z => c2) (fun z => z.2.1) (fun z => z.2.2) (fun z => []) (fun z => z.1) (by
    rintro ⟨k, y⟩ h
    cases k with
    | zero => exact (iterO_zero h).elim
    | succ k =>
      obtain ⟨u, h1, h2, h3⟩ := iterO_elim h
      exact B254_0_ok n a0 c2 y.1 y.2 R  _ (fun r e => hR r (h3 _ e).symm)  (fun y' e s' hw => ⟨(k, y'), h2 _ e, Nat.lt_succ_self k, hw⟩) h1) (k, x) hx hw
theorem g254_ok (n : Nat) (a0 : Int) {t : ρ254} (R : AV → Mem → Prop) (hR : ∀ r : ρ254, t = r → ∀ u m, Ans ((intA r)) u m → R u m) : g254 n a0 = some t → F254 a0 R := by
  unfold g254 F254
  refine cond_b (fun _ => ?_) (fun _ => ?_)
  · exact fun hg => ret1 (hR _ (Option.some.inj hg).symm) (fz_sc _ _)
  · exact fun hg => L254_0_ok n a0 (0) R  hR n _ hg (weak_mem [] rfl rfl rfl (okW_cons (.inl (leV_refl _)) (okW_cons (.inl (leV_refl _)) (okW_cons (.inl (leV_refl _)) (okW_cons (.inl (leV_refl _)) okW_nil)))) okB_nil')
theorem sg254 {n : Nat} {a0 : Int} {t : ρ254} (h : g254 n a0 = some t) : Says pg KK.gl 254 [(intA a0)] ((intA t)) :=
  says_of_own (by first | rfl | simp [cleans, clean, encs_clean, En.cln]) (by first | rfl | simp [cleans, clean, encs_clean, En.cln]) (F254_own a0 _ (g254_ok n a0 (Ans ((intA t))) (fun r e u m h => by rw [e]; exact h) h))
/- skyway/plane.Distance -/
theorem g195_ok (n : Nat) (a0 : TP) (a1 : TP) {t : ρ195} (R : AV → Mem → Prop) (hR : ∀ r : ρ195, t = r → ∀ u m, Ans ((AV.tup [(intA r.1), (intA r.2)])) u m → R u m) : g195 n a0 a1 = some t → F195 a0.X a0.Y a1.X a1.Y R := by
  unfold g195 F195
  refine bind_b fun x46 h46 => ?_
  refine imp (callQ_says (sg253 h46)) ?_
  refine imp ex_i64_b ?_
  refine bind_b fun x47 h47 => ?_
  refine imp (callQ_says (sg254 h47)) ?_
  refine imp ex_i64_b ?_
  refine cond_b (fun _ => ?_) (fun _ => ?_)
  · exact fun hg => retN rfl (hR _ (Option.some.inj hg).symm) (fzL_cons (fz_sc _ _) (fzL_cons (fz_sc _ _) fzL_nil))
  · exact fun hg => retN rfl (hR _ (Option.some.inj hg).symm) (fzL_cons (fz_sc _ _) (fzL_cons (fz_sc _ _) fzL_nil))
theorem sg195 {n : Nat} {a0 : TP} {a1 : TP} {t : ρ195} (h : g195 n a0 a1 = some t) : Says pg KK.gl 195 [(AV.agg [(intA a0.X), (intA a0.Y)]), (AV.agg [(intA a1.X), (intA a1.Y)])] ((AV.tup [(intA t.1), (intA t.2)])) :=
  says_of_own (by first | rfl | simp [cleans, clean, encs_clean, En.cln]) (by first | rfl | simp [cleans, clean, encs_clean, En.cln]) (F195_own a0.X a0.Y a1.X a1.Y _ (g195_ok n a0 a1 (Ans ((AV.tup [(intA t.1), (intA t.2)]))) (fun r e u m h => by rw [e]; exact h) h))
/- skyway/probe.separated -/
theorem g197_ok (n : Nat) (a0 : TTubeNode) (a1 : TTubeNode) (a2 : TSep) {t : ρ197} (R : AV → Mem → Prop) (hR : ∀ r : ρ197, t = r → ∀ u m, Ans ((boolA r)) u m → R u m) : g197 n a0 a1 a2 = some t → F197 a0.Node_Time a0.Node_At_X a0.Node_At_Y a0.Node_Height a0.Radius a0.Band a1.Node_Time a1.Node_At_X a1.Node_At_Y a1.Node_Height a1.Radius a1.Band a2.Lateral a2.Vertical R := by
  unfold g197 F197
  refine bind_b fun x48 h48 => ?_
  refine imp (callQ_says (sg195 h48)) ?_
  refine imp exT2_b ?_
  iterate 2 refine imp ex_i64_b ?_
  refine cond_b (fun _ => ?_) (fun _ => ?_)
  · exact fun hg => ret1 (hR _ (Option.some.inj hg).symm) (fz_sc _ _)
  · refine iq (intA (if (IntKind.wrap .i64 (a1.Node_Height - a0.Node_Height)) > (IntKind.wrap .i64 (a0.Node_Height - a1.Node_Height)) then (IntKind.wrap .i64 (a1.Node_Height - a0.Node_Height)) else (IntKind.wrap .i64 (a0.Node_Height - a1.Node_Height)))) (by kernel_rfl) ?_
    refine imp ex_i64_b ?_
    exact fun hg => ret1 (hR _ (Option.some.inj hg).symm) (fz_sc _ _)
theorem sg197 {n : Nat} {a0 : TTubeNode} {a1 : TTubeNode} {a2 : TSep} {t : ρ197} (h : g197 n a0 a1 a2 = some t) : Says pg KK.gl 197 [(AV.agg [(intA a0.Node_Time), (intA a0.Node_At_X), (intA a0.Node_At_Y), (intA a0.Node_Height), (intA a0.Radius), (intA a0.Band)]), (AV.agg [(intA a1.Node_Time), (intA a1.Node_At_X), (intA a1.Node_At_Y), (intA a1.Node_Height), (intA a1.Radius), (intA a1.Band)]), (AV.agg [(intA a2.Lateral), (intA a2.Vertical)])] ((boolA t)) :=
  says_of_own (by first | rfl | simp [cleans, clean, encs_clean, En.cln]) (by first | rfl | simp [cleans, clean, encs_clean, En.cln]) (F197_own a0.Node_Time a0.Node_At_X a0.Node_At_Y a0.Node_Height a0.Radius a0.Band a1.Node_Time a1.Node_At_X a1.Node_At_Y a1.Node_Height a1.Radius a1.Band a2.Lateral a2.Vertical _ (g197_ok n a0 a1 a2 (Ans ((boolA t))) (fun r e u m h => by rw [e]; exact h) h))
/- skyway/probe.spans -/
theorem B141_0_ok (n : Nat) (a0 : List TTubeNode) (a1 : List TTubeNode) (c9 : Int) (k0_0 : Int) (k0_1 : Int) (v10 : Int) (L90000 : List TSpan) {t : (Int × List TSpan) ⊕ ρ141} (R : AV → Mem → Prop) (N0 : St → Prop) (hR : ∀ r : ρ141, t = (.inr r) → ∀ u m, Ans ((lstA TSpan.E r)) u m → R u m) (hN0 : ∀ y : Int × List TSpan, t = (.inl y) → ∀ s' : St, Weak KK 73 0 s' (h141_0 (lstA TTubeNode.E a0) (lstA TTubeNode.E a1) AV.nils (ownV TSpan.E 90000 y.2) c9 y.1 k0_0 k0_1 [(90000, ownB TSpan.E 99 y.2)]) → N0 s') : S141_0 n a0 a1 c9 k0_0 k0_1 v10 L90000 = some t → B141_0 (lstA TTubeNode.E a0) (lstA TTubeNode.E a1) AV.nils (ownV TSpan.E 90000 L90000) c9 v10 k0_0 k0_1 [(90000, ownB TSpan.E 99 L90000)] R N0 := by
  unfold S141_0 B141_0
  refine cond_b (fun _ => ?_) (fun _ => ?_)
  · refine bind_b fun x42 h42 => ?_
    refine imp (callQ_says (sg73 h42)) ?_
    refine imp exT2_b ?_
    refine imp exA6_b ?_
    iterate 7 refine imp ex_i64_b ?_
    refine bind_b fun x43 h43 => ?_
    refine imp (callQ_says (sg73 h43)) ?_
    refine imp exT2_b ?_
    refine imp exA6_b ?_
    iterate 7 refine imp ex_i64_b ?_
    refine bind_b fun x49 h49 => ?_
    refine imp (callQ_says (sg197 h49)) ?_
    refine imp exB_b ?_
    refine cond_b (fun _ => ?_) (fun _ => ?_)
    · exact fun hg => hN0 _ (Option.some.inj hg).symm _ (weak_mem [(90000, 90000), (0, 0)] rfl rfl rfl (okW_cons (ent_lst (E := TTubeNode.E) _ false) (okW_cons (ent_lst (E := TTubeNode.E) _ false) (okW_cons (.inl (leV_refl _)) (okW_cons (.inl (leV_refl _)) (okW_cons (ent_own (E := TSpan.E) (id := 90000) (l' := L90000) rfl rfl) (okW_cons (.inl (leV_refl _)) (okW_cons (.inl (leV_refl _)) okW_nil))))))) (okB_cons (okB_cells (cs := [(intA k0_0), (intA k0_1)]) (ty := 91) rfl (show mget _ 0 = _ from (by first | rfl | (simp (disch := first | decide | assumption) only [mpushs_nil, mpushs_cons, mget_hd, mget_tl, mget_appW_o, mget_appW_n, mget_appW_e])))) (okB_cons (okB_own (E := TSpan.E) (ty := 99) (l' := L90000) rfl (show mget _ 90000 = _ from (by first | rfl | (simp (disch := first | decide | assumption) only [mpushs_nil, mpushs_cons, mget_hd, mget_tl, mget_appW_o, mget_appW_n, mget_appW_e])))) okB_nil')))
    · refine imp (opP_of (show _ = some ((intA (L90000.length : Int)), []) from len_own)) ?_
      refine imp ex_i64_b ?_
      refine cond_b (fun _ => ?_) (fun _ => ?_)
      · refine bind_b fun x50 h50 => ?_
        refine iq (AV.ptr 90000 ((((IntKind.wrap .i64 ((L90000.length : Int) - (1))) : Int).toNat) * 2 + 0)) (idx_own (E := TSpan.E) rfl h50) ?_
        refine iq (AV.ptr 90000 ((((IntKind.wrap .i64 ((L90000.length : Int) - (1))) : Int).toNat) * 2 + 1)) rfl ?_
        refine iq (intA x50.To) (ldS_blk (E := TSpan.E) (l := L90000) (ty := 99) (o := 1) (own_some (ty := 99) (by first | rfl | (simp (disch := first | decide | assumption) only [mpushs_nil, mpushs_cons, mget_hd, mget_tl, mget_appW_o, mget_appW_n, mget_appW_e])) (getI_some h50).2) (getI_some h50).2 rfl (by decide) rfl) ?_
        refine imp ex_i64_b ?_
        refine cond_b (fun _ => ?_) (fun _ => ?_)
        · refine bind_b fun x51 h51 => ?_
          refine iq (AV.ptr 90000 ((((IntKind.wrap .i64 ((L90000.length : Int) - (1))) : Int).toNat) * 2 + 0)) (idx_own (E := TSpan.E) rfl h51) ?_
          refine iq (AV.ptr 90000 ((((IntKind.wrap .i64 ((L90000.length : Int) - (1))) : Int).toNat) * 2 + 1)) rfl ?_
          refine imp (storeW_elO (E := TSpan.E) (l := L90000) (i := (((IntKind.wrap .i64 ((L90000.length : Int) - (1))) : Int).toNat)) (o := 1) (y := (⟨x51.From, (IntKind.wrap .i64 (v10 + (1)))⟩ : TSpan)) (ty := 99) (by kernel_rfl) (by kernel_rfl) rfl (by first | rfl | (simp (disch := first | decide | assumption) only [mpushs_nil, mpushs_cons, mget_hd, mget_tl, mget_appW_o, mget_appW_n, mget_appW_e])) (getI_some h51).2 rfl (by decide) rfl) ?_
          exact fun hg => hN0 _ (Option.some.inj hg).symm _ (weak_mem [(90000, 90000), (0, 0)] rfl rfl rfl (okW_cons (ent_lst (E := TTubeNode.E) _ false) (okW_cons (ent_lst (E := TTubeNode.E) _ false) (okW_cons (.inl (leV_refl _)) (okW_cons (.inl (leV_refl _)) (okW_cons (ent_own (E := TSpan.E) (id := 90000) (l' := (L90000.set (((IntKind.wrap .i64 ((L90000.length : Int) - (1))) : Int).toNat) (⟨x51.From, (IntKind.wrap .i64 (v10 + (1)))⟩ : TSpan))) (by first | rfl | omega | (simp; done) | (simp; omega)) rfl) (okW_cons (.inl (leV_refl _)) (okW_cons (.inl (leV_refl _)) okW_nil))))))) (okB_cons (okB_cells (cs := [(intA k0_0), (intA k0_1)]) (ty := 91) rfl (show mget _ 0 = _ from (by first | rfl | (simp (disch := first | decide | assumption) only [mpushs_nil, mpushs_cons, mget_hd, mget_tl, mget_appW_o, mget_appW_n, mget_appW_e])))) (okB_cons (okB_own (E := TSpan.E) (ty := 99) (l' := (L90000.set (((IntKind.wrap .i64 ((L90000.length : Int) - (1))) : Int).toNat) (⟨x51.From, (IntKind.wrap .i64 (v10 + (1)))⟩ : TSpan))) rfl (show mget _ 90000 = _ from (by first | rfl | (simp (disch := first | decide | assumption) only [mpushs_nil, mpushs_cons, mget_hd, mget_tl, mget_appW_o, mget_appW_n, mget_appW_e])))) okB_nil')))
        · refine iq (AV.agg [(intA v10), (intA (IntKind.wrap .i64 (v10 + (1))))]) rfl ?_
          refine imp (opN_of (show _ = some ((blkV TSpan.E 100234 ([(⟨v10, (IntKind.wrap .i64 (v10 + (1)))⟩ : TSpan)] : List TSpan)), [(100234, some ⟨encs TSpan.E ([(⟨v10, (IntKind.wrap .i64 (v10 + (1)))⟩ : TSpan)] : List TSpan), 99⟩)]) from rfl)) ?_
          refine bind_b fun x53 h53 => ?_
          refine imp (opN_of (show _ = some ((ownV TSpan.E 100235 (L90000 ++ ([(⟨v10, (IntKind.wrap .i64 (v10 + (1)))⟩ : TSpan)] : List TSpan))), (appW TSpan.E 100235 90000 99 L90000 ([(⟨v10, (IntKind.wrap .i64 (v10 + (1)))⟩ : TSpan)] : List TSpan))) from (app_own (E := TSpan.E) (l' := L90000) (xs := ([(⟨v10, (IntKind.wrap .i64 (v10 + (1)))⟩ : TSpan)] : List TSpan)) rfl rfl (cellsOf_blk (E := TSpan.E) (ty := 99) rfl rfl (by first | rfl | (simp (disch := first | decide | assumption) only [mpushs_nil, mpushs_cons, mget_hd, mget_tl, mget_appW_o, mget_appW_n, mget_appW_e]))) (by first | assumption | simp) rfl (fun hne => Eq.trans (by first | rfl | (simp (disch := first | decide | assumption) only [mpushs_nil, mpushs_cons, mget_hd, mget_tl, mget_appW_o, mget_appW_n, mget_appW_e])) (ownB_ne hne)) h53))) ?_
          exact fun hg => hN0 _ (Option.some.inj hg).symm _ (weak_mem [(90000, 100235), (0, 0)] rfl rfl rfl (okW_cons (ent_lst (E := TTubeNode.E) _ false) (okW_cons (ent_lst (E := TTubeNode.E) _ false) (okW_cons (.inl (leV_refl _)) (okW_cons (.inl (leV_refl _)) (okW_cons (ent_own (E := TSpan.E) (id := 100235) (l' := (L90000 ++ ([(⟨v10, (IntKind.wrap .i64 (v10 + (1)))⟩ : TSpan)] : List TSpan))) rfl rfl) (okW_cons (.inl (leV_refl _)) (okW_cons (.inl (leV_refl _)) okW_nil))))))) (okB_cons (okB_cells (cs := [(intA k0_0), (intA k0_1)]) (ty := 91) rfl (show mget _ 0 = _ from (by first | rfl | (simp (disch := first | decide | assumption) only [mpushs_nil, mpushs_cons, mget_hd, mget_tl, mget_appW_o, mget_appW_n, mget_appW_e])))) (okB_cons (okB_own (E := TSpan.E) (ty := 99) (l' := (L90000 ++ ([(⟨v10, (IntKind.wrap .i64 (v10 + (1)))⟩ : TSpan)] : List TSpan))) rfl (show mget _ 100235 = _ from (by first | rfl | (simp (disch := first | decide | assumption) only [mpushs_nil, mpushs_cons, mget_hd, mget_tl, mget_appW_o, mget_appW_n, mget_appW_e])))) okB_nil')))
      · refine iq (AV.agg [(intA v10), (intA (IntKind.wrap .i64 (v10 + (1))))]) rfl ?_
        refine imp (opN_of (show _ = some ((blkV TSpan.E 100226 ([(⟨v10, (IntKind.wrap .i64 (v10 + (1)))⟩ : TSpan)] : List TSpan)), [(100226, some ⟨encs TSpan.E ([(⟨v10, (IntKind.wrap .i64 (v10 + (1)))⟩ : TSpan)] : List TSpan), 99⟩)]) from rfl)) ?_
        refine bind_b fun x55 h55 => ?_
        refine imp (opN_of (show _ = some ((ownV TSpan.E 100227 (L90000 ++ ([(⟨v10, (IntKind.wrap .i64 (v10 + (1)))⟩ : TSpan)] : List TSpan))), (appW TSpan.E 100227 90000 99 L90000 ([(⟨v10, (IntKind.wrap .i64 (v10 + (1)))⟩ : TSpan)] : List TSpan))) from (app_own (E := TSpan.E) (l' := L90000) (xs := ([(⟨v10, (IntKind.wrap .i64 (v10 + (1)))⟩ : TSpan)] : List TSpan)) rfl rfl (cellsOf_blk (E := TSpan.E) (ty := 99) rfl rfl (by first | rfl | (simp (disch := first | decide | assumption) only [mpushs_nil, mpushs_cons, mget_hd, mget_tl, mget_appW_o, mget_appW_n, mget_appW_e]))) (by first | assumption | simp) rfl (fun hne => Eq.trans (by first | rfl | (simp (disch := first | decide | assumption) only [mpushs_nil, mpushs_cons, mget_hd, mget_tl, mget_appW_o, mget_appW_n, mget_appW_e])) (ownB_ne hne)) h55))) ?_
        exact fun hg => hN0 _ (Option.some.inj hg).symm _ (weak_mem [(90000, 100227), (0, 0)] rfl rfl rfl (okW_cons (ent_lst (E := TTubeNode.E) _ false) (okW_cons (ent_lst (E := TTubeNode.E) _ false) (okW_cons (.inl (leV_refl _)) (okW_cons (.inl (leV_refl _)) (okW_cons (ent_own (E := TSpan.E) (id := 100227) (l' := (L90000 ++ ([(⟨v10, (IntKind.wrap .i64 (v10 + (1)))⟩ : TSpan)] : List TSpan))) rfl rfl) (okW_cons (.inl (leV_refl _)) (okW_cons (.inl (leV_refl _)) okW_nil))))))) (okB_cons (okB_cells (cs := [(intA k0_0), (intA k0_1)]) (ty := 91) rfl (show mget _ 0 = _ from (by first | rfl | (simp (disch := first | decide | assumption) only [mpushs_nil, mpushs_cons, mget_hd, mget_tl, mget_appW_o, mget_appW_n, mget_appW_e])))) (okB_cons (okB_own (E := TSpan.E) (ty := 99) (l' := (L90000 ++ ([(⟨v10, (IntKind.wrap .i64 (v10 + (1)))⟩ : TSpan)] : List TSpan))) rfl (show mget _ 100227 = _ from (by first | rfl | (simp (disch := first | decide | assumption) only [mpushs_nil, mpushs_cons, mget_hd, mget_tl, mget_appW_o, mget_appW_n, mget_appW_e])))) okB_nil')))
  · exact fun hg => ret1 (hR _ (Option.some.inj hg).symm) (fz_own (E := TSpan.E) (ty := 99) (l' := L90000) _ rfl (by first | rfl | (simp (disch := first | decide | assumption) only [mpushs_nil, mpushs_cons, mget_hd, mget_tl, mget_appW_o, mget_appW_n, mget_appW_e])))
theorem L141_0_ok (n : Nat) (a0 : List TTubeNode) (a1 : List TTubeNode) (c9 : Int) (k0_0 : Int) (k0_1 : Int) {t : ρ141} (R : AV → Mem → Prop) (hR : ∀ r : ρ141, t = r → ∀ u m, Ans ((lstA TSpan.E r)) u m → R u m) (k : Nat) (x : Int × List TSpan) (hx : iterO (fun y : Int × List TSpan => S141_0 n a0 a1 c9 k0_0 k0_1 y.1 y.2) k x = some t) {s : St} (hw : Weak KK 73 0 s (h141_0 (lstA TTubeNode.E a0) (lstA TTubeNode.E a1) AV.nils (ownV TSpan.E 90000 x.2) c9 x.1 k0_0 k0_1 [(90000, ownB TSpan.E 99 x.2)])) : Tri pg KK 73 0 (.loop c141_0) s (q141_0 R ) :=
  L141_0 R  (σ := Nat × (Int × List TSpan)) (fun z => iterO (fun y : Int × List TSpan => S141_0 n a0 a1 c9 k0_0 k0_1 y.1 y.2) z.1 z.2 = some t) (fun z => (lstA TTubeNode.E a0)) (fun z => (lstA TTubeNode.E a1)) (fun z => AV.nils) (fun z => (ownV TSpan.E 90000 z.2.2)) (fun z => c9) (fun z => z.2.1) (fun z => k0_0) (fun z => k0_1) (fun z => [(90000, ownB TSpan.E 99 z.2.2)]) (fun z => z.1) (by
    rintro ⟨k, y⟩ h
    cases k with
    | zero => exact (iterO_zero h).elim
    | succ k =>
      obtain ⟨u, h1, h2, h3⟩ := iterO_elim h
      exact B141_0_ok n a0 a1 c9 k0_0 k0_1 y.1 y.2 R  _ (fun r e => hR r (h3 _ e).symm)  (fun y' e s' hw => ⟨(k, y'), h2 _ e, Nat.lt_succ_self k, hw⟩) h1) (k, x) hx hw
theorem g141_ok (n : Nat) (a0 : List TTubeNode) (a1 : List TTubeNode) (a2 : TSep) {t : ρ141} (R : AV → Mem → Prop) (hR : ∀ r : ρ141, t = r → ∀ u m, Ans ((lstA TSpan.E r)) u m → R u m) : g141 n a0 a1 a2 = some t → F141 (lstA TTubeNode.E a0) (lstA TTubeNode.E a1) a2.Lateral a2.Vertical R := by
  unfold g141 F141
  refine bind_b fun x12 h12 => ?_
  refine imp (callQ_says (sg196 h12)) ?_
  refine imp exT2_b ?_
  iterate 2 refine imp ex_i64_b ?_
  exact fun hg => L141_0_ok n a0 a1 x12.2 a2.Lateral a2.Vertical R  hR n _ hg (weak_mem [(90000, 89500), (0, 0)] rfl rfl rfl (okW_cons (ent_lst (E := TTubeNode.E) _ false) (okW_cons (ent_lst (E := TTubeNode.E) _ false) (okW_cons (.inl (leV_refl _)) (okW_cons (.inl (leV_refl _)) (okW_cons ent_nils_own (okW_cons (.inl (leV_refl _)) (okW_cons (.inl (leV_refl _)) okW_nil))))))) (okB_cons (okB_cells (cs := [(intA a2.Lateral), (intA a2.Vertical)]) (ty := 91) rfl (show mget _ 0 = _ from (by first | rfl | (simp (disch := first | decide | assumption) only [mpushs_nil, mpushs_cons, mget_hd, mget_tl, mget_appW_o, mget_appW_n, mget_appW_e])))) (okB_cons okB_nil okB_nil')))
theorem sg141 {n : Nat} {a0 : List TTubeNode} {a1 : List TTubeNode} {a2 : TSep} {t : ρ141} (h : g141 n a0 a1 a2 = some t) : Says pg KK.gl 141 [(lstA TTubeNode.E a0), (lstA TTubeNode.E a1), (AV.agg [(intA a2.Lateral), (intA a2.Vertical)])] ((lstA TSpan.E t)) :=
  says_of_own (by first | rfl | simp [cleans, clean, encs_clean, En.cln]) (by first | rfl | simp [cleans, clean, encs_clean, En.cln]) (F141_own (lstA TTubeNode.E a0) (lstA TTubeNode.E a1) a2.Lateral a2.Vertical _ (g141_ok n a0 a1 a2 (Ans ((lstA TSpan.E t))) (fun r e u m h => by rw [e]; exact h) h))
/- skyway/probe.Pair -/
theorem g77_ok (n : Nat) (a0 : List TTubeNode) (a1 : List TTubeNode) (a2 : TSep) {t : ρ77} (R : AV → Mem → Prop) (hR : ∀ r : ρ77, t = r → ∀ u m, Ans ((AV.tup [(lstA TSpan.E r.1), (intA r.2)])) u m → R u m) : g77 n a0 a1 a2 = some t → F77 (lstA TTubeNode.E a0) (lstA TTubeNode.E a1) a2.Lateral a2.Vertical R := by
  unfold g77 F77
  refine imp (opN_of (show _ = some ((blkV (lstE TTubeNode.E) 6 ([a0, a1] : List (List TTubeNode))), [(6, some ⟨encs (lstE TTubeNode.E) ([a0, a1] : List (List TTubeNode)), 78⟩)]) from rfl)) ?_
  refine bind_b fun x7 h7 => ?_
  refine imp (callQ_pure (pure_snapN (snL_cons (sn_agg _ (snL_cons (sn_sc _ _) (snL_cons (sn_sc _ _) snL_nil))) (snL_cons (sn_blk (E := (lstE TTubeNode.E)) (ty := 78) (l' := ([a0, a1] : List (List TTubeNode))) _ (lstE.nf TTubeNode.E) rfl (by first | rfl | (simp (disch := first | decide | assumption) only [mpushs_nil, mpushs_cons, mget_hd, mget_tl, mget_appW_o, mget_appW_n, mget_appW_e]))) snL_nil)) (sg140 h7) rfl)) ?_
  refine imp ex_i64_b ?_
  refine cond_b (fun _ => ?_) (fun _ => ?_)
  · exact fun hg => retN rfl (hR _ (Option.some.inj hg).symm) (fzL_cons (fz_nils (E := TSpan.E) _) (fzL_cons (fz_sc _ _) fzL_nil))
  · refine iq (AV.agg [(intA a2.Lateral), (intA a2.Vertical)]) (ldA_ptr (b := ⟨[(intA a2.Lateral), (intA a2.Vertical)], 91⟩) (by first | rfl | (simp (disch := first | decide | assumption) only [mpushs_nil, mpushs_cons, mget_hd, mget_tl, mget_appW_o, mget_appW_n, mget_appW_e])) rfl) ?_
    refine imp exA2_b ?_
    iterate 2 refine imp ex_i64_b ?_
    refine bind_b fun x56 h56 => ?_
    refine imp (callQ_says (sg141 h56)) ?_
    exact fun hg => retN rfl (hR _ (Option.some.inj hg).symm) (fzL_cons (fz_lst (E := TSpan.E) _ _ false) (fzL_cons (fz_sc _ _) fzL_nil))
theorem sg77 {n : Nat} {a0 : List TTubeNode} {a1 : List TTubeNode} {a2 : TSep} {t : ρ77} (h : g77 n a0 a1 a2 = some t) : Says pg KK.gl 77 [(lstA TTubeNode.E a0), (lstA TTubeNode.E a1), (AV.agg [(intA a2.Lateral), (intA a2.Vertical)])] ((AV.tup [(lstA TSpan.E t.1), (intA t.2)])) :=
  says_of_own (by first | rfl | simp [cleans, clean, encs_clean, En.cln]) (by first | rfl | simp [cleans, clean, encs_clean, En.cln]) (F77_own (lstA TTubeNode.E a0) (lstA TTubeNode.E a1) a2.Lateral a2.Vertical _ (g77_ok n a0 a1 a2 (Ans ((AV.tup [(lstA TSpan.E t.1), (intA t.2)]))) (fun r e u m h => by rw [e]; exact h) h))
/- skyway/probe.First -/
theorem g23_ok (n : Nat) (a0 : List TTubeNode) (a1 : List TTubeNode) (a2 : TSep) {t : ρ23} (R : AV → Mem → Prop) (hR : ∀ r : ρ23, t = r → ∀ u m, Ans ((AV.tup [(intA r.1), (intA r.2)])) u m → R u m) : g23 n a0 a1 a2 = some t → F23 (lstA TTubeNode.E a0) (lstA TTubeNode.E a1) a2.Lateral a2.Vertical R := by
  unfold g23 F23
  refine bind_b fun x57 h57 => ?_
  refine imp (callQ_says (sg77 h57)) ?_
  refine imp exT2_b ?_
  refine imp ex_i64_b ?_
  refine cond_b (fun _ => ?_) (fun _ => ?_)
  · exact fun hg => retN rfl (hR _ (Option.some.inj hg).symm) (fzL_cons (fz_sc _ _) (fzL_cons (fz_sc _ _) fzL_nil))
  · refine iq (intA (x57.1.length : Int)) rfl ?_
    refine imp ex_i64_b ?_
    refine cond_b (fun _ => ?_) (fun _ => ?_)
    · exact fun hg => retN rfl (hR _ (Option.some.inj hg).symm) (fzL_cons (fz_sc _ _) (fzL_cons (fz_sc _ _) fzL_nil))
    · refine bind_b fun x58 h58 => ?_
      refine iq (AV.ept [(intA x58.From), (intA x58.To)] 0) (idx_lst (E := TSpan.E) rfl h58) ?_
      refine iq (AV.ept [(intA x58.From), (intA x58.To)] 0) rfl ?_
      refine iq (intA x58.From) rfl ?_
      refine imp ex_i64_b ?_
      exact fun hg => retN rfl (hR _ (Option.some.inj hg).symm) (fzL_cons (fz_sc _ _) (fzL_cons (fz_sc _ _) fzL_nil))
theorem sg23 {n : Nat} {a0 : List TTubeNode} {a1 : List TTubeNode} {a2 : TSep} {t : ρ23} (h : g23 n a0 a1 a2 = some t) : Says pg KK.gl 23 [(lstA TTubeNode.E a0), (lstA TTubeNode.E a1), (AV.agg [(intA a2.Lateral), (intA a2.Vertical)])] ((AV.tup [(intA t.1), (intA t.2)])) :=
  says_of_own (by first | rfl | simp [cleans, clean, encs_clean, En.cln]) (by first | rfl | simp [cleans, clean, encs_clean, En.cln]) (F23_own (lstA TTubeNode.E a0) (lstA TTubeNode.E a1) a2.Lateral a2.Vertical _ (g23_ok n a0 a1 a2 (Ans ((AV.tup [(intA t.1), (intA t.2)]))) (fun r e u m h => by rw [e]; exact h) h))
/- skyway/skywaytop.shownPick -/
theorem g5_ok (n : Nat) (a0 : Int) (a1 : Int) {t : ρ5} (R : AV → Mem → Prop) (hR : ∀ r : ρ5, t = r → ∀ u m, Ans ((intA r)) u m → R u m) : g5 n a0 a1 = some t → F5 a0 a1 R := by
  unfold g5 F5
  refine iq (AV.sc (.int .u64 (IntKind.wrap .u64 a0))) (by kernel_rfl) ?_
  refine imp ex_u64_b ?_
  refine iq (AV.sc (.int .u64 (IntKind.wrap .u64 a1))) (by kernel_rfl) ?_
  refine imp ex_u64_b ?_
  refine bind_b fun x60 h60 => ?_
  refine iq (AV.sc (.int .u64 x60)) (opA_rem h60) ?_
  refine imp ex_u64_b ?_
  refine iq (intA (IntKind.wrap .i64 x60)) (by kernel_rfl) ?_
  refine imp ex_i64_b ?_
  exact fun hg => ret1 (hR _ (Option.some.inj hg).symm) (fz_sc _ _)
theorem sg5 {n : Nat} {a0 : Int} {a1 : Int} {t : ρ5} (h : g5 n a0 a1 = some t) : Says pg KK.gl 5 [(intA a0), (intA a1)] ((intA t)) :=
  says_of_own (by first | rfl | simp [cleans, clean, encs_clean, En.cln]) (by first | rfl | simp [cleans, clean, encs_clean, En.cln]) (F5_own a0 a1 _ (g5_ok n a0 a1 (Ans ((intA t))) (fun r e u m h => by rw [e]; exact h) h))
end Go.Proofs.YtbnnndfcaehlpaaGreatDoor
