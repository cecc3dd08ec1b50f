/- A part. -/
import Derived.Test.YtbfabclpcamlnaaGreatDoorX1G
import Derived.Test.YtbfabclpcamlnaaGreatDoorX1F1
import Derived.Test.YtbfabclpcamlnaaGreatDoorX1F2
import Derived.Test.YtbfabclpcamlnaaGreatDoorX1F3
import Derived.Test.YtbfabclpcamlnaaGreatDoorX1S
set_option linter.unusedVariables false
set_option linter.unusedSimpArgs false
set_option maxRecDepth 100000
set_option maxHeartbeats 4000000
namespace Go.Proofs.YtbfabclpcamlnaaGreatDoor
theorem mT {n : Nat} {look : Nat → Option Bi} {l : List Ab} {u : Unit} (h : Gb l.length 32 = some u) : D2 pg KK.gl look n 11 [Am Ab.E l] (B5 Ab.E n l) [(n, Cs Ab.E 37 l)] :=
  gL (by simp [As, clean, Ak]) (eM _ _ (by
    unfold F11
    exact W7 (E := Ab.E) rfl rfl h))
theorem lZ {n : Nat} {look : Nat → Option Bi} {args : List AV} {l : List Ab} {u : Unit} (h : Gb l.length 32 = some u) (hs : aX look 6 args [Am Ab.E l]) : D2 pg KK.gl look n 11 args (B5 Ab.E n l) [(n, Cs Ab.E 37 l)] :=
  iB (fun _ => rfl) hs (eM _ _ (by
    unfold F11
    exact W7 (E := Ab.E) rfl rfl h))
theorem iR {n id : Nat} {look : Nat → Option Bi} {l0 l : List Ab} (hl : l0.length = l.length) (hz : l = []) : D2 pg KK.gl look n 10 [B5 Ab.E id l0, .fn 12 []] (Am Ab.E []) [] := by
  subst hz
  obtain rfl : l0 = [] := List.length_eq_zero_iff.1 hl
  exact oY (dV kO (dV (Hr _) yM)) (((Xx (K := KF) Ee (k := 20) (args := [Am Ab.E [], .fn 12 []]) (v := Am Ab.E []) rfl (by kernel_rfl) rfl).at look).y5)
noncomputable def J54 (a1 : Int) (a2 : AV) (m : Mem) (R : AV → Mem → Prop) (z2 z4 : Int) (v17 : AV) : Prop :=
Bg (B9 pg (.slice 33 (.tmp 0) (some (.tmp 1)) none none) 33 [v17, (AV.sc (.int .i64 z4))] (Al m) 102) fun v28 =>
Fy (B9 pg (.call ⟨.builtin .copy, #[.tmp 0, .tmp 1], #[33, 33]⟩) 3 [v28, a2] (Al m) 104) m fun v29 m29 =>
Af v29 fun z30 =>
Bg (B9 pg (.slice 33 (.tmp 0) (some (.tmp 1)) none none) 33 [v17, (AV.sc (.int .i64 a1))] (Al m29) 107) fun v31 =>
Ed pg KK.gl m29 109 116 [v31, (AV.sc (.int .i64 z2))] fun v32 m32 =>
Ry v32 <|
A4 R m32 [some v17]
noncomputable def Afi (a0 : AV) (a1 : Int) (a2 : AV) (m : Mem) (R : AV → Mem → Prop) (z2 z4 : Int) : Prop :=
Bg (B9 pg (.call ⟨.builtin .cap, #[.tmp 0], #[33]⟩) 3 [a0] (Al m) 20) fun v6 =>
Af v6 fun z7 =>
bif (decide ((IntKind.wrap .i64 (z4 + z2)) > z7)) then (
Bg (B9 pg (.slice 33 (.tmp 0) none (some (.tmp 1)) none) 33 [a0, (AV.sc (.int .i64 a1))] (Al m) 24) fun v8 =>
Fy (B9 pg (.call ⟨.builtin .append, #[.tmp 0, .tmp 1], #[33, 3]⟩) 33 [v8, (AV.sc (.int .i64 (IntKind.wrap .i64 ((IntKind.wrap .i64 (z4 + z2)) - a1))))] (Al m) 30) m fun v9 m9 =>
Bg (B9 pg (.slice 33 (.tmp 0) (some (.tmp 1)) none none) 33 [v9, (AV.sc (.int .i64 a1))] (Al m9) 34) fun v10 =>
Fy (B9 pg (.call ⟨.builtin .copy, #[.tmp 0, .tmp 1], #[33, 33]⟩) 3 [v10, a2] (Al m9) 36) m9 fun v11 m11 =>
Af v11 fun z12 =>
E8 (B9 pg (.slice 33 (.tmp 0) (some (.tmp 1)) none none) 33 [v9, (AV.sc (.int .i64 (IntKind.wrap .i64 (a1 + z2))))] (B3 m11 (Ax v9 ++ (Ax (AV.sc (.int .i64 (IntKind.wrap .i64 (a1 + z2)))) ++ ([])))) 41) fun v13 d13 =>
E8 (B9 pg (.slice 33 (.tmp 0) (some (.tmp 1)) none none) 33 [a0, (AV.sc (.int .i64 a1))] (B3 (Ae m11 d13) (Ax a0 ++ (Ax (AV.sc (.int .i64 a1)) ++ ([])))) 44) fun v14 d14 =>
E8 (B9 pg (.call ⟨.builtin .copy, #[.tmp 0, .tmp 1], #[33, 33]⟩) 3 [v13, v14] (B3 (Ae (Ae m11 d13) d14) (Ax v13 ++ (Ax v14 ++ ([])))) 45) fun v15 d15 =>
Af v15 fun z16 =>
Mo (D1 [0, 0, 0, 6, 15, 0, 0, 96, 255] [⟨[], []⟩, ⟨[], []⟩, ⟨[], []⟩, ⟨[], []⟩, ⟨d13, (Ax v9 ++ (Ax (AV.sc (.int .i64 (IntKind.wrap .i64 (a1 + z2)))) ++ ([])))⟩, ⟨[], []⟩, ⟨[], []⟩, ⟨d14, (Ax a0 ++ (Ax (AV.sc (.int .i64 a1)) ++ ([])))⟩, ⟨d15, (Ax v13 ++ (Ax v14 ++ ([])))⟩]) (A4 R (Ae (Ae (Ae m11 d13) d14) d15) [some v9])) else (
Bg (B9 pg (.slice 33 (.tmp 0) none (some (.tmp 1)) none) 33 [a0, (AV.sc (.int .i64 (IntKind.wrap .i64 (z4 + z2))))] (Al m) 26) fun v17 =>
Bg (B9 pg (.slice 33 (.tmp 0) (some (.tmp 1)) none none) 33 [v17, (AV.sc (.int .i64 (IntKind.wrap .i64 (a1 + z2))))] (Al m) 33) fun v18 =>
Bv pg KK.gl m 115 [a2, v18] fun v19 =>
G2 v19 fun b20 =>
bif (!b20) then (
E8 (B9 pg (.slice 33 (.tmp 0) (some (.tmp 1)) none none) 33 [v17, (AV.sc (.int .i64 (IntKind.wrap .i64 (a1 + z2))))] (B3 m (Ax v17 ++ (Ax (AV.sc (.int .i64 (IntKind.wrap .i64 (a1 + z2)))) ++ ([])))) 103) fun v21 d21 =>
E8 (B9 pg (.slice 33 (.tmp 0) (some (.tmp 1)) none none) 33 [v17, (AV.sc (.int .i64 a1))] (B3 (Ae m d21) (Ax v17 ++ (Ax (AV.sc (.int .i64 a1)) ++ ([])))) 106) fun v22 d22 =>
E8 (B9 pg (.call ⟨.builtin .copy, #[.tmp 0, .tmp 1], #[33, 33]⟩) 3 [v21, v22] (B3 (Ae (Ae m d21) d22) (Ax v21 ++ (Ax v22 ++ ([])))) 107) fun v23 d23 =>
Af v23 fun z24 =>
Mo (D1 [0, 0, 0, 6, 15, 0, 0, 96, 255] [⟨[], []⟩, ⟨[], []⟩, ⟨[], []⟩, ⟨[], []⟩, ⟨d21, (Ax v17 ++ (Ax (AV.sc (.int .i64 (IntKind.wrap .i64 (a1 + z2)))) ++ ([])))⟩, ⟨[], []⟩, ⟨[], []⟩, ⟨d22, (Ax v17 ++ (Ax (AV.sc (.int .i64 a1)) ++ ([])))⟩, ⟨d23, (Ax v21 ++ (Ax v22 ++ ([])))⟩]) (Bg (B9 pg (.slice 33 (.tmp 0) (some (.tmp 1)) none none) 33 [v17, (AV.sc (.int .i64 a1))] (Al (Ae (Ae (Ae m d21) d22) d23)) 110) fun v25 =>
Fy (B9 pg (.call ⟨.builtin .copy, #[.tmp 0, .tmp 1], #[33, 33]⟩) 3 [v25, a2] (Al (Ae (Ae (Ae m d21) d22) d23)) 112) (Ae (Ae (Ae m d21) d22) d23) fun v26 m26 =>
Af v26 fun z27 =>
A4 R m26 [some v17])) else (
Bg (B9 pg (.slice 33 (.tmp 0) (some (.tmp 1)) none none) 33 [v17, (AV.sc (.int .i64 z4))] (Al m) 101) fun v28 =>
Fy (B9 pg (.call ⟨.builtin .copy, #[.tmp 0, .tmp 1], #[33, 33]⟩) 3 [v28, a2] (Al m) 103) m fun v29 m29 =>
Af v29 fun z30 =>
Bg (B9 pg (.slice 33 (.tmp 0) (some (.tmp 1)) none none) 33 [v17, (AV.sc (.int .i64 a1))] (Al m29) 106) fun v31 =>
Ed pg KK.gl m29 108 116 [v31, (AV.sc (.int .i64 z2))] fun v32 m32 =>
Ry v32 <|
A4 R m32 [some v17]))
theorem Abr (a0 : AV) (a1 : Int) (a2 : AV) (m : Mem) (R : AV → Mem → Prop) : Wu pg KK.gl 33 3 37 4 32 115 [(AV.sc (.int .i64 (0))), (AV.sc (.int .i64 (0))), (AV.sc (.bool false)), (AV.sc (.int .i64 (0)))] (J54 a1 a2 m R) a0 a1 a2 m R = eV a0 a1 a2 m R := by kernel_rfl
theorem tP (a0 : AV) (a1 : Int) (a2 : AV) (m : Mem) (R : AV → Mem → Prop) : P3 pg 33 37 4 32 [(AV.sc (.int .i64 (0))), (AV.sc (.int .i64 (0))), (AV.sc (.bool false)), (AV.sc (.int .i64 (0)))] (Afi a0 a1 a2 m R) a0 a1 a2 m R = cO a0 a1 a2 m R := by kernel_rfl
theorem yP : Yx pg 115 33 4 := ⟨⟨Tryz.f115, Tryz.func115, by kernel_rfl, by kernel_rfl, by kernel_rfl, by kernel_rfl⟩, ⟨37, _, by kernel_rfl, C7 (n := (C8 pg 37).getD 0) (by kernel_rfl)⟩⟩
theorem zK {l xs : List Ab} {C k : Nat} (hC : l.length ≤ C) (hCm : C ≤ maxLen) (hne : l ≠ []) (hx : xs ≠ []) (hk : k ≤ l.length) (r1 : (l.length + xs.length) * 32 ≤ 140737488355328) (r2 : l.length + xs.length ≤ 4611686018427387904) (a0 : AV) (ha0 : a0 = .sl 0 0 Ab.E.size l.length C true) (a1 : Int) (ha1 : a1 = (k : Int)) (a2 : AV) (ha2 : a2 = .sl 1 0 Ab.E.size xs.length xs.length false) (m : Mem) (hm : m = [(0, some ⟨Ay Ab.E l ++ List.replicate ((C - l.length) * Ab.E.size) .D7, 37⟩), (1, some ⟨Ay Ab.E xs, 37⟩)]) : eV a0 a1 a2 m (Jn Ab.E 37 (l.take k ++ xs ++ l.drop k)) := by
  rw [← Abr]
  exact Ss (P := pg) (gl := KK.gl) (E := Ab.E) (t := 33) (e := 37) (sz := 4) (by_ := 32) (fo := 115) (ty2 := 37) (i := k) (zs := [(AV.sc (.int .i64 (0))), (AV.sc (.int .i64 (0))), (AV.sc (.bool false)), (AV.sc (.int .i64 (0)))]) (l := l) (xs := xs) (C := C) (f := 0) (nt := 0) (kk := .i64) (by kernel_rfl) (by kernel_rfl) (by kernel_rfl) (by kernel_rfl) rfl rfl (by kernel_rfl) yP hC hCm hne hx hk r1 r2 (Jn Ab.E 37 (l.take k ++ xs ++ l.drop k)) (fun _ _ h => h) m hm a0 ha0 a1 ha1 a2 ha2 _
theorem zM {xs : List Ab} (hx : xs ≠ []) (r1 : (0 + xs.length) * 32 ≤ 140737488355328) (r2 : 0 + xs.length ≤ 4611686018427387904) (a0 : AV) (ha0 : a0 = .Dm 0 [] true) (a1 : Int) (ha1 : a1 = 0) (a2 : AV) (ha2 : a2 = .sl 0 0 Ab.E.size xs.length xs.length false) (m : Mem) (hm : m = [(0, some ⟨Ay Ab.E xs, 37⟩)]) : cO a0 a1 a2 m (Jn Ab.E 37 xs) := by
  rw [← tP]
  exact L7 (by kernel_rfl) (by kernel_rfl) rfl rfl hx r1 r2 _ (fun _ _ h => h) m hm a0 ha0 a1 ha1 a2 ha2 _
theorem e8 {n id wid : Nat} {look : Nat → Option Bi} {l0 l xs0 xs y : List Ab} {i : Int} (hl : l0.length = l.length) (hb : look id = Cs Ab.E 37 l) (hl2 : xs0.length = xs.length) (hb2 : look wid = some ⟨Ay Ab.E xs, 37⟩) (hid : id ≠ wid) (h : Rq 32 l i xs = some y) : D2 pg KK.gl look n 54 [B5 Ab.E id l0, Aa i, Eu Ab.E wid xs0] (B5 Ab.E n y) [(n, Cs Ab.E 37 y), (wid, none), (id, none)] :=
  oD (fun _ => rfl) hl hb hl2 hb2 hid h (fun C k hC hCm hne hx hk r1 r2 => aE _ _ _ _ _ (zK hC hCm hne hx hk r1 r2 _ rfl _ rfl _ rfl _ rfl)) (fun hx r1 r2 => aT _ _ _ _ _ (zM hx r1 r2 _ rfl _ rfl _ rfl _ rfl))
noncomputable def Afu (a1 : Int) (a2 : AV) (m : Mem) (R : AV → Mem → Prop) (z2 z4 : Int) (v17 : AV) : Prop :=
Bg (B9 pg (.slice 80 (.tmp 0) (some (.tmp 1)) none none) 80 [v17, (AV.sc (.int .i64 z4))] (Al m) 102) fun v28 =>
Fy (B9 pg (.call ⟨.builtin .copy, #[.tmp 0, .tmp 1], #[80, 79]⟩) 3 [v28, a2] (Al m) 104) m fun v29 m29 =>
Af v29 fun z30 =>
Bg (B9 pg (.slice 80 (.tmp 0) (some (.tmp 1)) none none) 80 [v17, (AV.sc (.int .i64 a1))] (Al m29) 107) fun v31 =>
Ed pg KK.gl m29 109 260 [v31, (AV.sc (.int .i64 z2))] fun v32 m32 =>
Ry v32 <|
A4 R m32 [some v17]
noncomputable def Acw (a0 : AV) (a1 : Int) (a2 : AV) (m : Mem) (R : AV → Mem → Prop) (z2 z4 : Int) : Prop :=
Bg (B9 pg (.call ⟨.builtin .cap, #[.tmp 0], #[80]⟩) 3 [a0] (Al m) 20) fun v6 =>
Af v6 fun z7 =>
bif (decide ((IntKind.wrap .i64 (z4 + z2)) > z7)) then (
Bg (B9 pg (.slice 80 (.tmp 0) none (some (.tmp 1)) none) 80 [a0, (AV.sc (.int .i64 a1))] (Al m) 24) fun v8 =>
Fy (B9 pg (.call ⟨.builtin .append, #[.tmp 0, .tmp 1], #[80, 3]⟩) 80 [v8, (AV.sc (.int .i64 (IntKind.wrap .i64 ((IntKind.wrap .i64 (z4 + z2)) - a1))))] (Al m) 30) m fun v9 m9 =>
Bg (B9 pg (.slice 80 (.tmp 0) (some (.tmp 1)) none none) 80 [v9, (AV.sc (.int .i64 a1))] (Al m9) 34) fun v10 =>
Fy (B9 pg (.call ⟨.builtin .copy, #[.tmp 0, .tmp 1], #[80, 79]⟩) 3 [v10, a2] (Al m9) 36) m9 fun v11 m11 =>
Af v11 fun z12 =>
E8 (B9 pg (.slice 80 (.tmp 0) (some (.tmp 1)) none none) 80 [v9, (AV.sc (.int .i64 (IntKind.wrap .i64 (a1 + z2))))] (B3 m11 (Ax v9 ++ (Ax (AV.sc (.int .i64 (IntKind.wrap .i64 (a1 + z2)))) ++ ([])))) 41) fun v13 d13 =>
E8 (B9 pg (.slice 80 (.tmp 0) (some (.tmp 1)) none none) 80 [a0, (AV.sc (.int .i64 a1))] (B3 (Ae m11 d13) (Ax a0 ++ (Ax (AV.sc (.int .i64 a1)) ++ ([])))) 44) fun v14 d14 =>
E8 (B9 pg (.call ⟨.builtin .copy, #[.tmp 0, .tmp 1], #[80, 80]⟩) 3 [v13, v14] (B3 (Ae (Ae m11 d13) d14) (Ax v13 ++ (Ax v14 ++ ([])))) 45) fun v15 d15 =>
Af v15 fun z16 =>
Mo (D1 [0, 0, 0, 6, 15, 0, 0, 96, 255] [⟨[], []⟩, ⟨[], []⟩, ⟨[], []⟩, ⟨[], []⟩, ⟨d13, (Ax v9 ++ (Ax (AV.sc (.int .i64 (IntKind.wrap .i64 (a1 + z2)))) ++ ([])))⟩, ⟨[], []⟩, ⟨[], []⟩, ⟨d14, (Ax a0 ++ (Ax (AV.sc (.int .i64 a1)) ++ ([])))⟩, ⟨d15, (Ax v13 ++ (Ax v14 ++ ([])))⟩]) (A4 R (Ae (Ae (Ae m11 d13) d14) d15) [some v9])) else (
Bg (B9 pg (.slice 80 (.tmp 0) none (some (.tmp 1)) none) 80 [a0, (AV.sc (.int .i64 (IntKind.wrap .i64 (z4 + z2))))] (Al m) 26) fun v17 =>
Bg (B9 pg (.slice 80 (.tmp 0) (some (.tmp 1)) none none) 80 [v17, (AV.sc (.int .i64 (IntKind.wrap .i64 (a1 + z2))))] (Al m) 33) fun v18 =>
Bv pg KK.gl m 259 [a2, v18] fun v19 =>
G2 v19 fun b20 =>
bif (!b20) then (
E8 (B9 pg (.slice 80 (.tmp 0) (some (.tmp 1)) none none) 80 [v17, (AV.sc (.int .i64 (IntKind.wrap .i64 (a1 + z2))))] (B3 m (Ax v17 ++ (Ax (AV.sc (.int .i64 (IntKind.wrap .i64 (a1 + z2)))) ++ ([])))) 103) fun v21 d21 =>
E8 (B9 pg (.slice 80 (.tmp 0) (some (.tmp 1)) none none) 80 [v17, (AV.sc (.int .i64 a1))] (B3 (Ae m d21) (Ax v17 ++ (Ax (AV.sc (.int .i64 a1)) ++ ([])))) 106) fun v22 d22 =>
E8 (B9 pg (.call ⟨.builtin .copy, #[.tmp 0, .tmp 1], #[80, 80]⟩) 3 [v21, v22] (B3 (Ae (Ae m d21) d22) (Ax v21 ++ (Ax v22 ++ ([])))) 107) fun v23 d23 =>
Af v23 fun z24 =>
Mo (D1 [0, 0, 0, 6, 15, 0, 0, 96, 255] [⟨[], []⟩, ⟨[], []⟩, ⟨[], []⟩, ⟨[], []⟩, ⟨d21, (Ax v17 ++ (Ax (AV.sc (.int .i64 (IntKind.wrap .i64 (a1 + z2)))) ++ ([])))⟩, ⟨[], []⟩, ⟨[], []⟩, ⟨d22, (Ax v17 ++ (Ax (AV.sc (.int .i64 a1)) ++ ([])))⟩, ⟨d23, (Ax v21 ++ (Ax v22 ++ ([])))⟩]) (Bg (B9 pg (.slice 80 (.tmp 0) (some (.tmp 1)) none none) 80 [v17, (AV.sc (.int .i64 a1))] (Al (Ae (Ae (Ae m d21) d22) d23)) 110) fun v25 =>
Fy (B9 pg (.call ⟨.builtin .copy, #[.tmp 0, .tmp 1], #[80, 79]⟩) 3 [v25, a2] (Al (Ae (Ae (Ae m d21) d22) d23)) 112) (Ae (Ae (Ae m d21) d22) d23) fun v26 m26 =>
Af v26 fun z27 =>
A4 R m26 [some v17])) else (
Bg (B9 pg (.slice 80 (.tmp 0) (some (.tmp 1)) none none) 80 [v17, (AV.sc (.int .i64 z4))] (Al m) 101) fun v28 =>
Fy (B9 pg (.call ⟨.builtin .copy, #[.tmp 0, .tmp 1], #[80, 79]⟩) 3 [v28, a2] (Al m) 103) m fun v29 m29 =>
Af v29 fun z30 =>
Bg (B9 pg (.slice 80 (.tmp 0) (some (.tmp 1)) none none) 80 [v17, (AV.sc (.int .i64 a1))] (Al m29) 106) fun v31 =>
Ed pg KK.gl m29 108 260 [v31, (AV.sc (.int .i64 z2))] fun v32 m32 =>
Ry v32 <|
A4 R m32 [some v17]))
theorem wN (a0 : AV) (a1 : Int) (a2 : AV) (m : Mem) (R : AV → Mem → Prop) : Wu pg KK.gl 80 3 134 6 48 259 [(AV.sc (.int .i64 (0))), (AV.sc (.int .i64 (0))), (AV.sc (.int .i64 (0))), (AV.sc (.int .i64 (0))), (AV.sc (.int .i64 (0))), (AV.sc (.int .i64 (0)))] (Afu a1 a2 m R) a0 a1 a2 m R = Wb a0 a1 a2 m R := by kernel_rfl
theorem nU (a0 : AV) (a1 : Int) (a2 : AV) (m : Mem) (R : AV → Mem → Prop) : P3 pg 80 134 6 48 [(AV.sc (.int .i64 (0))), (AV.sc (.int .i64 (0))), (AV.sc (.int .i64 (0))), (AV.sc (.int .i64 (0))), (AV.sc (.int .i64 (0))), (AV.sc (.int .i64 (0)))] (Acw a0 a1 a2 m R) a0 a1 a2 m R = Uq a0 a1 a2 m R := by kernel_rfl
theorem sK : Yx pg 259 79 4 := ⟨⟨Tryz.f259, Tryz.func259, by kernel_rfl, by kernel_rfl, by kernel_rfl, by kernel_rfl⟩, ⟨134, _, by kernel_rfl, C7 (n := (C8 pg 134).getD 0) (by kernel_rfl)⟩⟩
theorem uZ {l xs : List Ag} {C k : Nat} (hC : l.length ≤ C) (hCm : C ≤ maxLen) (hne : l ≠ []) (hx : xs ≠ []) (hk : k ≤ l.length) (r1 : (l.length + xs.length) * 48 ≤ 140737488355328) (r2 : l.length + xs.length ≤ 4611686018427387904) (a0 : AV) (ha0 : a0 = .sl 0 0 Ag.E.size l.length C true) (a1 : Int) (ha1 : a1 = (k : Int)) (a2 : AV) (ha2 : a2 = .sl 1 0 Ag.E.size xs.length xs.length false) (m : Mem) (hm : m = [(0, some ⟨Ay Ag.E l ++ List.replicate ((C - l.length) * Ag.E.size) .D7, 134⟩), (1, some ⟨Ay Ag.E xs, 134⟩)]) : Wb a0 a1 a2 m (Jn Ag.E 134 (l.take k ++ xs ++ l.drop k)) := by
  rw [← wN]
  exact Ss (P := pg) (gl := KK.gl) (E := Ag.E) (t := 80) (e := 134) (sz := 6) (by_ := 48) (fo := 259) (ty2 := 134) (i := k) (zs := [(AV.sc (.int .i64 (0))), (AV.sc (.int .i64 (0))), (AV.sc (.int .i64 (0))), (AV.sc (.int .i64 (0))), (AV.sc (.int .i64 (0))), (AV.sc (.int .i64 (0)))]) (l := l) (xs := xs) (C := C) (f := 0) (nt := 0) (kk := .i64) (by kernel_rfl) (by kernel_rfl) (by kernel_rfl) (by kernel_rfl) rfl rfl (by kernel_rfl) sK hC hCm hne hx hk r1 r2 (Jn Ag.E 134 (l.take k ++ xs ++ l.drop k)) (fun _ _ h => h) m hm a0 ha0 a1 ha1 a2 ha2 _
theorem tX {xs : List Ag} (hx : xs ≠ []) (r1 : (0 + xs.length) * 48 ≤ 140737488355328) (r2 : 0 + xs.length ≤ 4611686018427387904) (a0 : AV) (ha0 : a0 = .Dm 0 [] true) (a1 : Int) (ha1 : a1 = 0) (a2 : AV) (ha2 : a2 = .sl 0 0 Ag.E.size xs.length xs.length false) (m : Mem) (hm : m = [(0, some ⟨Ay Ag.E xs, 134⟩)]) : Uq a0 a1 a2 m (Jn Ag.E 134 xs) := by
  rw [← nU]
  exact L7 (by kernel_rfl) (by kernel_rfl) rfl rfl hx r1 r2 _ (fun _ _ h => h) m hm a0 ha0 a1 ha1 a2 ha2 _
theorem Aa6 {n id wid : Nat} {look : Nat → Option Bi} {l0 l xs0 xs y : List Ag} {i : Int} (hl : l0.length = l.length) (hb : look id = Cs Ag.E 134 l) (hl2 : xs0.length = xs.length) (hb2 : look wid = some ⟨Ay Ag.E xs, 134⟩) (hid : id ≠ wid) (h : Rq 48 l i xs = some y) : D2 pg KK.gl look n 197 [B5 Ag.E id l0, Aa i, Eu Ag.E wid xs0] (B5 Ag.E n y) [(n, Cs Ag.E 134 y), (wid, none), (id, none)] :=
  oD (fun _ => rfl) hl hb hl2 hb2 hid h (fun C k hC hCm hne hx hk r1 r2 => Ze _ _ _ _ _ (uZ hC hCm hne hx hk r1 r2 _ rfl _ rfl _ rfl _ rfl)) (fun hx r1 r2 => W2 _ _ _ _ _ (tX hx r1 r2 _ rfl _ rfl _ rfl _ rfl))
theorem oZ (n : Nat) (a0 : List Ad) (a1 : List Int) (c7 : Bool) (Ho : Int) (k0_0 : Int) (k0_1 : Int) (k0_2 : Int) (k0_3 : Int) (k0_4 : Int) (k0_5 : Int) (k0_6 : Int) (k0_7 : Int) (k0_8 : Int) (k0_9 : Int) (k0_10 : Int) (k0_11 : Int) (k0_12 : Int) (k0_13 : Int) (k0_14 : Int) (k0_15 : Int) (v14 : Int) (L90000 : List Int) {t : (Int × List Int) ⊕ Lq} (R : AV → Mem → Prop) (N0 : St → Prop) (hR : ∀ r : Lq, t = (.inr r) → ∀ u m, Cu ((AV.tup [(Am A2 r.1), (Ac r.2)])) u m → R u m) (hN0 : ∀ y : Int × List Int, t = (.inl y) → ∀ s' : St, Bo KK 64 0 s' (Pt (Am Ad.E a0) (Am A2 a1) AV.Cc c7 (B5 A2 90000 y.2) (Am A2 a1) Ho y.1 k0_0 k0_1 k0_2 k0_3 k0_4 k0_5 k0_6 k0_7 k0_8 k0_9 k0_10 k0_11 k0_12 k0_13 k0_14 k0_15 [(90000, Cs A2 3 y.2)]) → N0 s') : H7 n a0 a1 c7 Ho k0_0 k0_1 k0_2 k0_3 k0_4 k0_5 k0_6 k0_7 k0_8 k0_9 k0_10 k0_11 k0_12 k0_13 k0_14 k0_15 v14 L90000 = some t → S0 (Am Ad.E a0) (Am A2 a1) AV.Cc c7 (B5 A2 90000 L90000) (Am A2 a1) Ho v14 k0_0 k0_1 k0_2 k0_3 k0_4 k0_5 k0_6 k0_7 k0_8 k0_9 k0_10 k0_11 k0_12 k0_13 k0_14 k0_15 [(90000, Cs A2 3 L90000)] R N0 := by
  unfold H7 S0
  refine An (fun _ => ?_) (fun _ => ?_)
  · refine Aq fun x0 h0 => ?_
    refine iq (AV.B8 [(Aa x0)] 0) (Bk (E := A2) rfl h0) ?_
    refine iq (Aa x0) rfl ?_
    refine imp Ai ?_
    refine Aq fun x1 h1 => ?_
    refine iq (AV.B8 [(C6 x1.Call), (Aa x1.Bc), (Aa x1.Time), (Aa x1.Bs)] 0) (Bk (E := Ad.E) rfl h1) ?_
    refine iq (AV.B8 [(C6 x1.Call), (Aa x1.Bc), (Aa x1.Time), (Aa x1.Bs)] 2) rfl ?_
    refine iq (Aa x1.Time) rfl ?_
    refine imp Ai ?_
    refine An (fun _ => ?_) (fun _ => ?_)
    · refine Aq fun x2 h2 => ?_
      refine iq (AV.ptr 90000 ((((IntKind.wrap .i64 (v14 - (1))) : Int).toNat) * 1 + 0)) (Lm (E := A2) rfl h2) ?_
      refine iq (Aa x2) (Nv (E := A2) (l := L90000) (ty := 3) (o := 0) (I5 (ty := 3) (by first | rfl | (simp (disch := first | decide | assumption) only [lk])) (B7 h2).2) (B7 h2).2 rfl (by decide) rfl) ?_
      refine imp Ai ?_
      refine Aq fun x3 h3 => ?_
      refine iq (AV.B8 [(Aa x3)] 0) (Bk (E := A2) rfl h3) ?_
      refine iq (Aa x3) rfl ?_
      refine imp Ai ?_
      refine Aq fun x4 h4 => ?_
      refine iq (AV.B8 [(C6 x4.Call), (Aa x4.Bc), (Aa x4.Time), (Aa x4.Bs)] 0) (Bk (E := Ad.E) rfl h4) ?_
      refine iq (AV.B8 [(C6 x4.Call), (Aa x4.Bc), (Aa x4.Time), (Aa x4.Bs)] 1) rfl ?_
      refine iq (Aa x4.Bc) rfl ?_
      refine imp Ai ?_
      refine Aq fun x5 h5 => ?_
      refine iq (AV.B8 [(C6 x5.Call), (Aa x5.Bc), (Aa x5.Time), (Aa x5.Bs)] 0) (Bk (E := Ad.E) rfl h5) ?_
      refine iq (AV.B8 [(C6 x5.Call), (Aa x5.Bc), (Aa x5.Time), (Aa x5.Bs)] 1) rfl ?_
      refine iq (Aa x5.Bc) rfl ?_
      refine imp Ai ?_
      refine Aq fun x6 h6 => ?_
      refine iq (AV.ptr 0 (((x4.Bc : Int).toNat) * 4 + 0)) (I8 (l := ([(⟨k0_0, k0_1, k0_2, k0_3⟩ : Dw), (⟨k0_4, k0_5, k0_6, k0_7⟩ : Dw), (⟨k0_8, k0_9, k0_10, k0_11⟩ : Dw), (⟨k0_12, k0_13, k0_14, k0_15⟩ : Dw)] : List Dw)) (len := 4) rfl h6) ?_
      refine Aq fun x7 h7 => ?_
      refine iq (AV.ptr 0 _) (Jm (l := ([x6.c0, x6.c1, x6.c2, x6.c3] : List Int)) (len := 4) rfl h7) ?_
      refine iq (Aa x7) (Lg (E := Dw.E) (E2 := A2) (l := ([(⟨k0_0, k0_1, k0_2, k0_3⟩ : Dw), (⟨k0_4, k0_5, k0_6, k0_7⟩ : Dw), (⟨k0_8, k0_9, k0_10, k0_11⟩ : Dw), (⟨k0_12, k0_13, k0_14, k0_15⟩ : Dw)] : List Dw)) (l2 := ([x6.c0, x6.c1, x6.c2, x6.c3] : List Int)) (ty := 25) (by first | rfl | (simp (disch := first | decide | assumption) only [lk])) (B7 h6).2 rfl rfl (B7 h7).2 rfl) ?_
      refine imp Ai ?_
      refine iq (Aa (if (IntKind.wrap .i64 (x2 + x7)) > x1.Time then (IntKind.wrap .i64 (x2 + x7)) else x1.Time)) (by kernel_rfl) ?_
      refine imp Ai ?_
      refine Aq fun x8 h8 => ?_
      refine iq (AV.B8 [(C6 x8.Call), (Aa x8.Bc), (Aa x8.Time), (Aa x8.Bs)] 0) (Bk (E := Ad.E) rfl h8) ?_
      refine iq (AV.B8 [(C6 x8.Call), (Aa x8.Bc), (Aa x8.Time), (Aa x8.Bs)] 3) rfl ?_
      refine iq (Aa x8.Bs) rfl ?_
      refine imp Ai ?_
      refine An (fun _ => ?_) (fun _ => ?_)
      · exact fun hg => D4 rfl (hR _ (Option.some.inj hg).symm) (Dp (Qe (E := A2) _) (fS Bu))
      · refine imp (Dl (show _ = some ((Eu A2 100049 ([(if (IntKind.wrap .i64 (x2 + x7)) > x1.Time then (IntKind.wrap .i64 (x2 + x7)) else x1.Time)] : List Int)), [(100049, some ⟨Ay A2 ([(if (IntKind.wrap .i64 (x2 + x7)) > x1.Time then (IntKind.wrap .i64 (x2 + x7)) else x1.Time)] : List Int), 3⟩)]) from rfl)) ?_
        refine Aq fun x10 h10 => ?_
        refine imp (Dl (show _ = some ((B5 A2 100050 (L90000 ++ ([(if (IntKind.wrap .i64 (x2 + x7)) > x1.Time then (IntKind.wrap .i64 (x2 + x7)) else x1.Time)] : List Int))), (Ip A2 100050 90000 3 L90000 ([(if (IntKind.wrap .i64 (x2 + x7)) > x1.Time then (IntKind.wrap .i64 (x2 + x7)) else x1.Time)] : List Int))) from (Ib (E := A2) (l' := L90000) (xs := ([(if (IntKind.wrap .i64 (x2 + x7)) > x1.Time then (IntKind.wrap .i64 (x2 + x7)) else x1.Time)] : List Int)) rfl rfl (Ez (E := A2) (ty := 3) rfl rfl (by first | rfl | (simp (disch := first | decide | assumption) only [lk]))) (by first | assumption | simp) rfl (fun hne => Eq.trans (by first | rfl | (simp (disch := first | decide | assumption) only [lk])) (C1 hne)) h10))) ?_
        exact fun hg => hN0 _ (Option.some.inj hg).symm _ (Az [(90000, 100050), (0, 0)] rfl rfl rfl (Aj (Au (E := Ad.E) _ false) (Aj (Au (E := A2) _ false) (oR (oR (oR (Aj (Dz (E := A2) (id := 100050) (l' := (L90000 ++ ([(if (IntKind.wrap .i64 (x2 + x7)) > x1.Time then (IntKind.wrap .i64 (x2 + x7)) else x1.Time)] : List Int))) rfl rfl) (Aj (Au (E := A2) _ false) (oR (oR A6))))))))) (A3 (Be (cs := [(Aa k0_0), (Aa k0_1), (Aa k0_2), (Aa k0_3), (Aa k0_4), (Aa k0_5), (Aa k0_6), (Aa k0_7), (Aa k0_8), (Aa k0_9), (Aa k0_10), (Aa k0_11), (Aa k0_12), (Aa k0_13), (Aa k0_14), (Aa k0_15)]) (ty := 25) rfl (show Al _ 0 = _ from (by first | rfl | (simp (disch := first | decide | assumption) only [lk])))) (A3 (Dy (E := A2) (ty := 3) (l' := (L90000 ++ ([(if (IntKind.wrap .i64 (x2 + x7)) > x1.Time then (IntKind.wrap .i64 (x2 + x7)) else x1.Time)] : List Int))) rfl (show Al _ 100050 = _ from (by first | rfl | (simp (disch := first | decide | assumption) only [lk])))) A0)))
    · refine Aq fun x11 h11 => ?_
      refine iq (AV.B8 [(C6 x11.Call), (Aa x11.Bc), (Aa x11.Time), (Aa x11.Bs)] 0) (Bk (E := Ad.E) rfl h11) ?_
      refine iq (AV.B8 [(C6 x11.Call), (Aa x11.Bc), (Aa x11.Time), (Aa x11.Bs)] 3) rfl ?_
      refine iq (Aa x11.Bs) rfl ?_
      refine imp Ai ?_
      refine An (fun _ => ?_) (fun _ => ?_)
      · exact fun hg => D4 rfl (hR _ (Option.some.inj hg).symm) (Dp (Qe (E := A2) _) (fS Bu))
      · refine imp (Dl (show _ = some ((Eu A2 100023 ([x1.Time] : List Int)), [(100023, some ⟨Ay A2 ([x1.Time] : List Int), 3⟩)]) from rfl)) ?_
        refine Aq fun x13 h13 => ?_
        refine imp (Dl (show _ = some ((B5 A2 100024 (L90000 ++ ([x1.Time] : List Int))), (Ip A2 100024 90000 3 L90000 ([x1.Time] : List Int))) from (Ib (E := A2) (l' := L90000) (xs := ([x1.Time] : List Int)) rfl rfl (Ez (E := A2) (ty := 3) rfl rfl (by first | rfl | (simp (disch := first | decide | assumption) only [lk]))) (by first | assumption | simp) rfl (fun hne => Eq.trans (by first | rfl | (simp (disch := first | decide | assumption) only [lk])) (C1 hne)) h13))) ?_
        exact fun hg => hN0 _ (Option.some.inj hg).symm _ (Az [(90000, 100024), (0, 0)] rfl rfl rfl (Aj (Au (E := Ad.E) _ false) (Aj (Au (E := A2) _ false) (oR (oR (oR (Aj (Dz (E := A2) (id := 100024) (l' := (L90000 ++ ([x1.Time] : List Int))) rfl rfl) (Aj (Au (E := A2) _ false) (oR (oR A6))))))))) (A3 (Be (cs := [(Aa k0_0), (Aa k0_1), (Aa k0_2), (Aa k0_3), (Aa k0_4), (Aa k0_5), (Aa k0_6), (Aa k0_7), (Aa k0_8), (Aa k0_9), (Aa k0_10), (Aa k0_11), (Aa k0_12), (Aa k0_13), (Aa k0_14), (Aa k0_15)]) (ty := 25) rfl (show Al _ 0 = _ from (by first | rfl | (simp (disch := first | decide | assumption) only [lk])))) (A3 (Dy (E := A2) (ty := 3) (l' := (L90000 ++ ([x1.Time] : List Int))) rfl (show Al _ 100024 = _ from (by first | rfl | (simp (disch := first | decide | assumption) only [lk])))) A0)))
  · exact fun hg => D4 rfl (hR _ (Option.some.inj hg).symm) (Dp (bE (E := A2) (ty := 3) (l' := L90000) _ rfl (by first | rfl | (simp (disch := first | decide | assumption) only [lk]))) (fS Bu))
theorem oS (n : Nat) (a0 : List Ad) (a1 : List Int) (c7 : Bool) (Ho : Int) (k0_0 : Int) (k0_1 : Int) (k0_2 : Int) (k0_3 : Int) (k0_4 : Int) (k0_5 : Int) (k0_6 : Int) (k0_7 : Int) (k0_8 : Int) (k0_9 : Int) (k0_10 : Int) (k0_11 : Int) (k0_12 : Int) (k0_13 : Int) (k0_14 : Int) (k0_15 : Int) {t : Lq} (R : AV → Mem → Prop) (hR : ∀ r : Lq, t = r → ∀ u m, Cu ((AV.tup [(Am A2 r.1), (Ac r.2)])) u m → R u m) (k : Nat) (x : Int × List Int) (hx : Ba (fun y : Int × List Int => H7 n a0 a1 c7 Ho k0_0 k0_1 k0_2 k0_3 k0_4 k0_5 k0_6 k0_7 k0_8 k0_9 k0_10 k0_11 k0_12 k0_13 k0_14 k0_15 y.1 y.2) k x = some t) {s : St} (hw : Bo KK 64 0 s (Pt (Am Ad.E a0) (Am A2 a1) AV.Cc c7 (B5 A2 90000 x.2) (Am A2 a1) Ho x.1 k0_0 k0_1 k0_2 k0_3 k0_4 k0_5 k0_6 k0_7 k0_8 k0_9 k0_10 k0_11 k0_12 k0_13 k0_14 k0_15 [(90000, Cs A2 3 x.2)])) : Ca pg KK 64 0 (.loop Xh) s (Yq R ) :=
  xH R  (σ := Nat × (Int × List Int)) (fun z => Ba (fun y : Int × List Int => H7 n a0 a1 c7 Ho k0_0 k0_1 k0_2 k0_3 k0_4 k0_5 k0_6 k0_7 k0_8 k0_9 k0_10 k0_11 k0_12 k0_13 k0_14 k0_15 y.1 y.2) z.1 z.2 = some t) (fun z => (Am Ad.E a0)) (fun z => (Am A2 a1)) (fun z => AV.Cc) (fun z => c7) (fun z => (B5 A2 90000 z.2.2)) (fun z => (Am A2 a1)) (fun z => Ho) (fun z => z.2.1) (fun z => k0_0) (fun z => k0_1) (fun z => k0_2) (fun z => k0_3) (fun z => k0_4) (fun z => k0_5) (fun z => k0_6) (fun z => k0_7) (fun z => k0_8) (fun z => k0_9) (fun z => k0_10) (fun z => k0_11) (fun z => k0_12) (fun z => k0_13) (fun z => k0_14) (fun z => k0_15) (fun z => [(90000, Cs A2 3 z.2.2)]) (fun z => z.1) (by
    rintro ⟨k, y⟩ h
    cases k with
    | zero => exact (Bp h).elim
    | succ k =>
      obtain ⟨u, h1, h2, h3⟩ := Bq h
      exact oZ n a0 a1 c7 Ho k0_0 k0_1 k0_2 k0_3 k0_4 k0_5 k0_6 k0_7 k0_8 k0_9 k0_10 k0_11 k0_12 k0_13 k0_14 k0_15 y.1 y.2 R  _ (fun r e => hR r (h3 _ e).symm)  (fun y' e s' hw => ⟨(k, y'), h2 _ e, Nat.lt_succ_self k, hw⟩) h1) (k, x) hx hw
theorem Aap (n : Nat) (a0 : List Ad) (a1 : List Int) (a2 : Ao) {t : Lq} (R : AV → Mem → Prop) (hR : ∀ r : Lq, t = r → ∀ u m, Cu ((AV.tup [(Am A2 r.1), (Ac r.2)])) u m → R u m) : qD n a0 a1 a2 = some t → F42 (Am Ad.E a0) (Am A2 a1) a2.Cf a2.Ce a2.Ci a2.Cn a2.Cd a2.Cl a2.Cr a2.Co a2.Cm a2.Ck a2.Ch a2.Cg a2.Cb a2.Cj a2.Cq a2.Cp R := by
  unfold qD F42
  refine iq (Aa (a1.length : Int)) rfl ?_
  refine imp Ai ?_
  exact fun hg => oS n a0 a1 false (a1.length : Int) a2.Cf a2.Ce a2.Ci a2.Cn a2.Cd a2.Cl a2.Cr a2.Co a2.Cm a2.Ck a2.Ch a2.Cg a2.Cb a2.Cj a2.Cq a2.Cp R  hR n _ hg (Az [(90000, 89500), (0, 0)] rfl rfl rfl (Aj (Au (E := Ad.E) _ false) (Aj (Au (E := A2) _ false) (oR (oR (oR (Aj F2 (Aj (Au (E := A2) _ false) (oR (oR A6))))))))) (A3 (Be (cs := [(Aa a2.Cf), (Aa a2.Ce), (Aa a2.Ci), (Aa a2.Cn), (Aa a2.Cd), (Aa a2.Cl), (Aa a2.Cr), (Aa a2.Co), (Aa a2.Cm), (Aa a2.Ck), (Aa a2.Ch), (Aa a2.Cg), (Aa a2.Cb), (Aa a2.Cj), (Aa a2.Cq), (Aa a2.Cp)]) (ty := 25) rfl (show Al _ 0 = _ from (by first | rfl | (simp (disch := first | decide | assumption) only [lk])))) (A3 M6 A0)))
theorem Afz {n : Nat} {a0 : List Ad} {a1 : List Int} {a2 : Ao} {t : Lq} (h : qD n a0 a1 a2 = some t) : C3 pg KK.gl 42 [(Am Ad.E a0), (Am A2 a1), (AV.agg [(Aa a2.Cf), (Aa a2.Ce), (Aa a2.Ci), (Aa a2.Cn), (Aa a2.Cd), (Aa a2.Cl), (Aa a2.Cr), (Aa a2.Co), (Aa a2.Cm), (Aa a2.Ck), (Aa a2.Ch), (Aa a2.Cg), (Aa a2.Cb), (Aa a2.Cj), (Aa a2.Cq), (Aa a2.Cp)])] ((AV.tup [(Am A2 t.1), (Ac t.2)])) :=
  A5 (by first | rfl | simp [As, clean, Ak, En.Di]) (by first | rfl | simp [As, clean, Ak, En.Di]) (eG (Am Ad.E a0) (Am A2 a1) a2.Cf a2.Ce a2.Ci a2.Cn a2.Cd a2.Cl a2.Cr a2.Co a2.Cm a2.Ck a2.Ch a2.Cg a2.Cb a2.Cj a2.Cq a2.Cp _ (Aap n a0 a1 a2 (Cu ((AV.tup [(Am A2 t.1), (Ac t.2)]))) (fun r e u m h => by rw [e]; exact h) h))
theorem iI (n : Nat) (a0 : List Ad) (a1 : List Int) (c7 : Bool) (Ho : Int) (k0_0 : Int) (k0_1 : Int) (k0_2 : Int) (k0_3 : Int) (k0_4 : Int) (k0_5 : Int) (k0_6 : Int) (k0_7 : Int) (k0_8 : Int) (k0_9 : Int) (k0_10 : Int) (k0_11 : Int) (k0_12 : Int) (k0_13 : Int) (k0_14 : Int) (k0_15 : Int) (v14 : Int) (L90000 : List Int) {t : (Int × List Int) ⊕ Lq} (R : AV → Mem → Prop) (N0 : St → Prop) (hR : ∀ r : Lq, t = (.inr r) → ∀ u m, Jt A2 3 r.1 [Value.bool r.2] u m → R u m) (hN0 : ∀ y : Int × List Int, t = (.inl y) → ∀ s' : St, Bo KK 64 0 s' (Pt (Am Ad.E a0) (Am A2 a1) AV.Cc c7 (B5 A2 90000 y.2) (Am A2 a1) Ho y.1 k0_0 k0_1 k0_2 k0_3 k0_4 k0_5 k0_6 k0_7 k0_8 k0_9 k0_10 k0_11 k0_12 k0_13 k0_14 k0_15 [(90000, Cs A2 3 y.2)]) → N0 s') : H7 n a0 a1 c7 Ho k0_0 k0_1 k0_2 k0_3 k0_4 k0_5 k0_6 k0_7 k0_8 k0_9 k0_10 k0_11 k0_12 k0_13 k0_14 k0_15 v14 L90000 = some t → S0 (Am Ad.E a0) (Am A2 a1) AV.Cc c7 (B5 A2 90000 L90000) (Am A2 a1) Ho v14 k0_0 k0_1 k0_2 k0_3 k0_4 k0_5 k0_6 k0_7 k0_8 k0_9 k0_10 k0_11 k0_12 k0_13 k0_14 k0_15 [(90000, Cs A2 3 L90000)] R N0 := by
  unfold H7 S0
  refine An (fun _ => ?_) (fun _ => ?_)
  · refine Aq fun x14 h14 => ?_
    refine iq (AV.B8 [(Aa x14)] 0) (Bk (E := A2) rfl h14) ?_
    refine iq (Aa x14) rfl ?_
    refine imp Ai ?_
    refine Aq fun x15 h15 => ?_
    refine iq (AV.B8 [(C6 x15.Call), (Aa x15.Bc), (Aa x15.Time), (Aa x15.Bs)] 0) (Bk (E := Ad.E) rfl h15) ?_
    refine iq (AV.B8 [(C6 x15.Call), (Aa x15.Bc), (Aa x15.Time), (Aa x15.Bs)] 2) rfl ?_
    refine iq (Aa x15.Time) rfl ?_
    refine imp Ai ?_
    refine An (fun _ => ?_) (fun _ => ?_)
    · refine Aq fun x16 h16 => ?_
      refine iq (AV.ptr 90000 ((((IntKind.wrap .i64 (v14 - (1))) : Int).toNat) * 1 + 0)) (Lm (E := A2) rfl h16) ?_
      refine iq (Aa x16) (Nv (E := A2) (l := L90000) (ty := 3) (o := 0) (I5 (ty := 3) (by first | rfl | (simp (disch := first | decide | assumption) only [lk])) (B7 h16).2) (B7 h16).2 rfl (by decide) rfl) ?_
      refine imp Ai ?_
      refine Aq fun x17 h17 => ?_
      refine iq (AV.B8 [(Aa x17)] 0) (Bk (E := A2) rfl h17) ?_
      refine iq (Aa x17) rfl ?_
      refine imp Ai ?_
      refine Aq fun x18 h18 => ?_
      refine iq (AV.B8 [(C6 x18.Call), (Aa x18.Bc), (Aa x18.Time), (Aa x18.Bs)] 0) (Bk (E := Ad.E) rfl h18) ?_
      refine iq (AV.B8 [(C6 x18.Call), (Aa x18.Bc), (Aa x18.Time), (Aa x18.Bs)] 1) rfl ?_
      refine iq (Aa x18.Bc) rfl ?_
      refine imp Ai ?_
      refine Aq fun x19 h19 => ?_
      refine iq (AV.B8 [(C6 x19.Call), (Aa x19.Bc), (Aa x19.Time), (Aa x19.Bs)] 0) (Bk (E := Ad.E) rfl h19) ?_
      refine iq (AV.B8 [(C6 x19.Call), (Aa x19.Bc), (Aa x19.Time), (Aa x19.Bs)] 1) rfl ?_
      refine iq (Aa x19.Bc) rfl ?_
      refine imp Ai ?_
      refine Aq fun x20 h20 => ?_
      refine iq (AV.ptr 0 (((x18.Bc : Int).toNat) * 4 + 0)) (I8 (l := ([(⟨k0_0, k0_1, k0_2, k0_3⟩ : Dw), (⟨k0_4, k0_5, k0_6, k0_7⟩ : Dw), (⟨k0_8, k0_9, k0_10, k0_11⟩ : Dw), (⟨k0_12, k0_13, k0_14, k0_15⟩ : Dw)] : List Dw)) (len := 4) rfl h20) ?_
      refine Aq fun x21 h21 => ?_
      refine iq (AV.ptr 0 _) (Jm (l := ([x20.c0, x20.c1, x20.c2, x20.c3] : List Int)) (len := 4) rfl h21) ?_
      refine iq (Aa x21) (Lg (E := Dw.E) (E2 := A2) (l := ([(⟨k0_0, k0_1, k0_2, k0_3⟩ : Dw), (⟨k0_4, k0_5, k0_6, k0_7⟩ : Dw), (⟨k0_8, k0_9, k0_10, k0_11⟩ : Dw), (⟨k0_12, k0_13, k0_14, k0_15⟩ : Dw)] : List Dw)) (l2 := ([x20.c0, x20.c1, x20.c2, x20.c3] : List Int)) (ty := 25) (by first | rfl | (simp (disch := first | decide | assumption) only [lk])) (B7 h20).2 rfl rfl (B7 h21).2 rfl) ?_
      refine imp Ai ?_
      refine iq (Aa (if (IntKind.wrap .i64 (x16 + x21)) > x15.Time then (IntKind.wrap .i64 (x16 + x21)) else x15.Time)) (by kernel_rfl) ?_
      refine imp Ai ?_
      refine Aq fun x22 h22 => ?_
      refine iq (AV.B8 [(C6 x22.Call), (Aa x22.Bc), (Aa x22.Time), (Aa x22.Bs)] 0) (Bk (E := Ad.E) rfl h22) ?_
      refine iq (AV.B8 [(C6 x22.Call), (Aa x22.Bc), (Aa x22.Time), (Aa x22.Bs)] 3) rfl ?_
      refine iq (Aa x22.Bs) rfl ?_
      refine imp Ai ?_
      refine An (fun _ => ?_) (fun _ => ?_)
      · exact fun hg => hR _ (Option.some.inj hg).symm _ _ ⟨_, rfl, Ep⟩
      · refine imp (Dl (show _ = some ((Eu A2 100049 ([(if (IntKind.wrap .i64 (x16 + x21)) > x15.Time then (IntKind.wrap .i64 (x16 + x21)) else x15.Time)] : List Int)), [(100049, some ⟨Ay A2 ([(if (IntKind.wrap .i64 (x16 + x21)) > x15.Time then (IntKind.wrap .i64 (x16 + x21)) else x15.Time)] : List Int), 3⟩)]) from rfl)) ?_
        refine Aq fun x24 h24 => ?_
        refine imp (Dl (show _ = some ((B5 A2 100050 (L90000 ++ ([(if (IntKind.wrap .i64 (x16 + x21)) > x15.Time then (IntKind.wrap .i64 (x16 + x21)) else x15.Time)] : List Int))), (Ip A2 100050 90000 3 L90000 ([(if (IntKind.wrap .i64 (x16 + x21)) > x15.Time then (IntKind.wrap .i64 (x16 + x21)) else x15.Time)] : List Int))) from (Ib (E := A2) (l' := L90000) (xs := ([(if (IntKind.wrap .i64 (x16 + x21)) > x15.Time then (IntKind.wrap .i64 (x16 + x21)) else x15.Time)] : List Int)) rfl rfl (Ez (E := A2) (ty := 3) rfl rfl (by first | rfl | (simp (disch := first | decide | assumption) only [lk]))) (by first | assumption | simp) rfl (fun hne => Eq.trans (by first | rfl | (simp (disch := first | decide | assumption) only [lk])) (C1 hne)) h24))) ?_
        exact fun hg => hN0 _ (Option.some.inj hg).symm _ (Az [(90000, 100050), (0, 0)] rfl rfl rfl (Aj (Au (E := Ad.E) _ false) (Aj (Au (E := A2) _ false) (oR (oR (oR (Aj (Dz (E := A2) (id := 100050) (l' := (L90000 ++ ([(if (IntKind.wrap .i64 (x16 + x21)) > x15.Time then (IntKind.wrap .i64 (x16 + x21)) else x15.Time)] : List Int))) rfl rfl) (Aj (Au (E := A2) _ false) (oR (oR A6))))))))) (A3 (Be (cs := [(Aa k0_0), (Aa k0_1), (Aa k0_2), (Aa k0_3), (Aa k0_4), (Aa k0_5), (Aa k0_6), (Aa k0_7), (Aa k0_8), (Aa k0_9), (Aa k0_10), (Aa k0_11), (Aa k0_12), (Aa k0_13), (Aa k0_14), (Aa k0_15)]) (ty := 25) rfl (show Al _ 0 = _ from (by first | rfl | (simp (disch := first | decide | assumption) only [lk])))) (A3 (Dy (E := A2) (ty := 3) (l' := (L90000 ++ ([(if (IntKind.wrap .i64 (x16 + x21)) > x15.Time then (IntKind.wrap .i64 (x16 + x21)) else x15.Time)] : List Int))) rfl (show Al _ 100050 = _ from (by first | rfl | (simp (disch := first | decide | assumption) only [lk])))) A0)))
    · refine Aq fun x25 h25 => ?_
      refine iq (AV.B8 [(C6 x25.Call), (Aa x25.Bc), (Aa x25.Time), (Aa x25.Bs)] 0) (Bk (E := Ad.E) rfl h25) ?_
      refine iq (AV.B8 [(C6 x25.Call), (Aa x25.Bc), (Aa x25.Time), (Aa x25.Bs)] 3) rfl ?_
      refine iq (Aa x25.Bs) rfl ?_
      refine imp Ai ?_
      refine An (fun _ => ?_) (fun _ => ?_)
      · exact fun hg => hR _ (Option.some.inj hg).symm _ _ ⟨_, rfl, Ep⟩
      · refine imp (Dl (show _ = some ((Eu A2 100023 ([x15.Time] : List Int)), [(100023, some ⟨Ay A2 ([x15.Time] : List Int), 3⟩)]) from rfl)) ?_
        refine Aq fun x27 h27 => ?_
        refine imp (Dl (show _ = some ((B5 A2 100024 (L90000 ++ ([x15.Time] : List Int))), (Ip A2 100024 90000 3 L90000 ([x15.Time] : List Int))) from (Ib (E := A2) (l' := L90000) (xs := ([x15.Time] : List Int)) rfl rfl (Ez (E := A2) (ty := 3) rfl rfl (by first | rfl | (simp (disch := first | decide | assumption) only [lk]))) (by first | assumption | simp) rfl (fun hne => Eq.trans (by first | rfl | (simp (disch := first | decide | assumption) only [lk])) (C1 hne)) h27))) ?_
        exact fun hg => hN0 _ (Option.some.inj hg).symm _ (Az [(90000, 100024), (0, 0)] rfl rfl rfl (Aj (Au (E := Ad.E) _ false) (Aj (Au (E := A2) _ false) (oR (oR (oR (Aj (Dz (E := A2) (id := 100024) (l' := (L90000 ++ ([x15.Time] : List Int))) rfl rfl) (Aj (Au (E := A2) _ false) (oR (oR A6))))))))) (A3 (Be (cs := [(Aa k0_0), (Aa k0_1), (Aa k0_2), (Aa k0_3), (Aa k0_4), (Aa k0_5), (Aa k0_6), (Aa k0_7), (Aa k0_8), (Aa k0_9), (Aa k0_10), (Aa k0_11), (Aa k0_12), (Aa k0_13), (Aa k0_14), (Aa k0_15)]) (ty := 25) rfl (show Al _ 0 = _ from (by first | rfl | (simp (disch := first | decide | assumption) only [lk])))) (A3 (Dy (E := A2) (ty := 3) (l' := (L90000 ++ ([x15.Time] : List Int))) rfl (show Al _ 100024 = _ from (by first | rfl | (simp (disch := first | decide | assumption) only [lk])))) A0)))
  · exact fun hg => hR _ (Option.some.inj hg).symm _ _ ⟨_, rfl, (Pn (E := A2) (ty := 3) (l := L90000) rfl (by first | rfl | (simp (disch := first | decide | assumption) only [lk])))⟩
theorem gX (n : Nat) (a0 : List Ad) (a1 : List Int) (c7 : Bool) (Ho : Int) (k0_0 : Int) (k0_1 : Int) (k0_2 : Int) (k0_3 : Int) (k0_4 : Int) (k0_5 : Int) (k0_6 : Int) (k0_7 : Int) (k0_8 : Int) (k0_9 : Int) (k0_10 : Int) (k0_11 : Int) (k0_12 : Int) (k0_13 : Int) (k0_14 : Int) (k0_15 : Int) {t : Lq} (R : AV → Mem → Prop) (hR : ∀ r : Lq, t = r → ∀ u m, Jt A2 3 r.1 [Value.bool r.2] u m → R u m) (k : Nat) (x : Int × List Int) (hx : Ba (fun y : Int × List Int => H7 n a0 a1 c7 Ho k0_0 k0_1 k0_2 k0_3 k0_4 k0_5 k0_6 k0_7 k0_8 k0_9 k0_10 k0_11 k0_12 k0_13 k0_14 k0_15 y.1 y.2) k x = some t) {s : St} (hw : Bo KK 64 0 s (Pt (Am Ad.E a0) (Am A2 a1) AV.Cc c7 (B5 A2 90000 x.2) (Am A2 a1) Ho x.1 k0_0 k0_1 k0_2 k0_3 k0_4 k0_5 k0_6 k0_7 k0_8 k0_9 k0_10 k0_11 k0_12 k0_13 k0_14 k0_15 [(90000, Cs A2 3 x.2)])) : Ca pg KK 64 0 (.loop Xh) s (Yq R ) :=
  xH R  (σ := Nat × (Int × List Int)) (fun z => Ba (fun y : Int × List Int => H7 n a0 a1 c7 Ho k0_0 k0_1 k0_2 k0_3 k0_4 k0_5 k0_6 k0_7 k0_8 k0_9 k0_10 k0_11 k0_12 k0_13 k0_14 k0_15 y.1 y.2) z.1 z.2 = some t) (fun z => (Am Ad.E a0)) (fun z => (Am A2 a1)) (fun z => AV.Cc) (fun z => c7) (fun z => (B5 A2 90000 z.2.2)) (fun z => (Am A2 a1)) (fun z => Ho) (fun z => z.2.1) (fun z => k0_0) (fun z => k0_1) (fun z => k0_2) (fun z => k0_3) (fun z => k0_4) (fun z => k0_5) (fun z => k0_6) (fun z => k0_7) (fun z => k0_8) (fun z => k0_9) (fun z => k0_10) (fun z => k0_11) (fun z => k0_12) (fun z => k0_13) (fun z => k0_14) (fun z => k0_15) (fun z => [(90000, Cs A2 3 z.2.2)]) (fun z => z.1) (by
    rintro ⟨k, y⟩ h
    cases k with
    | zero => exact (Bp h).elim
    | succ k =>
      obtain ⟨u, h1, h2, h3⟩ := Bq h
      exact iI n a0 a1 c7 Ho k0_0 k0_1 k0_2 k0_3 k0_4 k0_5 k0_6 k0_7 k0_8 k0_9 k0_10 k0_11 k0_12 k0_13 k0_14 k0_15 y.1 y.2 R  _ (fun r e => hR r (h3 _ e).symm)  (fun y' e s' hw => ⟨(k, y'), h2 _ e, Nat.lt_succ_self k, hw⟩) h1) (k, x) hx hw
theorem uR (n : Nat) (a0 : List Ad) (a1 : List Int) (a2 : Ao) {t : Lq} (R : AV → Mem → Prop) (hR : ∀ r : Lq, t = r → ∀ u m, Jt A2 3 r.1 [Value.bool r.2] u m → R u m) : qD n a0 a1 a2 = some t → F42 (Am Ad.E a0) (Am A2 a1) a2.Cf a2.Ce a2.Ci a2.Cn a2.Cd a2.Cl a2.Cr a2.Co a2.Cm a2.Ck a2.Ch a2.Cg a2.Cb a2.Cj a2.Cq a2.Cp R := by
  unfold qD F42
  refine iq (Aa (a1.length : Int)) rfl ?_
  refine imp Ai ?_
  exact fun hg => gX n a0 a1 false (a1.length : Int) a2.Cf a2.Ce a2.Ci a2.Cn a2.Cd a2.Cl a2.Cr a2.Co a2.Cm a2.Ck a2.Ch a2.Cg a2.Cb a2.Cj a2.Cq a2.Cp R  hR n _ hg (Az [(90000, 89500), (0, 0)] rfl rfl rfl (Aj (Au (E := Ad.E) _ false) (Aj (Au (E := A2) _ false) (oR (oR (oR (Aj F2 (Aj (Au (E := A2) _ false) (oR (oR A6))))))))) (A3 (Be (cs := [(Aa a2.Cf), (Aa a2.Ce), (Aa a2.Ci), (Aa a2.Cn), (Aa a2.Cd), (Aa a2.Cl), (Aa a2.Cr), (Aa a2.Co), (Aa a2.Cm), (Aa a2.Ck), (Aa a2.Ch), (Aa a2.Cg), (Aa a2.Cb), (Aa a2.Cj), (Aa a2.Cq), (Aa a2.Cp)]) (ty := 25) rfl (show Al _ 0 = _ from (by first | rfl | (simp (disch := first | decide | assumption) only [lk])))) (A3 M6 A0)))
theorem Ad2 {n k : Nat} {look : Nat → Option Bi} {a0 : List Ad} {a1 : List Int} {a2 : Ao} {t : Lq} (h : qD n a0 a1 a2 = some t) : D2 pg KK.gl look k 42 [(Am Ad.E a0), (Am A2 a1), (AV.agg [(Aa a2.Cf), (Aa a2.Ce), (Aa a2.Ci), (Aa a2.Cn), (Aa a2.Cd), (Aa a2.Cl), (Aa a2.Cr), (Aa a2.Co), (Aa a2.Cm), (Aa a2.Ck), (Aa a2.Ch), (Aa a2.Cg), (Aa a2.Cb), (Aa a2.Cj), (Aa a2.Cq), (Aa a2.Cp)])] (.tup (B5 A2 k t.1 :: ([Value.bool t.2] : List Value).map AV.sc)) [(k, Cs A2 3 t.1)] :=
  iS (by first | rfl | simp [As, clean, Ak, En.Di]) (eG (Am Ad.E a0) (Am A2 a1) a2.Cf a2.Ce a2.Ci a2.Cn a2.Cd a2.Cl a2.Cr a2.Co a2.Cm a2.Ck a2.Ch a2.Cg a2.Cb a2.Cj a2.Cq a2.Cp _ (uR n a0 a1 a2 (Jt A2 3 t.1 [Value.bool t.2]) (fun r e u m h => by rw [e]; exact h) h))
theorem qJ (n : Nat) (a0 : G7) {t : fK} (R : AV → Mem → Prop) (hR : ∀ r : fK, t = r → ∀ u m, Cu ((Aa r)) u m → R u m) : wG n a0 = some t → uA a0.Dg a0.C0 R := by
  unfold wG uA
  refine An (fun _ => ?_) (fun _ => ?_)
  · exact Df hR rfl rfl
  · refine An (fun _ => ?_) (fun _ => ?_)
    · exact Df hR rfl rfl
    · refine An (fun _ => ?_) (fun _ => ?_)
      · exact Df hR rfl rfl
      · refine An (fun _ => ?_) (fun _ => ?_)
        · exact Df hR rfl rfl
        · exact Df hR rfl rfl
theorem Ac9 {n : Nat} {a0 : G7} {t : fK} (h : wG n a0 = some t) : C3 pg KK.gl 161 [(AV.agg [(Aa a0.Dg), (Aa a0.C0)])] ((Aa t)) :=
  A5 (by first | rfl | simp [As, clean, Ak, En.Di]) (by first | rfl | simp [As, clean, Ak, En.Di]) (nV a0.Dg a0.C0 _ (qJ n a0 (Cu ((Aa t))) (fun r e u m h => by rw [e]; exact h) h))
theorem Aaa (n : Nat) (a0 : TP) {t : rH} (R : AV → Mem → Prop) (hR : ∀ r : rH, t = r → ∀ u m, Cu ((Aa r)) u m → R u m) : sF n a0 = some t → F83 a0.X a0.Y R := by
  unfold sF F83
  refine An (fun _ => ?_) (fun _ => ?_)
  · exact Df hR rfl rfl
  · refine An (fun _ => ?_) (fun _ => ?_)
    · exact Df hR rfl rfl
    · refine An (fun _ => ?_) (fun _ => ?_)
      · exact Df hR rfl rfl
      · refine An (fun _ => ?_) (fun _ => ?_)
        · exact Df hR rfl rfl
        · exact Df hR rfl rfl
theorem jO {n : Nat} {a0 : TP} {t : rH} (h : sF n a0 = some t) : C3 pg KK.gl 83 [(AV.agg [(Aa a0.X), (Aa a0.Y)])] ((Aa t)) :=
  A5 (by first | rfl | simp [As, clean, Ak, En.Di]) (by first | rfl | simp [As, clean, Ak, En.Di]) (wV a0.X a0.Y _ (Aaa n a0 (Cu ((Aa t))) (fun r e u m h => by rw [e]; exact h) h))
theorem kE (n : Nat) (a0 : List Ag) (c2 : Int) (c15 : Int) (v16 : Int) {t : (Int) ⊕ Wa} (R : AV → Mem → Prop) (N0 : St → Prop) (hR : ∀ r : Wa, t = (.inr r) → ∀ u m, Cu ((Aa r)) u m → R u m) (hN0 : ∀ y : Int, t = (.inl y) → ∀ s' : St, Bo KK 86 0 s' (Ti (Am Ag.E a0) c2 (Am Ag.E a0) c15 y []) → N0 s') : Y4 n a0 c2 c15 v16 = some t → dA (Am Ag.E a0) c2 (Am Ag.E a0) c15 v16 [] R N0 := by
  unfold Y4 dA
  refine An (fun _ => ?_) (fun _ => ?_)
  · refine Aq fun x28 h28 => ?_
    refine iq (AV.B8 [(Aa x28.Ar), (Aa x28.A8), (Aa x28.A7), (Aa x28.Ap), (Aa x28.Bn), (Aa x28.C5)] 0) (Bk (E := Ag.E) rfl h28) ?_
    refine iq (AV.agg [(Aa x28.Ar), (Aa x28.A8), (Aa x28.A7), (Aa x28.Ap), (Aa x28.Bn), (Aa x28.C5)]) rfl ?_
    refine imp Jq ?_
    iterate 6 refine imp Ai ?_
    refine An (fun _ => ?_) (fun _ => ?_)
    · exact Df hR rfl rfl
    · refine An (fun _ => ?_) (fun _ => ?_)
      · exact Df hR rfl rfl
      · refine An (fun _ => ?_) (fun _ => ?_)
        · refine Aq fun x29 h29 => ?_
          refine iq (AV.B8 [(Aa x29.Ar), (Aa x29.A8), (Aa x29.A7), (Aa x29.Ap), (Aa x29.Bn), (Aa x29.C5)] 0) (Bk (E := Ag.E) rfl h29) ?_
          refine iq (AV.B8 [(Aa x29.Ar), (Aa x29.A8), (Aa x29.A7), (Aa x29.Ap), (Aa x29.Bn), (Aa x29.C5)] 0) rfl ?_
          refine iq (AV.B8 [(Aa x29.Ar), (Aa x29.A8), (Aa x29.A7), (Aa x29.Ap), (Aa x29.Bn), (Aa x29.C5)] 0) rfl ?_
          refine iq (Aa x29.Ar) rfl ?_
          refine imp Ai ?_
          refine An (fun _ => ?_) (fun _ => ?_)
          · exact Df hR rfl rfl
          · refine Aq fun x30 h30 => ?_
            refine imp (A1 (jO h30)) ?_
            refine imp Ai ?_
            refine An (fun _ => ?_) (fun _ => ?_)
            · exact Df hR rfl rfl
            · refine An (fun _ => ?_) (fun _ => ?_)
              · exact Df hR rfl rfl
              · refine An (fun _ => ?_) (fun _ => ?_)
                · exact Df hR rfl rfl
                · refine An (fun _ => ?_) (fun _ => ?_)
                  · exact Df hR rfl rfl
                  · refine An (fun _ => ?_) (fun _ => ?_)
                    · exact Df hR rfl rfl
                    · refine An (fun _ => ?_) (fun _ => ?_)
                      · exact Df hR rfl rfl
                      · refine An (fun _ => ?_) (fun _ => ?_)
                        · exact Df hR rfl rfl
                        · exact fun hg => hN0 _ (Option.some.inj hg).symm _ (Az [] rfl rfl rfl (Aj (Au (E := Ag.E) _ false) (oR (Aj (Au (E := Ag.E) _ false) (oR (oR A6))))) A0)
        · refine Aq fun x31 h31 => ?_
          refine imp (A1 (jO h31)) ?_
          refine imp Ai ?_
          refine An (fun _ => ?_) (fun _ => ?_)
          · exact Df hR rfl rfl
          · refine An (fun _ => ?_) (fun _ => ?_)
            · exact Df hR rfl rfl
            · refine An (fun _ => ?_) (fun _ => ?_)
              · exact Df hR rfl rfl
              · refine An (fun _ => ?_) (fun _ => ?_)
                · exact Df hR rfl rfl
                · refine An (fun _ => ?_) (fun _ => ?_)
                  · exact Df hR rfl rfl
                  · refine An (fun _ => ?_) (fun _ => ?_)
                    · exact Df hR rfl rfl
                    · refine An (fun _ => ?_) (fun _ => ?_)
                      · exact Df hR rfl rfl
                      · exact fun hg => hN0 _ (Option.some.inj hg).symm _ (Az [] rfl rfl rfl (Aj (Au (E := Ag.E) _ false) (oR (Aj (Au (E := Ag.E) _ false) (oR (oR A6))))) A0)
  · exact Df hR rfl rfl
theorem nE (n : Nat) (a0 : List Ag) (c2 : Int) (c15 : Int) {t : Wa} (R : AV → Mem → Prop) (hR : ∀ r : Wa, t = r → ∀ u m, Cu ((Aa r)) u m → R u m) (k : Nat) (x : Int) (hx : Ba (fun y : Int => Y4 n a0 c2 c15 y) k x = some t) {s : St} (hw : Bo KK 86 0 s (Ti (Am Ag.E a0) c2 (Am Ag.E a0) c15 x [])) : Ca pg KK 86 0 (.loop cM) s (dL R ) :=
  Adx R  (σ := Nat × (Int)) (fun z => Ba (fun y : Int => Y4 n a0 c2 c15 y) z.1 z.2 = some t) (fun z => (Am Ag.E a0)) (fun z => c2) (fun z => (Am Ag.E a0)) (fun z => c15) (fun z => z.2) (fun z => []) (fun z => z.1) (by
    rintro ⟨k, y⟩ h
    cases k with
    | zero => exact (Bp h).elim
    | succ k =>
      obtain ⟨u, h1, h2, h3⟩ := Bq h
      exact kE n a0 c2 c15 y R  _ (fun r e => hR r (h3 _ e).symm)  (fun y' e s' hw => ⟨(k, y'), h2 _ e, Nat.lt_succ_self k, hw⟩) h1) (k, x) hx hw
theorem Aa5 (n : Nat) (a0 : List Ag) {t : Wa} (R : AV → Mem → Prop) (hR : ∀ r : Wa, t = r → ∀ u m, Cu ((Aa r)) u m → R u m) : g78 n a0 = some t → F78 (Am Ag.E a0) R := by
  unfold g78 F78
  refine iq (Aa (a0.length : Int)) rfl ?_
  refine imp Ai ?_
  refine An (fun _ => ?_) (fun _ => ?_)
  · exact Df hR rfl rfl
  · refine iq (Aa (a0.length : Int)) rfl ?_
    refine imp Ai ?_
    refine An (fun _ => ?_) (fun _ => ?_)
    · exact Df hR rfl rfl
    · refine iq (Aa (a0.length : Int)) rfl ?_
      refine imp Ai ?_
      exact fun hg => nE n a0 (0) (a0.length : Int) R  hR n _ hg (Az [] rfl rfl rfl (Aj (Au (E := Ag.E) _ false) (oR (Aj (Au (E := Ag.E) _ false) (oR (oR A6))))) A0)
theorem Adz {n : Nat} {a0 : List Ag} {t : Wa} (h : g78 n a0 = some t) : C3 pg KK.gl 78 [(Am Ag.E a0)] ((Aa t)) :=
  A5 (by first | rfl | simp [As, clean, Ak, En.Di]) (by first | rfl | simp [As, clean, Ak, En.Di]) (tY (Am Ag.E a0) _ (Aa5 n a0 (Cu ((Aa t))) (fun r e u m h => by rw [e]; exact h) h))
theorem fR (n : Nat) (c4 : Int) (a1 : List (List Ag)) (c15 : Int) (v16 : Int) {t : (Int) ⊕ M5} (R : AV → Mem → Prop) (N0 : St → Prop) (hR : ∀ r : M5, t = (.inr r) → ∀ u m, Cu ((Aa r)) u m → R u m) (hN0 : ∀ y : Int, t = (.inl y) → ∀ s' : St, Bo KK 26 0 s' (Oe c4 (Am (Ko Ag.E) a1) c15 y []) → N0 s') : Rj n c4 a1 c15 v16 = some t → Um c4 (Am (Ko Ag.E) a1) c15 v16 [] R N0 := by
  unfold Rj Um
  refine An (fun _ => ?_) (fun _ => ?_)
  · refine Aq fun x33 h33 => ?_
    refine iq (AV.B8 [(Am Ag.E x33)] 0) (Bk (E := (Ko Ag.E)) rfl h33) ?_
    refine iq (Am Ag.E x33) rfl ?_
    refine Aq fun x34 h34 => ?_
    refine imp (A1 (Adz h34)) ?_
    refine imp Ai ?_
    refine An (fun _ => ?_) (fun _ => ?_)
    · exact Df hR rfl rfl
    · exact fun hg => hN0 _ (Option.some.inj hg).symm _ (Az [] rfl rfl rfl (oR (Aj (Au (E := (Ko Ag.E)) _ false) (oR (oR A6)))) A0)
  · exact Df hR rfl rfl
theorem fQ (n : Nat) (c4 : Int) (a1 : List (List Ag)) (c15 : Int) {t : M5} (R : AV → Mem → Prop) (hR : ∀ r : M5, t = r → ∀ u m, Cu ((Aa r)) u m → R u m) (k : Nat) (x : Int) (hx : Ba (fun y : Int => Rj n c4 a1 c15 y) k x = some t) {s : St} (hw : Bo KK 26 0 s (Oe c4 (Am (Ko Ag.E) a1) c15 x [])) : Ca pg KK 26 0 (.loop V6) s (Ws R ) :=
  Aa2 R  (σ := Nat × (Int)) (fun z => Ba (fun y : Int => Rj n c4 a1 c15 y) z.1 z.2 = some t) (fun z => c4) (fun z => (Am (Ko Ag.E) a1)) (fun z => c15) (fun z => z.2) (fun z => []) (fun z => z.1) (by
    rintro ⟨k, y⟩ h
    cases k with
    | zero => exact (Bp h).elim
    | succ k =>
      obtain ⟨u, h1, h2, h3⟩ := Bq h
      exact fR n c4 a1 c15 y R  _ (fun r e => hR r (h3 _ e).symm)  (fun y' e s' hw => ⟨(k, y'), h2 _ e, Nat.lt_succ_self k, hw⟩) h1) (k, x) hx hw
theorem wQ (n : Nat) (a0 : G7) (a1 : List (List Ag)) {t : M5} (R : AV → Mem → Prop) (hR : ∀ r : M5, t = r → ∀ u m, Cu ((Aa r)) u m → R u m) : tZ n a0 a1 = some t → tT a0.Dg a0.C0 (Am (Ko Ag.E) a1) R := by
  unfold tZ tT
  refine Aq fun x32 h32 => ?_
  refine imp (A1 (Ac9 h32)) ?_
  refine imp Ai ?_
  refine An (fun _ => ?_) (fun _ => ?_)
  · exact Df hR rfl rfl
  · refine iq (Aa (a1.length : Int)) rfl ?_
    refine imp Ai ?_
    exact fun hg => fQ n (0) a1 (a1.length : Int) R  hR n _ hg (Az [] rfl rfl rfl (oR (Aj (Au (E := (Ko Ag.E)) _ false) (oR (oR A6)))) A0)
theorem Adq {n : Nat} {a0 : G7} {a1 : List (List Ag)} {t : M5} (h : tZ n a0 a1 = some t) : C3 pg KK.gl 148 [(AV.agg [(Aa a0.Dg), (Aa a0.C0)]), (Am (Ko Ag.E) a1)] ((Aa t)) :=
  A5 (by first | rfl | simp [As, clean, Ak, En.Di]) (by first | rfl | simp [As, clean, Ak, En.Di]) (nB a0.Dg a0.C0 (Am (Ko Ag.E) a1) _ (wQ n a0 a1 (Cu ((Aa t))) (fun r e u m h => by rw [e]; exact h) h))
theorem vB (n : Nat) (a0 : List Ag) (a1 : List Ag) {t : fD} (R : AV → Mem → Prop) (hR : ∀ r : fD, t = r → ∀ u m, Cu ((AV.tup [(Aa r.1), (Aa r.2)])) u m → R u m) : rE n a0 a1 = some t → rT (Am Ag.E a0) (Am Ag.E a1) R := by
  unfold rE rT
  refine Aq fun x36 h36 => ?_
  refine iq (AV.B8 [(Aa x36.Ar), (Aa x36.A8), (Aa x36.A7), (Aa x36.Ap), (Aa x36.Bn), (Aa x36.C5)] 0) (Bk (E := Ag.E) rfl h36) ?_
  refine iq (AV.B8 [(Aa x36.Ar), (Aa x36.A8), (Aa x36.A7), (Aa x36.Ap), (Aa x36.Bn), (Aa x36.C5)] 0) rfl ?_
  refine iq (AV.B8 [(Aa x36.Ar), (Aa x36.A8), (Aa x36.A7), (Aa x36.Ap), (Aa x36.Bn), (Aa x36.C5)] 0) rfl ?_
  refine iq (Aa x36.Ar) rfl ?_
  refine imp Ai ?_
  refine Aq fun x37 h37 => ?_
  refine iq (AV.B8 [(Aa x37.Ar), (Aa x37.A8), (Aa x37.A7), (Aa x37.Ap), (Aa x37.Bn), (Aa x37.C5)] 0) (Bk (E := Ag.E) rfl h37) ?_
  refine iq (AV.B8 [(Aa x37.Ar), (Aa x37.A8), (Aa x37.A7), (Aa x37.Ap), (Aa x37.Bn), (Aa x37.C5)] 0) rfl ?_
  refine iq (AV.B8 [(Aa x37.Ar), (Aa x37.A8), (Aa x37.A7), (Aa x37.Ap), (Aa x37.Bn), (Aa x37.C5)] 0) rfl ?_
  refine iq (Aa x37.Ar) rfl ?_
  refine imp Ai ?_
  refine iq (Aa (if x37.Ar > x36.Ar then x37.Ar else x36.Ar)) (by kernel_rfl) ?_
  refine imp Ai ?_
  refine iq (Aa (a0.length : Int)) rfl ?_
  refine imp Ai ?_
  refine Aq fun x38 h38 => ?_
  refine iq (AV.B8 [(Aa x38.Ar), (Aa x38.A8), (Aa x38.A7), (Aa x38.Ap), (Aa x38.Bn), (Aa x38.C5)] 0) (Bk (E := Ag.E) rfl h38) ?_
  refine iq (AV.B8 [(Aa x38.Ar), (Aa x38.A8), (Aa x38.A7), (Aa x38.Ap), (Aa x38.Bn), (Aa x38.C5)] 0) rfl ?_
  refine iq (AV.B8 [(Aa x38.Ar), (Aa x38.A8), (Aa x38.A7), (Aa x38.Ap), (Aa x38.Bn), (Aa x38.C5)] 0) rfl ?_
  refine iq (Aa x38.Ar) rfl ?_
  refine imp Ai ?_
  refine iq (Aa (a1.length : Int)) rfl ?_
  refine imp Ai ?_
  refine Aq fun x39 h39 => ?_
  refine iq (AV.B8 [(Aa x39.Ar), (Aa x39.A8), (Aa x39.A7), (Aa x39.Ap), (Aa x39.Bn), (Aa x39.C5)] 0) (Bk (E := Ag.E) rfl h39) ?_
  refine iq (AV.B8 [(Aa x39.Ar), (Aa x39.A8), (Aa x39.A7), (Aa x39.Ap), (Aa x39.Bn), (Aa x39.C5)] 0) rfl ?_
  refine iq (AV.B8 [(Aa x39.Ar), (Aa x39.A8), (Aa x39.A7), (Aa x39.Ap), (Aa x39.Bn), (Aa x39.C5)] 0) rfl ?_
  refine iq (Aa x39.Ar) rfl ?_
  refine imp Ai ?_
  refine iq (Aa (if x39.Ar < x38.Ar then x39.Ar else x38.Ar)) (by kernel_rfl) ?_
  refine imp Ai ?_
  exact fun hg => D4 rfl (hR _ (Option.some.inj hg).symm) (fS (fS Bu))
theorem Ach {n : Nat} {a0 : List Ag} {a1 : List Ag} {t : fD} (h : rE n a0 a1 = some t) : C3 pg KK.gl 201 [(Am Ag.E a0), (Am Ag.E a1)] ((AV.tup [(Aa t.1), (Aa t.2)])) :=
  A5 (by first | rfl | simp [As, clean, Ak, En.Di]) (by first | rfl | simp [As, clean, Ak, En.Di]) (oL (Am Ag.E a0) (Am Ag.E a1) _ (vB n a0 a1 (Cu ((AV.tup [(Aa t.1), (Aa t.2)]))) (fun r e u m h => by rw [e]; exact h) h))
theorem tC (n : Nat) (a0 : List Ag) {t : eQ} (R : AV → Mem → Prop) (hR : ∀ r : eQ, t = r → ∀ u m, Cu ((AV.tup [(Aa r.1), (Aa r.2)])) u m → R u m) : sQ n a0 = some t → uF (Am Ag.E a0) R := by
  unfold sQ uF
  refine Aq fun x42 h42 => ?_
  refine iq (AV.B8 [(Aa x42.Ar), (Aa x42.A8), (Aa x42.A7), (Aa x42.Ap), (Aa x42.Bn), (Aa x42.C5)] 0) (Bk (E := Ag.E) rfl h42) ?_
  refine iq (AV.B8 [(Aa x42.Ar), (Aa x42.A8), (Aa x42.A7), (Aa x42.Ap), (Aa x42.Bn), (Aa x42.C5)] 0) rfl ?_
  refine iq (AV.B8 [(Aa x42.Ar), (Aa x42.A8), (Aa x42.A7), (Aa x42.Ap), (Aa x42.Bn), (Aa x42.C5)] 0) rfl ?_
  refine iq (Aa x42.Ar) rfl ?_
  refine imp Ai ?_
  refine iq (Aa (a0.length : Int)) rfl ?_
  refine imp Ai ?_
  refine Aq fun x43 h43 => ?_
  refine iq (AV.B8 [(Aa x43.Ar), (Aa x43.A8), (Aa x43.A7), (Aa x43.Ap), (Aa x43.Bn), (Aa x43.C5)] 0) (Bk (E := Ag.E) rfl h43) ?_
  refine iq (AV.B8 [(Aa x43.Ar), (Aa x43.A8), (Aa x43.A7), (Aa x43.Ap), (Aa x43.Bn), (Aa x43.C5)] 0) rfl ?_
  refine iq (AV.B8 [(Aa x43.Ar), (Aa x43.A8), (Aa x43.A7), (Aa x43.Ap), (Aa x43.Bn), (Aa x43.C5)] 0) rfl ?_
  refine iq (Aa x43.Ar) rfl ?_
  refine imp Ai ?_
  exact fun hg => D4 rfl (hR _ (Option.some.inj hg).symm) (fS (fS Bu))
theorem Acs {n : Nat} {a0 : List Ag} {t : eQ} (h : sQ n a0 = some t) : C3 pg KK.gl 141 [(Am Ag.E a0)] ((AV.tup [(Aa t.1), (Aa t.2)])) :=
  A5 (by first | rfl | simp [As, clean, Ak, En.Di]) (by first | rfl | simp [As, clean, Ak, En.Di]) (oX (Am Ag.E a0) _ (tC n a0 (Cu ((AV.tup [(Aa t.1), (Aa t.2)]))) (fun r e u m h => by rw [e]; exact h) h))
theorem uW (n : Nat) (a0 : Ag) (a1 : Int) {t : bW} (R : AV → Mem → Prop) (hR : ∀ r : bW, t = r → ∀ u m, Cu ((Aa r)) u m → R u m) : oM n a0 a1 = some t → wY a0.Ar a0.A8 a0.A7 a0.Ap a0.Bn a0.C5 a1 R := by
  unfold oM wY
  exact Df hR rfl rfl
theorem xR {n : Nat} {a0 : Ag} {a1 : Int} {t : bW} (h : oM n a0 a1 = some t) : C3 pg KK.gl 190 [(AV.agg [(Aa a0.Ar), (Aa a0.A8), (Aa a0.A7), (Aa a0.Ap), (Aa a0.Bn), (Aa a0.C5)]), (Aa a1)] ((Aa t)) :=
  A5 (by first | rfl | simp [As, clean, Ak, En.Di]) (by first | rfl | simp [As, clean, Ak, En.Di]) (mI a0.Ar a0.A8 a0.A7 a0.Ap a0.Bn a0.C5 a1 _ (uW n a0 a1 (Cu ((Aa t))) (fun r e u m h => by rw [e]; exact h) h))
theorem gZ (n : Nat) (a0 : List Ag) (a1 : Int) (c6 : Int) (c7 : Bool) (c8 : Int) (v9 : Int) (v10 : Int) {t : (Int × Int) ⊕ Nw} (R : AV → Mem → Prop) (N0 : St → Prop) (hR : ∀ r : Nw, t = (.inr r) → ∀ u m, Cu ((AV.tup [(Aa r.1), (Ac r.2)])) u m → R u m) (hN0 : ∀ y : Int × Int, t = (.inl y) → ∀ s' : St, Bo KK 49 0 s' (Oj (Am Ag.E a0) a1 (AV.fn 190 []) c6 c7 c8 y.1 y.2 []) → N0 s') : Rk n a0 a1 c6 c7 c8 v9 v10 = some t → Vg (Am Ag.E a0) a1 (AV.fn 190 []) c6 c7 c8 v9 v10 [] R N0 := by
  unfold Rk Vg
  refine An (fun _ => ?_) (fun _ => ?_)
  · refine iq (AV.sc (.int .u64 (IntKind.wrap .u64 (IntKind.wrap .i64 (v9 + v10))))) (by kernel_rfl) ?_
    refine imp Kq ?_
    refine imp (Es (show _ = some ((AV.sc (.int .u64 (Int.fdiv (IntKind.wrap .u64 (IntKind.wrap .i64 (v9 + v10))) 2))), []) from kY)) ?_
    refine imp Kq ?_
    refine iq (Aa (IntKind.wrap .i64 (Int.fdiv (IntKind.wrap .u64 (IntKind.wrap .i64 (v9 + v10))) 2))) (by kernel_rfl) ?_
    refine imp Ai ?_
    refine Aq fun x45 h45 => ?_
    refine iq (AV.B8 [(Aa x45.Ar), (Aa x45.A8), (Aa x45.A7), (Aa x45.Ap), (Aa x45.Bn), (Aa x45.C5)] 0) (Bk (E := Ag.E) rfl h45) ?_
    refine iq (AV.agg [(Aa x45.Ar), (Aa x45.A8), (Aa x45.A7), (Aa x45.Ap), (Aa x45.Bn), (Aa x45.C5)]) rfl ?_
    refine imp Jq ?_
    iterate 6 refine imp Ai ?_
    refine Aq fun x46 h46 => ?_
    refine imp It ?_
    refine imp (Qh rfl) ?_
    refine imp (A1 (xR h46)) ?_
    refine imp Ai ?_
    refine An (fun _ => ?_) (fun _ => ?_)
    · exact fun hg => hN0 _ (Option.some.inj hg).symm _ (Az [] rfl rfl rfl (Aj (Au (E := Ag.E) _ false) (oR (oR (oR (oR (oR (oR (oR A6)))))))) A0)
    · exact fun hg => hN0 _ (Option.some.inj hg).symm _ (Az [] rfl rfl rfl (Aj (Au (E := Ag.E) _ false) (oR (oR (oR (oR (oR (oR (oR A6)))))))) A0)
  · refine An (fun _ => ?_) (fun _ => ?_)
    · refine Aq fun x47 h47 => ?_
      refine iq (AV.B8 [(Aa x47.Ar), (Aa x47.A8), (Aa x47.A7), (Aa x47.Ap), (Aa x47.Bn), (Aa x47.C5)] 0) (Bk (E := Ag.E) rfl h47) ?_
      refine iq (AV.agg [(Aa x47.Ar), (Aa x47.A8), (Aa x47.A7), (Aa x47.Ap), (Aa x47.Bn), (Aa x47.C5)]) rfl ?_
      refine imp Jq ?_
      iterate 6 refine imp Ai ?_
      refine Aq fun x48 h48 => ?_
      refine imp It ?_
      refine imp (Qh rfl) ?_
      refine imp (A1 (xR h48)) ?_
      refine imp Ai ?_
      exact fun hg => D4 rfl (hR _ (Option.some.inj hg).symm) (fS (fS Bu))
    · exact fun hg => D4 rfl (hR _ (Option.some.inj hg).symm) (fS (fS Bu))
theorem gH (n : Nat) (a0 : List Ag) (a1 : Int) (c6 : Int) (c7 : Bool) (c8 : Int) {t : Nw} (R : AV → Mem → Prop) (hR : ∀ r : Nw, t = r → ∀ u m, Cu ((AV.tup [(Aa r.1), (Ac r.2)])) u m → R u m) (k : Nat) (x : Int × Int) (hx : Ba (fun y : Int × Int => Rk n a0 a1 c6 c7 c8 y.1 y.2) k x = some t) {s : St} (hw : Bo KK 49 0 s (Oj (Am Ag.E a0) a1 (AV.fn 190 []) c6 c7 c8 x.1 x.2 [])) : Ca pg KK 49 0 (.loop Vc) s (Ty R ) :=
  yS R  (σ := Nat × (Int × Int)) (fun z => Ba (fun y : Int × Int => Rk n a0 a1 c6 c7 c8 y.1 y.2) z.1 z.2 = some t) (fun z => (Am Ag.E a0)) (fun z => a1) (fun z => (AV.fn 190 [])) (fun z => c6) (fun z => c7) (fun z => c8) (fun z => z.2.1) (fun z => z.2.2) (fun z => []) (fun z => z.1) (by
    rintro ⟨k, y⟩ h
    cases k with
    | zero => exact (Bp h).elim
    | succ k =>
      obtain ⟨u, h1, h2, h3⟩ := Bq h
      exact gZ n a0 a1 c6 c7 c8 y.1 y.2 R  _ (fun r e => hR r (h3 _ e).symm)  (fun y' e s' hw => ⟨(k, y'), h2 _ e, Nat.lt_succ_self k, hw⟩) h1) (k, x) hx hw
theorem uD (n : Nat) (a0 : List Ag) (a1 : Int) {t : Nw} (R : AV → Mem → Prop) (hR : ∀ r : Nw, t = r → ∀ u m, Cu ((AV.tup [(Aa r.1), (Ac r.2)])) u m → R u m) : rV n a0 a1 = some t → wI (Am Ag.E a0) a1 (AV.fn 190 []) R := by
  unfold rV wI
  refine iq (Aa (a0.length : Int)) rfl ?_
  refine imp Ai ?_
  exact fun hg => gH n a0 a1 (0) false (a0.length : Int) R  hR n _ hg (Az [] rfl rfl rfl (Aj (Au (E := Ag.E) _ false) (oR (oR (oR (oR (oR (oR (oR A6)))))))) A0)
theorem Adr {n : Nat} {a0 : List Ag} {a1 : Int} {t : Nw} (h : rV n a0 a1 = some t) : C3 pg KK.gl 189 [(Am Ag.E a0), (Aa a1), (AV.fn 190 [])] ((AV.tup [(Aa t.1), (Ac t.2)])) :=
  A5 (by first | rfl | simp [As, clean, Ak, En.Di]) (by first | rfl | simp [As, clean, Ak, En.Di]) (j4 (Am Ag.E a0) a1 (AV.fn 190 []) _ (uD n a0 a1 (Cu ((AV.tup [(Aa t.1), (Ac t.2)]))) (fun r e u m h => by rw [e]; exact h) h))
theorem uT (n : Nat) (a0 : Int) (a1 : Int) {t : cV} (R : AV → Mem → Prop) (hR : ∀ r : cV, t = r → ∀ u m, Cu ((AV.tup [(Aa r.1), (Aa r.2)])) u m → R u m) : Zl n a0 a1 = some t → qQ a0 a1 R := by
  unfold Zl qQ
  refine An (fun _ => ?_) (fun _ => ?_)
  · exact fun hg => D4 rfl (hR _ (Option.some.inj hg).symm) (fS (fS Bu))
  · refine An (fun _ => ?_) (fun _ => ?_)
    · refine An (fun _ => ?_) (fun _ => ?_)
      · exact fun hg => D4 rfl (hR _ (Option.some.inj hg).symm) (fS (fS Bu))
      · refine Aq fun x57 h57 => ?_
        refine iq (Aa (IntKind.wrap .i64 x57)) (bL h57) ?_
        refine imp Ai ?_
        refine Aq fun x58 h58 => ?_
        refine iq (Aa x58) (Qc h58) ?_
        refine imp Ai ?_
        refine An (fun _ => ?_) (fun _ => ?_)
        · refine iq (Ac (!((decide (a0 < (0))) == (decide (a1 < (0)))))) (by kernel_rfl) ?_
          refine imp Dk ?_
          refine An (fun _ => ?_) (fun _ => ?_)
          · exact fun hg => D4 rfl (hR _ (Option.some.inj hg).symm) (fS (fS Bu))
          · exact fun hg => D4 rfl (hR _ (Option.some.inj hg).symm) (fS (fS Bu))
        · exact fun hg => D4 rfl (hR _ (Option.some.inj hg).symm) (fS (fS Bu))
    · refine Aq fun x59 h59 => ?_
      refine iq (Aa (IntKind.wrap .i64 x59)) (bL h59) ?_
      refine imp Ai ?_
      refine Aq fun x60 h60 => ?_
      refine iq (Aa x60) (Qc h60) ?_
      refine imp Ai ?_
      refine An (fun _ => ?_) (fun _ => ?_)
      · refine iq (Ac (!((decide (a0 < (0))) == (decide (a1 < (0)))))) (by kernel_rfl) ?_
        refine imp Dk ?_
        refine An (fun _ => ?_) (fun _ => ?_)
        · exact fun hg => D4 rfl (hR _ (Option.some.inj hg).symm) (fS (fS Bu))
        · exact fun hg => D4 rfl (hR _ (Option.some.inj hg).symm) (fS (fS Bu))
      · exact fun hg => D4 rfl (hR _ (Option.some.inj hg).symm) (fS (fS Bu))
theorem cF {n : Nat} {a0 : Int} {a1 : Int} {t : cV} (h : Zl n a0 a1 = some t) : C3 pg KK.gl 192 [(Aa a0), (Aa a1)] ((AV.tup [(Aa t.1), (Aa t.2)])) :=
  A5 (by first | rfl | simp [As, clean, Ak, En.Di]) (by first | rfl | simp [As, clean, Ak, En.Di]) (lB a0 a1 _ (uT n a0 a1 (Cu ((AV.tup [(Aa t.1), (Aa t.2)]))) (fun r e u m h => by rw [e]; exact h) h))
theorem uU (n : Nat) (a0 : TP) (a1 : TP) (a2 : Int) (a3 : Int) {t : cQ} (R : AV → Mem → Prop) (hR : ∀ r : cQ, t = r → ∀ u m, Cu ((AV.tup [(AV.agg (TP.E.enc r.1)), (Aa r.2)])) u m → R u m) : wL n a0 a1 a2 a3 = some t → tA a0.X a0.Y a1.X a1.Y a2 a3 R := by
  unfold wL tA
  refine An (fun _ => ?_) (fun _ => ?_)
  · refine iq (AV.agg [(Aa (0)), (Aa (0))]) rfl ?_
    refine imp (Cv (sz := 2) (by kernel_rfl) (by kernel_rfl) rfl rfl (cs := [(Aa (0)), (Aa (0))]) (cs' := [(Aa (0)), (Aa (0))]) (ty := 88) (by first | rfl | (simp (disch := first | decide | assumption) only [lk])) rfl rfl) ?_
    exact fun hg => D4 rfl (hR _ (Option.some.inj hg).symm) (Dp (H9 (E := TP.E) _ (⟨(0), (0)⟩ : TP)) (fS Bu))
  · refine An (fun _ => ?_) (fun _ => ?_)
    · refine iq (AV.agg [(Aa (0)), (Aa (0))]) rfl ?_
      refine imp (Cv (sz := 2) (by kernel_rfl) (by kernel_rfl) rfl rfl (cs := [(Aa (0)), (Aa (0))]) (cs' := [(Aa (0)), (Aa (0))]) (ty := 88) (by first | rfl | (simp (disch := first | decide | assumption) only [lk])) rfl rfl) ?_
      exact fun hg => D4 rfl (hR _ (Option.some.inj hg).symm) (Dp (H9 (E := TP.E) _ (⟨(0), (0)⟩ : TP)) (fS Bu))
    · refine An (fun _ => ?_) (fun _ => ?_)
      · refine iq (AV.agg [(Aa (0)), (Aa (0))]) rfl ?_
        refine imp (Cv (sz := 2) (by kernel_rfl) (by kernel_rfl) rfl rfl (cs := [(Aa (0)), (Aa (0))]) (cs' := [(Aa (0)), (Aa (0))]) (ty := 88) (by first | rfl | (simp (disch := first | decide | assumption) only [lk])) rfl rfl) ?_
        exact fun hg => D4 rfl (hR _ (Option.some.inj hg).symm) (Dp (H9 (E := TP.E) _ (⟨(0), (0)⟩ : TP)) (fS Bu))
      · refine An (fun _ => ?_) (fun _ => ?_)
        · refine iq (AV.agg [(Aa (0)), (Aa (0))]) rfl ?_
          refine imp (Cv (sz := 2) (by kernel_rfl) (by kernel_rfl) rfl rfl (cs := [(Aa (0)), (Aa (0))]) (cs' := [(Aa (0)), (Aa (0))]) (ty := 88) (by first | rfl | (simp (disch := first | decide | assumption) only [lk])) rfl rfl) ?_
          exact fun hg => D4 rfl (hR _ (Option.some.inj hg).symm) (Dp (H9 (E := TP.E) _ (⟨(0), (0)⟩ : TP)) (fS Bu))
        · refine Aq fun x53 h53 => ?_
          refine imp (A1 (jO h53)) ?_
          refine imp Ai ?_
          refine An (fun _ => ?_) (fun _ => ?_)
          · refine iq (AV.agg [(Aa (0)), (Aa (0))]) rfl ?_
            refine Aq fun x54 h54 => ?_
            refine imp (A1 (jO h54)) ?_
            refine imp Ai ?_
            refine imp (Cv (sz := 2) (by kernel_rfl) (by kernel_rfl) rfl rfl (cs := [(Aa (0)), (Aa (0))]) (cs' := [(Aa (0)), (Aa (0))]) (ty := 88) (by first | rfl | (simp (disch := first | decide | assumption) only [lk])) rfl rfl) ?_
            exact fun hg => D4 rfl (hR _ (Option.some.inj hg).symm) (Dp (H9 (E := TP.E) _ (⟨(0), (0)⟩ : TP)) (fS Bu))
          · refine Aq fun x55 h55 => ?_
            refine imp (A1 (jO h55)) ?_
            refine imp Ai ?_
            refine An (fun _ => ?_) (fun _ => ?_)
            · refine iq (AV.agg [(Aa (0)), (Aa (0))]) rfl ?_
              refine Aq fun x56 h56 => ?_
              refine imp (A1 (jO h56)) ?_
              refine imp Ai ?_
              refine imp (Cv (sz := 2) (by kernel_rfl) (by kernel_rfl) rfl rfl (cs := [(Aa (0)), (Aa (0))]) (cs' := [(Aa (0)), (Aa (0))]) (ty := 88) (by first | rfl | (simp (disch := first | decide | assumption) only [lk])) rfl rfl) ?_
              exact fun hg => D4 rfl (hR _ (Option.some.inj hg).symm) (Dp (H9 (E := TP.E) _ (⟨(0), (0)⟩ : TP)) (fS Bu))
            · refine Aq fun x61 h61 => ?_
              refine imp (A1 (cF h61)) ?_
              refine imp E5 ?_
              iterate 2 refine imp Ai ?_
              refine Aq fun x62 h62 => ?_
              refine imp (A1 (cF h62)) ?_
              refine imp E5 ?_
              iterate 2 refine imp Ai ?_
              refine iq (AV.agg [(Aa (IntKind.wrap .i64 (a0.X + x61.1))), (Aa (IntKind.wrap .i64 (a0.Y + x62.1)))]) rfl ?_
              refine imp (Cv (sz := 2) (by kernel_rfl) (by kernel_rfl) rfl rfl (cs := [(Aa (0)), (Aa (0))]) (cs' := [(Aa (IntKind.wrap .i64 (a0.X + x61.1))), (Aa (IntKind.wrap .i64 (a0.Y + x62.1)))]) (ty := 88) (by first | rfl | (simp (disch := first | decide | assumption) only [lk])) rfl rfl) ?_
              exact fun hg => D4 rfl (hR _ (Option.some.inj hg).symm) (Dp (H9 (E := TP.E) _ (⟨(IntKind.wrap .i64 (a0.X + x61.1)), (IntKind.wrap .i64 (a0.Y + x62.1))⟩ : TP)) (fS Bu))
theorem Adt {n : Nat} {a0 : TP} {a1 : TP} {a2 : Int} {a3 : Int} {t : cQ} (h : wL n a0 a1 a2 a3 = some t) : C3 pg KK.gl 191 [(AV.agg [(Aa a0.X), (Aa a0.Y)]), (AV.agg [(Aa a1.X), (Aa a1.Y)]), (Aa a2), (Aa a3)] ((AV.tup [(AV.agg (TP.E.enc t.1)), (Aa t.2)])) :=
  A5 (by first | rfl | simp [As, clean, Ak, En.Di]) (by first | rfl | simp [As, clean, Ak, En.Di]) (nJ a0.X a0.Y a1.X a1.Y a2 a3 _ (uU n a0 a1 a2 a3 (Cu ((AV.tup [(AV.agg (TP.E.enc t.1)), (Aa t.2)]))) (fun r e u m h => by rw [e]; exact h) h))
theorem vE (n : Nat) (a0 : Int) (a1 : Int) {t : bO} (R : AV → Mem → Prop) (hR : ∀ r : bO, t = r → ∀ u m, Cu ((AV.tup [(Aa r.1), (Aa r.2)])) u m → R u m) : oI n a0 a1 = some t → qC a0 a1 R := by
  unfold oI qC
  refine Aq fun x65 h65 => ?_
  refine imp (A1 (cF h65)) ?_
  refine imp E5 ?_
  iterate 2 refine imp Ai ?_
  refine An (fun _ => ?_) (fun _ => ?_)
  · refine Aq fun x66 h66 => ?_
    refine iq (Aa x66) (Qc h66) ?_
    refine imp Ai ?_
    refine An (fun _ => ?_) (fun _ => ?_)
    · exact fun hg => D4 rfl (hR _ (Option.some.inj hg).symm) (fS (fS Bu))
    · exact fun hg => D4 rfl (hR _ (Option.some.inj hg).symm) (fS (fS Bu))
  · exact fun hg => D4 rfl (hR _ (Option.some.inj hg).symm) (fS (fS Bu))
theorem xE {n : Nat} {a0 : Int} {a1 : Int} {t : bO} (h : oI n a0 a1 = some t) : C3 pg KK.gl 193 [(Aa a0), (Aa a1)] ((AV.tup [(Aa t.1), (Aa t.2)])) :=
  A5 (by first | rfl | simp [As, clean, Ak, En.Di]) (by first | rfl | simp [As, clean, Ak, En.Di]) (kF a0 a1 _ (vE n a0 a1 (Cu ((AV.tup [(Aa t.1), (Aa t.2)]))) (fun r e u m h => by rw [e]; exact h) h))
theorem w8 (n : Nat) (a0 : List Ag) (a1 : Int) {t : cE} (R : AV → Mem → Prop) (hR : ∀ r : cE, t = r → ∀ u m, Cu ((AV.agg (Ag.E.enc r))) u m → R u m) : u9 n a0 a1 = some t → s4 (Am Ag.E a0) a1 R := by
  unfold u9 s4
  refine Aq fun x49 h49 => ?_
  refine imp (Mi (Adr h49)) ?_
  refine imp E5 ?_
  refine imp Ai ?_
  refine imp Dk ?_
  refine An (fun _ => ?_) (fun _ => ?_)
  · refine Aq fun x50 h50 => ?_
    refine iq (AV.B8 [(Aa x50.Ar), (Aa x50.A8), (Aa x50.A7), (Aa x50.Ap), (Aa x50.Bn), (Aa x50.C5)] 0) (Bk (E := Ag.E) rfl h50) ?_
    refine iq (AV.agg [(Aa x50.Ar), (Aa x50.A8), (Aa x50.A7), (Aa x50.Ap), (Aa x50.Bn), (Aa x50.C5)]) rfl ?_
    refine imp Jq ?_
    iterate 6 refine imp Ai ?_
    refine imp (Cv (sz := 6) (by kernel_rfl) (by kernel_rfl) rfl rfl (cs := [(Aa (0)), (Aa (0)), (Aa (0)), (Aa (0)), (Aa (0)), (Aa (0))]) (cs' := [(Aa x50.Ar), (Aa x50.A8), (Aa x50.A7), (Aa x50.Ap), (Aa x50.Bn), (Aa x50.C5)]) (ty := 134) (by first | rfl | (simp (disch := first | decide | assumption) only [lk])) rfl rfl) ?_
    exact fun hg => oF (hR _ (Option.some.inj hg).symm) (H9 (E := Ag.E) _ x50)
  · refine Aq fun x51 h51 => ?_
    refine imp (De (show _ = some ((AV.B8 [(Aa x51.Ar), (Aa x51.A8), (Aa x51.A7), (Aa x51.Ap), (Aa x51.Bn), (Aa x51.C5)] 0), []) from (Bk (E := Ag.E) rfl h51))) ?_
    refine imp (De (show _ = some ((AV.agg [(Aa x51.Ar), (Aa x51.A8), (Aa x51.A7), (Aa x51.Ap), (Aa x51.Bn), (Aa x51.C5)]), []) from rfl)) ?_
    refine imp Jq ?_
    iterate 6 refine imp Ai ?_
    refine Aq fun x52 h52 => ?_
    refine imp (De (show _ = some ((AV.B8 [(Aa x52.Ar), (Aa x52.A8), (Aa x52.A7), (Aa x52.Ap), (Aa x52.Bn), (Aa x52.C5)] 0), []) from (Bk (E := Ag.E) rfl h52))) ?_
    refine imp (De (show _ = some ((AV.agg [(Aa x52.Ar), (Aa x52.A8), (Aa x52.A7), (Aa x52.Ap), (Aa x52.Bn), (Aa x52.C5)]), []) from rfl)) ?_
    refine imp Jq ?_
    iterate 6 refine imp Ai ?_
    refine imp (Cv (sz := 6) (by kernel_rfl) (by kernel_rfl) rfl rfl (cs := [(Aa (0)), (Aa (0)), (Aa (0)), (Aa (0)), (Aa (0)), (Aa (0))]) (cs' := [(Aa x51.Ar), (Aa x51.A8), (Aa x51.A7), (Aa x51.Ap), (Aa x51.Bn), (Aa x51.C5)]) (ty := 134) (by first | rfl | (rw [K9 (by first | rfl | simp [Oy] | simp [Ax])]; first | rfl | (simp (disch := first | decide | assumption) only [lk]))) rfl rfl) ?_
    refine imp (Cv (sz := 6) (by kernel_rfl) (by kernel_rfl) rfl rfl (cs := [(Aa (0)), (Aa (0)), (Aa (0)), (Aa (0)), (Aa (0)), (Aa (0))]) (cs' := [(Aa x52.Ar), (Aa x52.A8), (Aa x52.A7), (Aa x52.Ap), (Aa x52.Bn), (Aa x52.C5)]) (ty := 134) (by first | rfl | (rw [K9 (by first | rfl | simp [Oy] | simp [Ax])]; first | rfl | (simp (disch := first | decide | assumption) only [lk]))) rfl rfl) ?_
    refine imp (Ml (by kernel_rfl)) ?_
    refine iq (Aa x51.Ar) (Ec (b := ⟨[(Aa x51.Ar), (Aa x51.A8), (Aa x51.A7), (Aa x51.Ap), (Aa x51.Bn), (Aa x51.C5)], 134⟩) (by first | rfl | (simp (disch := first | decide | assumption) only [lk])) rfl) ?_
    refine imp Ai ?_
    refine iq (Aa x52.Ar) (Ec (b := ⟨[(Aa x52.Ar), (Aa x52.A8), (Aa x52.A7), (Aa x52.Ap), (Aa x52.Bn), (Aa x52.C5)], 134⟩) (by first | rfl | (simp (disch := first | decide | assumption) only [lk])) rfl) ?_
    refine imp Ai ?_
    refine iq (Aa x51.Ar) (Ec (b := ⟨[(Aa x51.Ar), (Aa x51.A8), (Aa x51.A7), (Aa x51.Ap), (Aa x51.Bn), (Aa x51.C5)], 134⟩) (by first | rfl | (simp (disch := first | decide | assumption) only [lk])) rfl) ?_
    refine imp Ai ?_
    refine iq (AV.agg [(Aa x51.A8), (Aa x51.A7)]) (Ft (b := ⟨[(Aa x51.Ar), (Aa x51.A8), (Aa x51.A7), (Aa x51.Ap), (Aa x51.Bn), (Aa x51.C5)], 134⟩) (by first | rfl | (simp (disch := first | decide | assumption) only [lk])) rfl) ?_
    refine imp J0 ?_
    iterate 2 refine imp Ai ?_
    refine iq (AV.agg [(Aa x52.A8), (Aa x52.A7)]) (Ft (b := ⟨[(Aa x52.Ar), (Aa x52.A8), (Aa x52.A7), (Aa x52.Ap), (Aa x52.Bn), (Aa x52.C5)], 134⟩) (by first | rfl | (simp (disch := first | decide | assumption) only [lk])) rfl) ?_
    refine imp J0 ?_
    iterate 2 refine imp Ai ?_
    refine Aq fun x63 h63 => ?_
    refine imp (A1 (Adt h63)) ?_
    refine imp E5 ?_
    refine imp J0 ?_
    iterate 3 refine imp Ai ?_
    refine iq (Aa x52.Ap) (Ec (b := ⟨[(Aa x52.Ar), (Aa x52.A8), (Aa x52.A7), (Aa x52.Ap), (Aa x52.Bn), (Aa x52.C5)], 134⟩) (by first | rfl | (simp (disch := first | decide | assumption) only [lk])) rfl) ?_
    refine imp Ai ?_
    refine iq (Aa x51.Ap) (Ec (b := ⟨[(Aa x51.Ar), (Aa x51.A8), (Aa x51.A7), (Aa x51.Ap), (Aa x51.Bn), (Aa x51.C5)], 134⟩) (by first | rfl | (simp (disch := first | decide | assumption) only [lk])) rfl) ?_
    refine imp Ai ?_
    refine Aq fun x64 h64 => ?_
    refine imp (A1 (cF h64)) ?_
    refine imp E5 ?_
    iterate 2 refine imp Ai ?_
    refine iq (Aa x52.Bn) (Ec (b := ⟨[(Aa x52.Ar), (Aa x52.A8), (Aa x52.A7), (Aa x52.Ap), (Aa x52.Bn), (Aa x52.C5)], 134⟩) (by first | rfl | (simp (disch := first | decide | assumption) only [lk])) rfl) ?_
    refine imp Ai ?_
    refine iq (Aa x51.Bn) (Ec (b := ⟨[(Aa x51.Ar), (Aa x51.A8), (Aa x51.A7), (Aa x51.Ap), (Aa x51.Bn), (Aa x51.C5)], 134⟩) (by first | rfl | (simp (disch := first | decide | assumption) only [lk])) rfl) ?_
    refine imp Ai ?_
    refine Aq fun x67 h67 => ?_
    refine imp (A1 (xE h67)) ?_
    refine imp E5 ?_
    iterate 2 refine imp Ai ?_
    refine iq (Aa x52.C5) (Ec (b := ⟨[(Aa x52.Ar), (Aa x52.A8), (Aa x52.A7), (Aa x52.Ap), (Aa x52.Bn), (Aa x52.C5)], 134⟩) (by first | rfl | (simp (disch := first | decide | assumption) only [lk])) rfl) ?_
    refine imp Ai ?_
    refine iq (Aa x51.C5) (Ec (b := ⟨[(Aa x51.Ar), (Aa x51.A8), (Aa x51.A7), (Aa x51.Ap), (Aa x51.Bn), (Aa x51.C5)], 134⟩) (by first | rfl | (simp (disch := first | decide | assumption) only [lk])) rfl) ?_
    refine imp Ai ?_
    refine Aq fun x68 h68 => ?_
    refine imp (A1 (xE h68)) ?_
    refine imp E5 ?_
    iterate 2 refine imp Ai ?_
    refine iq (Aa x51.Ap) (Ec (b := ⟨[(Aa x51.Ar), (Aa x51.A8), (Aa x51.A7), (Aa x51.Ap), (Aa x51.Bn), (Aa x51.C5)], 134⟩) (by first | rfl | (simp (disch := first | decide | assumption) only [lk])) rfl) ?_
    refine imp Ai ?_
    refine iq (AV.agg [(Aa a1), (Aa x63.1.X), (Aa x63.1.Y), (Aa (IntKind.wrap .i64 (x51.Ap + x64.1)))]) rfl ?_
    refine iq (Aa x51.Bn) (Ec (b := ⟨[(Aa x51.Ar), (Aa x51.A8), (Aa x51.A7), (Aa x51.Ap), (Aa x51.Bn), (Aa x51.C5)], 134⟩) (by first | rfl | (simp (disch := first | decide | assumption) only [lk])) rfl) ?_
    refine imp Ai ?_
    refine iq (Aa x51.C5) (Ec (b := ⟨[(Aa x51.Ar), (Aa x51.A8), (Aa x51.A7), (Aa x51.Ap), (Aa x51.Bn), (Aa x51.C5)], 134⟩) (by first | rfl | (simp (disch := first | decide | assumption) only [lk])) rfl) ?_
    refine imp Ai ?_
    refine iq (AV.agg [(Aa a1), (Aa x63.1.X), (Aa x63.1.Y), (Aa (IntKind.wrap .i64 (x51.Ap + x64.1))), (Aa (IntKind.wrap .i64 (x51.Bn + x67.1))), (Aa (IntKind.wrap .i64 (x51.C5 + x68.1)))]) rfl ?_
    refine imp (Cv (sz := 6) (by kernel_rfl) (by kernel_rfl) rfl rfl (cs := [(Aa (0)), (Aa (0)), (Aa (0)), (Aa (0)), (Aa (0)), (Aa (0))]) (cs' := [(Aa a1), (Aa x63.1.X), (Aa x63.1.Y), (Aa (IntKind.wrap .i64 (x51.Ap + x64.1))), (Aa (IntKind.wrap .i64 (x51.Bn + x67.1))), (Aa (IntKind.wrap .i64 (x51.C5 + x68.1)))]) (ty := 134) (by first | rfl | (simp (disch := first | decide | assumption) only [lk])) rfl rfl) ?_
    exact fun hg => oF (hR _ (Option.some.inj hg).symm) (H9 (E := Ag.E) _ (⟨a1, x63.1.X, x63.1.Y, (IntKind.wrap .i64 (x51.Ap + x64.1)), (IntKind.wrap .i64 (x51.Bn + x67.1)), (IntKind.wrap .i64 (x51.C5 + x68.1))⟩ : Ag))
theorem Adu {n : Nat} {a0 : List Ag} {a1 : Int} {t : cE} (h : u9 n a0 a1 = some t) : C3 pg KK.gl 142 [(Am Ag.E a0), (Aa a1)] ((AV.agg (Ag.E.enc t))) :=
  A5 (by first | rfl | simp [As, clean, Ak, En.Di]) (by first | rfl | simp [As, clean, Ak, En.Di]) (pD (Am Ag.E a0) a1 _ (w8 n a0 a1 (Cu ((AV.agg (Ag.E.enc t)))) (fun r e u m h => by rw [e]; exact h) h))
end Go.Proofs.YtbfabclpcamlnaaGreatDoor
