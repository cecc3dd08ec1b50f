/- A part. -/
import Derived.Test.YtbfabclpcamlnaaGreatDoorX1T
import Derived.Test.YtbfabclpcamlnaaGreatDoorPJ
import Derived.Test.YtbfabclpcamlnaaGreatDoorPL
set_option linter.unusedVariables false
set_option linter.unusedSimpArgs false
set_option maxRecDepth 100000
set_option maxHeartbeats 4000000
namespace Go.Proofs.YtbfabclpcamlnaaGreatDoor
abbrev Lq := ((List Int) × Bool)
def H7 (n : Nat) (a0 : List Ad) (a1 : List Int) (c7 : Bool) (Ho : Int) (k0_0 : Int) (k0_1 : Int) (k0_2 : Int) (k0_3 : Int) (k0_4 : Int) (k0_5 : Int) (k0_6 : Int) (k0_7 : Int) (k0_8 : Int) (k0_9 : Int) (k0_10 : Int) (k0_11 : Int) (k0_12 : Int) (k0_13 : Int) (k0_14 : Int) (k0_15 : Int) (v14 : Int) (L90000 : List Int) : Option ((Int × List Int) ⊕ Lq) :=
bif (decide (v14 < Ho)) then (
(Bt a1 v14).bind fun x0 =>
(Bt a0 x0).bind fun x1 =>
bif (decide (v14 > (0))) then (
(Bt L90000 (IntKind.wrap .i64 (v14 - (1)))).bind fun x2 =>
(Bt a1 (IntKind.wrap .i64 (v14 - (1)))).bind fun x3 =>
(Bt a0 x3).bind fun x4 =>
(Bt a0 x0).bind fun x5 =>
(Bt ([(⟨k0_0, k0_1, k0_2, k0_3⟩ : Dw), (⟨k0_4, k0_5, k0_6, k0_7⟩ : Dw), (⟨k0_8, k0_9, k0_10, k0_11⟩ : Dw), (⟨k0_12, k0_13, k0_14, k0_15⟩ : Dw)] : List Dw) x4.Bc).bind fun x6 =>
(Bt ([x6.c0, x6.c1, x6.c2, x6.c3] : List Int) x5.Bc).bind fun x7 =>
(Bt a0 x0).bind fun x8 =>
bif (decide ((if (IntKind.wrap .i64 (x2 + x7)) > x1.Time then (IntKind.wrap .i64 (x2 + x7)) else x1.Time) > x8.Bs)) then (
some (.inr ([], false))) else (
(Gb (L90000.length + ([(if (IntKind.wrap .i64 (x2 + x7)) > x1.Time then (IntKind.wrap .i64 (x2 + x7)) else x1.Time)] : List Int).length) 8).bind fun x10 =>
some (.inl ((IntKind.wrap .i64 (v14 + (1))), (L90000 ++ ([(if (IntKind.wrap .i64 (x2 + x7)) > x1.Time then (IntKind.wrap .i64 (x2 + x7)) else x1.Time)] : List Int)))))) else (
(Bt a0 x0).bind fun x11 =>
bif (decide (x1.Time > x11.Bs)) then (
some (.inr ([], false))) else (
(Gb (L90000.length + ([x1.Time] : List Int).length) 8).bind fun x13 =>
some (.inl ((IntKind.wrap .i64 (v14 + (1))), (L90000 ++ ([x1.Time] : List Int))))))) else (
some (.inr (L90000, true)))
def qD (n : Nat) (a0 : List Ad) (a1 : List Int) (a2 : Ao) : Option Lq :=
Ba (fun y : Int × List Int => H7 n a0 a1 false (a1.length : Int) a2.Cf a2.Ce a2.Ci a2.Cn a2.Cd a2.Cl a2.Cr a2.Co a2.Cm a2.Ck a2.Ch a2.Cg a2.Cb a2.Cj a2.Cq a2.Cp y.1 y.2) n ((0), [])
abbrev fK := (Int)
def wG (n : Nat) (a0 : G7) : Option fK :=
bif (decide (a0.Dg < (0))) then (
some (4)) else (
bif (decide (a0.Dg > (1000000))) then (
some (4)) else (
bif (decide (a0.C0 < (0))) then (
some (4)) else (
bif (decide (a0.C0 > (60000))) then (
some (4)) else (
some (0)))))
abbrev rH := (Int)
def sF (n : Nat) (a0 : TP) : Option rH :=
bif (decide (a0.X < (-1000000))) then (
some (4)) else (
bif (decide (a0.X > (1000000))) then (
some (4)) else (
bif (decide (a0.Y < (-1000000))) then (
some (4)) else (
bif (decide (a0.Y > (1000000))) then (
some (4)) else (
some (0)))))
abbrev Wa := (Int)
def Y4 (n : Nat) (a0 : List Ag) (c2 : Int) (c15 : Int) (v16 : Int) : Option ((Int) ⊕ Wa) :=
bif (decide (v16 < c15)) then (
(Bt a0 v16).bind fun x28 =>
bif (decide (x28.Ar < (0))) then (
some (.inr (12))) else (
bif (decide (x28.Ar > (200000))) then (
some (.inr (12))) else (
bif (decide (v16 > (0))) then (
(Bt a0 (IntKind.wrap .i64 (v16 - (1)))).bind fun x29 =>
bif (decide (x28.Ar ≤ x29.Ar)) then (
some (.inr (12))) else (
(sF n (⟨x28.A8, x28.A7⟩ : TP)).bind fun x30 =>
bif (x30 != (0)) then (
some (.inr (x30))) else (
bif (decide (x28.Ap < (0))) then (
some (.inr (4))) else (
bif (decide (x28.Ap > (60000))) then (
some (.inr (4))) else (
bif (decide (x28.Bn < (0))) then (
some (.inr (4))) else (
bif (decide (x28.Bn > (1000000))) then (
some (.inr (4))) else (
bif (decide (x28.C5 < (0))) then (
some (.inr (4))) else (
bif (decide (x28.C5 > (60000))) then (
some (.inr (4))) else (
some (.inl (IntKind.wrap .i64 (v16 + (1))))))))))))) else (
(sF n (⟨x28.A8, x28.A7⟩ : TP)).bind fun x31 =>
bif (x31 != (0)) then (
some (.inr (x31))) else (
bif (decide (x28.Ap < (0))) then (
some (.inr (4))) else (
bif (decide (x28.Ap > (60000))) then (
some (.inr (4))) else (
bif (decide (x28.Bn < (0))) then (
some (.inr (4))) else (
bif (decide (x28.Bn > (1000000))) then (
some (.inr (4))) else (
bif (decide (x28.C5 < (0))) then (
some (.inr (4))) else (
bif (decide (x28.C5 > (60000))) then (
some (.inr (4))) else (
some (.inl (IntKind.wrap .i64 (v16 + (1))))))))))))))) else (
some (.inr (0)))
def g78 (n : Nat) (a0 : List Ag) : Option Wa :=
bif (decide ((a0.length : Int) > (64))) then (
some (2)) else (
bif ((a0.length : Int) == (0)) then (
some (3)) else (
Ba (fun y : Int => Y4 n a0 (0) (a0.length : Int) y) n (0)))
abbrev M5 := (Int)
def Rj (n : Nat) (c4 : Int) (a1 : List (List Ag)) (c15 : Int) (v16 : Int) : Option ((Int) ⊕ M5) :=
bif (decide (v16 < c15)) then (
(Bt a1 v16).bind fun x33 =>
(g78 n x33).bind fun x34 =>
bif (x34 != (0)) then (
some (.inr (x34))) else (
some (.inl (IntKind.wrap .i64 (v16 + (1)))))) else (
some (.inr (0)))
def tZ (n : Nat) (a0 : G7) (a1 : List (List Ag)) : Option M5 :=
(wG n a0).bind fun x32 =>
bif (x32 != (0)) then (
some (x32)) else (
Ba (fun y : Int => Rj n (0) a1 (a1.length : Int) y) n (0))
abbrev fD := (Int × Int)
def rE (n : Nat) (a0 : List Ag) (a1 : List Ag) : Option fD :=
(Bt a0 (0)).bind fun x36 =>
(Bt a1 (0)).bind fun x37 =>
(Bt a0 (IntKind.wrap .i64 ((a0.length : Int) - (1)))).bind fun x38 =>
(Bt a1 (IntKind.wrap .i64 ((a1.length : Int) - (1)))).bind fun x39 =>
some ((if x37.Ar > x36.Ar then x37.Ar else x36.Ar), (if x39.Ar < x38.Ar then x39.Ar else x38.Ar))
abbrev eQ := (Int × Int)
def sQ (n : Nat) (a0 : List Ag) : Option eQ :=
(Bt a0 (0)).bind fun x42 =>
(Bt a0 (IntKind.wrap .i64 ((a0.length : Int) - (1)))).bind fun x43 =>
some (x42.Ar, x43.Ar)
abbrev bW := (Int)
def oM (n : Nat) (a0 : Ag) (a1 : Int) : Option bW :=
some (IntKind.wrap .i64 (a0.Ar - a1))
abbrev Nw := (Int × Bool)
def Rk (n : Nat) (a0 : List Ag) (a1 : Int) (c6 : Int) (c7 : Bool) (c8 : Int) (v9 : Int) (v10 : Int) : Option ((Int × Int) ⊕ Nw) :=
bif (decide (v9 < v10)) then (
(Bt a0 (IntKind.wrap .i64 (Int.fdiv (IntKind.wrap .u64 (IntKind.wrap .i64 (v9 + v10))) 2))).bind fun x45 =>
(oM n x45 a1).bind fun x46 =>
bif (decide (x46 < (0))) then (
some (.inl ((IntKind.wrap .i64 ((IntKind.wrap .i64 (Int.fdiv (IntKind.wrap .u64 (IntKind.wrap .i64 (v9 + v10))) 2)) + (1))), v10))) else (
some (.inl (v9, (IntKind.wrap .i64 (Int.fdiv (IntKind.wrap .u64 (IntKind.wrap .i64 (v9 + v10))) 2)))))) else (
bif (decide (v9 < c8)) then (
(Bt a0 v9).bind fun x47 =>
(oM n x47 a1).bind fun x48 =>
some (.inr (v9, (x48 == (0))))) else (
some (.inr (v9, false))))
def rV (n : Nat) (a0 : List Ag) (a1 : Int) : Option Nw :=
Ba (fun y : Int × Int => Rk n a0 a1 (0) false (a0.length : Int) y.1 y.2) n ((0), (a0.length : Int))
abbrev cV := (Int × Int)
def Zl (n : Nat) (a0 : Int) (a1 : Int) : Option cV :=
bif (a1 == (0)) then (
some ((0), (10))) else (
bif (a0 == (-9223372036854775808)) then (
bif (a1 == (-1)) then (
some ((0), (2))) else (
(wF a0 a1).bind fun x57 =>
(Z5 a0 a1).bind fun x58 =>
bif (x58 != (0)) then (
bif (!((decide (a0 < (0))) == (decide (a1 < (0))))) then (
some ((IntKind.wrap .i64 ((IntKind.wrap .i64 x57) - (1))), (0))) else (
some ((IntKind.wrap .i64 x57), (0)))) else (
some ((IntKind.wrap .i64 x57), (0))))) else (
(wF a0 a1).bind fun x59 =>
(Z5 a0 a1).bind fun x60 =>
bif (x60 != (0)) then (
bif (!((decide (a0 < (0))) == (decide (a1 < (0))))) then (
some ((IntKind.wrap .i64 ((IntKind.wrap .i64 x59) - (1))), (0))) else (
some ((IntKind.wrap .i64 x59), (0)))) else (
some ((IntKind.wrap .i64 x59), (0)))))
abbrev cQ := (TP × Int)
def wL (n : Nat) (a0 : TP) (a1 : TP) (a2 : Int) (a3 : Int) : Option cQ :=
bif (decide (a3 ≤ (0))) then (
some ((⟨(0), (0)⟩ : TP), (10))) else (
bif (decide (a3 > (200000))) then (
some ((⟨(0), (0)⟩ : TP), (4))) else (
bif (decide (a2 < (0))) then (
some ((⟨(0), (0)⟩ : TP), (4))) else (
bif (decide (a2 > a3)) then (
some ((⟨(0), (0)⟩ : TP), (4))) else (
(sF n a0).bind fun x53 =>
bif (x53 != (0)) then (
(sF n a0).bind fun x54 =>
some ((⟨(0), (0)⟩ : TP), x54)) else (
(sF n a1).bind fun x55 =>
bif (x55 != (0)) then (
(sF n a1).bind fun x56 =>
some ((⟨(0), (0)⟩ : TP), x56)) else (
(Zl n (IntKind.wrap .i64 ((IntKind.wrap .i64 (a1.X - a0.X)) * a2)) a3).bind fun x61 =>
(Zl n (IntKind.wrap .i64 ((IntKind.wrap .i64 (a1.Y - a0.Y)) * a2)) a3).bind fun x62 =>
some ((⟨(IntKind.wrap .i64 (a0.X + x61.1)), (IntKind.wrap .i64 (a0.Y + x62.1))⟩ : TP), (0))))))))
abbrev bO := (Int × Int)
def oI (n : Nat) (a0 : Int) (a1 : Int) : Option bO :=
(Zl n a0 a1).bind fun x65 =>
bif (x65.2 == (0)) then (
(Z5 a0 a1).bind fun x66 =>
bif (x66 != (0)) then (
some ((IntKind.wrap .i64 (x65.1 + (1))), x65.2)) else (
some (x65.1, x65.2))) else (
some (x65.1, x65.2))
abbrev cE := (Ag)
def u9 (n : Nat) (a0 : List Ag) (a1 : Int) : Option cE :=
(rV n a0 a1).bind fun x49 =>
bif x49.2 then (
(Bt a0 x49.1).bind fun x50 =>
some (x50)) else (
(Bt a0 (IntKind.wrap .i64 (x49.1 - (1)))).bind fun x51 =>
(Bt a0 x49.1).bind fun x52 =>
(wL n (⟨x51.A8, x51.A7⟩ : TP) (⟨x52.A8, x52.A7⟩ : TP) (IntKind.wrap .i64 (a1 - x51.Ar)) (IntKind.wrap .i64 (x52.Ar - x51.Ar))).bind fun x63 =>
(Zl n (IntKind.wrap .i64 ((IntKind.wrap .i64 (x52.Ap - x51.Ap)) * (IntKind.wrap .i64 (a1 - x51.Ar)))) (IntKind.wrap .i64 (x52.Ar - x51.Ar))).bind fun x64 =>
(oI n (IntKind.wrap .i64 ((IntKind.wrap .i64 (x52.Bn - x51.Bn)) * (IntKind.wrap .i64 (a1 - x51.Ar)))) (IntKind.wrap .i64 (x52.Ar - x51.Ar))).bind fun x67 =>
(oI n (IntKind.wrap .i64 ((IntKind.wrap .i64 (x52.C5 - x51.C5)) * (IntKind.wrap .i64 (a1 - x51.Ar)))) (IntKind.wrap .i64 (x52.Ar - x51.Ar))).bind fun x68 =>
some (⟨a1, x63.1.X, x63.1.Y, (IntKind.wrap .i64 (x51.Ap + x64.1)), (IntKind.wrap .i64 (x51.Bn + x67.1)), (IntKind.wrap .i64 (x51.C5 + x68.1))⟩ : Ag))
abbrev wA := (Ag × Int)
def g84 (n : Nat) (a0 : List Ag) (a1 : Int) : Option wA :=
(g78 n a0).bind fun x41 =>
bif (x41 != (0)) then (
some ((⟨(0), (0), (0), (0), (0), (0)⟩ : Ag), x41)) else (
(sQ n a0).bind fun x44 =>
bif (decide (a1 < x44.1)) then (
some ((⟨(0), (0), (0), (0), (0), (0)⟩ : Ag), (12))) else (
bif (decide (a1 > x44.2)) then (
some ((⟨(0), (0), (0), (0), (0), (0)⟩ : Ag), (12))) else (
(u9 n a0 a1).bind fun x69 =>
some (x69, (0)))))
abbrev eU := (TP)
def wZ (n : Nat) (a0 : TP) (a1 : TP) : Option eU :=
some (⟨(IntKind.wrap .i64 (a0.X - a1.X)), (IntKind.wrap .i64 (a0.Y - a1.Y))⟩ : TP)
abbrev dP := (Int)
def rC (n : Nat) (a0 : TP) (a1 : TP) : Option dP :=
some (IntKind.wrap .i64 ((IntKind.wrap .i64 (a0.X * a1.X)) + (IntKind.wrap .i64 (a0.Y * a1.Y))))
abbrev fF := (Int)
def vZ (n : Nat) (a0 : TP) (a1 : TP) : Option fF :=
(wZ n a0 a1).bind fun x72 =>
(rC n x72 x72).bind fun x73 =>
some (x73)
abbrev Ns := (Int)
def Ru (n : Nat) (a0 : Int) (c2 : Int) (v3 : Int) (v4 : Int) : Option ((Int × Int) ⊕ Ns) :=
bif (decide (v3 < v4)) then (
bif (decide ((IntKind.wrap .i64 ((IntKind.wrap .i64 (v3 + (IntKind.wrap .i64 (Int.tdiv (IntKind.wrap .i64 ((IntKind.wrap .i64 (v4 - v3)) + (1))) (2))))) * (IntKind.wrap .i64 (v3 + (IntKind.wrap .i64 (Int.tdiv (IntKind.wrap .i64 ((IntKind.wrap .i64 (v4 - v3)) + (1))) (2))))))) ≤ a0)) then (
some (.inl ((IntKind.wrap .i64 (v3 + (IntKind.wrap .i64 (Int.tdiv (IntKind.wrap .i64 ((IntKind.wrap .i64 (v4 - v3)) + (1))) (2))))), v4))) else (
some (.inl (v3, (IntKind.wrap .i64 ((IntKind.wrap .i64 (v3 + (IntKind.wrap .i64 (Int.tdiv (IntKind.wrap .i64 ((IntKind.wrap .i64 (v4 - v3)) + (1))) (2))))) - (1))))))) else (
some (.inr (v3)))
def rD (n : Nat) (a0 : Int) : Option Ns :=
bif (decide (a0 ≤ (0))) then (
some (0)) else (
Ba (fun y : Int × Int => Ru n a0 (0) y.1 y.2) n ((0), (3037000499)))
abbrev dJ := (Int × Int)
def rU (n : Nat) (a0 : TP) (a1 : TP) : Option dJ :=
(vZ n a0 a1).bind fun x74 =>
(rD n x74).bind fun x75 =>
bif (decide ((IntKind.wrap .i64 (x75 * x75)) < x74)) then (
some (x75, (IntKind.wrap .i64 (x75 + (1))))) else (
some (x75, x75))
abbrev eH := (Bool)
def tM (n : Nat) (a0 : Ag) (a1 : Ag) (a2 : G7) : Option eH :=
(rU n (⟨a0.A8, a0.A7⟩ : TP) (⟨a1.A8, a1.A7⟩ : TP)).bind fun x76 =>
bif (decide ((IntKind.wrap .i64 ((IntKind.wrap .i64 (x76.1 - a0.Bn)) - a1.Bn)) ≥ a2.Dg)) then (
some (true)) else (
some (decide ((IntKind.wrap .i64 ((IntKind.wrap .i64 ((if (IntKind.wrap .i64 (a1.Ap - a0.Ap)) > (IntKind.wrap .i64 (a0.Ap - a1.Ap)) then (IntKind.wrap .i64 (a1.Ap - a0.Ap)) else (IntKind.wrap .i64 (a0.Ap - a1.Ap))) - a0.C5)) - a1.C5)) ≥ a2.C0)))
abbrev Ni := ((List Bm))
def Qs (n : Nat) (a0 : List Ag) (a1 : List Ag) (c9 : Int) (k0_0 : Int) (k0_1 : Int) (v10 : Int) (L90000 : List Bm) : Option ((Int × List Bm) ⊕ Ni) :=
bif (decide (v10 ≤ c9)) then (
(g84 n a0 v10).bind fun x70 =>
(g84 n a1 v10).bind fun x71 =>
(tM n x70.1 x71.1 (⟨k0_0, k0_1⟩ : G7)).bind fun x77 =>
bif x77 then (
some (.inl ((IntKind.wrap .i64 (v10 + (1))), L90000))) else (
bif (decide ((L90000.length : Int) > (0))) then (
(Bt L90000 (IntKind.wrap .i64 ((L90000.length : Int) - (1)))).bind fun x78 =>
bif (x78.To == v10) then (
(Bt L90000 (IntKind.wrap .i64 ((L90000.length : Int) - (1)))).bind fun x79 =>
some (.inl ((IntKind.wrap .i64 (v10 + (1))), (L90000.set (((IntKind.wrap .i64 ((L90000.length : Int) - (1))) : Int).toNat) (⟨x79.B6, (IntKind.wrap .i64 (v10 + (1)))⟩ : Bm))))) else (
(Gb (L90000.length + ([(⟨v10, (IntKind.wrap .i64 (v10 + (1)))⟩ : Bm)] : List Bm).length) 16).bind fun x81 =>
some (.inl ((IntKind.wrap .i64 (v10 + (1))), (L90000 ++ ([(⟨v10, (IntKind.wrap .i64 (v10 + (1)))⟩ : Bm)] : List Bm)))))) else (
(Gb (L90000.length + ([(⟨v10, (IntKind.wrap .i64 (v10 + (1)))⟩ : Bm)] : List Bm).length) 16).bind fun x83 =>
some (.inl ((IntKind.wrap .i64 (v10 + (1))), (L90000 ++ ([(⟨v10, (IntKind.wrap .i64 (v10 + (1)))⟩ : Bm)] : List Bm))))))) else (
some (.inr (L90000)))
def s9 (n : Nat) (a0 : List Ag) (a1 : List Ag) (a2 : G7) : Option Ni :=
(rE n a0 a1).bind fun x40 =>
Ba (fun y : Int × List Bm => Qs n a0 a1 x40.2 a2.Dg a2.C0 y.1 y.2) n (x40.1, [])
abbrev uO := ((List Bm) × Int)
def g88 (n : Nat) (a0 : List Ag) (a1 : List Ag) (a2 : G7) : Option uO :=
(tZ n a2 ([a0, a1] : List (List Ag))).bind fun x35 =>
bif (x35 != (0)) then (
some ([], x35)) else (
(s9 n a0 a1 a2).bind fun x84 =>
some (x84, (0)))
abbrev sP := (Int × Int)
def g27 (n : Nat) (a0 : List Ag) (a1 : List Ag) (a2 : G7) : Option sP :=
(g88 n a0 a1 a2).bind fun x85 =>
bif (x85.2 != (0)) then (
some ((0), x85.2)) else (
bif ((x85.1.length : Int) == (0)) then (
some ((0), (8))) else (
(Bt x85.1 (0)).bind fun x86 =>
some (x86.B6, (0))))
abbrev Gi := (Int)
def Fm (n : Nat) (c2 : Int) (c10_0 : Int) (c10_1 : Int) (c10_2 : Int) (c10_3 : Int) (c10_4 : Int) (c10_5 : Int) (c10_6 : Int) (c10_7 : Int) (c10_8 : Int) (c10_9 : Int) (c10_10 : Int) (c10_11 : Int) (c10_12 : Int) (c10_13 : Int) (c10_14 : Int) (c10_15 : Int) (v11 : Int) (c14_0 : Int) (c14_1 : Int) (c14_2 : Int) (c14_3 : Int) (w15 : Int) : Option ((Int) ⊕ ((Int) ⊕ Gi)) :=
bif (decide (w15 < (4))) then (
(Bt ([c14_0, c14_1, c14_2, c14_3] : List Int) w15).bind fun x88 =>
bif (decide (x88 < (30))) then (
some (.inr (.inr (4)))) else (
bif (decide (x88 > (600))) then (
some (.inr (.inr (4)))) else (
some (.inl (IntKind.wrap .i64 (w15 + (1))))))) else (
some (.inr (.inl (IntKind.wrap .i64 (v11 + (1))))))
def D3 (n : Nat) (c2 : Int) (v26 : Int) (w29 : Int) (c10_0 : Int) (c10_1 : Int) (c10_2 : Int) (c10_3 : Int) (c10_4 : Int) (c10_5 : Int) (c10_6 : Int) (c10_7 : Int) (c10_8 : Int) (c10_9 : Int) (c10_10 : Int) (c10_11 : Int) (c10_12 : Int) (c10_13 : Int) (c10_14 : Int) (c10_15 : Int) (u32 : Int) : Option ((Int) ⊕ ((Int) ⊕ ((Int) ⊕ Gi))) :=
bif (decide (u32 < (4))) then (
(Bt ([(⟨c10_0, c10_1, c10_2, c10_3⟩ : Dw), (⟨c10_4, c10_5, c10_6, c10_7⟩ : Dw), (⟨c10_8, c10_9, c10_10, c10_11⟩ : Dw), (⟨c10_12, c10_13, c10_14, c10_15⟩ : Dw)] : List Dw) v26).bind fun x89 =>
(Bt ([x89.c0, x89.c1, x89.c2, x89.c3] : List Int) u32).bind fun x90 =>
(Bt ([(⟨c10_0, c10_1, c10_2, c10_3⟩ : Dw), (⟨c10_4, c10_5, c10_6, c10_7⟩ : Dw), (⟨c10_8, c10_9, c10_10, c10_11⟩ : Dw), (⟨c10_12, c10_13, c10_14, c10_15⟩ : Dw)] : List Dw) v26).bind fun x91 =>
(Bt ([x91.c0, x91.c1, x91.c2, x91.c3] : List Int) w29).bind fun x92 =>
(Bt ([(⟨c10_0, c10_1, c10_2, c10_3⟩ : Dw), (⟨c10_4, c10_5, c10_6, c10_7⟩ : Dw), (⟨c10_8, c10_9, c10_10, c10_11⟩ : Dw), (⟨c10_12, c10_13, c10_14, c10_15⟩ : Dw)] : List Dw) w29).bind fun x93 =>
(Bt ([x93.c0, x93.c1, x93.c2, x93.c3] : List Int) u32).bind fun x94 =>
bif (decide (x90 > (IntKind.wrap .i64 (x92 + x94)))) then (
some (.inr (.inr (.inr (3))))) else (
some (.inl (IntKind.wrap .i64 (u32 + (1)))))) else (
some (.inr (.inl (IntKind.wrap .i64 (w29 + (1))))))
def E4 (n : Nat) (c2 : Int) (v26 : Int) (c10_0 : Int) (c10_1 : Int) (c10_2 : Int) (c10_3 : Int) (c10_4 : Int) (c10_5 : Int) (c10_6 : Int) (c10_7 : Int) (c10_8 : Int) (c10_9 : Int) (c10_10 : Int) (c10_11 : Int) (c10_12 : Int) (c10_13 : Int) (c10_14 : Int) (c10_15 : Int) (w29 : Int) : Option ((Int) ⊕ ((Int) ⊕ Gi)) :=
bif (decide (w29 < (4))) then (
Ba (fun y : Int => D3 n c2 v26 w29 c10_0 c10_1 c10_2 c10_3 c10_4 c10_5 c10_6 c10_7 c10_8 c10_9 c10_10 c10_11 c10_12 c10_13 c10_14 c10_15 y) n (0)) else (
some (.inr (.inl (IntKind.wrap .i64 (v26 + (1))))))
def Hd (n : Nat) (c2 : Int) (c10_0 : Int) (c10_1 : Int) (c10_2 : Int) (c10_3 : Int) (c10_4 : Int) (c10_5 : Int) (c10_6 : Int) (c10_7 : Int) (c10_8 : Int) (c10_9 : Int) (c10_10 : Int) (c10_11 : Int) (c10_12 : Int) (c10_13 : Int) (c10_14 : Int) (c10_15 : Int) (v26 : Int) : Option ((Int) ⊕ Gi) :=
bif (decide (v26 < (4))) then (
Ba (fun y : Int => E4 n c2 v26 c10_0 c10_1 c10_2 c10_3 c10_4 c10_5 c10_6 c10_7 c10_8 c10_9 c10_10 c10_11 c10_12 c10_13 c10_14 c10_15 y) n (0)) else (
some (.inr (0)))
def Lx (n : Nat) (c2 : Int) (c10_0 : Int) (c10_1 : Int) (c10_2 : Int) (c10_3 : Int) (c10_4 : Int) (c10_5 : Int) (c10_6 : Int) (c10_7 : Int) (c10_8 : Int) (c10_9 : Int) (c10_10 : Int) (c10_11 : Int) (c10_12 : Int) (c10_13 : Int) (c10_14 : Int) (c10_15 : Int) (v11 : Int) : Option ((Int) ⊕ Gi) :=
bif (decide (v11 < (4))) then (
(Bt ([(⟨c10_0, c10_1, c10_2, c10_3⟩ : Dw), (⟨c10_4, c10_5, c10_6, c10_7⟩ : Dw), (⟨c10_8, c10_9, c10_10, c10_11⟩ : Dw), (⟨c10_12, c10_13, c10_14, c10_15⟩ : Dw)] : List Dw) v11).bind fun x87 =>
Ba (fun y : Int => Fm n c2 c10_0 c10_1 c10_2 c10_3 c10_4 c10_5 c10_6 c10_7 c10_8 c10_9 c10_10 c10_11 c10_12 c10_13 c10_14 c10_15 v11 x87.c0 x87.c1 x87.c2 x87.c3 y) n (0)) else (
((Ba (fun y : Int => Hd n c2 c10_0 c10_1 c10_2 c10_3 c10_4 c10_5 c10_6 c10_7 c10_8 c10_9 c10_10 c10_11 c10_12 c10_13 c10_14 c10_15 y) n (0)).map Sum.inr))
def Zi (n : Nat) (a0 : Ao) : Option Gi :=
Ba (fun y : Int => Lx n (0) a0.Cf a0.Ce a0.Ci a0.Cn a0.Cd a0.Cl a0.Cr a0.Co a0.Cm a0.Ck a0.Ch a0.Cg a0.Cb a0.Cj a0.Cq a0.Cp y) n (0)
abbrev Vv := (Bool)
def Lu (n : Nat) (c2 : Bool) (c14 : List UInt8) (c15 : Int) (v16 : Int) : Option ((Int) ⊕ Vv) :=
bif (decide (v16 < c15)) then (
(Bt c14 v16).bind fun x97 =>
bif (decide ((x97.toNat : Int) ≥ (65))) then (
bif (decide ((x97.toNat : Int) ≤ (90))) then (
some (.inl (IntKind.wrap .i64 (v16 + (1))))) else (
bif (decide (v16 > (0))) then (
bif (decide ((x97.toNat : Int) ≥ (48))) then (
bif (!(decide ((x97.toNat : Int) ≤ (57)))) then (
some (.inr (false))) else (
some (.inl (IntKind.wrap .i64 (v16 + (1)))))) else (
some (.inr (false)))) else (
some (.inr (false))))) else (
bif (decide (v16 > (0))) then (
bif (decide ((x97.toNat : Int) ≥ (48))) then (
bif (!(decide ((x97.toNat : Int) ≤ (57)))) then (
some (.inr (false))) else (
some (.inl (IntKind.wrap .i64 (v16 + (1)))))) else (
some (.inr (false)))) else (
some (.inr (false))))) else (
some (.inr (true)))
def g61 (n : Nat) (a0 : ByteArray) : Option Vv :=
bif (decide ((a0.size : Int) < (1))) then (
some (false)) else (
bif (decide ((a0.size : Int) > (8))) then (
some (false)) else (
(Gb a0.size 1).bind fun x96 =>
Ba (fun y : Int => Lu n false (a0.data.toList) ((a0.data.toList).length : Int) y) n (0)))
abbrev sS := (Int)
def o9 (n : Nat) (a0 : Int) : Option sS :=
bif (decide (a0 < (0))) then (
some (1)) else (
bif (decide (a0 > (3))) then (
some (1)) else (
some (0)))
abbrev bQ := (Bool)
def nS (n : Nat) (a0 : Ad) (a1_0 : ByteArray) (a1_1 : Int) (a1_2 : Int) (a1_3 : Int) : Option bQ :=
some ((a0.Call).toList == (a1_0).toList)
abbrev Nn := (Int)
def Jw (n : Nat) (a0 : List Ad) (a1_0_0 : ByteArray) (a1_0_1 : Int) (a1_0_2 : Int) (a1_0_3 : Int) (c4 : Int) (c7 : Int) (v8 : Int) : Option ((Int) ⊕ Nn) :=
bif (decide (v8 < c7)) then (
(Bt a0 v8).bind fun x101 =>
(nS n x101 a1_0_0 a1_0_1 a1_0_2 a1_0_3).bind fun x102 =>
bif x102 then (
some (.inr (v8))) else (
some (.inl (IntKind.wrap .i64 (v8 + (1)))))) else (
some (.inr (-1)))
def nW (n : Nat) (a0 : List Ad) (a1_0_0 : ByteArray) (a1_0_1 : Int) (a1_0_2 : Int) (a1_0_3 : Int) : Option Nn :=
Ba (fun y : Int => Jw n a0 a1_0_0 a1_0_1 a1_0_2 a1_0_3 (0) (a0.length : Int) y) n (0)
abbrev cK := (Bool)
def jF (n : Nat) (a0 : List Ad) (a1_0_0 : ByteArray) (a1_0_1 : Int) (a1_0_2 : Int) (a1_0_3 : Int) : Option cK :=
(nW n a0 a1_0_0 a1_0_1 a1_0_2 a1_0_3).bind fun x103 =>
some (decide (x103 ≥ (0)))
abbrev Nb := (Int)
def Hn (n : Nat) (a0 : List Ad) (c2 : Int) (c10 : Int) (v11 : Int) : Option ((Int) ⊕ Nb) :=
bif (decide (v11 < c10)) then (
(Bt a0 v11).bind fun x95 =>
(g61 n x95.Call).bind fun x98 =>
bif (!x98) then (
some (.inr (3))) else (
(o9 n x95.Bc).bind fun x99 =>
bif (x99 != (0)) then (
some (.inr (x99))) else (
bif (decide (x95.Time < (0))) then (
some (.inr (12))) else (
bif (decide (x95.Time > x95.Bs)) then (
some (.inr (12))) else (
bif (decide (x95.Bs > (200000))) then (
some (.inr (12))) else (
(Eb a0 none (some v11)).bind fun x100 =>
(jF n x100 x95.Call x95.Bc x95.Time x95.Bs).bind fun x104 =>
bif x104 then (
some (.inr (7))) else (
some (.inl (IntKind.wrap .i64 (v11 + (1))))))))))) else (
some (.inr (0)))
def Wk (n : Nat) (a0 : List Ad) : Option Nb :=
bif (decide ((a0.length : Int) > (8))) then (
some (2)) else (
Ba (fun y : Int => Hn n a0 (0) (a0.length : Int) y) n (0))
abbrev fB := (Bool)
def iE (n : Nat) (a0 : ByteArray) : Option fB :=
some (!((a0).toList == (a0).toList))
abbrev wW := (Int)
def g96 (n : Nat) (a0 : ByteArray) (a1 : ByteArray) : Option wW :=
(iE n a0).bind fun x112 =>
(iE n a1).bind fun x113 =>
bif x112 then (
bif x113 then (
some (0)) else (
some (-1))) else (
bif x113 then (
some (1)) else (
bif (Op.bytesLess (a0).toList (a1).toList) then (
some (-1)) else (
bif (!(Op.bytesLess (a0).toList (a1).toList || (a0).toList == (a1).toList)) then (
some (1)) else (
some (0)))))
abbrev Uu := (Int)
def Po (n : Nat) (c2 : Int) (a0 : List Int) (c7 : Int) (v8 : Int) : Option ((Int) ⊕ Uu) :=
bif (decide (v8 < c7)) then (
(Bt a0 v8).bind fun x115 =>
bif (x115 != c2) then (
some (.inr (x115))) else (
some (.inl (IntKind.wrap .i64 (v8 + (1)))))) else (
some (.inr (c2)))
def g95 (n : Nat) (a0 : List Int) : Option Uu :=
Ba (fun y : Int => Po n (0) a0 (a0.length : Int) y) n (0)
abbrev dZ := (Int)
def Yv (n : Nat) (a0 : Int) (a1 : Int) (a2_0 : List Ad) : Option dZ :=
(Bt a2_0 a0).bind fun x108 =>
(Bt a2_0 a1).bind fun x109 =>
(Bt a2_0 a0).bind fun x110 =>
(Bt a2_0 a1).bind fun x111 =>
(g96 n x110.Call x111.Call).bind fun x114 =>
(g95 n ([(IntKind.wrap .i64 (x108.Time - x109.Time)), x114] : List Int)).bind fun x116 =>
some (x116)
abbrev Ud := ((List Int) × Int)
def Lz (n : Nat) (c3 : Int) (Ho : Int) (a0 : List Ad) (v14 : Int) (L90000 : List Int) : Option ((Int × List Int) ⊕ Ud) :=
bif (decide (v14 < Ho)) then (
(Gb (L90000.length + ([v14] : List Int).length) 8).bind fun x107 =>
some (.inl ((IntKind.wrap .i64 (v14 + (1))), (L90000 ++ ([v14] : List Int))))) else (
(Ia (fun x y => Yv n x y a0) L90000).bind fun x117 =>
some (.inr (x117, (0))))
def gT (n : Nat) (a0 : List Ad) : Option Ud :=
(Wk n a0).bind fun x105 =>
bif (x105 != (0)) then (
some ([], x105)) else (
Ba (fun y : Int × List Int => Lz n (0) (a0.length : Int) a0 y.1 y.2) n ((0), []))
abbrev Nd := (Int)
def Ii (n : Nat) (a0 : List Int) (a1 : Int) (c4 : Int) (c7 : Int) (v8 : Int) : Option ((Int) ⊕ Nd) :=
bif (decide (v8 < c7)) then (
(Bt a0 v8).bind fun x119 =>
bif (a1 == x119) then (
some (.inr (v8))) else (
some (.inl (IntKind.wrap .i64 (v8 + (1)))))) else (
some (.inr (-1)))
def Zw (n : Nat) (a0 : List Int) (a1 : Int) : Option Nd :=
Ba (fun y : Int => Ii n a0 a1 (0) (a0.length : Int) y) n (0)
abbrev Wh := (Int)
def Pp (n : Nat) (a0 : List Int) (c4 : Int) (a1 : List Int) (c10 : Int) (v5 : Int) (v11 : Int) : Option ((Int × Int) ⊕ Wh) :=
bif (decide (v11 < c10)) then (
(Bt a1 v11).bind fun x118 =>
(Zw n a0 x118).bind fun x120 =>
some (.inl ((if (IntKind.wrap .i64 (0 - (IntKind.wrap .i64 (v11 - x120)))) > (if (IntKind.wrap .i64 (v11 - x120)) > v5 then (IntKind.wrap .i64 (v11 - x120)) else v5) then (IntKind.wrap .i64 (0 - (IntKind.wrap .i64 (v11 - x120)))) else (if (IntKind.wrap .i64 (v11 - x120)) > v5 then (IntKind.wrap .i64 (v11 - x120)) else v5)), (IntKind.wrap .i64 (v11 + (1)))))) else (
some (.inr (v5)))
def g43 (n : Nat) (a0 : List Int) (a1 : List Int) : Option Wh :=
Ba (fun y : Int × Int => Pp n a0 (0) a1 (a1.length : Int) y.1 y.2) n ((0), (0))
abbrev eP := (Bool)
def nQ (n : Nat) (a0 : List Int) (a1 : Int) : Option eP :=
(Zw n a0 a1).bind fun x121 =>
some (decide (x121 ≥ (0)))
abbrev ρ5 := (Int)
def g5 (n : Nat) (a0 : Int) (a1 : Int) : Option ρ5 :=
(Z5 (IntKind.wrap .u64 a0) (IntKind.wrap .u64 a1)).bind fun x123 =>
some (IntKind.wrap .i64 x123)
abbrev p9 := (Bool)
def rJ (n : Nat) (a0 : Int) : Option p9 :=
bif (decide (a0 < (0))) then (
some (true)) else (
some (decide (a0 > (200000))))
abbrev T3 := (Int)
def Mb (n : Nat) (a0 : List Ab) (c2 : Int) (c10 : Int) (v11 : Int) : Option ((Int) ⊕ T3) :=
bif (decide (v11 < c10)) then (
(Bt a0 v11).bind fun x131 =>
(rJ n x131.Time).bind fun x132 =>
bif x132 then (
some (.inr (12))) else (
bif (decide (v11 > (0))) then (
(Bt a0 (IntKind.wrap .i64 (v11 - (1)))).bind fun x133 =>
bif (decide (x131.Time < x133.Time)) then (
some (.inr (12))) else (
(o9 n x131.Bc).bind fun x134 =>
bif (x134 != (0)) then (
some (.inr (x134))) else (
bif (x131.End != (0)) then (
bif (x131.End != (1)) then (
some (.inr (1))) else (
some (.inl (IntKind.wrap .i64 (v11 + (1)))))) else (
some (.inl (IntKind.wrap .i64 (v11 + (1)))))))) else (
(o9 n x131.Bc).bind fun x135 =>
bif (x135 != (0)) then (
some (.inr (x135))) else (
bif (x131.End != (0)) then (
bif (x131.End != (1)) then (
some (.inr (1))) else (
some (.inl (IntKind.wrap .i64 (v11 + (1)))))) else (
some (.inl (IntKind.wrap .i64 (v11 + (1))))))))) else (
some (.inr (0)))
def g44 (n : Nat) (a0 : List Ab) : Option T3 :=
bif (decide ((a0.length : Int) > (24))) then (
some (2)) else (
Ba (fun y : Int => Mb n a0 (0) (a0.length : Int) y) n (0))
abbrev U3 := (Int)
def Js (n : Nat) (a0 : List Ah) (c2 : Int) (c14 : Int) (v15 : Int) : Option ((Int) ⊕ U3) :=
bif (decide (v15 < c14)) then (
(Bt a0 v15).bind fun x137 =>
bif (x137.End != (0)) then (
bif (x137.End != (1)) then (
some (.inr (1))) else (
(rJ n x137.B6).bind fun x138 =>
bif x138 then (
some (.inr (12))) else (
bif (decide (v15 > (0))) then (
(Bt a0 (IntKind.wrap .i64 (v15 - (1)))).bind fun x139 =>
bif (decide (x137.B6 < (IntKind.wrap .i64 (x139.B6 + (360))))) then (
some (.inr (12))) else (
bif (decide (v15 > (0))) then (
(Bt a0 (IntKind.wrap .i64 (v15 - (1)))).bind fun x140 =>
bif (x137.End == x140.End) then (
some (.inr (11))) else (
some (.inl (IntKind.wrap .i64 (v15 + (1)))))) else (
some (.inl (IntKind.wrap .i64 (v15 + (1))))))) else (
bif (decide (v15 > (0))) then (
(Bt a0 (IntKind.wrap .i64 (v15 - (1)))).bind fun x141 =>
bif (x137.End == x141.End) then (
some (.inr (11))) else (
some (.inl (IntKind.wrap .i64 (v15 + (1)))))) else (
some (.inl (IntKind.wrap .i64 (v15 + (1))))))))) else (
(rJ n x137.B6).bind fun x142 =>
bif x142 then (
some (.inr (12))) else (
bif (decide (v15 > (0))) then (
(Bt a0 (IntKind.wrap .i64 (v15 - (1)))).bind fun x143 =>
bif (decide (x137.B6 < (IntKind.wrap .i64 (x143.B6 + (360))))) then (
some (.inr (12))) else (
bif (decide (v15 > (0))) then (
(Bt a0 (IntKind.wrap .i64 (v15 - (1)))).bind fun x144 =>
bif (x137.End == x144.End) then (
some (.inr (11))) else (
some (.inl (IntKind.wrap .i64 (v15 + (1)))))) else (
some (.inl (IntKind.wrap .i64 (v15 + (1))))))) else (
bif (decide (v15 > (0))) then (
(Bt a0 (IntKind.wrap .i64 (v15 - (1)))).bind fun x145 =>
bif (x137.End == x145.End) then (
some (.inr (11))) else (
some (.inl (IntKind.wrap .i64 (v15 + (1)))))) else (
some (.inl (IntKind.wrap .i64 (v15 + (1))))))))) else (
some (.inr (0)))
def g45 (n : Nat) (a0 : List Ah) : Option U3 :=
bif (decide ((a0.length : Int) > (24))) then (
some (2)) else (
bif ((a0.length : Int) == (0)) then (
some (8)) else (
Ba (fun y : Int => Js n a0 (0) (a0.length : Int) y) n (0)))
abbrev Vn := (Int × Bool)
def L9 (n : Nat) (a1 : Int) (c4 : Int) (c5 : Bool) (x151 : List Ah) (c21 : Int) (v6 : Int) (v22 : Int) : Option ((Int × Int) ⊕ Vn) :=
bif (decide (v22 < c21)) then (
(Bt x151 v22).bind fun x152 =>
bif (decide ((if (IntKind.wrap .i64 (x152.B6 - a1)) > (IntKind.wrap .i64 (a1 - x152.B6)) then (IntKind.wrap .i64 (x152.B6 - a1)) else (IntKind.wrap .i64 (a1 - x152.B6))) < (180))) then (
some (.inr ((0), false))) else (
bif (decide (x152.B6 ≤ a1)) then (
some (.inl (x152.End, (IntKind.wrap .i64 (v22 + (1)))))) else (
some (.inl (v6, (IntKind.wrap .i64 (v22 + (1)))))))) else (
some (.inr (v6, true)))
def y1 (n : Nat) (a0 : List Ah) (a1 : Int) : Option Vn :=
(Bt a0 (0)).bind fun x149 =>
bif (decide (a1 < x149.B6)) then (
some ((0), false)) else (
(Bt a0 (0)).bind fun x150 =>
(Eb a0 (some (1)) none).bind fun x151 =>
Ba (fun y : Int × Int => L9 n a1 (0) false x151 (x151.length : Int) y.1 y.2) n (x150.End, (0)))
abbrev rG := (Int)
def jW (n : Nat) (a0 : Ao) (a1 : Ab) (a2 : Ab) : Option rG :=
bif (!(a1.Bd == a2.Bd)) then (
some (60)) else (
(Bt ([(⟨a0.Cf, a0.Ce, a0.Ci, a0.Cn⟩ : Dw), (⟨a0.Cd, a0.Cl, a0.Cr, a0.Co⟩ : Dw), (⟨a0.Cm, a0.Ck, a0.Ch, a0.Cg⟩ : Dw), (⟨a0.Cb, a0.Cj, a0.Cq, a0.Cp⟩ : Dw)] : List Dw) a1.Bc).bind fun x157 =>
(Bt ([x157.c0, x157.c1, x157.c2, x157.c3] : List Int) a2.Bc).bind fun x158 =>
some (x158))
abbrev V4 := (Int × Int × Int)
def Mf (n : Nat) (a0 : List Ab) (c6 : Int) (v61 : Int) (c60 : Int) (k0_0 : Int) (k0_1 : Int) (k0_2 : Int) (k0_3 : Int) (k0_4 : Int) (k0_5 : Int) (k0_6 : Int) (k0_7 : Int) (k0_8 : Int) (k0_9 : Int) (k0_10 : Int) (k0_11 : Int) (k0_12 : Int) (k0_13 : Int) (k0_14 : Int) (k0_15 : Int) (k200004_0 : Int) (k200004_1 : Int) (k200004_2 : Bool) (k200004_3 : Int) (w18 : Int) : Option ((Int) ⊕ ((Int) ⊕ V4)) :=
bif (decide (w18 < (a0.length : Int))) then (
(Bt a0 w18).bind fun x155 =>
(Bt a0 w18).bind fun x156 =>
(jW n (⟨k0_0, k0_1, k0_2, k0_3, k0_4, k0_5, k0_6, k0_7, k0_8, k0_9, k0_10, k0_11, k0_12, k0_13, k0_14, k0_15⟩ : Ao) (⟨k200004_0, k200004_1, k200004_2, k200004_3⟩ : Ab) x156).bind fun x159 =>
bif (decide ((IntKind.wrap .i64 (x155.Time - k200004_0)) < x159)) then (
some (.inr (.inr (v61, w18, (15))))) else (
some (.inl (IntKind.wrap .i64 (w18 + (1)))))) else (
some (.inr (.inl (IntKind.wrap .i64 (v61 + (1))))))
def Yf (n : Nat) (a0 : List Ab) (c6 : Int) (c60 : Int) (k0_0 : Int) (k0_1 : Int) (k0_2 : Int) (k0_3 : Int) (k0_4 : Int) (k0_5 : Int) (k0_6 : Int) (k0_7 : Int) (k0_8 : Int) (k0_9 : Int) (k0_10 : Int) (k0_11 : Int) (k0_12 : Int) (k0_13 : Int) (k0_14 : Int) (k0_15 : Int) (v61 : Int) : Option ((Int) ⊕ V4) :=
bif (decide (v61 < c60)) then (
(Bt a0 v61).bind fun x154 =>
Ba (fun y : Int => Mf n a0 c6 v61 c60 k0_0 k0_1 k0_2 k0_3 k0_4 k0_5 k0_6 k0_7 k0_8 k0_9 k0_10 k0_11 k0_12 k0_13 k0_14 k0_15 x154.Time x154.Bc x154.Bd x154.End y) n (IntKind.wrap .i64 (v61 + (1)))) else (
some (.inr ((0), (0), (0))))
def X5 (n : Nat) (a0 : List Ab) (a1 : List Ah) (c6 : Int) (c35 : Int) (k0_0 : Int) (k0_1 : Int) (k0_2 : Int) (k0_3 : Int) (k0_4 : Int) (k0_5 : Int) (k0_6 : Int) (k0_7 : Int) (k0_8 : Int) (k0_9 : Int) (k0_10 : Int) (k0_11 : Int) (k0_12 : Int) (k0_13 : Int) (k0_14 : Int) (k0_15 : Int) (v36 : Int) : Option ((Int) ⊕ V4) :=
bif (decide (v36 < c35)) then (
(Bt a0 v36).bind fun x148 =>
(y1 n a1 x148.Time).bind fun x153 =>
bif (!x153.2) then (
some (.inr (v36, v36, (14)))) else (
bif (x153.1 != x148.End) then (
some (.inr (v36, v36, (14)))) else (
some (.inl (IntKind.wrap .i64 (v36 + (1))))))) else (
((Ba (fun y : Int => Yf n a0 c6 (a0.length : Int) k0_0 k0_1 k0_2 k0_3 k0_4 k0_5 k0_6 k0_7 k0_8 k0_9 k0_10 k0_11 k0_12 k0_13 k0_14 k0_15 y) n (0)).map Sum.inr))
def g7 (n : Nat) (a0 : List Ab) (a1 : List Ah) (a2 : Ao) : Option V4 :=
(g44 n a0).bind fun x136 =>
bif (x136 != (0)) then (
some ((0), (0), x136)) else (
(g45 n a1).bind fun x146 =>
bif (x146 != (0)) then (
some ((0), (0), x146)) else (
(Zi n a2).bind fun x147 =>
bif (x147 != (0)) then (
some ((0), (0), x147)) else (
Ba (fun y : Int => X5 n a0 a1 (0) (a0.length : Int) a2.Cf a2.Ce a2.Ci a2.Cn a2.Cd a2.Cl a2.Cr a2.Co a2.Cm a2.Ck a2.Ch a2.Cg a2.Cb a2.Cj a2.Cq a2.Cp y) n (0))))
abbrev Uz := (Bool)
def Hq (n : Nat) (a0 : List Int) (a1 : Int) (c4 : Bool) (Oh : Int) (v12 : Int) (L90000 : List Bool) : Option ((Int × List Bool) ⊕ Uz) :=
bif (decide (v12 < Oh)) then (
(Bt a0 v12).bind fun x163 =>
bif (decide (x163 < (0))) then (
some (.inr (false))) else (
bif (decide (x163 ≥ a1)) then (
some (.inr (false))) else (
(Bt L90000 x163).bind fun x164 =>
bif x164 then (
some (.inr (false))) else (
(Bt L90000 x163).bind fun x165 =>
some (.inl ((IntKind.wrap .i64 (v12 + (1))), (L90000.set ((x163 : Int).toNat) true))))))) else (
some (.inr ((a0.length : Int) == a1)))
def g48 (n : Nat) (a0 : List Int) (a1 : Int) : Option Uz :=
(Yy a1 1).bind fun x162 =>
Ba (fun y : Int × List Bool => Hq n a0 a1 false (a0.length : Int) y.1 y.2) n ((0), (List.replicate x162 false))
abbrev ρ8 := (Int × Int)
def g8 (n : Nat) (a0 : List Ad) (a1 : List Int) : Option ρ8 :=
(gT n a0).bind fun x161 =>
bif (x161.2 != (0)) then (
some ((0), x161.2)) else (
(g48 n a1 (a0.length : Int)).bind fun x166 =>
bif (!x166) then (
some ((0), (3))) else (
(g43 n x161.1 a1).bind fun x167 =>
some (x167, (0))))
abbrev U0 := (Bool)
def Ly (n : Nat) (c6 : Bool) (a0 : List Ab) (c10 : Int) (k0_0 : Int) (k0_1 : Int) (k0_2 : Bool) (k0_3 : Int) (k1_0 : Int) (k1_1 : Int) (k1_2 : Int) (k1_3 : Int) (k1_4 : Int) (k1_5 : Int) (k1_6 : Int) (k1_7 : Int) (k1_8 : Int) (k1_9 : Int) (k1_10 : Int) (k1_11 : Int) (k1_12 : Int) (k1_13 : Int) (k1_14 : Int) (k1_15 : Int) (v11 : Int) : Option ((Int) ⊕ U0) :=
bif (decide (v11 < c10)) then (
(Bt a0 v11).bind fun x175 =>
bif (decide (x175.Time ≤ k0_0)) then (
(jW n (⟨k1_0, k1_1, k1_2, k1_3, k1_4, k1_5, k1_6, k1_7, k1_8, k1_9, k1_10, k1_11, k1_12, k1_13, k1_14, k1_15⟩ : Ao) x175 (⟨k0_0, k0_1, k0_2, k0_3⟩ : Ab)).bind fun x176 =>
bif (decide ((IntKind.wrap .i64 (k0_0 - x175.Time)) < x176)) then (
some (.inr (false))) else (
bif (decide (x175.Time ≥ k0_0)) then (
(jW n (⟨k1_0, k1_1, k1_2, k1_3, k1_4, k1_5, k1_6, k1_7, k1_8, k1_9, k1_10, k1_11, k1_12, k1_13, k1_14, k1_15⟩ : Ao) (⟨k0_0, k0_1, k0_2, k0_3⟩ : Ab) x175).bind fun x177 =>
bif (decide ((IntKind.wrap .i64 (x175.Time - k0_0)) < x177)) then (
some (.inr (false))) else (
some (.inl (IntKind.wrap .i64 (v11 + (1)))))) else (
some (.inl (IntKind.wrap .i64 (v11 + (1))))))) else (
bif (decide (x175.Time ≥ k0_0)) then (
(jW n (⟨k1_0, k1_1, k1_2, k1_3, k1_4, k1_5, k1_6, k1_7, k1_8, k1_9, k1_10, k1_11, k1_12, k1_13, k1_14, k1_15⟩ : Ao) (⟨k0_0, k0_1, k0_2, k0_3⟩ : Ab) x175).bind fun x178 =>
bif (decide ((IntKind.wrap .i64 (x175.Time - k0_0)) < x178)) then (
some (.inr (false))) else (
some (.inl (IntKind.wrap .i64 (v11 + (1)))))) else (
some (.inl (IntKind.wrap .i64 (v11 + (1))))))) else (
some (.inr (true)))
def g51 (n : Nat) (a0 : List Ab) (a1 : Ab) (a2 : Ao) : Option U0 :=
Ba (fun y : Int => Ly n false a0 (a0.length : Int) a1.Time a1.Bc a1.Bd a1.End a2.Cf a2.Ce a2.Ci a2.Cn a2.Cd a2.Cl a2.Cr a2.Co a2.Cm a2.Ck a2.Ch a2.Cg a2.Cb a2.Cj a2.Cq a2.Cp y) n (0)
abbrev uP := (Bool)
def g53 (n : Nat) (a0 : Ab) (a1_0 : Int) (a1_1 : Int) (a1_2 : Bool) (a1_3 : Int) : Option uP :=
some (decide (a0.Time > a1_0))
abbrev Jv := (Int)
def Q9 (n : Nat) (a0 : List Ab) (a1_0_0 : Int) (a1_0_1 : Int) (a1_0_2 : Bool) (a1_0_3 : Int) (c4 : Int) (c7 : Int) (v8 : Int) : Option ((Int) ⊕ Jv) :=
bif (decide (v8 < c7)) then (
(Bt a0 v8).bind fun x180 =>
(g53 n x180 a1_0_0 a1_0_1 a1_0_2 a1_0_3).bind fun x181 =>
bif x181 then (
some (.inr (v8))) else (
some (.inl (IntKind.wrap .i64 (v8 + (1)))))) else (
some (.inr (-1)))
def yQ (n : Nat) (a0 : List Ab) (a1_0_0 : Int) (a1_0_1 : Int) (a1_0_2 : Bool) (a1_0_3 : Int) : Option Jv :=
Ba (fun y : Int => Q9 n a0 a1_0_0 a1_0_1 a1_0_2 a1_0_3 (0) (a0.length : Int) y) n (0)
abbrev fC := ((List Ab) × Int)
def Jr (n : Nat) (a1 : List Ah) (c9 : Int) (a3 : List Av) (c41 : Int) (v42 : Int) (k0_0 : Int) (k0_1 : Int) (k0_2 : Int) (k0_3 : Int) (k0_4 : Int) (k0_5 : Int) (k0_6 : Int) (k0_7 : Int) (k0_8 : Int) (k0_9 : Int) (k0_10 : Int) (k0_11 : Int) (k0_12 : Int) (k0_13 : Int) (k0_14 : Int) (k0_15 : Int) (L90000 : List Ab) (bw100145_0 : Int) (bw100145_1 : Int) (bw100145_2 : Bool) (bw100145_3 : Int) : Option ((List Ab × Int × Int × Bool × Int) ⊕ ((Int × List Ab) ⊕ fC)) :=
bif (decide (bw100145_0 ≤ (200000))) then (
(y1 n a1 bw100145_0).bind fun x174 =>
bif x174.2 then (
(g51 n L90000 (⟨bw100145_0, bw100145_1, bw100145_2, bw100145_3⟩ : Ab) (⟨k0_0, k0_1, k0_2, k0_3, k0_4, k0_5, k0_6, k0_7, k0_8, k0_9, k0_10, k0_11, k0_12, k0_13, k0_14, k0_15⟩ : Ao)).bind fun x179 =>
bif x179 then (
bif (decide (bw100145_0 > (200000))) then (
some (.inr (.inr ([], (8))))) else (
(yQ n L90000 bw100145_0 bw100145_1 bw100145_2 x174.1).bind fun x182 =>
bif (decide (x182 < (0))) then (
(Rq 32 L90000 (L90000.length : Int) ([(⟨bw100145_0, bw100145_1, bw100145_2, x174.1⟩ : Ab)] : List Ab)).bind fun x183 =>
some (.inr (.inl ((IntKind.wrap .i64 (v42 + (1))), x183)))) else (
(Rq 32 L90000 x182 ([(⟨bw100145_0, bw100145_1, bw100145_2, x174.1⟩ : Ab)] : List Ab)).bind fun x184 =>
some (.inr (.inl ((IntKind.wrap .i64 (v42 + (1))), x184)))))) else (
some (.inl (L90000, (IntKind.wrap .i64 (bw100145_0 + (1))), bw100145_1, bw100145_2, bw100145_3)))) else (
some (.inl (L90000, (IntKind.wrap .i64 (bw100145_0 + (1))), bw100145_1, bw100145_2, bw100145_3)))) else (
bif (decide (bw100145_0 > (200000))) then (
some (.inr (.inr ([], (8))))) else (
(yQ n L90000 bw100145_0 bw100145_1 bw100145_2 bw100145_3).bind fun x185 =>
bif (decide (x185 < (0))) then (
(Rq 32 L90000 (L90000.length : Int) ([(⟨bw100145_0, bw100145_1, bw100145_2, bw100145_3⟩ : Ab)] : List Ab)).bind fun x186 =>
some (.inr (.inl ((IntKind.wrap .i64 (v42 + (1))), x186)))) else (
(Rq 32 L90000 x185 ([(⟨bw100145_0, bw100145_1, bw100145_2, bw100145_3⟩ : Ab)] : List Ab)).bind fun x187 =>
some (.inr (.inl ((IntKind.wrap .i64 (v42 + (1))), x187))))))
def R4 (n : Nat) (a1 : List Ah) (c9 : Int) (a3 : List Av) (c41 : Int) (k0_0 : Int) (k0_1 : Int) (k0_2 : Int) (k0_3 : Int) (k0_4 : Int) (k0_5 : Int) (k0_6 : Int) (k0_7 : Int) (k0_8 : Int) (k0_9 : Int) (k0_10 : Int) (k0_11 : Int) (k0_12 : Int) (k0_13 : Int) (k0_14 : Int) (k0_15 : Int) (v42 : Int) (L90000 : List Ab) : Option ((Int × List Ab) ⊕ fC) :=
bif (decide (v42 < c41)) then (
(Bt a3 v42).bind fun x171 =>
(rJ n x171.Time).bind fun x172 =>
bif x172 then (
some (.inr ([], (12)))) else (
(o9 n x171.Bc).bind fun x173 =>
bif (x173 != (0)) then (
some (.inr ([], x173))) else (
Ba (fun y : List Ab × Int × Int × Bool × Int => Jr n a1 c9 a3 c41 v42 k0_0 k0_1 k0_2 k0_3 k0_4 k0_5 k0_6 k0_7 k0_8 k0_9 k0_10 k0_11 k0_12 k0_13 k0_14 k0_15 y.1 y.2.1 y.2.2.1 y.2.2.2.1 y.2.2.2.2) n (L90000, x171.Time, x171.Bc, true, (0))))) else (
some (.inr (L90000, (0))))
def g9 (n : Nat) (a0 : List Ab) (a1 : List Ah) (a2 : Ao) (a3 : List Av) : Option fC :=
(g7 n a0 a1 a2).bind fun x169 =>
bif (x169.2.2 != (0)) then (
some ([], x169.2.2)) else (
bif (decide ((IntKind.wrap .i64 ((a0.length : Int) + (a3.length : Int))) > (24))) then (
some ([], (2))) else (
(Gb a0.length 32).bind fun x170 =>
Ba (fun y : Int × List Ab => R4 n a1 (0) a3 (a3.length : Int) a2.Cf a2.Ce a2.Ci a2.Cn a2.Cd a2.Cl a2.Cr a2.Co a2.Cm a2.Ck a2.Ch a2.Cg a2.Cb a2.Cj a2.Cq a2.Cp y.1 y.2) n ((0), a0)))
abbrev Wj := (Bool)
def L5 (n : Nat) (a0 : List Ab) (a1 : List Ab) (c4 : Bool) (Q6 : Int) (v13 : Int) : Option ((Int) ⊕ Wj) :=
bif (decide (v13 < Q6)) then (
(Bt a0 v13).bind fun x205 =>
(Bt a1 v13).bind fun x206 =>
bif (!(decide (x205 = x206))) then (
some (.inr (false))) else (
some (.inl (IntKind.wrap .i64 (v13 + (1)))))) else (
some (.inr (true)))
def g13 (n : Nat) (a0 : List Ab) (a1 : List Ab) : Option Wj :=
bif ((a0.length : Int) != (a1.length : Int)) then (
some (false)) else (
Ba (fun y : Int => L5 n a0 a1 false (a0.length : Int) y) n (0))
abbrev tK := (Bool)
def g12 (n : Nat) (a0 : Ab) : Option tK :=
some (a0.Bd)
def Gy (n : Nat) (a0 : List Ab) (c4 : Int) (c7 : Int) (v8 : Int) : Option ((Int) ⊕ Jv) :=
bif (decide (v8 < c7)) then (
(Bt a0 v8).bind fun x208 =>
(g12 n x208).bind fun x209 =>
bif x209 then (
some (.inr (v8))) else (
some (.inl (IntKind.wrap .i64 (v8 + (1)))))) else (
some (.inr (-1)))
def Tp (n : Nat) (a0 : List Ab) : Option Jv :=
Ba (fun y : Int => Gy n a0 (0) (a0.length : Int) y) n (0)
abbrev U1 := ((List Ab))
def Jc (n : Nat) (v5 : Int) (v6 : Int) (L90000 : List Ab) : Option ((Int × Int × List Ab) ⊕ U1) :=
bif (decide (v6 < (L90000.length : Int))) then (
(Bt L90000 v6).bind fun x211 =>
(g12 n x211).bind fun x212 =>
bif (!x212) then (
(Bt L90000 v5).bind fun x213 =>
some (.inl ((IntKind.wrap .i64 (v5 + (1))), (IntKind.wrap .i64 (v6 + (1))), (L90000.set ((v5 : Int).toNat) x211)))) else (
some (.inl (v5, (IntKind.wrap .i64 (v6 + (1))), L90000)))) else (
(Eb L90000 (some v5) none).bind fun x214 =>
(neO x214).bind fun x215 =>
(Eb (Ls ((⟨(0), (0), false, (0)⟩ : Ab) : Ab) L90000 x214 ((v5 : Int).toNat)) none (some v5)).bind fun x216 =>
some (.inr x216))
def g10 (n : Nat) (a0 : List Ab) : Option U1 :=
(Tp n a0).bind fun x210 =>
bif (x210 == (-1)) then (
some a0) else (
Ba (fun y : Int × Int × List Ab => Jc n y.1 y.2.1 y.2.2) n (x210, (IntKind.wrap .i64 (x210 + (1))), a0))
abbrev Lv := Option (List Int × List Int × Int × Int)
def P2 (l : List Ad) : List Int → List Int → Int → Option Int
  | [], _, s => some s
  | k :: o, x :: xs, s => (Bt l k).bind fun a => P2 l o xs (IntKind.wrap .i64 (s + IntKind.wrap .i64 (x - a.Time)))
  | _ :: _, [], _ => none
def jQ (n : Nat) (l : List Ad) (t : Ao) (nat : List Int) (most : Int) (s : Lv) (o : List Int) : Option Lv :=
  (qD n l o t).bind fun r => bif !r.2 then some s else
  (g43 n nat o).bind fun d => bif decide (d > most) then some s else
  r.1.getLast?.bind fun e => (P2 l o r.1 0).bind fun z => match s with
    | none => some (some (o, r.1, e, z))
    | some (b, a, e0, z0) => if e < e0 ∨ (e = e0 ∧ z < z0) then some (some (o, r.1, e, z)) else some s
def Wp {σ : Type} (N : Nat) (vis : σ → List Int → Option σ) : Nat → List Int → σ → Option σ
  | 0, o, s => vis s o
  | k + 1, o, s => (List.range N).foldlM (fun s (i : Nat) => if ((i : Nat) : Int) ∈ o then some s else Wp N vis k (o ++ [((i : Nat) : Int)]) s) s
abbrev ρ6 := List Int × List Int × Int
def g6 (n : Nat) (l : List Ad) (t : Ao) (most : Int) : Option ρ6 :=
  (gT n l).bind fun q => bif q.2 != 0 then some ([], [], q.2) else
  (Zi n t).bind fun e => bif e != 0 then some ([], [], e) else
  bif decide (most < 0) then some ([], [], 4) else bif decide (most > 8) then some ([], [], 4) else
  bif l.length == 0 then some ([], [], 0) else
  if l.length ≤ 8 then (Wp l.length (jQ n l t q.1 most) l.length [] none).bind fun s => match s with
    | none => some ([], [], 8)
    | some (o, x, _, _) => some (o, x, 0)
  else none
abbrev ρ4 := Bool
def g4 (n : Nat) : Option ρ4 := some true
abbrev tV := (Bool)
def jE (n : Nat) (a0 : List Ad) (x124 : Int) (a3 : List Av) (c8 : Bool) (c9 : List Int) (c10 : List Int) (c68 : Int) (k0_0 : Int) (k0_1 : Int) (k0_2 : Int) (k0_3 : Int) (k0_4 : Int) (k0_5 : Int) (k0_6 : Int) (k0_7 : Int) (k0_8 : Int) (k0_9 : Int) (k0_10 : Int) (k0_11 : Int) (k0_12 : Int) (k0_13 : Int) (k0_14 : Int) (k0_15 : Int) (v69 : Int) (L90000 : List Ab) : Option ((Int × List Ab) ⊕ tV) :=
bif (decide (v69 < c68)) then (
(Bt c9 v69).bind fun x126 =>
bif (decide (x126 < (0))) then (
some (.inr (false))) else (
bif (decide (x126 ≥ (a0.length : Int))) then (
some (.inr (false))) else (
(Bt c10 v69).bind fun x127 =>
(Bt a0 x126).bind fun x128 =>
(Gb (L90000.length + ([(⟨x127, x128.Bc, false, (0)⟩ : Ab)] : List Ab).length) 32).bind fun x130 =>
some (.inl ((IntKind.wrap .i64 (v69 + (1))), (L90000 ++ ([(⟨x127, x128.Bc, false, (0)⟩ : Ab)] : List Ab))))))) else (
(g7 n L90000 ([(⟨(0), (0)⟩ : Ah)] : List Ah) (⟨k0_0, k0_1, k0_2, k0_3, k0_4, k0_5, k0_6, k0_7, k0_8, k0_9, k0_10, k0_11, k0_12, k0_13, k0_14, k0_15⟩ : Ao)).bind fun x160 =>
(g8 n a0 c9).bind fun x168 =>
(g9 n L90000 ([(⟨(0), (0)⟩ : Ah)] : List Ah) (⟨k0_0, k0_1, k0_2, k0_3, k0_4, k0_5, k0_6, k0_7, k0_8, k0_9, k0_10, k0_11, k0_12, k0_13, k0_14, k0_15⟩ : Ao) a3).bind fun x188 =>
bif (x160.2.2 != (0)) then (
some (.inr (false))) else (
bif (x168.2 != (0)) then (
some (.inr (false))) else (
bif (decide (x168.1 > x124)) then (
some (.inr (false))) else (
bif (x188.2 != (0)) then (
some (.inr ((x188.1.length : Int) == (0)))) else (
(g7 n x188.1 ([(⟨(0), (0)⟩ : Ah)] : List Ah) (⟨k0_0, k0_1, k0_2, k0_3, k0_4, k0_5, k0_6, k0_7, k0_8, k0_9, k0_10, k0_11, k0_12, k0_13, k0_14, k0_15⟩ : Ao)).bind fun x202 =>
(Gb x188.1.length 32).bind fun x203 =>
bif (x188.1).isEmpty then (
bif (x202.2.2 == (0)) then (
(g13 n ([] : List Ab) L90000).bind fun x207 =>
some (.inr (x207))) else (
some (.inr (false)))) else (
(neO x188.1).bind fun x217 =>
(g10 n x188.1).bind fun x218 =>
bif (x202.2.2 == (0)) then (
(g13 n x218 L90000).bind fun x219 =>
some (.inr (x219))) else (
some (.inr (false)))))))))
def g3 (n : Nat) (a0 : List Ad) (a1 : Ao) (a2 : Int) (a3 : List Av) : Option tV :=
(g4 n).bind fun x122 =>
bif (!x122) then (
some (false)) else (
bif (decide ((a0.length : Int) > (6))) then (
some (true)) else (
bif (decide ((a3.length : Int) > (8))) then (
some (true)) else (
(g5 n a2 (4)).bind fun x124 =>
(g6 n a0 a1 x124).bind fun x125 =>
bif (x125.2.2 != (0)) then (
some ((IntKind.wrap .i64 ((x125.1.length : Int) + (x125.2.1.length : Int))) == (0))) else (
bif ((x125.1.length : Int) != (a0.length : Int)) then (
some (false)) else (
bif ((x125.2.1.length : Int) != (a0.length : Int)) then (
some (false)) else (
Ba (fun y : Int × List Ab => jE n a0 x124 a3 false x125.1 x125.2.1 (x125.1.length : Int) a1.Cf a1.Ce a1.Ci a1.Cn a1.Cd a1.Cl a1.Cr a1.Co a1.Cm a1.Ck a1.Ch a1.Cg a1.Cb a1.Cj a1.Cq a1.Cp y.1 y.2) n ((0), [])))))))
end Go.Proofs.YtbfabclpcamlnaaGreatDoor
