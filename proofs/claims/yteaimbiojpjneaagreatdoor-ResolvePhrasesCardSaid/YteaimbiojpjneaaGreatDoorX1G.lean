/- Plain functional programs out of the program's functions; printed by wip/Ext.lean.txt. -/
import Derived.Test.YteaimbiojpjneaaGreatDoorX1T
import Derived.Test.YteaimbiojpjneaaGreatDoorPJ
import Derived.Test.YteaimbiojpjneaaGreatDoorPL
import Derived.Test.YteaimbiojpjneaaGreatDoorPn
set_option linter.unusedVariables false
set_option linter.unusedSimpArgs false
set_option maxRecDepth 100000
set_option maxHeartbeats 4000000
namespace Go.Proofs.YteaimbiojpjneaaGreatDoor
abbrev ρ43 := (Int)
def g43 (n : Nat) (a0 : TSep) : Option ρ43 :=
bif (decide (a0.Lateral < (0))) then (
some (4)) else (
bif (decide (a0.Lateral > (1000000))) then (
some (4)) else (
bif (decide (a0.Vertical < (0))) then (
some (4)) else (
bif (decide (a0.Vertical > (60000))) then (
some (4)) else (
some (0)))))
abbrev ρ38 := (Int)
def g38 (n : Nat) (a0 : TP) : Option ρ38 :=
bif (decide (a0.X < (-1000000))) then (
some (4)) else (
bif (decide (a0.X > (1000000))) then (
some (4)) else (
bif (decide (a0.Y < (-1000000))) then (
some (4)) else (
bif (decide (a0.Y > (1000000))) then (
some (4)) else (
some (0)))))
abbrev ρ24 := (Int)
def S24_0 (n : Nat) (a0 : List TTubeNode) (c2 : Int) (c15 : Int) (v16 : Int) : Option ((Int) ⊕ ρ24) :=
bif (decide (v16 < c15)) then (
(getI a0 v16).bind fun x0 =>
bif (decide (x0.Node_Time < (0))) then (
some (.inr (12))) else (
bif (decide (x0.Node_Time > (200000))) then (
some (.inr (12))) else (
bif (decide (v16 > (0))) then (
(getI a0 (IntKind.wrap .i64 (v16 - (1)))).bind fun x1 =>
bif (decide (x0.Node_Time ≤ x1.Node_Time)) then (
some (.inr (12))) else (
(g38 n (⟨x0.Node_At_X, x0.Node_At_Y⟩ : TP)).bind fun x2 =>
bif (x2 != (0)) then (
some (.inr (x2))) else (
bif (decide (x0.Node_Height < (0))) then (
some (.inr (4))) else (
bif (decide (x0.Node_Height > (60000))) then (
some (.inr (4))) else (
bif (decide (x0.Radius < (0))) then (
some (.inr (4))) else (
bif (decide (x0.Radius > (1000000))) then (
some (.inr (4))) else (
bif (decide (x0.Band < (0))) then (
some (.inr (4))) else (
bif (decide (x0.Band > (60000))) then (
some (.inr (4))) else (
some (.inl (IntKind.wrap .i64 (v16 + (1))))))))))))) else (
(g38 n (⟨x0.Node_At_X, x0.Node_At_Y⟩ : TP)).bind fun x3 =>
bif (x3 != (0)) then (
some (.inr (x3))) else (
bif (decide (x0.Node_Height < (0))) then (
some (.inr (4))) else (
bif (decide (x0.Node_Height > (60000))) then (
some (.inr (4))) else (
bif (decide (x0.Radius < (0))) then (
some (.inr (4))) else (
bif (decide (x0.Radius > (1000000))) then (
some (.inr (4))) else (
bif (decide (x0.Band < (0))) then (
some (.inr (4))) else (
bif (decide (x0.Band > (60000))) then (
some (.inr (4))) else (
some (.inl (IntKind.wrap .i64 (v16 + (1))))))))))))))) else (
some (.inr (0)))
def g24 (n : Nat) (a0 : List TTubeNode) : Option ρ24 :=
bif (decide ((a0.length : Int) > (64))) then (
some (2)) else (
bif ((a0.length : Int) == (0)) then (
some (3)) else (
iterO (fun y : Int => S24_0 n a0 (0) (a0.length : Int) y) n (0)))
abbrev ρ44 := (Int)
def S44_0 (n : Nat) (c4 : Int) (a1 : List (List TTubeNode)) (c15 : Int) (v16 : Int) : Option ((Int) ⊕ ρ44) :=
bif (decide (v16 < c15)) then (
(getI a1 v16).bind fun x5 =>
(g24 n x5).bind fun x6 =>
bif (x6 != (0)) then (
some (.inr (x6))) else (
some (.inl (IntKind.wrap .i64 (v16 + (1)))))) else (
some (.inr (0)))
def g44 (n : Nat) (a0 : TSep) (a1 : List (List TTubeNode)) : Option ρ44 :=
(g43 n a0).bind fun x4 =>
bif (x4 != (0)) then (
some (x4)) else (
iterO (fun y : Int => S44_0 n (0) a1 (a1.length : Int) y) n (0))
abbrev ρ64 := (Int × Int)
def g64 (n : Nat) (a0 : List TTubeNode) (a1 : List TTubeNode) : Option ρ64 :=
(getI a0 (0)).bind fun x8 =>
(getI a1 (0)).bind fun x9 =>
(getI a0 (IntKind.wrap .i64 ((a0.length : Int) - (1)))).bind fun x10 =>
(getI a1 (IntKind.wrap .i64 ((a1.length : Int) - (1)))).bind fun x11 =>
some ((if x9.Node_Time > x8.Node_Time then x9.Node_Time else x8.Node_Time), (if x11.Node_Time < x10.Node_Time then x11.Node_Time else x10.Node_Time))
abbrev ρ52 := (Int × Int)
def g52 (n : Nat) (a0 : List TTubeNode) : Option ρ52 :=
(getI a0 (0)).bind fun x14 =>
(getI a0 (IntKind.wrap .i64 ((a0.length : Int) - (1)))).bind fun x15 =>
some (x14.Node_Time, x15.Node_Time)
abbrev ρ69 := (Int)
def g69 (n : Nat) (a0 : TTubeNode) (a1 : Int) : Option ρ69 :=
some (IntKind.wrap .i64 (a0.Node_Time - a1))
abbrev ρ68 := (Int × Bool)
def S68_0 (n : Nat) (a0 : List TTubeNode) (a1 : Int) (c6 : Int) (c7 : Bool) (c8 : Int) (v9 : Int) (v10 : Int) : Option ((Int × Int) ⊕ ρ68) :=
bif (decide (v9 < v10)) then (
(getI a0 (IntKind.wrap .i64 (Int.fdiv (IntKind.wrap .u64 (IntKind.wrap .i64 (v9 + v10))) 2))).bind fun x17 =>
(g69 n x17 a1).bind fun x18 =>
bif (decide (x18 < (0))) then (
some (.inl ((IntKind.wrap .i64 ((IntKind.wrap .i64 (Int.fdiv (IntKind.wrap .u64 (IntKind.wrap .i64 (v9 + v10))) 2)) + (1))), v10))) else (
some (.inl (v9, (IntKind.wrap .i64 (Int.fdiv (IntKind.wrap .u64 (IntKind.wrap .i64 (v9 + v10))) 2)))))) else (
bif (decide (v9 < c8)) then (
(getI a0 v9).bind fun x19 =>
(g69 n x19 a1).bind fun x20 =>
some (.inr (v9, (x20 == (0))))) else (
some (.inr (v9, false))))
def g68 (n : Nat) (a0 : List TTubeNode) (a1 : Int) : Option ρ68 :=
iterO (fun y : Int × Int => S68_0 n a0 a1 (0) false (a0.length : Int) y.1 y.2) n ((0), (a0.length : Int))
abbrev ρ71 := (Int × Int)
def g71 (n : Nat) (a0 : Int) (a1 : Int) : Option ρ71 :=
bif (a1 == (0)) then (
some ((0), (10))) else (
bif (a0 == (-9223372036854775808)) then (
bif (a1 == (-1)) then (
some ((0), (2))) else (
(divO a0 a1).bind fun x29 =>
(modO a0 a1).bind fun x30 =>
bif (x30 != (0)) then (
bif (!((decide (a0 < (0))) == (decide (a1 < (0))))) then (
some ((IntKind.wrap .i64 ((IntKind.wrap .i64 x29) - (1))), (0))) else (
some ((IntKind.wrap .i64 x29), (0)))) else (
some ((IntKind.wrap .i64 x29), (0))))) else (
(divO a0 a1).bind fun x31 =>
(modO a0 a1).bind fun x32 =>
bif (x32 != (0)) then (
bif (!((decide (a0 < (0))) == (decide (a1 < (0))))) then (
some ((IntKind.wrap .i64 ((IntKind.wrap .i64 x31) - (1))), (0))) else (
some ((IntKind.wrap .i64 x31), (0)))) else (
some ((IntKind.wrap .i64 x31), (0)))))
abbrev ρ70 := (TP × Int)
def g70 (n : Nat) (a0 : TP) (a1 : TP) (a2 : Int) (a3 : Int) : Option ρ70 :=
bif (decide (a3 ≤ (0))) then (
some ((⟨(0), (0)⟩ : TP), (10))) else (
bif (decide (a3 > (200000))) then (
some ((⟨(0), (0)⟩ : TP), (4))) else (
bif (decide (a2 < (0))) then (
some ((⟨(0), (0)⟩ : TP), (4))) else (
bif (decide (a2 > a3)) then (
some ((⟨(0), (0)⟩ : TP), (4))) else (
(g38 n a0).bind fun x25 =>
bif (x25 != (0)) then (
(g38 n a0).bind fun x26 =>
some ((⟨(0), (0)⟩ : TP), x26)) else (
(g38 n a1).bind fun x27 =>
bif (x27 != (0)) then (
(g38 n a1).bind fun x28 =>
some ((⟨(0), (0)⟩ : TP), x28)) else (
(g71 n (IntKind.wrap .i64 ((IntKind.wrap .i64 (a1.X - a0.X)) * a2)) a3).bind fun x33 =>
(g71 n (IntKind.wrap .i64 ((IntKind.wrap .i64 (a1.Y - a0.Y)) * a2)) a3).bind fun x34 =>
some ((⟨(IntKind.wrap .i64 (a0.X + x33.1)), (IntKind.wrap .i64 (a0.Y + x34.1))⟩ : TP), (0))))))))
abbrev ρ72 := (Int × Int)
def g72 (n : Nat) (a0 : Int) (a1 : Int) : Option ρ72 :=
(g71 n a0 a1).bind fun x37 =>
bif (x37.2 == (0)) then (
(modO a0 a1).bind fun x38 =>
bif (x38 != (0)) then (
some ((IntKind.wrap .i64 (x37.1 + (1))), x37.2)) else (
some (x37.1, x37.2))) else (
some (x37.1, x37.2))
abbrev ρ53 := (TTubeNode)
def g53 (n : Nat) (a0 : List TTubeNode) (a1 : Int) : Option ρ53 :=
(g68 n a0 a1).bind fun x21 =>
bif x21.2 then (
(getI a0 x21.1).bind fun x22 =>
some (x22)) else (
(getI a0 (IntKind.wrap .i64 (x21.1 - (1)))).bind fun x23 =>
(getI a0 x21.1).bind fun x24 =>
(g70 n (⟨x23.Node_At_X, x23.Node_At_Y⟩ : TP) (⟨x24.Node_At_X, x24.Node_At_Y⟩ : TP) (IntKind.wrap .i64 (a1 - x23.Node_Time)) (IntKind.wrap .i64 (x24.Node_Time - x23.Node_Time))).bind fun x35 =>
(g71 n (IntKind.wrap .i64 ((IntKind.wrap .i64 (x24.Node_Height - x23.Node_Height)) * (IntKind.wrap .i64 (a1 - x23.Node_Time)))) (IntKind.wrap .i64 (x24.Node_Time - x23.Node_Time))).bind fun x36 =>
(g72 n (IntKind.wrap .i64 ((IntKind.wrap .i64 (x24.Radius - x23.Radius)) * (IntKind.wrap .i64 (a1 - x23.Node_Time)))) (IntKind.wrap .i64 (x24.Node_Time - x23.Node_Time))).bind fun x39 =>
(g72 n (IntKind.wrap .i64 ((IntKind.wrap .i64 (x24.Band - x23.Band)) * (IntKind.wrap .i64 (a1 - x23.Node_Time)))) (IntKind.wrap .i64 (x24.Node_Time - x23.Node_Time))).bind fun x40 =>
some (⟨a1, x35.1.X, x35.1.Y, (IntKind.wrap .i64 (x23.Node_Height + x36.1)), (IntKind.wrap .i64 (x23.Radius + x39.1)), (IntKind.wrap .i64 (x23.Band + x40.1))⟩ : TTubeNode))
abbrev ρ26 := (TTubeNode × Int)
def g26 (n : Nat) (a0 : List TTubeNode) (a1 : Int) : Option ρ26 :=
(g24 n a0).bind fun x13 =>
bif (x13 != (0)) then (
some ((⟨(0), (0), (0), (0), (0), (0)⟩ : TTubeNode), x13)) else (
(g52 n a0).bind fun x16 =>
bif (decide (a1 < x16.1)) then (
some ((⟨(0), (0), (0), (0), (0), (0)⟩ : TTubeNode), (12))) else (
bif (decide (a1 > x16.2)) then (
some ((⟨(0), (0), (0), (0), (0), (0)⟩ : TTubeNode), (12))) else (
(g53 n a0 a1).bind fun x41 =>
some (x41, (0)))))
abbrev ρ55 := (TP)
def g55 (n : Nat) (a0 : TP) (a1 : TP) : Option ρ55 :=
some (⟨(IntKind.wrap .i64 (a0.X - a1.X)), (IntKind.wrap .i64 (a0.Y - a1.Y))⟩ : TP)
abbrev ρ103 := (Int)
def g103 (n : Nat) (a0 : TP) (a1 : TP) : Option ρ103 :=
some (IntKind.wrap .i64 ((IntKind.wrap .i64 (a0.X * a1.X)) + (IntKind.wrap .i64 (a0.Y * a1.Y))))
abbrev ρ77 := (Int)
def g77 (n : Nat) (a0 : TP) (a1 : TP) : Option ρ77 :=
(g55 n a0 a1).bind fun x44 =>
(g103 n x44 x44).bind fun x45 =>
some (x45)
abbrev ρ78 := (Int)
def S78_0 (n : Nat) (a0 : Int) (c2 : Int) (v3 : Int) (v4 : Int) : Option ((Int × Int) ⊕ ρ78) :=
bif (decide (v3 < v4)) then (
bif (decide ((IntKind.wrap .i64 ((IntKind.wrap .i64 (v3 + (IntKind.wrap .i64 (Int.tdiv (IntKind.wrap .i64 ((IntKind.wrap .i64 (v4 - v3)) + (1))) (2))))) * (IntKind.wrap .i64 (v3 + (IntKind.wrap .i64 (Int.tdiv (IntKind.wrap .i64 ((IntKind.wrap .i64 (v4 - v3)) + (1))) (2))))))) ≤ a0)) then (
some (.inl ((IntKind.wrap .i64 (v3 + (IntKind.wrap .i64 (Int.tdiv (IntKind.wrap .i64 ((IntKind.wrap .i64 (v4 - v3)) + (1))) (2))))), v4))) else (
some (.inl (v3, (IntKind.wrap .i64 ((IntKind.wrap .i64 (v3 + (IntKind.wrap .i64 (Int.tdiv (IntKind.wrap .i64 ((IntKind.wrap .i64 (v4 - v3)) + (1))) (2))))) - (1))))))) else (
some (.inr (v3)))
def g78 (n : Nat) (a0 : Int) : Option ρ78 :=
bif (decide (a0 ≤ (0))) then (
some (0)) else (
iterO (fun y : Int × Int => S78_0 n a0 (0) y.1 y.2) n ((0), (3037000499)))
abbrev ρ56 := (Int × Int)
def g56 (n : Nat) (a0 : TP) (a1 : TP) : Option ρ56 :=
(g77 n a0 a1).bind fun x46 =>
(g78 n x46).bind fun x47 =>
bif (decide ((IntKind.wrap .i64 (x47 * x47)) < x46)) then (
some (x47, (IntKind.wrap .i64 (x47 + (1))))) else (
some (x47, x47))
abbrev ρ65 := (Bool)
def g65 (n : Nat) (a0 : TTubeNode) (a1 : TTubeNode) (a2 : TSep) : Option ρ65 :=
(g56 n (⟨a0.Node_At_X, a0.Node_At_Y⟩ : TP) (⟨a1.Node_At_X, a1.Node_At_Y⟩ : TP)).bind fun x48 =>
bif (decide ((IntKind.wrap .i64 ((IntKind.wrap .i64 (x48.1 - a0.Radius)) - a1.Radius)) ≥ a2.Lateral)) then (
some (true)) else (
some (decide ((IntKind.wrap .i64 ((IntKind.wrap .i64 ((if (IntKind.wrap .i64 (a1.Node_Height - a0.Node_Height)) > (IntKind.wrap .i64 (a0.Node_Height - a1.Node_Height)) then (IntKind.wrap .i64 (a1.Node_Height - a0.Node_Height)) else (IntKind.wrap .i64 (a0.Node_Height - a1.Node_Height))) - a0.Band)) - a1.Band)) ≥ a2.Vertical)))
abbrev ρ45 := ((List TSpan))
def S45_0 (n : Nat) (a0 : List TTubeNode) (a1 : List TTubeNode) (c9 : Int) (k0_0 : Int) (k0_1 : Int) (v10 : Int) (L90000 : List TSpan) : Option ((Int × List TSpan) ⊕ ρ45) :=
bif (decide (v10 ≤ c9)) then (
(g26 n a0 v10).bind fun x42 =>
(g26 n a1 v10).bind fun x43 =>
(g65 n x42.1 x43.1 (⟨k0_0, k0_1⟩ : TSep)).bind fun x49 =>
bif x49 then (
some (.inl ((IntKind.wrap .i64 (v10 + (1))), L90000))) else (
bif (decide ((L90000.length : Int) > (0))) then (
(getI L90000 (IntKind.wrap .i64 ((L90000.length : Int) - (1)))).bind fun x50 =>
bif (x50.To == v10) then (
(getI L90000 (IntKind.wrap .i64 ((L90000.length : Int) - (1)))).bind fun x51 =>
some (.inl ((IntKind.wrap .i64 (v10 + (1))), (L90000.set (((IntKind.wrap .i64 ((L90000.length : Int) - (1))) : Int).toNat) (⟨x51.From, (IntKind.wrap .i64 (v10 + (1)))⟩ : TSpan))))) else (
(roomO (L90000.length + ([(⟨v10, (IntKind.wrap .i64 (v10 + (1)))⟩ : TSpan)] : List TSpan).length) 16).bind fun x53 =>
some (.inl ((IntKind.wrap .i64 (v10 + (1))), (L90000 ++ ([(⟨v10, (IntKind.wrap .i64 (v10 + (1)))⟩ : TSpan)] : List TSpan)))))) else (
(roomO (L90000.length + ([(⟨v10, (IntKind.wrap .i64 (v10 + (1)))⟩ : TSpan)] : List TSpan).length) 16).bind fun x55 =>
some (.inl ((IntKind.wrap .i64 (v10 + (1))), (L90000 ++ ([(⟨v10, (IntKind.wrap .i64 (v10 + (1)))⟩ : TSpan)] : List TSpan))))))) else (
some (.inr (L90000)))
def g45 (n : Nat) (a0 : List TTubeNode) (a1 : List TTubeNode) (a2 : TSep) : Option ρ45 :=
(g64 n a0 a1).bind fun x12 =>
iterO (fun y : Int × List TSpan => S45_0 n a0 a1 x12.2 a2.Lateral a2.Vertical y.1 y.2) n (x12.1, [])
abbrev ρ63 := ((List TSpan) × Int)
def g63 (n : Nat) (a0 : List TTubeNode) (a1 : List TTubeNode) (a2 : TSep) : Option ρ63 :=
(g44 n a2 ([a0, a1] : List (List TTubeNode))).bind fun x7 =>
bif (x7 != (0)) then (
some ([], x7)) else (
(g45 n a0 a1 a2).bind fun x56 =>
some (x56, (0)))
abbrev ρ42 := (Int × Int)
def g42 (n : Nat) (a0 : List TTubeNode) (a1 : List TTubeNode) (a2 : TSep) : Option ρ42 :=
(g63 n a0 a1 a2).bind fun x57 =>
bif (x57.2 != (0)) then (
some ((0), x57.2)) else (
bif ((x57.1.length : Int) == (0)) then (
some ((0), (8))) else (
(getI x57.1 (0)).bind fun x58 =>
some (x58.From, (0))))
abbrev ρ29 := (Int)
def g29 (n : Nat) (a0 : Int) : Option ρ29 :=
some (Int.tmod (IntKind.wrap .i64 ((Int.tmod a0 (4096)) + (4096))) (4096))
abbrev ρ112 := (Bool)
def g112 (n : Nat) (a0 : Nat) : Option ρ112 :=
some (fNe a0 a0)
abbrev ρ123 := (Nat)
def g123 (n : Nat) (a0 : Nat) : Option ρ123 :=
some (Int.toNat (bAndNot .u64 (a0 : Int) (9223372036854775808)))
abbrev ρ113 := (Bool)
def g113 (n : Nat) (a0 : Nat) (a1 : Int) : Option ρ113 :=
bif (a1 == (0)) then (
(g123 n a0).bind fun x63 =>
some (fGt x63 9218868437227405311)) else (
bif (decide (a1 < (0))) then (
some (fGt (fNeg a0) 9218868437227405311)) else (
some (fGt a0 9218868437227405311)))
abbrev ρ115 := (Nat)
def g115 (n : Nat) : Option ρ115 :=
some (Int.toNat (9221120237041090561))
abbrev ρ135 := (Int × Nat)
def g135 (n : Nat) (a0 : Nat) : Option ρ135 :=
none
abbrev ρ130 := (Nat)
def g130 (n : Nat) (a0 : Nat) : Option ρ130 :=
bif (fEq a0 0) then (
some (a0)) else (
(g112 n a0).bind fun x62 =>
bif x62 then (
some (a0)) else (
(g113 n a0 (0)).bind fun x64 =>
bif x64 then (
(g115 n).bind fun x65 =>
some (x65)) else (
bif (fLt a0 0) then (
bif (fGe (fNeg a0) 4737786807993761792) then (
none) else (
(fMulO (fNeg a0) 4608412980311869571).bind fun x155 =>
(f2iO .u64 x155).bind fun x156 =>
bif ((bAnd .u64 x156 (1)) == (1)) then (
(fAddO (i2f x156) 4607182418800017408).bind fun x157 =>
(fMulO x157 4605249456957292544).bind fun x158 =>
(fSubO (fNeg a0) x158).bind fun x159 =>
(fMulO x157 4495793288086814720).bind fun x160 =>
(fSubO x159 x160).bind fun x161 =>
(fMulO x157 4388835458085048688).bind fun x162 =>
(fSubO x161 x162).bind fun x163 =>
bif (decide ((bAnd .u64 (IntKind.wrap .u64 (x156 + (1))) (7)) > (3))) then (
(fMulO x163 x163).bind fun x164 =>
bif ((IntKind.wrap .u64 ((bAnd .u64 (IntKind.wrap .u64 (x156 + (1))) (7)) - (4))) == (1)) then (
(fMulO 4602678819172646912 x164).bind fun x165 =>
(fSubO 4607182418800017408 x165).bind fun x166 =>
(fMulO x164 x164).bind fun x167 =>
(fMulO 13666448263388469915 x164).bind fun x168 =>
(fAddO x168 4477121864728985349).bind fun x169 =>
(fMulO x169 x164).bind fun x170 =>
(fAddO x170 13732177093698800582).bind fun x171 =>
(fMulO x171 x164).bind fun x172 =>
(fAddO x172 4537941361668146421).bind fun x173 =>
(fMulO x173 x164).bind fun x174 =>
(fAddO x174 13787419979223748497).bind fun x175 =>
(fMulO x175 x164).bind fun x176 =>
(fAddO x176 4586165620538955083).bind fun x177 =>
(fMulO x167 x177).bind fun x178 =>
(fAddO x166 x178).bind fun x179 =>
some (x179)) else (
bif ((IntKind.wrap .u64 ((bAnd .u64 (IntKind.wrap .u64 (x156 + (1))) (7)) - (4))) == (2)) then (
(fMulO 4602678819172646912 x164).bind fun x180 =>
(fSubO 4607182418800017408 x180).bind fun x181 =>
(fMulO x164 x164).bind fun x182 =>
(fMulO 13666448263388469915 x164).bind fun x183 =>
(fAddO x183 4477121864728985349).bind fun x184 =>
(fMulO x184 x164).bind fun x185 =>
(fAddO x185 13732177093698800582).bind fun x186 =>
(fMulO x186 x164).bind fun x187 =>
(fAddO x187 4537941361668146421).bind fun x188 =>
(fMulO x188 x164).bind fun x189 =>
(fAddO x189 13787419979223748497).bind fun x190 =>
(fMulO x190 x164).bind fun x191 =>
(fAddO x191 4586165620538955083).bind fun x192 =>
(fMulO x182 x192).bind fun x193 =>
(fAddO x181 x193).bind fun x194 =>
some (x194)) else (
(fMulO x163 x164).bind fun x195 =>
(fMulO 4460209587652500685 x164).bind fun x196 =>
(fAddO x196 13716528389658582877).bind fun x197 =>
(fMulO x197 x164).bind fun x198 =>
(fAddO x198 4523617212962785441).bind fun x199 =>
(fMulO x199 x164).bind fun x200 =>
(fAddO x200 13774824197404483331).bind fun x201 =>
(fMulO x201 x164).bind fun x202 =>
(fAddO x202 4575957461383575504).bind fun x203 =>
(fMulO x203 x164).bind fun x204 =>
(fAddO x204 13818544856648471880).bind fun x205 =>
(fMulO x195 x205).bind fun x206 =>
(fAddO x163 x206).bind fun x207 =>
some (x207)))) else (
(fMulO x163 x163).bind fun x208 =>
bif ((bAnd .u64 (IntKind.wrap .u64 (x156 + (1))) (7)) == (1)) then (
(fMulO 4602678819172646912 x208).bind fun x209 =>
(fSubO 4607182418800017408 x209).bind fun x210 =>
(fMulO x208 x208).bind fun x211 =>
(fMulO 13666448263388469915 x208).bind fun x212 =>
(fAddO x212 4477121864728985349).bind fun x213 =>
(fMulO x213 x208).bind fun x214 =>
(fAddO x214 13732177093698800582).bind fun x215 =>
(fMulO x215 x208).bind fun x216 =>
(fAddO x216 4537941361668146421).bind fun x217 =>
(fMulO x217 x208).bind fun x218 =>
(fAddO x218 13787419979223748497).bind fun x219 =>
(fMulO x219 x208).bind fun x220 =>
(fAddO x220 4586165620538955083).bind fun x221 =>
(fMulO x211 x221).bind fun x222 =>
(fAddO x210 x222).bind fun x223 =>
some (fNeg x223)) else (
bif ((bAnd .u64 (IntKind.wrap .u64 (x156 + (1))) (7)) == (2)) then (
(fMulO 4602678819172646912 x208).bind fun x224 =>
(fSubO 4607182418800017408 x224).bind fun x225 =>
(fMulO x208 x208).bind fun x226 =>
(fMulO 13666448263388469915 x208).bind fun x227 =>
(fAddO x227 4477121864728985349).bind fun x228 =>
(fMulO x228 x208).bind fun x229 =>
(fAddO x229 13732177093698800582).bind fun x230 =>
(fMulO x230 x208).bind fun x231 =>
(fAddO x231 4537941361668146421).bind fun x232 =>
(fMulO x232 x208).bind fun x233 =>
(fAddO x233 13787419979223748497).bind fun x234 =>
(fMulO x234 x208).bind fun x235 =>
(fAddO x235 4586165620538955083).bind fun x236 =>
(fMulO x226 x236).bind fun x237 =>
(fAddO x225 x237).bind fun x238 =>
some (fNeg x238)) else (
(fMulO x163 x208).bind fun x239 =>
(fMulO 4460209587652500685 x208).bind fun x240 =>
(fAddO x240 13716528389658582877).bind fun x241 =>
(fMulO x241 x208).bind fun x242 =>
(fAddO x242 4523617212962785441).bind fun x243 =>
(fMulO x243 x208).bind fun x244 =>
(fAddO x244 13774824197404483331).bind fun x245 =>
(fMulO x245 x208).bind fun x246 =>
(fAddO x246 4575957461383575504).bind fun x247 =>
(fMulO x247 x208).bind fun x248 =>
(fAddO x248 13818544856648471880).bind fun x249 =>
(fMulO x239 x249).bind fun x250 =>
(fAddO x163 x250).bind fun x251 =>
some (fNeg x251))))) else (
(fMulO (i2f x156) 4605249456957292544).bind fun x252 =>
(fSubO (fNeg a0) x252).bind fun x253 =>
(fMulO (i2f x156) 4495793288086814720).bind fun x254 =>
(fSubO x253 x254).bind fun x255 =>
(fMulO (i2f x156) 4388835458085048688).bind fun x256 =>
(fSubO x255 x256).bind fun x257 =>
bif (decide ((bAnd .u64 x156 (7)) > (3))) then (
(fMulO x257 x257).bind fun x258 =>
bif ((IntKind.wrap .u64 ((bAnd .u64 x156 (7)) - (4))) == (1)) then (
(fMulO 4602678819172646912 x258).bind fun x259 =>
(fSubO 4607182418800017408 x259).bind fun x260 =>
(fMulO x258 x258).bind fun x261 =>
(fMulO 13666448263388469915 x258).bind fun x262 =>
(fAddO x262 4477121864728985349).bind fun x263 =>
(fMulO x263 x258).bind fun x264 =>
(fAddO x264 13732177093698800582).bind fun x265 =>
(fMulO x265 x258).bind fun x266 =>
(fAddO x266 4537941361668146421).bind fun x267 =>
(fMulO x267 x258).bind fun x268 =>
(fAddO x268 13787419979223748497).bind fun x269 =>
(fMulO x269 x258).bind fun x270 =>
(fAddO x270 4586165620538955083).bind fun x271 =>
(fMulO x261 x271).bind fun x272 =>
(fAddO x260 x272).bind fun x273 =>
some (x273)) else (
bif ((IntKind.wrap .u64 ((bAnd .u64 x156 (7)) - (4))) == (2)) then (
(fMulO 4602678819172646912 x258).bind fun x274 =>
(fSubO 4607182418800017408 x274).bind fun x275 =>
(fMulO x258 x258).bind fun x276 =>
(fMulO 13666448263388469915 x258).bind fun x277 =>
(fAddO x277 4477121864728985349).bind fun x278 =>
(fMulO x278 x258).bind fun x279 =>
(fAddO x279 13732177093698800582).bind fun x280 =>
(fMulO x280 x258).bind fun x281 =>
(fAddO x281 4537941361668146421).bind fun x282 =>
(fMulO x282 x258).bind fun x283 =>
(fAddO x283 13787419979223748497).bind fun x284 =>
(fMulO x284 x258).bind fun x285 =>
(fAddO x285 4586165620538955083).bind fun x286 =>
(fMulO x276 x286).bind fun x287 =>
(fAddO x275 x287).bind fun x288 =>
some (x288)) else (
(fMulO x257 x258).bind fun x289 =>
(fMulO 4460209587652500685 x258).bind fun x290 =>
(fAddO x290 13716528389658582877).bind fun x291 =>
(fMulO x291 x258).bind fun x292 =>
(fAddO x292 4523617212962785441).bind fun x293 =>
(fMulO x293 x258).bind fun x294 =>
(fAddO x294 13774824197404483331).bind fun x295 =>
(fMulO x295 x258).bind fun x296 =>
(fAddO x296 4575957461383575504).bind fun x297 =>
(fMulO x297 x258).bind fun x298 =>
(fAddO x298 13818544856648471880).bind fun x299 =>
(fMulO x289 x299).bind fun x300 =>
(fAddO x257 x300).bind fun x301 =>
some (x301)))) else (
(fMulO x257 x257).bind fun x302 =>
bif ((bAnd .u64 x156 (7)) == (1)) then (
(fMulO 4602678819172646912 x302).bind fun x303 =>
(fSubO 4607182418800017408 x303).bind fun x304 =>
(fMulO x302 x302).bind fun x305 =>
(fMulO 13666448263388469915 x302).bind fun x306 =>
(fAddO x306 4477121864728985349).bind fun x307 =>
(fMulO x307 x302).bind fun x308 =>
(fAddO x308 13732177093698800582).bind fun x309 =>
(fMulO x309 x302).bind fun x310 =>
(fAddO x310 4537941361668146421).bind fun x311 =>
(fMulO x311 x302).bind fun x312 =>
(fAddO x312 13787419979223748497).bind fun x313 =>
(fMulO x313 x302).bind fun x314 =>
(fAddO x314 4586165620538955083).bind fun x315 =>
(fMulO x305 x315).bind fun x316 =>
(fAddO x304 x316).bind fun x317 =>
some (fNeg x317)) else (
bif ((bAnd .u64 x156 (7)) == (2)) then (
(fMulO 4602678819172646912 x302).bind fun x318 =>
(fSubO 4607182418800017408 x318).bind fun x319 =>
(fMulO x302 x302).bind fun x320 =>
(fMulO 13666448263388469915 x302).bind fun x321 =>
(fAddO x321 4477121864728985349).bind fun x322 =>
(fMulO x322 x302).bind fun x323 =>
(fAddO x323 13732177093698800582).bind fun x324 =>
(fMulO x324 x302).bind fun x325 =>
(fAddO x325 4537941361668146421).bind fun x326 =>
(fMulO x326 x302).bind fun x327 =>
(fAddO x327 13787419979223748497).bind fun x328 =>
(fMulO x328 x302).bind fun x329 =>
(fAddO x329 4586165620538955083).bind fun x330 =>
(fMulO x320 x330).bind fun x331 =>
(fAddO x319 x331).bind fun x332 =>
some (fNeg x332)) else (
(fMulO x257 x302).bind fun x333 =>
(fMulO 4460209587652500685 x302).bind fun x334 =>
(fAddO x334 13716528389658582877).bind fun x335 =>
(fMulO x335 x302).bind fun x336 =>
(fAddO x336 4523617212962785441).bind fun x337 =>
(fMulO x337 x302).bind fun x338 =>
(fAddO x338 13774824197404483331).bind fun x339 =>
(fMulO x339 x302).bind fun x340 =>
(fAddO x340 4575957461383575504).bind fun x341 =>
(fMulO x341 x302).bind fun x342 =>
(fAddO x342 13818544856648471880).bind fun x343 =>
(fMulO x333 x343).bind fun x344 =>
(fAddO x257 x344).bind fun x345 =>
some (fNeg x345))))))) else (
bif (fGe a0 4737786807993761792) then (
none) else (
(fMulO a0 4608412980311869571).bind fun x435 =>
(f2iO .u64 x435).bind fun x436 =>
bif ((bAnd .u64 x436 (1)) == (1)) then (
(fAddO (i2f x436) 4607182418800017408).bind fun x437 =>
(fMulO x437 4605249456957292544).bind fun x438 =>
(fSubO a0 x438).bind fun x439 =>
(fMulO x437 4495793288086814720).bind fun x440 =>
(fSubO x439 x440).bind fun x441 =>
(fMulO x437 4388835458085048688).bind fun x442 =>
(fSubO x441 x442).bind fun x443 =>
bif (decide ((bAnd .u64 (IntKind.wrap .u64 (x436 + (1))) (7)) > (3))) then (
(fMulO x443 x443).bind fun x444 =>
bif ((IntKind.wrap .u64 ((bAnd .u64 (IntKind.wrap .u64 (x436 + (1))) (7)) - (4))) == (1)) then (
(fMulO 4602678819172646912 x444).bind fun x445 =>
(fSubO 4607182418800017408 x445).bind fun x446 =>
(fMulO x444 x444).bind fun x447 =>
(fMulO 13666448263388469915 x444).bind fun x448 =>
(fAddO x448 4477121864728985349).bind fun x449 =>
(fMulO x449 x444).bind fun x450 =>
(fAddO x450 13732177093698800582).bind fun x451 =>
(fMulO x451 x444).bind fun x452 =>
(fAddO x452 4537941361668146421).bind fun x453 =>
(fMulO x453 x444).bind fun x454 =>
(fAddO x454 13787419979223748497).bind fun x455 =>
(fMulO x455 x444).bind fun x456 =>
(fAddO x456 4586165620538955083).bind fun x457 =>
(fMulO x447 x457).bind fun x458 =>
(fAddO x446 x458).bind fun x459 =>
some (fNeg x459)) else (
bif ((IntKind.wrap .u64 ((bAnd .u64 (IntKind.wrap .u64 (x436 + (1))) (7)) - (4))) == (2)) then (
(fMulO 4602678819172646912 x444).bind fun x460 =>
(fSubO 4607182418800017408 x460).bind fun x461 =>
(fMulO x444 x444).bind fun x462 =>
(fMulO 13666448263388469915 x444).bind fun x463 =>
(fAddO x463 4477121864728985349).bind fun x464 =>
(fMulO x464 x444).bind fun x465 =>
(fAddO x465 13732177093698800582).bind fun x466 =>
(fMulO x466 x444).bind fun x467 =>
(fAddO x467 4537941361668146421).bind fun x468 =>
(fMulO x468 x444).bind fun x469 =>
(fAddO x469 13787419979223748497).bind fun x470 =>
(fMulO x470 x444).bind fun x471 =>
(fAddO x471 4586165620538955083).bind fun x472 =>
(fMulO x462 x472).bind fun x473 =>
(fAddO x461 x473).bind fun x474 =>
some (fNeg x474)) else (
(fMulO x443 x444).bind fun x475 =>
(fMulO 4460209587652500685 x444).bind fun x476 =>
(fAddO x476 13716528389658582877).bind fun x477 =>
(fMulO x477 x444).bind fun x478 =>
(fAddO x478 4523617212962785441).bind fun x479 =>
(fMulO x479 x444).bind fun x480 =>
(fAddO x480 13774824197404483331).bind fun x481 =>
(fMulO x481 x444).bind fun x482 =>
(fAddO x482 4575957461383575504).bind fun x483 =>
(fMulO x483 x444).bind fun x484 =>
(fAddO x484 13818544856648471880).bind fun x485 =>
(fMulO x475 x485).bind fun x486 =>
(fAddO x443 x486).bind fun x487 =>
some (fNeg x487)))) else (
(fMulO x443 x443).bind fun x488 =>
bif ((bAnd .u64 (IntKind.wrap .u64 (x436 + (1))) (7)) == (1)) then (
(fMulO 4602678819172646912 x488).bind fun x489 =>
(fSubO 4607182418800017408 x489).bind fun x490 =>
(fMulO x488 x488).bind fun x491 =>
(fMulO 13666448263388469915 x488).bind fun x492 =>
(fAddO x492 4477121864728985349).bind fun x493 =>
(fMulO x493 x488).bind fun x494 =>
(fAddO x494 13732177093698800582).bind fun x495 =>
(fMulO x495 x488).bind fun x496 =>
(fAddO x496 4537941361668146421).bind fun x497 =>
(fMulO x497 x488).bind fun x498 =>
(fAddO x498 13787419979223748497).bind fun x499 =>
(fMulO x499 x488).bind fun x500 =>
(fAddO x500 4586165620538955083).bind fun x501 =>
(fMulO x491 x501).bind fun x502 =>
(fAddO x490 x502).bind fun x503 =>
some (x503)) else (
bif ((bAnd .u64 (IntKind.wrap .u64 (x436 + (1))) (7)) == (2)) then (
(fMulO 4602678819172646912 x488).bind fun x504 =>
(fSubO 4607182418800017408 x504).bind fun x505 =>
(fMulO x488 x488).bind fun x506 =>
(fMulO 13666448263388469915 x488).bind fun x507 =>
(fAddO x507 4477121864728985349).bind fun x508 =>
(fMulO x508 x488).bind fun x509 =>
(fAddO x509 13732177093698800582).bind fun x510 =>
(fMulO x510 x488).bind fun x511 =>
(fAddO x511 4537941361668146421).bind fun x512 =>
(fMulO x512 x488).bind fun x513 =>
(fAddO x513 13787419979223748497).bind fun x514 =>
(fMulO x514 x488).bind fun x515 =>
(fAddO x515 4586165620538955083).bind fun x516 =>
(fMulO x506 x516).bind fun x517 =>
(fAddO x505 x517).bind fun x518 =>
some (x518)) else (
(fMulO x443 x488).bind fun x519 =>
(fMulO 4460209587652500685 x488).bind fun x520 =>
(fAddO x520 13716528389658582877).bind fun x521 =>
(fMulO x521 x488).bind fun x522 =>
(fAddO x522 4523617212962785441).bind fun x523 =>
(fMulO x523 x488).bind fun x524 =>
(fAddO x524 13774824197404483331).bind fun x525 =>
(fMulO x525 x488).bind fun x526 =>
(fAddO x526 4575957461383575504).bind fun x527 =>
(fMulO x527 x488).bind fun x528 =>
(fAddO x528 13818544856648471880).bind fun x529 =>
(fMulO x519 x529).bind fun x530 =>
(fAddO x443 x530).bind fun x531 =>
some (x531))))) else (
(fMulO (i2f x436) 4605249456957292544).bind fun x532 =>
(fSubO a0 x532).bind fun x533 =>
(fMulO (i2f x436) 4495793288086814720).bind fun x534 =>
(fSubO x533 x534).bind fun x535 =>
(fMulO (i2f x436) 4388835458085048688).bind fun x536 =>
(fSubO x535 x536).bind fun x537 =>
bif (decide ((bAnd .u64 x436 (7)) > (3))) then (
(fMulO x537 x537).bind fun x538 =>
bif ((IntKind.wrap .u64 ((bAnd .u64 x436 (7)) - (4))) == (1)) then (
(fMulO 4602678819172646912 x538).bind fun x539 =>
(fSubO 4607182418800017408 x539).bind fun x540 =>
(fMulO x538 x538).bind fun x541 =>
(fMulO 13666448263388469915 x538).bind fun x542 =>
(fAddO x542 4477121864728985349).bind fun x543 =>
(fMulO x543 x538).bind fun x544 =>
(fAddO x544 13732177093698800582).bind fun x545 =>
(fMulO x545 x538).bind fun x546 =>
(fAddO x546 4537941361668146421).bind fun x547 =>
(fMulO x547 x538).bind fun x548 =>
(fAddO x548 13787419979223748497).bind fun x549 =>
(fMulO x549 x538).bind fun x550 =>
(fAddO x550 4586165620538955083).bind fun x551 =>
(fMulO x541 x551).bind fun x552 =>
(fAddO x540 x552).bind fun x553 =>
some (fNeg x553)) else (
bif ((IntKind.wrap .u64 ((bAnd .u64 x436 (7)) - (4))) == (2)) then (
(fMulO 4602678819172646912 x538).bind fun x554 =>
(fSubO 4607182418800017408 x554).bind fun x555 =>
(fMulO x538 x538).bind fun x556 =>
(fMulO 13666448263388469915 x538).bind fun x557 =>
(fAddO x557 4477121864728985349).bind fun x558 =>
(fMulO x558 x538).bind fun x559 =>
(fAddO x559 13732177093698800582).bind fun x560 =>
(fMulO x560 x538).bind fun x561 =>
(fAddO x561 4537941361668146421).bind fun x562 =>
(fMulO x562 x538).bind fun x563 =>
(fAddO x563 13787419979223748497).bind fun x564 =>
(fMulO x564 x538).bind fun x565 =>
(fAddO x565 4586165620538955083).bind fun x566 =>
(fMulO x556 x566).bind fun x567 =>
(fAddO x555 x567).bind fun x568 =>
some (fNeg x568)) else (
(fMulO x537 x538).bind fun x569 =>
(fMulO 4460209587652500685 x538).bind fun x570 =>
(fAddO x570 13716528389658582877).bind fun x571 =>
(fMulO x571 x538).bind fun x572 =>
(fAddO x572 4523617212962785441).bind fun x573 =>
(fMulO x573 x538).bind fun x574 =>
(fAddO x574 13774824197404483331).bind fun x575 =>
(fMulO x575 x538).bind fun x576 =>
(fAddO x576 4575957461383575504).bind fun x577 =>
(fMulO x577 x538).bind fun x578 =>
(fAddO x578 13818544856648471880).bind fun x579 =>
(fMulO x569 x579).bind fun x580 =>
(fAddO x537 x580).bind fun x581 =>
some (fNeg x581)))) else (
(fMulO x537 x537).bind fun x582 =>
bif ((bAnd .u64 x436 (7)) == (1)) then (
(fMulO 4602678819172646912 x582).bind fun x583 =>
(fSubO 4607182418800017408 x583).bind fun x584 =>
(fMulO x582 x582).bind fun x585 =>
(fMulO 13666448263388469915 x582).bind fun x586 =>
(fAddO x586 4477121864728985349).bind fun x587 =>
(fMulO x587 x582).bind fun x588 =>
(fAddO x588 13732177093698800582).bind fun x589 =>
(fMulO x589 x582).bind fun x590 =>
(fAddO x590 4537941361668146421).bind fun x591 =>
(fMulO x591 x582).bind fun x592 =>
(fAddO x592 13787419979223748497).bind fun x593 =>
(fMulO x593 x582).bind fun x594 =>
(fAddO x594 4586165620538955083).bind fun x595 =>
(fMulO x585 x595).bind fun x596 =>
(fAddO x584 x596).bind fun x597 =>
some (x597)) else (
bif ((bAnd .u64 x436 (7)) == (2)) then (
(fMulO 4602678819172646912 x582).bind fun x598 =>
(fSubO 4607182418800017408 x598).bind fun x599 =>
(fMulO x582 x582).bind fun x600 =>
(fMulO 13666448263388469915 x582).bind fun x601 =>
(fAddO x601 4477121864728985349).bind fun x602 =>
(fMulO x602 x582).bind fun x603 =>
(fAddO x603 13732177093698800582).bind fun x604 =>
(fMulO x604 x582).bind fun x605 =>
(fAddO x605 4537941361668146421).bind fun x606 =>
(fMulO x606 x582).bind fun x607 =>
(fAddO x607 13787419979223748497).bind fun x608 =>
(fMulO x608 x582).bind fun x609 =>
(fAddO x609 4586165620538955083).bind fun x610 =>
(fMulO x600 x610).bind fun x611 =>
(fAddO x599 x611).bind fun x612 =>
some (x612)) else (
(fMulO x537 x582).bind fun x613 =>
(fMulO 4460209587652500685 x582).bind fun x614 =>
(fAddO x614 13716528389658582877).bind fun x615 =>
(fMulO x615 x582).bind fun x616 =>
(fAddO x616 4523617212962785441).bind fun x617 =>
(fMulO x617 x582).bind fun x618 =>
(fAddO x618 13774824197404483331).bind fun x619 =>
(fMulO x619 x582).bind fun x620 =>
(fAddO x620 4575957461383575504).bind fun x621 =>
(fMulO x621 x582).bind fun x622 =>
(fAddO x622 13818544856648471880).bind fun x623 =>
(fMulO x613 x623).bind fun x624 =>
(fAddO x537 x624).bind fun x625 =>
some (x625))))))))))
abbrev ρ120 := (Nat)
def g120 (n : Nat) (a0 : Nat) : Option ρ120 :=
(g130 n a0).bind fun x626 =>
some (x626)
abbrev ρ119 := (Nat)
def g119 (n : Nat) (a0 : Nat) : Option ρ119 :=
(shrO .u64 (a0 : Int) (52)).bind fun x629 =>
bif (decide ((bAnd .u64 x629 (2047)) < (1023))) then (
bif ((bAnd .u64 x629 (2047)) == (1022)) then (
some (Int.toNat (bOr .u64 (bAnd .u64 (a0 : Int) (9223372036854775808)) (4607182418800017408)))) else (
some (Int.toNat (bAnd .u64 (a0 : Int) (9223372036854775808))))) else (
bif (decide ((bAnd .u64 x629 (2047)) < (1075))) then (
(shrO .u64 (2251799813685248) (IntKind.wrap .u64 ((bAnd .u64 x629 (2047)) - (1023)))).bind fun x630 =>
(shrO .u64 (4503599627370495) (IntKind.wrap .u64 ((bAnd .u64 x629 (2047)) - (1023)))).bind fun x631 =>
some (Int.toNat (bAndNot .u64 (IntKind.wrap .u64 ((a0 : Int) + x630)) x631))) else (
some (Int.toNat (a0 : Int))))
abbrev ρ101 := (Int)
def g101 (n : Nat) (a0 : Int) : Option ρ101 :=
(g29 n a0).bind fun x59 =>
(fMulO (i2f x59) 4614256656552045848).bind fun x60 =>
(fQuoO x60 4656722014701092864).bind fun x61 =>
(g120 n x61).bind fun x627 =>
(fMulO 4670232813583204352 x627).bind fun x628 =>
(g119 n x628).bind fun x632 =>
(f2iO .i64 x632).bind fun x633 =>
some (x633)
abbrev ρ102 := (Int)
def g102 (n : Nat) (a0 : Int) : Option ρ102 :=
(g29 n a0).bind fun x634 =>
(g101 n (IntKind.wrap .i64 (x634 + (1024)))).bind fun x635 =>
some (x635)
abbrev ρ116 := (Bool)
def g116 (n : Nat) (a0 : Nat) : Option ρ116 :=
some (decide ((IntKind.wrap .i64 (a0 : Int)) < (0)))
abbrev ρ117 := (Nat)
def g117 (n : Nat) (a0 : Nat) (a1 : Nat) : Option ρ117 :=
some (Int.toNat (bOr .u64 (bAndNot .u64 (a0 : Int) (9223372036854775808)) (bAnd .u64 (a1 : Int) (9223372036854775808))))
abbrev ρ136 := (Nat)
def g136 (n : Nat) (a0 : Nat) : Option ρ136 :=
(fMulO a0 a0).bind fun x656 =>
(fMulO 13829429103926125972 x656).bind fun x657 =>
(fAddO x657 13848613196940411002).bind fun x658 =>
(fMulO x658 x656).bind fun x659 =>
(fAddO x659 13858350711815275123).bind fun x660 =>
(fMulO x660 x656).bind fun x661 =>
(fAddO x661 13861719834326579749).bind fun x662 =>
(fMulO x662 x656).bind fun x663 =>
(fAddO x663 13857635882265799822).bind fun x664 =>
(fMulO x656 x664).bind fun x665 =>
(fAddO x656 4627690253511319612).bind fun x666 =>
(fMulO x666 x656).bind fun x667 =>
(fAddO x667 4640010388282866213).bind fun x668 =>
(fMulO x668 x656).bind fun x669 =>
(fAddO x669 4646322940342877755).bind fun x670 =>
(fMulO x670 x656).bind fun x671 =>
(fAddO x671 4647246694406179306).bind fun x672 =>
(fMulO x672 x656).bind fun x673 =>
(fAddO x673 4641049159275471596).bind fun x674 =>
(fQuoO x665 x674).bind fun x675 =>
(fMulO a0 x675).bind fun x676 =>
(fAddO x676 a0).bind fun x677 =>
some (x677)
abbrev ρ134 := (Nat)
def g134 (n : Nat) (a0 : Nat) : Option ρ134 :=
bif (fLe a0 4604119971053405471) then (
(g136 n a0).bind fun x678 =>
some (x678)) else (
bif (fGt a0 4612618744449965542) then (
(fQuoO 4607182418800017408 a0).bind fun x679 =>
(g136 n x679).bind fun x680 =>
(fSubO 4609753056924675352 x680).bind fun x681 =>
(fAddO x681 4364452196894661639).bind fun x682 =>
some (x682)) else (
(fSubO a0 4607182418800017408).bind fun x683 =>
(fAddO a0 4607182418800017408).bind fun x684 =>
(fQuoO x683 x684).bind fun x685 =>
(g136 n x685).bind fun x686 =>
(fAddO 4605249457297304856 x686).bind fun x687 =>
(fAddO x687 4359948597267291143).bind fun x688 =>
some (x688)))
abbrev ρ128 := (Nat)
def g128 (n : Nat) (a0 : Nat) : Option ρ128 :=
bif (fEq a0 0) then (
some (a0)) else (
bif (fGt a0 0) then (
(g134 n a0).bind fun x689 =>
some (x689)) else (
(g134 n (fNeg a0)).bind fun x690 =>
some (fNeg x690)))
abbrev ρ118 := (Nat)
def g118 (n : Nat) (a0 : Nat) : Option ρ118 :=
(g128 n a0).bind fun x691 =>
some (x691)
abbrev ρ100 := (Nat)
def g100 (n : Nat) (a0 : Nat) (a1 : Nat) : Option ρ100 :=
(g112 n a0).bind fun x636 =>
bif x636 then (
(g115 n).bind fun x637 =>
some (x637)) else (
(g112 n a1).bind fun x638 =>
bif x638 then (
(g115 n).bind fun x639 =>
some (x639)) else (
bif (fEq a0 0) then (
bif (fGe a1 0) then (
(g116 n a1).bind fun x640 =>
bif (!x640) then (
(g117 n 0 a0).bind fun x641 =>
some (x641)) else (
(g117 n 4614256656552045848 a0).bind fun x642 =>
some (x642))) else (
(g117 n 4614256656552045848 a0).bind fun x643 =>
some (x643))) else (
bif (fEq a1 0) then (
(g117 n 4609753056924675352 a0).bind fun x644 =>
some (x644)) else (
(g113 n a1 (0)).bind fun x645 =>
bif x645 then (
(g113 n a1 (1)).bind fun x646 =>
bif x646 then (
(g113 n a0 (0)).bind fun x647 =>
bif x647 then (
(g117 n 4605249457297304856 a0).bind fun x648 =>
some (x648)) else (
(g117 n 0 a0).bind fun x649 =>
some (x649))) else (
(g113 n a0 (0)).bind fun x650 =>
bif x650 then (
(g117 n 4612488097114038738 a0).bind fun x651 =>
some (x651)) else (
(g117 n 4614256656552045848 a0).bind fun x652 =>
some (x652)))) else (
(g113 n a0 (0)).bind fun x653 =>
bif x653 then (
(g117 n 4609753056924675352 a0).bind fun x654 =>
some (x654)) else (
(fQuoO a0 a1).bind fun x655 =>
(g118 n x655).bind fun x692 =>
bif (fLt a1 0) then (
bif (fLe x692 0) then (
(fAddO x692 4614256656552045848).bind fun x693 =>
some (x693)) else (
(fSubO x692 4614256656552045848).bind fun x694 =>
some (x694))) else (
some (x692))))))))
abbrev ρ74 := (Nat)
def g74 (n : Nat) (a0 : Nat) (a1 : Nat) : Option ρ74 :=
(g100 n a0 a1).bind fun x695 =>
some (x695)
abbrev ρ73 := (Nat)
def g73 (n : Nat) (a0 : Nat) : Option ρ73 :=
(floorO a0).bind fun x699 =>
some (x699)
abbrev ρ75 := (TP)
def g75 (n : Nat) (a0 : Int) : Option ρ75 :=
(g101 n a0).bind fun x704 =>
(g102 n a0).bind fun x705 =>
some (⟨x704, x705⟩ : TP)
abbrev ρ76 := (Int)
def g76 (n : Nat) (a0 : TP) (a1 : TP) : Option ρ76 :=
some (IntKind.wrap .i64 ((IntKind.wrap .i64 (a0.Y * a1.X)) - (IntKind.wrap .i64 (a0.X * a1.Y))))
abbrev ρ54 := (Int × Int)
def S54_0 (n : Nat) (c2 : Int) (x701 : Int) (k0_0 : Int) (k0_1 : Int) (v50 : Int) : Option ((Int) ⊕ ρ54) :=
bif (decide (v50 < (4096))) then (
(g29 n (IntKind.wrap .i64 (x701 + v50))).bind fun x702 =>
bif ((Int.tmod v50 (2)) == (1)) then (
(g29 n (IntKind.wrap .i64 (x701 - v50))).bind fun x703 =>
(g75 n x703).bind fun x706 =>
(g75 n (IntKind.wrap .i64 (x703 + (1)))).bind fun x707 =>
(g76 n x706 (⟨k0_0, k0_1⟩ : TP)).bind fun x708 =>
(g76 n (⟨k0_0, k0_1⟩ : TP) x707).bind fun x709 =>
bif (decide (x708 ≥ (0))) then (
bif (decide (x709 > (0))) then (
bif (decide ((IntKind.wrap .i64 ((IntKind.wrap .i64 (x706.X * k0_0)) + (IntKind.wrap .i64 (x706.Y * k0_1)))) > (0))) then (
bif (decide (x708 ≤ x709)) then (
some (.inr (x703, (0)))) else (
(g29 n (IntKind.wrap .i64 (x703 + (1)))).bind fun x710 =>
some (.inr (x710, (0))))) else (
some (.inl (IntKind.wrap .i64 (v50 + (1)))))) else (
some (.inl (IntKind.wrap .i64 (v50 + (1)))))) else (
some (.inl (IntKind.wrap .i64 (v50 + (1)))))) else (
(g75 n x702).bind fun x711 =>
(g75 n (IntKind.wrap .i64 (x702 + (1)))).bind fun x712 =>
(g76 n x711 (⟨k0_0, k0_1⟩ : TP)).bind fun x713 =>
(g76 n (⟨k0_0, k0_1⟩ : TP) x712).bind fun x714 =>
bif (decide (x713 ≥ (0))) then (
bif (decide (x714 > (0))) then (
bif (decide ((IntKind.wrap .i64 ((IntKind.wrap .i64 (x711.X * k0_0)) + (IntKind.wrap .i64 (x711.Y * k0_1)))) > (0))) then (
bif (decide (x713 ≤ x714)) then (
some (.inr (x702, (0)))) else (
(g29 n (IntKind.wrap .i64 (x702 + (1)))).bind fun x715 =>
some (.inr (x715, (0))))) else (
some (.inl (IntKind.wrap .i64 (v50 + (1)))))) else (
some (.inl (IntKind.wrap .i64 (v50 + (1)))))) else (
some (.inl (IntKind.wrap .i64 (v50 + (1))))))) else (
some (.inr ((0), (0))))
def g54 (n : Nat) (a0 : TP) : Option ρ54 :=
bif (decide (a0.X < (-2000000))) then (
some ((0), (4))) else (
bif (decide (a0.X > (2000000))) then (
some ((0), (4))) else (
bif (decide (a0.Y < (-2000000))) then (
some ((0), (4))) else (
bif (decide (a0.Y > (2000000))) then (
some ((0), (4))) else (
bif (a0.X == (0)) then (
bif (a0.Y == (0)) then (
some ((0), (10))) else (
(g74 n (i2f a0.X) (i2f a0.Y)).bind fun x696 =>
(fMulO x696 4656722014701092864).bind fun x697 =>
(fQuoO x697 4614256656552045848).bind fun x698 =>
(g73 n x698).bind fun x700 =>
(f2iO .i64 x700).bind fun x701 =>
iterO (fun y : Int => S54_0 n (0) x701 a0.X a0.Y y) n (0))) else (
(g74 n (i2f a0.X) (i2f a0.Y)).bind fun x716 =>
(fMulO x716 4656722014701092864).bind fun x717 =>
(fQuoO x717 4614256656552045848).bind fun x718 =>
(g73 n x718).bind fun x719 =>
(f2iO .i64 x719).bind fun x720 =>
iterO (fun y : Int => S54_0 n (0) x720 a0.X a0.Y y) n (0))))))
abbrev ρ51 := (Bool)
def S51_0 (n : Nat) (c2 : Bool) (c14 : List UInt8) (c15 : Int) (v16 : Int) : Option ((Int) ⊕ ρ51) :=
bif (decide (v16 < c15)) then (
(getI c14 v16).bind fun x724 =>
bif (decide ((x724.toNat : Int) ≥ (65))) then (
bif (decide ((x724.toNat : Int) ≤ (90))) then (
some (.inl (IntKind.wrap .i64 (v16 + (1))))) else (
bif (decide (v16 > (0))) then (
bif (decide ((x724.toNat : Int) ≥ (48))) then (
bif (!(decide ((x724.toNat : Int) ≤ (57)))) then (
some (.inr (false))) else (
some (.inl (IntKind.wrap .i64 (v16 + (1)))))) else (
some (.inr (false)))) else (
some (.inr (false))))) else (
bif (decide (v16 > (0))) then (
bif (decide ((x724.toNat : Int) ≥ (48))) then (
bif (!(decide ((x724.toNat : Int) ≤ (57)))) then (
some (.inr (false))) else (
some (.inl (IntKind.wrap .i64 (v16 + (1)))))) else (
some (.inr (false)))) else (
some (.inr (false))))) else (
some (.inr (true)))
def g51 (n : Nat) (a0 : ByteArray) : Option ρ51 :=
bif (decide ((a0.size : Int) < (1))) then (
some (false)) else (
bif (decide ((a0.size : Int) > (8))) then (
some (false)) else (
(roomO a0.size 1).bind fun x723 =>
iterO (fun y : Int => S51_0 n false (a0.data.toList) ((a0.data.toList).length : Int) y) n (0)))
abbrev ρ50 := (Bool)
def g50 (n : Nat) (a0 : Int) (a1 : Int) : Option ρ50 :=
bif (decide (a0 < (1))) then (
some (true)) else (
some (decide (a0 > a1)))
abbrev ρ25 := (Int)
def g25 (n : Nat) (a0 : TKind) : Option ρ25 :=
(g51 n a0.Name).bind fun x725 =>
bif (!x725) then (
some (5)) else (
bif (decide (a0.Wake < (0))) then (
some (1)) else (
bif (decide (a0.Wake > (3))) then (
some (1)) else (
(g50 n a0.Ceiling (60000)).bind fun x726 =>
bif x726 then (
some (4)) else (
(g50 n a0.Climb (200)).bind fun x727 =>
bif x727 then (
some (4)) else (
(g50 n a0.Descent (200)).bind fun x728 =>
bif x728 then (
some (4)) else (
(g50 n a0.Slow (400)).bind fun x729 =>
bif x729 then (
some (4)) else (
(g50 n a0.Fast (400)).bind fun x730 =>
bif x730 then (
some (4)) else (
bif (decide (a0.Slow > a0.Fast)) then (
some (3)) else (
some (0))))))))))
abbrev ρ79 := (Int)
def S79_0 (n : Nat) (a0 : List ByteArray) (a1 : ByteArray) (c4 : Int) (c7 : Int) (v8 : Int) : Option ((Int) ⊕ ρ79) :=
bif (decide (v8 < c7)) then (
(getI a0 v8).bind fun x734 =>
bif ((a1).toList == (x734).toList) then (
some (.inr (v8))) else (
some (.inl (IntKind.wrap .i64 (v8 + (1)))))) else (
some (.inr (-1)))
def g79 (n : Nat) (a0 : List ByteArray) (a1 : ByteArray) : Option ρ79 :=
iterO (fun y : Int => S79_0 n a0 a1 (0) (a0.length : Int) y) n (0)
abbrev ρ57 := (Int)
def g57 (n : Nat) (a0 : ByteArray) : Option ρ57 :=
(g79 n ([(⟨#[72, 69, 73, 71, 72, 84]⟩ : ByteArray), (⟨#[72, 69, 65, 68, 73, 78, 71]⟩ : ByteArray), (⟨#[83, 80, 69, 69, 68]⟩ : ByteArray), (⟨#[68, 73, 82, 69, 67, 84]⟩ : ByteArray), (⟨#[72, 79, 76, 68]⟩ : ByteArray), (⟨#[67, 79, 78, 84, 65, 67, 84]⟩ : ByteArray), (⟨#[76, 65, 78, 68]⟩ : ByteArray)] : List ByteArray) a0).bind fun x735 =>
some (x735)
abbrev ρ30 := (Bool)
def g30 (n : Nat) (a0 : ByteArray) : Option ρ30 :=
(g51 n a0).bind fun x733 =>
bif x733 then (
(g57 n a0).bind fun x736 =>
some (decide (x736 < (0)))) else (
some (false))
abbrev ρ8 := (Int)
def g8 (n : Nat) (a0 : TClearance) : Option ρ8 :=
(g30 n a0.Call).bind fun x737 =>
bif (!x737) then (
some (3)) else (
bif (decide (a0.Kind < (0))) then (
some (1)) else (
bif (decide (a0.Kind > (6))) then (
some (1)) else (
bif (decide (a0.Kind > (2))) then (
bif (a0.Value != (0)) then (
some (3)) else (
(g30 n a0.Fix).bind fun x738 =>
bif (!x738) then (
some (3)) else (
some (0)))) else (
bif (!((a0.Fix).toList == ((⟨#[]⟩ : ByteArray)).toList)) then (
some (3)) else (
bif (decide (a0.Value < (0))) then (
some (4)) else (
(getI ([(60000), (4095), (400)] : List Int) a0.Kind).bind fun x739 =>
bif (decide (a0.Value > x739)) then (
some (4)) else (
some (0))))))))
abbrev ρ27 := (Int × Int × Bool)
def S27_0 (n : Nat) (c4 : Int) (c6 : Bool) (a0 : List TTubeNode) (c14 : Int) (k0_0 : Int) (k0_1 : Int) (k0_2 : Int) (k0_3 : Int) (k0_4 : Int) (k0_5 : Int) (v15 : Int) : Option ((Int) ⊕ ρ27) :=
bif (decide (v15 < c14)) then (
(getI a0 v15).bind fun x741 =>
bif (decide (x741.Node_Time > k0_0)) then (
(g55 n (⟨x741.Node_At_X, x741.Node_At_Y⟩ : TP) (⟨k0_1, k0_2⟩ : TP)).bind fun x742 =>
(g54 n x742).bind fun x743 =>
(g56 n (⟨k0_1, k0_2⟩ : TP) (⟨x741.Node_At_X, x741.Node_At_Y⟩ : TP)).bind fun x744 =>
(divO x744.1 (IntKind.wrap .i64 (x741.Node_Time - k0_0))).bind fun x745 =>
some (.inr (x743.1, (IntKind.wrap .i64 x745), (x743.2 == (0))))) else (
some (.inl (IntKind.wrap .i64 (v15 + (1)))))) else (
some (.inr ((0), (0), false)))
def g27 (n : Nat) (a0 : List TTubeNode) (a1 : TTubeNode) : Option ρ27 :=
iterO (fun y : Int => S27_0 n (0) false a0 (a0.length : Int) a1.Node_Time a1.Node_At_X a1.Node_At_Y a1.Node_Height a1.Radius a1.Band y) n (0)
abbrev ρ7 := ((List TClearance) × Int)
def S7_0_2 (n : Nat) (c9 : Int) (c15 : Int) (c16 : Int) (c17 : Bool) (v20 : Int) (c128_0 : Int) (c128_1 : Int) (k1_0 : ByteArray) (k1_1 : Int) (k1_2 : Int) (k1_3 : Int) (k1_4 : Int) (k1_5 : Int) (k1_6 : Int) (k209_0 : Int) (k209_1 : Int) (k209_2 : Int) (k209_3 : Int) (k209_4 : Int) (k209_5 : Int) (w129 : Int) (L90000 : List TClearance) (bw0_0 : ByteArray) : Option ((Int × List TClearance × ByteArray) ⊕ ((Int × List TClearance × ByteArray) ⊕ ρ7)) :=
bif (decide (w129 < (2))) then (
(getI ([c128_0, c128_1] : List Int) w129).bind fun x753 =>
(g29 n x753).bind fun x754 =>
(roomO (L90000.length + ([(⟨bw0_0, (1), x754, (⟨#[]⟩ : ByteArray)⟩ : TClearance)] : List TClearance).length) 48).bind fun x756 =>
some (.inl ((IntKind.wrap .i64 (w129 + (1))), (L90000 ++ ([(⟨bw0_0, (1), x754, (⟨#[]⟩ : ByteArray)⟩ : TClearance)] : List TClearance)), bw0_0))) else (
some (.inr (.inl ((IntKind.wrap .i64 (v20 + (1))), L90000, bw0_0))))
def S7_0_1 (n : Nat) (c9 : Int) (c15 : Int) (c16 : Int) (c17 : Bool) (v20 : Int) (c102_0 : Int) (c102_1 : Int) (k1_0 : ByteArray) (k1_1 : Int) (k1_2 : Int) (k1_3 : Int) (k1_4 : Int) (k1_5 : Int) (k1_6 : Int) (k209_0 : Int) (k209_1 : Int) (k209_2 : Int) (k209_3 : Int) (k209_4 : Int) (k209_5 : Int) (w103 : Int) (L90000 : List TClearance) (bw0_0 : ByteArray) : Option ((Int × List TClearance × ByteArray) ⊕ ((Int × List TClearance × ByteArray) ⊕ ρ7)) :=
bif (decide (w103 < (2))) then (
(getI ([c102_0, c102_1] : List Int) w103).bind fun x750 =>
bif (decide (x750 ≥ k1_5)) then (
bif (decide (x750 ≤ k1_6)) then (
(roomO (L90000.length + ([(⟨bw0_0, (2), x750, (⟨#[]⟩ : ByteArray)⟩ : TClearance)] : List TClearance).length) 48).bind fun x752 =>
some (.inl ((IntKind.wrap .i64 (w103 + (1))), (L90000 ++ ([(⟨bw0_0, (2), x750, (⟨#[]⟩ : ByteArray)⟩ : TClearance)] : List TClearance)), bw0_0))) else (
some (.inl ((IntKind.wrap .i64 (w103 + (1))), L90000, bw0_0)))) else (
some (.inl ((IntKind.wrap .i64 (w103 + (1))), L90000, bw0_0)))) else (
((iterO (fun y : Int × List TClearance × ByteArray => S7_0_2 n c9 c15 c16 c17 v20 (IntKind.wrap .i64 (c15 + (IntKind.wrap .i64 ((171) * v20)))) (IntKind.wrap .i64 (c15 - (IntKind.wrap .i64 ((171) * v20)))) k1_0 k1_1 k1_2 k1_3 k1_4 k1_5 k1_6 k209_0 k209_1 k209_2 k209_3 k209_4 k209_5 y.1 y.2.1 y.2.2) n ((0), L90000, bw0_0)).map Sum.inr))
def S7_0_0 (n : Nat) (c9 : Int) (c15 : Int) (c16 : Int) (c17 : Bool) (v20 : Int) (c76_0 : Int) (c76_1 : Int) (k1_0 : ByteArray) (k1_1 : Int) (k1_2 : Int) (k1_3 : Int) (k1_4 : Int) (k1_5 : Int) (k1_6 : Int) (k209_0 : Int) (k209_1 : Int) (k209_2 : Int) (k209_3 : Int) (k209_4 : Int) (k209_5 : Int) (w77 : Int) (L90000 : List TClearance) (bw0_0 : ByteArray) : Option ((Int × List TClearance × ByteArray) ⊕ ((Int × List TClearance × ByteArray) ⊕ ρ7)) :=
bif (decide (w77 < (2))) then (
(getI ([c76_0, c76_1] : List Int) w77).bind fun x747 =>
bif (decide (x747 ≥ (0))) then (
bif (decide (x747 ≤ k1_2)) then (
(roomO (L90000.length + ([(⟨bw0_0, (0), x747, (⟨#[]⟩ : ByteArray)⟩ : TClearance)] : List TClearance).length) 48).bind fun x749 =>
some (.inl ((IntKind.wrap .i64 (w77 + (1))), (L90000 ++ ([(⟨bw0_0, (0), x747, (⟨#[]⟩ : ByteArray)⟩ : TClearance)] : List TClearance)), bw0_0))) else (
some (.inl ((IntKind.wrap .i64 (w77 + (1))), L90000, bw0_0)))) else (
some (.inl ((IntKind.wrap .i64 (w77 + (1))), L90000, bw0_0)))) else (
bif (!c17) then (
some (.inr (.inl ((IntKind.wrap .i64 (v20 + (1))), L90000, bw0_0)))) else (
((iterO (fun y : Int × List TClearance × ByteArray => S7_0_1 n c9 c15 c16 c17 v20 (IntKind.wrap .i64 (c16 + (IntKind.wrap .i64 ((15) * v20)))) (IntKind.wrap .i64 (c16 - (IntKind.wrap .i64 ((15) * v20)))) k1_0 k1_1 k1_2 k1_3 k1_4 k1_5 k1_6 k209_0 k209_1 k209_2 k209_3 k209_4 k209_5 y.1 y.2.1 y.2.2) n ((0), L90000, bw0_0)).map Sum.inr)))
def S7_0 (n : Nat) (c9 : Int) (c15 : Int) (c16 : Int) (c17 : Bool) (k1_0 : ByteArray) (k1_1 : Int) (k1_2 : Int) (k1_3 : Int) (k1_4 : Int) (k1_5 : Int) (k1_6 : Int) (k209_0 : Int) (k209_1 : Int) (k209_2 : Int) (k209_3 : Int) (k209_4 : Int) (k209_5 : Int) (v20 : Int) (L90000 : List TClearance) (bv0_0 : ByteArray) : Option ((Int × List TClearance × ByteArray) ⊕ ρ7) :=
bif (decide (v20 ≤ (3))) then (
iterO (fun y : Int × List TClearance × ByteArray => S7_0_0 n c9 c15 c16 c17 v20 (IntKind.wrap .i64 (k209_3 + (IntKind.wrap .i64 ((1000) * v20)))) (IntKind.wrap .i64 (k209_3 - (IntKind.wrap .i64 ((1000) * v20)))) k1_0 k1_1 k1_2 k1_3 k1_4 k1_5 k1_6 k209_0 k209_1 k209_2 k209_3 k209_4 k209_5 y.1 y.2.1 y.2.2) n ((0), L90000, bv0_0)) else (
some (.inr (L90000, (0))))
def g7 (n : Nat) (a0 : ByteArray) (a1 : List TTubeNode) (a2 : Int) (a3 : TKind) : Option ρ7 :=
(g24 n a1).bind fun x722 =>
bif (x722 != (0)) then (
some ([], x722)) else (
(g25 n a3).bind fun x731 =>
bif (x731 != (0)) then (
some ([], x731)) else (
(g26 n a1 a2).bind fun x732 =>
bif (x732.2 != (0)) then (
some ([], x732.2)) else (
(g8 n (⟨a0, (0), (0), (⟨#[]⟩ : ByteArray)⟩ : TClearance)).bind fun x740 =>
bif (x740 != (0)) then (
some ([], x740)) else (
(g27 n a1 x732.1).bind fun x746 =>
iterO (fun y : Int × List TClearance × ByteArray => S7_0 n (0) x746.1 x746.2.1 x746.2.2 a3.Name a3.Wake a3.Ceiling a3.Climb a3.Descent a3.Slow a3.Fast x732.1.Node_Time x732.1.Node_At_X x732.1.Node_At_Y x732.1.Node_Height x732.1.Radius x732.1.Band y.1 y.2.1 y.2.2) n ((1), [], a0)))))
abbrev ρ31 := (Int)
def S31_0 (n : Nat) (a0 : List TClearance) (c4 : Int) (c7 : Int) (k0_0 : ByteArray) (k0_1 : Int) (k0_2 : Int) (k0_3 : ByteArray) (v8 : Int) : Option ((Int) ⊕ ρ31) :=
bif (decide (v8 < c7)) then (
(getI a0 v8).bind fun x761 =>
bif (decide ((⟨k0_0, k0_1, k0_2, k0_3⟩ : TClearance) = x761)) then (
some (.inr (v8))) else (
some (.inl (IntKind.wrap .i64 (v8 + (1)))))) else (
some (.inr (-1)))
def g31 (n : Nat) (a0 : List TClearance) (a1 : TClearance) : Option ρ31 :=
iterO (fun y : Int => S31_0 n a0 (0) (a0.length : Int) a1.Call a1.Kind a1.Value a1.Fix y) n (0)
abbrev ρ9 := (Bool)
def g9 (n : Nat) (a0 : List TClearance) (a1 : TClearance) : Option ρ9 :=
(g31 n a0 a1).bind fun x762 =>
some (decide (x762 ≥ (0)))
abbrev ρ6 := Bool
def g6 (n : Nat) : Option ρ6 := some true

abbrev ρ3 := (Bool)
def S3_0 (n : Nat) (a1 : ByteArray) (c8 : Bool) (c9 : List TClearance) (c29 : Int) (v30 : Int) : Option ((Int) ⊕ ρ3) :=
bif (decide (v30 < c29)) then (
(getI c9 v30).bind fun x758 =>
bif (!((x758.Call).toList == (a1).toList)) then (
some (.inr (false))) else (
(g8 n x758).bind fun x759 =>
bif (x759 != (0)) then (
some (.inr (false))) else (
(sliceO c9 none (some v30)).bind fun x760 =>
(g9 n x760 x758).bind fun x763 =>
bif x763 then (
some (.inr (false))) else (
some (.inl (IntKind.wrap .i64 (v30 + (1)))))))) else (
some (.inr (decide ((c9.length : Int) ≤ (18)))))
def g3 (n : Nat) (a0 : List TTubeNode) (a1 : ByteArray) (a2 : Int) (a3 : TKind) : Option ρ3 :=
(g6 n).bind fun x721 =>
bif (!x721) then (
some (false)) else (
(g7 n a1 a0 a2 a3).bind fun x757 =>
bif (x757.2 != (0)) then (
some ((x757.1.length : Int) == (0))) else (
iterO (fun y : Int => S3_0 n a1 false x757.1 (x757.1.length : Int) y) n (0)))
end Go.Proofs.YteaimbiojpjneaaGreatDoor
