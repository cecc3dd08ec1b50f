/- Plain functional programs out of the program's functions; printed by wip/Ext.lean.txt. -/
import Derived.Test.YtlgbioidkbeanaaX1T
import Derived.Test.YtlgbioidkbeanaaPJ
set_option linter.unusedVariables false
set_option linter.unusedSimpArgs false
set_option maxRecDepth 100000
set_option maxHeartbeats 4000000
namespace Go.Proofs.Ytlgbioidkbeanaa
abbrev ρ36 := (Int)
def g36 (n : Nat) (a0 : TSep) : Option ρ36 :=
bif (decide (a0.Lateral < (0))) then (
some (4)) else (
bif (decide (a0.Lateral > (1000000))) then (
some (4)) else (
bif (decide (a0.Vertical < (0))) then (
some (4)) else (
bif (decide (a0.Vertical > (60000))) then (
some (4)) else (
some (0)))))
abbrev ρ45 := (Int)
def g45 (n : Nat) (a0 : TP) : Option ρ45 :=
bif (decide (a0.X < (-1000000))) then (
some (4)) else (
bif (decide (a0.X > (1000000))) then (
some (4)) else (
bif (decide (a0.Y < (-1000000))) then (
some (4)) else (
bif (decide (a0.Y > (1000000))) then (
some (4)) else (
some (0)))))
abbrev ρ33 := (Int)
def S33_0 (n : Nat) (a0 : List TTubeNode) (c2 : Int) (c15 : Int) (v16 : Int) : Option ((Int) ⊕ ρ33) :=
bif (decide (v16 < c15)) then (
(getI a0 v16).bind fun x0 =>
bif (decide (x0.Node_Time < (0))) then (
some (.inr (12))) else (
bif (decide (x0.Node_Time > (200000))) then (
some (.inr (12))) else (
bif (decide (v16 > (0))) then (
(getI a0 (IntKind.wrap .i64 (v16 - (1)))).bind fun x1 =>
bif (decide (x0.Node_Time ≤ x1.Node_Time)) then (
some (.inr (12))) else (
(g45 n (⟨x0.Node_At_X, x0.Node_At_Y⟩ : TP)).bind fun x2 =>
bif (x2 != (0)) then (
some (.inr (x2))) else (
bif (decide (x0.Node_Height < (0))) then (
some (.inr (4))) else (
bif (decide (x0.Node_Height > (60000))) then (
some (.inr (4))) else (
bif (decide (x0.Radius < (0))) then (
some (.inr (4))) else (
bif (decide (x0.Radius > (1000000))) then (
some (.inr (4))) else (
bif (decide (x0.Band < (0))) then (
some (.inr (4))) else (
bif (decide (x0.Band > (60000))) then (
some (.inr (4))) else (
some (.inl (IntKind.wrap .i64 (v16 + (1))))))))))))) else (
(g45 n (⟨x0.Node_At_X, x0.Node_At_Y⟩ : TP)).bind fun x3 =>
bif (x3 != (0)) then (
some (.inr (x3))) else (
bif (decide (x0.Node_Height < (0))) then (
some (.inr (4))) else (
bif (decide (x0.Node_Height > (60000))) then (
some (.inr (4))) else (
bif (decide (x0.Radius < (0))) then (
some (.inr (4))) else (
bif (decide (x0.Radius > (1000000))) then (
some (.inr (4))) else (
bif (decide (x0.Band < (0))) then (
some (.inr (4))) else (
bif (decide (x0.Band > (60000))) then (
some (.inr (4))) else (
some (.inl (IntKind.wrap .i64 (v16 + (1))))))))))))))) else (
some (.inr (0)))
def g33 (n : Nat) (a0 : List TTubeNode) : Option ρ33 :=
bif (decide ((a0.length : Int) > (64))) then (
some (2)) else (
bif ((a0.length : Int) == (0)) then (
some (3)) else (
iterO (fun y : Int => S33_0 n a0 (0) (a0.length : Int) y) n (0)))
abbrev ρ23 := (Int)
def S23_0_0 (n : Nat) (c2 : Int) (c3 : Int) (a0 : List (List TJointOption)) (c13 : Int) (v14 : Int) (x4 : List TJointOption) (c33 : Int) (w34 : Int) : Option ((Int) ⊕ ((Int × Int) ⊕ ρ23)) :=
bif (decide (w34 < c33)) then (
(getI x4 w34).bind fun x5 =>
bif (decide (x5.Cost < (0))) then (
some (.inr (.inr (4)))) else (
bif (decide (x5.Cost > (1000000))) then (
some (.inr (.inr (4)))) else (
(g33 n x5.Tube).bind fun x6 =>
bif (x6 != (0)) then (
some (.inr (.inr (x6)))) else (
some (.inl (IntKind.wrap .i64 (w34 + (1)))))))) else (
some (.inr (.inl (c3, (IntKind.wrap .i64 (v14 + (1)))))))
def S23_0 (n : Nat) (c2 : Int) (a0 : List (List TJointOption)) (c13 : Int) (v3 : Int) (v14 : Int) : Option ((Int × Int) ⊕ ρ23) :=
bif (decide (v14 < c13)) then (
(getI a0 v14).bind fun x4 =>
bif ((x4.length : Int) == (0)) then (
some (.inr (8))) else (
bif (decide ((x4.length : Int) > (8))) then (
some (.inr (2))) else (
bif (decide ((IntKind.wrap .i64 (v3 * (x4.length : Int))) > (5000))) then (
some (.inr (2))) else (
iterO (fun y : Int => S23_0_0 n c2 (IntKind.wrap .i64 (v3 * (x4.length : Int))) a0 c13 v14 x4 (x4.length : Int) y) n (0))))) else (
some (.inr (0)))
def g23 (n : Nat) (a0 : List (List TJointOption)) : Option ρ23 :=
bif (decide ((a0.length : Int) > (6))) then (
some (2)) else (
iterO (fun y : Int × Int => S23_0 n (0) a0 (a0.length : Int) y.1 y.2) n ((1), (0)))
abbrev ρ37 := (Int)
def S37_0 (n : Nat) (c4 : Int) (a1 : List (List TTubeNode)) (c15 : Int) (v16 : Int) : Option ((Int) ⊕ ρ37) :=
bif (decide (v16 < c15)) then (
(getI a1 v16).bind fun x8 =>
(g33 n x8).bind fun x9 =>
bif (x9 != (0)) then (
some (.inr (x9))) else (
some (.inl (IntKind.wrap .i64 (v16 + (1)))))) else (
some (.inr (0)))
def g37 (n : Nat) (a0 : TSep) (a1 : List (List TTubeNode)) : Option ρ37 :=
(g36 n a0).bind fun x7 =>
bif (x7 != (0)) then (
some (x7)) else (
iterO (fun y : Int => S37_0 n (0) a1 (a1.length : Int) y) n (0))
abbrev ρ47 := (Int × Int)
def g47 (n : Nat) (a0 : List TTubeNode) (a1 : List TTubeNode) : Option ρ47 :=
(getI a0 (0)).bind fun x11 =>
(getI a1 (0)).bind fun x12 =>
(getI a0 (IntKind.wrap .i64 ((a0.length : Int) - (1)))).bind fun x13 =>
(getI a1 (IntKind.wrap .i64 ((a1.length : Int) - (1)))).bind fun x14 =>
some ((if x12.Node_Time > x11.Node_Time then x12.Node_Time else x11.Node_Time), (if x14.Node_Time < x13.Node_Time then x14.Node_Time else x13.Node_Time))
abbrev ρ55 := (Int × Int)
def g55 (n : Nat) (a0 : List TTubeNode) : Option ρ55 :=
(getI a0 (0)).bind fun x17 =>
(getI a0 (IntKind.wrap .i64 ((a0.length : Int) - (1)))).bind fun x18 =>
some (x17.Node_Time, x18.Node_Time)
abbrev ρ69 := (Int)
def g69 (n : Nat) (a0 : TTubeNode) (a1 : Int) : Option ρ69 :=
some (IntKind.wrap .i64 (a0.Node_Time - a1))
abbrev ρ68 := (Int × Bool)
def S68_0 (n : Nat) (a0 : List TTubeNode) (a1 : Int) (c6 : Int) (c7 : Bool) (c8 : Int) (v9 : Int) (v10 : Int) : Option ((Int × Int) ⊕ ρ68) :=
bif (decide (v9 < v10)) then (
(getI a0 (IntKind.wrap .i64 (Int.fdiv (IntKind.wrap .u64 (IntKind.wrap .i64 (v9 + v10))) 2))).bind fun x20 =>
(g69 n x20 a1).bind fun x21 =>
bif (decide (x21 < (0))) then (
some (.inl ((IntKind.wrap .i64 ((IntKind.wrap .i64 (Int.fdiv (IntKind.wrap .u64 (IntKind.wrap .i64 (v9 + v10))) 2)) + (1))), v10))) else (
some (.inl (v9, (IntKind.wrap .i64 (Int.fdiv (IntKind.wrap .u64 (IntKind.wrap .i64 (v9 + v10))) 2)))))) else (
bif (decide (v9 < c8)) then (
(getI a0 v9).bind fun x22 =>
(g69 n x22 a1).bind fun x23 =>
some (.inr (v9, (x23 == (0))))) else (
some (.inr (v9, false))))
def g68 (n : Nat) (a0 : List TTubeNode) (a1 : Int) : Option ρ68 :=
iterO (fun y : Int × Int => S68_0 n a0 a1 (0) false (a0.length : Int) y.1 y.2) n ((0), (a0.length : Int))
abbrev ρ71 := (Int × Int)
def g71 (n : Nat) (a0 : Int) (a1 : Int) : Option ρ71 :=
bif (a1 == (0)) then (
some ((0), (10))) else (
bif (a0 == (-9223372036854775808)) then (
bif (a1 == (-1)) then (
some ((0), (2))) else (
(divO a0 a1).bind fun x32 =>
(modO a0 a1).bind fun x33 =>
bif (x33 != (0)) then (
bif (!((decide (a0 < (0))) == (decide (a1 < (0))))) then (
some ((IntKind.wrap .i64 ((IntKind.wrap .i64 x32) - (1))), (0))) else (
some ((IntKind.wrap .i64 x32), (0)))) else (
some ((IntKind.wrap .i64 x32), (0))))) else (
(divO a0 a1).bind fun x34 =>
(modO a0 a1).bind fun x35 =>
bif (x35 != (0)) then (
bif (!((decide (a0 < (0))) == (decide (a1 < (0))))) then (
some ((IntKind.wrap .i64 ((IntKind.wrap .i64 x34) - (1))), (0))) else (
some ((IntKind.wrap .i64 x34), (0)))) else (
some ((IntKind.wrap .i64 x34), (0)))))
abbrev ρ70 := (TP × Int)
def g70 (n : Nat) (a0 : TP) (a1 : TP) (a2 : Int) (a3 : Int) : Option ρ70 :=
bif (decide (a3 ≤ (0))) then (
some ((⟨(0), (0)⟩ : TP), (10))) else (
bif (decide (a3 > (200000))) then (
some ((⟨(0), (0)⟩ : TP), (4))) else (
bif (decide (a2 < (0))) then (
some ((⟨(0), (0)⟩ : TP), (4))) else (
bif (decide (a2 > a3)) then (
some ((⟨(0), (0)⟩ : TP), (4))) else (
(g45 n a0).bind fun x28 =>
bif (x28 != (0)) then (
(g45 n a0).bind fun x29 =>
some ((⟨(0), (0)⟩ : TP), x29)) else (
(g45 n a1).bind fun x30 =>
bif (x30 != (0)) then (
(g45 n a1).bind fun x31 =>
some ((⟨(0), (0)⟩ : TP), x31)) else (
(g71 n (IntKind.wrap .i64 ((IntKind.wrap .i64 (a1.X - a0.X)) * a2)) a3).bind fun x36 =>
(g71 n (IntKind.wrap .i64 ((IntKind.wrap .i64 (a1.Y - a0.Y)) * a2)) a3).bind fun x37 =>
some ((⟨(IntKind.wrap .i64 (a0.X + x36.1)), (IntKind.wrap .i64 (a0.Y + x37.1))⟩ : TP), (0))))))))
abbrev ρ72 := (Int × Int)
def g72 (n : Nat) (a0 : Int) (a1 : Int) : Option ρ72 :=
(g71 n a0 a1).bind fun x40 =>
bif (x40.2 == (0)) then (
(modO a0 a1).bind fun x41 =>
bif (x41 != (0)) then (
some ((IntKind.wrap .i64 (x40.1 + (1))), x40.2)) else (
some (x40.1, x40.2))) else (
some (x40.1, x40.2))
abbrev ρ56 := (TTubeNode)
def g56 (n : Nat) (a0 : List TTubeNode) (a1 : Int) : Option ρ56 :=
(g68 n a0 a1).bind fun x24 =>
bif x24.2 then (
(getI a0 x24.1).bind fun x25 =>
some (x25)) else (
(getI a0 (IntKind.wrap .i64 (x24.1 - (1)))).bind fun x26 =>
(getI a0 x24.1).bind fun x27 =>
(g70 n (⟨x26.Node_At_X, x26.Node_At_Y⟩ : TP) (⟨x27.Node_At_X, x27.Node_At_Y⟩ : TP) (IntKind.wrap .i64 (a1 - x26.Node_Time)) (IntKind.wrap .i64 (x27.Node_Time - x26.Node_Time))).bind fun x38 =>
(g71 n (IntKind.wrap .i64 ((IntKind.wrap .i64 (x27.Node_Height - x26.Node_Height)) * (IntKind.wrap .i64 (a1 - x26.Node_Time)))) (IntKind.wrap .i64 (x27.Node_Time - x26.Node_Time))).bind fun x39 =>
(g72 n (IntKind.wrap .i64 ((IntKind.wrap .i64 (x27.Radius - x26.Radius)) * (IntKind.wrap .i64 (a1 - x26.Node_Time)))) (IntKind.wrap .i64 (x27.Node_Time - x26.Node_Time))).bind fun x42 =>
(g72 n (IntKind.wrap .i64 ((IntKind.wrap .i64 (x27.Band - x26.Band)) * (IntKind.wrap .i64 (a1 - x26.Node_Time)))) (IntKind.wrap .i64 (x27.Node_Time - x26.Node_Time))).bind fun x43 =>
some (⟨a1, x38.1.X, x38.1.Y, (IntKind.wrap .i64 (x26.Node_Height + x39.1)), (IntKind.wrap .i64 (x26.Radius + x42.1)), (IntKind.wrap .i64 (x26.Band + x43.1))⟩ : TTubeNode))
abbrev ρ48 := (TTubeNode × Int)
def g48 (n : Nat) (a0 : List TTubeNode) (a1 : Int) : Option ρ48 :=
(g33 n a0).bind fun x16 =>
bif (x16 != (0)) then (
some ((⟨(0), (0), (0), (0), (0), (0)⟩ : TTubeNode), x16)) else (
(g55 n a0).bind fun x19 =>
bif (decide (a1 < x19.1)) then (
some ((⟨(0), (0), (0), (0), (0), (0)⟩ : TTubeNode), (12))) else (
bif (decide (a1 > x19.2)) then (
some ((⟨(0), (0), (0), (0), (0), (0)⟩ : TTubeNode), (12))) else (
(g56 n a0 a1).bind fun x44 =>
some (x44, (0)))))
abbrev ρ80 := (TP)
def g80 (n : Nat) (a0 : TP) (a1 : TP) : Option ρ80 :=
some (⟨(IntKind.wrap .i64 (a0.X - a1.X)), (IntKind.wrap .i64 (a0.Y - a1.Y))⟩ : TP)
abbrev ρ81 := (Int)
def g81 (n : Nat) (a0 : TP) (a1 : TP) : Option ρ81 :=
some (IntKind.wrap .i64 ((IntKind.wrap .i64 (a0.X * a1.X)) + (IntKind.wrap .i64 (a0.Y * a1.Y))))
abbrev ρ73 := (Int)
def g73 (n : Nat) (a0 : TP) (a1 : TP) : Option ρ73 :=
(g80 n a0 a1).bind fun x47 =>
(g81 n x47 x47).bind fun x48 =>
some (x48)
abbrev ρ74 := (Int)
def S74_0 (n : Nat) (a0 : Int) (c2 : Int) (v3 : Int) (v4 : Int) : Option ((Int × Int) ⊕ ρ74) :=
bif (decide (v3 < v4)) then (
bif (decide ((IntKind.wrap .i64 ((IntKind.wrap .i64 (v3 + (IntKind.wrap .i64 (Int.tdiv (IntKind.wrap .i64 ((IntKind.wrap .i64 (v4 - v3)) + (1))) (2))))) * (IntKind.wrap .i64 (v3 + (IntKind.wrap .i64 (Int.tdiv (IntKind.wrap .i64 ((IntKind.wrap .i64 (v4 - v3)) + (1))) (2))))))) ≤ a0)) then (
some (.inl ((IntKind.wrap .i64 (v3 + (IntKind.wrap .i64 (Int.tdiv (IntKind.wrap .i64 ((IntKind.wrap .i64 (v4 - v3)) + (1))) (2))))), v4))) else (
some (.inl (v3, (IntKind.wrap .i64 ((IntKind.wrap .i64 (v3 + (IntKind.wrap .i64 (Int.tdiv (IntKind.wrap .i64 ((IntKind.wrap .i64 (v4 - v3)) + (1))) (2))))) - (1))))))) else (
some (.inr (v3)))
def g74 (n : Nat) (a0 : Int) : Option ρ74 :=
bif (decide (a0 ≤ (0))) then (
some (0)) else (
iterO (fun y : Int × Int => S74_0 n a0 (0) y.1 y.2) n ((0), (3037000499)))
abbrev ρ57 := (Int × Int)
def g57 (n : Nat) (a0 : TP) (a1 : TP) : Option ρ57 :=
(g73 n a0 a1).bind fun x49 =>
(g74 n x49).bind fun x50 =>
bif (decide ((IntKind.wrap .i64 (x50 * x50)) < x49)) then (
some (x50, (IntKind.wrap .i64 (x50 + (1))))) else (
some (x50, x50))
abbrev ρ49 := (Bool)
def g49 (n : Nat) (a0 : TTubeNode) (a1 : TTubeNode) (a2 : TSep) : Option ρ49 :=
(g57 n (⟨a0.Node_At_X, a0.Node_At_Y⟩ : TP) (⟨a1.Node_At_X, a1.Node_At_Y⟩ : TP)).bind fun x51 =>
bif (decide ((IntKind.wrap .i64 ((IntKind.wrap .i64 (x51.1 - a0.Radius)) - a1.Radius)) ≥ a2.Lateral)) then (
some (true)) else (
some (decide ((IntKind.wrap .i64 ((IntKind.wrap .i64 ((if (IntKind.wrap .i64 (a1.Node_Height - a0.Node_Height)) > (IntKind.wrap .i64 (a0.Node_Height - a1.Node_Height)) then (IntKind.wrap .i64 (a1.Node_Height - a0.Node_Height)) else (IntKind.wrap .i64 (a0.Node_Height - a1.Node_Height))) - a0.Band)) - a1.Band)) ≥ a2.Vertical)))
abbrev ρ38 := ((List TSpan))
def S38_0 (n : Nat) (a0 : List TTubeNode) (a1 : List TTubeNode) (c9 : Int) (k0_0 : Int) (k0_1 : Int) (v10 : Int) (L90000 : List TSpan) : Option ((Int × List TSpan) ⊕ ρ38) :=
bif (decide (v10 ≤ c9)) then (
(g48 n a0 v10).bind fun x45 =>
(g48 n a1 v10).bind fun x46 =>
(g49 n x45.1 x46.1 (⟨k0_0, k0_1⟩ : TSep)).bind fun x52 =>
bif x52 then (
some (.inl ((IntKind.wrap .i64 (v10 + (1))), L90000))) else (
bif (decide ((L90000.length : Int) > (0))) then (
(getI L90000 (IntKind.wrap .i64 ((L90000.length : Int) - (1)))).bind fun x53 =>
bif (x53.To == v10) then (
(getI L90000 (IntKind.wrap .i64 ((L90000.length : Int) - (1)))).bind fun x54 =>
some (.inl ((IntKind.wrap .i64 (v10 + (1))), (L90000.set (((IntKind.wrap .i64 ((L90000.length : Int) - (1))) : Int).toNat) (⟨x54.From, (IntKind.wrap .i64 (v10 + (1)))⟩ : TSpan))))) else (
(roomO (L90000.length + ([(⟨v10, (IntKind.wrap .i64 (v10 + (1)))⟩ : TSpan)] : List TSpan).length) 16).bind fun x56 =>
some (.inl ((IntKind.wrap .i64 (v10 + (1))), (L90000 ++ ([(⟨v10, (IntKind.wrap .i64 (v10 + (1)))⟩ : TSpan)] : List TSpan)))))) else (
(roomO (L90000.length + ([(⟨v10, (IntKind.wrap .i64 (v10 + (1)))⟩ : TSpan)] : List TSpan).length) 16).bind fun x58 =>
some (.inl ((IntKind.wrap .i64 (v10 + (1))), (L90000 ++ ([(⟨v10, (IntKind.wrap .i64 (v10 + (1)))⟩ : TSpan)] : List TSpan))))))) else (
some (.inr (L90000)))
def g38 (n : Nat) (a0 : List TTubeNode) (a1 : List TTubeNode) (a2 : TSep) : Option ρ38 :=
(g47 n a0 a1).bind fun x15 =>
iterO (fun y : Int × List TSpan => S38_0 n a0 a1 x15.2 a2.Lateral a2.Vertical y.1 y.2) n (x15.1, [])
abbrev ρ52 := ((List TSpan) × Int)
def g52 (n : Nat) (a0 : List TTubeNode) (a1 : List TTubeNode) (a2 : TSep) : Option ρ52 :=
(g37 n a2 ([a0, a1] : List (List TTubeNode))).bind fun x10 =>
bif (x10 != (0)) then (
some ([], x10)) else (
(g38 n a0 a1 a2).bind fun x59 =>
some (x59, (0)))
abbrev ρ42 := (Int × Int)
def g42 (n : Nat) (a0 : List TTubeNode) (a1 : List TTubeNode) (a2 : TSep) : Option ρ42 :=
(g52 n a0 a1 a2).bind fun x60 =>
bif (x60.2 != (0)) then (
some ((0), x60.2)) else (
bif ((x60.1.length : Int) == (0)) then (
some ((0), (8))) else (
(getI x60.1 (0)).bind fun x61 =>
some (x61.From, (0))))
abbrev ρ53 := (Bool)
def g53 (n : Nat) (a0 : Int) : Option ρ53 :=
some (a0 != a0)
abbrev ρ44 := (Int)
def g44 (n : Nat) (a0 : Int) (a1 : Int) : Option ρ44 :=
(g53 n a0).bind fun x64 =>
(g53 n a1).bind fun x65 =>
bif x64 then (
bif x65 then (
some (0)) else (
some (-1))) else (
bif x65 then (
some (1)) else (
bif (decide (a0 < a1)) then (
some (-1)) else (
bif (decide (a0 > a1)) then (
some (1)) else (
some (0)))))
abbrev ρ32 := (Int)
def S32_0 (n : Nat) (a0 : List Int) (a1 : List Int) (c4 : Int) (c10 : Int) (v11 : Int) : Option ((Int) ⊕ ρ32) :=
bif (decide (v11 < c10)) then (
(getI a0 v11).bind fun x62 =>
bif (decide (v11 ≥ (a1.length : Int))) then (
some (.inr (1))) else (
(getI a1 v11).bind fun x63 =>
(g44 n x62 x63).bind fun x66 =>
bif (x66 != (0)) then (
some (.inr (x66))) else (
some (.inl (IntKind.wrap .i64 (v11 + (1))))))) else (
bif (decide ((a0.length : Int) < (a1.length : Int))) then (
some (.inr (-1))) else (
some (.inr (0))))
def g32 (n : Nat) (a0 : List Int) (a1 : List Int) : Option ρ32 :=
iterO (fun y : Int => S32_0 n a0 a1 (0) (a0.length : Int) y) n (0)
abbrev ρ22 := (Bool)
def S22_0 (n : Nat) (a0 : List Int) (a1 : List Int) (c4 : Bool) (c12 : Int) (v13 : Int) : Option ((Int) ⊕ ρ22) :=
bif (decide (v13 < c12)) then (
(getI a0 v13).bind fun x67 =>
(getI a1 v13).bind fun x68 =>
bif (x67 != x68) then (
some (.inr (false))) else (
some (.inl (IntKind.wrap .i64 (v13 + (1)))))) else (
some (.inr (true)))
def g22 (n : Nat) (a0 : List Int) (a1 : List Int) : Option ρ22 :=
bif ((a0.length : Int) != (a1.length : Int)) then (
some (false)) else (
iterO (fun y : Int => S22_0 n a0 a1 false (a0.length : Int) y) n (0))
abbrev ρ12 := (Bool)
def S12_0 (n : Nat) (a2 : Int) (c6 : Bool) (a0 : List (List TTubeNode)) (c14 : Int) (v15 : Int) : Option ((Int) ⊕ ρ12) :=
bif (decide (v15 < c14)) then (
(getI a0 v15).bind fun x72 =>
(g33 n x72).bind fun x73 =>
bif (x73 != (0)) then (
some (.inr (false))) else (
(getI x72 (IntKind.wrap .i64 ((x72.length : Int) - (1)))).bind fun x74 =>
(getI x72 (0)).bind fun x75 =>
bif (decide ((IntKind.wrap .i64 (x74.Node_Time - x75.Node_Time)) > a2)) then (
some (.inr (false))) else (
some (.inl (IntKind.wrap .i64 (v15 + (1))))))) else (
some (.inr (true)))
def g12 (n : Nat) (a0 : List (List TTubeNode)) (a1 : Int) (a2 : Int) : Option ρ12 :=
bif (decide ((a0.length : Int) > a1)) then (
some (false)) else (
iterO (fun y : Int => S12_0 n a2 false a0 (a0.length : Int) y) n (0))
abbrev ρ8 := (Bool)
def S8_0_0 (n : Nat) (c2 : Bool) (c3 : Int) (a0 : List (List TJointOption)) (c9 : Int) (v10 : Int) (x70 : List TJointOption) (c21 : Int) (w22 : Int) : Option ((Int) ⊕ ((Int × Int) ⊕ ρ8)) :=
bif (decide (w22 < c21)) then (
(getI x70 w22).bind fun x71 =>
(g12 n ([x71.Tube] : List (List TTubeNode)) (1) (100)).bind fun x76 =>
bif (!x76) then (
some (.inr (.inr (false)))) else (
some (.inl (IntKind.wrap .i64 (w22 + (1)))))) else (
bif (decide (c3 > (200))) then (
some (.inr (.inr (false)))) else (
some (.inr (.inl (c3, (IntKind.wrap .i64 (v10 + (1))))))))
def S8_0 (n : Nat) (c2 : Bool) (a0 : List (List TJointOption)) (c9 : Int) (v3 : Int) (v10 : Int) : Option ((Int × Int) ⊕ ρ8) :=
bif (decide (v10 < c9)) then (
(getI a0 v10).bind fun x70 =>
iterO (fun y : Int => S8_0_0 n c2 (IntKind.wrap .i64 (v3 * (if (if (9) < (x70.length : Int) then (9) else (x70.length : Int)) > (1) then (if (9) < (x70.length : Int) then (9) else (x70.length : Int)) else (1)))) a0 c9 v10 x70 (x70.length : Int) y) n (0)) else (
some (.inr (true)))
def g8 (n : Nat) (a0 : List (List TJointOption)) : Option ρ8 :=
iterO (fun y : Int × Int => S8_0 n false a0 (a0.length : Int) y.1 y.2) n ((1), (0))
def clO (n : Nat) (l : List (List TJointOption)) (s : TSep) (i k m q : Nat) : Option Bool :=
  (l[i]?).bind fun a => (l[k]?).bind fun b => (a[m]?).bind fun x => (b[q]?).bind fun y => (g42 n x.Tube y.Tube s).map fun r => r.2 == 0
def clAll (n : Nat) (l : List (List TJointOption)) (s : TSep) : Bool :=
  (List.range l.length).all fun k => (List.range k).all fun i => (List.range (l.getD i []).length).all fun m => (List.range (l.getD k []).length).all fun q => (clO n l s i k m q).isSome
def clF (n : Nat) (l : List (List TJointOption)) (s : TSep) (i k m q : Nat) : Bool := (clO n l s i k m q).getD false
def fewL (l : List (List TJointOption)) : Bool := decide (l.length ≤ 6) && l.all fun o => decide (o.length ≤ 8)
def withF (cl : Nat → Nat → Nat → Nat → Bool) (c : List Int) : Int :=
  match (List.range (c.length - 1)).find? fun i => cl i (c.length - 1) (c.getD i 0).toNat (c.getD (c.length - 1) 0).toNat with
  | some i => (i : Int)
  | none => -1
def wlk {σ : Type} (l : List (List TJointOption)) (cl : Nat → Nat → Nat → Nat → Bool) (free : σ → List Int → Option σ) (ref : σ → List Int → Int → Option σ) : Nat → List Int → σ → Option σ
  | 0, c, s => if c ≠ [] ∧ 0 ≤ withF cl c then ref s c (withF cl c) else free s c
  | k + 1, c, s => if c ≠ [] ∧ 0 ≤ withF cl c then ref s c (withF cl c) else (List.range (l.getD c.length []).length).foldlM (fun s (i : Nat) => wlk l cl free ref k (c ++ [((i : Nat) : Int)]) s) s
def costT (l : List (List TJointOption)) : Nat → List Int → Int → Option Int
  | _, [], s => some s
  | i, p :: c, s => (l[i]?).bind fun a => (getI a p).bind fun x => costT l (i + 1) c (IntKind.wrap .i64 (s + x.Cost))
def frB (l : List (List TJointOption)) (s : List Int × Int) (c : List Int) : Option (List Int × Int) :=
  (costT l 0 c 0).bind fun z => if s.2 < 0 ∨ z < s.2 then some (c, z) else some s
abbrev ρ9 := List Int × Int × Int
def g9 (n : Nat) (l : List (List TJointOption)) (s : TSep) : Option ρ9 :=
  (g36 n s).bind fun e => bif e != 0 then some ([], 0, e) else
  (g23 n l).bind fun e => bif e != 0 then some ([], 0, e) else
  bif clAll n l s && fewL l then (wlk l (clF n l s) (frB l) (fun s _ _ => some s) l.length [] (([] : List Int), (-1 : Int))).bind fun r => bif decide (r.2 < 0) then some ([], 0, 8) else some (r.1, r.2, 0)
  else none

abbrev ρ10 := List TJointRefuted × Int
def rfB (s : Bool × List TJointRefuted) (c : List Int) (i : Int) : Option (Bool × List TJointRefuted) := if s.2.length ≤ 1000000 then some (s.1, s.2 ++ [⟨c, i⟩]) else none
def g10 (n : Nat) (l : List (List TJointOption)) (s : TSep) : Option ρ10 :=
  (g36 n s).bind fun e => bif e != 0 then some ([], e) else
  (g23 n l).bind fun e => bif e != 0 then some ([], e) else
  bif clAll n l s && fewL l then (wlk l (clF n l s) (fun s _ => some (true, s.2)) rfB l.length [] (false, ([] : List TJointRefuted))).bind fun r => bif r.1 then some ([], 11) else some (r.2, 0)
  else none

abbrev ρ11 := Int
def goodF (l : List (List TJointOption)) (cl : Nat → Nat → Nat → Nat → Bool) (r : TJointRefuted) : Bool :=
  decide (2 ≤ r.Choice.length) && decide (r.Choice.length ≤ l.length) && decide (0 ≤ r.With) && decide (r.With < (r.Choice.length : Int) - 1) &&
  ((List.range r.Choice.length).all fun i => decide (0 ≤ r.Choice.getD i 0) && decide (r.Choice.getD i 0 < ((l.getD i []).length : Int))) &&
  cl r.With.toNat (r.Choice.length - 1) (r.Choice.getD r.With.toNat 0).toNat (r.Choice.getD (r.Choice.length - 1) 0).toNat
def manyT (z : Int) : List (List TJointOption) → Int
  | [] => z
  | o :: l => manyT (IntKind.wrap .i64 (z * (o.length : Int))) l
def rfdT (n : Nat) (l : List (List TJointOption)) (cl : Nat → Nat → Nat → Nat → Bool) : Option (List Int) → List TJointRefuted → Int → Option Int
  | _, [], z => some (if z ≠ 0 then 1 else 0)
  | p, r :: all, z => if goodF l cl r = false then some 1 else
    (match p with
      | none => some false
      | some a => (g32 n a r.Choice).map fun d => decide (d ≥ 0) || (decide (a.length ≤ r.Choice.length) && decide (a = r.Choice.take a.length))).bind fun bad => if bad then some 1 else
    rfdT n l cl (some r.Choice) all (IntKind.wrap .i64 (z - manyT 1 (l.drop r.Choice.length)))
def g11 (n : Nat) (l : List (List TJointOption)) (s : TSep) (all : List TJointRefuted) : Option ρ11 :=
  (g36 n s).bind fun e => bif e != 0 then some e else
  (g23 n l).bind fun e => bif e != 0 then some e else
  bif clAll n l s && fewL l then if all.length > 5000 then some 2 else rfdT n l (clF n l s) none all (manyT 1 l)
  else none

abbrev ρ7 := Bool
def g7 (n : Nat) : Option ρ7 := some true

abbrev ρ3 := (Bool)
def g3 (n : Nat) (a0 : List (List TJointOption)) (a1 : TSep) : Option ρ3 :=
(g7 n).bind fun x69 =>
bif (!x69) then (
some (false)) else (
(g8 n a0).bind fun x77 =>
bif (!x77) then (
some (true)) else (
(g9 n a0 a1).bind fun x78 =>
(g10 n a0 a1).bind fun x79 =>
bif (x78.2.2 == (0)) then (
bif (x79.2 == (11)) then (
bif ((x79.1.length : Int) == (0)) then (
some ((x78.1.length : Int) == (a0.length : Int))) else (
some (false))) else (
some (false))) else (
bif (x78.2.2 == (8)) then (
bif ((x78.1.length : Int) == (0)) then (
bif (x79.2 == (0)) then (
(g11 n a0 a1 x79.1).bind fun x80 =>
bif (x80 == (0)) then (
some (true)) else (
some (x79.2 == (8)))) else (
some (x79.2 == (8)))) else (
some (false))) else (
bif (x79.2 == x78.2.2) then (
some ((x79.1.length : Int) == (0))) else (
some (false))))))
abbrev ρ14 := (Int)
def g14 (n : Nat) (a0 : Int) (a1 : Int) : Option ρ14 :=
(modO (IntKind.wrap .u64 a0) (IntKind.wrap .u64 a1)).bind fun x84 =>
some (IntKind.wrap .i64 x84)
abbrev ρ5 := (Bool)
def S5_0 (n : Nat) (a0 : List (List TJointOption)) (c8 : Bool) (c76 : Int) (k0_0 : Int) (k0_1 : Int) (v77 : Int) (L90000 : List TJointRefuted) (L90001 : List TJointRefuted) (L90002 : List TJointRefuted) : Option ((Int × List TJointRefuted × List TJointRefuted × List TJointRefuted) ⊕ ρ5) :=
bif (decide (v77 < c76)) then (
bif (v77 == (0 : Int)) then (
(g11 n a0 (⟨k0_0, k0_1⟩ : TSep) L90000).bind fun x96 =>
bif (x96 != (1)) then (
some (.inr (false))) else (
some (.inl ((IntKind.wrap .i64 (v77 + (1))), L90000, L90001, L90002)))) else (
bif (v77 == (1 : Int)) then (
(g11 n a0 (⟨k0_0, k0_1⟩ : TSep) L90001).bind fun x98 =>
bif (x98 != (1)) then (
some (.inr (false))) else (
some (.inl ((IntKind.wrap .i64 (v77 + (1))), L90000, L90001, L90002)))) else (
bif (v77 == (2 : Int)) then (
(g11 n a0 (⟨k0_0, k0_1⟩ : TSep) L90002).bind fun x100 =>
bif (x100 != (1)) then (
some (.inr (false))) else (
some (.inl ((IntKind.wrap .i64 (v77 + (1))), L90000, L90001, L90002)))) else (
none)))) else (
some (.inr (true)))
def g5 (n : Nat) (a0 : List (List TJointOption)) (a1 : TSep) (a2 : Int) (a3 : Int) : Option ρ5 :=
(g7 n).bind fun x81 =>
bif (!x81) then (
some (false)) else (
(g8 n a0).bind fun x82 =>
bif (!x82) then (
some (true)) else (
(g10 n a0 a1).bind fun x83 =>
bif (x83.2 != (0)) then (
some ((x83.1.length : Int) == (0))) else (
bif ((x83.1.length : Int) == (0)) then (
some ((x83.1.length : Int) == (0))) else (
(g14 n a2 (x83.1.length : Int)).bind fun x85 =>
(roomO x83.1.length 32).bind fun x86 =>
(delO 32 x83.1 x85 (IntKind.wrap .i64 (x85 + (1)))).bind fun x87 =>
(roomO x83.1.length 32).bind fun x88 =>
(getI x83.1 x85).bind fun x89 =>
(insO 32 x83.1 x85 ([x89] : List TJointRefuted)).bind fun x90 =>
(roomO x83.1.length 32).bind fun x91 =>
(getI x83.1 x85).bind fun x92 =>
(g14 n a3 (5)).bind fun x93 =>
(getI x83.1 x85).bind fun x94 =>
iterO (fun y : Int × List TJointRefuted × List TJointRefuted × List TJointRefuted => S5_0 n a0 false (3) a1.Lateral a1.Vertical y.1 y.2.1 y.2.2.1 y.2.2.2) n ((0), x87, x90, (x83.1.set ((x85 : Int).toNat) (⟨x94.Choice, (IntKind.wrap .i64 ((IntKind.wrap .i64 ((x92.Choice.length : Int) - (1))) + x93))⟩ : TJointRefuted)))))))
abbrev ρ41 := (Int)
def S41_0 (n : Nat) (c2 : Int) (a0 : List Int) (c7 : Int) (v8 : Int) : Option ((Int) ⊕ ρ41) :=
bif (decide (v8 < c7)) then (
(getI a0 v8).bind fun x120 =>
bif (x120 != c2) then (
some (.inr (x120))) else (
some (.inl (IntKind.wrap .i64 (v8 + (1)))))) else (
some (.inr (c2)))
def g41 (n : Nat) (a0 : List Int) : Option ρ41 :=
iterO (fun y : Int => S41_0 n (0) a0 (a0.length : Int) y) n (0)
abbrev ρ40 := (Int)
def g40 (n : Nat) (a0 : TClash) (a1 : TClash) : Option ρ40 :=
(g41 n ([(IntKind.wrap .i64 (a0.From - a1.From)), (IntKind.wrap .i64 (a0.A - a1.A)), (IntKind.wrap .i64 (a0.B - a1.B))] : List Int)).bind fun x121 =>
some (x121)
abbrev ρ19 := ((List TClash) × Int)
def S19_0_0_0 (n : Nat) (a0 : List (List TTubeNode)) (c5 : Int) (v29 : Int) (w10 : Int) (c28 : Int) (x116 : List TSpan) (c50 : Int) (k0_0 : Int) (k0_1 : Int) (u51 : Int) (L90000 : List TClash) : Option ((Int × List TClash) ⊕ ((Int × List TClash) ⊕ ((Int × List TClash) ⊕ ρ19))) :=
bif (decide (u51 < c50)) then (
(getI x116 u51).bind fun x117 =>
(roomO (L90000.length + ([(⟨v29, w10, x117.From, (IntKind.wrap .i64 (x117.To - (1)))⟩ : TClash)] : List TClash).length) 32).bind fun x119 =>
some (.inl ((IntKind.wrap .i64 (u51 + (1))), (L90000 ++ ([(⟨v29, w10, x117.From, (IntKind.wrap .i64 (x117.To - (1)))⟩ : TClash)] : List TClash))))) else (
some (.inr (.inl ((IntKind.wrap .i64 (w10 + (1))), L90000))))
def S19_0_0 (n : Nat) (a0 : List (List TTubeNode)) (c5 : Int) (v29 : Int) (c28 : Int) (k0_0 : Int) (k0_1 : Int) (w10 : Int) (L90000 : List TClash) : Option ((Int × List TClash) ⊕ ((Int × List TClash) ⊕ ρ19)) :=
bif (decide (w10 < (a0.length : Int))) then (
(getI a0 v29).bind fun x114 =>
(getI a0 w10).bind fun x115 =>
(g38 n x114 x115 (⟨k0_0, k0_1⟩ : TSep)).bind fun x116 =>
iterO (fun y : Int × List TClash => S19_0_0_0 n a0 c5 v29 w10 c28 x116 (x116.length : Int) k0_0 k0_1 y.1 y.2) n ((0), L90000)) else (
some (.inr (.inl ((IntKind.wrap .i64 (v29 + (1))), L90000))))
def S19_0 (n : Nat) (a0 : List (List TTubeNode)) (c5 : Int) (c28 : Int) (k0_0 : Int) (k0_1 : Int) (v29 : Int) (L90000 : List TClash) : Option ((Int × List TClash) ⊕ ρ19) :=
bif (decide (v29 < c28)) then (
iterO (fun y : Int × List TClash => S19_0_0 n a0 c5 v29 c28 k0_0 k0_1 y.1 y.2) n ((IntKind.wrap .i64 (v29 + (1))), L90000)) else (
bif (decide ((L90000.length : Int) > (256))) then (
some (.inr ([], (2)))) else (
(sortO (fun x y => g40 n x y) L90000).bind fun x122 =>
some (.inr (x122, (0)))))
def g19 (n : Nat) (a0 : List (List TTubeNode)) (a1 : TSep) : Option ρ19 :=
(g36 n a1).bind fun x112 =>
bif (x112 != (0)) then (
some ([], x112)) else (
bif (decide ((a0.length : Int) > (24))) then (
some ([], (2))) else (
(g37 n a1 a0).bind fun x113 =>
bif (x113 != (0)) then (
some ([], x113)) else (
iterO (fun y : Int × List TClash => S19_0 n a0 (0) (a0.length : Int) a1.Lateral a1.Vertical y.1 y.2) n ((0), []))))
abbrev ρ6 := (Bool)
def S6_0 (n : Nat) (a0 : List (List TJointOption)) (c4 : Bool) (c5 : List Int) (c35 : Int) (k0_0 : Int) (k0_1 : Int) (v6 : Int) (v36 : Int) (L90000 : List (List TTubeNode)) : Option ((Int × Int × List (List TTubeNode)) ⊕ ρ6) :=
bif (decide (v36 < c35)) then (
(getI c5 v36).bind fun x104 =>
bif (decide (v36 ≥ (a0.length : Int))) then (
some (.inr (false))) else (
bif (decide (x104 < (0))) then (
some (.inr (false))) else (
(getI a0 v36).bind fun x105 =>
bif (decide (x104 ≥ (x105.length : Int))) then (
some (.inr (false))) else (
(getI a0 v36).bind fun x106 =>
(getI x106 x104).bind fun x107 =>
(roomO (L90000.length + ([x107.Tube] : List (List TTubeNode)).length) 24).bind fun x109 =>
(getI a0 v36).bind fun x110 =>
(getI x110 x104).bind fun x111 =>
some (.inl ((IntKind.wrap .i64 (v6 - x111.Cost)), (IntKind.wrap .i64 (v36 + (1))), (L90000 ++ ([x107.Tube] : List (List TTubeNode))))))))) else (
(g19 n L90000 (⟨k0_0, k0_1⟩ : TSep)).bind fun x123 =>
bif ((c5.length : Int) == (a0.length : Int)) then (
bif (v6 == (0)) then (
bif (x123.2 == (0)) then (
some (.inr ((x123.1.length : Int) == (0)))) else (
some (.inr (false)))) else (
some (.inr (false)))) else (
some (.inr (false))))
def g6 (n : Nat) (a0 : List (List TJointOption)) (a1 : TSep) : Option ρ6 :=
(g7 n).bind fun x101 =>
bif (!x101) then (
some (false)) else (
(g8 n a0).bind fun x102 =>
bif (!x102) then (
some (true)) else (
(g9 n a0 a1).bind fun x103 =>
bif (x103.2.2 != (0)) then (
bif ((x103.1.length : Int) == (0)) then (
some (x103.2.1 == (0))) else (
some (false))) else (
iterO (fun y : Int × Int × List (List TTubeNode) => S6_0 n a0 false x103.1 (x103.1.length : Int) a1.Lateral a1.Vertical y.1 y.2.1 y.2.2) n (x103.2.1, (0), []))))
end Go.Proofs.Ytlgbioidkbeanaa
