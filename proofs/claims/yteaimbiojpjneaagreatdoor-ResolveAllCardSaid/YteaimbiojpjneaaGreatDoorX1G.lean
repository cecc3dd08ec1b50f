/- Plain functional programs out of the program's functions; printed by wip/Ext.lean.txt. -/
import Derived.Test.YteaimbiojpjneaaGreatDoorX1T
import Derived.Test.YteaimbiojpjneaaGreatDoorPJ
set_option linter.unusedVariables false
set_option linter.unusedSimpArgs false
set_option maxRecDepth 100000
set_option maxHeartbeats 4000000
namespace Go.Proofs.YteaimbiojpjneaaGreatDoor
abbrev ρ43 := (Int)
def g43 (n : Nat) (a0 : TSep) : Option ρ43 :=
bif (decide (a0.Lateral < (0))) then (
some (4)) else (
bif (decide (a0.Lateral > (1000000))) then (
some (4)) else (
bif (decide (a0.Vertical < (0))) then (
some (4)) else (
bif (decide (a0.Vertical > (60000))) then (
some (4)) else (
some (0)))))
abbrev ρ38 := (Int)
def g38 (n : Nat) (a0 : TP) : Option ρ38 :=
bif (decide (a0.X < (-1000000))) then (
some (4)) else (
bif (decide (a0.X > (1000000))) then (
some (4)) else (
bif (decide (a0.Y < (-1000000))) then (
some (4)) else (
bif (decide (a0.Y > (1000000))) then (
some (4)) else (
some (0)))))
abbrev ρ24 := (Int)
def S24_0 (n : Nat) (a0 : List TTubeNode) (c2 : Int) (c15 : Int) (v16 : Int) : Option ((Int) ⊕ ρ24) :=
bif (decide (v16 < c15)) then (
(getI a0 v16).bind fun x0 =>
bif (decide (x0.Node_Time < (0))) then (
some (.inr (12))) else (
bif (decide (x0.Node_Time > (200000))) then (
some (.inr (12))) else (
bif (decide (v16 > (0))) then (
(getI a0 (IntKind.wrap .i64 (v16 - (1)))).bind fun x1 =>
bif (decide (x0.Node_Time ≤ x1.Node_Time)) then (
some (.inr (12))) else (
(g38 n (⟨x0.Node_At_X, x0.Node_At_Y⟩ : TP)).bind fun x2 =>
bif (x2 != (0)) then (
some (.inr (x2))) else (
bif (decide (x0.Node_Height < (0))) then (
some (.inr (4))) else (
bif (decide (x0.Node_Height > (60000))) then (
some (.inr (4))) else (
bif (decide (x0.Radius < (0))) then (
some (.inr (4))) else (
bif (decide (x0.Radius > (1000000))) then (
some (.inr (4))) else (
bif (decide (x0.Band < (0))) then (
some (.inr (4))) else (
bif (decide (x0.Band > (60000))) then (
some (.inr (4))) else (
some (.inl (IntKind.wrap .i64 (v16 + (1))))))))))))) else (
(g38 n (⟨x0.Node_At_X, x0.Node_At_Y⟩ : TP)).bind fun x3 =>
bif (x3 != (0)) then (
some (.inr (x3))) else (
bif (decide (x0.Node_Height < (0))) then (
some (.inr (4))) else (
bif (decide (x0.Node_Height > (60000))) then (
some (.inr (4))) else (
bif (decide (x0.Radius < (0))) then (
some (.inr (4))) else (
bif (decide (x0.Radius > (1000000))) then (
some (.inr (4))) else (
bif (decide (x0.Band < (0))) then (
some (.inr (4))) else (
bif (decide (x0.Band > (60000))) then (
some (.inr (4))) else (
some (.inl (IntKind.wrap .i64 (v16 + (1))))))))))))))) else (
some (.inr (0)))
def g24 (n : Nat) (a0 : List TTubeNode) : Option ρ24 :=
bif (decide ((a0.length : Int) > (64))) then (
some (2)) else (
bif ((a0.length : Int) == (0)) then (
some (3)) else (
iterO (fun y : Int => S24_0 n a0 (0) (a0.length : Int) y) n (0)))
abbrev ρ44 := (Int)
def S44_0 (n : Nat) (c4 : Int) (a1 : List (List TTubeNode)) (c15 : Int) (v16 : Int) : Option ((Int) ⊕ ρ44) :=
bif (decide (v16 < c15)) then (
(getI a1 v16).bind fun x5 =>
(g24 n x5).bind fun x6 =>
bif (x6 != (0)) then (
some (.inr (x6))) else (
some (.inl (IntKind.wrap .i64 (v16 + (1)))))) else (
some (.inr (0)))
def g44 (n : Nat) (a0 : TSep) (a1 : List (List TTubeNode)) : Option ρ44 :=
(g43 n a0).bind fun x4 =>
bif (x4 != (0)) then (
some (x4)) else (
iterO (fun y : Int => S44_0 n (0) a1 (a1.length : Int) y) n (0))
abbrev ρ64 := (Int × Int)
def g64 (n : Nat) (a0 : List TTubeNode) (a1 : List TTubeNode) : Option ρ64 :=
(getI a0 (0)).bind fun x8 =>
(getI a1 (0)).bind fun x9 =>
(getI a0 (IntKind.wrap .i64 ((a0.length : Int) - (1)))).bind fun x10 =>
(getI a1 (IntKind.wrap .i64 ((a1.length : Int) - (1)))).bind fun x11 =>
some ((if x9.Node_Time > x8.Node_Time then x9.Node_Time else x8.Node_Time), (if x11.Node_Time < x10.Node_Time then x11.Node_Time else x10.Node_Time))
abbrev ρ52 := (Int × Int)
def g52 (n : Nat) (a0 : List TTubeNode) : Option ρ52 :=
(getI a0 (0)).bind fun x14 =>
(getI a0 (IntKind.wrap .i64 ((a0.length : Int) - (1)))).bind fun x15 =>
some (x14.Node_Time, x15.Node_Time)
abbrev ρ69 := (Int)
def g69 (n : Nat) (a0 : TTubeNode) (a1 : Int) : Option ρ69 :=
some (IntKind.wrap .i64 (a0.Node_Time - a1))
abbrev ρ68 := (Int × Bool)
def S68_0 (n : Nat) (a0 : List TTubeNode) (a1 : Int) (c6 : Int) (c7 : Bool) (c8 : Int) (v9 : Int) (v10 : Int) : Option ((Int × Int) ⊕ ρ68) :=
bif (decide (v9 < v10)) then (
(getI a0 (IntKind.wrap .i64 (Int.fdiv (IntKind.wrap .u64 (IntKind.wrap .i64 (v9 + v10))) 2))).bind fun x17 =>
(g69 n x17 a1).bind fun x18 =>
bif (decide (x18 < (0))) then (
some (.inl ((IntKind.wrap .i64 ((IntKind.wrap .i64 (Int.fdiv (IntKind.wrap .u64 (IntKind.wrap .i64 (v9 + v10))) 2)) + (1))), v10))) else (
some (.inl (v9, (IntKind.wrap .i64 (Int.fdiv (IntKind.wrap .u64 (IntKind.wrap .i64 (v9 + v10))) 2)))))) else (
bif (decide (v9 < c8)) then (
(getI a0 v9).bind fun x19 =>
(g69 n x19 a1).bind fun x20 =>
some (.inr (v9, (x20 == (0))))) else (
some (.inr (v9, false))))
def g68 (n : Nat) (a0 : List TTubeNode) (a1 : Int) : Option ρ68 :=
iterO (fun y : Int × Int => S68_0 n a0 a1 (0) false (a0.length : Int) y.1 y.2) n ((0), (a0.length : Int))
abbrev ρ71 := (Int × Int)
def g71 (n : Nat) (a0 : Int) (a1 : Int) : Option ρ71 :=
bif (a1 == (0)) then (
some ((0), (10))) else (
bif (a0 == (-9223372036854775808)) then (
bif (a1 == (-1)) then (
some ((0), (2))) else (
(divO a0 a1).bind fun x29 =>
(modO a0 a1).bind fun x30 =>
bif (x30 != (0)) then (
bif (!((decide (a0 < (0))) == (decide (a1 < (0))))) then (
some ((IntKind.wrap .i64 ((IntKind.wrap .i64 x29) - (1))), (0))) else (
some ((IntKind.wrap .i64 x29), (0)))) else (
some ((IntKind.wrap .i64 x29), (0))))) else (
(divO a0 a1).bind fun x31 =>
(modO a0 a1).bind fun x32 =>
bif (x32 != (0)) then (
bif (!((decide (a0 < (0))) == (decide (a1 < (0))))) then (
some ((IntKind.wrap .i64 ((IntKind.wrap .i64 x31) - (1))), (0))) else (
some ((IntKind.wrap .i64 x31), (0)))) else (
some ((IntKind.wrap .i64 x31), (0)))))
abbrev ρ70 := (TP × Int)
def g70 (n : Nat) (a0 : TP) (a1 : TP) (a2 : Int) (a3 : Int) : Option ρ70 :=
bif (decide (a3 ≤ (0))) then (
some ((⟨(0), (0)⟩ : TP), (10))) else (
bif (decide (a3 > (200000))) then (
some ((⟨(0), (0)⟩ : TP), (4))) else (
bif (decide (a2 < (0))) then (
some ((⟨(0), (0)⟩ : TP), (4))) else (
bif (decide (a2 > a3)) then (
some ((⟨(0), (0)⟩ : TP), (4))) else (
(g38 n a0).bind fun x25 =>
bif (x25 != (0)) then (
(g38 n a0).bind fun x26 =>
some ((⟨(0), (0)⟩ : TP), x26)) else (
(g38 n a1).bind fun x27 =>
bif (x27 != (0)) then (
(g38 n a1).bind fun x28 =>
some ((⟨(0), (0)⟩ : TP), x28)) else (
(g71 n (IntKind.wrap .i64 ((IntKind.wrap .i64 (a1.X - a0.X)) * a2)) a3).bind fun x33 =>
(g71 n (IntKind.wrap .i64 ((IntKind.wrap .i64 (a1.Y - a0.Y)) * a2)) a3).bind fun x34 =>
some ((⟨(IntKind.wrap .i64 (a0.X + x33.1)), (IntKind.wrap .i64 (a0.Y + x34.1))⟩ : TP), (0))))))))
abbrev ρ72 := (Int × Int)
def g72 (n : Nat) (a0 : Int) (a1 : Int) : Option ρ72 :=
(g71 n a0 a1).bind fun x37 =>
bif (x37.2 == (0)) then (
(modO a0 a1).bind fun x38 =>
bif (x38 != (0)) then (
some ((IntKind.wrap .i64 (x37.1 + (1))), x37.2)) else (
some (x37.1, x37.2))) else (
some (x37.1, x37.2))
abbrev ρ53 := (TTubeNode)
def g53 (n : Nat) (a0 : List TTubeNode) (a1 : Int) : Option ρ53 :=
(g68 n a0 a1).bind fun x21 =>
bif x21.2 then (
(getI a0 x21.1).bind fun x22 =>
some (x22)) else (
(getI a0 (IntKind.wrap .i64 (x21.1 - (1)))).bind fun x23 =>
(getI a0 x21.1).bind fun x24 =>
(g70 n (⟨x23.Node_At_X, x23.Node_At_Y⟩ : TP) (⟨x24.Node_At_X, x24.Node_At_Y⟩ : TP) (IntKind.wrap .i64 (a1 - x23.Node_Time)) (IntKind.wrap .i64 (x24.Node_Time - x23.Node_Time))).bind fun x35 =>
(g71 n (IntKind.wrap .i64 ((IntKind.wrap .i64 (x24.Node_Height - x23.Node_Height)) * (IntKind.wrap .i64 (a1 - x23.Node_Time)))) (IntKind.wrap .i64 (x24.Node_Time - x23.Node_Time))).bind fun x36 =>
(g72 n (IntKind.wrap .i64 ((IntKind.wrap .i64 (x24.Radius - x23.Radius)) * (IntKind.wrap .i64 (a1 - x23.Node_Time)))) (IntKind.wrap .i64 (x24.Node_Time - x23.Node_Time))).bind fun x39 =>
(g72 n (IntKind.wrap .i64 ((IntKind.wrap .i64 (x24.Band - x23.Band)) * (IntKind.wrap .i64 (a1 - x23.Node_Time)))) (IntKind.wrap .i64 (x24.Node_Time - x23.Node_Time))).bind fun x40 =>
some (⟨a1, x35.1.X, x35.1.Y, (IntKind.wrap .i64 (x23.Node_Height + x36.1)), (IntKind.wrap .i64 (x23.Radius + x39.1)), (IntKind.wrap .i64 (x23.Band + x40.1))⟩ : TTubeNode))
abbrev ρ26 := (TTubeNode × Int)
def g26 (n : Nat) (a0 : List TTubeNode) (a1 : Int) : Option ρ26 :=
(g24 n a0).bind fun x13 =>
bif (x13 != (0)) then (
some ((⟨(0), (0), (0), (0), (0), (0)⟩ : TTubeNode), x13)) else (
(g52 n a0).bind fun x16 =>
bif (decide (a1 < x16.1)) then (
some ((⟨(0), (0), (0), (0), (0), (0)⟩ : TTubeNode), (12))) else (
bif (decide (a1 > x16.2)) then (
some ((⟨(0), (0), (0), (0), (0), (0)⟩ : TTubeNode), (12))) else (
(g53 n a0 a1).bind fun x41 =>
some (x41, (0)))))
abbrev ρ55 := (TP)
def g55 (n : Nat) (a0 : TP) (a1 : TP) : Option ρ55 :=
some (⟨(IntKind.wrap .i64 (a0.X - a1.X)), (IntKind.wrap .i64 (a0.Y - a1.Y))⟩ : TP)
abbrev ρ103 := (Int)
def g103 (n : Nat) (a0 : TP) (a1 : TP) : Option ρ103 :=
some (IntKind.wrap .i64 ((IntKind.wrap .i64 (a0.X * a1.X)) + (IntKind.wrap .i64 (a0.Y * a1.Y))))
abbrev ρ77 := (Int)
def g77 (n : Nat) (a0 : TP) (a1 : TP) : Option ρ77 :=
(g55 n a0 a1).bind fun x44 =>
(g103 n x44 x44).bind fun x45 =>
some (x45)
abbrev ρ78 := (Int)
def S78_0 (n : Nat) (a0 : Int) (c2 : Int) (v3 : Int) (v4 : Int) : Option ((Int × Int) ⊕ ρ78) :=
bif (decide (v3 < v4)) then (
bif (decide ((IntKind.wrap .i64 ((IntKind.wrap .i64 (v3 + (IntKind.wrap .i64 (Int.tdiv (IntKind.wrap .i64 ((IntKind.wrap .i64 (v4 - v3)) + (1))) (2))))) * (IntKind.wrap .i64 (v3 + (IntKind.wrap .i64 (Int.tdiv (IntKind.wrap .i64 ((IntKind.wrap .i64 (v4 - v3)) + (1))) (2))))))) ≤ a0)) then (
some (.inl ((IntKind.wrap .i64 (v3 + (IntKind.wrap .i64 (Int.tdiv (IntKind.wrap .i64 ((IntKind.wrap .i64 (v4 - v3)) + (1))) (2))))), v4))) else (
some (.inl (v3, (IntKind.wrap .i64 ((IntKind.wrap .i64 (v3 + (IntKind.wrap .i64 (Int.tdiv (IntKind.wrap .i64 ((IntKind.wrap .i64 (v4 - v3)) + (1))) (2))))) - (1))))))) else (
some (.inr (v3)))
def g78 (n : Nat) (a0 : Int) : Option ρ78 :=
bif (decide (a0 ≤ (0))) then (
some (0)) else (
iterO (fun y : Int × Int => S78_0 n a0 (0) y.1 y.2) n ((0), (3037000499)))
abbrev ρ56 := (Int × Int)
def g56 (n : Nat) (a0 : TP) (a1 : TP) : Option ρ56 :=
(g77 n a0 a1).bind fun x46 =>
(g78 n x46).bind fun x47 =>
bif (decide ((IntKind.wrap .i64 (x47 * x47)) < x46)) then (
some (x47, (IntKind.wrap .i64 (x47 + (1))))) else (
some (x47, x47))
abbrev ρ65 := (Bool)
def g65 (n : Nat) (a0 : TTubeNode) (a1 : TTubeNode) (a2 : TSep) : Option ρ65 :=
(g56 n (⟨a0.Node_At_X, a0.Node_At_Y⟩ : TP) (⟨a1.Node_At_X, a1.Node_At_Y⟩ : TP)).bind fun x48 =>
bif (decide ((IntKind.wrap .i64 ((IntKind.wrap .i64 (x48.1 - a0.Radius)) - a1.Radius)) ≥ a2.Lateral)) then (
some (true)) else (
some (decide ((IntKind.wrap .i64 ((IntKind.wrap .i64 ((if (IntKind.wrap .i64 (a1.Node_Height - a0.Node_Height)) > (IntKind.wrap .i64 (a0.Node_Height - a1.Node_Height)) then (IntKind.wrap .i64 (a1.Node_Height - a0.Node_Height)) else (IntKind.wrap .i64 (a0.Node_Height - a1.Node_Height))) - a0.Band)) - a1.Band)) ≥ a2.Vertical)))
abbrev ρ45 := ((List TSpan))
def S45_0 (n : Nat) (a0 : List TTubeNode) (a1 : List TTubeNode) (c9 : Int) (k0_0 : Int) (k0_1 : Int) (v10 : Int) (L90000 : List TSpan) : Option ((Int × List TSpan) ⊕ ρ45) :=
bif (decide (v10 ≤ c9)) then (
(g26 n a0 v10).bind fun x42 =>
(g26 n a1 v10).bind fun x43 =>
(g65 n x42.1 x43.1 (⟨k0_0, k0_1⟩ : TSep)).bind fun x49 =>
bif x49 then (
some (.inl ((IntKind.wrap .i64 (v10 + (1))), L90000))) else (
bif (decide ((L90000.length : Int) > (0))) then (
(getI L90000 (IntKind.wrap .i64 ((L90000.length : Int) - (1)))).bind fun x50 =>
bif (x50.To == v10) then (
(getI L90000 (IntKind.wrap .i64 ((L90000.length : Int) - (1)))).bind fun x51 =>
some (.inl ((IntKind.wrap .i64 (v10 + (1))), (L90000.set (((IntKind.wrap .i64 ((L90000.length : Int) - (1))) : Int).toNat) (⟨x51.From, (IntKind.wrap .i64 (v10 + (1)))⟩ : TSpan))))) else (
(roomO (L90000.length + ([(⟨v10, (IntKind.wrap .i64 (v10 + (1)))⟩ : TSpan)] : List TSpan).length) 16).bind fun x53 =>
some (.inl ((IntKind.wrap .i64 (v10 + (1))), (L90000 ++ ([(⟨v10, (IntKind.wrap .i64 (v10 + (1)))⟩ : TSpan)] : List TSpan)))))) else (
(roomO (L90000.length + ([(⟨v10, (IntKind.wrap .i64 (v10 + (1)))⟩ : TSpan)] : List TSpan).length) 16).bind fun x55 =>
some (.inl ((IntKind.wrap .i64 (v10 + (1))), (L90000 ++ ([(⟨v10, (IntKind.wrap .i64 (v10 + (1)))⟩ : TSpan)] : List TSpan))))))) else (
some (.inr (L90000)))
def g45 (n : Nat) (a0 : List TTubeNode) (a1 : List TTubeNode) (a2 : TSep) : Option ρ45 :=
(g64 n a0 a1).bind fun x12 =>
iterO (fun y : Int × List TSpan => S45_0 n a0 a1 x12.2 a2.Lateral a2.Vertical y.1 y.2) n (x12.1, [])
abbrev ρ63 := ((List TSpan) × Int)
def g63 (n : Nat) (a0 : List TTubeNode) (a1 : List TTubeNode) (a2 : TSep) : Option ρ63 :=
(g44 n a2 ([a0, a1] : List (List TTubeNode))).bind fun x7 =>
bif (x7 != (0)) then (
some ([], x7)) else (
(g45 n a0 a1 a2).bind fun x56 =>
some (x56, (0)))
abbrev ρ42 := (Int × Int)
def g42 (n : Nat) (a0 : List TTubeNode) (a1 : List TTubeNode) (a2 : TSep) : Option ρ42 :=
(g63 n a0 a1 a2).bind fun x57 =>
bif (x57.2 != (0)) then (
some ((0), x57.2)) else (
bif ((x57.1.length : Int) == (0)) then (
some ((0), (8))) else (
(getI x57.1 (0)).bind fun x58 =>
some (x58.From, (0))))
abbrev ρ10 := (Bool)
def S10_0 (n : Nat) (a2 : Int) (c6 : Bool) (a0 : List (List TTubeNode)) (c14 : Int) (v15 : Int) : Option ((Int) ⊕ ρ10) :=
bif (decide (v15 < c14)) then (
(getI a0 v15).bind fun x60 =>
(g24 n x60).bind fun x61 =>
bif (x61 != (0)) then (
some (.inr (false))) else (
(getI x60 (IntKind.wrap .i64 ((x60.length : Int) - (1)))).bind fun x62 =>
(getI x60 (0)).bind fun x63 =>
bif (decide ((IntKind.wrap .i64 (x62.Node_Time - x63.Node_Time)) > a2)) then (
some (.inr (false))) else (
some (.inl (IntKind.wrap .i64 (v15 + (1))))))) else (
some (.inr (true)))
def g10 (n : Nat) (a0 : List (List TTubeNode)) (a1 : Int) (a2 : Int) : Option ρ10 :=
bif (decide ((a0.length : Int) > a1)) then (
some (false)) else (
iterO (fun y : Int => S10_0 n a2 false a0 (a0.length : Int) y) n (0))
abbrev ρ48 := (Int)
def S48_0 (n : Nat) (c2 : Int) (a0 : List Int) (c7 : Int) (v8 : Int) : Option ((Int) ⊕ ρ48) :=
bif (decide (v8 < c7)) then (
(getI a0 v8).bind fun x73 =>
bif (x73 != c2) then (
some (.inr (x73))) else (
some (.inl (IntKind.wrap .i64 (v8 + (1)))))) else (
some (.inr (c2)))
def g48 (n : Nat) (a0 : List Int) : Option ρ48 :=
iterO (fun y : Int => S48_0 n (0) a0 (a0.length : Int) y) n (0)
abbrev ρ47 := (Int)
def g47 (n : Nat) (a0 : TClash) (a1 : TClash) : Option ρ47 :=
(g48 n ([(IntKind.wrap .i64 (a0.From - a1.From)), (IntKind.wrap .i64 (a0.A - a1.A)), (IntKind.wrap .i64 (a0.B - a1.B))] : List Int)).bind fun x74 =>
some (x74)
abbrev ρ15 := ((List TClash) × Int)
def S15_0_0_0 (n : Nat) (a0 : List (List TTubeNode)) (c5 : Int) (v29 : Int) (w10 : Int) (c28 : Int) (x69 : List TSpan) (c50 : Int) (k0_0 : Int) (k0_1 : Int) (u51 : Int) (L90000 : List TClash) : Option ((Int × List TClash) ⊕ ((Int × List TClash) ⊕ ((Int × List TClash) ⊕ ρ15))) :=
bif (decide (u51 < c50)) then (
(getI x69 u51).bind fun x70 =>
(roomO (L90000.length + ([(⟨v29, w10, x70.From, (IntKind.wrap .i64 (x70.To - (1)))⟩ : TClash)] : List TClash).length) 32).bind fun x72 =>
some (.inl ((IntKind.wrap .i64 (u51 + (1))), (L90000 ++ ([(⟨v29, w10, x70.From, (IntKind.wrap .i64 (x70.To - (1)))⟩ : TClash)] : List TClash))))) else (
some (.inr (.inl ((IntKind.wrap .i64 (w10 + (1))), L90000))))
def S15_0_0 (n : Nat) (a0 : List (List TTubeNode)) (c5 : Int) (v29 : Int) (c28 : Int) (k0_0 : Int) (k0_1 : Int) (w10 : Int) (L90000 : List TClash) : Option ((Int × List TClash) ⊕ ((Int × List TClash) ⊕ ρ15)) :=
bif (decide (w10 < (a0.length : Int))) then (
(getI a0 v29).bind fun x67 =>
(getI a0 w10).bind fun x68 =>
(g45 n x67 x68 (⟨k0_0, k0_1⟩ : TSep)).bind fun x69 =>
iterO (fun y : Int × List TClash => S15_0_0_0 n a0 c5 v29 w10 c28 x69 (x69.length : Int) k0_0 k0_1 y.1 y.2) n ((0), L90000)) else (
some (.inr (.inl ((IntKind.wrap .i64 (v29 + (1))), L90000))))
def S15_0 (n : Nat) (a0 : List (List TTubeNode)) (c5 : Int) (c28 : Int) (k0_0 : Int) (k0_1 : Int) (v29 : Int) (L90000 : List TClash) : Option ((Int × List TClash) ⊕ ρ15) :=
bif (decide (v29 < c28)) then (
iterO (fun y : Int × List TClash => S15_0_0 n a0 c5 v29 c28 k0_0 k0_1 y.1 y.2) n ((IntKind.wrap .i64 (v29 + (1))), L90000)) else (
bif (decide ((L90000.length : Int) > (256))) then (
some (.inr ([], (2)))) else (
(sortO (fun x y => g47 n x y) L90000).bind fun x75 =>
some (.inr (x75, (0)))))
def g15 (n : Nat) (a0 : List (List TTubeNode)) (a1 : TSep) : Option ρ15 :=
(g43 n a1).bind fun x65 =>
bif (x65 != (0)) then (
some ([], x65)) else (
bif (decide ((a0.length : Int) > (24))) then (
some ([], (2))) else (
(g44 n a1 a0).bind fun x66 =>
bif (x66 != (0)) then (
some ([], x66)) else (
iterO (fun y : Int × List TClash => S15_0 n a0 (0) (a0.length : Int) a1.Lateral a1.Vertical y.1 y.2) n ((0), []))))
abbrev ρ32 := (Int)
def S32_0 (n : Nat) (a0 : List (List TTubeNode)) (a1 : Int) (c6 : Int) (c20 : Int) (v21 : Int) : Option ((Int) ⊕ ρ32) :=
bif (decide (v21 < c20)) then (
(getI a0 v21).bind fun x78 =>
(g24 n x78).bind fun x79 =>
bif (x79 != (0)) then (
some (.inr (x79))) else (
some (.inl (IntKind.wrap .i64 (v21 + (1)))))) else (
bif (decide (a1 < (0))) then (
some (.inr (4))) else (
bif (decide (a1 ≥ (a0.length : Int))) then (
some (.inr (4))) else (
some (.inr (0)))))
def g32 (n : Nat) (a0 : List (List TTubeNode)) (a1 : Int) (a2 : TSep) : Option ρ32 :=
(g43 n a2).bind fun x77 =>
bif (x77 != (0)) then (
some (x77)) else (
bif (decide ((a0.length : Int) > (24))) then (
some (2)) else (
iterO (fun y : Int => S32_0 n a0 a1 (0) (a0.length : Int) y) n (0)))
abbrev ρ33 := (Bool)
def S33_0 (n : Nat) (a1 : Int) (a2 : List TTubeNode) (c8 : Bool) (a0 : List (List TTubeNode)) (c14 : Int) (k0_0 : Int) (k0_1 : Int) (v15 : Int) : Option ((Int) ⊕ ρ33) :=
bif (decide (v15 < c14)) then (
(getI a0 v15).bind fun x82 =>
bif (v15 != a1) then (
(g42 n a2 x82 (⟨k0_0, k0_1⟩ : TSep)).bind fun x83 =>
bif (x83.2 == (0)) then (
some (.inr (false))) else (
some (.inl (IntKind.wrap .i64 (v15 + (1)))))) else (
some (.inl (IntKind.wrap .i64 (v15 + (1)))))) else (
some (.inr (true)))
def g33 (n : Nat) (a0 : List (List TTubeNode)) (a1 : Int) (a2 : List TTubeNode) (a3 : TSep) : Option ρ33 :=
iterO (fun y : Int => S33_0 n a1 a2 false a0 (a0.length : Int) a3.Lateral a3.Vertical y) n (0)
abbrev ρ16 := (Bool × Int)
def g16 (n : Nat) (a0 : List (List TTubeNode)) (a1 : Int) (a2 : TSep) : Option ρ16 :=
(g32 n a0 a1 a2).bind fun x80 =>
bif (x80 != (0)) then (
some (false, x80)) else (
(getI a0 a1).bind fun x81 =>
(g33 n a0 a1 x81 a2).bind fun x84 =>
some (x84, (0)))
abbrev ρ18 := (Bool)
def g18 (n : Nat) (a0 : TClash) (a1_0 : Int) : Option ρ18 :=
bif (a0.A == a1_0) then (
some (true)) else (
some (a0.B == a1_0))
abbrev ρ49 := (Int)
def S49_0 (n : Nat) (a0 : List TClash) (a1_0_0 : Int) (c4 : Int) (c7 : Int) (v8 : Int) : Option ((Int) ⊕ ρ49) :=
bif (decide (v8 < c7)) then (
(getI a0 v8).bind fun x86 =>
(g18 n x86 a1_0_0).bind fun x87 =>
bif x87 then (
some (.inr (v8))) else (
some (.inl (IntKind.wrap .i64 (v8 + (1)))))) else (
some (.inr (-1)))
def g49 (n : Nat) (a0 : List TClash) (a1_0_0 : Int) : Option ρ49 :=
iterO (fun y : Int => S49_0 n a0 a1_0_0 (0) (a0.length : Int) y) n (0)
abbrev ρ17 := (Bool)
def g17 (n : Nat) (a0 : List TClash) (a1_0_0 : Int) : Option ρ17 :=
(g49 n a0 a1_0_0).bind fun x88 =>
some (decide (x88 ≥ (0)))
abbrev ρ6 := Bool
def g6 (n : Nat) : Option ρ6 := some true

abbrev ρ5 := (Bool)
def S5_0 (n : Nat) (a0 : List (List TTubeNode)) (c4 : Bool) (c5 : List TClash) (c26 : Int) (k0_0 : Int) (k0_1 : Int) (v7 : Int) (v27 : Int) : Option ((Int × Int) ⊕ ρ5) :=
bif (decide (v27 < c26)) then (
(g16 n a0 v27 (⟨k0_0, k0_1⟩ : TSep)).bind fun x85 =>
bif (x85.2 != (0)) then (
some (.inr (false))) else (
(g17 n c5 v27).bind fun x89 =>
bif (x85.1 == x89) then (
some (.inr (false))) else (
bif x85.1 then (
some (.inl ((IntKind.wrap .i64 (v7 + (1))), (IntKind.wrap .i64 (v27 + (1)))))) else (
some (.inl (v7, (IntKind.wrap .i64 (v27 + (1))))))))) else (
some (.inr ((v7 == (a0.length : Int)) == ((c5.length : Int) == (0)))))
def g5 (n : Nat) (a0 : List (List TTubeNode)) (a1 : TSep) : Option ρ5 :=
(g6 n).bind fun x59 =>
bif (!x59) then (
some (false)) else (
(g10 n a0 (5) (300)).bind fun x64 =>
bif (!x64) then (
some (true)) else (
(g15 n a0 a1).bind fun x76 =>
bif (x76.2 != (0)) then (
some (true)) else (
iterO (fun y : Int × Int => S5_0 n a0 false x76.1 (a0.length : Int) a1.Lateral a1.Vertical y.1 y.2) n ((0), (0)))))
end Go.Proofs.YteaimbiojpjneaaGreatDoor
