/- Plain functional programs out of the program's functions; printed by wip/Ext.lean.txt. -/
import Derived.Test.YtldiackagnjlgaaGreatX1T
import Derived.Test.YtldiackagnjlgaaGreatPJ
import Derived.Test.YtldiackagnjlgaaGreatPZ
set_option linter.unusedVariables false
set_option linter.unusedSimpArgs false
set_option maxRecDepth 100000
set_option maxHeartbeats 4000000
namespace Go.Proofs.YtldiackagnjlgaaGreat
abbrev ρ33 := (Int)
def g33 (n : Nat) (a0 : TP) : Option ρ33 :=
bif (decide (a0.X < (-1000000))) then (
some (4)) else (
bif (decide (a0.X > (1000000))) then (
some (4)) else (
bif (decide (a0.Y < (-1000000))) then (
some (4)) else (
bif (decide (a0.Y > (1000000))) then (
some (4)) else (
some (0)))))
abbrev ρ21 := (Int)
def S21_0 (n : Nat) (a0 : List TTubeNode) (c2 : Int) (c15 : Int) (v16 : Int) : Option ((Int) ⊕ ρ21) :=
bif (decide (v16 < c15)) then (
(getI a0 v16).bind fun x0 =>
bif (decide (x0.Node_Time < (0))) then (
some (.inr (12))) else (
bif (decide (x0.Node_Time > (200000))) then (
some (.inr (12))) else (
bif (decide (v16 > (0))) then (
(getI a0 (IntKind.wrap .i64 (v16 - (1)))).bind fun x1 =>
bif (decide (x0.Node_Time ≤ x1.Node_Time)) then (
some (.inr (12))) else (
(g33 n (⟨x0.Node_At_X, x0.Node_At_Y⟩ : TP)).bind fun x2 =>
bif (x2 != (0)) then (
some (.inr (x2))) else (
bif (decide (x0.Node_Height < (0))) then (
some (.inr (4))) else (
bif (decide (x0.Node_Height > (60000))) then (
some (.inr (4))) else (
bif (decide (x0.Radius < (0))) then (
some (.inr (4))) else (
bif (decide (x0.Radius > (1000000))) then (
some (.inr (4))) else (
bif (decide (x0.Band < (0))) then (
some (.inr (4))) else (
bif (decide (x0.Band > (60000))) then (
some (.inr (4))) else (
some (.inl (IntKind.wrap .i64 (v16 + (1))))))))))))) else (
(g33 n (⟨x0.Node_At_X, x0.Node_At_Y⟩ : TP)).bind fun x3 =>
bif (x3 != (0)) then (
some (.inr (x3))) else (
bif (decide (x0.Node_Height < (0))) then (
some (.inr (4))) else (
bif (decide (x0.Node_Height > (60000))) then (
some (.inr (4))) else (
bif (decide (x0.Radius < (0))) then (
some (.inr (4))) else (
bif (decide (x0.Radius > (1000000))) then (
some (.inr (4))) else (
bif (decide (x0.Band < (0))) then (
some (.inr (4))) else (
bif (decide (x0.Band > (60000))) then (
some (.inr (4))) else (
some (.inl (IntKind.wrap .i64 (v16 + (1))))))))))))))) else (
some (.inr (0)))
def g21 (n : Nat) (a0 : List TTubeNode) : Option ρ21 :=
bif (decide ((a0.length : Int) > (64))) then (
some (2)) else (
bif ((a0.length : Int) == (0)) then (
some (3)) else (
iterO (fun y : Int => S21_0 n a0 (0) (a0.length : Int) y) n (0)))
abbrev ρ51 := (Int × Int)
def g51 (n : Nat) (a0 : List TTubeNode) : Option ρ51 :=
(getI a0 (0)).bind fun x4 =>
(getI a0 (IntKind.wrap .i64 ((a0.length : Int) - (1)))).bind fun x5 =>
some (x4.Node_Time, x5.Node_Time)
abbrev ρ77 := (Int)
def g77 (n : Nat) (a0 : TTubeNode) (a1 : Int) : Option ρ77 :=
some (IntKind.wrap .i64 (a0.Node_Time - a1))
abbrev ρ76 := (Int × Bool)
def S76_0 (n : Nat) (a0 : List TTubeNode) (a1 : Int) (c6 : Int) (c7 : Bool) (c8 : Int) (v9 : Int) (v10 : Int) : Option ((Int × Int) ⊕ ρ76) :=
bif (decide (v9 < v10)) then (
(getI a0 (IntKind.wrap .i64 (Int.fdiv (IntKind.wrap .u64 (IntKind.wrap .i64 (v9 + v10))) 2))).bind fun x8 =>
(g77 n x8 a1).bind fun x9 =>
bif (decide (x9 < (0))) then (
some (.inl ((IntKind.wrap .i64 ((IntKind.wrap .i64 (Int.fdiv (IntKind.wrap .u64 (IntKind.wrap .i64 (v9 + v10))) 2)) + (1))), v10))) else (
some (.inl (v9, (IntKind.wrap .i64 (Int.fdiv (IntKind.wrap .u64 (IntKind.wrap .i64 (v9 + v10))) 2)))))) else (
bif (decide (v9 < c8)) then (
(getI a0 v9).bind fun x10 =>
(g77 n x10 a1).bind fun x11 =>
some (.inr (v9, (x11 == (0))))) else (
some (.inr (v9, false))))
def g76 (n : Nat) (a0 : List TTubeNode) (a1 : Int) : Option ρ76 :=
iterO (fun y : Int × Int => S76_0 n a0 a1 (0) false (a0.length : Int) y.1 y.2) n ((0), (a0.length : Int))
abbrev ρ79 := (Int × Int)
def g79 (n : Nat) (a0 : Int) (a1 : Int) : Option ρ79 :=
bif (a1 == (0)) then (
some ((0), (10))) else (
bif (a0 == (-9223372036854775808)) then (
bif (a1 == (-1)) then (
some ((0), (2))) else (
(divO a0 a1).bind fun x20 =>
(modO a0 a1).bind fun x21 =>
bif (x21 != (0)) then (
bif (!((decide (a0 < (0))) == (decide (a1 < (0))))) then (
some ((IntKind.wrap .i64 ((IntKind.wrap .i64 x20) - (1))), (0))) else (
some ((IntKind.wrap .i64 x20), (0)))) else (
some ((IntKind.wrap .i64 x20), (0))))) else (
(divO a0 a1).bind fun x22 =>
(modO a0 a1).bind fun x23 =>
bif (x23 != (0)) then (
bif (!((decide (a0 < (0))) == (decide (a1 < (0))))) then (
some ((IntKind.wrap .i64 ((IntKind.wrap .i64 x22) - (1))), (0))) else (
some ((IntKind.wrap .i64 x22), (0)))) else (
some ((IntKind.wrap .i64 x22), (0)))))
abbrev ρ78 := (TP × Int)
def g78 (n : Nat) (a0 : TP) (a1 : TP) (a2 : Int) (a3 : Int) : Option ρ78 :=
bif (decide (a3 ≤ (0))) then (
some ((⟨(0), (0)⟩ : TP), (10))) else (
bif (decide (a3 > (200000))) then (
some ((⟨(0), (0)⟩ : TP), (4))) else (
bif (decide (a2 < (0))) then (
some ((⟨(0), (0)⟩ : TP), (4))) else (
bif (decide (a2 > a3)) then (
some ((⟨(0), (0)⟩ : TP), (4))) else (
(g33 n a0).bind fun x16 =>
bif (x16 != (0)) then (
(g33 n a0).bind fun x17 =>
some ((⟨(0), (0)⟩ : TP), x17)) else (
(g33 n a1).bind fun x18 =>
bif (x18 != (0)) then (
(g33 n a1).bind fun x19 =>
some ((⟨(0), (0)⟩ : TP), x19)) else (
(g79 n (IntKind.wrap .i64 ((IntKind.wrap .i64 (a1.X - a0.X)) * a2)) a3).bind fun x24 =>
(g79 n (IntKind.wrap .i64 ((IntKind.wrap .i64 (a1.Y - a0.Y)) * a2)) a3).bind fun x25 =>
some ((⟨(IntKind.wrap .i64 (a0.X + x24.1)), (IntKind.wrap .i64 (a0.Y + x25.1))⟩ : TP), (0))))))))
abbrev ρ80 := (Int × Int)
def g80 (n : Nat) (a0 : Int) (a1 : Int) : Option ρ80 :=
(g79 n a0 a1).bind fun x28 =>
bif (x28.2 == (0)) then (
(modO a0 a1).bind fun x29 =>
bif (x29 != (0)) then (
some ((IntKind.wrap .i64 (x28.1 + (1))), x28.2)) else (
some (x28.1, x28.2))) else (
some (x28.1, x28.2))
abbrev ρ52 := (TTubeNode)
def g52 (n : Nat) (a0 : List TTubeNode) (a1 : Int) : Option ρ52 :=
(g76 n a0 a1).bind fun x12 =>
bif x12.2 then (
(getI a0 x12.1).bind fun x13 =>
some (x13)) else (
(getI a0 (IntKind.wrap .i64 (x12.1 - (1)))).bind fun x14 =>
(getI a0 x12.1).bind fun x15 =>
(g78 n (⟨x14.Node_At_X, x14.Node_At_Y⟩ : TP) (⟨x15.Node_At_X, x15.Node_At_Y⟩ : TP) (IntKind.wrap .i64 (a1 - x14.Node_Time)) (IntKind.wrap .i64 (x15.Node_Time - x14.Node_Time))).bind fun x26 =>
(g79 n (IntKind.wrap .i64 ((IntKind.wrap .i64 (x15.Node_Height - x14.Node_Height)) * (IntKind.wrap .i64 (a1 - x14.Node_Time)))) (IntKind.wrap .i64 (x15.Node_Time - x14.Node_Time))).bind fun x27 =>
(g80 n (IntKind.wrap .i64 ((IntKind.wrap .i64 (x15.Radius - x14.Radius)) * (IntKind.wrap .i64 (a1 - x14.Node_Time)))) (IntKind.wrap .i64 (x15.Node_Time - x14.Node_Time))).bind fun x30 =>
(g80 n (IntKind.wrap .i64 ((IntKind.wrap .i64 (x15.Band - x14.Band)) * (IntKind.wrap .i64 (a1 - x14.Node_Time)))) (IntKind.wrap .i64 (x15.Node_Time - x14.Node_Time))).bind fun x31 =>
some (⟨a1, x26.1.X, x26.1.Y, (IntKind.wrap .i64 (x14.Node_Height + x27.1)), (IntKind.wrap .i64 (x14.Radius + x30.1)), (IntKind.wrap .i64 (x14.Band + x31.1))⟩ : TTubeNode))
abbrev ρ42 := (TTubeNode × Int)
def g42 (n : Nat) (a0 : List TTubeNode) (a1 : Int) : Option ρ42 :=
(g21 n a0).bind fun x6 =>
bif (x6 != (0)) then (
some ((⟨(0), (0), (0), (0), (0), (0)⟩ : TTubeNode), x6)) else (
(g51 n a0).bind fun x7 =>
bif (decide (a1 < x7.1)) then (
some ((⟨(0), (0), (0), (0), (0), (0)⟩ : TTubeNode), (12))) else (
bif (decide (a1 > x7.2)) then (
some ((⟨(0), (0), (0), (0), (0), (0)⟩ : TTubeNode), (12))) else (
(g52 n a0 a1).bind fun x32 =>
some (x32, (0)))))
abbrev ρ70 := (TP)
def g70 (n : Nat) (a0 : List TP) (a1 : Int) : Option ρ70 :=
(modO (IntKind.wrap .i64 (a1 + (1))) (a0.length : Int)).bind fun x36 =>
(getI a0 x36).bind fun x37 =>
some (x37)
abbrev ρ89 := (TP)
def g89 (n : Nat) (a0 : TP) (a1 : TP) : Option ρ89 :=
some (⟨(IntKind.wrap .i64 (a0.X - a1.X)), (IntKind.wrap .i64 (a0.Y - a1.Y))⟩ : TP)
abbrev ρ88 := (Int)
def g88 (n : Nat) (a0 : TP) (a1 : TP) : Option ρ88 :=
some (IntKind.wrap .i64 ((IntKind.wrap .i64 (a0.X * a1.Y)) - (IntKind.wrap .i64 (a0.Y * a1.X))))
abbrev ρ69 := (Int)
def g69 (n : Nat) (a0 : TP) (a1 : TP) (a2 : TP) : Option ρ69 :=
(g89 n a1 a0).bind fun x39 =>
(g89 n a2 a0).bind fun x40 =>
(g88 n x39 x40).bind fun x41 =>
bif (decide (x41 > (0))) then (
some (1)) else (
bif (decide (x41 < (0))) then (
some (-1)) else (
some (0)))
abbrev ρ96 := (Bool)
def g96 (n : Nat) (a0 : TP) (a1 : TP) (a2 : TP) : Option ρ96 :=
bif (decide ((if a1.X < a0.X then a1.X else a0.X) ≤ a2.X)) then (
bif (decide (a2.X ≤ (if a1.X > a0.X then a1.X else a0.X))) then (
bif (decide ((if a1.Y < a0.Y then a1.Y else a0.Y) ≤ a2.Y)) then (
some (decide (a2.Y ≤ (if a1.Y > a0.Y then a1.Y else a0.Y)))) else (
some (false))) else (
some (false))) else (
some (false))
abbrev ρ90 := (Bool)
def g90 (n : Nat) (a0 : TP) (a1 : TP) (a2 : TP) : Option ρ90 :=
(g69 n a0 a1 a2).bind fun x42 =>
bif (x42 == (0)) then (
(g96 n a0 a1 a2).bind fun x43 =>
some (x43)) else (
some (false))
abbrev ρ82 := (Int)
def S82_0 (n : Nat) (a0 : List TP) (c4 : Int) (c11 : Int) (k0_0 : Int) (k0_1 : Int) (v5 : Int) (v12 : Int) : Option ((Int × Int) ⊕ ρ82) :=
bif (decide (v12 < c11)) then (
(getI a0 v12).bind fun x35 =>
(g70 n a0 v12).bind fun x38 =>
(g90 n x35 x38 (⟨k0_0, k0_1⟩ : TP)).bind fun x44 =>
bif x44 then (
some (.inr (0))) else (
bif (!((decide (x35.Y > k0_1)) == (decide (x38.Y > k0_1)))) then (
(g69 n x35 x38 (⟨k0_0, k0_1⟩ : TP)).bind fun x45 =>
bif (decide (x38.Y > x35.Y)) then (
bif (decide (x45 > (0))) then (
some (.inl ((IntKind.wrap .i64 (0 - v5)), (IntKind.wrap .i64 (v12 + (1)))))) else (
bif (decide (x38.Y < x35.Y)) then (
bif (decide (x45 < (0))) then (
some (.inl ((IntKind.wrap .i64 (0 - v5)), (IntKind.wrap .i64 (v12 + (1)))))) else (
some (.inl (v5, (IntKind.wrap .i64 (v12 + (1))))))) else (
some (.inl (v5, (IntKind.wrap .i64 (v12 + (1)))))))) else (
bif (decide (x38.Y < x35.Y)) then (
bif (decide (x45 < (0))) then (
some (.inl ((IntKind.wrap .i64 (0 - v5)), (IntKind.wrap .i64 (v12 + (1)))))) else (
some (.inl (v5, (IntKind.wrap .i64 (v12 + (1))))))) else (
some (.inl (v5, (IntKind.wrap .i64 (v12 + (1)))))))) else (
some (.inl (v5, (IntKind.wrap .i64 (v12 + (1)))))))) else (
some (.inr (v5)))
def g82 (n : Nat) (a0 : List TP) (a1 : TP) : Option ρ82 :=
iterO (fun y : Int × Int => S82_0 n a0 (0) (a0.length : Int) a1.X a1.Y y.1 y.2) n ((-1), (0))
abbrev ρ56 := (Bool)
def g56 (n : Nat) (a0 : TVolume) (a1 : TP) (a2 : Int) : Option ρ56 :=
bif (decide (a2 ≥ a0.Low)) then (
bif (decide (a2 < a0.High)) then (
(g82 n a0.Area a1).bind fun x46 =>
some (decide (x46 ≥ (0)))) else (
some (false))) else (
some (false))
abbrev ρ55 := (Bool)
def g55 (n : Nat) (a0 : TVolume) (a1_0 : Int) (a1_1 : Int) (a2_0 : Int) : Option ρ55 :=
(g56 n a0 (⟨a1_0, a1_1⟩ : TP) a2_0).bind fun x47 =>
some (x47)
abbrev ρ81 := (Int)
def S81_0 (n : Nat) (a0 : List TVolume) (a1_0_0 : Int) (a1_0_1 : Int) (a1_1_0 : Int) (c4 : Int) (c7 : Int) (v8 : Int) : Option ((Int) ⊕ ρ81) :=
bif (decide (v8 < c7)) then (
(getI a0 v8).bind fun x34 =>
(g55 n x34 a1_0_0 a1_0_1 a1_1_0).bind fun x48 =>
bif x48 then (
some (.inr (v8))) else (
some (.inl (IntKind.wrap .i64 (v8 + (1)))))) else (
some (.inr (-1)))
def g81 (n : Nat) (a0 : List TVolume) (a1_0_0 : Int) (a1_0_1 : Int) (a1_1_0 : Int) : Option ρ81 :=
iterO (fun y : Int => S81_0 n a0 a1_0_0 a1_0_1 a1_1_0 (0) (a0.length : Int) y) n (0)
abbrev ρ54 := (Bool)
def g54 (n : Nat) (a0 : List TVolume) (a1_0_0 : Int) (a1_0_1 : Int) (a1_1_0 : Int) : Option ρ54 :=
(g81 n a0 a1_0_0 a1_0_1 a1_1_0).bind fun x49 =>
some (decide (x49 ≥ (0)))
abbrev ρ53 := (Bool)
def g53 (n : Nat) (a0 : TSector) (a1_0 : Int) (a1_1 : Int) (a2_0 : Int) : Option ρ53 :=
(g54 n a0.Room a1_0 a1_1 a2_0).bind fun x50 =>
some (x50)
abbrev ρ47 := (Int)
def S47_0 (n : Nat) (a0 : List TSector) (a1_0_0 : Int) (a1_0_1 : Int) (a1_1_0 : Int) (c4 : Int) (c7 : Int) (v8 : Int) : Option ((Int) ⊕ ρ47) :=
bif (decide (v8 < c7)) then (
(getI a0 v8).bind fun x33 =>
(g53 n x33 a1_0_0 a1_0_1 a1_1_0).bind fun x51 =>
bif x51 then (
some (.inr (v8))) else (
some (.inl (IntKind.wrap .i64 (v8 + (1)))))) else (
some (.inr (-1)))
def g47 (n : Nat) (a0 : List TSector) (a1_0_0 : Int) (a1_0_1 : Int) (a1_1_0 : Int) : Option ρ47 :=
iterO (fun y : Int => S47_0 n a0 a1_0_0 a1_0_1 a1_1_0 (0) (a0.length : Int) y) n (0)
abbrev ρ40 := (Int)
def g40 (n : Nat) (a0 : List TSector) (a1 : TP) (a2 : Int) : Option ρ40 :=
(g47 n a0 a1.X a1.Y a2).bind fun x52 =>
some (x52)
abbrev ρ45 := (Bool)
def S45_0 (n : Nat) (c2 : Bool) (c14 : List UInt8) (c15 : Int) (v16 : Int) : Option ((Int) ⊕ ρ45) :=
bif (decide (v16 < c15)) then (
(getI c14 v16).bind fun x55 =>
bif (decide ((x55.toNat : Int) ≥ (65))) then (
bif (decide ((x55.toNat : Int) ≤ (90))) then (
some (.inl (IntKind.wrap .i64 (v16 + (1))))) else (
bif (decide (v16 > (0))) then (
bif (decide ((x55.toNat : Int) ≥ (48))) then (
bif (!(decide ((x55.toNat : Int) ≤ (57)))) then (
some (.inr (false))) else (
some (.inl (IntKind.wrap .i64 (v16 + (1)))))) else (
some (.inr (false)))) else (
some (.inr (false))))) else (
bif (decide (v16 > (0))) then (
bif (decide ((x55.toNat : Int) ≥ (48))) then (
bif (!(decide ((x55.toNat : Int) ≤ (57)))) then (
some (.inr (false))) else (
some (.inl (IntKind.wrap .i64 (v16 + (1)))))) else (
some (.inr (false)))) else (
some (.inr (false))))) else (
some (.inr (true)))
def g45 (n : Nat) (a0 : ByteArray) : Option ρ45 :=
bif (decide ((a0.size : Int) < (1))) then (
some (false)) else (
bif (decide ((a0.size : Int) > (8))) then (
some (false)) else (
(roomO a0.size 1).bind fun x54 =>
iterO (fun y : Int => S45_0 n false (a0.data.toList) ((a0.data.toList).length : Int) y) n (0)))
abbrev ρ34 := (Bool)
def g34 (n : Nat) (a0 : ByteArray) : Option ρ34 :=
(g45 n a0).bind fun x56 =>
some (x56)
abbrev ρ73 := (Bool)
def g73 (n : Nat) (a0 : TP) (a1 : TP) (a2 : TP) (a3 : TP) : Option ρ73 :=
(g69 n a0 a1 a2).bind fun x71 =>
(g69 n a0 a1 a3).bind fun x72 =>
bif (decide ((IntKind.wrap .i64 (x71 * x72)) < (0))) then (
(g69 n a2 a3 a0).bind fun x73 =>
(g69 n a2 a3 a1).bind fun x74 =>
some (decide ((IntKind.wrap .i64 (x73 * x74)) < (0)))) else (
some (false))
abbrev ρ71 := (Bool)
def g71 (n : Nat) (a0 : TP) (a1 : TP) (a2 : TP) (a3 : TP) : Option ρ71 :=
(g73 n a0 a1 a2 a3).bind fun x75 =>
bif x75 then (
some (true)) else (
(g90 n a0 a1 a2).bind fun x76 =>
bif x76 then (
some (true)) else (
(g90 n a0 a1 a3).bind fun x77 =>
bif x77 then (
some (true)) else (
(g90 n a2 a3 a0).bind fun x78 =>
bif x78 then (
some (true)) else (
(g90 n a2 a3 a1).bind fun x79 =>
some (x79)))))
abbrev ρ72 := (Int)
def S72_0 (n : Nat) (a0 : List TP) (c2 : Int) (c6 : Int) (v3 : Int) (v7 : Int) : Option ((Int × Int) ⊕ ρ72) :=
bif (decide (v7 < c6)) then (
(getI a0 v7).bind fun x81 =>
(g70 n a0 v7).bind fun x82 =>
(g88 n x81 x82).bind fun x83 =>
some (.inl ((IntKind.wrap .i64 (v3 + x83)), (IntKind.wrap .i64 (v7 + (1)))))) else (
some (.inr (v3)))
def g72 (n : Nat) (a0 : List TP) : Option ρ72 :=
iterO (fun y : Int × Int => S72_0 n a0 (0) (a0.length : Int) y.1 y.2) n ((0), (0))
abbrev ρ46 := (Int)
def S46_1_0 (n : Nat) (a0 : List TP) (c2 : Int) (c3 : Int) (v31 : Int) (c30 : Int) (w8 : Int) : Option ((Int) ⊕ ((Int) ⊕ ρ46)) :=
bif (decide (w8 < c3)) then (
(modO (IntKind.wrap .i64 (w8 + (1))) c3).bind fun x66 =>
bif (x66 != v31) then (
(getI a0 v31).bind fun x67 =>
(g70 n a0 v31).bind fun x68 =>
(getI a0 w8).bind fun x69 =>
(g70 n a0 w8).bind fun x70 =>
(g71 n x67 x68 x69 x70).bind fun x80 =>
bif x80 then (
some (.inr (.inr (3)))) else (
some (.inl (IntKind.wrap .i64 (w8 + (1)))))) else (
some (.inl (IntKind.wrap .i64 (w8 + (1)))))) else (
some (.inr (.inl (IntKind.wrap .i64 (v31 + (1))))))
def S46_1 (n : Nat) (a0 : List TP) (c2 : Int) (c3 : Int) (c30 : Int) (v31 : Int) : Option ((Int) ⊕ ρ46) :=
bif (decide (v31 < c30)) then (
(getI a0 v31).bind fun x61 =>
(g70 n a0 v31).bind fun x62 =>
(modO (IntKind.wrap .i64 (v31 + (2))) c3).bind fun x63 =>
(getI a0 x63).bind fun x64 =>
(g69 n x61 x62 x64).bind fun x65 =>
bif (x65 == (0)) then (
some (.inr (3))) else (
iterO (fun y : Int => S46_1_0 n a0 c2 c3 v31 c30 y) n (IntKind.wrap .i64 (v31 + (2))))) else (
(g72 n a0).bind fun x84 =>
bif (decide (x84 ≤ (0))) then (
some (.inr (3))) else (
some (.inr (0))))
def S46_0 (n : Nat) (a0 : List TP) (c2 : Int) (c3 : Int) (v19 : Int) : Option ((Int) ⊕ ρ46) :=
bif (decide (v19 < c3)) then (
(getI a0 v19).bind fun x59 =>
(g33 n x59).bind fun x60 =>
bif (x60 != (0)) then (
some (.inr (x60))) else (
some (.inl (IntKind.wrap .i64 (v19 + (1)))))) else (
((iterO (fun y : Int => S46_1 n a0 c2 c3 (a0.length : Int) y) n (0)).map Sum.inr))
def g46 (n : Nat) (a0 : List TP) : Option ρ46 :=
bif (decide ((a0.length : Int) > (16))) then (
some (2)) else (
bif (decide ((a0.length : Int) < (3))) then (
some (3)) else (
iterO (fun y : Int => S46_0 n a0 (0) (a0.length : Int) y) n (0)))
abbrev ρ35 := (Int)
def g35 (n : Nat) (a0 : TVolume) : Option ρ35 :=
(g46 n a0.Area).bind fun x85 =>
bif (x85 != (0)) then (
some (x85)) else (
bif (decide (a0.Low < (0))) then (
some (4)) else (
bif (decide (a0.High > (60001))) then (
some (4)) else (
bif (decide (a0.Low ≥ a0.High)) then (
some (4)) else (
some (0)))))
abbrev ρ37 := (Bool)
def g37 (n : Nat) (a0 : TSector) (a1_0 : ByteArray) (a1_1 : List TVolume) : Option ρ37 :=
some ((a0.Name).toList == (a1_0).toList)
def S47_0_x1 (n : Nat) (a0 : List TSector) (a1_0_0 : ByteArray) (a1_0_1 : List TVolume) (c4 : Int) (c7 : Int) (v8 : Int) : Option ((Int) ⊕ ρ47) :=
bif (decide (v8 < c7)) then (
(getI a0 v8).bind fun x88 =>
(g37 n x88 a1_0_0 a1_0_1).bind fun x89 =>
bif x89 then (
some (.inr (v8))) else (
some (.inl (IntKind.wrap .i64 (v8 + (1)))))) else (
some (.inr (-1)))
def g47_1 (n : Nat) (a0 : List TSector) (a1_0_0 : ByteArray) (a1_0_1 : List TVolume) : Option ρ47 :=
iterO (fun y : Int => S47_0_x1 n a0 a1_0_0 a1_0_1 (0) (a0.length : Int) y) n (0)
abbrev ρ36 := (Bool)
def g36 (n : Nat) (a0 : List TSector) (a1_0_0 : ByteArray) (a1_0_1 : List TVolume) : Option ρ36 :=
(g47_1 n a0 a1_0_0 a1_0_1).bind fun x90 =>
some (decide (x90 ≥ (0)))
abbrev ρ74 := ((List TP))
def S74_0 (n : Nat) (a0 : List TP) (c7 : Int) (v8 : Int) (L90000 : List TP) : Option ((Int × List TP) ⊕ ρ74) :=
bif (decide (v8 < c7)) then (
(getI a0 v8).bind fun x106 =>
(roomO (L90000.length + ([(⟨(IntKind.wrap .i64 ((2) * x106.X)), (IntKind.wrap .i64 ((2) * x106.Y))⟩ : TP)] : List TP).length) 16).bind fun x108 =>
some (.inl ((IntKind.wrap .i64 (v8 + (1))), (L90000 ++ ([(⟨(IntKind.wrap .i64 ((2) * x106.X)), (IntKind.wrap .i64 ((2) * x106.Y))⟩ : TP)] : List TP))))) else (
some (.inr (L90000)))
def g74 (n : Nat) (a0 : List TP) : Option ρ74 :=
iterO (fun y : Int × List TP => S74_0 n a0 (a0.length : Int) y.1 y.2) n ((0), [])
abbrev ρ94 := (Int)
def g94 (n : Nat) (a0 : TP) (a1 : TP) : Option ρ94 :=
some (IntKind.wrap .i64 ((IntKind.wrap .i64 (a0.X * a1.X)) + (IntKind.wrap .i64 (a0.Y * a1.Y))))
abbrev ρ93 := (Int)
def g93 (n : Nat) (a0 : TP) (a1 : TP) : Option ρ93 :=
(g89 n a0 a1).bind fun x117 =>
(g94 n x117 x117).bind fun x118 =>
some (x118)
abbrev ρ92 := (Int)
def g92 (n : Nat) (a0 : TP) (a1 : TP) (a2_0 : Int) (a2_1 : Int) : Option ρ92 :=
(g93 n (⟨a2_0, a2_1⟩ : TP) a0).bind fun x119 =>
(g93 n (⟨a2_0, a2_1⟩ : TP) a1).bind fun x120 =>
some (IntKind.wrap .i64 (x119 - x120))
abbrev ρ75 := (Bool)
def S75_0_1_0 (n : Nat) (a0 : List TP) (a1 : List TP) (c4 : Bool) (w11 : Int) (c17 : Int) (v18 : Int) (c100 : Int) (k100010_0 : Int) (k100010_1 : Int) (k100011_0 : Int) (k100011_1 : Int) (k300041_0 : Int) (k300041_1 : Int) (u101 : Int) (L90000 : List TP) : Option ((Int × List TP) ⊕ ((Int × List TP) ⊕ ((Int) ⊕ ρ75))) :=
bif (decide (u101 < c100)) then (
(getI a1 u101).bind fun x129 =>
(g70 n a1 u101).bind fun x130 =>
(g90 n x129 x130 (⟨k300041_0, k300041_1⟩ : TP)).bind fun x131 =>
bif x131 then (
(g89 n (⟨k100011_0, k100011_1⟩ : TP) (⟨k100010_0, k100010_1⟩ : TP)).bind fun x132 =>
(g89 n x130 x129).bind fun x133 =>
(g94 n x132 x133).bind fun x134 =>
bif (decide (x134 > (0))) then (
some (.inr (.inr (.inr (true))))) else (
some (.inl ((IntKind.wrap .i64 (u101 + (1))), L90000)))) else (
some (.inl ((IntKind.wrap .i64 (u101 + (1))), L90000)))) else (
some (.inr (.inl ((IntKind.wrap .i64 (w11 + (1))), L90000))))
def S75_0_1 (n : Nat) (a0 : List TP) (a1 : List TP) (c4 : Bool) (c17 : Int) (v18 : Int) (k100010_0 : Int) (k100010_1 : Int) (k100011_0 : Int) (k100011_1 : Int) (w11 : Int) (L90000 : List TP) : Option ((Int × List TP) ⊕ ((Int) ⊕ ρ75)) :=
bif (decide (w11 < (L90000.length : Int))) then (
(getI L90000 w11).bind fun x122 =>
(getI L90000 (IntKind.wrap .i64 (w11 - (1)))).bind fun x123 =>
bif (decide (x122 = x123)) then (
some (.inl ((IntKind.wrap .i64 (w11 + (1))), L90000))) else (
(getI L90000 w11).bind fun x124 =>
(getI L90000 (IntKind.wrap .i64 (w11 - (1)))).bind fun x125 =>
(getI L90000 w11).bind fun x126 =>
(getI L90000 (IntKind.wrap .i64 (w11 - (1)))).bind fun x127 =>
(g82 n a1 (⟨(IntKind.wrap .i64 (Int.tdiv (IntKind.wrap .i64 (x124.X + x125.X)) (2))), (IntKind.wrap .i64 (Int.tdiv (IntKind.wrap .i64 (x126.Y + x127.Y)) (2)))⟩ : TP)).bind fun x128 =>
bif (x128 == (1)) then (
some (.inr (.inr (true)))) else (
bif (x128 == (0)) then (
iterO (fun y : Int × List TP => S75_0_1_0 n a0 a1 c4 w11 c17 v18 (a1.length : Int) k100010_0 k100010_1 k100011_0 k100011_1 (IntKind.wrap .i64 (Int.tdiv (IntKind.wrap .i64 (x124.X + x125.X)) (2))) (IntKind.wrap .i64 (Int.tdiv (IntKind.wrap .i64 (x126.Y + x127.Y)) (2))) y.1 y.2) n ((0), L90000)) else (
some (.inl ((IntKind.wrap .i64 (w11 + (1))), L90000)))))) else (
some (.inr (.inl (IntKind.wrap .i64 (v18 + (1))))))
def S75_0_0 (n : Nat) (a0 : List TP) (a1 : List TP) (c4 : Bool) (c17 : Int) (v18 : Int) (c32 : Int) (k100010_0 : Int) (k100010_1 : Int) (k100011_0 : Int) (k100011_1 : Int) (w33 : Int) (L90000 : List TP) : Option ((Int × List TP) ⊕ ((Int) ⊕ ρ75)) :=
bif (decide (w33 < c32)) then (
(getI a1 w33).bind fun x113 =>
(g90 n (⟨k100010_0, k100010_1⟩ : TP) (⟨k100011_0, k100011_1⟩ : TP) x113).bind fun x114 =>
bif x114 then (
(roomO (L90000.length + ([x113] : List TP).length) 16).bind fun x116 =>
some (.inl ((IntKind.wrap .i64 (w33 + (1))), (L90000 ++ ([x113] : List TP))))) else (
some (.inl ((IntKind.wrap .i64 (w33 + (1))), L90000)))) else (
(sortO (fun x y => g92 n x y k100010_0 k100010_1) L90000).bind fun x121 =>
((iterO (fun y : Int × List TP => S75_0_1 n a0 a1 c4 c17 v18 k100010_0 k100010_1 k100011_0 k100011_1 y.1 y.2) n ((1), x121)).map Sum.inr))
def S75_0 (n : Nat) (a0 : List TP) (a1 : List TP) (c4 : Bool) (c17 : Int) (v18 : Int) : Option ((Int) ⊕ ρ75) :=
bif (decide (v18 < c17)) then (
(getI a0 v18).bind fun x111 =>
(g70 n a0 v18).bind fun x112 =>
iterO (fun y : Int × List TP => S75_0_0 n a0 a1 c4 c17 v18 (a1.length : Int) x111.X x111.Y x112.X x112.Y y.1 y.2) n ((0), ([x111, x112] : List TP))) else (
some (.inr (false)))
def g75 (n : Nat) (a0 : List TP) (a1 : List TP) : Option ρ75 :=
iterO (fun y : Int => S75_0 n a0 a1 false (a0.length : Int) y) n (0)
abbrev ρ48 := (Bool × Int)
def S48_1_0 (n : Nat) (a0 : List TP) (a1 : List TP) (c4 : Bool) (c5 : Int) (v27 : Int) (c26 : Int) (c31 : Int) (w32 : Int) : Option ((Int) ⊕ ((Int) ⊕ ρ48)) :=
bif (decide (w32 < c31)) then (
(getI a0 v27).bind fun x101 =>
(g70 n a0 v27).bind fun x102 =>
(getI a1 w32).bind fun x103 =>
(g70 n a1 w32).bind fun x104 =>
(g73 n x101 x102 x103 x104).bind fun x105 =>
bif x105 then (
some (.inr (.inr (true, (0))))) else (
some (.inl (IntKind.wrap .i64 (w32 + (1)))))) else (
some (.inr (.inl (IntKind.wrap .i64 (v27 + (1))))))
def S48_1 (n : Nat) (a0 : List TP) (a1 : List TP) (c4 : Bool) (c5 : Int) (c26 : Int) (v27 : Int) : Option ((Int) ⊕ ρ48) :=
bif (decide (v27 < c26)) then (
iterO (fun y : Int => S48_1_0 n a0 a1 c4 c5 v27 c26 (a1.length : Int) y) n (0)) else (
(g74 n a0).bind fun x109 =>
(g74 n a1).bind fun x110 =>
(g75 n x109 x110).bind fun x135 =>
bif x135 then (
some (.inr (true, (0)))) else (
(g75 n x110 x109).bind fun x136 =>
some (.inr (x136, (0)))))
def S48_0 (n : Nat) (a0 : List TP) (a1 : List TP) (c4 : Bool) (c5 : Int) (c13 : List (List TP)) (c14 : Int) (v15 : Int) : Option ((Int) ⊕ ρ48) :=
bif (decide (v15 < c14)) then (
(getI c13 v15).bind fun x99 =>
(g46 n x99).bind fun x100 =>
bif (x100 != (0)) then (
some (.inr (false, x100))) else (
some (.inl (IntKind.wrap .i64 (v15 + (1)))))) else (
((iterO (fun y : Int => S48_1 n a0 a1 c4 c5 (a0.length : Int) y) n (0)).map Sum.inr))
def g48 (n : Nat) (a0 : List TP) (a1 : List TP) : Option ρ48 :=
iterO (fun y : Int => S48_0 n a0 a1 false (0) ([a0, a1] : List (List TP)) (([a0, a1] : List (List TP)).length : Int) y) n (0)
abbrev ρ38 := (Bool × Int)
def S38_0 (n : Nat) (c4 : Bool) (c5 : Int) (c13 : List TVolume) (c14 : Int) (k0_0 : List TP) (k0_1 : Int) (k0_2 : Int) (k1_0 : List TP) (k1_1 : Int) (k1_2 : Int) (v15 : Int) : Option ((Int) ⊕ ρ38) :=
bif (decide (v15 < c14)) then (
(getI c13 v15).bind fun x97 =>
(g35 n x97).bind fun x98 =>
bif (x98 != (0)) then (
some (.inr (false, x98))) else (
some (.inl (IntKind.wrap .i64 (v15 + (1)))))) else (
(g48 n k0_0 k1_0).bind fun x137 =>
bif (x137.2 == (0)) then (
bif x137.1 then (
some (.inr ((decide ((if k1_1 > k0_1 then k1_1 else k0_1) < (if k1_2 < k0_2 then k1_2 else k0_2))), x137.2))) else (
some (.inr (false, x137.2)))) else (
some (.inr (false, x137.2))))
def g38 (n : Nat) (a0 : TVolume) (a1 : TVolume) : Option ρ38 :=
iterO (fun y : Int => S38_0 n false (0) ([a0, a1] : List TVolume) (([a0, a1] : List TVolume).length : Int) a0.Area a0.Low a0.High a1.Area a1.Low a1.High y) n (0)
abbrev ρ23 := (Int)
def S23_0_0 (n : Nat) (a0 : List TSector) (c2 : Int) (v20 : Int) (c19 : Int) (c41 : List TVolume) (c42 : Int) (k100004_0 : ByteArray) (w43 : Int) (L90000 : List TVolume) : Option ((Int × List TVolume) ⊕ ((Int × List TVolume) ⊕ ρ23)) :=
bif (decide (w43 < c42)) then (
(getI c41 w43).bind fun x58 =>
(g35 n x58).bind fun x86 =>
bif (x86 != (0)) then (
some (.inr (.inr (x86)))) else (
some (.inl ((IntKind.wrap .i64 (w43 + (1))), L90000)))) else (
(sliceO a0 none (some v20)).bind fun x87 =>
(g36 n x87 k100004_0 c41).bind fun x91 =>
bif x91 then (
some (.inr (.inr (7)))) else (
(neO c41).bind fun x92 =>
(roomO (L90000.length + c41.length) 40).bind fun x93 =>
some (.inr (.inl ((IntKind.wrap .i64 (v20 + (1))), (L90000 ++ c41))))))
def S23_1_0 (n : Nat) (c2 : Int) (L90000 : List TVolume) (c64 : Int) (v65 : Int) (x95 : List TVolume) (c73 : Int) (k200004_0 : List TP) (k200004_1 : Int) (k200004_2 : Int) (w74 : Int) : Option ((Int) ⊕ ((Int) ⊕ ρ23)) :=
bif (decide (w74 < c73)) then (
(getI x95 w74).bind fun x96 =>
(g38 n (⟨k200004_0, k200004_1, k200004_2⟩ : TVolume) x96).bind fun x138 =>
bif x138.1 then (
some (.inr (.inr (19)))) else (
some (.inl (IntKind.wrap .i64 (w74 + (1)))))) else (
some (.inr (.inl (IntKind.wrap .i64 (v65 + (1))))))
def S23_1 (n : Nat) (c2 : Int) (L90000 : List TVolume) (c64 : Int) (v65 : Int) : Option ((Int) ⊕ ρ23) :=
bif (decide (v65 < c64)) then (
(getI L90000 v65).bind fun x94 =>
(sliceO L90000 none (some v65)).bind fun x95 =>
iterO (fun y : Int => S23_1_0 n c2 L90000 c64 v65 x95 (x95.length : Int) x94.Area x94.Low x94.High y) n (0)) else (
some (.inr (0)))
def S23_0 (n : Nat) (a0 : List TSector) (c2 : Int) (c19 : Int) (v20 : Int) (L90000 : List TVolume) : Option ((Int × List TVolume) ⊕ ρ23) :=
bif (decide (v20 < c19)) then (
(getI a0 v20).bind fun x53 =>
(g34 n x53.Name).bind fun x57 =>
bif (!x57) then (
some (.inr (3))) else (
bif ((x53.Room.length : Int) == (0)) then (
some (.inr (8))) else (
bif (decide ((x53.Room.length : Int) > (4))) then (
some (.inr (2))) else (
iterO (fun y : Int × List TVolume => S23_0_0 n a0 c2 v20 c19 x53.Room (x53.Room.length : Int) x53.Name y.1 y.2) n ((0), L90000))))) else (
((iterO (fun y : Int => S23_1 n c2 L90000 (L90000.length : Int) y) n (0)).map Sum.inr))
def g23 (n : Nat) (a0 : List TSector) : Option ρ23 :=
bif (decide ((a0.length : Int) > (12))) then (
some (2)) else (
iterO (fun y : Int × List TVolume => S23_0 n a0 (0) (a0.length : Int) y.1 y.2) n ((0), []))
def visAdd (L : List TSectorVisit) (i u : Int) : List TSectorVisit := match L.getLast? with
  | some v => bif v.Sector == i then L.dropLast ++ [⟨v.Sector, v.From, u⟩] else L ++ [⟨i, u, u⟩]
  | none => [⟨i, u, u⟩]
def visGo (n : Nat) (l : List TSector) (t : List TTubeNode) : Nat → Int → List TSectorVisit → Option (List TSectorVisit)
  | 0, _, L => some L
  | k + 1, u, L => (g52 n t u).bind fun x => (g40 n l (⟨x.Node_At_X, x.Node_At_Y⟩ : TP) x.Node_Height).bind fun i => visGo n l t k (u + 1) (visAdd L i x.Node_Time)
abbrev ρ24 := List TSectorVisit
def g24 (n : Nat) (l : List TSector) (t : List TTubeNode) : Option (List TSectorVisit) :=
  (g21 n t).bind fun z => bif z != 0 then none else
  (g51 n t).bind fun q => if 0 ≤ q.1 ∧ q.1 ≤ q.2 ∧ q.2 ≤ 1000000 ∧ t.length ≤ 64 then visGo n l t (q.2 - q.1 + 1).toNat q.1 [] else none

abbrev ρ8 := ((List TSectorVisit) × Int)
def g8 (n : Nat) (a0 : List TSector) (a1 : List TTubeNode) : Option ρ8 :=
(g23 n a0).bind fun x139 =>
bif (x139 != (0)) then (
some ([], x139)) else (
(g21 n a1).bind fun x140 =>
bif (x140 != (0)) then (
some ([], x140)) else (
(getI a1 (IntKind.wrap .i64 ((a1.length : Int) - (1)))).bind fun x141 =>
(getI a1 (0)).bind fun x142 =>
bif (decide ((IntKind.wrap .i64 (x141.Node_Time - x142.Node_Time)) > (20000))) then (
some ([], (2))) else (
(g24 n a0 a1).bind fun x143 =>
some (x143, (0)))))
abbrev ρ6 := (Bool)
def S6_0 (n : Nat) (a2 : Int) (c6 : Bool) (a0 : List (List TTubeNode)) (c14 : Int) (v15 : Int) : Option ((Int) ⊕ ρ6) :=
bif (decide (v15 < c14)) then (
(getI a0 v15).bind fun x145 =>
(g21 n x145).bind fun x146 =>
bif (x146 != (0)) then (
some (.inr (false))) else (
(getI x145 (IntKind.wrap .i64 ((x145.length : Int) - (1)))).bind fun x147 =>
(getI x145 (0)).bind fun x148 =>
bif (decide ((IntKind.wrap .i64 (x147.Node_Time - x148.Node_Time)) > a2)) then (
some (.inr (false))) else (
some (.inl (IntKind.wrap .i64 (v15 + (1))))))) else (
some (.inr (true)))
def g6 (n : Nat) (a0 : List (List TTubeNode)) (a1 : Int) (a2 : Int) : Option ρ6 :=
bif (decide ((a0.length : Int) > a1)) then (
some (false)) else (
iterO (fun y : Int => S6_0 n a2 false a0 (a0.length : Int) y) n (0))
abbrev ρ22 := (Int)
def S22_0 (n : Nat) (c4 : Int) (a1 : List (List TTubeNode)) (c18 : Int) (v19 : Int) : Option ((Int) ⊕ ρ22) :=
bif (decide (v19 < c18)) then (
(getI a1 v19).bind fun x151 =>
(g21 n x151).bind fun x152 =>
bif (x152 != (0)) then (
some (.inr (x152))) else (
some (.inl (IntKind.wrap .i64 (v19 + (1)))))) else (
some (.inr (0)))
def g22 (n : Nat) (a0 : List TSector) (a1 : List (List TTubeNode)) : Option ρ22 :=
(g23 n a0).bind fun x150 =>
bif (x150 != (0)) then (
some (x150)) else (
bif (decide ((a1.length : Int) > (24))) then (
some (2)) else (
iterO (fun y : Int => S22_0 n (0) a1 (a1.length : Int) y) n (0)))
abbrev ρ26 := (Int)
def g26 (n : Nat) (a0 : TSpan) : Option ρ26 :=
bif (decide (a0.From < (0))) then (
some (12)) else (
bif (decide (a0.To > (200001))) then (
some (12)) else (
bif (decide (a0.From ≥ a0.To)) then (
some (12)) else (
bif (decide ((IntKind.wrap .i64 (a0.To - a0.From)) > (2000))) then (
some (2)) else (
some (0)))))
abbrev ρ28 := ((List Int) × Int)
def S28_0 (n : Nat) (a0 : List TSector) (a2 : Int) (c7 : Int) (a1 : List (List TTubeNode)) (c19 : Int) (v9 : Int) (v20 : Int) (L90000 : List Int) : Option ((Int × Int × List Int) ⊕ ρ28) :=
bif (decide (v20 < c19)) then (
(getI a1 v20).bind fun x158 =>
(g42 n x158 a2).bind fun x159 =>
bif (x159.2 != (0)) then (
some (.inl (v9, (IntKind.wrap .i64 (v20 + (1))), L90000))) else (
(g40 n a0 (⟨x159.1.Node_At_X, x159.1.Node_At_Y⟩ : TP) x159.1.Node_Height).bind fun x160 =>
bif (decide (x160 ≥ (0))) then (
(getI L90000 x160).bind fun x161 =>
(getI L90000 x160).bind fun x162 =>
some (.inl (v9, (IntKind.wrap .i64 (v20 + (1))), (L90000.set ((x160 : Int).toNat) (IntKind.wrap .i64 (x161 + (1))))))) else (
some (.inl ((IntKind.wrap .i64 (v9 + (1))), (IntKind.wrap .i64 (v20 + (1))), L90000))))) else (
some (.inr (L90000, v9)))
def g28 (n : Nat) (a0 : List TSector) (a1 : List (List TTubeNode)) (a2 : Int) : Option ρ28 :=
(makeO (a0.length : Int) 8).bind fun x157 =>
iterO (fun y : Int × Int × List Int => S28_0 n a0 a2 (0) a1 (a1.length : Int) y.1 y.2.1 y.2.2) n ((0), (0), (List.replicate x157 (0)))
abbrev ρ11 := ((List Int) × (List Int) × Int)
def S11_0_0 (n : Nat) (a0 : List TSector) (a1 : List (List TTubeNode)) (c8 : Int) (v13 : Int) (c14 : List Int) (c53 : Int) (k0_0 : Int) (k0_1 : Int) (w54 : Int) (L90000 : List Int) (L90001 : List Int) : Option ((Int × List Int × List Int) ⊕ ((Int × List Int × List Int) ⊕ ρ11)) :=
bif (decide (w54 < c53)) then (
(getI c14 w54).bind fun x164 =>
(getI L90000 w54).bind fun x165 =>
bif (decide (x164 > x165)) then (
(getI c14 w54).bind fun x166 =>
(getI L90000 w54).bind fun x167 =>
(getI L90001 w54).bind fun x168 =>
some (.inl ((IntKind.wrap .i64 (w54 + (1))), (L90000.set ((w54 : Int).toNat) x166), (L90001.set ((w54 : Int).toNat) v13)))) else (
some (.inl ((IntKind.wrap .i64 (w54 + (1))), L90000, L90001)))) else (
some (.inr (.inl ((IntKind.wrap .i64 (v13 + (1))), L90000, L90001))))
def S11_0 (n : Nat) (a0 : List TSector) (a1 : List (List TTubeNode)) (c8 : Int) (k0_0 : Int) (k0_1 : Int) (v13 : Int) (L90000 : List Int) (L90001 : List Int) : Option ((Int × List Int × List Int) ⊕ ρ11) :=
bif (decide (v13 < k0_1)) then (
(g28 n a0 a1 v13).bind fun x163 =>
iterO (fun y : Int × List Int × List Int => S11_0_0 n a0 a1 c8 v13 x163.1 (x163.1.length : Int) k0_0 k0_1 y.1 y.2.1 y.2.2) n ((0), L90000, L90001)) else (
some (.inr (L90000, L90001, (0))))
def g11 (n : Nat) (a0 : List TSector) (a1 : List (List TTubeNode)) (a2 : TSpan) : Option ρ11 :=
(g22 n a0 a1).bind fun x153 =>
bif (x153 != (0)) then (
some ([], [], x153)) else (
(g26 n a2).bind fun x154 =>
bif (x154 != (0)) then (
some ([], [], x154)) else (
(makeO (a0.length : Int) 8).bind fun x155 =>
(repO ([a2.From] : List Int) (a0.length : Int)).bind fun x156 =>
iterO (fun y : Int × List Int × List Int => S11_0 n a0 a1 (0) a2.From a2.To y.1 y.2.1 y.2.2) n (a2.From, (List.replicate x155 (0)), x156)))
abbrev ρ31 := (Int)
def S31_0 (n : Nat) (c2 : Int) (a0 : List Int) (c7 : Int) (v8 : Int) : Option ((Int) ⊕ ρ31) :=
bif (decide (v8 < c7)) then (
(getI a0 v8).bind fun x183 =>
bif (x183 != c2) then (
some (.inr (x183))) else (
some (.inl (IntKind.wrap .i64 (v8 + (1)))))) else (
some (.inr (c2)))
def g31 (n : Nat) (a0 : List Int) : Option ρ31 :=
iterO (fun y : Int => S31_0 n (0) a0 (a0.length : Int) y) n (0)
abbrev ρ30 := (Int)
def g30 (n : Nat) (a0 : TLoadOver) (a1 : TLoadOver) : Option ρ30 :=
(g31 n ([(IntKind.wrap .i64 (a0.From - a1.From)), (IntKind.wrap .i64 (a0.Sector - a1.Sector))] : List Int)).bind fun x184 =>
some (x184)
abbrev ρ12 := ((List TLoadOver) × Int)
def S12_0_0 (n : Nat) (a0 : List TSector) (a1 : List (List TTubeNode)) (a2 : List Int) (c9 : Int) (v14 : Int) (c15 : List Int) (c54 : Int) (k0_0 : Int) (k0_1 : Int) (w55 : Int) (L90000 : List TLoadOver) (L90001 : List Int) : Option ((Int × List TLoadOver × List Int) ⊕ ((Int × List TLoadOver × List Int) ⊕ ρ12)) :=
bif (decide (w55 < c54)) then (
(getI c15 w55).bind fun x174 =>
(getI a2 w55).bind fun x175 =>
bif (decide (x174 ≤ x175)) then (
(getI L90001 w55).bind fun x176 =>
some (.inl ((IntKind.wrap .i64 (w55 + (1))), L90000, (L90001.set ((w55 : Int).toNat) (-1))))) else (
(getI L90001 w55).bind fun x177 =>
bif (decide (x177 ≥ (0))) then (
(getI L90001 w55).bind fun x178 =>
(getI L90000 x178).bind fun x179 =>
some (.inl ((IntKind.wrap .i64 (w55 + (1))), (L90000.set ((x178 : Int).toNat) (⟨x179.Sector, x179.From, v14⟩ : TLoadOver)), L90001))) else (
(getI L90001 w55).bind fun x180 =>
(roomO (L90000.length + ([(⟨w55, v14, v14⟩ : TLoadOver)] : List TLoadOver).length) 24).bind fun x182 =>
some (.inl ((IntKind.wrap .i64 (w55 + (1))), (L90000 ++ ([(⟨w55, v14, v14⟩ : TLoadOver)] : List TLoadOver)), (L90001.set ((w55 : Int).toNat) (L90000.length : Int))))))) else (
some (.inr (.inl ((IntKind.wrap .i64 (v14 + (1))), L90000, L90001))))
def S12_0 (n : Nat) (a0 : List TSector) (a1 : List (List TTubeNode)) (a2 : List Int) (c9 : Int) (k0_0 : Int) (k0_1 : Int) (v14 : Int) (L90000 : List TLoadOver) (L90001 : List Int) : Option ((Int × List TLoadOver × List Int) ⊕ ρ12) :=
bif (decide (v14 < k0_1)) then (
(g28 n a0 a1 v14).bind fun x173 =>
iterO (fun y : Int × List TLoadOver × List Int => S12_0_0 n a0 a1 a2 c9 v14 x173.1 (x173.1.length : Int) k0_0 k0_1 y.1 y.2.1 y.2.2) n ((0), L90000, L90001)) else (
(sortO (fun x y => g30 n x y) L90000).bind fun x185 =>
some (.inr (x185, (0))))
def g12 (n : Nat) (a0 : List TSector) (a1 : List (List TTubeNode)) (a2 : List Int) (a3 : TSpan) : Option ρ12 :=
(g22 n a0 a1).bind fun x170 =>
bif (x170 != (0)) then (
some ([], x170)) else (
bif ((a2.length : Int) != (a0.length : Int)) then (
some ([], (3))) else (
(g26 n a3).bind fun x171 =>
bif (x171 != (0)) then (
some ([], x171)) else (
(repO ([(-1)] : List Int) (a0.length : Int)).bind fun x172 =>
iterO (fun y : Int × List TLoadOver × List Int => S12_0 n a0 a1 a2 (0) a3.From a3.To y.1 y.2.1 y.2.2) n (a3.From, [], x172))))
abbrev ρ15 := (Bool)
def g15 (n : Nat) (a0 : TLoadOver) (a1_0 : Int) : Option ρ15 :=
some (a0.Sector == a1_0)
abbrev ρ14 := (Int)
def S14_0 (n : Nat) (a0 : List TLoadOver) (a1_0_0 : Int) (c4 : Int) (c7 : Int) (v8 : Int) : Option ((Int) ⊕ ρ14) :=
bif (decide (v8 < c7)) then (
(getI a0 v8).bind fun x205 =>
(g15 n x205 a1_0_0).bind fun x206 =>
bif x206 then (
some (.inr (v8))) else (
some (.inl (IntKind.wrap .i64 (v8 + (1)))))) else (
some (.inr (-1)))
def g14 (n : Nat) (a0 : List TLoadOver) (a1_0_0 : Int) : Option ρ14 :=
iterO (fun y : Int => S14_0 n a0 a1_0_0 (0) (a0.length : Int) y) n (0)
abbrev ρ5 := Bool
def g5 (n : Nat) : Option ρ5 := some true

abbrev ρ4 := (Bool)
def S4_1 (n : Nat) (c6 : Bool) (c8 : List Int) (c14 : List TLoadOver) (c93 : Int) (v94 : Int) : Option ((Int) ⊕ ρ4) :=
bif (decide (v94 < c93)) then (
(g14 n c14 v94).bind fun x207 =>
bif (decide (x207 < (0))) then (
some (.inr (false))) else (
(getI c14 x207).bind fun x208 =>
(getI c8 v94).bind fun x209 =>
bif (x208.From != x209) then (
some (.inr (false))) else (
some (.inl (IntKind.wrap .i64 (v94 + (1))))))) else (
some (.inr (true)))
def S4_0 (n : Nat) (a0 : List TSector) (a1 : List (List TTubeNode)) (c6 : Bool) (c7 : List Int) (c8 : List Int) (c10 : List TLoadOver) (c11 : Int) (c55 : Int) (k0_0 : Int) (k0_1 : Int) (v56 : Int) (L90000 : List Int) : Option ((Int × List Int) ⊕ ρ4) :=
bif (decide (v56 < c55)) then (
(getI L90000 v56).bind fun x188 =>
(getI L90000 v56).bind fun x189 =>
some (.inl ((IntKind.wrap .i64 (v56 + (1))), (L90000.set ((v56 : Int).toNat) (IntKind.wrap .i64 (x188 - (1))))))) else (
(g12 n a0 a1 L90000 (⟨k0_0, k0_1⟩ : TSpan)).bind fun x190 =>
bif (c11 != (0)) then (
some (.inr (false))) else (
bif (x190.2 != (0)) then (
some (.inr (false))) else (
bif (decide ((c10.length : Int) > (0))) then (
some (.inr (false))) else (
bif ((c8.length : Int) != (c7.length : Int)) then (
some (.inr (false))) else (
((iterO (fun y : Int => S4_1 n c6 c8 x190.1 (c7.length : Int) y) n (0)).map Sum.inr))))))
def g4 (n : Nat) (a0 : List TSector) (a1 : List (List TTubeNode)) (a2 : TSpan) : Option ρ4 :=
(g5 n).bind fun x144 =>
bif (!x144) then (
some (false)) else (
(g6 n a1 (6) (400)).bind fun x149 =>
bif (!x149) then (
some (true)) else (
(g11 n a0 a1 a2).bind fun x169 =>
bif (x169.2.2 != (0)) then (
some ((IntKind.wrap .i64 ((x169.1.length : Int) + (x169.2.1.length : Int))) == (0))) else (
bif ((x169.1.length : Int) == (0)) then (
some ((IntKind.wrap .i64 ((x169.1.length : Int) + (x169.2.1.length : Int))) == (0))) else (
(g12 n a0 a1 x169.1 a2).bind fun x186 =>
(roomO x169.1.length 8).bind fun x187 =>
iterO (fun y : Int × List Int => S4_0 n a0 a1 false x169.1 x169.2.1 x186.1 x186.2 (x169.1.length : Int) a2.From a2.To y.1 y.2) n ((0), x169.1)))))
end Go.Proofs.YtldiackagnjlgaaGreat
