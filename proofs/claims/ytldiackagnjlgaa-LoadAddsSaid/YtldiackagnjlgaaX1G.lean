/- Plain functional programs out of the program's functions; printed by wip/Ext.lean.txt. -/
import Derived.Test.YtldiackagnjlgaaX1T
import Derived.Test.YtldiackagnjlgaaPJ
set_option linter.unusedVariables false
set_option linter.unusedSimpArgs false
set_option maxRecDepth 100000
set_option maxHeartbeats 4000000
namespace Go.Proofs.Ytldiackagnjlgaa
abbrev ρ31 := (Int)
def g31 (n : Nat) (a0 : TP) : Option ρ31 :=
bif (decide (a0.X < (-1000000))) then (
some (4)) else (
bif (decide (a0.X > (1000000))) then (
some (4)) else (
bif (decide (a0.Y < (-1000000))) then (
some (4)) else (
bif (decide (a0.Y > (1000000))) then (
some (4)) else (
some (0)))))
abbrev ρ28 := (Int)
def S28_0 (n : Nat) (a0 : List TTubeNode) (c2 : Int) (c15 : Int) (v16 : Int) : Option ((Int) ⊕ ρ28) :=
bif (decide (v16 < c15)) then (
(getI a0 v16).bind fun x0 =>
bif (decide (x0.Node_Time < (0))) then (
some (.inr (12))) else (
bif (decide (x0.Node_Time > (200000))) then (
some (.inr (12))) else (
bif (decide (v16 > (0))) then (
(getI a0 (IntKind.wrap .i64 (v16 - (1)))).bind fun x1 =>
bif (decide (x0.Node_Time ≤ x1.Node_Time)) then (
some (.inr (12))) else (
(g31 n (⟨x0.Node_At_X, x0.Node_At_Y⟩ : TP)).bind fun x2 =>
bif (x2 != (0)) then (
some (.inr (x2))) else (
bif (decide (x0.Node_Height < (0))) then (
some (.inr (4))) else (
bif (decide (x0.Node_Height > (60000))) then (
some (.inr (4))) else (
bif (decide (x0.Radius < (0))) then (
some (.inr (4))) else (
bif (decide (x0.Radius > (1000000))) then (
some (.inr (4))) else (
bif (decide (x0.Band < (0))) then (
some (.inr (4))) else (
bif (decide (x0.Band > (60000))) then (
some (.inr (4))) else (
some (.inl (IntKind.wrap .i64 (v16 + (1))))))))))))) else (
(g31 n (⟨x0.Node_At_X, x0.Node_At_Y⟩ : TP)).bind fun x3 =>
bif (x3 != (0)) then (
some (.inr (x3))) else (
bif (decide (x0.Node_Height < (0))) then (
some (.inr (4))) else (
bif (decide (x0.Node_Height > (60000))) then (
some (.inr (4))) else (
bif (decide (x0.Radius < (0))) then (
some (.inr (4))) else (
bif (decide (x0.Radius > (1000000))) then (
some (.inr (4))) else (
bif (decide (x0.Band < (0))) then (
some (.inr (4))) else (
bif (decide (x0.Band > (60000))) then (
some (.inr (4))) else (
some (.inl (IntKind.wrap .i64 (v16 + (1))))))))))))))) else (
some (.inr (0)))
def g28 (n : Nat) (a0 : List TTubeNode) : Option ρ28 :=
bif (decide ((a0.length : Int) > (64))) then (
some (2)) else (
bif ((a0.length : Int) == (0)) then (
some (3)) else (
iterO (fun y : Int => S28_0 n a0 (0) (a0.length : Int) y) n (0)))
abbrev ρ42 := (Int × Int)
def g42 (n : Nat) (a0 : List TTubeNode) : Option ρ42 :=
(getI a0 (0)).bind fun x4 =>
(getI a0 (IntKind.wrap .i64 ((a0.length : Int) - (1)))).bind fun x5 =>
some (x4.Node_Time, x5.Node_Time)
abbrev ρ65 := (Int)
def g65 (n : Nat) (a0 : TTubeNode) (a1 : Int) : Option ρ65 :=
some (IntKind.wrap .i64 (a0.Node_Time - a1))
abbrev ρ64 := (Int × Bool)
def S64_0 (n : Nat) (a0 : List TTubeNode) (a1 : Int) (c6 : Int) (c7 : Bool) (c8 : Int) (v9 : Int) (v10 : Int) : Option ((Int × Int) ⊕ ρ64) :=
bif (decide (v9 < v10)) then (
(getI a0 (IntKind.wrap .i64 (Int.fdiv (IntKind.wrap .u64 (IntKind.wrap .i64 (v9 + v10))) 2))).bind fun x8 =>
(g65 n x8 a1).bind fun x9 =>
bif (decide (x9 < (0))) then (
some (.inl ((IntKind.wrap .i64 ((IntKind.wrap .i64 (Int.fdiv (IntKind.wrap .u64 (IntKind.wrap .i64 (v9 + v10))) 2)) + (1))), v10))) else (
some (.inl (v9, (IntKind.wrap .i64 (Int.fdiv (IntKind.wrap .u64 (IntKind.wrap .i64 (v9 + v10))) 2)))))) else (
bif (decide (v9 < c8)) then (
(getI a0 v9).bind fun x10 =>
(g65 n x10 a1).bind fun x11 =>
some (.inr (v9, (x11 == (0))))) else (
some (.inr (v9, false))))
def g64 (n : Nat) (a0 : List TTubeNode) (a1 : Int) : Option ρ64 :=
iterO (fun y : Int × Int => S64_0 n a0 a1 (0) false (a0.length : Int) y.1 y.2) n ((0), (a0.length : Int))
abbrev ρ67 := (Int × Int)
def g67 (n : Nat) (a0 : Int) (a1 : Int) : Option ρ67 :=
bif (a1 == (0)) then (
some ((0), (10))) else (
bif (a0 == (-9223372036854775808)) then (
bif (a1 == (-1)) then (
some ((0), (2))) else (
(divO a0 a1).bind fun x20 =>
(modO a0 a1).bind fun x21 =>
bif (x21 != (0)) then (
bif (!((decide (a0 < (0))) == (decide (a1 < (0))))) then (
some ((IntKind.wrap .i64 ((IntKind.wrap .i64 x20) - (1))), (0))) else (
some ((IntKind.wrap .i64 x20), (0)))) else (
some ((IntKind.wrap .i64 x20), (0))))) else (
(divO a0 a1).bind fun x22 =>
(modO a0 a1).bind fun x23 =>
bif (x23 != (0)) then (
bif (!((decide (a0 < (0))) == (decide (a1 < (0))))) then (
some ((IntKind.wrap .i64 ((IntKind.wrap .i64 x22) - (1))), (0))) else (
some ((IntKind.wrap .i64 x22), (0)))) else (
some ((IntKind.wrap .i64 x22), (0)))))
abbrev ρ66 := (TP × Int)
def g66 (n : Nat) (a0 : TP) (a1 : TP) (a2 : Int) (a3 : Int) : Option ρ66 :=
bif (decide (a3 ≤ (0))) then (
some ((⟨(0), (0)⟩ : TP), (10))) else (
bif (decide (a3 > (200000))) then (
some ((⟨(0), (0)⟩ : TP), (4))) else (
bif (decide (a2 < (0))) then (
some ((⟨(0), (0)⟩ : TP), (4))) else (
bif (decide (a2 > a3)) then (
some ((⟨(0), (0)⟩ : TP), (4))) else (
(g31 n a0).bind fun x16 =>
bif (x16 != (0)) then (
(g31 n a0).bind fun x17 =>
some ((⟨(0), (0)⟩ : TP), x17)) else (
(g31 n a1).bind fun x18 =>
bif (x18 != (0)) then (
(g31 n a1).bind fun x19 =>
some ((⟨(0), (0)⟩ : TP), x19)) else (
(g67 n (IntKind.wrap .i64 ((IntKind.wrap .i64 (a1.X - a0.X)) * a2)) a3).bind fun x24 =>
(g67 n (IntKind.wrap .i64 ((IntKind.wrap .i64 (a1.Y - a0.Y)) * a2)) a3).bind fun x25 =>
some ((⟨(IntKind.wrap .i64 (a0.X + x24.1)), (IntKind.wrap .i64 (a0.Y + x25.1))⟩ : TP), (0))))))))
abbrev ρ68 := (Int × Int)
def g68 (n : Nat) (a0 : Int) (a1 : Int) : Option ρ68 :=
(g67 n a0 a1).bind fun x28 =>
bif (x28.2 == (0)) then (
(modO a0 a1).bind fun x29 =>
bif (x29 != (0)) then (
some ((IntKind.wrap .i64 (x28.1 + (1))), x28.2)) else (
some (x28.1, x28.2))) else (
some (x28.1, x28.2))
abbrev ρ43 := (TTubeNode)
def g43 (n : Nat) (a0 : List TTubeNode) (a1 : Int) : Option ρ43 :=
(g64 n a0 a1).bind fun x12 =>
bif x12.2 then (
(getI a0 x12.1).bind fun x13 =>
some (x13)) else (
(getI a0 (IntKind.wrap .i64 (x12.1 - (1)))).bind fun x14 =>
(getI a0 x12.1).bind fun x15 =>
(g66 n (⟨x14.Node_At_X, x14.Node_At_Y⟩ : TP) (⟨x15.Node_At_X, x15.Node_At_Y⟩ : TP) (IntKind.wrap .i64 (a1 - x14.Node_Time)) (IntKind.wrap .i64 (x15.Node_Time - x14.Node_Time))).bind fun x26 =>
(g67 n (IntKind.wrap .i64 ((IntKind.wrap .i64 (x15.Node_Height - x14.Node_Height)) * (IntKind.wrap .i64 (a1 - x14.Node_Time)))) (IntKind.wrap .i64 (x15.Node_Time - x14.Node_Time))).bind fun x27 =>
(g68 n (IntKind.wrap .i64 ((IntKind.wrap .i64 (x15.Radius - x14.Radius)) * (IntKind.wrap .i64 (a1 - x14.Node_Time)))) (IntKind.wrap .i64 (x15.Node_Time - x14.Node_Time))).bind fun x30 =>
(g68 n (IntKind.wrap .i64 ((IntKind.wrap .i64 (x15.Band - x14.Band)) * (IntKind.wrap .i64 (a1 - x14.Node_Time)))) (IntKind.wrap .i64 (x15.Node_Time - x14.Node_Time))).bind fun x31 =>
some (⟨a1, x26.1.X, x26.1.Y, (IntKind.wrap .i64 (x14.Node_Height + x27.1)), (IntKind.wrap .i64 (x14.Radius + x30.1)), (IntKind.wrap .i64 (x14.Band + x31.1))⟩ : TTubeNode))
abbrev ρ20 := (TTubeNode × Int)
def g20 (n : Nat) (a0 : List TTubeNode) (a1 : Int) : Option ρ20 :=
(g28 n a0).bind fun x6 =>
bif (x6 != (0)) then (
some ((⟨(0), (0), (0), (0), (0), (0)⟩ : TTubeNode), x6)) else (
(g42 n a0).bind fun x7 =>
bif (decide (a1 < x7.1)) then (
some ((⟨(0), (0), (0), (0), (0), (0)⟩ : TTubeNode), (12))) else (
bif (decide (a1 > x7.2)) then (
some ((⟨(0), (0), (0), (0), (0), (0)⟩ : TTubeNode), (12))) else (
(g43 n a0 a1).bind fun x32 =>
some (x32, (0)))))
abbrev ρ72 := (TP)
def g72 (n : Nat) (a0 : List TP) (a1 : Int) : Option ρ72 :=
(modO (IntKind.wrap .i64 (a1 + (1))) (a0.length : Int)).bind fun x36 =>
(getI a0 x36).bind fun x37 =>
some (x37)
abbrev ρ83 := (TP)
def g83 (n : Nat) (a0 : TP) (a1 : TP) : Option ρ83 :=
some (⟨(IntKind.wrap .i64 (a0.X - a1.X)), (IntKind.wrap .i64 (a0.Y - a1.Y))⟩ : TP)
abbrev ρ74 := (Int)
def g74 (n : Nat) (a0 : TP) (a1 : TP) : Option ρ74 :=
some (IntKind.wrap .i64 ((IntKind.wrap .i64 (a0.X * a1.Y)) - (IntKind.wrap .i64 (a0.Y * a1.X))))
abbrev ρ71 := (Int)
def g71 (n : Nat) (a0 : TP) (a1 : TP) (a2 : TP) : Option ρ71 :=
(g83 n a1 a0).bind fun x39 =>
(g83 n a2 a0).bind fun x40 =>
(g74 n x39 x40).bind fun x41 =>
bif (decide (x41 > (0))) then (
some (1)) else (
bif (decide (x41 < (0))) then (
some (-1)) else (
some (0)))
abbrev ρ101 := (Bool)
def g101 (n : Nat) (a0 : TP) (a1 : TP) (a2 : TP) : Option ρ101 :=
bif (decide ((if a1.X < a0.X then a1.X else a0.X) ≤ a2.X)) then (
bif (decide (a2.X ≤ (if a1.X > a0.X then a1.X else a0.X))) then (
bif (decide ((if a1.Y < a0.Y then a1.Y else a0.Y) ≤ a2.Y)) then (
some (decide (a2.Y ≤ (if a1.Y > a0.Y then a1.Y else a0.Y)))) else (
some (false))) else (
some (false))) else (
some (false))
abbrev ρ84 := (Bool)
def g84 (n : Nat) (a0 : TP) (a1 : TP) (a2 : TP) : Option ρ84 :=
(g71 n a0 a1 a2).bind fun x42 =>
bif (x42 == (0)) then (
(g101 n a0 a1 a2).bind fun x43 =>
some (x43)) else (
some (false))
abbrev ρ76 := (Int)
def S76_0 (n : Nat) (a0 : List TP) (c4 : Int) (c11 : Int) (k0_0 : Int) (k0_1 : Int) (v5 : Int) (v12 : Int) : Option ((Int × Int) ⊕ ρ76) :=
bif (decide (v12 < c11)) then (
(getI a0 v12).bind fun x35 =>
(g72 n a0 v12).bind fun x38 =>
(g84 n x35 x38 (⟨k0_0, k0_1⟩ : TP)).bind fun x44 =>
bif x44 then (
some (.inr (0))) else (
bif (!((decide (x35.Y > k0_1)) == (decide (x38.Y > k0_1)))) then (
(g71 n x35 x38 (⟨k0_0, k0_1⟩ : TP)).bind fun x45 =>
bif (decide (x38.Y > x35.Y)) then (
bif (decide (x45 > (0))) then (
some (.inl ((IntKind.wrap .i64 (0 - v5)), (IntKind.wrap .i64 (v12 + (1)))))) else (
bif (decide (x38.Y < x35.Y)) then (
bif (decide (x45 < (0))) then (
some (.inl ((IntKind.wrap .i64 (0 - v5)), (IntKind.wrap .i64 (v12 + (1)))))) else (
some (.inl (v5, (IntKind.wrap .i64 (v12 + (1))))))) else (
some (.inl (v5, (IntKind.wrap .i64 (v12 + (1)))))))) else (
bif (decide (x38.Y < x35.Y)) then (
bif (decide (x45 < (0))) then (
some (.inl ((IntKind.wrap .i64 (0 - v5)), (IntKind.wrap .i64 (v12 + (1)))))) else (
some (.inl (v5, (IntKind.wrap .i64 (v12 + (1))))))) else (
some (.inl (v5, (IntKind.wrap .i64 (v12 + (1)))))))) else (
some (.inl (v5, (IntKind.wrap .i64 (v12 + (1)))))))) else (
some (.inr (v5)))
def g76 (n : Nat) (a0 : List TP) (a1 : TP) : Option ρ76 :=
iterO (fun y : Int × Int => S76_0 n a0 (0) (a0.length : Int) a1.X a1.Y y.1 y.2) n ((-1), (0))
abbrev ρ58 := (Bool)
def g58 (n : Nat) (a0 : TVolume) (a1 : TP) (a2 : Int) : Option ρ58 :=
bif (decide (a2 ≥ a0.Low)) then (
bif (decide (a2 < a0.High)) then (
(g76 n a0.Area a1).bind fun x46 =>
some (decide (x46 ≥ (0)))) else (
some (false))) else (
some (false))
abbrev ρ57 := (Bool)
def g57 (n : Nat) (a0 : TVolume) (a1_0 : Int) (a1_1 : Int) (a2_0 : Int) : Option ρ57 :=
(g58 n a0 (⟨a1_0, a1_1⟩ : TP) a2_0).bind fun x47 =>
some (x47)
abbrev ρ75 := (Int)
def S75_0 (n : Nat) (a0 : List TVolume) (a1_0_0 : Int) (a1_0_1 : Int) (a1_1_0 : Int) (c4 : Int) (c7 : Int) (v8 : Int) : Option ((Int) ⊕ ρ75) :=
bif (decide (v8 < c7)) then (
(getI a0 v8).bind fun x34 =>
(g57 n x34 a1_0_0 a1_0_1 a1_1_0).bind fun x48 =>
bif x48 then (
some (.inr (v8))) else (
some (.inl (IntKind.wrap .i64 (v8 + (1)))))) else (
some (.inr (-1)))
def g75 (n : Nat) (a0 : List TVolume) (a1_0_0 : Int) (a1_0_1 : Int) (a1_1_0 : Int) : Option ρ75 :=
iterO (fun y : Int => S75_0 n a0 a1_0_0 a1_0_1 a1_1_0 (0) (a0.length : Int) y) n (0)
abbrev ρ56 := (Bool)
def g56 (n : Nat) (a0 : List TVolume) (a1_0_0 : Int) (a1_0_1 : Int) (a1_1_0 : Int) : Option ρ56 :=
(g75 n a0 a1_0_0 a1_0_1 a1_1_0).bind fun x49 =>
some (decide (x49 ≥ (0)))
abbrev ρ55 := (Bool)
def g55 (n : Nat) (a0 : TSector) (a1_0 : Int) (a1_1 : Int) (a2_0 : Int) : Option ρ55 :=
(g56 n a0.Room a1_0 a1_1 a2_0).bind fun x50 =>
some (x50)
abbrev ρ54 := (Int)
def S54_0 (n : Nat) (a0 : List TSector) (a1_0_0 : Int) (a1_0_1 : Int) (a1_1_0 : Int) (c4 : Int) (c7 : Int) (v8 : Int) : Option ((Int) ⊕ ρ54) :=
bif (decide (v8 < c7)) then (
(getI a0 v8).bind fun x33 =>
(g55 n x33 a1_0_0 a1_0_1 a1_1_0).bind fun x51 =>
bif x51 then (
some (.inr (v8))) else (
some (.inl (IntKind.wrap .i64 (v8 + (1)))))) else (
some (.inr (-1)))
def g54 (n : Nat) (a0 : List TSector) (a1_0_0 : Int) (a1_0_1 : Int) (a1_1_0 : Int) : Option ρ54 :=
iterO (fun y : Int => S54_0 n a0 a1_0_0 a1_0_1 a1_1_0 (0) (a0.length : Int) y) n (0)
abbrev ρ32 := (Int)
def g32 (n : Nat) (a0 : List TSector) (a1 : TP) (a2 : Int) : Option ρ32 :=
(g54 n a0 a1.X a1.Y a2).bind fun x52 =>
some (x52)
abbrev ρ50 := (Bool)
def S50_0 (n : Nat) (c2 : Bool) (c14 : List UInt8) (c15 : Int) (v16 : Int) : Option ((Int) ⊕ ρ50) :=
bif (decide (v16 < c15)) then (
(getI c14 v16).bind fun x55 =>
bif (decide ((x55.toNat : Int) ≥ (65))) then (
bif (decide ((x55.toNat : Int) ≤ (90))) then (
some (.inl (IntKind.wrap .i64 (v16 + (1))))) else (
bif (decide (v16 > (0))) then (
bif (decide ((x55.toNat : Int) ≥ (48))) then (
bif (!(decide ((x55.toNat : Int) ≤ (57)))) then (
some (.inr (false))) else (
some (.inl (IntKind.wrap .i64 (v16 + (1)))))) else (
some (.inr (false)))) else (
some (.inr (false))))) else (
bif (decide (v16 > (0))) then (
bif (decide ((x55.toNat : Int) ≥ (48))) then (
bif (!(decide ((x55.toNat : Int) ≤ (57)))) then (
some (.inr (false))) else (
some (.inl (IntKind.wrap .i64 (v16 + (1)))))) else (
some (.inr (false)))) else (
some (.inr (false))))) else (
some (.inr (true)))
def g50 (n : Nat) (a0 : ByteArray) : Option ρ50 :=
bif (decide ((a0.size : Int) < (1))) then (
some (false)) else (
bif (decide ((a0.size : Int) > (8))) then (
some (false)) else (
(roomO a0.size 1).bind fun x54 =>
iterO (fun y : Int => S50_0 n false (a0.data.toList) ((a0.data.toList).length : Int) y) n (0)))
abbrev ρ26 := (Bool)
def g26 (n : Nat) (a0 : ByteArray) : Option ρ26 :=
(g50 n a0).bind fun x56 =>
some (x56)
abbrev ρ80 := (Bool)
def g80 (n : Nat) (a0 : TP) (a1 : TP) (a2 : TP) (a3 : TP) : Option ρ80 :=
(g71 n a0 a1 a2).bind fun x71 =>
(g71 n a0 a1 a3).bind fun x72 =>
bif (decide ((IntKind.wrap .i64 (x71 * x72)) < (0))) then (
(g71 n a2 a3 a0).bind fun x73 =>
(g71 n a2 a3 a1).bind fun x74 =>
some (decide ((IntKind.wrap .i64 (x73 * x74)) < (0)))) else (
some (false))
abbrev ρ73 := (Bool)
def g73 (n : Nat) (a0 : TP) (a1 : TP) (a2 : TP) (a3 : TP) : Option ρ73 :=
(g80 n a0 a1 a2 a3).bind fun x75 =>
bif x75 then (
some (true)) else (
(g84 n a0 a1 a2).bind fun x76 =>
bif x76 then (
some (true)) else (
(g84 n a0 a1 a3).bind fun x77 =>
bif x77 then (
some (true)) else (
(g84 n a2 a3 a0).bind fun x78 =>
bif x78 then (
some (true)) else (
(g84 n a2 a3 a1).bind fun x79 =>
some (x79)))))
abbrev ρ53 := (Int)
def S53_0 (n : Nat) (a0 : List TP) (c2 : Int) (c6 : Int) (v3 : Int) (v7 : Int) : Option ((Int × Int) ⊕ ρ53) :=
bif (decide (v7 < c6)) then (
(getI a0 v7).bind fun x81 =>
(g72 n a0 v7).bind fun x82 =>
(g74 n x81 x82).bind fun x83 =>
some (.inl ((IntKind.wrap .i64 (v3 + x83)), (IntKind.wrap .i64 (v7 + (1)))))) else (
some (.inr (v3)))
def g53 (n : Nat) (a0 : List TP) : Option ρ53 :=
iterO (fun y : Int × Int => S53_0 n a0 (0) (a0.length : Int) y.1 y.2) n ((0), (0))
abbrev ρ52 := (Int)
def S52_1_0 (n : Nat) (a0 : List TP) (c2 : Int) (c3 : Int) (v31 : Int) (c30 : Int) (w8 : Int) : Option ((Int) ⊕ ((Int) ⊕ ρ52)) :=
bif (decide (w8 < c3)) then (
(modO (IntKind.wrap .i64 (w8 + (1))) c3).bind fun x66 =>
bif (x66 != v31) then (
(getI a0 v31).bind fun x67 =>
(g72 n a0 v31).bind fun x68 =>
(getI a0 w8).bind fun x69 =>
(g72 n a0 w8).bind fun x70 =>
(g73 n x67 x68 x69 x70).bind fun x80 =>
bif x80 then (
some (.inr (.inr (3)))) else (
some (.inl (IntKind.wrap .i64 (w8 + (1)))))) else (
some (.inl (IntKind.wrap .i64 (w8 + (1)))))) else (
some (.inr (.inl (IntKind.wrap .i64 (v31 + (1))))))
def S52_1 (n : Nat) (a0 : List TP) (c2 : Int) (c3 : Int) (c30 : Int) (v31 : Int) : Option ((Int) ⊕ ρ52) :=
bif (decide (v31 < c30)) then (
(getI a0 v31).bind fun x61 =>
(g72 n a0 v31).bind fun x62 =>
(modO (IntKind.wrap .i64 (v31 + (2))) c3).bind fun x63 =>
(getI a0 x63).bind fun x64 =>
(g71 n x61 x62 x64).bind fun x65 =>
bif (x65 == (0)) then (
some (.inr (3))) else (
iterO (fun y : Int => S52_1_0 n a0 c2 c3 v31 c30 y) n (IntKind.wrap .i64 (v31 + (2))))) else (
(g53 n a0).bind fun x84 =>
bif (decide (x84 ≤ (0))) then (
some (.inr (3))) else (
some (.inr (0))))
def S52_0 (n : Nat) (a0 : List TP) (c2 : Int) (c3 : Int) (v19 : Int) : Option ((Int) ⊕ ρ52) :=
bif (decide (v19 < c3)) then (
(getI a0 v19).bind fun x59 =>
(g31 n x59).bind fun x60 =>
bif (x60 != (0)) then (
some (.inr (x60))) else (
some (.inl (IntKind.wrap .i64 (v19 + (1)))))) else (
((iterO (fun y : Int => S52_1 n a0 c2 c3 (a0.length : Int) y) n (0)).map Sum.inr))
def g52 (n : Nat) (a0 : List TP) : Option ρ52 :=
bif (decide ((a0.length : Int) > (16))) then (
some (2)) else (
bif (decide ((a0.length : Int) < (3))) then (
some (3)) else (
iterO (fun y : Int => S52_0 n a0 (0) (a0.length : Int) y) n (0)))
abbrev ρ46 := (Int)
def g46 (n : Nat) (a0 : TVolume) : Option ρ46 :=
(g52 n a0.Area).bind fun x85 =>
bif (x85 != (0)) then (
some (x85)) else (
bif (decide (a0.Low < (0))) then (
some (4)) else (
bif (decide (a0.High > (60001))) then (
some (4)) else (
bif (decide (a0.Low ≥ a0.High)) then (
some (4)) else (
some (0)))))
abbrev ρ48 := (Bool)
def g48 (n : Nat) (a0 : TSector) (a1_0 : ByteArray) (a1_1 : List TVolume) : Option ρ48 :=
some ((a0.Name).toList == (a1_0).toList)
def S54_0_x1 (n : Nat) (a0 : List TSector) (a1_0_0 : ByteArray) (a1_0_1 : List TVolume) (c4 : Int) (c7 : Int) (v8 : Int) : Option ((Int) ⊕ ρ54) :=
bif (decide (v8 < c7)) then (
(getI a0 v8).bind fun x88 =>
(g48 n x88 a1_0_0 a1_0_1).bind fun x89 =>
bif x89 then (
some (.inr (v8))) else (
some (.inl (IntKind.wrap .i64 (v8 + (1)))))) else (
some (.inr (-1)))
def g54_1 (n : Nat) (a0 : List TSector) (a1_0_0 : ByteArray) (a1_0_1 : List TVolume) : Option ρ54 :=
iterO (fun y : Int => S54_0_x1 n a0 a1_0_0 a1_0_1 (0) (a0.length : Int) y) n (0)
abbrev ρ47 := (Bool)
def g47 (n : Nat) (a0 : List TSector) (a1_0_0 : ByteArray) (a1_0_1 : List TVolume) : Option ρ47 :=
(g54_1 n a0 a1_0_0 a1_0_1).bind fun x90 =>
some (decide (x90 ≥ (0)))
abbrev ρ81 := ((List TP))
def S81_0 (n : Nat) (a0 : List TP) (c7 : Int) (v8 : Int) (L90000 : List TP) : Option ((Int × List TP) ⊕ ρ81) :=
bif (decide (v8 < c7)) then (
(getI a0 v8).bind fun x106 =>
(roomO (L90000.length + ([(⟨(IntKind.wrap .i64 ((2) * x106.X)), (IntKind.wrap .i64 ((2) * x106.Y))⟩ : TP)] : List TP).length) 16).bind fun x108 =>
some (.inl ((IntKind.wrap .i64 (v8 + (1))), (L90000 ++ ([(⟨(IntKind.wrap .i64 ((2) * x106.X)), (IntKind.wrap .i64 ((2) * x106.Y))⟩ : TP)] : List TP))))) else (
some (.inr (L90000)))
def g81 (n : Nat) (a0 : List TP) : Option ρ81 :=
iterO (fun y : Int × List TP => S81_0 n a0 (a0.length : Int) y.1 y.2) n ((0), [])
abbrev ρ100 := (Int)
def g100 (n : Nat) (a0 : TP) (a1 : TP) : Option ρ100 :=
some (IntKind.wrap .i64 ((IntKind.wrap .i64 (a0.X * a1.X)) + (IntKind.wrap .i64 (a0.Y * a1.Y))))
abbrev ρ99 := (Int)
def g99 (n : Nat) (a0 : TP) (a1 : TP) : Option ρ99 :=
(g83 n a0 a1).bind fun x117 =>
(g100 n x117 x117).bind fun x118 =>
some (x118)
abbrev ρ98 := (Int)
def g98 (n : Nat) (a0 : TP) (a1 : TP) (a2_0 : Int) (a2_1 : Int) : Option ρ98 :=
(g99 n (⟨a2_0, a2_1⟩ : TP) a0).bind fun x119 =>
(g99 n (⟨a2_0, a2_1⟩ : TP) a1).bind fun x120 =>
some (IntKind.wrap .i64 (x119 - x120))
abbrev ρ82 := (Bool)
def S82_0_1_0 (n : Nat) (a0 : List TP) (a1 : List TP) (c4 : Bool) (w11 : Int) (c17 : Int) (v18 : Int) (c100 : Int) (k100010_0 : Int) (k100010_1 : Int) (k100011_0 : Int) (k100011_1 : Int) (k300041_0 : Int) (k300041_1 : Int) (u101 : Int) (L90000 : List TP) : Option ((Int × List TP) ⊕ ((Int × List TP) ⊕ ((Int) ⊕ ρ82))) :=
bif (decide (u101 < c100)) then (
(getI a1 u101).bind fun x129 =>
(g72 n a1 u101).bind fun x130 =>
(g84 n x129 x130 (⟨k300041_0, k300041_1⟩ : TP)).bind fun x131 =>
bif x131 then (
(g83 n (⟨k100011_0, k100011_1⟩ : TP) (⟨k100010_0, k100010_1⟩ : TP)).bind fun x132 =>
(g83 n x130 x129).bind fun x133 =>
(g100 n x132 x133).bind fun x134 =>
bif (decide (x134 > (0))) then (
some (.inr (.inr (.inr (true))))) else (
some (.inl ((IntKind.wrap .i64 (u101 + (1))), L90000)))) else (
some (.inl ((IntKind.wrap .i64 (u101 + (1))), L90000)))) else (
some (.inr (.inl ((IntKind.wrap .i64 (w11 + (1))), L90000))))
def S82_0_1 (n : Nat) (a0 : List TP) (a1 : List TP) (c4 : Bool) (c17 : Int) (v18 : Int) (k100010_0 : Int) (k100010_1 : Int) (k100011_0 : Int) (k100011_1 : Int) (w11 : Int) (L90000 : List TP) : Option ((Int × List TP) ⊕ ((Int) ⊕ ρ82)) :=
bif (decide (w11 < (L90000.length : Int))) then (
(getI L90000 w11).bind fun x122 =>
(getI L90000 (IntKind.wrap .i64 (w11 - (1)))).bind fun x123 =>
bif (decide (x122 = x123)) then (
some (.inl ((IntKind.wrap .i64 (w11 + (1))), L90000))) else (
(getI L90000 w11).bind fun x124 =>
(getI L90000 (IntKind.wrap .i64 (w11 - (1)))).bind fun x125 =>
(getI L90000 w11).bind fun x126 =>
(getI L90000 (IntKind.wrap .i64 (w11 - (1)))).bind fun x127 =>
(g76 n a1 (⟨(IntKind.wrap .i64 (Int.tdiv (IntKind.wrap .i64 (x124.X + x125.X)) (2))), (IntKind.wrap .i64 (Int.tdiv (IntKind.wrap .i64 (x126.Y + x127.Y)) (2)))⟩ : TP)).bind fun x128 =>
bif (x128 == (1)) then (
some (.inr (.inr (true)))) else (
bif (x128 == (0)) then (
iterO (fun y : Int × List TP => S82_0_1_0 n a0 a1 c4 w11 c17 v18 (a1.length : Int) k100010_0 k100010_1 k100011_0 k100011_1 (IntKind.wrap .i64 (Int.tdiv (IntKind.wrap .i64 (x124.X + x125.X)) (2))) (IntKind.wrap .i64 (Int.tdiv (IntKind.wrap .i64 (x126.Y + x127.Y)) (2))) y.1 y.2) n ((0), L90000)) else (
some (.inl ((IntKind.wrap .i64 (w11 + (1))), L90000)))))) else (
some (.inr (.inl (IntKind.wrap .i64 (v18 + (1))))))
def S82_0_0 (n : Nat) (a0 : List TP) (a1 : List TP) (c4 : Bool) (c17 : Int) (v18 : Int) (c32 : Int) (k100010_0 : Int) (k100010_1 : Int) (k100011_0 : Int) (k100011_1 : Int) (w33 : Int) (L90000 : List TP) : Option ((Int × List TP) ⊕ ((Int) ⊕ ρ82)) :=
bif (decide (w33 < c32)) then (
(getI a1 w33).bind fun x113 =>
(g84 n (⟨k100010_0, k100010_1⟩ : TP) (⟨k100011_0, k100011_1⟩ : TP) x113).bind fun x114 =>
bif x114 then (
(roomO (L90000.length + ([x113] : List TP).length) 16).bind fun x116 =>
some (.inl ((IntKind.wrap .i64 (w33 + (1))), (L90000 ++ ([x113] : List TP))))) else (
some (.inl ((IntKind.wrap .i64 (w33 + (1))), L90000)))) else (
(sortO (fun x y => g98 n x y k100010_0 k100010_1) L90000).bind fun x121 =>
((iterO (fun y : Int × List TP => S82_0_1 n a0 a1 c4 c17 v18 k100010_0 k100010_1 k100011_0 k100011_1 y.1 y.2) n ((1), x121)).map Sum.inr))
def S82_0 (n : Nat) (a0 : List TP) (a1 : List TP) (c4 : Bool) (c17 : Int) (v18 : Int) : Option ((Int) ⊕ ρ82) :=
bif (decide (v18 < c17)) then (
(getI a0 v18).bind fun x111 =>
(g72 n a0 v18).bind fun x112 =>
iterO (fun y : Int × List TP => S82_0_0 n a0 a1 c4 c17 v18 (a1.length : Int) x111.X x111.Y x112.X x112.Y y.1 y.2) n ((0), ([x111, x112] : List TP))) else (
some (.inr (false)))
def g82 (n : Nat) (a0 : List TP) (a1 : List TP) : Option ρ82 :=
iterO (fun y : Int => S82_0 n a0 a1 false (a0.length : Int) y) n (0)
abbrev ρ69 := (Bool × Int)
def S69_1_0 (n : Nat) (a0 : List TP) (a1 : List TP) (c4 : Bool) (c5 : Int) (v27 : Int) (c26 : Int) (c31 : Int) (w32 : Int) : Option ((Int) ⊕ ((Int) ⊕ ρ69)) :=
bif (decide (w32 < c31)) then (
(getI a0 v27).bind fun x101 =>
(g72 n a0 v27).bind fun x102 =>
(getI a1 w32).bind fun x103 =>
(g72 n a1 w32).bind fun x104 =>
(g80 n x101 x102 x103 x104).bind fun x105 =>
bif x105 then (
some (.inr (.inr (true, (0))))) else (
some (.inl (IntKind.wrap .i64 (w32 + (1)))))) else (
some (.inr (.inl (IntKind.wrap .i64 (v27 + (1))))))
def S69_1 (n : Nat) (a0 : List TP) (a1 : List TP) (c4 : Bool) (c5 : Int) (c26 : Int) (v27 : Int) : Option ((Int) ⊕ ρ69) :=
bif (decide (v27 < c26)) then (
iterO (fun y : Int => S69_1_0 n a0 a1 c4 c5 v27 c26 (a1.length : Int) y) n (0)) else (
(g81 n a0).bind fun x109 =>
(g81 n a1).bind fun x110 =>
(g82 n x109 x110).bind fun x135 =>
bif x135 then (
some (.inr (true, (0)))) else (
(g82 n x110 x109).bind fun x136 =>
some (.inr (x136, (0)))))
def S69_0 (n : Nat) (a0 : List TP) (a1 : List TP) (c4 : Bool) (c5 : Int) (c13 : List (List TP)) (c14 : Int) (v15 : Int) : Option ((Int) ⊕ ρ69) :=
bif (decide (v15 < c14)) then (
(getI c13 v15).bind fun x99 =>
(g52 n x99).bind fun x100 =>
bif (x100 != (0)) then (
some (.inr (false, x100))) else (
some (.inl (IntKind.wrap .i64 (v15 + (1)))))) else (
((iterO (fun y : Int => S69_1 n a0 a1 c4 c5 (a0.length : Int) y) n (0)).map Sum.inr))
def g69 (n : Nat) (a0 : List TP) (a1 : List TP) : Option ρ69 :=
iterO (fun y : Int => S69_0 n a0 a1 false (0) ([a0, a1] : List (List TP)) (([a0, a1] : List (List TP)).length : Int) y) n (0)
abbrev ρ49 := (Bool × Int)
def S49_0 (n : Nat) (c4 : Bool) (c5 : Int) (c13 : List TVolume) (c14 : Int) (k0_0 : List TP) (k0_1 : Int) (k0_2 : Int) (k1_0 : List TP) (k1_1 : Int) (k1_2 : Int) (v15 : Int) : Option ((Int) ⊕ ρ49) :=
bif (decide (v15 < c14)) then (
(getI c13 v15).bind fun x97 =>
(g46 n x97).bind fun x98 =>
bif (x98 != (0)) then (
some (.inr (false, x98))) else (
some (.inl (IntKind.wrap .i64 (v15 + (1)))))) else (
(g69 n k0_0 k1_0).bind fun x137 =>
bif (x137.2 == (0)) then (
bif x137.1 then (
some (.inr ((decide ((if k1_1 > k0_1 then k1_1 else k0_1) < (if k1_2 < k0_2 then k1_2 else k0_2))), x137.2))) else (
some (.inr (false, x137.2)))) else (
some (.inr (false, x137.2))))
def g49 (n : Nat) (a0 : TVolume) (a1 : TVolume) : Option ρ49 :=
iterO (fun y : Int => S49_0 n false (0) ([a0, a1] : List TVolume) (([a0, a1] : List TVolume).length : Int) a0.Area a0.Low a0.High a1.Area a1.Low a1.High y) n (0)
abbrev ρ24 := (Int)
def S24_0_0 (n : Nat) (a0 : List TSector) (c2 : Int) (v20 : Int) (c19 : Int) (c41 : List TVolume) (c42 : Int) (k100004_0 : ByteArray) (w43 : Int) (L90000 : List TVolume) : Option ((Int × List TVolume) ⊕ ((Int × List TVolume) ⊕ ρ24)) :=
bif (decide (w43 < c42)) then (
(getI c41 w43).bind fun x58 =>
(g46 n x58).bind fun x86 =>
bif (x86 != (0)) then (
some (.inr (.inr (x86)))) else (
some (.inl ((IntKind.wrap .i64 (w43 + (1))), L90000)))) else (
(sliceO a0 none (some v20)).bind fun x87 =>
(g47 n x87 k100004_0 c41).bind fun x91 =>
bif x91 then (
some (.inr (.inr (7)))) else (
(neO c41).bind fun x92 =>
(roomO (L90000.length + c41.length) 40).bind fun x93 =>
some (.inr (.inl ((IntKind.wrap .i64 (v20 + (1))), (L90000 ++ c41))))))
def S24_1_0 (n : Nat) (c2 : Int) (L90000 : List TVolume) (c64 : Int) (v65 : Int) (x95 : List TVolume) (c73 : Int) (k200004_0 : List TP) (k200004_1 : Int) (k200004_2 : Int) (w74 : Int) : Option ((Int) ⊕ ((Int) ⊕ ρ24)) :=
bif (decide (w74 < c73)) then (
(getI x95 w74).bind fun x96 =>
(g49 n (⟨k200004_0, k200004_1, k200004_2⟩ : TVolume) x96).bind fun x138 =>
bif x138.1 then (
some (.inr (.inr (19)))) else (
some (.inl (IntKind.wrap .i64 (w74 + (1)))))) else (
some (.inr (.inl (IntKind.wrap .i64 (v65 + (1))))))
def S24_1 (n : Nat) (c2 : Int) (L90000 : List TVolume) (c64 : Int) (v65 : Int) : Option ((Int) ⊕ ρ24) :=
bif (decide (v65 < c64)) then (
(getI L90000 v65).bind fun x94 =>
(sliceO L90000 none (some v65)).bind fun x95 =>
iterO (fun y : Int => S24_1_0 n c2 L90000 c64 v65 x95 (x95.length : Int) x94.Area x94.Low x94.High y) n (0)) else (
some (.inr (0)))
def S24_0 (n : Nat) (a0 : List TSector) (c2 : Int) (c19 : Int) (v20 : Int) (L90000 : List TVolume) : Option ((Int × List TVolume) ⊕ ρ24) :=
bif (decide (v20 < c19)) then (
(getI a0 v20).bind fun x53 =>
(g26 n x53.Name).bind fun x57 =>
bif (!x57) then (
some (.inr (3))) else (
bif ((x53.Room.length : Int) == (0)) then (
some (.inr (8))) else (
bif (decide ((x53.Room.length : Int) > (4))) then (
some (.inr (2))) else (
iterO (fun y : Int × List TVolume => S24_0_0 n a0 c2 v20 c19 x53.Room (x53.Room.length : Int) x53.Name y.1 y.2) n ((0), L90000))))) else (
((iterO (fun y : Int => S24_1 n c2 L90000 (L90000.length : Int) y) n (0)).map Sum.inr))
def g24 (n : Nat) (a0 : List TSector) : Option ρ24 :=
bif (decide ((a0.length : Int) > (12))) then (
some (2)) else (
iterO (fun y : Int × List TVolume => S24_0 n a0 (0) (a0.length : Int) y.1 y.2) n ((0), []))
def visAdd (L : List TSectorVisit) (i u : Int) : List TSectorVisit := match L.getLast? with
  | some v => bif v.Sector == i then L.dropLast ++ [⟨v.Sector, v.From, u⟩] else L ++ [⟨i, u, u⟩]
  | none => [⟨i, u, u⟩]
def visGo (n : Nat) (l : List TSector) (t : List TTubeNode) : Nat → Int → List TSectorVisit → Option (List TSectorVisit)
  | 0, _, L => some L
  | k + 1, u, L => (g43 n t u).bind fun x => (g32 n l (⟨x.Node_At_X, x.Node_At_Y⟩ : TP) x.Node_Height).bind fun i => visGo n l t k (u + 1) (visAdd L i x.Node_Time)
abbrev ρ29 := List TSectorVisit
def g29 (n : Nat) (l : List TSector) (t : List TTubeNode) : Option (List TSectorVisit) :=
  (g28 n t).bind fun z => bif z != 0 then none else
  (g42 n t).bind fun q => if 0 ≤ q.1 ∧ q.1 ≤ q.2 ∧ q.2 ≤ 1000000 ∧ t.length ≤ 64 then visGo n l t (q.2 - q.1 + 1).toNat q.1 [] else none

abbrev ρ11 := ((List TSectorVisit) × Int)
def g11 (n : Nat) (a0 : List TSector) (a1 : List TTubeNode) : Option ρ11 :=
(g24 n a0).bind fun x139 =>
bif (x139 != (0)) then (
some ([], x139)) else (
(g28 n a1).bind fun x140 =>
bif (x140 != (0)) then (
some ([], x140)) else (
(getI a1 (IntKind.wrap .i64 ((a1.length : Int) - (1)))).bind fun x141 =>
(getI a1 (0)).bind fun x142 =>
bif (decide ((IntKind.wrap .i64 (x141.Node_Time - x142.Node_Time)) > (20000))) then (
some ([], (2))) else (
(g29 n a0 a1).bind fun x143 =>
some (x143, (0)))))
abbrev ρ40 := (Int)
def S40_0 (n : Nat) (c4 : Int) (a1 : List (List TTubeNode)) (c18 : Int) (v19 : Int) : Option ((Int) ⊕ ρ40) :=
bif (decide (v19 < c18)) then (
(getI a1 v19).bind fun x146 =>
(g28 n x146).bind fun x147 =>
bif (x147 != (0)) then (
some (.inr (x147))) else (
some (.inl (IntKind.wrap .i64 (v19 + (1)))))) else (
some (.inr (0)))
def g40 (n : Nat) (a0 : List TSector) (a1 : List (List TTubeNode)) : Option ρ40 :=
(g24 n a0).bind fun x145 =>
bif (x145 != (0)) then (
some (x145)) else (
bif (decide ((a1.length : Int) > (24))) then (
some (2)) else (
iterO (fun y : Int => S40_0 n (0) a1 (a1.length : Int) y) n (0)))
abbrev ρ41 := ((List Int) × Int)
def S41_0 (n : Nat) (a0 : List TSector) (a2 : Int) (c7 : Int) (a1 : List (List TTubeNode)) (c19 : Int) (v9 : Int) (v20 : Int) (L90000 : List Int) : Option ((Int × Int × List Int) ⊕ ρ41) :=
bif (decide (v20 < c19)) then (
(getI a1 v20).bind fun x150 =>
(g20 n x150 a2).bind fun x151 =>
bif (x151.2 != (0)) then (
some (.inl (v9, (IntKind.wrap .i64 (v20 + (1))), L90000))) else (
(g32 n a0 (⟨x151.1.Node_At_X, x151.1.Node_At_Y⟩ : TP) x151.1.Node_Height).bind fun x152 =>
bif (decide (x152 ≥ (0))) then (
(getI L90000 x152).bind fun x153 =>
(getI L90000 x152).bind fun x154 =>
some (.inl (v9, (IntKind.wrap .i64 (v20 + (1))), (L90000.set ((x152 : Int).toNat) (IntKind.wrap .i64 (x153 + (1))))))) else (
some (.inl ((IntKind.wrap .i64 (v9 + (1))), (IntKind.wrap .i64 (v20 + (1))), L90000))))) else (
some (.inr (L90000, v9)))
def g41 (n : Nat) (a0 : List TSector) (a1 : List (List TTubeNode)) (a2 : Int) : Option ρ41 :=
(makeO (a0.length : Int) 8).bind fun x149 =>
iterO (fun y : Int × Int × List Int => S41_0 n a0 a2 (0) a1 (a1.length : Int) y.1 y.2.1 y.2.2) n ((0), (0), (List.replicate x149 (0)))
abbrev ρ19 := ((List Int) × Int × Int)
def g19 (n : Nat) (a0 : List TSector) (a1 : List (List TTubeNode)) (a2 : Int) : Option ρ19 :=
(g40 n a0 a1).bind fun x148 =>
bif (x148 != (0)) then (
some ([], (0), x148)) else (
bif (decide (a2 < (0))) then (
some ([], (0), (12))) else (
bif (decide (a2 > (200000))) then (
some ([], (0), (12))) else (
(g41 n a0 a1 a2).bind fun x155 =>
some (x155.1, x155.2, (0)))))
abbrev ρ18 := Bool
def g18 (n : Nat) : Option ρ18 := some true

abbrev ρ8 := (Bool)
def S8_0 (n : Nat) (c8 : Bool) (c9 : List Int) (c12 : List Int) (c15 : List Int) (c85 : Int) (v86 : Int) : Option ((Int) ⊕ ρ8) :=
bif (decide (v86 < c85)) then (
(getI c9 v86).bind fun x168 =>
(getI c12 v86).bind fun x169 =>
(getI c15 v86).bind fun x170 =>
bif ((IntKind.wrap .i64 (x168 + x169)) != x170) then (
some (.inr (false))) else (
some (.inl (IntKind.wrap .i64 (v86 + (1)))))) else (
some (.inr (true)))
def g8 (n : Nat) (a0 : List TSector) (a1 : List (List TTubeNode)) (a2 : List (List TTubeNode)) (a3 : Int) : Option ρ8 :=
(g18 n).bind fun x144 =>
bif (!x144) then (
some (false)) else (
(g19 n a0 a1 a3).bind fun x162 =>
(g19 n a0 a2 a3).bind fun x163 =>
(catO 24 ([a1, a2] : List (List (List TTubeNode)))).bind fun x164 =>
(g19 n a0 x164 a3).bind fun x165 =>
bif (x162.2.2 != (0)) then (
some (true)) else (
bif (x163.2.2 != (0)) then (
some (true)) else (
bif (x165.2.2 != (0)) then (
some (true)) else (
bif ((IntKind.wrap .i64 (x162.2.1 + x163.2.1)) != x165.2.1) then (
some (false)) else (
bif ((x162.1.length : Int) != (a0.length : Int)) then (
some (false)) else (
bif ((x163.1.length : Int) != (a0.length : Int)) then (
some (false)) else (
bif ((x165.1.length : Int) != (a0.length : Int)) then (
some (false)) else (
iterO (fun y : Int => S8_0 n false x162.1 x163.1 x165.1 (x165.1.length : Int) y) n (0)))))))))
end Go.Proofs.Ytldiackagnjlgaa
