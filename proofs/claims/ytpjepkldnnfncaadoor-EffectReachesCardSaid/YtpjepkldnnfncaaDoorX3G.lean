/- Plain functional programs out of the program's functions; printed by wip/Ext.lean.txt. -/
import Derived.Test.YtpjepkldnnfncaaDoorX3T
import Derived.Test.YtpjepkldnnfncaaDoorPJ
set_option linter.unusedVariables false
set_option linter.unusedSimpArgs false
set_option maxRecDepth 100000
set_option maxHeartbeats 4000000
namespace Go.Proofs.YtpjepkldnnfncaaDoor
abbrev ρ21 := ((List TTubeNode))
def g21 (n : Nat) : Option ρ21 :=
some ([(⟨(0), (0), (0), (9000), (100), (50)⟩ : TTubeNode), (⟨(100), (10000), (0), (9000), (100), (50)⟩ : TTubeNode)] : List TTubeNode)
abbrev ρ22 := (TClearance)
def g22 (n : Nat) (a0 : Int) : Option ρ22 :=
some (⟨(⟨#[65, 49]⟩ : ByteArray), (0), a0, (⟨#[]⟩ : ByteArray)⟩ : TClearance)
abbrev ρ23 := (TKind)
def g23 (n : Nat) : Option ρ23 :=
some (⟨(⟨#[74, 69, 84]⟩ : ByteArray), (1), (40000), (50), (40), (50), (300)⟩ : TKind)
abbrev ρ30 := (Int)
def g30 (n : Nat) (a0 : TP) : Option ρ30 :=
bif (decide (a0.X < (-1000000))) then (
some (4)) else (
bif (decide (a0.X > (1000000))) then (
some (4)) else (
bif (decide (a0.Y < (-1000000))) then (
some (4)) else (
bif (decide (a0.Y > (1000000))) then (
some (4)) else (
some (0)))))
abbrev ρ12 := (Int)
def S12_0 (n : Nat) (a0 : List TTubeNode) (c2 : Int) (c15 : Int) (v16 : Int) : Option ((Int) ⊕ ρ12) :=
bif (decide (v16 < c15)) then (
(getI a0 v16).bind fun x4 =>
bif (decide (x4.Node_Time < (0))) then (
some (.inr (12))) else (
bif (decide (x4.Node_Time > (200000))) then (
some (.inr (12))) else (
bif (decide (v16 > (0))) then (
(getI a0 (IntKind.wrap .i64 (v16 - (1)))).bind fun x5 =>
bif (decide (x4.Node_Time ≤ x5.Node_Time)) then (
some (.inr (12))) else (
(g30 n (⟨x4.Node_At_X, x4.Node_At_Y⟩ : TP)).bind fun x6 =>
bif (x6 != (0)) then (
some (.inr (x6))) else (
bif (decide (x4.Node_Height < (0))) then (
some (.inr (4))) else (
bif (decide (x4.Node_Height > (60000))) then (
some (.inr (4))) else (
bif (decide (x4.Radius < (0))) then (
some (.inr (4))) else (
bif (decide (x4.Radius > (1000000))) then (
some (.inr (4))) else (
bif (decide (x4.Band < (0))) then (
some (.inr (4))) else (
bif (decide (x4.Band > (60000))) then (
some (.inr (4))) else (
some (.inl (IntKind.wrap .i64 (v16 + (1))))))))))))) else (
(g30 n (⟨x4.Node_At_X, x4.Node_At_Y⟩ : TP)).bind fun x7 =>
bif (x7 != (0)) then (
some (.inr (x7))) else (
bif (decide (x4.Node_Height < (0))) then (
some (.inr (4))) else (
bif (decide (x4.Node_Height > (60000))) then (
some (.inr (4))) else (
bif (decide (x4.Radius < (0))) then (
some (.inr (4))) else (
bif (decide (x4.Radius > (1000000))) then (
some (.inr (4))) else (
bif (decide (x4.Band < (0))) then (
some (.inr (4))) else (
bif (decide (x4.Band > (60000))) then (
some (.inr (4))) else (
some (.inl (IntKind.wrap .i64 (v16 + (1))))))))))))))) else (
some (.inr (0)))
def g12 (n : Nat) (a0 : List TTubeNode) : Option ρ12 :=
bif (decide ((a0.length : Int) > (64))) then (
some (2)) else (
bif ((a0.length : Int) == (0)) then (
some (3)) else (
iterO (fun y : Int => S12_0 n a0 (0) (a0.length : Int) y) n (0)))
abbrev ρ24 := (Int)
def g24 (n : Nat) (a0_0 : List TTubeNode) : Option ρ24 :=
(g12 n a0_0).bind fun x8 =>
some (x8)
abbrev ρ41 := (Bool)
def S41_0 (n : Nat) (c2 : Bool) (c14 : List UInt8) (c15 : Int) (v16 : Int) : Option ((Int) ⊕ ρ41) :=
bif (decide (v16 < c15)) then (
(getI c14 v16).bind fun x12 =>
bif (decide ((x12.toNat : Int) ≥ (65))) then (
bif (decide ((x12.toNat : Int) ≤ (90))) then (
some (.inl (IntKind.wrap .i64 (v16 + (1))))) else (
bif (decide (v16 > (0))) then (
bif (decide ((x12.toNat : Int) ≥ (48))) then (
bif (!(decide ((x12.toNat : Int) ≤ (57)))) then (
some (.inr (false))) else (
some (.inl (IntKind.wrap .i64 (v16 + (1)))))) else (
some (.inr (false)))) else (
some (.inr (false))))) else (
bif (decide (v16 > (0))) then (
bif (decide ((x12.toNat : Int) ≥ (48))) then (
bif (!(decide ((x12.toNat : Int) ≤ (57)))) then (
some (.inr (false))) else (
some (.inl (IntKind.wrap .i64 (v16 + (1)))))) else (
some (.inr (false)))) else (
some (.inr (false))))) else (
some (.inr (true)))
def g41 (n : Nat) (a0 : ByteArray) : Option ρ41 :=
bif (decide ((a0.size : Int) < (1))) then (
some (false)) else (
bif (decide ((a0.size : Int) > (8))) then (
some (false)) else (
(roomO a0.size 1).bind fun x11 =>
iterO (fun y : Int => S41_0 n false (a0.data.toList) ((a0.data.toList).length : Int) y) n (0)))
abbrev ρ59 := (Int)
def S59_0 (n : Nat) (a0 : List ByteArray) (a1 : ByteArray) (c4 : Int) (c7 : Int) (v8 : Int) : Option ((Int) ⊕ ρ59) :=
bif (decide (v8 < c7)) then (
(getI a0 v8).bind fun x14 =>
bif ((a1).toList == (x14).toList) then (
some (.inr (v8))) else (
some (.inl (IntKind.wrap .i64 (v8 + (1)))))) else (
some (.inr (-1)))
def g59 (n : Nat) (a0 : List ByteArray) (a1 : ByteArray) : Option ρ59 :=
iterO (fun y : Int => S59_0 n a0 a1 (0) (a0.length : Int) y) n (0)
abbrev ρ52 := (Int)
def g52 (n : Nat) (a0 : ByteArray) : Option ρ52 :=
(g59 n ([(⟨#[72, 69, 73, 71, 72, 84]⟩ : ByteArray), (⟨#[72, 69, 65, 68, 73, 78, 71]⟩ : ByteArray), (⟨#[83, 80, 69, 69, 68]⟩ : ByteArray), (⟨#[68, 73, 82, 69, 67, 84]⟩ : ByteArray), (⟨#[72, 79, 76, 68]⟩ : ByteArray), (⟨#[67, 79, 78, 84, 65, 67, 84]⟩ : ByteArray), (⟨#[76, 65, 78, 68]⟩ : ByteArray)] : List ByteArray) a0).bind fun x15 =>
some (x15)
abbrev ρ39 := (Bool)
def g39 (n : Nat) (a0 : ByteArray) : Option ρ39 :=
(g41 n a0).bind fun x13 =>
bif x13 then (
(g52 n a0).bind fun x16 =>
some (decide (x16 < (0)))) else (
some (false))
abbrev ρ26 := (Int)
def g26 (n : Nat) (a0 : TClearance) : Option ρ26 :=
(g39 n a0.Call).bind fun x17 =>
bif (!x17) then (
some (3)) else (
bif (decide (a0.Kind < (0))) then (
some (1)) else (
bif (decide (a0.Kind > (6))) then (
some (1)) else (
bif (decide (a0.Kind > (2))) then (
bif (a0.Value != (0)) then (
some (3)) else (
(g39 n a0.Fix).bind fun x18 =>
bif (!x18) then (
some (3)) else (
some (0)))) else (
bif (!((a0.Fix).toList == ((⟨#[]⟩ : ByteArray)).toList)) then (
some (3)) else (
bif (decide (a0.Value < (0))) then (
some (4)) else (
(getI ([(60000), (4095), (400)] : List Int) a0.Kind).bind fun x19 =>
bif (decide (a0.Value > x19)) then (
some (4)) else (
some (0))))))))
abbrev ρ25 := (Int)
def g25 (n : Nat) (a0_0 : ByteArray) (a0_1 : Int) (a0_2 : Int) (a0_3 : ByteArray) : Option ρ25 :=
(g26 n (⟨a0_0, a0_1, a0_2, a0_3⟩ : TClearance)).bind fun x20 =>
some (x20)
abbrev ρ40 := (Bool)
def g40 (n : Nat) (a0 : Int) (a1 : Int) : Option ρ40 :=
bif (decide (a0 < (1))) then (
some (true)) else (
some (decide (a0 > a1)))
abbrev ρ28 := (Int)
def g28 (n : Nat) (a0 : TKind) : Option ρ28 :=
(g41 n a0.Name).bind fun x23 =>
bif (!x23) then (
some (5)) else (
bif (decide (a0.Wake < (0))) then (
some (1)) else (
bif (decide (a0.Wake > (3))) then (
some (1)) else (
(g40 n a0.Ceiling (60000)).bind fun x24 =>
bif x24 then (
some (4)) else (
(g40 n a0.Climb (200)).bind fun x25 =>
bif x25 then (
some (4)) else (
(g40 n a0.Descent (200)).bind fun x26 =>
bif x26 then (
some (4)) else (
(g40 n a0.Slow (400)).bind fun x27 =>
bif x27 then (
some (4)) else (
(g40 n a0.Fast (400)).bind fun x28 =>
bif x28 then (
some (4)) else (
bif (decide (a0.Slow > a0.Fast)) then (
some (3)) else (
some (0))))))))))
abbrev ρ27 := (Int)
def g27 (n : Nat) (a0_0 : ByteArray) (a0_1 : Int) (a0_2 : Int) (a0_3 : Int) (a0_4 : Int) (a0_5 : Int) (a0_6 : Int) : Option ρ27 :=
(g28 n (⟨a0_0, a0_1, a0_2, a0_3, a0_4, a0_5, a0_6⟩ : TKind)).bind fun x29 =>
some (x29)
abbrev ρ29 := (Int)
def g29 (n : Nat) (a0_0 : Int) (a0_1 : Int) : Option ρ29 :=
(g30 n (⟨a0_0, a0_1⟩ : TP)).bind fun x32 =>
some (x32)
abbrev ρ34 := (Int × Int)
def g34 (n : Nat) (a0 : List TTubeNode) : Option ρ34 :=
(getI a0 (0)).bind fun x35 =>
(getI a0 (IntKind.wrap .i64 ((a0.length : Int) - (1)))).bind fun x36 =>
some (x35.Node_Time, x36.Node_Time)
abbrev ρ48 := (Int)
def g48 (n : Nat) (a0 : TTubeNode) (a1 : Int) : Option ρ48 :=
some (IntKind.wrap .i64 (a0.Node_Time - a1))
abbrev ρ47 := (Int × Bool)
def S47_0 (n : Nat) (a0 : List TTubeNode) (a1 : Int) (c6 : Int) (c7 : Bool) (c8 : Int) (v9 : Int) (v10 : Int) : Option ((Int × Int) ⊕ ρ47) :=
bif (decide (v9 < v10)) then (
(getI a0 (IntKind.wrap .i64 (Int.fdiv (IntKind.wrap .u64 (IntKind.wrap .i64 (v9 + v10))) 2))).bind fun x38 =>
(g48 n x38 a1).bind fun x39 =>
bif (decide (x39 < (0))) then (
some (.inl ((IntKind.wrap .i64 ((IntKind.wrap .i64 (Int.fdiv (IntKind.wrap .u64 (IntKind.wrap .i64 (v9 + v10))) 2)) + (1))), v10))) else (
some (.inl (v9, (IntKind.wrap .i64 (Int.fdiv (IntKind.wrap .u64 (IntKind.wrap .i64 (v9 + v10))) 2)))))) else (
bif (decide (v9 < c8)) then (
(getI a0 v9).bind fun x40 =>
(g48 n x40 a1).bind fun x41 =>
some (.inr (v9, (x41 == (0))))) else (
some (.inr (v9, false))))
def g47 (n : Nat) (a0 : List TTubeNode) (a1 : Int) : Option ρ47 :=
iterO (fun y : Int × Int => S47_0 n a0 a1 (0) false (a0.length : Int) y.1 y.2) n ((0), (a0.length : Int))
abbrev ρ50 := (Int × Int)
def g50 (n : Nat) (a0 : Int) (a1 : Int) : Option ρ50 :=
bif (a1 == (0)) then (
some ((0), (10))) else (
bif (a0 == (-9223372036854775808)) then (
bif (a1 == (-1)) then (
some ((0), (2))) else (
(divO a0 a1).bind fun x50 =>
(modO a0 a1).bind fun x51 =>
bif (x51 != (0)) then (
bif (!((decide (a0 < (0))) == (decide (a1 < (0))))) then (
some ((IntKind.wrap .i64 ((IntKind.wrap .i64 x50) - (1))), (0))) else (
some ((IntKind.wrap .i64 x50), (0)))) else (
some ((IntKind.wrap .i64 x50), (0))))) else (
(divO a0 a1).bind fun x52 =>
(modO a0 a1).bind fun x53 =>
bif (x53 != (0)) then (
bif (!((decide (a0 < (0))) == (decide (a1 < (0))))) then (
some ((IntKind.wrap .i64 ((IntKind.wrap .i64 x52) - (1))), (0))) else (
some ((IntKind.wrap .i64 x52), (0)))) else (
some ((IntKind.wrap .i64 x52), (0)))))
abbrev ρ49 := (TP × Int)
def g49 (n : Nat) (a0 : TP) (a1 : TP) (a2 : Int) (a3 : Int) : Option ρ49 :=
bif (decide (a3 ≤ (0))) then (
some ((⟨(0), (0)⟩ : TP), (10))) else (
bif (decide (a3 > (200000))) then (
some ((⟨(0), (0)⟩ : TP), (4))) else (
bif (decide (a2 < (0))) then (
some ((⟨(0), (0)⟩ : TP), (4))) else (
bif (decide (a2 > a3)) then (
some ((⟨(0), (0)⟩ : TP), (4))) else (
(g30 n a0).bind fun x46 =>
bif (x46 != (0)) then (
(g30 n a0).bind fun x47 =>
some ((⟨(0), (0)⟩ : TP), x47)) else (
(g30 n a1).bind fun x48 =>
bif (x48 != (0)) then (
(g30 n a1).bind fun x49 =>
some ((⟨(0), (0)⟩ : TP), x49)) else (
(g50 n (IntKind.wrap .i64 ((IntKind.wrap .i64 (a1.X - a0.X)) * a2)) a3).bind fun x54 =>
(g50 n (IntKind.wrap .i64 ((IntKind.wrap .i64 (a1.Y - a0.Y)) * a2)) a3).bind fun x55 =>
some ((⟨(IntKind.wrap .i64 (a0.X + x54.1)), (IntKind.wrap .i64 (a0.Y + x55.1))⟩ : TP), (0))))))))
abbrev ρ36 := (Int × Int)
def g36 (n : Nat) (a0 : Int) (a1 : Int) : Option ρ36 :=
(g50 n a0 a1).bind fun x58 =>
bif (x58.2 == (0)) then (
(modO a0 a1).bind fun x59 =>
bif (x59 != (0)) then (
some ((IntKind.wrap .i64 (x58.1 + (1))), x58.2)) else (
some (x58.1, x58.2))) else (
some (x58.1, x58.2))
abbrev ρ35 := (TTubeNode)
def g35 (n : Nat) (a0 : List TTubeNode) (a1 : Int) : Option ρ35 :=
(g47 n a0 a1).bind fun x42 =>
bif x42.2 then (
(getI a0 x42.1).bind fun x43 =>
some (x43)) else (
(getI a0 (IntKind.wrap .i64 (x42.1 - (1)))).bind fun x44 =>
(getI a0 x42.1).bind fun x45 =>
(g49 n (⟨x44.Node_At_X, x44.Node_At_Y⟩ : TP) (⟨x45.Node_At_X, x45.Node_At_Y⟩ : TP) (IntKind.wrap .i64 (a1 - x44.Node_Time)) (IntKind.wrap .i64 (x45.Node_Time - x44.Node_Time))).bind fun x56 =>
(g50 n (IntKind.wrap .i64 ((IntKind.wrap .i64 (x45.Node_Height - x44.Node_Height)) * (IntKind.wrap .i64 (a1 - x44.Node_Time)))) (IntKind.wrap .i64 (x45.Node_Time - x44.Node_Time))).bind fun x57 =>
(g36 n (IntKind.wrap .i64 ((IntKind.wrap .i64 (x45.Radius - x44.Radius)) * (IntKind.wrap .i64 (a1 - x44.Node_Time)))) (IntKind.wrap .i64 (x45.Node_Time - x44.Node_Time))).bind fun x60 =>
(g36 n (IntKind.wrap .i64 ((IntKind.wrap .i64 (x45.Band - x44.Band)) * (IntKind.wrap .i64 (a1 - x44.Node_Time)))) (IntKind.wrap .i64 (x45.Node_Time - x44.Node_Time))).bind fun x61 =>
some (⟨a1, x56.1.X, x56.1.Y, (IntKind.wrap .i64 (x44.Node_Height + x57.1)), (IntKind.wrap .i64 (x44.Radius + x60.1)), (IntKind.wrap .i64 (x44.Band + x61.1))⟩ : TTubeNode))
abbrev ρ13 := (TTubeNode × Int)
def g13 (n : Nat) (a0 : List TTubeNode) (a1 : Int) : Option ρ13 :=
(g12 n a0).bind fun x34 =>
bif (x34 != (0)) then (
some ((⟨(0), (0), (0), (0), (0), (0)⟩ : TTubeNode), x34)) else (
(g34 n a0).bind fun x37 =>
bif (decide (a1 < x37.1)) then (
some ((⟨(0), (0), (0), (0), (0), (0)⟩ : TTubeNode), (12))) else (
bif (decide (a1 > x37.2)) then (
some ((⟨(0), (0), (0), (0), (0), (0)⟩ : TTubeNode), (12))) else (
(g35 n a0 a1).bind fun x62 =>
some (x62, (0)))))
abbrev ρ15 := (Int × Int)
def g15 (n : Nat) (a0 : TKind) (a1 : Int) (a2 : Int) : Option ρ15 :=
(g28 n a0).bind fun x71 =>
bif (x71 != (0)) then (
some ((0), x71)) else (
bif (decide (a1 < (0))) then (
some ((0), (4))) else (
bif (decide (a1 > (60000))) then (
some ((0), (4))) else (
bif (decide (a2 < (0))) then (
some ((0), (4))) else (
bif (decide (a2 > (60000))) then (
some ((0), (4))) else (
bif (decide (a1 > a0.Ceiling)) then (
some ((0), (20))) else (
bif (decide (a2 > a0.Ceiling)) then (
some ((0), (20))) else (
bif (decide (a2 ≥ a1)) then (
(g36 n (IntKind.wrap .i64 (a2 - a1)) a0.Climb).bind fun x72 =>
some (x72.1, x72.2)) else (
(g36 n (IntKind.wrap .i64 (a1 - a2)) a0.Descent).bind fun x73 =>
some (x73.1, x73.2)))))))))
abbrev ρ54 := (Bool)
def g54 (n : Nat) (a0 : TTubeNode) (a1_0 : Int) : Option ρ54 :=
some (decide (a0.Node_Time ≥ a1_0))
abbrev ρ53 := (Int)
def S53_0 (n : Nat) (a0 : List TTubeNode) (a1_0_0 : Int) (c4 : Int) (c7 : Int) (v8 : Int) : Option ((Int) ⊕ ρ53) :=
bif (decide (v8 < c7)) then (
(getI a0 v8).bind fun x77 =>
(g54 n x77 a1_0_0).bind fun x78 =>
bif x78 then (
some (.inr (v8))) else (
some (.inl (IntKind.wrap .i64 (v8 + (1)))))) else (
some (.inr (-1)))
def g53 (n : Nat) (a0 : List TTubeNode) (a1_0_0 : Int) : Option ρ53 :=
iterO (fun y : Int => S53_0 n a0 a1_0_0 (0) (a0.length : Int) y) n (0)
abbrev ρ42 := ((List TTubeNode) × Int)
def S42_0 (n : Nat) (c3 : Int) (c4 : Int) (c84 : Int) (k0_0 : ByteArray) (k0_1 : Int) (k0_2 : Int) (k0_3 : ByteArray) (k0_4 : List TTubeNode) (k0_5 : List TTubeNode) (k0_6 : Int) (k0_7 : Int) (k0_8 : Int) (k0_9 : Int) (k0_10 : Int) (k0_11 : Int) (k0_12 : ByteArray) (k0_13 : Int) (k0_14 : Int) (k0_15 : Int) (k0_16 : Int) (k0_17 : Int) (k0_18 : Int) (k0_19 : Int) (k0_20 : Int) (k0_21 : List TTubeNode) (k89_0 : Int) (v85 : Int) (L90000 : List TTubeNode) : Option ((Int × List TTubeNode) ⊕ ρ42) :=
bif (decide (v85 < c84)) then (
(getI L90000 v85).bind fun x83 =>
bif (decide (x83.Node_Time ≥ k89_0)) then (
some (.inl ((IntKind.wrap .i64 (v85 + (1))), (L90000.set ((v85 : Int).toNat) (⟨x83.Node_Time, x83.Node_At_X, x83.Node_At_Y, k0_2, x83.Radius, x83.Band⟩ : TTubeNode))))) else (
(g50 n (IntKind.wrap .i64 ((IntKind.wrap .i64 (k0_2 - k0_9)) * (IntKind.wrap .i64 (x83.Node_Time - k0_6)))) c4).bind fun x84 =>
some (.inl ((IntKind.wrap .i64 (v85 + (1))), (L90000.set ((v85 : Int).toNat) (⟨x83.Node_Time, x83.Node_At_X, x83.Node_At_Y, (IntKind.wrap .i64 (k0_9 + x84.1)), x83.Radius, x83.Band⟩ : TTubeNode)))))) else (
some (.inr (L90000, (0))))
def g42 (n : Nat) (a0 : Ttask) : Option ρ42 :=
(g15 n (⟨a0.kind_Name, a0.kind_Wake, a0.kind_Ceiling, a0.kind_Climb, a0.kind_Descent, a0.kind_Slow, a0.kind_Fast⟩ : TKind) a0.now_Node_Height a0.Clearance_Value).bind fun x74 =>
bif (x74.2 != (0)) then (
some ([], x74.2)) else (
(roomO a0.later.length 48).bind fun x75 =>
bif (decide (x74.1 > (0))) then (
bif (decide ((a0.later.length : Int) > (0))) then (
(getI a0.later (IntKind.wrap .i64 ((a0.later.length : Int) - (1)))).bind fun x76 =>
bif (decide ((IntKind.wrap .i64 (a0.now_Node_Time + x74.1)) < x76.Node_Time)) then (
(g53 n a0.later (IntKind.wrap .i64 (a0.now_Node_Time + x74.1))).bind fun x79 =>
(getI a0.later x79).bind fun x80 =>
bif (x80.Node_Time != (IntKind.wrap .i64 (a0.now_Node_Time + x74.1))) then (
(g13 n a0.whole (IntKind.wrap .i64 (a0.now_Node_Time + x74.1))).bind fun x81 =>
(insO 48 a0.later x79 ([x81.1] : List TTubeNode)).bind fun x82 =>
iterO (fun y : Int × List TTubeNode => S42_0 n (0) x74.1 (x82.length : Int) a0.Clearance_Call a0.Clearance_Kind a0.Clearance_Value a0.Clearance_Fix a0.before a0.later a0.now_Node_Time a0.now_Node_At_X a0.now_Node_At_Y a0.now_Node_Height a0.now_Radius a0.now_Band a0.kind_Name a0.kind_Wake a0.kind_Ceiling a0.kind_Climb a0.kind_Descent a0.kind_Slow a0.kind_Fast a0.fix_X a0.fix_Y a0.whole (IntKind.wrap .i64 (a0.now_Node_Time + x74.1)) y.1 y.2) n ((0), x82)) else (
iterO (fun y : Int × List TTubeNode => S42_0 n (0) x74.1 (a0.later.length : Int) a0.Clearance_Call a0.Clearance_Kind a0.Clearance_Value a0.Clearance_Fix a0.before a0.later a0.now_Node_Time a0.now_Node_At_X a0.now_Node_At_Y a0.now_Node_Height a0.now_Radius a0.now_Band a0.kind_Name a0.kind_Wake a0.kind_Ceiling a0.kind_Climb a0.kind_Descent a0.kind_Slow a0.kind_Fast a0.fix_X a0.fix_Y a0.whole (IntKind.wrap .i64 (a0.now_Node_Time + x74.1)) y.1 y.2) n ((0), a0.later))) else (
iterO (fun y : Int × List TTubeNode => S42_0 n (0) x74.1 (a0.later.length : Int) a0.Clearance_Call a0.Clearance_Kind a0.Clearance_Value a0.Clearance_Fix a0.before a0.later a0.now_Node_Time a0.now_Node_At_X a0.now_Node_At_Y a0.now_Node_Height a0.now_Radius a0.now_Band a0.kind_Name a0.kind_Wake a0.kind_Ceiling a0.kind_Climb a0.kind_Descent a0.kind_Slow a0.kind_Fast a0.fix_X a0.fix_Y a0.whole (IntKind.wrap .i64 (a0.now_Node_Time + x74.1)) y.1 y.2) n ((0), a0.later))) else (
iterO (fun y : Int × List TTubeNode => S42_0 n (0) x74.1 (a0.later.length : Int) a0.Clearance_Call a0.Clearance_Kind a0.Clearance_Value a0.Clearance_Fix a0.before a0.later a0.now_Node_Time a0.now_Node_At_X a0.now_Node_At_Y a0.now_Node_Height a0.now_Radius a0.now_Band a0.kind_Name a0.kind_Wake a0.kind_Ceiling a0.kind_Climb a0.kind_Descent a0.kind_Slow a0.kind_Fast a0.fix_X a0.fix_Y a0.whole (IntKind.wrap .i64 (a0.now_Node_Time + x74.1)) y.1 y.2) n ((0), a0.later))) else (
iterO (fun y : Int × List TTubeNode => S42_0 n (0) x74.1 (a0.later.length : Int) a0.Clearance_Call a0.Clearance_Kind a0.Clearance_Value a0.Clearance_Fix a0.before a0.later a0.now_Node_Time a0.now_Node_At_X a0.now_Node_At_Y a0.now_Node_Height a0.now_Radius a0.now_Band a0.kind_Name a0.kind_Wake a0.kind_Ceiling a0.kind_Climb a0.kind_Descent a0.kind_Slow a0.kind_Fast a0.fix_X a0.fix_Y a0.whole (IntKind.wrap .i64 (a0.now_Node_Time + x74.1)) y.1 y.2) n ((0), a0.later)))
abbrev ρ43 := ((List TTubeNode) × Int)
def g43 (n : Nat) (a0 : Ttask) : Option ρ43 :=
none
abbrev ρ44 := ((List TTubeNode) × Int)
def g44 (n : Nat) (a0 : Ttask) : Option ρ44 :=
none
abbrev ρ45 := ((List TTubeNode) × Int)
def g45 (n : Nat) (a0 : Ttask) : Option ρ45 :=
none
abbrev ρ31 := ((List TTubeNode) × Bool × Int)
def g31 (n : Nat) (a0 : Ttask) : Option ρ31 :=
bif (a0.Clearance_Kind == (0)) then (
(g42 n a0).bind fun x85 =>
some (x85.1, false, x85.2)) else (
bif ((a0.later.length : Int) == (0)) then (
some ([], true, (0))) else (
bif (a0.Clearance_Kind == (1)) then (
(g43 n a0).bind fun x95 =>
some (x95.1, false, x95.2)) else (
bif (a0.Clearance_Kind == (2)) then (
(g44 n a0).bind fun x96 =>
some (x96.1, false, x96.2)) else (
bif (a0.Clearance_Kind == (3)) then (
(g45 n a0).bind fun x97 =>
some (x97.1, false, x97.2)) else (
some ([], true, (0)))))))
abbrev ρ11 := ((List TTubeNode) × Int)
def S11_1 (n : Nat) (a2 : Int) (c11 : Int) (c16 : Int) (a0 : List TTubeNode) (c55 : Int) (k100070_0 : Int) (k100070_1 : Int) (k100070_2 : Int) (k100070_3 : Int) (k100070_4 : Int) (k100070_5 : Int) (v56 : Int) (L90000 : List TTubeNode) (L90001 : List TTubeNode) (bv100081_0 : ByteArray) (bv100081_1 : Int) (bv100081_2 : Int) (bv100081_3 : ByteArray) (bv100081_6 : Int) (bv100081_7 : Int) (bv100081_8 : Int) (bv100081_9 : Int) (bv100081_10 : Int) (bv100081_11 : Int) (bv100081_12 : ByteArray) (bv100081_13 : Int) (bv100081_14 : Int) (bv100081_15 : Int) (bv100081_16 : Int) (bv100081_17 : Int) (bv100081_18 : Int) (bv100081_19 : Int) (bv100081_20 : Int) (bv100081_21 : List TTubeNode) : Option ((Int × List TTubeNode × List TTubeNode × ByteArray × Int × Int × ByteArray × Int × Int × Int × Int × Int × Int × ByteArray × Int × Int × Int × Int × Int × Int × Int × Int × List TTubeNode) ⊕ ρ11) :=
bif (decide (v56 < c55)) then (
(getI a0 v56).bind fun x64 =>
bif (decide (x64.Node_Time < a2)) then (
(roomO (L90000.length + ([x64] : List TTubeNode).length) 48).bind fun x66 =>
bif (decide (x64.Node_Time > a2)) then (
(roomO (L90001.length + ([x64] : List TTubeNode).length) 48).bind fun x68 =>
some (.inl ((IntKind.wrap .i64 (v56 + (1))), (L90000 ++ ([x64] : List TTubeNode)), (L90001 ++ ([x64] : List TTubeNode)), bv100081_0, bv100081_1, bv100081_2, bv100081_3, bv100081_6, bv100081_7, bv100081_8, bv100081_9, bv100081_10, bv100081_11, bv100081_12, bv100081_13, bv100081_14, bv100081_15, bv100081_16, bv100081_17, bv100081_18, bv100081_19, bv100081_20, bv100081_21))) else (
some (.inl ((IntKind.wrap .i64 (v56 + (1))), (L90000 ++ ([x64] : List TTubeNode)), L90001, bv100081_0, bv100081_1, bv100081_2, bv100081_3, bv100081_6, bv100081_7, bv100081_8, bv100081_9, bv100081_10, bv100081_11, bv100081_12, bv100081_13, bv100081_14, bv100081_15, bv100081_16, bv100081_17, bv100081_18, bv100081_19, bv100081_20, bv100081_21)))) else (
bif (decide (x64.Node_Time > a2)) then (
(roomO (L90001.length + ([x64] : List TTubeNode).length) 48).bind fun x70 =>
some (.inl ((IntKind.wrap .i64 (v56 + (1))), L90000, (L90001 ++ ([x64] : List TTubeNode)), bv100081_0, bv100081_1, bv100081_2, bv100081_3, bv100081_6, bv100081_7, bv100081_8, bv100081_9, bv100081_10, bv100081_11, bv100081_12, bv100081_13, bv100081_14, bv100081_15, bv100081_16, bv100081_17, bv100081_18, bv100081_19, bv100081_20, bv100081_21))) else (
some (.inl ((IntKind.wrap .i64 (v56 + (1))), L90000, L90001, bv100081_0, bv100081_1, bv100081_2, bv100081_3, bv100081_6, bv100081_7, bv100081_8, bv100081_9, bv100081_10, bv100081_11, bv100081_12, bv100081_13, bv100081_14, bv100081_15, bv100081_16, bv100081_17, bv100081_18, bv100081_19, bv100081_20, bv100081_21))))) else (
(g31 n (⟨bv100081_0, bv100081_1, bv100081_2, bv100081_3, L90000, L90001, bv100081_6, bv100081_7, bv100081_8, bv100081_9, bv100081_10, bv100081_11, bv100081_12, bv100081_13, bv100081_14, bv100081_15, bv100081_16, bv100081_17, bv100081_18, bv100081_19, bv100081_20, bv100081_21⟩ : Ttask)).bind fun x98 =>
bif (x98.2.2 != (0)) then (
some (.inr ([], x98.2.2))) else (
bif x98.2.1 then (
(roomO a0.length 48).bind fun x103 =>
some (.inr (a0, (0)))) else (
(catO 48 ([L90000, ([(⟨k100070_0, k100070_1, k100070_2, k100070_3, k100070_4, k100070_5⟩ : TTubeNode)] : List TTubeNode), x98.1] : List (List TTubeNode))).bind fun x104 =>
bif (decide ((x104.length : Int) > (64))) then (
some (.inr ([], (2)))) else (
some (.inr (x104, (0)))))))
def S11_0 (n : Nat) (a2 : Int) (c11 : Int) (c28 : Int) (a0 : List TTubeNode) (k1_0 : ByteArray) (k1_1 : Int) (k1_2 : Int) (k1_3 : ByteArray) (k2_0 : ByteArray) (k2_1 : Int) (k2_2 : Int) (k2_3 : Int) (k2_4 : Int) (k2_5 : Int) (k2_6 : Int) (k3_0 : Int) (k3_1 : Int) (v29 : Int) : Option ((Int) ⊕ ρ11) :=
bif (decide (v29 < c28)) then (
bif (v29 == (0 : Int)) then (
(g24 n a0).bind fun x9 =>
bif (x9 != (0)) then (
some (.inr ([], x9))) else (
some (.inl (IntKind.wrap .i64 (v29 + (1)))))) else (
bif (v29 == (1 : Int)) then (
(g25 n k1_0 k1_1 k1_2 k1_3).bind fun x21 =>
bif (x21 != (0)) then (
some (.inr ([], x21))) else (
some (.inl (IntKind.wrap .i64 (v29 + (1)))))) else (
bif (v29 == (2 : Int)) then (
(g27 n k2_0 k2_1 k2_2 k2_3 k2_4 k2_5 k2_6).bind fun x30 =>
bif (x30 != (0)) then (
some (.inr ([], x30))) else (
some (.inl (IntKind.wrap .i64 (v29 + (1)))))) else (
bif (v29 == (3 : Int)) then (
(g29 n k3_0 k3_1).bind fun x33 =>
bif (x33 != (0)) then (
some (.inr ([], x33))) else (
some (.inl (IntKind.wrap .i64 (v29 + (1)))))) else (
none))))) else (
(g13 n a0 a2).bind fun x63 =>
bif (x63.2 != (0)) then (
some (.inr ([], x63.2))) else (
((iterO (fun y : Int × List TTubeNode × List TTubeNode × ByteArray × Int × Int × ByteArray × Int × Int × Int × Int × Int × Int × ByteArray × Int × Int × Int × Int × Int × Int × Int × Int × List TTubeNode => S11_1 n a2 c11 x63.2 a0 (a0.length : Int) x63.1.Node_Time x63.1.Node_At_X x63.1.Node_At_Y x63.1.Node_Height x63.1.Radius x63.1.Band y.1 y.2.1 y.2.2.1 y.2.2.2.1 y.2.2.2.2.1 y.2.2.2.2.2.1 y.2.2.2.2.2.2.1 y.2.2.2.2.2.2.2.1 y.2.2.2.2.2.2.2.2.1 y.2.2.2.2.2.2.2.2.2.1 y.2.2.2.2.2.2.2.2.2.2.1 y.2.2.2.2.2.2.2.2.2.2.2.1 y.2.2.2.2.2.2.2.2.2.2.2.2.1 y.2.2.2.2.2.2.2.2.2.2.2.2.2.1 y.2.2.2.2.2.2.2.2.2.2.2.2.2.2.1 y.2.2.2.2.2.2.2.2.2.2.2.2.2.2.2.1 y.2.2.2.2.2.2.2.2.2.2.2.2.2.2.2.2.1 y.2.2.2.2.2.2.2.2.2.2.2.2.2.2.2.2.2.1 y.2.2.2.2.2.2.2.2.2.2.2.2.2.2.2.2.2.2.1 y.2.2.2.2.2.2.2.2.2.2.2.2.2.2.2.2.2.2.2.1 y.2.2.2.2.2.2.2.2.2.2.2.2.2.2.2.2.2.2.2.2.1 y.2.2.2.2.2.2.2.2.2.2.2.2.2.2.2.2.2.2.2.2.2.1 y.2.2.2.2.2.2.2.2.2.2.2.2.2.2.2.2.2.2.2.2.2.2) n ((0), [], [], k1_0, k1_1, k1_2, k1_3, x63.1.Node_Time, x63.1.Node_At_X, x63.1.Node_At_Y, x63.1.Node_Height, x63.1.Radius, x63.1.Band, k2_0, k2_1, k2_2, k2_3, k2_4, k2_5, k2_6, k3_0, k3_1, a0)).map Sum.inr)))
def g11 (n : Nat) (a0 : List TTubeNode) (a1 : TClearance) (a2 : Int) (a3 : TKind) (a4 : TP) : Option ρ11 :=
iterO (fun y : Int => S11_0 n a2 (0) (4) a0 a1.Call a1.Kind a1.Value a1.Fix a3.Name a3.Wake a3.Ceiling a3.Climb a3.Descent a3.Slow a3.Fast a4.X a4.Y y) n (0)
abbrev ρ16 := (Int × Int)
def S16_1 (n : Nat) (a0 : List TTubeNode) (a1 : List TTubeNode) (c4 : Int) (c10 : Int) (v11 : Int) : Option ((Int) ⊕ ρ16) :=
bif (decide (v11 ≤ c10)) then (
(g13 n a0 v11).bind fun x113 =>
(g13 n a1 v11).bind fun x114 =>
bif (x113.2 != x114.2) then (
some (.inr (v11, (0)))) else (
bif (!(decide ((⟨x113.1.Node_At_X, x113.1.Node_At_Y⟩ : TP) = (⟨x114.1.Node_At_X, x114.1.Node_At_Y⟩ : TP)))) then (
some (.inr (v11, (0)))) else (
bif (x113.1.Node_Height != x114.1.Node_Height) then (
some (.inr (v11, (0)))) else (
some (.inl (IntKind.wrap .i64 (v11 + (1)))))))) else (
some (.inr ((0), (8))))
def S16_0 (n : Nat) (a0 : List TTubeNode) (a1 : List TTubeNode) (c4 : Int) (c18 : List (List TTubeNode)) (c19 : Int) (v20 : Int) : Option ((Int) ⊕ ρ16) :=
bif (decide (v20 < c19)) then (
(getI c18 v20).bind fun x107 =>
(g12 n x107).bind fun x108 =>
bif (x108 != (0)) then (
some (.inr ((0), x108))) else (
some (.inl (IntKind.wrap .i64 (v20 + (1)))))) else (
(getI a0 (0)).bind fun x109 =>
(getI a1 (0)).bind fun x110 =>
(getI a0 (IntKind.wrap .i64 ((a0.length : Int) - (1)))).bind fun x111 =>
(getI a1 (IntKind.wrap .i64 ((a1.length : Int) - (1)))).bind fun x112 =>
bif (decide ((IntKind.wrap .i64 ((if x112.Node_Time > x111.Node_Time then x112.Node_Time else x111.Node_Time) - (if x110.Node_Time < x109.Node_Time then x110.Node_Time else x109.Node_Time))) > (20000))) then (
some (.inr ((0), (2)))) else (
((iterO (fun y : Int => S16_1 n a0 a1 c4 (if x112.Node_Time > x111.Node_Time then x112.Node_Time else x111.Node_Time) y) n (if x110.Node_Time < x109.Node_Time then x110.Node_Time else x109.Node_Time)).map Sum.inr)))
def g16 (n : Nat) (a0 : List TTubeNode) (a1 : List TTubeNode) : Option ρ16 :=
iterO (fun y : Int => S16_0 n a0 a1 (0) ([a0, a1] : List (List TTubeNode)) (([a0, a1] : List (List TTubeNode)).length : Int) y) n (0)
abbrev ρ9 := (Bool)
def g9 (n : Nat) : Option ρ9 :=
(g21 n).bind fun x0 =>
(g22 n (9500)).bind fun x1 =>
(g23 n).bind fun x2 =>
(g11 n x0 x1 (0) x2 (⟨(0), (0)⟩ : TP)).bind fun x105 =>
(g21 n).bind fun x106 =>
(g16 n x106 x105.1).bind fun x115 =>
bif (x105.2 == (0)) then (
bif (x115.2 == (0)) then (
bif ((x105.1.length : Int) == (3)) then (
(getI x105.1 (1)).bind fun x116 =>
bif (x116.Node_Time == (10)) then (
(getI x105.1 (1)).bind fun x117 =>
bif (x117.Node_Height == (9500)) then (
(getI x105.1 (1)).bind fun x118 =>
bif (x118.Node_At_X == (1000)) then (
(getI x105.1 (2)).bind fun x119 =>
bif (x119.Node_Height == (9500)) then (
(getI x105.1 (1)).bind fun x120 =>
bif (x120.Radius == (100)) then (
some (x115.1 == (1))) else (
some (false))) else (
some (false))) else (
some (false))) else (
some (false))) else (
some (false))) else (
some (false))) else (
some (false))) else (
some (false))
abbrev ρ10 := (Bool)
def S10_0 (n : Nat) (a2 : Int) (c6 : Bool) (a0 : List (List TTubeNode)) (c14 : Int) (v15 : Int) : Option ((Int) ⊕ ρ10) :=
bif (decide (v15 < c14)) then (
(getI a0 v15).bind fun x122 =>
(g12 n x122).bind fun x123 =>
bif (x123 != (0)) then (
some (.inr (false))) else (
(getI x122 (IntKind.wrap .i64 ((x122.length : Int) - (1)))).bind fun x124 =>
(getI x122 (0)).bind fun x125 =>
bif (decide ((IntKind.wrap .i64 (x124.Node_Time - x125.Node_Time)) > a2)) then (
some (.inr (false))) else (
some (.inl (IntKind.wrap .i64 (v15 + (1))))))) else (
some (.inr (true)))
def g10 (n : Nat) (a0 : List (List TTubeNode)) (a1 : Int) (a2 : Int) : Option ρ10 :=
bif (decide ((a0.length : Int) > a1)) then (
some (false)) else (
iterO (fun y : Int => S10_0 n a2 false a0 (a0.length : Int) y) n (0))
abbrev ρ4 := (Bool)
def S4_0 (n : Nat) (a2 : Int) (a3 : Int) (c10 : Bool) (c11 : List TTubeNode) (c14 : Int) (k281_0 : Int) (k281_1 : Int) (k281_2 : Int) (k281_3 : Int) (k281_4 : Int) (k281_5 : Int) (k0_0 : ByteArray) (k0_1 : Int) (k0_2 : Int) (k0_3 : Int) (k0_4 : Int) (k0_5 : Int) (k0_6 : Int) (v15 : Int) : Option ((Int) ⊕ ρ4) :=
(getI c11 (IntKind.wrap .i64 ((c11.length : Int) - (1)))).bind fun x130 =>
bif (decide (v15 ≤ x130.Node_Time)) then (
(g13 n c11 v15).bind fun x131 =>
bif (x131.2 != (0)) then (
some (.inr (false))) else (
bif (decide (x131.1.Node_Height < (if a2 < k281_3 then a2 else k281_3))) then (
some (.inr (false))) else (
bif (decide (x131.1.Node_Height > (if a2 > k281_3 then a2 else k281_3))) then (
some (.inr (false))) else (
bif (decide (v15 ≥ (IntKind.wrap .i64 (a3 + c14)))) then (
bif (x131.1.Node_Height != a2) then (
some (.inr (false))) else (
bif (decide ((IntKind.wrap .i64 (x131.1.Node_Height - k281_3)) > (IntKind.wrap .i64 (k0_3 * (IntKind.wrap .i64 (v15 - a3)))))) then (
some (.inr (false))) else (
bif (decide ((IntKind.wrap .i64 (0 - (IntKind.wrap .i64 (x131.1.Node_Height - k281_3)))) > (IntKind.wrap .i64 ((IntKind.wrap .i64 (k0_4 * (IntKind.wrap .i64 (v15 - a3)))) + (2))))) then (
some (.inr (false))) else (
some (.inl (IntKind.wrap .i64 (v15 + (1)))))))) else (
bif (decide ((IntKind.wrap .i64 (x131.1.Node_Height - k281_3)) > (IntKind.wrap .i64 (k0_3 * (IntKind.wrap .i64 (v15 - a3)))))) then (
some (.inr (false))) else (
bif (decide ((IntKind.wrap .i64 (0 - (IntKind.wrap .i64 (x131.1.Node_Height - k281_3)))) > (IntKind.wrap .i64 ((IntKind.wrap .i64 (k0_4 * (IntKind.wrap .i64 (v15 - a3)))) + (2))))) then (
some (.inr (false))) else (
some (.inl (IntKind.wrap .i64 (v15 + (1))))))))))) else (
some (.inr (true)))
def g4 (n : Nat) (a0 : List TTubeNode) (a1 : ByteArray) (a2 : Int) (a3 : Int) (a4 : TKind) : Option ρ4 :=
(g9 n).bind fun x121 =>
bif (!x121) then (
some (false)) else (
(g10 n ([a0] : List (List TTubeNode)) (1) (400)).bind fun x126 =>
bif (!x126) then (
some (true)) else (
(g11 n a0 (⟨a1, (0), a2, (⟨#[]⟩ : ByteArray)⟩ : TClearance) a3 a4 (⟨(0), (0)⟩ : TP)).bind fun x127 =>
bif (x127.2 != (0)) then (
some ((x127.1.length : Int) == (0))) else (
(g13 n a0 a3).bind fun x128 =>
bif (x128.2 != (0)) then (
some (false)) else (
(g15 n a4 x128.1.Node_Height a2).bind fun x129 =>
bif (x129.2 != (0)) then (
some (false)) else (
bif ((x127.1.length : Int) == (0)) then (
some (false)) else (
iterO (fun y : Int => S4_0 n a2 a3 false x127.1 x129.1 x128.1.Node_Time x128.1.Node_At_X x128.1.Node_At_Y x128.1.Node_Height x128.1.Radius x128.1.Band a4.Name a4.Wake a4.Ceiling a4.Climb a4.Descent a4.Slow a4.Fast y) n (IntKind.wrap .i64 (a3 + (1)))))))))
end Go.Proofs.YtpjepkldnnfncaaDoor
