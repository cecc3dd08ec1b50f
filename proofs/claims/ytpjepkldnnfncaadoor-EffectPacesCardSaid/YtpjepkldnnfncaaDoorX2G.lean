/- Plain functional programs out of the program's functions; printed by wip/Ext.lean.txt. -/
import Derived.Test.YtpjepkldnnfncaaDoorX2T
import Derived.Test.YtpjepkldnnfncaaDoorPJ
set_option linter.unusedVariables false
set_option linter.unusedSimpArgs false
set_option maxRecDepth 100000
set_option maxHeartbeats 4000000
namespace Go.Proofs.YtpjepkldnnfncaaDoor
abbrev ρ21 := ((List TTubeNode))
def g21 (n : Nat) : Option ρ21 :=
some ([(⟨(0), (0), (0), (9000), (100), (50)⟩ : TTubeNode), (⟨(100), (10000), (0), (9000), (100), (50)⟩ : TTubeNode)] : List TTubeNode)
abbrev ρ22 := (TClearance)
def g22 (n : Nat) (a0 : Int) : Option ρ22 :=
some (⟨(⟨#[65, 49]⟩ : ByteArray), (0), a0, (⟨#[]⟩ : ByteArray)⟩ : TClearance)
abbrev ρ23 := (TKind)
def g23 (n : Nat) : Option ρ23 :=
some (⟨(⟨#[74, 69, 84]⟩ : ByteArray), (1), (40000), (50), (40), (50), (300)⟩ : TKind)
abbrev ρ30 := (Int)
def g30 (n : Nat) (a0 : TP) : Option ρ30 :=
bif (decide (a0.X < (-1000000))) then (
some (4)) else (
bif (decide (a0.X > (1000000))) then (
some (4)) else (
bif (decide (a0.Y < (-1000000))) then (
some (4)) else (
bif (decide (a0.Y > (1000000))) then (
some (4)) else (
some (0)))))
abbrev ρ12 := (Int)
def S12_0 (n : Nat) (a0 : List TTubeNode) (c2 : Int) (c15 : Int) (v16 : Int) : Option ((Int) ⊕ ρ12) :=
bif (decide (v16 < c15)) then (
(getI a0 v16).bind fun x4 =>
bif (decide (x4.Node_Time < (0))) then (
some (.inr (12))) else (
bif (decide (x4.Node_Time > (200000))) then (
some (.inr (12))) else (
bif (decide (v16 > (0))) then (
(getI a0 (IntKind.wrap .i64 (v16 - (1)))).bind fun x5 =>
bif (decide (x4.Node_Time ≤ x5.Node_Time)) then (
some (.inr (12))) else (
(g30 n (⟨x4.Node_At_X, x4.Node_At_Y⟩ : TP)).bind fun x6 =>
bif (x6 != (0)) then (
some (.inr (x6))) else (
bif (decide (x4.Node_Height < (0))) then (
some (.inr (4))) else (
bif (decide (x4.Node_Height > (60000))) then (
some (.inr (4))) else (
bif (decide (x4.Radius < (0))) then (
some (.inr (4))) else (
bif (decide (x4.Radius > (1000000))) then (
some (.inr (4))) else (
bif (decide (x4.Band < (0))) then (
some (.inr (4))) else (
bif (decide (x4.Band > (60000))) then (
some (.inr (4))) else (
some (.inl (IntKind.wrap .i64 (v16 + (1))))))))))))) else (
(g30 n (⟨x4.Node_At_X, x4.Node_At_Y⟩ : TP)).bind fun x7 =>
bif (x7 != (0)) then (
some (.inr (x7))) else (
bif (decide (x4.Node_Height < (0))) then (
some (.inr (4))) else (
bif (decide (x4.Node_Height > (60000))) then (
some (.inr (4))) else (
bif (decide (x4.Radius < (0))) then (
some (.inr (4))) else (
bif (decide (x4.Radius > (1000000))) then (
some (.inr (4))) else (
bif (decide (x4.Band < (0))) then (
some (.inr (4))) else (
bif (decide (x4.Band > (60000))) then (
some (.inr (4))) else (
some (.inl (IntKind.wrap .i64 (v16 + (1))))))))))))))) else (
some (.inr (0)))
def g12 (n : Nat) (a0 : List TTubeNode) : Option ρ12 :=
bif (decide ((a0.length : Int) > (64))) then (
some (2)) else (
bif ((a0.length : Int) == (0)) then (
some (3)) else (
iterO (fun y : Int => S12_0 n a0 (0) (a0.length : Int) y) n (0)))
abbrev ρ24 := (Int)
def g24 (n : Nat) (a0_0 : List TTubeNode) : Option ρ24 :=
(g12 n a0_0).bind fun x8 =>
some (x8)
abbrev ρ41 := (Bool)
def S41_0 (n : Nat) (c2 : Bool) (c14 : List UInt8) (c15 : Int) (v16 : Int) : Option ((Int) ⊕ ρ41) :=
bif (decide (v16 < c15)) then (
(getI c14 v16).bind fun x12 =>
bif (decide ((x12.toNat : Int) ≥ (65))) then (
bif (decide ((x12.toNat : Int) ≤ (90))) then (
some (.inl (IntKind.wrap .i64 (v16 + (1))))) else (
bif (decide (v16 > (0))) then (
bif (decide ((x12.toNat : Int) ≥ (48))) then (
bif (!(decide ((x12.toNat : Int) ≤ (57)))) then (
some (.inr (false))) else (
some (.inl (IntKind.wrap .i64 (v16 + (1)))))) else (
some (.inr (false)))) else (
some (.inr (false))))) else (
bif (decide (v16 > (0))) then (
bif (decide ((x12.toNat : Int) ≥ (48))) then (
bif (!(decide ((x12.toNat : Int) ≤ (57)))) then (
some (.inr (false))) else (
some (.inl (IntKind.wrap .i64 (v16 + (1)))))) else (
some (.inr (false)))) else (
some (.inr (false))))) else (
some (.inr (true)))
def g41 (n : Nat) (a0 : ByteArray) : Option ρ41 :=
bif (decide ((a0.size : Int) < (1))) then (
some (false)) else (
bif (decide ((a0.size : Int) > (8))) then (
some (false)) else (
(roomO a0.size 1).bind fun x11 =>
iterO (fun y : Int => S41_0 n false (a0.data.toList) ((a0.data.toList).length : Int) y) n (0)))
abbrev ρ59 := (Int)
def S59_0 (n : Nat) (a0 : List ByteArray) (a1 : ByteArray) (c4 : Int) (c7 : Int) (v8 : Int) : Option ((Int) ⊕ ρ59) :=
bif (decide (v8 < c7)) then (
(getI a0 v8).bind fun x14 =>
bif ((a1).toList == (x14).toList) then (
some (.inr (v8))) else (
some (.inl (IntKind.wrap .i64 (v8 + (1)))))) else (
some (.inr (-1)))
def g59 (n : Nat) (a0 : List ByteArray) (a1 : ByteArray) : Option ρ59 :=
iterO (fun y : Int => S59_0 n a0 a1 (0) (a0.length : Int) y) n (0)
abbrev ρ52 := (Int)
def g52 (n : Nat) (a0 : ByteArray) : Option ρ52 :=
(g59 n ([(⟨#[72, 69, 73, 71, 72, 84]⟩ : ByteArray), (⟨#[72, 69, 65, 68, 73, 78, 71]⟩ : ByteArray), (⟨#[83, 80, 69, 69, 68]⟩ : ByteArray), (⟨#[68, 73, 82, 69, 67, 84]⟩ : ByteArray), (⟨#[72, 79, 76, 68]⟩ : ByteArray), (⟨#[67, 79, 78, 84, 65, 67, 84]⟩ : ByteArray), (⟨#[76, 65, 78, 68]⟩ : ByteArray)] : List ByteArray) a0).bind fun x15 =>
some (x15)
abbrev ρ39 := (Bool)
def g39 (n : Nat) (a0 : ByteArray) : Option ρ39 :=
(g41 n a0).bind fun x13 =>
bif x13 then (
(g52 n a0).bind fun x16 =>
some (decide (x16 < (0)))) else (
some (false))
abbrev ρ26 := (Int)
def g26 (n : Nat) (a0 : TClearance) : Option ρ26 :=
(g39 n a0.Call).bind fun x17 =>
bif (!x17) then (
some (3)) else (
bif (decide (a0.Kind < (0))) then (
some (1)) else (
bif (decide (a0.Kind > (6))) then (
some (1)) else (
bif (decide (a0.Kind > (2))) then (
bif (a0.Value != (0)) then (
some (3)) else (
(g39 n a0.Fix).bind fun x18 =>
bif (!x18) then (
some (3)) else (
some (0)))) else (
bif (!((a0.Fix).toList == ((⟨#[]⟩ : ByteArray)).toList)) then (
some (3)) else (
bif (decide (a0.Value < (0))) then (
some (4)) else (
(getI ([(60000), (4095), (400)] : List Int) a0.Kind).bind fun x19 =>
bif (decide (a0.Value > x19)) then (
some (4)) else (
some (0))))))))
abbrev ρ25 := (Int)
def g25 (n : Nat) (a0_0 : ByteArray) (a0_1 : Int) (a0_2 : Int) (a0_3 : ByteArray) : Option ρ25 :=
(g26 n (⟨a0_0, a0_1, a0_2, a0_3⟩ : TClearance)).bind fun x20 =>
some (x20)
abbrev ρ40 := (Bool)
def g40 (n : Nat) (a0 : Int) (a1 : Int) : Option ρ40 :=
bif (decide (a0 < (1))) then (
some (true)) else (
some (decide (a0 > a1)))
abbrev ρ28 := (Int)
def g28 (n : Nat) (a0 : TKind) : Option ρ28 :=
(g41 n a0.Name).bind fun x23 =>
bif (!x23) then (
some (5)) else (
bif (decide (a0.Wake < (0))) then (
some (1)) else (
bif (decide (a0.Wake > (3))) then (
some (1)) else (
(g40 n a0.Ceiling (60000)).bind fun x24 =>
bif x24 then (
some (4)) else (
(g40 n a0.Climb (200)).bind fun x25 =>
bif x25 then (
some (4)) else (
(g40 n a0.Descent (200)).bind fun x26 =>
bif x26 then (
some (4)) else (
(g40 n a0.Slow (400)).bind fun x27 =>
bif x27 then (
some (4)) else (
(g40 n a0.Fast (400)).bind fun x28 =>
bif x28 then (
some (4)) else (
bif (decide (a0.Slow > a0.Fast)) then (
some (3)) else (
some (0))))))))))
abbrev ρ27 := (Int)
def g27 (n : Nat) (a0_0 : ByteArray) (a0_1 : Int) (a0_2 : Int) (a0_3 : Int) (a0_4 : Int) (a0_5 : Int) (a0_6 : Int) : Option ρ27 :=
(g28 n (⟨a0_0, a0_1, a0_2, a0_3, a0_4, a0_5, a0_6⟩ : TKind)).bind fun x29 =>
some (x29)
abbrev ρ29 := (Int)
def g29 (n : Nat) (a0_0 : Int) (a0_1 : Int) : Option ρ29 :=
(g30 n (⟨a0_0, a0_1⟩ : TP)).bind fun x32 =>
some (x32)
abbrev ρ34 := (Int × Int)
def g34 (n : Nat) (a0 : List TTubeNode) : Option ρ34 :=
(getI a0 (0)).bind fun x35 =>
(getI a0 (IntKind.wrap .i64 ((a0.length : Int) - (1)))).bind fun x36 =>
some (x35.Node_Time, x36.Node_Time)
abbrev ρ48 := (Int)
def g48 (n : Nat) (a0 : TTubeNode) (a1 : Int) : Option ρ48 :=
some (IntKind.wrap .i64 (a0.Node_Time - a1))
abbrev ρ47 := (Int × Bool)
def S47_0 (n : Nat) (a0 : List TTubeNode) (a1 : Int) (c6 : Int) (c7 : Bool) (c8 : Int) (v9 : Int) (v10 : Int) : Option ((Int × Int) ⊕ ρ47) :=
bif (decide (v9 < v10)) then (
(getI a0 (IntKind.wrap .i64 (Int.fdiv (IntKind.wrap .u64 (IntKind.wrap .i64 (v9 + v10))) 2))).bind fun x38 =>
(g48 n x38 a1).bind fun x39 =>
bif (decide (x39 < (0))) then (
some (.inl ((IntKind.wrap .i64 ((IntKind.wrap .i64 (Int.fdiv (IntKind.wrap .u64 (IntKind.wrap .i64 (v9 + v10))) 2)) + (1))), v10))) else (
some (.inl (v9, (IntKind.wrap .i64 (Int.fdiv (IntKind.wrap .u64 (IntKind.wrap .i64 (v9 + v10))) 2)))))) else (
bif (decide (v9 < c8)) then (
(getI a0 v9).bind fun x40 =>
(g48 n x40 a1).bind fun x41 =>
some (.inr (v9, (x41 == (0))))) else (
some (.inr (v9, false))))
def g47 (n : Nat) (a0 : List TTubeNode) (a1 : Int) : Option ρ47 :=
iterO (fun y : Int × Int => S47_0 n a0 a1 (0) false (a0.length : Int) y.1 y.2) n ((0), (a0.length : Int))
abbrev ρ50 := (Int × Int)
def g50 (n : Nat) (a0 : Int) (a1 : Int) : Option ρ50 :=
bif (a1 == (0)) then (
some ((0), (10))) else (
bif (a0 == (-9223372036854775808)) then (
bif (a1 == (-1)) then (
some ((0), (2))) else (
(divO a0 a1).bind fun x50 =>
(modO a0 a1).bind fun x51 =>
bif (x51 != (0)) then (
bif (!((decide (a0 < (0))) == (decide (a1 < (0))))) then (
some ((IntKind.wrap .i64 ((IntKind.wrap .i64 x50) - (1))), (0))) else (
some ((IntKind.wrap .i64 x50), (0)))) else (
some ((IntKind.wrap .i64 x50), (0))))) else (
(divO a0 a1).bind fun x52 =>
(modO a0 a1).bind fun x53 =>
bif (x53 != (0)) then (
bif (!((decide (a0 < (0))) == (decide (a1 < (0))))) then (
some ((IntKind.wrap .i64 ((IntKind.wrap .i64 x52) - (1))), (0))) else (
some ((IntKind.wrap .i64 x52), (0)))) else (
some ((IntKind.wrap .i64 x52), (0)))))
abbrev ρ49 := (TP × Int)
def g49 (n : Nat) (a0 : TP) (a1 : TP) (a2 : Int) (a3 : Int) : Option ρ49 :=
bif (decide (a3 ≤ (0))) then (
some ((⟨(0), (0)⟩ : TP), (10))) else (
bif (decide (a3 > (200000))) then (
some ((⟨(0), (0)⟩ : TP), (4))) else (
bif (decide (a2 < (0))) then (
some ((⟨(0), (0)⟩ : TP), (4))) else (
bif (decide (a2 > a3)) then (
some ((⟨(0), (0)⟩ : TP), (4))) else (
(g30 n a0).bind fun x46 =>
bif (x46 != (0)) then (
(g30 n a0).bind fun x47 =>
some ((⟨(0), (0)⟩ : TP), x47)) else (
(g30 n a1).bind fun x48 =>
bif (x48 != (0)) then (
(g30 n a1).bind fun x49 =>
some ((⟨(0), (0)⟩ : TP), x49)) else (
(g50 n (IntKind.wrap .i64 ((IntKind.wrap .i64 (a1.X - a0.X)) * a2)) a3).bind fun x54 =>
(g50 n (IntKind.wrap .i64 ((IntKind.wrap .i64 (a1.Y - a0.Y)) * a2)) a3).bind fun x55 =>
some ((⟨(IntKind.wrap .i64 (a0.X + x54.1)), (IntKind.wrap .i64 (a0.Y + x55.1))⟩ : TP), (0))))))))
abbrev ρ36 := (Int × Int)
def g36 (n : Nat) (a0 : Int) (a1 : Int) : Option ρ36 :=
(g50 n a0 a1).bind fun x58 =>
bif (x58.2 == (0)) then (
(modO a0 a1).bind fun x59 =>
bif (x59 != (0)) then (
some ((IntKind.wrap .i64 (x58.1 + (1))), x58.2)) else (
some (x58.1, x58.2))) else (
some (x58.1, x58.2))
abbrev ρ35 := (TTubeNode)
def g35 (n : Nat) (a0 : List TTubeNode) (a1 : Int) : Option ρ35 :=
(g47 n a0 a1).bind fun x42 =>
bif x42.2 then (
(getI a0 x42.1).bind fun x43 =>
some (x43)) else (
(getI a0 (IntKind.wrap .i64 (x42.1 - (1)))).bind fun x44 =>
(getI a0 x42.1).bind fun x45 =>
(g49 n (⟨x44.Node_At_X, x44.Node_At_Y⟩ : TP) (⟨x45.Node_At_X, x45.Node_At_Y⟩ : TP) (IntKind.wrap .i64 (a1 - x44.Node_Time)) (IntKind.wrap .i64 (x45.Node_Time - x44.Node_Time))).bind fun x56 =>
(g50 n (IntKind.wrap .i64 ((IntKind.wrap .i64 (x45.Node_Height - x44.Node_Height)) * (IntKind.wrap .i64 (a1 - x44.Node_Time)))) (IntKind.wrap .i64 (x45.Node_Time - x44.Node_Time))).bind fun x57 =>
(g36 n (IntKind.wrap .i64 ((IntKind.wrap .i64 (x45.Radius - x44.Radius)) * (IntKind.wrap .i64 (a1 - x44.Node_Time)))) (IntKind.wrap .i64 (x45.Node_Time - x44.Node_Time))).bind fun x60 =>
(g36 n (IntKind.wrap .i64 ((IntKind.wrap .i64 (x45.Band - x44.Band)) * (IntKind.wrap .i64 (a1 - x44.Node_Time)))) (IntKind.wrap .i64 (x45.Node_Time - x44.Node_Time))).bind fun x61 =>
some (⟨a1, x56.1.X, x56.1.Y, (IntKind.wrap .i64 (x44.Node_Height + x57.1)), (IntKind.wrap .i64 (x44.Radius + x60.1)), (IntKind.wrap .i64 (x44.Band + x61.1))⟩ : TTubeNode))
abbrev ρ13 := (TTubeNode × Int)
def g13 (n : Nat) (a0 : List TTubeNode) (a1 : Int) : Option ρ13 :=
(g12 n a0).bind fun x34 =>
bif (x34 != (0)) then (
some ((⟨(0), (0), (0), (0), (0), (0)⟩ : TTubeNode), x34)) else (
(g34 n a0).bind fun x37 =>
bif (decide (a1 < x37.1)) then (
some ((⟨(0), (0), (0), (0), (0), (0)⟩ : TTubeNode), (12))) else (
bif (decide (a1 > x37.2)) then (
some ((⟨(0), (0), (0), (0), (0), (0)⟩ : TTubeNode), (12))) else (
(g35 n a0 a1).bind fun x62 =>
some (x62, (0)))))
abbrev ρ15 := (Int × Int)
def g15 (n : Nat) (a0 : TKind) (a1 : Int) (a2 : Int) : Option ρ15 :=
(g28 n a0).bind fun x71 =>
bif (x71 != (0)) then (
some ((0), x71)) else (
bif (decide (a1 < (0))) then (
some ((0), (4))) else (
bif (decide (a1 > (60000))) then (
some ((0), (4))) else (
bif (decide (a2 < (0))) then (
some ((0), (4))) else (
bif (decide (a2 > (60000))) then (
some ((0), (4))) else (
bif (decide (a1 > a0.Ceiling)) then (
some ((0), (20))) else (
bif (decide (a2 > a0.Ceiling)) then (
some ((0), (20))) else (
bif (decide (a2 ≥ a1)) then (
(g36 n (IntKind.wrap .i64 (a2 - a1)) a0.Climb).bind fun x72 =>
some (x72.1, x72.2)) else (
(g36 n (IntKind.wrap .i64 (a1 - a2)) a0.Descent).bind fun x73 =>
some (x73.1, x73.2)))))))))
abbrev ρ54 := (Bool)
def g54 (n : Nat) (a0 : TTubeNode) (a1_0 : Int) : Option ρ54 :=
some (decide (a0.Node_Time ≥ a1_0))
abbrev ρ53 := (Int)
def S53_0 (n : Nat) (a0 : List TTubeNode) (a1_0_0 : Int) (c4 : Int) (c7 : Int) (v8 : Int) : Option ((Int) ⊕ ρ53) :=
bif (decide (v8 < c7)) then (
(getI a0 v8).bind fun x77 =>
(g54 n x77 a1_0_0).bind fun x78 =>
bif x78 then (
some (.inr (v8))) else (
some (.inl (IntKind.wrap .i64 (v8 + (1)))))) else (
some (.inr (-1)))
def g53 (n : Nat) (a0 : List TTubeNode) (a1_0_0 : Int) : Option ρ53 :=
iterO (fun y : Int => S53_0 n a0 a1_0_0 (0) (a0.length : Int) y) n (0)
abbrev ρ42 := ((List TTubeNode) × Int)
def S42_0 (n : Nat) (c3 : Int) (c4 : Int) (c84 : Int) (k0_0 : ByteArray) (k0_1 : Int) (k0_2 : Int) (k0_3 : ByteArray) (k0_4 : List TTubeNode) (k0_5 : List TTubeNode) (k0_6 : Int) (k0_7 : Int) (k0_8 : Int) (k0_9 : Int) (k0_10 : Int) (k0_11 : Int) (k0_12 : ByteArray) (k0_13 : Int) (k0_14 : Int) (k0_15 : Int) (k0_16 : Int) (k0_17 : Int) (k0_18 : Int) (k0_19 : Int) (k0_20 : Int) (k0_21 : List TTubeNode) (k89_0 : Int) (v85 : Int) (L90000 : List TTubeNode) : Option ((Int × List TTubeNode) ⊕ ρ42) :=
bif (decide (v85 < c84)) then (
(getI L90000 v85).bind fun x83 =>
bif (decide (x83.Node_Time ≥ k89_0)) then (
some (.inl ((IntKind.wrap .i64 (v85 + (1))), (L90000.set ((v85 : Int).toNat) (⟨x83.Node_Time, x83.Node_At_X, x83.Node_At_Y, k0_2, x83.Radius, x83.Band⟩ : TTubeNode))))) else (
(g50 n (IntKind.wrap .i64 ((IntKind.wrap .i64 (k0_2 - k0_9)) * (IntKind.wrap .i64 (x83.Node_Time - k0_6)))) c4).bind fun x84 =>
some (.inl ((IntKind.wrap .i64 (v85 + (1))), (L90000.set ((v85 : Int).toNat) (⟨x83.Node_Time, x83.Node_At_X, x83.Node_At_Y, (IntKind.wrap .i64 (k0_9 + x84.1)), x83.Radius, x83.Band⟩ : TTubeNode)))))) else (
some (.inr (L90000, (0))))
def g42 (n : Nat) (a0 : Ttask) : Option ρ42 :=
(g15 n (⟨a0.kind_Name, a0.kind_Wake, a0.kind_Ceiling, a0.kind_Climb, a0.kind_Descent, a0.kind_Slow, a0.kind_Fast⟩ : TKind) a0.now_Node_Height a0.Clearance_Value).bind fun x74 =>
bif (x74.2 != (0)) then (
some ([], x74.2)) else (
(roomO a0.later.length 48).bind fun x75 =>
bif (decide (x74.1 > (0))) then (
bif (decide ((a0.later.length : Int) > (0))) then (
(getI a0.later (IntKind.wrap .i64 ((a0.later.length : Int) - (1)))).bind fun x76 =>
bif (decide ((IntKind.wrap .i64 (a0.now_Node_Time + x74.1)) < x76.Node_Time)) then (
(g53 n a0.later (IntKind.wrap .i64 (a0.now_Node_Time + x74.1))).bind fun x79 =>
(getI a0.later x79).bind fun x80 =>
bif (x80.Node_Time != (IntKind.wrap .i64 (a0.now_Node_Time + x74.1))) then (
(g13 n a0.whole (IntKind.wrap .i64 (a0.now_Node_Time + x74.1))).bind fun x81 =>
(insO 48 a0.later x79 ([x81.1] : List TTubeNode)).bind fun x82 =>
iterO (fun y : Int × List TTubeNode => S42_0 n (0) x74.1 (x82.length : Int) a0.Clearance_Call a0.Clearance_Kind a0.Clearance_Value a0.Clearance_Fix a0.before a0.later a0.now_Node_Time a0.now_Node_At_X a0.now_Node_At_Y a0.now_Node_Height a0.now_Radius a0.now_Band a0.kind_Name a0.kind_Wake a0.kind_Ceiling a0.kind_Climb a0.kind_Descent a0.kind_Slow a0.kind_Fast a0.fix_X a0.fix_Y a0.whole (IntKind.wrap .i64 (a0.now_Node_Time + x74.1)) y.1 y.2) n ((0), x82)) else (
iterO (fun y : Int × List TTubeNode => S42_0 n (0) x74.1 (a0.later.length : Int) a0.Clearance_Call a0.Clearance_Kind a0.Clearance_Value a0.Clearance_Fix a0.before a0.later a0.now_Node_Time a0.now_Node_At_X a0.now_Node_At_Y a0.now_Node_Height a0.now_Radius a0.now_Band a0.kind_Name a0.kind_Wake a0.kind_Ceiling a0.kind_Climb a0.kind_Descent a0.kind_Slow a0.kind_Fast a0.fix_X a0.fix_Y a0.whole (IntKind.wrap .i64 (a0.now_Node_Time + x74.1)) y.1 y.2) n ((0), a0.later))) else (
iterO (fun y : Int × List TTubeNode => S42_0 n (0) x74.1 (a0.later.length : Int) a0.Clearance_Call a0.Clearance_Kind a0.Clearance_Value a0.Clearance_Fix a0.before a0.later a0.now_Node_Time a0.now_Node_At_X a0.now_Node_At_Y a0.now_Node_Height a0.now_Radius a0.now_Band a0.kind_Name a0.kind_Wake a0.kind_Ceiling a0.kind_Climb a0.kind_Descent a0.kind_Slow a0.kind_Fast a0.fix_X a0.fix_Y a0.whole (IntKind.wrap .i64 (a0.now_Node_Time + x74.1)) y.1 y.2) n ((0), a0.later))) else (
iterO (fun y : Int × List TTubeNode => S42_0 n (0) x74.1 (a0.later.length : Int) a0.Clearance_Call a0.Clearance_Kind a0.Clearance_Value a0.Clearance_Fix a0.before a0.later a0.now_Node_Time a0.now_Node_At_X a0.now_Node_At_Y a0.now_Node_Height a0.now_Radius a0.now_Band a0.kind_Name a0.kind_Wake a0.kind_Ceiling a0.kind_Climb a0.kind_Descent a0.kind_Slow a0.kind_Fast a0.fix_X a0.fix_Y a0.whole (IntKind.wrap .i64 (a0.now_Node_Time + x74.1)) y.1 y.2) n ((0), a0.later))) else (
iterO (fun y : Int × List TTubeNode => S42_0 n (0) x74.1 (a0.later.length : Int) a0.Clearance_Call a0.Clearance_Kind a0.Clearance_Value a0.Clearance_Fix a0.before a0.later a0.now_Node_Time a0.now_Node_At_X a0.now_Node_At_Y a0.now_Node_Height a0.now_Radius a0.now_Band a0.kind_Name a0.kind_Wake a0.kind_Ceiling a0.kind_Climb a0.kind_Descent a0.kind_Slow a0.kind_Fast a0.fix_X a0.fix_Y a0.whole (IntKind.wrap .i64 (a0.now_Node_Time + x74.1)) y.1 y.2) n ((0), a0.later)))
abbrev ρ43 := ((List TTubeNode) × Int)
def g43 (n : Nat) (a0 : Ttask) : Option ρ43 :=
none
abbrev ρ14 := (TP)
def g14 (n : Nat) (a0 : TP) (a1 : TP) : Option ρ14 :=
some (⟨(IntKind.wrap .i64 (a0.X - a1.X)), (IntKind.wrap .i64 (a0.Y - a1.Y))⟩ : TP)
abbrev ρ51 := (Int)
def g51 (n : Nat) (a0 : TP) (a1 : TP) : Option ρ51 :=
some (IntKind.wrap .i64 ((IntKind.wrap .i64 (a0.X * a1.X)) + (IntKind.wrap .i64 (a0.Y * a1.Y))))
abbrev ρ37 := (Int)
def g37 (n : Nat) (a0 : TP) (a1 : TP) : Option ρ37 :=
(g14 n a0 a1).bind fun x98 =>
(g51 n x98 x98).bind fun x99 =>
some (x99)
abbrev ρ38 := (Int)
def S38_0 (n : Nat) (a0 : Int) (c2 : Int) (v3 : Int) (v4 : Int) : Option ((Int × Int) ⊕ ρ38) :=
bif (decide (v3 < v4)) then (
bif (decide ((IntKind.wrap .i64 ((IntKind.wrap .i64 (v3 + (IntKind.wrap .i64 (Int.tdiv (IntKind.wrap .i64 ((IntKind.wrap .i64 (v4 - v3)) + (1))) (2))))) * (IntKind.wrap .i64 (v3 + (IntKind.wrap .i64 (Int.tdiv (IntKind.wrap .i64 ((IntKind.wrap .i64 (v4 - v3)) + (1))) (2))))))) ≤ a0)) then (
some (.inl ((IntKind.wrap .i64 (v3 + (IntKind.wrap .i64 (Int.tdiv (IntKind.wrap .i64 ((IntKind.wrap .i64 (v4 - v3)) + (1))) (2))))), v4))) else (
some (.inl (v3, (IntKind.wrap .i64 ((IntKind.wrap .i64 (v3 + (IntKind.wrap .i64 (Int.tdiv (IntKind.wrap .i64 ((IntKind.wrap .i64 (v4 - v3)) + (1))) (2))))) - (1))))))) else (
some (.inr (v3)))
def g38 (n : Nat) (a0 : Int) : Option ρ38 :=
bif (decide (a0 ≤ (0))) then (
some (0)) else (
iterO (fun y : Int × Int => S38_0 n a0 (0) y.1 y.2) n ((0), (3037000499)))
abbrev ρ17 := (Int × Int)
def g17 (n : Nat) (a0 : TP) (a1 : TP) : Option ρ17 :=
(g37 n a0 a1).bind fun x100 =>
(g38 n x100).bind fun x101 =>
bif (decide ((IntKind.wrap .i64 (x101 * x101)) < x100)) then (
some (x101, (IntKind.wrap .i64 (x101 + (1))))) else (
some (x101, x101))
abbrev ρ44 := ((List TTubeNode) × Int)
def S44_0 (n : Nat) (c3 : Int) (c33 : Int) (k0_0 : ByteArray) (k0_1 : Int) (k0_2 : Int) (k0_3 : ByteArray) (k0_4 : List TTubeNode) (k0_5 : List TTubeNode) (k0_6 : Int) (k0_7 : Int) (k0_8 : Int) (k0_9 : Int) (k0_10 : Int) (k0_11 : Int) (k0_12 : ByteArray) (k0_13 : Int) (k0_14 : Int) (k0_15 : Int) (k0_16 : Int) (k0_17 : Int) (k0_18 : Int) (k0_19 : Int) (k0_20 : Int) (k0_21 : List TTubeNode) (v34 : Int) (L90000 : List TTubeNode) (bv88_0 : Int) (bv88_1 : Int) (bv88_2 : Int) (bv88_3 : Int) (bv88_4 : Int) (bv88_5 : Int) : Option ((Int × List TTubeNode × Int × Int × Int × Int × Int × Int) ⊕ ρ44) :=
bif (decide (v34 < c33)) then (
(getI L90000 v34).bind fun x97 =>
(g17 n (⟨bv88_1, bv88_2⟩ : TP) (⟨x97.Node_At_X, x97.Node_At_Y⟩ : TP)).bind fun x102 =>
(g36 n x102.2 k0_2).bind fun x103 =>
(getI L90000 v34).bind fun x104 =>
(getI (L90000.set ((v34 : Int).toNat) (⟨(IntKind.wrap .i64 (bv88_0 + (if x103.1 > (1) then x103.1 else (1)))), x104.Node_At_X, x104.Node_At_Y, x104.Node_Height, x104.Radius, x104.Band⟩ : TTubeNode)) v34).bind fun x105 =>
bif (decide (x105.Node_Time > (200000))) then (
some (.inr ([], (12)))) else (
(getI (L90000.set ((v34 : Int).toNat) (⟨(IntKind.wrap .i64 (bv88_0 + (if x103.1 > (1) then x103.1 else (1)))), x104.Node_At_X, x104.Node_At_Y, x104.Node_Height, x104.Radius, x104.Band⟩ : TTubeNode)) v34).bind fun x106 =>
some (.inl ((IntKind.wrap .i64 (v34 + (1))), (L90000.set ((v34 : Int).toNat) (⟨(IntKind.wrap .i64 (bv88_0 + (if x103.1 > (1) then x103.1 else (1)))), x104.Node_At_X, x104.Node_At_Y, x104.Node_Height, x104.Radius, x104.Band⟩ : TTubeNode)), x106.Node_Time, x106.Node_At_X, x106.Node_At_Y, x106.Node_Height, x106.Radius, x106.Band)))) else (
some (.inr (L90000, (0))))
def g44 (n : Nat) (a0 : Ttask) : Option ρ44 :=
bif (decide (a0.Clearance_Value < a0.kind_Slow)) then (
some ([], (4))) else (
bif (decide (a0.Clearance_Value > a0.kind_Fast)) then (
some ([], (4))) else (
(roomO a0.later.length 48).bind fun x96 =>
iterO (fun y : Int × List TTubeNode × Int × Int × Int × Int × Int × Int => S44_0 n (0) (a0.later.length : Int) a0.Clearance_Call a0.Clearance_Kind a0.Clearance_Value a0.Clearance_Fix a0.before a0.later a0.now_Node_Time a0.now_Node_At_X a0.now_Node_At_Y a0.now_Node_Height a0.now_Radius a0.now_Band a0.kind_Name a0.kind_Wake a0.kind_Ceiling a0.kind_Climb a0.kind_Descent a0.kind_Slow a0.kind_Fast a0.fix_X a0.fix_Y a0.whole y.1 y.2.1 y.2.2.1 y.2.2.2.1 y.2.2.2.2.1 y.2.2.2.2.2.1 y.2.2.2.2.2.2.1 y.2.2.2.2.2.2.2) n ((0), a0.later, a0.now_Node_Time, a0.now_Node_At_X, a0.now_Node_At_Y, a0.now_Node_Height, a0.now_Radius, a0.now_Band)))
abbrev ρ57 := (Int)
def g57 (n : Nat) (a0 : Ttask) : Option ρ57 :=
(getI a0.later (0)).bind fun x115 =>
(g17 n (⟨a0.now_Node_At_X, a0.now_Node_At_Y⟩ : TP) (⟨x115.Node_At_X, x115.Node_At_Y⟩ : TP)).bind fun x116 =>
(getI a0.later (0)).bind fun x117 =>
(divO x116.1 (IntKind.wrap .i64 (x117.Node_Time - a0.now_Node_Time))).bind fun x118 =>
some (IntKind.wrap .i64 x118)
abbrev ρ45 := ((List TTubeNode) × Int)
def g45 (n : Nat) (a0 : Ttask) : Option ρ45 :=
(g57 n a0).bind fun x119 =>
bif (x119 == (0)) then (
some ([], (10))) else (
(g17 n (⟨a0.now_Node_At_X, a0.now_Node_At_Y⟩ : TP) (⟨a0.fix_X, a0.fix_Y⟩ : TP)).bind fun x120 =>
bif (x120.2 == (0)) then (
some ([], (0))) else (
(g36 n x120.2 x119).bind fun x121 =>
bif (decide ((IntKind.wrap .i64 (a0.now_Node_Time + x121.1)) > (200000))) then (
some ([], (12))) else (
some (([(⟨(IntKind.wrap .i64 (a0.now_Node_Time + x121.1)), a0.fix_X, a0.fix_Y, a0.now_Node_Height, a0.now_Radius, a0.now_Band⟩ : TTubeNode)] : List TTubeNode), (0)))))
abbrev ρ31 := ((List TTubeNode) × Bool × Int)
def g31 (n : Nat) (a0 : Ttask) : Option ρ31 :=
bif (a0.Clearance_Kind == (0)) then (
(g42 n a0).bind fun x85 =>
some (x85.1, false, x85.2)) else (
bif ((a0.later.length : Int) == (0)) then (
some ([], true, (0))) else (
bif (a0.Clearance_Kind == (1)) then (
(g43 n a0).bind fun x95 =>
some (x95.1, false, x95.2)) else (
bif (a0.Clearance_Kind == (2)) then (
(g44 n a0).bind fun x107 =>
some (x107.1, false, x107.2)) else (
bif (a0.Clearance_Kind == (3)) then (
(g45 n a0).bind fun x122 =>
some (x122.1, false, x122.2)) else (
some ([], true, (0)))))))
abbrev ρ11 := ((List TTubeNode) × Int)
def S11_1 (n : Nat) (a2 : Int) (c11 : Int) (c16 : Int) (a0 : List TTubeNode) (c55 : Int) (k100070_0 : Int) (k100070_1 : Int) (k100070_2 : Int) (k100070_3 : Int) (k100070_4 : Int) (k100070_5 : Int) (v56 : Int) (L90000 : List TTubeNode) (L90001 : List TTubeNode) (bv100081_0 : ByteArray) (bv100081_1 : Int) (bv100081_2 : Int) (bv100081_3 : ByteArray) (bv100081_6 : Int) (bv100081_7 : Int) (bv100081_8 : Int) (bv100081_9 : Int) (bv100081_10 : Int) (bv100081_11 : Int) (bv100081_12 : ByteArray) (bv100081_13 : Int) (bv100081_14 : Int) (bv100081_15 : Int) (bv100081_16 : Int) (bv100081_17 : Int) (bv100081_18 : Int) (bv100081_19 : Int) (bv100081_20 : Int) (bv100081_21 : List TTubeNode) : Option ((Int × List TTubeNode × List TTubeNode × ByteArray × Int × Int × ByteArray × Int × Int × Int × Int × Int × Int × ByteArray × Int × Int × Int × Int × Int × Int × Int × Int × List TTubeNode) ⊕ ρ11) :=
bif (decide (v56 < c55)) then (
(getI a0 v56).bind fun x64 =>
bif (decide (x64.Node_Time < a2)) then (
(roomO (L90000.length + ([x64] : List TTubeNode).length) 48).bind fun x66 =>
bif (decide (x64.Node_Time > a2)) then (
(roomO (L90001.length + ([x64] : List TTubeNode).length) 48).bind fun x68 =>
some (.inl ((IntKind.wrap .i64 (v56 + (1))), (L90000 ++ ([x64] : List TTubeNode)), (L90001 ++ ([x64] : List TTubeNode)), bv100081_0, bv100081_1, bv100081_2, bv100081_3, bv100081_6, bv100081_7, bv100081_8, bv100081_9, bv100081_10, bv100081_11, bv100081_12, bv100081_13, bv100081_14, bv100081_15, bv100081_16, bv100081_17, bv100081_18, bv100081_19, bv100081_20, bv100081_21))) else (
some (.inl ((IntKind.wrap .i64 (v56 + (1))), (L90000 ++ ([x64] : List TTubeNode)), L90001, bv100081_0, bv100081_1, bv100081_2, bv100081_3, bv100081_6, bv100081_7, bv100081_8, bv100081_9, bv100081_10, bv100081_11, bv100081_12, bv100081_13, bv100081_14, bv100081_15, bv100081_16, bv100081_17, bv100081_18, bv100081_19, bv100081_20, bv100081_21)))) else (
bif (decide (x64.Node_Time > a2)) then (
(roomO (L90001.length + ([x64] : List TTubeNode).length) 48).bind fun x70 =>
some (.inl ((IntKind.wrap .i64 (v56 + (1))), L90000, (L90001 ++ ([x64] : List TTubeNode)), bv100081_0, bv100081_1, bv100081_2, bv100081_3, bv100081_6, bv100081_7, bv100081_8, bv100081_9, bv100081_10, bv100081_11, bv100081_12, bv100081_13, bv100081_14, bv100081_15, bv100081_16, bv100081_17, bv100081_18, bv100081_19, bv100081_20, bv100081_21))) else (
some (.inl ((IntKind.wrap .i64 (v56 + (1))), L90000, L90001, bv100081_0, bv100081_1, bv100081_2, bv100081_3, bv100081_6, bv100081_7, bv100081_8, bv100081_9, bv100081_10, bv100081_11, bv100081_12, bv100081_13, bv100081_14, bv100081_15, bv100081_16, bv100081_17, bv100081_18, bv100081_19, bv100081_20, bv100081_21))))) else (
(g31 n (⟨bv100081_0, bv100081_1, bv100081_2, bv100081_3, L90000, L90001, bv100081_6, bv100081_7, bv100081_8, bv100081_9, bv100081_10, bv100081_11, bv100081_12, bv100081_13, bv100081_14, bv100081_15, bv100081_16, bv100081_17, bv100081_18, bv100081_19, bv100081_20, bv100081_21⟩ : Ttask)).bind fun x126 =>
bif (x126.2.2 != (0)) then (
some (.inr ([], x126.2.2))) else (
bif x126.2.1 then (
(roomO a0.length 48).bind fun x131 =>
some (.inr (a0, (0)))) else (
(catO 48 ([L90000, ([(⟨k100070_0, k100070_1, k100070_2, k100070_3, k100070_4, k100070_5⟩ : TTubeNode)] : List TTubeNode), x126.1] : List (List TTubeNode))).bind fun x132 =>
bif (decide ((x132.length : Int) > (64))) then (
some (.inr ([], (2)))) else (
some (.inr (x132, (0)))))))
def S11_0 (n : Nat) (a2 : Int) (c11 : Int) (c28 : Int) (a0 : List TTubeNode) (k1_0 : ByteArray) (k1_1 : Int) (k1_2 : Int) (k1_3 : ByteArray) (k2_0 : ByteArray) (k2_1 : Int) (k2_2 : Int) (k2_3 : Int) (k2_4 : Int) (k2_5 : Int) (k2_6 : Int) (k3_0 : Int) (k3_1 : Int) (v29 : Int) : Option ((Int) ⊕ ρ11) :=
bif (decide (v29 < c28)) then (
bif (v29 == (0 : Int)) then (
(g24 n a0).bind fun x9 =>
bif (x9 != (0)) then (
some (.inr ([], x9))) else (
some (.inl (IntKind.wrap .i64 (v29 + (1)))))) else (
bif (v29 == (1 : Int)) then (
(g25 n k1_0 k1_1 k1_2 k1_3).bind fun x21 =>
bif (x21 != (0)) then (
some (.inr ([], x21))) else (
some (.inl (IntKind.wrap .i64 (v29 + (1)))))) else (
bif (v29 == (2 : Int)) then (
(g27 n k2_0 k2_1 k2_2 k2_3 k2_4 k2_5 k2_6).bind fun x30 =>
bif (x30 != (0)) then (
some (.inr ([], x30))) else (
some (.inl (IntKind.wrap .i64 (v29 + (1)))))) else (
bif (v29 == (3 : Int)) then (
(g29 n k3_0 k3_1).bind fun x33 =>
bif (x33 != (0)) then (
some (.inr ([], x33))) else (
some (.inl (IntKind.wrap .i64 (v29 + (1)))))) else (
none))))) else (
(g13 n a0 a2).bind fun x63 =>
bif (x63.2 != (0)) then (
some (.inr ([], x63.2))) else (
((iterO (fun y : Int × List TTubeNode × List TTubeNode × ByteArray × Int × Int × ByteArray × Int × Int × Int × Int × Int × Int × ByteArray × Int × Int × Int × Int × Int × Int × Int × Int × List TTubeNode => S11_1 n a2 c11 x63.2 a0 (a0.length : Int) x63.1.Node_Time x63.1.Node_At_X x63.1.Node_At_Y x63.1.Node_Height x63.1.Radius x63.1.Band y.1 y.2.1 y.2.2.1 y.2.2.2.1 y.2.2.2.2.1 y.2.2.2.2.2.1 y.2.2.2.2.2.2.1 y.2.2.2.2.2.2.2.1 y.2.2.2.2.2.2.2.2.1 y.2.2.2.2.2.2.2.2.2.1 y.2.2.2.2.2.2.2.2.2.2.1 y.2.2.2.2.2.2.2.2.2.2.2.1 y.2.2.2.2.2.2.2.2.2.2.2.2.1 y.2.2.2.2.2.2.2.2.2.2.2.2.2.1 y.2.2.2.2.2.2.2.2.2.2.2.2.2.2.1 y.2.2.2.2.2.2.2.2.2.2.2.2.2.2.2.1 y.2.2.2.2.2.2.2.2.2.2.2.2.2.2.2.2.1 y.2.2.2.2.2.2.2.2.2.2.2.2.2.2.2.2.2.1 y.2.2.2.2.2.2.2.2.2.2.2.2.2.2.2.2.2.2.1 y.2.2.2.2.2.2.2.2.2.2.2.2.2.2.2.2.2.2.2.1 y.2.2.2.2.2.2.2.2.2.2.2.2.2.2.2.2.2.2.2.2.1 y.2.2.2.2.2.2.2.2.2.2.2.2.2.2.2.2.2.2.2.2.2.1 y.2.2.2.2.2.2.2.2.2.2.2.2.2.2.2.2.2.2.2.2.2.2) n ((0), [], [], k1_0, k1_1, k1_2, k1_3, x63.1.Node_Time, x63.1.Node_At_X, x63.1.Node_At_Y, x63.1.Node_Height, x63.1.Radius, x63.1.Band, k2_0, k2_1, k2_2, k2_3, k2_4, k2_5, k2_6, k3_0, k3_1, a0)).map Sum.inr)))
def g11 (n : Nat) (a0 : List TTubeNode) (a1 : TClearance) (a2 : Int) (a3 : TKind) (a4 : TP) : Option ρ11 :=
iterO (fun y : Int => S11_0 n a2 (0) (4) a0 a1.Call a1.Kind a1.Value a1.Fix a3.Name a3.Wake a3.Ceiling a3.Climb a3.Descent a3.Slow a3.Fast a4.X a4.Y y) n (0)
abbrev ρ16 := (Int × Int)
def S16_1 (n : Nat) (a0 : List TTubeNode) (a1 : List TTubeNode) (c4 : Int) (c10 : Int) (v11 : Int) : Option ((Int) ⊕ ρ16) :=
bif (decide (v11 ≤ c10)) then (
(g13 n a0 v11).bind fun x141 =>
(g13 n a1 v11).bind fun x142 =>
bif (x141.2 != x142.2) then (
some (.inr (v11, (0)))) else (
bif (!(decide ((⟨x141.1.Node_At_X, x141.1.Node_At_Y⟩ : TP) = (⟨x142.1.Node_At_X, x142.1.Node_At_Y⟩ : TP)))) then (
some (.inr (v11, (0)))) else (
bif (x141.1.Node_Height != x142.1.Node_Height) then (
some (.inr (v11, (0)))) else (
some (.inl (IntKind.wrap .i64 (v11 + (1)))))))) else (
some (.inr ((0), (8))))
def S16_0 (n : Nat) (a0 : List TTubeNode) (a1 : List TTubeNode) (c4 : Int) (c18 : List (List TTubeNode)) (c19 : Int) (v20 : Int) : Option ((Int) ⊕ ρ16) :=
bif (decide (v20 < c19)) then (
(getI c18 v20).bind fun x135 =>
(g12 n x135).bind fun x136 =>
bif (x136 != (0)) then (
some (.inr ((0), x136))) else (
some (.inl (IntKind.wrap .i64 (v20 + (1)))))) else (
(getI a0 (0)).bind fun x137 =>
(getI a1 (0)).bind fun x138 =>
(getI a0 (IntKind.wrap .i64 ((a0.length : Int) - (1)))).bind fun x139 =>
(getI a1 (IntKind.wrap .i64 ((a1.length : Int) - (1)))).bind fun x140 =>
bif (decide ((IntKind.wrap .i64 ((if x140.Node_Time > x139.Node_Time then x140.Node_Time else x139.Node_Time) - (if x138.Node_Time < x137.Node_Time then x138.Node_Time else x137.Node_Time))) > (20000))) then (
some (.inr ((0), (2)))) else (
((iterO (fun y : Int => S16_1 n a0 a1 c4 (if x140.Node_Time > x139.Node_Time then x140.Node_Time else x139.Node_Time) y) n (if x138.Node_Time < x137.Node_Time then x138.Node_Time else x137.Node_Time)).map Sum.inr)))
def g16 (n : Nat) (a0 : List TTubeNode) (a1 : List TTubeNode) : Option ρ16 :=
iterO (fun y : Int => S16_0 n a0 a1 (0) ([a0, a1] : List (List TTubeNode)) (([a0, a1] : List (List TTubeNode)).length : Int) y) n (0)
abbrev ρ9 := (Bool)
def g9 (n : Nat) : Option ρ9 :=
(g21 n).bind fun x0 =>
(g22 n (9500)).bind fun x1 =>
(g23 n).bind fun x2 =>
(g11 n x0 x1 (0) x2 (⟨(0), (0)⟩ : TP)).bind fun x133 =>
(g21 n).bind fun x134 =>
(g16 n x134 x133.1).bind fun x143 =>
bif (x133.2 == (0)) then (
bif (x143.2 == (0)) then (
bif ((x133.1.length : Int) == (3)) then (
(getI x133.1 (1)).bind fun x144 =>
bif (x144.Node_Time == (10)) then (
(getI x133.1 (1)).bind fun x145 =>
bif (x145.Node_Height == (9500)) then (
(getI x133.1 (1)).bind fun x146 =>
bif (x146.Node_At_X == (1000)) then (
(getI x133.1 (2)).bind fun x147 =>
bif (x147.Node_Height == (9500)) then (
(getI x133.1 (1)).bind fun x148 =>
bif (x148.Radius == (100)) then (
some (x143.1 == (1))) else (
some (false))) else (
some (false))) else (
some (false))) else (
some (false))) else (
some (false))) else (
some (false))) else (
some (false))) else (
some (false))
abbrev ρ5 := (Bool)
def g5 (n : Nat) (a0 : List TTubeNode) (a1 : TClearance) (a2 : Int) (a3 : TKind) (a4 : TP) : Option ρ5 :=
(g9 n).bind fun x149 =>
bif (!x149) then (
some (false)) else (
(g11 n a0 (⟨a1.Call, (3), a1.Value, a1.Fix⟩ : TClearance) a2 a3 a4).bind fun x150 =>
bif (x150.2 != (0)) then (
bif (x150.2 == (0)) then (
some (true)) else (
some ((x150.1.length : Int) == (0)))) else (
bif ((a0.length : Int) == (0)) then (
bif (x150.2 == (0)) then (
some (true)) else (
some ((x150.1.length : Int) == (0)))) else (
(getI a0 (IntKind.wrap .i64 ((a0.length : Int) - (1)))).bind fun x151 =>
bif (a2 == x151.Node_Time) then (
bif (x150.2 == (0)) then (
some (true)) else (
some ((x150.1.length : Int) == (0)))) else (
bif ((x150.1.length : Int) == (0)) then (
some (false)) else (
(getI x150.1 (IntKind.wrap .i64 ((x150.1.length : Int) - (1)))).bind fun x152 =>
(g13 n a0 a2).bind fun x153 =>
bif (x153.2 == (0)) then (
bif (decide ((⟨x152.Node_At_X, x152.Node_At_Y⟩ : TP) = a4)) then (
bif (x152.Node_Height == x153.1.Node_Height) then (
bif (decide (x152.Node_Time ≥ a2)) then (
some (x152.Radius == x153.1.Radius)) else (
some (false))) else (
some (false))) else (
some (false))) else (
some (false)))))))
abbrev ρ10 := (Bool)
def S10_0 (n : Nat) (a2 : Int) (c6 : Bool) (a0 : List (List TTubeNode)) (c14 : Int) (v15 : Int) : Option ((Int) ⊕ ρ10) :=
bif (decide (v15 < c14)) then (
(getI a0 v15).bind fun x155 =>
(g12 n x155).bind fun x156 =>
bif (x156 != (0)) then (
some (.inr (false))) else (
(getI x155 (IntKind.wrap .i64 ((x155.length : Int) - (1)))).bind fun x157 =>
(getI x155 (0)).bind fun x158 =>
bif (decide ((IntKind.wrap .i64 (x157.Node_Time - x158.Node_Time)) > a2)) then (
some (.inr (false))) else (
some (.inl (IntKind.wrap .i64 (v15 + (1))))))) else (
some (.inr (true)))
def g10 (n : Nat) (a0 : List (List TTubeNode)) (a1 : Int) (a2 : Int) : Option ρ10 :=
bif (decide ((a0.length : Int) > a1)) then (
some (false)) else (
iterO (fun y : Int => S10_0 n a2 false a0 (a0.length : Int) y) n (0))
abbrev ρ6 := (Bool)
def g6 (n : Nat) (a0 : List TTubeNode) (a1 : List TTubeNode) : Option ρ6 :=
(g9 n).bind fun x154 =>
bif (!x154) then (
some (false)) else (
(g10 n ([a0, a1] : List (List TTubeNode)) (2) (400)).bind fun x159 =>
bif (!x159) then (
some (true)) else (
(g16 n a0 a1).bind fun x160 =>
(g16 n a1 a0).bind fun x161 =>
(g16 n a0 a0).bind fun x162 =>
bif (x160.2 != x161.2) then (
some (false)) else (
bif (x160.1 != x161.1) then (
some (false)) else (
bif (x162.2 != (8)) then (
some (false)) else (
bif (x160.2 != (0)) then (
bif (x160.2 == (8)) then (
some (true)) else (
some (x160.2 == (2)))) else (
(g13 n a0 x160.1).bind fun x163 =>
(g13 n a1 x160.1).bind fun x164 =>
bif (x163.2 != x164.2) then (
some (true)) else (
bif (x163.2 == (0)) then (
bif (!(decide ((⟨x163.1.Node_At_X, x163.1.Node_At_Y⟩ : TP) = (⟨x164.1.Node_At_X, x164.1.Node_At_Y⟩ : TP)))) then (
some (true)) else (
some (x163.1.Node_Height != x164.1.Node_Height))) else (
some (false)))))))))
abbrev ρ18 := (Bool)
def S18_0 (n : Nat) (a0 : List TP) (a1 : List TP) (c4 : Bool) (c12 : Int) (v13 : Int) : Option ((Int) ⊕ ρ18) :=
bif (decide (v13 < c12)) then (
(getI a0 v13).bind fun x176 =>
(getI a1 v13).bind fun x177 =>
bif (!(decide (x176 = x177))) then (
some (.inr (false))) else (
some (.inl (IntKind.wrap .i64 (v13 + (1)))))) else (
some (.inr (true)))
def g18 (n : Nat) (a0 : List TP) (a1 : List TP) : Option ρ18 :=
bif ((a0.length : Int) != (a1.length : Int)) then (
some (false)) else (
iterO (fun y : Int => S18_0 n a0 a1 false (a0.length : Int) y) n (0))
abbrev ρ7 := (Bool)
def S7_1 (n : Nat) (a2 : Int) (a3 : Int) (c10 : Bool) (c11 : List TTubeNode) (c58 : Int) (v59 : Int) (L90000 : List TP) (L90001 : List TP) : Option ((Int × List TP × List TP) ⊕ ρ7) :=
bif (decide (v59 < c58)) then (
(getI c11 v59).bind fun x170 =>
bif (decide (x170.Node_Time ≤ a3)) then (
some (.inl ((IntKind.wrap .i64 (v59 + (1))), L90000, L90001))) else (
(roomO (L90001.length + ([(⟨x170.Node_At_X, x170.Node_At_Y⟩ : TP)] : List TP).length) 16).bind fun x172 =>
bif (v59 == (0)) then (
some (.inr (false))) else (
(getI c11 (IntKind.wrap .i64 (v59 - (1)))).bind fun x173 =>
(g17 n (⟨x173.Node_At_X, x173.Node_At_Y⟩ : TP) (⟨x170.Node_At_X, x170.Node_At_Y⟩ : TP)).bind fun x174 =>
(getI c11 (IntKind.wrap .i64 (v59 - (1)))).bind fun x175 =>
bif (decide (x174.1 > (IntKind.wrap .i64 (a2 * (IntKind.wrap .i64 (x170.Node_Time - x175.Node_Time)))))) then (
some (.inr (false))) else (
some (.inl ((IntKind.wrap .i64 (v59 + (1))), L90000, (L90001 ++ ([(⟨x170.Node_At_X, x170.Node_At_Y⟩ : TP)] : List TP)))))))) else (
(g18 n L90000 L90001).bind fun x178 =>
some (.inr (x178)))
def S7_0 (n : Nat) (a2 : Int) (a3 : Int) (c10 : Bool) (c11 : List TTubeNode) (a0 : List TTubeNode) (c40 : Int) (v41 : Int) (L90000 : List TP) : Option ((Int × List TP) ⊕ ρ7) :=
bif (decide (v41 < c40)) then (
(getI a0 v41).bind fun x167 =>
bif (decide (x167.Node_Time > a3)) then (
(roomO (L90000.length + ([(⟨x167.Node_At_X, x167.Node_At_Y⟩ : TP)] : List TP).length) 16).bind fun x169 =>
some (.inl ((IntKind.wrap .i64 (v41 + (1))), (L90000 ++ ([(⟨x167.Node_At_X, x167.Node_At_Y⟩ : TP)] : List TP))))) else (
some (.inl ((IntKind.wrap .i64 (v41 + (1))), L90000)))) else (
((iterO (fun y : Int × List TP × List TP => S7_1 n a2 a3 c10 c11 (c11.length : Int) y.1 y.2.1 y.2.2) n ((0), L90000, [])).map Sum.inr))
def g7 (n : Nat) (a0 : List TTubeNode) (a1 : ByteArray) (a2 : Int) (a3 : Int) (a4 : TKind) : Option ρ7 :=
(g9 n).bind fun x165 =>
bif (!x165) then (
some (false)) else (
(g11 n a0 (⟨a1, (2), a2, (⟨#[]⟩ : ByteArray)⟩ : TClearance) a3 a4 (⟨(0), (0)⟩ : TP)).bind fun x166 =>
bif (x166.2 != (0)) then (
some ((x166.1.length : Int) == (0))) else (
iterO (fun y : Int × List TP => S7_0 n a2 a3 false x166.1 a0 (a0.length : Int) y.1 y.2) n ((0), [])))
abbrev ρ19 := (Int)
def g19 (n : Nat) (a0 : Int) (a1 : Int) : Option ρ19 :=
(modO (IntKind.wrap .u64 a0) (IntKind.wrap .u64 a1)).bind fun x181 =>
some (IntKind.wrap .i64 x181)
abbrev ρ20 := (Bool)
def S20_0 (n : Nat) (a0 : List TTubeNode) (a1 : List TTubeNode) (c4 : Bool) (c12 : Int) (v13 : Int) : Option ((Int) ⊕ ρ20) :=
bif (decide (v13 < c12)) then (
(getI a0 v13).bind fun x185 =>
(getI a1 v13).bind fun x186 =>
bif (!(decide (x185 = x186))) then (
some (.inr (false))) else (
some (.inl (IntKind.wrap .i64 (v13 + (1)))))) else (
some (.inr (true)))
def g20 (n : Nat) (a0 : List TTubeNode) (a1 : List TTubeNode) : Option ρ20 :=
bif ((a0.length : Int) != (a1.length : Int)) then (
some (false)) else (
iterO (fun y : Int => S20_0 n a0 a1 false (a0.length : Int) y) n (0))
abbrev ρ8 := (Bool)
def g8 (n : Nat) (a0 : List TTubeNode) (a1 : TClearance) (a2 : Int) (a3 : TKind) : Option ρ8 :=
(g9 n).bind fun x179 =>
bif (!x179) then (
some (false)) else (
(g10 n ([a0] : List (List TTubeNode)) (1) (400)).bind fun x180 =>
bif (!x180) then (
some (true)) else (
(g19 n a1.Kind (3)).bind fun x182 =>
(g11 n a0 (⟨a1.Call, (IntKind.wrap .i64 ((4) + x182)), a1.Value, a1.Fix⟩ : TClearance) a2 a3 (⟨(0), (0)⟩ : TP)).bind fun x183 =>
bif (x183.2 != (0)) then (
some ((x183.1.length : Int) == (0))) else (
(g16 n a0 x183.1).bind fun x184 =>
bif (x184.2 == (8)) then (
(g20 n a0 x183.1).bind fun x187 =>
some (x187)) else (
some (false)))))
end Go.Proofs.YtpjepkldnnfncaaDoor
