/- Plain functional programs out of the program's functions; printed by wip/Ext.lean.txt. -/
import Derived.Test.YtfncpfnanmoapaaX1T
import Derived.Test.YtfncpfnanmoapaaPJ
set_option linter.unusedVariables false
set_option linter.unusedSimpArgs false
set_option maxRecDepth 100000
set_option maxHeartbeats 4000000
namespace Go.Proofs.Ytfncpfnanmoapaa
abbrev ρ19 := (Int)
def g19 (n : Nat) (a0 : TP) : Option ρ19 :=
bif (decide (a0.X < (-1000000))) then (
some (4)) else (
bif (decide (a0.X > (1000000))) then (
some (4)) else (
bif (decide (a0.Y < (-1000000))) then (
some (4)) else (
bif (decide (a0.Y > (1000000))) then (
some (4)) else (
some (0)))))
abbrev ρ22 := (Int)
def S22_0 (n : Nat) (a0 : List TTubeNode) (c2 : Int) (c15 : Int) (v16 : Int) : Option ((Int) ⊕ ρ22) :=
bif (decide (v16 < c15)) then (
(getI a0 v16).bind fun x0 =>
bif (decide (x0.Node_Time < (0))) then (
some (.inr (12))) else (
bif (decide (x0.Node_Time > (200000))) then (
some (.inr (12))) else (
bif (decide (v16 > (0))) then (
(getI a0 (IntKind.wrap .i64 (v16 - (1)))).bind fun x1 =>
bif (decide (x0.Node_Time ≤ x1.Node_Time)) then (
some (.inr (12))) else (
(g19 n (⟨x0.Node_At_X, x0.Node_At_Y⟩ : TP)).bind fun x2 =>
bif (x2 != (0)) then (
some (.inr (x2))) else (
bif (decide (x0.Node_Height < (0))) then (
some (.inr (4))) else (
bif (decide (x0.Node_Height > (60000))) then (
some (.inr (4))) else (
bif (decide (x0.Radius < (0))) then (
some (.inr (4))) else (
bif (decide (x0.Radius > (1000000))) then (
some (.inr (4))) else (
bif (decide (x0.Band < (0))) then (
some (.inr (4))) else (
bif (decide (x0.Band > (60000))) then (
some (.inr (4))) else (
some (.inl (IntKind.wrap .i64 (v16 + (1))))))))))))) else (
(g19 n (⟨x0.Node_At_X, x0.Node_At_Y⟩ : TP)).bind fun x3 =>
bif (x3 != (0)) then (
some (.inr (x3))) else (
bif (decide (x0.Node_Height < (0))) then (
some (.inr (4))) else (
bif (decide (x0.Node_Height > (60000))) then (
some (.inr (4))) else (
bif (decide (x0.Radius < (0))) then (
some (.inr (4))) else (
bif (decide (x0.Radius > (1000000))) then (
some (.inr (4))) else (
bif (decide (x0.Band < (0))) then (
some (.inr (4))) else (
bif (decide (x0.Band > (60000))) then (
some (.inr (4))) else (
some (.inl (IntKind.wrap .i64 (v16 + (1))))))))))))))) else (
some (.inr (0)))
def g22 (n : Nat) (a0 : List TTubeNode) : Option ρ22 :=
bif (decide ((a0.length : Int) > (64))) then (
some (2)) else (
bif ((a0.length : Int) == (0)) then (
some (3)) else (
iterO (fun y : Int => S22_0 n a0 (0) (a0.length : Int) y) n (0)))
abbrev ρ46 := (Int × Int)
def g46 (n : Nat) (a0 : List TTubeNode) : Option ρ46 :=
(getI a0 (0)).bind fun x4 =>
(getI a0 (IntKind.wrap .i64 ((a0.length : Int) - (1)))).bind fun x5 =>
some (x4.Node_Time, x5.Node_Time)
abbrev ρ39 := (TP)
def g39 (n : Nat) (a0 : List TP) (a1 : Int) : Option ρ39 :=
(modO (IntKind.wrap .i64 (a1 + (1))) (a0.length : Int)).bind fun x9 =>
(getI a0 x9).bind fun x10 =>
some (x10)
abbrev ρ51 := (TP)
def g51 (n : Nat) (a0 : TP) (a1 : TP) : Option ρ51 :=
some (⟨(IntKind.wrap .i64 (a0.X - a1.X)), (IntKind.wrap .i64 (a0.Y - a1.Y))⟩ : TP)
abbrev ρ41 := (Int)
def g41 (n : Nat) (a0 : TP) (a1 : TP) : Option ρ41 :=
some (IntKind.wrap .i64 ((IntKind.wrap .i64 (a0.X * a1.Y)) - (IntKind.wrap .i64 (a0.Y * a1.X))))
abbrev ρ38 := (Int)
def g38 (n : Nat) (a0 : TP) (a1 : TP) (a2 : TP) : Option ρ38 :=
(g51 n a1 a0).bind fun x12 =>
(g51 n a2 a0).bind fun x13 =>
(g41 n x12 x13).bind fun x14 =>
bif (decide (x14 > (0))) then (
some (1)) else (
bif (decide (x14 < (0))) then (
some (-1)) else (
some (0)))
abbrev ρ62 := (Bool)
def g62 (n : Nat) (a0 : TP) (a1 : TP) (a2 : TP) : Option ρ62 :=
bif (decide ((if a1.X < a0.X then a1.X else a0.X) ≤ a2.X)) then (
bif (decide (a2.X ≤ (if a1.X > a0.X then a1.X else a0.X))) then (
bif (decide ((if a1.Y < a0.Y then a1.Y else a0.Y) ≤ a2.Y)) then (
some (decide (a2.Y ≤ (if a1.Y > a0.Y then a1.Y else a0.Y)))) else (
some (false))) else (
some (false))) else (
some (false))
abbrev ρ52 := (Bool)
def g52 (n : Nat) (a0 : TP) (a1 : TP) (a2 : TP) : Option ρ52 :=
(g38 n a0 a1 a2).bind fun x15 =>
bif (x15 == (0)) then (
(g62 n a0 a1 a2).bind fun x16 =>
some (x16)) else (
some (false))
abbrev ρ43 := (Int)
def S43_0 (n : Nat) (a0 : List TP) (c4 : Int) (c11 : Int) (k0_0 : Int) (k0_1 : Int) (v5 : Int) (v12 : Int) : Option ((Int × Int) ⊕ ρ43) :=
bif (decide (v12 < c11)) then (
(getI a0 v12).bind fun x8 =>
(g39 n a0 v12).bind fun x11 =>
(g52 n x8 x11 (⟨k0_0, k0_1⟩ : TP)).bind fun x17 =>
bif x17 then (
some (.inr (0))) else (
bif (!((decide (x8.Y > k0_1)) == (decide (x11.Y > k0_1)))) then (
(g38 n x8 x11 (⟨k0_0, k0_1⟩ : TP)).bind fun x18 =>
bif (decide (x11.Y > x8.Y)) then (
bif (decide (x18 > (0))) then (
some (.inl ((IntKind.wrap .i64 (0 - v5)), (IntKind.wrap .i64 (v12 + (1)))))) else (
bif (decide (x11.Y < x8.Y)) then (
bif (decide (x18 < (0))) then (
some (.inl ((IntKind.wrap .i64 (0 - v5)), (IntKind.wrap .i64 (v12 + (1)))))) else (
some (.inl (v5, (IntKind.wrap .i64 (v12 + (1))))))) else (
some (.inl (v5, (IntKind.wrap .i64 (v12 + (1)))))))) else (
bif (decide (x11.Y < x8.Y)) then (
bif (decide (x18 < (0))) then (
some (.inl ((IntKind.wrap .i64 (0 - v5)), (IntKind.wrap .i64 (v12 + (1)))))) else (
some (.inl (v5, (IntKind.wrap .i64 (v12 + (1))))))) else (
some (.inl (v5, (IntKind.wrap .i64 (v12 + (1)))))))) else (
some (.inl (v5, (IntKind.wrap .i64 (v12 + (1)))))))) else (
some (.inr (v5)))
def g43 (n : Nat) (a0 : List TP) (a1 : TP) : Option ρ43 :=
iterO (fun y : Int × Int => S43_0 n a0 (0) (a0.length : Int) a1.X a1.Y y.1 y.2) n ((-1), (0))
abbrev ρ35 := (Bool)
def g35 (n : Nat) (a0 : TVolume) (a1 : TP) (a2 : Int) : Option ρ35 :=
bif (decide (a2 ≥ a0.Low)) then (
bif (decide (a2 < a0.High)) then (
(g43 n a0.Area a1).bind fun x19 =>
some (decide (x19 ≥ (0)))) else (
some (false))) else (
some (false))
abbrev ρ34 := (Bool)
def g34 (n : Nat) (a0 : TVolume) (a1_0 : Int) (a1_1 : Int) (a2_0 : Int) : Option ρ34 :=
(g35 n a0 (⟨a1_0, a1_1⟩ : TP) a2_0).bind fun x20 =>
some (x20)
abbrev ρ42 := (Int)
def S42_0 (n : Nat) (a0 : List TVolume) (a1_0_0 : Int) (a1_0_1 : Int) (a1_1_0 : Int) (c4 : Int) (c7 : Int) (v8 : Int) : Option ((Int) ⊕ ρ42) :=
bif (decide (v8 < c7)) then (
(getI a0 v8).bind fun x7 =>
(g34 n x7 a1_0_0 a1_0_1 a1_1_0).bind fun x21 =>
bif x21 then (
some (.inr (v8))) else (
some (.inl (IntKind.wrap .i64 (v8 + (1)))))) else (
some (.inr (-1)))
def g42 (n : Nat) (a0 : List TVolume) (a1_0_0 : Int) (a1_0_1 : Int) (a1_1_0 : Int) : Option ρ42 :=
iterO (fun y : Int => S42_0 n a0 a1_0_0 a1_0_1 a1_1_0 (0) (a0.length : Int) y) n (0)
abbrev ρ33 := (Bool)
def g33 (n : Nat) (a0 : List TVolume) (a1_0_0 : Int) (a1_0_1 : Int) (a1_1_0 : Int) : Option ρ33 :=
(g42 n a0 a1_0_0 a1_0_1 a1_1_0).bind fun x22 =>
some (decide (x22 ≥ (0)))
abbrev ρ32 := (Bool)
def g32 (n : Nat) (a0 : TSector) (a1_0 : Int) (a1_1 : Int) (a2_0 : Int) : Option ρ32 :=
(g33 n a0.Room a1_0 a1_1 a2_0).bind fun x23 =>
some (x23)
abbrev ρ31 := (Int)
def S31_0 (n : Nat) (a0 : List TSector) (a1_0_0 : Int) (a1_0_1 : Int) (a1_1_0 : Int) (c4 : Int) (c7 : Int) (v8 : Int) : Option ((Int) ⊕ ρ31) :=
bif (decide (v8 < c7)) then (
(getI a0 v8).bind fun x6 =>
(g32 n x6 a1_0_0 a1_0_1 a1_1_0).bind fun x24 =>
bif x24 then (
some (.inr (v8))) else (
some (.inl (IntKind.wrap .i64 (v8 + (1)))))) else (
some (.inr (-1)))
def g31 (n : Nat) (a0 : List TSector) (a1_0_0 : Int) (a1_0_1 : Int) (a1_1_0 : Int) : Option ρ31 :=
iterO (fun y : Int => S31_0 n a0 a1_0_0 a1_0_1 a1_1_0 (0) (a0.length : Int) y) n (0)
abbrev ρ20 := (Int)
def g20 (n : Nat) (a0 : List TSector) (a1 : TP) (a2 : Int) : Option ρ20 :=
(g31 n a0 a1.X a1.Y a2).bind fun x25 =>
some (x25)
abbrev ρ28 := (Bool)
def S28_0 (n : Nat) (c2 : Bool) (c14 : List UInt8) (c15 : Int) (v16 : Int) : Option ((Int) ⊕ ρ28) :=
bif (decide (v16 < c15)) then (
(getI c14 v16).bind fun x28 =>
bif (decide ((x28.toNat : Int) ≥ (65))) then (
bif (decide ((x28.toNat : Int) ≤ (90))) then (
some (.inl (IntKind.wrap .i64 (v16 + (1))))) else (
bif (decide (v16 > (0))) then (
bif (decide ((x28.toNat : Int) ≥ (48))) then (
bif (!(decide ((x28.toNat : Int) ≤ (57)))) then (
some (.inr (false))) else (
some (.inl (IntKind.wrap .i64 (v16 + (1)))))) else (
some (.inr (false)))) else (
some (.inr (false))))) else (
bif (decide (v16 > (0))) then (
bif (decide ((x28.toNat : Int) ≥ (48))) then (
bif (!(decide ((x28.toNat : Int) ≤ (57)))) then (
some (.inr (false))) else (
some (.inl (IntKind.wrap .i64 (v16 + (1)))))) else (
some (.inr (false)))) else (
some (.inr (false))))) else (
some (.inr (true)))
def g28 (n : Nat) (a0 : ByteArray) : Option ρ28 :=
bif (decide ((a0.size : Int) < (1))) then (
some (false)) else (
bif (decide ((a0.size : Int) > (8))) then (
some (false)) else (
(roomO a0.size 1).bind fun x27 =>
iterO (fun y : Int => S28_0 n false (a0.data.toList) ((a0.data.toList).length : Int) y) n (0)))
abbrev ρ16 := (Bool)
def g16 (n : Nat) (a0 : ByteArray) : Option ρ16 :=
(g28 n a0).bind fun x29 =>
some (x29)
abbrev ρ48 := (Bool)
def g48 (n : Nat) (a0 : TP) (a1 : TP) (a2 : TP) (a3 : TP) : Option ρ48 :=
(g38 n a0 a1 a2).bind fun x44 =>
(g38 n a0 a1 a3).bind fun x45 =>
bif (decide ((IntKind.wrap .i64 (x44 * x45)) < (0))) then (
(g38 n a2 a3 a0).bind fun x46 =>
(g38 n a2 a3 a1).bind fun x47 =>
some (decide ((IntKind.wrap .i64 (x46 * x47)) < (0)))) else (
some (false))
abbrev ρ40 := (Bool)
def g40 (n : Nat) (a0 : TP) (a1 : TP) (a2 : TP) (a3 : TP) : Option ρ40 :=
(g48 n a0 a1 a2 a3).bind fun x48 =>
bif x48 then (
some (true)) else (
(g52 n a0 a1 a2).bind fun x49 =>
bif x49 then (
some (true)) else (
(g52 n a0 a1 a3).bind fun x50 =>
bif x50 then (
some (true)) else (
(g52 n a2 a3 a0).bind fun x51 =>
bif x51 then (
some (true)) else (
(g52 n a2 a3 a1).bind fun x52 =>
some (x52)))))
abbrev ρ30 := (Int)
def S30_0 (n : Nat) (a0 : List TP) (c2 : Int) (c6 : Int) (v3 : Int) (v7 : Int) : Option ((Int × Int) ⊕ ρ30) :=
bif (decide (v7 < c6)) then (
(getI a0 v7).bind fun x54 =>
(g39 n a0 v7).bind fun x55 =>
(g41 n x54 x55).bind fun x56 =>
some (.inl ((IntKind.wrap .i64 (v3 + x56)), (IntKind.wrap .i64 (v7 + (1)))))) else (
some (.inr (v3)))
def g30 (n : Nat) (a0 : List TP) : Option ρ30 :=
iterO (fun y : Int × Int => S30_0 n a0 (0) (a0.length : Int) y.1 y.2) n ((0), (0))
abbrev ρ29 := (Int)
def S29_1_0 (n : Nat) (a0 : List TP) (c2 : Int) (c3 : Int) (v31 : Int) (c30 : Int) (w8 : Int) : Option ((Int) ⊕ ((Int) ⊕ ρ29)) :=
bif (decide (w8 < c3)) then (
(modO (IntKind.wrap .i64 (w8 + (1))) c3).bind fun x39 =>
bif (x39 != v31) then (
(getI a0 v31).bind fun x40 =>
(g39 n a0 v31).bind fun x41 =>
(getI a0 w8).bind fun x42 =>
(g39 n a0 w8).bind fun x43 =>
(g40 n x40 x41 x42 x43).bind fun x53 =>
bif x53 then (
some (.inr (.inr (3)))) else (
some (.inl (IntKind.wrap .i64 (w8 + (1)))))) else (
some (.inl (IntKind.wrap .i64 (w8 + (1)))))) else (
some (.inr (.inl (IntKind.wrap .i64 (v31 + (1))))))
def S29_1 (n : Nat) (a0 : List TP) (c2 : Int) (c3 : Int) (c30 : Int) (v31 : Int) : Option ((Int) ⊕ ρ29) :=
bif (decide (v31 < c30)) then (
(getI a0 v31).bind fun x34 =>
(g39 n a0 v31).bind fun x35 =>
(modO (IntKind.wrap .i64 (v31 + (2))) c3).bind fun x36 =>
(getI a0 x36).bind fun x37 =>
(g38 n x34 x35 x37).bind fun x38 =>
bif (x38 == (0)) then (
some (.inr (3))) else (
iterO (fun y : Int => S29_1_0 n a0 c2 c3 v31 c30 y) n (IntKind.wrap .i64 (v31 + (2))))) else (
(g30 n a0).bind fun x57 =>
bif (decide (x57 ≤ (0))) then (
some (.inr (3))) else (
some (.inr (0))))
def S29_0 (n : Nat) (a0 : List TP) (c2 : Int) (c3 : Int) (v19 : Int) : Option ((Int) ⊕ ρ29) :=
bif (decide (v19 < c3)) then (
(getI a0 v19).bind fun x32 =>
(g19 n x32).bind fun x33 =>
bif (x33 != (0)) then (
some (.inr (x33))) else (
some (.inl (IntKind.wrap .i64 (v19 + (1)))))) else (
((iterO (fun y : Int => S29_1 n a0 c2 c3 (a0.length : Int) y) n (0)).map Sum.inr))
def g29 (n : Nat) (a0 : List TP) : Option ρ29 :=
bif (decide ((a0.length : Int) > (16))) then (
some (2)) else (
bif (decide ((a0.length : Int) < (3))) then (
some (3)) else (
iterO (fun y : Int => S29_0 n a0 (0) (a0.length : Int) y) n (0)))
abbrev ρ24 := (Int)
def g24 (n : Nat) (a0 : TVolume) : Option ρ24 :=
(g29 n a0.Area).bind fun x58 =>
bif (x58 != (0)) then (
some (x58)) else (
bif (decide (a0.Low < (0))) then (
some (4)) else (
bif (decide (a0.High > (60001))) then (
some (4)) else (
bif (decide (a0.Low ≥ a0.High)) then (
some (4)) else (
some (0)))))
abbrev ρ26 := (Bool)
def g26 (n : Nat) (a0 : TSector) (a1_0 : ByteArray) (a1_1 : List TVolume) : Option ρ26 :=
some ((a0.Name).toList == (a1_0).toList)
def S31_0_x1 (n : Nat) (a0 : List TSector) (a1_0_0 : ByteArray) (a1_0_1 : List TVolume) (c4 : Int) (c7 : Int) (v8 : Int) : Option ((Int) ⊕ ρ31) :=
bif (decide (v8 < c7)) then (
(getI a0 v8).bind fun x61 =>
(g26 n x61 a1_0_0 a1_0_1).bind fun x62 =>
bif x62 then (
some (.inr (v8))) else (
some (.inl (IntKind.wrap .i64 (v8 + (1)))))) else (
some (.inr (-1)))
def g31_1 (n : Nat) (a0 : List TSector) (a1_0_0 : ByteArray) (a1_0_1 : List TVolume) : Option ρ31 :=
iterO (fun y : Int => S31_0_x1 n a0 a1_0_0 a1_0_1 (0) (a0.length : Int) y) n (0)
abbrev ρ25 := (Bool)
def g25 (n : Nat) (a0 : List TSector) (a1_0_0 : ByteArray) (a1_0_1 : List TVolume) : Option ρ25 :=
(g31_1 n a0 a1_0_0 a1_0_1).bind fun x63 =>
some (decide (x63 ≥ (0)))
abbrev ρ49 := ((List TP))
def S49_0 (n : Nat) (a0 : List TP) (c7 : Int) (v8 : Int) (L90000 : List TP) : Option ((Int × List TP) ⊕ ρ49) :=
bif (decide (v8 < c7)) then (
(getI a0 v8).bind fun x79 =>
(roomO (L90000.length + ([(⟨(IntKind.wrap .i64 ((2) * x79.X)), (IntKind.wrap .i64 ((2) * x79.Y))⟩ : TP)] : List TP).length) 16).bind fun x81 =>
some (.inl ((IntKind.wrap .i64 (v8 + (1))), (L90000 ++ ([(⟨(IntKind.wrap .i64 ((2) * x79.X)), (IntKind.wrap .i64 ((2) * x79.Y))⟩ : TP)] : List TP))))) else (
some (.inr (L90000)))
def g49 (n : Nat) (a0 : List TP) : Option ρ49 :=
iterO (fun y : Int × List TP => S49_0 n a0 (a0.length : Int) y.1 y.2) n ((0), [])
abbrev ρ61 := (Int)
def g61 (n : Nat) (a0 : TP) (a1 : TP) : Option ρ61 :=
some (IntKind.wrap .i64 ((IntKind.wrap .i64 (a0.X * a1.X)) + (IntKind.wrap .i64 (a0.Y * a1.Y))))
abbrev ρ60 := (Int)
def g60 (n : Nat) (a0 : TP) (a1 : TP) : Option ρ60 :=
(g51 n a0 a1).bind fun x90 =>
(g61 n x90 x90).bind fun x91 =>
some (x91)
abbrev ρ59 := (Int)
def g59 (n : Nat) (a0 : TP) (a1 : TP) (a2_0 : Int) (a2_1 : Int) : Option ρ59 :=
(g60 n (⟨a2_0, a2_1⟩ : TP) a0).bind fun x92 =>
(g60 n (⟨a2_0, a2_1⟩ : TP) a1).bind fun x93 =>
some (IntKind.wrap .i64 (x92 - x93))
abbrev ρ50 := (Bool)
def S50_0_1_0 (n : Nat) (a0 : List TP) (a1 : List TP) (c4 : Bool) (w11 : Int) (c17 : Int) (v18 : Int) (c100 : Int) (k100010_0 : Int) (k100010_1 : Int) (k100011_0 : Int) (k100011_1 : Int) (k300041_0 : Int) (k300041_1 : Int) (u101 : Int) (L90000 : List TP) : Option ((Int × List TP) ⊕ ((Int × List TP) ⊕ ((Int) ⊕ ρ50))) :=
bif (decide (u101 < c100)) then (
(getI a1 u101).bind fun x102 =>
(g39 n a1 u101).bind fun x103 =>
(g52 n x102 x103 (⟨k300041_0, k300041_1⟩ : TP)).bind fun x104 =>
bif x104 then (
(g51 n (⟨k100011_0, k100011_1⟩ : TP) (⟨k100010_0, k100010_1⟩ : TP)).bind fun x105 =>
(g51 n x103 x102).bind fun x106 =>
(g61 n x105 x106).bind fun x107 =>
bif (decide (x107 > (0))) then (
some (.inr (.inr (.inr (true))))) else (
some (.inl ((IntKind.wrap .i64 (u101 + (1))), L90000)))) else (
some (.inl ((IntKind.wrap .i64 (u101 + (1))), L90000)))) else (
some (.inr (.inl ((IntKind.wrap .i64 (w11 + (1))), L90000))))
def S50_0_1 (n : Nat) (a0 : List TP) (a1 : List TP) (c4 : Bool) (c17 : Int) (v18 : Int) (k100010_0 : Int) (k100010_1 : Int) (k100011_0 : Int) (k100011_1 : Int) (w11 : Int) (L90000 : List TP) : Option ((Int × List TP) ⊕ ((Int) ⊕ ρ50)) :=
bif (decide (w11 < (L90000.length : Int))) then (
(getI L90000 w11).bind fun x95 =>
(getI L90000 (IntKind.wrap .i64 (w11 - (1)))).bind fun x96 =>
bif (decide (x95 = x96)) then (
some (.inl ((IntKind.wrap .i64 (w11 + (1))), L90000))) else (
(getI L90000 w11).bind fun x97 =>
(getI L90000 (IntKind.wrap .i64 (w11 - (1)))).bind fun x98 =>
(getI L90000 w11).bind fun x99 =>
(getI L90000 (IntKind.wrap .i64 (w11 - (1)))).bind fun x100 =>
(g43 n a1 (⟨(IntKind.wrap .i64 (Int.tdiv (IntKind.wrap .i64 (x97.X + x98.X)) (2))), (IntKind.wrap .i64 (Int.tdiv (IntKind.wrap .i64 (x99.Y + x100.Y)) (2)))⟩ : TP)).bind fun x101 =>
bif (x101 == (1)) then (
some (.inr (.inr (true)))) else (
bif (x101 == (0)) then (
iterO (fun y : Int × List TP => S50_0_1_0 n a0 a1 c4 w11 c17 v18 (a1.length : Int) k100010_0 k100010_1 k100011_0 k100011_1 (IntKind.wrap .i64 (Int.tdiv (IntKind.wrap .i64 (x97.X + x98.X)) (2))) (IntKind.wrap .i64 (Int.tdiv (IntKind.wrap .i64 (x99.Y + x100.Y)) (2))) y.1 y.2) n ((0), L90000)) else (
some (.inl ((IntKind.wrap .i64 (w11 + (1))), L90000)))))) else (
some (.inr (.inl (IntKind.wrap .i64 (v18 + (1))))))
def S50_0_0 (n : Nat) (a0 : List TP) (a1 : List TP) (c4 : Bool) (c17 : Int) (v18 : Int) (c32 : Int) (k100010_0 : Int) (k100010_1 : Int) (k100011_0 : Int) (k100011_1 : Int) (w33 : Int) (L90000 : List TP) : Option ((Int × List TP) ⊕ ((Int) ⊕ ρ50)) :=
bif (decide (w33 < c32)) then (
(getI a1 w33).bind fun x86 =>
(g52 n (⟨k100010_0, k100010_1⟩ : TP) (⟨k100011_0, k100011_1⟩ : TP) x86).bind fun x87 =>
bif x87 then (
(roomO (L90000.length + ([x86] : List TP).length) 16).bind fun x89 =>
some (.inl ((IntKind.wrap .i64 (w33 + (1))), (L90000 ++ ([x86] : List TP))))) else (
some (.inl ((IntKind.wrap .i64 (w33 + (1))), L90000)))) else (
(sortO (fun x y => g59 n x y k100010_0 k100010_1) L90000).bind fun x94 =>
((iterO (fun y : Int × List TP => S50_0_1 n a0 a1 c4 c17 v18 k100010_0 k100010_1 k100011_0 k100011_1 y.1 y.2) n ((1), x94)).map Sum.inr))
def S50_0 (n : Nat) (a0 : List TP) (a1 : List TP) (c4 : Bool) (c17 : Int) (v18 : Int) : Option ((Int) ⊕ ρ50) :=
bif (decide (v18 < c17)) then (
(getI a0 v18).bind fun x84 =>
(g39 n a0 v18).bind fun x85 =>
iterO (fun y : Int × List TP => S50_0_0 n a0 a1 c4 c17 v18 (a1.length : Int) x84.X x84.Y x85.X x85.Y y.1 y.2) n ((0), ([x84, x85] : List TP))) else (
some (.inr (false)))
def g50 (n : Nat) (a0 : List TP) (a1 : List TP) : Option ρ50 :=
iterO (fun y : Int => S50_0 n a0 a1 false (a0.length : Int) y) n (0)
abbrev ρ37 := (Bool × Int)
def S37_1_0 (n : Nat) (a0 : List TP) (a1 : List TP) (c4 : Bool) (c5 : Int) (v27 : Int) (c26 : Int) (c31 : Int) (w32 : Int) : Option ((Int) ⊕ ((Int) ⊕ ρ37)) :=
bif (decide (w32 < c31)) then (
(getI a0 v27).bind fun x74 =>
(g39 n a0 v27).bind fun x75 =>
(getI a1 w32).bind fun x76 =>
(g39 n a1 w32).bind fun x77 =>
(g48 n x74 x75 x76 x77).bind fun x78 =>
bif x78 then (
some (.inr (.inr (true, (0))))) else (
some (.inl (IntKind.wrap .i64 (w32 + (1)))))) else (
some (.inr (.inl (IntKind.wrap .i64 (v27 + (1))))))
def S37_1 (n : Nat) (a0 : List TP) (a1 : List TP) (c4 : Bool) (c5 : Int) (c26 : Int) (v27 : Int) : Option ((Int) ⊕ ρ37) :=
bif (decide (v27 < c26)) then (
iterO (fun y : Int => S37_1_0 n a0 a1 c4 c5 v27 c26 (a1.length : Int) y) n (0)) else (
(g49 n a0).bind fun x82 =>
(g49 n a1).bind fun x83 =>
(g50 n x82 x83).bind fun x108 =>
bif x108 then (
some (.inr (true, (0)))) else (
(g50 n x83 x82).bind fun x109 =>
some (.inr (x109, (0)))))
def S37_0 (n : Nat) (a0 : List TP) (a1 : List TP) (c4 : Bool) (c5 : Int) (c13 : List (List TP)) (c14 : Int) (v15 : Int) : Option ((Int) ⊕ ρ37) :=
bif (decide (v15 < c14)) then (
(getI c13 v15).bind fun x72 =>
(g29 n x72).bind fun x73 =>
bif (x73 != (0)) then (
some (.inr (false, x73))) else (
some (.inl (IntKind.wrap .i64 (v15 + (1)))))) else (
((iterO (fun y : Int => S37_1 n a0 a1 c4 c5 (a0.length : Int) y) n (0)).map Sum.inr))
def g37 (n : Nat) (a0 : List TP) (a1 : List TP) : Option ρ37 :=
iterO (fun y : Int => S37_0 n a0 a1 false (0) ([a0, a1] : List (List TP)) (([a0, a1] : List (List TP)).length : Int) y) n (0)
abbrev ρ27 := (Bool × Int)
def S27_0 (n : Nat) (c4 : Bool) (c5 : Int) (c13 : List TVolume) (c14 : Int) (k0_0 : List TP) (k0_1 : Int) (k0_2 : Int) (k1_0 : List TP) (k1_1 : Int) (k1_2 : Int) (v15 : Int) : Option ((Int) ⊕ ρ27) :=
bif (decide (v15 < c14)) then (
(getI c13 v15).bind fun x70 =>
(g24 n x70).bind fun x71 =>
bif (x71 != (0)) then (
some (.inr (false, x71))) else (
some (.inl (IntKind.wrap .i64 (v15 + (1)))))) else (
(g37 n k0_0 k1_0).bind fun x110 =>
bif (x110.2 == (0)) then (
bif x110.1 then (
some (.inr ((decide ((if k1_1 > k0_1 then k1_1 else k0_1) < (if k1_2 < k0_2 then k1_2 else k0_2))), x110.2))) else (
some (.inr (false, x110.2)))) else (
some (.inr (false, x110.2))))
def g27 (n : Nat) (a0 : TVolume) (a1 : TVolume) : Option ρ27 :=
iterO (fun y : Int => S27_0 n false (0) ([a0, a1] : List TVolume) (([a0, a1] : List TVolume).length : Int) a0.Area a0.Low a0.High a1.Area a1.Low a1.High y) n (0)
abbrev ρ14 := (Int)
def S14_0_0 (n : Nat) (a0 : List TSector) (c2 : Int) (v20 : Int) (c19 : Int) (c41 : List TVolume) (c42 : Int) (k100004_0 : ByteArray) (w43 : Int) (L90000 : List TVolume) : Option ((Int × List TVolume) ⊕ ((Int × List TVolume) ⊕ ρ14)) :=
bif (decide (w43 < c42)) then (
(getI c41 w43).bind fun x31 =>
(g24 n x31).bind fun x59 =>
bif (x59 != (0)) then (
some (.inr (.inr (x59)))) else (
some (.inl ((IntKind.wrap .i64 (w43 + (1))), L90000)))) else (
(sliceO a0 none (some v20)).bind fun x60 =>
(g25 n x60 k100004_0 c41).bind fun x64 =>
bif x64 then (
some (.inr (.inr (7)))) else (
(neO c41).bind fun x65 =>
(roomO (L90000.length + c41.length) 40).bind fun x66 =>
some (.inr (.inl ((IntKind.wrap .i64 (v20 + (1))), (L90000 ++ c41))))))
def S14_1_0 (n : Nat) (c2 : Int) (L90000 : List TVolume) (c64 : Int) (v65 : Int) (x68 : List TVolume) (c73 : Int) (k200004_0 : List TP) (k200004_1 : Int) (k200004_2 : Int) (w74 : Int) : Option ((Int) ⊕ ((Int) ⊕ ρ14)) :=
bif (decide (w74 < c73)) then (
(getI x68 w74).bind fun x69 =>
(g27 n (⟨k200004_0, k200004_1, k200004_2⟩ : TVolume) x69).bind fun x111 =>
bif x111.1 then (
some (.inr (.inr (19)))) else (
some (.inl (IntKind.wrap .i64 (w74 + (1)))))) else (
some (.inr (.inl (IntKind.wrap .i64 (v65 + (1))))))
def S14_1 (n : Nat) (c2 : Int) (L90000 : List TVolume) (c64 : Int) (v65 : Int) : Option ((Int) ⊕ ρ14) :=
bif (decide (v65 < c64)) then (
(getI L90000 v65).bind fun x67 =>
(sliceO L90000 none (some v65)).bind fun x68 =>
iterO (fun y : Int => S14_1_0 n c2 L90000 c64 v65 x68 (x68.length : Int) x67.Area x67.Low x67.High y) n (0)) else (
some (.inr (0)))
def S14_0 (n : Nat) (a0 : List TSector) (c2 : Int) (c19 : Int) (v20 : Int) (L90000 : List TVolume) : Option ((Int × List TVolume) ⊕ ρ14) :=
bif (decide (v20 < c19)) then (
(getI a0 v20).bind fun x26 =>
(g16 n x26.Name).bind fun x30 =>
bif (!x30) then (
some (.inr (3))) else (
bif ((x26.Room.length : Int) == (0)) then (
some (.inr (8))) else (
bif (decide ((x26.Room.length : Int) > (4))) then (
some (.inr (2))) else (
iterO (fun y : Int × List TVolume => S14_0_0 n a0 c2 v20 c19 x26.Room (x26.Room.length : Int) x26.Name y.1 y.2) n ((0), L90000))))) else (
((iterO (fun y : Int => S14_1 n c2 L90000 (L90000.length : Int) y) n (0)).map Sum.inr))
def g14 (n : Nat) (a0 : List TSector) : Option ρ14 :=
bif (decide ((a0.length : Int) > (12))) then (
some (2)) else (
iterO (fun y : Int × List TVolume => S14_0 n a0 (0) (a0.length : Int) y.1 y.2) n ((0), []))
abbrev ρ54 := (Int)
def g54 (n : Nat) (a0 : TTubeNode) (a1 : Int) : Option ρ54 :=
some (IntKind.wrap .i64 (a0.Node_Time - a1))
abbrev ρ53 := (Int × Bool)
def S53_0 (n : Nat) (a0 : List TTubeNode) (a1 : Int) (c6 : Int) (c7 : Bool) (c8 : Int) (v9 : Int) (v10 : Int) : Option ((Int × Int) ⊕ ρ53) :=
bif (decide (v9 < v10)) then (
(getI a0 (IntKind.wrap .i64 (Int.fdiv (IntKind.wrap .u64 (IntKind.wrap .i64 (v9 + v10))) 2))).bind fun x112 =>
(g54 n x112 a1).bind fun x113 =>
bif (decide (x113 < (0))) then (
some (.inl ((IntKind.wrap .i64 ((IntKind.wrap .i64 (Int.fdiv (IntKind.wrap .u64 (IntKind.wrap .i64 (v9 + v10))) 2)) + (1))), v10))) else (
some (.inl (v9, (IntKind.wrap .i64 (Int.fdiv (IntKind.wrap .u64 (IntKind.wrap .i64 (v9 + v10))) 2)))))) else (
bif (decide (v9 < c8)) then (
(getI a0 v9).bind fun x114 =>
(g54 n x114 a1).bind fun x115 =>
some (.inr (v9, (x115 == (0))))) else (
some (.inr (v9, false))))
def g53 (n : Nat) (a0 : List TTubeNode) (a1 : Int) : Option ρ53 :=
iterO (fun y : Int × Int => S53_0 n a0 a1 (0) false (a0.length : Int) y.1 y.2) n ((0), (a0.length : Int))
abbrev ρ56 := (Int × Int)
def g56 (n : Nat) (a0 : Int) (a1 : Int) : Option ρ56 :=
bif (a1 == (0)) then (
some ((0), (10))) else (
bif (a0 == (-9223372036854775808)) then (
bif (a1 == (-1)) then (
some ((0), (2))) else (
(divO a0 a1).bind fun x124 =>
(modO a0 a1).bind fun x125 =>
bif (x125 != (0)) then (
bif (!((decide (a0 < (0))) == (decide (a1 < (0))))) then (
some ((IntKind.wrap .i64 ((IntKind.wrap .i64 x124) - (1))), (0))) else (
some ((IntKind.wrap .i64 x124), (0)))) else (
some ((IntKind.wrap .i64 x124), (0))))) else (
(divO a0 a1).bind fun x126 =>
(modO a0 a1).bind fun x127 =>
bif (x127 != (0)) then (
bif (!((decide (a0 < (0))) == (decide (a1 < (0))))) then (
some ((IntKind.wrap .i64 ((IntKind.wrap .i64 x126) - (1))), (0))) else (
some ((IntKind.wrap .i64 x126), (0)))) else (
some ((IntKind.wrap .i64 x126), (0)))))
abbrev ρ55 := (TP × Int)
def g55 (n : Nat) (a0 : TP) (a1 : TP) (a2 : Int) (a3 : Int) : Option ρ55 :=
bif (decide (a3 ≤ (0))) then (
some ((⟨(0), (0)⟩ : TP), (10))) else (
bif (decide (a3 > (200000))) then (
some ((⟨(0), (0)⟩ : TP), (4))) else (
bif (decide (a2 < (0))) then (
some ((⟨(0), (0)⟩ : TP), (4))) else (
bif (decide (a2 > a3)) then (
some ((⟨(0), (0)⟩ : TP), (4))) else (
(g19 n a0).bind fun x120 =>
bif (x120 != (0)) then (
(g19 n a0).bind fun x121 =>
some ((⟨(0), (0)⟩ : TP), x121)) else (
(g19 n a1).bind fun x122 =>
bif (x122 != (0)) then (
(g19 n a1).bind fun x123 =>
some ((⟨(0), (0)⟩ : TP), x123)) else (
(g56 n (IntKind.wrap .i64 ((IntKind.wrap .i64 (a1.X - a0.X)) * a2)) a3).bind fun x128 =>
(g56 n (IntKind.wrap .i64 ((IntKind.wrap .i64 (a1.Y - a0.Y)) * a2)) a3).bind fun x129 =>
some ((⟨(IntKind.wrap .i64 (a0.X + x128.1)), (IntKind.wrap .i64 (a0.Y + x129.1))⟩ : TP), (0))))))))
abbrev ρ57 := (Int × Int)
def g57 (n : Nat) (a0 : Int) (a1 : Int) : Option ρ57 :=
(g56 n a0 a1).bind fun x132 =>
bif (x132.2 == (0)) then (
(modO a0 a1).bind fun x133 =>
bif (x133 != (0)) then (
some ((IntKind.wrap .i64 (x132.1 + (1))), x132.2)) else (
some (x132.1, x132.2))) else (
some (x132.1, x132.2))
abbrev ρ47 := (TTubeNode)
def g47 (n : Nat) (a0 : List TTubeNode) (a1 : Int) : Option ρ47 :=
(g53 n a0 a1).bind fun x116 =>
bif x116.2 then (
(getI a0 x116.1).bind fun x117 =>
some (x117)) else (
(getI a0 (IntKind.wrap .i64 (x116.1 - (1)))).bind fun x118 =>
(getI a0 x116.1).bind fun x119 =>
(g55 n (⟨x118.Node_At_X, x118.Node_At_Y⟩ : TP) (⟨x119.Node_At_X, x119.Node_At_Y⟩ : TP) (IntKind.wrap .i64 (a1 - x118.Node_Time)) (IntKind.wrap .i64 (x119.Node_Time - x118.Node_Time))).bind fun x130 =>
(g56 n (IntKind.wrap .i64 ((IntKind.wrap .i64 (x119.Node_Height - x118.Node_Height)) * (IntKind.wrap .i64 (a1 - x118.Node_Time)))) (IntKind.wrap .i64 (x119.Node_Time - x118.Node_Time))).bind fun x131 =>
(g57 n (IntKind.wrap .i64 ((IntKind.wrap .i64 (x119.Radius - x118.Radius)) * (IntKind.wrap .i64 (a1 - x118.Node_Time)))) (IntKind.wrap .i64 (x119.Node_Time - x118.Node_Time))).bind fun x134 =>
(g57 n (IntKind.wrap .i64 ((IntKind.wrap .i64 (x119.Band - x118.Band)) * (IntKind.wrap .i64 (a1 - x118.Node_Time)))) (IntKind.wrap .i64 (x119.Node_Time - x118.Node_Time))).bind fun x135 =>
some (⟨a1, x130.1.X, x130.1.Y, (IntKind.wrap .i64 (x118.Node_Height + x131.1)), (IntKind.wrap .i64 (x118.Radius + x134.1)), (IntKind.wrap .i64 (x118.Band + x135.1))⟩ : TTubeNode))
def visAdd (L : List TSectorVisit) (i u : Int) : List TSectorVisit := match L.getLast? with
  | some v => bif v.Sector == i then L.dropLast ++ [⟨v.Sector, v.From, u⟩] else L ++ [⟨i, u, u⟩]
  | none => [⟨i, u, u⟩]
def visGo (n : Nat) (l : List TSector) (t : List TTubeNode) : Nat → Int → List TSectorVisit → Option (List TSectorVisit)
  | 0, _, L => some L
  | k + 1, u, L => (g47 n t u).bind fun x => (g20 n l (⟨x.Node_At_X, x.Node_At_Y⟩ : TP) x.Node_Height).bind fun i => visGo n l t k (u + 1) (visAdd L i x.Node_Time)
abbrev ρ23 := List TSectorVisit
def g23 (n : Nat) (l : List TSector) (t : List TTubeNode) : Option (List TSectorVisit) :=
  (g22 n t).bind fun z => bif z != 0 then none else
  (g46 n t).bind fun q => if 0 ≤ q.1 ∧ q.1 ≤ q.2 ∧ q.2 ≤ 1000000 ∧ t.length ≤ 64 then visGo n l t (q.2 - q.1 + 1).toNat q.1 [] else none

abbrev ρ12 := ((List TSectorVisit) × Int)
def g12 (n : Nat) (a0 : List TSector) (a1 : List TTubeNode) : Option ρ12 :=
(g14 n a0).bind fun x136 =>
bif (x136 != (0)) then (
some ([], x136)) else (
(g22 n a1).bind fun x137 =>
bif (x137 != (0)) then (
some ([], x137)) else (
(getI a1 (IntKind.wrap .i64 ((a1.length : Int) - (1)))).bind fun x138 =>
(getI a1 (0)).bind fun x139 =>
bif (decide ((IntKind.wrap .i64 (x138.Node_Time - x139.Node_Time)) > (20000))) then (
some ([], (2))) else (
(g23 n a0 a1).bind fun x140 =>
some (x140, (0)))))
abbrev ρ17 := (Int)
def S17_0 (n : Nat) (c2 : Int) (c10_0 : Int) (c10_1 : Int) (c10_2 : Int) (c10_3 : Int) (k0_4 : Int) (k0_5 : Int) (v11 : Int) : Option ((Int) ⊕ ρ17) :=
bif (decide (v11 < (2))) then (
(getI ([(⟨c10_0, c10_1⟩ : TP), (⟨c10_2, c10_3⟩ : TP)] : List TP) v11).bind fun x143 =>
(g19 n x143).bind fun x144 =>
bif (x144 != (0)) then (
some (.inr (x144))) else (
some (.inl (IntKind.wrap .i64 (v11 + (1)))))) else (
bif (decide (c10_0 ≥ c10_2)) then (
some (.inr (4))) else (
bif (decide (c10_1 ≥ c10_3)) then (
some (.inr (4))) else (
bif (decide (k0_4 < (0))) then (
some (.inr (4))) else (
bif (decide (k0_4 ≥ k0_5)) then (
some (.inr (4))) else (
bif (decide (k0_5 > (60001))) then (
some (.inr (4))) else (
some (.inr (0))))))))
def g17 (n : Nat) (a0 : TSectorBox) : Option ρ17 :=
iterO (fun y : Int => S17_0 n (0) a0.From_X a0.From_Y a0.To_X a0.To_Y a0.Low a0.High y) n (0)
abbrev ρ18 := (Int × Int)
def g18 (n : Nat) (a0 : List TP) : Option ρ18 :=
(g29 n a0).bind fun x149 =>
bif (x149 != (0)) then (
some ((0), x149)) else (
(g30 n a0).bind fun x150 =>
some (x150, (0)))
abbrev ρ6 := (Int × Int)
def S6_0_0_0 (n : Nat) (c4 : Int) (w8 : Int) (a0 : List TSector) (c50 : Int) (v51 : Int) (c56 : List TVolume) (c57 : Int) (w58 : Int) (c75 : List TP) (c76 : Int) (k0_0 : Int) (k0_1 : Int) (k0_2 : Int) (k0_3 : Int) (k0_4 : Int) (k0_5 : Int) (k200003_1 : Int) (k200003_2 : Int) (u77 : Int) : Option ((Int) ⊕ ((Int × Int) ⊕ ((Int × Int) ⊕ ρ6))) :=
bif (decide (u77 < c76)) then (
(getI c75 u77).bind fun x148 =>
bif (decide (x148.X < k0_0)) then (
some (.inr (.inr (.inr ((0), (19)))))) else (
bif (decide (x148.X > k0_2)) then (
some (.inr (.inr (.inr ((0), (19)))))) else (
bif (decide (x148.Y < k0_1)) then (
some (.inr (.inr (.inr ((0), (19)))))) else (
bif (decide (x148.Y > k0_3)) then (
some (.inr (.inr (.inr ((0), (19)))))) else (
some (.inl (IntKind.wrap .i64 (u77 + (1))))))))) else (
(g18 n c75).bind fun x151 =>
some (.inr (.inl ((IntKind.wrap .i64 (w8 - (IntKind.wrap .i64 (x151.1 * (IntKind.wrap .i64 (k200003_2 - k200003_1)))))), (IntKind.wrap .i64 (w58 + (1)))))))
def S6_0_0 (n : Nat) (c4 : Int) (a0 : List TSector) (c50 : Int) (v51 : Int) (c56 : List TVolume) (c57 : Int) (k0_0 : Int) (k0_1 : Int) (k0_2 : Int) (k0_3 : Int) (k0_4 : Int) (k0_5 : Int) (w8 : Int) (w58 : Int) : Option ((Int × Int) ⊕ ((Int × Int) ⊕ ρ6)) :=
bif (decide (w58 < c57)) then (
(getI c56 w58).bind fun x147 =>
bif (decide (x147.Low < k0_4)) then (
some (.inr (.inr ((0), (19))))) else (
bif (decide (x147.High > k0_5)) then (
some (.inr (.inr ((0), (19))))) else (
iterO (fun y : Int => S6_0_0_0 n c4 w8 a0 c50 v51 c56 c57 w58 x147.Area (x147.Area.length : Int) k0_0 k0_1 k0_2 k0_3 k0_4 k0_5 x147.Low x147.High y) n (0)))) else (
some (.inr (.inl (w8, (IntKind.wrap .i64 (v51 + (1)))))))
def S6_0 (n : Nat) (c4 : Int) (a0 : List TSector) (c50 : Int) (k0_0 : Int) (k0_1 : Int) (k0_2 : Int) (k0_3 : Int) (k0_4 : Int) (k0_5 : Int) (v8 : Int) (v51 : Int) : Option ((Int × Int) ⊕ ρ6) :=
bif (decide (v51 < c50)) then (
(getI a0 v51).bind fun x146 =>
iterO (fun y : Int × Int => S6_0_0 n c4 a0 c50 v51 x146.Room (x146.Room.length : Int) k0_0 k0_1 k0_2 k0_3 k0_4 k0_5 y.1 y.2) n (v8, (0))) else (
some (.inr (v8, (0))))
def g6 (n : Nat) (a0 : List TSector) (a1 : TSectorBox) : Option ρ6 :=
(g14 n a0).bind fun x142 =>
bif (x142 != (0)) then (
some ((0), x142)) else (
(g17 n a1).bind fun x145 =>
bif (x145 != (0)) then (
some ((0), x145)) else (
iterO (fun y : Int × Int => S6_0 n (0) a0 (a0.length : Int) a1.From_X a1.From_Y a1.To_X a1.To_Y a1.Low a1.High y.1 y.2) n ((IntKind.wrap .i64 ((IntKind.wrap .i64 ((IntKind.wrap .i64 ((2) * (IntKind.wrap .i64 (a1.To_X - a1.From_X)))) * (IntKind.wrap .i64 (a1.To_Y - a1.From_Y)))) * (IntKind.wrap .i64 (a1.High - a1.Low)))), (0))))
abbrev ρ7 := (Int)
def g7 (n : Nat) (a0 : Int) (a1 : Int) : Option ρ7 :=
(modO (IntKind.wrap .u64 a0) (IntKind.wrap .u64 a1)).bind fun x153 =>
some (IntKind.wrap .i64 x153)
abbrev ρ5 := Bool
def g5 (n : Nat) : Option ρ5 := some true

abbrev ρ4 := (Bool)
def g4 (n : Nat) (a0 : List TSector) (a1 : TSectorBox) (a2 : Int) : Option ρ4 :=
(g5 n).bind fun x141 =>
bif (!x141) then (
some (false)) else (
(g6 n a0 a1).bind fun x152 =>
bif (x152.2 != (0)) then (
bif (x152.1 == (0)) then (
some (true)) else (
some (x152.2 == (0)))) else (
bif ((a0.length : Int) == (0)) then (
bif (x152.1 == (0)) then (
some (true)) else (
some (x152.2 == (0)))) else (
(g7 n a2 (a0.length : Int)).bind fun x154 =>
(roomO a0.length 40).bind fun x155 =>
(delO 40 a0 x154 (IntKind.wrap .i64 (x154 + (1)))).bind fun x156 =>
(g6 n x156 a1).bind fun x157 =>
(sliceO a0 (some x154) (some (IntKind.wrap .i64 (x154 + (1))))).bind fun x158 =>
(g6 n x158 a1).bind fun x159 =>
(g6 n ([] : List TSector) a1).bind fun x160 =>
bif (x157.2 == (0)) then (
bif (x159.2 == (0)) then (
bif (x160.2 == (0)) then (
bif ((IntKind.wrap .i64 (x157.1 - x152.1)) == (IntKind.wrap .i64 (x160.1 - x159.1))) then (
bif (decide (x152.1 ≥ (0))) then (
bif (decide (x157.1 > x152.1)) then (
some (decide (x160.1 ≥ x157.1))) else (
some (false))) else (
some (false))) else (
some (false))) else (
some (false))) else (
some (false))) else (
some (false)))))
abbrev ρ8 := (Int × Int)
def g8 (n : Nat) (a0 : List TSector) (a1 : TP) (a2 : Int) : Option ρ8 :=
(g14 n a0).bind fun x166 =>
bif (x166 != (0)) then (
some ((0), x166)) else (
(g19 n a1).bind fun x167 =>
bif (x167 != (0)) then (
some ((0), x167)) else (
bif (decide (a2 < (0))) then (
some ((0), (4))) else (
bif (decide (a2 > (60000))) then (
some ((0), (4))) else (
(g20 n a0 a1 a2).bind fun x168 =>
bif (decide (x168 < (0))) then (
some ((0), (8))) else (
some (x168, (0)))))))
abbrev ρ3 := (Bool)
def g3 (n : Nat) (a0 : List TSector) (a1 : TSectorBox) (a2 : TP) (a3 : Int) : Option ρ3 :=
(g5 n).bind fun x161 =>
bif (!x161) then (
some (false)) else (
(g6 n a0 a1).bind fun x162 =>
bif (x162.2 != (0)) then (
some (true)) else (
bif (x162.1 != (0)) then (
some (true)) else (
(g7 n a2.X (IntKind.wrap .i64 ((IntKind.wrap .i64 (a1.To_X - a1.From_X)) + (1)))).bind fun x163 =>
(g7 n a2.Y (IntKind.wrap .i64 ((IntKind.wrap .i64 (a1.To_Y - a1.From_Y)) + (1)))).bind fun x164 =>
(g7 n a3 (IntKind.wrap .i64 ((IntKind.wrap .i64 ((if (60000) < a1.High then (60000) else a1.High) - a1.Low)) + (1)))).bind fun x165 =>
(g8 n a0 (⟨(IntKind.wrap .i64 (a1.From_X + x163)), (IntKind.wrap .i64 (a1.From_Y + x164))⟩ : TP) (IntKind.wrap .i64 (a1.Low + x165))).bind fun x169 =>
bif ((IntKind.wrap .i64 (a1.Low + x165)) == a1.High) then (
some (true)) else (
bif (x169.2 == (0)) then (
bif (decide (x169.1 ≥ (0))) then (
some (decide (x169.1 < (a0.length : Int)))) else (
some (false))) else (
some (false))))))
end Go.Proofs.Ytfncpfnanmoapaa
