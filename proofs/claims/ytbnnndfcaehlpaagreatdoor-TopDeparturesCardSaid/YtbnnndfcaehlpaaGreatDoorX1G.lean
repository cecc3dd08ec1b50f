/- Plain functional programs out of the program's functions; printed by wip/Ext.lean.txt. -/
import Derived.Test.YtbnnndfcaehlpaaGreatDoorX1T
import Derived.Test.YtbnnndfcaehlpaaGreatDoorPJ
import Derived.Test.YtbnnndfcaehlpaaGreatDoorPL
set_option linter.unusedVariables false
set_option linter.unusedSimpArgs false
set_option maxRecDepth 100000
set_option maxHeartbeats 4000000
namespace Go.Proofs.YtbnnndfcaehlpaaGreatDoor
abbrev ρ159 := (Int)
def g159 (n : Nat) (a0 : TSep) : Option ρ159 :=
bif (decide (a0.Lateral < (0))) then (
some (4)) else (
bif (decide (a0.Lateral > (1000000))) then (
some (4)) else (
bif (decide (a0.Vertical < (0))) then (
some (4)) else (
bif (decide (a0.Vertical > (60000))) then (
some (4)) else (
some (0)))))
abbrev ρ72 := (Int)
def g72 (n : Nat) (a0 : TP) : Option ρ72 :=
bif (decide (a0.X < (-1000000))) then (
some (4)) else (
bif (decide (a0.X > (1000000))) then (
some (4)) else (
bif (decide (a0.Y < (-1000000))) then (
some (4)) else (
bif (decide (a0.Y > (1000000))) then (
some (4)) else (
some (0)))))
abbrev ρ67 := (Int)
def S67_0 (n : Nat) (a0 : List TTubeNode) (c2 : Int) (c15 : Int) (v16 : Int) : Option ((Int) ⊕ ρ67) :=
bif (decide (v16 < c15)) then (
(getI a0 v16).bind fun x0 =>
bif (decide (x0.Node_Time < (0))) then (
some (.inr (12))) else (
bif (decide (x0.Node_Time > (200000))) then (
some (.inr (12))) else (
bif (decide (v16 > (0))) then (
(getI a0 (IntKind.wrap .i64 (v16 - (1)))).bind fun x1 =>
bif (decide (x0.Node_Time ≤ x1.Node_Time)) then (
some (.inr (12))) else (
(g72 n (⟨x0.Node_At_X, x0.Node_At_Y⟩ : TP)).bind fun x2 =>
bif (x2 != (0)) then (
some (.inr (x2))) else (
bif (decide (x0.Node_Height < (0))) then (
some (.inr (4))) else (
bif (decide (x0.Node_Height > (60000))) then (
some (.inr (4))) else (
bif (decide (x0.Radius < (0))) then (
some (.inr (4))) else (
bif (decide (x0.Radius > (1000000))) then (
some (.inr (4))) else (
bif (decide (x0.Band < (0))) then (
some (.inr (4))) else (
bif (decide (x0.Band > (60000))) then (
some (.inr (4))) else (
some (.inl (IntKind.wrap .i64 (v16 + (1))))))))))))) else (
(g72 n (⟨x0.Node_At_X, x0.Node_At_Y⟩ : TP)).bind fun x3 =>
bif (x3 != (0)) then (
some (.inr (x3))) else (
bif (decide (x0.Node_Height < (0))) then (
some (.inr (4))) else (
bif (decide (x0.Node_Height > (60000))) then (
some (.inr (4))) else (
bif (decide (x0.Radius < (0))) then (
some (.inr (4))) else (
bif (decide (x0.Radius > (1000000))) then (
some (.inr (4))) else (
bif (decide (x0.Band < (0))) then (
some (.inr (4))) else (
bif (decide (x0.Band > (60000))) then (
some (.inr (4))) else (
some (.inl (IntKind.wrap .i64 (v16 + (1))))))))))))))) else (
some (.inr (0)))
def g67 (n : Nat) (a0 : List TTubeNode) : Option ρ67 :=
bif (decide ((a0.length : Int) > (64))) then (
some (2)) else (
bif ((a0.length : Int) == (0)) then (
some (3)) else (
iterO (fun y : Int => S67_0 n a0 (0) (a0.length : Int) y) n (0)))
abbrev ρ140 := (Int)
def S140_0 (n : Nat) (c4 : Int) (a1 : List (List TTubeNode)) (c15 : Int) (v16 : Int) : Option ((Int) ⊕ ρ140) :=
bif (decide (v16 < c15)) then (
(getI a1 v16).bind fun x5 =>
(g67 n x5).bind fun x6 =>
bif (x6 != (0)) then (
some (.inr (x6))) else (
some (.inl (IntKind.wrap .i64 (v16 + (1)))))) else (
some (.inr (0)))
def g140 (n : Nat) (a0 : TSep) (a1 : List (List TTubeNode)) : Option ρ140 :=
(g159 n a0).bind fun x4 =>
bif (x4 != (0)) then (
some (x4)) else (
iterO (fun y : Int => S140_0 n (0) a1 (a1.length : Int) y) n (0))
abbrev ρ196 := (Int × Int)
def g196 (n : Nat) (a0 : List TTubeNode) (a1 : List TTubeNode) : Option ρ196 :=
(getI a0 (0)).bind fun x8 =>
(getI a1 (0)).bind fun x9 =>
(getI a0 (IntKind.wrap .i64 ((a0.length : Int) - (1)))).bind fun x10 =>
(getI a1 (IntKind.wrap .i64 ((a1.length : Int) - (1)))).bind fun x11 =>
some ((if x9.Node_Time > x8.Node_Time then x9.Node_Time else x8.Node_Time), (if x11.Node_Time < x10.Node_Time then x11.Node_Time else x10.Node_Time))
abbrev ρ133 := (Int × Int)
def g133 (n : Nat) (a0 : List TTubeNode) : Option ρ133 :=
(getI a0 (0)).bind fun x14 =>
(getI a0 (IntKind.wrap .i64 ((a0.length : Int) - (1)))).bind fun x15 =>
some (x14.Node_Time, x15.Node_Time)
abbrev ρ185 := (Int)
def g185 (n : Nat) (a0 : TTubeNode) (a1 : Int) : Option ρ185 :=
some (IntKind.wrap .i64 (a0.Node_Time - a1))
abbrev ρ184 := (Int × Bool)
def S184_0 (n : Nat) (a0 : List TTubeNode) (a1 : Int) (c6 : Int) (c7 : Bool) (c8 : Int) (v9 : Int) (v10 : Int) : Option ((Int × Int) ⊕ ρ184) :=
bif (decide (v9 < v10)) then (
(getI a0 (IntKind.wrap .i64 (Int.fdiv (IntKind.wrap .u64 (IntKind.wrap .i64 (v9 + v10))) 2))).bind fun x17 =>
(g185 n x17 a1).bind fun x18 =>
bif (decide (x18 < (0))) then (
some (.inl ((IntKind.wrap .i64 ((IntKind.wrap .i64 (Int.fdiv (IntKind.wrap .u64 (IntKind.wrap .i64 (v9 + v10))) 2)) + (1))), v10))) else (
some (.inl (v9, (IntKind.wrap .i64 (Int.fdiv (IntKind.wrap .u64 (IntKind.wrap .i64 (v9 + v10))) 2)))))) else (
bif (decide (v9 < c8)) then (
(getI a0 v9).bind fun x19 =>
(g185 n x19 a1).bind fun x20 =>
some (.inr (v9, (x20 == (0))))) else (
some (.inr (v9, false))))
def g184 (n : Nat) (a0 : List TTubeNode) (a1 : Int) : Option ρ184 :=
iterO (fun y : Int × Int => S184_0 n a0 a1 (0) false (a0.length : Int) y.1 y.2) n ((0), (a0.length : Int))
abbrev ρ187 := (Int × Int)
def g187 (n : Nat) (a0 : Int) (a1 : Int) : Option ρ187 :=
bif (a1 == (0)) then (
some ((0), (10))) else (
bif (a0 == (-9223372036854775808)) then (
bif (a1 == (-1)) then (
some ((0), (2))) else (
(divO a0 a1).bind fun x29 =>
(modO a0 a1).bind fun x30 =>
bif (x30 != (0)) then (
bif (!((decide (a0 < (0))) == (decide (a1 < (0))))) then (
some ((IntKind.wrap .i64 ((IntKind.wrap .i64 x29) - (1))), (0))) else (
some ((IntKind.wrap .i64 x29), (0)))) else (
some ((IntKind.wrap .i64 x29), (0))))) else (
(divO a0 a1).bind fun x31 =>
(modO a0 a1).bind fun x32 =>
bif (x32 != (0)) then (
bif (!((decide (a0 < (0))) == (decide (a1 < (0))))) then (
some ((IntKind.wrap .i64 ((IntKind.wrap .i64 x31) - (1))), (0))) else (
some ((IntKind.wrap .i64 x31), (0)))) else (
some ((IntKind.wrap .i64 x31), (0)))))
abbrev ρ186 := (TP × Int)
def g186 (n : Nat) (a0 : TP) (a1 : TP) (a2 : Int) (a3 : Int) : Option ρ186 :=
bif (decide (a3 ≤ (0))) then (
some ((⟨(0), (0)⟩ : TP), (10))) else (
bif (decide (a3 > (200000))) then (
some ((⟨(0), (0)⟩ : TP), (4))) else (
bif (decide (a2 < (0))) then (
some ((⟨(0), (0)⟩ : TP), (4))) else (
bif (decide (a2 > a3)) then (
some ((⟨(0), (0)⟩ : TP), (4))) else (
(g72 n a0).bind fun x25 =>
bif (x25 != (0)) then (
(g72 n a0).bind fun x26 =>
some ((⟨(0), (0)⟩ : TP), x26)) else (
(g72 n a1).bind fun x27 =>
bif (x27 != (0)) then (
(g72 n a1).bind fun x28 =>
some ((⟨(0), (0)⟩ : TP), x28)) else (
(g187 n (IntKind.wrap .i64 ((IntKind.wrap .i64 (a1.X - a0.X)) * a2)) a3).bind fun x33 =>
(g187 n (IntKind.wrap .i64 ((IntKind.wrap .i64 (a1.Y - a0.Y)) * a2)) a3).bind fun x34 =>
some ((⟨(IntKind.wrap .i64 (a0.X + x33.1)), (IntKind.wrap .i64 (a0.Y + x34.1))⟩ : TP), (0))))))))
abbrev ρ188 := (Int × Int)
def g188 (n : Nat) (a0 : Int) (a1 : Int) : Option ρ188 :=
(g187 n a0 a1).bind fun x37 =>
bif (x37.2 == (0)) then (
(modO a0 a1).bind fun x38 =>
bif (x38 != (0)) then (
some ((IntKind.wrap .i64 (x37.1 + (1))), x37.2)) else (
some (x37.1, x37.2))) else (
some (x37.1, x37.2))
abbrev ρ134 := (TTubeNode)
def g134 (n : Nat) (a0 : List TTubeNode) (a1 : Int) : Option ρ134 :=
(g184 n a0 a1).bind fun x21 =>
bif x21.2 then (
(getI a0 x21.1).bind fun x22 =>
some (x22)) else (
(getI a0 (IntKind.wrap .i64 (x21.1 - (1)))).bind fun x23 =>
(getI a0 x21.1).bind fun x24 =>
(g186 n (⟨x23.Node_At_X, x23.Node_At_Y⟩ : TP) (⟨x24.Node_At_X, x24.Node_At_Y⟩ : TP) (IntKind.wrap .i64 (a1 - x23.Node_Time)) (IntKind.wrap .i64 (x24.Node_Time - x23.Node_Time))).bind fun x35 =>
(g187 n (IntKind.wrap .i64 ((IntKind.wrap .i64 (x24.Node_Height - x23.Node_Height)) * (IntKind.wrap .i64 (a1 - x23.Node_Time)))) (IntKind.wrap .i64 (x24.Node_Time - x23.Node_Time))).bind fun x36 =>
(g188 n (IntKind.wrap .i64 ((IntKind.wrap .i64 (x24.Radius - x23.Radius)) * (IntKind.wrap .i64 (a1 - x23.Node_Time)))) (IntKind.wrap .i64 (x24.Node_Time - x23.Node_Time))).bind fun x39 =>
(g188 n (IntKind.wrap .i64 ((IntKind.wrap .i64 (x24.Band - x23.Band)) * (IntKind.wrap .i64 (a1 - x23.Node_Time)))) (IntKind.wrap .i64 (x24.Node_Time - x23.Node_Time))).bind fun x40 =>
some (⟨a1, x35.1.X, x35.1.Y, (IntKind.wrap .i64 (x23.Node_Height + x36.1)), (IntKind.wrap .i64 (x23.Radius + x39.1)), (IntKind.wrap .i64 (x23.Band + x40.1))⟩ : TTubeNode))
abbrev ρ73 := (TTubeNode × Int)
def g73 (n : Nat) (a0 : List TTubeNode) (a1 : Int) : Option ρ73 :=
(g67 n a0).bind fun x13 =>
bif (x13 != (0)) then (
some ((⟨(0), (0), (0), (0), (0), (0)⟩ : TTubeNode), x13)) else (
(g133 n a0).bind fun x16 =>
bif (decide (a1 < x16.1)) then (
some ((⟨(0), (0), (0), (0), (0), (0)⟩ : TTubeNode), (12))) else (
bif (decide (a1 > x16.2)) then (
some ((⟨(0), (0), (0), (0), (0), (0)⟩ : TTubeNode), (12))) else (
(g134 n a0 a1).bind fun x41 =>
some (x41, (0)))))
abbrev ρ221 := (TP)
def g221 (n : Nat) (a0 : TP) (a1 : TP) : Option ρ221 :=
some (⟨(IntKind.wrap .i64 (a0.X - a1.X)), (IntKind.wrap .i64 (a0.Y - a1.Y))⟩ : TP)
abbrev ρ293 := (Int)
def g293 (n : Nat) (a0 : TP) (a1 : TP) : Option ρ293 :=
some (IntKind.wrap .i64 ((IntKind.wrap .i64 (a0.X * a1.X)) + (IntKind.wrap .i64 (a0.Y * a1.Y))))
abbrev ρ253 := (Int)
def g253 (n : Nat) (a0 : TP) (a1 : TP) : Option ρ253 :=
(g221 n a0 a1).bind fun x44 =>
(g293 n x44 x44).bind fun x45 =>
some (x45)
abbrev ρ254 := (Int)
def S254_0 (n : Nat) (a0 : Int) (c2 : Int) (v3 : Int) (v4 : Int) : Option ((Int × Int) ⊕ ρ254) :=
bif (decide (v3 < v4)) then (
bif (decide ((IntKind.wrap .i64 ((IntKind.wrap .i64 (v3 + (IntKind.wrap .i64 (Int.tdiv (IntKind.wrap .i64 ((IntKind.wrap .i64 (v4 - v3)) + (1))) (2))))) * (IntKind.wrap .i64 (v3 + (IntKind.wrap .i64 (Int.tdiv (IntKind.wrap .i64 ((IntKind.wrap .i64 (v4 - v3)) + (1))) (2))))))) ≤ a0)) then (
some (.inl ((IntKind.wrap .i64 (v3 + (IntKind.wrap .i64 (Int.tdiv (IntKind.wrap .i64 ((IntKind.wrap .i64 (v4 - v3)) + (1))) (2))))), v4))) else (
some (.inl (v3, (IntKind.wrap .i64 ((IntKind.wrap .i64 (v3 + (IntKind.wrap .i64 (Int.tdiv (IntKind.wrap .i64 ((IntKind.wrap .i64 (v4 - v3)) + (1))) (2))))) - (1))))))) else (
some (.inr (v3)))
def g254 (n : Nat) (a0 : Int) : Option ρ254 :=
bif (decide (a0 ≤ (0))) then (
some (0)) else (
iterO (fun y : Int × Int => S254_0 n a0 (0) y.1 y.2) n ((0), (3037000499)))
abbrev ρ195 := (Int × Int)
def g195 (n : Nat) (a0 : TP) (a1 : TP) : Option ρ195 :=
(g253 n a0 a1).bind fun x46 =>
(g254 n x46).bind fun x47 =>
bif (decide ((IntKind.wrap .i64 (x47 * x47)) < x46)) then (
some (x47, (IntKind.wrap .i64 (x47 + (1))))) else (
some (x47, x47))
abbrev ρ197 := (Bool)
def g197 (n : Nat) (a0 : TTubeNode) (a1 : TTubeNode) (a2 : TSep) : Option ρ197 :=
(g195 n (⟨a0.Node_At_X, a0.Node_At_Y⟩ : TP) (⟨a1.Node_At_X, a1.Node_At_Y⟩ : TP)).bind fun x48 =>
bif (decide ((IntKind.wrap .i64 ((IntKind.wrap .i64 (x48.1 - a0.Radius)) - a1.Radius)) ≥ a2.Lateral)) then (
some (true)) else (
some (decide ((IntKind.wrap .i64 ((IntKind.wrap .i64 ((if (IntKind.wrap .i64 (a1.Node_Height - a0.Node_Height)) > (IntKind.wrap .i64 (a0.Node_Height - a1.Node_Height)) then (IntKind.wrap .i64 (a1.Node_Height - a0.Node_Height)) else (IntKind.wrap .i64 (a0.Node_Height - a1.Node_Height))) - a0.Band)) - a1.Band)) ≥ a2.Vertical)))
abbrev ρ141 := ((List TSpan))
def S141_0 (n : Nat) (a0 : List TTubeNode) (a1 : List TTubeNode) (c9 : Int) (k0_0 : Int) (k0_1 : Int) (v10 : Int) (L90000 : List TSpan) : Option ((Int × List TSpan) ⊕ ρ141) :=
bif (decide (v10 ≤ c9)) then (
(g73 n a0 v10).bind fun x42 =>
(g73 n a1 v10).bind fun x43 =>
(g197 n x42.1 x43.1 (⟨k0_0, k0_1⟩ : TSep)).bind fun x49 =>
bif x49 then (
some (.inl ((IntKind.wrap .i64 (v10 + (1))), L90000))) else (
bif (decide ((L90000.length : Int) > (0))) then (
(getI L90000 (IntKind.wrap .i64 ((L90000.length : Int) - (1)))).bind fun x50 =>
bif (x50.To == v10) then (
(getI L90000 (IntKind.wrap .i64 ((L90000.length : Int) - (1)))).bind fun x51 =>
some (.inl ((IntKind.wrap .i64 (v10 + (1))), (L90000.set (((IntKind.wrap .i64 ((L90000.length : Int) - (1))) : Int).toNat) (⟨x51.From, (IntKind.wrap .i64 (v10 + (1)))⟩ : TSpan))))) else (
(roomO (L90000.length + ([(⟨v10, (IntKind.wrap .i64 (v10 + (1)))⟩ : TSpan)] : List TSpan).length) 16).bind fun x53 =>
some (.inl ((IntKind.wrap .i64 (v10 + (1))), (L90000 ++ ([(⟨v10, (IntKind.wrap .i64 (v10 + (1)))⟩ : TSpan)] : List TSpan)))))) else (
(roomO (L90000.length + ([(⟨v10, (IntKind.wrap .i64 (v10 + (1)))⟩ : TSpan)] : List TSpan).length) 16).bind fun x55 =>
some (.inl ((IntKind.wrap .i64 (v10 + (1))), (L90000 ++ ([(⟨v10, (IntKind.wrap .i64 (v10 + (1)))⟩ : TSpan)] : List TSpan))))))) else (
some (.inr (L90000)))
def g141 (n : Nat) (a0 : List TTubeNode) (a1 : List TTubeNode) (a2 : TSep) : Option ρ141 :=
(g196 n a0 a1).bind fun x12 =>
iterO (fun y : Int × List TSpan => S141_0 n a0 a1 x12.2 a2.Lateral a2.Vertical y.1 y.2) n (x12.1, [])
abbrev ρ77 := ((List TSpan) × Int)
def g77 (n : Nat) (a0 : List TTubeNode) (a1 : List TTubeNode) (a2 : TSep) : Option ρ77 :=
(g140 n a2 ([a0, a1] : List (List TTubeNode))).bind fun x7 =>
bif (x7 != (0)) then (
some ([], x7)) else (
(g141 n a0 a1 a2).bind fun x56 =>
some (x56, (0)))
abbrev ρ23 := (Int × Int)
def g23 (n : Nat) (a0 : List TTubeNode) (a1 : List TTubeNode) (a2 : TSep) : Option ρ23 :=
(g77 n a0 a1 a2).bind fun x57 =>
bif (x57.2 != (0)) then (
some ((0), x57.2)) else (
bif ((x57.1.length : Int) == (0)) then (
some ((0), (8))) else (
(getI x57.1 (0)).bind fun x58 =>
some (x58.From, (0))))
abbrev ρ5 := (Int)
def g5 (n : Nat) (a0 : Int) (a1 : Int) : Option ρ5 :=
(modO (IntKind.wrap .u64 a0) (IntKind.wrap .u64 a1)).bind fun x60 =>
some (IntKind.wrap .i64 x60)
abbrev ρ7 := (TWakeTable)
def g7 (n : Nat) : Option ρ7 :=
some (⟨(60), (60), (60), (60), (120), (60), (60), (60), (180), (120), (90), (60), (240), (180), (120), (120)⟩ : TWakeTable)
abbrev ρ89 := (Int)
def S89_0_0 (n : Nat) (c2 : Int) (c10_0 : Int) (c10_1 : Int) (c10_2 : Int) (c10_3 : Int) (c10_4 : Int) (c10_5 : Int) (c10_6 : Int) (c10_7 : Int) (c10_8 : Int) (c10_9 : Int) (c10_10 : Int) (c10_11 : Int) (c10_12 : Int) (c10_13 : Int) (c10_14 : Int) (c10_15 : Int) (v11 : Int) (c14_0 : Int) (c14_1 : Int) (c14_2 : Int) (c14_3 : Int) (w15 : Int) : Option ((Int) ⊕ ((Int) ⊕ ρ89)) :=
bif (decide (w15 < (4))) then (
(getI ([c14_0, c14_1, c14_2, c14_3] : List Int) w15).bind fun x65 =>
bif (decide (x65 < (30))) then (
some (.inr (.inr (4)))) else (
bif (decide (x65 > (600))) then (
some (.inr (.inr (4)))) else (
some (.inl (IntKind.wrap .i64 (w15 + (1))))))) else (
some (.inr (.inl (IntKind.wrap .i64 (v11 + (1))))))
def S89_1_0_0 (n : Nat) (c2 : Int) (v26 : Int) (w29 : Int) (c10_0 : Int) (c10_1 : Int) (c10_2 : Int) (c10_3 : Int) (c10_4 : Int) (c10_5 : Int) (c10_6 : Int) (c10_7 : Int) (c10_8 : Int) (c10_9 : Int) (c10_10 : Int) (c10_11 : Int) (c10_12 : Int) (c10_13 : Int) (c10_14 : Int) (c10_15 : Int) (u32 : Int) : Option ((Int) ⊕ ((Int) ⊕ ((Int) ⊕ ρ89))) :=
bif (decide (u32 < (4))) then (
(getI ([(⟨c10_0, c10_1, c10_2, c10_3⟩ : T29), (⟨c10_4, c10_5, c10_6, c10_7⟩ : T29), (⟨c10_8, c10_9, c10_10, c10_11⟩ : T29), (⟨c10_12, c10_13, c10_14, c10_15⟩ : T29)] : List T29) v26).bind fun x66 =>
(getI ([x66.c0, x66.c1, x66.c2, x66.c3] : List Int) u32).bind fun x67 =>
(getI ([(⟨c10_0, c10_1, c10_2, c10_3⟩ : T29), (⟨c10_4, c10_5, c10_6, c10_7⟩ : T29), (⟨c10_8, c10_9, c10_10, c10_11⟩ : T29), (⟨c10_12, c10_13, c10_14, c10_15⟩ : T29)] : List T29) v26).bind fun x68 =>
(getI ([x68.c0, x68.c1, x68.c2, x68.c3] : List Int) w29).bind fun x69 =>
(getI ([(⟨c10_0, c10_1, c10_2, c10_3⟩ : T29), (⟨c10_4, c10_5, c10_6, c10_7⟩ : T29), (⟨c10_8, c10_9, c10_10, c10_11⟩ : T29), (⟨c10_12, c10_13, c10_14, c10_15⟩ : T29)] : List T29) w29).bind fun x70 =>
(getI ([x70.c0, x70.c1, x70.c2, x70.c3] : List Int) u32).bind fun x71 =>
bif (decide (x67 > (IntKind.wrap .i64 (x69 + x71)))) then (
some (.inr (.inr (.inr (3))))) else (
some (.inl (IntKind.wrap .i64 (u32 + (1)))))) else (
some (.inr (.inl (IntKind.wrap .i64 (w29 + (1))))))
def S89_1_0 (n : Nat) (c2 : Int) (v26 : Int) (c10_0 : Int) (c10_1 : Int) (c10_2 : Int) (c10_3 : Int) (c10_4 : Int) (c10_5 : Int) (c10_6 : Int) (c10_7 : Int) (c10_8 : Int) (c10_9 : Int) (c10_10 : Int) (c10_11 : Int) (c10_12 : Int) (c10_13 : Int) (c10_14 : Int) (c10_15 : Int) (w29 : Int) : Option ((Int) ⊕ ((Int) ⊕ ρ89)) :=
bif (decide (w29 < (4))) then (
iterO (fun y : Int => S89_1_0_0 n c2 v26 w29 c10_0 c10_1 c10_2 c10_3 c10_4 c10_5 c10_6 c10_7 c10_8 c10_9 c10_10 c10_11 c10_12 c10_13 c10_14 c10_15 y) n (0)) else (
some (.inr (.inl (IntKind.wrap .i64 (v26 + (1))))))
def S89_1 (n : Nat) (c2 : Int) (c10_0 : Int) (c10_1 : Int) (c10_2 : Int) (c10_3 : Int) (c10_4 : Int) (c10_5 : Int) (c10_6 : Int) (c10_7 : Int) (c10_8 : Int) (c10_9 : Int) (c10_10 : Int) (c10_11 : Int) (c10_12 : Int) (c10_13 : Int) (c10_14 : Int) (c10_15 : Int) (v26 : Int) : Option ((Int) ⊕ ρ89) :=
bif (decide (v26 < (4))) then (
iterO (fun y : Int => S89_1_0 n c2 v26 c10_0 c10_1 c10_2 c10_3 c10_4 c10_5 c10_6 c10_7 c10_8 c10_9 c10_10 c10_11 c10_12 c10_13 c10_14 c10_15 y) n (0)) else (
some (.inr (0)))
def S89_0 (n : Nat) (c2 : Int) (c10_0 : Int) (c10_1 : Int) (c10_2 : Int) (c10_3 : Int) (c10_4 : Int) (c10_5 : Int) (c10_6 : Int) (c10_7 : Int) (c10_8 : Int) (c10_9 : Int) (c10_10 : Int) (c10_11 : Int) (c10_12 : Int) (c10_13 : Int) (c10_14 : Int) (c10_15 : Int) (v11 : Int) : Option ((Int) ⊕ ρ89) :=
bif (decide (v11 < (4))) then (
(getI ([(⟨c10_0, c10_1, c10_2, c10_3⟩ : T29), (⟨c10_4, c10_5, c10_6, c10_7⟩ : T29), (⟨c10_8, c10_9, c10_10, c10_11⟩ : T29), (⟨c10_12, c10_13, c10_14, c10_15⟩ : T29)] : List T29) v11).bind fun x64 =>
iterO (fun y : Int => S89_0_0 n c2 c10_0 c10_1 c10_2 c10_3 c10_4 c10_5 c10_6 c10_7 c10_8 c10_9 c10_10 c10_11 c10_12 c10_13 c10_14 c10_15 v11 x64.c0 x64.c1 x64.c2 x64.c3 y) n (0)) else (
((iterO (fun y : Int => S89_1 n c2 c10_0 c10_1 c10_2 c10_3 c10_4 c10_5 c10_6 c10_7 c10_8 c10_9 c10_10 c10_11 c10_12 c10_13 c10_14 c10_15 y) n (0)).map Sum.inr))
def g89 (n : Nat) (a0 : TWakeTable) : Option ρ89 :=
iterO (fun y : Int => S89_0 n (0) a0.c0_0 a0.c0_1 a0.c0_2 a0.c0_3 a0.c1_0 a0.c1_1 a0.c1_2 a0.c1_3 a0.c2_0 a0.c2_1 a0.c2_2 a0.c2_3 a0.c3_0 a0.c3_1 a0.c3_2 a0.c3_3 y) n (0)
abbrev ρ38 := (Int)
def g38 (n : Nat) (a0 : Int) : Option ρ38 :=
bif (decide (a0 < (0))) then (
some (1)) else (
bif (decide (a0 > (3))) then (
some (1)) else (
some (0)))
abbrev ρ34 := (Int)
def S34_0 (n : Nat) (c4 : Int) (a1 : List Int) (c18 : Int) (v19 : Int) : Option ((Int) ⊕ ρ34) :=
bif (decide (v19 < c18)) then (
(getI a1 v19).bind fun x73 =>
(g38 n x73).bind fun x74 =>
bif (x74 != (0)) then (
some (.inr (x74))) else (
some (.inl (IntKind.wrap .i64 (v19 + (1)))))) else (
some (.inr (0)))
def g34 (n : Nat) (a0 : TWakeTable) (a1 : List Int) : Option ρ34 :=
(g89 n a0).bind fun x72 =>
bif (x72 != (0)) then (
some (x72)) else (
bif (decide ((a1.length : Int) > (256))) then (
some (2)) else (
iterO (fun y : Int => S34_0 n (0) a1 (a1.length : Int) y) n (0)))
abbrev ρ6 := (Int × Int)
def g6 (n : Nat) (a0 : TWakeTable) (a1 : Int) (a2 : Int) : Option ρ6 :=
(g34 n a0 ([a1, a2] : List Int)).bind fun x75 =>
bif (x75 != (0)) then (
some ((0), x75)) else (
(getI ([(⟨a0.c0_0, a0.c0_1, a0.c0_2, a0.c0_3⟩ : T29), (⟨a0.c1_0, a0.c1_1, a0.c1_2, a0.c1_3⟩ : T29), (⟨a0.c2_0, a0.c2_1, a0.c2_2, a0.c2_3⟩ : T29), (⟨a0.c3_0, a0.c3_1, a0.c3_2, a0.c3_3⟩ : T29)] : List T29) a1).bind fun x76 =>
(getI ([x76.c0, x76.c1, x76.c2, x76.c3] : List Int) a2).bind fun x77 =>
some (x77, (0)))
abbrev ρ50 := (Bool)
def S50_0 (n : Nat) (c2 : Bool) (c14 : List UInt8) (c15 : Int) (v16 : Int) : Option ((Int) ⊕ ρ50) :=
bif (decide (v16 < c15)) then (
(getI c14 v16).bind fun x81 =>
bif (decide ((x81.toNat : Int) ≥ (65))) then (
bif (decide ((x81.toNat : Int) ≤ (90))) then (
some (.inl (IntKind.wrap .i64 (v16 + (1))))) else (
bif (decide (v16 > (0))) then (
bif (decide ((x81.toNat : Int) ≥ (48))) then (
bif (!(decide ((x81.toNat : Int) ≤ (57)))) then (
some (.inr (false))) else (
some (.inl (IntKind.wrap .i64 (v16 + (1)))))) else (
some (.inr (false)))) else (
some (.inr (false))))) else (
bif (decide (v16 > (0))) then (
bif (decide ((x81.toNat : Int) ≥ (48))) then (
bif (!(decide ((x81.toNat : Int) ≤ (57)))) then (
some (.inr (false))) else (
some (.inl (IntKind.wrap .i64 (v16 + (1)))))) else (
some (.inr (false)))) else (
some (.inr (false))))) else (
some (.inr (true)))
def g50 (n : Nat) (a0 : ByteArray) : Option ρ50 :=
bif (decide ((a0.size : Int) < (1))) then (
some (false)) else (
bif (decide ((a0.size : Int) > (8))) then (
some (false)) else (
(roomO a0.size 1).bind fun x80 =>
iterO (fun y : Int => S50_0 n false (a0.data.toList) ((a0.data.toList).length : Int) y) n (0)))
abbrev ρ156 := (Bool)
def g156 (n : Nat) (a0 : TTaxiStand) (a1_0 : ByteArray) : Option ρ156 :=
some ((a0.Name).toList == (a1_0).toList)
abbrev ρ155 := (Int)
def S155_0 (n : Nat) (a0 : List TTaxiStand) (a1_0_0 : ByteArray) (c4 : Int) (c7 : Int) (v8 : Int) : Option ((Int) ⊕ ρ155) :=
bif (decide (v8 < c7)) then (
(getI a0 v8).bind fun x84 =>
(g156 n x84 a1_0_0).bind fun x85 =>
bif x85 then (
some (.inr (v8))) else (
some (.inl (IntKind.wrap .i64 (v8 + (1)))))) else (
some (.inr (-1)))
def g155 (n : Nat) (a0 : List TTaxiStand) (a1_0_0 : ByteArray) : Option ρ155 :=
iterO (fun y : Int => S155_0 n a0 a1_0_0 (0) (a0.length : Int) y) n (0)
abbrev ρ95 := (Int)
def g95 (n : Nat) (a0 : List TTaxiStand) (a1 : ByteArray) : Option ρ95 :=
(g155 n a0 a1).bind fun x86 =>
some (x86)
abbrev ρ152 := (Int)
def S152_0 (n : Nat) (a0 : List TTaxiStand) (c2 : Int) (c9 : Int) (v10 : Int) : Option ((Int) ⊕ ρ152) :=
bif (decide (v10 < c9)) then (
(getI a0 v10).bind fun x79 =>
(g50 n x79.Name).bind fun x82 =>
bif (!x82) then (
some (.inr (3))) else (
bif (decide (x79.Time < (0))) then (
some (.inr (4))) else (
bif (decide (x79.Time > (1800))) then (
some (.inr (4))) else (
(sliceO a0 none (some v10)).bind fun x83 =>
(g95 n x83 x79.Name).bind fun x87 =>
bif (decide (x87 ≥ (0))) then (
some (.inr (7))) else (
some (.inl (IntKind.wrap .i64 (v10 + (1))))))))) else (
some (.inr (0)))
def g152 (n : Nat) (a0 : List TTaxiStand) : Option ρ152 :=
bif (decide ((a0.length : Int) > (16))) then (
some (2)) else (
iterO (fun y : Int => S152_0 n a0 (0) (a0.length : Int) y) n (0))
abbrev ρ154 := (Bool)
def g154 (n : Nat) (a0 : TTaxiAsk) (a1_0 : ByteArray) (a1_1 : ByteArray) (a1_2 : Int) : Option ρ154 :=
some ((a0.Call).toList == (a1_0).toList)
abbrev ρ210 := (Int)
def S210_0 (n : Nat) (a0 : List TTaxiAsk) (a1_0_0 : ByteArray) (a1_0_1 : ByteArray) (a1_0_2 : Int) (c4 : Int) (c7 : Int) (v8 : Int) : Option ((Int) ⊕ ρ210) :=
bif (decide (v8 < c7)) then (
(getI a0 v8).bind fun x93 =>
(g154 n x93 a1_0_0 a1_0_1 a1_0_2).bind fun x94 =>
bif x94 then (
some (.inr (v8))) else (
some (.inl (IntKind.wrap .i64 (v8 + (1)))))) else (
some (.inr (-1)))
def g210 (n : Nat) (a0 : List TTaxiAsk) (a1_0_0 : ByteArray) (a1_0_1 : ByteArray) (a1_0_2 : Int) : Option ρ210 :=
iterO (fun y : Int => S210_0 n a0 a1_0_0 a1_0_1 a1_0_2 (0) (a0.length : Int) y) n (0)
abbrev ρ153 := (Bool)
def g153 (n : Nat) (a0 : List TTaxiAsk) (a1_0_0 : ByteArray) (a1_0_1 : ByteArray) (a1_0_2 : Int) : Option ρ153 :=
(g210 n a0 a1_0_0 a1_0_1 a1_0_2).bind fun x95 =>
some (decide (x95 ≥ (0)))
abbrev ρ94 := (Int)
def S94_0 (n : Nat) (a0 : List TTaxiStand) (a1 : List TTaxiAsk) (c4 : Int) (c17 : Int) (v18 : Int) : Option ((Int) ⊕ ρ94) :=
bif (decide (v18 < c17)) then (
(getI a1 v18).bind fun x89 =>
(g50 n x89.Call).bind fun x90 =>
bif (!x90) then (
some (.inr (3))) else (
(g95 n a0 x89.Stand).bind fun x91 =>
bif (decide (x91 < (0))) then (
some (.inr (6))) else (
bif (decide (x89.Ready < (0))) then (
some (.inr (12))) else (
bif (decide (x89.Ready > (200000))) then (
some (.inr (12))) else (
(sliceO a1 none (some v18)).bind fun x92 =>
(g153 n x92 x89.Call x89.Stand x89.Ready).bind fun x96 =>
bif x96 then (
some (.inr (7))) else (
some (.inl (IntKind.wrap .i64 (v18 + (1)))))))))) else (
some (.inr (0)))
def g94 (n : Nat) (a0 : List TTaxiStand) (a1 : List TTaxiAsk) : Option ρ94 :=
(g152 n a0).bind fun x88 =>
bif (x88 != (0)) then (
some (x88)) else (
bif (decide ((a1.length : Int) > (16))) then (
some (2)) else (
iterO (fun y : Int => S94_0 n a0 a1 (0) (a1.length : Int) y) n (0)))
abbrev ρ145 := (Bool)
def g145 (n : Nat) (a0 : ByteArray) : Option ρ145 :=
some (!((a0).toList == (a0).toList))
abbrev ρ85 := (Int)
def g85 (n : Nat) (a0 : ByteArray) (a1 : ByteArray) : Option ρ85 :=
(g145 n a0).bind fun x103 =>
(g145 n a1).bind fun x104 =>
bif x103 then (
bif x104 then (
some (0)) else (
some (-1))) else (
bif x104 then (
some (1)) else (
bif (Op.bytesLess (a0).toList (a1).toList) then (
some (-1)) else (
bif (!(Op.bytesLess (a0).toList (a1).toList || (a0).toList == (a1).toList)) then (
some (1)) else (
some (0)))))
abbrev ρ84 := (Int)
def S84_0 (n : Nat) (c2 : Int) (a0 : List Int) (c7 : Int) (v8 : Int) : Option ((Int) ⊕ ρ84) :=
bif (decide (v8 < c7)) then (
(getI a0 v8).bind fun x106 =>
bif (x106 != c2) then (
some (.inr (x106))) else (
some (.inl (IntKind.wrap .i64 (v8 + (1)))))) else (
some (.inr (c2)))
def g84 (n : Nat) (a0 : List Int) : Option ρ84 :=
iterO (fun y : Int => S84_0 n (0) a0 (a0.length : Int) y) n (0)
abbrev ρ97 := (Int)
def g97 (n : Nat) (a0 : TTaxiMove) (a1 : TTaxiMove) : Option ρ97 :=
(g85 n a0.Call a1.Call).bind fun x105 =>
(g84 n ([(IntKind.wrap .i64 (a0.Hold - a1.Hold)), x105] : List Int)).bind fun x107 =>
some (x107)
abbrev ρ26 := ((List TTaxiMove) × Int)
def S26_1 (n : Nat) (a2 : Int) (c7 : Int) (c54 : Int) (v55 : Int) (L90000 : List TTaxiMove) : Option ((Int × List TTaxiMove) ⊕ ρ26) :=
bif (decide (v55 < c54)) then (
(getI L90000 v55).bind fun x109 =>
(getI L90000 v55).bind fun x110 =>
bif (decide (v55 > (0))) then (
(getI (L90000.set ((v55 : Int).toNat) (⟨x110.Call, x110.Push, x110.Hold, x109.Hold⟩ : TTaxiMove)) v55).bind fun x111 =>
(getI (L90000.set ((v55 : Int).toNat) (⟨x110.Call, x110.Push, x110.Hold, x109.Hold⟩ : TTaxiMove)) (IntKind.wrap .i64 (v55 - (1)))).bind fun x112 =>
(getI (L90000.set ((v55 : Int).toNat) (⟨x110.Call, x110.Push, x110.Hold, x109.Hold⟩ : TTaxiMove)) v55).bind fun x113 =>
(getI ((L90000.set ((v55 : Int).toNat) (⟨x110.Call, x110.Push, x110.Hold, x109.Hold⟩ : TTaxiMove)).set ((v55 : Int).toNat) (⟨x113.Call, x113.Push, x113.Hold, (if (IntKind.wrap .i64 (x112.Leave + a2)) > x111.Leave then (IntKind.wrap .i64 (x112.Leave + a2)) else x111.Leave)⟩ : TTaxiMove)) v55).bind fun x114 =>
bif (decide (x114.Leave > (200000))) then (
some (.inr ([], (12)))) else (
some (.inl ((IntKind.wrap .i64 (v55 + (1))), ((L90000.set ((v55 : Int).toNat) (⟨x110.Call, x110.Push, x110.Hold, x109.Hold⟩ : TTaxiMove)).set ((v55 : Int).toNat) (⟨x113.Call, x113.Push, x113.Hold, (if (IntKind.wrap .i64 (x112.Leave + a2)) > x111.Leave then (IntKind.wrap .i64 (x112.Leave + a2)) else x111.Leave)⟩ : TTaxiMove)))))) else (
(getI (L90000.set ((v55 : Int).toNat) (⟨x110.Call, x110.Push, x110.Hold, x109.Hold⟩ : TTaxiMove)) v55).bind fun x115 =>
bif (decide (x115.Leave > (200000))) then (
some (.inr ([], (12)))) else (
some (.inl ((IntKind.wrap .i64 (v55 + (1))), (L90000.set ((v55 : Int).toNat) (⟨x110.Call, x110.Push, x110.Hold, x109.Hold⟩ : TTaxiMove))))))) else (
some (.inr (L90000, (0))))
def S26_0 (n : Nat) (a0 : List TTaxiStand) (a2 : Int) (c7 : Int) (a1 : List TTaxiAsk) (c26 : Int) (v27 : Int) (L90000 : List TTaxiMove) : Option ((Int × List TTaxiMove) ⊕ ρ26) :=
bif (decide (v27 < c26)) then (
(getI a1 v27).bind fun x98 =>
(g95 n a0 x98.Stand).bind fun x99 =>
(getI a0 x99).bind fun x100 =>
(roomO (L90000.length + ([(⟨x98.Call, x98.Ready, (IntKind.wrap .i64 (x98.Ready + x100.Time)), (0)⟩ : TTaxiMove)] : List TTaxiMove).length) 40).bind fun x102 =>
some (.inl ((IntKind.wrap .i64 (v27 + (1))), (L90000 ++ ([(⟨x98.Call, x98.Ready, (IntKind.wrap .i64 (x98.Ready + x100.Time)), (0)⟩ : TTaxiMove)] : List TTaxiMove))))) else (
(sortO (fun x y => g97 n x y) L90000).bind fun x108 =>
((iterO (fun y : Int × List TTaxiMove => S26_1 n a2 c7 (x108.length : Int) y.1 y.2) n ((0), x108)).map Sum.inr))
def g26 (n : Nat) (a0 : List TTaxiStand) (a1 : List TTaxiAsk) (a2 : Int) : Option ρ26 :=
(g94 n a0 a1).bind fun x97 =>
bif (x97 != (0)) then (
some ([], x97)) else (
bif (decide (a2 < (0))) then (
some ([], (4))) else (
bif (decide (a2 > (1800))) then (
some ([], (4))) else (
iterO (fun y : Int × List TTaxiMove => S26_0 n a0 a2 (0) a1 (a1.length : Int) y.1 y.2) n ((0), []))))
abbrev ρ8 := ((List TTaxiMove) × Int)
def S8_0 (n : Nat) (a3 : Int) (c9 : Int) (c31 : Int) (v32 : Int) (L90000 : List TTaxiMove) : Option ((Int × List TTaxiMove) ⊕ ρ8) :=
bif (decide (v32 < c31)) then (
(getI L90000 v32).bind fun x131 =>
(getI L90000 v32).bind fun x132 =>
bif (decide ((IntKind.wrap .i64 ((IntKind.wrap .i64 (x131.Leave - x132.Hold)) - a3)) > (0))) then (
(getI L90000 v32).bind fun x133 =>
(getI L90000 v32).bind fun x134 =>
(getI (L90000.set ((v32 : Int).toNat) (⟨x134.Call, (IntKind.wrap .i64 (x133.Push + (IntKind.wrap .i64 ((IntKind.wrap .i64 (x131.Leave - x132.Hold)) - a3)))), x134.Hold, x134.Leave⟩ : TTaxiMove)) v32).bind fun x135 =>
(getI (L90000.set ((v32 : Int).toNat) (⟨x134.Call, (IntKind.wrap .i64 (x133.Push + (IntKind.wrap .i64 ((IntKind.wrap .i64 (x131.Leave - x132.Hold)) - a3)))), x134.Hold, x134.Leave⟩ : TTaxiMove)) v32).bind fun x136 =>
some (.inl ((IntKind.wrap .i64 (v32 + (1))), ((L90000.set ((v32 : Int).toNat) (⟨x134.Call, (IntKind.wrap .i64 (x133.Push + (IntKind.wrap .i64 ((IntKind.wrap .i64 (x131.Leave - x132.Hold)) - a3)))), x134.Hold, x134.Leave⟩ : TTaxiMove)).set ((v32 : Int).toNat) (⟨x136.Call, x136.Push, (IntKind.wrap .i64 (x135.Hold + (IntKind.wrap .i64 ((IntKind.wrap .i64 (x131.Leave - x132.Hold)) - a3)))), x136.Leave⟩ : TTaxiMove))))) else (
some (.inl ((IntKind.wrap .i64 (v32 + (1))), L90000)))) else (
some (.inr (L90000, (0))))
def g8 (n : Nat) (a0 : List TTaxiStand) (a1 : List TTaxiAsk) (a2 : Int) (a3 : Int) : Option ρ8 :=
(g26 n a0 a1 a2).bind fun x116 =>
bif (x116.2 != (0)) then (
some ([], x116.2)) else (
bif (decide (a3 < (0))) then (
some ([], (4))) else (
bif (decide (a3 > (1800))) then (
some ([], (4))) else (
iterO (fun y : Int × List TTaxiMove => S8_0 n a3 (0) (x116.1.length : Int) y.1 y.2) n ((0), x116.1))))
abbrev ρ37 := (Bool)
def g37 (n : Nat) (a0 : Int) : Option ρ37 :=
bif (decide (a0 < (0))) then (
some (true)) else (
some (decide (a0 > (200000))))
abbrev ρ104 := (Int)
def S104_0 (n : Nat) (a0 : List TRunwayMove) (c2 : Int) (c10 : Int) (v11 : Int) : Option ((Int) ⊕ ρ104) :=
bif (decide (v11 < c10)) then (
(getI a0 v11).bind fun x142 =>
(g37 n x142.Time).bind fun x143 =>
bif x143 then (
some (.inr (12))) else (
bif (decide (v11 > (0))) then (
(getI a0 (IntKind.wrap .i64 (v11 - (1)))).bind fun x144 =>
bif (decide (x142.Time < x144.Time)) then (
some (.inr (12))) else (
(g38 n x142.Wake).bind fun x145 =>
bif (x145 != (0)) then (
some (.inr (x145))) else (
bif (x142.End != (0)) then (
bif (x142.End != (1)) then (
some (.inr (1))) else (
some (.inl (IntKind.wrap .i64 (v11 + (1)))))) else (
some (.inl (IntKind.wrap .i64 (v11 + (1)))))))) else (
(g38 n x142.Wake).bind fun x146 =>
bif (x146 != (0)) then (
some (.inr (x146))) else (
bif (x142.End != (0)) then (
bif (x142.End != (1)) then (
some (.inr (1))) else (
some (.inl (IntKind.wrap .i64 (v11 + (1)))))) else (
some (.inl (IntKind.wrap .i64 (v11 + (1))))))))) else (
some (.inr (0)))
def g104 (n : Nat) (a0 : List TRunwayMove) : Option ρ104 :=
bif (decide ((a0.length : Int) > (24))) then (
some (2)) else (
iterO (fun y : Int => S104_0 n a0 (0) (a0.length : Int) y) n (0))
abbrev ρ105 := (Int)
def S105_0 (n : Nat) (a0 : List TRunwaySpan) (c2 : Int) (c14 : Int) (v15 : Int) : Option ((Int) ⊕ ρ105) :=
bif (decide (v15 < c14)) then (
(getI a0 v15).bind fun x148 =>
bif (x148.End != (0)) then (
bif (x148.End != (1)) then (
some (.inr (1))) else (
(g37 n x148.From).bind fun x149 =>
bif x149 then (
some (.inr (12))) else (
bif (decide (v15 > (0))) then (
(getI a0 (IntKind.wrap .i64 (v15 - (1)))).bind fun x150 =>
bif (decide (x148.From < (IntKind.wrap .i64 (x150.From + (360))))) then (
some (.inr (12))) else (
bif (decide (v15 > (0))) then (
(getI a0 (IntKind.wrap .i64 (v15 - (1)))).bind fun x151 =>
bif (x148.End == x151.End) then (
some (.inr (11))) else (
some (.inl (IntKind.wrap .i64 (v15 + (1)))))) else (
some (.inl (IntKind.wrap .i64 (v15 + (1))))))) else (
bif (decide (v15 > (0))) then (
(getI a0 (IntKind.wrap .i64 (v15 - (1)))).bind fun x152 =>
bif (x148.End == x152.End) then (
some (.inr (11))) else (
some (.inl (IntKind.wrap .i64 (v15 + (1)))))) else (
some (.inl (IntKind.wrap .i64 (v15 + (1))))))))) else (
(g37 n x148.From).bind fun x153 =>
bif x153 then (
some (.inr (12))) else (
bif (decide (v15 > (0))) then (
(getI a0 (IntKind.wrap .i64 (v15 - (1)))).bind fun x154 =>
bif (decide (x148.From < (IntKind.wrap .i64 (x154.From + (360))))) then (
some (.inr (12))) else (
bif (decide (v15 > (0))) then (
(getI a0 (IntKind.wrap .i64 (v15 - (1)))).bind fun x155 =>
bif (x148.End == x155.End) then (
some (.inr (11))) else (
some (.inl (IntKind.wrap .i64 (v15 + (1)))))) else (
some (.inl (IntKind.wrap .i64 (v15 + (1))))))) else (
bif (decide (v15 > (0))) then (
(getI a0 (IntKind.wrap .i64 (v15 - (1)))).bind fun x156 =>
bif (x148.End == x156.End) then (
some (.inr (11))) else (
some (.inl (IntKind.wrap .i64 (v15 + (1)))))) else (
some (.inl (IntKind.wrap .i64 (v15 + (1))))))))) else (
some (.inr (0)))
def g105 (n : Nat) (a0 : List TRunwaySpan) : Option ρ105 :=
bif (decide ((a0.length : Int) > (24))) then (
some (2)) else (
bif ((a0.length : Int) == (0)) then (
some (8)) else (
iterO (fun y : Int => S105_0 n a0 (0) (a0.length : Int) y) n (0)))
abbrev ρ39 := (Int × Bool)
def S39_0 (n : Nat) (a1 : Int) (c4 : Int) (c5 : Bool) (x162 : List TRunwaySpan) (c21 : Int) (v6 : Int) (v22 : Int) : Option ((Int × Int) ⊕ ρ39) :=
bif (decide (v22 < c21)) then (
(getI x162 v22).bind fun x163 =>
bif (decide ((if (IntKind.wrap .i64 (x163.From - a1)) > (IntKind.wrap .i64 (a1 - x163.From)) then (IntKind.wrap .i64 (x163.From - a1)) else (IntKind.wrap .i64 (a1 - x163.From))) < (180))) then (
some (.inr ((0), false))) else (
bif (decide (x163.From ≤ a1)) then (
some (.inl (x163.End, (IntKind.wrap .i64 (v22 + (1)))))) else (
some (.inl (v6, (IntKind.wrap .i64 (v22 + (1)))))))) else (
some (.inr (v6, true)))
def g39 (n : Nat) (a0 : List TRunwaySpan) (a1 : Int) : Option ρ39 :=
(getI a0 (0)).bind fun x160 =>
bif (decide (a1 < x160.From)) then (
some ((0), false)) else (
(getI a0 (0)).bind fun x161 =>
(sliceO a0 (some (1)) none).bind fun x162 =>
iterO (fun y : Int × Int => S39_0 n a1 (0) false x162 (x162.length : Int) y.1 y.2) n (x161.End, (0)))
abbrev ρ106 := (Int)
def g106 (n : Nat) (a0 : TWakeTable) (a1 : TRunwayMove) (a2 : TRunwayMove) : Option ρ106 :=
bif (!(a1.Departs == a2.Departs)) then (
some (60)) else (
(getI ([(⟨a0.c0_0, a0.c0_1, a0.c0_2, a0.c0_3⟩ : T29), (⟨a0.c1_0, a0.c1_1, a0.c1_2, a0.c1_3⟩ : T29), (⟨a0.c2_0, a0.c2_1, a0.c2_2, a0.c2_3⟩ : T29), (⟨a0.c3_0, a0.c3_1, a0.c3_2, a0.c3_3⟩ : T29)] : List T29) a1.Wake).bind fun x168 =>
(getI ([x168.c0, x168.c1, x168.c2, x168.c3] : List Int) a2.Wake).bind fun x169 =>
some (x169))
abbrev ρ35 := (Int × Int × Int)
def S35_1_0 (n : Nat) (a0 : List TRunwayMove) (c6 : Int) (v61 : Int) (c60 : Int) (k0_0 : Int) (k0_1 : Int) (k0_2 : Int) (k0_3 : Int) (k0_4 : Int) (k0_5 : Int) (k0_6 : Int) (k0_7 : Int) (k0_8 : Int) (k0_9 : Int) (k0_10 : Int) (k0_11 : Int) (k0_12 : Int) (k0_13 : Int) (k0_14 : Int) (k0_15 : Int) (k200004_0 : Int) (k200004_1 : Int) (k200004_2 : Bool) (k200004_3 : Int) (w18 : Int) : Option ((Int) ⊕ ((Int) ⊕ ρ35)) :=
bif (decide (w18 < (a0.length : Int))) then (
(getI a0 w18).bind fun x166 =>
(getI a0 w18).bind fun x167 =>
(g106 n (⟨k0_0, k0_1, k0_2, k0_3, k0_4, k0_5, k0_6, k0_7, k0_8, k0_9, k0_10, k0_11, k0_12, k0_13, k0_14, k0_15⟩ : TWakeTable) (⟨k200004_0, k200004_1, k200004_2, k200004_3⟩ : TRunwayMove) x167).bind fun x170 =>
bif (decide ((IntKind.wrap .i64 (x166.Time - k200004_0)) < x170)) then (
some (.inr (.inr (v61, w18, (15))))) else (
some (.inl (IntKind.wrap .i64 (w18 + (1)))))) else (
some (.inr (.inl (IntKind.wrap .i64 (v61 + (1))))))
def S35_1 (n : Nat) (a0 : List TRunwayMove) (c6 : Int) (c60 : Int) (k0_0 : Int) (k0_1 : Int) (k0_2 : Int) (k0_3 : Int) (k0_4 : Int) (k0_5 : Int) (k0_6 : Int) (k0_7 : Int) (k0_8 : Int) (k0_9 : Int) (k0_10 : Int) (k0_11 : Int) (k0_12 : Int) (k0_13 : Int) (k0_14 : Int) (k0_15 : Int) (v61 : Int) : Option ((Int) ⊕ ρ35) :=
bif (decide (v61 < c60)) then (
(getI a0 v61).bind fun x165 =>
iterO (fun y : Int => S35_1_0 n a0 c6 v61 c60 k0_0 k0_1 k0_2 k0_3 k0_4 k0_5 k0_6 k0_7 k0_8 k0_9 k0_10 k0_11 k0_12 k0_13 k0_14 k0_15 x165.Time x165.Wake x165.Departs x165.End y) n (IntKind.wrap .i64 (v61 + (1)))) else (
some (.inr ((0), (0), (0))))
def S35_0 (n : Nat) (a0 : List TRunwayMove) (a1 : List TRunwaySpan) (c6 : Int) (c35 : Int) (k0_0 : Int) (k0_1 : Int) (k0_2 : Int) (k0_3 : Int) (k0_4 : Int) (k0_5 : Int) (k0_6 : Int) (k0_7 : Int) (k0_8 : Int) (k0_9 : Int) (k0_10 : Int) (k0_11 : Int) (k0_12 : Int) (k0_13 : Int) (k0_14 : Int) (k0_15 : Int) (v36 : Int) : Option ((Int) ⊕ ρ35) :=
bif (decide (v36 < c35)) then (
(getI a0 v36).bind fun x159 =>
(g39 n a1 x159.Time).bind fun x164 =>
bif (!x164.2) then (
some (.inr (v36, v36, (14)))) else (
bif (x164.1 != x159.End) then (
some (.inr (v36, v36, (14)))) else (
some (.inl (IntKind.wrap .i64 (v36 + (1))))))) else (
((iterO (fun y : Int => S35_1 n a0 c6 (a0.length : Int) k0_0 k0_1 k0_2 k0_3 k0_4 k0_5 k0_6 k0_7 k0_8 k0_9 k0_10 k0_11 k0_12 k0_13 k0_14 k0_15 y) n (0)).map Sum.inr))
def g35 (n : Nat) (a0 : List TRunwayMove) (a1 : List TRunwaySpan) (a2 : TWakeTable) : Option ρ35 :=
(g104 n a0).bind fun x147 =>
bif (x147 != (0)) then (
some ((0), (0), x147)) else (
(g105 n a1).bind fun x157 =>
bif (x157 != (0)) then (
some ((0), (0), x157)) else (
(g89 n a2).bind fun x158 =>
bif (x158 != (0)) then (
some ((0), (0), x158)) else (
iterO (fun y : Int => S35_0 n a0 a1 (0) (a0.length : Int) a2.c0_0 a2.c0_1 a2.c0_2 a2.c0_3 a2.c1_0 a2.c1_1 a2.c1_2 a2.c1_3 a2.c2_0 a2.c2_1 a2.c2_2 a2.c2_3 a2.c3_0 a2.c3_1 a2.c3_2 a2.c3_3 y) n (0))))
abbrev ρ40 := (Bool)
def S40_0 (n : Nat) (c6 : Bool) (a0 : List TRunwayMove) (c10 : Int) (k0_0 : Int) (k0_1 : Int) (k0_2 : Bool) (k0_3 : Int) (k1_0 : Int) (k1_1 : Int) (k1_2 : Int) (k1_3 : Int) (k1_4 : Int) (k1_5 : Int) (k1_6 : Int) (k1_7 : Int) (k1_8 : Int) (k1_9 : Int) (k1_10 : Int) (k1_11 : Int) (k1_12 : Int) (k1_13 : Int) (k1_14 : Int) (k1_15 : Int) (v11 : Int) : Option ((Int) ⊕ ρ40) :=
bif (decide (v11 < c10)) then (
(getI a0 v11).bind fun x177 =>
bif (decide (x177.Time ≤ k0_0)) then (
(g106 n (⟨k1_0, k1_1, k1_2, k1_3, k1_4, k1_5, k1_6, k1_7, k1_8, k1_9, k1_10, k1_11, k1_12, k1_13, k1_14, k1_15⟩ : TWakeTable) x177 (⟨k0_0, k0_1, k0_2, k0_3⟩ : TRunwayMove)).bind fun x178 =>
bif (decide ((IntKind.wrap .i64 (k0_0 - x177.Time)) < x178)) then (
some (.inr (false))) else (
bif (decide (x177.Time ≥ k0_0)) then (
(g106 n (⟨k1_0, k1_1, k1_2, k1_3, k1_4, k1_5, k1_6, k1_7, k1_8, k1_9, k1_10, k1_11, k1_12, k1_13, k1_14, k1_15⟩ : TWakeTable) (⟨k0_0, k0_1, k0_2, k0_3⟩ : TRunwayMove) x177).bind fun x179 =>
bif (decide ((IntKind.wrap .i64 (x177.Time - k0_0)) < x179)) then (
some (.inr (false))) else (
some (.inl (IntKind.wrap .i64 (v11 + (1)))))) else (
some (.inl (IntKind.wrap .i64 (v11 + (1))))))) else (
bif (decide (x177.Time ≥ k0_0)) then (
(g106 n (⟨k1_0, k1_1, k1_2, k1_3, k1_4, k1_5, k1_6, k1_7, k1_8, k1_9, k1_10, k1_11, k1_12, k1_13, k1_14, k1_15⟩ : TWakeTable) (⟨k0_0, k0_1, k0_2, k0_3⟩ : TRunwayMove) x177).bind fun x180 =>
bif (decide ((IntKind.wrap .i64 (x177.Time - k0_0)) < x180)) then (
some (.inr (false))) else (
some (.inl (IntKind.wrap .i64 (v11 + (1)))))) else (
some (.inl (IntKind.wrap .i64 (v11 + (1))))))) else (
some (.inr (true)))
def g40 (n : Nat) (a0 : List TRunwayMove) (a1 : TRunwayMove) (a2 : TWakeTable) : Option ρ40 :=
iterO (fun y : Int => S40_0 n false a0 (a0.length : Int) a1.Time a1.Wake a1.Departs a1.End a2.c0_0 a2.c0_1 a2.c0_2 a2.c0_3 a2.c1_0 a2.c1_1 a2.c1_2 a2.c1_3 a2.c2_0 a2.c2_1 a2.c2_2 a2.c2_3 a2.c3_0 a2.c3_1 a2.c3_2 a2.c3_3 y) n (0)
abbrev ρ42 := (Bool)
def g42 (n : Nat) (a0 : TRunwayMove) (a1_0 : Int) (a1_1 : Int) (a1_2 : Bool) (a1_3 : Int) : Option ρ42 :=
some (decide (a0.Time > a1_0))
abbrev ρ41 := (Int)
def S41_0 (n : Nat) (a0 : List TRunwayMove) (a1_0_0 : Int) (a1_0_1 : Int) (a1_0_2 : Bool) (a1_0_3 : Int) (c4 : Int) (c7 : Int) (v8 : Int) : Option ((Int) ⊕ ρ41) :=
bif (decide (v8 < c7)) then (
(getI a0 v8).bind fun x182 =>
(g42 n x182 a1_0_0 a1_0_1 a1_0_2 a1_0_3).bind fun x183 =>
bif x183 then (
some (.inr (v8))) else (
some (.inl (IntKind.wrap .i64 (v8 + (1)))))) else (
some (.inr (-1)))
def g41 (n : Nat) (a0 : List TRunwayMove) (a1_0_0 : Int) (a1_0_1 : Int) (a1_0_2 : Bool) (a1_0_3 : Int) : Option ρ41 :=
iterO (fun y : Int => S41_0 n a0 a1_0_0 a1_0_1 a1_0_2 a1_0_3 (0) (a0.length : Int) y) n (0)
abbrev ρ9 := ((List TRunwayMove) × Int)
def S9_0_0 (n : Nat) (a1 : List TRunwaySpan) (c9 : Int) (a3 : List TRunwayReady) (c41 : Int) (v42 : Int) (k0_0 : Int) (k0_1 : Int) (k0_2 : Int) (k0_3 : Int) (k0_4 : Int) (k0_5 : Int) (k0_6 : Int) (k0_7 : Int) (k0_8 : Int) (k0_9 : Int) (k0_10 : Int) (k0_11 : Int) (k0_12 : Int) (k0_13 : Int) (k0_14 : Int) (k0_15 : Int) (L90000 : List TRunwayMove) (bw100145_0 : Int) (bw100145_1 : Int) (bw100145_2 : Bool) (bw100145_3 : Int) : Option ((List TRunwayMove × Int × Int × Bool × Int) ⊕ ((Int × List TRunwayMove) ⊕ ρ9)) :=
bif (decide (bw100145_0 ≤ (200000))) then (
(g39 n a1 bw100145_0).bind fun x176 =>
bif x176.2 then (
(g40 n L90000 (⟨bw100145_0, bw100145_1, bw100145_2, bw100145_3⟩ : TRunwayMove) (⟨k0_0, k0_1, k0_2, k0_3, k0_4, k0_5, k0_6, k0_7, k0_8, k0_9, k0_10, k0_11, k0_12, k0_13, k0_14, k0_15⟩ : TWakeTable)).bind fun x181 =>
bif x181 then (
bif (decide (bw100145_0 > (200000))) then (
some (.inr (.inr ([], (8))))) else (
(g41 n L90000 bw100145_0 bw100145_1 bw100145_2 x176.1).bind fun x184 =>
bif (decide (x184 < (0))) then (
(insO 32 L90000 (L90000.length : Int) ([(⟨bw100145_0, bw100145_1, bw100145_2, x176.1⟩ : TRunwayMove)] : List TRunwayMove)).bind fun x185 =>
some (.inr (.inl ((IntKind.wrap .i64 (v42 + (1))), x185)))) else (
(insO 32 L90000 x184 ([(⟨bw100145_0, bw100145_1, bw100145_2, x176.1⟩ : TRunwayMove)] : List TRunwayMove)).bind fun x186 =>
some (.inr (.inl ((IntKind.wrap .i64 (v42 + (1))), x186)))))) else (
some (.inl (L90000, (IntKind.wrap .i64 (bw100145_0 + (1))), bw100145_1, bw100145_2, bw100145_3)))) else (
some (.inl (L90000, (IntKind.wrap .i64 (bw100145_0 + (1))), bw100145_1, bw100145_2, bw100145_3)))) else (
bif (decide (bw100145_0 > (200000))) then (
some (.inr (.inr ([], (8))))) else (
(g41 n L90000 bw100145_0 bw100145_1 bw100145_2 bw100145_3).bind fun x187 =>
bif (decide (x187 < (0))) then (
(insO 32 L90000 (L90000.length : Int) ([(⟨bw100145_0, bw100145_1, bw100145_2, bw100145_3⟩ : TRunwayMove)] : List TRunwayMove)).bind fun x188 =>
some (.inr (.inl ((IntKind.wrap .i64 (v42 + (1))), x188)))) else (
(insO 32 L90000 x187 ([(⟨bw100145_0, bw100145_1, bw100145_2, bw100145_3⟩ : TRunwayMove)] : List TRunwayMove)).bind fun x189 =>
some (.inr (.inl ((IntKind.wrap .i64 (v42 + (1))), x189))))))
def S9_0 (n : Nat) (a1 : List TRunwaySpan) (c9 : Int) (a3 : List TRunwayReady) (c41 : Int) (k0_0 : Int) (k0_1 : Int) (k0_2 : Int) (k0_3 : Int) (k0_4 : Int) (k0_5 : Int) (k0_6 : Int) (k0_7 : Int) (k0_8 : Int) (k0_9 : Int) (k0_10 : Int) (k0_11 : Int) (k0_12 : Int) (k0_13 : Int) (k0_14 : Int) (k0_15 : Int) (v42 : Int) (L90000 : List TRunwayMove) : Option ((Int × List TRunwayMove) ⊕ ρ9) :=
bif (decide (v42 < c41)) then (
(getI a3 v42).bind fun x173 =>
(g37 n x173.Time).bind fun x174 =>
bif x174 then (
some (.inr ([], (12)))) else (
(g38 n x173.Wake).bind fun x175 =>
bif (x175 != (0)) then (
some (.inr ([], x175))) else (
iterO (fun y : List TRunwayMove × Int × Int × Bool × Int => S9_0_0 n a1 c9 a3 c41 v42 k0_0 k0_1 k0_2 k0_3 k0_4 k0_5 k0_6 k0_7 k0_8 k0_9 k0_10 k0_11 k0_12 k0_13 k0_14 k0_15 y.1 y.2.1 y.2.2.1 y.2.2.2.1 y.2.2.2.2) n (L90000, x173.Time, x173.Wake, true, (0))))) else (
some (.inr (L90000, (0))))
def g9 (n : Nat) (a0 : List TRunwayMove) (a1 : List TRunwaySpan) (a2 : TWakeTable) (a3 : List TRunwayReady) : Option ρ9 :=
(g35 n a0 a1 a2).bind fun x171 =>
bif (x171.2.2 != (0)) then (
some ([], x171.2.2)) else (
bif (decide ((IntKind.wrap .i64 ((a0.length : Int) + (a3.length : Int))) > (24))) then (
some ([], (2))) else (
(roomO a0.length 32).bind fun x172 =>
iterO (fun y : Int × List TRunwayMove => S9_0 n a1 (0) a3 (a3.length : Int) a2.c0_0 a2.c0_1 a2.c0_2 a2.c0_3 a2.c1_0 a2.c1_1 a2.c1_2 a2.c1_3 a2.c2_0 a2.c2_1 a2.c2_2 a2.c2_3 a2.c3_0 a2.c3_1 a2.c3_2 a2.c3_3 y.1 y.2) n ((0), a0)))
abbrev ρ4 := Bool
def g4 (n : Nat) : Option ρ4 := some true

abbrev ρ3 := (Bool)
def S3_1 (n : Nat) (c8 : Bool) (c11 : List TTaxiMove) (c77 : List TRunwayMove) (c78 : Int) (v79 : Int) : Option ((Int) ⊕ ρ3) :=
bif (decide (v79 < c78)) then (
(getI c77 v79).bind fun x204 =>
(getI c11 v79).bind fun x205 =>
bif (x204.Time != x205.Leave) then (
some (.inr (false))) else (
bif (!x204.Departs) then (
some (.inr (false))) else (
(getI c11 v79).bind fun x206 =>
(getI c11 v79).bind fun x207 =>
bif (decide ((IntKind.wrap .i64 (x206.Hold - x207.Push)) < (0))) then (
some (.inr (false))) else (
some (.inl (IntKind.wrap .i64 (v79 + (1)))))))) else (
some (.inr (true)))
def S3_0 (n : Nat) (x61 : Int) (c8 : Bool) (c10 : Int) (c11 : List TTaxiMove) (c47 : Int) (v48 : Int) (L90000 : List TRunwayReady) : Option ((Int × List TRunwayReady) ⊕ ρ3) :=
bif (decide (v48 < c47)) then (
(getI c11 v48).bind fun x138 =>
(roomO (L90000.length + ([(⟨x138.Leave, x61⟩ : TRunwayReady)] : List TRunwayReady).length) 16).bind fun x140 =>
some (.inl ((IntKind.wrap .i64 (v48 + (1))), (L90000 ++ ([(⟨x138.Leave, x61⟩ : TRunwayReady)] : List TRunwayReady))))) else (
(g7 n).bind fun x141 =>
(g9 n ([] : List TRunwayMove) ([(⟨(0), (0)⟩ : TRunwaySpan)] : List TRunwaySpan) x141 L90000).bind fun x190 =>
bif (x190.2 != (0)) then (
some (.inr (false))) else (
bif ((x190.1.length : Int) != (c11.length : Int)) then (
some (.inr (false))) else (
((iterO (fun y : Int => S3_1 n c8 c11 x190.1 (x190.1.length : Int) y) n (0)).map Sum.inr))))
def g3 (n : Nat) (a0 : List TTaxiStand) (a1 : List TTaxiAsk) (a2 : Int) (a3 : Int) : Option ρ3 :=
(g4 n).bind fun x59 =>
bif (!x59) then (
some (false)) else (
(g5 n a2 (4)).bind fun x61 =>
(g5 n a3 (900)).bind fun x62 =>
(g7 n).bind fun x63 =>
(g6 n x63 x61 x61).bind fun x78 =>
bif (x78.2 != (0)) then (
some (false)) else (
(g8 n a0 a1 x78.1 x62).bind fun x137 =>
bif (x137.2 != (0)) then (
some ((x137.1.length : Int) == (0))) else (
iterO (fun y : Int × List TRunwayReady => S3_0 n x61 false x137.2 x137.1 (x137.1.length : Int) y.1 y.2) n ((0), []))))
end Go.Proofs.YtbnnndfcaehlpaaGreatDoor
