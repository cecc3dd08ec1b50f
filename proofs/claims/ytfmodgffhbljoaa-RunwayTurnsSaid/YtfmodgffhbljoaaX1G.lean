/- Plain functional programs out of the program's functions; printed by wip/Ext.lean.txt. -/
import Derived.Test.YtfmodgffhbljoaaX1T
import Derived.Test.YtfmodgffhbljoaaPG
set_option linter.unusedVariables false
set_option linter.unusedSimpArgs false
set_option maxRecDepth 100000
namespace Go.Proofs.Ytfmodgffhbljoaa
abbrev ρ35 := (TWakeTable)
def g35 (n : Nat) : Option ρ35 :=
some (⟨(60), (60), (60), (60), (120), (60), (60), (60), (180), (120), (90), (60), (240), (180), (120), (120)⟩ : TWakeTable)
abbrev ρ42 := (Bool)
def g42 (n : Nat) (a0 : Int) : Option ρ42 :=
bif (decide (a0 < (0))) then (
some (true)) else (
some (decide (a0 > (200000))))
abbrev ρ37 := (Int)
def g37 (n : Nat) (a0 : Int) : Option ρ37 :=
bif (decide (a0 < (0))) then (
some (1)) else (
bif (decide (a0 > (3))) then (
some (1)) else (
some (0)))
abbrev ρ40 := (Int)
def S40_0 (n : Nat) (a0 : List TRunwayMove) (c2 : Int) (c10 : Int) (v11 : Int) : Option ((Int) ⊕ ρ40) :=
bif (decide (v11 < c10)) then (
(getI a0 v11).bind fun x1 =>
(g42 n x1.Time).bind fun x2 =>
bif x2 then (
some (.inr (12))) else (
bif (decide (v11 > (0))) then (
(getI a0 (IntKind.wrap .i64 (v11 - (1)))).bind fun x3 =>
bif (decide (x1.Time < x3.Time)) then (
some (.inr (12))) else (
(g37 n x1.Wake).bind fun x4 =>
bif (x4 != (0)) then (
some (.inr (x4))) else (
bif (x1.End != (0)) then (
bif (x1.End != (1)) then (
some (.inr (1))) else (
some (.inl (IntKind.wrap .i64 (v11 + (1)))))) else (
some (.inl (IntKind.wrap .i64 (v11 + (1)))))))) else (
(g37 n x1.Wake).bind fun x5 =>
bif (x5 != (0)) then (
some (.inr (x5))) else (
bif (x1.End != (0)) then (
bif (x1.End != (1)) then (
some (.inr (1))) else (
some (.inl (IntKind.wrap .i64 (v11 + (1)))))) else (
some (.inl (IntKind.wrap .i64 (v11 + (1))))))))) else (
some (.inr (0)))
def g40 (n : Nat) (a0 : List TRunwayMove) : Option ρ40 :=
bif (decide ((a0.length : Int) > (24))) then (
some (2)) else (
iterO (fun y : Int => S40_0 n a0 (0) (a0.length : Int) y) n (0))
abbrev ρ41 := (Int)
def S41_0 (n : Nat) (a0 : List TRunwaySpan) (c2 : Int) (c14 : Int) (v15 : Int) : Option ((Int) ⊕ ρ41) :=
bif (decide (v15 < c14)) then (
(getI a0 v15).bind fun x7 =>
bif (x7.End != (0)) then (
bif (x7.End != (1)) then (
some (.inr (1))) else (
(g42 n x7.From).bind fun x8 =>
bif x8 then (
some (.inr (12))) else (
bif (decide (v15 > (0))) then (
(getI a0 (IntKind.wrap .i64 (v15 - (1)))).bind fun x9 =>
bif (decide (x7.From < (IntKind.wrap .i64 (x9.From + (360))))) then (
some (.inr (12))) else (
bif (decide (v15 > (0))) then (
(getI a0 (IntKind.wrap .i64 (v15 - (1)))).bind fun x10 =>
bif (x7.End == x10.End) then (
some (.inr (11))) else (
some (.inl (IntKind.wrap .i64 (v15 + (1)))))) else (
some (.inl (IntKind.wrap .i64 (v15 + (1))))))) else (
bif (decide (v15 > (0))) then (
(getI a0 (IntKind.wrap .i64 (v15 - (1)))).bind fun x11 =>
bif (x7.End == x11.End) then (
some (.inr (11))) else (
some (.inl (IntKind.wrap .i64 (v15 + (1)))))) else (
some (.inl (IntKind.wrap .i64 (v15 + (1))))))))) else (
(g42 n x7.From).bind fun x12 =>
bif x12 then (
some (.inr (12))) else (
bif (decide (v15 > (0))) then (
(getI a0 (IntKind.wrap .i64 (v15 - (1)))).bind fun x13 =>
bif (decide (x7.From < (IntKind.wrap .i64 (x13.From + (360))))) then (
some (.inr (12))) else (
bif (decide (v15 > (0))) then (
(getI a0 (IntKind.wrap .i64 (v15 - (1)))).bind fun x14 =>
bif (x7.End == x14.End) then (
some (.inr (11))) else (
some (.inl (IntKind.wrap .i64 (v15 + (1)))))) else (
some (.inl (IntKind.wrap .i64 (v15 + (1))))))) else (
bif (decide (v15 > (0))) then (
(getI a0 (IntKind.wrap .i64 (v15 - (1)))).bind fun x15 =>
bif (x7.End == x15.End) then (
some (.inr (11))) else (
some (.inl (IntKind.wrap .i64 (v15 + (1)))))) else (
some (.inl (IntKind.wrap .i64 (v15 + (1))))))))) else (
some (.inr (0)))
def g41 (n : Nat) (a0 : List TRunwaySpan) : Option ρ41 :=
bif (decide ((a0.length : Int) > (24))) then (
some (2)) else (
bif ((a0.length : Int) == (0)) then (
some (8)) else (
iterO (fun y : Int => S41_0 n a0 (0) (a0.length : Int) y) n (0)))
abbrev ρ36 := (Int)
def S36_0_0 (n : Nat) (c2 : Int) (c10_0 : Int) (c10_1 : Int) (c10_2 : Int) (c10_3 : Int) (c10_4 : Int) (c10_5 : Int) (c10_6 : Int) (c10_7 : Int) (c10_8 : Int) (c10_9 : Int) (c10_10 : Int) (c10_11 : Int) (c10_12 : Int) (c10_13 : Int) (c10_14 : Int) (c10_15 : Int) (v11 : Int) (c14_0 : Int) (c14_1 : Int) (c14_2 : Int) (c14_3 : Int) (w15 : Int) : Option ((Int) ⊕ ((Int) ⊕ ρ36)) :=
bif (decide (w15 < (4))) then (
(getI ([c14_0, c14_1, c14_2, c14_3] : List Int) w15).bind fun x18 =>
bif (decide (x18 < (30))) then (
some (.inr (.inr (4)))) else (
bif (decide (x18 > (600))) then (
some (.inr (.inr (4)))) else (
some (.inl (IntKind.wrap .i64 (w15 + (1))))))) else (
some (.inr (.inl (IntKind.wrap .i64 (v11 + (1))))))
def S36_1_0_0 (n : Nat) (c2 : Int) (v26 : Int) (w29 : Int) (c10_0 : Int) (c10_1 : Int) (c10_2 : Int) (c10_3 : Int) (c10_4 : Int) (c10_5 : Int) (c10_6 : Int) (c10_7 : Int) (c10_8 : Int) (c10_9 : Int) (c10_10 : Int) (c10_11 : Int) (c10_12 : Int) (c10_13 : Int) (c10_14 : Int) (c10_15 : Int) (u32 : Int) : Option ((Int) ⊕ ((Int) ⊕ ((Int) ⊕ ρ36))) :=
bif (decide (u32 < (4))) then (
(getI ([(⟨c10_0, c10_1, c10_2, c10_3⟩ : T22), (⟨c10_4, c10_5, c10_6, c10_7⟩ : T22), (⟨c10_8, c10_9, c10_10, c10_11⟩ : T22), (⟨c10_12, c10_13, c10_14, c10_15⟩ : T22)] : List T22) v26).bind fun x19 =>
(getI ([x19.c0, x19.c1, x19.c2, x19.c3] : List Int) u32).bind fun x20 =>
(getI ([(⟨c10_0, c10_1, c10_2, c10_3⟩ : T22), (⟨c10_4, c10_5, c10_6, c10_7⟩ : T22), (⟨c10_8, c10_9, c10_10, c10_11⟩ : T22), (⟨c10_12, c10_13, c10_14, c10_15⟩ : T22)] : List T22) v26).bind fun x21 =>
(getI ([x21.c0, x21.c1, x21.c2, x21.c3] : List Int) w29).bind fun x22 =>
(getI ([(⟨c10_0, c10_1, c10_2, c10_3⟩ : T22), (⟨c10_4, c10_5, c10_6, c10_7⟩ : T22), (⟨c10_8, c10_9, c10_10, c10_11⟩ : T22), (⟨c10_12, c10_13, c10_14, c10_15⟩ : T22)] : List T22) w29).bind fun x23 =>
(getI ([x23.c0, x23.c1, x23.c2, x23.c3] : List Int) u32).bind fun x24 =>
bif (decide (x20 > (IntKind.wrap .i64 (x22 + x24)))) then (
some (.inr (.inr (.inr (3))))) else (
some (.inl (IntKind.wrap .i64 (u32 + (1)))))) else (
some (.inr (.inl (IntKind.wrap .i64 (w29 + (1))))))
def S36_1_0 (n : Nat) (c2 : Int) (v26 : Int) (c10_0 : Int) (c10_1 : Int) (c10_2 : Int) (c10_3 : Int) (c10_4 : Int) (c10_5 : Int) (c10_6 : Int) (c10_7 : Int) (c10_8 : Int) (c10_9 : Int) (c10_10 : Int) (c10_11 : Int) (c10_12 : Int) (c10_13 : Int) (c10_14 : Int) (c10_15 : Int) (w29 : Int) : Option ((Int) ⊕ ((Int) ⊕ ρ36)) :=
bif (decide (w29 < (4))) then (
iterO (fun y : Int => S36_1_0_0 n c2 v26 w29 c10_0 c10_1 c10_2 c10_3 c10_4 c10_5 c10_6 c10_7 c10_8 c10_9 c10_10 c10_11 c10_12 c10_13 c10_14 c10_15 y) n (0)) else (
some (.inr (.inl (IntKind.wrap .i64 (v26 + (1))))))
def S36_1 (n : Nat) (c2 : Int) (c10_0 : Int) (c10_1 : Int) (c10_2 : Int) (c10_3 : Int) (c10_4 : Int) (c10_5 : Int) (c10_6 : Int) (c10_7 : Int) (c10_8 : Int) (c10_9 : Int) (c10_10 : Int) (c10_11 : Int) (c10_12 : Int) (c10_13 : Int) (c10_14 : Int) (c10_15 : Int) (v26 : Int) : Option ((Int) ⊕ ρ36) :=
bif (decide (v26 < (4))) then (
iterO (fun y : Int => S36_1_0 n c2 v26 c10_0 c10_1 c10_2 c10_3 c10_4 c10_5 c10_6 c10_7 c10_8 c10_9 c10_10 c10_11 c10_12 c10_13 c10_14 c10_15 y) n (0)) else (
some (.inr (0)))
def S36_0 (n : Nat) (c2 : Int) (c10_0 : Int) (c10_1 : Int) (c10_2 : Int) (c10_3 : Int) (c10_4 : Int) (c10_5 : Int) (c10_6 : Int) (c10_7 : Int) (c10_8 : Int) (c10_9 : Int) (c10_10 : Int) (c10_11 : Int) (c10_12 : Int) (c10_13 : Int) (c10_14 : Int) (c10_15 : Int) (v11 : Int) : Option ((Int) ⊕ ρ36) :=
bif (decide (v11 < (4))) then (
(getI ([(⟨c10_0, c10_1, c10_2, c10_3⟩ : T22), (⟨c10_4, c10_5, c10_6, c10_7⟩ : T22), (⟨c10_8, c10_9, c10_10, c10_11⟩ : T22), (⟨c10_12, c10_13, c10_14, c10_15⟩ : T22)] : List T22) v11).bind fun x17 =>
iterO (fun y : Int => S36_0_0 n c2 c10_0 c10_1 c10_2 c10_3 c10_4 c10_5 c10_6 c10_7 c10_8 c10_9 c10_10 c10_11 c10_12 c10_13 c10_14 c10_15 v11 x17.c0 x17.c1 x17.c2 x17.c3 y) n (0)) else (
((iterO (fun y : Int => S36_1 n c2 c10_0 c10_1 c10_2 c10_3 c10_4 c10_5 c10_6 c10_7 c10_8 c10_9 c10_10 c10_11 c10_12 c10_13 c10_14 c10_15 y) n (0)).map Sum.inr))
def g36 (n : Nat) (a0 : TWakeTable) : Option ρ36 :=
iterO (fun y : Int => S36_0 n (0) a0.c0_0 a0.c0_1 a0.c0_2 a0.c0_3 a0.c1_0 a0.c1_1 a0.c1_2 a0.c1_3 a0.c2_0 a0.c2_1 a0.c2_2 a0.c2_3 a0.c3_0 a0.c3_1 a0.c3_2 a0.c3_3 y) n (0)
abbrev ρ44 := (Int × Bool)
def S44_0 (n : Nat) (a1 : Int) (c4 : Int) (c5 : Bool) (x29 : List TRunwaySpan) (c21 : Int) (v6 : Int) (v22 : Int) : Option ((Int × Int) ⊕ ρ44) :=
bif (decide (v22 < c21)) then (
(getI x29 v22).bind fun x30 =>
bif (decide ((if (IntKind.wrap .i64 (x30.From - a1)) > (IntKind.wrap .i64 (a1 - x30.From)) then (IntKind.wrap .i64 (x30.From - a1)) else (IntKind.wrap .i64 (a1 - x30.From))) < (180))) then (
some (.inr ((0), false))) else (
bif (decide (x30.From ≤ a1)) then (
some (.inl (x30.End, (IntKind.wrap .i64 (v22 + (1)))))) else (
some (.inl (v6, (IntKind.wrap .i64 (v22 + (1)))))))) else (
some (.inr (v6, true)))
def g44 (n : Nat) (a0 : List TRunwaySpan) (a1 : Int) : Option ρ44 :=
(getI a0 (0)).bind fun x27 =>
bif (decide (a1 < x27.From)) then (
some ((0), false)) else (
(getI a0 (0)).bind fun x28 =>
(sliceO a0 (some (1)) none).bind fun x29 =>
iterO (fun y : Int × Int => S44_0 n a1 (0) false x29 (x29.length : Int) y.1 y.2) n (x28.End, (0)))
abbrev ρ45 := (Int)
def g45 (n : Nat) (a0 : TWakeTable) (a1 : TRunwayMove) (a2 : TRunwayMove) : Option ρ45 :=
bif (!(a1.Departs == a2.Departs)) then (
some (60)) else (
(getI ([(⟨a0.c0_0, a0.c0_1, a0.c0_2, a0.c0_3⟩ : T22), (⟨a0.c1_0, a0.c1_1, a0.c1_2, a0.c1_3⟩ : T22), (⟨a0.c2_0, a0.c2_1, a0.c2_2, a0.c2_3⟩ : T22), (⟨a0.c3_0, a0.c3_1, a0.c3_2, a0.c3_3⟩ : T22)] : List T22) a1.Wake).bind fun x35 =>
(getI ([x35.c0, x35.c1, x35.c2, x35.c3] : List Int) a2.Wake).bind fun x36 =>
some (x36))
abbrev ρ19 := (Int × Int × Int)
def S19_1_0 (n : Nat) (a0 : List TRunwayMove) (c6 : Int) (v61 : Int) (c60 : Int) (k0_0 : Int) (k0_1 : Int) (k0_2 : Int) (k0_3 : Int) (k0_4 : Int) (k0_5 : Int) (k0_6 : Int) (k0_7 : Int) (k0_8 : Int) (k0_9 : Int) (k0_10 : Int) (k0_11 : Int) (k0_12 : Int) (k0_13 : Int) (k0_14 : Int) (k0_15 : Int) (k200004_0 : Int) (k200004_1 : Int) (k200004_2 : Bool) (k200004_3 : Int) (w18 : Int) : Option ((Int) ⊕ ((Int) ⊕ ρ19)) :=
bif (decide (w18 < (a0.length : Int))) then (
(getI a0 w18).bind fun x33 =>
(getI a0 w18).bind fun x34 =>
(g45 n (⟨k0_0, k0_1, k0_2, k0_3, k0_4, k0_5, k0_6, k0_7, k0_8, k0_9, k0_10, k0_11, k0_12, k0_13, k0_14, k0_15⟩ : TWakeTable) (⟨k200004_0, k200004_1, k200004_2, k200004_3⟩ : TRunwayMove) x34).bind fun x37 =>
bif (decide ((IntKind.wrap .i64 (x33.Time - k200004_0)) < x37)) then (
some (.inr (.inr (v61, w18, (15))))) else (
some (.inl (IntKind.wrap .i64 (w18 + (1)))))) else (
some (.inr (.inl (IntKind.wrap .i64 (v61 + (1))))))
def S19_1 (n : Nat) (a0 : List TRunwayMove) (c6 : Int) (c60 : Int) (k0_0 : Int) (k0_1 : Int) (k0_2 : Int) (k0_3 : Int) (k0_4 : Int) (k0_5 : Int) (k0_6 : Int) (k0_7 : Int) (k0_8 : Int) (k0_9 : Int) (k0_10 : Int) (k0_11 : Int) (k0_12 : Int) (k0_13 : Int) (k0_14 : Int) (k0_15 : Int) (v61 : Int) : Option ((Int) ⊕ ρ19) :=
bif (decide (v61 < c60)) then (
(getI a0 v61).bind fun x32 =>
iterO (fun y : Int => S19_1_0 n a0 c6 v61 c60 k0_0 k0_1 k0_2 k0_3 k0_4 k0_5 k0_6 k0_7 k0_8 k0_9 k0_10 k0_11 k0_12 k0_13 k0_14 k0_15 x32.Time x32.Wake x32.Departs x32.End y) n (IntKind.wrap .i64 (v61 + (1)))) else (
some (.inr ((0), (0), (0))))
def S19_0 (n : Nat) (a0 : List TRunwayMove) (a1 : List TRunwaySpan) (c6 : Int) (c35 : Int) (k0_0 : Int) (k0_1 : Int) (k0_2 : Int) (k0_3 : Int) (k0_4 : Int) (k0_5 : Int) (k0_6 : Int) (k0_7 : Int) (k0_8 : Int) (k0_9 : Int) (k0_10 : Int) (k0_11 : Int) (k0_12 : Int) (k0_13 : Int) (k0_14 : Int) (k0_15 : Int) (v36 : Int) : Option ((Int) ⊕ ρ19) :=
bif (decide (v36 < c35)) then (
(getI a0 v36).bind fun x26 =>
(g44 n a1 x26.Time).bind fun x31 =>
bif (!x31.2) then (
some (.inr (v36, v36, (14)))) else (
bif (x31.1 != x26.End) then (
some (.inr (v36, v36, (14)))) else (
some (.inl (IntKind.wrap .i64 (v36 + (1))))))) else (
((iterO (fun y : Int => S19_1 n a0 c6 (a0.length : Int) k0_0 k0_1 k0_2 k0_3 k0_4 k0_5 k0_6 k0_7 k0_8 k0_9 k0_10 k0_11 k0_12 k0_13 k0_14 k0_15 y) n (0)).map Sum.inr))
def g19 (n : Nat) (a0 : List TRunwayMove) (a1 : List TRunwaySpan) (a2 : TWakeTable) : Option ρ19 :=
(g40 n a0).bind fun x6 =>
bif (x6 != (0)) then (
some ((0), (0), x6)) else (
(g41 n a1).bind fun x16 =>
bif (x16 != (0)) then (
some ((0), (0), x16)) else (
(g36 n a2).bind fun x25 =>
bif (x25 != (0)) then (
some ((0), (0), x25)) else (
iterO (fun y : Int => S19_0 n a0 a1 (0) (a0.length : Int) a2.c0_0 a2.c0_1 a2.c0_2 a2.c0_3 a2.c1_0 a2.c1_1 a2.c1_2 a2.c1_3 a2.c2_0 a2.c2_1 a2.c2_2 a2.c2_3 a2.c3_0 a2.c3_1 a2.c3_2 a2.c3_3 y) n (0))))
abbrev ρ46 := (Bool)
def S46_0 (n : Nat) (c6 : Bool) (a0 : List TRunwayMove) (c10 : Int) (k0_0 : Int) (k0_1 : Int) (k0_2 : Bool) (k0_3 : Int) (k1_0 : Int) (k1_1 : Int) (k1_2 : Int) (k1_3 : Int) (k1_4 : Int) (k1_5 : Int) (k1_6 : Int) (k1_7 : Int) (k1_8 : Int) (k1_9 : Int) (k1_10 : Int) (k1_11 : Int) (k1_12 : Int) (k1_13 : Int) (k1_14 : Int) (k1_15 : Int) (v11 : Int) : Option ((Int) ⊕ ρ46) :=
bif (decide (v11 < c10)) then (
(getI a0 v11).bind fun x44 =>
bif (decide (x44.Time ≤ k0_0)) then (
(g45 n (⟨k1_0, k1_1, k1_2, k1_3, k1_4, k1_5, k1_6, k1_7, k1_8, k1_9, k1_10, k1_11, k1_12, k1_13, k1_14, k1_15⟩ : TWakeTable) x44 (⟨k0_0, k0_1, k0_2, k0_3⟩ : TRunwayMove)).bind fun x45 =>
bif (decide ((IntKind.wrap .i64 (k0_0 - x44.Time)) < x45)) then (
some (.inr (false))) else (
bif (decide (x44.Time ≥ k0_0)) then (
(g45 n (⟨k1_0, k1_1, k1_2, k1_3, k1_4, k1_5, k1_6, k1_7, k1_8, k1_9, k1_10, k1_11, k1_12, k1_13, k1_14, k1_15⟩ : TWakeTable) (⟨k0_0, k0_1, k0_2, k0_3⟩ : TRunwayMove) x44).bind fun x46 =>
bif (decide ((IntKind.wrap .i64 (x44.Time - k0_0)) < x46)) then (
some (.inr (false))) else (
some (.inl (IntKind.wrap .i64 (v11 + (1)))))) else (
some (.inl (IntKind.wrap .i64 (v11 + (1))))))) else (
bif (decide (x44.Time ≥ k0_0)) then (
(g45 n (⟨k1_0, k1_1, k1_2, k1_3, k1_4, k1_5, k1_6, k1_7, k1_8, k1_9, k1_10, k1_11, k1_12, k1_13, k1_14, k1_15⟩ : TWakeTable) (⟨k0_0, k0_1, k0_2, k0_3⟩ : TRunwayMove) x44).bind fun x47 =>
bif (decide ((IntKind.wrap .i64 (x44.Time - k0_0)) < x47)) then (
some (.inr (false))) else (
some (.inl (IntKind.wrap .i64 (v11 + (1)))))) else (
some (.inl (IntKind.wrap .i64 (v11 + (1))))))) else (
some (.inr (true)))
def g46 (n : Nat) (a0 : List TRunwayMove) (a1 : TRunwayMove) (a2 : TWakeTable) : Option ρ46 :=
iterO (fun y : Int => S46_0 n false a0 (a0.length : Int) a1.Time a1.Wake a1.Departs a1.End a2.c0_0 a2.c0_1 a2.c0_2 a2.c0_3 a2.c1_0 a2.c1_1 a2.c1_2 a2.c1_3 a2.c2_0 a2.c2_1 a2.c2_2 a2.c2_3 a2.c3_0 a2.c3_1 a2.c3_2 a2.c3_3 y) n (0)
abbrev ρ48 := (Bool)
def g48 (n : Nat) (a0 : TRunwayMove) (a1_0 : Int) (a1_1 : Int) (a1_2 : Bool) (a1_3 : Int) : Option ρ48 :=
some (decide (a0.Time > a1_0))
abbrev ρ47 := (Int)
def S47_0 (n : Nat) (a0 : List TRunwayMove) (a1_0_0 : Int) (a1_0_1 : Int) (a1_0_2 : Bool) (a1_0_3 : Int) (c4 : Int) (c7 : Int) (v8 : Int) : Option ((Int) ⊕ ρ47) :=
bif (decide (v8 < c7)) then (
(getI a0 v8).bind fun x49 =>
(g48 n x49 a1_0_0 a1_0_1 a1_0_2 a1_0_3).bind fun x50 =>
bif x50 then (
some (.inr (v8))) else (
some (.inl (IntKind.wrap .i64 (v8 + (1)))))) else (
some (.inr (-1)))
def g47 (n : Nat) (a0 : List TRunwayMove) (a1_0_0 : Int) (a1_0_1 : Int) (a1_0_2 : Bool) (a1_0_3 : Int) : Option ρ47 :=
iterO (fun y : Int => S47_0 n a0 a1_0_0 a1_0_1 a1_0_2 a1_0_3 (0) (a0.length : Int) y) n (0)
abbrev ρ49 := ((List TRunwayMove))
def g49 (n : Nat) (a0 : List TRunwayMove) (a1 : Int) (a2 : List TRunwayMove) : Option ρ49 :=
(sliceO a0 (some a1) none).bind fun x52 =>
bif ((a2.length : Int) == (0)) then (
some a0) else (
bif (a1 == (a0.length : Int)) then (
(neO a2).bind fun x53 =>
(roomO (a0.length + a2.length) 32).bind fun x54 =>
some (a0 ++ a2)) else (
none))
abbrev ρ21 := ((List TRunwayMove) × Int)
def S21_0_0 (n : Nat) (a1 : List TRunwaySpan) (c9 : Int) (a3 : List TRunwayReady) (c41 : Int) (v42 : Int) (k0_0 : Int) (k0_1 : Int) (k0_2 : Int) (k0_3 : Int) (k0_4 : Int) (k0_5 : Int) (k0_6 : Int) (k0_7 : Int) (k0_8 : Int) (k0_9 : Int) (k0_10 : Int) (k0_11 : Int) (k0_12 : Int) (k0_13 : Int) (k0_14 : Int) (k0_15 : Int) (L90000 : List TRunwayMove) (bw100145_0 : Int) (bw100145_1 : Int) (bw100145_2 : Bool) (bw100145_3 : Int) : Option ((List TRunwayMove × Int × Int × Bool × Int) ⊕ ((Int × List TRunwayMove) ⊕ ρ21)) :=
bif (decide (bw100145_0 ≤ (200000))) then (
(g44 n a1 bw100145_0).bind fun x43 =>
bif x43.2 then (
(g46 n L90000 (⟨bw100145_0, bw100145_1, bw100145_2, bw100145_3⟩ : TRunwayMove) (⟨k0_0, k0_1, k0_2, k0_3, k0_4, k0_5, k0_6, k0_7, k0_8, k0_9, k0_10, k0_11, k0_12, k0_13, k0_14, k0_15⟩ : TWakeTable)).bind fun x48 =>
bif x48 then (
bif (decide (bw100145_0 > (200000))) then (
some (.inr (.inr ([], (8))))) else (
(g47 n L90000 bw100145_0 bw100145_1 bw100145_2 x43.1).bind fun x51 =>
bif (decide (x51 < (0))) then (
(neO L90000).bind fun x55 =>
(g49 n L90000 (L90000.length : Int) ([(⟨bw100145_0, bw100145_1, bw100145_2, x43.1⟩ : TRunwayMove)] : List TRunwayMove)).bind fun x56 =>
(neO x56).bind fun x57 =>
some (.inr (.inl ((IntKind.wrap .i64 (v42 + (1))), x56)))) else (
(neO L90000).bind fun x58 =>
(g49 n L90000 x51 ([(⟨bw100145_0, bw100145_1, bw100145_2, x43.1⟩ : TRunwayMove)] : List TRunwayMove)).bind fun x59 =>
(neO x59).bind fun x60 =>
some (.inr (.inl ((IntKind.wrap .i64 (v42 + (1))), x59)))))) else (
some (.inl (L90000, (IntKind.wrap .i64 (bw100145_0 + (1))), bw100145_1, bw100145_2, bw100145_3)))) else (
some (.inl (L90000, (IntKind.wrap .i64 (bw100145_0 + (1))), bw100145_1, bw100145_2, bw100145_3)))) else (
bif (decide (bw100145_0 > (200000))) then (
some (.inr (.inr ([], (8))))) else (
(g47 n L90000 bw100145_0 bw100145_1 bw100145_2 bw100145_3).bind fun x61 =>
bif (decide (x61 < (0))) then (
(neO L90000).bind fun x62 =>
(g49 n L90000 (L90000.length : Int) ([(⟨bw100145_0, bw100145_1, bw100145_2, bw100145_3⟩ : TRunwayMove)] : List TRunwayMove)).bind fun x63 =>
(neO x63).bind fun x64 =>
some (.inr (.inl ((IntKind.wrap .i64 (v42 + (1))), x63)))) else (
(neO L90000).bind fun x65 =>
(g49 n L90000 x61 ([(⟨bw100145_0, bw100145_1, bw100145_2, bw100145_3⟩ : TRunwayMove)] : List TRunwayMove)).bind fun x66 =>
(neO x66).bind fun x67 =>
some (.inr (.inl ((IntKind.wrap .i64 (v42 + (1))), x66))))))
def S21_0 (n : Nat) (a1 : List TRunwaySpan) (c9 : Int) (a3 : List TRunwayReady) (c41 : Int) (k0_0 : Int) (k0_1 : Int) (k0_2 : Int) (k0_3 : Int) (k0_4 : Int) (k0_5 : Int) (k0_6 : Int) (k0_7 : Int) (k0_8 : Int) (k0_9 : Int) (k0_10 : Int) (k0_11 : Int) (k0_12 : Int) (k0_13 : Int) (k0_14 : Int) (k0_15 : Int) (v42 : Int) (L90000 : List TRunwayMove) : Option ((Int × List TRunwayMove) ⊕ ρ21) :=
bif (decide (v42 < c41)) then (
(getI a3 v42).bind fun x40 =>
(g42 n x40.Time).bind fun x41 =>
bif x41 then (
some (.inr ([], (12)))) else (
(g37 n x40.Wake).bind fun x42 =>
bif (x42 != (0)) then (
some (.inr ([], x42))) else (
iterO (fun y : List TRunwayMove × Int × Int × Bool × Int => S21_0_0 n a1 c9 a3 c41 v42 k0_0 k0_1 k0_2 k0_3 k0_4 k0_5 k0_6 k0_7 k0_8 k0_9 k0_10 k0_11 k0_12 k0_13 k0_14 k0_15 y.1 y.2.1 y.2.2.1 y.2.2.2.1 y.2.2.2.2) n (L90000, x40.Time, x40.Wake, true, (0))))) else (
some (.inr (L90000, (0))))
def g21 (n : Nat) (a0 : List TRunwayMove) (a1 : List TRunwaySpan) (a2 : TWakeTable) (a3 : List TRunwayReady) : Option ρ21 :=
(g19 n a0 a1 a2).bind fun x38 =>
bif (x38.2.2 != (0)) then (
some ([], x38.2.2)) else (
bif (decide ((IntKind.wrap .i64 ((a0.length : Int) + (a3.length : Int))) > (24))) then (
some ([], (2))) else (
(roomO a0.length 32).bind fun x39 =>
iterO (fun y : Int × List TRunwayMove => S21_0 n a1 (0) a3 (a3.length : Int) a2.c0_0 a2.c0_1 a2.c0_2 a2.c0_3 a2.c1_0 a2.c1_1 a2.c1_2 a2.c1_3 a2.c2_0 a2.c2_1 a2.c2_2 a2.c2_3 a2.c3_0 a2.c3_1 a2.c3_2 a2.c3_3 y.1 y.2) n ((0), a0)))
abbrev ρ18 := ((List TRunwaySpan) × Int)
def g18 (n : Nat) (a0 : List TRunwayMove) (a1 : List TRunwaySpan) (a2 : Int) : Option ρ18 :=
(g40 n a0).bind fun x91 =>
bif (x91 != (0)) then (
some ([], x91)) else (
(g41 n a1).bind fun x92 =>
bif (x92 != (0)) then (
some ([], x92)) else (
(getI a1 (IntKind.wrap .i64 ((a1.length : Int) - (1)))).bind fun x93 =>
bif ((a1.length : Int) == (24)) then (
some ([], (9))) else (
(g42 n a2).bind fun x94 =>
bif x94 then (
some ([], (12))) else (
bif (decide (a2 < (IntKind.wrap .i64 (x93.From + (360))))) then (
some ([], (12))) else (
bif (decide ((a0.length : Int) > (0))) then (
(getI a0 (IntKind.wrap .i64 ((a0.length : Int) - (1)))).bind fun x95 =>
bif (decide (x95.Time > (IntKind.wrap .i64 (a2 - (180))))) then (
some ([], (15))) else (
(roomO a1.length 16).bind fun x96 =>
(roomO (a1.length + ([(⟨a2, (IntKind.wrap .i64 ((1) - x93.End))⟩ : TRunwaySpan)] : List TRunwaySpan).length) 16).bind fun x98 =>
some ((a1 ++ ([(⟨a2, (IntKind.wrap .i64 ((1) - x93.End))⟩ : TRunwaySpan)] : List TRunwaySpan)), (0)))) else (
(roomO a1.length 16).bind fun x99 =>
(roomO (a1.length + ([(⟨a2, (IntKind.wrap .i64 ((1) - x93.End))⟩ : TRunwaySpan)] : List TRunwaySpan).length) 16).bind fun x101 =>
some ((a1 ++ ([(⟨a2, (IntKind.wrap .i64 ((1) - x93.End))⟩ : TRunwaySpan)] : List TRunwaySpan)), (0))))))))
abbrev ρ20 := (Int × Int)
def g20 (n : Nat) (a0 : List TRunwaySpan) (a1 : Int) : Option ρ20 :=
(g41 n a0).bind fun x114 =>
bif (x114 != (0)) then (
some ((0), x114)) else (
(g42 n a1).bind fun x115 =>
bif x115 then (
some ((0), (12))) else (
(g44 n a0 a1).bind fun x116 =>
bif (!x116.2) then (
some ((0), (14))) else (
some (x116.1, (0)))))
abbrev ρ39 := (Int × Int)
def S39_0 (n : Nat) (c6 : Int) (c19_0 : Int) (c19_1 : Int) (c19_2 : Bool) (c19_3 : Int) (c19_4 : Int) (c19_5 : Int) (c19_6 : Bool) (c19_7 : Int) (k0_0 : Int) (k0_1 : Int) (k0_2 : Int) (k0_3 : Int) (k0_4 : Int) (k0_5 : Int) (k0_6 : Int) (k0_7 : Int) (k0_8 : Int) (k0_9 : Int) (k0_10 : Int) (k0_11 : Int) (k0_12 : Int) (k0_13 : Int) (k0_14 : Int) (k0_15 : Int) (v20 : Int) : Option ((Int) ⊕ ρ39) :=
bif (decide (v20 < (2))) then (
(getI ([(⟨c19_0, c19_1, c19_2, c19_3⟩ : TRunwayMove), (⟨c19_4, c19_5, c19_6, c19_7⟩ : TRunwayMove)] : List TRunwayMove) v20).bind fun x122 =>
(g40 n ([x122] : List TRunwayMove)).bind fun x123 =>
bif (x123 != (0)) then (
some (.inr ((0), x123))) else (
some (.inl (IntKind.wrap .i64 (v20 + (1)))))) else (
(g45 n (⟨k0_0, k0_1, k0_2, k0_3, k0_4, k0_5, k0_6, k0_7, k0_8, k0_9, k0_10, k0_11, k0_12, k0_13, k0_14, k0_15⟩ : TWakeTable) (⟨c19_0, c19_1, c19_2, c19_3⟩ : TRunwayMove) (⟨c19_4, c19_5, c19_6, c19_7⟩ : TRunwayMove)).bind fun x124 =>
some (.inr (x124, (0))))
def g39 (n : Nat) (a0 : TWakeTable) (a1 : TRunwayMove) (a2 : TRunwayMove) : Option ρ39 :=
(g36 n a0).bind fun x121 =>
bif (x121 != (0)) then (
some ((0), x121)) else (
iterO (fun y : Int => S39_0 n (0) a1.Time a1.Wake a1.Departs a1.End a2.Time a2.Wake a2.Departs a2.End a0.c0_0 a0.c0_1 a0.c0_2 a0.c0_3 a0.c1_0 a0.c1_1 a0.c1_2 a0.c1_3 a0.c2_0 a0.c2_1 a0.c2_2 a0.c2_3 a0.c3_0 a0.c3_1 a0.c3_2 a0.c3_3 y) n (0))
abbrev ρ17 := (Bool)
def g17 (n : Nat) : Option ρ17 :=
(g35 n).bind fun x0 =>
(g21 n ([(⟨(100), (1), false, (0)⟩ : TRunwayMove)] : List TRunwayMove) ([(⟨(0), (0)⟩ : TRunwaySpan)] : List TRunwaySpan) x0 ([(⟨(100), (1)⟩ : TRunwayReady)] : List TRunwayReady)).bind fun x68 =>
(g19 n x68.1 ([(⟨(0), (0)⟩ : TRunwaySpan)] : List TRunwaySpan) x0).bind fun x90 =>
(g18 n x68.1 ([(⟨(0), (0)⟩ : TRunwaySpan)] : List TRunwaySpan) (1000)).bind fun x102 =>
(g20 n x102.1 (821)).bind fun x117 =>
(g20 n x102.1 (1180)).bind fun x118 =>
bif ((x68.1.length : Int) != (2)) then (
some (false)) else (
(getI x68.1 (0)).bind fun x119 =>
(getI x68.1 (1)).bind fun x120 =>
(g39 n x0 x119 x120).bind fun x125 =>
(getI ([(⟨(100), (1), false, (0)⟩ : TRunwayMove)] : List TRunwayMove) (0)).bind fun x126 =>
(getI ([(⟨(100), (1), false, (0)⟩ : TRunwayMove)] : List TRunwayMove) (0)).bind fun x127 =>
(g19 n ([x126, x127] : List TRunwayMove) ([(⟨(0), (0)⟩ : TRunwaySpan)] : List TRunwaySpan) x0).bind fun x128 =>
bif (x68.2 == (0)) then (
bif (x90.2.2 == (0)) then (
bif (x102.2 == (0)) then (
bif (x117.2 == (14)) then (
bif (x118.2 == (0)) then (
bif (x125.2 == (0)) then (
bif (x128.2.2 == (15)) then (
bif (x128.1 == (0)) then (
bif (x128.2.1 == (1)) then (
bif (x118.1 == (1)) then (
bif (x125.1 == (60)) then (
(getI x68.1 (1)).bind fun x129 =>
bif (decide (x129 = (⟨(160), (1), true, (0)⟩ : TRunwayMove))) then (
(g40 n ([(⟨(0), (0), false, (2)⟩ : TRunwayMove)] : List TRunwayMove)).bind fun x130 =>
bif (x130 == (1)) then (
(g41 n ([] : List TRunwaySpan)).bind fun x131 =>
some (x131 == (8))) else (
some (false))) else (
some (false))) else (
some (false))) else (
some (false))) else (
some (false))) else (
some (false))) else (
some (false))) else (
some (false))) else (
some (false))) else (
some (false))) else (
some (false))) else (
some (false))) else (
some (false)))
abbrev ρ5 := (Bool)
def g5 (n : Nat) (a0 : List TRunwayMove) (a1 : List TRunwaySpan) (a2 : TWakeTable) (a3 : Int) : Option ρ5 :=
(g17 n).bind fun x132 =>
bif (!x132) then (
some (false)) else (
(g18 n a0 a1 a3).bind fun x133 =>
bif (x133.2 != (0)) then (
some ((x133.1.length : Int) == (0))) else (
bif ((a1.length : Int) == (0)) then (
some ((x133.1.length : Int) == (0))) else (
(g19 n a0 a1 a2).bind fun x134 =>
(g19 n a0 x133.1 a2).bind fun x135 =>
bif (x134.2.2 != x135.2.2) then (
some (false)) else (
bif (x134.1 != x135.1) then (
some (false)) else (
bif (x134.2.1 != x135.2.1) then (
some (false)) else (
(g20 n x133.1 a3).bind fun x136 =>
bif (decide ((IntKind.wrap .i64 (a3 + (180))) > (200000))) then (
some (x136.2 == (14))) else (
(g20 n x133.1 (IntKind.wrap .i64 (a3 + (180)))).bind fun x137 =>
bif (x136.2 == (14)) then (
bif (x137.2 == (0)) then (
(getI a1 (IntKind.wrap .i64 ((a1.length : Int) - (1)))).bind fun x138 =>
some (x137.1 == (IntKind.wrap .i64 ((1) - x138.End)))) else (
some (false))) else (
some (false)))))))))
abbrev ρ28 := Bool
def g28 (n : Nat) : Option ρ28 := some true
abbrev ρ62 := (Bool)
def S62_0 (n : Nat) (c2 : Bool) (c14 : List UInt8) (c15 : Int) (v16 : Int) : Option ((Int) ⊕ ρ62) :=
bif (decide (v16 < c15)) then (
(getI c14 v16).bind fun x142 =>
bif (decide ((x142.toNat : Int) ≥ (65))) then (
bif (decide ((x142.toNat : Int) ≤ (90))) then (
some (.inl (IntKind.wrap .i64 (v16 + (1))))) else (
bif (decide (v16 > (0))) then (
bif (decide ((x142.toNat : Int) ≥ (48))) then (
bif (!(decide ((x142.toNat : Int) ≤ (57)))) then (
some (.inr (false))) else (
some (.inl (IntKind.wrap .i64 (v16 + (1)))))) else (
some (.inr (false)))) else (
some (.inr (false))))) else (
bif (decide (v16 > (0))) then (
bif (decide ((x142.toNat : Int) ≥ (48))) then (
bif (!(decide ((x142.toNat : Int) ≤ (57)))) then (
some (.inr (false))) else (
some (.inl (IntKind.wrap .i64 (v16 + (1)))))) else (
some (.inr (false)))) else (
some (.inr (false))))) else (
some (.inr (true)))
def g62 (n : Nat) (a0 : ByteArray) : Option ρ62 :=
bif (decide ((a0.size : Int) < (1))) then (
some (false)) else (
bif (decide ((a0.size : Int) > (8))) then (
some (false)) else (
(roomO a0.size 1).bind fun x141 =>
iterO (fun y : Int => S62_0 n false (a0.data.toList) ((a0.data.toList).length : Int) y) n (0)))
abbrev ρ64 := (Bool)
def g64 (n : Nat) (a0 : TSequenceArrival) (a1_0 : ByteArray) (a1_1 : Int) (a1_2 : Int) (a1_3 : Int) : Option ρ64 :=
some ((a0.Call).toList == (a1_0).toList)
abbrev ρ71 := (Int)
def S71_0 (n : Nat) (a0 : List TSequenceArrival) (a1_0_0 : ByteArray) (a1_0_1 : Int) (a1_0_2 : Int) (a1_0_3 : Int) (c4 : Int) (c7 : Int) (v8 : Int) : Option ((Int) ⊕ ρ71) :=
bif (decide (v8 < c7)) then (
(getI a0 v8).bind fun x146 =>
(g64 n x146 a1_0_0 a1_0_1 a1_0_2 a1_0_3).bind fun x147 =>
bif x147 then (
some (.inr (v8))) else (
some (.inl (IntKind.wrap .i64 (v8 + (1)))))) else (
some (.inr (-1)))
def g71 (n : Nat) (a0 : List TSequenceArrival) (a1_0_0 : ByteArray) (a1_0_1 : Int) (a1_0_2 : Int) (a1_0_3 : Int) : Option ρ71 :=
iterO (fun y : Int => S71_0 n a0 a1_0_0 a1_0_1 a1_0_2 a1_0_3 (0) (a0.length : Int) y) n (0)
abbrev ρ63 := (Bool)
def g63 (n : Nat) (a0 : List TSequenceArrival) (a1_0_0 : ByteArray) (a1_0_1 : Int) (a1_0_2 : Int) (a1_0_3 : Int) : Option ρ63 :=
(g71 n a0 a1_0_0 a1_0_1 a1_0_2 a1_0_3).bind fun x148 =>
some (decide (x148 ≥ (0)))
abbrev ρ50 := (Int)
def S50_0 (n : Nat) (a0 : List TSequenceArrival) (c2 : Int) (c10 : Int) (v11 : Int) : Option ((Int) ⊕ ρ50) :=
bif (decide (v11 < c10)) then (
(getI a0 v11).bind fun x140 =>
(g62 n x140.Call).bind fun x143 =>
bif (!x143) then (
some (.inr (3))) else (
(g37 n x140.Wake).bind fun x144 =>
bif (x144 != (0)) then (
some (.inr (x144))) else (
bif (decide (x140.Time < (0))) then (
some (.inr (12))) else (
bif (decide (x140.Time > x140.Latest)) then (
some (.inr (12))) else (
bif (decide (x140.Latest > (200000))) then (
some (.inr (12))) else (
(sliceO a0 none (some v11)).bind fun x145 =>
(g63 n x145 x140.Call x140.Wake x140.Time x140.Latest).bind fun x149 =>
bif x149 then (
some (.inr (7))) else (
some (.inl (IntKind.wrap .i64 (v11 + (1))))))))))) else (
some (.inr (0)))
def g50 (n : Nat) (a0 : List TSequenceArrival) : Option ρ50 :=
bif (decide ((a0.length : Int) > (8))) then (
some (2)) else (
iterO (fun y : Int => S50_0 n a0 (0) (a0.length : Int) y) n (0))
abbrev ρ55 := (Bool)
def S55_0 (n : Nat) (a0 : List Int) (a1 : Int) (c4 : Bool) (c11 : Int) (v12 : Int) (L90000 : List Bool) : Option ((Int × List Bool) ⊕ ρ55) :=
bif (decide (v12 < c11)) then (
(getI a0 v12).bind fun x153 =>
bif (decide (x153 < (0))) then (
some (.inr (false))) else (
bif (decide (x153 ≥ a1)) then (
some (.inr (false))) else (
(getI L90000 x153).bind fun x154 =>
bif x154 then (
some (.inr (false))) else (
(getI L90000 x153).bind fun x155 =>
some (.inl ((IntKind.wrap .i64 (v12 + (1))), (L90000.set ((x153 : Int).toNat) true))))))) else (
some (.inr ((a0.length : Int) == a1)))
def g55 (n : Nat) (a0 : List Int) (a1 : Int) : Option ρ55 :=
(makeO a1 1).bind fun x152 =>
iterO (fun y : Int × List Bool => S55_0 n a0 a1 false (a0.length : Int) y.1 y.2) n ((0), (List.replicate x152 false))
abbrev ρ53 := ((List Int) × Bool)
def S53_0 (n : Nat) (a0 : List TSequenceArrival) (a1 : List Int) (c7 : Bool) (c13 : Int) (k0_0 : Int) (k0_1 : Int) (k0_2 : Int) (k0_3 : Int) (k0_4 : Int) (k0_5 : Int) (k0_6 : Int) (k0_7 : Int) (k0_8 : Int) (k0_9 : Int) (k0_10 : Int) (k0_11 : Int) (k0_12 : Int) (k0_13 : Int) (k0_14 : Int) (k0_15 : Int) (v14 : Int) (L90000 : List Int) : Option ((Int × List Int) ⊕ ρ53) :=
bif (decide (v14 < c13)) then (
(getI a1 v14).bind fun x157 =>
(getI a0 x157).bind fun x158 =>
bif (decide (v14 > (0))) then (
(getI L90000 (IntKind.wrap .i64 (v14 - (1)))).bind fun x159 =>
(getI a1 (IntKind.wrap .i64 (v14 - (1)))).bind fun x160 =>
(getI a0 x160).bind fun x161 =>
(getI a0 x157).bind fun x162 =>
(getI ([(⟨k0_0, k0_1, k0_2, k0_3⟩ : T22), (⟨k0_4, k0_5, k0_6, k0_7⟩ : T22), (⟨k0_8, k0_9, k0_10, k0_11⟩ : T22), (⟨k0_12, k0_13, k0_14, k0_15⟩ : T22)] : List T22) x161.Wake).bind fun x163 =>
(getI ([x163.c0, x163.c1, x163.c2, x163.c3] : List Int) x162.Wake).bind fun x164 =>
(getI a0 x157).bind fun x165 =>
bif (decide ((if (IntKind.wrap .i64 (x159 + x164)) > x158.Time then (IntKind.wrap .i64 (x159 + x164)) else x158.Time) > x165.Latest)) then (
some (.inr ([], false))) else (
(roomO (L90000.length + ([(if (IntKind.wrap .i64 (x159 + x164)) > x158.Time then (IntKind.wrap .i64 (x159 + x164)) else x158.Time)] : List Int).length) 8).bind fun x167 =>
some (.inl ((IntKind.wrap .i64 (v14 + (1))), (L90000 ++ ([(if (IntKind.wrap .i64 (x159 + x164)) > x158.Time then (IntKind.wrap .i64 (x159 + x164)) else x158.Time)] : List Int)))))) else (
(getI a0 x157).bind fun x168 =>
bif (decide (x158.Time > x168.Latest)) then (
some (.inr ([], false))) else (
(roomO (L90000.length + ([x158.Time] : List Int).length) 8).bind fun x170 =>
some (.inl ((IntKind.wrap .i64 (v14 + (1))), (L90000 ++ ([x158.Time] : List Int))))))) else (
some (.inr (L90000, true)))
def g53 (n : Nat) (a0 : List TSequenceArrival) (a1 : List Int) (a2 : TWakeTable) : Option ρ53 :=
iterO (fun y : Int × List Int => S53_0 n a0 a1 false (a1.length : Int) a2.c0_0 a2.c0_1 a2.c0_2 a2.c0_3 a2.c1_0 a2.c1_1 a2.c1_2 a2.c1_3 a2.c2_0 a2.c2_1 a2.c2_2 a2.c2_3 a2.c3_0 a2.c3_1 a2.c3_2 a2.c3_3 y.1 y.2) n ((0), [])
abbrev ρ32 := ((List Int) × Int)
def g32 (n : Nat) (a0 : List TSequenceArrival) (a1 : List Int) (a2 : TWakeTable) : Option ρ32 :=
(g50 n a0).bind fun x150 =>
bif (x150 != (0)) then (
some ([], x150)) else (
(g36 n a2).bind fun x151 =>
bif (x151 != (0)) then (
some ([], x151)) else (
(g55 n a1 (a0.length : Int)).bind fun x156 =>
bif (!x156) then (
some ([], (3))) else (
(g53 n a0 a1 a2).bind fun x171 =>
bif (!x171.2) then (
some ([], (8))) else (
some (x171.1, (0))))))
abbrev ρ16 := (Bool × Int)
def S16_1 (n : Nat) (a1 : List Int) (a2 : List Int) (c6 : Bool) (c7 : Int) (k0_0 : Int) (k0_1 : Int) (k0_2 : Int) (k0_3 : Int) (k0_4 : Int) (k0_5 : Int) (k0_6 : Int) (k0_7 : Int) (k0_8 : Int) (k0_9 : Int) (k0_10 : Int) (k0_11 : Int) (k0_12 : Int) (k0_13 : Int) (k0_14 : Int) (k0_15 : Int) (v12 : Int) : Option ((Int) ⊕ ρ16) :=
bif (decide (v12 < (a1.length : Int))) then (
(getI a2 v12).bind fun x182 =>
(getI a2 (IntKind.wrap .i64 (v12 - (1)))).bind fun x183 =>
(getI a1 (IntKind.wrap .i64 (v12 - (1)))).bind fun x184 =>
(getI a1 v12).bind fun x185 =>
(getI ([(⟨k0_0, k0_1, k0_2, k0_3⟩ : T22), (⟨k0_4, k0_5, k0_6, k0_7⟩ : T22), (⟨k0_8, k0_9, k0_10, k0_11⟩ : T22), (⟨k0_12, k0_13, k0_14, k0_15⟩ : T22)] : List T22) x184).bind fun x186 =>
(getI ([x186.c0, x186.c1, x186.c2, x186.c3] : List Int) x185).bind fun x187 =>
bif (decide ((IntKind.wrap .i64 (x182 - x183)) < x187)) then (
some (.inr (false, (0)))) else (
some (.inl (IntKind.wrap .i64 (v12 + (1)))))) else (
some (.inr (true, (0))))
def S16_0 (n : Nat) (a1 : List Int) (a2 : List Int) (c6 : Bool) (c7 : Int) (c34 : Int) (k0_0 : Int) (k0_1 : Int) (k0_2 : Int) (k0_3 : Int) (k0_4 : Int) (k0_5 : Int) (k0_6 : Int) (k0_7 : Int) (k0_8 : Int) (k0_9 : Int) (k0_10 : Int) (k0_11 : Int) (k0_12 : Int) (k0_13 : Int) (k0_14 : Int) (k0_15 : Int) (v35 : Int) : Option ((Int) ⊕ ρ16) :=
bif (decide (v35 < c34)) then (
(getI a1 v35).bind fun x178 =>
(g37 n x178).bind fun x179 =>
bif (x179 != (0)) then (
some (.inr (false, x179))) else (
(getI a2 v35).bind fun x180 =>
bif (decide (x180 < (0))) then (
some (.inr (false, (12)))) else (
(getI a2 v35).bind fun x181 =>
bif (decide (x181 > (200000))) then (
some (.inr (false, (12)))) else (
some (.inl (IntKind.wrap .i64 (v35 + (1)))))))) else (
((iterO (fun y : Int => S16_1 n a1 a2 c6 c7 k0_0 k0_1 k0_2 k0_3 k0_4 k0_5 k0_6 k0_7 k0_8 k0_9 k0_10 k0_11 k0_12 k0_13 k0_14 k0_15 y) n (1)).map Sum.inr))
def g16 (n : Nat) (a0 : TWakeTable) (a1 : List Int) (a2 : List Int) : Option ρ16 :=
(g36 n a0).bind fun x177 =>
bif (x177 != (0)) then (
some (false, x177)) else (
bif (decide ((a1.length : Int) > (256))) then (
some (false, (2))) else (
bif (decide ((a2.length : Int) > (256))) then (
some (false, (2))) else (
bif ((a1.length : Int) != (a2.length : Int)) then (
some (false, (3))) else (
iterO (fun y : Int => S16_0 n a1 a2 false (0) (a1.length : Int) a0.c0_0 a0.c0_1 a0.c0_2 a0.c0_3 a0.c1_0 a0.c1_1 a0.c1_2 a0.c1_3 a0.c2_0 a0.c2_1 a0.c2_2 a0.c2_3 a0.c3_0 a0.c3_1 a0.c3_2 a0.c3_3 y) n (0)))))
abbrev ρ10 := (Bool)
def S10_1 (n : Nat) (a0 : List TSequenceArrival) (c6 : Bool) (c7 : List Int) (a1 : List Int) (c67 : Int) (v68 : Int) : Option ((Int) ⊕ ρ10) :=
bif (decide (v68 < c67)) then (
(getI a1 v68).bind fun x189 =>
(getI c7 v68).bind fun x190 =>
(getI a0 x189).bind fun x191 =>
bif (decide (x190 < x191.Time)) then (
some (.inr (false))) else (
(getI c7 v68).bind fun x192 =>
(getI a0 x189).bind fun x193 =>
bif (decide (x192 > x193.Latest)) then (
some (.inr (false))) else (
some (.inl (IntKind.wrap .i64 (v68 + (1))))))) else (
some (.inr (true)))
def S10_0 (n : Nat) (a0 : List TSequenceArrival) (a1 : List Int) (c6 : Bool) (c7 : List Int) (c31 : Int) (k0_0 : Int) (k0_1 : Int) (k0_2 : Int) (k0_3 : Int) (k0_4 : Int) (k0_5 : Int) (k0_6 : Int) (k0_7 : Int) (k0_8 : Int) (k0_9 : Int) (k0_10 : Int) (k0_11 : Int) (k0_12 : Int) (k0_13 : Int) (k0_14 : Int) (k0_15 : Int) (v32 : Int) (L90000 : List Int) : Option ((Int × List Int) ⊕ ρ10) :=
bif (decide (v32 < c31)) then (
(getI a1 v32).bind fun x173 =>
bif (decide (x173 < (0))) then (
some (.inr (false))) else (
bif (decide (x173 ≥ (a0.length : Int))) then (
some (.inr (false))) else (
(getI a0 x173).bind fun x174 =>
(roomO (L90000.length + ([x174.Wake] : List Int).length) 8).bind fun x176 =>
some (.inl ((IntKind.wrap .i64 (v32 + (1))), (L90000 ++ ([x174.Wake] : List Int))))))) else (
(g16 n (⟨k0_0, k0_1, k0_2, k0_3, k0_4, k0_5, k0_6, k0_7, k0_8, k0_9, k0_10, k0_11, k0_12, k0_13, k0_14, k0_15⟩ : TWakeTable) L90000 c7).bind fun x188 =>
bif (x188.2 != (0)) then (
some (.inr (false))) else (
bif (!x188.1) then (
some (.inr (false))) else (
((iterO (fun y : Int => S10_1 n a0 c6 c7 a1 (a1.length : Int) y) n (0)).map Sum.inr))))
def g10 (n : Nat) (a0 : List TSequenceArrival) (a1 : List Int) (a2 : TWakeTable) : Option ρ10 :=
(g28 n).bind fun x139 =>
bif (!x139) then (
some (false)) else (
(g32 n a0 a1 a2).bind fun x172 =>
bif (x172.2 != (0)) then (
some ((x172.1.length : Int) == (0))) else (
iterO (fun y : Int × List Int => S10_0 n a0 a1 false x172.1 (a1.length : Int) a2.c0_0 a2.c0_1 a2.c0_2 a2.c0_3 a2.c1_0 a2.c1_1 a2.c1_2 a2.c1_3 a2.c2_0 a2.c2_1 a2.c2_2 a2.c2_3 a2.c3_0 a2.c3_1 a2.c3_2 a2.c3_3 y.1 y.2) n ((0), [])))
end Go.Proofs.Ytfmodgffhbljoaa
