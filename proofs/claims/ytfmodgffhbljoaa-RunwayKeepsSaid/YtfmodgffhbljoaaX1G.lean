/- Plain functional programs out of the program's functions; printed by wip/Ext.lean.txt. -/
import Derived.Test.YtfmodgffhbljoaaX1T
import Derived.Test.YtfmodgffhbljoaaPI
set_option linter.unusedVariables false
set_option linter.unusedSimpArgs false
set_option maxRecDepth 100000
namespace Go.Proofs.Ytfmodgffhbljoaa
abbrev ρ35 := (TWakeTable)
def g35 (n : Nat) : Option ρ35 :=
some (⟨(60), (60), (60), (60), (120), (60), (60), (60), (180), (120), (90), (60), (240), (180), (120), (120)⟩ : TWakeTable)
abbrev ρ42 := (Bool)
def g42 (n : Nat) (a0 : Int) : Option ρ42 :=
bif (decide (a0 < (0))) then (
some (true)) else (
some (decide (a0 > (200000))))
abbrev ρ37 := (Int)
def g37 (n : Nat) (a0 : Int) : Option ρ37 :=
bif (decide (a0 < (0))) then (
some (1)) else (
bif (decide (a0 > (3))) then (
some (1)) else (
some (0)))
abbrev ρ40 := (Int)
def S40_0 (n : Nat) (a0 : List TRunwayMove) (c2 : Int) (c10 : Int) (v11 : Int) : Option ((Int) ⊕ ρ40) :=
bif (decide (v11 < c10)) then (
(getI a0 v11).bind fun x1 =>
(g42 n x1.Time).bind fun x2 =>
bif x2 then (
some (.inr (12))) else (
bif (decide (v11 > (0))) then (
(getI a0 (IntKind.wrap .i64 (v11 - (1)))).bind fun x3 =>
bif (decide (x1.Time < x3.Time)) then (
some (.inr (12))) else (
(g37 n x1.Wake).bind fun x4 =>
bif (x4 != (0)) then (
some (.inr (x4))) else (
bif (x1.End != (0)) then (
bif (x1.End != (1)) then (
some (.inr (1))) else (
some (.inl (IntKind.wrap .i64 (v11 + (1)))))) else (
some (.inl (IntKind.wrap .i64 (v11 + (1)))))))) else (
(g37 n x1.Wake).bind fun x5 =>
bif (x5 != (0)) then (
some (.inr (x5))) else (
bif (x1.End != (0)) then (
bif (x1.End != (1)) then (
some (.inr (1))) else (
some (.inl (IntKind.wrap .i64 (v11 + (1)))))) else (
some (.inl (IntKind.wrap .i64 (v11 + (1))))))))) else (
some (.inr (0)))
def g40 (n : Nat) (a0 : List TRunwayMove) : Option ρ40 :=
bif (decide ((a0.length : Int) > (24))) then (
some (2)) else (
iterO (fun y : Int => S40_0 n a0 (0) (a0.length : Int) y) n (0))
abbrev ρ41 := (Int)
def S41_0 (n : Nat) (a0 : List TRunwaySpan) (c2 : Int) (c14 : Int) (v15 : Int) : Option ((Int) ⊕ ρ41) :=
bif (decide (v15 < c14)) then (
(getI a0 v15).bind fun x7 =>
bif (x7.End != (0)) then (
bif (x7.End != (1)) then (
some (.inr (1))) else (
(g42 n x7.From).bind fun x8 =>
bif x8 then (
some (.inr (12))) else (
bif (decide (v15 > (0))) then (
(getI a0 (IntKind.wrap .i64 (v15 - (1)))).bind fun x9 =>
bif (decide (x7.From < (IntKind.wrap .i64 (x9.From + (360))))) then (
some (.inr (12))) else (
bif (decide (v15 > (0))) then (
(getI a0 (IntKind.wrap .i64 (v15 - (1)))).bind fun x10 =>
bif (x7.End == x10.End) then (
some (.inr (11))) else (
some (.inl (IntKind.wrap .i64 (v15 + (1)))))) else (
some (.inl (IntKind.wrap .i64 (v15 + (1))))))) else (
bif (decide (v15 > (0))) then (
(getI a0 (IntKind.wrap .i64 (v15 - (1)))).bind fun x11 =>
bif (x7.End == x11.End) then (
some (.inr (11))) else (
some (.inl (IntKind.wrap .i64 (v15 + (1)))))) else (
some (.inl (IntKind.wrap .i64 (v15 + (1))))))))) else (
(g42 n x7.From).bind fun x12 =>
bif x12 then (
some (.inr (12))) else (
bif (decide (v15 > (0))) then (
(getI a0 (IntKind.wrap .i64 (v15 - (1)))).bind fun x13 =>
bif (decide (x7.From < (IntKind.wrap .i64 (x13.From + (360))))) then (
some (.inr (12))) else (
bif (decide (v15 > (0))) then (
(getI a0 (IntKind.wrap .i64 (v15 - (1)))).bind fun x14 =>
bif (x7.End == x14.End) then (
some (.inr (11))) else (
some (.inl (IntKind.wrap .i64 (v15 + (1)))))) else (
some (.inl (IntKind.wrap .i64 (v15 + (1))))))) else (
bif (decide (v15 > (0))) then (
(getI a0 (IntKind.wrap .i64 (v15 - (1)))).bind fun x15 =>
bif (x7.End == x15.End) then (
some (.inr (11))) else (
some (.inl (IntKind.wrap .i64 (v15 + (1)))))) else (
some (.inl (IntKind.wrap .i64 (v15 + (1))))))))) else (
some (.inr (0)))
def g41 (n : Nat) (a0 : List TRunwaySpan) : Option ρ41 :=
bif (decide ((a0.length : Int) > (24))) then (
some (2)) else (
bif ((a0.length : Int) == (0)) then (
some (8)) else (
iterO (fun y : Int => S41_0 n a0 (0) (a0.length : Int) y) n (0)))
abbrev ρ36 := (Int)
def S36_0_0 (n : Nat) (c2 : Int) (c10_0 : Int) (c10_1 : Int) (c10_2 : Int) (c10_3 : Int) (c10_4 : Int) (c10_5 : Int) (c10_6 : Int) (c10_7 : Int) (c10_8 : Int) (c10_9 : Int) (c10_10 : Int) (c10_11 : Int) (c10_12 : Int) (c10_13 : Int) (c10_14 : Int) (c10_15 : Int) (v11 : Int) (c14_0 : Int) (c14_1 : Int) (c14_2 : Int) (c14_3 : Int) (w15 : Int) : Option ((Int) ⊕ ((Int) ⊕ ρ36)) :=
bif (decide (w15 < (4))) then (
(getI ([c14_0, c14_1, c14_2, c14_3] : List Int) w15).bind fun x18 =>
bif (decide (x18 < (30))) then (
some (.inr (.inr (4)))) else (
bif (decide (x18 > (600))) then (
some (.inr (.inr (4)))) else (
some (.inl (IntKind.wrap .i64 (w15 + (1))))))) else (
some (.inr (.inl (IntKind.wrap .i64 (v11 + (1))))))
def S36_1_0_0 (n : Nat) (c2 : Int) (v26 : Int) (w29 : Int) (c10_0 : Int) (c10_1 : Int) (c10_2 : Int) (c10_3 : Int) (c10_4 : Int) (c10_5 : Int) (c10_6 : Int) (c10_7 : Int) (c10_8 : Int) (c10_9 : Int) (c10_10 : Int) (c10_11 : Int) (c10_12 : Int) (c10_13 : Int) (c10_14 : Int) (c10_15 : Int) (u32 : Int) : Option ((Int) ⊕ ((Int) ⊕ ((Int) ⊕ ρ36))) :=
bif (decide (u32 < (4))) then (
(getI ([(⟨c10_0, c10_1, c10_2, c10_3⟩ : T22), (⟨c10_4, c10_5, c10_6, c10_7⟩ : T22), (⟨c10_8, c10_9, c10_10, c10_11⟩ : T22), (⟨c10_12, c10_13, c10_14, c10_15⟩ : T22)] : List T22) v26).bind fun x19 =>
(getI ([x19.c0, x19.c1, x19.c2, x19.c3] : List Int) u32).bind fun x20 =>
(getI ([(⟨c10_0, c10_1, c10_2, c10_3⟩ : T22), (⟨c10_4, c10_5, c10_6, c10_7⟩ : T22), (⟨c10_8, c10_9, c10_10, c10_11⟩ : T22), (⟨c10_12, c10_13, c10_14, c10_15⟩ : T22)] : List T22) v26).bind fun x21 =>
(getI ([x21.c0, x21.c1, x21.c2, x21.c3] : List Int) w29).bind fun x22 =>
(getI ([(⟨c10_0, c10_1, c10_2, c10_3⟩ : T22), (⟨c10_4, c10_5, c10_6, c10_7⟩ : T22), (⟨c10_8, c10_9, c10_10, c10_11⟩ : T22), (⟨c10_12, c10_13, c10_14, c10_15⟩ : T22)] : List T22) w29).bind fun x23 =>
(getI ([x23.c0, x23.c1, x23.c2, x23.c3] : List Int) u32).bind fun x24 =>
bif (decide (x20 > (IntKind.wrap .i64 (x22 + x24)))) then (
some (.inr (.inr (.inr (3))))) else (
some (.inl (IntKind.wrap .i64 (u32 + (1)))))) else (
some (.inr (.inl (IntKind.wrap .i64 (w29 + (1))))))
def S36_1_0 (n : Nat) (c2 : Int) (v26 : Int) (c10_0 : Int) (c10_1 : Int) (c10_2 : Int) (c10_3 : Int) (c10_4 : Int) (c10_5 : Int) (c10_6 : Int) (c10_7 : Int) (c10_8 : Int) (c10_9 : Int) (c10_10 : Int) (c10_11 : Int) (c10_12 : Int) (c10_13 : Int) (c10_14 : Int) (c10_15 : Int) (w29 : Int) : Option ((Int) ⊕ ((Int) ⊕ ρ36)) :=
bif (decide (w29 < (4))) then (
iterO (fun y : Int => S36_1_0_0 n c2 v26 w29 c10_0 c10_1 c10_2 c10_3 c10_4 c10_5 c10_6 c10_7 c10_8 c10_9 c10_10 c10_11 c10_12 c10_13 c10_14 c10_15 y) n (0)) else (
some (.inr (.inl (IntKind.wrap .i64 (v26 + (1))))))
def S36_1 (n : Nat) (c2 : Int) (c10_0 : Int) (c10_1 : Int) (c10_2 : Int) (c10_3 : Int) (c10_4 : Int) (c10_5 : Int) (c10_6 : Int) (c10_7 : Int) (c10_8 : Int) (c10_9 : Int) (c10_10 : Int) (c10_11 : Int) (c10_12 : Int) (c10_13 : Int) (c10_14 : Int) (c10_15 : Int) (v26 : Int) : Option ((Int) ⊕ ρ36) :=
bif (decide (v26 < (4))) then (
iterO (fun y : Int => S36_1_0 n c2 v26 c10_0 c10_1 c10_2 c10_3 c10_4 c10_5 c10_6 c10_7 c10_8 c10_9 c10_10 c10_11 c10_12 c10_13 c10_14 c10_15 y) n (0)) else (
some (.inr (0)))
def S36_0 (n : Nat) (c2 : Int) (c10_0 : Int) (c10_1 : Int) (c10_2 : Int) (c10_3 : Int) (c10_4 : Int) (c10_5 : Int) (c10_6 : Int) (c10_7 : Int) (c10_8 : Int) (c10_9 : Int) (c10_10 : Int) (c10_11 : Int) (c10_12 : Int) (c10_13 : Int) (c10_14 : Int) (c10_15 : Int) (v11 : Int) : Option ((Int) ⊕ ρ36) :=
bif (decide (v11 < (4))) then (
(getI ([(⟨c10_0, c10_1, c10_2, c10_3⟩ : T22), (⟨c10_4, c10_5, c10_6, c10_7⟩ : T22), (⟨c10_8, c10_9, c10_10, c10_11⟩ : T22), (⟨c10_12, c10_13, c10_14, c10_15⟩ : T22)] : List T22) v11).bind fun x17 =>
iterO (fun y : Int => S36_0_0 n c2 c10_0 c10_1 c10_2 c10_3 c10_4 c10_5 c10_6 c10_7 c10_8 c10_9 c10_10 c10_11 c10_12 c10_13 c10_14 c10_15 v11 x17.c0 x17.c1 x17.c2 x17.c3 y) n (0)) else (
((iterO (fun y : Int => S36_1 n c2 c10_0 c10_1 c10_2 c10_3 c10_4 c10_5 c10_6 c10_7 c10_8 c10_9 c10_10 c10_11 c10_12 c10_13 c10_14 c10_15 y) n (0)).map Sum.inr))
def g36 (n : Nat) (a0 : TWakeTable) : Option ρ36 :=
iterO (fun y : Int => S36_0 n (0) a0.c0_0 a0.c0_1 a0.c0_2 a0.c0_3 a0.c1_0 a0.c1_1 a0.c1_2 a0.c1_3 a0.c2_0 a0.c2_1 a0.c2_2 a0.c2_3 a0.c3_0 a0.c3_1 a0.c3_2 a0.c3_3 y) n (0)
abbrev ρ44 := (Int × Bool)
def S44_0 (n : Nat) (a1 : Int) (c4 : Int) (c5 : Bool) (x29 : List TRunwaySpan) (c21 : Int) (v6 : Int) (v22 : Int) : Option ((Int × Int) ⊕ ρ44) :=
bif (decide (v22 < c21)) then (
(getI x29 v22).bind fun x30 =>
bif (decide ((if (IntKind.wrap .i64 (x30.From - a1)) > (IntKind.wrap .i64 (a1 - x30.From)) then (IntKind.wrap .i64 (x30.From - a1)) else (IntKind.wrap .i64 (a1 - x30.From))) < (180))) then (
some (.inr ((0), false))) else (
bif (decide (x30.From ≤ a1)) then (
some (.inl (x30.End, (IntKind.wrap .i64 (v22 + (1)))))) else (
some (.inl (v6, (IntKind.wrap .i64 (v22 + (1)))))))) else (
some (.inr (v6, true)))
def g44 (n : Nat) (a0 : List TRunwaySpan) (a1 : Int) : Option ρ44 :=
(getI a0 (0)).bind fun x27 =>
bif (decide (a1 < x27.From)) then (
some ((0), false)) else (
(getI a0 (0)).bind fun x28 =>
(sliceO a0 (some (1)) none).bind fun x29 =>
iterO (fun y : Int × Int => S44_0 n a1 (0) false x29 (x29.length : Int) y.1 y.2) n (x28.End, (0)))
abbrev ρ45 := (Int)
def g45 (n : Nat) (a0 : TWakeTable) (a1 : TRunwayMove) (a2 : TRunwayMove) : Option ρ45 :=
bif (!(a1.Departs == a2.Departs)) then (
some (60)) else (
(getI ([(⟨a0.c0_0, a0.c0_1, a0.c0_2, a0.c0_3⟩ : T22), (⟨a0.c1_0, a0.c1_1, a0.c1_2, a0.c1_3⟩ : T22), (⟨a0.c2_0, a0.c2_1, a0.c2_2, a0.c2_3⟩ : T22), (⟨a0.c3_0, a0.c3_1, a0.c3_2, a0.c3_3⟩ : T22)] : List T22) a1.Wake).bind fun x35 =>
(getI ([x35.c0, x35.c1, x35.c2, x35.c3] : List Int) a2.Wake).bind fun x36 =>
some (x36))
abbrev ρ19 := (Int × Int × Int)
def S19_1_0 (n : Nat) (a0 : List TRunwayMove) (c6 : Int) (v61 : Int) (c60 : Int) (k0_0 : Int) (k0_1 : Int) (k0_2 : Int) (k0_3 : Int) (k0_4 : Int) (k0_5 : Int) (k0_6 : Int) (k0_7 : Int) (k0_8 : Int) (k0_9 : Int) (k0_10 : Int) (k0_11 : Int) (k0_12 : Int) (k0_13 : Int) (k0_14 : Int) (k0_15 : Int) (k200004_0 : Int) (k200004_1 : Int) (k200004_2 : Bool) (k200004_3 : Int) (w18 : Int) : Option ((Int) ⊕ ((Int) ⊕ ρ19)) :=
bif (decide (w18 < (a0.length : Int))) then (
(getI a0 w18).bind fun x33 =>
(getI a0 w18).bind fun x34 =>
(g45 n (⟨k0_0, k0_1, k0_2, k0_3, k0_4, k0_5, k0_6, k0_7, k0_8, k0_9, k0_10, k0_11, k0_12, k0_13, k0_14, k0_15⟩ : TWakeTable) (⟨k200004_0, k200004_1, k200004_2, k200004_3⟩ : TRunwayMove) x34).bind fun x37 =>
bif (decide ((IntKind.wrap .i64 (x33.Time - k200004_0)) < x37)) then (
some (.inr (.inr (v61, w18, (15))))) else (
some (.inl (IntKind.wrap .i64 (w18 + (1)))))) else (
some (.inr (.inl (IntKind.wrap .i64 (v61 + (1))))))
def S19_1 (n : Nat) (a0 : List TRunwayMove) (c6 : Int) (c60 : Int) (k0_0 : Int) (k0_1 : Int) (k0_2 : Int) (k0_3 : Int) (k0_4 : Int) (k0_5 : Int) (k0_6 : Int) (k0_7 : Int) (k0_8 : Int) (k0_9 : Int) (k0_10 : Int) (k0_11 : Int) (k0_12 : Int) (k0_13 : Int) (k0_14 : Int) (k0_15 : Int) (v61 : Int) : Option ((Int) ⊕ ρ19) :=
bif (decide (v61 < c60)) then (
(getI a0 v61).bind fun x32 =>
iterO (fun y : Int => S19_1_0 n a0 c6 v61 c60 k0_0 k0_1 k0_2 k0_3 k0_4 k0_5 k0_6 k0_7 k0_8 k0_9 k0_10 k0_11 k0_12 k0_13 k0_14 k0_15 x32.Time x32.Wake x32.Departs x32.End y) n (IntKind.wrap .i64 (v61 + (1)))) else (
some (.inr ((0), (0), (0))))
def S19_0 (n : Nat) (a0 : List TRunwayMove) (a1 : List TRunwaySpan) (c6 : Int) (c35 : Int) (k0_0 : Int) (k0_1 : Int) (k0_2 : Int) (k0_3 : Int) (k0_4 : Int) (k0_5 : Int) (k0_6 : Int) (k0_7 : Int) (k0_8 : Int) (k0_9 : Int) (k0_10 : Int) (k0_11 : Int) (k0_12 : Int) (k0_13 : Int) (k0_14 : Int) (k0_15 : Int) (v36 : Int) : Option ((Int) ⊕ ρ19) :=
bif (decide (v36 < c35)) then (
(getI a0 v36).bind fun x26 =>
(g44 n a1 x26.Time).bind fun x31 =>
bif (!x31.2) then (
some (.inr (v36, v36, (14)))) else (
bif (x31.1 != x26.End) then (
some (.inr (v36, v36, (14)))) else (
some (.inl (IntKind.wrap .i64 (v36 + (1))))))) else (
((iterO (fun y : Int => S19_1 n a0 c6 (a0.length : Int) k0_0 k0_1 k0_2 k0_3 k0_4 k0_5 k0_6 k0_7 k0_8 k0_9 k0_10 k0_11 k0_12 k0_13 k0_14 k0_15 y) n (0)).map Sum.inr))
def g19 (n : Nat) (a0 : List TRunwayMove) (a1 : List TRunwaySpan) (a2 : TWakeTable) : Option ρ19 :=
(g40 n a0).bind fun x6 =>
bif (x6 != (0)) then (
some ((0), (0), x6)) else (
(g41 n a1).bind fun x16 =>
bif (x16 != (0)) then (
some ((0), (0), x16)) else (
(g36 n a2).bind fun x25 =>
bif (x25 != (0)) then (
some ((0), (0), x25)) else (
iterO (fun y : Int => S19_0 n a0 a1 (0) (a0.length : Int) a2.c0_0 a2.c0_1 a2.c0_2 a2.c0_3 a2.c1_0 a2.c1_1 a2.c1_2 a2.c1_3 a2.c2_0 a2.c2_1 a2.c2_2 a2.c2_3 a2.c3_0 a2.c3_1 a2.c3_2 a2.c3_3 y) n (0))))
abbrev ρ46 := (Bool)
def S46_0 (n : Nat) (c6 : Bool) (a0 : List TRunwayMove) (c10 : Int) (k0_0 : Int) (k0_1 : Int) (k0_2 : Bool) (k0_3 : Int) (k1_0 : Int) (k1_1 : Int) (k1_2 : Int) (k1_3 : Int) (k1_4 : Int) (k1_5 : Int) (k1_6 : Int) (k1_7 : Int) (k1_8 : Int) (k1_9 : Int) (k1_10 : Int) (k1_11 : Int) (k1_12 : Int) (k1_13 : Int) (k1_14 : Int) (k1_15 : Int) (v11 : Int) : Option ((Int) ⊕ ρ46) :=
bif (decide (v11 < c10)) then (
(getI a0 v11).bind fun x44 =>
bif (decide (x44.Time ≤ k0_0)) then (
(g45 n (⟨k1_0, k1_1, k1_2, k1_3, k1_4, k1_5, k1_6, k1_7, k1_8, k1_9, k1_10, k1_11, k1_12, k1_13, k1_14, k1_15⟩ : TWakeTable) x44 (⟨k0_0, k0_1, k0_2, k0_3⟩ : TRunwayMove)).bind fun x45 =>
bif (decide ((IntKind.wrap .i64 (k0_0 - x44.Time)) < x45)) then (
some (.inr (false))) else (
bif (decide (x44.Time ≥ k0_0)) then (
(g45 n (⟨k1_0, k1_1, k1_2, k1_3, k1_4, k1_5, k1_6, k1_7, k1_8, k1_9, k1_10, k1_11, k1_12, k1_13, k1_14, k1_15⟩ : TWakeTable) (⟨k0_0, k0_1, k0_2, k0_3⟩ : TRunwayMove) x44).bind fun x46 =>
bif (decide ((IntKind.wrap .i64 (x44.Time - k0_0)) < x46)) then (
some (.inr (false))) else (
some (.inl (IntKind.wrap .i64 (v11 + (1)))))) else (
some (.inl (IntKind.wrap .i64 (v11 + (1))))))) else (
bif (decide (x44.Time ≥ k0_0)) then (
(g45 n (⟨k1_0, k1_1, k1_2, k1_3, k1_4, k1_5, k1_6, k1_7, k1_8, k1_9, k1_10, k1_11, k1_12, k1_13, k1_14, k1_15⟩ : TWakeTable) (⟨k0_0, k0_1, k0_2, k0_3⟩ : TRunwayMove) x44).bind fun x47 =>
bif (decide ((IntKind.wrap .i64 (x44.Time - k0_0)) < x47)) then (
some (.inr (false))) else (
some (.inl (IntKind.wrap .i64 (v11 + (1)))))) else (
some (.inl (IntKind.wrap .i64 (v11 + (1))))))) else (
some (.inr (true)))
def g46 (n : Nat) (a0 : List TRunwayMove) (a1 : TRunwayMove) (a2 : TWakeTable) : Option ρ46 :=
iterO (fun y : Int => S46_0 n false a0 (a0.length : Int) a1.Time a1.Wake a1.Departs a1.End a2.c0_0 a2.c0_1 a2.c0_2 a2.c0_3 a2.c1_0 a2.c1_1 a2.c1_2 a2.c1_3 a2.c2_0 a2.c2_1 a2.c2_2 a2.c2_3 a2.c3_0 a2.c3_1 a2.c3_2 a2.c3_3 y) n (0)
abbrev ρ48 := (Bool)
def g48 (n : Nat) (a0 : TRunwayMove) (a1_0 : Int) (a1_1 : Int) (a1_2 : Bool) (a1_3 : Int) : Option ρ48 :=
some (decide (a0.Time > a1_0))
abbrev ρ47 := (Int)
def S47_0 (n : Nat) (a0 : List TRunwayMove) (a1_0_0 : Int) (a1_0_1 : Int) (a1_0_2 : Bool) (a1_0_3 : Int) (c4 : Int) (c7 : Int) (v8 : Int) : Option ((Int) ⊕ ρ47) :=
bif (decide (v8 < c7)) then (
(getI a0 v8).bind fun x49 =>
(g48 n x49 a1_0_0 a1_0_1 a1_0_2 a1_0_3).bind fun x50 =>
bif x50 then (
some (.inr (v8))) else (
some (.inl (IntKind.wrap .i64 (v8 + (1)))))) else (
some (.inr (-1)))
def g47 (n : Nat) (a0 : List TRunwayMove) (a1_0_0 : Int) (a1_0_1 : Int) (a1_0_2 : Bool) (a1_0_3 : Int) : Option ρ47 :=
iterO (fun y : Int => S47_0 n a0 a1_0_0 a1_0_1 a1_0_2 a1_0_3 (0) (a0.length : Int) y) n (0)
abbrev ρ21 := ((List TRunwayMove) × Int)
def S21_0_0 (n : Nat) (a1 : List TRunwaySpan) (c9 : Int) (a3 : List TRunwayReady) (c41 : Int) (v42 : Int) (k0_0 : Int) (k0_1 : Int) (k0_2 : Int) (k0_3 : Int) (k0_4 : Int) (k0_5 : Int) (k0_6 : Int) (k0_7 : Int) (k0_8 : Int) (k0_9 : Int) (k0_10 : Int) (k0_11 : Int) (k0_12 : Int) (k0_13 : Int) (k0_14 : Int) (k0_15 : Int) (L90000 : List TRunwayMove) (bw100145_0 : Int) (bw100145_1 : Int) (bw100145_2 : Bool) (bw100145_3 : Int) : Option ((List TRunwayMove × Int × Int × Bool × Int) ⊕ ((Int × List TRunwayMove) ⊕ ρ21)) :=
bif (decide (bw100145_0 ≤ (200000))) then (
(g44 n a1 bw100145_0).bind fun x43 =>
bif x43.2 then (
(g46 n L90000 (⟨bw100145_0, bw100145_1, bw100145_2, bw100145_3⟩ : TRunwayMove) (⟨k0_0, k0_1, k0_2, k0_3, k0_4, k0_5, k0_6, k0_7, k0_8, k0_9, k0_10, k0_11, k0_12, k0_13, k0_14, k0_15⟩ : TWakeTable)).bind fun x48 =>
bif x48 then (
bif (decide (bw100145_0 > (200000))) then (
some (.inr (.inr ([], (8))))) else (
(g47 n L90000 bw100145_0 bw100145_1 bw100145_2 x43.1).bind fun x51 =>
bif (decide (x51 < (0))) then (
(insO 32 L90000 (L90000.length : Int) ([(⟨bw100145_0, bw100145_1, bw100145_2, x43.1⟩ : TRunwayMove)] : List TRunwayMove)).bind fun x52 =>
some (.inr (.inl ((IntKind.wrap .i64 (v42 + (1))), x52)))) else (
(insO 32 L90000 x51 ([(⟨bw100145_0, bw100145_1, bw100145_2, x43.1⟩ : TRunwayMove)] : List TRunwayMove)).bind fun x53 =>
some (.inr (.inl ((IntKind.wrap .i64 (v42 + (1))), x53)))))) else (
some (.inl (L90000, (IntKind.wrap .i64 (bw100145_0 + (1))), bw100145_1, bw100145_2, bw100145_3)))) else (
some (.inl (L90000, (IntKind.wrap .i64 (bw100145_0 + (1))), bw100145_1, bw100145_2, bw100145_3)))) else (
bif (decide (bw100145_0 > (200000))) then (
some (.inr (.inr ([], (8))))) else (
(g47 n L90000 bw100145_0 bw100145_1 bw100145_2 bw100145_3).bind fun x54 =>
bif (decide (x54 < (0))) then (
(insO 32 L90000 (L90000.length : Int) ([(⟨bw100145_0, bw100145_1, bw100145_2, bw100145_3⟩ : TRunwayMove)] : List TRunwayMove)).bind fun x55 =>
some (.inr (.inl ((IntKind.wrap .i64 (v42 + (1))), x55)))) else (
(insO 32 L90000 x54 ([(⟨bw100145_0, bw100145_1, bw100145_2, bw100145_3⟩ : TRunwayMove)] : List TRunwayMove)).bind fun x56 =>
some (.inr (.inl ((IntKind.wrap .i64 (v42 + (1))), x56))))))
def S21_0 (n : Nat) (a1 : List TRunwaySpan) (c9 : Int) (a3 : List TRunwayReady) (c41 : Int) (k0_0 : Int) (k0_1 : Int) (k0_2 : Int) (k0_3 : Int) (k0_4 : Int) (k0_5 : Int) (k0_6 : Int) (k0_7 : Int) (k0_8 : Int) (k0_9 : Int) (k0_10 : Int) (k0_11 : Int) (k0_12 : Int) (k0_13 : Int) (k0_14 : Int) (k0_15 : Int) (v42 : Int) (L90000 : List TRunwayMove) : Option ((Int × List TRunwayMove) ⊕ ρ21) :=
bif (decide (v42 < c41)) then (
(getI a3 v42).bind fun x40 =>
(g42 n x40.Time).bind fun x41 =>
bif x41 then (
some (.inr ([], (12)))) else (
(g37 n x40.Wake).bind fun x42 =>
bif (x42 != (0)) then (
some (.inr ([], x42))) else (
iterO (fun y : List TRunwayMove × Int × Int × Bool × Int => S21_0_0 n a1 c9 a3 c41 v42 k0_0 k0_1 k0_2 k0_3 k0_4 k0_5 k0_6 k0_7 k0_8 k0_9 k0_10 k0_11 k0_12 k0_13 k0_14 k0_15 y.1 y.2.1 y.2.2.1 y.2.2.2.1 y.2.2.2.2) n (L90000, x40.Time, x40.Wake, true, (0))))) else (
some (.inr (L90000, (0))))
def g21 (n : Nat) (a0 : List TRunwayMove) (a1 : List TRunwaySpan) (a2 : TWakeTable) (a3 : List TRunwayReady) : Option ρ21 :=
(g19 n a0 a1 a2).bind fun x38 =>
bif (x38.2.2 != (0)) then (
some ([], x38.2.2)) else (
bif (decide ((IntKind.wrap .i64 ((a0.length : Int) + (a3.length : Int))) > (24))) then (
some ([], (2))) else (
(roomO a0.length 32).bind fun x39 =>
iterO (fun y : Int × List TRunwayMove => S21_0 n a1 (0) a3 (a3.length : Int) a2.c0_0 a2.c0_1 a2.c0_2 a2.c0_3 a2.c1_0 a2.c1_1 a2.c1_2 a2.c1_3 a2.c2_0 a2.c2_1 a2.c2_2 a2.c2_3 a2.c3_0 a2.c3_1 a2.c3_2 a2.c3_3 y.1 y.2) n ((0), a0)))
abbrev ρ18 := ((List TRunwaySpan) × Int)
def g18 (n : Nat) (a0 : List TRunwayMove) (a1 : List TRunwaySpan) (a2 : Int) : Option ρ18 :=
(g40 n a0).bind fun x72 =>
bif (x72 != (0)) then (
some ([], x72)) else (
(g41 n a1).bind fun x73 =>
bif (x73 != (0)) then (
some ([], x73)) else (
(getI a1 (IntKind.wrap .i64 ((a1.length : Int) - (1)))).bind fun x74 =>
bif ((a1.length : Int) == (24)) then (
some ([], (9))) else (
(g42 n a2).bind fun x75 =>
bif x75 then (
some ([], (12))) else (
bif (decide (a2 < (IntKind.wrap .i64 (x74.From + (360))))) then (
some ([], (12))) else (
bif (decide ((a0.length : Int) > (0))) then (
(getI a0 (IntKind.wrap .i64 ((a0.length : Int) - (1)))).bind fun x76 =>
bif (decide (x76.Time > (IntKind.wrap .i64 (a2 - (180))))) then (
some ([], (15))) else (
(roomO a1.length 16).bind fun x77 =>
(roomO (a1.length + ([(⟨a2, (IntKind.wrap .i64 ((1) - x74.End))⟩ : TRunwaySpan)] : List TRunwaySpan).length) 16).bind fun x79 =>
some ((a1 ++ ([(⟨a2, (IntKind.wrap .i64 ((1) - x74.End))⟩ : TRunwaySpan)] : List TRunwaySpan)), (0)))) else (
(roomO a1.length 16).bind fun x80 =>
(roomO (a1.length + ([(⟨a2, (IntKind.wrap .i64 ((1) - x74.End))⟩ : TRunwaySpan)] : List TRunwaySpan).length) 16).bind fun x82 =>
some ((a1 ++ ([(⟨a2, (IntKind.wrap .i64 ((1) - x74.End))⟩ : TRunwaySpan)] : List TRunwaySpan)), (0))))))))
abbrev ρ20 := (Int × Int)
def g20 (n : Nat) (a0 : List TRunwaySpan) (a1 : Int) : Option ρ20 :=
(g41 n a0).bind fun x95 =>
bif (x95 != (0)) then (
some ((0), x95)) else (
(g42 n a1).bind fun x96 =>
bif x96 then (
some ((0), (12))) else (
(g44 n a0 a1).bind fun x97 =>
bif (!x97.2) then (
some ((0), (14))) else (
some (x97.1, (0)))))
abbrev ρ39 := (Int × Int)
def S39_0 (n : Nat) (c6 : Int) (c19_0 : Int) (c19_1 : Int) (c19_2 : Bool) (c19_3 : Int) (c19_4 : Int) (c19_5 : Int) (c19_6 : Bool) (c19_7 : Int) (k0_0 : Int) (k0_1 : Int) (k0_2 : Int) (k0_3 : Int) (k0_4 : Int) (k0_5 : Int) (k0_6 : Int) (k0_7 : Int) (k0_8 : Int) (k0_9 : Int) (k0_10 : Int) (k0_11 : Int) (k0_12 : Int) (k0_13 : Int) (k0_14 : Int) (k0_15 : Int) (v20 : Int) : Option ((Int) ⊕ ρ39) :=
bif (decide (v20 < (2))) then (
(getI ([(⟨c19_0, c19_1, c19_2, c19_3⟩ : TRunwayMove), (⟨c19_4, c19_5, c19_6, c19_7⟩ : TRunwayMove)] : List TRunwayMove) v20).bind fun x103 =>
(g40 n ([x103] : List TRunwayMove)).bind fun x104 =>
bif (x104 != (0)) then (
some (.inr ((0), x104))) else (
some (.inl (IntKind.wrap .i64 (v20 + (1)))))) else (
(g45 n (⟨k0_0, k0_1, k0_2, k0_3, k0_4, k0_5, k0_6, k0_7, k0_8, k0_9, k0_10, k0_11, k0_12, k0_13, k0_14, k0_15⟩ : TWakeTable) (⟨c19_0, c19_1, c19_2, c19_3⟩ : TRunwayMove) (⟨c19_4, c19_5, c19_6, c19_7⟩ : TRunwayMove)).bind fun x105 =>
some (.inr (x105, (0))))
def g39 (n : Nat) (a0 : TWakeTable) (a1 : TRunwayMove) (a2 : TRunwayMove) : Option ρ39 :=
(g36 n a0).bind fun x102 =>
bif (x102 != (0)) then (
some ((0), x102)) else (
iterO (fun y : Int => S39_0 n (0) a1.Time a1.Wake a1.Departs a1.End a2.Time a2.Wake a2.Departs a2.End a0.c0_0 a0.c0_1 a0.c0_2 a0.c0_3 a0.c1_0 a0.c1_1 a0.c1_2 a0.c1_3 a0.c2_0 a0.c2_1 a0.c2_2 a0.c2_3 a0.c3_0 a0.c3_1 a0.c3_2 a0.c3_3 y) n (0))
abbrev ρ17 := (Bool)
def g17 (n : Nat) : Option ρ17 :=
(g35 n).bind fun x0 =>
(g21 n ([(⟨(100), (1), false, (0)⟩ : TRunwayMove)] : List TRunwayMove) ([(⟨(0), (0)⟩ : TRunwaySpan)] : List TRunwaySpan) x0 ([(⟨(100), (1)⟩ : TRunwayReady)] : List TRunwayReady)).bind fun x57 =>
(g19 n x57.1 ([(⟨(0), (0)⟩ : TRunwaySpan)] : List TRunwaySpan) x0).bind fun x71 =>
(g18 n x57.1 ([(⟨(0), (0)⟩ : TRunwaySpan)] : List TRunwaySpan) (1000)).bind fun x83 =>
(g20 n x83.1 (821)).bind fun x98 =>
(g20 n x83.1 (1180)).bind fun x99 =>
bif ((x57.1.length : Int) != (2)) then (
some (false)) else (
(getI x57.1 (0)).bind fun x100 =>
(getI x57.1 (1)).bind fun x101 =>
(g39 n x0 x100 x101).bind fun x106 =>
(getI ([(⟨(100), (1), false, (0)⟩ : TRunwayMove)] : List TRunwayMove) (0)).bind fun x107 =>
(getI ([(⟨(100), (1), false, (0)⟩ : TRunwayMove)] : List TRunwayMove) (0)).bind fun x108 =>
(g19 n ([x107, x108] : List TRunwayMove) ([(⟨(0), (0)⟩ : TRunwaySpan)] : List TRunwaySpan) x0).bind fun x109 =>
bif (x57.2 == (0)) then (
bif (x71.2.2 == (0)) then (
bif (x83.2 == (0)) then (
bif (x98.2 == (14)) then (
bif (x99.2 == (0)) then (
bif (x106.2 == (0)) then (
bif (x109.2.2 == (15)) then (
bif (x109.1 == (0)) then (
bif (x109.2.1 == (1)) then (
bif (x99.1 == (1)) then (
bif (x106.1 == (60)) then (
(getI x57.1 (1)).bind fun x110 =>
bif (decide (x110 = (⟨(160), (1), true, (0)⟩ : TRunwayMove))) then (
(g40 n ([(⟨(0), (0), false, (2)⟩ : TRunwayMove)] : List TRunwayMove)).bind fun x111 =>
bif (x111 == (1)) then (
(g41 n ([] : List TRunwaySpan)).bind fun x112 =>
some (x112 == (8))) else (
some (false))) else (
some (false))) else (
some (false))) else (
some (false))) else (
some (false))) else (
some (false))) else (
some (false))) else (
some (false))) else (
some (false))) else (
some (false))) else (
some (false))) else (
some (false))) else (
some (false)))
abbrev ρ5 := (Bool)
def g5 (n : Nat) (a0 : List TRunwayMove) (a1 : List TRunwaySpan) (a2 : TWakeTable) (a3 : Int) : Option ρ5 :=
(g17 n).bind fun x113 =>
bif (!x113) then (
some (false)) else (
(g18 n a0 a1 a3).bind fun x114 =>
bif (x114.2 != (0)) then (
some ((x114.1.length : Int) == (0))) else (
bif ((a1.length : Int) == (0)) then (
some ((x114.1.length : Int) == (0))) else (
(g19 n a0 a1 a2).bind fun x115 =>
(g19 n a0 x114.1 a2).bind fun x116 =>
bif (x115.2.2 != x116.2.2) then (
some (false)) else (
bif (x115.1 != x116.1) then (
some (false)) else (
bif (x115.2.1 != x116.2.1) then (
some (false)) else (
(g20 n x114.1 a3).bind fun x117 =>
bif (decide ((IntKind.wrap .i64 (a3 + (180))) > (200000))) then (
some (x117.2 == (14))) else (
(g20 n x114.1 (IntKind.wrap .i64 (a3 + (180)))).bind fun x118 =>
bif (x117.2 == (14)) then (
bif (x118.2 == (0)) then (
(getI a1 (IntKind.wrap .i64 ((a1.length : Int) - (1)))).bind fun x119 =>
some (x118.1 == (IntKind.wrap .i64 ((1) - x119.End)))) else (
some (false))) else (
some (false)))))))))
abbrev ρ22 := (Bool)
def S22_0 (n : Nat) (a0 : List TRunwayMove) (a1 : List TRunwayMove) (c4 : Bool) (c12 : Int) (v13 : Int) : Option ((Int) ⊕ ρ22) :=
bif (decide (v13 < c12)) then (
(getI a0 v13).bind fun x125 =>
(getI a1 v13).bind fun x126 =>
bif (!(decide (x125 = x126))) then (
some (.inr (false))) else (
some (.inl (IntKind.wrap .i64 (v13 + (1)))))) else (
some (.inr (true)))
def g22 (n : Nat) (a0 : List TRunwayMove) (a1 : List TRunwayMove) : Option ρ22 :=
bif ((a0.length : Int) != (a1.length : Int)) then (
some (false)) else (
iterO (fun y : Int => S22_0 n a0 a1 false (a0.length : Int) y) n (0))
abbrev ρ6 := (Bool)
def S6_0 (n : Nat) (a1 : List TRunwaySpan) (a3 : List TRunwayReady) (c8 : Bool) (c9 : List TRunwayMove) (c32 : Int) (k0_0 : Int) (k0_1 : Int) (k0_2 : Int) (k0_3 : Int) (k0_4 : Int) (k0_5 : Int) (k0_6 : Int) (k0_7 : Int) (k0_8 : Int) (k0_9 : Int) (k0_10 : Int) (k0_11 : Int) (k0_12 : Int) (k0_13 : Int) (k0_14 : Int) (k0_15 : Int) (v10 : Int) (v11 : List TRunwayMove) (v33 : Int) : Option ((Int × List TRunwayMove × Int) ⊕ ρ6) :=
bif (decide (v33 < c32)) then (
(sliceO a3 (some v33) (some (IntKind.wrap .i64 (v33 + (1))))).bind fun x122 =>
(g21 n v11 a1 (⟨k0_0, k0_1, k0_2, k0_3, k0_4, k0_5, k0_6, k0_7, k0_8, k0_9, k0_10, k0_11, k0_12, k0_13, k0_14, k0_15⟩ : TWakeTable) x122).bind fun x123 =>
bif (x123.2 != (0)) then (
some (.inr (false))) else (
some (.inl (x123.2, x123.1, (IntKind.wrap .i64 (v33 + (1))))))) else (
(g21 n c9 a1 (⟨k0_0, k0_1, k0_2, k0_3, k0_4, k0_5, k0_6, k0_7, k0_8, k0_9, k0_10, k0_11, k0_12, k0_13, k0_14, k0_15⟩ : TWakeTable) ([] : List TRunwayReady)).bind fun x124 =>
bif (x124.2 == (0)) then (
(g22 n v11 c9).bind fun x127 =>
bif x127 then (
(g22 n x124.1 c9).bind fun x128 =>
some (.inr (x128))) else (
some (.inr (false)))) else (
some (.inr (false))))
def g6 (n : Nat) (a0 : List TRunwayMove) (a1 : List TRunwaySpan) (a2 : TWakeTable) (a3 : List TRunwayReady) : Option ρ6 :=
(g17 n).bind fun x120 =>
bif (!x120) then (
some (false)) else (
(g21 n a0 a1 a2 a3).bind fun x121 =>
bif (x121.2 != (0)) then (
some ((x121.1.length : Int) == (0))) else (
iterO (fun y : Int × List TRunwayMove × Int => S6_0 n a1 a3 false x121.1 (a3.length : Int) a2.c0_0 a2.c0_1 a2.c0_2 a2.c0_3 a2.c1_0 a2.c1_1 a2.c1_2 a2.c1_3 a2.c2_0 a2.c2_1 a2.c2_2 a2.c2_3 a2.c3_0 a2.c3_1 a2.c3_2 a2.c3_3 y.1 y.2.1 y.2.2) n (x121.2, a0, (0))))
abbrev ρ24 := (Int)
def S24_0 (n : Nat) (a0 : List TRunwayMove) (c4 : Int) (c7 : Int) (k0_0 : Int) (k0_1 : Int) (k0_2 : Bool) (k0_3 : Int) (v8 : Int) : Option ((Int) ⊕ ρ24) :=
bif (decide (v8 < c7)) then (
(getI a0 v8).bind fun x134 =>
bif (decide ((⟨k0_0, k0_1, k0_2, k0_3⟩ : TRunwayMove) = x134)) then (
some (.inr (v8))) else (
some (.inl (IntKind.wrap .i64 (v8 + (1)))))) else (
some (.inr (-1)))
def g24 (n : Nat) (a0 : List TRunwayMove) (a1 : TRunwayMove) : Option ρ24 :=
iterO (fun y : Int => S24_0 n a0 (0) (a0.length : Int) a1.Time a1.Wake a1.Departs a1.End y) n (0)
abbrev ρ27 := (Bool)
def g27 (n : Nat) (a0 : TRunwayMove) : Option ρ27 :=
some (!a0.Departs)
def S47_0_x1 (n : Nat) (a0 : List TRunwayMove) (c4 : Int) (c7 : Int) (v8 : Int) : Option ((Int) ⊕ ρ47) :=
bif (decide (v8 < c7)) then (
(getI a0 v8).bind fun x137 =>
(g27 n x137).bind fun x138 =>
bif x138 then (
some (.inr (v8))) else (
some (.inl (IntKind.wrap .i64 (v8 + (1)))))) else (
some (.inr (-1)))
def g47_1 (n : Nat) (a0 : List TRunwayMove) : Option ρ47 :=
iterO (fun y : Int => S47_0_x1 n a0 (0) (a0.length : Int) y) n (0)
abbrev ρ26 := (Bool)
def g26 (n : Nat) (a0 : List TRunwayMove) : Option ρ26 :=
(g47_1 n a0).bind fun x139 =>
some (decide (x139 ≥ (0)))
abbrev ρ7 := (Bool)
def S7_0 (n : Nat) (c8 : Bool) (a0 : List TRunwayMove) (c56 : Int) (v57 : Int) (L90000 : List TRunwayMove) : Option ((Int × List TRunwayMove) ⊕ ρ7) :=
bif (decide (v57 < c56)) then (
(getI a0 v57).bind fun x133 =>
(g24 n L90000 x133).bind fun x135 =>
bif (decide (x135 < (0))) then (
some (.inr (false))) else (
(delO 32 L90000 x135 (IntKind.wrap .i64 (x135 + (1)))).bind fun x136 =>
some (.inl ((IntKind.wrap .i64 (v57 + (1))), x136)))) else (
(g26 n L90000).bind fun x140 =>
some (.inr (!x140)))
def g7 (n : Nat) (a0 : List TRunwayMove) (a1 : List TRunwaySpan) (a2 : TWakeTable) (a3 : List TRunwayReady) : Option ρ7 :=
(g17 n).bind fun x129 =>
bif (!x129) then (
some (false)) else (
(g21 n a0 a1 a2 a3).bind fun x130 =>
bif (x130.2 != (0)) then (
some ((x130.1.length : Int) == (0))) else (
(g19 n x130.1 a1 a2).bind fun x131 =>
bif (x131.2.2 != (0)) then (
some (false)) else (
bif ((x130.1.length : Int) != (IntKind.wrap .i64 ((a0.length : Int) + (a3.length : Int)))) then (
some (false)) else (
(roomO x130.1.length 32).bind fun x132 =>
iterO (fun y : Int × List TRunwayMove => S7_0 n false a0 (a0.length : Int) y.1 y.2) n ((0), x130.1)))))
end Go.Proofs.Ytfmodgffhbljoaa
