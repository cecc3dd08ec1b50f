/- Plain functional programs out of the program's functions; printed by wip/Ext.lean.txt. -/
import Derived.Test.YtfmodgffhbljoaaX1T
import Derived.Test.YtfmodgffhbljoaaPG
set_option linter.unusedVariables false
set_option linter.unusedSimpArgs false
set_option maxRecDepth 100000
namespace Go.Proofs.Ytfmodgffhbljoaa
abbrev ρ28 := Bool
def g28 (n : Nat) : Option ρ28 := some true
abbrev ρ62 := (Bool)
def S62_0 (n : Nat) (c2 : Bool) (c14 : List UInt8) (c15 : Int) (v16 : Int) : Option ((Int) ⊕ ρ62) :=
bif (decide (v16 < c15)) then (
(getI c14 v16).bind fun x3 =>
bif (decide ((x3.toNat : Int) ≥ (65))) then (
bif (decide ((x3.toNat : Int) ≤ (90))) then (
some (.inl (IntKind.wrap .i64 (v16 + (1))))) else (
bif (decide (v16 > (0))) then (
bif (decide ((x3.toNat : Int) ≥ (48))) then (
bif (!(decide ((x3.toNat : Int) ≤ (57)))) then (
some (.inr (false))) else (
some (.inl (IntKind.wrap .i64 (v16 + (1)))))) else (
some (.inr (false)))) else (
some (.inr (false))))) else (
bif (decide (v16 > (0))) then (
bif (decide ((x3.toNat : Int) ≥ (48))) then (
bif (!(decide ((x3.toNat : Int) ≤ (57)))) then (
some (.inr (false))) else (
some (.inl (IntKind.wrap .i64 (v16 + (1)))))) else (
some (.inr (false)))) else (
some (.inr (false))))) else (
some (.inr (true)))
def g62 (n : Nat) (a0 : ByteArray) : Option ρ62 :=
bif (decide ((a0.size : Int) < (1))) then (
some (false)) else (
bif (decide ((a0.size : Int) > (8))) then (
some (false)) else (
(roomO a0.size 1).bind fun x2 =>
iterO (fun y : Int => S62_0 n false (a0.data.toList) ((a0.data.toList).length : Int) y) n (0)))
abbrev ρ37 := (Int)
def g37 (n : Nat) (a0 : Int) : Option ρ37 :=
bif (decide (a0 < (0))) then (
some (1)) else (
bif (decide (a0 > (3))) then (
some (1)) else (
some (0)))
abbrev ρ64 := (Bool)
def g64 (n : Nat) (a0 : TSequenceArrival) (a1_0 : ByteArray) (a1_1 : Int) (a1_2 : Int) (a1_3 : Int) : Option ρ64 :=
some ((a0.Call).toList == (a1_0).toList)
abbrev ρ71 := (Int)
def S71_0 (n : Nat) (a0 : List TSequenceArrival) (a1_0_0 : ByteArray) (a1_0_1 : Int) (a1_0_2 : Int) (a1_0_3 : Int) (c4 : Int) (c7 : Int) (v8 : Int) : Option ((Int) ⊕ ρ71) :=
bif (decide (v8 < c7)) then (
(getI a0 v8).bind fun x7 =>
(g64 n x7 a1_0_0 a1_0_1 a1_0_2 a1_0_3).bind fun x8 =>
bif x8 then (
some (.inr (v8))) else (
some (.inl (IntKind.wrap .i64 (v8 + (1)))))) else (
some (.inr (-1)))
def g71 (n : Nat) (a0 : List TSequenceArrival) (a1_0_0 : ByteArray) (a1_0_1 : Int) (a1_0_2 : Int) (a1_0_3 : Int) : Option ρ71 :=
iterO (fun y : Int => S71_0 n a0 a1_0_0 a1_0_1 a1_0_2 a1_0_3 (0) (a0.length : Int) y) n (0)
abbrev ρ63 := (Bool)
def g63 (n : Nat) (a0 : List TSequenceArrival) (a1_0_0 : ByteArray) (a1_0_1 : Int) (a1_0_2 : Int) (a1_0_3 : Int) : Option ρ63 :=
(g71 n a0 a1_0_0 a1_0_1 a1_0_2 a1_0_3).bind fun x9 =>
some (decide (x9 ≥ (0)))
abbrev ρ50 := (Int)
def S50_0 (n : Nat) (a0 : List TSequenceArrival) (c2 : Int) (c10 : Int) (v11 : Int) : Option ((Int) ⊕ ρ50) :=
bif (decide (v11 < c10)) then (
(getI a0 v11).bind fun x1 =>
(g62 n x1.Call).bind fun x4 =>
bif (!x4) then (
some (.inr (3))) else (
(g37 n x1.Wake).bind fun x5 =>
bif (x5 != (0)) then (
some (.inr (x5))) else (
bif (decide (x1.Time < (0))) then (
some (.inr (12))) else (
bif (decide (x1.Time > x1.Latest)) then (
some (.inr (12))) else (
bif (decide (x1.Latest > (200000))) then (
some (.inr (12))) else (
(sliceO a0 none (some v11)).bind fun x6 =>
(g63 n x6 x1.Call x1.Wake x1.Time x1.Latest).bind fun x10 =>
bif x10 then (
some (.inr (7))) else (
some (.inl (IntKind.wrap .i64 (v11 + (1))))))))))) else (
some (.inr (0)))
def g50 (n : Nat) (a0 : List TSequenceArrival) : Option ρ50 :=
bif (decide ((a0.length : Int) > (8))) then (
some (2)) else (
iterO (fun y : Int => S50_0 n a0 (0) (a0.length : Int) y) n (0))
abbrev ρ36 := (Int)
def S36_0_0 (n : Nat) (c2 : Int) (c10_0 : Int) (c10_1 : Int) (c10_2 : Int) (c10_3 : Int) (c10_4 : Int) (c10_5 : Int) (c10_6 : Int) (c10_7 : Int) (c10_8 : Int) (c10_9 : Int) (c10_10 : Int) (c10_11 : Int) (c10_12 : Int) (c10_13 : Int) (c10_14 : Int) (c10_15 : Int) (v11 : Int) (c14_0 : Int) (c14_1 : Int) (c14_2 : Int) (c14_3 : Int) (w15 : Int) : Option ((Int) ⊕ ((Int) ⊕ ρ36)) :=
bif (decide (w15 < (4))) then (
(getI ([c14_0, c14_1, c14_2, c14_3] : List Int) w15).bind fun x13 =>
bif (decide (x13 < (30))) then (
some (.inr (.inr (4)))) else (
bif (decide (x13 > (600))) then (
some (.inr (.inr (4)))) else (
some (.inl (IntKind.wrap .i64 (w15 + (1))))))) else (
some (.inr (.inl (IntKind.wrap .i64 (v11 + (1))))))
def S36_1_0_0 (n : Nat) (c2 : Int) (v26 : Int) (w29 : Int) (c10_0 : Int) (c10_1 : Int) (c10_2 : Int) (c10_3 : Int) (c10_4 : Int) (c10_5 : Int) (c10_6 : Int) (c10_7 : Int) (c10_8 : Int) (c10_9 : Int) (c10_10 : Int) (c10_11 : Int) (c10_12 : Int) (c10_13 : Int) (c10_14 : Int) (c10_15 : Int) (u32 : Int) : Option ((Int) ⊕ ((Int) ⊕ ((Int) ⊕ ρ36))) :=
bif (decide (u32 < (4))) then (
(getI ([(⟨c10_0, c10_1, c10_2, c10_3⟩ : T22), (⟨c10_4, c10_5, c10_6, c10_7⟩ : T22), (⟨c10_8, c10_9, c10_10, c10_11⟩ : T22), (⟨c10_12, c10_13, c10_14, c10_15⟩ : T22)] : List T22) v26).bind fun x14 =>
(getI ([x14.c0, x14.c1, x14.c2, x14.c3] : List Int) u32).bind fun x15 =>
(getI ([(⟨c10_0, c10_1, c10_2, c10_3⟩ : T22), (⟨c10_4, c10_5, c10_6, c10_7⟩ : T22), (⟨c10_8, c10_9, c10_10, c10_11⟩ : T22), (⟨c10_12, c10_13, c10_14, c10_15⟩ : T22)] : List T22) v26).bind fun x16 =>
(getI ([x16.c0, x16.c1, x16.c2, x16.c3] : List Int) w29).bind fun x17 =>
(getI ([(⟨c10_0, c10_1, c10_2, c10_3⟩ : T22), (⟨c10_4, c10_5, c10_6, c10_7⟩ : T22), (⟨c10_8, c10_9, c10_10, c10_11⟩ : T22), (⟨c10_12, c10_13, c10_14, c10_15⟩ : T22)] : List T22) w29).bind fun x18 =>
(getI ([x18.c0, x18.c1, x18.c2, x18.c3] : List Int) u32).bind fun x19 =>
bif (decide (x15 > (IntKind.wrap .i64 (x17 + x19)))) then (
some (.inr (.inr (.inr (3))))) else (
some (.inl (IntKind.wrap .i64 (u32 + (1)))))) else (
some (.inr (.inl (IntKind.wrap .i64 (w29 + (1))))))
def S36_1_0 (n : Nat) (c2 : Int) (v26 : Int) (c10_0 : Int) (c10_1 : Int) (c10_2 : Int) (c10_3 : Int) (c10_4 : Int) (c10_5 : Int) (c10_6 : Int) (c10_7 : Int) (c10_8 : Int) (c10_9 : Int) (c10_10 : Int) (c10_11 : Int) (c10_12 : Int) (c10_13 : Int) (c10_14 : Int) (c10_15 : Int) (w29 : Int) : Option ((Int) ⊕ ((Int) ⊕ ρ36)) :=
bif (decide (w29 < (4))) then (
iterO (fun y : Int => S36_1_0_0 n c2 v26 w29 c10_0 c10_1 c10_2 c10_3 c10_4 c10_5 c10_6 c10_7 c10_8 c10_9 c10_10 c10_11 c10_12 c10_13 c10_14 c10_15 y) n (0)) else (
some (.inr (.inl (IntKind.wrap .i64 (v26 + (1))))))
def S36_1 (n : Nat) (c2 : Int) (c10_0 : Int) (c10_1 : Int) (c10_2 : Int) (c10_3 : Int) (c10_4 : Int) (c10_5 : Int) (c10_6 : Int) (c10_7 : Int) (c10_8 : Int) (c10_9 : Int) (c10_10 : Int) (c10_11 : Int) (c10_12 : Int) (c10_13 : Int) (c10_14 : Int) (c10_15 : Int) (v26 : Int) : Option ((Int) ⊕ ρ36) :=
bif (decide (v26 < (4))) then (
iterO (fun y : Int => S36_1_0 n c2 v26 c10_0 c10_1 c10_2 c10_3 c10_4 c10_5 c10_6 c10_7 c10_8 c10_9 c10_10 c10_11 c10_12 c10_13 c10_14 c10_15 y) n (0)) else (
some (.inr (0)))
def S36_0 (n : Nat) (c2 : Int) (c10_0 : Int) (c10_1 : Int) (c10_2 : Int) (c10_3 : Int) (c10_4 : Int) (c10_5 : Int) (c10_6 : Int) (c10_7 : Int) (c10_8 : Int) (c10_9 : Int) (c10_10 : Int) (c10_11 : Int) (c10_12 : Int) (c10_13 : Int) (c10_14 : Int) (c10_15 : Int) (v11 : Int) : Option ((Int) ⊕ ρ36) :=
bif (decide (v11 < (4))) then (
(getI ([(⟨c10_0, c10_1, c10_2, c10_3⟩ : T22), (⟨c10_4, c10_5, c10_6, c10_7⟩ : T22), (⟨c10_8, c10_9, c10_10, c10_11⟩ : T22), (⟨c10_12, c10_13, c10_14, c10_15⟩ : T22)] : List T22) v11).bind fun x12 =>
iterO (fun y : Int => S36_0_0 n c2 c10_0 c10_1 c10_2 c10_3 c10_4 c10_5 c10_6 c10_7 c10_8 c10_9 c10_10 c10_11 c10_12 c10_13 c10_14 c10_15 v11 x12.c0 x12.c1 x12.c2 x12.c3 y) n (0)) else (
((iterO (fun y : Int => S36_1 n c2 c10_0 c10_1 c10_2 c10_3 c10_4 c10_5 c10_6 c10_7 c10_8 c10_9 c10_10 c10_11 c10_12 c10_13 c10_14 c10_15 y) n (0)).map Sum.inr))
def g36 (n : Nat) (a0 : TWakeTable) : Option ρ36 :=
iterO (fun y : Int => S36_0 n (0) a0.c0_0 a0.c0_1 a0.c0_2 a0.c0_3 a0.c1_0 a0.c1_1 a0.c1_2 a0.c1_3 a0.c2_0 a0.c2_1 a0.c2_2 a0.c2_3 a0.c3_0 a0.c3_1 a0.c3_2 a0.c3_3 y) n (0)
abbrev ρ55 := (Bool)
def S55_0 (n : Nat) (a0 : List Int) (a1 : Int) (c4 : Bool) (c11 : Int) (v12 : Int) (L90000 : List Bool) : Option ((Int × List Bool) ⊕ ρ55) :=
bif (decide (v12 < c11)) then (
(getI a0 v12).bind fun x22 =>
bif (decide (x22 < (0))) then (
some (.inr (false))) else (
bif (decide (x22 ≥ a1)) then (
some (.inr (false))) else (
(getI L90000 x22).bind fun x23 =>
bif x23 then (
some (.inr (false))) else (
(getI L90000 x22).bind fun x24 =>
some (.inl ((IntKind.wrap .i64 (v12 + (1))), (L90000.set ((x22 : Int).toNat) true))))))) else (
some (.inr ((a0.length : Int) == a1)))
def g55 (n : Nat) (a0 : List Int) (a1 : Int) : Option ρ55 :=
(makeO a1 1).bind fun x21 =>
iterO (fun y : Int × List Bool => S55_0 n a0 a1 false (a0.length : Int) y.1 y.2) n ((0), (List.replicate x21 false))
abbrev ρ53 := ((List Int) × Bool)
def S53_0 (n : Nat) (a0 : List TSequenceArrival) (a1 : List Int) (c7 : Bool) (c13 : Int) (k0_0 : Int) (k0_1 : Int) (k0_2 : Int) (k0_3 : Int) (k0_4 : Int) (k0_5 : Int) (k0_6 : Int) (k0_7 : Int) (k0_8 : Int) (k0_9 : Int) (k0_10 : Int) (k0_11 : Int) (k0_12 : Int) (k0_13 : Int) (k0_14 : Int) (k0_15 : Int) (v14 : Int) (L90000 : List Int) : Option ((Int × List Int) ⊕ ρ53) :=
bif (decide (v14 < c13)) then (
(getI a1 v14).bind fun x26 =>
(getI a0 x26).bind fun x27 =>
bif (decide (v14 > (0))) then (
(getI L90000 (IntKind.wrap .i64 (v14 - (1)))).bind fun x28 =>
(getI a1 (IntKind.wrap .i64 (v14 - (1)))).bind fun x29 =>
(getI a0 x29).bind fun x30 =>
(getI a0 x26).bind fun x31 =>
(getI ([(⟨k0_0, k0_1, k0_2, k0_3⟩ : T22), (⟨k0_4, k0_5, k0_6, k0_7⟩ : T22), (⟨k0_8, k0_9, k0_10, k0_11⟩ : T22), (⟨k0_12, k0_13, k0_14, k0_15⟩ : T22)] : List T22) x30.Wake).bind fun x32 =>
(getI ([x32.c0, x32.c1, x32.c2, x32.c3] : List Int) x31.Wake).bind fun x33 =>
(getI a0 x26).bind fun x34 =>
bif (decide ((if (IntKind.wrap .i64 (x28 + x33)) > x27.Time then (IntKind.wrap .i64 (x28 + x33)) else x27.Time) > x34.Latest)) then (
some (.inr ([], false))) else (
(roomO (L90000.length + ([(if (IntKind.wrap .i64 (x28 + x33)) > x27.Time then (IntKind.wrap .i64 (x28 + x33)) else x27.Time)] : List Int).length) 8).bind fun x35 =>
some (.inl ((IntKind.wrap .i64 (v14 + (1))), (L90000 ++ ([(if (IntKind.wrap .i64 (x28 + x33)) > x27.Time then (IntKind.wrap .i64 (x28 + x33)) else x27.Time)] : List Int)))))) else (
(getI a0 x26).bind fun x36 =>
bif (decide (x27.Time > x36.Latest)) then (
some (.inr ([], false))) else (
(roomO (L90000.length + ([x27.Time] : List Int).length) 8).bind fun x37 =>
some (.inl ((IntKind.wrap .i64 (v14 + (1))), (L90000 ++ ([x27.Time] : List Int))))))) else (
some (.inr (L90000, true)))
def g53 (n : Nat) (a0 : List TSequenceArrival) (a1 : List Int) (a2 : TWakeTable) : Option ρ53 :=
iterO (fun y : Int × List Int => S53_0 n a0 a1 false (a1.length : Int) a2.c0_0 a2.c0_1 a2.c0_2 a2.c0_3 a2.c1_0 a2.c1_1 a2.c1_2 a2.c1_3 a2.c2_0 a2.c2_1 a2.c2_2 a2.c2_3 a2.c3_0 a2.c3_1 a2.c3_2 a2.c3_3 y.1 y.2) n ((0), [])
abbrev ρ32 := ((List Int) × Int)
def g32 (n : Nat) (a0 : List TSequenceArrival) (a1 : List Int) (a2 : TWakeTable) : Option ρ32 :=
(g50 n a0).bind fun x11 =>
bif (x11 != (0)) then (
some ([], x11)) else (
(g36 n a2).bind fun x20 =>
bif (x20 != (0)) then (
some ([], x20)) else (
(g55 n a1 (a0.length : Int)).bind fun x25 =>
bif (!x25) then (
some ([], (3))) else (
(g53 n a0 a1 a2).bind fun x38 =>
bif (!x38.2) then (
some ([], (8))) else (
some (x38.1, (0))))))
abbrev ρ16 := (Bool × Int)
def S16_1 (n : Nat) (a1 : List Int) (a2 : List Int) (c6 : Bool) (c7 : Int) (k0_0 : Int) (k0_1 : Int) (k0_2 : Int) (k0_3 : Int) (k0_4 : Int) (k0_5 : Int) (k0_6 : Int) (k0_7 : Int) (k0_8 : Int) (k0_9 : Int) (k0_10 : Int) (k0_11 : Int) (k0_12 : Int) (k0_13 : Int) (k0_14 : Int) (k0_15 : Int) (v12 : Int) : Option ((Int) ⊕ ρ16) :=
bif (decide (v12 < (a1.length : Int))) then (
(getI a2 v12).bind fun x48 =>
(getI a2 (IntKind.wrap .i64 (v12 - (1)))).bind fun x49 =>
(getI a1 (IntKind.wrap .i64 (v12 - (1)))).bind fun x50 =>
(getI a1 v12).bind fun x51 =>
(getI ([(⟨k0_0, k0_1, k0_2, k0_3⟩ : T22), (⟨k0_4, k0_5, k0_6, k0_7⟩ : T22), (⟨k0_8, k0_9, k0_10, k0_11⟩ : T22), (⟨k0_12, k0_13, k0_14, k0_15⟩ : T22)] : List T22) x50).bind fun x52 =>
(getI ([x52.c0, x52.c1, x52.c2, x52.c3] : List Int) x51).bind fun x53 =>
bif (decide ((IntKind.wrap .i64 (x48 - x49)) < x53)) then (
some (.inr (false, (0)))) else (
some (.inl (IntKind.wrap .i64 (v12 + (1)))))) else (
some (.inr (true, (0))))
def S16_0 (n : Nat) (a1 : List Int) (a2 : List Int) (c6 : Bool) (c7 : Int) (c34 : Int) (k0_0 : Int) (k0_1 : Int) (k0_2 : Int) (k0_3 : Int) (k0_4 : Int) (k0_5 : Int) (k0_6 : Int) (k0_7 : Int) (k0_8 : Int) (k0_9 : Int) (k0_10 : Int) (k0_11 : Int) (k0_12 : Int) (k0_13 : Int) (k0_14 : Int) (k0_15 : Int) (v35 : Int) : Option ((Int) ⊕ ρ16) :=
bif (decide (v35 < c34)) then (
(getI a1 v35).bind fun x44 =>
(g37 n x44).bind fun x45 =>
bif (x45 != (0)) then (
some (.inr (false, x45))) else (
(getI a2 v35).bind fun x46 =>
bif (decide (x46 < (0))) then (
some (.inr (false, (12)))) else (
(getI a2 v35).bind fun x47 =>
bif (decide (x47 > (200000))) then (
some (.inr (false, (12)))) else (
some (.inl (IntKind.wrap .i64 (v35 + (1)))))))) else (
((iterO (fun y : Int => S16_1 n a1 a2 c6 c7 k0_0 k0_1 k0_2 k0_3 k0_4 k0_5 k0_6 k0_7 k0_8 k0_9 k0_10 k0_11 k0_12 k0_13 k0_14 k0_15 y) n (1)).map Sum.inr))
def g16 (n : Nat) (a0 : TWakeTable) (a1 : List Int) (a2 : List Int) : Option ρ16 :=
(g36 n a0).bind fun x43 =>
bif (x43 != (0)) then (
some (false, x43)) else (
bif (decide ((a1.length : Int) > (256))) then (
some (false, (2))) else (
bif (decide ((a2.length : Int) > (256))) then (
some (false, (2))) else (
bif ((a1.length : Int) != (a2.length : Int)) then (
some (false, (3))) else (
iterO (fun y : Int => S16_0 n a1 a2 false (0) (a1.length : Int) a0.c0_0 a0.c0_1 a0.c0_2 a0.c0_3 a0.c1_0 a0.c1_1 a0.c1_2 a0.c1_3 a0.c2_0 a0.c2_1 a0.c2_2 a0.c2_3 a0.c3_0 a0.c3_1 a0.c3_2 a0.c3_3 y) n (0)))))
abbrev ρ10 := (Bool)
def S10_1 (n : Nat) (a0 : List TSequenceArrival) (c6 : Bool) (c7 : List Int) (a1 : List Int) (c67 : Int) (v68 : Int) : Option ((Int) ⊕ ρ10) :=
bif (decide (v68 < c67)) then (
(getI a1 v68).bind fun x55 =>
(getI c7 v68).bind fun x56 =>
(getI a0 x55).bind fun x57 =>
bif (decide (x56 < x57.Time)) then (
some (.inr (false))) else (
(getI c7 v68).bind fun x58 =>
(getI a0 x55).bind fun x59 =>
bif (decide (x58 > x59.Latest)) then (
some (.inr (false))) else (
some (.inl (IntKind.wrap .i64 (v68 + (1))))))) else (
some (.inr (true)))
def S10_0 (n : Nat) (a0 : List TSequenceArrival) (a1 : List Int) (c6 : Bool) (c7 : List Int) (c31 : Int) (k0_0 : Int) (k0_1 : Int) (k0_2 : Int) (k0_3 : Int) (k0_4 : Int) (k0_5 : Int) (k0_6 : Int) (k0_7 : Int) (k0_8 : Int) (k0_9 : Int) (k0_10 : Int) (k0_11 : Int) (k0_12 : Int) (k0_13 : Int) (k0_14 : Int) (k0_15 : Int) (v32 : Int) (L90000 : List Int) : Option ((Int × List Int) ⊕ ρ10) :=
bif (decide (v32 < c31)) then (
(getI a1 v32).bind fun x40 =>
bif (decide (x40 < (0))) then (
some (.inr (false))) else (
bif (decide (x40 ≥ (a0.length : Int))) then (
some (.inr (false))) else (
(getI a0 x40).bind fun x41 =>
(roomO (L90000.length + ([x41.Wake] : List Int).length) 8).bind fun x42 =>
some (.inl ((IntKind.wrap .i64 (v32 + (1))), (L90000 ++ ([x41.Wake] : List Int))))))) else (
(g16 n (⟨k0_0, k0_1, k0_2, k0_3, k0_4, k0_5, k0_6, k0_7, k0_8, k0_9, k0_10, k0_11, k0_12, k0_13, k0_14, k0_15⟩ : TWakeTable) L90000 c7).bind fun x54 =>
bif (x54.2 != (0)) then (
some (.inr (false))) else (
bif (!x54.1) then (
some (.inr (false))) else (
((iterO (fun y : Int => S10_1 n a0 c6 c7 a1 (a1.length : Int) y) n (0)).map Sum.inr))))
def g10 (n : Nat) (a0 : List TSequenceArrival) (a1 : List Int) (a2 : TWakeTable) : Option ρ10 :=
(g28 n).bind fun x0 =>
bif (!x0) then (
some (false)) else (
(g32 n a0 a1 a2).bind fun x39 =>
bif (x39.2 != (0)) then (
some ((x39.1.length : Int) == (0))) else (
iterO (fun y : Int × List Int => S10_0 n a0 a1 false x39.1 (a1.length : Int) a2.c0_0 a2.c0_1 a2.c0_2 a2.c0_3 a2.c1_0 a2.c1_1 a2.c1_2 a2.c1_3 a2.c2_0 a2.c2_1 a2.c2_2 a2.c2_3 a2.c3_0 a2.c3_1 a2.c3_2 a2.c3_3 y.1 y.2) n ((0), [])))
end Go.Proofs.Ytfmodgffhbljoaa
