/- Plain functional programs out of the program's functions; printed by wip/Ext.lean.txt. -/
import Derived.Test.YtfmodgffhbljoaaX1T
import Derived.Test.YtfmodgffhbljoaaPJ
set_option linter.unusedVariables false
set_option linter.unusedSimpArgs false
set_option maxRecDepth 100000
set_option maxHeartbeats 4000000
namespace Go.Proofs.Ytfmodgffhbljoaa
abbrev ρ53 := ((List Int) × Bool)
def S53_0 (n : Nat) (a0 : List TSequenceArrival) (a1 : List Int) (c7 : Bool) (c13 : Int) (k0_0 : Int) (k0_1 : Int) (k0_2 : Int) (k0_3 : Int) (k0_4 : Int) (k0_5 : Int) (k0_6 : Int) (k0_7 : Int) (k0_8 : Int) (k0_9 : Int) (k0_10 : Int) (k0_11 : Int) (k0_12 : Int) (k0_13 : Int) (k0_14 : Int) (k0_15 : Int) (v14 : Int) (L90000 : List Int) : Option ((Int × List Int) ⊕ ρ53) :=
bif (decide (v14 < c13)) then (
(getI a1 v14).bind fun x0 =>
(getI a0 x0).bind fun x1 =>
bif (decide (v14 > (0))) then (
(getI L90000 (IntKind.wrap .i64 (v14 - (1)))).bind fun x2 =>
(getI a1 (IntKind.wrap .i64 (v14 - (1)))).bind fun x3 =>
(getI a0 x3).bind fun x4 =>
(getI a0 x0).bind fun x5 =>
(getI ([(⟨k0_0, k0_1, k0_2, k0_3⟩ : T22), (⟨k0_4, k0_5, k0_6, k0_7⟩ : T22), (⟨k0_8, k0_9, k0_10, k0_11⟩ : T22), (⟨k0_12, k0_13, k0_14, k0_15⟩ : T22)] : List T22) x4.Wake).bind fun x6 =>
(getI ([x6.c0, x6.c1, x6.c2, x6.c3] : List Int) x5.Wake).bind fun x7 =>
(getI a0 x0).bind fun x8 =>
bif (decide ((if (IntKind.wrap .i64 (x2 + x7)) > x1.Time then (IntKind.wrap .i64 (x2 + x7)) else x1.Time) > x8.Latest)) then (
some (.inr ([], false))) else (
(roomO (L90000.length + ([(if (IntKind.wrap .i64 (x2 + x7)) > x1.Time then (IntKind.wrap .i64 (x2 + x7)) else x1.Time)] : List Int).length) 8).bind fun x10 =>
some (.inl ((IntKind.wrap .i64 (v14 + (1))), (L90000 ++ ([(if (IntKind.wrap .i64 (x2 + x7)) > x1.Time then (IntKind.wrap .i64 (x2 + x7)) else x1.Time)] : List Int)))))) else (
(getI a0 x0).bind fun x11 =>
bif (decide (x1.Time > x11.Latest)) then (
some (.inr ([], false))) else (
(roomO (L90000.length + ([x1.Time] : List Int).length) 8).bind fun x13 =>
some (.inl ((IntKind.wrap .i64 (v14 + (1))), (L90000 ++ ([x1.Time] : List Int))))))) else (
some (.inr (L90000, true)))
def g53 (n : Nat) (a0 : List TSequenceArrival) (a1 : List Int) (a2 : TWakeTable) : Option ρ53 :=
iterO (fun y : Int × List Int => S53_0 n a0 a1 false (a1.length : Int) a2.c0_0 a2.c0_1 a2.c0_2 a2.c0_3 a2.c1_0 a2.c1_1 a2.c1_2 a2.c1_3 a2.c2_0 a2.c2_1 a2.c2_2 a2.c2_3 a2.c3_0 a2.c3_1 a2.c3_2 a2.c3_3 y.1 y.2) n ((0), [])
abbrev ρ36 := (Int)
def S36_0_0 (n : Nat) (c2 : Int) (c10_0 : Int) (c10_1 : Int) (c10_2 : Int) (c10_3 : Int) (c10_4 : Int) (c10_5 : Int) (c10_6 : Int) (c10_7 : Int) (c10_8 : Int) (c10_9 : Int) (c10_10 : Int) (c10_11 : Int) (c10_12 : Int) (c10_13 : Int) (c10_14 : Int) (c10_15 : Int) (v11 : Int) (c14_0 : Int) (c14_1 : Int) (c14_2 : Int) (c14_3 : Int) (w15 : Int) : Option ((Int) ⊕ ((Int) ⊕ ρ36)) :=
bif (decide (w15 < (4))) then (
(getI ([c14_0, c14_1, c14_2, c14_3] : List Int) w15).bind fun x29 =>
bif (decide (x29 < (30))) then (
some (.inr (.inr (4)))) else (
bif (decide (x29 > (600))) then (
some (.inr (.inr (4)))) else (
some (.inl (IntKind.wrap .i64 (w15 + (1))))))) else (
some (.inr (.inl (IntKind.wrap .i64 (v11 + (1))))))
def S36_1_0_0 (n : Nat) (c2 : Int) (v26 : Int) (w29 : Int) (c10_0 : Int) (c10_1 : Int) (c10_2 : Int) (c10_3 : Int) (c10_4 : Int) (c10_5 : Int) (c10_6 : Int) (c10_7 : Int) (c10_8 : Int) (c10_9 : Int) (c10_10 : Int) (c10_11 : Int) (c10_12 : Int) (c10_13 : Int) (c10_14 : Int) (c10_15 : Int) (u32 : Int) : Option ((Int) ⊕ ((Int) ⊕ ((Int) ⊕ ρ36))) :=
bif (decide (u32 < (4))) then (
(getI ([(⟨c10_0, c10_1, c10_2, c10_3⟩ : T22), (⟨c10_4, c10_5, c10_6, c10_7⟩ : T22), (⟨c10_8, c10_9, c10_10, c10_11⟩ : T22), (⟨c10_12, c10_13, c10_14, c10_15⟩ : T22)] : List T22) v26).bind fun x30 =>
(getI ([x30.c0, x30.c1, x30.c2, x30.c3] : List Int) u32).bind fun x31 =>
(getI ([(⟨c10_0, c10_1, c10_2, c10_3⟩ : T22), (⟨c10_4, c10_5, c10_6, c10_7⟩ : T22), (⟨c10_8, c10_9, c10_10, c10_11⟩ : T22), (⟨c10_12, c10_13, c10_14, c10_15⟩ : T22)] : List T22) v26).bind fun x32 =>
(getI ([x32.c0, x32.c1, x32.c2, x32.c3] : List Int) w29).bind fun x33 =>
(getI ([(⟨c10_0, c10_1, c10_2, c10_3⟩ : T22), (⟨c10_4, c10_5, c10_6, c10_7⟩ : T22), (⟨c10_8, c10_9, c10_10, c10_11⟩ : T22), (⟨c10_12, c10_13, c10_14, c10_15⟩ : T22)] : List T22) w29).bind fun x34 =>
(getI ([x34.c0, x34.c1, x34.c2, x34.c3] : List Int) u32).bind fun x35 =>
bif (decide (x31 > (IntKind.wrap .i64 (x33 + x35)))) then (
some (.inr (.inr (.inr (3))))) else (
some (.inl (IntKind.wrap .i64 (u32 + (1)))))) else (
some (.inr (.inl (IntKind.wrap .i64 (w29 + (1))))))
def S36_1_0 (n : Nat) (c2 : Int) (v26 : Int) (c10_0 : Int) (c10_1 : Int) (c10_2 : Int) (c10_3 : Int) (c10_4 : Int) (c10_5 : Int) (c10_6 : Int) (c10_7 : Int) (c10_8 : Int) (c10_9 : Int) (c10_10 : Int) (c10_11 : Int) (c10_12 : Int) (c10_13 : Int) (c10_14 : Int) (c10_15 : Int) (w29 : Int) : Option ((Int) ⊕ ((Int) ⊕ ρ36)) :=
bif (decide (w29 < (4))) then (
iterO (fun y : Int => S36_1_0_0 n c2 v26 w29 c10_0 c10_1 c10_2 c10_3 c10_4 c10_5 c10_6 c10_7 c10_8 c10_9 c10_10 c10_11 c10_12 c10_13 c10_14 c10_15 y) n (0)) else (
some (.inr (.inl (IntKind.wrap .i64 (v26 + (1))))))
def S36_1 (n : Nat) (c2 : Int) (c10_0 : Int) (c10_1 : Int) (c10_2 : Int) (c10_3 : Int) (c10_4 : Int) (c10_5 : Int) (c10_6 : Int) (c10_7 : Int) (c10_8 : Int) (c10_9 : Int) (c10_10 : Int) (c10_11 : Int) (c10_12 : Int) (c10_13 : Int) (c10_14 : Int) (c10_15 : Int) (v26 : Int) : Option ((Int) ⊕ ρ36) :=
bif (decide (v26 < (4))) then (
iterO (fun y : Int => S36_1_0 n c2 v26 c10_0 c10_1 c10_2 c10_3 c10_4 c10_5 c10_6 c10_7 c10_8 c10_9 c10_10 c10_11 c10_12 c10_13 c10_14 c10_15 y) n (0)) else (
some (.inr (0)))
def S36_0 (n : Nat) (c2 : Int) (c10_0 : Int) (c10_1 : Int) (c10_2 : Int) (c10_3 : Int) (c10_4 : Int) (c10_5 : Int) (c10_6 : Int) (c10_7 : Int) (c10_8 : Int) (c10_9 : Int) (c10_10 : Int) (c10_11 : Int) (c10_12 : Int) (c10_13 : Int) (c10_14 : Int) (c10_15 : Int) (v11 : Int) : Option ((Int) ⊕ ρ36) :=
bif (decide (v11 < (4))) then (
(getI ([(⟨c10_0, c10_1, c10_2, c10_3⟩ : T22), (⟨c10_4, c10_5, c10_6, c10_7⟩ : T22), (⟨c10_8, c10_9, c10_10, c10_11⟩ : T22), (⟨c10_12, c10_13, c10_14, c10_15⟩ : T22)] : List T22) v11).bind fun x28 =>
iterO (fun y : Int => S36_0_0 n c2 c10_0 c10_1 c10_2 c10_3 c10_4 c10_5 c10_6 c10_7 c10_8 c10_9 c10_10 c10_11 c10_12 c10_13 c10_14 c10_15 v11 x28.c0 x28.c1 x28.c2 x28.c3 y) n (0)) else (
((iterO (fun y : Int => S36_1 n c2 c10_0 c10_1 c10_2 c10_3 c10_4 c10_5 c10_6 c10_7 c10_8 c10_9 c10_10 c10_11 c10_12 c10_13 c10_14 c10_15 y) n (0)).map Sum.inr))
def g36 (n : Nat) (a0 : TWakeTable) : Option ρ36 :=
iterO (fun y : Int => S36_0 n (0) a0.c0_0 a0.c0_1 a0.c0_2 a0.c0_3 a0.c1_0 a0.c1_1 a0.c1_2 a0.c1_3 a0.c2_0 a0.c2_1 a0.c2_2 a0.c2_3 a0.c3_0 a0.c3_1 a0.c3_2 a0.c3_3 y) n (0)
abbrev ρ62 := (Bool)
def S62_0 (n : Nat) (c2 : Bool) (c14 : List UInt8) (c15 : Int) (v16 : Int) : Option ((Int) ⊕ ρ62) :=
bif (decide (v16 < c15)) then (
(getI c14 v16).bind fun x38 =>
bif (decide ((x38.toNat : Int) ≥ (65))) then (
bif (decide ((x38.toNat : Int) ≤ (90))) then (
some (.inl (IntKind.wrap .i64 (v16 + (1))))) else (
bif (decide (v16 > (0))) then (
bif (decide ((x38.toNat : Int) ≥ (48))) then (
bif (!(decide ((x38.toNat : Int) ≤ (57)))) then (
some (.inr (false))) else (
some (.inl (IntKind.wrap .i64 (v16 + (1)))))) else (
some (.inr (false)))) else (
some (.inr (false))))) else (
bif (decide (v16 > (0))) then (
bif (decide ((x38.toNat : Int) ≥ (48))) then (
bif (!(decide ((x38.toNat : Int) ≤ (57)))) then (
some (.inr (false))) else (
some (.inl (IntKind.wrap .i64 (v16 + (1)))))) else (
some (.inr (false)))) else (
some (.inr (false))))) else (
some (.inr (true)))
def g62 (n : Nat) (a0 : ByteArray) : Option ρ62 :=
bif (decide ((a0.size : Int) < (1))) then (
some (false)) else (
bif (decide ((a0.size : Int) > (8))) then (
some (false)) else (
(roomO a0.size 1).bind fun x37 =>
iterO (fun y : Int => S62_0 n false (a0.data.toList) ((a0.data.toList).length : Int) y) n (0)))
abbrev ρ37 := (Int)
def g37 (n : Nat) (a0 : Int) : Option ρ37 :=
bif (decide (a0 < (0))) then (
some (1)) else (
bif (decide (a0 > (3))) then (
some (1)) else (
some (0)))
abbrev ρ64 := (Bool)
def g64 (n : Nat) (a0 : TSequenceArrival) (a1_0 : ByteArray) (a1_1 : Int) (a1_2 : Int) (a1_3 : Int) : Option ρ64 :=
some ((a0.Call).toList == (a1_0).toList)
abbrev ρ71 := (Int)
def S71_0 (n : Nat) (a0 : List TSequenceArrival) (a1_0_0 : ByteArray) (a1_0_1 : Int) (a1_0_2 : Int) (a1_0_3 : Int) (c4 : Int) (c7 : Int) (v8 : Int) : Option ((Int) ⊕ ρ71) :=
bif (decide (v8 < c7)) then (
(getI a0 v8).bind fun x42 =>
(g64 n x42 a1_0_0 a1_0_1 a1_0_2 a1_0_3).bind fun x43 =>
bif x43 then (
some (.inr (v8))) else (
some (.inl (IntKind.wrap .i64 (v8 + (1)))))) else (
some (.inr (-1)))
def g71 (n : Nat) (a0 : List TSequenceArrival) (a1_0_0 : ByteArray) (a1_0_1 : Int) (a1_0_2 : Int) (a1_0_3 : Int) : Option ρ71 :=
iterO (fun y : Int => S71_0 n a0 a1_0_0 a1_0_1 a1_0_2 a1_0_3 (0) (a0.length : Int) y) n (0)
abbrev ρ63 := (Bool)
def g63 (n : Nat) (a0 : List TSequenceArrival) (a1_0_0 : ByteArray) (a1_0_1 : Int) (a1_0_2 : Int) (a1_0_3 : Int) : Option ρ63 :=
(g71 n a0 a1_0_0 a1_0_1 a1_0_2 a1_0_3).bind fun x44 =>
some (decide (x44 ≥ (0)))
abbrev ρ50 := (Int)
def S50_0 (n : Nat) (a0 : List TSequenceArrival) (c2 : Int) (c10 : Int) (v11 : Int) : Option ((Int) ⊕ ρ50) :=
bif (decide (v11 < c10)) then (
(getI a0 v11).bind fun x36 =>
(g62 n x36.Call).bind fun x39 =>
bif (!x39) then (
some (.inr (3))) else (
(g37 n x36.Wake).bind fun x40 =>
bif (x40 != (0)) then (
some (.inr (x40))) else (
bif (decide (x36.Time < (0))) then (
some (.inr (12))) else (
bif (decide (x36.Time > x36.Latest)) then (
some (.inr (12))) else (
bif (decide (x36.Latest > (200000))) then (
some (.inr (12))) else (
(sliceO a0 none (some v11)).bind fun x41 =>
(g63 n x41 x36.Call x36.Wake x36.Time x36.Latest).bind fun x45 =>
bif x45 then (
some (.inr (7))) else (
some (.inl (IntKind.wrap .i64 (v11 + (1))))))))))) else (
some (.inr (0)))
def g50 (n : Nat) (a0 : List TSequenceArrival) : Option ρ50 :=
bif (decide ((a0.length : Int) > (8))) then (
some (2)) else (
iterO (fun y : Int => S50_0 n a0 (0) (a0.length : Int) y) n (0))
abbrev ρ69 := (Bool)
def g69 (n : Nat) (a0 : ByteArray) : Option ρ69 :=
some (!((a0).toList == (a0).toList))
abbrev ρ59 := (Int)
def g59 (n : Nat) (a0 : ByteArray) (a1 : ByteArray) : Option ρ59 :=
(g69 n a0).bind fun x53 =>
(g69 n a1).bind fun x54 =>
bif x53 then (
bif x54 then (
some (0)) else (
some (-1))) else (
bif x54 then (
some (1)) else (
bif (Op.bytesLess (a0).toList (a1).toList) then (
some (-1)) else (
bif (!(Op.bytesLess (a0).toList (a1).toList || (a0).toList == (a1).toList)) then (
some (1)) else (
some (0)))))
abbrev ρ58 := (Int)
def S58_0 (n : Nat) (c2 : Int) (a0 : List Int) (c7 : Int) (v8 : Int) : Option ((Int) ⊕ ρ58) :=
bif (decide (v8 < c7)) then (
(getI a0 v8).bind fun x56 =>
bif (x56 != c2) then (
some (.inr (x56))) else (
some (.inl (IntKind.wrap .i64 (v8 + (1)))))) else (
some (.inr (c2)))
def g58 (n : Nat) (a0 : List Int) : Option ρ58 :=
iterO (fun y : Int => S58_0 n (0) a0 (a0.length : Int) y) n (0)
abbrev ρ57 := (Int)
def g57 (n : Nat) (a0 : Int) (a1 : Int) (a2_0 : List TSequenceArrival) : Option ρ57 :=
(getI a2_0 a0).bind fun x49 =>
(getI a2_0 a1).bind fun x50 =>
(getI a2_0 a0).bind fun x51 =>
(getI a2_0 a1).bind fun x52 =>
(g59 n x51.Call x52.Call).bind fun x55 =>
(g58 n ([(IntKind.wrap .i64 (x49.Time - x50.Time)), x55] : List Int)).bind fun x57 =>
some (x57)
abbrev ρ31 := ((List Int) × Int)
def S31_0 (n : Nat) (c3 : Int) (c13 : Int) (a0 : List TSequenceArrival) (v14 : Int) (L90000 : List Int) : Option ((Int × List Int) ⊕ ρ31) :=
bif (decide (v14 < c13)) then (
(roomO (L90000.length + ([v14] : List Int).length) 8).bind fun x48 =>
some (.inl ((IntKind.wrap .i64 (v14 + (1))), (L90000 ++ ([v14] : List Int))))) else (
(sortO (fun x y => g57 n x y a0) L90000).bind fun x58 =>
some (.inr (x58, (0))))
def g31 (n : Nat) (a0 : List TSequenceArrival) : Option ρ31 :=
(g50 n a0).bind fun x46 =>
bif (x46 != (0)) then (
some ([], x46)) else (
iterO (fun y : Int × List Int => S31_0 n (0) (a0.length : Int) a0 y.1 y.2) n ((0), []))
abbrev ρ66 := (Int)
def S66_0 (n : Nat) (a0 : List Int) (a1 : Int) (c4 : Int) (c7 : Int) (v8 : Int) : Option ((Int) ⊕ ρ66) :=
bif (decide (v8 < c7)) then (
(getI a0 v8).bind fun x60 =>
bif (a1 == x60) then (
some (.inr (v8))) else (
some (.inl (IntKind.wrap .i64 (v8 + (1)))))) else (
some (.inr (-1)))
def g66 (n : Nat) (a0 : List Int) (a1 : Int) : Option ρ66 :=
iterO (fun y : Int => S66_0 n a0 a1 (0) (a0.length : Int) y) n (0)
abbrev ρ54 := (Int)
def S54_0 (n : Nat) (a0 : List Int) (c4 : Int) (a1 : List Int) (c10 : Int) (v5 : Int) (v11 : Int) : Option ((Int × Int) ⊕ ρ54) :=
bif (decide (v11 < c10)) then (
(getI a1 v11).bind fun x59 =>
(g66 n a0 x59).bind fun x61 =>
some (.inl ((if (IntKind.wrap .i64 (0 - (IntKind.wrap .i64 (v11 - x61)))) > (if (IntKind.wrap .i64 (v11 - x61)) > v5 then (IntKind.wrap .i64 (v11 - x61)) else v5) then (IntKind.wrap .i64 (0 - (IntKind.wrap .i64 (v11 - x61)))) else (if (IntKind.wrap .i64 (v11 - x61)) > v5 then (IntKind.wrap .i64 (v11 - x61)) else v5)), (IntKind.wrap .i64 (v11 + (1)))))) else (
some (.inr (v5)))
def g54 (n : Nat) (a0 : List Int) (a1 : List Int) : Option ρ54 :=
iterO (fun y : Int × Int => S54_0 n a0 (0) a1 (a1.length : Int) y.1 y.2) n ((0), (0))
abbrev ρ65 := (Bool)
def g65 (n : Nat) (a0 : List Int) (a1 : Int) : Option ρ65 :=
(g66 n a0 a1).bind fun x62 =>
some (decide (x62 ≥ (0)))
abbrev ρ28 := Bool
def g28 (n : Nat) : Option ρ28 := some true
abbrev ρ15 := (Int)
def g15 (n : Nat) (a0 : Int) (a1 : Int) : Option ρ15 :=
(modO (IntKind.wrap .u64 a0) (IntKind.wrap .u64 a1)).bind fun x64 =>
some (IntKind.wrap .i64 x64)
abbrev ρ55 := (Bool)
def S55_0 (n : Nat) (a0 : List Int) (a1 : Int) (c4 : Bool) (c11 : Int) (v12 : Int) (L90000 : List Bool) : Option ((Int × List Bool) ⊕ ρ55) :=
bif (decide (v12 < c11)) then (
(getI a0 v12).bind fun x71 =>
bif (decide (x71 < (0))) then (
some (.inr (false))) else (
bif (decide (x71 ≥ a1)) then (
some (.inr (false))) else (
(getI L90000 x71).bind fun x72 =>
bif x72 then (
some (.inr (false))) else (
(getI L90000 x71).bind fun x73 =>
some (.inl ((IntKind.wrap .i64 (v12 + (1))), (L90000.set ((x71 : Int).toNat) true))))))) else (
some (.inr ((a0.length : Int) == a1)))
def g55 (n : Nat) (a0 : List Int) (a1 : Int) : Option ρ55 :=
(makeO a1 1).bind fun x70 =>
iterO (fun y : Int × List Bool => S55_0 n a0 a1 false (a0.length : Int) y.1 y.2) n ((0), (List.replicate x70 false))
abbrev ρ30 := (Int × Int)
def g30 (n : Nat) (a0 : List TSequenceArrival) (a1 : List Int) : Option ρ30 :=
(g31 n a0).bind fun x69 =>
bif (x69.2 != (0)) then (
some ((0), x69.2)) else (
(g55 n a1 (a0.length : Int)).bind fun x74 =>
bif (!x74) then (
some ((0), (3))) else (
(g54 n x69.1 a1).bind fun x75 =>
some (x75, (0))))
abbrev ρ32 := ((List Int) × Int)
def g32 (n : Nat) (a0 : List TSequenceArrival) (a1 : List Int) (a2 : TWakeTable) : Option ρ32 :=
(g50 n a0).bind fun x80 =>
bif (x80 != (0)) then (
some ([], x80)) else (
(g36 n a2).bind fun x81 =>
bif (x81 != (0)) then (
some ([], x81)) else (
(g55 n a1 (a0.length : Int)).bind fun x82 =>
bif (!x82) then (
some ([], (3))) else (
(g53 n a0 a1 a2).bind fun x83 =>
bif (!x83.2) then (
some ([], (8))) else (
some (x83.1, (0))))))
abbrev BestS := Option (List Int × List Int × Int × Int)
def sumT (l : List TSequenceArrival) : List Int → List Int → Int → Option Int
  | [], _, s => some s
  | k :: o, x :: xs, s => (getI l k).bind fun a => sumT l o xs (IntKind.wrap .i64 (s + IntKind.wrap .i64 (x - a.Time)))
  | _ :: _, [], _ => none
def visB (n : Nat) (l : List TSequenceArrival) (t : TWakeTable) (nat : List Int) (most : Int) (s : BestS) (o : List Int) : Option BestS :=
  (g53 n l o t).bind fun r => bif !r.2 then some s else
  (g54 n nat o).bind fun d => bif decide (d > most) then some s else
  r.1.getLast?.bind fun e => (sumT l o r.1 0).bind fun z => match s with
    | none => some (some (o, r.1, e, z))
    | some (b, a, e0, z0) => if e < e0 ∨ (e = e0 ∧ z < z0) then some (some (o, r.1, e, z)) else some s
def ordR {σ : Type} (N : Nat) (vis : σ → List Int → Option σ) : Nat → List Int → σ → Option σ
  | 0, o, s => vis s o
  | k + 1, o, s => (List.range N).foldlM (fun s (i : Nat) => if ((i : Nat) : Int) ∈ o then some s else ordR N vis k (o ++ [((i : Nat) : Int)]) s) s
abbrev ρ29 := List Int × List Int × Int
def g29 (n : Nat) (l : List TSequenceArrival) (t : TWakeTable) (most : Int) : Option ρ29 :=
  (g31 n l).bind fun q => bif q.2 != 0 then some ([], [], q.2) else
  (g36 n t).bind fun e => bif e != 0 then some ([], [], e) else
  bif decide (most < 0) then some ([], [], 4) else bif decide (most > 8) then some ([], [], 4) else
  bif l.length == 0 then some ([], [], 0) else
  if l.length ≤ 8 then (ordR l.length (visB n l t q.1 most) l.length [] none).bind fun s => match s with
    | none => some ([], [], 8)
    | some (o, x, _, _) => some (o, x, 0)
  else none

abbrev ρ8 := (Bool)
def g8 (n : Nat) (a0 : List TSequenceArrival) (a1 : TWakeTable) (a2 : Int) (a3 : Int) : Option ρ8 :=
(g28 n).bind fun x63 =>
bif (!x63) then (
some (false)) else (
bif (decide ((a0.length : Int) > (6))) then (
some (true)) else (
(g15 n a2 (9)).bind fun x65 =>
(g15 n a3 (9)).bind fun x66 =>
(g29 n a0 a1 (if x66 < x65 then x66 else x65)).bind fun x67 =>
(g29 n a0 a1 (if x66 > x65 then x66 else x65)).bind fun x68 =>
bif (x67.2.2 != (0)) then (
some ((IntKind.wrap .i64 ((x67.1.length : Int) + (x67.2.1.length : Int))) == (0))) else (
bif ((a0.length : Int) == (0)) then (
some ((IntKind.wrap .i64 ((x67.1.length : Int) + (x67.2.1.length : Int))) == (0))) else (
(g30 n a0 x67.1).bind fun x76 =>
bif (x68.2.2 != (0)) then (
some (false)) else (
bif (x76.2 != (0)) then (
some (false)) else (
bif (decide (x76.1 > (if x66 < x65 then x66 else x65))) then (
some (false)) else (
bif ((x67.2.1.length : Int) != (a0.length : Int)) then (
some (false)) else (
bif ((x68.2.1.length : Int) != (a0.length : Int)) then (
some (false)) else (
(getI x68.2.1 (IntKind.wrap .i64 ((x68.2.1.length : Int) - (1)))).bind fun x77 =>
(getI x67.2.1 (IntKind.wrap .i64 ((x67.2.1.length : Int) - (1)))).bind fun x78 =>
bif (decide (x77 > x78)) then (
some (false)) else (
(g31 n a0).bind fun x79 =>
(g32 n a0 x79.1 a1).bind fun x84 =>
bif (x79.2 == (0)) then (
bif (x84.2 != (0)) then (
some (true)) else (
bif ((x84.1.length : Int) == (a0.length : Int)) then (
(getI x67.2.1 (IntKind.wrap .i64 ((x67.2.1.length : Int) - (1)))).bind fun x85 =>
(getI x84.1 (IntKind.wrap .i64 ((x84.1.length : Int) - (1)))).bind fun x86 =>
some (decide (x85 ≤ x86))) else (
some (false)))) else (
some (false))))))))))))
abbrev ρ34 := (Bool)
def S34_0 (n : Nat) (a0 : List Int) (a1 : List Int) (c4 : Bool) (c12 : Int) (v13 : Int) : Option ((Int) ⊕ ρ34) :=
bif (decide (v13 < c12)) then (
(getI a0 v13).bind fun x102 =>
(getI a1 v13).bind fun x103 =>
bif (x102 != x103) then (
some (.inr (false))) else (
some (.inl (IntKind.wrap .i64 (v13 + (1)))))) else (
some (.inr (true)))
def g34 (n : Nat) (a0 : List Int) (a1 : List Int) : Option ρ34 :=
bif ((a0.length : Int) != (a1.length : Int)) then (
some (false)) else (
iterO (fun y : Int => S34_0 n a0 a1 false (a0.length : Int) y) n (0))
abbrev ρ9 := (Bool)
def S9_1 (n : Nat) (x88 : Int) (c8 : Bool) (c11 : List Int) (c12 : List Int) (c13 : Int) (c14 : List Int) (c16 : Int) (c100 : Int) (v101 : Int) (L90000 : List Int) : Option ((Int × List Int) ⊕ ρ9) :=
bif (decide (v101 < c100)) then (
(getI L90000 v101).bind fun x100 =>
(getI L90000 v101).bind fun x101 =>
some (.inl ((IntKind.wrap .i64 (v101 + (1))), (L90000.set ((v101 : Int).toNat) (IntKind.wrap .i64 (x100 - x88)))))) else (
bif (c13 == c16) then (
(g34 n c11 c14).bind fun x104 =>
bif x104 then (
(g34 n c12 L90000).bind fun x105 =>
some (.inr (x105))) else (
some (.inr (false)))) else (
some (.inr (false))))
def S9_0 (n : Nat) (a0 : List TSequenceArrival) (a2 : Int) (x88 : Int) (c8 : Bool) (c28 : Int) (k0_0 : Int) (k0_1 : Int) (k0_2 : Int) (k0_3 : Int) (k0_4 : Int) (k0_5 : Int) (k0_6 : Int) (k0_7 : Int) (k0_8 : Int) (k0_9 : Int) (k0_10 : Int) (k0_11 : Int) (k0_12 : Int) (k0_13 : Int) (k0_14 : Int) (k0_15 : Int) (v29 : Int) (L90000 : List TSequenceArrival) : Option ((Int × List TSequenceArrival) ⊕ ρ9) :=
bif (decide (v29 < c28)) then (
(getI L90000 v29).bind fun x90 =>
bif (decide (x90.Time < (0))) then (
some (.inr (true))) else (
(getI L90000 v29).bind fun x91 =>
bif (decide (x91.Time > (200000))) then (
some (.inr (true))) else (
(getI L90000 v29).bind fun x92 =>
bif (decide (x92.Latest < (0))) then (
some (.inr (true))) else (
(getI L90000 v29).bind fun x93 =>
bif (decide (x93.Latest > (IntKind.wrap .i64 ((200000) - x88)))) then (
some (.inr (true))) else (
(getI L90000 v29).bind fun x94 =>
(getI L90000 v29).bind fun x95 =>
(getI (L90000.set ((v29 : Int).toNat) (⟨x95.Call, x95.Wake, (IntKind.wrap .i64 (x94.Time + x88)), x95.Latest⟩ : TSequenceArrival)) v29).bind fun x96 =>
(getI (L90000.set ((v29 : Int).toNat) (⟨x95.Call, x95.Wake, (IntKind.wrap .i64 (x94.Time + x88)), x95.Latest⟩ : TSequenceArrival)) v29).bind fun x97 =>
some (.inl ((IntKind.wrap .i64 (v29 + (1))), ((L90000.set ((v29 : Int).toNat) (⟨x95.Call, x95.Wake, (IntKind.wrap .i64 (x94.Time + x88)), x95.Latest⟩ : TSequenceArrival)).set ((v29 : Int).toNat) (⟨x97.Call, x97.Wake, x97.Time, (IntKind.wrap .i64 (x96.Latest + x88))⟩ : TSequenceArrival))))))))) else (
(g29 n a0 (⟨k0_0, k0_1, k0_2, k0_3, k0_4, k0_5, k0_6, k0_7, k0_8, k0_9, k0_10, k0_11, k0_12, k0_13, k0_14, k0_15⟩ : TWakeTable) a2).bind fun x98 =>
(g29 n L90000 (⟨k0_0, k0_1, k0_2, k0_3, k0_4, k0_5, k0_6, k0_7, k0_8, k0_9, k0_10, k0_11, k0_12, k0_13, k0_14, k0_15⟩ : TWakeTable) a2).bind fun x99 =>
((iterO (fun y : Int × List Int => S9_1 n x88 c8 x98.1 x98.2.1 x98.2.2 x99.1 x99.2.2 (x99.2.1.length : Int) y.1 y.2) n ((0), x99.2.1)).map Sum.inr))
def g9 (n : Nat) (a0 : List TSequenceArrival) (a1 : TWakeTable) (a2 : Int) (a3 : Int) : Option ρ9 :=
(g28 n).bind fun x87 =>
bif (!x87) then (
some (false)) else (
bif (decide ((a0.length : Int) > (6))) then (
some (true)) else (
(g15 n a3 (500)).bind fun x88 =>
(roomO a0.length 40).bind fun x89 =>
iterO (fun y : Int × List TSequenceArrival => S9_0 n a0 a2 x88 false (a0.length : Int) a1.c0_0 a1.c0_1 a1.c0_2 a1.c0_3 a1.c1_0 a1.c1_1 a1.c1_2 a1.c1_3 a1.c2_0 a1.c2_1 a1.c2_2 a1.c2_3 a1.c3_0 a1.c3_1 a1.c3_2 a1.c3_3 y.1 y.2) n ((0), a0)))
end Go.Proofs.Ytfmodgffhbljoaa
