/- Plain functional programs out of the program's functions; printed by wip/Ext.lean.txt. -/
import Derived.Test.YtfhcciepaangiaaX1T
import Derived.Test.YtfhcciepaangiaaPG
set_option linter.unusedVariables false
set_option linter.unusedSimpArgs false
set_option maxRecDepth 100000
namespace Go.Proofs.Ytfhcciepaangiaa
abbrev ρ18 := Bool
def g18 (n : Nat) : Option ρ18 := some true
abbrev ρ48 := (Bool)
def S48_0 (n : Nat) (c2 : Bool) (c14 : List UInt8) (c15 : Int) (v16 : Int) : Option ((Int) ⊕ ρ48) :=
bif (decide (v16 < c15)) then (
(getI c14 v16).bind fun x2 =>
bif (decide ((x2.toNat : Int) ≥ (65))) then (
bif (decide ((x2.toNat : Int) ≤ (90))) then (
some (.inl (IntKind.wrap .i64 (v16 + (1))))) else (
bif (decide (v16 > (0))) then (
bif (decide ((x2.toNat : Int) ≥ (48))) then (
bif (!(decide ((x2.toNat : Int) ≤ (57)))) then (
some (.inr (false))) else (
some (.inl (IntKind.wrap .i64 (v16 + (1)))))) else (
some (.inr (false)))) else (
some (.inr (false))))) else (
bif (decide (v16 > (0))) then (
bif (decide ((x2.toNat : Int) ≥ (48))) then (
bif (!(decide ((x2.toNat : Int) ≤ (57)))) then (
some (.inr (false))) else (
some (.inl (IntKind.wrap .i64 (v16 + (1)))))) else (
some (.inr (false)))) else (
some (.inr (false))))) else (
some (.inr (true)))
def g48 (n : Nat) (a0 : ByteArray) : Option ρ48 :=
bif (decide ((a0.size : Int) < (1))) then (
some (false)) else (
bif (decide ((a0.size : Int) > (8))) then (
some (false)) else (
(roomO a0.size 1).bind fun x1 =>
iterO (fun y : Int => S48_0 n false (a0.data.toList) ((a0.data.toList).length : Int) y) n (0)))
abbrev ρ34 := (Bool)
def g34 (n : Nat) (a0 : ByteArray) : Option ρ34 :=
(g48 n a0).bind fun x3 =>
some (x3)
abbrev ρ50 := (Bool)
def g50 (n : Nat) (a0 : TSlotDemand) (a1_0 : ByteArray) (a1_1 : Int) : Option ρ50 :=
some ((a0.Call).toList == (a1_0).toList)
abbrev ρ54 := (Int)
def S54_0 (n : Nat) (a0 : List TSlotDemand) (a1_0_0 : ByteArray) (a1_0_1 : Int) (c4 : Int) (c7 : Int) (v8 : Int) : Option ((Int) ⊕ ρ54) :=
bif (decide (v8 < c7)) then (
(getI a0 v8).bind fun x8 =>
(g50 n x8 a1_0_0 a1_0_1).bind fun x9 =>
bif x9 then (
some (.inr (v8))) else (
some (.inl (IntKind.wrap .i64 (v8 + (1)))))) else (
some (.inr (-1)))
def g54 (n : Nat) (a0 : List TSlotDemand) (a1_0_0 : ByteArray) (a1_0_1 : Int) : Option ρ54 :=
iterO (fun y : Int => S54_0 n a0 a1_0_0 a1_0_1 (0) (a0.length : Int) y) n (0)
abbrev ρ49 := (Bool)
def g49 (n : Nat) (a0 : List TSlotDemand) (a1_0_0 : ByteArray) (a1_0_1 : Int) : Option ρ49 :=
(g54 n a0 a1_0_0 a1_0_1).bind fun x10 =>
some (decide (x10 ≥ (0)))
abbrev ρ35 := (Int)
def S35_0 (n : Nat) (a0 : List TSlotDemand) (c2 : Int) (c9 : Int) (v10 : Int) : Option ((Int) ⊕ ρ35) :=
bif (decide (v10 < c9)) then (
(getI a0 v10).bind fun x5 =>
(g34 n x5.Call).bind fun x6 =>
bif (!x6) then (
some (.inr (3))) else (
bif (decide (x5.Time < (0))) then (
some (.inr (12))) else (
bif (decide (x5.Time > (200000))) then (
some (.inr (12))) else (
(sliceO a0 none (some v10)).bind fun x7 =>
(g49 n x7 x5.Call x5.Time).bind fun x11 =>
bif x11 then (
some (.inr (7))) else (
some (.inl (IntKind.wrap .i64 (v10 + (1))))))))) else (
some (.inr (0)))
def g35 (n : Nat) (a0 : List TSlotDemand) : Option ρ35 :=
bif (decide ((a0.length : Int) > (24))) then (
some (2)) else (
iterO (fun y : Int => S35_0 n a0 (0) (a0.length : Int) y) n (0))
abbrev ρ10 := (Int)
def S10_0 (n : Nat) (a0 : List TFlowCap) (c2 : Int) (c9 : Int) (v10 : Int) : Option ((Int) ⊕ ρ10) :=
bif (decide (v10 < c9)) then (
(getI a0 v10).bind fun x13 =>
bif (decide (x13.Span_From < (0))) then (
some (.inr (4))) else (
bif (decide (x13.Span_To > (200000))) then (
some (.inr (4))) else (
bif (decide (x13.Span_From ≥ x13.Span_To)) then (
some (.inr (4))) else (
bif (decide (x13.Many < (0))) then (
some (.inr (4))) else (
bif (decide (x13.Many > (24))) then (
some (.inr (4))) else (
bif (decide (v10 > (0))) then (
(getI a0 (IntKind.wrap .i64 (v10 - (1)))).bind fun x14 =>
bif (decide (x13.Span_From < x14.Span_To)) then (
some (.inr (12))) else (
some (.inl (IntKind.wrap .i64 (v10 + (1)))))) else (
some (.inl (IntKind.wrap .i64 (v10 + (1))))))))))) else (
some (.inr (0)))
def g10 (n : Nat) (a0 : List TFlowCap) : Option ρ10 :=
bif (decide ((a0.length : Int) > (256))) then (
some (2)) else (
iterO (fun y : Int => S10_0 n a0 (0) (a0.length : Int) y) n (0))
abbrev ρ53 := (Bool)
def g53 (n : Nat) (a0 : ByteArray) : Option ρ53 :=
some (!((a0).toList == (a0).toList))
abbrev ρ39 := (Int)
def g39 (n : Nat) (a0 : ByteArray) (a1 : ByteArray) : Option ρ39 :=
(g53 n a0).bind fun x17 =>
(g53 n a1).bind fun x18 =>
bif x17 then (
bif x18 then (
some (0)) else (
some (-1))) else (
bif x18 then (
some (1)) else (
bif (Op.bytesLess (a0).toList (a1).toList) then (
some (-1)) else (
bif (!(Op.bytesLess (a0).toList (a1).toList || (a0).toList == (a1).toList)) then (
some (1)) else (
some (0)))))
abbrev ρ38 := (Int)
def S38_0 (n : Nat) (c2 : Int) (a0 : List Int) (c7 : Int) (v8 : Int) : Option ((Int) ⊕ ρ38) :=
bif (decide (v8 < c7)) then (
(getI a0 v8).bind fun x20 =>
bif (x20 != c2) then (
some (.inr (x20))) else (
some (.inl (IntKind.wrap .i64 (v8 + (1)))))) else (
some (.inr (c2)))
def g38 (n : Nat) (a0 : List Int) : Option ρ38 :=
iterO (fun y : Int => S38_0 n (0) a0 (a0.length : Int) y) n (0)
abbrev ρ37 := (Int)
def g37 (n : Nat) (a0 : TSlotDemand) (a1 : TSlotDemand) : Option ρ37 :=
(g39 n a0.Call a1.Call).bind fun x19 =>
(g38 n ([(IntKind.wrap .i64 (a0.Time - a1.Time)), x19] : List Int)).bind fun x21 =>
some (x21)
abbrev ρ41 := (Bool)
def g41 (n : Nat) (a0 : TFlowCap) (a1_0 : ByteArray) (a1_1 : Int) : Option ρ41 :=
some (decide (a0.Span_To > a1_1))
abbrev ρ40 := (Int)
def S40_0 (n : Nat) (a0 : List TFlowCap) (a1_0_0 : ByteArray) (a1_0_1 : Int) (c4 : Int) (c7 : Int) (v8 : Int) : Option ((Int) ⊕ ρ40) :=
bif (decide (v8 < c7)) then (
(getI a0 v8).bind fun x25 =>
(g41 n x25 a1_0_0 a1_0_1).bind fun x26 =>
bif x26 then (
some (.inr (v8))) else (
some (.inl (IntKind.wrap .i64 (v8 + (1)))))) else (
some (.inr (-1)))
def g40 (n : Nat) (a0 : List TFlowCap) (a1_0_0 : ByteArray) (a1_0_1 : Int) : Option ρ40 :=
iterO (fun y : Int => S40_0 n a0 a1_0_0 a1_0_1 (0) (a0.length : Int) y) n (0)
abbrev ρ19 := ((List TSlot) × Int)
def S19_0_0 (n : Nat) (a0 : ByteArray) (a2 : List TFlowCap) (c7 : Int) (x22 : List TSlotDemand) (c37 : Int) (v38 : Int) (k100003_0 : ByteArray) (k100003_1 : Int) (w15 : Int) (L90000 : List Int) (L90001 : List TSlot) : Option ((Int × List Int × List TSlot) ⊕ ((Int × List Int × List TSlot) ⊕ ρ19)) :=
bif (decide (w15 ≥ (0))) then (
bif (decide (w15 < (a2.length : Int))) then (
(getI L90000 w15).bind fun x28 =>
(getI a2 w15).bind fun x29 =>
bif (decide (x28 ≥ x29.Many)) then (
some (.inl ((IntKind.wrap .i64 (w15 + (1))), L90000, L90001))) else (
bif (decide (w15 < (0))) then (
some (.inr (.inr ([], (18))))) else (
bif (w15 == (a2.length : Int)) then (
some (.inr (.inr ([], (18))))) else (
(getI L90000 w15).bind fun x30 =>
(getI L90000 w15).bind fun x31 =>
(getI a2 w15).bind fun x32 =>
(roomO (L90001.length + ([(⟨k100003_0, a0, (if x32.Span_From > k100003_1 then x32.Span_From else k100003_1)⟩ : TSlot)] : List TSlot).length) 40).bind fun x33 =>
some (.inr (.inl ((IntKind.wrap .i64 (v38 + (1))), (L90000.set ((w15 : Int).toNat) (IntKind.wrap .i64 (x30 + (1)))), (L90001 ++ ([(⟨k100003_0, a0, (if x32.Span_From > k100003_1 then x32.Span_From else k100003_1)⟩ : TSlot)] : List TSlot))))))))) else (
bif (decide (w15 < (0))) then (
some (.inr (.inr ([], (18))))) else (
bif (w15 == (a2.length : Int)) then (
some (.inr (.inr ([], (18))))) else (
(getI L90000 w15).bind fun x34 =>
(getI L90000 w15).bind fun x35 =>
(getI a2 w15).bind fun x36 =>
(roomO (L90001.length + ([(⟨k100003_0, a0, (if x36.Span_From > k100003_1 then x36.Span_From else k100003_1)⟩ : TSlot)] : List TSlot).length) 40).bind fun x37 =>
some (.inr (.inl ((IntKind.wrap .i64 (v38 + (1))), (L90000.set ((w15 : Int).toNat) (IntKind.wrap .i64 (x34 + (1)))), (L90001 ++ ([(⟨k100003_0, a0, (if x36.Span_From > k100003_1 then x36.Span_From else k100003_1)⟩ : TSlot)] : List TSlot))))))))) else (
bif (decide (w15 < (0))) then (
some (.inr (.inr ([], (18))))) else (
bif (w15 == (a2.length : Int)) then (
some (.inr (.inr ([], (18))))) else (
(getI L90000 w15).bind fun x38 =>
(getI L90000 w15).bind fun x39 =>
(getI a2 w15).bind fun x40 =>
(roomO (L90001.length + ([(⟨k100003_0, a0, (if x40.Span_From > k100003_1 then x40.Span_From else k100003_1)⟩ : TSlot)] : List TSlot).length) 40).bind fun x41 =>
some (.inr (.inl ((IntKind.wrap .i64 (v38 + (1))), (L90000.set ((w15 : Int).toNat) (IntKind.wrap .i64 (x38 + (1)))), (L90001 ++ ([(⟨k100003_0, a0, (if x40.Span_From > k100003_1 then x40.Span_From else k100003_1)⟩ : TSlot)] : List TSlot))))))))
def S19_0 (n : Nat) (a0 : ByteArray) (a2 : List TFlowCap) (c7 : Int) (x22 : List TSlotDemand) (c37 : Int) (v38 : Int) (L90000 : List Int) (L90001 : List TSlot) : Option ((Int × List Int × List TSlot) ⊕ ρ19) :=
bif (decide (v38 < c37)) then (
(getI x22 v38).bind fun x24 =>
(g40 n a2 x24.Call x24.Time).bind fun x27 =>
iterO (fun y : Int × List Int × List TSlot => S19_0_0 n a0 a2 c7 x22 c37 v38 x24.Call x24.Time y.1 y.2.1 y.2.2) n (x27, L90000, L90001)) else (
some (.inr (L90001, (0))))
def g19 (n : Nat) (a0 : ByteArray) (a1 : List TSlotDemand) (a2 : List TFlowCap) : Option ρ19 :=
(g34 n a0).bind fun x4 =>
bif (!x4) then (
some ([], (3))) else (
(g35 n a1).bind fun x12 =>
bif (x12 != (0)) then (
some ([], x12)) else (
(g10 n a2).bind fun x15 =>
bif (x15 != (0)) then (
some ([], x15)) else (
(roomO a1.length 24).bind fun x16 =>
(sortO (fun x y => g37 n x y) a1).bind fun x22 =>
(makeO (a2.length : Int) 8).bind fun x23 =>
iterO (fun y : Int × List Int × List TSlot => S19_0 n a0 a2 (0) x22 (x22.length : Int) y.1 y.2.1 y.2.2) n ((0), (List.replicate x23 (0)), []))))
abbrev ρ20 := (Int)
def g20 (n : Nat) (a0 : Int) (a1 : Int) : Option ρ20 :=
(modO (IntKind.wrap .u64 a0) (IntKind.wrap .u64 a1)).bind fun x66 =>
some (IntKind.wrap .i64 x66)
abbrev ρ22 := (Bool)
def S22_0 (n : Nat) (a0 : List TSlot) (a1 : List TSlot) (c4 : Bool) (c12 : Int) (v13 : Int) : Option ((Int) ⊕ ρ22) :=
bif (decide (v13 < c12)) then (
(getI a0 v13).bind fun x72 =>
(getI a1 v13).bind fun x73 =>
bif (!(decide (x72 = x73))) then (
some (.inr (false))) else (
some (.inl (IntKind.wrap .i64 (v13 + (1)))))) else (
some (.inr (true)))
def g22 (n : Nat) (a0 : List TSlot) (a1 : List TSlot) : Option ρ22 :=
bif ((a0.length : Int) != (a1.length : Int)) then (
some (false)) else (
iterO (fun y : Int => S22_0 n a0 a1 false (a0.length : Int) y) n (0))
abbrev ρ5 := (Bool)
def S5_0 (n : Nat) (a0 : List TSlotDemand) (a1 : List TFlowCap) (a2 : Int) (c6 : Bool) (c7 : List TSlot) (c31 : Int) (v9 : Int) (v32 : Int) : Option ((Int × Int) ⊕ ρ5) :=
bif (decide (v32 < c31)) then (
(getI a0 v32).bind fun x65 =>
bif (!(Op.bytesLess (x65.Call).toList ((⟨#[90, 90, 90, 90]⟩ : ByteArray)).toList)) then (
some (.inr (true))) else (
some (.inl ((if x65.Time > v9 then x65.Time else v9), (IntKind.wrap .i64 (v32 + (1))))))) else (
(g20 n a2 (50)).bind fun x67 =>
(roomO a0.length 24).bind fun x68 =>
(roomO (a0.length + ([(⟨(⟨#[90, 90, 90, 90]⟩ : ByteArray), (if (IntKind.wrap .i64 (v9 + x67)) < (200000) then (IntKind.wrap .i64 (v9 + x67)) else (200000))⟩ : TSlotDemand)] : List TSlotDemand).length) 24).bind fun x69 =>
(g19 n (⟨#[82, 87, 89]⟩ : ByteArray) (a0 ++ ([(⟨(⟨#[90, 90, 90, 90]⟩ : ByteArray), (if (IntKind.wrap .i64 (v9 + x67)) < (200000) then (IntKind.wrap .i64 (v9 + x67)) else (200000))⟩ : TSlotDemand)] : List TSlotDemand)) a1).bind fun x70 =>
bif (x70.2 == (18)) then (
bif ((x70.1.length : Int) == (0)) then (
some (.inr (true))) else (
bif (x70.2 == (0)) then (
bif ((x70.1.length : Int) == (IntKind.wrap .i64 ((c7.length : Int) + (1)))) then (
(sliceO x70.1 none (some (c7.length : Int))).bind fun x71 =>
(g22 n x71 c7).bind fun x74 =>
some (.inr (x74))) else (
some (.inr (false)))) else (
some (.inr (false))))) else (
bif (x70.2 == (0)) then (
bif ((x70.1.length : Int) == (IntKind.wrap .i64 ((c7.length : Int) + (1)))) then (
(sliceO x70.1 none (some (c7.length : Int))).bind fun x75 =>
(g22 n x75 c7).bind fun x76 =>
some (.inr (x76))) else (
some (.inr (false)))) else (
some (.inr (false)))))
def g5 (n : Nat) (a0 : List TSlotDemand) (a1 : List TFlowCap) (a2 : Int) : Option ρ5 :=
(g18 n).bind fun x0 =>
bif (!x0) then (
some (false)) else (
(g19 n (⟨#[82, 87, 89]⟩ : ByteArray) a0 a1).bind fun x42 =>
bif (x42.2 != (0)) then (
some (true)) else (
bif (decide ((a0.length : Int) ≥ (24))) then (
some (true)) else (
iterO (fun y : Int × Int => S5_0 n a0 a1 a2 false x42.1 (a0.length : Int) y.1 y.2) n ((0), (0)))))
abbrev ρ43 := (Bool)
def g43 (n : Nat) (a0 : TSlotDemand) (a1_0 : ByteArray) : Option ρ43 :=
some ((a0.Call).toList == (a1_0).toList)
def S54_0_x1 (n : Nat) (a0 : List TSlotDemand) (a1_0_0 : ByteArray) (c4 : Int) (c7 : Int) (v8 : Int) : Option ((Int) ⊕ ρ54) :=
bif (decide (v8 < c7)) then (
(getI a0 v8).bind fun x83 =>
(g43 n x83 a1_0_0).bind fun x84 =>
bif x84 then (
some (.inr (v8))) else (
some (.inl (IntKind.wrap .i64 (v8 + (1)))))) else (
some (.inr (-1)))
def g54_1 (n : Nat) (a0 : List TSlotDemand) (a1_0_0 : ByteArray) : Option ρ54 :=
iterO (fun y : Int => S54_0_x1 n a0 a1_0_0 (0) (a0.length : Int) y) n (0)
abbrev ρ42 := ((List TSlotDemand))
def S42m_0 (n : Nat) (a1_0_0 : ByteArray) (v5 : Int) (v6 : Int) (L90000 : List TSlotDemand) : Option ((Int × Int × List TSlotDemand) ⊕ ρ42) :=
bif (decide (v6 < (L90000.length : Int))) then (
(getI L90000 v6).bind fun x86 =>
(g43 n x86 a1_0_0).bind fun x87 =>
bif (!x87) then (
(getI L90000 v5).bind fun x88 =>
some (.inl ((IntKind.wrap .i64 (v5 + (1))), (IntKind.wrap .i64 (v6 + (1))), (L90000.set ((v5 : Int).toNat) x86)))) else (
some (.inl (v5, (IntKind.wrap .i64 (v6 + (1))), L90000)))) else (
(sliceO L90000 (some v5) none).bind fun x89 =>
(neO x89).bind fun x90 =>
(sliceO (clrL ((⟨(⟨#[]⟩ : ByteArray), (0)⟩ : TSlotDemand) : TSlotDemand) L90000 x89 ((v5 : Int).toNat)) none (some v5)).bind fun x91 =>
some (.inr x91))
def g42 (n : Nat) (a0 : List TSlotDemand) (a1_0_0 : ByteArray) : Option ρ42 :=
(g54_1 n a0 a1_0_0).bind fun x85 =>
bif (x85 == (-1)) then (
some a0) else (
iterO (fun y : Int × Int × List TSlotDemand => S42m_0 n a1_0_0 y.1 y.2.1 y.2.2) n (x85, (IntKind.wrap .i64 (x85 + (1))), a0))
abbrev ρ23 := ((List TSlot) × Int)
def g23 (n : Nat) (a0 : ByteArray) (a1 : ByteArray) (a2 : List TSlotDemand) (a3 : List TFlowCap) : Option ρ23 :=
(g19 n a0 a2 a3).bind fun x81 =>
bif (x81.2 != (0)) then (
some ([], x81.2)) else (
(roomO a2.length 24).bind fun x82 =>
(neO a2).bind fun x92 =>
(g42 n a2 a1).bind fun x93 =>
bif ((x93.length : Int) == (a2.length : Int)) then (
some ([], (8))) else (
(g19 n a0 x93 a3).bind fun x94 =>
some (x94.1, x94.2)))
abbrev ρ25 := (Bool)
def g25 (n : Nat) (a0 : TSlot) (a1_0 : ByteArray) (a1_1 : ByteArray) (a1_2 : Int) : Option ρ25 :=
some ((a0.Call).toList == (a1_0).toList)
abbrev ρ24 := (Int)
def S24_0 (n : Nat) (a0 : List TSlot) (a1_0_0 : ByteArray) (a1_0_1 : ByteArray) (a1_0_2 : Int) (c4 : Int) (c7 : Int) (v8 : Int) : Option ((Int) ⊕ ρ24) :=
bif (decide (v8 < c7)) then (
(getI a0 v8).bind fun x102 =>
(g25 n x102 a1_0_0 a1_0_1 a1_0_2).bind fun x103 =>
bif x103 then (
some (.inr (v8))) else (
some (.inl (IntKind.wrap .i64 (v8 + (1)))))) else (
some (.inr (-1)))
def g24 (n : Nat) (a0 : List TSlot) (a1_0_0 : ByteArray) (a1_0_1 : ByteArray) (a1_0_2 : Int) : Option ρ24 :=
iterO (fun y : Int => S24_0 n a0 a1_0_0 a1_0_1 a1_0_2 (0) (a0.length : Int) y) n (0)
abbrev ρ6 := (Bool)
def S6_0 (n : Nat) (c6 : Bool) (c7 : List TSlot) (c9 : ByteArray) (c57 : List TSlot) (c58 : Int) (v59 : Int) : Option ((Int) ⊕ ρ6) :=
bif (decide (v59 < c58)) then (
(getI c57 v59).bind fun x101 =>
(g24 n c7 x101.Call x101.Place x101.Time).bind fun x104 =>
bif (decide (x104 < (0))) then (
some (.inr (false))) else (
bif ((x101.Call).toList == (c9).toList) then (
some (.inr (false))) else (
(getI c7 x104).bind fun x105 =>
bif (decide (x101.Time > x105.Time)) then (
some (.inr (false))) else (
some (.inl (IntKind.wrap .i64 (v59 + (1)))))))) else (
some (.inr (true)))
def g6 (n : Nat) (a0 : List TSlotDemand) (a1 : List TFlowCap) (a2 : Int) : Option ρ6 :=
(g18 n).bind fun x77 =>
bif (!x77) then (
some (false)) else (
(g19 n (⟨#[82, 87, 89]⟩ : ByteArray) a0 a1).bind fun x78 =>
bif (x78.2 != (0)) then (
some ((x78.1.length : Int) == (0))) else (
bif ((a0.length : Int) == (0)) then (
some ((x78.1.length : Int) == (0))) else (
(g20 n a2 (a0.length : Int)).bind fun x79 =>
(getI a0 x79).bind fun x80 =>
(g23 n (⟨#[82, 87, 89]⟩ : ByteArray) x80.Call a0 a1).bind fun x95 =>
bif (x95.2 != (0)) then (
some (false)) else (
bif ((x95.1.length : Int) != (IntKind.wrap .i64 ((a0.length : Int) - (1)))) then (
some (false)) else (
iterO (fun y : Int => S6_0 n false x78.1 x80.Call x95.1 (x95.1.length : Int) y) n (0))))))
abbrev ρ55 := (Bool)
def g55 (n : Nat) (a0 : TSlot) (a1_0 : ByteArray) : Option ρ55 :=
some ((a0.Call).toList == (a1_0).toList)
def S24_0_x1 (n : Nat) (a0 : List TSlot) (a1_0_0 : ByteArray) (c4 : Int) (c7 : Int) (v8 : Int) : Option ((Int) ⊕ ρ24) :=
bif (decide (v8 < c7)) then (
(getI a0 v8).bind fun x114 =>
(g55 n x114 a1_0_0).bind fun x115 =>
bif x115 then (
some (.inr (v8))) else (
some (.inl (IntKind.wrap .i64 (v8 + (1)))))) else (
some (.inr (-1)))
def g24_1 (n : Nat) (a0 : List TSlot) (a1_0_0 : ByteArray) : Option ρ24 :=
iterO (fun y : Int => S24_0_x1 n a0 a1_0_0 (0) (a0.length : Int) y) n (0)
abbrev ρ44 := (Int)
def g44 (n : Nat) (a0 : List TSlot) (a1 : ByteArray) : Option ρ44 :=
(g24_1 n a0 a1).bind fun x116 =>
some (x116)
abbrev ρ27 := ((List Int) × Int)
def S27_0 (n : Nat) (a1 : List TSlot) (c5 : Int) (a0 : List TSlotDemand) (c20 : Int) (v21 : Int) (L90000 : List Int) : Option ((Int × List Int) ⊕ ρ27) :=
bif (decide (v21 < c20)) then (
(getI a0 v21).bind fun x113 =>
(g44 n a1 x113.Call).bind fun x117 =>
bif (decide (x117 < (0))) then (
some (.inr ([], (8)))) else (
(getI a1 x117).bind fun x118 =>
bif (decide (x118.Time < x113.Time)) then (
some (.inr ([], (12)))) else (
(getI a1 x117).bind fun x119 =>
bif (decide (x119.Time > (200000))) then (
some (.inr ([], (12)))) else (
(getI a1 x117).bind fun x120 =>
(roomO (L90000.length + ([(IntKind.wrap .i64 (x120.Time - x113.Time))] : List Int).length) 8).bind fun x121 =>
some (.inl ((IntKind.wrap .i64 (v21 + (1))), (L90000 ++ ([(IntKind.wrap .i64 (x120.Time - x113.Time))] : List Int)))))))) else (
some (.inr (L90000, (0))))
def g27 (n : Nat) (a0 : List TSlotDemand) (a1 : List TSlot) : Option ρ27 :=
(g35 n a0).bind fun x112 =>
bif (x112 != (0)) then (
some ([], x112)) else (
bif (decide ((a1.length : Int) > (24))) then (
some ([], (2))) else (
iterO (fun y : Int × List Int => S27_0 n a1 (0) a0 (a0.length : Int) y.1 y.2) n ((0), [])))
abbrev ρ26 := ((List TSlot) × Int)
def g26 (n : Nat) (a0 : List TSlotDemand) (a1 : List TSlot) (a2 : ByteArray) (a3 : ByteArray) : Option ρ26 :=
(g27 n a0 a1).bind fun x122 =>
bif (x122.2 != (0)) then (
some ([], x122.2)) else (
(g44 n a1 a2).bind fun x130 =>
(g44 n a1 a3).bind fun x131 =>
bif (decide (x130 < (0))) then (
some ([], (8))) else (
bif (decide (x131 < (0))) then (
some ([], (8))) else (
(roomO a1.length 40).bind fun x132 =>
(getI a1 x131).bind fun x133 =>
(getI a1 x130).bind fun x134 =>
(getI a1 x130).bind fun x135 =>
(getI (a1.set ((x130 : Int).toNat) (⟨x135.Call, x135.Place, x133.Time⟩ : TSlot)) x131).bind fun x136 =>
(g27 n a0 ((a1.set ((x130 : Int).toNat) (⟨x135.Call, x135.Place, x133.Time⟩ : TSlot)).set ((x131 : Int).toNat) (⟨x136.Call, x136.Place, x134.Time⟩ : TSlot))).bind fun x137 =>
bif (x137.2 != (0)) then (
some ([], (12))) else (
some (((a1.set ((x130 : Int).toNat) (⟨x135.Call, x135.Place, x133.Time⟩ : TSlot)).set ((x131 : Int).toNat) (⟨x136.Call, x136.Place, x134.Time⟩ : TSlot)), (0))))))
abbrev ρ7 := (Bool)
def S7_0 (n : Nat) (c8 : Bool) (c9 : List TSlot) (c14 : List TSlot) (c15 : Int) (c16 : List Int) (c17 : Int) (c18 : List Int) (c19 : Int) (c102 : Int) (v20 : Int) (v103 : Int) : Option ((Int × Int) ⊕ ρ7) :=
bif (decide (v103 < c102)) then (
(getI c16 v103).bind fun x151 =>
(getI c18 v103).bind fun x152 =>
some (.inl ((IntKind.wrap .i64 (v20 + (IntKind.wrap .i64 (x151 - x152)))), (IntKind.wrap .i64 (v103 + (1)))))) else (
bif (c15 == (0)) then (
bif (c17 == (0)) then (
bif (c19 == (0)) then (
(g22 n c14 c9).bind fun x153 =>
bif x153 then (
bif (v20 == (0)) then (
some (.inr ((c16.length : Int) == (c18.length : Int)))) else (
some (.inr (false)))) else (
some (.inr (false)))) else (
some (.inr (false)))) else (
some (.inr (false)))) else (
some (.inr (false))))
def g7 (n : Nat) (a0 : List TSlotDemand) (a1 : List TFlowCap) (a2 : Int) (a3 : Int) : Option ρ7 :=
(g18 n).bind fun x106 =>
bif (!x106) then (
some (false)) else (
(g19 n (⟨#[82, 87, 89]⟩ : ByteArray) a0 a1).bind fun x107 =>
bif (x107.2 != (0)) then (
some ((x107.1.length : Int) == (0))) else (
bif ((a0.length : Int) == (0)) then (
some ((x107.1.length : Int) == (0))) else (
(g20 n a2 (a0.length : Int)).bind fun x108 =>
(getI a0 x108).bind fun x109 =>
(g20 n a3 (a0.length : Int)).bind fun x110 =>
(getI a0 x110).bind fun x111 =>
(g26 n a0 x107.1 x109.Call x111.Call).bind fun x138 =>
bif (x138.2 != (0)) then (
bif ((x138.1.length : Int) == (0)) then (
bif (x138.2 == (12)) then (
some (!((x109.Call).toList == (x111.Call).toList))) else (
some (false))) else (
some (false))) else (
(g26 n a0 x138.1 x109.Call x111.Call).bind fun x148 =>
(g27 n a0 x107.1).bind fun x149 =>
(g27 n a0 x138.1).bind fun x150 =>
iterO (fun y : Int × Int => S7_0 n false x107.1 x148.1 x148.2 x149.1 x149.2 x150.1 x150.2 (if (x150.1.length : Int) < (x149.1.length : Int) then (x150.1.length : Int) else (x149.1.length : Int)) y.1 y.2) n ((0), (0))))))
abbrev ρ47 := (Bool)
def g47 (n : Nat) (a0 : TFlowCap) (a1_0 : Int) : Option ρ47 :=
bif (decide (a1_0 ≥ a0.Span_From)) then (
some (decide (a1_0 < a0.Span_To))) else (
some (false))
def S40_0_x1 (n : Nat) (a0 : List TFlowCap) (a1_0_0 : Int) (c4 : Int) (c7 : Int) (v8 : Int) : Option ((Int) ⊕ ρ40) :=
bif (decide (v8 < c7)) then (
(getI a0 v8).bind fun x162 =>
(g47 n x162 a1_0_0).bind fun x163 =>
bif x163 then (
some (.inr (v8))) else (
some (.inl (IntKind.wrap .i64 (v8 + (1)))))) else (
some (.inr (-1)))
def g40_1 (n : Nat) (a0 : List TFlowCap) (a1_0_0 : Int) : Option ρ40 :=
iterO (fun y : Int => S40_0_x1 n a0 a1_0_0 (0) (a0.length : Int) y) n (0)
abbrev ρ33 := (Int)
def g33 (n : Nat) (a0 : List TFlowCap) (a1 : Int) : Option ρ33 :=
(g40_1 n a0 a1).bind fun x164 =>
some (x164)
abbrev ρ16 := ((List Int) × Int × Int)
def S16_0 (n : Nat) (a0 : List TFlowCap) (c5 : Int) (a1 : List Int) (c25 : Int) (v9 : Int) (v26 : Int) (L90000 : List Int) : Option ((Int × Int × List Int) ⊕ ρ16) :=
bif (decide (v26 < c25)) then (
(getI a1 v26).bind fun x161 =>
bif (decide (x161 < (0))) then (
some (.inr ([], (0), (12)))) else (
bif (decide (x161 > (200000))) then (
some (.inr ([], (0), (12)))) else (
(g33 n a0 x161).bind fun x165 =>
bif (decide (x165 ≥ (0))) then (
(getI L90000 x165).bind fun x166 =>
(getI L90000 x165).bind fun x167 =>
some (.inl (v9, (IntKind.wrap .i64 (v26 + (1))), (L90000.set ((x165 : Int).toNat) (IntKind.wrap .i64 (x166 + (1))))))) else (
some (.inl ((IntKind.wrap .i64 (v9 + (1))), (IntKind.wrap .i64 (v26 + (1))), L90000)))))) else (
some (.inr (L90000, v9, (0))))
def g16 (n : Nat) (a0 : List TFlowCap) (a1 : List Int) : Option ρ16 :=
(g10 n a0).bind fun x159 =>
bif (x159 != (0)) then (
some ([], (0), x159)) else (
bif (decide ((a1.length : Int) > (256))) then (
some ([], (0), (2))) else (
(makeO (a0.length : Int) 8).bind fun x160 =>
iterO (fun y : Int × Int × List Int => S16_0 n a0 (0) a1 (a1.length : Int) y.1 y.2.1 y.2.2) n ((0), (0), (List.replicate x160 (0)))))
abbrev ρ12 := ((List Int) × Int)
def S12_0 (n : Nat) (c5 : Int) (c6 : List Int) (a0 : List TFlowCap) (c23 : Int) (v24 : Int) (L90000 : List Int) : Option ((Int × List Int) ⊕ ρ12) :=
bif (decide (v24 < c23)) then (
(getI a0 v24).bind fun x175 =>
(getI c6 v24).bind fun x176 =>
bif (decide (x176 > x175.Many)) then (
(roomO (L90000.length + ([v24] : List Int).length) 8).bind fun x177 =>
some (.inl ((IntKind.wrap .i64 (v24 + (1))), (L90000 ++ ([v24] : List Int))))) else (
some (.inl ((IntKind.wrap .i64 (v24 + (1))), L90000)))) else (
some (.inr (L90000, (0))))
def g12 (n : Nat) (a0 : List TFlowCap) (a1 : List Int) : Option ρ12 :=
(g16 n a0 a1).bind fun x168 =>
bif (x168.2.2 != (0)) then (
some ([], x168.2.2)) else (
iterO (fun y : Int × List Int => S12_0 n (0) x168.1 a0 (a0.length : Int) y.1 y.2) n ((0), []))
abbrev ρ29 := (Bool)
def g29 (n : Nat) (a0 : Int) : Option ρ29 :=
some (decide (a0 < (0)))
abbrev ρ46 := (Int)
def S46_0 (n : Nat) (a0 : List Int) (c4 : Int) (c7 : Int) (v8 : Int) : Option ((Int) ⊕ ρ46) :=
bif (decide (v8 < c7)) then (
(getI a0 v8).bind fun x184 =>
(g29 n x184).bind fun x185 =>
bif x185 then (
some (.inr (v8))) else (
some (.inl (IntKind.wrap .i64 (v8 + (1)))))) else (
some (.inr (-1)))
def g46 (n : Nat) (a0 : List Int) : Option ρ46 :=
iterO (fun y : Int => S46_0 n a0 (0) (a0.length : Int) y) n (0)
abbrev ρ28 := (Bool)
def g28 (n : Nat) (a0 : List Int) : Option ρ28 :=
(g46 n a0).bind fun x186 =>
some (decide (x186 ≥ (0)))
abbrev ρ8 := (Bool)
def S8_0 (n : Nat) (a0 : List TSlotDemand) (a1 : List TFlowCap) (c4 : Bool) (c5 : List TSlot) (c6 : Int) (c7 : List Int) (c36 : Int) (v37 : Int) (L90000 : List Int) : Option ((Int × List Int) ⊕ ρ8) :=
bif (decide (v37 < c36)) then (
(getI c5 v37).bind fun x157 =>
(roomO (L90000.length + ([x157.Time] : List Int).length) 8).bind fun x158 =>
some (.inl ((IntKind.wrap .i64 (v37 + (1))), (L90000 ++ ([x157.Time] : List Int))))) else (
(g12 n a1 L90000).bind fun x178 =>
(g16 n a1 L90000).bind fun x183 =>
bif (c6 == (0)) then (
bif (x178.2 == (0)) then (
bif (x183.2.2 == (0)) then (
bif ((x178.1.length : Int) == (0)) then (
bif (x183.2.1 == (0)) then (
bif ((c5.length : Int) == (a0.length : Int)) then (
(g28 n c7).bind fun x187 =>
some (.inr (!x187))) else (
some (.inr (false)))) else (
some (.inr (false)))) else (
some (.inr (false)))) else (
some (.inr (false)))) else (
some (.inr (false)))) else (
some (.inr (false))))
def g8 (n : Nat) (a0 : List TSlotDemand) (a1 : List TFlowCap) : Option ρ8 :=
(g18 n).bind fun x154 =>
bif (!x154) then (
some (false)) else (
(g19 n (⟨#[82, 87, 89]⟩ : ByteArray) a0 a1).bind fun x155 =>
bif (x155.2 != (0)) then (
some ((x155.1.length : Int) == (0))) else (
(g27 n a0 x155.1).bind fun x156 =>
iterO (fun y : Int × List Int => S8_0 n a0 a1 false x155.1 x156.2 x156.1 (x155.1.length : Int) y.1 y.2) n ((0), [])))
end Go.Proofs.Ytfhcciepaangiaa
