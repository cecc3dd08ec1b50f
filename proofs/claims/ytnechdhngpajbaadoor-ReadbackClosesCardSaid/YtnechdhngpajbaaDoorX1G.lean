/- Plain functional programs out of the program's functions; printed by wip/Ext.lean.txt. -/
import Derived.Test.YtnechdhngpajbaaDoorX1T
import Derived.Test.YtnechdhngpajbaaDoorPG
set_option linter.unusedVariables false
set_option linter.unusedSimpArgs false
set_option maxRecDepth 100000
namespace Go.Proofs.YtnechdhngpajbaaDoor
abbrev ρ8 := Bool
def g8 (n : Nat) : Option ρ8 := some true
abbrev ρ43 := (Bool)
def S43_0 (n : Nat) (c2 : Bool) (c14 : List UInt8) (c15 : Int) (v16 : Int) : Option ((Int) ⊕ ρ43) :=
bif (decide (v16 < c15)) then (
(getI c14 v16).bind fun x3 =>
bif (decide ((x3.toNat : Int) ≥ (65))) then (
bif (decide ((x3.toNat : Int) ≤ (90))) then (
some (.inl (IntKind.wrap .i64 (v16 + (1))))) else (
bif (decide (v16 > (0))) then (
bif (decide ((x3.toNat : Int) ≥ (48))) then (
bif (!(decide ((x3.toNat : Int) ≤ (57)))) then (
some (.inr (false))) else (
some (.inl (IntKind.wrap .i64 (v16 + (1)))))) else (
some (.inr (false)))) else (
some (.inr (false))))) else (
bif (decide (v16 > (0))) then (
bif (decide ((x3.toNat : Int) ≥ (48))) then (
bif (!(decide ((x3.toNat : Int) ≤ (57)))) then (
some (.inr (false))) else (
some (.inl (IntKind.wrap .i64 (v16 + (1)))))) else (
some (.inr (false)))) else (
some (.inr (false))))) else (
some (.inr (true)))
def g43 (n : Nat) (a0 : ByteArray) : Option ρ43 :=
bif (decide ((a0.size : Int) < (1))) then (
some (false)) else (
bif (decide ((a0.size : Int) > (8))) then (
some (false)) else (
(roomO a0.size 1).bind fun x2 =>
iterO (fun y : Int => S43_0 n false (a0.data.toList) ((a0.data.toList).length : Int) y) n (0)))
abbrev ρ48 := (Int)
def S48_0 (n : Nat) (a0 : List ByteArray) (a1 : ByteArray) (c4 : Int) (c7 : Int) (v8 : Int) : Option ((Int) ⊕ ρ48) :=
bif (decide (v8 < c7)) then (
(getI a0 v8).bind fun x5 =>
bif ((a1).toList == (x5).toList) then (
some (.inr (v8))) else (
some (.inl (IntKind.wrap .i64 (v8 + (1)))))) else (
some (.inr (-1)))
def g48 (n : Nat) (a0 : List ByteArray) (a1 : ByteArray) : Option ρ48 :=
iterO (fun y : Int => S48_0 n a0 a1 (0) (a0.length : Int) y) n (0)
abbrev ρ41 := (Int)
def g41 (n : Nat) (a0 : ByteArray) : Option ρ41 :=
(g48 n ([(⟨#[72, 69, 73, 71, 72, 84]⟩ : ByteArray), (⟨#[72, 69, 65, 68, 73, 78, 71]⟩ : ByteArray), (⟨#[83, 80, 69, 69, 68]⟩ : ByteArray), (⟨#[68, 73, 82, 69, 67, 84]⟩ : ByteArray), (⟨#[72, 79, 76, 68]⟩ : ByteArray), (⟨#[67, 79, 78, 84, 65, 67, 84]⟩ : ByteArray), (⟨#[76, 65, 78, 68]⟩ : ByteArray)] : List ByteArray) a0).bind fun x6 =>
some (x6)
abbrev ρ38 := (Bool)
def g38 (n : Nat) (a0 : ByteArray) : Option ρ38 :=
(g43 n a0).bind fun x4 =>
bif x4 then (
(g41 n a0).bind fun x7 =>
some (decide (x7 < (0)))) else (
some (false))
abbrev ρ32 := (Int)
def g32 (n : Nat) (a0 : TClearance) : Option ρ32 :=
(g38 n a0.Call).bind fun x8 =>
bif (!x8) then (
some (3)) else (
bif (decide (a0.Kind < (0))) then (
some (1)) else (
bif (decide (a0.Kind > (6))) then (
some (1)) else (
bif (decide (a0.Kind > (2))) then (
bif (a0.Value != (0)) then (
some (3)) else (
(g38 n a0.Fix).bind fun x9 =>
bif (!x9) then (
some (3)) else (
some (0)))) else (
bif (!((a0.Fix).toList == ((⟨#[]⟩ : ByteArray)).toList)) then (
some (3)) else (
bif (decide (a0.Value < (0))) then (
some (4)) else (
(getI ([(60000), (4095), (400)] : List Int) a0.Kind).bind fun x10 =>
bif (decide (a0.Value > x10)) then (
some (4)) else (
some (0))))))))
abbrev ρ30 := (Bool)
def g30 (n : Nat) (a0 : List TReadbackOpen) (a1 : Int) : Option ρ30 :=
bif (decide (a1 < (0))) then (
some (true)) else (
bif (decide (a1 > (200000))) then (
some (true)) else (
bif (decide ((a0.length : Int) > (0))) then (
(getI a0 (IntKind.wrap .i64 ((a0.length : Int) - (1)))).bind fun x13 =>
some (decide (a1 < x13.Time))) else (
some (false))))
abbrev ρ37 := (Bool)
def g37 (n : Nat) (a0 : TReadbackOpen) (a1_0 : ByteArray) (a1_1 : Int) (a1_2 : Int) (a1_3 : ByteArray) : Option ρ37 :=
bif ((a0.Clearance_Call).toList == (a1_0).toList) then (
some (a0.Clearance_Kind == a1_1)) else (
some (false))
abbrev ρ36 := (Int)
def S36_0 (n : Nat) (a0 : List TReadbackOpen) (a1_0_0 : ByteArray) (a1_0_1 : Int) (a1_0_2 : Int) (a1_0_3 : ByteArray) (c4 : Int) (c7 : Int) (v8 : Int) : Option ((Int) ⊕ ρ36) :=
bif (decide (v8 < c7)) then (
(getI a0 v8).bind fun x16 =>
(g37 n x16 a1_0_0 a1_0_1 a1_0_2 a1_0_3).bind fun x17 =>
bif x17 then (
some (.inr (v8))) else (
some (.inl (IntKind.wrap .i64 (v8 + (1)))))) else (
some (.inr (-1)))
def g36 (n : Nat) (a0 : List TReadbackOpen) (a1_0_0 : ByteArray) (a1_0_1 : Int) (a1_0_2 : Int) (a1_0_3 : ByteArray) : Option ρ36 :=
iterO (fun y : Int => S36_0 n a0 a1_0_0 a1_0_1 a1_0_2 a1_0_3 (0) (a0.length : Int) y) n (0)
abbrev ρ27 := (Int)
def g27 (n : Nat) (a0 : List TReadbackOpen) (a1 : TClearance) : Option ρ27 :=
(g36 n a0 a1.Call a1.Kind a1.Value a1.Fix).bind fun x18 =>
some (x18)
abbrev ρ24 := (Int)
def S24_0 (n : Nat) (a0 : List TReadbackOpen) (c2 : Int) (c10 : Int) (v11 : Int) : Option ((Int) ⊕ ρ24) :=
bif (decide (v11 < c10)) then (
(getI a0 v11).bind fun x1 =>
(g32 n (⟨x1.Clearance_Call, x1.Clearance_Kind, x1.Clearance_Value, x1.Clearance_Fix⟩ : TClearance)).bind fun x11 =>
bif (x11 != (0)) then (
some (.inr (x11))) else (
(sliceO a0 none (some v11)).bind fun x12 =>
(g30 n x12 x1.Time).bind fun x14 =>
bif x14 then (
some (.inr (12))) else (
(sliceO a0 none (some v11)).bind fun x15 =>
(g27 n x15 (⟨x1.Clearance_Call, x1.Clearance_Kind, x1.Clearance_Value, x1.Clearance_Fix⟩ : TClearance)).bind fun x19 =>
bif (decide (x19 ≥ (0))) then (
some (.inr (7))) else (
some (.inl (IntKind.wrap .i64 (v11 + (1)))))))) else (
some (.inr (0)))
def g24 (n : Nat) (a0 : List TReadbackOpen) : Option ρ24 :=
bif (decide ((a0.length : Int) > (12))) then (
some (2)) else (
iterO (fun y : Int => S24_0 n a0 (0) (a0.length : Int) y) n (0))
abbrev ρ25 := (Int)
def g25 (n : Nat) (a0 : List TReadbackOpen) (a1 : TClearance) (a2 : Int) : Option ρ25 :=
(g24 n a0).bind fun x20 =>
bif (x20 != (0)) then (
some (x20)) else (
(g32 n a1).bind fun x21 =>
bif (x21 != (0)) then (
some (x21)) else (
(g30 n a0 a2).bind fun x22 =>
bif x22 then (
some (12)) else (
some (0))))
abbrev ρ9 := ((List TReadbackOpen) × Int)
def g9 (n : Nat) (a0 : List TReadbackOpen) (a1 : TClearance) (a2 : Int) : Option ρ9 :=
(g25 n a0 a1 a2).bind fun x23 =>
bif (x23 != (0)) then (
some ([], x23)) else (
(roomO a0.length 56).bind fun x24 =>
(g27 n a0 a1).bind fun x25 =>
bif (decide (x25 ≥ (0))) then (
(delO 56 a0 x25 (IntKind.wrap .i64 (x25 + (1)))).bind fun x26 =>
bif ((x26.length : Int) == (12)) then (
some ([], (9))) else (
(roomO (x26.length + ([(⟨a1.Call, a1.Kind, a1.Value, a1.Fix, a2⟩ : TReadbackOpen)] : List TReadbackOpen).length) 56).bind fun x27 =>
some ((x26 ++ ([(⟨a1.Call, a1.Kind, a1.Value, a1.Fix, a2⟩ : TReadbackOpen)] : List TReadbackOpen)), (0)))) else (
bif ((a0.length : Int) == (12)) then (
some ([], (9))) else (
(roomO (a0.length + ([(⟨a1.Call, a1.Kind, a1.Value, a1.Fix, a2⟩ : TReadbackOpen)] : List TReadbackOpen).length) 56).bind fun x28 =>
some ((a0 ++ ([(⟨a1.Call, a1.Kind, a1.Value, a1.Fix, a2⟩ : TReadbackOpen)] : List TReadbackOpen)), (0)))))
abbrev ρ10 := (Int)
def g10 (n : Nat) (a0 : Int) (a1 : Int) : Option ρ10 :=
(modO (IntKind.wrap .u64 a0) (IntKind.wrap .u64 a1)).bind fun x30 =>
some (IntKind.wrap .i64 x30)
abbrev ρ11 := ((List TReadbackOpen) × Int)
def g11 (n : Nat) (a0 : List TReadbackOpen) (a1 : TClearance) (a2 : Int) : Option ρ11 :=
(g25 n a0 a1 a2).bind fun x32 =>
bif (x32 != (0)) then (
some ([], x32)) else (
(g27 n a0 a1).bind fun x33 =>
bif (decide (x33 < (0))) then (
some ([], (8))) else (
(getI a0 x33).bind fun x34 =>
bif (decide ((IntKind.wrap .i64 (a2 - x34.Time)) > (40))) then (
some ([], (21))) else (
(getI a0 x33).bind fun x35 =>
bif (!(decide ((⟨x35.Clearance_Call, x35.Clearance_Kind, x35.Clearance_Value, x35.Clearance_Fix⟩ : TClearance) = a1))) then (
some ([], (17))) else (
(roomO a0.length 56).bind fun x36 =>
(delO 56 a0 x33 (IntKind.wrap .i64 (x33 + (1)))).bind fun x37 =>
some (x37, (0))))))
abbrev ρ12 := ((List TClearance) × Int)
def S12_0 (n : Nat) (a1 : ByteArray) (c5 : Int) (a0 : List TReadbackOpen) (c16 : Int) (v17 : Int) (L90000 : List TClearance) : Option ((Int × List TClearance) ⊕ ρ12) :=
bif (decide (v17 < c16)) then (
(getI a0 v17).bind fun x41 =>
bif ((x41.Clearance_Call).toList == (a1).toList) then (
(roomO (L90000.length + ([(⟨x41.Clearance_Call, x41.Clearance_Kind, x41.Clearance_Value, x41.Clearance_Fix⟩ : TClearance)] : List TClearance).length) 48).bind fun x42 =>
some (.inl ((IntKind.wrap .i64 (v17 + (1))), (L90000 ++ ([(⟨x41.Clearance_Call, x41.Clearance_Kind, x41.Clearance_Value, x41.Clearance_Fix⟩ : TClearance)] : List TClearance))))) else (
some (.inl ((IntKind.wrap .i64 (v17 + (1))), L90000)))) else (
some (.inr (L90000, (0))))
def g12 (n : Nat) (a0 : List TReadbackOpen) (a1 : ByteArray) : Option ρ12 :=
(g24 n a0).bind fun x40 =>
bif (x40 != (0)) then (
some ([], x40)) else (
iterO (fun y : Int × List TClearance => S12_0 n a1 (0) a0 (a0.length : Int) y.1 y.2) n ((0), []))
abbrev ρ29 := (Int)
def S29_0 (n : Nat) (a0 : List TClearance) (c4 : Int) (c7 : Int) (k0_0 : ByteArray) (k0_1 : Int) (k0_2 : Int) (k0_3 : ByteArray) (v8 : Int) : Option ((Int) ⊕ ρ29) :=
bif (decide (v8 < c7)) then (
(getI a0 v8).bind fun x44 =>
bif (decide ((⟨k0_0, k0_1, k0_2, k0_3⟩ : TClearance) = x44)) then (
some (.inr (v8))) else (
some (.inl (IntKind.wrap .i64 (v8 + (1)))))) else (
some (.inr (-1)))
def g29 (n : Nat) (a0 : List TClearance) (a1 : TClearance) : Option ρ29 :=
iterO (fun y : Int => S29_0 n a0 (0) (a0.length : Int) a1.Call a1.Kind a1.Value a1.Fix y) n (0)
abbrev ρ13 := (Bool)
def g13 (n : Nat) (a0 : List TClearance) (a1 : TClearance) : Option ρ13 :=
(g29 n a0 a1).bind fun x45 =>
some (decide (x45 ≥ (0)))
abbrev ρ3 := (Bool)
def g3 (n : Nat) (a0 : List TReadbackOpen) (a1 : TClearance) (a2 : Int) (a3 : Int) : Option ρ3 :=
(g8 n).bind fun x0 =>
bif (!x0) then (
some (false)) else (
(g9 n a0 a1 a2).bind fun x29 =>
bif (x29.2 != (0)) then (
some ((x29.1.length : Int) == (0))) else (
(g10 n a3 (60)).bind fun x31 =>
bif (decide ((IntKind.wrap .i64 (a2 + x31)) > (200000))) then (
some (true)) else (
(g11 n x29.1 a1 (IntKind.wrap .i64 (a2 + x31))).bind fun x38 =>
bif (decide ((IntKind.wrap .i64 ((IntKind.wrap .i64 (a2 + x31)) - a2)) > (40))) then (
bif (x38.2 == (21)) then (
some ((x38.1.length : Int) == (0))) else (
some (false))) else (
(g11 n x38.1 a1 (IntKind.wrap .i64 (a2 + x31))).bind fun x39 =>
(g12 n x38.1 a1.Call).bind fun x43 =>
bif (x38.2 == (0)) then (
bif (x39.2 == (8)) then (
bif (x43.2 == (0)) then (
(g13 n x43.1 a1).bind fun x46 =>
bif (!x46) then (
some ((x38.1.length : Int) == (IntKind.wrap .i64 ((x29.1.length : Int) - (1))))) else (
some (false))) else (
some (false))) else (
some (false))) else (
some (false))))))
abbrev ρ14 := ((List TReadbackOpen) × (List TClearance) × Int)
def S14_0 (n : Nat) (a1 : Int) (c6 : Int) (a0 : List TReadbackOpen) (c21 : Int) (v22 : Int) (L90000 : List TReadbackOpen) (L90001 : List TClearance) : Option ((Int × List TReadbackOpen × List TClearance) ⊕ ρ14) :=
bif (decide (v22 < c21)) then (
(getI a0 v22).bind fun x50 =>
bif (decide ((IntKind.wrap .i64 (a1 - x50.Time)) > (40))) then (
(roomO (L90001.length + ([(⟨x50.Clearance_Call, x50.Clearance_Kind, x50.Clearance_Value, x50.Clearance_Fix⟩ : TClearance)] : List TClearance).length) 48).bind fun x51 =>
some (.inl ((IntKind.wrap .i64 (v22 + (1))), L90000, (L90001 ++ ([(⟨x50.Clearance_Call, x50.Clearance_Kind, x50.Clearance_Value, x50.Clearance_Fix⟩ : TClearance)] : List TClearance))))) else (
(roomO (L90000.length + ([x50] : List TReadbackOpen).length) 56).bind fun x52 =>
some (.inl ((IntKind.wrap .i64 (v22 + (1))), (L90000 ++ ([x50] : List TReadbackOpen)), L90001)))) else (
some (.inr (L90000, L90001, (0))))
def g14 (n : Nat) (a0 : List TReadbackOpen) (a1 : Int) : Option ρ14 :=
(g24 n a0).bind fun x48 =>
bif (x48 != (0)) then (
some ([], [], x48)) else (
(g30 n a0 a1).bind fun x49 =>
bif x49 then (
some ([], [], (12))) else (
iterO (fun y : Int × List TReadbackOpen × List TClearance => S14_0 n a1 (0) a0 (a0.length : Int) y.1 y.2.1 y.2.2) n ((0), [], [])))
abbrev ρ31 := (Int)
def S31_0 (n : Nat) (a0 : List TReadbackOpen) (c4 : Int) (c7 : Int) (k0_0 : ByteArray) (k0_1 : Int) (k0_2 : Int) (k0_3 : ByteArray) (k0_4 : Int) (v8 : Int) : Option ((Int) ⊕ ρ31) :=
bif (decide (v8 < c7)) then (
(getI a0 v8).bind fun x56 =>
bif (decide ((⟨k0_0, k0_1, k0_2, k0_3, k0_4⟩ : TReadbackOpen) = x56)) then (
some (.inr (v8))) else (
some (.inl (IntKind.wrap .i64 (v8 + (1)))))) else (
some (.inr (-1)))
def g31 (n : Nat) (a0 : List TReadbackOpen) (a1 : TReadbackOpen) : Option ρ31 :=
iterO (fun y : Int => S31_0 n a0 (0) (a0.length : Int) a1.Clearance_Call a1.Clearance_Kind a1.Clearance_Value a1.Clearance_Fix a1.Time y) n (0)
abbrev ρ15 := (Bool)
def g15 (n : Nat) (a0 : List TReadbackOpen) (a1 : TReadbackOpen) : Option ρ15 :=
(g31 n a0 a1).bind fun x57 =>
some (decide (x57 ≥ (0)))
abbrev ρ4 := (Bool)
def S4_0 (n : Nat) (a0 : List TReadbackOpen) (a1 : Int) (c4 : Bool) (c5 : List TReadbackOpen) (c6 : List TClearance) (c38 : Int) (v39 : Int) : Option ((Int) ⊕ ρ4) :=
bif (decide (v39 < c38)) then (
(getI a0 v39).bind fun x54 =>
(g11 n a0 (⟨x54.Clearance_Call, x54.Clearance_Kind, x54.Clearance_Value, x54.Clearance_Fix⟩ : TClearance) a1).bind fun x55 =>
(g15 n c5 x54).bind fun x58 =>
bif (!((x55.2 == (0)) == x58)) then (
some (.inr (false))) else (
(g13 n c6 (⟨x54.Clearance_Call, x54.Clearance_Kind, x54.Clearance_Value, x54.Clearance_Fix⟩ : TClearance)).bind fun x59 =>
bif (!((x55.2 == (21)) == x59)) then (
some (.inr (false))) else (
some (.inl (IntKind.wrap .i64 (v39 + (1))))))) else (
some (.inr (true)))
def g4 (n : Nat) (a0 : List TReadbackOpen) (a1 : Int) : Option ρ4 :=
(g8 n).bind fun x47 =>
bif (!x47) then (
some (false)) else (
(g14 n a0 a1).bind fun x53 =>
bif (x53.2.2 != (0)) then (
some ((IntKind.wrap .i64 ((x53.1.length : Int) + (x53.2.1.length : Int))) == (0))) else (
bif ((IntKind.wrap .i64 ((x53.1.length : Int) + (x53.2.1.length : Int))) != (a0.length : Int)) then (
some (false)) else (
iterO (fun y : Int => S4_0 n a0 a1 false x53.1 x53.2.1 (a0.length : Int) y) n (0))))
end Go.Proofs.YtnechdhngpajbaaDoor
