/- Plain functional programs out of the program's functions; printed by wip/Ext.lean.txt. -/
import Derived.Test.YtnechdhngpajbaaDoorX1T
import Derived.Test.YtnechdhngpajbaaDoorPJ
import Derived.Test.YtnechdhngpajbaaDoorRpH
set_option linter.unusedVariables false
set_option linter.unusedSimpArgs false
set_option maxRecDepth 100000
namespace Go.Proofs.YtnechdhngpajbaaDoor
abbrev ρ21 := (TClearance)
def g21 (n : Nat) (a0 : Int) : Option ρ21 :=
some (⟨(⟨#[65, 49]⟩ : ByteArray), (0), a0, (⟨#[]⟩ : ByteArray)⟩ : TClearance)
abbrev ρ43 := (Bool)
def S43_0 (n : Nat) (c2 : Bool) (c14 : List UInt8) (c15 : Int) (v16 : Int) : Option ((Int) ⊕ ρ43) :=
bif (decide (v16 < c15)) then (
(getI c14 v16).bind fun x2 =>
bif (decide ((x2.toNat : Int) ≥ (65))) then (
bif (decide ((x2.toNat : Int) ≤ (90))) then (
some (.inl (IntKind.wrap .i64 (v16 + (1))))) else (
bif (decide (v16 > (0))) then (
bif (decide ((x2.toNat : Int) ≥ (48))) then (
bif (!(decide ((x2.toNat : Int) ≤ (57)))) then (
some (.inr (false))) else (
some (.inl (IntKind.wrap .i64 (v16 + (1)))))) else (
some (.inr (false)))) else (
some (.inr (false))))) else (
bif (decide (v16 > (0))) then (
bif (decide ((x2.toNat : Int) ≥ (48))) then (
bif (!(decide ((x2.toNat : Int) ≤ (57)))) then (
some (.inr (false))) else (
some (.inl (IntKind.wrap .i64 (v16 + (1)))))) else (
some (.inr (false)))) else (
some (.inr (false))))) else (
some (.inr (true)))
def g43 (n : Nat) (a0 : ByteArray) : Option ρ43 :=
bif (decide ((a0.size : Int) < (1))) then (
some (false)) else (
bif (decide ((a0.size : Int) > (8))) then (
some (false)) else (
(roomO a0.size 1).bind fun x1 =>
iterO (fun y : Int => S43_0 n false (a0.data.toList) ((a0.data.toList).length : Int) y) n (0)))
abbrev ρ48 := (Int)
def S48_0 (n : Nat) (a0 : List ByteArray) (a1 : ByteArray) (c4 : Int) (c7 : Int) (v8 : Int) : Option ((Int) ⊕ ρ48) :=
bif (decide (v8 < c7)) then (
(getI a0 v8).bind fun x4 =>
bif ((a1).toList == (x4).toList) then (
some (.inr (v8))) else (
some (.inl (IntKind.wrap .i64 (v8 + (1)))))) else (
some (.inr (-1)))
def g48 (n : Nat) (a0 : List ByteArray) (a1 : ByteArray) : Option ρ48 :=
iterO (fun y : Int => S48_0 n a0 a1 (0) (a0.length : Int) y) n (0)
abbrev ρ41 := (Int)
def g41 (n : Nat) (a0 : ByteArray) : Option ρ41 :=
(g48 n ([(⟨#[72, 69, 73, 71, 72, 84]⟩ : ByteArray), (⟨#[72, 69, 65, 68, 73, 78, 71]⟩ : ByteArray), (⟨#[83, 80, 69, 69, 68]⟩ : ByteArray), (⟨#[68, 73, 82, 69, 67, 84]⟩ : ByteArray), (⟨#[72, 79, 76, 68]⟩ : ByteArray), (⟨#[67, 79, 78, 84, 65, 67, 84]⟩ : ByteArray), (⟨#[76, 65, 78, 68]⟩ : ByteArray)] : List ByteArray) a0).bind fun x5 =>
some (x5)
abbrev ρ38 := (Bool)
def g38 (n : Nat) (a0 : ByteArray) : Option ρ38 :=
(g43 n a0).bind fun x3 =>
bif x3 then (
(g41 n a0).bind fun x6 =>
some (decide (x6 < (0)))) else (
some (false))
abbrev ρ32 := (Int)
def g32 (n : Nat) (a0 : TClearance) : Option ρ32 :=
(g38 n a0.Call).bind fun x7 =>
bif (!x7) then (
some (3)) else (
bif (decide (a0.Kind < (0))) then (
some (1)) else (
bif (decide (a0.Kind > (6))) then (
some (1)) else (
bif (decide (a0.Kind > (2))) then (
bif (a0.Value != (0)) then (
some (3)) else (
(g38 n a0.Fix).bind fun x8 =>
bif (!x8) then (
some (3)) else (
some (0)))) else (
bif (!((a0.Fix).toList == ((⟨#[]⟩ : ByteArray)).toList)) then (
some (3)) else (
bif (decide (a0.Value < (0))) then (
some (4)) else (
(getI ([(60000), (4095), (400)] : List Int) a0.Kind).bind fun x9 =>
bif (decide (a0.Value > x9)) then (
some (4)) else (
some (0))))))))
abbrev ρ33 := (ByteArray)
def g33 (n : Nat) (a0 : TClearance) : Option ρ33 :=
bif (decide (a0.Kind > (2))) then (
(getI ([(⟨#[72, 69, 73, 71, 72, 84]⟩ : ByteArray), (⟨#[72, 69, 65, 68, 73, 78, 71]⟩ : ByteArray), (⟨#[83, 80, 69, 69, 68]⟩ : ByteArray), (⟨#[68, 73, 82, 69, 67, 84]⟩ : ByteArray), (⟨#[72, 79, 76, 68]⟩ : ByteArray), (⟨#[67, 79, 78, 84, 65, 67, 84]⟩ : ByteArray), (⟨#[76, 65, 78, 68]⟩ : ByteArray)] : List ByteArray) a0.Kind).bind fun x12 =>
(strO x12 (⟨#[32]⟩ : ByteArray)).bind fun x13 =>
(strO x13 a0.Fix).bind fun x14 =>
some (x14)) else (
(getI ([(⟨#[72, 69, 73, 71, 72, 84]⟩ : ByteArray), (⟨#[72, 69, 65, 68, 73, 78, 71]⟩ : ByteArray), (⟨#[83, 80, 69, 69, 68]⟩ : ByteArray), (⟨#[68, 73, 82, 69, 67, 84]⟩ : ByteArray), (⟨#[72, 79, 76, 68]⟩ : ByteArray), (⟨#[67, 79, 78, 84, 65, 67, 84]⟩ : ByteArray), (⟨#[76, 65, 78, 68]⟩ : ByteArray)] : List ByteArray) a0.Kind).bind fun x15 =>
(strO x15 (⟨#[32]⟩ : ByteArray)).bind fun x16 =>
(g39 n a0.Value).bind fun x17 =>
(strO x16 x17).bind fun x18 =>
some (x18))
abbrev ρ17 := (ByteArray × Int)
def g17 (n : Nat) (a0 : TClearance) : Option ρ17 :=
(g32 n a0).bind fun x10 =>
bif (x10 != (0)) then (
some ((⟨#[]⟩ : ByteArray), x10)) else (
(strO a0.Call (⟨#[32]⟩ : ByteArray)).bind fun x11 =>
(g33 n a0).bind fun x19 =>
(strO x11 x19).bind fun x20 =>
some (x20, (0)))
abbrev ρ18 := (ByteArray × Int)
def g18 (n : Nat) (a0 : TClearance) : Option ρ18 :=
(g32 n a0).bind fun x22 =>
bif (x22 != (0)) then (
some ((⟨#[]⟩ : ByteArray), x22)) else (
(g33 n a0).bind fun x23 =>
(strO x23 (⟨#[32]⟩ : ByteArray)).bind fun x24 =>
(strO x24 a0.Call).bind fun x25 =>
some (x25, (0)))
abbrev ρ35 := (TClearance × Bool)
def g35 (n : Nat) (a0 : ByteArray) (a1 : ByteArray) (a2 : ByteArray) : Option ρ35 :=
(g41 n a1).bind fun x31 =>
bif (decide (x31 < (0))) then (
some ((⟨a0, x31, (0), (⟨#[]⟩ : ByteArray)⟩ : TClearance), false)) else (
bif (decide (x31 > (2))) then (
some ((⟨a0, x31, (0), a2⟩ : TClearance), true)) else (
(g42 n a2).bind fun x32 =>
bif x32.2 then (
(g39 n x32.1).bind fun x33 =>
some ((⟨a0, x31, x32.1, (⟨#[]⟩ : ByteArray)⟩ : TClearance), ((x33).toList == (a2).toList))) else (
some ((⟨a0, x31, x32.1, (⟨#[]⟩ : ByteArray)⟩ : TClearance), false))))
abbrev ρ19 := (TClearance × Bool × Int)
def g19 (n : Nat) (a0 : ByteArray) : Option ρ19 :=
bif (decide ((a0.size : Int) > (120))) then (
some ((⟨(⟨#[]⟩ : ByteArray), (0), (0), (⟨#[]⟩ : ByteArray)⟩ : TClearance), false, (2))) else (
(g34 n a0 (⟨#[32]⟩ : ByteArray)).bind fun x27 =>
bif ((x27.length : Int) != (3)) then (
some ((⟨(⟨#[]⟩ : ByteArray), (0), (0), (⟨#[]⟩ : ByteArray)⟩ : TClearance), false, (5))) else (
(getI x27 (0)).bind fun x28 =>
(getI x27 (1)).bind fun x29 =>
(getI x27 (2)).bind fun x30 =>
(g35 n x28 x29 x30).bind fun x34 =>
bif (!x34.2) then (
(getI x27 (2)).bind fun x35 =>
(getI x27 (0)).bind fun x36 =>
(getI x27 (1)).bind fun x37 =>
(g35 n x35 x36 x37).bind fun x38 =>
bif (!x38.2) then (
some ((⟨(⟨#[]⟩ : ByteArray), (0), (0), (⟨#[]⟩ : ByteArray)⟩ : TClearance), false, (5))) else (
(g32 n x38.1).bind fun x39 =>
bif (x39 != (0)) then (
some ((⟨(⟨#[]⟩ : ByteArray), (0), (0), (⟨#[]⟩ : ByteArray)⟩ : TClearance), false, x39)) else (
some (x38.1, true, (0))))) else (
bif (!x34.2) then (
some ((⟨(⟨#[]⟩ : ByteArray), (0), (0), (⟨#[]⟩ : ByteArray)⟩ : TClearance), false, (5))) else (
(g32 n x34.1).bind fun x40 =>
bif (x40 != (0)) then (
some ((⟨(⟨#[]⟩ : ByteArray), (0), (0), (⟨#[]⟩ : ByteArray)⟩ : TClearance), false, x40)) else (
some (x34.1, false, (0)))))))
abbrev ρ16 := (Bool)
def g16 (n : Nat) : Option ρ16 :=
(g21 n (9000)).bind fun x0 =>
(g17 n x0).bind fun x21 =>
(g18 n x0).bind fun x26 =>
(g19 n x21.1).bind fun x41 =>
(g19 n x26.1).bind fun x42 =>
bif (x21.2 == (0)) then (
bif (x26.2 == (0)) then (
bif (x41.2.2 == (0)) then (
bif (x42.2.2 == (0)) then (
bif ((x21.1).toList == ((⟨#[65, 49, 32, 72, 69, 73, 71, 72, 84, 32, 57, 48, 48, 48]⟩ : ByteArray)).toList) then (
bif ((x26.1).toList == ((⟨#[72, 69, 73, 71, 72, 84, 32, 57, 48, 48, 48, 32, 65, 49]⟩ : ByteArray)).toList) then (
bif (decide (x41.1 = x0)) then (
bif (decide (x42.1 = x0)) then (
bif (!x41.2.1) then (
bif x42.2.1 then (
(g32 n (⟨(⟨#[]⟩ : ByteArray), (0), (0), (⟨#[]⟩ : ByteArray)⟩ : TClearance)).bind fun x43 =>
some (x43 == (3))) else (
some (false))) else (
some (false))) else (
some (false))) else (
some (false))) else (
some (false))) else (
some (false))) else (
some (false))) else (
some (false))) else (
some (false))) else (
some (false))
abbrev ρ5 := (Bool)
def g5 (n : Nat) (a0 : TClearance) : Option ρ5 :=
(g16 n).bind fun x44 =>
bif (!x44) then (
some (false)) else (
(g17 n a0).bind fun x45 =>
(g18 n a0).bind fun x46 =>
bif (x45.2 != (0)) then (
bif (x46.2 == x45.2) then (
bif ((x45.1).toList == ((⟨#[]⟩ : ByteArray)).toList) then (
some ((x46.1).toList == ((⟨#[]⟩ : ByteArray)).toList)) else (
some (false))) else (
some (false))) else (
(g19 n x45.1).bind fun x47 =>
(g19 n x46.1).bind fun x48 =>
bif (x46.2 == (0)) then (
bif (x47.2.2 == (0)) then (
bif (x48.2.2 == (0)) then (
bif (decide (a0 = x47.1)) then (
bif (decide (a0 = x48.1)) then (
bif (!x47.2.1) then (
some (x48.2.1)) else (
some (false))) else (
some (false))) else (
some (false))) else (
some (false))) else (
some (false))) else (
some (false))))
abbrev ρ6 := (Bool)
def g6 (n : Nat) (a0 : ByteArray) : Option ρ6 :=
(g16 n).bind fun x49 =>
bif (!x49) then (
some (false)) else (
(g19 n a0).bind fun x50 =>
bif (x50.2.2 != (0)) then (
bif (decide (x50.1 = (⟨(⟨#[]⟩ : ByteArray), (0), (0), (⟨#[]⟩ : ByteArray)⟩ : TClearance))) then (
some (!x50.2.1)) else (
some (false))) else (
(g17 n x50.1).bind fun x51 =>
bif x50.2.1 then (
(g18 n x50.1).bind fun x52 =>
bif (x52.2 == (0)) then (
some ((a0).toList == (x52.1).toList)) else (
some (false))) else (
bif (x51.2 == (0)) then (
some ((a0).toList == (x51.1).toList)) else (
some (false)))))
abbrev ρ8 := Bool
def g8 (n : Nat) : Option ρ8 := some true
abbrev ρ20 := (Int × Int)
def S20_1 (n : Nat) (c4 : Int) (c50 : List T67) (c51 : Int) (v9 : Int) (v52 : Int) : Option ((Int × Int) ⊕ ρ20) :=
bif (decide (v52 < c51)) then (
(getI c50 v52).bind fun x57 =>
bif x57.differs then (
some (.inl ((IntKind.wrap .i64 (v9 + x57.bit)), (IntKind.wrap .i64 (v52 + (1)))))) else (
some (.inl (v9, (IntKind.wrap .i64 (v52 + (1))))))) else (
some (.inr (v9, (0))))
def S20_0 (n : Nat) (c4 : Int) (c14 : List TClearance) (c15 : Int) (k0_0 : ByteArray) (k0_1 : Int) (k0_2 : Int) (k0_3 : ByteArray) (k1_0 : ByteArray) (k1_1 : Int) (k1_2 : Int) (k1_3 : ByteArray) (v16 : Int) : Option ((Int) ⊕ ρ20) :=
bif (decide (v16 < c15)) then (
(getI c14 v16).bind fun x55 =>
(g32 n x55).bind fun x56 =>
bif (x56 != (0)) then (
some (.inr ((0), x56))) else (
some (.inl (IntKind.wrap .i64 (v16 + (1)))))) else (
((iterO (fun y : Int × Int => S20_1 n c4 ([(⟨(!((k0_0).toList == (k1_0).toList)), (1)⟩ : T67), (⟨(k0_1 != k1_1), (2)⟩ : T67), (⟨(k0_2 != k1_2), (4)⟩ : T67), (⟨(!((k0_3).toList == (k1_3).toList)), (8)⟩ : T67)] : List T67) (([(⟨(!((k0_0).toList == (k1_0).toList)), (1)⟩ : T67), (⟨(k0_1 != k1_1), (2)⟩ : T67), (⟨(k0_2 != k1_2), (4)⟩ : T67), (⟨(!((k0_3).toList == (k1_3).toList)), (8)⟩ : T67)] : List T67).length : Int) y.1 y.2) n ((0), (0))).map Sum.inr))
def g20 (n : Nat) (a0 : TClearance) (a1 : TClearance) : Option ρ20 :=
iterO (fun y : Int => S20_0 n (0) ([a0, a1] : List TClearance) (([a0, a1] : List TClearance).length : Int) a0.Call a0.Kind a0.Value a0.Fix a1.Call a1.Kind a1.Value a1.Fix y) n (0)
abbrev ρ7 := (Bool)
def g7 (n : Nat) (a0 : TClearance) (a1 : TClearance) : Option ρ7 :=
(g8 n).bind fun x53 =>
bif (!x53) then (
some (false)) else (
(g16 n).bind fun x54 =>
bif (!x54) then (
some (false)) else (
(g20 n a0 a1).bind fun x58 =>
bif (x58.2 != (0)) then (
some (x58.1 == (0))) else (
(g17 n a0).bind fun x59 =>
(g17 n a1).bind fun x60 =>
(g20 n a1 a0).bind fun x61 =>
bif (x59.2 == (0)) then (
bif (x60.2 == (0)) then (
bif (x61.2 == (0)) then (
bif (((x59.1).toList == (x60.1).toList) == (x58.1 == (0))) then (
bif (x61.1 == x58.1) then (
bif (decide (x58.1 ≥ (0))) then (
some (decide (x58.1 < (16)))) else (
some (false))) else (
some (false))) else (
some (false))) else (
some (false))) else (
some (false))) else (
some (false)))))
end Go.Proofs.YtnechdhngpajbaaDoor
