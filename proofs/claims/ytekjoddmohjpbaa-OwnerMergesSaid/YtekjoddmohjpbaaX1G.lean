/- Plain functional programs out of the program's functions; printed by wip/Ext.lean.txt. -/
import Derived.Test.YtekjoddmohjpbaaX1T
import Derived.Test.YtekjoddmohjpbaaPJ
set_option linter.unusedVariables false
set_option linter.unusedSimpArgs false
set_option maxRecDepth 100000
namespace Go.Proofs.Ytekjoddmohjpbaa
abbrev ρ6 := Bool
def g6 (n : Nat) : Option ρ6 := some true
abbrev ρ34 := (Bool)
def S34_0 (n : Nat) (c2 : Bool) (c14 : List UInt8) (c15 : Int) (v16 : Int) : Option ((Int) ⊕ ρ34) :=
bif (decide (v16 < c15)) then (
(getI c14 v16).bind fun x3 =>
bif (decide ((x3.toNat : Int) ≥ (65))) then (
bif (decide ((x3.toNat : Int) ≤ (90))) then (
some (.inl (IntKind.wrap .i64 (v16 + (1))))) else (
bif (decide (v16 > (0))) then (
bif (decide ((x3.toNat : Int) ≥ (48))) then (
bif (!(decide ((x3.toNat : Int) ≤ (57)))) then (
some (.inr (false))) else (
some (.inl (IntKind.wrap .i64 (v16 + (1)))))) else (
some (.inr (false)))) else (
some (.inr (false))))) else (
bif (decide (v16 > (0))) then (
bif (decide ((x3.toNat : Int) ≥ (48))) then (
bif (!(decide ((x3.toNat : Int) ≤ (57)))) then (
some (.inr (false))) else (
some (.inl (IntKind.wrap .i64 (v16 + (1)))))) else (
some (.inr (false)))) else (
some (.inr (false))))) else (
some (.inr (true)))
def g34 (n : Nat) (a0 : ByteArray) : Option ρ34 :=
bif (decide ((a0.size : Int) < (1))) then (
some (false)) else (
bif (decide ((a0.size : Int) > (8))) then (
some (false)) else (
(roomO a0.size 1).bind fun x2 =>
iterO (fun y : Int => S34_0 n false (a0.data.toList) ((a0.data.toList).length : Int) y) n (0)))
abbrev ρ21 := (Bool)
def g21 (n : Nat) (a0 : ByteArray) : Option ρ21 :=
(g34 n a0).bind fun x4 =>
some (x4)
abbrev ρ12 := (Int)
def S12_0 (n : Nat) (a0 : List TOwnerEntry) (c2 : Int) (c9 : Int) (v10 : Int) : Option ((Int) ⊕ ρ12) :=
bif (decide (v10 < c9)) then (
(getI a0 v10).bind fun x1 =>
(g21 n x1.Call).bind fun x5 =>
bif (!x5) then (
some (.inr (3))) else (
(g21 n x1.Owner).bind fun x6 =>
bif (!x6) then (
some (.inr (3))) else (
bif (!((x1.Offered).toList == ((⟨#[]⟩ : ByteArray)).toList)) then (
(g21 n x1.Offered).bind fun x7 =>
bif (!x7) then (
some (.inr (3))) else (
bif ((x1.Offered).toList == (x1.Owner).toList) then (
some (.inr (11))) else (
bif (decide (v10 > (0))) then (
(getI a0 (IntKind.wrap .i64 (v10 - (1)))).bind fun x8 =>
bif (Op.bytesLess (x1.Call).toList (x8.Call).toList || (x1.Call).toList == (x8.Call).toList) then (
some (.inr (7))) else (
some (.inl (IntKind.wrap .i64 (v10 + (1)))))) else (
some (.inl (IntKind.wrap .i64 (v10 + (1)))))))) else (
bif ((x1.Offered).toList == (x1.Owner).toList) then (
some (.inr (11))) else (
bif (decide (v10 > (0))) then (
(getI a0 (IntKind.wrap .i64 (v10 - (1)))).bind fun x9 =>
bif (Op.bytesLess (x1.Call).toList (x9.Call).toList || (x1.Call).toList == (x9.Call).toList) then (
some (.inr (7))) else (
some (.inl (IntKind.wrap .i64 (v10 + (1)))))) else (
some (.inl (IntKind.wrap .i64 (v10 + (1)))))))))) else (
some (.inr (0)))
def g12 (n : Nat) (a0 : List TOwnerEntry) : Option ρ12 :=
bif (decide ((a0.length : Int) > (24))) then (
some (2)) else (
iterO (fun y : Int => S12_0 n a0 (0) (a0.length : Int) y) n (0))
abbrev ρ15 := ((List TOwnerEntry) × Int)
def S15_0 (n : Nat) (a1 : ByteArray) (a2 : ByteArray) (c7 : Int) (c28 : Int) (v29 : Int) (L90000 : List TOwnerEntry) : Option ((Int × List TOwnerEntry) ⊕ ρ15) :=
bif (decide (v29 < c28)) then (
(getI L90000 v29).bind fun x14 =>
bif ((x14.Owner).toList == (a1).toList) then (
bif (((⟨x14.Call, a2, x14.Offered⟩ : TOwnerEntry).Offered).toList == (a1).toList) then (
bif (((⟨(⟨x14.Call, a2, x14.Offered⟩ : TOwnerEntry).Call, (⟨x14.Call, a2, x14.Offered⟩ : TOwnerEntry).Owner, a2⟩ : TOwnerEntry).Offered).toList == ((⟨(⟨x14.Call, a2, x14.Offered⟩ : TOwnerEntry).Call, (⟨x14.Call, a2, x14.Offered⟩ : TOwnerEntry).Owner, a2⟩ : TOwnerEntry).Owner).toList) then (
some (.inl ((IntKind.wrap .i64 (v29 + (1))), (((L90000.set ((v29 : Int).toNat) (⟨x14.Call, a2, x14.Offered⟩ : TOwnerEntry)).set ((v29 : Int).toNat) (⟨(⟨x14.Call, a2, x14.Offered⟩ : TOwnerEntry).Call, (⟨x14.Call, a2, x14.Offered⟩ : TOwnerEntry).Owner, a2⟩ : TOwnerEntry)).set ((v29 : Int).toNat) (⟨(⟨(⟨x14.Call, a2, x14.Offered⟩ : TOwnerEntry).Call, (⟨x14.Call, a2, x14.Offered⟩ : TOwnerEntry).Owner, a2⟩ : TOwnerEntry).Call, (⟨(⟨x14.Call, a2, x14.Offered⟩ : TOwnerEntry).Call, (⟨x14.Call, a2, x14.Offered⟩ : TOwnerEntry).Owner, a2⟩ : TOwnerEntry).Owner, (⟨#[]⟩ : ByteArray)⟩ : TOwnerEntry))))) else (
some (.inl ((IntKind.wrap .i64 (v29 + (1))), ((L90000.set ((v29 : Int).toNat) (⟨x14.Call, a2, x14.Offered⟩ : TOwnerEntry)).set ((v29 : Int).toNat) (⟨(⟨x14.Call, a2, x14.Offered⟩ : TOwnerEntry).Call, (⟨x14.Call, a2, x14.Offered⟩ : TOwnerEntry).Owner, a2⟩ : TOwnerEntry)))))) else (
bif (((⟨x14.Call, a2, x14.Offered⟩ : TOwnerEntry).Offered).toList == ((⟨x14.Call, a2, x14.Offered⟩ : TOwnerEntry).Owner).toList) then (
some (.inl ((IntKind.wrap .i64 (v29 + (1))), ((L90000.set ((v29 : Int).toNat) (⟨x14.Call, a2, x14.Offered⟩ : TOwnerEntry)).set ((v29 : Int).toNat) (⟨(⟨x14.Call, a2, x14.Offered⟩ : TOwnerEntry).Call, (⟨x14.Call, a2, x14.Offered⟩ : TOwnerEntry).Owner, (⟨#[]⟩ : ByteArray)⟩ : TOwnerEntry))))) else (
some (.inl ((IntKind.wrap .i64 (v29 + (1))), (L90000.set ((v29 : Int).toNat) (⟨x14.Call, a2, x14.Offered⟩ : TOwnerEntry))))))) else (
bif ((x14.Offered).toList == (a1).toList) then (
bif (((⟨x14.Call, x14.Owner, a2⟩ : TOwnerEntry).Offered).toList == ((⟨x14.Call, x14.Owner, a2⟩ : TOwnerEntry).Owner).toList) then (
some (.inl ((IntKind.wrap .i64 (v29 + (1))), ((L90000.set ((v29 : Int).toNat) (⟨x14.Call, x14.Owner, a2⟩ : TOwnerEntry)).set ((v29 : Int).toNat) (⟨(⟨x14.Call, x14.Owner, a2⟩ : TOwnerEntry).Call, (⟨x14.Call, x14.Owner, a2⟩ : TOwnerEntry).Owner, (⟨#[]⟩ : ByteArray)⟩ : TOwnerEntry))))) else (
some (.inl ((IntKind.wrap .i64 (v29 + (1))), (L90000.set ((v29 : Int).toNat) (⟨x14.Call, x14.Owner, a2⟩ : TOwnerEntry)))))) else (
bif ((x14.Offered).toList == (x14.Owner).toList) then (
some (.inl ((IntKind.wrap .i64 (v29 + (1))), (L90000.set ((v29 : Int).toNat) (⟨x14.Call, x14.Owner, (⟨#[]⟩ : ByteArray)⟩ : TOwnerEntry))))) else (
some (.inl ((IntKind.wrap .i64 (v29 + (1))), L90000)))))) else (
some (.inr (L90000, (0))))
def g15 (n : Nat) (a0 : List TOwnerEntry) (a1 : ByteArray) (a2 : ByteArray) : Option ρ15 :=
(g12 n a0).bind fun x10 =>
bif (x10 != (0)) then (
some ([], x10)) else (
(g21 n a1).bind fun x11 =>
bif (!x11) then (
some ([], (3))) else (
(g21 n a2).bind fun x12 =>
bif (!x12) then (
some ([], (3))) else (
(roomO a0.length 48).bind fun x13 =>
iterO (fun y : Int × List TOwnerEntry => S15_0 n a1 a2 (0) (a0.length : Int) y.1 y.2) n ((0), a0))))
abbrev ρ14 := ((List ByteArray) × Int)
def S14_0 (n : Nat) (a1 : ByteArray) (c5 : Int) (a0 : List TOwnerEntry) (c16 : Int) (v17 : Int) (L90000 : List ByteArray) : Option ((Int × List ByteArray) ⊕ ρ14) :=
bif (decide (v17 < c16)) then (
(getI a0 v17).bind fun x17 =>
bif ((x17.Owner).toList == (a1).toList) then (
(roomO (L90000.length + ([x17.Call] : List ByteArray).length) 16).bind fun x19 =>
some (.inl ((IntKind.wrap .i64 (v17 + (1))), (L90000 ++ ([x17.Call] : List ByteArray))))) else (
some (.inl ((IntKind.wrap .i64 (v17 + (1))), L90000)))) else (
some (.inr (L90000, (0))))
def g14 (n : Nat) (a0 : List TOwnerEntry) (a1 : ByteArray) : Option ρ14 :=
(g12 n a0).bind fun x16 =>
bif (x16 != (0)) then (
some ([], x16)) else (
iterO (fun y : Int × List ByteArray => S14_0 n a1 (0) a0 (a0.length : Int) y.1 y.2) n ((0), []))
abbrev ρ16 := (Bool)
def S16_0 (n : Nat) (a0 : List ByteArray) (a1 : List ByteArray) (c4 : Bool) (c12 : Int) (v13 : Int) : Option ((Int) ⊕ ρ16) :=
bif (decide (v13 < c12)) then (
(getI a0 v13).bind fun x25 =>
(getI a1 v13).bind fun x26 =>
bif (!((x25).toList == (x26).toList)) then (
some (.inr (false))) else (
some (.inl (IntKind.wrap .i64 (v13 + (1)))))) else (
some (.inr (true)))
def g16 (n : Nat) (a0 : List ByteArray) (a1 : List ByteArray) : Option ρ16 :=
bif ((a0.length : Int) != (a1.length : Int)) then (
some (false)) else (
iterO (fun y : Int => S16_0 n a0 a1 false (a0.length : Int) y) n (0))
abbrev ρ11 := (Bool)
def S11_0 (n : Nat) (a0 : List TOwnerEntry) (a1 : List TOwnerEntry) (c4 : Bool) (c12 : Int) (v13 : Int) : Option ((Int) ⊕ ρ11) :=
bif (decide (v13 < c12)) then (
(getI a0 v13).bind fun x28 =>
(getI a1 v13).bind fun x29 =>
bif (!(decide (x28 = x29))) then (
some (.inr (false))) else (
some (.inl (IntKind.wrap .i64 (v13 + (1)))))) else (
some (.inr (true)))
def g11 (n : Nat) (a0 : List TOwnerEntry) (a1 : List TOwnerEntry) : Option ρ11 :=
bif ((a0.length : Int) != (a1.length : Int)) then (
some (false)) else (
iterO (fun y : Int => S11_0 n a0 a1 false (a0.length : Int) y) n (0))
abbrev ρ5 := (Bool)
def g5 (n : Nat) (a0 : List TOwnerEntry) (a1 : ByteArray) (a2 : ByteArray) : Option ρ5 :=
(g6 n).bind fun x0 =>
bif (!x0) then (
some (false)) else (
(g15 n a0 a1 a2).bind fun x15 =>
bif (x15.2 != (0)) then (
some (true)) else (
(g14 n a0 a1).bind fun x20 =>
(g14 n a0 a2).bind fun x21 =>
(g14 n x15.1 a2).bind fun x22 =>
(g14 n x15.1 a1).bind fun x23 =>
bif (x20.2 != (0)) then (
some (false)) else (
bif (x21.2 != (0)) then (
some (false)) else (
bif (x22.2 != (0)) then (
some (false)) else (
bif (x23.2 != (0)) then (
some (false)) else (
(g12 n x15.1).bind fun x24 =>
bif (x24 != (0)) then (
some (false)) else (
bif ((a1).toList == (a2).toList) then (
(g16 n x21.1 x22.1).bind fun x27 =>
bif x27 then (
(g11 n a0 x15.1).bind fun x30 =>
some (x30)) else (
some (false))) else (
(catO 16 ([x20.1, x21.1] : List (List ByteArray))).bind fun x31 =>
(lenO x31).bind fun x32 =>
(g16 n (sortS x31) x22.1).bind fun x33 =>
bif x33 then (
some ((x23.1.length : Int) == (0))) else (
some (false))))))))))
end Go.Proofs.Ytekjoddmohjpbaa
