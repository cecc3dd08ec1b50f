/- Plain functional programs out of the program's functions; printed by wip/Ext.lean.txt. -/
import Derived.Test.YthjcdlbkdobmiaaX1T
import Derived.Test.YthjcdlbkdobmiaaPJ
import Derived.Test.YthjcdlbkdobmiaaPT
import Derived.Test.YthjcdlbkdobmiaaCfH
set_option linter.unusedVariables false
set_option linter.unusedSimpArgs false
set_option maxRecDepth 100000
set_option maxHeartbeats 4000000
namespace Go.Proofs.Ythjcdlbkdobmiaa
abbrev ρ22 := (Bool)
def S22_0 (n : Nat) (c2 : Bool) (c14 : List UInt8) (c15 : Int) (v16 : Int) : Option ((Int) ⊕ ρ22) :=
bif (decide (v16 < c15)) then (
(getI c14 v16).bind fun x3 =>
bif (decide ((x3.toNat : Int) ≥ (65))) then (
bif (decide ((x3.toNat : Int) ≤ (90))) then (
some (.inl (IntKind.wrap .i64 (v16 + (1))))) else (
bif (decide (v16 > (0))) then (
bif (decide ((x3.toNat : Int) ≥ (48))) then (
bif (!(decide ((x3.toNat : Int) ≤ (57)))) then (
some (.inr (false))) else (
some (.inl (IntKind.wrap .i64 (v16 + (1)))))) else (
some (.inr (false)))) else (
some (.inr (false))))) else (
bif (decide (v16 > (0))) then (
bif (decide ((x3.toNat : Int) ≥ (48))) then (
bif (!(decide ((x3.toNat : Int) ≤ (57)))) then (
some (.inr (false))) else (
some (.inl (IntKind.wrap .i64 (v16 + (1)))))) else (
some (.inr (false)))) else (
some (.inr (false))))) else (
some (.inr (true)))
def g22 (n : Nat) (a0 : ByteArray) : Option ρ22 :=
bif (decide ((a0.size : Int) < (1))) then (
some (false)) else (
bif (decide ((a0.size : Int) > (8))) then (
some (false)) else (
(roomO a0.size 1).bind fun x2 =>
iterO (fun y : Int => S22_0 n false (a0.data.toList) ((a0.data.toList).length : Int) y) n (0)))
abbrev ρ33 := (Int)
def S33_0 (n : Nat) (a0 : List ByteArray) (a1 : ByteArray) (c4 : Int) (c7 : Int) (v8 : Int) : Option ((Int) ⊕ ρ33) :=
bif (decide (v8 < c7)) then (
(getI a0 v8).bind fun x8 =>
bif ((a1).toList == (x8).toList) then (
some (.inr (v8))) else (
some (.inl (IntKind.wrap .i64 (v8 + (1)))))) else (
some (.inr (-1)))
def g33 (n : Nat) (a0 : List ByteArray) (a1 : ByteArray) : Option ρ33 :=
iterO (fun y : Int => S33_0 n a0 a1 (0) (a0.length : Int) y) n (0)
abbrev ρ23 := (Bool)
def g23 (n : Nat) (a0 : List ByteArray) (a1 : ByteArray) : Option ρ23 :=
(g33 n a0 a1).bind fun x9 =>
some (decide (x9 ≥ (0)))
abbrev ρ11 := (Int)
def S11_0_0 (n : Nat) (a0 : List TConfigGroup) (c2 : Int) (c12 : Int) (v13 : Int) (c43 : List ByteArray) (c44 : Int) (k100004_0 : ByteArray) (w45 : Int) (L90000 : List ByteArray) : Option ((Int × List ByteArray) ⊕ ((Int × List ByteArray) ⊕ ρ11)) :=
bif (decide (w45 < c44)) then (
(getI c43 w45).bind fun x6 =>
(g22 n x6).bind fun x7 =>
bif (!x7) then (
some (.inr (.inr (3)))) else (
(g23 n L90000 x6).bind fun x10 =>
bif x10 then (
some (.inr (.inr (7)))) else (
bif (decide (w45 > (0))) then (
(getI c43 (IntKind.wrap .i64 (w45 - (1)))).bind fun x11 =>
bif (Op.bytesLess (x6).toList (x11).toList) then (
some (.inr (.inr (7)))) else (
bif ((L90000.length : Int) == (12)) then (
some (.inr (.inr (2)))) else (
(roomO (L90000.length + ([x6] : List ByteArray).length) 16).bind fun x13 =>
some (.inl ((IntKind.wrap .i64 (w45 + (1))), (L90000 ++ ([x6] : List ByteArray))))))) else (
bif ((L90000.length : Int) == (12)) then (
some (.inr (.inr (2)))) else (
(roomO (L90000.length + ([x6] : List ByteArray).length) 16).bind fun x15 =>
some (.inl ((IntKind.wrap .i64 (w45 + (1))), (L90000 ++ ([x6] : List ByteArray))))))))) else (
some (.inr (.inl ((IntKind.wrap .i64 (v13 + (1))), L90000))))
def S11_0 (n : Nat) (a0 : List TConfigGroup) (c2 : Int) (c12 : Int) (v13 : Int) (L90000 : List ByteArray) : Option ((Int × List ByteArray) ⊕ ρ11) :=
bif (decide (v13 < c12)) then (
(getI a0 v13).bind fun x1 =>
(g22 n x1.Position).bind fun x4 =>
bif (!x4) then (
some (.inr (3))) else (
bif (decide (v13 > (0))) then (
(getI a0 (IntKind.wrap .i64 (v13 - (1)))).bind fun x5 =>
bif (Op.bytesLess (x1.Position).toList (x5.Position).toList || (x1.Position).toList == (x5.Position).toList) then (
some (.inr (7))) else (
bif ((x1.Sectors.length : Int) == (0)) then (
some (.inr (8))) else (
iterO (fun y : Int × List ByteArray => S11_0_0 n a0 c2 c12 v13 x1.Sectors (x1.Sectors.length : Int) x1.Position y.1 y.2) n ((0), L90000)))) else (
bif ((x1.Sectors.length : Int) == (0)) then (
some (.inr (8))) else (
iterO (fun y : Int × List ByteArray => S11_0_0 n a0 c2 c12 v13 x1.Sectors (x1.Sectors.length : Int) x1.Position y.1 y.2) n ((0), L90000))))) else (
some (.inr (0)))
def g11 (n : Nat) (a0 : List TConfigGroup) : Option ρ11 :=
bif (decide ((a0.length : Int) > (12))) then (
some (2)) else (
iterO (fun y : Int × List ByteArray => S11_0 n a0 (0) (a0.length : Int) y.1 y.2) n ((0), []))
abbrev ρ7 := ((List ByteArray) × Int)
def S7_0 (n : Nat) (c3 : Int) (a0 : List TConfigGroup) (c14 : Int) (v15 : Int) (L90000 : List ByteArray) : Option ((Int × List ByteArray) ⊕ ρ7) :=
bif (decide (v15 < c14)) then (
(getI a0 v15).bind fun x17 =>
(neO x17.Sectors).bind fun x18 =>
(roomO (L90000.length + x17.Sectors.length) 16).bind fun x19 =>
some (.inl ((IntKind.wrap .i64 (v15 + (1))), (L90000 ++ x17.Sectors)))) else (
(lenO L90000).bind fun x20 =>
some (.inr ((sortS L90000), (0))))
def g7 (n : Nat) (a0 : List TConfigGroup) : Option ρ7 :=
(g11 n a0).bind fun x16 =>
bif (x16 != (0)) then (
some ([], x16)) else (
iterO (fun y : Int × List ByteArray => S7_0 n (0) a0 (a0.length : Int) y.1 y.2) n ((0), []))
abbrev ρ10 := (Bool)
def S10_0 (n : Nat) (a0 : List ByteArray) (a1 : List ByteArray) (c4 : Bool) (c12 : Int) (v13 : Int) : Option ((Int) ⊕ ρ10) :=
bif (decide (v13 < c12)) then (
(getI a0 v13).bind fun x23 =>
(getI a1 v13).bind fun x24 =>
bif (!((x23).toList == (x24).toList)) then (
some (.inr (false))) else (
some (.inl (IntKind.wrap .i64 (v13 + (1)))))) else (
some (.inr (true)))
def g10 (n : Nat) (a0 : List ByteArray) (a1 : List ByteArray) : Option ρ10 :=
bif ((a0.length : Int) != (a1.length : Int)) then (
some (false)) else (
iterO (fun y : Int => S10_0 n a0 a1 false (a0.length : Int) y) n (0))
abbrev ρ27 := (ByteArray)
def S27_0 (n : Nat) (a1 : ByteArray) (c4 : ByteArray) (a0 : List TConfigGroup) (c8 : Int) (v9 : Int) : Option ((Int) ⊕ ρ27) :=
bif (decide (v9 < c8)) then (
(getI a0 v9).bind fun x27 =>
(g23 n x27.Sectors a1).bind fun x28 =>
bif x28 then (
some (.inr (x27.Position))) else (
some (.inl (IntKind.wrap .i64 (v9 + (1)))))) else (
some (.inr (⟨#[]⟩ : ByteArray)))
def g27 (n : Nat) (a0 : List TConfigGroup) (a1 : ByteArray) : Option ρ27 :=
iterO (fun y : Int => S27_0 n a1 (⟨#[]⟩ : ByteArray) a0 (a0.length : Int) y) n (0)
abbrev ρ12 := ((List TConfigMove) × Int)
def S12_0 (n : Nat) (a0 : List TConfigGroup) (a1 : List TConfigGroup) (c5 : Int) (c34 : List ByteArray) (c35 : Int) (v36 : Int) (L90000 : List TConfigMove) : Option ((Int × List TConfigMove) ⊕ ρ12) :=
bif (decide (v36 < c35)) then (
(getI c34 v36).bind fun x26 =>
(g27 n a0 x26).bind fun x29 =>
(g27 n a1 x26).bind fun x30 =>
bif (!((x29).toList == (x30).toList)) then (
(roomO (L90000.length + ([(⟨x26, x29, x30⟩ : TConfigMove)] : List TConfigMove).length) 48).bind fun x32 =>
some (.inl ((IntKind.wrap .i64 (v36 + (1))), (L90000 ++ ([(⟨x26, x29, x30⟩ : TConfigMove)] : List TConfigMove))))) else (
some (.inl ((IntKind.wrap .i64 (v36 + (1))), L90000)))) else (
some (.inr (L90000, (0))))
def g12 (n : Nat) (a0 : List TConfigGroup) (a1 : List TConfigGroup) : Option ρ12 :=
(g7 n a0).bind fun x21 =>
bif (x21.2 != (0)) then (
some ([], x21.2)) else (
(g7 n a1).bind fun x22 =>
bif (x22.2 != (0)) then (
some ([], x22.2)) else (
(g10 n x21.1 x22.1).bind fun x25 =>
bif (!x25) then (
some ([], (19))) else (
iterO (fun y : Int × List TConfigMove => S12_0 n a0 a1 (0) x21.1 (x21.1.length : Int) y.1 y.2) n ((0), []))))
abbrev ρ15 := (ByteArray × Int)
def g15 (n : Nat) (a0 : List TConfigGroup) (a1 : ByteArray) : Option ρ15 :=
(g11 n a0).bind fun x37 =>
bif (x37 != (0)) then (
some ((⟨#[]⟩ : ByteArray), x37)) else (
(g27 n a0 a1).bind fun x38 =>
bif ((x38).toList == ((⟨#[]⟩ : ByteArray)).toList) then (
some ((⟨#[]⟩ : ByteArray), (8))) else (
some (x38, (0))))
abbrev ρ5 := (Bool)
def S5_0 (n : Nat) (a0 : List TConfigGroup) (a1 : List TConfigGroup) (c4 : Bool) (c5 : List TConfigMove) (c7 : List TConfigMove) (c62 : List ByteArray) (c63 : Int) (v11 : Int) (v64 : Int) : Option ((Int × Int) ⊕ ρ5) :=
bif (decide (v64 < c63)) then (
(getI c62 v64).bind fun x36 =>
(g15 n a0 x36).bind fun x39 =>
(g15 n a1 x36).bind fun x40 =>
bif (x39.2 != (0)) then (
some (.inr (false))) else (
bif (x40.2 != (0)) then (
some (.inr (false))) else (
bif ((x39.1).toList == (x40.1).toList) then (
some (.inl (v11, (IntKind.wrap .i64 (v64 + (1)))))) else (
bif (v11 == (c5.length : Int)) then (
some (.inr (false))) else (
(getI c5 v11).bind fun x41 =>
bif (!(decide (x41 = (⟨x36, x39.1, x40.1⟩ : TConfigMove)))) then (
some (.inr (false))) else (
(getI c7 v11).bind fun x42 =>
bif (!(decide (x42 = (⟨x36, x40.1, x39.1⟩ : TConfigMove)))) then (
some (.inr (false))) else (
some (.inl ((IntKind.wrap .i64 (v11 + (1))), (IntKind.wrap .i64 (v64 + (1)))))))))))) else (
some (.inr (v11 == (c5.length : Int))))
def g5 (n : Nat) (a0 : List TConfigGroup) (a1 : List TConfigGroup) : Option ρ5 :=
(g6 n).bind fun x0 =>
bif (!x0) then (
some (false)) else (
(g12 n a0 a1).bind fun x33 =>
(g12 n a1 a0).bind fun x34 =>
bif (x33.2 != (0)) then (
bif (x34.2 != (0)) then (
some ((IntKind.wrap .i64 ((x33.1.length : Int) + (x34.1.length : Int))) == (0))) else (
some (false))) else (
(g7 n a0).bind fun x35 =>
bif (x34.2 != (0)) then (
some (false)) else (
bif (x35.2 != (0)) then (
some (false)) else (
bif ((x33.1.length : Int) != (x34.1.length : Int)) then (
some (false)) else (
iterO (fun y : Int × Int => S5_0 n a0 a1 false x33.1 x34.1 x35.1 (x35.1.length : Int) y.1 y.2) n ((0), (0)))))))
end Go.Proofs.Ythjcdlbkdobmiaa
