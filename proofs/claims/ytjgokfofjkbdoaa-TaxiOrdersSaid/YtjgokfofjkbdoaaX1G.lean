/- Plain functional programs out of the program's functions; printed by wip/Ext.lean.txt. -/
import Derived.Test.YtjgokfofjkbdoaaX1T
import Derived.Test.YtjgokfofjkbdoaaPiP
set_option linter.unusedVariables false
set_option linter.unusedSimpArgs false
set_option maxRecDepth 100000
namespace Go.Proofs.Ytjgokfofjkbdoaa
abbrev ρ5 := Bool
def g5 (n : Nat) : Option ρ5 := some true
abbrev ρ18 := (Bool)
def S18_0 (n : Nat) (c2 : Bool) (c14 : List UInt8) (c15 : Int) (v16 : Int) : Option ((Int) ⊕ ρ18) :=
bif (decide (v16 < c15)) then (
(getI c14 v16).bind fun x3 =>
bif (decide ((x3.toNat : Int) ≥ (65))) then (
bif (decide ((x3.toNat : Int) ≤ (90))) then (
some (.inl (IntKind.wrap .i64 (v16 + (1))))) else (
bif (decide (v16 > (0))) then (
bif (decide ((x3.toNat : Int) ≥ (48))) then (
bif (!(decide ((x3.toNat : Int) ≤ (57)))) then (
some (.inr (false))) else (
some (.inl (IntKind.wrap .i64 (v16 + (1)))))) else (
some (.inr (false)))) else (
some (.inr (false))))) else (
bif (decide (v16 > (0))) then (
bif (decide ((x3.toNat : Int) ≥ (48))) then (
bif (!(decide ((x3.toNat : Int) ≤ (57)))) then (
some (.inr (false))) else (
some (.inl (IntKind.wrap .i64 (v16 + (1)))))) else (
some (.inr (false)))) else (
some (.inr (false))))) else (
some (.inr (true)))
def g18 (n : Nat) (a0 : ByteArray) : Option ρ18 :=
bif (decide ((a0.size : Int) < (1))) then (
some (false)) else (
bif (decide ((a0.size : Int) > (8))) then (
some (false)) else (
(roomO a0.size 1).bind fun x2 =>
iterO (fun y : Int => S18_0 n false (a0.data.toList) ((a0.data.toList).length : Int) y) n (0)))
abbrev ρ22 := (Bool)
def g22 (n : Nat) (a0 : TTaxiStand) (a1_0 : ByteArray) : Option ρ22 :=
some ((a0.Name).toList == (a1_0).toList)
abbrev ρ21 := (Int)
def S21_0 (n : Nat) (a0 : List TTaxiStand) (a1_0_0 : ByteArray) (c4 : Int) (c7 : Int) (v8 : Int) : Option ((Int) ⊕ ρ21) :=
bif (decide (v8 < c7)) then (
(getI a0 v8).bind fun x6 =>
(g22 n x6 a1_0_0).bind fun x7 =>
bif x7 then (
some (.inr (v8))) else (
some (.inl (IntKind.wrap .i64 (v8 + (1)))))) else (
some (.inr (-1)))
def g21 (n : Nat) (a0 : List TTaxiStand) (a1_0_0 : ByteArray) : Option ρ21 :=
iterO (fun y : Int => S21_0 n a0 a1_0_0 (0) (a0.length : Int) y) n (0)
abbrev ρ13 := (Int)
def g13 (n : Nat) (a0 : List TTaxiStand) (a1 : ByteArray) : Option ρ13 :=
(g21 n a0 a1).bind fun x8 =>
some (x8)
abbrev ρ11 := (Int)
def S11_0 (n : Nat) (a0 : List TTaxiStand) (c2 : Int) (c9 : Int) (v10 : Int) : Option ((Int) ⊕ ρ11) :=
bif (decide (v10 < c9)) then (
(getI a0 v10).bind fun x1 =>
(g18 n x1.Name).bind fun x4 =>
bif (!x4) then (
some (.inr (3))) else (
bif (decide (x1.Time < (0))) then (
some (.inr (4))) else (
bif (decide (x1.Time > (1800))) then (
some (.inr (4))) else (
(sliceO a0 none (some v10)).bind fun x5 =>
(g13 n x5 x1.Name).bind fun x9 =>
bif (decide (x9 ≥ (0))) then (
some (.inr (7))) else (
some (.inl (IntKind.wrap .i64 (v10 + (1))))))))) else (
some (.inr (0)))
def g11 (n : Nat) (a0 : List TTaxiStand) : Option ρ11 :=
bif (decide ((a0.length : Int) > (16))) then (
some (2)) else (
iterO (fun y : Int => S11_0 n a0 (0) (a0.length : Int) y) n (0))
abbrev ρ20 := (Bool)
def g20 (n : Nat) (a0 : TTaxiAsk) (a1_0 : ByteArray) (a1_1 : ByteArray) (a1_2 : Int) : Option ρ20 :=
some ((a0.Call).toList == (a1_0).toList)
abbrev ρ26 := (Int)
def S26_0 (n : Nat) (a0 : List TTaxiAsk) (a1_0_0 : ByteArray) (a1_0_1 : ByteArray) (a1_0_2 : Int) (c4 : Int) (c7 : Int) (v8 : Int) : Option ((Int) ⊕ ρ26) :=
bif (decide (v8 < c7)) then (
(getI a0 v8).bind fun x15 =>
(g20 n x15 a1_0_0 a1_0_1 a1_0_2).bind fun x16 =>
bif x16 then (
some (.inr (v8))) else (
some (.inl (IntKind.wrap .i64 (v8 + (1)))))) else (
some (.inr (-1)))
def g26 (n : Nat) (a0 : List TTaxiAsk) (a1_0_0 : ByteArray) (a1_0_1 : ByteArray) (a1_0_2 : Int) : Option ρ26 :=
iterO (fun y : Int => S26_0 n a0 a1_0_0 a1_0_1 a1_0_2 (0) (a0.length : Int) y) n (0)
abbrev ρ19 := (Bool)
def g19 (n : Nat) (a0 : List TTaxiAsk) (a1_0_0 : ByteArray) (a1_0_1 : ByteArray) (a1_0_2 : Int) : Option ρ19 :=
(g26 n a0 a1_0_0 a1_0_1 a1_0_2).bind fun x17 =>
some (decide (x17 ≥ (0)))
abbrev ρ12 := (Int)
def S12_0 (n : Nat) (a0 : List TTaxiStand) (a1 : List TTaxiAsk) (c4 : Int) (c17 : Int) (v18 : Int) : Option ((Int) ⊕ ρ12) :=
bif (decide (v18 < c17)) then (
(getI a1 v18).bind fun x11 =>
(g18 n x11.Call).bind fun x12 =>
bif (!x12) then (
some (.inr (3))) else (
(g13 n a0 x11.Stand).bind fun x13 =>
bif (decide (x13 < (0))) then (
some (.inr (6))) else (
bif (decide (x11.Ready < (0))) then (
some (.inr (12))) else (
bif (decide (x11.Ready > (200000))) then (
some (.inr (12))) else (
(sliceO a1 none (some v18)).bind fun x14 =>
(g19 n x14 x11.Call x11.Stand x11.Ready).bind fun x18 =>
bif x18 then (
some (.inr (7))) else (
some (.inl (IntKind.wrap .i64 (v18 + (1)))))))))) else (
some (.inr (0)))
def g12 (n : Nat) (a0 : List TTaxiStand) (a1 : List TTaxiAsk) : Option ρ12 :=
(g11 n a0).bind fun x10 =>
bif (x10 != (0)) then (
some (x10)) else (
bif (decide ((a1.length : Int) > (16))) then (
some (2)) else (
iterO (fun y : Int => S12_0 n a0 a1 (0) (a1.length : Int) y) n (0)))
abbrev ρ25 := (Bool)
def g25 (n : Nat) (a0 : ByteArray) : Option ρ25 :=
some (!((a0).toList == (a0).toList))
abbrev ρ17 := (Int)
def g17 (n : Nat) (a0 : ByteArray) (a1 : ByteArray) : Option ρ17 :=
(g25 n a0).bind fun x24 =>
(g25 n a1).bind fun x25 =>
bif x24 then (
bif x25 then (
some (0)) else (
some (-1))) else (
bif x25 then (
some (1)) else (
bif (Op.bytesLess (a0).toList (a1).toList) then (
some (-1)) else (
bif (!(Op.bytesLess (a0).toList (a1).toList || (a0).toList == (a1).toList)) then (
some (1)) else (
some (0)))))
abbrev ρ16 := (Int)
def S16_0 (n : Nat) (c2 : Int) (a0 : List Int) (c7 : Int) (v8 : Int) : Option ((Int) ⊕ ρ16) :=
bif (decide (v8 < c7)) then (
(getI a0 v8).bind fun x27 =>
bif (x27 != c2) then (
some (.inr (x27))) else (
some (.inl (IntKind.wrap .i64 (v8 + (1)))))) else (
some (.inr (c2)))
def g16 (n : Nat) (a0 : List Int) : Option ρ16 :=
iterO (fun y : Int => S16_0 n (0) a0 (a0.length : Int) y) n (0)
abbrev ρ15 := (Int)
def g15 (n : Nat) (a0 : TTaxiMove) (a1 : TTaxiMove) : Option ρ15 :=
(g17 n a0.Call a1.Call).bind fun x26 =>
(g16 n ([(IntKind.wrap .i64 (a0.Hold - a1.Hold)), x26] : List Int)).bind fun x28 =>
some (x28)
abbrev ρ6 := ((List TTaxiMove) × Int)
def S6_1 (n : Nat) (a2 : Int) (c7 : Int) (c54 : Int) (v55 : Int) (L90000 : List TTaxiMove) : Option ((Int × List TTaxiMove) ⊕ ρ6) :=
bif (decide (v55 < c54)) then (
(getI L90000 v55).bind fun x30 =>
(getI L90000 v55).bind fun x31 =>
bif (decide (v55 > (0))) then (
(getI (L90000.set ((v55 : Int).toNat) (⟨x31.Call, x31.Push, x31.Hold, x30.Hold⟩ : TTaxiMove)) v55).bind fun x32 =>
(getI (L90000.set ((v55 : Int).toNat) (⟨x31.Call, x31.Push, x31.Hold, x30.Hold⟩ : TTaxiMove)) (IntKind.wrap .i64 (v55 - (1)))).bind fun x33 =>
(getI (L90000.set ((v55 : Int).toNat) (⟨x31.Call, x31.Push, x31.Hold, x30.Hold⟩ : TTaxiMove)) v55).bind fun x34 =>
(getI ((L90000.set ((v55 : Int).toNat) (⟨x31.Call, x31.Push, x31.Hold, x30.Hold⟩ : TTaxiMove)).set ((v55 : Int).toNat) (⟨x34.Call, x34.Push, x34.Hold, (if (IntKind.wrap .i64 (x33.Leave + a2)) > x32.Leave then (IntKind.wrap .i64 (x33.Leave + a2)) else x32.Leave)⟩ : TTaxiMove)) v55).bind fun x35 =>
bif (decide (x35.Leave > (200000))) then (
some (.inr ([], (12)))) else (
some (.inl ((IntKind.wrap .i64 (v55 + (1))), ((L90000.set ((v55 : Int).toNat) (⟨x31.Call, x31.Push, x31.Hold, x30.Hold⟩ : TTaxiMove)).set ((v55 : Int).toNat) (⟨x34.Call, x34.Push, x34.Hold, (if (IntKind.wrap .i64 (x33.Leave + a2)) > x32.Leave then (IntKind.wrap .i64 (x33.Leave + a2)) else x32.Leave)⟩ : TTaxiMove)))))) else (
(getI (L90000.set ((v55 : Int).toNat) (⟨x31.Call, x31.Push, x31.Hold, x30.Hold⟩ : TTaxiMove)) v55).bind fun x36 =>
bif (decide (x36.Leave > (200000))) then (
some (.inr ([], (12)))) else (
some (.inl ((IntKind.wrap .i64 (v55 + (1))), (L90000.set ((v55 : Int).toNat) (⟨x31.Call, x31.Push, x31.Hold, x30.Hold⟩ : TTaxiMove))))))) else (
some (.inr (L90000, (0))))
def S6_0 (n : Nat) (a0 : List TTaxiStand) (a2 : Int) (c7 : Int) (a1 : List TTaxiAsk) (c26 : Int) (v27 : Int) (L90000 : List TTaxiMove) : Option ((Int × List TTaxiMove) ⊕ ρ6) :=
bif (decide (v27 < c26)) then (
(getI a1 v27).bind fun x20 =>
(g13 n a0 x20.Stand).bind fun x21 =>
(getI a0 x21).bind fun x22 =>
(roomO (L90000.length + ([(⟨x20.Call, x20.Ready, (IntKind.wrap .i64 (x20.Ready + x22.Time)), (0)⟩ : TTaxiMove)] : List TTaxiMove).length) 40).bind fun x23 =>
some (.inl ((IntKind.wrap .i64 (v27 + (1))), (L90000 ++ ([(⟨x20.Call, x20.Ready, (IntKind.wrap .i64 (x20.Ready + x22.Time)), (0)⟩ : TTaxiMove)] : List TTaxiMove))))) else (
(sortO (fun x y => g15 n x y) L90000).bind fun x29 =>
((iterO (fun y : Int × List TTaxiMove => S6_1 n a2 c7 (x29.length : Int) y.1 y.2) n ((0), x29)).map Sum.inr))
def g6 (n : Nat) (a0 : List TTaxiStand) (a1 : List TTaxiAsk) (a2 : Int) : Option ρ6 :=
(g12 n a0 a1).bind fun x19 =>
bif (x19 != (0)) then (
some ([], x19)) else (
bif (decide (a2 < (0))) then (
some ([], (4))) else (
bif (decide (a2 > (1800))) then (
some ([], (4))) else (
iterO (fun y : Int × List TTaxiMove => S6_0 n a0 a2 (0) a1 (a1.length : Int) y.1 y.2) n ((0), []))))
abbrev ρ7 := ((List TTaxiMove) × Int)
def S7_0 (n : Nat) (a3 : Int) (c9 : Int) (c31 : Int) (v32 : Int) (L90000 : List TTaxiMove) : Option ((Int × List TTaxiMove) ⊕ ρ7) :=
bif (decide (v32 < c31)) then (
(getI L90000 v32).bind fun x52 =>
(getI L90000 v32).bind fun x53 =>
bif (decide ((IntKind.wrap .i64 ((IntKind.wrap .i64 (x52.Leave - x53.Hold)) - a3)) > (0))) then (
(getI L90000 v32).bind fun x54 =>
(getI L90000 v32).bind fun x55 =>
(getI (L90000.set ((v32 : Int).toNat) (⟨x55.Call, (IntKind.wrap .i64 (x54.Push + (IntKind.wrap .i64 ((IntKind.wrap .i64 (x52.Leave - x53.Hold)) - a3)))), x55.Hold, x55.Leave⟩ : TTaxiMove)) v32).bind fun x56 =>
(getI (L90000.set ((v32 : Int).toNat) (⟨x55.Call, (IntKind.wrap .i64 (x54.Push + (IntKind.wrap .i64 ((IntKind.wrap .i64 (x52.Leave - x53.Hold)) - a3)))), x55.Hold, x55.Leave⟩ : TTaxiMove)) v32).bind fun x57 =>
some (.inl ((IntKind.wrap .i64 (v32 + (1))), ((L90000.set ((v32 : Int).toNat) (⟨x55.Call, (IntKind.wrap .i64 (x54.Push + (IntKind.wrap .i64 ((IntKind.wrap .i64 (x52.Leave - x53.Hold)) - a3)))), x55.Hold, x55.Leave⟩ : TTaxiMove)).set ((v32 : Int).toNat) (⟨x57.Call, x57.Push, (IntKind.wrap .i64 (x56.Hold + (IntKind.wrap .i64 ((IntKind.wrap .i64 (x52.Leave - x53.Hold)) - a3)))), x57.Leave⟩ : TTaxiMove))))) else (
some (.inl ((IntKind.wrap .i64 (v32 + (1))), L90000)))) else (
some (.inr (L90000, (0))))
def g7 (n : Nat) (a0 : List TTaxiStand) (a1 : List TTaxiAsk) (a2 : Int) (a3 : Int) : Option ρ7 :=
(g6 n a0 a1 a2).bind fun x51 =>
bif (x51.2 != (0)) then (
some ([], x51.2)) else (
bif (decide (a3 < (0))) then (
some ([], (4))) else (
bif (decide (a3 > (1800))) then (
some ([], (4))) else (
iterO (fun y : Int × List TTaxiMove => S7_0 n a3 (0) (x51.1.length : Int) y.1 y.2) n ((0), x51.1))))
abbrev ρ9 := (Int)
def S9_0 (n : Nat) (a1 : Int) (c4 : Int) (a0 : List TTaxiMove) (c9 : Int) (v5 : Int) (v10 : Int) : Option ((Int × Int) ⊕ ρ9) :=
bif (decide (v10 < c9)) then (
(getI a0 v10).bind fun x83 =>
bif (decide (a1 ≥ x83.Hold)) then (
bif (decide (a1 < x83.Leave)) then (
some (.inl ((IntKind.wrap .i64 (v5 + (1))), (IntKind.wrap .i64 (v10 + (1)))))) else (
some (.inl (v5, (IntKind.wrap .i64 (v10 + (1))))))) else (
some (.inl (v5, (IntKind.wrap .i64 (v10 + (1))))))) else (
some (.inr (v5)))
def g9 (n : Nat) (a0 : List TTaxiMove) (a1 : Int) : Option ρ9 :=
iterO (fun y : Int × Int => S9_0 n a1 (0) a0 (a0.length : Int) y.1 y.2) n ((0), (0))
abbrev ρ8 := (Int × Int)
def S8_0 (n : Nat) (a0 : List TTaxiMove) (c2 : Int) (c10 : Int) (v4 : Int) (v5 : Int) (v11 : Int) : Option ((Int × Int × Int) ⊕ ρ8) :=
bif (decide (v11 < c10)) then (
(getI a0 v11).bind fun x82 =>
(g9 n a0 x82.Hold).bind fun x84 =>
bif (decide (x84 > v4)) then (
some (.inl (x84, x82.Hold, (IntKind.wrap .i64 (v11 + (1)))))) else (
bif (x84 == v4) then (
bif (decide (x84 > (0))) then (
bif (decide (x82.Hold < v5)) then (
some (.inl (x84, x82.Hold, (IntKind.wrap .i64 (v11 + (1)))))) else (
some (.inl (v4, v5, (IntKind.wrap .i64 (v11 + (1))))))) else (
some (.inl (v4, v5, (IntKind.wrap .i64 (v11 + (1))))))) else (
some (.inl (v4, v5, (IntKind.wrap .i64 (v11 + (1)))))))) else (
some (.inr (v4, v5)))
def g8 (n : Nat) (a0 : List TTaxiMove) : Option ρ8 :=
iterO (fun y : Int × Int × Int => S8_0 n a0 (0) (a0.length : Int) y.1 y.2.1 y.2.2) n ((0), (0), (0))
abbrev ρ3 := (Bool)
def S3_0 (n : Nat) (a2 : Int) (a3 : Int) (c8 : Bool) (c9 : List TTaxiMove) (c11 : List TTaxiMove) (c57 : Int) (v58 : Int) : Option ((Int) ⊕ ρ3) :=
bif (decide (v58 < c57)) then (
(getI c9 v58).bind fun x66 =>
(getI c11 v58).bind fun x67 =>
bif (!((x66.Call).toList == (x67.Call).toList)) then (
some (.inr (false))) else (
(getI c9 v58).bind fun x68 =>
(getI c11 v58).bind fun x69 =>
bif (x68.Leave != x69.Leave) then (
some (.inr (false))) else (
(getI c11 v58).bind fun x70 =>
(getI c9 v58).bind fun x71 =>
bif (decide (x70.Push < x71.Push)) then (
some (.inr (false))) else (
(getI c11 v58).bind fun x72 =>
(getI c11 v58).bind fun x73 =>
(getI c9 v58).bind fun x74 =>
(getI c9 v58).bind fun x75 =>
bif ((IntKind.wrap .i64 (x72.Hold - x73.Push)) != (IntKind.wrap .i64 (x74.Hold - x75.Push))) then (
some (.inr (false))) else (
(getI c11 v58).bind fun x76 =>
(getI c11 v58).bind fun x77 =>
bif (decide (x76.Leave < x77.Hold)) then (
some (.inr (false))) else (
(getI c11 v58).bind fun x78 =>
(getI c11 v58).bind fun x79 =>
bif (decide ((IntKind.wrap .i64 (x78.Leave - x79.Hold)) > (if (0) > a3 then (0) else a3))) then (
some (.inr (false))) else (
bif (decide (v58 > (0))) then (
(getI c9 v58).bind fun x80 =>
(getI c9 (IntKind.wrap .i64 (v58 - (1)))).bind fun x81 =>
bif (decide ((IntKind.wrap .i64 (x80.Leave - x81.Leave)) < a2)) then (
some (.inr (false))) else (
some (.inl (IntKind.wrap .i64 (v58 + (1)))))) else (
some (.inl (IntKind.wrap .i64 (v58 + (1)))))))))))) else (
(g8 n c9).bind fun x85 =>
(g8 n c11).bind fun x86 =>
some (.inr (decide (x86.1 ≤ x85.1))))
def g3 (n : Nat) (a0 : List TTaxiStand) (a1 : List TTaxiAsk) (a2 : Int) (a3 : Int) : Option ρ3 :=
(g5 n).bind fun x0 =>
bif (!x0) then (
some (false)) else (
(g6 n a0 a1 a2).bind fun x37 =>
(g7 n a0 a1 a2 a3).bind fun x58 =>
bif (x37.2 != (0)) then (
some ((x58.1.length : Int) == (0))) else (
bif (x58.2 != (0)) then (
some ((x58.1.length : Int) == (0))) else (
bif ((x37.1.length : Int) != (x58.1.length : Int)) then (
some (false)) else (
bif ((x37.1.length : Int) != (a1.length : Int)) then (
some (false)) else (
iterO (fun y : Int => S3_0 n a2 a3 false x37.1 x58.1 (x37.1.length : Int) y) n (0))))))
end Go.Proofs.Ytjgokfofjkbdoaa
