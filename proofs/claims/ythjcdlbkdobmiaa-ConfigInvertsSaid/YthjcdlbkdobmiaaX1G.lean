/- Plain functional programs out of the program's functions; printed by wip/Ext.lean.txt. -/
import Derived.Test.YthjcdlbkdobmiaaX1T
import Derived.Test.YthjcdlbkdobmiaaPJ
import Derived.Test.YthjcdlbkdobmiaaPT
import Derived.Test.YthjcdlbkdobmiaaCfH
set_option linter.unusedVariables false
set_option linter.unusedSimpArgs false
set_option maxRecDepth 100000
set_option maxHeartbeats 4000000
namespace Go.Proofs.Ythjcdlbkdobmiaa
abbrev ρ22 := (Bool)
def S22_0 (n : Nat) (c2 : Bool) (c14 : List UInt8) (c15 : Int) (v16 : Int) : Option ((Int) ⊕ ρ22) :=
bif (decide (v16 < c15)) then (
(getI c14 v16).bind fun x2 =>
bif (decide ((x2.toNat : Int) ≥ (65))) then (
bif (decide ((x2.toNat : Int) ≤ (90))) then (
some (.inl (IntKind.wrap .i64 (v16 + (1))))) else (
bif (decide (v16 > (0))) then (
bif (decide ((x2.toNat : Int) ≥ (48))) then (
bif (!(decide ((x2.toNat : Int) ≤ (57)))) then (
some (.inr (false))) else (
some (.inl (IntKind.wrap .i64 (v16 + (1)))))) else (
some (.inr (false)))) else (
some (.inr (false))))) else (
bif (decide (v16 > (0))) then (
bif (decide ((x2.toNat : Int) ≥ (48))) then (
bif (!(decide ((x2.toNat : Int) ≤ (57)))) then (
some (.inr (false))) else (
some (.inl (IntKind.wrap .i64 (v16 + (1)))))) else (
some (.inr (false)))) else (
some (.inr (false))))) else (
some (.inr (true)))
def g22 (n : Nat) (a0 : ByteArray) : Option ρ22 :=
bif (decide ((a0.size : Int) < (1))) then (
some (false)) else (
bif (decide ((a0.size : Int) > (8))) then (
some (false)) else (
(roomO a0.size 1).bind fun x1 =>
iterO (fun y : Int => S22_0 n false (a0.data.toList) ((a0.data.toList).length : Int) y) n (0)))
abbrev ρ33 := (Int)
def S33_0 (n : Nat) (a0 : List ByteArray) (a1 : ByteArray) (c4 : Int) (c7 : Int) (v8 : Int) : Option ((Int) ⊕ ρ33) :=
bif (decide (v8 < c7)) then (
(getI a0 v8).bind fun x7 =>
bif ((a1).toList == (x7).toList) then (
some (.inr (v8))) else (
some (.inl (IntKind.wrap .i64 (v8 + (1)))))) else (
some (.inr (-1)))
def g33 (n : Nat) (a0 : List ByteArray) (a1 : ByteArray) : Option ρ33 :=
iterO (fun y : Int => S33_0 n a0 a1 (0) (a0.length : Int) y) n (0)
abbrev ρ23 := (Bool)
def g23 (n : Nat) (a0 : List ByteArray) (a1 : ByteArray) : Option ρ23 :=
(g33 n a0 a1).bind fun x8 =>
some (decide (x8 ≥ (0)))
abbrev ρ11 := (Int)
def S11_0_0 (n : Nat) (a0 : List TConfigGroup) (c2 : Int) (c12 : Int) (v13 : Int) (c43 : List ByteArray) (c44 : Int) (k100004_0 : ByteArray) (w45 : Int) (L90000 : List ByteArray) : Option ((Int × List ByteArray) ⊕ ((Int × List ByteArray) ⊕ ρ11)) :=
bif (decide (w45 < c44)) then (
(getI c43 w45).bind fun x5 =>
(g22 n x5).bind fun x6 =>
bif (!x6) then (
some (.inr (.inr (3)))) else (
(g23 n L90000 x5).bind fun x9 =>
bif x9 then (
some (.inr (.inr (7)))) else (
bif (decide (w45 > (0))) then (
(getI c43 (IntKind.wrap .i64 (w45 - (1)))).bind fun x10 =>
bif (Op.bytesLess (x5).toList (x10).toList) then (
some (.inr (.inr (7)))) else (
bif ((L90000.length : Int) == (12)) then (
some (.inr (.inr (2)))) else (
(roomO (L90000.length + ([x5] : List ByteArray).length) 16).bind fun x12 =>
some (.inl ((IntKind.wrap .i64 (w45 + (1))), (L90000 ++ ([x5] : List ByteArray))))))) else (
bif ((L90000.length : Int) == (12)) then (
some (.inr (.inr (2)))) else (
(roomO (L90000.length + ([x5] : List ByteArray).length) 16).bind fun x14 =>
some (.inl ((IntKind.wrap .i64 (w45 + (1))), (L90000 ++ ([x5] : List ByteArray))))))))) else (
some (.inr (.inl ((IntKind.wrap .i64 (v13 + (1))), L90000))))
def S11_0 (n : Nat) (a0 : List TConfigGroup) (c2 : Int) (c12 : Int) (v13 : Int) (L90000 : List ByteArray) : Option ((Int × List ByteArray) ⊕ ρ11) :=
bif (decide (v13 < c12)) then (
(getI a0 v13).bind fun x0 =>
(g22 n x0.Position).bind fun x3 =>
bif (!x3) then (
some (.inr (3))) else (
bif (decide (v13 > (0))) then (
(getI a0 (IntKind.wrap .i64 (v13 - (1)))).bind fun x4 =>
bif (Op.bytesLess (x0.Position).toList (x4.Position).toList || (x0.Position).toList == (x4.Position).toList) then (
some (.inr (7))) else (
bif ((x0.Sectors.length : Int) == (0)) then (
some (.inr (8))) else (
iterO (fun y : Int × List ByteArray => S11_0_0 n a0 c2 c12 v13 x0.Sectors (x0.Sectors.length : Int) x0.Position y.1 y.2) n ((0), L90000)))) else (
bif ((x0.Sectors.length : Int) == (0)) then (
some (.inr (8))) else (
iterO (fun y : Int × List ByteArray => S11_0_0 n a0 c2 c12 v13 x0.Sectors (x0.Sectors.length : Int) x0.Position y.1 y.2) n ((0), L90000))))) else (
some (.inr (0)))
def g11 (n : Nat) (a0 : List TConfigGroup) : Option ρ11 :=
bif (decide ((a0.length : Int) > (12))) then (
some (2)) else (
iterO (fun y : Int × List ByteArray => S11_0 n a0 (0) (a0.length : Int) y.1 y.2) n ((0), []))
abbrev ρ30 := (Bool)
def g30 (n : Nat) (a0 : TConfigGroup) (a1_0 : ByteArray) : Option ρ30 :=
some ((a0.Position).toList == (a1_0).toList)
abbrev ρ13 := (Int)
def S13_0 (n : Nat) (a0 : List TConfigGroup) (a1_0_0 : ByteArray) (c4 : Int) (c7 : Int) (v8 : Int) : Option ((Int) ⊕ ρ13) :=
bif (decide (v8 < c7)) then (
(getI a0 v8).bind fun x15 =>
(g30 n x15 a1_0_0).bind fun x16 =>
bif x16 then (
some (.inr (v8))) else (
some (.inl (IntKind.wrap .i64 (v8 + (1)))))) else (
some (.inr (-1)))
def g13 (n : Nat) (a0 : List TConfigGroup) (a1_0_0 : ByteArray) : Option ρ13 :=
iterO (fun y : Int => S13_0 n a0 a1_0_0 (0) (a0.length : Int) y) n (0)
abbrev ρ19 := (Int)
def g19 (n : Nat) (a0 : List TConfigGroup) (a1 : ByteArray) : Option ρ19 :=
(g13 n a0 a1).bind fun x17 =>
some (x17)
abbrev ρ7 := ((List ByteArray) × Int)
def S7_0 (n : Nat) (c3 : Int) (a0 : List TConfigGroup) (c14 : Int) (v15 : Int) (L90000 : List ByteArray) : Option ((Int × List ByteArray) ⊕ ρ7) :=
bif (decide (v15 < c14)) then (
(getI a0 v15).bind fun x19 =>
(neO x19.Sectors).bind fun x20 =>
(roomO (L90000.length + x19.Sectors.length) 16).bind fun x21 =>
some (.inl ((IntKind.wrap .i64 (v15 + (1))), (L90000 ++ x19.Sectors)))) else (
(lenO L90000).bind fun x22 =>
some (.inr ((sortS L90000), (0))))
def g7 (n : Nat) (a0 : List TConfigGroup) : Option ρ7 :=
(g11 n a0).bind fun x18 =>
bif (x18 != (0)) then (
some ([], x18)) else (
iterO (fun y : Int × List ByteArray => S7_0 n (0) a0 (a0.length : Int) y.1 y.2) n ((0), []))
abbrev ρ10 := (Bool)
def S10_0 (n : Nat) (a0 : List ByteArray) (a1 : List ByteArray) (c4 : Bool) (c12 : Int) (v13 : Int) : Option ((Int) ⊕ ρ10) :=
bif (decide (v13 < c12)) then (
(getI a0 v13).bind fun x29 =>
(getI a1 v13).bind fun x30 =>
bif (!((x29).toList == (x30).toList)) then (
some (.inr (false))) else (
some (.inl (IntKind.wrap .i64 (v13 + (1)))))) else (
some (.inr (true)))
def g10 (n : Nat) (a0 : List ByteArray) (a1 : List ByteArray) : Option ρ10 :=
bif ((a0.length : Int) != (a1.length : Int)) then (
some (false)) else (
iterO (fun y : Int => S10_0 n a0 a1 false (a0.length : Int) y) n (0))
abbrev ρ8 := List TConfigGroup × Int
def g8 (n : Nat) (l : List TConfigGroup) (to from_ : ByteArray) : Option ρ8 :=
  (g11 n l).bind fun e => bif e != 0 then some ([], e) else
  (g19 n l to).bind fun i => (g19 n l from_).bind fun k =>
  if i < 0 ∨ k < 0 then some ([], 8) else if i = k then some ([], 1) else
  (l[i.toNat]?).bind fun x => (l[k.toNat]?).bind fun y =>
  if l.length ≤ 1000 ∧ x.Sectors.length + y.Sectors.length ≤ 1000 ∧ (∀ g ∈ l, g.Sectors.length ≤ 1000 ∧ 0 < g.Sectors.length) then some ((l.set i.toNat ⟨x.Position, sortS (x.Sectors ++ y.Sectors)⟩).eraseIdx k.toNat, 0) else none

abbrev ρ9 := List TConfigGroup × Int
def hasL (L : List ByteArray) (s : ByteArray) : Bool := L.any fun x => s.toList == x.toList
def g9 (n : Nat) (l : List TConfigGroup) (from_ to : ByteArray) (names : List ByteArray) : Option ρ9 :=
  (g11 n l).bind fun e => bif e != 0 then some ([], e) else
  (g19 n l from_).bind fun i => if i < 0 then some ([], 8) else
  (g22 n to).bind fun b => bif !b then some ([], 3) else
  (g19 n l to).bind fun k => if k ≥ 0 then some ([], 7) else
  (l[i.toNat]?).bind fun x =>
  bif !(names.all (hasL x.Sectors)) then some ([], 6) else
  if l.length ≤ 999 ∧ x.Sectors.length ≤ 1000 ∧ (∀ g ∈ l, g.Sectors.length ≤ 1000 ∧ 0 < g.Sectors.length) then
    if (x.Sectors.filter (hasL names)).length = 0 ∨ (x.Sectors.filter (hasL names)).length = x.Sectors.length then some ([], 11) else
    (sortO (fun a b => some (Go.Lib.compareBytes a.Position.data.toList b.Position.data.toList)) (l.set i.toNat ⟨x.Position, x.Sectors.filter fun s => !hasL names s⟩ ++ [⟨to, x.Sectors.filter (hasL names)⟩])).map fun r => (r, 0) else none

abbrev ρ3 := (Bool)
def S3_0 (n : Nat) (c8 : Bool) (c9 : List ByteArray) (c10 : Int) (c13 : Int) (c44 : List (List TConfigGroup)) (c45 : Int) (v46 : Int) : Option ((Int) ⊕ ρ3) :=
bif (decide (v46 < c45)) then (
(getI c44 v46).bind fun x27 =>
bif (v46 == (0)) then (
bif (c10 != (0)) then (
some (.inl (IntKind.wrap .i64 (v46 + (1))))) else (
bif (v46 == (1)) then (
bif (c13 != (0)) then (
some (.inl (IntKind.wrap .i64 (v46 + (1))))) else (
(g7 n x27).bind fun x28 =>
bif (x28.2 != (0)) then (
some (.inr (false))) else (
(g10 n x28.1 c9).bind fun x31 =>
bif (!x31) then (
some (.inr (false))) else (
(g11 n x27).bind fun x32 =>
bif (x32 != (0)) then (
some (.inr (false))) else (
some (.inl (IntKind.wrap .i64 (v46 + (1))))))))) else (
(g7 n x27).bind fun x33 =>
bif (x33.2 != (0)) then (
some (.inr (false))) else (
(g10 n x33.1 c9).bind fun x34 =>
bif (!x34) then (
some (.inr (false))) else (
(g11 n x27).bind fun x35 =>
bif (x35 != (0)) then (
some (.inr (false))) else (
some (.inl (IntKind.wrap .i64 (v46 + (1)))))))))) else (
bif (v46 == (1)) then (
bif (c13 != (0)) then (
some (.inl (IntKind.wrap .i64 (v46 + (1))))) else (
(g7 n x27).bind fun x36 =>
bif (x36.2 != (0)) then (
some (.inr (false))) else (
(g10 n x36.1 c9).bind fun x37 =>
bif (!x37) then (
some (.inr (false))) else (
(g11 n x27).bind fun x38 =>
bif (x38 != (0)) then (
some (.inr (false))) else (
some (.inl (IntKind.wrap .i64 (v46 + (1))))))))) else (
(g7 n x27).bind fun x39 =>
bif (x39.2 != (0)) then (
some (.inr (false))) else (
(g10 n x39.1 c9).bind fun x40 =>
bif (!x40) then (
some (.inr (false))) else (
(g11 n x27).bind fun x41 =>
bif (x41 != (0)) then (
some (.inr (false))) else (
some (.inl (IntKind.wrap .i64 (v46 + (1)))))))))) else (
some (.inr (true)))
def g3 (n : Nat) (a0 : List TConfigGroup) (a1 : ByteArray) (a2 : ByteArray) (a3 : List ByteArray) : Option ρ3 :=
(g6 n).bind fun x23 =>
bif (!x23) then (
some (false)) else (
(g7 n a0).bind fun x24 =>
bif (x24.2 != (0)) then (
some (true)) else (
(g8 n a0 a1 a2).bind fun x25 =>
(g9 n a0 a1 a2 a3).bind fun x26 =>
iterO (fun y : Int => S3_0 n false x24.1 x25.2 x26.2 ([x25.1, x26.1] : List (List TConfigGroup)) (([x25.1, x26.1] : List (List TConfigGroup)).length : Int) y) n (0)))
abbrev ρ27 := (ByteArray)
def S27_0 (n : Nat) (a1 : ByteArray) (c4 : ByteArray) (a0 : List TConfigGroup) (c8 : Int) (v9 : Int) : Option ((Int) ⊕ ρ27) :=
bif (decide (v9 < c8)) then (
(getI a0 v9).bind fun x49 =>
(g23 n x49.Sectors a1).bind fun x50 =>
bif x50 then (
some (.inr (x49.Position))) else (
some (.inl (IntKind.wrap .i64 (v9 + (1)))))) else (
some (.inr (⟨#[]⟩ : ByteArray)))
def g27 (n : Nat) (a0 : List TConfigGroup) (a1 : ByteArray) : Option ρ27 :=
iterO (fun y : Int => S27_0 n a1 (⟨#[]⟩ : ByteArray) a0 (a0.length : Int) y) n (0)
abbrev ρ12 := ((List TConfigMove) × Int)
def S12_0 (n : Nat) (a0 : List TConfigGroup) (a1 : List TConfigGroup) (c5 : Int) (c34 : List ByteArray) (c35 : Int) (v36 : Int) (L90000 : List TConfigMove) : Option ((Int × List TConfigMove) ⊕ ρ12) :=
bif (decide (v36 < c35)) then (
(getI c34 v36).bind fun x48 =>
(g27 n a0 x48).bind fun x51 =>
(g27 n a1 x48).bind fun x52 =>
bif (!((x51).toList == (x52).toList)) then (
(roomO (L90000.length + ([(⟨x48, x51, x52⟩ : TConfigMove)] : List TConfigMove).length) 48).bind fun x54 =>
some (.inl ((IntKind.wrap .i64 (v36 + (1))), (L90000 ++ ([(⟨x48, x51, x52⟩ : TConfigMove)] : List TConfigMove))))) else (
some (.inl ((IntKind.wrap .i64 (v36 + (1))), L90000)))) else (
some (.inr (L90000, (0))))
def g12 (n : Nat) (a0 : List TConfigGroup) (a1 : List TConfigGroup) : Option ρ12 :=
(g7 n a0).bind fun x45 =>
bif (x45.2 != (0)) then (
some ([], x45.2)) else (
(g7 n a1).bind fun x46 =>
bif (x46.2 != (0)) then (
some ([], x46.2)) else (
(g10 n x45.1 x46.1).bind fun x47 =>
bif (!x47) then (
some ([], (19))) else (
iterO (fun y : Int × List TConfigMove => S12_0 n a0 a1 (0) x45.1 (x45.1.length : Int) y.1 y.2) n ((0), []))))
abbrev ρ14 := (Bool)
def g14 (n : Nat) (a0 : TConfigGroup) (a1_0 : ByteArray) : Option ρ14 :=
some ((a0.Position).toList == (a1_0).toList)
def S13_0_x1 (n : Nat) (a0 : List TConfigGroup) (a1_0_0 : ByteArray) (c4 : Int) (c7 : Int) (v8 : Int) : Option ((Int) ⊕ ρ13) :=
bif (decide (v8 < c7)) then (
(getI a0 v8).bind fun x57 =>
(g14 n x57 a1_0_0).bind fun x58 =>
bif x58 then (
some (.inr (v8))) else (
some (.inl (IntKind.wrap .i64 (v8 + (1)))))) else (
some (.inr (-1)))
def g13_1 (n : Nat) (a0 : List TConfigGroup) (a1_0_0 : ByteArray) : Option ρ13 :=
iterO (fun y : Int => S13_0_x1 n a0 a1_0_0 (0) (a0.length : Int) y) n (0)
abbrev ρ4 := (Bool)
def g4 (n : Nat) (a0 : List TConfigGroup) (a1 : ByteArray) (a2 : ByteArray) (a3 : List ByteArray) : Option ρ4 :=
(g6 n).bind fun x42 =>
bif (!x42) then (
some (false)) else (
(g9 n a0 a1 a2 a3).bind fun x43 =>
bif (x43.2 == (0)) then (
(g8 n x43.1 a1 a2).bind fun x44 =>
(g12 n a0 x44.1).bind fun x55 =>
bif (x44.2 != (0)) then (
some (false)) else (
bif (x55.2 != (0)) then (
some (false)) else (
bif (decide ((x55.1.length : Int) > (0))) then (
some (false)) else (
(g8 n a0 a1 a2).bind fun x56 =>
bif (x56.2 != (0)) then (
some (true)) else (
(g13_1 n a0 a2).bind fun x59 =>
bif (decide (x59 < (0))) then (
some (false)) else (
(getI a0 x59).bind fun x60 =>
(g9 n x56.1 a1 a2 x60.Sectors).bind fun x61 =>
(g12 n a0 x61.1).bind fun x62 =>
bif (x61.2 == (0)) then (
bif (x62.2 == (0)) then (
some ((x62.1.length : Int) == (0))) else (
some (false))) else (
some (false)))))))) else (
(g8 n a0 a1 a2).bind fun x63 =>
bif (x63.2 != (0)) then (
some (true)) else (
(g13_1 n a0 a2).bind fun x64 =>
bif (decide (x64 < (0))) then (
some (false)) else (
(getI a0 x64).bind fun x65 =>
(g9 n x63.1 a1 a2 x65.Sectors).bind fun x66 =>
(g12 n a0 x66.1).bind fun x67 =>
bif (x66.2 == (0)) then (
bif (x67.2 == (0)) then (
some ((x67.1.length : Int) == (0))) else (
some (false))) else (
some (false))))))
end Go.Proofs.Ythjcdlbkdobmiaa
