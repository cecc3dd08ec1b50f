/- A part. -/
import Derived.Test.YtbfabclpcamlnaaGreatDoorPJ
import Derived.KernelRfl
set_option linter.unusedVariables false
set_option linter.unusedSimpArgs false
namespace Go.Proofs.YtbfabclpcamlnaaGreatDoor
open Go.RowKit
abbrev iP (x : Nat) : AV := .sc (.float .f64 x)
def zS : En Nat where
  size := 1
  enc x := [iP x]
  len _ := rfl
  pos := by decide
  cell _ := rfl
  Di _ := rfl
  R1 _ := rfl
def Aa0 : En Int where
  size := 1
  enc x := [.sc (.int .u64 x)]
  len _ := rfl
  pos := by decide
  cell _ := rfl
  Di _ := rfl
  R1 _ := rfl
theorem zS.nf : H2 zS := by intro x c hc f l; simp only [zS, List.mem_singleton] at hc; subst hc; exact (fun h => by cases h)
theorem Aa0.nf : H2 Aa0 := by intro x c hc f l; simp only [Aa0, List.mem_singleton] at hc; subst hc; exact (fun h => by cases h)
def Aga (a b : Nat) : Option Nat := FloatKind.f64.format.add a b
def Af9 (a b : Nat) : Option Nat := FloatKind.f64.format.sub a b
def Af8 (a b : Nat) : Option Nat := FloatKind.f64.format.mul a b
def Af4 (a b : Nat) : Option Nat := FloatKind.f64.format.div a b
def Yp (a b : Nat) : Option Ordering := FloatKind.f64.format.order a b
def fEq (a b : Nat) : Bool := Yp a b == some .eq
def fNe (a b : Nat) : Bool := Yp a b != some .eq
def fLt (a b : Nat) : Bool := Yp a b == some .lt
def fLe (a b : Nat) : Bool := Yp a b == some .lt || Yp a b == some .eq
def fGt (a b : Nat) : Bool := Yp a b == some .gt
def fGe (a b : Nat) : Bool := Yp a b == some .gt || Yp a b == some .eq
def Agp (a : Nat) : Nat := Op.negFloat .f64 a
def i2f (z : Int) : Nat := FloatKind.f64.nearest z
def Ag2 (k : IntKind) (x : Nat) : Option Int := match (FloatKind.f64.decode x).toInt .zero with
  | some n => if k.min ≤ n ∧ n ≤ k.max then some n else none
  | none => none
def Aex (x : Nat) : Option Nat := match FloatKind.f64.decode x with
  | .nan _ _ => none
  | d => some (FloatKind.f64.encode (d.integral .down))
def Ahm (k : IntKind) (x y : Int) : Int := k.wrap (BitVec.ofInt k.bits x &&& BitVec.ofInt k.bits y).toNat
def bOr (k : IntKind) (x y : Int) : Int := k.wrap (BitVec.ofInt k.bits x ||| BitVec.ofInt k.bits y).toNat
def Ahv (k : IntKind) (x y : Int) : Int := k.wrap (BitVec.ofInt k.bits x ^^^ BitVec.ofInt k.bits y).toNat
def Aec (k : IntKind) (x y : Int) : Int := k.wrap (BitVec.ofInt k.bits x &&& ~~~(BitVec.ofInt k.bits y)).toNat
def Ag9 (k : IntKind) (a b : Int) : Option Int := if b < 0 then none else some (a.fdiv (2 ^ min b.toNat k.bits))
def Ag6 (k : IntKind) (a b : Int) : Option Int := if b < 0 then none else some (k.wrap (a * 2 ^ min b.toNat k.bits))
section
variable {P : Program} {look : Nat → Option Bi} {t yt ty n : Nat}
end
end Go.Proofs.YtbfabclpcamlnaaGreatDoor
