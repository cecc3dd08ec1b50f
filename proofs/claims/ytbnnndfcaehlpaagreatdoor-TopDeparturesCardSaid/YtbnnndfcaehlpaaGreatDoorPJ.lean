/- slices.Concat: what it answers as a plain list; sorts of texts. -/
import Derived.Test.YtbnnndfcaehlpaaGreatDoorPI
import Derived.Sort.Grow
set_option linter.unusedVariables false
set_option linter.unusedSimpArgs false
namespace Go.Proofs.YtbnnndfcaehlpaaGreatDoor
open Go.RowKit

section
variable {α : Type} {E : En α} {P : Program} {K : Cfg} {gl : Nat → Option (List AV)}
def catO {α : Type} (by_ : Nat) (L : List (List α)) : Option (List α) := if L.length ≤ 4611686018427387904 ∧ L.flatten.length * by_ ≤ 281474976710656 ∧ L.flatten.length ≤ 4611686018427387904 then some L.flatten else none
/- the answer as it is -/
end
section
variable {α : Type} {E : En α} {P : Program} {gl : Nat → Option (List AV)}
def lenO {α : Type} (l : List α) : Option Unit := if l.length < 4611686018427387904 then some () else none
/- a literal slice that nobody writes any more, handed to a call -/
end
section
variable {P : Program} {gl : Nat → Option (List AV)} {look : Nat → Option ABlk} {m : Mem}
/- interfaces: nil or not -/
def ifcE : En Bool where
  size := 1
  enc p := [.ifc p]
  len _ := rfl
  pos := by decide
  cell _ := rfl
  cln _ := rfl
  nrm _ := rfl
theorem ifcE.nf : NoFn ifcE := by
  intro x c hc f l
  simp only [ifcE, List.mem_singleton] at hc
  subst hc
  exact fun h => by cases h
/- what was there is as it was -/
structure Kept (w w' : World) : Prop where
  os : w'.os = w.os
  tape : w'.tape = w.tape
  output : w'.output = w.output
  size : w.heap.size ≤ w'.heap.size
  blk : ∀ b, b < w.heap.size → w'.heap[b]? = w.heap[b]?
  drawn : dr w ≤ dr w'
theorem Kept.refl (w : World) : Kept w w := ⟨rfl, rfl, rfl, Nat.le_refl _, fun _ _ => rfl, Nat.le_refl _⟩
theorem Kept.alloc (w : World) (o : Obj) : Kept w (w.alloc o) := ⟨rfl, rfl, rfl, by simp, fun b hb => Below.heap_alloc w o b hb, Nat.le_refl _⟩
theorem Kept.grow (w : World) (k : Nat) (os : Array Obj) : Kept w (Sort.grow (w.drewN k) os) := ⟨rfl, rfl, rfl, by simp [Sort.grow], fun b hb => by
  show ((w.heap ++ os : Array Obj))[b]? = _
  rw [Array.getElem?_append_left hb], dr_le (Nat.le_add_right _ _)⟩
/- a contract of the kit's, as what a function says -/
end
/- texts joined -/
section
variable {P : Program}
def strO (a b : ByteArray) : Option ByteArray := if a.size + b.size ≤ 9223372036854775807 then some (a ++ b) else none
end
theorem opA_shr1 {P : Program} {t yt ty n : Nat} {look : Nat → Option ABlk} {a : Int} : opA P (.binOp .shr t (.tmp 0) (.tmp 1) yt) ty [.sc (.int .u64 a), .sc (.int .u64 1)] look n = some (.sc (.int .u64 (a.fdiv 2)), []) := by
  have h : opA P (.binOp .shr t (.tmp 0) (.tmp 1) yt) ty [.sc (.int .u64 a), .sc (.int .u64 1)] look n = some (.sc (match pureRun P (Op.shift .shr .u64 a .u64 1) with | some v => v | _ => undef), []) := rfl
  rw [h]
  simp [Op.shift, IntKind.bits]
  rfl
/- slices in cells at the head of a loop; slices of functions -/
/- a slice of slices, laid as a literal -/
def rowAV (x : AV) : Prop := acells x = some [x] ∧ isCell x = true
/- a part of an element, stored -/
end Go.Proofs.YtbnnndfcaehlpaaGreatDoor
