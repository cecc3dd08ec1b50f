/- Delete and Insert of elements with slices inside: their cells are carried as they are. -/
import Derived.Test.YtfncpfnanmoapaaPI
set_option linter.unusedVariables false
set_option linter.unusedSimpArgs false
namespace Go.Proofs.Ytfncpfnanmoapaa
open Go.RowKit

section
variable {P : Program} {gl : Nat → Option (List AV)} {α : Type} {E : En α}
/- an element with the values of its cells -/
abbrev Raw (E : En α) := { p : α × List Value // p.2.length = E.size }
def EnO (E : En α) : En (Raw E) where
  size := E.size
  enc p := p.1.2.map .sc
  len p := by rw [List.length_map]; exact p.2
  pos := E.pos
  cell p := by simp [isCell]
  cln p := by
    have : ∀ l : List Value, cleans (l.map AV.sc) = true := by
      intro l
      induction l with
      | nil => rfl
      | cons x l ih => simp [cleans, clean, ih]
    exact this _
  nrm p := by
    have : ∀ l : List Value, norms (l.map AV.sc) = l.map AV.sc := by
      intro l
      induction l with
      | nil => rfl
      | cons x l ih => simp [norms, norm, ih]
    exact this _
theorem EnO.sc : ScE (EnO E) := fun p => by
  show (p.1.2.map AV.sc).all isScA = true
  rw [List.all_map, List.all_eq_true]
  intro x _
  rfl
def rawL (L : List (Raw E)) : List Value := L.flatMap fun p => p.1.2
/- cells that are numbers, texts or slices -/
def SlE (E : En α) : Prop := ∀ x, ∀ a ∈ E.enc x, (∃ v, a = .sc v) ∨ ∃ k cs ex, a = .lst k cs ex
/- a block's cells under another reading -/
def setM (c : Cx) (id : Nat) (b : ABlk) : Cx := { c with M := fun j => if j = id then some b else c.M j }
/- read the cells as they are -/
/- and back -/
end
end Go.Proofs.Ytfncpfnanmoapaa
