/- Library functions that change a slice of the run's own in place: a run over the one block alone, and what it is to the caller. -/
import Derived.Test.YteaimbiojpjneaaGreatDoorPF
import Derived.KernelRfl
set_option linter.unusedVariables false
set_option linter.unusedSimpArgs false
namespace Go.Proofs.YteaimbiojpjneaaGreatDoor
open Go.RowKit

section
variable {α : Type} {E : En α} {P : Program} {K : Cfg} {gl : Nat → Option (List AV)}
/- a slice of the run's own whose block may have room beyond it -/
def blkW (E : En α) (id : Nat) (l : List α) : AV := .sl id 0 E.size l.length l.length false
def MutO (E : En α) (ty : Nat) (l' : List α) (u : AV) (m : Mem) : Prop := ∃ k cap ex rest, u = .sl k 0 E.size l'.length cap ex ∧ mget m k = some ⟨encs E l' ++ rest, ty⟩
def less (look : Nat → Option ABlk) (id : Nat) : Nat → Option ABlk := fun j => bif Nat.beq j id then none else look j
def callN (P : Program) (gl : Nat → Option (List AV)) (m : Mem) (nx : Nat) (f : FuncId) (args : List AV) (R : AV → Mem → Prop) : Prop :=
  Plainly P f ∧ ∀ (B : Nat) (c : Cx) (vals : List Value), Good B c → GlobOk gl c → (∀ id, c.M id = mget m id) → (∀ id, c.al id → id < nx) → Rels c args vals → Calls P f vals.toArray c.w (fun e w' => ∃ v m' nx', R v m' ∧ CallPost B { c with al := fun _ => False } v m' nx' e w')
/- Delete -/
def delO {α : Type} (by_ : Nat) (l : List α) (i j : Int) : Option (List α) := if 0 ≤ i ∧ i < j ∧ j ≤ l.length ∧ l.length * by_ ≤ 140737488355328 ∧ l.length ≤ 4611686018427387904 then some (l.take i.toNat ++ l.drop j.toNat) else none
/- the block after the append, and after the rest is cleared -/
/- a part of a slice of the run's own, to be read -/
def subV (E : En α) (id n lo k : Nat) : AV := bif Nat.beq lo n then .lst 0 [] false else .sl id (0 + lo * E.size) E.size k (n - lo) false
/- functions that change their first argument in place, by extraction -/
def neO {α : Type} (l : List α) : Option Unit := match l with | [] => none | _ :: _ => some ()
theorem mget_appW_e {m : Mem} {n id ty : Nat} {l xs : List α} (hx : xs ≠ []) (h : n ≠ id) : mget (mpushs m (appW E n id ty l xs)) n = ownB E ty (l ++ xs) := by
  cases xs with
  | nil => exact absurd rfl hx
  | cons x xs => exact mget_appW_n h
def clrL {α : Type} (z : α) (l y : List α) (lo : Nat) : List α := l.take lo ++ List.replicate y.length z ++ l.drop (lo + y.length)
end
end Go.Proofs.YteaimbiojpjneaaGreatDoor
