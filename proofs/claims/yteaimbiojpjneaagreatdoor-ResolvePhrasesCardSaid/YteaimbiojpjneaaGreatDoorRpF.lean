/- Facts by the evaluator that knows some answers from the plain programs. -/
import Derived.Test.YteaimbiojpjneaaGreatDoorX1E2
import Derived.Test.YteaimbiojpjneaaGreatDoorPY
set_option linter.unusedVariables false
set_option linter.unusedSimpArgs false
set_option maxRecDepth 100000
namespace Go.Proofs.YteaimbiojpjneaaGreatDoor
open Go.RowKit

def beqV : Value → Value → Bool
  | .int k z, .int k' z' => decide (k = k') && decide (z = z')
  | .string s, .string s' => decide (s = s')
  | _, _ => false
theorem beqV_eq {a b : Value} (h : beqV a b = true) : a = b := by
  unfold beqV at h
  split at h
  · simp at h; rw [h.1, h.2]
  · simp at h; rw [h]
  · cases h
mutual
def beqA : AV → AV → Bool
  | .sc v, .sc v' => beqV v v'
  | .agg l, .agg l' => beqAs l l'
  | .lst n l ex, .lst n' l' ex' => Nat.beq n n' && beqAs l l' && (ex == ex')
  | _, _ => false
def beqAs : List AV → List AV → Bool
  | [], [] => true
  | x :: xs, y :: ys => beqA x y && beqAs xs ys
  | _, _ => false
end
mutual
theorem beqA_eq : ∀ (a b : AV), beqA a b = true → a = b
  | .sc v, b, h => by
    cases b <;> simp only [beqA, Bool.false_eq_true] at h
    rw [beqV_eq h]
  | .agg l, b, h => by
    cases b <;> simp only [beqA, Bool.false_eq_true] at h
    rw [beqAs_eq _ _ h]
  | .lst n l ex, b, h => by
    cases b <;> simp only [beqA, Bool.false_eq_true, Bool.and_eq_true] at h
    obtain ⟨⟨h1, h2⟩, h3⟩ := h
    rw [Nat.eq_of_beq_eq_true h1, beqAs_eq _ _ h2, beq_iff_eq.1 h3]
  | .und, b, h => by simp [beqA] at h
  | .tup _, b, h => by simp [beqA] at h
  | .nilp, b, h => by simp [beqA] at h
  | .ptr .., b, h => by simp [beqA] at h
  | .ept .., b, h => by simp [beqA] at h
  | .nils, b, h => by simp [beqA] at h
  | .sl .., b, h => by simp [beqA] at h
  | .fn .., b, h => by simp [beqA] at h
  | .ifc _, b, h => by simp [beqA] at h
theorem beqAs_eq : ∀ (a b : List AV), beqAs a b = true → a = b
  | [], [], _ => rfl
  | x :: xs, y :: ys, h => by
    simp only [beqAs, Bool.and_eq_true] at h
    rw [beqA_eq _ _ h.1, beqAs_eq _ _ h.2]
  | [], _ :: _, h => by simp [beqAs] at h
  | _ :: _, [], h => by simp [beqAs] at h
end
theorem bif_then {α : Type} {b : Bool} {x : Option α} {y : α} (h : (bif b then x else none) = some y) : b = true ∧ x = some y := by
  cases b
  · cases h
  · exact ⟨rfl, h⟩
theorem bif_or {α : Type} {b : Bool} {x z : Option α} {y : α} (h : (bif b then x else z) = some y) : (b = true ∧ x = some y) ∨ z = some y := by
  cases b
  · exact .inr h
  · exact .inl ⟨rfl, h⟩
def stl (x : Int) : List TTubeNode := [⟨0, x, 0, 0, 0, 0⟩, ⟨10, x, 0, 0, 0, 0⟩]
def lvl : List TTubeNode := [⟨0, 0, 0, 9000, 100, 50⟩, ⟨100, 10000, 0, 9000, 100, 50⟩]
def pickT (a : AV) : Option (List TTubeNode) := bif beqA a (lstA TTubeNode.E (stl 0)) then some (stl 0) else bif beqA a (lstA TTubeNode.E (stl 100)) then some (stl 100) else bif beqA a (lstA TTubeNode.E lvl) then some lvl else none
theorem pickT_eq {a : AV} {l : List TTubeNode} (h : pickT a = some l) : a = lstA TTubeNode.E l := by
  unfold pickT at h
  cases h1 : beqA a (lstA TTubeNode.E (stl 0)) with
  | true => rw [h1, cond_true] at h; rw [← Option.some.inj h]; exact beqA_eq _ _ h1
  | false =>
    rw [h1, cond_false] at h
    cases h2 : beqA a (lstA TTubeNode.E (stl 100)) with
    | true => rw [h2, cond_true] at h; rw [← Option.some.inj h]; exact beqA_eq _ _ h2
    | false =>
      rw [h2, cond_false] at h
      obtain ⟨h3, h4⟩ := bif_then h
      rw [← Option.some.inj h4]; exact beqA_eq _ _ h3
def cf0 : CallF := fun f args m nx => match args with
  | [a, b, .agg [.sc (.int .i64 x), .sc (.int .i64 y)]] => bif f == 42 then (pickT a).bind fun l => (pickT b).bind fun k => (g42 1000 l k (⟨x, y⟩ : TSep)).map fun z => (.tup [intA z.1, intA z.2], m, nx) else none
  | _ => none
theorem cf0_ok : CallOk Tryz.prog KF.gl cf0 := by
  intro f args m nx v m' nx' h
  unfold cf0 at h
  split at h
  · obtain ⟨hf, h1⟩ := bif_then h
    obtain ⟨l, hl, h2⟩ := Option.bind_eq_some_iff.1 h1
    obtain ⟨k, hk, h3⟩ := Option.bind_eq_some_iff.1 h2
    obtain ⟨z, hz, e⟩ := Option.map_eq_some_iff.1 h3
    cases e
    rw [beq_iff_eq.1 hf, pickT_eq hl, pickT_eq hk]
    exact callPost_of_says (K := KF) (sg42 hz)
  · cases h
def sp0 : CallF := fun f args m nx =>
  bif f == 42 then (match pureCall cf0 (mget m) f args with
    | some (v, []) => some (v, m, nx)
    | _ => none) else none
theorem sp0_ok : CallOk Tryz.prog KF.gl sp0 := by
  intro f args m nx v m' nx' h
  unfold sp0 at h
  obtain ⟨-, h2⟩ := bif_then h
  split at h2
  · rename_i v0 hp
    simp only [Option.some.injEq, Prod.mk.injEq] at h2
    obtain ⟨rfl, rfl, rfl⟩ := h2
    obtain ⟨-, hpl⟩ := pureCall_pre cf0_ok hp
    refine ⟨hpl, fun B c vals g hgl hM ha hr => ?_⟩
    refine (pureCall_ok cf0_ok g hgl (look := mget m) (fun id b hb => by rw [hM]; exact hb) hr hp).2.2.mono ?_
    rintro e w' ⟨v', c', k1, k2, k3, k4, k5, k6, k7⟩
    exact ⟨v', c', k1, k2, k3, k4, k5, fun id => (k6 id).trans (hM id), fun id hid => ha id ((k7 id).1 hid)⟩
  · cases h2
end Go.Proofs.YteaimbiojpjneaaGreatDoor
