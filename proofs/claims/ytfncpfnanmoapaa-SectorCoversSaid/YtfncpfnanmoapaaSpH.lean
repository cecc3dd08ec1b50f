/- Facts by the evaluator that knows some answers from the plain programs. -/
import Derived.Test.YtfncpfnanmoapaaSvH
import Derived.Test.YtfncpfnanmoapaaPY
set_option linter.unusedVariables false
set_option linter.unusedSimpArgs false
set_option maxRecDepth 100000
namespace Go.Proofs.Ytfncpfnanmoapaa
open Go.RowKit Go.Shelf

def beqV : Value → Value → Bool
  | .int k z, .int k' z' => decide (k = k') && decide (z = z')
  | .string s, .string s' => decide (s = s')
  | _, _ => false
theorem beqV_eq {a b : Value} (h : beqV a b = true) : a = b := by
  unfold beqV at h
  split at h
  · simp at h; rw [h.1, h.2]
  · simp at h; rw [h]
  · cases h
mutual
def beqA : AV → AV → Bool
  | .sc v, .sc v' => beqV v v'
  | .agg l, .agg l' => beqAs l l'
  | .lst n l ex, .lst n' l' ex' => Nat.beq n n' && beqAs l l' && (ex == ex')
  | _, _ => false
def beqAs : List AV → List AV → Bool
  | [], [] => true
  | x :: xs, y :: ys => beqA x y && beqAs xs ys
  | _, _ => false
end
mutual
theorem beqA_eq : ∀ (a b : AV), beqA a b = true → a = b
  | .sc v, b, h => by
    cases b <;> simp only [beqA, Bool.false_eq_true] at h
    rw [beqV_eq h]
  | .agg l, b, h => by
    cases b <;> simp only [beqA, Bool.false_eq_true] at h
    rw [beqAs_eq _ _ h]
  | .lst n l ex, b, h => by
    cases b <;> simp only [beqA, Bool.false_eq_true, Bool.and_eq_true] at h
    obtain ⟨⟨h1, h2⟩, h3⟩ := h
    rw [Nat.eq_of_beq_eq_true h1, beqAs_eq _ _ h2, beq_iff_eq.1 h3]
  | .und, b, h => by simp [beqA] at h
  | .tup _, b, h => by simp [beqA] at h
  | .nilp, b, h => by simp [beqA] at h
  | .ptr .., b, h => by simp [beqA] at h
  | .ept .., b, h => by simp [beqA] at h
  | .nils, b, h => by simp [beqA] at h
  | .sl .., b, h => by simp [beqA] at h
  | .fn .., b, h => by simp [beqA] at h
  | .ifc _, b, h => by simp [beqA] at h
theorem beqAs_eq : ∀ (a b : List AV), beqAs a b = true → a = b
  | [], [], _ => rfl
  | x :: xs, y :: ys, h => by
    simp only [beqAs, Bool.and_eq_true] at h
    rw [beqA_eq _ _ h.1, beqAs_eq _ _ h.2]
  | [], _ :: _, h => by simp [beqAs] at h
  | _ :: _, [], h => by simp [beqAs] at h
end
def secA : TSector := ⟨⟨#[65]⟩, [⟨[⟨0, 0⟩, ⟨10, 0⟩, ⟨10, 10⟩, ⟨0, 10⟩], 0, 100⟩]⟩
def L0 : List TSector := [secA, ⟨⟨#[66]⟩, [⟨[⟨10, 0⟩, ⟨20, 0⟩, ⟨20, 10⟩, ⟨10, 10⟩], 0, 100⟩]⟩]
def L1 : List TSector := L0 ++ [secA]
def T0 : List TTubeNode := [⟨0, 5, 5, 50, 0, 0⟩, ⟨10, 15, 5, 50, 0, 0⟩]
def cf0 : CallF := fun f args m nx => match args with
  | [a] => bif f == 22 then (bif beqA a (lstA TTubeNode.E T0) then (g22 1000 T0).map fun z => (intA z, m, nx) else none)
    else bif f == 14 then (bif beqA a (lstA TSector.E L0) then (g14 1000 L0).map fun z => (intA z, m, nx)
      else bif beqA a (lstA TSector.E L1) then (g14 1000 L1).map fun z => (intA z, m, nx) else none)
    else none
  | [a, .sc (.int .i64 u)] => bif f == 47 then (bif beqA a (lstA TTubeNode.E T0) then (g47 1000 T0 u).map fun x => (nodeA x, m, nx) else none) else none
  | [a, .agg [.sc (.int .i64 x), .sc (.int .i64 y)], .sc (.int .i64 z)] => bif f == 20 then (bif beqA a (lstA TSector.E L0) then (g20 1000 L0 (⟨x, y⟩ : TP) z).map fun i => (intA i, m, nx) else none) else none
  | _ => none
theorem bif_then {α : Type} {b : Bool} {x : Option α} {y : α} (h : (bif b then x else none) = some y) : b = true ∧ x = some y := by
  cases b
  · cases h
  · exact ⟨rfl, h⟩
theorem bif_or {α : Type} {b : Bool} {x z : Option α} {y : α} (h : (bif b then x else z) = some y) : (b = true ∧ x = some y) ∨ z = some y := by
  cases b
  · exact .inr h
  · exact .inl ⟨rfl, h⟩
theorem cf0_ok : CallOk Try.prog KF.gl cf0 := by
  intro f args m nx v m' nx' h
  unfold cf0 at h
  split at h
  · rename_i a
    rcases bif_or h with ⟨hf, h1⟩ | h1
    · obtain ⟨hb, h2⟩ := bif_then h1
      obtain ⟨z, hz, e⟩ := Option.map_eq_some_iff.1 h2
      cases e
      rw [beqA_eq _ _ hb, beq_iff_eq.1 hf]
      exact callPost_of_says (K := KF) (sg22 hz)
    · obtain ⟨hf, h2⟩ := bif_then h1
      rw [beq_iff_eq.1 hf]
      rcases bif_or h2 with ⟨hb, h3⟩ | h3
      · obtain ⟨z, hz, e⟩ := Option.map_eq_some_iff.1 h3
        cases e
        rw [beqA_eq _ _ hb]
        exact callPost_of_says (K := KF) (sg14 hz)
      · obtain ⟨hb, h4⟩ := bif_then h3
        obtain ⟨z, hz, e⟩ := Option.map_eq_some_iff.1 h4
        cases e
        rw [beqA_eq _ _ hb]
        exact callPost_of_says (K := KF) (sg14 hz)
  · obtain ⟨hf, h1⟩ := bif_then h
    rw [beq_iff_eq.1 hf]
    obtain ⟨hb, h2⟩ := bif_then h1
    obtain ⟨z, hz, e⟩ := Option.map_eq_some_iff.1 h2
    cases e
    rw [beqA_eq _ _ hb]
    exact callPost_of_says (K := KF) (sg47 hz)
  · obtain ⟨hf, h1⟩ := bif_then h
    rw [beq_iff_eq.1 hf]
    obtain ⟨hb, h2⟩ := bif_then h1
    obtain ⟨z, hz, e⟩ := Option.map_eq_some_iff.1 h2
    cases e
    rw [beqA_eq _ _ hb]
    exact callPost_of_says (K := KF) (sg20 hz)
  · cases h
def sp0 : CallF := fun f args m nx =>
  bif f == 23 then (match mapO (snap (mget m) 6) args with
    | some [a, b] => bif beqA a (lstA TSector.E L0) && beqA b (lstA TTubeNode.E T0) then (g23 1000 L0 T0).map fun r => (lstA TSectorVisit.E r, m, nx) else none
    | _ => none)
  else bif f == 22 || f == 14 || f == 47 || f == 20 then (match pureCall cf0 (mget m) f args with
    | some (v, []) => some (v, m, nx)
    | _ => none) else none
theorem sp0_ok : CallOk Try.prog KF.gl sp0 := by
  intro f args m nx v m' nx' h
  unfold sp0 at h
  rcases bif_or h with ⟨hf, h1⟩ | h1
  · rw [beq_iff_eq.1 hf]
    split at h1
    · rename_i a b har
      obtain ⟨hb, h2⟩ := bif_then h1
      simp only [Bool.and_eq_true] at hb
      obtain ⟨r, hr0, e⟩ := Option.map_eq_some_iff.1 h2
      cases e
      rw [beqA_eq _ _ hb.1, beqA_eq _ _ hb.2] at har
      refine ⟨⟨Try.f23, _, Try.func23, rfl, by kernel_rfl⟩, fun B c vals g hgl hM ha hr => ?_⟩
      obtain ⟨Bb, st, so, hgb⟩ := vis_bare g hgl
      have hrr : Rels (c.alone c.no) [lstA TSector.E L0, lstA TTubeNode.E T0] vals := mapO_rel (fun z _ u y r h => snap_rel (c := c) (c0 := c.alone c.no) g rfl st so (look := mget m) (fun id b hb => by rw [hM]; exact hb) 6 r h) hr har
      cases hrr with
      | cons r1 hrr =>
      cases hrr with
      | cons r2 hrr =>
      cases hrr
      refine (vis_calls hr0 Bb (fun _ h => h) hgb r1 r2).mono ?_
      rintro e w' ⟨v, rfl, hk, hrow⟩
      exact ⟨v, { c with w := w' }, rfl, rfl, vis_val g hrow, kept_step hk, kept_good g hk, hM, ha⟩
    · cases h1
  · obtain ⟨-, h2⟩ := bif_then h1
    split at h2
    · rename_i v0 hp
      simp only [Option.some.injEq, Prod.mk.injEq] at h2
      obtain ⟨rfl, rfl, rfl⟩ := h2
      obtain ⟨-, hpl⟩ := pureCall_pre cf0_ok hp
      refine ⟨hpl, fun B c vals g hgl hM ha hr => ?_⟩
      refine (pureCall_ok cf0_ok g hgl (look := mget m) (fun id b hb => by rw [hM]; exact hb) hr hp).2.2.mono ?_
      rintro e w' ⟨v', c', k1, k2, k3, k4, k5, k6, k7⟩
      exact ⟨v', c', k1, k2, k3, k4, k5, fun id => (k6 id).trans (hM id), fun id hid => ha id ((k7 id).1 hid)⟩
    · cases h2
end Go.Proofs.Ytfncpfnanmoapaa
