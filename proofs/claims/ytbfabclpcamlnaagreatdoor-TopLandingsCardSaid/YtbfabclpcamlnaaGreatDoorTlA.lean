/- Parts Chart, Cmp, BeC. -/
import Derived.Test.YtbfabclpcamlnaaGreatDoorMath2
import Derived.Test.YtbfabclpcamlnaaGreatDoorX1G
import Derived.Test.YtbfabclpcamlnaaGreatDoorMath
set_option linter.unusedVariables false
set_option linter.unusedSimpArgs false
namespace Go.Proofs.YtbfabclpcamlnaaGreatDoor
theorem lW (n : Nat) (hn : 16 < n) (s : ByteArray) : ∃ b, g61 n s = some b := by
  unfold g61
  by_cases h1 : (s.size : Int) < 1
  · simp [h1]
  by_cases h2 : (s.size : Int) > 8
  · simp [h1, h2]
  have hl : s.data.toList.length = s.size := Array.length_toList
  rw [decide_eq_false h1, decide_eq_false h2, Jg (by omega) (by omega)]
  simp only [cond_false, Option.bind_some]
  obtain ⟨r, h, -⟩ := Et (S := fun y : Int => Lu n false (s.data.toList) ((s.data.toList).length : Int) y) (fun x => ∃ i : Nat, i ≤ s.data.toList.length ∧ x = (i : Int)) (fun _ => True) (fun x => s.data.toList.length - x.toNat) (by
    rintro _ ⟨i, hi, rfl⟩
    rcases Nat.lt_or_ge i s.data.toList.length with hlt | hge
    · have hx := Cw (List.getElem?_eq_getElem hlt)
      have hw := wS (i := i) (by omega)
      have key : Lu n false (s.data.toList) ((s.data.toList).length : Int) (i : Int) = some (.inl (((i + 1 : Nat) : Int))) ∨ ∃ r, Lu n false (s.data.toList) ((s.data.toList).length : Int) (i : Int) = some (.inr r) := by
        unfold Lu
        rw [decide_eq_true (show (i : Int) < _ by omega), hx, hw]
        simp only [cond_true, Option.bind_some]
        repeat' (rw [Bool.cond_eq_ite]; split)
        all_goals simp
      rcases key with k | ⟨r, k⟩
      · exact .inl ⟨_, k, ⟨i + 1, hlt, rfl⟩, by simp; omega⟩
      · exact .inr ⟨r, k, trivial⟩
    · have : i = s.data.toList.length := by omega
      subst this
      refine .inr ⟨true, ?_, trivial⟩
      unfold Lu
      simp) n 0 ⟨0, Nat.zero_le _, rfl⟩ (by simp; omega)
  exact ⟨r, h⟩
end Go.Proofs.YtbfabclpcamlnaaGreatDoor
set_option linter.unusedVariables false
set_option linter.unusedSimpArgs false
namespace Go.Proofs.YtbfabclpcamlnaaGreatDoor
theorem sN (n : Nat) (a b : ByteArray) : g96 n a b = some (sD a b) := by
  unfold g96 iE
  simp only [beq_self_eq_true, Bool.not_true, Option.bind_some, cond_false, sD]
  rcases Rm a.toList b.toList with h | h | h
  · simp [h]
  · have := Rh _ _ h
    have hne : (a.toList == b.toList) = false := by
      cases hq : a.toList == b.toList with
      | false => rfl
      | true => rw [beq_iff_eq.1 hq, Qu] at h; cases h
    simp [h, this, hne]
  · rw [h]; simp [Qu]
end Go.Proofs.YtbfabclpcamlnaaGreatDoor
set_option linter.unusedVariables false
set_option linter.unusedSimpArgs false
namespace Go.Proofs.YtbfabclpcamlnaaGreatDoor
theorem Xz (n : Nat) (o : List Int) (i : Int) (hl : o.length ≤ 1000000) (hn : o.length < n) : Zw n o i = some (Em (fun x => i == x) o) := by
  unfold Zw
  refine Jk (fun x => i == x) o (by omega) (S := fun y : Int => Ii n o i (0) (o.length : Int) y) (fun j x hx => ?_) ?_ n hn
  · have := Dn hx
    show Ii n o i (0) (o.length : Int) (j : Int) = _
    unfold Ii
    rw [decide_eq_true (show (j : Int) < _ by omega), Cw hx, wS (by omega)]
    simp only [cond_true, Option.bind_some]
    by_cases h : (i == x) = true <;> simp [h]
  · show Ii n o i (0) (o.length : Int) (o.length : Int) = _
    unfold Ii
    simp
theorem contains_eq (n : Nat) (o : List Int) (i : Int) (hl : o.length ≤ 1000000) (hn : o.length < n) : nQ n o i = some (decide (i ∈ o)) := by
  unfold nQ
  rw [Xz n o i hl hn]
  have h := Jx (fun x => i == x) o
  have e : (some (decide (Em (fun x => i == x) o ≥ 0)) : Option Bool) = some (decide (i ∈ o)) := by
    rw [Option.some.injEq, decide_eq_decide]
    generalize Em (fun x => i == x) o = z at h ⊢
    constructor
    · intro h0
      refine Classical.byContradiction fun hn => ?_
      have := h.2 (fun x hx => by simp; rintro rfl; exact hn hx)
      omega
    · intro hi
      have : ¬ z < 0 := fun q => by have := h.1 q i hi; simp at this
      omega
  exact e
end Go.Proofs.YtbfabclpcamlnaaGreatDoor
