/- Tubes: small; At as a value. -/
import Derived.Test.YteaimbiojpjneaaGreatDoorTj1
set_option linter.unusedVariables false
set_option linter.unusedSimpArgs false
namespace Go.Proofs.YteaimbiojpjneaaGreatDoor

theorem small_cases (n : Nat) (hn : 64 < n) (L : List (List TTubeNode)) (m w : Int) (hL : (L.length : Int) ≤ m) (hL2 : L.length ≤ 64) : (g10 n L m w = some true ∧ ∀ l ∈ L, g24 n l = some 0 ∧ TubeOk l ∧ ∀ x0 x1, l[0]? = some x0 → l[l.length - 1]? = some x1 → x1.Node_Time - x0.Node_Time ≤ w) ∨ g10 n L m w = some false := by
  unfold g10
  rw [decide_eq_false (show ¬ (L.length : Int) > m by omega), cond_false]
  obtain ⟨r, hr, h⟩ := iter_each (S := fun y : Int => S10_0 n w false L (L.length : Int) y) L (fun i l => g24 n l = some 0 ∧ TubeOk l ∧ ∀ x0 x1, l[0]? = some x0 → l[l.length - 1]? = some x1 → x1.Node_Time - x0.Node_Time ≤ w) (fun r => r = false) true (fun i l hl => by
    have hlt := some_lt hl
    unfold S10_0
    rw [decide_eq_true (show (i : Int) < (L.length : Int) by omega), cond_true, getI_at hl, Option.bind_some, wS (by omega)]
    rcases check_tot n hn l with ⟨e, ok⟩ | ⟨z, hz, e⟩
    · rw [e, Option.bind_some, show ((0 : Int) != 0) = false from rfl, cond_false]
      have hp := ok.pos
      have hq := ok.len
      have hw : IntKind.wrap .i64 ((l.length : Int) - 1) = ((l.length - 1 : Nat) : Int) := by rw [wrap64 (by omega) (by omega)]; omega
      have h0 : l[0]? = some l[0] := List.getElem?_eq_getElem hp
      have h1 : l[l.length - 1]? = some l[l.length - 1] := List.getElem?_eq_getElem (by omega)
      have g0 : getI l 0 = some l[0] := getI_at (i := 0) h0
      have b0 := ok.nodes _ (List.mem_of_getElem? h0)
      have b1 := ok.nodes _ (List.mem_of_getElem? h1)
      rw [hw, getI_at h1, g0]
      simp only [Option.bind_some]
      rw [wrap64 (by have := b0.1; have := b0.2.1; have := b1.1; have := b1.2.1; omega) (by have := b0.1; have := b0.2.1; have := b1.1; have := b1.2.1; omega)]
      by_cases c : l[l.length - 1].Node_Time - l[0].Node_Time > w
      · right; rw [decide_eq_true c, cond_true]; exact ⟨_, rfl, rfl⟩
      · left; rw [decide_eq_false c, cond_false]
        refine ⟨rfl, by first | exact e | trivial, ok, fun x0 x1 k0 k1 => by rw [h0] at k0; rw [h1] at k1; cases k0; cases k1; omega⟩
    · right; rw [e, Option.bind_some, show (z != 0) = true from bne_iff_ne.2 hz, cond_true]; exact ⟨_, rfl, rfl⟩) (by
    unfold S10_0
    rw [decide_eq_false (Int.lt_irrefl _)]; rfl) n (by omega)
  rcases h with rfl | ⟨rfl, h⟩
  · exact .inr hr
  · left; exact ⟨hr, fun l hl => by obtain ⟨i, hi⟩ := List.getElem?_of_mem hl; exact h i l hi⟩
/- where two tubes differ -/
def atR (n : Nat) (l : List TTubeNode) (t : Int) : TTubeNode × Int := (g26 n l t).getD (zeroN, 12)
theorem atR_eq (n : Nat) (hn : 64 < n) (l : List TTubeNode) (h : TubeOk l) (hc : g24 n l = some 0) (t : Int) : g26 n l t = some (atR n l t) ∧ ((atR n l t).2 = 0 ∨ atR n l t = (zeroN, 12)) := by
  have hp := h.pos
  have h0 : l[0]? = some l[0] := List.getElem?_eq_getElem hp
  have h1 : l[l.length - 1]? = some l[l.length - 1] := List.getElem?_eq_getElem (by omega)
  rcases At_cases n hn l h hc t _ _ h0 h1 with ⟨-, -, r, -, e⟩ | ⟨-, e⟩
  · unfold atR; rw [e]; exact ⟨rfl, .inl rfl⟩
  · unfold atR; rw [e]; exact ⟨rfl, .inr rfl⟩
end Go.Proofs.YteaimbiojpjneaaGreatDoor
