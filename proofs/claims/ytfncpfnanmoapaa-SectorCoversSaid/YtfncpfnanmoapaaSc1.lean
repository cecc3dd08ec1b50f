/- Polygons: the functions answer at every input that their callers give. -/
import Derived.Test.YtfncpfnanmoapaaX1G
import Derived.Test.YtfncpfnanmoapaaMath2
set_option linter.unusedVariables false
set_option linter.unusedSimpArgs false
namespace Go.Proofs.Ytfncpfnanmoapaa

def POk (p : TP) : Prop := -1000000 ≤ p.X ∧ p.X ≤ 1000000 ∧ -1000000 ≤ p.Y ∧ p.Y ≤ 1000000
theorem pcheck (n : Nat) (p : TP) : (g19 n p = some 0 ∧ POk p) ∨ (g19 n p = some 4 ∧ ¬ POk p) := by
  unfold g19 POk
  simp only [cond_eq_ite, decide_eq_true_eq]
  repeat' split
  all_goals first | (right; exact ⟨rfl, by omega⟩) | (left; exact ⟨rfl, by omega⟩)
/- that something is answered -/
theorem bif_tot {α : Type} {b : Bool} {x y : Option α} (hx : ∃ r, x = some r) (hy : ∃ r, y = some r) : ∃ r, (bif b then x else y) = some r := by cases b <;> assumption
theorem bind_tot {α β : Type} {x : Option α} {f : α → Option β} (hx : ∃ a, x = some a) (hf : ∀ a, ∃ r, f a = some r) : ∃ r, x.bind f = some r := by
  obtain ⟨a, rfl⟩ := hx
  exact hf a
theorem getI_tot {α : Type} {l : List α} {i : Nat} (h : i < l.length) : ∃ x, getI l (i : Int) = some x := ⟨_, getI_at (List.getElem?_eq_getElem h)⟩
/- a loop over numbers that goes on by one, or ends -/
theorem iter_tot {ρ : Type} {S : Int → Option (Int ⊕ ρ)} (len : Nat) (h : ∀ i : Nat, i < len → S (i : Int) = some (.inl ((i + 1 : Nat) : Int)) ∨ ∃ r, S (i : Int) = some (.inr r)) (h0 : ∀ i : Nat, len ≤ i → ∃ r, S (i : Int) = some (.inr r)) (n start : Nat) (hn : len - start < n) : ∃ r, iterO S n (start : Int) = some r := by
  obtain ⟨r, hr, -⟩ := iterO_rule (S := S) (fun x => ∃ i : Nat, x = (i : Int)) (fun _ => True) (fun x => len - x.toNat) (by
    rintro _ ⟨i, rfl⟩
    rcases Nat.lt_or_ge i len with hlt | hge
    · rcases h i hlt with k | ⟨r, k⟩
      · exact .inl ⟨_, k, ⟨i + 1, rfl⟩, by simp; omega⟩
      · exact .inr ⟨r, k, trivial⟩
    · obtain ⟨r, k⟩ := h0 i hge
      exact .inr ⟨r, k, trivial⟩) n (start : Int) ⟨start, rfl⟩ (by simpa using hn)
  exact ⟨r, hr⟩
theorem wS2 {i : Nat} (h : i < 1000000) : IntKind.wrap .i64 ((i : Int) + 2) = ((i + 2 : Nat) : Int) := wrap64 (by omega) (by omega)
theorem modNat {a b : Nat} (hb : 0 < b) : modO (a : Int) (b : Int) = some ((a % b : Nat) : Int) := by
  unfold modO
  rw [if_neg (by omega)]
  congr 1
theorem next_at (n : Nat) (l : List TP) (i : Nat) (h : 0 < l.length) (hi : i < 1000000) : ∃ p, g39 n l (i : Int) = some p ∧ p ∈ l := by
  unfold g39
  rw [wS (by omega), modNat h, Option.bind_some]
  have hlt : (i + 1) % l.length < l.length := Nat.mod_lt _ h
  rw [getI_at (List.getElem?_eq_getElem hlt)]
  exact ⟨_, rfl, List.getElem_mem hlt⟩
theorem sub_val (n : Nat) (a b : TP) : g51 n a b = some ⟨IntKind.wrap .i64 (a.X - b.X), IntKind.wrap .i64 (a.Y - b.Y)⟩ := rfl
theorem turn_tot (n : Nat) (a b c : TP) : ∃ z, g38 n a b c = some z := by
  unfold g38
  exact bind_tot ⟨_, rfl⟩ fun _ => bind_tot ⟨_, rfl⟩ fun _ => bind_tot ⟨_, rfl⟩ fun _ => bif_tot ⟨_, rfl⟩ (bif_tot ⟨_, rfl⟩ ⟨_, rfl⟩)
theorem between_tot (n : Nat) (a b c : TP) : ∃ z, g62 n a b c = some z := by
  unfold g62
  exact bif_tot (bif_tot (bif_tot ⟨_, rfl⟩ ⟨_, rfl⟩) ⟨_, rfl⟩) ⟨_, rfl⟩
theorem on_tot (n : Nat) (a b c : TP) : ∃ z, g52 n a b c = some z := by
  unfold g52
  exact bind_tot (turn_tot n _ _ _) fun _ => bif_tot (bind_tot (between_tot n _ _ _) fun _ => ⟨_, rfl⟩) ⟨_, rfl⟩
theorem crosses_tot (n : Nat) (a b c d : TP) : ∃ z, g48 n a b c d = some z := by
  unfold g48
  exact bind_tot (turn_tot n _ _ _) fun _ => bind_tot (turn_tot n _ _ _) fun _ => bif_tot (bind_tot (turn_tot n _ _ _) fun _ => bind_tot (turn_tot n _ _ _) fun _ => ⟨_, rfl⟩) ⟨_, rfl⟩
theorem common_tot (n : Nat) (a b c d : TP) : ∃ z, g40 n a b c d = some z := by
  unfold g40
  exact bind_tot (crosses_tot n _ _ _ _) fun _ => bif_tot ⟨_, rfl⟩ (bind_tot (on_tot n _ _ _) fun _ => bif_tot ⟨_, rfl⟩ (bind_tot (on_tot n _ _ _) fun _ => bif_tot ⟨_, rfl⟩ (bind_tot (on_tot n _ _ _) fun _ => bif_tot ⟨_, rfl⟩ (bind_tot (on_tot n _ _ _) fun _ => ⟨_, rfl⟩))))
theorem next_tot (n : Nat) (l : List TP) (i : Nat) (h : i < l.length) (hl : l.length ≤ 1000) : ∃ p, g39 n l (i : Int) = some p := by
  obtain ⟨p, hp, -⟩ := next_at n l i (by omega) (by omega)
  exact ⟨p, hp⟩
theorem place_tot (n : Nat) (l : List TP) (q : TP) (hl : l.length ≤ 1000) (hn : l.length < n) : ∃ z, g43 n l q = some z := by
  unfold g43
  obtain ⟨r, hr, -⟩ := iterO_rule (S := fun y : Int × Int => S43_0 n l (0) (l.length : Int) q.X q.Y y.1 y.2) (fun y => ∃ i : Nat, y.2 = (i : Int) ∧ i ≤ l.length) (fun _ => True) (fun y => l.length - y.2.toNat) (by
    rintro ⟨v, _⟩ ⟨i, rfl, hi⟩
    rcases Nat.lt_or_ge i l.length with hlt | hge
    · obtain ⟨x, hx⟩ := getI_tot hlt
      obtain ⟨y, hy⟩ := next_tot n l i hlt hl
      obtain ⟨b, hb⟩ := on_tot n x y (⟨q.X, q.Y⟩ : TP)
      obtain ⟨t, ht⟩ := turn_tot n x y (⟨q.X, q.Y⟩ : TP)
      have key : (∃ w, S43_0 n l (0) (l.length : Int) q.X q.Y v (i : Int) = some (.inl (w, ((i + 1 : Nat) : Int)))) ∨ ∃ r, S43_0 n l (0) (l.length : Int) q.X q.Y v (i : Int) = some (.inr r) := by
        unfold S43_0
        rw [decide_eq_true (show (i : Int) < _ by omega), cond_true, hx, Option.bind_some, hy, Option.bind_some, hb, Option.bind_some, ht, wS (by omega)]
        simp only [Option.bind_some]
        cases b with
        | true => exact .inr ⟨_, rfl⟩
        | false =>
          left
          rw [cond_false]
          cases (!((decide (x.Y > q.Y)) == (decide (y.Y > q.Y)))) <;> cases decide (y.Y > x.Y) <;> cases decide (t > 0) <;> cases decide (y.Y < x.Y) <;> cases decide (t < 0) <;> exact ⟨_, rfl⟩
      rcases key with ⟨w, k⟩ | ⟨r, k⟩
      · exact .inl ⟨_, k, ⟨i + 1, rfl, hlt⟩, by simp; omega⟩
      · exact .inr ⟨r, k, trivial⟩
    · refine .inr ⟨v, ?_, trivial⟩
      show S43_0 n l (0) (l.length : Int) q.X q.Y v (i : Int) = _
      unfold S43_0
      rw [decide_eq_false (show ¬ (i : Int) < _ by omega)]; rfl) n ((-1), (0)) ⟨0, rfl, Nat.zero_le _⟩ (by show l.length - (0 : Int).toNat < n; omega)
  exact ⟨r, hr⟩
theorem twice_tot (n : Nat) (l : List TP) (hl : l.length ≤ 1000) (hn : l.length < n) : ∃ z, g30 n l = some z := by
  unfold g30
  obtain ⟨r, hr, -⟩ := iterO_rule (S := fun y : Int × Int => S30_0 n l (0) (l.length : Int) y.1 y.2) (fun y => ∃ i : Nat, y.2 = (i : Int) ∧ i ≤ l.length) (fun _ => True) (fun y => l.length - y.2.toNat) (by
    rintro ⟨v, _⟩ ⟨i, rfl, hi⟩
    show (∃ y, S30_0 n l (0) (l.length : Int) v (i : Int) = some (.inl y) ∧ _ ∧ _) ∨ ∃ r, S30_0 n l (0) (l.length : Int) v (i : Int) = some (.inr r) ∧ _
    unfold S30_0
    rcases Nat.lt_or_ge i l.length with hlt | hge
    · obtain ⟨x, hx⟩ := getI_tot hlt
      obtain ⟨y, hy⟩ := next_tot n l i hlt hl
      rw [decide_eq_true (show (i : Int) < _ by omega), cond_true, hx, Option.bind_some, hy, Option.bind_some, wS (by omega)]
      exact .inl ⟨_, rfl, ⟨i + 1, rfl, hlt⟩, by show l.length - ((i + 1 : Nat) : Int).toNat < l.length - (i : Int).toNat; omega⟩
    · rw [decide_eq_false (show ¬ (i : Int) < _ by omega), cond_false]
      exact .inr ⟨_, rfl, trivial⟩) n ((0), (0)) ⟨0, rfl, Nat.zero_le _⟩ (by show l.length - (0 : Int).toNat < n; omega)
  exact ⟨r, hr⟩
theorem poly_tail (n : Nat) (l : List TP) (hl : l.length ≤ 16) (h3 : 3 ≤ l.length) (hn : 40 < n) : ∃ z, iterO (fun y : Int => S29_1 n l 0 (l.length : Int) (l.length : Int) y) n 0 = some z := by
  refine iter_tot l.length (fun i hi => ?_) (fun i hi => ?_) n 0 (by omega)
  · obtain ⟨x, hx⟩ := getI_tot hi
    obtain ⟨y, hy⟩ := next_tot n l i hi (by omega)
    have hm : (i + 2) % l.length < l.length := Nat.mod_lt _ (by omega)
    obtain ⟨z, hz⟩ := getI_tot hm
    obtain ⟨t, ht⟩ := turn_tot n x y z
    have inner : ∃ r, iterO (fun y : Int => S29_1_0 n l 0 (l.length : Int) (i : Int) (l.length : Int) y) n ((i + 2 : Nat) : Int) = some r ∧ (r = .inl ((i + 1 : Nat) : Int) ∨ ∃ q, r = .inr q) := by
      obtain ⟨r, hr, hq⟩ := iterO_rule (S := fun y : Int => S29_1_0 n l 0 (l.length : Int) (i : Int) (l.length : Int) y) (fun y => ∃ k : Nat, y = (k : Int) ∧ k ≤ l.length + 2) (fun r => r = .inl ((i + 1 : Nat) : Int) ∨ ∃ q, r = .inr q) (fun y => l.length + 2 - y.toNat) (by
        rintro _ ⟨k, rfl, hk⟩
        show (∃ y, S29_1_0 n l 0 (l.length : Int) (i : Int) (l.length : Int) (k : Int) = some (.inl y) ∧ _ ∧ _) ∨ ∃ r, S29_1_0 n l 0 (l.length : Int) (i : Int) (l.length : Int) (k : Int) = some (.inr r) ∧ _
        unfold S29_1_0
        rcases Nat.lt_or_ge k l.length with hlt | hge
        · obtain ⟨x2, hx2⟩ := getI_tot hlt
          obtain ⟨y2, hy2⟩ := next_tot n l k hlt (by omega)
          obtain ⟨b, hb⟩ := common_tot n x y x2 y2
          rw [decide_eq_true (show (k : Int) < _ by omega), cond_true, wS (by omega), modNat (by omega), Option.bind_some, hx, hy, hx2, hy2]
          simp only [Option.bind_some]
          rw [hb, Option.bind_some]
          cases (((((k + 1) % l.length : Nat)) : Int) != (i : Int)) <;> cases b
          all_goals first
            | exact .inl ⟨_, rfl, ⟨k + 1, rfl, by omega⟩, by show l.length + 2 - ((k + 1 : Nat) : Int).toNat < l.length + 2 - (k : Int).toNat; omega⟩
            | exact .inr ⟨_, rfl, .inr ⟨_, rfl⟩⟩
        · rw [decide_eq_false (show ¬ (k : Int) < _ by omega), cond_false, wS (by omega)]
          exact .inr ⟨_, rfl, .inl rfl⟩) n ((i + 2 : Nat) : Int) ⟨i + 2, rfl, by omega⟩ (by show l.length + 2 - ((i + 2 : Nat) : Int).toNat < n; omega)
      exact ⟨r, hr, hq⟩
    obtain ⟨r, hr, hq⟩ := inner
    show S29_1 n l 0 (l.length : Int) (l.length : Int) (i : Int) = _ ∨ _
    unfold S29_1
    rw [decide_eq_true (show (i : Int) < _ by omega), cond_true, hx, Option.bind_some, hy, Option.bind_some, wS2 (by omega), modNat (by omega), Option.bind_some, hz, Option.bind_some, ht, Option.bind_some, hr]
    cases (t == 0) with
    | true => exact .inr ⟨_, rfl⟩
    | false =>
      rw [cond_false]
      rcases hq with rfl | ⟨q, rfl⟩
      · exact .inl rfl
      · exact .inr ⟨_, rfl⟩
  · obtain ⟨z, hz⟩ := twice_tot n l (by omega) (by omega)
    show ∃ r, S29_1 n l 0 (l.length : Int) (l.length : Int) (i : Int) = _
    unfold S29_1
    rw [decide_eq_false (show ¬ (i : Int) < _ by omega), cond_false, hz, Option.bind_some]
    cases decide (z ≤ 0) <;> exact ⟨_, rfl⟩
structure PolyOk (l : List TP) : Prop where
  lo : 3 ≤ l.length
  hi : l.length ≤ 16
  pts : ∀ p ∈ l, POk p
theorem poly_check (n : Nat) (l : List TP) (hn : 40 < n) : ∃ z, g29 n l = some z ∧ (z = 0 → PolyOk l) := by
  unfold g29
  by_cases h1 : (l.length : Int) > 16
  · rw [decide_eq_true h1, cond_true]; exact ⟨2, rfl, fun h => by cases h⟩
  by_cases h2 : (l.length : Int) < 3
  · rw [decide_eq_false h1, cond_false, decide_eq_true h2, cond_true]; exact ⟨3, rfl, fun h => by cases h⟩
  rw [decide_eq_false h1, decide_eq_false h2]
  simp only [cond_false]
  obtain ⟨z, hz⟩ := poly_tail n l (by omega) (by omega) hn
  obtain ⟨r, hr, hq⟩ := iter_each (S := fun y : Int => S29_0 n l 0 (l.length : Int) y) l (fun _ p => POk p) (fun r => r ≠ 0) z (fun i p hp => by
    have := some_lt hp
    show (S29_0 n l 0 (l.length : Int) (i : Int) = _ ∧ _) ∨ ∃ r, S29_0 n l 0 (l.length : Int) (i : Int) = some (.inr r) ∧ r ≠ 0
    unfold S29_0
    rw [decide_eq_true (show (i : Int) < (l.length : Int) by omega), cond_true, getI_at hp, Option.bind_some, wS (by omega)]
    rcases pcheck n p with ⟨e, k⟩ | ⟨e, k⟩
    · rw [e]; exact .inl ⟨rfl, k⟩
    · rw [e]; exact .inr ⟨4, rfl, by decide⟩) (by
    show S29_0 n l 0 (l.length : Int) (l.length : Int) = _
    unfold S29_0
    rw [decide_eq_false (Int.lt_irrefl _), cond_false, hz]; rfl) n (by omega)
  refine ⟨r, hr, fun h0 => ?_⟩
  rcases hq with k | ⟨-, k⟩
  · exact absurd h0 k
  · refine ⟨by omega, by omega, fun p hp => ?_⟩
    obtain ⟨i, hi⟩ := List.getElem?_of_mem hp
    exact k i p hi
end Go.Proofs.Ytfncpfnanmoapaa
