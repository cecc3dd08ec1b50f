/- Landing times of an order keep the required times. -/
import Derived.Test.YtfmodgffhbljoaaMath2
import Derived.Test.YtfmodgffhbljoaaX1G
set_option linter.unusedVariables false
set_option linter.unusedSimpArgs false
namespace Go.Proofs.Ytfmodgffhbljoaa

theorem get4 {α : Type} (P : α → Prop) {a b c d : α} (ha : P a) (hb : P b) (hc : P c) (hd : P d) {i : Int} (h0 : 0 ≤ i) (h1 : i ≤ 3) : ∃ x, getI [a, b, c, d] i = some x ∧ P x := by
  rcases (by omega : i = 0 ∨ i = 1 ∨ i = 2 ∨ i = 3) with rfl | rfl | rfl | rfl
  · exact ⟨a, rfl, ha⟩
  · exact ⟨b, rfl, hb⟩
  · exact ⟨c, rfl, hc⟩
  · exact ⟨d, rfl, hd⟩
def rows (t : TWakeTable) : List T22 := [⟨t.c0_0, t.c0_1, t.c0_2, t.c0_3⟩, ⟨t.c1_0, t.c1_1, t.c1_2, t.c1_3⟩, ⟨t.c2_0, t.c2_1, t.c2_2, t.c2_3⟩, ⟨t.c3_0, t.c3_1, t.c3_2, t.c3_3⟩]
def cols (r : T22) : List Int := [r.c0, r.c1, r.c2, r.c3]
def cell (t : TWakeTable) (a b : Int) : Int := ((getI (rows t) a).bind fun r => getI (cols r) b).getD 0
def TabOk (t : TWakeTable) : Prop := ∀ r ∈ rows t, ∀ x ∈ cols r, 30 ≤ x ∧ x ≤ 600
theorem row_at (t : TWakeTable) (h : TabOk t) {a : Int} (h0 : 0 ≤ a) (h1 : a ≤ 3) : ∃ r, getI (rows t) a = some r ∧ r ∈ rows t := get4 (fun r => r ∈ rows t) (by simp [rows]) (by simp [rows]) (by simp [rows]) (by simp [rows]) h0 h1
theorem col_at (r : T22) {b : Int} (h0 : 0 ≤ b) (h1 : b ≤ 3) : ∃ x, getI (cols r) b = some x ∧ x ∈ cols r := get4 (fun x => x ∈ cols r) (by simp [cols]) (by simp [cols]) (by simp [cols]) (by simp [cols]) h0 h1
theorem cell_at (t : TWakeTable) (h : TabOk t) {a b : Int} (a0 : 0 ≤ a) (a1 : a ≤ 3) (b0 : 0 ≤ b) (b1 : b ≤ 3) : ∃ r, getI (rows t) a = some r ∧ getI (cols r) b = some (cell t a b) ∧ 30 ≤ cell t a b ∧ cell t a b ≤ 600 := by
  obtain ⟨r, h1, h2⟩ := row_at t h a0 a1
  obtain ⟨x, h3, h4⟩ := col_at r b0 b1
  have : cell t a b = x := by unfold cell; rw [h1]; simp only [Option.bind_some, h3, Option.getD_some]
  rw [this]
  exact ⟨r, h1, h3, h r h2 x h4⟩
/- wake.Check -/
theorem tab_tot (n : Nat) (hn : 100 < n) (t : TWakeTable) : ∃ z, g36 n t = some z ∧ (z = 0 → TabOk t) := by
  unfold g36
  refine iterO_rule (fun y => ∃ i : Nat, i ≤ 4 ∧ y = (i : Int) ∧ ∀ (j : Nat) (r : T22), j < i → (rows t)[j]? = some r → ∀ x ∈ cols r, 30 ≤ x ∧ x ≤ 600) _ (fun y => 4 - y.toNat) ?_ n _ ⟨0, by omega, rfl, fun j r h => absurd h (Nat.not_lt_zero _)⟩ (by simp; omega)
  rintro _ ⟨i, hi, rfl, hP⟩
  rcases Nat.lt_or_ge i 4 with hlt | hge
  · have hr : (rows t)[i]? = some ((rows t)[i]'(by simp [rows]; omega)) := List.getElem?_eq_getElem (by simp [rows]; omega)
    generalize (rows t)[i]'(by simp [rows]; omega) = r at hr
    have hin : ∃ q, iterO (fun y : Int => S36_0_0 n (0) t.c0_0 t.c0_1 t.c0_2 t.c0_3 t.c1_0 t.c1_1 t.c1_2 t.c1_3 t.c2_0 t.c2_1 t.c2_2 t.c2_3 t.c3_0 t.c3_1 t.c3_2 t.c3_3 (i : Int) r.c0 r.c1 r.c2 r.c3 y) n 0 = some q ∧ ((∃ z, q = .inr z ∧ z ≠ 0) ∨ q = .inl ((i + 1 : Nat) : Int) ∧ ∀ (j : Nat) (x : Int), (cols r)[j]? = some x → 30 ≤ x ∧ x ≤ 600) :=
      iter_each (S := fun y : Int => S36_0_0 n (0) t.c0_0 t.c0_1 t.c0_2 t.c0_3 t.c1_0 t.c1_1 t.c1_2 t.c1_3 t.c2_0 t.c2_1 t.c2_2 t.c2_3 t.c3_0 t.c3_1 t.c3_2 t.c3_3 (i : Int) r.c0 r.c1 r.c2 r.c3 y) (cols r) (fun j x => 30 ≤ x ∧ x ≤ 600) (fun q => ∃ z, q = .inr z ∧ z ≠ 0) (.inl ((i + 1 : Nat) : Int)) (fun j x hx => by
        have hj : j < 4 := some_lt hx
        show S36_0_0 n (0) t.c0_0 t.c0_1 t.c0_2 t.c0_3 t.c1_0 t.c1_1 t.c1_2 t.c1_3 t.c2_0 t.c2_1 t.c2_2 t.c2_3 t.c3_0 t.c3_1 t.c3_2 t.c3_3 (i : Int) r.c0 r.c1 r.c2 r.c3 (j : Int) = _ ∧ _ ∨ ∃ q, S36_0_0 n (0) t.c0_0 t.c0_1 t.c0_2 t.c0_3 t.c1_0 t.c1_1 t.c1_2 t.c1_3 t.c2_0 t.c2_1 t.c2_2 t.c2_3 t.c3_0 t.c3_1 t.c3_2 t.c3_3 (i : Int) r.c0 r.c1 r.c2 r.c3 (j : Int) = _ ∧ _
        unfold S36_0_0
        have hx' : getI [r.c0, r.c1, r.c2, r.c3] (j : Int) = some x := getI_at hx
        rw [decide_eq_true (show (j : Int) < 4 by omega), hx', wS (by omega)]
        simp only [cond_true, Option.bind_some]
        by_cases h1 : x < 30
        · right; exact ⟨_, by rw [decide_eq_true h1]; rfl, 4, rfl, by decide⟩
        · by_cases h2 : x > 600
          · right; exact ⟨_, by rw [decide_eq_false h1, decide_eq_true h2]; rfl, 4, rfl, by decide⟩
          · left; exact ⟨by rw [decide_eq_false h1, decide_eq_false h2]; rfl, by omega⟩) (by
        show S36_0_0 n (0) t.c0_0 t.c0_1 t.c0_2 t.c0_3 t.c1_0 t.c1_1 t.c1_2 t.c1_3 t.c2_0 t.c2_1 t.c2_2 t.c2_3 t.c3_0 t.c3_1 t.c3_2 t.c3_3 (i : Int) r.c0 r.c1 r.c2 r.c3 ((4 : Nat) : Int) = _
        unfold S36_0_0
        rw [decide_eq_false (show ¬ ((4 : Nat) : Int) < 4 by omega), wS (i := i) (by omega)]
        rfl) n (by simp [cols]; omega)
    obtain ⟨q, hq, hq2⟩ := hin
    have hS : S36_0 n (0) t.c0_0 t.c0_1 t.c0_2 t.c0_3 t.c1_0 t.c1_1 t.c1_2 t.c1_3 t.c2_0 t.c2_1 t.c2_2 t.c2_3 t.c3_0 t.c3_1 t.c3_2 t.c3_3 (i : Int) = some q := by
      unfold S36_0
      have hr' : getI [(⟨t.c0_0, t.c0_1, t.c0_2, t.c0_3⟩ : T22), ⟨t.c1_0, t.c1_1, t.c1_2, t.c1_3⟩, ⟨t.c2_0, t.c2_1, t.c2_2, t.c2_3⟩, ⟨t.c3_0, t.c3_1, t.c3_2, t.c3_3⟩] (i : Int) = some r := getI_at hr
      rw [decide_eq_true (show (i : Int) < 4 by omega), hr']
      simp only [cond_true, Option.bind_some]
      exact hq
    rcases hq2 with ⟨z, rfl, hz⟩ | ⟨rfl, hc⟩
    · exact .inr ⟨z, hS, fun h => absurd h hz⟩
    · refine .inl ⟨_, hS, ⟨i + 1, hlt, rfl, fun j r' hj hr' => ?_⟩, by simp; omega⟩
      rcases Nat.lt_or_ge j i with h | h
      · exact hP j r' h hr'
      · have : j = i := by omega
        subst this
        rw [hr] at hr'; cases hr'
        intro x hx
        obtain ⟨m, hm, rfl⟩ := List.getElem_of_mem hx
        exact hc m _ (List.getElem?_eq_getElem hm)
  · have : i = 4 := by omega
    subst this
    have hall : TabOk t := fun r hr x hx => by
      obtain ⟨m, hm, rfl⟩ := List.getElem_of_mem hr
      exact hP m _ (by simpa [rows] using hm) (List.getElem?_eq_getElem hm) x hx
    -- the second part only has to end
    have h3 : ∃ q, iterO (fun y : Int => S36_1 n (0) t.c0_0 t.c0_1 t.c0_2 t.c0_3 t.c1_0 t.c1_1 t.c1_2 t.c1_3 t.c2_0 t.c2_1 t.c2_2 t.c2_3 t.c3_0 t.c3_1 t.c3_2 t.c3_3 y) n 0 = some q := by
      obtain ⟨q, h, -⟩ := iterO_rule (S := fun y : Int => S36_1 n (0) t.c0_0 t.c0_1 t.c0_2 t.c0_3 t.c1_0 t.c1_1 t.c1_2 t.c1_3 t.c2_0 t.c2_1 t.c2_2 t.c2_3 t.c3_0 t.c3_1 t.c3_2 t.c3_3 y) (fun y => ∃ i : Nat, i ≤ 4 ∧ y = (i : Int)) (fun _ => True) (fun y => 4 - y.toNat) (by
        rintro _ ⟨i, hi, rfl⟩
        rcases Nat.lt_or_ge i 4 with hi4 | hi4
        · have h2 : ∃ q, iterO (fun y : Int => S36_1_0 n (0) (i : Int) t.c0_0 t.c0_1 t.c0_2 t.c0_3 t.c1_0 t.c1_1 t.c1_2 t.c1_3 t.c2_0 t.c2_1 t.c2_2 t.c2_3 t.c3_0 t.c3_1 t.c3_2 t.c3_3 y) n 0 = some q ∧ (q = .inl ((i + 1 : Nat) : Int) ∨ ∃ z, q = .inr z) := by
            refine iterO_rule (fun y => ∃ j : Nat, j ≤ 4 ∧ y = (j : Int)) _ (fun y => 4 - y.toNat) ?_ n _ ⟨0, by omega, rfl⟩ (by simp; omega)
            rintro _ ⟨j, hj, rfl⟩
            rcases Nat.lt_or_ge j 4 with hj4 | hj4
            · have h1 : ∃ q, iterO (fun y : Int => S36_1_0_0 n (0) (i : Int) (j : Int) t.c0_0 t.c0_1 t.c0_2 t.c0_3 t.c1_0 t.c1_1 t.c1_2 t.c1_3 t.c2_0 t.c2_1 t.c2_2 t.c2_3 t.c3_0 t.c3_1 t.c3_2 t.c3_3 y) n 0 = some q ∧ (q = .inl ((j + 1 : Nat) : Int) ∨ ∃ z, q = .inr (.inr z)) := by
                refine iterO_rule (fun y => ∃ m : Nat, m ≤ 4 ∧ y = (m : Int)) _ (fun y => 4 - y.toNat) ?_ n _ ⟨0, by omega, rfl⟩ (by simp; omega)
                rintro _ ⟨m, hm, rfl⟩
                rcases Nat.lt_or_ge m 4 with hm4 | hm4
                · obtain ⟨ri, e1, -⟩ := row_at t hall (a := (i : Int)) (by omega) (by omega)
                  obtain ⟨rj, e2, -⟩ := row_at t hall (a := (j : Int)) (by omega) (by omega)
                  obtain ⟨x1, e3, -⟩ := col_at ri (b := (m : Int)) (by omega) (by omega)
                  obtain ⟨x2, e4, -⟩ := col_at ri (b := (j : Int)) (by omega) (by omega)
                  obtain ⟨x3, e5, -⟩ := col_at rj (b := (m : Int)) (by omega) (by omega)
                  unfold rows at e1 e2
                  unfold cols at e3 e4 e5
                  have key : ∃ u, S36_1_0_0 n (0) (i : Int) (j : Int) t.c0_0 t.c0_1 t.c0_2 t.c0_3 t.c1_0 t.c1_1 t.c1_2 t.c1_3 t.c2_0 t.c2_1 t.c2_2 t.c2_3 t.c3_0 t.c3_1 t.c3_2 t.c3_3 (m : Int) = some u ∧ (u = .inl ((m + 1 : Nat) : Int) ∨ ∃ z, u = .inr (.inr (.inr z))) := by
                    unfold S36_1_0_0
                    rw [decide_eq_true (show (m : Int) < 4 by omega), wS (by omega)]
                    simp only [cond_true, e1, e2, e3, e4, e5, Option.bind_some]
                    cases decide (x1 > IntKind.i64.wrap (x2 + x3))
                    · exact ⟨_, rfl, .inl rfl⟩
                    · exact ⟨_, rfl, .inr ⟨_, rfl⟩⟩
                  obtain ⟨u, hu, rfl | ⟨z, rfl⟩⟩ := key
                  · exact .inl ⟨_, hu, ⟨m + 1, hm4, rfl⟩, by simp; omega⟩
                  · exact .inr ⟨_, hu, .inr ⟨z, rfl⟩⟩
                · have : m = 4 := by omega
                  subst this
                  refine .inr ⟨.inl ((j + 1 : Nat) : Int), ?_, .inl rfl⟩
                  unfold S36_1_0_0
                  rw [decide_eq_false (show ¬ ((4 : Nat) : Int) < 4 by omega), wS (i := j) (by omega)]; rfl
              obtain ⟨q, hq, hq2⟩ := h1
              have hS : S36_1_0 n (0) (i : Int) t.c0_0 t.c0_1 t.c0_2 t.c0_3 t.c1_0 t.c1_1 t.c1_2 t.c1_3 t.c2_0 t.c2_1 t.c2_2 t.c2_3 t.c3_0 t.c3_1 t.c3_2 t.c3_3 (j : Int) = some q := by
                unfold S36_1_0
                rw [decide_eq_true (show (j : Int) < 4 by omega), cond_true]
                exact hq
              rcases hq2 with rfl | ⟨z, rfl⟩
              · exact .inl ⟨_, hS, ⟨j + 1, hj4, rfl⟩, by simp; omega⟩
              · exact .inr ⟨_, hS, .inr ⟨z, rfl⟩⟩
            · have : j = 4 := by omega
              subst this
              refine .inr ⟨.inl ((i + 1 : Nat) : Int), ?_, .inl rfl⟩
              unfold S36_1_0
              rw [decide_eq_false (show ¬ ((4 : Nat) : Int) < 4 by omega), wS (i := i) (by omega)]; rfl
          obtain ⟨q, hq, hq2⟩ := h2
          have hS : S36_1 n (0) t.c0_0 t.c0_1 t.c0_2 t.c0_3 t.c1_0 t.c1_1 t.c1_2 t.c1_3 t.c2_0 t.c2_1 t.c2_2 t.c2_3 t.c3_0 t.c3_1 t.c3_2 t.c3_3 (i : Int) = some q := by
            unfold S36_1
            rw [decide_eq_true (show (i : Int) < 4 by omega), cond_true]
            exact hq
          rcases hq2 with rfl | ⟨z, rfl⟩
          · exact .inl ⟨_, hS, ⟨i + 1, hi4, rfl⟩, by simp; omega⟩
          · exact .inr ⟨_, hS, trivial⟩
        · have : i = 4 := by omega
          subst this
          refine .inr ⟨0, ?_, trivial⟩
          unfold S36_1
          rw [decide_eq_false (show ¬ ((4 : Nat) : Int) < 4 by omega)]; rfl) n 0 ⟨0, by omega, rfl⟩ (by simp; omega)
      exact ⟨q, h⟩
    obtain ⟨q, hq⟩ := h3
    refine .inr ⟨q, ?_, fun _ => hall⟩
    unfold S36_0
    rw [decide_eq_false (show ¬ ((4 : Nat) : Int) < 4 by omega), cond_false, hq]; rfl
end Go.Proofs.Ytfmodgffhbljoaa
