/- runway.Safe and runway.Insert as plain programs: what a safe plan is, and what one insertion does. -/
import Derived.Test.YtfmodgffhbljoaaRun5
set_option linter.unusedVariables false
set_option linter.unusedSimpArgs false
namespace Go.Proofs.Ytfmodgffhbljoaa

def gapV (t : TWakeTable) (a b : TRunwayMove) : Int := (g45 0 t a b).getD 0
theorem gap_eq (n : Nat) (t : TWakeTable) (h : TabOk t) (a b : TRunwayMove) (a0 : 0 ≤ a.Wake) (a1 : a.Wake ≤ 3) (b0 : 0 ≤ b.Wake) (b1 : b.Wake ≤ 3) : g45 n t a b = some (gapV t a b) ∧ 30 ≤ gapV t a b ∧ gapV t a b ≤ 600 := by
  unfold gapV g45
  cases (!(a.Departs == b.Departs)) with
  | true => exact ⟨rfl, show (30 : Int) ≤ 60 by decide, show (60 : Int) ≤ 600 by decide⟩
  | false =>
    obtain ⟨r, h1, h2, h3, h4⟩ := cell_at t h a0 a1 b0 b1
    unfold rows at h1
    unfold cols at h2
    simp only [cond_false]
    rw [h1]
    simp only [Option.bind_some]
    rw [h2]
    exact ⟨rfl, h3, h4⟩
theorem gapV_l (t : TWakeTable) (T W E E' : Int) (D : Bool) (b : TRunwayMove) : gapV t ⟨T, W, D, E⟩ b = gapV t ⟨T, W, D, E'⟩ b := rfl
theorem gapV_r (t : TWakeTable) (T W E E' : Int) (D : Bool) (a : TRunwayMove) : gapV t a ⟨T, W, D, E⟩ = gapV t a ⟨T, W, D, E'⟩ := rfl
theorem pw_at {α : Type} {R : α → α → Prop} {l : List α} (h : l.Pairwise R) {i j : Nat} {x y : α} (hx : l[i]? = some x) (hy : l[j]? = some y) (hij : i < j) : R x y := by
  obtain ⟨hi, rfl⟩ := List.getElem?_eq_some_iff.1 hx
  obtain ⟨hj, rfl⟩ := List.getElem?_eq_some_iff.1 hy
  exact List.pairwise_iff_getElem.1 h i j hi hj hij
theorem pw_of {α : Type} {R : α → α → Prop} {l : List α} (h : ∀ (i j : Nat) (x y : α), i < j → l[i]? = some x → l[j]? = some y → R x y) : l.Pairwise R :=
  List.pairwise_iff_getElem.2 fun i j hi hj hij => h i j _ _ hij (List.getElem?_eq_getElem hi) (List.getElem?_eq_getElem hj)
theorem pw_step {α : Type} {R : α → α → Prop} (ht : ∀ a b c, R a b → R b c → R a c) {l : List α} (h : ∀ (i : Nat) (x y : α), l[i]? = some x → l[i + 1]? = some y → R x y) : l.Pairwise R := by
  refine pw_of fun i j x y hij hx hy => ?_
  obtain ⟨k, rfl⟩ : ∃ k, j = i + 1 + k := ⟨j - i - 1, by omega⟩
  clear hij
  induction k generalizing y with
  | zero => exact h i x y hx hy
  | succ k ih =>
    have hlt := some_lt hy
    have hz : l[i + 1 + k]? = some (l[i + 1 + k]'(by omega)) := List.getElem?_eq_getElem (by omega)
    exact ht _ _ _ (ih _ hz) (h (i + 1 + k) _ _ hz hy)
def mOk (x : TRunwayMove) : Prop := 0 ≤ x.Time ∧ x.Time ≤ 200000 ∧ 0 ≤ x.Wake ∧ x.Wake ≤ 3 ∧ (x.End = 0 ∨ x.End = 1)
theorem moves_zero (n : Nat) (hn : 100 < n) (l : List TRunwayMove) (hl : l.length ≤ 24) (he : ∀ x ∈ l, mOk x) (hs : l.Pairwise (fun a b => a.Time ≤ b.Time)) : g40 n l = some 0 := by
  unfold g40
  rw [decide_eq_false (show ¬ (l.length : Int) > 24 by omega), cond_false]
  obtain ⟨r, h, hr⟩ := iter_each (S := fun y : Int => S40_0 n l 0 (l.length : Int) y) l (fun _ _ => True) (fun _ => False) 0 (fun i x hx => by
    refine .inl ⟨?_, trivial⟩
    have hi := some_lt hx
    obtain ⟨h1, h2, h3, h4, h5⟩ := he x (List.mem_of_getElem? hx)
    show S40_0 n l 0 (l.length : Int) (i : Int) = _
    have hend : ∀ A B : Option (Int ⊕ Int), (bif (x.End != (0)) then (bif (x.End != (1)) then A else B) else B) = B := by
      intro A B
      rcases h5 with h5 | h5 <;> rw [h5] <;> rfl
    unfold S40_0
    rw [decide_eq_true (show (i : Int) < _ by omega), getI_at hx, wS (by omega)]
    simp only [cond_true, Option.bind_some, wrongT_eq, class2_eq, hend]
    rw [decide_eq_false (show ¬ (x.Time < 0 ∨ x.Time > 200000) by omega), if_pos ⟨h3, h4⟩]
    simp only [cond_false, bne_self_eq_false]
    rcases Nat.eq_zero_or_pos i with h0 | h0
    · subst h0; rfl
    · obtain ⟨k, rfl⟩ : ∃ k, i = k + 1 := ⟨i - 1, by omega⟩
      have hp : l[k]? = some (l[k]'(by omega)) := List.getElem?_eq_getElem (by omega)
      generalize l[k]'(by omega) = p at hp
      have hle := pw_at hs hp hx (Nat.lt_succ_self k)
      have e2 : IntKind.wrap .i64 (((k + 1 : Nat) : Int) - 1) = (k : Int) := by rw [wrap64 (by omega) (by omega)]; omega
      rw [decide_eq_true (show ((k + 1 : Nat) : Int) > 0 by omega), e2, getI_at hp]
      simp only [cond_true, Option.bind_some]
      rw [decide_eq_false (show ¬ x.Time < p.Time by omega)]
      rfl) (by
    show S40_0 n l 0 (l.length : Int) (l.length : Int) = _
    unfold S40_0; simp) n (by omega)
  rw [h]
  rcases hr with hr | ⟨hr, -⟩
  · exact hr.elim
  · rw [hr]
theorem dirL_end (t : Int) : ∀ (xs : List TRunwaySpan) (v : Int), (v = 0 ∨ v = 1) → (∀ x ∈ xs, x.End = 0 ∨ x.End = 1) → ((dirL t v xs).1 = 0 ∨ (dirL t v xs).1 = 1)
  | [], v, hv, _ => hv
  | x :: xs, v, hv, hx => by
    rw [dirL]
    by_cases hb : (if x.From - t > t - x.From then x.From - t else t - x.From) < 180
    · rw [if_pos hb]; exact .inl rfl
    · rw [if_neg hb]
      refine dirL_end t xs _ ?_ (fun y hy => hx y (List.mem_cons_of_mem _ hy))
      split
      · exact hx x List.mem_cons_self
      · exact hv
theorem dirO_end {s : List TRunwaySpan} (hs : SpansOk s) (t : Int) : (dirO t s).1 = 0 ∨ (dirO t s).1 = 1 := by
  cases s with
  | nil => exact .inl rfl
  | cons x xs =>
    rw [dirO]
    split
    · exact .inl rfl
    · exact dirL_end t xs _ (hs.mem List.mem_cons_self).1 (fun y hy => (hs.mem (List.mem_cons_of_mem _ hy)).1)
/- the loops of Safe -/
def SafeW (s : List TRunwaySpan) (t : TWakeTable) (l : List TRunwayMove) : Prop := (∀ x ∈ l, dirO x.Time s = (x.End, true)) ∧ l.Pairwise (fun a b => gapV t a b ≤ b.Time - a.Time)
abbrev sf1 (n : Nat) (l : List TRunwayMove) (t : TWakeTable) (y : Int) := S19_1 n l (0) (l.length : Int) t.c0_0 t.c0_1 t.c0_2 t.c0_3 t.c1_0 t.c1_1 t.c1_2 t.c1_3 t.c2_0 t.c2_1 t.c2_2 t.c2_3 t.c3_0 t.c3_1 t.c3_2 t.c3_3 y
abbrev sf10 (n : Nat) (l : List TRunwayMove) (t : TWakeTable) (i : Int) (x : TRunwayMove) (y : Int) := S19_1_0 n l (0) i (l.length : Int) t.c0_0 t.c0_1 t.c0_2 t.c0_3 t.c1_0 t.c1_1 t.c1_2 t.c1_3 t.c2_0 t.c2_1 t.c2_2 t.c2_3 t.c3_0 t.c3_1 t.c3_2 t.c3_3 x.Time x.Wake x.Departs x.End y
abbrev sf0 (n : Nat) (l : List TRunwayMove) (s : List TRunwaySpan) (t : TWakeTable) (y : Int) := S19_0 n l s (0) (l.length : Int) t.c0_0 t.c0_1 t.c0_2 t.c0_3 t.c1_0 t.c1_1 t.c1_2 t.c1_3 t.c2_0 t.c2_1 t.c2_2 t.c2_3 t.c3_0 t.c3_1 t.c3_2 t.c3_3 y
theorem safe_loop1 (n : Nat) (hn : 100 < n) (l : List TRunwayMove) (t : TWakeTable) (ht : TabOk t) (hl : l.length ≤ 24) (he : ∀ x ∈ l, 0 ≤ x.Time ∧ x.Time ≤ 200000 ∧ 0 ≤ x.Wake ∧ x.Wake ≤ 3) :
    ∃ q, iterO (fun y : Int => sf1 n l t y) n 0 = some q ∧ ((q.2.2 ≠ 0 ∧ ¬ l.Pairwise (fun a b => gapV t a b ≤ b.Time - a.Time)) ∨ (q = (0, 0, 0) ∧ l.Pairwise (fun a b => gapV t a b ≤ b.Time - a.Time))) := by
  have in2 : ∀ (i : Nat) (x : TRunwayMove), l[i]? = some x → ∃ q, iterO (fun y : Int => sf10 n l t (i : Int) x y) n (IntKind.wrap .i64 ((i : Int) + 1)) = some q ∧ ((q = .inl ((i + 1 : Nat) : Int) ∧ ∀ (j : Nat) (y : TRunwayMove), i < j → l[j]? = some y → gapV t x y ≤ y.Time - x.Time) ∨ ∃ r, q = .inr r ∧ r.2.2 ≠ 0 ∧ ∃ (j : Nat) (y : TRunwayMove), i < j ∧ l[j]? = some y ∧ ¬ gapV t x y ≤ y.Time - x.Time) := by
    intro i x hx
    have hi := some_lt hx
    rw [wS (by omega)]
    refine iterO_rule (fun y => ∃ j : Nat, i + 1 ≤ j ∧ j ≤ l.length ∧ y = (j : Int) ∧ ∀ (k : Nat) (z : TRunwayMove), i < k → k < j → l[k]? = some z → gapV t x z ≤ z.Time - x.Time) _ (fun y => l.length - y.toNat) ?_ n _ ⟨i + 1, Nat.le_refl _, hi, rfl, fun k z h1 h2 => by omega⟩ (by simp; omega)
    rintro _ ⟨j, hij, hj, rfl, hP⟩
    show (∃ y, sf10 n l t (i : Int) x (j : Int) = _ ∧ _) ∨ (∃ r, sf10 n l t (i : Int) x (j : Int) = _ ∧ _)
    unfold sf10 S19_1_0
    rcases Nat.lt_or_ge j l.length with hj2 | hj2
    · have hy : l[j]? = some (l[j]'hj2) := List.getElem?_eq_getElem hj2
      have w1 := he _ (List.mem_of_getElem? hx)
      have w2 := he _ (List.mem_of_getElem? hy)
      generalize l[j]'hj2 = p at hy w2
      obtain ⟨hz, z0, z1⟩ := gap_eq n t ht ⟨x.Time, x.Wake, x.Departs, x.End⟩ p w1.2.2.1 w1.2.2.2 w2.2.2.1 w2.2.2.2
      rw [decide_eq_true (show (j : Int) < (l.length : Int) by omega), getI_at hy, wS (by omega)]
      simp only [cond_true, Option.bind_some]
      rw [show g45 n ⟨t.c0_0, t.c0_1, t.c0_2, t.c0_3, t.c1_0, t.c1_1, t.c1_2, t.c1_3, t.c2_0, t.c2_1, t.c2_2, t.c2_3, t.c3_0, t.c3_1, t.c3_2, t.c3_3⟩ ⟨x.Time, x.Wake, x.Departs, x.End⟩ p = some (gapV t x p) from hz, Option.bind_some, wrap64 (z := p.Time - x.Time) (by omega) (by omega)]
      by_cases hb : p.Time - x.Time < gapV t x p
      · rw [decide_eq_true hb]
        exact .inr ⟨_, rfl, .inr ⟨_, rfl, by show (15 : Int) ≠ 0; decide, j, p, hij, hy, by omega⟩⟩
      · rw [decide_eq_false hb]
        refine .inl ⟨_, rfl, ⟨j + 1, by omega, hj2, rfl, fun k z h1 h2 hz => ?_⟩, by simp; omega⟩
        rcases Nat.lt_or_ge k j with h3 | h3
        · exact hP k z h1 h3 hz
        · obtain rfl : k = j := by omega
          rw [hy] at hz; cases hz; omega
    · rw [decide_eq_false (show ¬ (j : Int) < (l.length : Int) by omega), cond_false, wS (by omega)]
      exact .inr ⟨_, rfl, .inl ⟨rfl, fun k z h1 hz => hP k z h1 (by have := some_lt hz; omega) hz⟩⟩
  obtain ⟨q, e, hq⟩ := iter_each (S := fun y : Int => sf1 n l t y) l (fun i x => ∀ (j : Nat) (y : TRunwayMove), i < j → l[j]? = some y → gapV t x y ≤ y.Time - x.Time) (fun q => q.2.2 ≠ 0 ∧ ¬ l.Pairwise (fun a b => gapV t a b ≤ b.Time - a.Time)) (0, 0, 0) (fun i x hx => by
    have hi := some_lt hx
    obtain ⟨q, e, hq⟩ := in2 i x hx
    have hS : sf1 n l t (i : Int) = some q := by
      unfold sf1 S19_1
      rw [decide_eq_true (show (i : Int) < (l.length : Int) by omega), getI_at hx]
      exact e
    show (sf1 n l t (i : Int) = _ ∧ _) ∨ ∃ r, sf1 n l t (i : Int) = _ ∧ _
    rw [hS]
    rcases hq with ⟨rfl, h⟩ | ⟨r, rfl, h, j, y, h1, h2, h3⟩
    · exact .inl ⟨rfl, h⟩
    · exact .inr ⟨r, rfl, h, fun hp => h3 (pw_at hp hx h2 h1)⟩) (by
    show sf1 n l t (l.length : Int) = _
    unfold sf1 S19_1
    rw [decide_eq_false (show ¬ (l.length : Int) < (l.length : Int) by omega)]; rfl) n (by omega)
  refine ⟨q, e, ?_⟩
  rcases hq with hq | ⟨hq, h⟩
  · exact .inl hq
  · exact .inr ⟨hq, pw_of fun i j x y hij hx hy => h i x hx j y hij hy⟩
theorem safe_loop (n : Nat) (hn : 100 < n) (l : List TRunwayMove) (s : List TRunwaySpan) (t : TWakeTable) (hs : SpansOk s) (ht : TabOk t) (hl : l.length ≤ 24) (he : ∀ x ∈ l, 0 ≤ x.Time ∧ x.Time ≤ 200000 ∧ 0 ≤ x.Wake ∧ x.Wake ≤ 3) :
    ∃ q, iterO (fun y : Int => sf0 n l s t y) n 0 = some q ∧ ((q.2.2 ≠ 0 ∧ ¬ SafeW s t l) ∨ (q = (0, 0, 0) ∧ SafeW s t l)) := by
  obtain ⟨q2, e2, h2⟩ := safe_loop1 n hn l t ht hl he
  obtain ⟨q, e, hq⟩ := iter_each (S := fun y : Int => sf0 n l s t y) l (fun i x => dirO x.Time s = (x.End, true)) (fun q => q.2.2 ≠ 0 ∧ ¬ SafeW s t l) q2 (fun i x hx => by
    have hi := some_lt hx
    have hm := List.mem_of_getElem? hx
    have w2 := he _ hm
    show (sf0 n l s t (i : Int) = _ ∧ _) ∨ ∃ r, sf0 n l s t (i : Int) = _ ∧ _
    unfold sf0 S19_0
    rw [decide_eq_true (show (i : Int) < (l.length : Int) by omega), getI_at hx, wS (by omega)]
    simp only [cond_true, Option.bind_some]
    rw [dir_eq n hn s hs.len hs.pos (fun x hx => (hs.mem hx).2) x.Time w2.1 w2.2.1, Option.bind_some]
    cases h1 : (dirO x.Time s).2 with
    | false => exact .inr ⟨_, rfl, by show (14 : Int) ≠ 0; decide, fun hw => by have := hw.1 x hm; rw [this] at h1; cases h1⟩
    | true =>
      simp only [Bool.not_true, cond_false]
      by_cases h2 : (dirO x.Time s).1 = x.End
      · rw [show ((dirO x.Time s).1 != x.End) = false by rw [h2]; exact bne_self_eq_false _]
        exact .inl ⟨rfl, by rw [← h1, ← h2]⟩
      · rw [show ((dirO x.Time s).1 != x.End) = true from bne_iff_ne.2 h2]
        exact .inr ⟨_, rfl, by show (14 : Int) ≠ 0; decide, fun hw => h2 (by have := hw.1 x hm; rw [this])⟩) (by
    show sf0 n l s t (l.length : Int) = _
    unfold sf0 S19_0
    rw [decide_eq_false (show ¬ (l.length : Int) < (l.length : Int) by omega), cond_false]
    show (iterO (fun y : Int => sf1 n l t y) n 0).map Sum.inr = _
    rw [e2]; rfl) n (by omega)
  refine ⟨q, e, ?_⟩
  rcases hq with hq | ⟨rfl, h⟩
  · exact .inl hq
  · have hall : ∀ x ∈ l, dirO x.Time s = (x.End, true) := fun x hx => by
      obtain ⟨i, hi, rfl⟩ := List.getElem_of_mem hx
      exact h i _ (List.getElem?_eq_getElem hi)
    rcases h2 with ⟨h3, h4⟩ | ⟨h3, h4⟩
    · exact .inl ⟨h3, fun hw => h4 hw.2⟩
    · exact .inr ⟨h3, hall, h4⟩
/- a safe plan -/
structure SafeOk (n : Nat) (l : List TRunwayMove) (s : List TRunwaySpan) (t : TWakeTable) : Prop where
  sp : SpansOk s
  tab : TabOk t
  tz : g36 n t = some 0
  each : ∀ x ∈ l, mOk x ∧ dirO x.Time s = (x.End, true)
  time : l.Pairwise (fun a b => a.Time ≤ b.Time)
  gaps : l.Pairwise (fun a b => gapV t a b ≤ b.Time - a.Time)
theorem safe_all (n : Nat) (hn : 100 < n) (l : List TRunwayMove) (s : List TRunwaySpan) (t : TWakeTable) : ∃ q, g19 n l s t = some q ∧ (q.2.2 = 0 → SafeOk n l s t ∧ l.length ≤ 24) := by
  unfold g19
  obtain ⟨z, e, hz⟩ := moves_tot n hn l
  rw [e]
  simp only [Option.bind_some]
  by_cases hz0 : z = 0
  rotate_left
  · rw [bne0 hz0]; exact ⟨_, rfl, fun h => absurd h hz0⟩
  have hm := hz hz0
  subst hz0
  obtain ⟨w, e, hw, -⟩ := spans_tot n hn s
  rw [e]
  simp only [Option.bind_some, bne_self_eq_false, cond_false]
  by_cases hw0 : w = 0
  rotate_left
  · rw [bne0 hw0]; exact ⟨_, rfl, fun h => absurd h hw0⟩
  have hs := hw hw0
  subst hw0
  obtain ⟨w, e, hw⟩ := tab_tot n hn t
  rw [e]
  simp only [Option.bind_some, bne_self_eq_false, cond_false]
  by_cases hw0 : w = 0
  rotate_left
  · rw [bne0 hw0]; exact ⟨_, rfl, fun h => absurd h hw0⟩
  have ht := hw hw0
  subst hw0
  simp only [bne_self_eq_false, cond_false]
  obtain ⟨q, e3, hq⟩ := safe_loop n hn l s t hs ht hm.len hm.each
  refine ⟨q, e3, fun h0 => ?_⟩
  rcases hq with hq | ⟨-, h1, h2⟩
  · exact absurd h0 hq.1
  · refine ⟨⟨hs, ht, e, fun x hx => ⟨?_, h1 x hx⟩, pw_step (R := fun a b : TRunwayMove => a.Time ≤ b.Time) (fun a b c h1 h2 => Int.le_trans h1 h2) hm.sorted, h2⟩, hm.len⟩
    have w := hm.each x hx
    have := dirO_end hs x.Time
    rw [h1 x hx] at this
    exact ⟨w.1, w.2.1, w.2.2.1, w.2.2.2, this⟩
theorem SafeOk.run {n : Nat} (hn : 100 < n) {l : List TRunwayMove} {s : List TRunwaySpan} {t : TWakeTable} (h : SafeOk n l s t) (hl : l.length ≤ 24) : g19 n l s t = some (0, 0, 0) := by
  unfold g19
  rw [moves_zero n hn l hl (fun x hx => (h.each x hx).1) h.time]
  obtain ⟨w, e, -, hw⟩ := spans_tot n hn s
  rw [e, hw h.sp, h.tz]
  simp only [Option.bind_some, bne_self_eq_false, cond_false]
  obtain ⟨q, e3, hq⟩ := safe_loop n hn l s t h.sp h.tab hl (fun x hx => by obtain ⟨⟨a, b, c, d, -⟩, -⟩ := h.each x hx; exact ⟨a, b, c, d⟩)
  rcases hq with ⟨-, hq⟩ | ⟨rfl, -⟩
  · exact absurd ⟨fun x hx => (h.each x hx).2, h.gaps⟩ hq
  · exact e3
/- a safe plan has not too many movements -/
theorem SafeOk.plen {n : Nat} {l : List TRunwayMove} {s : List TRunwaySpan} {t : TWakeTable} (h : SafeOk n l s t) : l.length ≤ 6700 := by
  have key : ∀ (i : Nat) (x : TRunwayMove), l[i]? = some x → 30 * (i : Int) ≤ x.Time := by
    intro i
    induction i with
    | zero => intro x hx; have := (h.each x (List.mem_of_getElem? hx)).1.1; omega
    | succ i ih =>
      intro x hx
      have hlt := some_lt hx
      have hp : l[i]? = some (l[i]'(by omega)) := List.getElem?_eq_getElem (by omega)
      have h1 := ih _ hp
      have h2 := pw_at h.gaps hp hx (Nat.lt_succ_self i)
      obtain ⟨-, -, a, b, -⟩ := (h.each _ (List.mem_of_getElem? hp)).1
      obtain ⟨-, -, c, d, -⟩ := (h.each _ (List.mem_of_getElem? hx)).1
      have h3 := (gap_eq 0 t h.tab _ x a b c d).2.1
      omega
  rcases Nat.lt_or_ge 6700 l.length with hlt | hge
  · have hx : l[6700]? = some (l[6700]'hlt) := List.getElem?_eq_getElem hlt
    have h1 := key 6700 _ hx
    have h2 := (h.each _ (List.mem_of_getElem? hx)).1.2.1
    omega
  · exact hge
end Go.Proofs.Ytfmodgffhbljoaa
