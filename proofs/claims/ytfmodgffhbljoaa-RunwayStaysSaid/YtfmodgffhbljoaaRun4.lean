/- runway.Spans, direction, Safe, Change, Direction: what the law needs. -/
import Derived.Test.YtfmodgffhbljoaaRun3
set_option linter.unusedVariables false
set_option linter.unusedSimpArgs false
namespace Go.Proofs.Ytfmodgffhbljoaa

structure SpansOk (l : List TRunwaySpan) : Prop where
  len : l.length ≤ 24
  pos : 0 < l.length
  each : ∀ (i : Nat) (x : TRunwaySpan), l[i]? = some x → badSpan (prevOf l i) x = none
theorem spans_tot (n : Nat) (hn : 100 < n) (l : List TRunwaySpan) : ∃ z, g41 n l = some z ∧ (z = 0 → SpansOk l) ∧ (SpansOk l → z = 0) := by
  unfold g41
  by_cases h1 : (l.length : Int) > 24
  · exact ⟨2, by simp [h1], fun h => absurd h (by decide), fun h => by have := h.len; omega⟩
  rw [decide_eq_false h1, cond_false]
  have hl : l.length ≤ 24 := by omega
  by_cases h2 : (l.length : Int) = 0
  · refine ⟨8, ?_, fun h => absurd h (by decide), fun h => by have := h.pos; omega⟩
    rw [show ((l.length : Int) == 0) = true from beq_iff_eq.2 h2]; rfl
  rw [show ((l.length : Int) == 0) = false from beq_eq_false_iff_ne.2 h2, cond_false]
  obtain ⟨r, h, hr⟩ := iter_each (S := fun y : Int => S41_0 n l 0 (l.length : Int) y) l (fun i x => badSpan (prevOf l i) x = none) (fun r => r ≠ 0 ∧ ¬ SpansOk l) 0 (fun i x hx => by
    show S41_0 n l 0 (l.length : Int) (i : Int) = _ ∧ _ ∨ ∃ r, S41_0 n l 0 (l.length : Int) (i : Int) = _ ∧ _
    rw [span_round n l hl i x hx]
    cases hb : badSpan (prevOf l i) x with
    | none => exact .inl ⟨rfl, rfl⟩
    | some z =>
      refine .inr ⟨z, rfl, ?_, fun h => by rw [h.each i x hx] at hb; cases hb⟩
      intro h0
      subst h0
      unfold badSpan at hb
      split at hb
      · cases hb
      split at hb
      · cases hb
      unfold nextBad at hb
      split at hb
      · cases hb
      split at hb
      · cases hb
      split at hb
      · cases hb
      · cases hb) (by
    show S41_0 n l 0 (l.length : Int) (l.length : Int) = _
    unfold S41_0; simp) n (by omega)
  refine ⟨r, h, fun h0 => ?_, fun hok => ?_⟩
  · rcases hr with hr | ⟨-, hr⟩
    · exact absurd h0 hr.1
    · exact ⟨hl, by omega, hr⟩
  · rcases hr with hr | ⟨hr, -⟩
    · exact absurd hok hr.2
    · exact hr
theorem SpansOk.one {l : List TRunwaySpan} (h : SpansOk l) {i : Nat} {x : TRunwaySpan} (hx : l[i]? = some x) : (x.End = 0 ∨ x.End = 1) ∧ 0 ≤ x.From ∧ x.From ≤ 200000 ∧ nextBad x (prevOf l i) = none := by
  have hb := h.each i x hx
  unfold badSpan at hb
  split at hb
  · cases hb
  split at hb
  · cases hb
  exact ⟨by omega, by omega, by omega, hb⟩
theorem SpansOk.mem {l : List TRunwaySpan} (h : SpansOk l) {x : TRunwaySpan} (hx : x ∈ l) : (x.End = 0 ∨ x.End = 1) ∧ 0 ≤ x.From ∧ x.From ≤ 200000 := by
  obtain ⟨i, hi, rfl⟩ := List.getElem_of_mem hx
  have := h.one (List.getElem?_eq_getElem hi)
  exact ⟨this.1, this.2.1, this.2.2.1⟩
theorem SpansOk.step {l : List TRunwaySpan} (h : SpansOk l) {i : Nat} {p x : TRunwaySpan} (hp : l[i]? = some p) (hx : l[i + 1]? = some x) : p.From + 360 ≤ x.From ∧ x.End ≠ p.End := by
  obtain ⟨-, -, -, hb⟩ := h.one hx
  obtain ⟨-, p0, p1, -⟩ := h.one hp
  rw [show prevOf l (i + 1) = some p from hp] at hb
  unfold nextBad at hb
  dsimp only at hb
  rw [wrap64 (by omega) (by omega)] at hb
  split at hb
  · cases hb
  split at hb
  · cases hb
  exact ⟨by omega, by assumption⟩
theorem SpansOk.le_last {l : List TRunwaySpan} (h : SpansOk l) {e : TRunwaySpan} : ∀ (k i : Nat) (x : TRunwaySpan), i + k + 1 = l.length → l[l.length - 1]? = some e → l[i]? = some x → x.From ≤ e.From := by
  intro k
  induction k with
  | zero =>
    intro i x hi he hx
    rw [show l.length - 1 = i by omega, hx] at he
    cases he; exact Int.le_refl _
  | succ k ih =>
    intro i x hi he hx
    have hy : l[i + 1]? = some (l[i + 1]'(by omega)) := List.getElem?_eq_getElem (by omega)
    have := h.step hx hy
    have := ih (i + 1) _ (by omega) he hy
    omega
theorem SpansOk.snoc {l : List TRunwaySpan} (h : SpansOk l) {e : TRunwaySpan} (he : l[l.length - 1]? = some e) {at_ : Int} (hlen : l.length < 24) (h0 : 0 ≤ at_) (h1 : at_ ≤ 200000) (h2 : e.From + 360 ≤ at_) : SpansOk (l ++ [⟨at_, 1 - e.End⟩]) := by
  have hp := h.pos
  obtain ⟨ee, e0, e1, -⟩ := h.one he
  refine ⟨by simp; omega, by simp, fun i x hx => ?_⟩
  rcases Nat.lt_or_ge i l.length with hi | hi
  · rw [List.getElem?_append_left hi] at hx
    have : prevOf (l ++ [⟨at_, 1 - e.End⟩]) i = prevOf l i := by
      cases i with
      | zero => rfl
      | succ k => show (l ++ _)[k]? = l[k]?; rw [List.getElem?_append_left (by omega)]
    rw [this]
    exact h.each i x hx
  · have hi2 : i = l.length := by
      have := some_lt hx
      simp at this
      omega
    subst hi2
    rw [List.getElem?_append_right (Nat.le_refl _), Nat.sub_self] at hx
    cases hx
    have hpr : prevOf (l ++ [⟨at_, 1 - e.End⟩]) l.length = some e := by
      obtain ⟨k, hk⟩ : ∃ k, l.length = k + 1 := ⟨l.length - 1, by omega⟩
      rw [hk]
      show (l ++ _)[k]? = some e
      rw [List.getElem?_append_left (by omega), show k = l.length - 1 by omega]; exact he
    rw [hpr]
    unfold badSpan nextBad
    dsimp only
    rw [wrap64 (by omega) (by omega), if_neg (by omega), if_neg (by omega), if_neg (by omega), if_neg (by omega)]
/- direction -/
def dirL (t v : Int) : List TRunwaySpan → Int × Bool
  | [] => (v, true)
  | x :: xs => if (if x.From - t > t - x.From then x.From - t else t - x.From) < 180 then (0, false) else dirL t (if x.From ≤ t then x.End else v) xs
def dirO (t : Int) : List TRunwaySpan → Int × Bool
  | [] => (0, false)
  | x :: xs => if t < x.From then (0, false) else dirL t x.End xs
theorem dir_loop (t : Int) (xs : List TRunwaySpan) (n : Nat) (hx : ∀ x ∈ xs, 0 ≤ x.From ∧ x.From ≤ 200000) (t0 : 0 ≤ t) (t1 : t ≤ 200000) (hlen : xs.length ≤ 24) : ∀ (k i m : Nat) (v : Int), i + k = xs.length → k < m → iterO (fun y : Int × Int => S44_0 n t (0) false xs (xs.length : Int) y.1 y.2) m (v, (i : Int)) = some (dirL t v (xs.drop i)) := by
  intro k
  induction k with
  | zero =>
    intro i m v hi hm
    obtain ⟨m, rfl⟩ : ∃ q, m = q + 1 := ⟨m - 1, by omega⟩
    have hS : S44_0 n t (0) false xs (xs.length : Int) v (i : Int) = some (.inr (v, true)) := by
      unfold S44_0
      rw [decide_eq_false (show ¬ (i : Int) < (xs.length : Int) by omega)]; rfl
    unfold iterO
    dsimp only
    rw [hS, List.drop_eq_nil_of_le (by omega)]; rfl
  | succ k ih =>
    intro i m v hi hm
    obtain ⟨m, rfl⟩ : ∃ q, m = q + 1 := ⟨m - 1, by omega⟩
    have hx1 : xs[i]? = some (xs[i]'(by omega)) := List.getElem?_eq_getElem (by omega)
    have hd : xs.drop i = xs[i]'(by omega) :: xs.drop (i + 1) := List.drop_eq_getElem_cons (by omega)
    have hxx := hx _ (List.getElem_mem (show i < xs.length by omega))
    generalize xs[i]'(by omega) = x at hx1 hd hxx
    have hS : S44_0 n t (0) false xs (xs.length : Int) v (i : Int) = some (if (if x.From - t > t - x.From then x.From - t else t - x.From) < 180 then .inr (0, false) else .inl ((if x.From ≤ t then x.End else v), ((i + 1 : Nat) : Int))) := by
      unfold S44_0
      rw [decide_eq_true (show (i : Int) < (xs.length : Int) by omega), getI_at hx1, wS (by omega)]
      simp only [cond_true, Option.bind_some]
      rw [wrap64 (z := x.From - t) (by omega) (by omega), wrap64 (z := t - x.From) (by omega) (by omega)]
      by_cases h1 : (if x.From - t > t - x.From then x.From - t else t - x.From) < 180
      · rw [decide_eq_true h1, if_pos h1]; rfl
      · rw [decide_eq_false h1, if_neg h1]
        by_cases h2 : x.From ≤ t
        · rw [decide_eq_true h2, if_pos h2]; rfl
        · rw [decide_eq_false h2, if_neg h2]; rfl
    unfold iterO
    dsimp only
    rw [hS, hd, dirL]
    by_cases h1 : (if x.From - t > t - x.From then x.From - t else t - x.From) < 180
    · rw [if_pos h1, if_pos h1]
    · rw [if_neg h1, if_neg h1]
      exact ih (i + 1) m _ (by omega) (by omega)
theorem dir_eq (n : Nat) (hn : 100 < n) (l : List TRunwaySpan) (hl : l.length ≤ 24) (hp : 0 < l.length) (hx : ∀ x ∈ l, 0 ≤ x.From ∧ x.From ≤ 200000) (t : Int) (t0 : 0 ≤ t) (t1 : t ≤ 200000) : g44 n l t = some (dirO t l) := by
  cases l with
  | nil => exact absurd hp (by simp)
  | cons x xs =>
    have h0 : getI (x :: xs) 0 = some x := rfl
    have hs : sliceO (x :: xs) (some 1) none = some xs := by
      simp only [sliceO, Option.getD_none, Option.getD_some]
      rw [if_pos ⟨by omega, by simp; omega, Int.le_refl _⟩]
      have e1 : ((1 : Int)).toNat = 1 := rfl
      rw [e1, List.drop_succ_cons, List.drop_zero, List.take_of_length_le (by simp)]
    unfold g44 dirO
    rw [h0]
    simp only [Option.bind_some]
    by_cases h1 : t < x.From
    · rw [decide_eq_true h1, if_pos h1]; rfl
    · rw [decide_eq_false h1, if_neg h1, cond_false, hs, Option.bind_some]
      have := dir_loop t xs n (fun y hy => hx y (List.mem_cons_of_mem _ hy)) t0 t1 (by simp at hl; omega) xs.length 0 n x.End (by omega) (by simp at hl; omega)
      rw [List.drop_zero] at this
      exact this
theorem dirL_snoc (t : Int) (z : TRunwaySpan) : ∀ (xs : List TRunwaySpan) (v : Int), dirL t v (xs ++ [z]) = if (dirL t v xs).2 then (if (if z.From - t > t - z.From then z.From - t else t - z.From) < 180 then (0, false) else ((if z.From ≤ t then z.End else (dirL t v xs).1), true)) else (0, false)
  | [], v => by simp [dirL]
  | x :: xs, v => by
    rw [List.cons_append, dirL, dirL]
    by_cases h1 : (if x.From - t > t - x.From then x.From - t else t - x.From) < 180
    · rw [if_pos h1, if_pos h1]; rfl
    · rw [if_neg h1, if_neg h1]; exact dirL_snoc t z xs _
theorem dirL_false (t : Int) : ∀ (xs : List TRunwaySpan) (v : Int), (dirL t v xs).2 = false → dirL t v xs = (0, false)
  | [], v => fun h => by simp [dirL] at h
  | x :: xs, v => by
    rw [dirL]
    by_cases h1 : (if x.From - t > t - x.From then x.From - t else t - x.From) < 180
    · rw [if_pos h1]; exact fun _ => rfl
    · rw [if_neg h1]; exact dirL_false t xs _
theorem dirL_true (t : Int) : ∀ (xs : List TRunwaySpan) (v : Int), (∀ x ∈ xs, x.From + 180 ≤ t) → (dirL t v xs).2 = true
  | [], v => fun _ => rfl
  | x :: xs, v => fun h => by
    have := h x List.mem_cons_self
    rw [dirL, if_neg (by split <;> omega)]
    exact dirL_true t xs _ (fun y hy => h y (List.mem_cons_of_mem _ hy))
theorem dirO_before (t : Int) (z : TRunwaySpan) (l : List TRunwaySpan) (hl : l ≠ []) (h : t + 180 ≤ z.From) : dirO t (l ++ [z]) = dirO t l := by
  cases l with
  | nil => exact absurd rfl hl
  | cons x xs =>
    rw [List.cons_append, dirO, dirO, dirL_snoc]
    by_cases h1 : t < x.From
    · rw [if_pos h1, if_pos h1]
    rw [if_neg h1, if_neg h1]
    cases h2 : (dirL t x.End xs).2 with
    | false => rw [if_neg (by decide), dirL_false t xs _ h2]
    | true => rw [if_pos rfl, if_neg (by split <;> omega), if_neg (by omega), ← h2]
theorem dirO_at (t : Int) (z : TRunwaySpan) (l : List TRunwaySpan) (hl : l ≠ []) (h : t = z.From) : (dirO t (l ++ [z])).2 = false := by
  cases l with
  | nil => exact absurd rfl hl
  | cons x xs =>
    rw [List.cons_append, dirO, dirL_snoc]
    split
    · rfl
    split
    · rw [if_pos (by split <;> omega)]
    · rfl
theorem dirO_after (t : Int) (z : TRunwaySpan) (l : List TRunwaySpan) (hl : l ≠ []) (h : t = z.From + 180) (hall : ∀ x ∈ l, x.From ≤ z.From) : dirO t (l ++ [z]) = (z.End, true) := by
  cases l with
  | nil => exact absurd rfl hl
  | cons x xs =>
    have := hall x List.mem_cons_self
    rw [List.cons_append, dirO, if_neg (by omega), dirL_snoc, if_pos (dirL_true t xs _ (fun y hy => by have := hall y (List.mem_cons_of_mem _ hy); omega)), if_neg (by split <;> omega), if_pos (by omega)]
/- Safe -/
theorem gap_tot (n : Nat) (t : TWakeTable) (h : TabOk t) (a b : TRunwayMove) (a0 : 0 ≤ a.Wake) (a1 : a.Wake ≤ 3) (b0 : 0 ≤ b.Wake) (b1 : b.Wake ≤ 3) : ∃ z, g45 n t a b = some z := by
  unfold g45
  cases (!(a.Departs == b.Departs)) with
  | true => exact ⟨60, rfl⟩
  | false =>
    obtain ⟨r, h1, h2, -⟩ := cell_at t h a0 a1 b0 b1
    unfold rows at h1
    unfold cols at h2
    rw [cond_false, h1, Option.bind_some, h2]
    exact ⟨_, rfl⟩
theorem safe_same (n : Nat) (l : List TRunwayMove) (s u : List TRunwaySpan) (t : TWakeTable) (h1 : g41 n s = g41 n u) (h2 : ∀ x ∈ l, g44 n s x.Time = g44 n u x.Time) : g19 n l s t = g19 n l u t := by
  unfold g19
  rw [h1]
  have : (fun y : Int => S19_0 n l s (0) (l.length : Int) t.c0_0 t.c0_1 t.c0_2 t.c0_3 t.c1_0 t.c1_1 t.c1_2 t.c1_3 t.c2_0 t.c2_1 t.c2_2 t.c2_3 t.c3_0 t.c3_1 t.c3_2 t.c3_3 y) = (fun y : Int => S19_0 n l u (0) (l.length : Int) t.c0_0 t.c0_1 t.c0_2 t.c0_3 t.c1_0 t.c1_1 t.c1_2 t.c1_3 t.c2_0 t.c2_1 t.c2_2 t.c2_3 t.c3_0 t.c3_1 t.c3_2 t.c3_3 y) := by
    funext y
    unfold S19_0
    cases hg : getI l y with
    | none => rfl
    | some x =>
      have hm : x ∈ l := by
        unfold getI at hg
        split at hg
        · exact List.mem_of_getElem? hg
        · cases hg
      simp only [Option.bind_some]
      rw [h2 x hm]
  rw [this]
theorem safe_tot (n : Nat) (hn : 100 < n) (l : List TRunwayMove) (s : List TRunwaySpan) (t : TWakeTable) (hs : SpansOk s) : ∃ q, g19 n l s t = some q := by
  unfold g19
  obtain ⟨z, e, hz⟩ := moves_tot n hn l
  rw [e]
  simp only [Option.bind_some]
  by_cases hz0 : z = 0
  rotate_left
  · rw [show (z != (0)) = true from bne_iff_ne.2 hz0]; exact ⟨_, rfl⟩
  have hm := hz hz0
  subst hz0
  obtain ⟨z, e, -, hz⟩ := spans_tot n hn s
  rw [e, hz hs]
  obtain ⟨w, e, hw⟩ := tab_tot n hn t
  rw [e]
  simp only [Option.bind_some, bne_self_eq_false, cond_false]
  by_cases hw0 : w = 0
  rotate_left
  · rw [show (w != (0)) = true from bne_iff_ne.2 hw0]; exact ⟨_, rfl⟩
  have ht := hw hw0
  subst hw0
  simp only [bne_self_eq_false, cond_false]
  have hl := hm.len
  -- the second loop
  have in2 : ∀ (i : Nat) (x : TRunwayMove), l[i]? = some x → ∃ q, iterO (fun y : Int => S19_1_0 n l (0) (i : Int) (l.length : Int) t.c0_0 t.c0_1 t.c0_2 t.c0_3 t.c1_0 t.c1_1 t.c1_2 t.c1_3 t.c2_0 t.c2_1 t.c2_2 t.c2_3 t.c3_0 t.c3_1 t.c3_2 t.c3_3 x.Time x.Wake x.Departs x.End y) n (IntKind.wrap .i64 ((i : Int) + 1)) = some q ∧ (q = .inl ((i + 1 : Nat) : Int) ∨ ∃ r, q = .inr r) := by
    intro i x hx
    have hi := some_lt hx
    rw [wS (by omega)]
    refine iterO_rule (fun y => ∃ j : Nat, j ≤ l.length ∧ y = (j : Int)) _ (fun y => l.length - y.toNat) ?_ n _ ⟨i + 1, hi, rfl⟩ (by simp; omega)
    rintro _ ⟨j, hj, rfl⟩
    unfold S19_1_0
    rcases Nat.lt_or_ge j l.length with hj2 | hj2
    · have hy : l[j]? = some (l[j]'hj2) := List.getElem?_eq_getElem hj2
      have w1 := hm.each _ (List.mem_of_getElem? hx)
      have w2 := hm.each _ (List.mem_of_getElem? hy)
      generalize l[j]'hj2 = p at hy w2
      obtain ⟨z, hz⟩ := gap_tot n t ht ⟨x.Time, x.Wake, x.Departs, x.End⟩ p w1.2.2.1 w1.2.2.2 w2.2.2.1 w2.2.2.2
      rw [decide_eq_true (show (j : Int) < (l.length : Int) by omega), getI_at hy, wS (by omega)]
      simp only [cond_true, Option.bind_some]
      rw [show g45 n ⟨t.c0_0, t.c0_1, t.c0_2, t.c0_3, t.c1_0, t.c1_1, t.c1_2, t.c1_3, t.c2_0, t.c2_1, t.c2_2, t.c2_3, t.c3_0, t.c3_1, t.c3_2, t.c3_3⟩ ⟨x.Time, x.Wake, x.Departs, x.End⟩ p = some z from hz, Option.bind_some]
      cases decide (IntKind.i64.wrap (p.Time - x.Time) < z) with
      | true => exact .inr ⟨_, rfl, .inr ⟨_, rfl⟩⟩
      | false => exact .inl ⟨_, rfl, ⟨j + 1, hj2, rfl⟩, by simp; omega⟩
    · rw [decide_eq_false (show ¬ (j : Int) < (l.length : Int) by omega), cond_false, wS (by omega)]
      exact .inr ⟨_, rfl, .inl rfl⟩
  have lo2 : ∃ q, iterO (fun y : Int => S19_1 n l (0) (l.length : Int) t.c0_0 t.c0_1 t.c0_2 t.c0_3 t.c1_0 t.c1_1 t.c1_2 t.c1_3 t.c2_0 t.c2_1 t.c2_2 t.c2_3 t.c3_0 t.c3_1 t.c3_2 t.c3_3 y) n 0 = some q := by
    obtain ⟨q, e, -⟩ := iterO_rule (S := fun y : Int => S19_1 n l (0) (l.length : Int) t.c0_0 t.c0_1 t.c0_2 t.c0_3 t.c1_0 t.c1_1 t.c1_2 t.c1_3 t.c2_0 t.c2_1 t.c2_2 t.c2_3 t.c3_0 t.c3_1 t.c3_2 t.c3_3 y) (fun y => ∃ j : Nat, j ≤ l.length ∧ y = (j : Int)) (fun _ => True) (fun y => l.length - y.toNat) (by
      rintro _ ⟨j, hj, rfl⟩
      rcases Nat.lt_or_ge j l.length with hj2 | hj2
      · have hy : l[j]? = some (l[j]'hj2) := List.getElem?_eq_getElem hj2
        generalize l[j]'hj2 = p at hy
        obtain ⟨q, e, hq⟩ := in2 j p hy
        have hS : S19_1 n l (0) (l.length : Int) t.c0_0 t.c0_1 t.c0_2 t.c0_3 t.c1_0 t.c1_1 t.c1_2 t.c1_3 t.c2_0 t.c2_1 t.c2_2 t.c2_3 t.c3_0 t.c3_1 t.c3_2 t.c3_3 (j : Int) = some q := by
          unfold S19_1
          rw [decide_eq_true (show (j : Int) < (l.length : Int) by omega), getI_at hy]
          exact e
        rcases hq with rfl | ⟨r, rfl⟩
        · exact .inl ⟨_, hS, ⟨j + 1, hj2, rfl⟩, by simp; omega⟩
        · exact .inr ⟨_, hS, trivial⟩
      · refine .inr ⟨(0, 0, 0), ?_, trivial⟩
        unfold S19_1
        rw [decide_eq_false (show ¬ (j : Int) < (l.length : Int) by omega)]; rfl) n 0 ⟨0, by omega, rfl⟩ (by simp; omega)
    exact ⟨q, e⟩
  obtain ⟨q2, e2⟩ := lo2
  obtain ⟨q, e, -⟩ := iterO_rule (S := fun y : Int => S19_0 n l s (0) (l.length : Int) t.c0_0 t.c0_1 t.c0_2 t.c0_3 t.c1_0 t.c1_1 t.c1_2 t.c1_3 t.c2_0 t.c2_1 t.c2_2 t.c2_3 t.c3_0 t.c3_1 t.c3_2 t.c3_3 y) (fun y => ∃ j : Nat, j ≤ l.length ∧ y = (j : Int)) (fun _ => True) (fun y => l.length - y.toNat) (by
    rintro _ ⟨j, hj, rfl⟩
    show (∃ y, S19_0 n l s (0) (l.length : Int) t.c0_0 t.c0_1 t.c0_2 t.c0_3 t.c1_0 t.c1_1 t.c1_2 t.c1_3 t.c2_0 t.c2_1 t.c2_2 t.c2_3 t.c3_0 t.c3_1 t.c3_2 t.c3_3 (j : Int) = _ ∧ _) ∨ (∃ r, S19_0 n l s (0) (l.length : Int) t.c0_0 t.c0_1 t.c0_2 t.c0_3 t.c1_0 t.c1_1 t.c1_2 t.c1_3 t.c2_0 t.c2_1 t.c2_2 t.c2_3 t.c3_0 t.c3_1 t.c3_2 t.c3_3 (j : Int) = _ ∧ _)
    unfold S19_0
    rcases Nat.lt_or_ge j l.length with hj2 | hj2
    · have hy : l[j]? = some (l[j]'hj2) := List.getElem?_eq_getElem hj2
      have w2 := hm.each _ (List.mem_of_getElem? hy)
      generalize l[j]'hj2 = p at hy w2
      rw [decide_eq_true (show (j : Int) < (l.length : Int) by omega), getI_at hy, wS (by omega)]
      simp only [cond_true, Option.bind_some]
      rw [dir_eq n hn s hs.len hs.pos (fun x hx => (hs.mem hx).2) p.Time w2.1 w2.2.1, Option.bind_some]
      cases (!(dirO p.Time s).2) with
      | true => exact .inr ⟨_, rfl, trivial⟩
      | false =>
        cases ((dirO p.Time s).1 != p.End) with
        | true => exact .inr ⟨_, rfl, trivial⟩
        | false => exact .inl ⟨_, rfl, ⟨j + 1, hj2, rfl⟩, by simp; omega⟩
    · rw [decide_eq_false (show ¬ (j : Int) < (l.length : Int) by omega), cond_false, e2]
      exact .inr ⟨_, rfl, trivial⟩) n 0 ⟨0, by omega, rfl⟩ (by simp; omega)
  exact ⟨q, e⟩
end Go.Proofs.Ytfmodgffhbljoaa
