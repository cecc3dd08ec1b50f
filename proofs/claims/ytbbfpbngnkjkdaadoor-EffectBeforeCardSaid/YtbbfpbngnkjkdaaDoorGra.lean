/- Gf1 to Gr10. -/
import Derived.Test.YtbbfpbngnkjkdaaDoorX1G
import Derived.Test.YtbbfpbngnkjkdaaDoorMath2
/- Tubes: what Check, the search and At say. -/
set_option linter.unusedVariables false
set_option linter.unusedSimpArgs false
namespace Go.Proofs.YtbbfpbngnkjkdaaDoor

def POk (p : TP) : Prop := -1000000 ≤ p.X ∧ p.X ≤ 1000000 ∧ -1000000 ≤ p.Y ∧ p.Y ≤ 1000000
theorem pcheck (n : Nat) (p : TP) : (g20 n p = some 0 ∧ POk p) ∨ (g20 n p = some 4 ∧ ¬ POk p) := by
  unfold g20 POk
  simp only [cond_eq_ite, decide_eq_true_eq]
  repeat' split
  all_goals first | (right; exact ⟨rfl, by omega⟩) | (left; exact ⟨rfl, by omega⟩)
def NodeB (x : TTubeNode) : Prop := 0 ≤ x.Node_Time ∧ x.Node_Time ≤ 200000 ∧ POk ⟨x.Node_At_X, x.Node_At_Y⟩ ∧ 0 ≤ x.Node_Height ∧ x.Node_Height ≤ 60000 ∧ 0 ≤ x.Radius ∧ x.Radius ≤ 1000000 ∧ 0 ≤ x.Band ∧ x.Band ≤ 60000
structure TubeOk (l : List TTubeNode) : Prop where
  pos : 1 ≤ l.length
  len : l.length ≤ 64
  nodes : ∀ x ∈ l, NodeB x
  inc : ∀ (i : Nat) (x y : TTubeNode), l[i]? = some x → l[i + 1]? = some y → x.Node_Time < y.Node_Time
theorem check_tail (n : Nat) (x : TTubeNode) (w : Int) (h0 : ¬ x.Node_Time < 0) (h1 : ¬ x.Node_Time > 200000) {s : Int ⊕ Int} (hs : ((g20 n (⟨x.Node_At_X, x.Node_At_Y⟩ : TP)).bind fun x6 =>
bif (x6 != (0)) then (
some (.inr (x6))) else (
bif (decide (x.Node_Height < (0))) then (
some (.inr (4))) else (
bif (decide (x.Node_Height > (60000))) then (
some (.inr (4))) else (
bif (decide (x.Radius < (0))) then (
some (.inr (4))) else (
bif (decide (x.Radius > (1000000))) then (
some (.inr (4))) else (
bif (decide (x.Band < (0))) then (
some (.inr (4))) else (
bif (decide (x.Band > (60000))) then (
some (.inr (4))) else (
some (.inl w))))))))) = some s) : (s = .inl w ∧ NodeB x) ∨ ∃ r, s = .inr r ∧ r ≠ 0 := by
  rcases pcheck n ⟨x.Node_At_X, x.Node_At_Y⟩ with ⟨e, hp⟩ | ⟨e, hp⟩
  · rw [e, Option.bind_some, show ((0 : Int) != 0) = false from rfl, cond_false] at hs
    simp only [cond_eq_ite, decide_eq_true_eq] at hs
    repeat' split at hs
    all_goals cases hs
    all_goals first | (right; exact ⟨_, rfl, by decide⟩) | (left; exact ⟨rfl, by omega, by omega, hp, by omega, by omega, by omega, by omega, by omega, by omega⟩)
  · rw [e, Option.bind_some, show ((4 : Int) != 0) = true from rfl, cond_true] at hs
    cases hs
    exact .inr ⟨_, rfl, by decide⟩
theorem check_step (n : Nat) (l : List TTubeNode) (hl : l.length ≤ 64) (i : Nat) (x : TTubeNode) (hx : l[i]? = some x) :
    (S7_0 n l 0 (l.length : Int) (i : Int) = some (.inl ((i + 1 : Nat) : Int)) ∧ NodeB x ∧ ∀ y, 0 < i → l[i - 1]? = some y → y.Node_Time < x.Node_Time) ∨ ∃ r, S7_0 n l 0 (l.length : Int) (i : Int) = some (.inr r) ∧ r ≠ 0 := by
  have hlt := some_lt hx
  unfold S7_0
  rw [decide_eq_true (show (i : Int) < (l.length : Int) by omega), getI_at hx, cond_true, Option.bind_some, wS (show i < 9223372036854775807 by omega)]
  by_cases a1 : x.Node_Time < 0
  · rw [decide_eq_true a1, cond_true]; exact .inr ⟨12, rfl, by decide⟩
  rw [decide_eq_false a1, cond_false]
  by_cases a2 : x.Node_Time > 200000
  · rw [decide_eq_true a2, cond_true]; exact .inr ⟨12, rfl, by decide⟩
  rw [decide_eq_false a2, cond_false]
  have fin : ∀ s : Option (Int ⊕ Int), (∀ q, s = some q → (q = .inl ((i + 1 : Nat) : Int) ∧ NodeB x) ∨ ∃ r, q = .inr r ∧ r ≠ 0) → s ≠ none → (∀ y, 0 < i → l[i - 1]? = some y → y.Node_Time < x.Node_Time) → (s = some (.inl ((i + 1 : Nat) : Int)) ∧ NodeB x ∧ ∀ y, 0 < i → l[i - 1]? = some y → y.Node_Time < x.Node_Time) ∨ ∃ r, s = some (.inr r) ∧ r ≠ 0 := by
    intro s h1 h2 h3
    cases s with
    | none => exact absurd rfl h2
    | some q =>
      rcases h1 q rfl with ⟨rfl, h⟩ | ⟨r, rfl, h⟩
      · exact .inl ⟨rfl, h, h3⟩
      · exact .inr ⟨r, rfl, h⟩
  have nn : ∀ (w : Int), ((g20 n (⟨x.Node_At_X, x.Node_At_Y⟩ : TP)).bind fun x6 =>
bif (x6 != (0)) then (
some (Sum.inr (x6))) else (
bif (decide (x.Node_Height < (0))) then (
some (.inr (4))) else (
bif (decide (x.Node_Height > (60000))) then (
some (.inr (4))) else (
bif (decide (x.Radius < (0))) then (
some (.inr (4))) else (
bif (decide (x.Radius > (1000000))) then (
some (.inr (4))) else (
bif (decide (x.Band < (0))) then (
some (.inr (4))) else (
bif (decide (x.Band > (60000))) then (
some (.inr (4))) else (
some (.inl w))))))))) ≠ none := by
    intro w
    rcases pcheck n ⟨x.Node_At_X, x.Node_At_Y⟩ with ⟨e, -⟩ | ⟨e, -⟩
    · rw [e, Option.bind_some, show ((0 : Int) != 0) = false from rfl]
      simp only [cond_false, cond_eq_ite]
      repeat' split
      all_goals exact fun h => by cases h
    · rw [e, Option.bind_some, show ((4 : Int) != 0) = true from rfl, cond_true]
      exact fun h => by cases h
  rcases i with _ | j
  · rw [show decide (((0 : Nat) : Int) > 0) = false from rfl, cond_false]
    exact fin _ (fun q hq => check_tail n x _ a1 a2 hq) (nn _) (fun y h => absurd h (Nat.lt_irrefl 0))
  · have hj : j < l.length := by omega
    have hy : l[j]? = some l[j] := List.getElem?_eq_getElem hj
    have hwj : IntKind.wrap .i64 (((j + 1 : Nat) : Int) - 1) = (j : Int) := by rw [wrap64 (by omega) (by omega)]; omega
    rw [decide_eq_true (show ((j + 1 : Nat) : Int) > 0 by omega), cond_true, hwj, getI_at hy, Option.bind_some]
    by_cases a3 : x.Node_Time ≤ l[j].Node_Time
    · rw [decide_eq_true a3, cond_true]; exact .inr ⟨12, rfl, by decide⟩
    rw [decide_eq_false a3, cond_false]
    exact fin _ (fun q hq => check_tail n x _ a1 a2 hq) (nn _) (fun y _ h => by rw [Nat.add_sub_cancel, hy] at h; cases h; omega)
theorem check_tot (n : Nat) (hn : 64 < n) (l : List TTubeNode) : (g7 n l = some 0 ∧ TubeOk l) ∨ ∃ z, z ≠ 0 ∧ g7 n l = some z := by
  unfold g7
  by_cases h1 : (l.length : Int) > 64
  · right; exact ⟨2, by decide, by rw [decide_eq_true h1]; rfl⟩
  rw [decide_eq_false h1, cond_false]
  by_cases h2 : (l.length : Int) = 0
  · right; exact ⟨3, by decide, by rw [h2]; rfl⟩
  rw [show ((l.length : Int) == 0) = false from beq_eq_false_iff_ne.2 h2, cond_false]
  obtain ⟨r, hr, h⟩ := iter_each (S := fun y : Int => S7_0 n l 0 (l.length : Int) y) l (fun i x => NodeB x ∧ ∀ y, 0 < i → l[i - 1]? = some y → y.Node_Time < x.Node_Time) (fun r => r ≠ 0) 0 (fun i x hx => check_step n l (by omega) i x hx) (by
    unfold S7_0
    rw [decide_eq_false (Int.lt_irrefl _)]; rfl) n (by omega)
  rcases h with h | ⟨rfl, h⟩
  · right; exact ⟨r, h, hr⟩
  · left
    refine ⟨hr, by omega, by omega, fun x hx => ?_, fun i x y hx hy => (h (i + 1) y hy).2 x (Nat.succ_pos i) hx⟩
    obtain ⟨i, hi⟩ := List.getElem?_of_mem hx
    exact (h i x hi).1
/- times grow -/
theorem TubeOk.lt {l : List TTubeNode} (h : TubeOk l) : ∀ (d i : Nat) (x y : TTubeNode), l[i]? = some x → l[i + d + 1]? = some y → x.Node_Time < y.Node_Time
  | 0, i, x, y, hx, hy => h.inc i x y hx hy
  | d + 1, i, x, y, hx, hy => by
    have := some_lt hy
    have hz : l[i + d + 1]? = some l[i + d + 1] := List.getElem?_eq_getElem (by omega)
    have h1 := TubeOk.lt h d i x _ hx hz
    have h2 := h.inc (i + d + 1) _ y hz hy
    omega
theorem TubeOk.lt' {l : List TTubeNode} (h : TubeOk l) {i j : Nat} {x y : TTubeNode} (hij : i < j) (hx : l[i]? = some x) (hy : l[j]? = some y) : x.Node_Time < y.Node_Time :=
  h.lt (j - i - 1) i x y hx (by rw [show i + (j - i - 1) + 1 = j by omega]; exact hy)
theorem TubeOk.le' {l : List TTubeNode} (h : TubeOk l) {i j : Nat} {x y : TTubeNode} (hij : i ≤ j) (hx : l[i]? = some x) (hy : l[j]? = some y) : x.Node_Time ≤ y.Node_Time := by
  rcases Nat.eq_or_lt_of_le hij with rfl | h'
  · rw [hx] at hy; cases hy; exact Int.le_refl _
  · exact Int.le_of_lt (h.lt' h' hx hy)
/- the search -/
theorem half {a b : Nat} (h : a + b < 2000) : IntKind.wrap .i64 (Int.fdiv (IntKind.wrap .u64 (IntKind.wrap .i64 ((a : Int) + (b : Int)))) 2) = (((a + b) / 2 : Nat) : Int) := by
  rw [wrap64 (z := (a : Int) + (b : Int)) (by omega) (by omega)]
  have e : IntKind.wrap .u64 ((a : Int) + (b : Int)) = (a : Int) + (b : Int) := IntWalk.u64_in _ (by omega)
  rw [e, Int.fdiv_eq_ediv_of_nonneg _ (by decide), wrap64 (by omega) (by omega)]
  omega
theorem search_eq (n : Nat) (hn : 64 < n) (l : List TTubeNode) (h : TubeOk l) (t : Int) (ht : -1000000 ≤ t ∧ t ≤ 1000000) :
    ∃ i : Nat, i ≤ l.length ∧ (∀ j x, j < i → l[j]? = some x → x.Node_Time < t) ∧ (∀ j x, i ≤ j → l[j]? = some x → t ≤ x.Node_Time) ∧ ∃ b, g34 n l t = some ((i : Int), b) ∧ (b = true ↔ ∃ x, l[i]? = some x ∧ x.Node_Time = t) := by
  have hlen := h.len
  have cmp : ∀ x ∈ l, g35 n x t = some (x.Node_Time - t) := fun x hx => by
    have := (h.nodes x hx)
    unfold g35
    rw [wrap64 (by have := this.1; omega) (by have := this.2.1; omega)]
  obtain ⟨r, hr, i, hi, h1, h2, h3, h4⟩ := iterO_rule (S := fun y : Int × Int => S34_0 n l t 0 false (l.length : Int) y.1 y.2)
    (fun z => ∃ a b : Nat, z = ((a : Int), (b : Int)) ∧ a ≤ b ∧ b ≤ l.length ∧ (∀ j x, j < a → l[j]? = some x → x.Node_Time < t) ∧ ∀ j x, b ≤ j → l[j]? = some x → t ≤ x.Node_Time)
    (fun r => ∃ i : Nat, i ≤ l.length ∧ (∀ j x, j < i → l[j]? = some x → x.Node_Time < t) ∧ (∀ j x, i ≤ j → l[j]? = some x → t ≤ x.Node_Time) ∧ r.1 = (i : Int) ∧ (r.2 = true ↔ ∃ x, l[i]? = some x ∧ x.Node_Time = t))
    (fun z => (z.2 - z.1).toNat) (by
      rintro _ ⟨a, b, rfl, hab, hb, hlo, hhi⟩
      simp only []
      unfold S34_0
      rcases Nat.eq_or_lt_of_le hab with rfl | hlt
      · right
        rw [decide_eq_false (show ¬ (a : Int) < (a : Int) from Int.lt_irrefl _), cond_false]
        rcases Nat.lt_or_ge a l.length with hal | hal
        · have hx : l[a]? = some l[a] := List.getElem?_eq_getElem hal
          have hz := h.nodes _ (List.getElem_mem hal)
          rw [decide_eq_true (show (a : Int) < (l.length : Int) by omega), cond_true, getI_at hx, Option.bind_some, cmp _ (List.getElem_mem hal), Option.bind_some]
          refine ⟨_, rfl, a, by omega, hlo, hhi, rfl, ?_⟩
          show ((l[a].Node_Time - t == 0) = true) ↔ _
          rw [beq_iff_eq]
          exact ⟨fun e => ⟨_, hx, by omega⟩, fun ⟨x, e, e2⟩ => by rw [hx] at e; cases e; omega⟩
        · rw [decide_eq_false (show ¬ (a : Int) < (l.length : Int) by omega), cond_false]
          refine ⟨_, rfl, a, by omega, hlo, hhi, rfl, ?_⟩
          show (false = true) ↔ _
          simp only [Bool.false_eq_true, false_iff]
          rintro ⟨x, e, -⟩
          have := some_lt e; omega
      · left
        rw [decide_eq_true (show (a : Int) < (b : Int) by omega), cond_true, half (by omega)]
        have hm : (a + b) / 2 < l.length := by omega
        have hx : l[(a + b) / 2]? = some l[(a + b) / 2] := List.getElem?_eq_getElem hm
        rw [getI_at hx, Option.bind_some, cmp _ (List.getElem_mem hm), Option.bind_some]
        by_cases hc : l[(a + b) / 2].Node_Time - t < 0
        · rw [decide_eq_true hc, cond_true, wS (by omega)]
          refine ⟨_, rfl, ⟨(a + b) / 2 + 1, b, rfl, by omega, hb, fun j x hj hxj => ?_, hhi⟩, by simp only []; omega⟩
          have := h.le' (show j ≤ (a + b) / 2 by omega) hxj hx
          omega
        · rw [decide_eq_false hc, cond_false]
          refine ⟨_, rfl, ⟨a, (a + b) / 2, rfl, by omega, by omega, hlo, fun j x hj hxj => ?_⟩, by simp only []; omega⟩
          have := h.le' hj hx hxj
          omega) n (0, (l.length : Int)) ⟨0, l.length, rfl, Nat.zero_le _, Nat.le_refl _, fun j x hj => absurd hj (Nat.not_lt_zero _), fun j x hj hx => absurd (some_lt hx) (Nat.not_lt_of_le hj)⟩ (by simp only []; omega)
  refine ⟨i, hi, h1, h2, r.2, ?_, h4⟩
  unfold g34
  rw [hr, ← h3]
/- division -/
theorem down_tot (n : Nat) (a b : Int) : ∃ r, g37 n a b = some r ∧ (r.2 = 0 → b ≠ 0) := by
  unfold g37
  by_cases hb : b = 0
  · rw [show (b == 0) = true from beq_iff_eq.2 hb, cond_true]; exact ⟨_, rfl, fun h => by cases h⟩
  rw [show (b == 0) = false from beq_eq_false_iff_ne.2 hb, cond_false]
  have hd : divO a b = some (a.tdiv b) := by simp [divO, hb]
  have hm : modO a b = some (a.tmod b) := by simp [modO, hb]
  rw [hd, hm]
  simp only [Option.bind_some, cond_eq_ite]
  repeat' split
  all_goals exact ⟨_, rfl, fun _ => hb⟩
theorem up_tot (n : Nat) (a b : Int) : ∃ r, g38 n a b = some r := by
  unfold g38
  obtain ⟨r, hr, h0⟩ := down_tot n a b
  rw [hr, Option.bind_some]
  by_cases h : r.2 = 0
  · have hb := h0 h
    have hm : modO a b = some (a.tmod b) := by simp [modO, hb]
    rw [show (r.2 == 0) = true from beq_iff_eq.2 h, cond_true, hm, Option.bind_some]
    simp only [cond_eq_ite]
    split <;> exact ⟨_, rfl⟩
  · rw [show (r.2 == 0) = false from beq_eq_false_iff_ne.2 h, cond_false]; exact ⟨_, rfl⟩
theorem toward_tot (n : Nat) (a b : TP) (c d : Int) : ∃ r, g36 n a b c d = some r := by
  unfold g36
  simp only [cond_eq_ite]
  obtain ⟨r1, h1, -⟩ := down_tot n (IntKind.wrap .i64 ((IntKind.wrap .i64 (b.X - a.X)) * c)) d
  obtain ⟨r2, h2, -⟩ := down_tot n (IntKind.wrap .i64 ((IntKind.wrap .i64 (b.Y - a.Y)) * c)) d
  rw [h1, h2]
  rcases pcheck n a with ⟨e, -⟩ | ⟨e, -⟩ <;> rw [e] <;> simp only [Option.bind_some] <;> rcases pcheck n b with ⟨e2, -⟩ | ⟨e2, -⟩ <;> (try rw [e2]) <;> simp only [Option.bind_some] <;> repeat' split
  all_goals exact ⟨_, rfl⟩
/- the node at a time -/
theorem at_tot (n : Nat) (hn : 64 < n) (l : List TTubeNode) (h : TubeOk l) (t : Int) (x0 x1 : TTubeNode) (h0 : l[0]? = some x0) (h1 : l[l.length - 1]? = some x1) (ht0 : x0.Node_Time ≤ t) (ht1 : t ≤ x1.Node_Time) : ∃ r, g25 n l t = some r := by
  have hp := h.pos
  have b0 := h.nodes x0 (List.mem_of_getElem? h0)
  have b1 := h.nodes x1 (List.mem_of_getElem? h1)
  obtain ⟨i, hi, k1, k2, b, hb, hbt⟩ := search_eq n hn l h t (by have := b0.1; have := b1.2.1; omega)
  unfold g25
  rw [hb, Option.bind_some]
  cases b with
  | true =>
    obtain ⟨x, hx, -⟩ := hbt.1 rfl
    simp only [cond_true]
    rw [getI_at hx]; exact ⟨_, rfl⟩
  | false =>
    simp only [cond_false]
    have hil : i < l.length := by
      rcases Nat.lt_or_ge i l.length with h' | h'
      · exact h'
      · have := k1 (l.length - 1) x1 (by omega) h1; omega
    have hi0 : 0 < i := by
      rcases Nat.eq_zero_or_pos i with rfl | h'
      · have := k2 0 x0 (Nat.le_refl _) h0
        have := hbt.2 ⟨x0, h0, by omega⟩
        cases this
      · exact h'
    have ha : l[i - 1]? = some l[i - 1] := List.getElem?_eq_getElem (by omega)
    have hb' : l[i]? = some l[i] := List.getElem?_eq_getElem hil
    have hw : IntKind.wrap .i64 ((i : Int) - 1) = ((i - 1 : Nat) : Int) := by have := h.len; rw [wrap64 (by omega) (by omega)]; omega
    rw [hw, getI_at ha, getI_at hb']
    simp only [Option.bind_some]
    obtain ⟨q1, e1⟩ := toward_tot n (⟨l[i - 1].Node_At_X, l[i - 1].Node_At_Y⟩ : TP) (⟨l[i].Node_At_X, l[i].Node_At_Y⟩ : TP) (IntKind.wrap .i64 (t - l[i - 1].Node_Time)) (IntKind.wrap .i64 (l[i].Node_Time - l[i - 1].Node_Time))
    rw [e1, Option.bind_some]
    obtain ⟨q2, e2, -⟩ := down_tot n (IntKind.wrap .i64 ((IntKind.wrap .i64 (l[i].Node_Height - l[i - 1].Node_Height)) * (IntKind.wrap .i64 (t - l[i - 1].Node_Time)))) (IntKind.wrap .i64 (l[i].Node_Time - l[i - 1].Node_Time))
    rw [e2, Option.bind_some]
    obtain ⟨q3, e3⟩ := up_tot n (IntKind.wrap .i64 ((IntKind.wrap .i64 (l[i].Radius - l[i - 1].Radius)) * (IntKind.wrap .i64 (t - l[i - 1].Node_Time)))) (IntKind.wrap .i64 (l[i].Node_Time - l[i - 1].Node_Time))
    rw [e3, Option.bind_some]
    obtain ⟨q4, e4⟩ := up_tot n (IntKind.wrap .i64 ((IntKind.wrap .i64 (l[i].Band - l[i - 1].Band)) * (IntKind.wrap .i64 (t - l[i - 1].Node_Time)))) (IntKind.wrap .i64 (l[i].Node_Time - l[i - 1].Node_Time))
    rw [e4, Option.bind_some]
    exact ⟨_, rfl⟩
def zeroN : TTubeNode := ⟨0, 0, 0, 0, 0, 0⟩
/- At of a valid tube: inside a node, outside error 12 -/
theorem At_cases (n : Nat) (hn : 64 < n) (l : List TTubeNode) (h : TubeOk l) (hc : g7 n l = some 0) (t : Int) (x0 x1 : TTubeNode) (h0 : l[0]? = some x0) (h1 : l[l.length - 1]? = some x1) :
    (x0.Node_Time ≤ t ∧ t ≤ x1.Node_Time ∧ ∃ r, g25 n l t = some r ∧ g8 n l t = some (r, 0)) ∨ ((t < x0.Node_Time ∨ x1.Node_Time < t) ∧ g8 n l t = some (zeroN, 12)) := by
  have hp := h.pos
  have hl := h.len
  unfold g8 g24
  have hw : IntKind.wrap .i64 ((l.length : Int) - 1) = ((l.length - 1 : Nat) : Int) := by rw [wrap64 (by omega) (by omega)]; omega
  have g0 : getI l 0 = some x0 := getI_at (i := 0) h0
  rw [hc, Option.bind_some, show ((0 : Int) != 0) = false from rfl, cond_false, hw, getI_at h1, g0]
  simp only [Option.bind_some]
  by_cases a1 : t < x0.Node_Time
  · rw [decide_eq_true a1, cond_true]; exact .inr ⟨.inl a1, rfl⟩
  rw [decide_eq_false a1, cond_false]
  by_cases a2 : t > x1.Node_Time
  · rw [decide_eq_true a2, cond_true]; exact .inr ⟨.inr a2, rfl⟩
  rw [decide_eq_false a2, cond_false]
  obtain ⟨r, hr⟩ := at_tot n hn l h t x0 x1 h0 h1 (by omega) (by omega)
  exact .inl ⟨by omega, by omega, r, hr, by rw [hr]; rfl⟩
end Go.Proofs.YtbbfpbngnkjkdaaDoor
/- EffectFirst: Differs is symmetric. -/
set_option linter.unusedVariables false
set_option linter.unusedSimpArgs false
namespace Go.Proofs.YtbbfpbngnkjkdaaDoor

theorem effect_fact : g4 200300 = some true := by decide +kernel
/- small -/
theorem small_cases (n : Nat) (hn : 64 < n) (L : List (List TTubeNode)) (m w : Int) (hL : (L.length : Int) ≤ m) (hL2 : L.length ≤ 64) : (g5 n L m w = some true ∧ ∀ l ∈ L, g7 n l = some 0 ∧ TubeOk l ∧ ∀ x0 x1, l[0]? = some x0 → l[l.length - 1]? = some x1 → x1.Node_Time - x0.Node_Time ≤ w) ∨ g5 n L m w = some false := by
  unfold g5
  rw [decide_eq_false (show ¬ (L.length : Int) > m by omega), cond_false]
  obtain ⟨r, hr, h⟩ := iter_each (S := fun y : Int => S5_0 n w false L (L.length : Int) y) L (fun i l => g7 n l = some 0 ∧ TubeOk l ∧ ∀ x0 x1, l[0]? = some x0 → l[l.length - 1]? = some x1 → x1.Node_Time - x0.Node_Time ≤ w) (fun r => r = false) true (fun i l hl => by
    have hlt := some_lt hl
    unfold S5_0
    rw [decide_eq_true (show (i : Int) < (L.length : Int) by omega), cond_true, getI_at hl, Option.bind_some, wS (by omega)]
    rcases check_tot n hn l with ⟨e, ok⟩ | ⟨z, hz, e⟩
    · rw [e, Option.bind_some, show ((0 : Int) != 0) = false from rfl, cond_false]
      have hp := ok.pos
      have hq := ok.len
      have hw : IntKind.wrap .i64 ((l.length : Int) - 1) = ((l.length - 1 : Nat) : Int) := by rw [wrap64 (by omega) (by omega)]; omega
      have h0 : l[0]? = some l[0] := List.getElem?_eq_getElem hp
      have h1 : l[l.length - 1]? = some l[l.length - 1] := List.getElem?_eq_getElem (by omega)
      have g0 : getI l 0 = some l[0] := getI_at (i := 0) h0
      have b0 := ok.nodes _ (List.mem_of_getElem? h0)
      have b1 := ok.nodes _ (List.mem_of_getElem? h1)
      rw [hw, getI_at h1, g0]
      simp only [Option.bind_some]
      rw [wrap64 (by have := b0.1; have := b0.2.1; have := b1.1; have := b1.2.1; omega) (by have := b0.1; have := b0.2.1; have := b1.1; have := b1.2.1; omega)]
      by_cases c : l[l.length - 1].Node_Time - l[0].Node_Time > w
      · right; rw [decide_eq_true c, cond_true]; exact ⟨_, rfl, rfl⟩
      · left; rw [decide_eq_false c, cond_false]
        refine ⟨rfl, by first | exact e | trivial, ok, fun x0 x1 k0 k1 => by rw [h0] at k0; rw [h1] at k1; cases k0; cases k1; omega⟩
    · right; rw [e, Option.bind_some, show (z != 0) = true from bne_iff_ne.2 hz, cond_true]; exact ⟨_, rfl, rfl⟩) (by
    unfold S5_0
    rw [decide_eq_false (Int.lt_irrefl _)]; rfl) n (by omega)
  rcases h with rfl | ⟨rfl, h⟩
  · exact .inr hr
  · left; exact ⟨hr, fun l hl => by obtain ⟨i, hi⟩ := List.getElem?_of_mem hl; exact h i l hi⟩
/- where two tubes differ -/
def atR (n : Nat) (l : List TTubeNode) (t : Int) : TTubeNode × Int := (g8 n l t).getD (zeroN, 12)
def diffAt (n : Nat) (a b : List TTubeNode) (t : Int) : Prop := (atR n a t).2 ≠ (atR n b t).2 ∨ ((atR n a t).1.Node_At_X ≠ (atR n b t).1.Node_At_X ∨ (atR n a t).1.Node_At_Y ≠ (atR n b t).1.Node_At_Y) ∨ (atR n a t).1.Node_Height ≠ (atR n b t).1.Node_Height
/- Differs of valid tubes -/
/- a tube does not differ from itself -/
end Go.Proofs.YtbbfpbngnkjkdaaDoor
/- effect.Of: its checks, its two loops, what comes after them. -/
set_option linter.unusedVariables false
set_option linter.unusedSimpArgs false
namespace Go.Proofs.YtbbfpbngnkjkdaaDoor

theorem name_tot (n : Nat) (hn : 16 < n) (s : ByteArray) : ∃ b, g28 n s = some b := by
  unfold g28
  by_cases h1 : (s.size : Int) < 1
  · simp [h1]
  by_cases h2 : (s.size : Int) > 8
  · simp [h1, h2]
  have hl : s.data.toList.length = s.size := Array.length_toList
  rw [decide_eq_false h1, decide_eq_false h2, room_of (by omega) (by omega)]
  simp only [cond_false, Option.bind_some]
  obtain ⟨r, h, -⟩ := iterO_rule (S := fun y : Int => S28_0 n false (s.data.toList) ((s.data.toList).length : Int) y) (fun x => ∃ i : Nat, i ≤ s.data.toList.length ∧ x = (i : Int)) (fun _ => True) (fun x => s.data.toList.length - x.toNat) (by
    rintro _ ⟨i, hi, rfl⟩
    rcases Nat.lt_or_ge i s.data.toList.length with hlt | hge
    · have hx := getI_at (List.getElem?_eq_getElem hlt)
      have hw := wS (i := i) (by omega)
      have key : S28_0 n false (s.data.toList) ((s.data.toList).length : Int) (i : Int) = some (.inl (((i + 1 : Nat) : Int))) ∨ ∃ r, S28_0 n false (s.data.toList) ((s.data.toList).length : Int) (i : Int) = some (.inr r) := by
        unfold S28_0
        rw [decide_eq_true (show (i : Int) < _ by omega), hx, hw]
        simp only [cond_true, Option.bind_some]
        repeat' (rw [Bool.cond_eq_ite]; split)
        all_goals simp
      rcases key with k | ⟨r, k⟩
      · exact .inl ⟨_, k, ⟨i + 1, hlt, rfl⟩, by simp; omega⟩
      · exact .inr ⟨r, k, trivial⟩
    · have : i = s.data.toList.length := by omega
      subst this
      refine .inr ⟨true, ?_, trivial⟩
      unfold S28_0
      simp) n 0 ⟨0, Nat.zero_le _, rfl⟩ (by simp; omega)
  exact ⟨r, h⟩
theorem kind_tot (n : Nat) (hn : 16 < n) (s : ByteArray) : ∃ z, g39 n s = some z := by
  unfold g39 g48
  generalize hl : ([(⟨#[72, 69, 73, 71, 72, 84]⟩ : ByteArray), (⟨#[72, 69, 65, 68, 73, 78, 71]⟩ : ByteArray), (⟨#[83, 80, 69, 69, 68]⟩ : ByteArray), (⟨#[68, 73, 82, 69, 67, 84]⟩ : ByteArray), (⟨#[72, 79, 76, 68]⟩ : ByteArray), (⟨#[67, 79, 78, 84, 65, 67, 84]⟩ : ByteArray), (⟨#[76, 65, 78, 68]⟩ : ByteArray)] : List ByteArray) = l
  have hlen : l.length = 7 := by rw [← hl]; rfl
  have e := index_loop (fun x : ByteArray => s.toList == x.toList) l (by omega) (S := fun y : Int => S48_0 n l s 0 (l.length : Int) y) (fun i x hx => by
    have := some_lt hx
    unfold S48_0
    rw [decide_eq_true (show (i : Int) < _ by omega), getI_at hx, wS (by omega)]
    simp only [cond_true, Option.bind_some]
    by_cases h : (s.toList == x.toList) = true <;> simp [h]) (by
    unfold S48_0
    simp) n (by omega)
  rw [e]
  exact ⟨_, rfl⟩
theorem pname_tot (n : Nat) (hn : 16 < n) (s : ByteArray) : ∃ b, g26 n s = some b := by
  unfold g26
  obtain ⟨b, hb⟩ := name_tot n hn s
  obtain ⟨z, hz⟩ := kind_tot n hn s
  rw [hb]
  cases b with
  | false => exact ⟨_, rfl⟩
  | true => simp only [Option.bind_some, cond_true, hz]; exact ⟨_, rfl⟩
theorem phrase_tot (n : Nat) (hn : 16 < n) (c : TClearance) : ∃ z, g16 n c = some z := by
  unfold g16
  obtain ⟨b, hb⟩ := pname_tot n hn c.Call
  obtain ⟨b2, hb2⟩ := pname_tot n hn c.Fix
  rw [hb]
  simp only [Option.bind_some, hb2]
  cases b with
  | false => exact ⟨_, rfl⟩
  | true =>
    simp only [Bool.not_true, cond_false]
    by_cases h1 : c.Kind < 0
    · rw [decide_eq_true h1]; exact ⟨_, rfl⟩
    by_cases h2 : c.Kind > 6
    · rw [decide_eq_false h1, decide_eq_true h2]; exact ⟨_, rfl⟩
    rw [decide_eq_false h1, decide_eq_false h2]
    simp only [cond_false]
    by_cases h3 : c.Kind > 2
    · rw [decide_eq_true h3, cond_true]
      cases (c.Value != 0) <;> cases b2 <;> exact ⟨_, rfl⟩
    · rw [decide_eq_false h3, cond_false]
      obtain ⟨x, hx⟩ : ∃ x, getI ([60000, 4095, 400] : List Int) c.Kind = some x := by
        rcases (by omega : c.Kind = 0 ∨ c.Kind = 1 ∨ c.Kind = 2) with h | h | h <;> rw [h] <;> exact ⟨_, rfl⟩
      rw [hx]
      simp only [Option.bind_some]
      cases (!(c.Fix.toList == (⟨#[]⟩ : ByteArray).toList)) <;> cases decide (c.Value < 0) <;> cases decide (c.Value > x) <;> exact ⟨_, rfl⟩
theorem craft_tot (n : Nat) (hn : 16 < n) (k : TKind) : ∃ z, g18 n k = some z ∧ (z = 0 → 1 ≤ k.Climb ∧ k.Climb ≤ 200 ∧ 1 ≤ k.Descent ∧ k.Descent ≤ 200 ∧ 1 ≤ k.Slow ∧ k.Fast ≤ 400 ∧ 1 ≤ k.Ceiling ∧ k.Ceiling ≤ 60000) := by
  unfold g18
  obtain ⟨b, hb⟩ := name_tot n hn k.Name
  have w : ∀ x m : Int, ∃ c : Bool, g27 n x m = some c ∧ (c = false → 1 ≤ x ∧ x ≤ m) := fun x m => by
    unfold g27
    by_cases h : x < 1
    · rw [decide_eq_true h]; exact ⟨true, rfl, fun h => by cases h⟩
    · rw [decide_eq_false h]; exact ⟨_, rfl, fun h2 => by have := of_decide_eq_false h2; omega⟩
  obtain ⟨c1, e1, k1⟩ := w k.Ceiling 60000
  obtain ⟨c2, e2, k2⟩ := w k.Climb 200
  obtain ⟨c3, e3, k3⟩ := w k.Descent 200
  obtain ⟨c4, e4, k4⟩ := w k.Slow 400
  obtain ⟨c5, e5, k5⟩ := w k.Fast 400
  rw [hb, e1, e2, e3, e4, e5]
  simp only [Option.bind_some]
  cases b
  · exact ⟨5, rfl, fun h => by cases h⟩
  simp only [Bool.not_true, cond_false]
  cases decide (k.Wake < 0) with
  | true => exact ⟨1, rfl, fun h => by cases h⟩
  | false =>
  cases decide (k.Wake > 3) with
  | true => exact ⟨1, rfl, fun h => by cases h⟩
  | false =>
  simp only [cond_false]
  cases c1 with
  | true => exact ⟨4, rfl, fun h => by cases h⟩
  | false =>
  cases c2 with
  | true => exact ⟨4, rfl, fun h => by cases h⟩
  | false =>
  cases c3 with
  | true => exact ⟨4, rfl, fun h => by cases h⟩
  | false =>
  cases c4 with
  | true => exact ⟨4, rfl, fun h => by cases h⟩
  | false =>
  cases c5 with
  | true => exact ⟨4, rfl, fun h => by cases h⟩
  | false =>
  cases decide (k.Slow > k.Fast)
  · exact ⟨0, rfl, fun _ => ⟨(k2 rfl).1, (k2 rfl).2, (k3 rfl).1, (k3 rfl).2, (k4 rfl).1, (k5 rfl).2, (k1 rfl).1, (k1 rfl).2⟩⟩
  · exact ⟨3, rfl, fun h => by cases h⟩
def bef (l : List TTubeNode) (t : Int) : List TTubeNode := l.filter fun x => decide (x.Node_Time < t)
def lat (l : List TTubeNode) (t : Int) : List TTubeNode := l.filter fun x => decide (x.Node_Time > t)
def tsk (l : List TTubeNode) (c : TClearance) (t : Int) (now : TTubeNode) (k : TKind) (fix : TP) : Ttask :=
  ⟨c.Call, c.Kind, c.Value, c.Fix, bef l t, lat l t, now.Node_Time, now.Node_At_X, now.Node_At_Y, now.Node_Height, now.Radius, now.Band, k.Name, k.Wake, k.Ceiling, k.Climb, k.Descent, k.Slow, k.Fast, fix.X, fix.Y, l⟩
def ofEnd (n : Nat) (l : List TTubeNode) (c : TClearance) (t : Int) (now : TTubeNode) (k : TKind) (fix : TP) : Option (List TTubeNode × Int) :=
  (g21 n (tsk l c t now k fix)).bind fun x =>
    bif (x.2.2 != (0)) then some ([], x.2.2) else
    bif x.2.1 then (roomO l.length 48).bind fun _ => some (l, (0)) else
    (catO 48 ([bef l t, ([(⟨now.Node_Time, now.Node_At_X, now.Node_At_Y, now.Node_Height, now.Radius, now.Band⟩ : TTubeNode)] : List TTubeNode), x.1] : List (List TTubeNode))).bind fun y => bif (decide ((y.length : Int) > (64))) then some ([], (2)) else some (y, (0))
theorem take_one {α : Type} {l : List α} {i : Nat} {x : α} (h : l[i]? = some x) : l.take (i + 1) = l.take i ++ [x] := by rw [List.take_add_one, h]; rfl
def ost (l : List TTubeNode) (c : TClearance) (t : Int) (now : TTubeNode) (k : TKind) (fix : TP) (i : Nat) : Int × List TTubeNode × List TTubeNode × ByteArray × Int × Int × ByteArray × Int × Int × Int × Int × Int × Int × ByteArray × Int × Int × Int × Int × Int × Int × Int × Int × List TTubeNode :=
  ((i : Int), bef (l.take i) t, lat (l.take i) t, c.Call, c.Kind, c.Value, c.Fix, now.Node_Time, now.Node_At_X, now.Node_At_Y, now.Node_Height, now.Radius, now.Band, k.Name, k.Wake, k.Ceiling, k.Climb, k.Descent, k.Slow, k.Fast, fix.X, fix.Y, l)
theorem of_loop (n : Nat) (l : List TTubeNode) (hl : l.length ≤ 64) (c : TClearance) (t c11 c16 : Int) (now : TTubeNode) (k : TKind) (fix : TP) {S : (Int × List TTubeNode × List TTubeNode × ByteArray × Int × Int × ByteArray × Int × Int × Int × Int × Int × Int × ByteArray × Int × Int × Int × Int × Int × Int × Int × Int × List TTubeNode) → Option ((Int × List TTubeNode × List TTubeNode × ByteArray × Int × Int × ByteArray × Int × Int × Int × Int × Int × Int × ByteArray × Int × Int × Int × Int × Int × Int × Int × Int × List TTubeNode) ⊕ (List TTubeNode × Int))}
    (hS : ∀ (i : Nat) (B L : List TTubeNode), S ((i : Int), B, L, (ost l c t now k fix 0).2.2.2) = S6_1 n t c11 c16 l (l.length : Int) now.Node_Time now.Node_At_X now.Node_At_Y now.Node_Height now.Radius now.Band (i : Int) B L c.Call c.Kind c.Value c.Fix now.Node_Time now.Node_At_X now.Node_At_Y now.Node_Height now.Radius now.Band k.Name k.Wake k.Ceiling k.Climb k.Descent k.Slow k.Fast fix.X fix.Y l) :
    ∀ (d i m : Nat), i + d = l.length → d < m → iterO S m (ost l c t now k fix i) = ofEnd n l c t now k fix
  | 0, i, m, hi, hm => by
    obtain ⟨q, rfl⟩ : ∃ q, m = q + 1 := ⟨m - 1, by omega⟩
    have e : S (ost l c t now k fix i) = (ofEnd n l c t now k fix).map Sum.inr := by
      have hi' : i = l.length := by omega
      subst hi'
      rw [show ost l c t now k fix l.length = (((l.length : Nat) : Int), bef l t, lat l t, (ost l c t now k fix 0).2.2.2) from by unfold ost; rw [List.take_length], hS]
      unfold S6_1 ofEnd
      rw [decide_eq_false (Int.lt_irrefl _), cond_false]
      show (g21 n (tsk l c t now k fix)).bind _ = _
      cases g21 n (tsk l c t now k fix) with
      | none => rfl
      | some x =>
        simp only [Option.bind_some]
        cases (x.2.2 != 0)
        · cases x.2.1
          · simp only [cond_false]
            cases catO 48 ([bef l t, ([(⟨now.Node_Time, now.Node_At_X, now.Node_At_Y, now.Node_Height, now.Radius, now.Band⟩ : TTubeNode)] : List TTubeNode), x.1] : List (List TTubeNode)) with
            | none => rfl
            | some y =>
              simp only [Option.bind_some]
              cases decide ((y.length : Int) > 64) <;> rfl
          · simp only [cond_false, cond_true]
            cases roomO l.length 48 <;> rfl
        · rfl
    simp only [iterO, e]
    cases ofEnd n l c t now k fix <;> rfl
  | d + 1, i, m, hi, hm => by
    obtain ⟨q, rfl⟩ : ∃ q, m = q + 1 := ⟨m - 1, by omega⟩
    have hlt : i < l.length := by omega
    have hx : l[i]? = some l[i] := List.getElem?_eq_getElem hlt
    have e : S (ost l c t now k fix i) = some (.inl (ost l c t now k fix (i + 1))) := by
      rw [show ost l c t now k fix i = ((i : Int), bef (l.take i) t, lat (l.take i) t, (ost l c t now k fix 0).2.2.2) from rfl, hS]
      rw [show ost l c t now k fix (i + 1) = (((i + 1 : Nat) : Int), bef (l.take (i + 1)) t, lat (l.take (i + 1)) t, (ost l c t now k fix 0).2.2.2) from rfl, take_one hx]
      unfold S6_1 bef lat
      rw [decide_eq_true (show (i : Int) < (l.length : Int) by omega), cond_true, getI_at hx, Option.bind_some, wS (by omega)]
      have r1 : roomO (((l.take i).filter fun x => decide (x.Node_Time < t)).length + ([l[i]] : List TTubeNode).length) 48 = some () := by
        have h1 := List.length_filter_le (fun x : TTubeNode => decide (x.Node_Time < t)) (l.take i)
        have h2 : (l.take i).length ≤ 64 := by rw [List.length_take]; omega
        exact room_of (by simp only [List.length_singleton]; omega) (by simp only [List.length_singleton]; omega)
      have r2 : roomO (((l.take i).filter fun x => decide (x.Node_Time > t)).length + ([l[i]] : List TTubeNode).length) 48 = some () := by
        have h1 := List.length_filter_le (fun x : TTubeNode => decide (x.Node_Time > t)) (l.take i)
        have h2 : (l.take i).length ≤ 64 := by rw [List.length_take]; omega
        exact room_of (by simp only [List.length_singleton]; omega) (by simp only [List.length_singleton]; omega)
      rw [r1, r2, List.filter_append, List.filter_append]
      simp only [Option.bind_some, List.filter_cons, List.filter_nil]
      by_cases a1 : l[i].Node_Time < t
      · have a2 : ¬ l[i].Node_Time > t := by omega
        simp only [a1, a2, decide_true, decide_false, cond_true, cond_false, if_true, Bool.false_eq_true, if_false, List.append_nil]
        rfl
      · by_cases a2 : l[i].Node_Time > t
        · simp only [a1, a2, decide_true, decide_false, cond_true, cond_false, if_true, Bool.false_eq_true, if_false, List.append_nil]
          rfl
        · simp only [a1, a2, decide_true, decide_false, cond_true, cond_false, if_true, Bool.false_eq_true, if_false, List.append_nil]
          rfl
    simp only [iterO, e]
    exact of_loop n l hl c t c11 c16 now k fix hS d (i + 1) q (by omega) (by omega)
theorem of_cases (n : Nat) (hn : 300 < n) (l : List TTubeNode) (c : TClearance) (t : Int) (k : TKind) (fix : TP) : (∃ z, z ≠ 0 ∧ g6 n l c t k fix = some ([], z)) ∨
    (g7 n l = some 0 ∧ TubeOk l ∧ g18 n k = some 0 ∧ POk fix ∧ ∃ now, g8 n l t = some (now, 0) ∧ g6 n l c t k fix = ofEnd n l c t now k fix) := by
  have run : ∀ (s : Nat → Option (Int ⊕ (List TTubeNode × Int))), True := fun _ => trivial
  obtain ⟨m, rfl⟩ : ∃ m, n = m + 5 := ⟨n - 5, by omega⟩
  have w0 : IntKind.wrap .i64 ((0 : Int) + 1) = 1 := by rw [wrap64 (by decide) (by decide)]; rfl
  have w1 : IntKind.wrap .i64 ((1 : Int) + 1) = 2 := by rw [wrap64 (by decide) (by decide)]; rfl
  have w2 : IntKind.wrap .i64 ((2 : Int) + 1) = 3 := by rw [wrap64 (by decide) (by decide)]; rfl
  have w3 : IntKind.wrap .i64 ((3 : Int) + 1) = 4 := by rw [wrap64 (by decide) (by decide)]; rfl
  show (∃ z, z ≠ 0 ∧ iterO (fun y : Int => S6_0 (m + 5) t 0 4 l c.Call c.Kind c.Value c.Fix k.Name k.Wake k.Ceiling k.Climb k.Descent k.Slow k.Fast fix.X fix.Y y) (m + 5) 0 = some ([], z)) ∨ (_ ∧ _ ∧ _ ∧ _ ∧ ∃ now, _ ∧ iterO (fun y : Int => S6_0 (m + 5) t 0 4 l c.Call c.Kind c.Value c.Fix k.Name k.Wake k.Ceiling k.Climb k.Descent k.Slow k.Fast fix.X fix.Y y) (m + 5) 0 = _)
  generalize hN : m + 5 = N at *
  have s0 : S6_0 N t 0 4 l c.Call c.Kind c.Value c.Fix k.Name k.Wake k.Ceiling k.Climb k.Descent k.Slow k.Fast fix.X fix.Y 0 = (g7 N l).bind fun x => bif (x != 0) then some (.inr ([], x)) else some (.inl 1) := by
    unfold S6_0 g14
    rw [w0]
    cases g7 N l <;> rfl
  have s1 : S6_0 N t 0 4 l c.Call c.Kind c.Value c.Fix k.Name k.Wake k.Ceiling k.Climb k.Descent k.Slow k.Fast fix.X fix.Y 1 = (g16 N c).bind fun x => bif (x != 0) then some (.inr ([], x)) else some (.inl 2) := by
    unfold S6_0 g15
    rw [w1]
    show ((g16 N c).bind fun x => some x).bind _ = _
    cases g16 N c <;> rfl
  have s2 : S6_0 N t 0 4 l c.Call c.Kind c.Value c.Fix k.Name k.Wake k.Ceiling k.Climb k.Descent k.Slow k.Fast fix.X fix.Y 2 = (g18 N k).bind fun x => bif (x != 0) then some (.inr ([], x)) else some (.inl 3) := by
    unfold S6_0 g17
    rw [w2]
    show ((g18 N k).bind fun x => some x).bind _ = _
    cases g18 N k <;> rfl
  have s3 : S6_0 N t 0 4 l c.Call c.Kind c.Value c.Fix k.Name k.Wake k.Ceiling k.Climb k.Descent k.Slow k.Fast fix.X fix.Y 3 = (g20 N fix).bind fun x => bif (x != 0) then some (.inr ([], x)) else some (.inl 4) := by
    unfold S6_0 g19
    rw [w3]
    show ((g20 N fix).bind fun x => some x).bind _ = _
    cases g20 N fix <;> rfl
  rw [← hN]
  simp only [iterO]
  rw [hN, s0]
  rcases check_tot N (by omega) l with ⟨ec, ok⟩ | ⟨z, hz, ec⟩
  case inr => left; refine ⟨z, hz, ?_⟩; rw [ec, Option.bind_some, bne_iff_ne.2 hz, cond_true]
  rw [ec, Option.bind_some, show ((0 : Int) != 0) = false from rfl, cond_false]
  simp only [s1]
  obtain ⟨z1, e1⟩ := phrase_tot N (by omega) c
  rw [e1, Option.bind_some]
  by_cases hz1 : z1 = 0
  case neg => left; refine ⟨z1, hz1, ?_⟩; rw [bne_iff_ne.2 hz1, cond_true]
  subst hz1
  rw [show ((0 : Int) != 0) = false from rfl, cond_false]
  simp only [s2]
  obtain ⟨z2, e2, -⟩ := craft_tot N (by omega) k
  rw [e2, Option.bind_some]
  by_cases hz2 : z2 = 0
  case neg => left; refine ⟨z2, hz2, ?_⟩; rw [bne_iff_ne.2 hz2, cond_true]
  subst hz2
  rw [show ((0 : Int) != 0) = false from rfl, cond_false]
  simp only [s3]
  rcases pcheck N fix with ⟨e3, hp⟩ | ⟨e3, -⟩
  case inr => left; refine ⟨4, by decide, ?_⟩; rw [e3]; rfl
  rw [e3, Option.bind_some, show ((0 : Int) != 0) = false from rfl, cond_false]
  have hp0 := ok.pos
  have h0 : l[0]? = some l[0] := List.getElem?_eq_getElem hp0
  have h1 : l[l.length - 1]? = some l[l.length - 1] := List.getElem?_eq_getElem (by omega)
  have s4 : S6_0 N t 0 4 l c.Call c.Kind c.Value c.Fix k.Name k.Wake k.Ceiling k.Climb k.Descent k.Slow k.Fast fix.X fix.Y 4 = (g8 N l t).bind fun x => bif (x.2 != 0) then some (.inr ([], x.2)) else (ofEnd N l c t x.1 k fix).map Sum.inr := by
    unfold S6_0
    rw [show decide ((4 : Int) < 4) = false from rfl, cond_false]
    cases g8 N l t with
    | none => rfl
    | some x =>
      simp only [Option.bind_some]
      cases (x.2 != 0)
      · simp only [cond_false]
        rw [← of_loop N l ok.len c t 0 x.2 x.1 k fix (S := fun y => S6_1 N t 0 x.2 l (l.length : Int) x.1.Node_Time x.1.Node_At_X x.1.Node_At_Y x.1.Node_Height x.1.Radius x.1.Band y.1 y.2.1 y.2.2.1 y.2.2.2.1 y.2.2.2.2.1 y.2.2.2.2.2.1 y.2.2.2.2.2.2.1 y.2.2.2.2.2.2.2.1 y.2.2.2.2.2.2.2.2.1 y.2.2.2.2.2.2.2.2.2.1 y.2.2.2.2.2.2.2.2.2.2.1 y.2.2.2.2.2.2.2.2.2.2.2.1 y.2.2.2.2.2.2.2.2.2.2.2.2.1 y.2.2.2.2.2.2.2.2.2.2.2.2.2.1 y.2.2.2.2.2.2.2.2.2.2.2.2.2.2.1 y.2.2.2.2.2.2.2.2.2.2.2.2.2.2.2.1 y.2.2.2.2.2.2.2.2.2.2.2.2.2.2.2.2.1 y.2.2.2.2.2.2.2.2.2.2.2.2.2.2.2.2.2.1 y.2.2.2.2.2.2.2.2.2.2.2.2.2.2.2.2.2.2.1 y.2.2.2.2.2.2.2.2.2.2.2.2.2.2.2.2.2.2.2.1 y.2.2.2.2.2.2.2.2.2.2.2.2.2.2.2.2.2.2.2.2.1 y.2.2.2.2.2.2.2.2.2.2.2.2.2.2.2.2.2.2.2.2.2.1 y.2.2.2.2.2.2.2.2.2.2.2.2.2.2.2.2.2.2.2.2.2.2) (fun i B L => rfl) l.length 0 N (by omega) (by have := ok.len; omega)]
        rfl
      · rfl
  simp only [s4]
  rcases At_cases N (by omega) l ok ec t _ _ h0 h1 with ⟨-, -, now, -, e4⟩ | ⟨-, e4⟩
  case inr => left; refine ⟨12, by decide, ?_⟩; rw [e4]; rfl
  right
  refine ⟨by first | exact ec | trivial, ok, by first | exact e2 | trivial, hp, now, e4, ?_⟩
  rw [e4, Option.bind_some, show ((0 : Int) != 0) = false from rfl, cond_false]
  cases ofEnd N l c t now k fix <;> rfl
end Go.Proofs.YtbbfpbngnkjkdaaDoor
/- Numbers of tubes: division, distance, the node at a time is within its neighbours. -/
set_option linter.unusedVariables false
set_option linter.unusedSimpArgs false
namespace Go.Proofs.YtbbfpbngnkjkdaaDoor

theorem up_val (n : Nat) (a b : Int) (ha : 0 ≤ a) (ha2 : a ≤ 1000000000000) (hb : 0 < b) : ∃ q, g38 n a b = some (q, 0) ∧ 0 ≤ q ∧ q ≤ a + 1 ∧ a ≤ q * b := by
  have hd : divO a b = some (a / b) := by simp only [divO, if_neg (show ¬ b = 0 by omega)]; rw [Int.tdiv_eq_ediv_of_nonneg ha]
  have hm : modO a b = some (a % b) := by simp only [modO, if_neg (show ¬ b = 0 by omega)]; rw [Int.tmod_eq_emod_of_nonneg ha]
  have q0 : 0 ≤ a / b := Int.ediv_nonneg ha (by omega)
  have q1 : a / b ≤ a := Int.ediv_le_self b ha
  have r0 : 0 ≤ a % b := Int.emod_nonneg a (by omega)
  have r1 : a % b < b := Int.emod_lt_of_pos a hb
  have e := Int.mul_ediv_add_emod a b
  have hw : IntKind.wrap .i64 (a / b) = a / b := wrap64 (by omega) (by omega)
  have hD : g37 n a b = some (a / b, 0) := by
    unfold g37
    rw [show (b == 0) = false from beq_eq_false_iff_ne.2 (by omega), cond_false, show (a == -9223372036854775808) = false from beq_eq_false_iff_ne.2 (by omega), cond_false, hd, hm, decide_eq_false (show ¬ a < 0 by omega), decide_eq_false (show ¬ b < 0 by omega)]
    simp only [Option.bind_some, hw]
    cases (a % b != 0) <;> rfl
  unfold g38
  rw [hD, hm]
  simp only [Option.bind_some, show ((0 : Int) == 0) = true from rfl, cond_true]
  by_cases h : a % b = 0
  · rw [show (a % b != 0) = false from by simp [h], cond_false]
    refine ⟨_, rfl, q0, by omega, ?_⟩
    rw [Int.mul_comm]; omega
  · rw [show (a % b != 0) = true from by simp [h], cond_true, wrap64 (by omega) (by omega)]
    refine ⟨_, rfl, by omega, by omega, ?_⟩
    rw [Int.add_mul, Int.one_mul, Int.mul_comm]; omega
/- rounding down between the ends -/
theorem down_mid (n : Nat) (D c d : Int) (hD : -2000000 ≤ D ∧ D ≤ 2000000) (hc : 0 ≤ c ∧ c ≤ d) (hd : 0 < d ∧ d ≤ 200000) : ∃ q, g37 n (IntKind.wrap .i64 (D * c)) d = some (q, 0) ∧ (0 ≤ D → 0 ≤ q ∧ q ≤ D) ∧ (D < 0 → D ≤ q ∧ q ≤ 0) := by
  have b1 : D * c ≤ 2000000 * 200000 := by
    have h1 : D * c ≤ 2000000 * c := Int.mul_le_mul_of_nonneg_right hD.2 hc.1
    omega
  have b2 : -(2000000 * 200000) ≤ D * c := by
    have h1 : (-2000000) * c ≤ D * c := Int.mul_le_mul_of_nonneg_right hD.1 hc.1
    omega
  rw [wrap64 (by omega) (by omega)]
  have key : (D * c) / d = (D * c).tdiv d - (if (D * c).tmod d ≠ 0 ∧ D * c < 0 then 1 else 0) := by
    rw [Int.tdiv_eq_ediv, Int.sign_eq_one_of_pos hd.1]
    by_cases h0 : 0 ≤ D * c
    · rw [if_pos (Or.inl h0), if_neg (by omega)]; omega
    · by_cases hv : d ∣ D * c
      · rw [if_pos (Or.inr hv), if_neg (by rintro ⟨k, -⟩; exact k (Int.tmod_eq_zero_of_dvd hv))]; omega
      · have hne : (D * c).tmod d ≠ 0 := fun h => hv (Int.dvd_of_tmod_eq_zero h)
        rw [if_neg (by rintro (k | k); exact h0 k; exact hv k), if_pos ⟨hne, by omega⟩]; omega
  have hdv : divO (D * c) d = some ((D * c).tdiv d) := by simp only [divO, if_neg (show ¬ d = 0 by omega)]
  have hmv : modO (D * c) d = some ((D * c).tmod d) := by simp only [modO, if_neg (show ¬ d = 0 by omega)]
  have t1 : (D * c) / d ≤ 2000000 * 200000 := by
    rcases Int.lt_or_le (D * c) 0 with h | h
    · have := Int.ediv_neg_of_neg_of_pos h hd.1; omega
    · have := Int.ediv_le_self d h; omega
  have t2 : -(2000000 * 200000) - 1 ≤ (D * c) / d := by
    have : -(2000000 * 200000) ≤ (D * c) / d := Int.le_ediv_of_mul_le hd.1 (by
      have : -(2000000 * 200000) * d ≤ -(2000000 * 200000) * 1 := Int.mul_le_mul_of_nonpos_left (by omega) (by omega)
      omega)
    omega
  refine ⟨(D * c) / d, ?_, fun h => ⟨Int.ediv_nonneg (Int.mul_nonneg h hc.1) (by omega), Int.ediv_le_of_le_mul hd.1 (Int.mul_le_mul_of_nonneg_left hc.2 h)⟩, fun h => ⟨Int.le_ediv_of_mul_le hd.1 (Int.mul_le_mul_of_nonpos_left (by omega) hc.2), ?_⟩⟩
  · unfold g37
    rw [show (d == 0) = false from beq_eq_false_iff_ne.2 (by omega), cond_false, show (D * c == -9223372036854775808) = false from beq_eq_false_iff_ne.2 (by omega), cond_false, hdv, hmv, decide_eq_false (show ¬ d < 0 by omega)]
    simp only [Option.bind_some]
    by_cases h1 : (D * c).tmod d = 0
    · rw [show ((D * c).tmod d != 0) = false from by simp [h1], cond_false, key, if_neg (by rintro ⟨k, -⟩; exact k h1)]
      rw [if_neg (by rintro ⟨k, -⟩; exact k h1)] at key
      rw [wrap64 (by omega) (by omega)]; simp
    · rw [show ((D * c).tmod d != 0) = true from by simp [h1], cond_true]
      by_cases h2 : D * c < 0
      · rw [decide_eq_true h2, key, if_pos ⟨h1, h2⟩]
        rw [if_pos ⟨h1, h2⟩] at key
        rw [show (!(true == false)) = true from rfl, cond_true]
        rw [wrap64 (z := (D * c).tdiv d) (by omega) (by omega), wrap64 (by omega) (by omega)]
      · rw [decide_eq_false h2, key, if_neg (by rintro ⟨-, k⟩; exact h2 k)]
        rw [if_neg (by rintro ⟨-, k⟩; exact h2 k)] at key
        rw [show (!(false == false)) = false from rfl, cond_false]
        rw [wrap64 (by omega) (by omega)]; simp
  · rcases Int.lt_or_eq_of_le hc.1 with h' | h'
    · have : D * c < 0 := Int.mul_neg_of_neg_of_pos h h'
      have := Int.ediv_neg_of_neg_of_pos this hd.1
      omega
    · rw [← h', Int.mul_zero, Int.zero_ediv]; exact Int.le_refl _
/- the integer root -/
theorem sq_eq (a b : Int) : a * a - b * b = (a - b) * (a + b) := by
  rw [Int.sub_mul, Int.mul_add, Int.mul_add, Int.mul_comm b a]; omega
theorem sq_nonneg (a : Int) : 0 ≤ a * a := by
  rcases Int.le_total 0 a with h | h
  · exact Int.mul_nonneg h h
  · exact Int.mul_nonneg_of_nonpos_of_nonpos h h
theorem sq_le {a b : Int} (h0 : 0 ≤ a) (h : a ≤ b) : a * a ≤ b * b := Int.mul_le_mul h h h0 (by omega)
theorem root_loop (n : Nat) (x : Int) (hx : 0 ≤ x) (hx2 : x ≤ 9000000000000000000) : ∀ (k m : Nat) (v w : Int), 0 ≤ v → v ≤ w → w ≤ 3037000499 → w - v < 2 ^ k → k < m → v * v ≤ x → x < (w + 1) * (w + 1) →
    ∃ r : Int, iterO (fun y : Int × Int => S55_0 n x 0 y.1 y.2) m (v, w) = some r ∧ 0 ≤ r ∧ r ≤ 3037000499 ∧ r * r ≤ x ∧ x < (r + 1) * (r + 1)
  | k, m, v, w, h0, hvw, hw, hk, hm, h1, h2 => by
    obtain ⟨q, rfl⟩ : ∃ q, m = q + 1 := ⟨m - 1, by omega⟩
    rcases Int.lt_or_eq_of_le hvw with hlt | rfl
    · match k, hk, hm with
      | 0, hk, hm => simp at hk; omega
      | k + 1, hk, hm =>
        have hmid : IntKind.wrap .i64 (v + (IntKind.wrap .i64 (Int.tdiv (IntKind.wrap .i64 ((IntKind.wrap .i64 (w - v)) + 1)) 2))) = v + (w - v + 1) / 2 := by
          rw [wrap64 (z := w - v) (by omega) (by omega), wrap64 (z := w - v + 1) (by omega) (by omega), Int.tdiv_eq_ediv_of_nonneg (by omega), wrap64 (z := (w - v + 1) / 2) (by omega) (by omega), wrap64 (by omega) (by omega)]
        have hpow : (2 : Int) ^ (k + 1) = 2 * 2 ^ k := by rw [Int.pow_succ, Int.mul_comm]
        rw [hpow] at hk
        generalize hM : v + (w - v + 1) / 2 = M at hmid
        have M0 : v < M := by omega
        have M1 : M ≤ w := by omega
        have sq : M * M ≤ 3037000499 * 3037000499 := sq_le (by omega) (by omega)
        have sq0 := sq_nonneg M
        simp only [iterO]
        unfold S55_0
        rw [decide_eq_true hlt, cond_true, hmid, wrap64 (z := M * M) (by omega) (by omega)]
        by_cases hc : M * M ≤ x
        · rw [decide_eq_true hc, cond_true]
          exact root_loop n x hx hx2 k q M w (by omega) M1 hw (by omega) (by omega) hc h2
        · rw [decide_eq_false hc, cond_false, wrap64 (z := M - 1) (by omega) (by omega)]
          exact root_loop n x hx hx2 k q v (M - 1) h0 (by omega) (by omega) (by omega) (by omega) h1 (by rw [Int.sub_add_cancel]; omega)
    · refine ⟨v, ?_, h0, hw, h1, h2⟩
      simp only [iterO]
      unfold S55_0
      rw [decide_eq_false (Int.lt_irrefl _)]; rfl
theorem root_val (n : Nat) (hn : 64 < n) (x : Int) (hx : 0 ≤ x) (hx2 : x ≤ 9000000000000000000) : ∃ r : Int, g55 n x = some r ∧ 0 ≤ r ∧ r ≤ 3037000499 ∧ r * r ≤ x ∧ x < (r + 1) * (r + 1) := by
  unfold g55
  by_cases h : x ≤ 0
  · rw [decide_eq_true h, cond_true]
    have : x = 0 := by omega
    subst this
    exact ⟨0, rfl, by decide, by decide, by decide, by decide⟩
  · rw [decide_eq_false h, cond_false]
    exact root_loop n x hx hx2 32 n 0 3037000499 (by decide) (by decide) (by decide) (by decide) (by omega) (by simpa using hx) (by omega)
/- distance -/
theorem dist_val (n : Nat) (hn : 64 < n) (p q : TP) (hp : POk p) (hq : POk q) : ∃ f c, g47 n p q = some (f, c) ∧ 0 ≤ f ∧ f ≤ c ∧ c ≤ f + 1 ∧ f ≤ 3000000 ∧ (c = 0 → p = q) := by
  obtain ⟨p1, p2, p3, p4⟩ := hp
  obtain ⟨q1, q2, q3, q4⟩ := hq
  generalize hdx : p.X - q.X = dx
  generalize hdy : p.Y - q.Y = dy
  have b : ∀ d : Int, -2000000 ≤ d → d ≤ 2000000 → d * d ≤ 4000000000000 := fun d h1 h2 => by
    have h := sq_eq 2000000 d
    have := Int.mul_nonneg (show 0 ≤ 2000000 - d by omega) (show 0 ≤ 2000000 + d by omega)
    omega
  have bx := b dx (by omega) (by omega)
  have by' := b dy (by omega) (by omega)
  have nx := sq_nonneg dx
  have ny := sq_nonneg dy
  obtain ⟨r, hr, r0, r1, r2, r3⟩ := root_val n hn (dx * dx + dy * dy) (by omega) (by omega)
  have hs : g54 n p q = some (dx * dx + dy * dy) := by
    unfold g54 g9 g60
    simp only [Option.bind_some]
    rw [hdx, hdy, wrap64 (z := dx) (by omega) (by omega), wrap64 (z := dy) (by omega) (by omega), wrap64 (z := dx * dx) (by omega) (by omega), wrap64 (z := dy * dy) (by omega) (by omega), wrap64 (by omega) (by omega)]
  have r4 : r ≤ 3000000 := by
    rcases Int.lt_or_le 3000000 r with h | h
    · have := sq_le (a := 3000000) (b := r) (by decide) (by omega); omega
    · exact h
  unfold g47
  rw [hs, Option.bind_some, hr, Option.bind_some, wrap64 (z := r * r) (by have := sq_nonneg r; omega) (by omega), wrap64 (z := r + 1) (by omega) (by omega)]
  by_cases h : r * r < dx * dx + dy * dy
  · rw [decide_eq_true h, cond_true]
    exact ⟨r, r + 1, rfl, r0, by omega, by omega, r4, fun h => by omega⟩
  · rw [decide_eq_false h, cond_false]
    refine ⟨r, r, rfl, r0, Int.le_refl _, by omega, r4, fun h0 => ?_⟩
    subst h0
    simp at h
    have z1 : dx = 0 := by
      have : dx * dx = 0 := by omega
      rcases Int.mul_eq_zero.1 this with h | h <;> exact h
    have z2 : dy = 0 := by
      have : dy * dy = 0 := by omega
      rcases Int.mul_eq_zero.1 this with h | h <;> exact h
    cases p; cases q
    simp only [TP.mk.injEq] at *
    omega
end Go.Proofs.YtbbfpbngnkjkdaaDoor
/- The node at a time is within bounds. -/
set_option linter.unusedVariables false
set_option linter.unusedSimpArgs false
namespace Go.Proofs.YtbbfpbngnkjkdaaDoor

theorem toward_val (n : Nat) (a b : TP) (ha : POk a) (hb : POk b) (c d : Int) (hc : 0 ≤ c ∧ c ≤ d) (hd : 0 < d ∧ d ≤ 200000) : ∃ r : TP, g36 n a b c d = some (r, 0) ∧ POk r := by
  obtain ⟨a1, a2, a3, a4⟩ := ha
  obtain ⟨b1, b2, b3, b4⟩ := hb
  have ea : g20 n a = some 0 := by
    rcases pcheck n a with ⟨e, -⟩ | ⟨-, h⟩
    · exact e
    · exact absurd ⟨a1, a2, a3, a4⟩ h
  have eb : g20 n b = some 0 := by
    rcases pcheck n b with ⟨e, -⟩ | ⟨-, h⟩
    · exact e
    · exact absurd ⟨b1, b2, b3, b4⟩ h
  obtain ⟨q1, e1, u1, u2⟩ := down_mid n (b.X - a.X) c d (by omega) hc hd
  obtain ⟨q2, e2, w1, w2⟩ := down_mid n (b.Y - a.Y) c d (by omega) hc hd
  have x1 : -1000000 ≤ a.X + q1 ∧ a.X + q1 ≤ 1000000 := by
    rcases Int.lt_or_le (b.X - a.X) 0 with h | h
    · have := u2 h; omega
    · have := u1 h; omega
  have x2 : -1000000 ≤ a.Y + q2 ∧ a.Y + q2 ≤ 1000000 := by
    rcases Int.lt_or_le (b.Y - a.Y) 0 with h | h
    · have := w2 h; omega
    · have := w1 h; omega
  unfold g36
  rw [decide_eq_false (show ¬ d ≤ 0 by omega), decide_eq_false (show ¬ d > 200000 by omega), decide_eq_false (show ¬ c < 0 by omega), decide_eq_false (show ¬ c > d by omega), ea, eb, wrap64 (z := b.X - a.X) (by omega) (by omega), wrap64 (z := b.Y - a.Y) (by omega) (by omega)]
  simp only [cond_false, Option.bind_some, show ((0 : Int) != 0) = false from rfl]
  rw [e1, e2]
  simp only [Option.bind_some]
  rw [wrap64 (z := a.X + q1) (by omega) (by omega), wrap64 (z := a.Y + q2) (by omega) (by omega)]
  exact ⟨_, rfl, x1.1, x1.2, x2.1, x2.2⟩
theorem at_ok (n : Nat) (hn : 64 < n) (l : List TTubeNode) (h : TubeOk l) (t : Int) (x0 x1 : TTubeNode) (h0 : l[0]? = some x0) (h1 : l[l.length - 1]? = some x1) (ht0 : x0.Node_Time ≤ t) (ht1 : t ≤ x1.Node_Time) : ∃ r : TTubeNode, g25 n l t = some r ∧ r.Node_Time = t ∧ POk ⟨r.Node_At_X, r.Node_At_Y⟩ := by
  have hp := h.pos
  have b0 := h.nodes x0 (List.mem_of_getElem? h0)
  have b1 := h.nodes x1 (List.mem_of_getElem? h1)
  obtain ⟨i, hi, k1, k2, b, hb, hbt⟩ := search_eq n hn l h t (by have := b0.1; have := b1.2.1; omega)
  unfold g25
  rw [hb, Option.bind_some]
  cases b with
  | true =>
    obtain ⟨x, hx, hxt⟩ := hbt.1 rfl
    simp only [cond_true]
    rw [getI_at hx]; exact ⟨_, rfl, hxt, (h.nodes x (List.mem_of_getElem? hx)).2.2.1⟩
  | false =>
    simp only [cond_false]
    have hil : i < l.length := by
      rcases Nat.lt_or_ge i l.length with h' | h'
      · exact h'
      · have := k1 (l.length - 1) x1 (by omega) h1; omega
    have hi0 : 0 < i := by
      rcases Nat.eq_zero_or_pos i with rfl | h'
      · have := k2 0 x0 (Nat.le_refl _) h0
        have := hbt.2 ⟨x0, h0, by omega⟩
        cases this
      · exact h'
    have ha : l[i - 1]? = some l[i - 1] := List.getElem?_eq_getElem (by omega)
    have hb' : l[i]? = some l[i] := List.getElem?_eq_getElem hil
    have na := h.nodes _ (List.mem_of_getElem? ha)
    have nb := h.nodes _ (List.mem_of_getElem? hb')
    have ta := k1 (i - 1) _ (by omega) ha
    have tb := k2 i _ (Nat.le_refl _) hb'
    have hw : IntKind.wrap .i64 ((i : Int) - 1) = ((i - 1 : Nat) : Int) := by have := h.len; rw [wrap64 (by omega) (by omega)]; omega
    rw [hw, getI_at ha, getI_at hb']
    simp only [Option.bind_some]
    have := na.1
    have := na.2.1
    have := nb.1
    have := nb.2.1
    rw [wrap64 (z := t - l[i - 1].Node_Time) (by omega) (by omega), wrap64 (z := l[i].Node_Time - l[i - 1].Node_Time) (by omega) (by omega)]
    obtain ⟨q1, e1, hq⟩ := toward_val n (⟨l[i - 1].Node_At_X, l[i - 1].Node_At_Y⟩ : TP) (⟨l[i].Node_At_X, l[i].Node_At_Y⟩ : TP) na.2.2.1 nb.2.2.1 (t - l[i - 1].Node_Time) (l[i].Node_Time - l[i - 1].Node_Time) (by omega) (by omega)
    rw [e1, Option.bind_some]
    obtain ⟨q2, e2, -⟩ := down_tot n (IntKind.wrap .i64 ((IntKind.wrap .i64 (l[i].Node_Height - l[i - 1].Node_Height)) * (t - l[i - 1].Node_Time))) (l[i].Node_Time - l[i - 1].Node_Time)
    rw [e2, Option.bind_some]
    obtain ⟨q3, e3⟩ := up_tot n (IntKind.wrap .i64 ((IntKind.wrap .i64 (l[i].Radius - l[i - 1].Radius)) * (t - l[i - 1].Node_Time))) (l[i].Node_Time - l[i - 1].Node_Time)
    rw [e3, Option.bind_some]
    obtain ⟨q4, e4⟩ := up_tot n (IntKind.wrap .i64 ((IntKind.wrap .i64 (l[i].Band - l[i - 1].Band)) * (t - l[i - 1].Node_Time))) (l[i].Node_Time - l[i - 1].Node_Time)
    rw [e4, Option.bind_some]
    exact ⟨_, rfl, rfl, hq⟩
theorem At_ok (n : Nat) (hn : 64 < n) (l : List TTubeNode) (h : TubeOk l) (hc : g7 n l = some 0) (t : Int) (now : TTubeNode) (e : g8 n l t = some (now, 0)) : now.Node_Time = t ∧ POk ⟨now.Node_At_X, now.Node_At_Y⟩ ∧ 0 ≤ t ∧ t ≤ 200000 ∧ ∀ x1, l[l.length - 1]? = some x1 → t ≤ x1.Node_Time := by
  have hp := h.pos
  have h0 : l[0]? = some l[0] := List.getElem?_eq_getElem hp
  have h1 : l[l.length - 1]? = some l[l.length - 1] := List.getElem?_eq_getElem (by omega)
  have b0 := h.nodes _ (List.mem_of_getElem? h0)
  have b1 := h.nodes _ (List.mem_of_getElem? h1)
  rcases At_cases n hn l h hc t _ _ h0 h1 with ⟨t0, t1, r, e1, e2⟩ | ⟨-, e2⟩
  · obtain ⟨r', e3, k1, k2⟩ := at_ok n hn l h t _ _ h0 h1 t0 t1
    rw [e2] at e
    rw [e1] at e3
    cases e; cases e3
    exact ⟨k1, k2, by have := b0.1; omega, by have := b1.2.1; omega, fun x1 hx => by rw [h1] at hx; cases hx; exact t1⟩
  · rw [e2] at e; cases e
theorem lat_mem {l : List TTubeNode} {t : Int} {x : TTubeNode} : x ∈ lat l t ↔ x ∈ l ∧ x.Node_Time > t := by simp [lat]
theorem bef_len (l : List TTubeNode) (t : Int) : (bef l t).length ≤ l.length := List.length_filter_le _ _
theorem lat_len (l : List TTubeNode) (t : Int) : (lat l t).length ≤ l.length := List.length_filter_le _ _
theorem cat_ok {L : List (List TTubeNode)} (h : L.length ≤ 64) (h2 : L.flatten.length ≤ 1000) : catO 48 L = some L.flatten := by
  unfold catO
  rw [if_pos ⟨by omega, by omega, by omega⟩]
end Go.Proofs.YtbbfpbngnkjkdaaDoor
/- Heights between two nodes, rounded down: not above and not below a line that lies above, below, both nodes. -/
set_option linter.unusedVariables false
set_option linter.unusedSimpArgs false
namespace Go.Proofs.YtbbfpbngnkjkdaaDoor

/- ha, hb: heights at ta and tb = ta + d; the line is A at ta and rises by K in a second -/
/- the height that a flight has x seconds after a clearance: D in all, N seconds long, C at most in a second -/
end Go.Proofs.YtbbfpbngnkjkdaaDoor
/- A tube whose nodes are in bounds and whose times grow passes Check. -/
set_option linter.unusedVariables false
set_option linter.unusedSimpArgs false
namespace Go.Proofs.YtbbfpbngnkjkdaaDoor

theorem check_ok (n : Nat) (hn : 64 < n) (l : List TTubeNode) (h : TubeOk l) : g7 n l = some 0 := by
  have hp := h.pos
  have hl := h.len
  unfold g7
  rw [decide_eq_false (show ¬ (l.length : Int) > 64 by omega), cond_false, show ((l.length : Int) == 0) = false from beq_eq_false_iff_ne.2 (by omega), cond_false]
  refine iterO_eq (S := fun y : Int => S7_0 n l 0 (l.length : Int) y) (fun x => ∃ i : Nat, i ≤ l.length ∧ x = (i : Int)) 0 (fun x => l.length - x.toNat) ?_ n 0 ⟨0, Nat.zero_le _, rfl⟩ (by simp; omega)
  rintro _ ⟨i, hi, rfl⟩
  rcases Nat.lt_or_ge i l.length with hlt | hge
  · left
    have hx : l[i]? = some l[i] := List.getElem?_eq_getElem hlt
    obtain ⟨b1, b2, b3, b4, b5, b6, b7, b8, b9⟩ := h.nodes _ (List.getElem_mem hlt)
    have ep : g20 n (⟨l[i].Node_At_X, l[i].Node_At_Y⟩ : TP) = some 0 := by
      rcases pcheck n ⟨l[i].Node_At_X, l[i].Node_At_Y⟩ with ⟨e, -⟩ | ⟨-, e⟩
      · exact e
      · exact absurd b3 e
    refine ⟨((i + 1 : Nat) : Int), ?_, ⟨i + 1, hlt, rfl⟩, by simp; omega⟩
    show S7_0 n l 0 (l.length : Int) (i : Int) = _
    unfold S7_0
    rw [decide_eq_true (show (i : Int) < (l.length : Int) by omega), cond_true, getI_at hx, Option.bind_some, wS (by omega), decide_eq_false (show ¬ l[i].Node_Time < 0 by omega), cond_false, decide_eq_false (show ¬ l[i].Node_Time > 200000 by omega), cond_false, ep, Option.bind_some, show ((0 : Int) != 0) = false from rfl, cond_false, decide_eq_false (show ¬ l[i].Node_Height < 0 by omega), decide_eq_false (show ¬ l[i].Node_Height > 60000 by omega), decide_eq_false (show ¬ l[i].Radius < 0 by omega), decide_eq_false (show ¬ l[i].Radius > 1000000 by omega), decide_eq_false (show ¬ l[i].Band < 0 by omega), decide_eq_false (show ¬ l[i].Band > 60000 by omega)]
    simp only [cond_false]
    rcases i with _ | j
    · rfl
    · have hj : j < l.length := by omega
      have hy : l[j]? = some l[j] := List.getElem?_eq_getElem hj
      have hwj : IntKind.wrap .i64 (((j + 1 : Nat) : Int) - 1) = (j : Int) := by rw [wrap64 (by omega) (by omega)]; omega
      have hinc := h.inc j _ _ hy hx
      rw [decide_eq_true (show ((j + 1 : Nat) : Int) > 0 by omega), cond_true, hwj, getI_at hy, Option.bind_some, decide_eq_false (show ¬ l[j + 1].Node_Time ≤ l[j].Node_Time by omega), cond_false]
  · right
    have : i = l.length := by omega
    subst this
    show S7_0 n l 0 (l.length : Int) (l.length : Int) = _
    unfold S7_0
    rw [decide_eq_false (Int.lt_irrefl _)]; rfl
end Go.Proofs.YtbbfpbngnkjkdaaDoor
/- The node at a time, with its height. -/
set_option linter.unusedVariables false
set_option linter.unusedSimpArgs false
namespace Go.Proofs.YtbbfpbngnkjkdaaDoor

theorem down_exact (n : Nat) (X d : Int) (hX : -1000000000000 ≤ X ∧ X ≤ 1000000000000) (hd : 0 < d) : g37 n X d = some (X / d, 0) := by
  have key : X / d = X.tdiv d - (if X.tmod d ≠ 0 ∧ X < 0 then 1 else 0) := by
    rw [Int.tdiv_eq_ediv, Int.sign_eq_one_of_pos hd]
    by_cases h0 : 0 ≤ X
    · rw [if_pos (Or.inl h0), if_neg (by omega)]; omega
    · by_cases hv : d ∣ X
      · rw [if_pos (Or.inr hv), if_neg (by rintro ⟨k, -⟩; exact k (Int.tmod_eq_zero_of_dvd hv))]; omega
      · have hne : X.tmod d ≠ 0 := fun h => hv (Int.dvd_of_tmod_eq_zero h)
        rw [if_neg (by rintro (k | k); exact h0 k; exact hv k), if_pos ⟨hne, by omega⟩]; omega
  have hdv : divO X d = some (X.tdiv d) := by simp only [divO, if_neg (show ¬ d = 0 by omega)]
  have hmv : modO X d = some (X.tmod d) := by simp only [modO, if_neg (show ¬ d = 0 by omega)]
  have t1 : X / d ≤ 1000000000000 := by
    rcases Int.lt_or_le X 0 with h | h
    · have := Int.ediv_neg_of_neg_of_pos h hd; omega
    · have := Int.ediv_le_self d h; omega
  have t2 : -1000000000000 ≤ X / d := Int.le_ediv_of_mul_le hd (by
      have : -1000000000000 * d ≤ -1000000000000 * 1 := Int.mul_le_mul_of_nonpos_left (by omega) (by omega)
      omega)
  unfold g37
  rw [show (d == 0) = false from beq_eq_false_iff_ne.2 (by omega), cond_false, show (X == -9223372036854775808) = false from beq_eq_false_iff_ne.2 (by omega), cond_false, hdv, hmv, decide_eq_false (show ¬ d < 0 by omega)]
  simp only [Option.bind_some]
  by_cases h1 : X.tmod d = 0
  · rw [show (X.tmod d != 0) = false from by simp [h1], cond_false, key, if_neg (by rintro ⟨k, -⟩; exact k h1)]
    rw [if_neg (by rintro ⟨k, -⟩; exact k h1)] at key
    rw [wrap64 (by omega) (by omega)]; simp
  · rw [show (X.tmod d != 0) = true from by simp [h1], cond_true]
    by_cases h2 : X < 0
    · rw [decide_eq_true h2, key, if_pos ⟨h1, h2⟩]
      rw [if_pos ⟨h1, h2⟩] at key
      rw [show (!(true == false)) = true from rfl, cond_true]
      rw [wrap64 (z := X.tdiv d) (by omega) (by omega), wrap64 (by omega) (by omega)]
    · rw [decide_eq_false h2, key, if_neg (by rintro ⟨-, k⟩; exact h2 k)]
      rw [if_neg (by rintro ⟨-, k⟩; exact h2 k)] at key
      rw [show (!(false == false)) = false from rfl, cond_false]
      rw [wrap64 (by omega) (by omega)]; simp
theorem prod_bound {D c M : Int} (h : -M ≤ D ∧ D ≤ M) (hc : 0 ≤ c ∧ c ≤ 200000) (hM : 0 ≤ M ∧ M ≤ 2000000) : -1000000000000 ≤ D * c ∧ D * c ≤ 1000000000000 := by
  have h1 : D * c ≤ M * c := Int.mul_le_mul_of_nonneg_right h.2 hc.1
  have h2 : -M * c ≤ D * c := Int.mul_le_mul_of_nonneg_right h.1 hc.1
  have h3 : M * c ≤ M * 200000 := Int.mul_le_mul_of_nonneg_left hc.2 hM.1
  rw [Int.neg_mul] at h2
  omega
/- rounding up between the ends -/
theorem up_mid (n : Nat) (D c d : Int) (hD : -2000000 ≤ D ∧ D ≤ 2000000) (hc : 0 ≤ c ∧ c ≤ d) (hd : 0 < d ∧ d ≤ 200000) : ∃ q, g38 n (IntKind.wrap .i64 (D * c)) d = some (q, 0) ∧ (0 ≤ D → 0 ≤ q ∧ q ≤ D) ∧ (D < 0 → D ≤ q ∧ q ≤ 0) := by
  have hb := prod_bound (M := 2000000) hD ⟨hc.1, by omega⟩ (by decide)
  obtain ⟨q, eq, u1, u2⟩ := down_mid n D c d hD hc hd
  rw [wrap64 (by omega) (by omega)] at eq ⊢
  have ex := down_exact n (D * c) d hb hd.1
  rw [ex] at eq
  simp only [Option.some.injEq, Prod.mk.injEq, and_true] at eq
  have hmv : modO (D * c) d = some ((D * c).tmod d) := by simp only [modO, if_neg (show ¬ d = 0 by omega)]
  unfold g38
  rw [ex, Option.bind_some]
  simp only [show ((0 : Int) == 0) = true from rfl, cond_true]
  rw [hmv, Option.bind_some]
  by_cases h1 : (D * c).tmod d = 0
  · rw [show ((D * c).tmod d != 0) = false from by simp [h1], cond_false, eq]
    exact ⟨q, rfl, u1, u2⟩
  · rw [show ((D * c).tmod d != 0) = true from by simp [h1], cond_true, eq]
    have hne : ∀ k : Int, D * c ≠ k * d := fun k h => h1 (by rw [h]; exact Int.mul_tmod_left k d)
    have e := Int.mul_ediv_add_emod (D * c) d
    have r0 : 0 ≤ (D * c) % d := Int.emod_nonneg _ (by omega)
    have r1 : (D * c) % d < d := Int.emod_lt_of_pos _ hd.1
    have hq0 : -2000000 ≤ q ∧ q ≤ 2000000 := by
      rcases Int.lt_or_le D 0 with h | h
      · have := u2 h; omega
      · have := u1 h; omega
    rw [wrap64 (by omega) (by omega)]
    refine ⟨q + 1, rfl, fun h => ?_, fun h => ?_⟩
    · have := u1 h
      refine ⟨by omega, ?_⟩
      have hlt : (D * c) / d < D := Int.ediv_lt_of_lt_mul hd.1 (by
        have k1 : D * c ≤ D * d := Int.mul_le_mul_of_nonneg_left hc.2 h
        have k2 := hne D
        omega)
      omega
    · have := u2 h
      refine ⟨by omega, ?_⟩
      have hlt : (D * c) / d < 0 := by
        rcases Int.lt_or_eq_of_le hc.1 with k | k
        · exact Int.ediv_neg_of_neg_of_pos (Int.mul_neg_of_neg_of_pos h k) hd.1
        · exfalso; exact hne 0 (by rw [← k]; simp)
      omega
/- what At answers inside a tube -/
set_option maxHeartbeats 2000000 in
theorem At_seg (n : Nat) (hn : 64 < n) (l : List TTubeNode) (h : TubeOk l) (hc : g7 n l = some 0) (u : Int) (x0 x1 : TTubeNode) (h0 : l[0]? = some x0) (h1 : l[l.length - 1]? = some x1) (ht0 : x0.Node_Time ≤ u) (ht1 : u ≤ x1.Node_Time) :
    ∃ r : TTubeNode, g8 n l u = some (r, 0) ∧ NodeB r ∧ r.Node_Time = u ∧ ((∃ i : Nat, l[i]? = some r) ∨ ∃ (i : Nat) (a b : TTubeNode), l[i]? = some a ∧ l[i + 1]? = some b ∧ a.Node_Time < u ∧ u < b.Node_Time ∧ r.Node_Height = a.Node_Height + ((b.Node_Height - a.Node_Height) * (u - a.Node_Time)) / (b.Node_Time - a.Node_Time)) := by
  have hp := h.pos
  have b0 := h.nodes x0 (List.mem_of_getElem? h0)
  have b1 := h.nodes x1 (List.mem_of_getElem? h1)
  have fin : ∀ r : TTubeNode, g25 n l u = some r → g8 n l u = some (r, 0) := fun r hr => by
    rcases At_cases n hn l h hc u x0 x1 h0 h1 with ⟨-, -, r', e1, e2⟩ | ⟨k, -⟩
    · rw [hr] at e1; cases e1; exact e2
    · omega
  obtain ⟨i, hi, k1, k2, b, hb, hbt⟩ := search_eq n hn l h u (by have := b0.1; have := b1.2.1; omega)
  cases b with
  | true =>
    obtain ⟨x, hx, hxt⟩ := hbt.1 rfl
    refine ⟨x, fin x ?_, h.nodes x (List.mem_of_getElem? hx), hxt, .inl ⟨i, hx⟩⟩
    unfold g25
    rw [hb, Option.bind_some]
    simp only [cond_true]
    rw [getI_at hx]; rfl
  | false =>
    have hil : i < l.length := by
      rcases Nat.lt_or_ge i l.length with h' | h'
      · exact h'
      · have := k1 (l.length - 1) x1 (by omega) h1; omega
    have hi0 : 0 < i := by
      rcases Nat.eq_zero_or_pos i with rfl | h'
      · have := k2 0 x0 (Nat.le_refl _) h0
        have := hbt.2 ⟨x0, h0, by omega⟩
        cases this
      · exact h'
    have ha : l[i - 1]? = some l[i - 1] := List.getElem?_eq_getElem (by omega)
    have hb' : l[i]? = some l[i] := List.getElem?_eq_getElem hil
    have na := h.nodes _ (List.mem_of_getElem? ha)
    have nb := h.nodes _ (List.mem_of_getElem? hb')
    have ta := k1 (i - 1) _ (by omega) ha
    have tb : u < l[i].Node_Time := by
      have := k2 i _ (Nat.le_refl _) hb'
      rcases Int.lt_or_eq_of_le this with k | k
      · exact k
      · have := hbt.2 ⟨_, hb', k.symm⟩; cases this
    have hw : IntKind.wrap .i64 ((i : Int) - 1) = ((i - 1 : Nat) : Int) := by have := h.len; rw [wrap64 (by omega) (by omega)]; omega
    obtain ⟨a1, a2, a3, a4, a5, a6, a7, a8, a9⟩ := na
    obtain ⟨c1, c2, c3, c4, c5, c6, c7, c8, c9⟩ := nb
    obtain ⟨q1, e1, hq⟩ := toward_val n (⟨l[i - 1].Node_At_X, l[i - 1].Node_At_Y⟩ : TP) (⟨l[i].Node_At_X, l[i].Node_At_Y⟩ : TP) a3 c3 (u - l[i - 1].Node_Time) (l[i].Node_Time - l[i - 1].Node_Time) (by omega) (by omega)
    have pb := prod_bound (D := l[i].Node_Height - l[i - 1].Node_Height) (c := u - l[i - 1].Node_Time) (M := 2000000) (by omega) (by omega) (by decide)
    have e2 := down_exact n ((l[i].Node_Height - l[i - 1].Node_Height) * (u - l[i - 1].Node_Time)) (l[i].Node_Time - l[i - 1].Node_Time) pb (by omega)
    obtain ⟨qh, eh, v1, v2⟩ := down_mid n (l[i].Node_Height - l[i - 1].Node_Height) (u - l[i - 1].Node_Time) (l[i].Node_Time - l[i - 1].Node_Time) (by omega) (by omega) (by omega)
    rw [wrap64 (by omega) (by omega), e2] at eh
    simp only [Option.some.injEq, Prod.mk.injEq, and_true] at eh
    obtain ⟨q3, e3, y1, y2⟩ := up_mid n (l[i].Radius - l[i - 1].Radius) (u - l[i - 1].Node_Time) (l[i].Node_Time - l[i - 1].Node_Time) (by omega) (by omega) (by omega)
    obtain ⟨q4, e4, z1, z2⟩ := up_mid n (l[i].Band - l[i - 1].Band) (u - l[i - 1].Node_Time) (l[i].Node_Time - l[i - 1].Node_Time) (by omega) (by omega) (by omega)
    have hH : 0 ≤ l[i - 1].Node_Height + qh ∧ l[i - 1].Node_Height + qh ≤ 60000 := by
      rcases Int.lt_or_le (l[i].Node_Height - l[i - 1].Node_Height) 0 with k | k
      · have := v2 k; omega
      · have := v1 k; omega
    have hR : 0 ≤ l[i - 1].Radius + q3 ∧ l[i - 1].Radius + q3 ≤ 1000000 := by
      rcases Int.lt_or_le (l[i].Radius - l[i - 1].Radius) 0 with k | k
      · have := y2 k; omega
      · have := y1 k; omega
    have hB : 0 ≤ l[i - 1].Band + q4 ∧ l[i - 1].Band + q4 ≤ 60000 := by
      rcases Int.lt_or_le (l[i].Band - l[i - 1].Band) 0 with k | k
      · have := z2 k; omega
      · have := z1 k; omega
    refine ⟨(⟨u, q1.X, q1.Y, l[i - 1].Node_Height + qh, l[i - 1].Radius + q3, l[i - 1].Band + q4⟩ : TTubeNode), fin _ ?_, ⟨by show 0 ≤ u; omega, by show u ≤ 200000; omega, hq, hH.1, hH.2, hR.1, hR.2, hB.1, hB.2⟩, rfl, .inr ⟨i - 1, l[i - 1], l[i], ha, by rw [show i - 1 + 1 = i by omega]; exact hb', ta, tb, by show l[i - 1].Node_Height + qh = _; rw [eh]⟩⟩
    unfold g25
    rw [hb, Option.bind_some]
    simp only [cond_false]
    rw [hw, getI_at ha, getI_at hb']
    simp only [Option.bind_some]
    rw [wrap64 (z := u - l[i - 1].Node_Time) (by omega) (by omega), wrap64 (z := l[i].Node_Time - l[i - 1].Node_Time) (by omega) (by omega), e1, Option.bind_some, wrap64 (z := l[i].Node_Height - l[i - 1].Node_Height) (by omega) (by omega), wrap64 (z := (l[i].Node_Height - l[i - 1].Node_Height) * (u - l[i - 1].Node_Time)) (by omega) (by omega), e2, Option.bind_some, wrap64 (z := l[i].Radius - l[i - 1].Radius) (by omega) (by omega), e3, Option.bind_some, wrap64 (z := l[i].Band - l[i - 1].Band) (by omega) (by omega), e4, Option.bind_some, eh, wrap64 (z := l[i - 1].Node_Height + qh) (by omega) (by omega), wrap64 (z := l[i - 1].Radius + q3) (by omega) (by omega), wrap64 (z := l[i - 1].Band + q4) (by omega) (by omega)]
end Go.Proofs.YtbbfpbngnkjkdaaDoor
/- The loop of height: every later node gets the height of its time. -/
set_option linter.unusedVariables false
set_option linter.unusedSimpArgs false
namespace Go.Proofs.YtbbfpbngnkjkdaaDoor

/- the height u: D in all from h0 on at t0, N seconds long -/
def hgt (h0 to t0 N u : Int) : Int := if t0 + N ≤ u then to else h0 + ((to - h0) * (u - t0)) / N
def hN (h0 to t0 N : Int) (x : TTubeNode) : TTubeNode := ⟨x.Node_Time, x.Node_At_X, x.Node_At_Y, hgt h0 to t0 N x.Node_Time, x.Radius, x.Band⟩
theorem mid_le {D c d : Int} (hc : 0 ≤ c ∧ c ≤ d) (hd : 0 < d) : (0 ≤ D → 0 ≤ (D * c) / d ∧ (D * c) / d ≤ D) ∧ (D < 0 → D ≤ (D * c) / d ∧ (D * c) / d ≤ 0) := by
  refine ⟨fun h => ⟨Int.ediv_nonneg (Int.mul_nonneg h hc.1) (by omega), Int.ediv_le_of_le_mul hd (Int.mul_le_mul_of_nonneg_left hc.2 h)⟩, fun h => ⟨Int.le_ediv_of_mul_le hd (Int.mul_le_mul_of_nonpos_left (by omega) hc.2), ?_⟩⟩
  rcases Int.lt_or_eq_of_le hc.1 with h' | h'
  · have : D * c < 0 := Int.mul_neg_of_neg_of_pos h h'
    have := Int.ediv_neg_of_neg_of_pos this hd
    omega
  · rw [← h', Int.mul_zero, Int.zero_ediv]; exact Int.le_refl _
theorem height_loop (n : Nat) (T : Ttask) (N e : Int) (M : Nat) (hM : M ≤ 1000) (he : e = T.now_Node_Time + N) (hN0 : 0 ≤ N ∧ N ≤ 100000) (hh : 0 ≤ T.now_Node_Height ∧ T.now_Node_Height ≤ 60000) (hv : 0 ≤ T.Clearance_Value ∧ T.Clearance_Value ≤ 60000) (ht : 0 ≤ T.now_Node_Time ∧ T.now_Node_Time ≤ 200000) : ∀ (R D : List TTubeNode) (m : Nat), (∀ x ∈ R, T.now_Node_Time < x.Node_Time ∧ x.Node_Time ≤ 200000) → D.length + R.length = M → R.length < m →
    iterO (fun y : Int × List TTubeNode => S29_0 n (0) N (M : Int) T.Clearance_Call T.Clearance_Kind T.Clearance_Value T.Clearance_Fix T.before T.later T.now_Node_Time T.now_Node_At_X T.now_Node_At_Y T.now_Node_Height T.now_Radius T.now_Band T.kind_Name T.kind_Wake T.kind_Ceiling T.kind_Climb T.kind_Descent T.kind_Slow T.kind_Fast T.fix_X T.fix_Y T.whole e y.1 y.2) m ((D.length : Int), D ++ R) = some (D ++ R.map (hN T.now_Node_Height T.Clearance_Value T.now_Node_Time N), 0)
  | [], D, m, hR, hl, hm => by
    obtain ⟨q, rfl⟩ : ∃ q, m = q + 1 := ⟨m - 1, by omega⟩
    simp only [iterO]
    unfold S29_0
    rw [decide_eq_false (show ¬ (D.length : Int) < (M : Int) by simp at hl; omega), cond_false]
    rfl
  | x :: R, D, m, hR, hl, hm => by
    obtain ⟨q, rfl⟩ : ∃ q, m = q + 1 := ⟨m - 1, by omega⟩
    simp only [List.length_cons] at hl hm
    have hx := hR x (List.mem_cons_self ..)
    have gx : (D ++ x :: R)[D.length]? = some x := by simp
    have hset : ∀ y : TTubeNode, (D ++ x :: R).set D.length y = (D ++ [y]) ++ R := fun y => by
      rw [List.set_append_right _ _ (Nat.le_refl _)]; simp
    have e1 : S29_0 n (0) N (M : Int) T.Clearance_Call T.Clearance_Kind T.Clearance_Value T.Clearance_Fix T.before T.later T.now_Node_Time T.now_Node_At_X T.now_Node_At_Y T.now_Node_Height T.now_Radius T.now_Band T.kind_Name T.kind_Wake T.kind_Ceiling T.kind_Climb T.kind_Descent T.kind_Slow T.kind_Fast T.fix_X T.fix_Y T.whole e (D.length : Int) (D ++ x :: R) = some (.inl (((D.length + 1 : Nat) : Int), (D ++ [hN T.now_Node_Height T.Clearance_Value T.now_Node_Time N x]) ++ R)) := by
      unfold S29_0
      rw [decide_eq_true (show (D.length : Int) < (M : Int) by omega), cond_true, getI_at gx, Option.bind_some, wS (by omega), Int.toNat_natCast]
      by_cases hc : x.Node_Time ≥ e
      · rw [decide_eq_true hc, cond_true, hset]
        unfold hN hgt
        rw [if_pos (by omega)]
      · rw [decide_eq_false hc, cond_false]
        have pb := prod_bound (D := T.Clearance_Value - T.now_Node_Height) (c := x.Node_Time - T.now_Node_Time) (M := 2000000) (by omega) (by omega) (by decide)
        have hd := down_exact n ((T.Clearance_Value - T.now_Node_Height) * (x.Node_Time - T.now_Node_Time)) N pb (by omega)
        have md := mid_le (D := T.Clearance_Value - T.now_Node_Height) (c := x.Node_Time - T.now_Node_Time) (d := N) (by omega) (by omega)
        rw [wrap64 (z := T.Clearance_Value - T.now_Node_Height) (by omega) (by omega), wrap64 (z := x.Node_Time - T.now_Node_Time) (by omega) (by omega), wrap64 (z := (T.Clearance_Value - T.now_Node_Height) * (x.Node_Time - T.now_Node_Time)) (by omega) (by omega), hd, Option.bind_some]
        have hb : -60000 ≤ ((T.Clearance_Value - T.now_Node_Height) * (x.Node_Time - T.now_Node_Time)) / N ∧ ((T.Clearance_Value - T.now_Node_Height) * (x.Node_Time - T.now_Node_Time)) / N ≤ 60000 := by
          rcases Int.lt_or_le (T.Clearance_Value - T.now_Node_Height) 0 with h | h
          · have := md.2 h; omega
          · have := md.1 h; omega
        rw [wrap64 (by omega) (by omega), hset]
        unfold hN hgt
        rw [if_neg (by omega)]
    simp only [iterO, e1]
    have ih := height_loop n T N e M hM he hN0 hh hv ht R (D ++ [hN T.now_Node_Height T.Clearance_Value T.now_Node_Time N x]) q (fun z hz => hR z (List.mem_cons_of_mem _ hz)) (by simp; omega) (by omega)
    rw [show ((D ++ [hN T.now_Node_Height T.Clearance_Value T.now_Node_Time N x]).length : Int) = ((D.length + 1 : Nat) : Int) by simp] at ih
    rw [ih]
    simp
end Go.Proofs.YtbbfpbngnkjkdaaDoor
/- How long a climb takes. -/
set_option linter.unusedVariables false
set_option linter.unusedSimpArgs false
namespace Go.Proofs.YtbbfpbngnkjkdaaDoor

theorem up_zero (n : Nat) (b : Int) (hb : 0 < b) : g38 n 0 b = some (0, 0) := by
  have hd := down_exact n 0 b (by decide) hb
  have hm : modO 0 b = some 0 := by simp only [modO, if_neg (show ¬ b = 0 by omega)]; simp
  unfold g38
  rw [hd, Option.bind_some]
  simp only [show ((0 : Int) == 0) = true from rfl, cond_true]
  rw [hm, Option.bind_some]
  simp
structure ClimbOk (k : TKind) (h to N : Int) : Prop where
  hh : 0 ≤ h ∧ h ≤ 60000
  hto : 0 ≤ to ∧ to ≤ 60000
  hN : 0 ≤ N ∧ N ≤ 60001
  up : to - h ≤ k.Climb * N ∨ to < h
  down : h - to ≤ k.Descent * N ∨ h ≤ to
  same : h = to → N = 0
  rate : 1 ≤ k.Climb ∧ k.Climb ≤ 200 ∧ 1 ≤ k.Descent ∧ k.Descent ≤ 200
theorem climb_cases (n : Nat) (hn : 16 < n) (k : TKind) (h to : Int) : ∃ r : Int × Int, g40 n k h to = some r ∧ (r.2 = 0 → ClimbOk k h to r.1) := by
  unfold g40
  obtain ⟨z, hz, hk⟩ := craft_tot n hn k
  rw [hz, Option.bind_some]
  by_cases z0 : z = 0
  case neg => rw [bne_iff_ne.2 z0, cond_true]; exact ⟨_, rfl, fun e => absurd e z0⟩
  subst z0
  obtain ⟨k1, k2, k3, k4, -⟩ := hk rfl
  rw [show ((0 : Int) != 0) = false from rfl, cond_false]
  by_cases a1 : h < 0
  · rw [decide_eq_true a1, cond_true]; exact ⟨_, rfl, fun e => by cases e⟩
  rw [decide_eq_false a1, cond_false]
  by_cases a2 : h > 60000
  · rw [decide_eq_true a2, cond_true]; exact ⟨_, rfl, fun e => by cases e⟩
  rw [decide_eq_false a2, cond_false]
  by_cases a3 : to < 0
  · rw [decide_eq_true a3, cond_true]; exact ⟨_, rfl, fun e => by cases e⟩
  rw [decide_eq_false a3, cond_false]
  by_cases a4 : to > 60000
  · rw [decide_eq_true a4, cond_true]; exact ⟨_, rfl, fun e => by cases e⟩
  rw [decide_eq_false a4, cond_false]
  by_cases a5 : h > k.Ceiling
  · rw [decide_eq_true a5, cond_true]; exact ⟨_, rfl, fun e => by cases e⟩
  rw [decide_eq_false a5, cond_false]
  by_cases a6 : to > k.Ceiling
  · rw [decide_eq_true a6, cond_true]; exact ⟨_, rfl, fun e => by cases e⟩
  rw [decide_eq_false a6, cond_false]
  by_cases a7 : to ≥ h
  · rw [decide_eq_true a7, cond_true, wrap64 (z := to - h) (by omega) (by omega)]
    obtain ⟨q, hq, q0, q1, q2⟩ := up_val n (to - h) k.Climb (by omega) (by omega) (by omega)
    rw [hq, Option.bind_some]
    refine ⟨_, rfl, fun _ => ⟨by omega, by omega, by show 0 ≤ q ∧ q ≤ 60001; omega, .inl (by rw [Int.mul_comm]; exact q2), .inr (by omega), fun e => ?_, k1, k2, k3, k4⟩⟩
    have hz := up_zero n k.Climb (by omega)
    rw [show to - h = 0 by omega, hz] at hq
    cases hq; rfl
  · rw [decide_eq_false a7, cond_false, wrap64 (z := h - to) (by omega) (by omega)]
    obtain ⟨q, hq, q0, q1, q2⟩ := up_val n (h - to) k.Descent (by omega) (by omega) (by omega)
    rw [hq, Option.bind_some]
    exact ⟨_, rfl, fun _ => ⟨by omega, by omega, by show 0 ≤ q ∧ q ≤ 60001; omega, .inr (by omega), .inl (by rw [Int.mul_comm]; exact q2), fun e => by omega, k1, k2, k3, k4⟩⟩
end Go.Proofs.YtbbfpbngnkjkdaaDoor
/- The height at a time: its bounds. -/
set_option linter.unusedVariables false
set_option linter.unusedSimpArgs false
namespace Go.Proofs.YtbbfpbngnkjkdaaDoor

section
variable {k : TKind} {h0 to t0 N u : Int}
theorem ClimbOk.zero (h : ClimbOk k h0 to N) (hz : N = 0) : h0 = to := by
  have h1 := h.up
  have h2 := h.down
  rw [hz, Int.mul_zero] at h1 h2
  omega
theorem hgt_range (h : ClimbOk k h0 to N) (hu : t0 ≤ u) : min h0 to ≤ hgt h0 to t0 N u ∧ hgt h0 to t0 N u ≤ max h0 to := by
  unfold hgt
  by_cases he : t0 + N ≤ u
  · rw [if_pos he]; omega
  · rw [if_neg he]
    have md := mid_le (D := to - h0) (c := u - t0) (d := N) (by omega) (by omega)
    rcases Int.lt_or_le (to - h0) 0 with q | q
    · have := md.2 q; omega
    · have := md.1 q; omega
end
end Go.Proofs.YtbbfpbngnkjkdaaDoor
/- The height between two nodes of a climb. -/
set_option linter.unusedVariables false
set_option linter.unusedSimpArgs false
namespace Go.Proofs.YtbbfpbngnkjkdaaDoor

def HOk (k : TKind) (h0 to t0 N u z : Int) : Prop := min h0 to ≤ z ∧ z ≤ max h0 to ∧ (t0 + N ≤ u → z = to) ∧ (h0 ≤ to → z ≤ h0 + k.Climb * (u - t0)) ∧ (to ≤ h0 → h0 - k.Descent * (u - t0) ≤ z)
end Go.Proofs.YtbbfpbngnkjkdaaDoor
/- The tube after a climb: its nodes are in order, and every later node has the height of its time. -/
set_option linter.unusedVariables false
set_option linter.unusedSimpArgs false
namespace Go.Proofs.YtbbfpbngnkjkdaaDoor

def Srt (l : List TTubeNode) : Prop := l.Pairwise fun a b => a.Node_Time < b.Node_Time
theorem TubeOk.srt {l : List TTubeNode} (h : TubeOk l) : Srt l :=
  List.pairwise_iff_getElem.2 fun i j hi hj hij => h.lt' hij (List.getElem?_eq_getElem hi) (List.getElem?_eq_getElem hj)
theorem Srt.lt {l : List TTubeNode} (h : Srt l) {i j : Nat} {x y : TTubeNode} (hij : i < j) (hx : l[i]? = some x) (hy : l[j]? = some y) : x.Node_Time < y.Node_Time := by
  obtain ⟨h1, rfl⟩ := List.getElem?_eq_some_iff.1 hx
  obtain ⟨h2, rfl⟩ := List.getElem?_eq_some_iff.1 hy
  exact List.pairwise_iff_getElem.1 h i j h1 h2 hij
theorem Srt.le {l : List TTubeNode} (h : Srt l) {i j : Nat} {x y : TTubeNode} (hij : i ≤ j) (hx : l[i]? = some x) (hy : l[j]? = some y) : x.Node_Time ≤ y.Node_Time := by
  rcases Nat.lt_or_eq_of_le hij with k | rfl
  · exact Int.le_of_lt (h.lt k hx hy)
  · rw [hx] at hy; cases hy; exact Int.le_refl _
theorem Srt.adj {m : List TTubeNode} (h : Srt m) {i : Nat} {a b c : TTubeNode} (ha : m[i]? = some a) (hb : m[i + 1]? = some b) (hc : c ∈ m) : c.Node_Time ≤ a.Node_Time ∨ b.Node_Time ≤ c.Node_Time := by
  obtain ⟨j, hj⟩ := List.getElem?_of_mem hc
  rcases Nat.lt_or_ge i j with k | k
  · exact .inr (h.le k hb hj)
  · exact .inl (h.le k hj ha)
structure MidOk (t N : Int) (M : List TTubeNode) : Prop where
  srt : Srt M
  nodes : ∀ x ∈ M, NodeB x
  after : ∀ x ∈ M, t < x.Node_Time
  stop : ∀ x ∈ M, t + N < x.Node_Time → 0 < N → ∃ y ∈ M, y.Node_Time = t + N
theorem hN_time (h0 to t0 N : Int) (x : TTubeNode) : (hN h0 to t0 N x).Node_Time = x.Node_Time := rfl
theorem m_mem {l M : List TTubeNode} {now x : TTubeNode} {h0 to t N : Int} (hx : x ∈ bef l t ++ now :: M.map (hN h0 to t N)) : (x ∈ l ∧ x.Node_Time < t) ∨ x = now ∨ ∃ y ∈ M, x = hN h0 to t N y := by
  rcases List.mem_append.1 hx with k | k
  · exact .inl (by simpa [bef] using k)
  rcases List.mem_cons.1 k with k | k
  · exact .inr (.inl k)
  obtain ⟨y, hy, e⟩ := List.mem_map.1 k
  exact .inr (.inr ⟨y, hy, e.symm⟩)
theorem m_srt {l M : List TTubeNode} {now : TTubeNode} {h0 to t N : Int} (hl : TubeOk l) (ht : now.Node_Time = t) (hM : MidOk t N M) : Srt (bef l t ++ now :: M.map (hN h0 to t N)) := by
  refine List.pairwise_append.2 ⟨List.Pairwise.filter _ hl.srt, List.pairwise_cons.2 ⟨fun x hx => ?_, List.pairwise_map.2 hM.srt⟩, fun x hx y hy => ?_⟩
  · obtain ⟨y, hy, rfl⟩ := List.mem_map.1 hx
    rw [ht]; exact hM.after y hy
  · have hx' : x.Node_Time < t := by have := (List.mem_filter.1 hx).2; simpa using this
    rcases List.mem_cons.1 hy with k | k
    · rw [k, ht]; exact hx'
    · obtain ⟨z, hz, rfl⟩ := List.mem_map.1 k
      have := hM.after z hz
      rw [hN_time]; omega
theorem m_ok {k : TKind} {l M : List TTubeNode} {now : TTubeNode} {to t N : Int} (hl : TubeOk l) (hnow : NodeB now) (ht : now.Node_Time = t) (hM : MidOk t N M) (hc : ClimbOk k now.Node_Height to N) (hlen : (bef l t ++ now :: M.map (hN now.Node_Height to t N)).length ≤ 64) :
    TubeOk (bef l t ++ now :: M.map (hN now.Node_Height to t N)) := by
  refine ⟨by simp; omega, hlen, fun x hx => ?_, fun i x y hx hy => (m_srt hl ht hM).lt (Nat.lt_succ_self i) hx hy⟩
  rcases m_mem hx with ⟨k, -⟩ | rfl | ⟨y, hy, rfl⟩
  · exact hl.nodes x k
  · exact hnow
  · obtain ⟨c1, c2, c3, c4, c5, c6, c7, c8, c9⟩ := hM.nodes y hy
    have := hM.after y hy
    have := hgt_range (t0 := t) (u := y.Node_Time) hc (by omega)
    have h1 := hc.hh
    have h2 := hc.hto
    exact ⟨c1, c2, c3, by show 0 ≤ hgt _ _ _ _ _; omega, by show hgt _ _ _ _ _ ≤ _; omega, c6, c7, c8, c9⟩
/- a node at the time of the end, put in where it is missing -/
theorem mid_plain {t N : Int} {l : List TTubeNode} (hl : TubeOk l) (h : N ≤ 0 ∨ (∀ x ∈ lat l t, x.Node_Time ≤ t + N) ∨ ∃ y ∈ lat l t, y.Node_Time = t + N) : MidOk t N (lat l t) := by
  refine ⟨List.Pairwise.filter _ hl.srt, fun x hx => hl.nodes x (lat_mem.1 hx).1, fun x hx => (lat_mem.1 hx).2, fun x hx h1 h2 => ?_⟩
  rcases h with k | k | k
  · omega
  · have := k x hx; omega
  · exact k
theorem mid_ins {t N : Int} {l : List TTubeNode} (hl : TubeOk l) (hN0 : 0 < N) {i : Nat} {x y : TTubeNode} (hx : (lat l t)[i]? = some x) (h1 : x.Node_Time > t + N) (h2 : ∀ j, j < i → ∀ z, (lat l t)[j]? = some z → z.Node_Time < t + N) (hy : NodeB y) (ht : y.Node_Time = t + N) : MidOk t N ((lat l t).take i ++ y :: (lat l t).drop i) := by
  have hs : Srt (lat l t) := List.Pairwise.filter _ hl.srt
  have lo : ∀ z ∈ (lat l t).take i, z.Node_Time < t + N := fun z hz => by
    obtain ⟨j, hj⟩ := List.getElem?_of_mem hz
    rw [List.getElem?_take] at hj
    split at hj
    · rename_i hlt; exact h2 j hlt z hj
    · cases hj
  have hi : ∀ z ∈ (lat l t).drop i, t + N < z.Node_Time := fun z hz => by
    obtain ⟨j, hj⟩ := List.getElem?_of_mem hz
    rw [List.getElem?_drop] at hj
    have := hs.le (Nat.le_add_right i j) hx hj
    omega
  have mem : ∀ z ∈ (lat l t).take i ++ y :: (lat l t).drop i, z ∈ lat l t ∨ z = y := fun z hz => by
    rcases List.mem_append.1 hz with k | k
    · exact .inl (List.mem_of_mem_take k)
    rcases List.mem_cons.1 k with k | k
    · exact .inr k
    · exact .inl (List.mem_of_mem_drop k)
  refine ⟨List.pairwise_append.2 ⟨hs.sublist (List.take_sublist ..), List.pairwise_cons.2 ⟨fun z hz => by have := hi z hz; omega, hs.sublist (List.drop_sublist ..)⟩, fun z hz w hw => ?_⟩, fun z hz => ?_, fun z hz => ?_, fun _ _ _ _ => ⟨y, List.mem_append.2 (.inr (List.mem_cons_self ..)), ht⟩⟩
  · have := lo z hz
    rcases List.mem_cons.1 hw with k | k
    · rw [k]; omega
    · have := hi w k; omega
  · rcases mem z hz with k | rfl
    · exact hl.nodes z (lat_mem.1 k).1
    · exact hy
  · rcases mem z hz with k | rfl
    · exact (lat_mem.1 k).2
    · omega
end Go.Proofs.YtbbfpbngnkjkdaaDoor
/- height: the later nodes, with a node at the end of the climb, each at the height of its time; the law EffectReaches as a plain program. -/
set_option linter.unusedVariables false
set_option linter.unusedSimpArgs false
namespace Go.Proofs.YtbbfpbngnkjkdaaDoor

theorem first_le (n : Nat) (hn : 64 < n) (l : List TTubeNode) (ok : TubeOk l) (ec : g7 n l = some 0) (t : Int) (now x0 x1 : TTubeNode) (h0 : l[0]? = some x0) (h1 : l[l.length - 1]? = some x1) (e : g8 n l t = some (now, 0)) : x0.Node_Time ≤ t := by
  rcases At_cases n hn l ok ec t x0 x1 h0 h1 with ⟨k, -⟩ | ⟨-, k⟩
  · exact k
  · rw [k] at e; cases e
theorem height_val (n : Nat) (hn : 200200 < n) (l : List TTubeNode) (ok : TubeOk l) (ec : g7 n l = some 0) (c : TClearance) (t : Int) (now : TTubeNode) (k : TKind) (fix : TP) (nt : now.Node_Time = t) (ht : 0 ≤ t ∧ t ≤ 200000) (N : Int) (hc : ClimbOk k now.Node_Height c.Value N) (e15 : g40 n k now.Node_Height c.Value = some (N, 0)) (e4 : g8 n l t = some (now, 0)) :
    ∃ M : List TTubeNode, MidOk t N M ∧ M.length ≤ 65 ∧ g29 n (tsk l c t now k fix) = some (M.map (hN now.Node_Height c.Value t N), 0) := by
  have hlen := ok.len
  have hpos := ok.pos
  have hll := lat_len l t
  have hNN := hc.hN
  have lp := fun (R : List TTubeNode) (hR : MidOk t N R) (hl : R.length ≤ 65) => height_loop n (tsk l c t now k fix) N (t + N) R.length (by omega) (by show t + N = now.Node_Time + N; omega) ⟨hNN.1, by omega⟩ hc.hh hc.hto (by show 0 ≤ now.Node_Time ∧ now.Node_Time ≤ 200000; omega) R [] n (fun x hx => ⟨by show now.Node_Time < _; have := hR.after x hx; omega, (hR.nodes x hx).2.1⟩) (by simp) (by omega)
  have hw : IntKind.wrap .i64 ((tsk l c t now k fix).now_Node_Time + N) = t + N := by
    show IntKind.wrap .i64 (now.Node_Time + N) = t + N
    rw [nt, wrap64 (by omega) (by omega)]
  have hnow : (tsk l c t now k fix).now_Node_Time = t := nt
  have hlat : (tsk l c t now k fix).later = lat l t := rfl
  have hwl : 0 < (lat l t).length → IntKind.wrap .i64 (((lat l t).length : Int) - 1) = (((lat l t).length - 1 : Nat) : Int) := fun h => by rw [wrap64 (by omega) (by omega)]; omega
  have start : ∀ X : Option (List TTubeNode × Int), ((roomO (lat l t).length 48).bind fun _ => X) = X := fun X => by rw [room_of (by omega) (by omega), Option.bind_some]
  have e15' : g40 n (⟨(tsk l c t now k fix).kind_Name, (tsk l c t now k fix).kind_Wake, (tsk l c t now k fix).kind_Ceiling, (tsk l c t now k fix).kind_Climb, (tsk l c t now k fix).kind_Descent, (tsk l c t now k fix).kind_Slow, (tsk l c t now k fix).kind_Fast⟩ : TKind) (tsk l c t now k fix).now_Node_Height (tsk l c t now k fix).Clearance_Value = some (N, 0) := e15
  by_cases hNp : N > 0
  case neg =>
    have hM := mid_plain (t := t) (N := N) ok (.inl (by omega))
    refine ⟨lat l t, hM, by omega, ?_⟩
    unfold g29
    rw [e15', Option.bind_some]
    simp only [show ((0 : Int) != 0) = false from rfl, cond_false, hw, hlat]
    rw [start, decide_eq_false hNp, cond_false]
    exact (lp _ hM (by omega)).trans (by rw [hnow]; rfl)
  by_cases hl0 : ((lat l t).length : Int) > 0
  case neg =>
    have hM := mid_plain (t := t) (N := N) ok (.inr (.inl fun x hx => by have := List.length_pos_of_mem hx; omega))
    refine ⟨lat l t, hM, by omega, ?_⟩
    unfold g29
    rw [e15', Option.bind_some]
    simp only [show ((0 : Int) != 0) = false from rfl, cond_false, hw, hlat]
    rw [start, decide_eq_true hNp, cond_true, decide_eq_false hl0, cond_false]
    exact (lp _ hM (by omega)).trans (by rw [hnow]; rfl)
  have h1 : (lat l t)[(lat l t).length - 1]? = some (lat l t)[(lat l t).length - 1] := List.getElem?_eq_getElem (by omega)
  generalize hx1 : (lat l t)[(lat l t).length - 1] = x1 at h1
  have hs : Srt (lat l t) := List.Pairwise.filter _ ok.srt
  by_cases hlast : t + N < x1.Node_Time
  case neg =>
    have hM := mid_plain (t := t) (N := N) ok (.inr (.inl fun x hx => by
      obtain ⟨j, hj⟩ := List.getElem?_of_mem hx
      have := hs.le (show j ≤ (lat l t).length - 1 by have := some_lt hj; omega) hj h1
      omega))
    refine ⟨lat l t, hM, by omega, ?_⟩
    unfold g29
    rw [e15', Option.bind_some]
    simp only [show ((0 : Int) != 0) = false from rfl, cond_false, hw, hlat]
    rw [start, decide_eq_true hNp, cond_true, decide_eq_true hl0, cond_true, hwl (by omega), getI_at h1, Option.bind_some, decide_eq_false hlast, cond_false]
    exact (lp _ hM (by omega)).trans (by rw [hnow]; rfl)
  have hidx : g41 n (lat l t) (t + N) = some (idxL (fun x : TTubeNode => decide (x.Node_Time ≥ t + N)) (lat l t)) := by
    unfold g41
    refine index_loop (fun x : TTubeNode => decide (x.Node_Time ≥ t + N)) (lat l t) (by omega) (S := fun y : Int => S41_0 n (lat l t) (t + N) (0) ((lat l t).length : Int) y) (fun i x hx => ?_) ?_ n (by omega)
    · have := some_lt hx
      unfold S41_0
      rw [decide_eq_true (show (i : Int) < _ by omega), cond_true, getI_at hx, Option.bind_some, wS (by omega)]
      unfold g42
      rw [Option.bind_some]
      cases decide (x.Node_Time ≥ t + N) <;> rfl
    · unfold S41_0
      rw [decide_eq_false (Int.lt_irrefl _)]; rfl
  have hge : 0 ≤ idxL (fun x : TTubeNode => decide (x.Node_Time ≥ t + N)) (lat l t) := by
    rcases Int.lt_or_le (idxL (fun x : TTubeNode => decide (x.Node_Time ≥ t + N)) (lat l t)) 0 with h | h
    · have := (idxL_neg _ _).1 h x1 (List.mem_of_getElem? h1)
      have := of_decide_eq_false this
      omega
    · exact h
  obtain ⟨y, hy, hyt, hbefore⟩ := idxL_at _ _ hge
  have hlt := (idxL_ge (fun x : TTubeNode => decide (x.Node_Time ≥ t + N)) (lat l t)).2
  generalize idxL (fun x : TTubeNode => decide (x.Node_Time ≥ t + N)) (lat l t) = z at *
  obtain ⟨i, rfl⟩ : ∃ i : Nat, z = (i : Int) := ⟨z.toNat, by omega⟩
  rw [Int.toNat_natCast] at hy hbefore
  have hyt' : y.Node_Time ≥ t + N := of_decide_eq_true hyt
  by_cases he : y.Node_Time = t + N
  · have hM := mid_plain (t := t) (N := N) ok (.inr (.inr ⟨y, List.mem_of_getElem? hy, he⟩))
    refine ⟨lat l t, hM, by omega, ?_⟩
    unfold g29
    rw [e15', Option.bind_some]
    simp only [show ((0 : Int) != 0) = false from rfl, cond_false, hw, hlat]
    rw [start, decide_eq_true hNp, cond_true, decide_eq_true hl0, cond_true, hwl (by omega), getI_at h1, Option.bind_some, decide_eq_true hlast, cond_true, hidx, Option.bind_some, getI_at hy, Option.bind_some, show (y.Node_Time != t + N) = false from by rw [he]; simp, cond_false]
    exact (lp _ hM (by omega)).trans (by rw [hnow]; rfl)
  · have hx0 : l[0]? = some l[0] := List.getElem?_eq_getElem (by omega)
    have hxl : l[l.length - 1]? = some l[l.length - 1] := List.getElem?_eq_getElem (by omega)
    have hf := first_le n (by omega) l ok ec t now _ _ hx0 hxl e4
    have hend : t + N ≤ l[l.length - 1].Node_Time := by
      obtain ⟨j, hj⟩ := List.getElem?_of_mem (lat_mem.1 (List.mem_of_getElem? h1)).1
      have := ok.le' (show j ≤ l.length - 1 by have := some_lt hj; omega) hj hxl
      omega
    obtain ⟨r, er, hr, hrt, -⟩ := At_seg n (by omega) l ok ec (t + N) _ _ hx0 hxl (by omega) hend
    have hM := mid_ins ok hNp hy (show y.Node_Time > t + N by omega) (fun j hj z hz => by have := of_decide_eq_false (hbefore j hj z hz); omega) hr hrt
    have hin : insO 48 (lat l t) (i : Int) [r] = some ((lat l t).take i ++ r :: (lat l t).drop i) := by
      unfold insO
      rw [if_pos ⟨by omega, by omega, by simp, by simp only [List.length_singleton]; omega, by simp only [List.length_singleton]; omega⟩, Int.toNat_natCast]
      simp
    have hML : ((lat l t).take i ++ r :: (lat l t).drop i).length ≤ 65 := by simp; omega
    refine ⟨_, hM, hML, ?_⟩
    unfold g29
    rw [e15', Option.bind_some]
    simp only [show ((0 : Int) != 0) = false from rfl, cond_false, hw, hlat]
    rw [start, decide_eq_true hNp, cond_true, decide_eq_true hl0, cond_true, hwl (by omega), getI_at h1, Option.bind_some, decide_eq_true hlast, cond_true, hidx, Option.bind_some, getI_at hy, Option.bind_some, bne_iff_ne.2 he, cond_true]
    have er' : g8 n (tsk l c t now k fix).whole (t + N) = some (r, 0) := er
    rw [er', Option.bind_some]
    simp only [hin, Option.bind_some]
    exact (lp _ hM hML).trans (by rw [hnow]; rfl)
end Go.Proofs.YtbbfpbngnkjkdaaDoor
