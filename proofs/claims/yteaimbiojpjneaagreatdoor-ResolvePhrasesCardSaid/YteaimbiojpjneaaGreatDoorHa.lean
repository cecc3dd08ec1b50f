/- Tubes, At, distances, names, aircraft: what they answer (from Gf1 to Gr3). -/
import Derived.Test.YteaimbiojpjneaaGreatDoorX1G
import Derived.Test.YteaimbiojpjneaaGreatDoorMath2
set_option linter.unusedVariables false
set_option linter.unusedSimpArgs false
namespace Go.Proofs.YteaimbiojpjneaaGreatDoor

def POk (p : TP) : Prop := -1000000 ≤ p.X ∧ p.X ≤ 1000000 ∧ -1000000 ≤ p.Y ∧ p.Y ≤ 1000000
theorem pcheck (n : Nat) (p : TP) : (g38 n p = some 0 ∧ POk p) ∨ (g38 n p = some 4 ∧ ¬ POk p) := by
  unfold g38 POk
  simp only [cond_eq_ite, decide_eq_true_eq]
  repeat' split
  all_goals first | (right; exact ⟨rfl, by omega⟩) | (left; exact ⟨rfl, by omega⟩)
def NodeB (x : TTubeNode) : Prop := 0 ≤ x.Node_Time ∧ x.Node_Time ≤ 200000 ∧ POk ⟨x.Node_At_X, x.Node_At_Y⟩ ∧ 0 ≤ x.Node_Height ∧ x.Node_Height ≤ 60000 ∧ 0 ≤ x.Radius ∧ x.Radius ≤ 1000000 ∧ 0 ≤ x.Band ∧ x.Band ≤ 60000
structure TubeOk (l : List TTubeNode) : Prop where
  pos : 1 ≤ l.length
  len : l.length ≤ 64
  nodes : ∀ x ∈ l, NodeB x
  inc : ∀ (i : Nat) (x y : TTubeNode), l[i]? = some x → l[i + 1]? = some y → x.Node_Time < y.Node_Time
theorem check_tail (n : Nat) (x : TTubeNode) (w : Int) (h0 : ¬ x.Node_Time < 0) (h1 : ¬ x.Node_Time > 200000) {s : Int ⊕ Int} (hs : ((g38 n (⟨x.Node_At_X, x.Node_At_Y⟩ : TP)).bind fun x6 =>
bif (x6 != (0)) then (
some (.inr (x6))) else (
bif (decide (x.Node_Height < (0))) then (
some (.inr (4))) else (
bif (decide (x.Node_Height > (60000))) then (
some (.inr (4))) else (
bif (decide (x.Radius < (0))) then (
some (.inr (4))) else (
bif (decide (x.Radius > (1000000))) then (
some (.inr (4))) else (
bif (decide (x.Band < (0))) then (
some (.inr (4))) else (
bif (decide (x.Band > (60000))) then (
some (.inr (4))) else (
some (.inl w))))))))) = some s) : (s = .inl w ∧ NodeB x) ∨ ∃ r, s = .inr r ∧ r ≠ 0 := by
  rcases pcheck n ⟨x.Node_At_X, x.Node_At_Y⟩ with ⟨e, hp⟩ | ⟨e, hp⟩
  · rw [e, Option.bind_some, show ((0 : Int) != 0) = false from rfl, cond_false] at hs
    simp only [cond_eq_ite, decide_eq_true_eq] at hs
    repeat' split at hs
    all_goals cases hs
    all_goals first | (right; exact ⟨_, rfl, by decide⟩) | (left; exact ⟨rfl, by omega, by omega, hp, by omega, by omega, by omega, by omega, by omega, by omega⟩)
  · rw [e, Option.bind_some, show ((4 : Int) != 0) = true from rfl, cond_true] at hs
    cases hs
    exact .inr ⟨_, rfl, by decide⟩
theorem check_step (n : Nat) (l : List TTubeNode) (hl : l.length ≤ 64) (i : Nat) (x : TTubeNode) (hx : l[i]? = some x) :
    (S24_0 n l 0 (l.length : Int) (i : Int) = some (.inl ((i + 1 : Nat) : Int)) ∧ NodeB x ∧ ∀ y, 0 < i → l[i - 1]? = some y → y.Node_Time < x.Node_Time) ∨ ∃ r, S24_0 n l 0 (l.length : Int) (i : Int) = some (.inr r) ∧ r ≠ 0 := by
  have hlt := some_lt hx
  unfold S24_0
  rw [decide_eq_true (show (i : Int) < (l.length : Int) by omega), getI_at hx, cond_true, Option.bind_some, wS (show i < 9223372036854775807 by omega)]
  by_cases a1 : x.Node_Time < 0
  · rw [decide_eq_true a1, cond_true]; exact .inr ⟨12, rfl, by decide⟩
  rw [decide_eq_false a1, cond_false]
  by_cases a2 : x.Node_Time > 200000
  · rw [decide_eq_true a2, cond_true]; exact .inr ⟨12, rfl, by decide⟩
  rw [decide_eq_false a2, cond_false]
  have fin : ∀ s : Option (Int ⊕ Int), (∀ q, s = some q → (q = .inl ((i + 1 : Nat) : Int) ∧ NodeB x) ∨ ∃ r, q = .inr r ∧ r ≠ 0) → s ≠ none → (∀ y, 0 < i → l[i - 1]? = some y → y.Node_Time < x.Node_Time) → (s = some (.inl ((i + 1 : Nat) : Int)) ∧ NodeB x ∧ ∀ y, 0 < i → l[i - 1]? = some y → y.Node_Time < x.Node_Time) ∨ ∃ r, s = some (.inr r) ∧ r ≠ 0 := by
    intro s h1 h2 h3
    cases s with
    | none => exact absurd rfl h2
    | some q =>
      rcases h1 q rfl with ⟨rfl, h⟩ | ⟨r, rfl, h⟩
      · exact .inl ⟨rfl, h, h3⟩
      · exact .inr ⟨r, rfl, h⟩
  have nn : ∀ (w : Int), ((g38 n (⟨x.Node_At_X, x.Node_At_Y⟩ : TP)).bind fun x6 =>
bif (x6 != (0)) then (
some (Sum.inr (x6))) else (
bif (decide (x.Node_Height < (0))) then (
some (.inr (4))) else (
bif (decide (x.Node_Height > (60000))) then (
some (.inr (4))) else (
bif (decide (x.Radius < (0))) then (
some (.inr (4))) else (
bif (decide (x.Radius > (1000000))) then (
some (.inr (4))) else (
bif (decide (x.Band < (0))) then (
some (.inr (4))) else (
bif (decide (x.Band > (60000))) then (
some (.inr (4))) else (
some (.inl w))))))))) ≠ none := by
    intro w
    rcases pcheck n ⟨x.Node_At_X, x.Node_At_Y⟩ with ⟨e, -⟩ | ⟨e, -⟩
    · rw [e, Option.bind_some, show ((0 : Int) != 0) = false from rfl]
      simp only [cond_false, cond_eq_ite]
      repeat' split
      all_goals exact fun h => by cases h
    · rw [e, Option.bind_some, show ((4 : Int) != 0) = true from rfl, cond_true]
      exact fun h => by cases h
  rcases i with _ | j
  · rw [show decide (((0 : Nat) : Int) > 0) = false from rfl, cond_false]
    exact fin _ (fun q hq => check_tail n x _ a1 a2 hq) (nn _) (fun y h => absurd h (Nat.lt_irrefl 0))
  · have hj : j < l.length := by omega
    have hy : l[j]? = some l[j] := List.getElem?_eq_getElem hj
    have hwj : IntKind.wrap .i64 (((j + 1 : Nat) : Int) - 1) = (j : Int) := by rw [wrap64 (by omega) (by omega)]; omega
    rw [decide_eq_true (show ((j + 1 : Nat) : Int) > 0 by omega), cond_true, hwj, getI_at hy, Option.bind_some]
    by_cases a3 : x.Node_Time ≤ l[j].Node_Time
    · rw [decide_eq_true a3, cond_true]; exact .inr ⟨12, rfl, by decide⟩
    rw [decide_eq_false a3, cond_false]
    exact fin _ (fun q hq => check_tail n x _ a1 a2 hq) (nn _) (fun y _ h => by rw [Nat.add_sub_cancel, hy] at h; cases h; omega)
theorem check_tot (n : Nat) (hn : 64 < n) (l : List TTubeNode) : (g24 n l = some 0 ∧ TubeOk l) ∨ ∃ z, z ≠ 0 ∧ g24 n l = some z := by
  unfold g24
  by_cases h1 : (l.length : Int) > 64
  · right; exact ⟨2, by decide, by rw [decide_eq_true h1]; rfl⟩
  rw [decide_eq_false h1, cond_false]
  by_cases h2 : (l.length : Int) = 0
  · right; exact ⟨3, by decide, by rw [h2]; rfl⟩
  rw [show ((l.length : Int) == 0) = false from beq_eq_false_iff_ne.2 h2, cond_false]
  obtain ⟨r, hr, h⟩ := iter_each (S := fun y : Int => S24_0 n l 0 (l.length : Int) y) l (fun i x => NodeB x ∧ ∀ y, 0 < i → l[i - 1]? = some y → y.Node_Time < x.Node_Time) (fun r => r ≠ 0) 0 (fun i x hx => check_step n l (by omega) i x hx) (by
    unfold S24_0
    rw [decide_eq_false (Int.lt_irrefl _)]; rfl) n (by omega)
  rcases h with h | ⟨rfl, h⟩
  · right; exact ⟨r, h, hr⟩
  · left
    refine ⟨hr, by omega, by omega, fun x hx => ?_, fun i x y hx hy => (h (i + 1) y hy).2 x (Nat.succ_pos i) hx⟩
    obtain ⟨i, hi⟩ := List.getElem?_of_mem hx
    exact (h i x hi).1
/- times grow -/
theorem TubeOk.lt {l : List TTubeNode} (h : TubeOk l) : ∀ (d i : Nat) (x y : TTubeNode), l[i]? = some x → l[i + d + 1]? = some y → x.Node_Time < y.Node_Time
  | 0, i, x, y, hx, hy => h.inc i x y hx hy
  | d + 1, i, x, y, hx, hy => by
    have := some_lt hy
    have hz : l[i + d + 1]? = some l[i + d + 1] := List.getElem?_eq_getElem (by omega)
    have h1 := TubeOk.lt h d i x _ hx hz
    have h2 := h.inc (i + d + 1) _ y hz hy
    omega
theorem TubeOk.lt' {l : List TTubeNode} (h : TubeOk l) {i j : Nat} {x y : TTubeNode} (hij : i < j) (hx : l[i]? = some x) (hy : l[j]? = some y) : x.Node_Time < y.Node_Time :=
  h.lt (j - i - 1) i x y hx (by rw [show i + (j - i - 1) + 1 = j by omega]; exact hy)
theorem TubeOk.le' {l : List TTubeNode} (h : TubeOk l) {i j : Nat} {x y : TTubeNode} (hij : i ≤ j) (hx : l[i]? = some x) (hy : l[j]? = some y) : x.Node_Time ≤ y.Node_Time := by
  rcases Nat.eq_or_lt_of_le hij with rfl | h'
  · rw [hx] at hy; cases hy; exact Int.le_refl _
  · exact Int.le_of_lt (h.lt' h' hx hy)
/- the search -/
theorem half {a b : Nat} (h : a + b < 2000) : IntKind.wrap .i64 (Int.fdiv (IntKind.wrap .u64 (IntKind.wrap .i64 ((a : Int) + (b : Int)))) 2) = (((a + b) / 2 : Nat) : Int) := by
  rw [wrap64 (z := (a : Int) + (b : Int)) (by omega) (by omega)]
  have e : IntKind.wrap .u64 ((a : Int) + (b : Int)) = (a : Int) + (b : Int) := IntWalk.u64_in _ (by omega)
  rw [e, Int.fdiv_eq_ediv_of_nonneg _ (by decide), wrap64 (by omega) (by omega)]
  omega
theorem search_eq (n : Nat) (hn : 64 < n) (l : List TTubeNode) (h : TubeOk l) (t : Int) (ht : -1000000 ≤ t ∧ t ≤ 1000000) :
    ∃ i : Nat, i ≤ l.length ∧ (∀ j x, j < i → l[j]? = some x → x.Node_Time < t) ∧ (∀ j x, i ≤ j → l[j]? = some x → t ≤ x.Node_Time) ∧ ∃ b, g68 n l t = some ((i : Int), b) ∧ (b = true ↔ ∃ x, l[i]? = some x ∧ x.Node_Time = t) := by
  have hlen := h.len
  have cmp : ∀ x ∈ l, g69 n x t = some (x.Node_Time - t) := fun x hx => by
    have := (h.nodes x hx)
    unfold g69
    rw [wrap64 (by have := this.1; omega) (by have := this.2.1; omega)]
  obtain ⟨r, hr, i, hi, h1, h2, h3, h4⟩ := iterO_rule (S := fun y : Int × Int => S68_0 n l t 0 false (l.length : Int) y.1 y.2)
    (fun z => ∃ a b : Nat, z = ((a : Int), (b : Int)) ∧ a ≤ b ∧ b ≤ l.length ∧ (∀ j x, j < a → l[j]? = some x → x.Node_Time < t) ∧ ∀ j x, b ≤ j → l[j]? = some x → t ≤ x.Node_Time)
    (fun r => ∃ i : Nat, i ≤ l.length ∧ (∀ j x, j < i → l[j]? = some x → x.Node_Time < t) ∧ (∀ j x, i ≤ j → l[j]? = some x → t ≤ x.Node_Time) ∧ r.1 = (i : Int) ∧ (r.2 = true ↔ ∃ x, l[i]? = some x ∧ x.Node_Time = t))
    (fun z => (z.2 - z.1).toNat) (by
      rintro _ ⟨a, b, rfl, hab, hb, hlo, hhi⟩
      simp only []
      unfold S68_0
      rcases Nat.eq_or_lt_of_le hab with rfl | hlt
      · right
        rw [decide_eq_false (show ¬ (a : Int) < (a : Int) from Int.lt_irrefl _), cond_false]
        rcases Nat.lt_or_ge a l.length with hal | hal
        · have hx : l[a]? = some l[a] := List.getElem?_eq_getElem hal
          have hz := h.nodes _ (List.getElem_mem hal)
          rw [decide_eq_true (show (a : Int) < (l.length : Int) by omega), cond_true, getI_at hx, Option.bind_some, cmp _ (List.getElem_mem hal), Option.bind_some]
          refine ⟨_, rfl, a, by omega, hlo, hhi, rfl, ?_⟩
          show ((l[a].Node_Time - t == 0) = true) ↔ _
          rw [beq_iff_eq]
          exact ⟨fun e => ⟨_, hx, by omega⟩, fun ⟨x, e, e2⟩ => by rw [hx] at e; cases e; omega⟩
        · rw [decide_eq_false (show ¬ (a : Int) < (l.length : Int) by omega), cond_false]
          refine ⟨_, rfl, a, by omega, hlo, hhi, rfl, ?_⟩
          show (false = true) ↔ _
          simp only [Bool.false_eq_true, false_iff]
          rintro ⟨x, e, -⟩
          have := some_lt e; omega
      · left
        rw [decide_eq_true (show (a : Int) < (b : Int) by omega), cond_true, half (by omega)]
        have hm : (a + b) / 2 < l.length := by omega
        have hx : l[(a + b) / 2]? = some l[(a + b) / 2] := List.getElem?_eq_getElem hm
        rw [getI_at hx, Option.bind_some, cmp _ (List.getElem_mem hm), Option.bind_some]
        by_cases hc : l[(a + b) / 2].Node_Time - t < 0
        · rw [decide_eq_true hc, cond_true, wS (by omega)]
          refine ⟨_, rfl, ⟨(a + b) / 2 + 1, b, rfl, by omega, hb, fun j x hj hxj => ?_, hhi⟩, by simp only []; omega⟩
          have := h.le' (show j ≤ (a + b) / 2 by omega) hxj hx
          omega
        · rw [decide_eq_false hc, cond_false]
          refine ⟨_, rfl, ⟨a, (a + b) / 2, rfl, by omega, by omega, hlo, fun j x hj hxj => ?_⟩, by simp only []; omega⟩
          have := h.le' hj hx hxj
          omega) n (0, (l.length : Int)) ⟨0, l.length, rfl, Nat.zero_le _, Nat.le_refl _, fun j x hj => absurd hj (Nat.not_lt_zero _), fun j x hj hx => absurd (some_lt hx) (Nat.not_lt_of_le hj)⟩ (by simp only []; omega)
  refine ⟨i, hi, h1, h2, r.2, ?_, h4⟩
  unfold g68
  rw [hr, ← h3]
/- division -/
theorem down_tot (n : Nat) (a b : Int) : ∃ r, g71 n a b = some r ∧ (r.2 = 0 → b ≠ 0) := by
  unfold g71
  by_cases hb : b = 0
  · rw [show (b == 0) = true from beq_iff_eq.2 hb, cond_true]; exact ⟨_, rfl, fun h => by cases h⟩
  rw [show (b == 0) = false from beq_eq_false_iff_ne.2 hb, cond_false]
  have hd : divO a b = some (a.tdiv b) := by simp [divO, hb]
  have hm : modO a b = some (a.tmod b) := by simp [modO, hb]
  rw [hd, hm]
  simp only [Option.bind_some, cond_eq_ite]
  repeat' split
  all_goals exact ⟨_, rfl, fun _ => hb⟩
theorem up_tot (n : Nat) (a b : Int) : ∃ r, g72 n a b = some r := by
  unfold g72
  obtain ⟨r, hr, h0⟩ := down_tot n a b
  rw [hr, Option.bind_some]
  by_cases h : r.2 = 0
  · have hb := h0 h
    have hm : modO a b = some (a.tmod b) := by simp [modO, hb]
    rw [show (r.2 == 0) = true from beq_iff_eq.2 h, cond_true, hm, Option.bind_some]
    simp only [cond_eq_ite]
    split <;> exact ⟨_, rfl⟩
  · rw [show (r.2 == 0) = false from beq_eq_false_iff_ne.2 h, cond_false]; exact ⟨_, rfl⟩
theorem toward_tot (n : Nat) (a b : TP) (c d : Int) : ∃ r, g70 n a b c d = some r := by
  unfold g70
  simp only [cond_eq_ite]
  obtain ⟨r1, h1, -⟩ := down_tot n (IntKind.wrap .i64 ((IntKind.wrap .i64 (b.X - a.X)) * c)) d
  obtain ⟨r2, h2, -⟩ := down_tot n (IntKind.wrap .i64 ((IntKind.wrap .i64 (b.Y - a.Y)) * c)) d
  rw [h1, h2]
  rcases pcheck n a with ⟨e, -⟩ | ⟨e, -⟩ <;> rw [e] <;> simp only [Option.bind_some] <;> rcases pcheck n b with ⟨e2, -⟩ | ⟨e2, -⟩ <;> (try rw [e2]) <;> simp only [Option.bind_some] <;> repeat' split
  all_goals exact ⟨_, rfl⟩
/- the node at a time -/
theorem at_tot (n : Nat) (hn : 64 < n) (l : List TTubeNode) (h : TubeOk l) (t : Int) (x0 x1 : TTubeNode) (h0 : l[0]? = some x0) (h1 : l[l.length - 1]? = some x1) (ht0 : x0.Node_Time ≤ t) (ht1 : t ≤ x1.Node_Time) : ∃ r, g53 n l t = some r := by
  have hp := h.pos
  have b0 := h.nodes x0 (List.mem_of_getElem? h0)
  have b1 := h.nodes x1 (List.mem_of_getElem? h1)
  obtain ⟨i, hi, k1, k2, b, hb, hbt⟩ := search_eq n hn l h t (by have := b0.1; have := b1.2.1; omega)
  unfold g53
  rw [hb, Option.bind_some]
  cases b with
  | true =>
    obtain ⟨x, hx, -⟩ := hbt.1 rfl
    simp only [cond_true]
    rw [getI_at hx]; exact ⟨_, rfl⟩
  | false =>
    simp only [cond_false]
    have hil : i < l.length := by
      rcases Nat.lt_or_ge i l.length with h' | h'
      · exact h'
      · have := k1 (l.length - 1) x1 (by omega) h1; omega
    have hi0 : 0 < i := by
      rcases Nat.eq_zero_or_pos i with rfl | h'
      · have := k2 0 x0 (Nat.le_refl _) h0
        have := hbt.2 ⟨x0, h0, by omega⟩
        cases this
      · exact h'
    have ha : l[i - 1]? = some l[i - 1] := List.getElem?_eq_getElem (by omega)
    have hb' : l[i]? = some l[i] := List.getElem?_eq_getElem hil
    have hw : IntKind.wrap .i64 ((i : Int) - 1) = ((i - 1 : Nat) : Int) := by have := h.len; rw [wrap64 (by omega) (by omega)]; omega
    rw [hw, getI_at ha, getI_at hb']
    simp only [Option.bind_some]
    obtain ⟨q1, e1⟩ := toward_tot n (⟨l[i - 1].Node_At_X, l[i - 1].Node_At_Y⟩ : TP) (⟨l[i].Node_At_X, l[i].Node_At_Y⟩ : TP) (IntKind.wrap .i64 (t - l[i - 1].Node_Time)) (IntKind.wrap .i64 (l[i].Node_Time - l[i - 1].Node_Time))
    rw [e1, Option.bind_some]
    obtain ⟨q2, e2, -⟩ := down_tot n (IntKind.wrap .i64 ((IntKind.wrap .i64 (l[i].Node_Height - l[i - 1].Node_Height)) * (IntKind.wrap .i64 (t - l[i - 1].Node_Time)))) (IntKind.wrap .i64 (l[i].Node_Time - l[i - 1].Node_Time))
    rw [e2, Option.bind_some]
    obtain ⟨q3, e3⟩ := up_tot n (IntKind.wrap .i64 ((IntKind.wrap .i64 (l[i].Radius - l[i - 1].Radius)) * (IntKind.wrap .i64 (t - l[i - 1].Node_Time)))) (IntKind.wrap .i64 (l[i].Node_Time - l[i - 1].Node_Time))
    rw [e3, Option.bind_some]
    obtain ⟨q4, e4⟩ := up_tot n (IntKind.wrap .i64 ((IntKind.wrap .i64 (l[i].Band - l[i - 1].Band)) * (IntKind.wrap .i64 (t - l[i - 1].Node_Time)))) (IntKind.wrap .i64 (l[i].Node_Time - l[i - 1].Node_Time))
    rw [e4, Option.bind_some]
    exact ⟨_, rfl⟩
def zeroN : TTubeNode := ⟨0, 0, 0, 0, 0, 0⟩
/- At of a valid tube: inside a node, outside error 12 -/
theorem At_cases (n : Nat) (hn : 64 < n) (l : List TTubeNode) (h : TubeOk l) (hc : g24 n l = some 0) (t : Int) (x0 x1 : TTubeNode) (h0 : l[0]? = some x0) (h1 : l[l.length - 1]? = some x1) :
    (x0.Node_Time ≤ t ∧ t ≤ x1.Node_Time ∧ ∃ r, g53 n l t = some r ∧ g26 n l t = some (r, 0)) ∨ ((t < x0.Node_Time ∨ x1.Node_Time < t) ∧ g26 n l t = some (zeroN, 12)) := by
  have hp := h.pos
  have hl := h.len
  unfold g26 g52
  have hw : IntKind.wrap .i64 ((l.length : Int) - 1) = ((l.length - 1 : Nat) : Int) := by rw [wrap64 (by omega) (by omega)]; omega
  have g0 : getI l 0 = some x0 := getI_at (i := 0) h0
  rw [hc, Option.bind_some, show ((0 : Int) != 0) = false from rfl, cond_false, hw, getI_at h1, g0]
  simp only [Option.bind_some]
  by_cases a1 : t < x0.Node_Time
  · rw [decide_eq_true a1, cond_true]; exact .inr ⟨.inl a1, rfl⟩
  rw [decide_eq_false a1, cond_false]
  by_cases a2 : t > x1.Node_Time
  · rw [decide_eq_true a2, cond_true]; exact .inr ⟨.inr a2, rfl⟩
  rw [decide_eq_false a2, cond_false]
  obtain ⟨r, hr⟩ := at_tot n hn l h t x0 x1 h0 h1 (by omega) (by omega)
  exact .inl ⟨by omega, by omega, r, hr, by rw [hr]; rfl⟩
theorem name_tot (n : Nat) (hn : 16 < n) (s : ByteArray) : ∃ b, g51 n s = some b := by
  unfold g51
  by_cases h1 : (s.size : Int) < 1
  · simp [h1]
  by_cases h2 : (s.size : Int) > 8
  · simp [h1, h2]
  have hl : s.data.toList.length = s.size := Array.length_toList
  rw [decide_eq_false h1, decide_eq_false h2, room_of (by omega) (by omega)]
  simp only [cond_false, Option.bind_some]
  obtain ⟨r, h, -⟩ := iterO_rule (S := fun y : Int => S51_0 n false (s.data.toList) ((s.data.toList).length : Int) y) (fun x => ∃ i : Nat, i ≤ s.data.toList.length ∧ x = (i : Int)) (fun _ => True) (fun x => s.data.toList.length - x.toNat) (by
    rintro _ ⟨i, hi, rfl⟩
    rcases Nat.lt_or_ge i s.data.toList.length with hlt | hge
    · have hx := getI_at (List.getElem?_eq_getElem hlt)
      have hw := wS (i := i) (by omega)
      have key : S51_0 n false (s.data.toList) ((s.data.toList).length : Int) (i : Int) = some (.inl (((i + 1 : Nat) : Int))) ∨ ∃ r, S51_0 n false (s.data.toList) ((s.data.toList).length : Int) (i : Int) = some (.inr r) := by
        unfold S51_0
        rw [decide_eq_true (show (i : Int) < _ by omega), hx, hw]
        simp only [cond_true, Option.bind_some]
        repeat' (rw [Bool.cond_eq_ite]; split)
        all_goals simp
      rcases key with k | ⟨r, k⟩
      · exact .inl ⟨_, k, ⟨i + 1, hlt, rfl⟩, by simp; omega⟩
      · exact .inr ⟨r, k, trivial⟩
    · have : i = s.data.toList.length := by omega
      subst this
      refine .inr ⟨true, ?_, trivial⟩
      unfold S51_0
      simp) n 0 ⟨0, Nat.zero_le _, rfl⟩ (by simp; omega)
  exact ⟨r, h⟩
theorem kind_tot (n : Nat) (hn : 16 < n) (s : ByteArray) : ∃ z, g57 n s = some z := by
  unfold g57 g79
  generalize hl : ([(⟨#[72, 69, 73, 71, 72, 84]⟩ : ByteArray), (⟨#[72, 69, 65, 68, 73, 78, 71]⟩ : ByteArray), (⟨#[83, 80, 69, 69, 68]⟩ : ByteArray), (⟨#[68, 73, 82, 69, 67, 84]⟩ : ByteArray), (⟨#[72, 79, 76, 68]⟩ : ByteArray), (⟨#[67, 79, 78, 84, 65, 67, 84]⟩ : ByteArray), (⟨#[76, 65, 78, 68]⟩ : ByteArray)] : List ByteArray) = l
  have hlen : l.length = 7 := by rw [← hl]; rfl
  have e := index_loop (fun x : ByteArray => s.toList == x.toList) l (by omega) (S := fun y : Int => S79_0 n l s 0 (l.length : Int) y) (fun i x hx => by
    have := some_lt hx
    unfold S79_0
    rw [decide_eq_true (show (i : Int) < _ by omega), getI_at hx, wS (by omega)]
    simp only [cond_true, Option.bind_some]
    by_cases h : (s.toList == x.toList) = true <;> simp [h]) (by
    unfold S79_0
    simp) n (by omega)
  rw [e]
  exact ⟨_, rfl⟩
theorem pname_tot (n : Nat) (hn : 16 < n) (s : ByteArray) : ∃ b, g30 n s = some b := by
  unfold g30
  obtain ⟨b, hb⟩ := name_tot n hn s
  obtain ⟨z, hz⟩ := kind_tot n hn s
  rw [hb]
  cases b with
  | false => exact ⟨_, rfl⟩
  | true => simp only [Option.bind_some, cond_true, hz]; exact ⟨_, rfl⟩
theorem phrase_tot (n : Nat) (hn : 16 < n) (c : TClearance) : ∃ z, g8 n c = some z := by
  unfold g8
  obtain ⟨b, hb⟩ := pname_tot n hn c.Call
  obtain ⟨b2, hb2⟩ := pname_tot n hn c.Fix
  rw [hb]
  simp only [Option.bind_some, hb2]
  cases b with
  | false => exact ⟨_, rfl⟩
  | true =>
    simp only [Bool.not_true, cond_false]
    by_cases h1 : c.Kind < 0
    · rw [decide_eq_true h1]; exact ⟨_, rfl⟩
    by_cases h2 : c.Kind > 6
    · rw [decide_eq_false h1, decide_eq_true h2]; exact ⟨_, rfl⟩
    rw [decide_eq_false h1, decide_eq_false h2]
    simp only [cond_false]
    by_cases h3 : c.Kind > 2
    · rw [decide_eq_true h3, cond_true]
      cases (c.Value != 0) <;> cases b2 <;> exact ⟨_, rfl⟩
    · rw [decide_eq_false h3, cond_false]
      obtain ⟨x, hx⟩ : ∃ x, getI ([60000, 4095, 400] : List Int) c.Kind = some x := by
        rcases (by omega : c.Kind = 0 ∨ c.Kind = 1 ∨ c.Kind = 2) with h | h | h <;> rw [h] <;> exact ⟨_, rfl⟩
      rw [hx]
      simp only [Option.bind_some]
      cases (!(c.Fix.toList == (⟨#[]⟩ : ByteArray).toList)) <;> cases decide (c.Value < 0) <;> cases decide (c.Value > x) <;> exact ⟨_, rfl⟩
theorem craft_tot (n : Nat) (hn : 16 < n) (k : TKind) : ∃ z, g25 n k = some z ∧ (z = 0 → 1 ≤ k.Climb ∧ k.Climb ≤ 200 ∧ 1 ≤ k.Descent ∧ k.Descent ≤ 200 ∧ 1 ≤ k.Slow ∧ k.Fast ≤ 400 ∧ 1 ≤ k.Ceiling ∧ k.Ceiling ≤ 60000) := by
  unfold g25
  obtain ⟨b, hb⟩ := name_tot n hn k.Name
  have w : ∀ x m : Int, ∃ c : Bool, g50 n x m = some c ∧ (c = false → 1 ≤ x ∧ x ≤ m) := fun x m => by
    unfold g50
    by_cases h : x < 1
    · rw [decide_eq_true h]; exact ⟨true, rfl, fun h => by cases h⟩
    · rw [decide_eq_false h]; exact ⟨_, rfl, fun h2 => by have := of_decide_eq_false h2; omega⟩
  obtain ⟨c1, e1, k1⟩ := w k.Ceiling 60000
  obtain ⟨c2, e2, k2⟩ := w k.Climb 200
  obtain ⟨c3, e3, k3⟩ := w k.Descent 200
  obtain ⟨c4, e4, k4⟩ := w k.Slow 400
  obtain ⟨c5, e5, k5⟩ := w k.Fast 400
  rw [hb, e1, e2, e3, e4, e5]
  simp only [Option.bind_some]
  cases b
  · exact ⟨5, rfl, fun h => by cases h⟩
  simp only [Bool.not_true, cond_false]
  cases decide (k.Wake < 0) with
  | true => exact ⟨1, rfl, fun h => by cases h⟩
  | false =>
  cases decide (k.Wake > 3) with
  | true => exact ⟨1, rfl, fun h => by cases h⟩
  | false =>
  simp only [cond_false]
  cases c1 with
  | true => exact ⟨4, rfl, fun h => by cases h⟩
  | false =>
  cases c2 with
  | true => exact ⟨4, rfl, fun h => by cases h⟩
  | false =>
  cases c3 with
  | true => exact ⟨4, rfl, fun h => by cases h⟩
  | false =>
  cases c4 with
  | true => exact ⟨4, rfl, fun h => by cases h⟩
  | false =>
  cases c5 with
  | true => exact ⟨4, rfl, fun h => by cases h⟩
  | false =>
  cases decide (k.Slow > k.Fast)
  · exact ⟨0, rfl, fun _ => ⟨(k2 rfl).1, (k2 rfl).2, (k3 rfl).1, (k3 rfl).2, (k4 rfl).1, (k5 rfl).2, (k1 rfl).1, (k1 rfl).2⟩⟩
  · exact ⟨3, rfl, fun h => by cases h⟩
theorem up_val (n : Nat) (a b : Int) (ha : 0 ≤ a) (ha2 : a ≤ 1000000000000) (hb : 0 < b) : ∃ q, g72 n a b = some (q, 0) ∧ 0 ≤ q ∧ q ≤ a + 1 ∧ a ≤ q * b := by
  have hd : divO a b = some (a / b) := by simp only [divO, if_neg (show ¬ b = 0 by omega)]; rw [Int.tdiv_eq_ediv_of_nonneg ha]
  have hm : modO a b = some (a % b) := by simp only [modO, if_neg (show ¬ b = 0 by omega)]; rw [Int.tmod_eq_emod_of_nonneg ha]
  have q0 : 0 ≤ a / b := Int.ediv_nonneg ha (by omega)
  have q1 : a / b ≤ a := Int.ediv_le_self b ha
  have r0 : 0 ≤ a % b := Int.emod_nonneg a (by omega)
  have r1 : a % b < b := Int.emod_lt_of_pos a hb
  have e := Int.mul_ediv_add_emod a b
  have hw : IntKind.wrap .i64 (a / b) = a / b := wrap64 (by omega) (by omega)
  have hD : g71 n a b = some (a / b, 0) := by
    unfold g71
    rw [show (b == 0) = false from beq_eq_false_iff_ne.2 (by omega), cond_false, show (a == -9223372036854775808) = false from beq_eq_false_iff_ne.2 (by omega), cond_false, hd, hm, decide_eq_false (show ¬ a < 0 by omega), decide_eq_false (show ¬ b < 0 by omega)]
    simp only [Option.bind_some, hw]
    cases (a % b != 0) <;> rfl
  unfold g72
  rw [hD, hm]
  simp only [Option.bind_some, show ((0 : Int) == 0) = true from rfl, cond_true]
  by_cases h : a % b = 0
  · rw [show (a % b != 0) = false from by simp [h], cond_false]
    refine ⟨_, rfl, q0, by omega, ?_⟩
    rw [Int.mul_comm]; omega
  · rw [show (a % b != 0) = true from by simp [h], cond_true, wrap64 (by omega) (by omega)]
    refine ⟨_, rfl, by omega, by omega, ?_⟩
    rw [Int.add_mul, Int.one_mul, Int.mul_comm]; omega
/- rounding down between the ends -/
theorem down_mid (n : Nat) (D c d : Int) (hD : -2000000 ≤ D ∧ D ≤ 2000000) (hc : 0 ≤ c ∧ c ≤ d) (hd : 0 < d ∧ d ≤ 200000) : ∃ q, g71 n (IntKind.wrap .i64 (D * c)) d = some (q, 0) ∧ (0 ≤ D → 0 ≤ q ∧ q ≤ D) ∧ (D < 0 → D ≤ q ∧ q ≤ 0) := by
  have b1 : D * c ≤ 2000000 * 200000 := by
    have h1 : D * c ≤ 2000000 * c := Int.mul_le_mul_of_nonneg_right hD.2 hc.1
    omega
  have b2 : -(2000000 * 200000) ≤ D * c := by
    have h1 : (-2000000) * c ≤ D * c := Int.mul_le_mul_of_nonneg_right hD.1 hc.1
    omega
  rw [wrap64 (by omega) (by omega)]
  have key : (D * c) / d = (D * c).tdiv d - (if (D * c).tmod d ≠ 0 ∧ D * c < 0 then 1 else 0) := by
    rw [Int.tdiv_eq_ediv, Int.sign_eq_one_of_pos hd.1]
    by_cases h0 : 0 ≤ D * c
    · rw [if_pos (Or.inl h0), if_neg (by omega)]; omega
    · by_cases hv : d ∣ D * c
      · rw [if_pos (Or.inr hv), if_neg (by rintro ⟨k, -⟩; exact k (Int.tmod_eq_zero_of_dvd hv))]; omega
      · have hne : (D * c).tmod d ≠ 0 := fun h => hv (Int.dvd_of_tmod_eq_zero h)
        rw [if_neg (by rintro (k | k); exact h0 k; exact hv k), if_pos ⟨hne, by omega⟩]; omega
  have hdv : divO (D * c) d = some ((D * c).tdiv d) := by simp only [divO, if_neg (show ¬ d = 0 by omega)]
  have hmv : modO (D * c) d = some ((D * c).tmod d) := by simp only [modO, if_neg (show ¬ d = 0 by omega)]
  have t1 : (D * c) / d ≤ 2000000 * 200000 := by
    rcases Int.lt_or_le (D * c) 0 with h | h
    · have := Int.ediv_neg_of_neg_of_pos h hd.1; omega
    · have := Int.ediv_le_self d h; omega
  have t2 : -(2000000 * 200000) - 1 ≤ (D * c) / d := by
    have : -(2000000 * 200000) ≤ (D * c) / d := Int.le_ediv_of_mul_le hd.1 (by
      have : -(2000000 * 200000) * d ≤ -(2000000 * 200000) * 1 := Int.mul_le_mul_of_nonpos_left (by omega) (by omega)
      omega)
    omega
  refine ⟨(D * c) / d, ?_, fun h => ⟨Int.ediv_nonneg (Int.mul_nonneg h hc.1) (by omega), Int.ediv_le_of_le_mul hd.1 (Int.mul_le_mul_of_nonneg_left hc.2 h)⟩, fun h => ⟨Int.le_ediv_of_mul_le hd.1 (Int.mul_le_mul_of_nonpos_left (by omega) hc.2), ?_⟩⟩
  · unfold g71
    rw [show (d == 0) = false from beq_eq_false_iff_ne.2 (by omega), cond_false, show (D * c == -9223372036854775808) = false from beq_eq_false_iff_ne.2 (by omega), cond_false, hdv, hmv, decide_eq_false (show ¬ d < 0 by omega)]
    simp only [Option.bind_some]
    by_cases h1 : (D * c).tmod d = 0
    · rw [show ((D * c).tmod d != 0) = false from by simp [h1], cond_false, key, if_neg (by rintro ⟨k, -⟩; exact k h1)]
      rw [if_neg (by rintro ⟨k, -⟩; exact k h1)] at key
      rw [wrap64 (by omega) (by omega)]; simp
    · rw [show ((D * c).tmod d != 0) = true from by simp [h1], cond_true]
      by_cases h2 : D * c < 0
      · rw [decide_eq_true h2, key, if_pos ⟨h1, h2⟩]
        rw [if_pos ⟨h1, h2⟩] at key
        rw [show (!(true == false)) = true from rfl, cond_true]
        rw [wrap64 (z := (D * c).tdiv d) (by omega) (by omega), wrap64 (by omega) (by omega)]
      · rw [decide_eq_false h2, key, if_neg (by rintro ⟨-, k⟩; exact h2 k)]
        rw [if_neg (by rintro ⟨-, k⟩; exact h2 k)] at key
        rw [show (!(false == false)) = false from rfl, cond_false]
        rw [wrap64 (by omega) (by omega)]; simp
  · rcases Int.lt_or_eq_of_le hc.1 with h' | h'
    · have : D * c < 0 := Int.mul_neg_of_neg_of_pos h h'
      have := Int.ediv_neg_of_neg_of_pos this hd.1
      omega
    · rw [← h', Int.mul_zero, Int.zero_ediv]; exact Int.le_refl _
/- the integer root -/
theorem sq_eq (a b : Int) : a * a - b * b = (a - b) * (a + b) := by
  rw [Int.sub_mul, Int.mul_add, Int.mul_add, Int.mul_comm b a]; omega
theorem sq_nonneg (a : Int) : 0 ≤ a * a := by
  rcases Int.le_total 0 a with h | h
  · exact Int.mul_nonneg h h
  · exact Int.mul_nonneg_of_nonpos_of_nonpos h h
theorem sq_le {a b : Int} (h0 : 0 ≤ a) (h : a ≤ b) : a * a ≤ b * b := Int.mul_le_mul h h h0 (by omega)
theorem root_loop (n : Nat) (x : Int) (hx : 0 ≤ x) (hx2 : x ≤ 9000000000000000000) : ∀ (k m : Nat) (v w : Int), 0 ≤ v → v ≤ w → w ≤ 3037000499 → w - v < 2 ^ k → k < m → v * v ≤ x → x < (w + 1) * (w + 1) →
    ∃ r : Int, iterO (fun y : Int × Int => S78_0 n x 0 y.1 y.2) m (v, w) = some r ∧ 0 ≤ r ∧ r ≤ 3037000499 ∧ r * r ≤ x ∧ x < (r + 1) * (r + 1)
  | k, m, v, w, h0, hvw, hw, hk, hm, h1, h2 => by
    obtain ⟨q, rfl⟩ : ∃ q, m = q + 1 := ⟨m - 1, by omega⟩
    rcases Int.lt_or_eq_of_le hvw with hlt | rfl
    · match k, hk, hm with
      | 0, hk, hm => simp at hk; omega
      | k + 1, hk, hm =>
        have hmid : IntKind.wrap .i64 (v + (IntKind.wrap .i64 (Int.tdiv (IntKind.wrap .i64 ((IntKind.wrap .i64 (w - v)) + 1)) 2))) = v + (w - v + 1) / 2 := by
          rw [wrap64 (z := w - v) (by omega) (by omega), wrap64 (z := w - v + 1) (by omega) (by omega), Int.tdiv_eq_ediv_of_nonneg (by omega), wrap64 (z := (w - v + 1) / 2) (by omega) (by omega), wrap64 (by omega) (by omega)]
        have hpow : (2 : Int) ^ (k + 1) = 2 * 2 ^ k := by rw [Int.pow_succ, Int.mul_comm]
        rw [hpow] at hk
        generalize hM : v + (w - v + 1) / 2 = M at hmid
        have M0 : v < M := by omega
        have M1 : M ≤ w := by omega
        have sq : M * M ≤ 3037000499 * 3037000499 := sq_le (by omega) (by omega)
        have sq0 := sq_nonneg M
        simp only [iterO]
        unfold S78_0
        rw [decide_eq_true hlt, cond_true, hmid, wrap64 (z := M * M) (by omega) (by omega)]
        by_cases hc : M * M ≤ x
        · rw [decide_eq_true hc, cond_true]
          exact root_loop n x hx hx2 k q M w (by omega) M1 hw (by omega) (by omega) hc h2
        · rw [decide_eq_false hc, cond_false, wrap64 (z := M - 1) (by omega) (by omega)]
          exact root_loop n x hx hx2 k q v (M - 1) h0 (by omega) (by omega) (by omega) (by omega) h1 (by rw [Int.sub_add_cancel]; omega)
    · refine ⟨v, ?_, h0, hw, h1, h2⟩
      simp only [iterO]
      unfold S78_0
      rw [decide_eq_false (Int.lt_irrefl _)]; rfl
theorem root_val (n : Nat) (hn : 64 < n) (x : Int) (hx : 0 ≤ x) (hx2 : x ≤ 9000000000000000000) : ∃ r : Int, g78 n x = some r ∧ 0 ≤ r ∧ r ≤ 3037000499 ∧ r * r ≤ x ∧ x < (r + 1) * (r + 1) := by
  unfold g78
  by_cases h : x ≤ 0
  · rw [decide_eq_true h, cond_true]
    have : x = 0 := by omega
    subst this
    exact ⟨0, rfl, by decide, by decide, by decide, by decide⟩
  · rw [decide_eq_false h, cond_false]
    exact root_loop n x hx hx2 32 n 0 3037000499 (by decide) (by decide) (by decide) (by decide) (by omega) (by simpa using hx) (by omega)
/- distance -/
theorem dist_val (n : Nat) (hn : 64 < n) (p q : TP) (hp : POk p) (hq : POk q) : ∃ f c, g56 n p q = some (f, c) ∧ 0 ≤ f ∧ f ≤ c ∧ c ≤ f + 1 ∧ f ≤ 3000000 ∧ (c = 0 → p = q) := by
  obtain ⟨p1, p2, p3, p4⟩ := hp
  obtain ⟨q1, q2, q3, q4⟩ := hq
  generalize hdx : p.X - q.X = dx
  generalize hdy : p.Y - q.Y = dy
  have b : ∀ d : Int, -2000000 ≤ d → d ≤ 2000000 → d * d ≤ 4000000000000 := fun d h1 h2 => by
    have h := sq_eq 2000000 d
    have := Int.mul_nonneg (show 0 ≤ 2000000 - d by omega) (show 0 ≤ 2000000 + d by omega)
    omega
  have bx := b dx (by omega) (by omega)
  have by' := b dy (by omega) (by omega)
  have nx := sq_nonneg dx
  have ny := sq_nonneg dy
  obtain ⟨r, hr, r0, r1, r2, r3⟩ := root_val n hn (dx * dx + dy * dy) (by omega) (by omega)
  have hs : g77 n p q = some (dx * dx + dy * dy) := by
    unfold g77 g55 g103
    simp only [Option.bind_some]
    rw [hdx, hdy, wrap64 (z := dx) (by omega) (by omega), wrap64 (z := dy) (by omega) (by omega), wrap64 (z := dx * dx) (by omega) (by omega), wrap64 (z := dy * dy) (by omega) (by omega), wrap64 (by omega) (by omega)]
  have r4 : r ≤ 3000000 := by
    rcases Int.lt_or_le 3000000 r with h | h
    · have := sq_le (a := 3000000) (b := r) (by decide) (by omega); omega
    · exact h
  unfold g56
  rw [hs, Option.bind_some, hr, Option.bind_some, wrap64 (z := r * r) (by have := sq_nonneg r; omega) (by omega), wrap64 (z := r + 1) (by omega) (by omega)]
  by_cases h : r * r < dx * dx + dy * dy
  · rw [decide_eq_true h, cond_true]
    exact ⟨r, r + 1, rfl, r0, by omega, by omega, r4, fun h => by omega⟩
  · rw [decide_eq_false h, cond_false]
    refine ⟨r, r, rfl, r0, Int.le_refl _, by omega, r4, fun h0 => ?_⟩
    subst h0
    simp at h
    have z1 : dx = 0 := by
      have : dx * dx = 0 := by omega
      rcases Int.mul_eq_zero.1 this with h | h <;> exact h
    have z2 : dy = 0 := by
      have : dy * dy = 0 := by omega
      rcases Int.mul_eq_zero.1 this with h | h <;> exact h
    cases p; cases q
    simp only [TP.mk.injEq] at *
    omega
theorem toward_val (n : Nat) (a b : TP) (ha : POk a) (hb : POk b) (c d : Int) (hc : 0 ≤ c ∧ c ≤ d) (hd : 0 < d ∧ d ≤ 200000) : ∃ r : TP, g70 n a b c d = some (r, 0) ∧ POk r := by
  obtain ⟨a1, a2, a3, a4⟩ := ha
  obtain ⟨b1, b2, b3, b4⟩ := hb
  have ea : g38 n a = some 0 := by
    rcases pcheck n a with ⟨e, -⟩ | ⟨-, h⟩
    · exact e
    · exact absurd ⟨a1, a2, a3, a4⟩ h
  have eb : g38 n b = some 0 := by
    rcases pcheck n b with ⟨e, -⟩ | ⟨-, h⟩
    · exact e
    · exact absurd ⟨b1, b2, b3, b4⟩ h
  obtain ⟨q1, e1, u1, u2⟩ := down_mid n (b.X - a.X) c d (by omega) hc hd
  obtain ⟨q2, e2, w1, w2⟩ := down_mid n (b.Y - a.Y) c d (by omega) hc hd
  have x1 : -1000000 ≤ a.X + q1 ∧ a.X + q1 ≤ 1000000 := by
    rcases Int.lt_or_le (b.X - a.X) 0 with h | h
    · have := u2 h; omega
    · have := u1 h; omega
  have x2 : -1000000 ≤ a.Y + q2 ∧ a.Y + q2 ≤ 1000000 := by
    rcases Int.lt_or_le (b.Y - a.Y) 0 with h | h
    · have := w2 h; omega
    · have := w1 h; omega
  unfold g70
  rw [decide_eq_false (show ¬ d ≤ 0 by omega), decide_eq_false (show ¬ d > 200000 by omega), decide_eq_false (show ¬ c < 0 by omega), decide_eq_false (show ¬ c > d by omega), ea, eb, wrap64 (z := b.X - a.X) (by omega) (by omega), wrap64 (z := b.Y - a.Y) (by omega) (by omega)]
  simp only [cond_false, Option.bind_some, show ((0 : Int) != 0) = false from rfl]
  rw [e1, e2]
  simp only [Option.bind_some]
  rw [wrap64 (z := a.X + q1) (by omega) (by omega), wrap64 (z := a.Y + q2) (by omega) (by omega)]
  exact ⟨_, rfl, x1.1, x1.2, x2.1, x2.2⟩
theorem at_ok (n : Nat) (hn : 64 < n) (l : List TTubeNode) (h : TubeOk l) (t : Int) (x0 x1 : TTubeNode) (h0 : l[0]? = some x0) (h1 : l[l.length - 1]? = some x1) (ht0 : x0.Node_Time ≤ t) (ht1 : t ≤ x1.Node_Time) : ∃ r : TTubeNode, g53 n l t = some r ∧ r.Node_Time = t ∧ POk ⟨r.Node_At_X, r.Node_At_Y⟩ := by
  have hp := h.pos
  have b0 := h.nodes x0 (List.mem_of_getElem? h0)
  have b1 := h.nodes x1 (List.mem_of_getElem? h1)
  obtain ⟨i, hi, k1, k2, b, hb, hbt⟩ := search_eq n hn l h t (by have := b0.1; have := b1.2.1; omega)
  unfold g53
  rw [hb, Option.bind_some]
  cases b with
  | true =>
    obtain ⟨x, hx, hxt⟩ := hbt.1 rfl
    simp only [cond_true]
    rw [getI_at hx]; exact ⟨_, rfl, hxt, (h.nodes x (List.mem_of_getElem? hx)).2.2.1⟩
  | false =>
    simp only [cond_false]
    have hil : i < l.length := by
      rcases Nat.lt_or_ge i l.length with h' | h'
      · exact h'
      · have := k1 (l.length - 1) x1 (by omega) h1; omega
    have hi0 : 0 < i := by
      rcases Nat.eq_zero_or_pos i with rfl | h'
      · have := k2 0 x0 (Nat.le_refl _) h0
        have := hbt.2 ⟨x0, h0, by omega⟩
        cases this
      · exact h'
    have ha : l[i - 1]? = some l[i - 1] := List.getElem?_eq_getElem (by omega)
    have hb' : l[i]? = some l[i] := List.getElem?_eq_getElem hil
    have na := h.nodes _ (List.mem_of_getElem? ha)
    have nb := h.nodes _ (List.mem_of_getElem? hb')
    have ta := k1 (i - 1) _ (by omega) ha
    have tb := k2 i _ (Nat.le_refl _) hb'
    have hw : IntKind.wrap .i64 ((i : Int) - 1) = ((i - 1 : Nat) : Int) := by have := h.len; rw [wrap64 (by omega) (by omega)]; omega
    rw [hw, getI_at ha, getI_at hb']
    simp only [Option.bind_some]
    have := na.1
    have := na.2.1
    have := nb.1
    have := nb.2.1
    rw [wrap64 (z := t - l[i - 1].Node_Time) (by omega) (by omega), wrap64 (z := l[i].Node_Time - l[i - 1].Node_Time) (by omega) (by omega)]
    obtain ⟨q1, e1, hq⟩ := toward_val n (⟨l[i - 1].Node_At_X, l[i - 1].Node_At_Y⟩ : TP) (⟨l[i].Node_At_X, l[i].Node_At_Y⟩ : TP) na.2.2.1 nb.2.2.1 (t - l[i - 1].Node_Time) (l[i].Node_Time - l[i - 1].Node_Time) (by omega) (by omega)
    rw [e1, Option.bind_some]
    obtain ⟨q2, e2, -⟩ := down_tot n (IntKind.wrap .i64 ((IntKind.wrap .i64 (l[i].Node_Height - l[i - 1].Node_Height)) * (t - l[i - 1].Node_Time))) (l[i].Node_Time - l[i - 1].Node_Time)
    rw [e2, Option.bind_some]
    obtain ⟨q3, e3⟩ := up_tot n (IntKind.wrap .i64 ((IntKind.wrap .i64 (l[i].Radius - l[i - 1].Radius)) * (t - l[i - 1].Node_Time))) (l[i].Node_Time - l[i - 1].Node_Time)
    rw [e3, Option.bind_some]
    obtain ⟨q4, e4⟩ := up_tot n (IntKind.wrap .i64 ((IntKind.wrap .i64 (l[i].Band - l[i - 1].Band)) * (t - l[i - 1].Node_Time))) (l[i].Node_Time - l[i - 1].Node_Time)
    rw [e4, Option.bind_some]
    exact ⟨_, rfl, rfl, hq⟩
theorem At_ok (n : Nat) (hn : 64 < n) (l : List TTubeNode) (h : TubeOk l) (hc : g24 n l = some 0) (t : Int) (now : TTubeNode) (e : g26 n l t = some (now, 0)) : now.Node_Time = t ∧ POk ⟨now.Node_At_X, now.Node_At_Y⟩ ∧ 0 ≤ t ∧ t ≤ 200000 ∧ ∀ x1, l[l.length - 1]? = some x1 → t ≤ x1.Node_Time := by
  have hp := h.pos
  have h0 : l[0]? = some l[0] := List.getElem?_eq_getElem hp
  have h1 : l[l.length - 1]? = some l[l.length - 1] := List.getElem?_eq_getElem (by omega)
  have b0 := h.nodes _ (List.mem_of_getElem? h0)
  have b1 := h.nodes _ (List.mem_of_getElem? h1)
  rcases At_cases n hn l h hc t _ _ h0 h1 with ⟨t0, t1, r, e1, e2⟩ | ⟨-, e2⟩
  · obtain ⟨r', e3, k1, k2⟩ := at_ok n hn l h t _ _ h0 h1 t0 t1
    rw [e2] at e
    rw [e1] at e3
    cases e; cases e3
    exact ⟨k1, k2, by have := b0.1; omega, by have := b1.2.1; omega, fun x1 hx => by rw [h1] at hx; cases hx; exact t1⟩
  · rw [e2] at e; cases e
theorem down_exact (n : Nat) (X d : Int) (hX : -1000000000000 ≤ X ∧ X ≤ 1000000000000) (hd : 0 < d) : g71 n X d = some (X / d, 0) := by
  have key : X / d = X.tdiv d - (if X.tmod d ≠ 0 ∧ X < 0 then 1 else 0) := by
    rw [Int.tdiv_eq_ediv, Int.sign_eq_one_of_pos hd]
    by_cases h0 : 0 ≤ X
    · rw [if_pos (Or.inl h0), if_neg (by omega)]; omega
    · by_cases hv : d ∣ X
      · rw [if_pos (Or.inr hv), if_neg (by rintro ⟨k, -⟩; exact k (Int.tmod_eq_zero_of_dvd hv))]; omega
      · have hne : X.tmod d ≠ 0 := fun h => hv (Int.dvd_of_tmod_eq_zero h)
        rw [if_neg (by rintro (k | k); exact h0 k; exact hv k), if_pos ⟨hne, by omega⟩]; omega
  have hdv : divO X d = some (X.tdiv d) := by simp only [divO, if_neg (show ¬ d = 0 by omega)]
  have hmv : modO X d = some (X.tmod d) := by simp only [modO, if_neg (show ¬ d = 0 by omega)]
  have t1 : X / d ≤ 1000000000000 := by
    rcases Int.lt_or_le X 0 with h | h
    · have := Int.ediv_neg_of_neg_of_pos h hd; omega
    · have := Int.ediv_le_self d h; omega
  have t2 : -1000000000000 ≤ X / d := Int.le_ediv_of_mul_le hd (by
      have : -1000000000000 * d ≤ -1000000000000 * 1 := Int.mul_le_mul_of_nonpos_left (by omega) (by omega)
      omega)
  unfold g71
  rw [show (d == 0) = false from beq_eq_false_iff_ne.2 (by omega), cond_false, show (X == -9223372036854775808) = false from beq_eq_false_iff_ne.2 (by omega), cond_false, hdv, hmv, decide_eq_false (show ¬ d < 0 by omega)]
  simp only [Option.bind_some]
  by_cases h1 : X.tmod d = 0
  · rw [show (X.tmod d != 0) = false from by simp [h1], cond_false, key, if_neg (by rintro ⟨k, -⟩; exact k h1)]
    rw [if_neg (by rintro ⟨k, -⟩; exact k h1)] at key
    rw [wrap64 (by omega) (by omega)]; simp
  · rw [show (X.tmod d != 0) = true from by simp [h1], cond_true]
    by_cases h2 : X < 0
    · rw [decide_eq_true h2, key, if_pos ⟨h1, h2⟩]
      rw [if_pos ⟨h1, h2⟩] at key
      rw [show (!(true == false)) = true from rfl, cond_true]
      rw [wrap64 (z := X.tdiv d) (by omega) (by omega), wrap64 (by omega) (by omega)]
    · rw [decide_eq_false h2, key, if_neg (by rintro ⟨-, k⟩; exact h2 k)]
      rw [if_neg (by rintro ⟨-, k⟩; exact h2 k)] at key
      rw [show (!(false == false)) = false from rfl, cond_false]
      rw [wrap64 (by omega) (by omega)]; simp
theorem prod_bound {D c M : Int} (h : -M ≤ D ∧ D ≤ M) (hc : 0 ≤ c ∧ c ≤ 200000) (hM : 0 ≤ M ∧ M ≤ 2000000) : -1000000000000 ≤ D * c ∧ D * c ≤ 1000000000000 := by
  have h1 : D * c ≤ M * c := Int.mul_le_mul_of_nonneg_right h.2 hc.1
  have h2 : -M * c ≤ D * c := Int.mul_le_mul_of_nonneg_right h.1 hc.1
  have h3 : M * c ≤ M * 200000 := Int.mul_le_mul_of_nonneg_left hc.2 hM.1
  rw [Int.neg_mul] at h2
  omega
/- rounding up between the ends -/
theorem up_mid (n : Nat) (D c d : Int) (hD : -2000000 ≤ D ∧ D ≤ 2000000) (hc : 0 ≤ c ∧ c ≤ d) (hd : 0 < d ∧ d ≤ 200000) : ∃ q, g72 n (IntKind.wrap .i64 (D * c)) d = some (q, 0) ∧ (0 ≤ D → 0 ≤ q ∧ q ≤ D) ∧ (D < 0 → D ≤ q ∧ q ≤ 0) := by
  have hb := prod_bound (M := 2000000) hD ⟨hc.1, by omega⟩ (by decide)
  obtain ⟨q, eq, u1, u2⟩ := down_mid n D c d hD hc hd
  rw [wrap64 (by omega) (by omega)] at eq ⊢
  have ex := down_exact n (D * c) d hb hd.1
  rw [ex] at eq
  simp only [Option.some.injEq, Prod.mk.injEq, and_true] at eq
  have hmv : modO (D * c) d = some ((D * c).tmod d) := by simp only [modO, if_neg (show ¬ d = 0 by omega)]
  unfold g72
  rw [ex, Option.bind_some]
  simp only [show ((0 : Int) == 0) = true from rfl, cond_true]
  rw [hmv, Option.bind_some]
  by_cases h1 : (D * c).tmod d = 0
  · rw [show ((D * c).tmod d != 0) = false from by simp [h1], cond_false, eq]
    exact ⟨q, rfl, u1, u2⟩
  · rw [show ((D * c).tmod d != 0) = true from by simp [h1], cond_true, eq]
    have hne : ∀ k : Int, D * c ≠ k * d := fun k h => h1 (by rw [h]; exact Int.mul_tmod_left k d)
    have e := Int.mul_ediv_add_emod (D * c) d
    have r0 : 0 ≤ (D * c) % d := Int.emod_nonneg _ (by omega)
    have r1 : (D * c) % d < d := Int.emod_lt_of_pos _ hd.1
    have hq0 : -2000000 ≤ q ∧ q ≤ 2000000 := by
      rcases Int.lt_or_le D 0 with h | h
      · have := u2 h; omega
      · have := u1 h; omega
    rw [wrap64 (by omega) (by omega)]
    refine ⟨q + 1, rfl, fun h => ?_, fun h => ?_⟩
    · have := u1 h
      refine ⟨by omega, ?_⟩
      have hlt : (D * c) / d < D := Int.ediv_lt_of_lt_mul hd.1 (by
        have k1 : D * c ≤ D * d := Int.mul_le_mul_of_nonneg_left hc.2 h
        have k2 := hne D
        omega)
      omega
    · have := u2 h
      refine ⟨by omega, ?_⟩
      have hlt : (D * c) / d < 0 := by
        rcases Int.lt_or_eq_of_le hc.1 with k | k
        · exact Int.ediv_neg_of_neg_of_pos (Int.mul_neg_of_neg_of_pos h k) hd.1
        · exfalso; exact hne 0 (by rw [← k]; simp)
      omega
/- what At answers inside a tube -/
set_option maxHeartbeats 2000000 in
theorem At_seg (n : Nat) (hn : 64 < n) (l : List TTubeNode) (h : TubeOk l) (hc : g24 n l = some 0) (u : Int) (x0 x1 : TTubeNode) (h0 : l[0]? = some x0) (h1 : l[l.length - 1]? = some x1) (ht0 : x0.Node_Time ≤ u) (ht1 : u ≤ x1.Node_Time) :
    ∃ r : TTubeNode, g26 n l u = some (r, 0) ∧ NodeB r ∧ r.Node_Time = u ∧ ((∃ i : Nat, l[i]? = some r) ∨ ∃ (i : Nat) (a b : TTubeNode), l[i]? = some a ∧ l[i + 1]? = some b ∧ a.Node_Time < u ∧ u < b.Node_Time ∧ r.Node_Height = a.Node_Height + ((b.Node_Height - a.Node_Height) * (u - a.Node_Time)) / (b.Node_Time - a.Node_Time)) := by
  have hp := h.pos
  have b0 := h.nodes x0 (List.mem_of_getElem? h0)
  have b1 := h.nodes x1 (List.mem_of_getElem? h1)
  have fin : ∀ r : TTubeNode, g53 n l u = some r → g26 n l u = some (r, 0) := fun r hr => by
    rcases At_cases n hn l h hc u x0 x1 h0 h1 with ⟨-, -, r', e1, e2⟩ | ⟨k, -⟩
    · rw [hr] at e1; cases e1; exact e2
    · omega
  obtain ⟨i, hi, k1, k2, b, hb, hbt⟩ := search_eq n hn l h u (by have := b0.1; have := b1.2.1; omega)
  cases b with
  | true =>
    obtain ⟨x, hx, hxt⟩ := hbt.1 rfl
    refine ⟨x, fin x ?_, h.nodes x (List.mem_of_getElem? hx), hxt, .inl ⟨i, hx⟩⟩
    unfold g53
    rw [hb, Option.bind_some]
    simp only [cond_true]
    rw [getI_at hx]; rfl
  | false =>
    have hil : i < l.length := by
      rcases Nat.lt_or_ge i l.length with h' | h'
      · exact h'
      · have := k1 (l.length - 1) x1 (by omega) h1; omega
    have hi0 : 0 < i := by
      rcases Nat.eq_zero_or_pos i with rfl | h'
      · have := k2 0 x0 (Nat.le_refl _) h0
        have := hbt.2 ⟨x0, h0, by omega⟩
        cases this
      · exact h'
    have ha : l[i - 1]? = some l[i - 1] := List.getElem?_eq_getElem (by omega)
    have hb' : l[i]? = some l[i] := List.getElem?_eq_getElem hil
    have na := h.nodes _ (List.mem_of_getElem? ha)
    have nb := h.nodes _ (List.mem_of_getElem? hb')
    have ta := k1 (i - 1) _ (by omega) ha
    have tb : u < l[i].Node_Time := by
      have := k2 i _ (Nat.le_refl _) hb'
      rcases Int.lt_or_eq_of_le this with k | k
      · exact k
      · have := hbt.2 ⟨_, hb', k.symm⟩; cases this
    have hw : IntKind.wrap .i64 ((i : Int) - 1) = ((i - 1 : Nat) : Int) := by have := h.len; rw [wrap64 (by omega) (by omega)]; omega
    obtain ⟨a1, a2, a3, a4, a5, a6, a7, a8, a9⟩ := na
    obtain ⟨c1, c2, c3, c4, c5, c6, c7, c8, c9⟩ := nb
    obtain ⟨q1, e1, hq⟩ := toward_val n (⟨l[i - 1].Node_At_X, l[i - 1].Node_At_Y⟩ : TP) (⟨l[i].Node_At_X, l[i].Node_At_Y⟩ : TP) a3 c3 (u - l[i - 1].Node_Time) (l[i].Node_Time - l[i - 1].Node_Time) (by omega) (by omega)
    have pb := prod_bound (D := l[i].Node_Height - l[i - 1].Node_Height) (c := u - l[i - 1].Node_Time) (M := 2000000) (by omega) (by omega) (by decide)
    have e2 := down_exact n ((l[i].Node_Height - l[i - 1].Node_Height) * (u - l[i - 1].Node_Time)) (l[i].Node_Time - l[i - 1].Node_Time) pb (by omega)
    obtain ⟨qh, eh, v1, v2⟩ := down_mid n (l[i].Node_Height - l[i - 1].Node_Height) (u - l[i - 1].Node_Time) (l[i].Node_Time - l[i - 1].Node_Time) (by omega) (by omega) (by omega)
    rw [wrap64 (by omega) (by omega), e2] at eh
    simp only [Option.some.injEq, Prod.mk.injEq, and_true] at eh
    obtain ⟨q3, e3, y1, y2⟩ := up_mid n (l[i].Radius - l[i - 1].Radius) (u - l[i - 1].Node_Time) (l[i].Node_Time - l[i - 1].Node_Time) (by omega) (by omega) (by omega)
    obtain ⟨q4, e4, z1, z2⟩ := up_mid n (l[i].Band - l[i - 1].Band) (u - l[i - 1].Node_Time) (l[i].Node_Time - l[i - 1].Node_Time) (by omega) (by omega) (by omega)
    have hH : 0 ≤ l[i - 1].Node_Height + qh ∧ l[i - 1].Node_Height + qh ≤ 60000 := by
      rcases Int.lt_or_le (l[i].Node_Height - l[i - 1].Node_Height) 0 with k | k
      · have := v2 k; omega
      · have := v1 k; omega
    have hR : 0 ≤ l[i - 1].Radius + q3 ∧ l[i - 1].Radius + q3 ≤ 1000000 := by
      rcases Int.lt_or_le (l[i].Radius - l[i - 1].Radius) 0 with k | k
      · have := y2 k; omega
      · have := y1 k; omega
    have hB : 0 ≤ l[i - 1].Band + q4 ∧ l[i - 1].Band + q4 ≤ 60000 := by
      rcases Int.lt_or_le (l[i].Band - l[i - 1].Band) 0 with k | k
      · have := z2 k; omega
      · have := z1 k; omega
    refine ⟨(⟨u, q1.X, q1.Y, l[i - 1].Node_Height + qh, l[i - 1].Radius + q3, l[i - 1].Band + q4⟩ : TTubeNode), fin _ ?_, ⟨by show 0 ≤ u; omega, by show u ≤ 200000; omega, hq, hH.1, hH.2, hR.1, hR.2, hB.1, hB.2⟩, rfl, .inr ⟨i - 1, l[i - 1], l[i], ha, by rw [show i - 1 + 1 = i by omega]; exact hb', ta, tb, by show l[i - 1].Node_Height + qh = _; rw [eh]⟩⟩
    unfold g53
    rw [hb, Option.bind_some]
    simp only [cond_false]
    rw [hw, getI_at ha, getI_at hb']
    simp only [Option.bind_some]
    rw [wrap64 (z := u - l[i - 1].Node_Time) (by omega) (by omega), wrap64 (z := l[i].Node_Time - l[i - 1].Node_Time) (by omega) (by omega), e1, Option.bind_some, wrap64 (z := l[i].Node_Height - l[i - 1].Node_Height) (by omega) (by omega), wrap64 (z := (l[i].Node_Height - l[i - 1].Node_Height) * (u - l[i - 1].Node_Time)) (by omega) (by omega), e2, Option.bind_some, wrap64 (z := l[i].Radius - l[i - 1].Radius) (by omega) (by omega), e3, Option.bind_some, wrap64 (z := l[i].Band - l[i - 1].Band) (by omega) (by omega), e4, Option.bind_some, eh, wrap64 (z := l[i - 1].Node_Height + qh) (by omega) (by omega), wrap64 (z := l[i - 1].Radius + q3) (by omega) (by omega), wrap64 (z := l[i - 1].Band + q4) (by omega) (by omega)]
end Go.Proofs.YteaimbiojpjneaaGreatDoor
