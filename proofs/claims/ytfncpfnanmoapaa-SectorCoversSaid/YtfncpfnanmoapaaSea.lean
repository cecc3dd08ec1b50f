/- Se1 to Se5. -/
import Derived.Test.YtfncpfnanmoapaaSc3
import Derived.Test.YtfncpfnanmoapaaGeb
/- Polygons of the program: what turns, segments and checks say of the plane. -/
set_option linter.unusedVariables false
set_option linter.unusedSimpArgs false
namespace Go.Proofs.Ytfncpfnanmoapaa

def pt (p : TP) : Pt := ⟨p.X, p.Y⟩
def sgI (t : Int) : Int := if 0 < t then 1 else if t < 0 then -1 else 0
theorem sgI_mul {a b : Int} : sgI a * sgI b < 0 ↔ a * b < 0 := by
  unfold sgI
  rcases Int.lt_trichotomy a 0 with p | p | p <;> rcases Int.lt_trichotomy b 0 with q | q | q
  · have := m_nn p q; rw [if_neg (by omega), if_pos p, if_neg (by omega), if_pos q]; omega
  · subst q; rw [Int.mul_zero, if_neg (by omega), if_pos p]; simp
  · have := m_np p q; rw [if_neg (by omega), if_pos p, if_pos q]; omega
  · subst p; rw [Int.zero_mul]; simp
  · subst p; rw [Int.zero_mul]; simp
  · subst p; rw [Int.zero_mul]; simp
  · have := m_pn p q; rw [if_pos p, if_neg (by omega), if_pos q]; omega
  · subst q; rw [Int.mul_zero, if_pos p]; simp
  · have := m_pp p q; rw [if_pos p, if_pos q]; omega
theorem sgI_bd (t : Int) : -1 ≤ sgI t ∧ sgI t ≤ 1 := by unfold sgI; split <;> (try split) <;> omega
theorem turn_val (n : Nat) {a b c : TP} (ha : P2 a) (hb : P2 b) (hc : P2 c) : g38 n a b c = some (sgI (turn (pt a) (pt b) (pt c))) := by
  obtain ⟨a1, a2, a3, a4⟩ := ha
  obtain ⟨b1, b2, b3, b4⟩ := hb
  obtain ⟨c1, c2, c3, c4⟩ := hc
  have m1 := mul_bd (a := b.X - a.X) (b := c.Y - a.Y) (M := 4000000) (by omega) (by omega) (by decide)
  have m2 := mul_bd (a := b.Y - a.Y) (b := c.X - a.X) (M := 4000000) (by omega) (by omega) (by decide)
  unfold g38
  rw [sub_val, sub_val]
  simp only [Option.bind_some]
  unfold g41
  rw [wrap64 (z := b.X - a.X) (by omega) (by omega), wrap64 (z := c.Y - a.Y) (by omega) (by omega), wrap64 (z := b.Y - a.Y) (by omega) (by omega), wrap64 (z := c.X - a.X) (by omega) (by omega), wrap64 (z := (b.X - a.X) * (c.Y - a.Y)) (by omega) (by omega), wrap64 (z := (b.Y - a.Y) * (c.X - a.X)) (by omega) (by omega), wrap64 (by omega) (by omega)]
  simp only [Option.bind_some]
  show _ = some (sgI ((b.X - a.X) * (c.Y - a.Y) - (b.Y - a.Y) * (c.X - a.X)))
  generalize (b.X - a.X) * (c.Y - a.Y) - (b.Y - a.Y) * (c.X - a.X) = t
  unfold sgI
  by_cases z1 : t > 0
  · rw [decide_eq_true z1, cond_true, if_pos z1]
  · rw [decide_eq_false z1, cond_false, if_neg z1]
    by_cases z2 : t < 0
    · rw [decide_eq_true z2, cond_true, if_pos z2]
    · rw [decide_eq_false z2, cond_false, if_neg z2]
theorem sgI_zero {t : Int} : sgI t = 0 ↔ t = 0 := by unfold sgI; split <;> (try split) <;> omega
theorem on_val (n : Nat) {a b c : TP} (ha : P2 a) (hb : P2 b) (hc : P2 c) : ∃ r, g52 n a b c = some r ∧ (r = true ↔ onB (pt a) (pt b) (pt c)) := by
  unfold g52 onB
  rw [turn_val n ha hb hc, Option.bind_some]
  by_cases z : turn (pt a) (pt b) (pt c) = 0
  · rw [sgI_zero.2 z, show ((0 : Int) == 0) = true from rfl, cond_true]
    unfold g62
    show ∃ r, _ = some r ∧ (r = true ↔ turn (pt a) (pt b) (pt c) = 0 ∧ min a.X b.X ≤ c.X ∧ c.X ≤ max a.X b.X ∧ min a.Y b.Y ≤ c.Y ∧ c.Y ≤ max a.Y b.Y)
    have e1 : (if b.X < a.X then b.X else a.X) = min a.X b.X := by split <;> omega
    have e2 : (if b.X > a.X then b.X else a.X) = max a.X b.X := by split <;> omega
    have e3 : (if b.Y < a.Y then b.Y else a.Y) = min a.Y b.Y := by split <;> omega
    have e4 : (if b.Y > a.Y then b.Y else a.Y) = max a.Y b.Y := by split <;> omega
    rw [e1, e2, e3, e4]
    by_cases c1 : min a.X b.X ≤ c.X
    · rw [decide_eq_true c1, cond_true]
      by_cases c2 : c.X ≤ max a.X b.X
      · rw [decide_eq_true c2, cond_true]
        by_cases c3 : min a.Y b.Y ≤ c.Y
        · rw [decide_eq_true c3, cond_true]
          exact ⟨_, rfl, by rw [decide_eq_true_eq]; exact ⟨fun h => ⟨z, c1, c2, c3, h⟩, fun h => h.2.2.2.2⟩⟩
        · rw [decide_eq_false c3, cond_false]
          exact ⟨_, rfl, fun h => (by cases h), fun h => absurd h.2.2.2.1 c3⟩
      · rw [decide_eq_false c2, cond_false]
        exact ⟨_, rfl, fun h => (by cases h), fun h => absurd h.2.2.1 c2⟩
    · rw [decide_eq_false c1, cond_false]
      exact ⟨_, rfl, fun h => (by cases h), fun h => absurd h.2.1 c1⟩
  · have : (sgI (turn (pt a) (pt b) (pt c)) == 0) = false := beq_eq_false_iff_ne.2 fun h => z (sgI_zero.1 h)
    rw [this, cond_false]
    exact ⟨_, rfl, fun h => (by cases h), fun h => absurd h.1 z⟩
theorem cross_val (n : Nat) {a b c d : TP} (ha : P2 a) (hb : P2 b) (hc : P2 c) (hd : P2 d) : ∃ r, g48 n a b c d = some r ∧ (r = true ↔ turn (pt a) (pt b) (pt c) * turn (pt a) (pt b) (pt d) < 0 ∧ turn (pt c) (pt d) (pt a) * turn (pt c) (pt d) (pt b) < 0) := by
  unfold g48
  rw [turn_val n ha hb hc, turn_val n ha hb hd, Option.bind_some, Option.bind_some, turn_val n hc hd ha, turn_val n hc hd hb, Option.bind_some, Option.bind_some]
  have bd : ∀ x y : Int, IntKind.wrap .i64 (sgI x * sgI y) = sgI x * sgI y := fun x y => by
    have h1 := sgI_bd x
    have h2 := sgI_bd y
    have := mul_bd (a := sgI x) (b := sgI y) (M := 1) (by omega) (by omega) (by decide)
    exact wrap64 (by omega) (by omega)
  rw [bd, bd]
  by_cases c1 : turn (pt a) (pt b) (pt c) * turn (pt a) (pt b) (pt d) < 0
  · rw [decide_eq_true (sgI_mul.2 c1), cond_true]
    exact ⟨_, rfl, by rw [decide_eq_true_eq, sgI_mul]; exact ⟨fun h => ⟨c1, h⟩, fun h => h.2⟩⟩
  · rw [decide_eq_false (fun h => c1 (sgI_mul.1 h)), cond_false]
    exact ⟨_, rfl, fun h => (by cases h), fun h => absurd h.1 c1⟩
theorem common_val (n : Nat) {a b c d : TP} (ha : P2 a) (hb : P2 b) (hc : P2 c) (hd : P2 d) : ∃ r, g40 n a b c d = some r ∧ (r = false → ¬ Meets (pt a) (pt b) (pt c) (pt d)) := by
  unfold g40
  obtain ⟨r0, h0, k0⟩ := cross_val n ha hb hc hd
  obtain ⟨r1, h1, k1⟩ := on_val n ha hb hc
  obtain ⟨r2, h2, k2⟩ := on_val n ha hb hd
  obtain ⟨r3, h3, k3⟩ := on_val n hc hd ha
  obtain ⟨r4, h4, k4⟩ := on_val n hc hd hb
  rw [h0, Option.bind_some, h1, Option.bind_some, h2, Option.bind_some, h3, Option.bind_some, h4, Option.bind_some]
  cases r0 with
  | true => exact ⟨_, rfl, fun h => by cases h⟩
  | false =>
  rw [cond_false]
  cases r1 with
  | true => exact ⟨_, rfl, fun h => by cases h⟩
  | false =>
  rw [cond_false]
  cases r2 with
  | true => exact ⟨_, rfl, fun h => by cases h⟩
  | false =>
  rw [cond_false]
  cases r3 with
  | true => exact ⟨_, rfl, fun h => by cases h⟩
  | false =>
  rw [cond_false]
  refine ⟨_, rfl, fun h hm => ?_⟩
  rcases meets_B hm with q | q | q | q | q
  · exact absurd (k0.2 q) (by decide)
  · exact absurd (k1.2 q) (by decide)
  · exact absurd (k2.2 q) (by decide)
  · exact absurd (k3.2 q) (by decide)
  · have := k4.2 q; rw [h] at this; cases this
/- the corners of a list, around and around -/
def vtx (l : List TP) (i : Nat) : TP := l.getD (i % l.length) ⟨0, 0⟩
def vpt (l : List TP) (i : Nat) : Pt := pt (vtx l i)
theorem vtx_per (l : List TP) (i : Nat) : vtx l (i + l.length) = vtx l i := by unfold vtx; rw [Nat.add_mod_right]
theorem vtx_get {l : List TP} (h : 0 < l.length) (i : Nat) : l[i % l.length]? = some (vtx l i) := by
  unfold vtx
  have hm := Nat.mod_lt i h
  rw [List.getD_eq_getElem?_getD, List.getElem?_eq_getElem hm]
  rfl
theorem vtx_mem {l : List TP} (h : 0 < l.length) (i : Nat) : vtx l i ∈ l := List.mem_of_getElem? (vtx_get h i)
theorem vtx_at {l : List TP} {i : Nat} {p : TP} (h : l[i]? = some p) : vtx l i = p := by
  have hi := (List.getElem?_eq_some_iff.1 h).1
  have := vtx_get (l := l) (by omega) i
  rw [Nat.mod_eq_of_lt hi, h] at this
  exact (Option.some.inj this).symm
theorem next_val (n : Nat) {l : List TP} {i : Nat} (hi : i < l.length) (hl : l.length ≤ 1000) : g39 n l (i : Int) = some (vtx l (i + 1)) := by
  unfold g39
  rw [wS (by omega), modNat (by omega), Option.bind_some, getI_at (vtx_get (by omega) (i + 1)), Option.bind_some]
end Go.Proofs.Ytfncpfnanmoapaa
/- Polygons of the program: a polygon that is accepted is simple, and its area is positive. -/
set_option linter.unusedVariables false
set_option linter.unusedSimpArgs false
namespace Go.Proofs.Ytfncpfnanmoapaa

theorem POk.p2 {p : TP} (h : POk p) : P2 p := by unfold POk at h; unfold P2; omega
theorem twice_val (n : Nat) {l : List TP} (hl : l.length ≤ 16) (hn : 40 < n) (hp : ∀ p ∈ l, POk p) : g30 n l = some (twiceN l.length (vpt l)) := by
  have hbd : ∀ i, -2000000000000 ≤ (vpt l i).x * (vpt l (i + 1)).y - (vpt l i).y * (vpt l (i + 1)).x ∧ (vpt l i).x * (vpt l (i + 1)).y - (vpt l i).y * (vpt l (i + 1)).x ≤ 2000000000000 ∧ 0 < l.length ∨ l.length = 0 := fun i => by
    rcases Nat.eq_zero_or_pos l.length with q | q
    · exact .inr q
    · left
      have h1 := hp _ (vtx_mem q i)
      have h2 := hp _ (vtx_mem q (i + 1))
      unfold POk at h1 h2
      have m1 := mul_bd (a := (vtx l i).X) (b := (vtx l (i + 1)).Y) (M := 1000000) (by omega) (by omega) (by decide)
      have m2 := mul_bd (a := (vtx l i).Y) (b := (vtx l (i + 1)).X) (M := 1000000) (by omega) (by omega) (by decide)
      show -2000000000000 ≤ (vtx l i).X * (vtx l (i + 1)).Y - (vtx l i).Y * (vtx l (i + 1)).X ∧ (vtx l i).X * (vtx l (i + 1)).Y - (vtx l i).Y * (vtx l (i + 1)).X ≤ 2000000000000 ∧ _
      exact ⟨by omega, by omega, q⟩
  let f : Nat → Int := fun i => (vpt l i).x * (vpt l (i + 1)).y - (vpt l i).y * (vpt l (i + 1)).x
  have hs : ∀ k : Nat, k ≤ l.length → -(2000000000000 * (k : Int)) ≤ sumN k f ∧ sumN k f ≤ 2000000000000 * (k : Int) := by
    intro k
    induction k with
    | zero => intro _; exact ⟨by show _ ≤ (0 : Int); omega, by show (0 : Int) ≤ _; omega⟩
    | succ k ih =>
      intro hk
      have h1 := ih (by omega)
      have h2 := hbd k
      have e : sumN (k + 1) f = sumN k f + ((vpt l k).x * (vpt l (k + 1)).y - (vpt l k).y * (vpt l (k + 1)).x) := rfl
      rw [e]
      omega
  unfold g30
  refine iterO_eq (S := fun y : Int × Int => S30_0 n l (0) (l.length : Int) y.1 y.2) (fun y => ∃ i : Nat, y = (sumN i f, (i : Int)) ∧ i ≤ l.length) _ (fun y => l.length - y.2.toNat) ?_ n _ ⟨0, rfl, Nat.zero_le _⟩ (by show l.length - (0 : Int).toNat < n; omega)
  rintro _ ⟨i, rfl, hi⟩
  show (∃ y, S30_0 n l (0) (l.length : Int) (sumN i f) (i : Int) = some (.inl y) ∧ _ ∧ _) ∨ S30_0 n l (0) (l.length : Int) (sumN i f) (i : Int) = some (.inr (twiceN l.length (vpt l)))
  unfold S30_0
  rcases Nat.lt_or_ge i l.length with hlt | hge
  · left
    have hx : l[i]? = some (vtx l i) := by have := vtx_get (l := l) (by omega) i; rwa [Nat.mod_eq_of_lt hlt] at this
    rw [decide_eq_true (show (i : Int) < _ by omega), cond_true, getI_at hx, Option.bind_some, next_val n hlt (by omega), Option.bind_some, wS (by omega)]
    have h1 := hp _ (vtx_mem (show 0 < l.length by omega) i)
    have h2 := hp _ (vtx_mem (show 0 < l.length by omega) (i + 1))
    unfold POk at h1 h2
    have m1 := mul_bd (a := (vtx l i).X) (b := (vtx l (i + 1)).Y) (M := 1000000) (by omega) (by omega) (by decide)
    have m2 := mul_bd (a := (vtx l i).Y) (b := (vtx l (i + 1)).X) (M := 1000000) (by omega) (by omega) (by decide)
    have h3 := hs i hi
    unfold g41
    rw [Option.bind_some, wrap64 (z := (vtx l i).X * (vtx l (i + 1)).Y) (by omega) (by omega), wrap64 (z := (vtx l i).Y * (vtx l (i + 1)).X) (by omega) (by omega), wrap64 (z := (vtx l i).X * (vtx l (i + 1)).Y - (vtx l i).Y * (vtx l (i + 1)).X) (by omega) (by omega), wrap64 (by omega) (by omega)]
    exact ⟨_, rfl, ⟨i + 1, rfl, hlt⟩, by show l.length - ((i + 1 : Nat) : Int).toNat < l.length - (i : Int).toNat; omega⟩
  · right
    rw [decide_eq_false (show ¬ (i : Int) < _ by omega), cond_false]
    have : i = l.length := by omega
    subst this
    rfl
theorem inner_val (n : Nat) {l : List TP} (hl : l.length ≤ 16) (h3 : 3 ≤ l.length) (hn : 40 < n) (hp : ∀ p ∈ l, POk p) {i : Nat} (hi : i < l.length) :
    ∃ r, iterO (fun y : Int => S29_1_0 n l 0 (l.length : Int) (i : Int) (l.length : Int) y) n ((i + 2 : Nat) : Int) = some r ∧ ((r = .inl ((i + 1 : Nat) : Int) ∧ ∀ k, i + 2 ≤ k → k < l.length → (k + 1) % l.length ≠ i → ¬ Meets (vpt l i) (vpt l (i + 1)) (vpt l k) (vpt l (k + 1))) ∨ ∃ q, r = .inr q ∧ q ≠ 0) := by
  refine iterO_rule (S := fun y : Int => S29_1_0 n l 0 (l.length : Int) (i : Int) (l.length : Int) y) (fun y => ∃ k : Nat, y = (k : Int) ∧ i + 2 ≤ k ∧ k ≤ l.length + 2 ∧ ∀ k', i + 2 ≤ k' → k' < k → k' < l.length → (k' + 1) % l.length ≠ i → ¬ Meets (vpt l i) (vpt l (i + 1)) (vpt l k') (vpt l (k' + 1))) _ (fun y => l.length + 2 - y.toNat) ?_ n _ ⟨i + 2, rfl, Nat.le_refl _, by omega, fun k' h1 h2 => by omega⟩ (by show l.length + 2 - ((i + 2 : Nat) : Int).toNat < n; omega)
  rintro _ ⟨k, rfl, hk1, hk2, hk3⟩
  show (∃ y, S29_1_0 n l 0 (l.length : Int) (i : Int) (l.length : Int) (k : Int) = some (.inl y) ∧ _ ∧ _) ∨ ∃ r, S29_1_0 n l 0 (l.length : Int) (i : Int) (l.length : Int) (k : Int) = some (.inr r) ∧ _
  unfold S29_1_0
  rcases Nat.lt_or_ge k l.length with hlt | hge
  · have hx : l[i]? = some (vtx l i) := by have := vtx_get (l := l) (by omega) i; rwa [Nat.mod_eq_of_lt hi] at this
    have hx2 : l[k]? = some (vtx l k) := by have := vtx_get (l := l) (by omega) k; rwa [Nat.mod_eq_of_lt hlt] at this
    have pp : ∀ j, P2 (vtx l j) := fun j => (hp _ (vtx_mem (by omega) j)).p2
    obtain ⟨b, hb, hbm⟩ := common_val n (pp i) (pp (i + 1)) (pp k) (pp (k + 1))
    rw [decide_eq_true (show (k : Int) < _ by omega), cond_true, wS (by omega), modNat (by omega), Option.bind_some, getI_at hx, next_val n hi (by omega), getI_at hx2, next_val n hlt (by omega)]
    simp only [Option.bind_some]
    rw [hb, Option.bind_some]
    have step : (∀ h : (k + 1) % l.length ≠ i, ¬ Meets (vpt l i) (vpt l (i + 1)) (vpt l k) (vpt l (k + 1))) → ∃ k2 : Nat, ((k + 1 : Nat) : Int) = (k2 : Int) ∧ i + 2 ≤ k2 ∧ k2 ≤ l.length + 2 ∧ ∀ k', i + 2 ≤ k' → k' < k2 → k' < l.length → (k' + 1) % l.length ≠ i → ¬ Meets (vpt l i) (vpt l (i + 1)) (vpt l k') (vpt l (k' + 1)) := fun h => ⟨k + 1, rfl, by omega, by omega, fun k' h1 h2 h3 h4 => by
      rcases Nat.lt_succ_iff_lt_or_eq.1 h2 with q | q
      · exact hk3 k' h1 q h3 h4
      · rw [q]; rw [q] at h4; exact h h4⟩
    have mes : l.length + 2 - (((k + 1 : Nat) : Int)).toNat < l.length + 2 - ((k : Int)).toNat := by omega
    by_cases e : (k + 1) % l.length = i
    · have : ((((k + 1) % l.length : Nat) : Int) != (i : Int)) = false := by rw [e]; simp
      rw [this, cond_false]
      exact .inl ⟨_, rfl, step (fun h => absurd e h), mes⟩
    · have : ((((k + 1) % l.length : Nat) : Int) != (i : Int)) = true := bne_iff_ne.2 (by omega)
      rw [this, cond_true]
      cases b with
      | true => exact .inr ⟨_, rfl, .inr ⟨3, rfl, by decide⟩⟩
      | false => exact .inl ⟨_, rfl, step (fun _ => hbm rfl), mes⟩
  · rw [decide_eq_false (show ¬ (k : Int) < _ by omega), cond_false, wS (by omega)]
    exact .inr ⟨_, rfl, .inl ⟨rfl, fun k' h1 h2 h3 => hk3 k' h1 (by omega) h2 h3⟩⟩
theorem outer_val (n : Nat) {l : List TP} (hl : l.length ≤ 16) (h3 : 3 ≤ l.length) (hn : 40 < n) (hp : ∀ p ∈ l, POk p) (h0 : iterO (fun y : Int => S29_1 n l 0 (l.length : Int) (l.length : Int) y) n 0 = some 0) :
    0 < twiceN l.length (vpt l) ∧ ∀ i, i < l.length → turn (vpt l i) (vpt l (i + 1)) (vpt l (i + 2)) ≠ 0 ∧ ∀ k, i + 2 ≤ k → k < l.length → (k + 1) % l.length ≠ i → ¬ Meets (vpt l i) (vpt l (i + 1)) (vpt l k) (vpt l (k + 1)) := by
  have pp : ∀ j, P2 (vtx l j) := fun j => (hp _ (vtx_mem (by omega) j)).p2
  obtain ⟨r, hr, hq⟩ := iter_each (S := fun y : Int => S29_1 n l 0 (l.length : Int) (l.length : Int) y) l (fun i _ => turn (vpt l i) (vpt l (i + 1)) (vpt l (i + 2)) ≠ 0 ∧ ∀ k, i + 2 ≤ k → k < l.length → (k + 1) % l.length ≠ i → ¬ Meets (vpt l i) (vpt l (i + 1)) (vpt l k) (vpt l (k + 1))) (fun r => r ≠ 0) (if twiceN l.length (vpt l) ≤ 0 then 3 else 0) (fun i x hx => by
    have hi := some_lt hx
    have hx' : l[i]? = some (vtx l i) := by have := vtx_get (l := l) (by omega) i; rwa [Nat.mod_eq_of_lt hi] at this
    obtain ⟨r, hr, hq⟩ := inner_val n hl h3 hn hp hi
    have hz : l[(i + 2) % l.length]? = some (vtx l (i + 2)) := vtx_get (by omega) (i + 2)
    show (S29_1 n l 0 (l.length : Int) (l.length : Int) (i : Int) = _ ∧ _) ∨ ∃ r, S29_1 n l 0 (l.length : Int) (l.length : Int) (i : Int) = some (.inr r) ∧ r ≠ 0
    unfold S29_1
    rw [decide_eq_true (show (i : Int) < _ by omega), cond_true, getI_at hx', Option.bind_some, next_val n hi (by omega), Option.bind_some, wS2 (by omega), modNat (by omega), Option.bind_some, getI_at hz, Option.bind_some, turn_val n (pp i) (pp (i + 1)) (pp (i + 2)), Option.bind_some, hr]
    by_cases t : turn (vpt l i) (vpt l (i + 1)) (vpt l (i + 2)) = 0
    · right
      have : (sgI (turn (pt (vtx l i)) (pt (vtx l (i + 1))) (pt (vtx l (i + 2)))) == 0) = true := beq_iff_eq.2 (sgI_zero.2 t)
      rw [this, cond_true]
      exact ⟨3, rfl, by decide⟩
    · have : (sgI (turn (pt (vtx l i)) (pt (vtx l (i + 1))) (pt (vtx l (i + 2)))) == 0) = false := beq_eq_false_iff_ne.2 fun h => t (sgI_zero.1 h)
      rw [this, cond_false]
      rcases hq with ⟨rfl, k⟩ | ⟨q, rfl, k⟩
      · exact .inl ⟨rfl, t, k⟩
      · exact .inr ⟨q, rfl, k⟩) (by
    show S29_1 n l 0 (l.length : Int) (l.length : Int) (l.length : Int) = _
    unfold S29_1
    rw [decide_eq_false (Int.lt_irrefl _), cond_false, twice_val n hl hn hp, Option.bind_some]
    by_cases c : twiceN l.length (vpt l) ≤ 0
    · rw [decide_eq_true c, if_pos c]; rfl
    · rw [decide_eq_false c, if_neg c]; rfl) n (by omega)
  rw [h0] at hr
  cases hr
  rcases hq with q | ⟨q1, q2⟩
  · exact absurd rfl q
  · refine ⟨?_, fun i hi => q2 i _ (List.getElem?_eq_getElem hi)⟩
    by_cases c : twiceN l.length (vpt l) ≤ 0
    · rw [if_pos c] at q1; cases q1
    · omega
theorem poly_simple {n : Nat} (hn : 40 < n) {l : List TP} (h : g29 n l = some 0) : PolyOk l ∧ Poly l.length (vpt l) ∧ 0 < twiceN l.length (vpt l) := by
  have hok : PolyOk l := by
    obtain ⟨z, hz, k⟩ := poly_check n l hn
    rw [h] at hz
    cases hz
    exact k rfl
  have h3 := hok.lo
  have h16 := hok.hi
  obtain ⟨z, hz⟩ := poly_tail n l (by omega) (by omega) hn
  unfold g29 at h
  rw [decide_eq_false (by omega), decide_eq_false (by omega)] at h
  simp only [cond_false] at h
  obtain ⟨r, hr, hq⟩ := iter_each (S := fun y : Int => S29_0 n l 0 (l.length : Int) y) l (fun _ p => POk p) (fun r => r ≠ 0) z (fun i p hp => by
    have := some_lt hp
    show (S29_0 n l 0 (l.length : Int) (i : Int) = _ ∧ _) ∨ ∃ r, S29_0 n l 0 (l.length : Int) (i : Int) = some (.inr r) ∧ r ≠ 0
    unfold S29_0
    rw [decide_eq_true (show (i : Int) < (l.length : Int) by omega), cond_true, getI_at hp, Option.bind_some, wS (by omega)]
    rcases pcheck n p with ⟨e, k⟩ | ⟨e, k⟩
    · rw [e]; exact .inl ⟨rfl, k⟩
    · rw [e]; exact .inr ⟨4, rfl, by decide⟩) (by
    show S29_0 n l 0 (l.length : Int) (l.length : Int) = _
    unfold S29_0
    rw [decide_eq_false (Int.lt_irrefl _), cond_false, hz]; rfl) n (by omega)
  rw [h] at hr
  cases hr
  rcases hq with k | ⟨k, -⟩
  · exact absurd rfl k
  rw [← k] at hz
  obtain ⟨g1, g2⟩ := outer_val n h16 h3 hn hok.pts hz
  have per : ∀ i, vpt l (i + l.length) = vpt l i := fun i => by unfold vpt; rw [vtx_per]
  have pm : ∀ i, vpt l (i % l.length) = vpt l i := per_mod per
  have pm1 : ∀ i, vpt l (i % l.length + 1) = vpt l (i + 1) := fun i => by rw [← pm (i % l.length + 1), ← pm (i + 1), Nat.mod_add_mod]
  have pm2 : ∀ i, vpt l (i % l.length + 2) = vpt l (i + 2) := fun i => by rw [← pm (i % l.length + 2), ← pm (i + 2), Nat.mod_add_mod]
  refine ⟨hok, ⟨h3, per, fun i => ?_, fun i d h1 h2 => ?_⟩, g1⟩
  · have := (g2 (i % l.length) (Nat.mod_lt _ (by omega))).1
    rwa [pm, pm1, pm2] at this
  · have hi := Nat.mod_lt i (show 0 < l.length by omega)
    obtain ⟨i0, hi0⟩ : ∃ i0, i % l.length = i0 := ⟨_, rfl⟩
    rw [hi0] at hi
    have ev : vpt l i = vpt l i0 ∧ vpt l (i + 1) = vpt l (i0 + 1) := by rw [← hi0, pm, pm1]; exact ⟨rfl, rfl⟩
    have ev2 : vpt l (i + d) = vpt l (i0 + d) ∧ vpt l (i + d + 1) = vpt l (i0 + d + 1) := by
      have e1 : (i + d) % l.length = (i0 + d) % l.length := by rw [← hi0, Nat.mod_add_mod]
      have e2 : (i + d + 1) % l.length = (i0 + d + 1) % l.length := by rw [← hi0, Nat.add_assoc, Nat.add_assoc, Nat.mod_add_mod]
      exact ⟨by rw [← pm (i + d), e1, pm], by rw [← pm (i + d + 1), e2, pm]⟩
    rw [ev.1, ev.2, ev2.1, ev2.2]
    by_cases q : i0 + d < l.length
    · refine (g2 i0 hi).2 (i0 + d) (by omega) q ?_
      by_cases q2 : i0 + d + 1 = l.length
      · rw [q2, Nat.mod_self]; omega
      · rw [Nat.mod_eq_of_lt (by omega)]; omega
    · have e3 : vpt l (i0 + d) = vpt l (i0 + d - l.length) ∧ vpt l (i0 + d + 1) = vpt l (i0 + d - l.length + 1) := by
        have h4 := per (i0 + d - l.length)
        have h5 := per (i0 + d - l.length + 1)
        rw [show i0 + d - l.length + l.length = i0 + d by omega] at h4
        rw [show i0 + d - l.length + 1 + l.length = i0 + d + 1 by omega] at h5
        exact ⟨h4, h5⟩
      rw [e3.1, e3.2]
      have := (g2 (i0 + d - l.length) (by omega)).2 i0 (by omega) hi (by
        by_cases q2 : i0 + 1 = l.length
        · rw [q2, Nat.mod_self]; omega
        · rw [Nat.mod_eq_of_lt (by omega)]; omega)
      exact fun hm => this hm.symm
end Go.Proofs.Ytfncpfnanmoapaa
/- Polygons of the program: where a point lies. -/
set_option linter.unusedVariables false
set_option linter.unusedSimpArgs false
namespace Go.Proofs.Ytfncpfnanmoapaa

theorem flip_iff {a b q : Pt} : ((¬ a.y > q.y ∧ b.y > q.y ∧ 0 < turn a b q) ∨ (a.y > q.y ∧ ¬ b.y > q.y ∧ turn a b q < 0)) ↔ crx a b q ≠ 0 := by
  have ea : a.y = q.y → turn a b q = (a.x - q.x) * (b.y - a.y) := fun h => by unfold turn; rw [h]; grind
  have eb : b.y = q.y → turn a b q = (b.x - q.x) * (b.y - a.y) := fun h => by unfold turn; rw [← h]; grind
  have pos : ∀ x : Int, a.y < b.y → (0 < x * (b.y - a.y) ↔ 0 < x) ∧ (x * (b.y - a.y) < 0 ↔ x < 0) := fun x h => sgn_pos (by omega)
  have neg : ∀ x : Int, b.y < a.y → (0 < x * (b.y - a.y) ↔ x < 0) ∧ (x * (b.y - a.y) < 0 ↔ 0 < x) := fun x h => by
    have := sgn_pos (a := x) (show 0 < a.y - b.y by omega)
    have e : x * (b.y - a.y) = - (x * (a.y - b.y)) := by grind
    rw [e]; omega
  have hc : crx a b q ≠ 0 ↔ (lx a q ∧ lx q b ∧ 0 < turn a b q) ∨ (lx b q ∧ lx q a ∧ turn a b q < 0) := by
    unfold crx
    by_cases c1 : lx a q ∧ lx q b ∧ 0 < turn a b q
    · rw [if_pos c1]; exact ⟨fun _ => .inl c1, fun _ => by decide⟩
    · rw [if_neg c1]
      by_cases c2 : lx b q ∧ lx q a ∧ turn a b q < 0
      · rw [if_pos c2]; exact ⟨fun _ => .inr c2, fun _ => by decide⟩
      · rw [if_neg c2]; exact ⟨fun h => absurd rfl h, fun h => (h.elim (fun h => absurd h c1) (fun h => absurd h c2))⟩
  rw [hc]
  unfold lx
  constructor
  · rintro (⟨h1, h2, h3⟩ | ⟨h1, h2, h3⟩)
    · left
      refine ⟨?_, .inl h2, h3⟩
      by_cases e : a.y = q.y
      · rw [ea e] at h3
        have := (pos _ (by omega)).1.1 h3
        exact .inr ⟨e, by omega⟩
      · exact .inl (by omega)
    · right
      refine ⟨?_, .inl h1, h3⟩
      by_cases e : b.y = q.y
      · rw [eb e] at h3
        have := (neg _ (by omega)).2.1 h3
        exact .inr ⟨e, by omega⟩
      · exact .inl (by omega)
  · rintro (⟨h1, h2, h3⟩ | ⟨h1, h2, h3⟩)
    · left
      refine ⟨by omega, ?_, h3⟩
      rcases h2 with h2 | ⟨h2, h4⟩
      · exact h2
      · exfalso
        rw [eb h2.symm] at h3
        rcases h1 with h1 | ⟨h1, h5⟩
        · have := (pos _ (by omega)).1.1 h3; omega
        · rw [show b.y - a.y = 0 by omega, Int.mul_zero] at h3; omega
    · right
      refine ⟨?_, by omega, h3⟩
      rcases h2 with h2 | ⟨h2, h4⟩
      · exact h2
      · exfalso
        rw [ea h2.symm] at h3
        rcases h1 with h1 | ⟨h1, h5⟩
        · have := (neg _ (by omega)).2.1 h3; omega
        · rw [show b.y - a.y = 0 by omega, Int.mul_zero] at h3; omega
theorem crx_bd (a b q : Pt) : crx a b q = 0 ∨ crx a b q = 1 ∨ crx a b q = -1 := by unfold crx; split <;> (try split) <;> omega
def par (s : Int) : Int := if s % 2 = 0 then -1 else 1
theorem par_step (s c : Int) (h : c = 0 ∨ c = 1 ∨ c = -1) : par (s + c) = if c = 0 then par s else - par s := by
  unfold par
  rcases h with h | h | h <;> rw [h] <;> (repeat' split) <;> omega
theorem place_par (n : Nat) {l : List TP} {q : TP} (hl : l.length ≤ 900) (hn : 1000 < n) (hp : ∀ p ∈ l, P2 p) (hq : P2 q) : ∃ z, g43 n l q = some z ∧ (((∃ j, j < l.length ∧ onB (vpt l j) (vpt l (j + 1)) (pt q)) ∧ z = 0) ∨ ((∀ j, j < l.length → ¬ onB (vpt l j) (vpt l (j + 1)) (pt q)) ∧ z = par (wx l.length (vpt l) (pt q)))) := by
  unfold g43
  refine iterO_rule (S := fun y : Int × Int => S43_0 n l (0) (l.length : Int) q.X q.Y y.1 y.2) (fun y => ∃ i : Nat, y = (par (sumN i fun j => crx (vpt l j) (vpt l (j + 1)) (pt q)), (i : Int)) ∧ i ≤ l.length ∧ ∀ j, j < i → ¬ onB (vpt l j) (vpt l (j + 1)) (pt q)) _ (fun y => l.length - y.2.toNat) ?_ n _ ⟨0, rfl, Nat.zero_le _, fun j h => absurd h (Nat.not_lt_zero _)⟩ (by show l.length - (0 : Int).toNat < n; omega)
  rintro _ ⟨i, rfl, hi, hno⟩
  obtain ⟨v, hv⟩ : ∃ v, par (sumN i fun j => crx (vpt l j) (vpt l (j + 1)) (pt q)) = v := ⟨_, rfl⟩
  have hv1 : v = 1 ∨ v = -1 := by rw [← hv]; unfold par; split <;> omega
  rw [hv]
  show (∃ y, S43_0 n l (0) (l.length : Int) q.X q.Y v (i : Int) = some (.inl y) ∧ _ ∧ _) ∨ ∃ r, S43_0 n l (0) (l.length : Int) q.X q.Y v (i : Int) = some (.inr r) ∧ _
  unfold S43_0
  rcases Nat.lt_or_ge i l.length with hlt | hge
  · have hx : l[i]? = some (vtx l i) := by have := vtx_get (l := l) (by omega) i; rwa [Nat.mod_eq_of_lt hlt] at this
    have pp : ∀ j, P2 (vtx l j) := fun j => hp _ (vtx_mem (by omega) j)
    obtain ⟨b, hb, hbm⟩ := on_val n (pp i) (pp (i + 1)) hq
    rw [decide_eq_true (show (i : Int) < _ by omega), cond_true, getI_at hx, Option.bind_some, next_val n hlt (by omega), Option.bind_some, show (⟨q.X, q.Y⟩ : TP) = q from rfl, hb, Option.bind_some, wS (by omega)]
    cases b with
    | true => exact .inr ⟨0, rfl, .inl ⟨⟨i, hlt, hbm.1 rfl⟩, rfl⟩⟩
    | false =>
      rw [cond_false]
      have hnon : ¬ onB (vpt l i) (vpt l (i + 1)) (pt q) := fun h => by have := hbm.2 h; cases this
      left
      have hstep := par_step (sumN i fun j => crx (vpt l j) (vpt l (j + 1)) (pt q)) (crx (vpt l i) (vpt l (i + 1)) (pt q)) (crx_bd _ _ _)
      rw [hv] at hstep
      have hnext : ∀ w : Int, (if crx (vpt l i) (vpt l (i + 1)) (pt q) = 0 then v else -v) = w → ∃ k : Nat, (w, ((i + 1 : Nat) : Int)) = (par (sumN k fun j => crx (vpt l j) (vpt l (j + 1)) (pt q)), (k : Int)) ∧ k ≤ l.length ∧ ∀ j, j < k → ¬ onB (vpt l j) (vpt l (j + 1)) (pt q) := fun w hw => ⟨i + 1, by
          show _ = (par (sumN i (fun j => crx (vpt l j) (vpt l (j + 1)) (pt q)) + crx (vpt l i) (vpt l (i + 1)) (pt q)), _)
          rw [hstep, hw], hlt, fun j hj => by
          rcases Nat.lt_succ_iff_lt_or_eq.1 hj with r | r
          · exact hno j r
          · rw [r]; exact hnon⟩
      have mes : l.length - (((i + 1 : Nat) : Int)).toNat < l.length - ((i : Int)).toNat := by omega
      have hw : IntKind.wrap .i64 (0 - v) = -v := by rw [wrap64 (by omega) (by omega)]; omega
      have hf := flip_iff (a := vpt l i) (b := vpt l (i + 1)) (q := pt q)
      have htv := turn_val n (pp i) (pp (i + 1)) hq
      rw [htv]
      simp only [Option.bind_some]
      rw [hw]
      have sg : ∀ t : Int, (sgI t > 0 ↔ 0 < t) ∧ (sgI t < 0 ↔ t < 0) := fun t => by unfold sgI; split <;> (try split) <;> omega
      obtain ⟨sg1, sg2⟩ := sg (turn (pt (vtx l i)) (pt (vtx l (i + 1))) (pt q))
      have hf : ((¬ (vtx l i).Y > q.Y ∧ (vtx l (i + 1)).Y > q.Y ∧ 0 < turn (pt (vtx l i)) (pt (vtx l (i + 1))) (pt q)) ∨ ((vtx l i).Y > q.Y ∧ ¬ (vtx l (i + 1)).Y > q.Y ∧ turn (pt (vtx l i)) (pt (vtx l (i + 1))) (pt q) < 0)) ↔ crx (vpt l i) (vpt l (i + 1)) (pt q) ≠ 0 := hf
      generalize hT : turn (pt (vtx l i)) (pt (vtx l (i + 1))) (pt q) = T at *
      by_cases c1 : (vtx l i).Y > q.Y <;> by_cases c2 : (vtx l (i + 1)).Y > q.Y
      · rw [decide_eq_true c1, decide_eq_true c2]
        refine ⟨_, rfl, hnext _ ?_, mes⟩
        rw [if_pos]
        refine Decidable.byContradiction fun hh => ?_
        have := hf.2 hh; omega
      · rw [decide_eq_true c1, decide_eq_false c2]
        rw [show (!(true == false)) = true from rfl, cond_true, decide_eq_false (show ¬ (vtx l (i + 1)).Y > (vtx l i).Y by omega), cond_false, decide_eq_true (show (vtx l (i + 1)).Y < (vtx l i).Y by omega), cond_true]
        by_cases c3 : T < 0
        · rw [decide_eq_true (sg2.2 c3), cond_true]
          refine ⟨_, rfl, hnext _ ?_, mes⟩
          rw [if_neg (hf.1 (.inr ⟨c1, c2, c3⟩))]
        · rw [decide_eq_false (fun h => c3 (sg2.1 h)), cond_false]
          refine ⟨_, rfl, hnext _ ?_, mes⟩
          rw [if_pos]
          refine Decidable.byContradiction fun hh => ?_
          have := hf.2 hh; omega
      · rw [decide_eq_false c1, decide_eq_true c2]
        rw [show (!(false == true)) = true from rfl, cond_true, decide_eq_true (show (vtx l (i + 1)).Y > (vtx l i).Y by omega), cond_true]
        by_cases c3 : 0 < T
        · rw [decide_eq_true (sg1.2 c3), cond_true]
          refine ⟨_, rfl, hnext _ ?_, mes⟩
          rw [if_neg (hf.1 (.inl ⟨c1, c2, c3⟩))]
        · rw [decide_eq_false (fun h => c3 (sg1.1 h)), cond_false, decide_eq_false (show ¬ (vtx l (i + 1)).Y < (vtx l i).Y by omega), cond_false]
          refine ⟨_, rfl, hnext _ ?_, mes⟩
          rw [if_pos]
          refine Decidable.byContradiction fun hh => ?_
          have := hf.2 hh; omega
      · rw [decide_eq_false c1, decide_eq_false c2]
        refine ⟨_, rfl, hnext _ ?_, mes⟩
        rw [if_pos]
        refine Decidable.byContradiction fun hh => ?_
        have := hf.2 hh; omega
  · rw [decide_eq_false (show ¬ (i : Int) < _ by omega), cond_false]
    have : i = l.length := by omega
    subst this
    exact .inr ⟨v, rfl, .inr ⟨hno, hv.symm⟩⟩
end Go.Proofs.Ytfncpfnanmoapaa
/- Polygons of the program: what it means that one does not enter the other. -/
set_option linter.unusedVariables false
set_option linter.unusedSimpArgs false
namespace Go.Proofs.Ytfncpfnanmoapaa

theorem dot_val (n : Nat) {a b c d : TP} (ha : P2 a) (hb : P2 b) (hc : P2 c) (hd : P2 d) : g61 n ⟨IntKind.wrap .i64 (b.X - a.X), IntKind.wrap .i64 (b.Y - a.Y)⟩ ⟨IntKind.wrap .i64 (d.X - c.X), IntKind.wrap .i64 (d.Y - c.Y)⟩ = some (dotP (pt a) (pt b) (pt c) (pt d)) := by
  obtain ⟨a1, a2, a3, a4⟩ := ha
  obtain ⟨b1, b2, b3, b4⟩ := hb
  obtain ⟨c1, c2, c3, c4⟩ := hc
  obtain ⟨d1, d2, d3, d4⟩ := hd
  have m1 := mul_bd (a := b.X - a.X) (b := d.X - c.X) (M := 4000000) (by omega) (by omega) (by decide)
  have m2 := mul_bd (a := b.Y - a.Y) (b := d.Y - c.Y) (M := 4000000) (by omega) (by omega) (by decide)
  unfold g61
  show some (IntKind.wrap .i64 ((IntKind.wrap .i64 ((IntKind.wrap .i64 (b.X - a.X)) * (IntKind.wrap .i64 (d.X - c.X)))) + (IntKind.wrap .i64 ((IntKind.wrap .i64 (b.Y - a.Y)) * (IntKind.wrap .i64 (d.Y - c.Y)))))) = _
  rw [wrap64 (z := b.X - a.X) (by omega) (by omega), wrap64 (z := b.Y - a.Y) (by omega) (by omega), wrap64 (z := d.X - c.X) (by omega) (by omega), wrap64 (z := d.Y - c.Y) (by omega) (by omega), wrap64 (z := (b.X - a.X) * (d.X - c.X)) (by omega) (by omega), wrap64 (z := (b.Y - a.Y) * (d.Y - c.Y)) (by omega) (by omega), wrap64 (by omega) (by omega)]
  rfl
def NoSame (q : List TP) (a b m : TP) : Prop := ∀ j, j < q.length → onB (vpt q j) (vpt q (j + 1)) (pt m) → dotP (pt a) (pt b) (vpt q j) (vpt q (j + 1)) ≤ 0
theorem pts_val (n : Nat) (p q : List TP) (c4 : Bool) (c17 v18 : Int) (w11 : Nat) (hw : w11 < 1000000) (a b m : TP) (ha : P2 a) (hb : P2 b) (hm : P2 m) (hq2 : ∀ x ∈ q, P2 x) (hq : q.length ≤ 1000) (hn : q.length < n) (L : List TP) :
    ∃ r, iterO (fun y : Int × List TP => S50_0_1_0 n p q c4 (w11 : Int) c17 v18 (q.length : Int) a.X a.Y b.X b.Y m.X m.Y y.1 y.2) n ((0), L) = some r ∧ ((r = .inl (((w11 + 1 : Nat) : Int), L) ∧ NoSame q a b m) ∨ r = .inr (.inr true)) := by
  refine iterO_rule (S := fun y : Int × List TP => S50_0_1_0 n p q c4 (w11 : Int) c17 v18 (q.length : Int) a.X a.Y b.X b.Y m.X m.Y y.1 y.2) (fun y => ∃ i : Nat, y = ((i : Int), L) ∧ i ≤ q.length ∧ ∀ j, j < i → onB (vpt q j) (vpt q (j + 1)) (pt m) → dotP (pt a) (pt b) (vpt q j) (vpt q (j + 1)) ≤ 0) _ (fun y => q.length - y.1.toNat) ?_ n ((0), L) ⟨0, rfl, Nat.zero_le _, fun j h => absurd h (Nat.not_lt_zero _)⟩ (by show q.length - (0 : Int).toNat < n; omega)
  rintro _ ⟨i, rfl, hi, hno⟩
  show (∃ y, S50_0_1_0 n p q c4 (w11 : Int) c17 v18 (q.length : Int) a.X a.Y b.X b.Y m.X m.Y (i : Int) L = some (.inl y) ∧ _ ∧ _) ∨ ∃ r, S50_0_1_0 n p q c4 (w11 : Int) c17 v18 (q.length : Int) a.X a.Y b.X b.Y m.X m.Y (i : Int) L = some (.inr r) ∧ _
  unfold S50_0_1_0
  rcases Nat.lt_or_ge i q.length with hlt | hge
  · have hx : q[i]? = some (vtx q i) := by have := vtx_get (l := q) (by omega) i; rwa [Nat.mod_eq_of_lt hlt] at this
    have pp : ∀ j, P2 (vtx q j) := fun j => hq2 _ (vtx_mem (by omega) j)
    obtain ⟨o, ho, hom⟩ := on_val n (pp i) (pp (i + 1)) hm
    have go : ∀ z : List TP, z = L → (onB (vpt q i) (vpt q (i + 1)) (pt m) → dotP (pt a) (pt b) (vpt q i) (vpt q (i + 1)) ≤ 0) → ∃ y, (some (.inl (((i + 1 : Nat) : Int), z)) : Option ((Int × List TP) ⊕ ((Int × List TP) ⊕ ((Int) ⊕ Bool)))) = some (.inl y) ∧ (∃ i' : Nat, y = ((i' : Int), L) ∧ i' ≤ q.length ∧ ∀ j, j < i' → onB (vpt q j) (vpt q (j + 1)) (pt m) → dotP (pt a) (pt b) (vpt q j) (vpt q (j + 1)) ≤ 0) ∧ q.length - y.1.toNat < q.length - (i : Int).toNat := fun z hz hd => ⟨_, rfl, ⟨i + 1, by rw [hz], hlt, fun j hj => by
        rcases Nat.lt_succ_iff_lt_or_eq.1 hj with r | r
        · exact hno j r
        · rw [r]; exact hd⟩, by show q.length - ((i + 1 : Nat) : Int).toNat < _; omega⟩
    rw [decide_eq_true (show (i : Int) < _ by omega), cond_true, getI_at hx, Option.bind_some, next_val n hlt (by omega), Option.bind_some, show (⟨m.X, m.Y⟩ : TP) = m from rfl, ho, Option.bind_some, wS (by omega), sub_val, Option.bind_some, sub_val, Option.bind_some]
    cases o with
    | false => exact .inl (go L rfl fun h => by have := hom.2 h; cases this)
    | true =>
      rw [cond_true, dot_val n ha hb (pp i) (pp (i + 1)), Option.bind_some]
      by_cases c : dotP (pt a) (pt b) (pt (vtx q i)) (pt (vtx q (i + 1))) > 0
      · rw [decide_eq_true c]
        exact .inr ⟨_, rfl, .inr rfl⟩
      · rw [decide_eq_false c]
        exact .inl (go L rfl fun _ => by show dotP (pt a) (pt b) (pt (vtx q i)) (pt (vtx q (i + 1))) ≤ 0; omega)
  · rw [decide_eq_false (show ¬ (i : Int) < _ by omega), cond_false, wS (by omega)]
    exact .inr ⟨_, rfl, .inl ⟨rfl, fun j hj => hno j (by omega)⟩⟩
def midT (x y : TP) : TP := ⟨Int.tdiv (x.X + y.X) 2, Int.tdiv (x.Y + y.Y) 2⟩
theorem tdiv_bd {z M : Int} (h : -(2 * M) ≤ z ∧ z ≤ 2 * M) : -M ≤ Int.tdiv z 2 ∧ Int.tdiv z 2 ≤ M := by
  rcases Int.le_total 0 z with q | q
  · rw [Int.tdiv_eq_ediv_of_nonneg q]; omega
  · have e : Int.tdiv z 2 = - Int.tdiv (-z) 2 := by rw [Int.neg_tdiv, Int.neg_neg]
    rw [e, Int.tdiv_eq_ediv_of_nonneg (by omega)]; omega
theorem midT_p2 {x y : TP} (hx : P2 x) (hy : P2 y) : P2 (midT x y) := by
  obtain ⟨a1, a2, a3, a4⟩ := hx
  obtain ⟨b1, b2, b3, b4⟩ := hy
  have h1 := tdiv_bd (z := x.X + y.X) (M := 2000000) (by omega)
  have h2 := tdiv_bd (z := x.Y + y.Y) (M := 2000000) (by omega)
  exact ⟨h1.1, h1.2, h2.1, h2.2⟩
/- what the middle between neighbouring cuts does not do -/
def MidOk (q : List TP) (a b m : TP) : Prop := ((∀ j, j < q.length → ¬ onB (vpt q j) (vpt q (j + 1)) (pt m)) → par (wx q.length (vpt q) (pt m)) ≠ 1) ∧ NoSame q a b m
theorem cut_val (n : Nat) (p q : List TP) (c4 : Bool) (c17 : Int) (v18 : Nat) (hv : v18 < 1000000) (a b : TP) (ha : P2 a) (hb : P2 b) (hq2 : ∀ x ∈ q, P2 x) (hq : q.length ≤ 900) (hn : 2000 < n) (L : List TP) (hL : L.length ≤ 1100) (hL2 : ∀ x ∈ L, P2 x) :
    ∃ r, iterO (fun y : Int × List TP => S50_0_1 n p q c4 c17 (v18 : Int) a.X a.Y b.X b.Y y.1 y.2) n ((1), L) = some r ∧ ((r = .inl ((v18 + 1 : Nat) : Int) ∧ ∀ k x y, L[k + 1]? = some x → L[k]? = some y → x ≠ y → MidOk q a b (midT x y)) ∨ r = .inr true) := by
  refine iterO_rule (S := fun y : Int × List TP => S50_0_1 n p q c4 c17 (v18 : Int) a.X a.Y b.X b.Y y.1 y.2) (fun y => ∃ i : Nat, 1 ≤ i ∧ y = ((i : Int), L) ∧ i ≤ L.length + 1 ∧ ∀ k x y, k + 1 < i → L[k + 1]? = some x → L[k]? = some y → x ≠ y → MidOk q a b (midT x y)) _ (fun y => L.length + 1 - y.1.toNat) ?_ n ((1), L) ⟨1, Nat.le_refl _, rfl, by omega, fun k x y h => by omega⟩ (by show L.length + 1 - (1 : Int).toNat < n; omega)
  rintro _ ⟨i, hi1, rfl, hi, hno⟩
  show (∃ y, S50_0_1 n p q c4 c17 (v18 : Int) a.X a.Y b.X b.Y (i : Int) L = some (.inl y) ∧ _ ∧ _) ∨ ∃ r, S50_0_1 n p q c4 c17 (v18 : Int) a.X a.Y b.X b.Y (i : Int) L = some (.inr r) ∧ _
  unfold S50_0_1
  rcases Nat.lt_or_ge i L.length with hlt | hge
  · obtain ⟨k, rfl⟩ : ∃ k, i = k + 1 := ⟨i - 1, by omega⟩
    have hw : IntKind.wrap .i64 (((k + 1 : Nat) : Int) - 1) = (k : Int) := by rw [wrap64 (by omega) (by omega)]; omega
    obtain ⟨x, hx⟩ : ∃ x, L[k + 1]? = some x := ⟨_, List.getElem?_eq_getElem hlt⟩
    obtain ⟨y, hy⟩ : ∃ y, L[k]? = some y := ⟨_, List.getElem?_eq_getElem (by omega)⟩
    have x2 := hL2 x (List.mem_of_getElem? hx)
    have y2 := hL2 y (List.mem_of_getElem? hy)
    have go : (x ≠ y → MidOk q a b (midT x y)) → ∃ y, (some (.inl (((k + 1 + 1 : Nat) : Int), L)) : Option ((Int × List TP) ⊕ ((Int) ⊕ Bool))) = some (.inl y) ∧ (∃ i' : Nat, 1 ≤ i' ∧ y = ((i' : Int), L) ∧ i' ≤ L.length + 1 ∧ ∀ k x y, k + 1 < i' → L[k + 1]? = some x → L[k]? = some y → x ≠ y → MidOk q a b (midT x y)) ∧ L.length + 1 - y.1.toNat < L.length + 1 - ((k + 1 : Nat) : Int).toNat := fun hd => ⟨_, rfl, ⟨k + 1 + 1, by omega, rfl, by omega, fun k' x' y' hk' hx' hy' => by
        rcases Nat.lt_succ_iff_lt_or_eq.1 hk' with r | r
        · exact hno k' x' y' r hx' hy'
        · have : k' = k := by omega
          subst this
          rw [hx] at hx'
          rw [hy] at hy'
          cases hx'
          cases hy'
          exact hd⟩, by show L.length + 1 - ((k + 1 + 1 : Nat) : Int).toNat < _; omega⟩
    rw [decide_eq_true (show ((k + 1 : Nat) : Int) < _ by omega), cond_true, hw, getI_at hx, Option.bind_some, getI_at hy, Option.bind_some, wS (by omega)]
    by_cases hxy : x = y
    · rw [decide_eq_true hxy]
      exact .inl (go fun h => absurd hxy h)
    · rw [decide_eq_false hxy, cond_false, Option.bind_some, Option.bind_some, Option.bind_some, Option.bind_some]
      have hm2 := midT_p2 x2 y2
      have em : (⟨(IntKind.wrap .i64 (Int.tdiv (IntKind.wrap .i64 (x.X + y.X)) (2))), (IntKind.wrap .i64 (Int.tdiv (IntKind.wrap .i64 (x.Y + y.Y)) (2)))⟩ : TP) = midT x y := by
        obtain ⟨a1, a2, a3, a4⟩ := x2
        obtain ⟨b1, b2, b3, b4⟩ := y2
        obtain ⟨d1, d2, d3, d4⟩ := hm2
        have d1 : -2000000 ≤ Int.tdiv (x.X + y.X) 2 := d1
        have d2 : Int.tdiv (x.X + y.X) 2 ≤ 2000000 := d2
        have d3 : -2000000 ≤ Int.tdiv (x.Y + y.Y) 2 := d3
        have d4 : Int.tdiv (x.Y + y.Y) 2 ≤ 2000000 := d4
        rw [wrap64 (z := x.X + y.X) (by omega) (by omega), wrap64 (z := x.Y + y.Y) (by omega) (by omega), wrap64 (z := Int.tdiv (x.X + y.X) 2) (by omega) (by omega), wrap64 (z := Int.tdiv (x.Y + y.Y) 2) (by omega) (by omega)]
        rfl
      rw [em]
      have e1 : (IntKind.wrap .i64 (Int.tdiv (IntKind.wrap .i64 (x.X + y.X)) (2))) = (midT x y).X := congrArg TP.X em
      have e2 : (IntKind.wrap .i64 (Int.tdiv (IntKind.wrap .i64 (x.Y + y.Y)) (2))) = (midT x y).Y := congrArg TP.Y em
      rw [e1, e2]
      obtain ⟨z, hz, hzc⟩ := place_par n hq (by omega) hq2 hm2
      rw [hz, Option.bind_some]
      by_cases z1 : z = 1
      · rw [beq_iff_eq.2 z1]
        exact .inr ⟨_, rfl, .inr rfl⟩
      · rw [beq_eq_false_iff_ne.2 z1, cond_false]
        by_cases z0 : z = 0
        · rw [beq_iff_eq.2 z0, cond_true]
          obtain ⟨r, hr, ⟨rfl, hns⟩ | rfl⟩ := pts_val n p q c4 c17 (v18 : Int) (k + 1) (by omega) a b (midT x y) ha hb hm2 hq2 (by omega) (by omega) L
          · left
            obtain ⟨y', q1, q2, q3⟩ := go (fun _ => ⟨fun hno' => by
              rcases hzc with ⟨⟨j, hj, hj2⟩, -⟩ | ⟨-, hzz⟩
              · exact absurd hj2 (hno' j hj)
              · rw [← hzz, z0]; decide, hns⟩)
            cases q1
            exact ⟨_, hr, q2, q3⟩
          · exact .inr ⟨_, hr, .inr rfl⟩
        · rw [beq_eq_false_iff_ne.2 z0, cond_false]
          refine .inl (go fun _ => ?_)
          rcases hzc with ⟨-, hzz⟩ | ⟨hno', hzz⟩
          · exact absurd hzz z0
          · exact ⟨fun _ h => z1 (by rw [hzz, h]), fun j hj hon => absurd hon (hno' j hj)⟩
  · rw [decide_eq_false (show ¬ (i : Int) < _ by omega), cond_false, wS (by omega)]
    exact .inr ⟨_, rfl, .inl ⟨rfl, fun k x y hx hy => hno k x y (by have := some_lt hx; omega) hx hy⟩⟩
end Go.Proofs.Ytfncpfnanmoapaa
/- Polygons of the program: what it means that one does not enter the other (the cuts of an edge). -/
set_option linter.unusedVariables false
set_option linter.unusedSimpArgs false
namespace Go.Proofs.Ytfncpfnanmoapaa

/- an edge from a to b, cut at the corners of q that lie on it: no part enters -/
def CutsOk (q : List TP) (a b : TP) : Prop := ∃ L : List TP, L.Pairwise (fun x y => sqn (dif a x) ≤ sqn (dif a y)) ∧ (∀ c, c ∈ L ↔ c = a ∨ c = b ∨ (c ∈ q ∧ onB (pt a) (pt b) (pt c))) ∧ ∀ k x y, L[k + 1]? = some x → L[k]? = some y → x ≠ y → MidOk q a b (midT x y)
theorem cuts_sorted (n : Nat) (a b : TP) (ha : P2 a) (l : List TP) (hl : ∀ c ∈ l, P2 c ∧ Seg (dif a b) (dif a c)) (hlen : l.length ≤ 1000) : ∃ k, sortO (fun x y => g59 n x y a.X a.Y) l = some k ∧ k.Perm l ∧ k.Pairwise fun x y => sqn (dif a x) ≤ sqn (dif a y) := by
  obtain ⟨k, hk, hp⟩ := cuts_sort n a b ha l hl hlen
  refine ⟨k, hk, hp, (sortO_facts hk).2.1.imp_of_mem fun {x y} hx hy h => ?_⟩
  have h : decide ((g59 n y x a.X a.Y).getD 0 < 0) = false := h
  rw [cmp_val n a y x ha (hl y (hp.mem_iff.1 hy)).1 (hl x (hp.mem_iff.1 hx)).1, decide_eq_false_iff_not] at h
  have h : ¬ sqn (dif a y) - sqn (dif a x) < 0 := h
  omega
theorem enters_val (n : Nat) (p q : List TP) (hp : ∀ x ∈ p, P2 x) (hq : ∀ x ∈ q, P2 x) (hpl : p.length ≤ 900) (hql : q.length ≤ 900) (hn : 4000 < n) : ∃ b, g50 n p q = some b ∧ (b = true ∨ b = false ∧ ∀ (i : Nat) (x : TP), p[i]? = some x → CutsOk q x (vtx p (i + 1))) := by
  unfold g50
  refine iter_each (S := fun y : Int => S50_0 n p q false (p.length : Int) y) p (fun i x => CutsOk q x (vtx p (i + 1))) (fun r => r = true) false (fun i a ha => ?_) ?_ n (by omega)
  · show (S50_0 n p q false (p.length : Int) (i : Int) = _ ∧ _) ∨ _
    unfold S50_0
    have hi := some_lt ha
    have a2 := hp a (List.mem_of_getElem? ha)
    have b2 := hp _ (vtx_mem (l := p) (by omega) (i + 1))
    rw [decide_eq_true (show (i : Int) < _ by omega), cond_true, getI_at ha, Option.bind_some, next_val n hi (by omega), Option.bind_some]
    generalize vtx p (i + 1) = b at b2
    obtain ⟨r, hr, hQ⟩ := iterO_rule (S := fun y : Int × List TP => S50_0_0 n p q false (p.length : Int) (i : Int) (q.length : Int) a.X a.Y b.X b.Y y.1 y.2) (fun y => ∃ (j : Nat) (L : List TP), y = ((j : Int), L) ∧ j ≤ q.length ∧ L.length ≤ 2 + j ∧ (∀ c ∈ L, P2 c ∧ Seg (dif a b) (dif a c)) ∧ ∀ c, c ∈ L ↔ c = a ∨ c = b ∨ ∃ j' : Nat, j' < j ∧ q[j']? = some c ∧ onB (pt a) (pt b) (pt c)) (fun r => (r = .inl ((i + 1 : Nat) : Int) ∧ CutsOk q a b) ∨ r = .inr true) (fun y => q.length - y.1.toNat) (by
      rintro _ ⟨j, L, rfl, hj, hL, hS, hM⟩
      show (∃ y, S50_0_0 n p q false (p.length : Int) (i : Int) (q.length : Int) a.X a.Y b.X b.Y (j : Int) L = some (.inl y) ∧ _ ∧ _) ∨ ∃ r, S50_0_0 n p q false (p.length : Int) (i : Int) (q.length : Int) a.X a.Y b.X b.Y (j : Int) L = some (.inr r) ∧ _
      unfold S50_0_0
      rcases Nat.lt_or_ge j q.length with hlt | hge
      · have hc : q[j]? = some q[j] := List.getElem?_eq_getElem hlt
        generalize q[j] = c at hc
        have c2 := hq c (List.mem_of_getElem? hc)
        obtain ⟨o, ho, hom⟩ := on_val n a2 b2 c2
        have ho : g52 n (⟨a.X, a.Y⟩ : TP) (⟨b.X, b.Y⟩ : TP) c = some o := ho
        rw [decide_eq_true (show (j : Int) < _ by omega), cond_true, getI_at hc, Option.bind_some, ho, Option.bind_some, wS (by omega)]
        cases o with
        | false =>
          refine .inl ⟨_, rfl, ⟨j + 1, L, rfl, hlt, by omega, hS, fun x => ?_⟩, by show q.length - ((j + 1 : Nat) : Int).toNat < q.length - (j : Int).toNat; omega⟩
          rw [hM]
          constructor
          · rintro (h | h | ⟨j', h1, h2⟩)
            · exact .inl h
            · exact .inr (.inl h)
            · exact .inr (.inr ⟨j', by omega, h2⟩)
          · rintro (h | h | ⟨j', h1, h2, h3⟩)
            · exact .inl h
            · exact .inr (.inl h)
            · rcases Nat.lt_succ_iff_lt_or_eq.1 h1 with k | k
              · exact .inr (.inr ⟨j', k, h2, h3⟩)
              · subst k
                rw [hc] at h2
                cases h2
                have := hom.2 h3
                cases this
        | true =>
          rw [cond_true, room_of (by simp only [List.length_singleton]; omega) (by simp only [List.length_singleton]; omega), Option.bind_some]
          refine .inl ⟨_, rfl, ⟨j + 1, L ++ [c], rfl, hlt, by simp; omega, fun x hx => ?_, fun x => ?_⟩, by show q.length - ((j + 1 : Nat) : Int).toNat < q.length - (j : Int).toNat; omega⟩
          · rcases List.mem_append.1 hx with k | k
            · exact hS x k
            · rw [List.mem_singleton.1 k]
              exact ⟨c2, on_seg n a b c a2 b2 c2 ho⟩
          · rw [List.mem_append, hM, List.mem_singleton]
            constructor
            · rintro ((h | h | ⟨j', h1, h2⟩) | h)
              · exact .inl h
              · exact .inr (.inl h)
              · exact .inr (.inr ⟨j', by omega, h2⟩)
              · subst h
                exact .inr (.inr ⟨j, by omega, hc, hom.1 rfl⟩)
            · rintro (h | h | ⟨j', h1, h2, h3⟩)
              · exact .inl (.inl h)
              · exact .inl (.inr (.inl h))
              · rcases Nat.lt_succ_iff_lt_or_eq.1 h1 with k | k
                · exact .inl (.inr (.inr ⟨j', k, h2, h3⟩))
                · subst k
                  rw [hc] at h2
                  cases h2
                  exact .inr rfl
      · rw [decide_eq_false (show ¬ (j : Int) < _ by omega), cond_false]
        obtain ⟨k, hk, hkp, hks⟩ := cuts_sorted n a b a2 L hS (by omega)
        rw [hk, Option.bind_some]
        obtain ⟨r, hr, hq'⟩ := cut_val n p q false (p.length : Int) i (by omega) a b a2 b2 hq hql (by omega) k (by rw [hkp.length_eq]; omega) (fun x hx => (hS x (hkp.mem_iff.1 hx)).1)
        rw [hr]
        refine .inr ⟨_, rfl, ?_⟩
        rcases hq' with ⟨h1, h2⟩ | h1
        · refine .inl ⟨h1, k, hks, fun c => ?_, h2⟩
          rw [hkp.mem_iff, hM]
          constructor
          · rintro (h | h | ⟨j', h1, h2, h3⟩)
            · exact .inl h
            · exact .inr (.inl h)
            · exact .inr (.inr ⟨List.mem_of_getElem? h2, h3⟩)
          · rintro (h | h | ⟨h2, h3⟩)
            · exact .inl h
            · exact .inr (.inl h)
            · obtain ⟨j', h4⟩ := List.getElem?_of_mem h2
              exact .inr (.inr ⟨j', by have := some_lt h4; omega, h4, h3⟩)
        · exact .inr h1) n ((0), [a, b]) ⟨0, [a, b], rfl, Nat.zero_le _, by simp, fun c hc => by
        rcases List.mem_cons.1 hc with k | k
        · rw [k]; exact ⟨a2, (seg_self a b).1⟩
        · rw [List.mem_singleton.1 k]; exact ⟨b2, (seg_self a b).2⟩, fun c => by
        rw [List.mem_cons, List.mem_singleton]
        constructor
        · rintro (h | h)
          · exact .inl h
          · exact .inr (.inl h)
        · rintro (h | h | ⟨j', h1, -⟩)
          · exact .inl h
          · exact .inr h
          · omega⟩ (by show q.length - (0 : Int).toNat < n; omega)
    rw [hr]
    rcases hQ with ⟨rfl, h⟩ | rfl
    · exact .inl ⟨rfl, h⟩
    · exact .inr ⟨_, rfl, rfl⟩
  · show S50_0 n p q false (p.length : Int) (p.length : Int) = _
    unfold S50_0
    rw [decide_eq_false (show ¬ (p.length : Int) < _ by omega)]
    rfl
end Go.Proofs.Ytfncpfnanmoapaa
