/- Overlaps of polygons and of volumes; sectors: the functions answer. -/
import Derived.Test.YtfncpfnanmoapaaSc2
set_option linter.unusedVariables false
set_option linter.unusedSimpArgs false
namespace Go.Proofs.Ytfncpfnanmoapaa

theorem pts_loop (n : Nat) (p q : List TP) (c4 : Bool) (c17 v18 : Int) (w11 : Nat) (hw : w11 < 1000000) (a b m : TP) (hq : q.length ≤ 1000) (hn : q.length < n) (L : List TP) :
    ∃ r, iterO (fun y : Int × List TP => S50_0_1_0 n p q c4 (w11 : Int) c17 v18 (q.length : Int) a.X a.Y b.X b.Y m.X m.Y y.1 y.2) n ((0), L) = some r ∧ (r = .inl (((w11 + 1 : Nat) : Int), L) ∨ r = .inr (.inr true)) := by
  refine iterO_rule (S := fun y : Int × List TP => S50_0_1_0 n p q c4 (w11 : Int) c17 v18 (q.length : Int) a.X a.Y b.X b.Y m.X m.Y y.1 y.2) (fun y => ∃ i : Nat, y = ((i : Int), L) ∧ i ≤ q.length) _ (fun y => q.length - y.1.toNat) ?_ n ((0), L) ⟨0, rfl, Nat.zero_le _⟩ (by show q.length - (0 : Int).toNat < n; omega)
  rintro _ ⟨i, rfl, hi⟩
  show (∃ y, S50_0_1_0 n p q c4 (w11 : Int) c17 v18 (q.length : Int) a.X a.Y b.X b.Y m.X m.Y (i : Int) L = some (.inl y) ∧ _ ∧ _) ∨ ∃ r, S50_0_1_0 n p q c4 (w11 : Int) c17 v18 (q.length : Int) a.X a.Y b.X b.Y m.X m.Y (i : Int) L = some (.inr r) ∧ _
  unfold S50_0_1_0
  rcases Nat.lt_or_ge i q.length with hlt | hge
  · obtain ⟨x, hx⟩ := getI_tot hlt
    obtain ⟨y, hy⟩ := next_tot n q i hlt hq
    obtain ⟨o, ho⟩ := on_tot n x y (⟨m.X, m.Y⟩ : TP)
    have go : ∀ z : List TP, z = L → ∃ y, (some (.inl (((i + 1 : Nat) : Int), z)) : Option ((Int × List TP) ⊕ ((Int × List TP) ⊕ ((Int) ⊕ Bool)))) = some (.inl y) ∧ (∃ i' : Nat, y = ((i' : Int), L) ∧ i' ≤ q.length) ∧ q.length - y.1.toNat < q.length - (i : Int).toNat := fun z hz => ⟨_, rfl, ⟨i + 1, by rw [hz], hlt⟩, by show q.length - ((i + 1 : Nat) : Int).toNat < _; omega⟩
    rw [decide_eq_true (show (i : Int) < _ by omega), cond_true, hx, Option.bind_some, hy, Option.bind_some, ho, Option.bind_some, wS (by omega), sub_val, Option.bind_some, sub_val, Option.bind_some]
    cases o with
    | false => exact .inl (go L rfl)
    | true =>
      rw [cond_true]
      unfold g61
      rw [Option.bind_some]
      generalize decide (_ > (0 : Int)) = d
      cases d with
      | false => exact .inl (go L rfl)
      | true => exact .inr ⟨_, rfl, .inr rfl⟩
  · rw [decide_eq_false (show ¬ (i : Int) < _ by omega), cond_false, wS (by omega)]
    exact .inr ⟨_, rfl, .inl rfl⟩
theorem cut_loop (n : Nat) (p q : List TP) (c4 : Bool) (c17 : Int) (v18 : Nat) (hv : v18 < 1000000) (a b : TP) (hq : q.length ≤ 1000) (hn : 2000 < n) (L : List TP) (hL : L.length ≤ 1100) :
    ∃ r, iterO (fun y : Int × List TP => S50_0_1 n p q c4 c17 (v18 : Int) a.X a.Y b.X b.Y y.1 y.2) n ((1), L) = some r ∧ (r = .inl ((v18 + 1 : Nat) : Int) ∨ r = .inr true) := by
  refine iterO_rule (S := fun y : Int × List TP => S50_0_1 n p q c4 c17 (v18 : Int) a.X a.Y b.X b.Y y.1 y.2) (fun y => ∃ i : Nat, 1 ≤ i ∧ y = ((i : Int), L) ∧ i ≤ L.length + 1) _ (fun y => L.length + 1 - y.1.toNat) ?_ n ((1), L) ⟨1, Nat.le_refl _, rfl, by omega⟩ (by show L.length + 1 - (1 : Int).toNat < n; omega)
  rintro _ ⟨i, hi1, rfl, hi⟩
  show (∃ y, S50_0_1 n p q c4 c17 (v18 : Int) a.X a.Y b.X b.Y (i : Int) L = some (.inl y) ∧ _ ∧ _) ∨ ∃ r, S50_0_1 n p q c4 c17 (v18 : Int) a.X a.Y b.X b.Y (i : Int) L = some (.inr r) ∧ _
  unfold S50_0_1
  rcases Nat.lt_or_ge i L.length with hlt | hge
  · obtain ⟨k, rfl⟩ : ∃ k, i = k + 1 := ⟨i - 1, by omega⟩
    have hw : IntKind.wrap .i64 (((k + 1 : Nat) : Int) - 1) = (k : Int) := by rw [wrap64 (by omega) (by omega)]; omega
    obtain ⟨x, hx⟩ := getI_tot hlt
    obtain ⟨y, hy⟩ := getI_tot (show k < L.length by omega)
    have go : ∃ y, (some (.inl (((k + 1 + 1 : Nat) : Int), L)) : Option ((Int × List TP) ⊕ ((Int) ⊕ Bool))) = some (.inl y) ∧ (∃ i' : Nat, 1 ≤ i' ∧ y = ((i' : Int), L) ∧ i' ≤ L.length + 1) ∧ L.length + 1 - y.1.toNat < L.length + 1 - ((k + 1 : Nat) : Int).toNat := ⟨_, rfl, ⟨k + 1 + 1, by omega, rfl, by omega⟩, by show L.length + 1 - ((k + 1 + 1 : Nat) : Int).toNat < _; omega⟩
    rw [decide_eq_true (show ((k + 1 : Nat) : Int) < _ by omega), cond_true, hw, hx, Option.bind_some, hy, Option.bind_some, wS (by omega)]
    cases decide (x = y) with
    | true => exact .inl go
    | false =>
      rw [cond_false, Option.bind_some, Option.bind_some, Option.bind_some, Option.bind_some]
      obtain ⟨z, hz⟩ := place_tot n q (⟨(IntKind.wrap .i64 (Int.tdiv (IntKind.wrap .i64 (x.X + y.X)) (2))), (IntKind.wrap .i64 (Int.tdiv (IntKind.wrap .i64 (x.Y + y.Y)) (2)))⟩ : TP) hq (by omega)
      rw [hz, Option.bind_some]
      cases (z == 1) with
      | true => exact .inr ⟨_, rfl, .inr rfl⟩
      | false =>
        rw [cond_false]
        cases (z == 0) with
        | false => exact .inl go
        | true =>
          rw [cond_true]
          obtain ⟨r, hr, rfl | rfl⟩ := pts_loop n p q c4 c17 (v18 : Int) (k + 1) (by omega) a b (⟨(IntKind.wrap .i64 (Int.tdiv (IntKind.wrap .i64 (x.X + y.X)) (2))), (IntKind.wrap .i64 (Int.tdiv (IntKind.wrap .i64 (x.Y + y.Y)) (2)))⟩ : TP) hq (by omega) L
          · left
            obtain ⟨y', q1, q2, q3⟩ := go
            cases q1
            exact ⟨_, hr, q2, q3⟩
          · exact .inr ⟨_, hr, .inr rfl⟩
  · rw [decide_eq_false (show ¬ (i : Int) < _ by omega), cond_false, wS (by omega)]
    exact .inr ⟨_, rfl, .inl rfl⟩
theorem enters_tot (n : Nat) (p q : List TP) (hp : ∀ x ∈ p, P2 x) (hq : ∀ x ∈ q, P2 x) (hpl : p.length ≤ 900) (hql : q.length ≤ 900) (hn : 4000 < n) : ∃ b, g50 n p q = some b := by
  unfold g50
  refine iter_tot p.length (fun i hi => ?_) (fun i hi => ?_) n 0 (by omega)
  · show S50_0 n p q false (p.length : Int) (i : Int) = _ ∨ _
    unfold S50_0
    have ha : p[i]? = some p[i] := List.getElem?_eq_getElem hi
    generalize p[i] = a at ha
    obtain ⟨b, hb, hbm⟩ := next_at n p i (by omega) (by omega)
    have a2 := hp a (List.mem_of_getElem? ha)
    have b2 := hp b hbm
    rw [decide_eq_true (show (i : Int) < _ by omega), cond_true, getI_at ha, Option.bind_some, hb, Option.bind_some]
    obtain ⟨r, hr, hQ⟩ := iterO_rule (S := fun y : Int × List TP => S50_0_0 n p q false (p.length : Int) (i : Int) (q.length : Int) a.X a.Y b.X b.Y y.1 y.2) (fun y => ∃ (j : Nat) (L : List TP), y = ((j : Int), L) ∧ j ≤ q.length ∧ L.length ≤ 2 + j ∧ ∀ c ∈ L, P2 c ∧ Seg (dif a b) (dif a c)) (fun r => r = .inl ((i + 1 : Nat) : Int) ∨ r = .inr true) (fun y => q.length - y.1.toNat) (by
      rintro _ ⟨j, L, rfl, hj, hL, hS⟩
      show (∃ y, S50_0_0 n p q false (p.length : Int) (i : Int) (q.length : Int) a.X a.Y b.X b.Y (j : Int) L = some (.inl y) ∧ _ ∧ _) ∨ ∃ r, S50_0_0 n p q false (p.length : Int) (i : Int) (q.length : Int) a.X a.Y b.X b.Y (j : Int) L = some (.inr r) ∧ _
      unfold S50_0_0
      rcases Nat.lt_or_ge j q.length with hlt | hge
      · have hc : q[j]? = some q[j] := List.getElem?_eq_getElem hlt
        generalize q[j] = c at hc
        have c2 := hq c (List.mem_of_getElem? hc)
        obtain ⟨o, ho⟩ := on_tot n (⟨a.X, a.Y⟩ : TP) (⟨b.X, b.Y⟩ : TP) c
        rw [decide_eq_true (show (j : Int) < _ by omega), cond_true, getI_at hc, Option.bind_some, ho, Option.bind_some, wS (by omega)]
        cases o with
        | false => exact .inl ⟨_, rfl, ⟨j + 1, L, rfl, hlt, by omega, hS⟩, by show q.length - ((j + 1 : Nat) : Int).toNat < q.length - (j : Int).toNat; omega⟩
        | true =>
          rw [cond_true, room_of (by simp only [List.length_singleton]; omega) (by simp only [List.length_singleton]; omega), Option.bind_some]
          refine .inl ⟨_, rfl, ⟨j + 1, L ++ [c], rfl, hlt, by simp; omega, fun x hx => ?_⟩, by show q.length - ((j + 1 : Nat) : Int).toNat < q.length - (j : Int).toNat; omega⟩
          rcases List.mem_append.1 hx with k | k
          · exact hS x k
          · rw [List.mem_singleton.1 k]
            exact ⟨c2, on_seg n a b c a2 b2 c2 ho⟩
      · rw [decide_eq_false (show ¬ (j : Int) < _ by omega), cond_false]
        obtain ⟨k, hk, hkp⟩ := cuts_sort n a b a2 L hS (by omega)
        rw [hk, Option.bind_some]
        obtain ⟨r, hr, hq'⟩ := cut_loop n p q false (p.length : Int) i (by omega) a b (by omega) (by omega) k (by rw [hkp.length_eq]; omega)
        rw [hr]
        exact .inr ⟨_, rfl, hq'⟩) n ((0), [a, b]) ⟨0, [a, b], rfl, Nat.zero_le _, by simp, fun c hc => by
        rcases List.mem_cons.1 hc with k | k
        · rw [k]; exact ⟨a2, (seg_self a b).1⟩
        · rw [List.mem_singleton.1 k]; exact ⟨b2, (seg_self a b).2⟩⟩ (by show q.length - (0 : Int).toNat < n; omega)
    rw [hr]
    rcases hQ with rfl | rfl
    · exact .inl rfl
    · exact .inr ⟨_, rfl⟩
  · show ∃ r, S50_0 n p q false (p.length : Int) (i : Int) = _
    unfold S50_0
    rw [decide_eq_false (show ¬ (i : Int) < _ by omega)]
    exact ⟨_, rfl⟩
theorem doubled_val (n : Nat) (p : List TP) (hl : p.length ≤ 1000) (hn : p.length < n) (hp : ∀ x ∈ p, POk x) : ∃ d, g49 n p = some d ∧ d.length = p.length ∧ ∀ x ∈ d, P2 x := by
  unfold g49
  refine iterO_rule (S := fun y : Int × List TP => S49_0 n p (p.length : Int) y.1 y.2) (fun y => ∃ (i : Nat) (L : List TP), y = ((i : Int), L) ∧ i ≤ p.length ∧ L.length = i ∧ ∀ x ∈ L, P2 x) _ (fun y => p.length - y.1.toNat) ?_ n ((0), []) ⟨0, [], rfl, Nat.zero_le _, rfl, fun x hx => by cases hx⟩ (by show p.length - (0 : Int).toNat < n; omega)
  rintro _ ⟨i, L, rfl, hi, hL, hS⟩
  show (∃ y, S49_0 n p (p.length : Int) (i : Int) L = some (.inl y) ∧ _ ∧ _) ∨ ∃ r, S49_0 n p (p.length : Int) (i : Int) L = some (.inr r) ∧ _
  unfold S49_0
  rcases Nat.lt_or_ge i p.length with hlt | hge
  · have hc : p[i]? = some p[i] := List.getElem?_eq_getElem hlt
    generalize p[i] = c at hc
    obtain ⟨c1, c2, c3, c4⟩ := hp c (List.mem_of_getElem? hc)
    rw [decide_eq_true (show (i : Int) < _ by omega), cond_true, getI_at hc, Option.bind_some, room_of (by simp only [List.length_singleton]; omega) (by simp only [List.length_singleton]; omega), Option.bind_some, wS (by omega), wrap64 (z := 2 * c.X) (by omega) (by omega), wrap64 (z := 2 * c.Y) (by omega) (by omega)]
    refine .inl ⟨_, rfl, ⟨i + 1, _, rfl, hlt, by simp [hL], fun x hx => ?_⟩, by show p.length - ((i + 1 : Nat) : Int).toNat < p.length - (i : Int).toNat; omega⟩
    rcases List.mem_append.1 hx with k | k
    · exact hS x k
    · rw [List.mem_singleton.1 k]
      exact ⟨by show -2000000 ≤ 2 * c.X; omega, by show 2 * c.X ≤ _; omega, by show -2000000 ≤ 2 * c.Y; omega, by show 2 * c.Y ≤ _; omega⟩
  · rw [decide_eq_false (show ¬ (i : Int) < _ by omega), cond_false]
    exact .inr ⟨L, rfl, by omega, hS⟩
theorem cross_loop (n : Nat) (p q : List TP) (hp : PolyOk p) (hq : PolyOk q) (hn : 4000 < n) : ∃ r, iterO (fun y : Int => S37_1 n p q false (0) (p.length : Int) y) n (0) = some r := by
  have p1 := hp.lo
  have p2 := hp.hi
  have q1 := hq.lo
  have q2 := hq.hi
  obtain ⟨dp, e1, l1, b1⟩ := doubled_val n p (by omega) (by omega) hp.pts
  obtain ⟨dq, e2, l2, b2⟩ := doubled_val n q (by omega) (by omega) hq.pts
  refine iter_tot p.length (fun i hi => ?_) (fun i hi => ?_) n 0 (by omega)
  · show S37_1 n p q false (0) (p.length : Int) (i : Int) = _ ∨ _
    obtain ⟨x, hx⟩ := getI_tot hi
    obtain ⟨y, hy⟩ := next_tot n p i hi (by omega)
    obtain ⟨r, hr, hQ⟩ := iterO_rule (S := fun y : Int => S37_1_0 n p q false (0) (i : Int) (p.length : Int) (q.length : Int) y) (fun y => ∃ j : Nat, y = (j : Int) ∧ j ≤ q.length) (fun r => r = .inl ((i + 1 : Nat) : Int) ∨ ∃ z, r = .inr z) (fun y => q.length - y.toNat) (by
      rintro _ ⟨j, rfl, hj⟩
      show (∃ y, S37_1_0 n p q false (0) (i : Int) (p.length : Int) (q.length : Int) (j : Int) = some (.inl y) ∧ _ ∧ _) ∨ ∃ r, S37_1_0 n p q false (0) (i : Int) (p.length : Int) (q.length : Int) (j : Int) = some (.inr r) ∧ _
      unfold S37_1_0
      rcases Nat.lt_or_ge j q.length with hlt | hge
      · obtain ⟨u, hu⟩ := getI_tot hlt
        obtain ⟨v, hv⟩ := next_tot n q j hlt (by omega)
        obtain ⟨b, hb⟩ := crosses_tot n x y u v
        rw [decide_eq_true (show (j : Int) < _ by omega), cond_true, hx, Option.bind_some, hy, Option.bind_some, hu, Option.bind_some, hv, Option.bind_some, hb, Option.bind_some, wS (by omega)]
        cases b
        · exact .inl ⟨_, rfl, ⟨j + 1, rfl, hlt⟩, by show q.length - ((j + 1 : Nat) : Int).toNat < q.length - (j : Int).toNat; omega⟩
        · exact .inr ⟨_, rfl, .inr ⟨_, rfl⟩⟩
      · rw [decide_eq_false (show ¬ (j : Int) < _ by omega), cond_false, wS (by omega)]
        exact .inr ⟨_, rfl, .inl rfl⟩) n 0 ⟨0, rfl, Nat.zero_le _⟩ (by show q.length - (0 : Int).toNat < n; omega)
    unfold S37_1
    rw [decide_eq_true (show (i : Int) < _ by omega), cond_true, hr]
    rcases hQ with rfl | ⟨z, rfl⟩
    · exact .inl rfl
    · exact .inr ⟨_, rfl⟩
  · show ∃ r, S37_1 n p q false (0) (p.length : Int) (i : Int) = _
    obtain ⟨x, hx⟩ := enters_tot n dp dq b1 b2 (by omega) (by omega) hn
    obtain ⟨y, hy⟩ := enters_tot n dq dp b2 b1 (by omega) (by omega) hn
    unfold S37_1
    rw [decide_eq_false (show ¬ (i : Int) < _ by omega), cond_false, e1, Option.bind_some, e2, Option.bind_some, hx, Option.bind_some, hy]
    cases x
    · exact ⟨_, rfl⟩
    · exact ⟨_, rfl⟩
theorem overlap_tot (n : Nat) (p q : List TP) (hn : 4000 < n) : ∃ r, g37 n p q = some r := by
  obtain ⟨z1, e1, k1⟩ := poly_check n p (by omega)
  obtain ⟨z2, e2, k2⟩ := poly_check n q (by omega)
  unfold g37
  obtain ⟨r, hr, -⟩ := iterO_rule (S := fun y : Int => S37_0 n p q false (0) ([p, q] : List (List TP)) (([p, q] : List (List TP)).length : Int) y) (fun y => ∃ i : Nat, y = (i : Int) ∧ i ≤ 2 ∧ (1 ≤ i → z1 = 0) ∧ (2 ≤ i → z2 = 0)) (fun _ => True) (fun y => 2 - y.toNat) (by
    rintro _ ⟨i, rfl, hi, j1, j2⟩
    show (∃ y, S37_0 n p q false (0) ([p, q] : List (List TP)) (([p, q] : List (List TP)).length : Int) (i : Int) = some (.inl y) ∧ _ ∧ _) ∨ ∃ r, S37_0 n p q false (0) ([p, q] : List (List TP)) (([p, q] : List (List TP)).length : Int) (i : Int) = some (.inr r) ∧ _
    rcases Nat.lt_or_ge i 2 with hlt | hge
    · have hx : ∃ x z, ([p, q] : List (List TP))[i]? = some x ∧ g29 n x = some z ∧ (z = 0 → (1 ≤ i + 1 → z1 = 0) ∧ (2 ≤ i + 1 → z2 = 0)) := by
        match i, hlt with
        | 0, _ => exact ⟨p, z1, rfl, e1, fun h => ⟨fun _ => h, fun h => by omega⟩⟩
        | 1, _ => exact ⟨q, z2, rfl, e2, fun h => ⟨fun _ => j1 (by omega), fun _ => h⟩⟩
      obtain ⟨x, z, hx, hz, hz2⟩ := hx
      unfold S37_0
      rw [decide_eq_true (show (i : Int) < _ by simp; omega), cond_true, getI_at hx, Option.bind_some, hz, Option.bind_some, wS (by omega)]
      by_cases h : z = 0
      · rw [h]
        exact .inl ⟨_, rfl, ⟨i + 1, rfl, by omega, (hz2 h).1, (hz2 h).2⟩, by show 2 - ((i + 1 : Nat) : Int).toNat < 2 - (i : Int).toNat; omega⟩
      · rw [bne_iff_ne.2 h, cond_true]
        exact .inr ⟨_, rfl, trivial⟩
    · obtain ⟨r, hr⟩ := cross_loop n p q (k1 (j1 (by omega))) (k2 (j2 hge)) hn
      unfold S37_0
      rw [decide_eq_false (show ¬ (i : Int) < _ by simp; omega), cond_false, hr]
      exact .inr ⟨r, rfl, trivial⟩) n 0 ⟨0, rfl, by omega, fun h => by omega, fun h => by omega⟩ (by show 2 - (0 : Int).toNat < n; omega)
  exact ⟨r, hr⟩
def VolOk (v : TVolume) : Prop := PolyOk v.Area
theorem vol_check (n : Nat) (v : TVolume) (hn : 40 < n) : ∃ z, g24 n v = some z ∧ (z = 0 → VolOk v) := by
  obtain ⟨z, e, k⟩ := poly_check n v.Area hn
  unfold g24
  rw [e, Option.bind_some]
  by_cases h : z = 0
  · rw [h, show ((0 : Int) != 0) = false from rfl, cond_false]
    cases decide (v.Low < 0) <;> cases decide (v.High > 60001) <;> cases decide (v.Low ≥ v.High) <;> exact ⟨_, rfl, fun _ => k h⟩
  · rw [bne_iff_ne.2 h, cond_true]
    exact ⟨z, rfl, fun h0 => absurd h0 h⟩
theorem vover_tot (n : Nat) (v w : TVolume) (hn : 4000 < n) : ∃ r, g27 n v w = some r := by
  obtain ⟨z1, e1, k1⟩ := vol_check n v (by omega)
  obtain ⟨z2, e2, k2⟩ := vol_check n w (by omega)
  obtain ⟨o, ho⟩ := overlap_tot n v.Area w.Area hn
  unfold g27
  refine iter_tot 2 (fun i hi => ?_) (fun i hi => ?_) n 0 (by omega)
  · have hx : ∃ x z, ([v, w] : List TVolume)[i]? = some x ∧ g24 n x = some z := by
      match i, hi with
      | 0, _ => exact ⟨v, z1, rfl, e1⟩
      | 1, _ => exact ⟨w, z2, rfl, e2⟩
    obtain ⟨x, z, hx, hz⟩ := hx
    show S27_0 n false (0) ([v, w] : List TVolume) (([v, w] : List TVolume).length : Int) v.Area v.Low v.High w.Area w.Low w.High (i : Int) = _ ∨ ∃ r, S27_0 n false (0) ([v, w] : List TVolume) (([v, w] : List TVolume).length : Int) v.Area v.Low v.High w.Area w.Low w.High (i : Int) = _
    unfold S27_0
    rw [decide_eq_true (show (i : Int) < _ by simp; omega), cond_true, getI_at hx, Option.bind_some, hz, Option.bind_some, wS (by omega)]
    cases (z != 0)
    · exact .inl rfl
    · exact .inr ⟨_, rfl⟩
  · show ∃ r, S27_0 n false (0) ([v, w] : List TVolume) (([v, w] : List TVolume).length : Int) v.Area v.Low v.High w.Area w.Low w.High (i : Int) = _
    unfold S27_0
    rw [decide_eq_false (show ¬ (i : Int) < _ by simp; omega), cond_false, ho, Option.bind_some]
    cases (o.2 == 0) <;> cases o.1 <;> exact ⟨_, rfl⟩
end Go.Proofs.Ytfncpfnanmoapaa
