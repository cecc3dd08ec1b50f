/- Landing times of an order keep the required times: the law. -/
import Derived.Test.YtfmodgffhbljoaaSeq1
set_option linter.unusedVariables false
set_option linter.unusedSimpArgs false
namespace Go.Proofs.Ytfmodgffhbljoaa

def calledS (nm : ByteArray) (s : TSequenceArrival) : Bool := s.Call.toList == nm.toList
theorem hasS_eq (n : Nat) (l : List TSequenceArrival) (c : ByteArray) (w t e : Int) (hl : l.length ≤ 1000) (hn : l.length < n) : g63 n l c w t e = some (decide (idxL (calledS c) l ≥ 0)) := by
  unfold g63 g71
  have e := index_loop (calledS c) l (by omega) (S := fun y : Int => S71_0 n l c w t e 0 (l.length : Int) y) (fun i x' hx => by
    have := some_lt hx
    unfold S71_0 g64
    rw [decide_eq_true (show (i : Int) < _ by omega), getI_at hx, wS (by omega)]
    simp only [cond_true, Option.bind_some, calledS]
    by_cases h : (x'.Call.toList == c.toList) = true <;> simp [h]) (by
    unfold S71_0
    simp) n hn
  rw [e]; rfl
structure ArrOk (l : List TSequenceArrival) : Prop where
  len : l.length ≤ 8
  each : ∀ x ∈ l, 0 ≤ x.Wake ∧ x.Wake ≤ 3 ∧ 0 ≤ x.Time ∧ x.Time ≤ x.Latest ∧ x.Latest ≤ 200000
theorem class_eq (n : Nat) (w : Int) : g37 n w = some (if 0 ≤ w ∧ w ≤ 3 then 0 else 1) := by
  unfold g37
  by_cases h1 : w < 0
  · rw [decide_eq_true h1, cond_true, if_neg (by omega)]
  · by_cases h2 : w > 3
    · rw [decide_eq_false h1, decide_eq_true h2, cond_false, cond_true, if_neg (by omega)]
    · rw [decide_eq_false h1, decide_eq_false h2, cond_false, cond_false, if_pos (by omega)]
theorem arr_tot (n : Nat) (hn : 100 < n) (l : List TSequenceArrival) : ∃ z, g50 n l = some z ∧ (z = 0 → ArrOk l) := by
  unfold g50
  by_cases h1 : (l.length : Int) > 8
  · exact ⟨2, by simp [h1], fun h => absurd h (by decide)⟩
  rw [decide_eq_false h1, cond_false]
  have hl : l.length ≤ 8 := by omega
  obtain ⟨r, h, hr⟩ := iter_each (S := fun y : Int => S50_0 n l 0 (l.length : Int) y) l (fun i x => 0 ≤ x.Wake ∧ x.Wake ≤ 3 ∧ 0 ≤ x.Time ∧ x.Time ≤ x.Latest ∧ x.Latest ≤ 200000) (fun r => r ≠ 0) 0 (fun i x hx => by
    have hi := some_lt hx
    obtain ⟨b, hb⟩ := name_tot n (by omega) x.Call
    have hh := hasS_eq n (l.take i) x.Call x.Wake x.Time x.Latest (by simp; omega) (by simp; omega)
    have hc := class_eq n x.Wake
    show S50_0 n l 0 (l.length : Int) (i : Int) = _ ∧ _ ∨ ∃ r, S50_0 n l 0 (l.length : Int) (i : Int) = _ ∧ _
    unfold S50_0
    rw [decide_eq_true (show (i : Int) < _ by omega), getI_at hx, wS (by omega), slice_hi l i (by omega)]
    simp only [cond_true, Option.bind_some, hb, hh, hc]
    cases b with
    | false => right; exact ⟨3, rfl, by decide⟩
    | true =>
      simp only [Bool.not_true, cond_false]
      by_cases hw : 0 ≤ x.Wake ∧ x.Wake ≤ 3
      · rw [if_pos hw]
        simp only [bne_self_eq_false, cond_false]
        by_cases h2 : x.Time < 0
        · right; exact ⟨12, by rw [decide_eq_true h2]; rfl, by decide⟩
        by_cases h3 : x.Time > x.Latest
        · right; exact ⟨12, by rw [decide_eq_false h2, decide_eq_true h3]; rfl, by decide⟩
        by_cases h4 : x.Latest > 200000
        · right; exact ⟨12, by rw [decide_eq_false h2, decide_eq_false h3, decide_eq_true h4]; rfl, by decide⟩
        rw [decide_eq_false h2, decide_eq_false h3, decide_eq_false h4]
        simp only [cond_false]
        cases decide (idxL (calledS x.Call) (l.take i) ≥ 0)
        · left; exact ⟨rfl, by omega⟩
        · right; exact ⟨7, rfl, by decide⟩
      · rw [if_neg hw]
        right; exact ⟨1, rfl, by decide⟩) (by
    show S50_0 n l 0 (l.length : Int) (l.length : Int) = _
    unfold S50_0; simp) n (by omega)
  refine ⟨r, h, fun h0 => ?_⟩
  rcases hr with hr | ⟨-, hr⟩
  · exact absurd h0 hr
  refine ⟨hl, fun d hd => ?_⟩
  obtain ⟨i, hi, rfl⟩ := List.getElem_of_mem hd
  exact hr i _ (List.getElem?_eq_getElem hi)
/- an order -/
theorem order_tot (n : Nat) (hn : 100 < n) (o : List Int) (m : Nat) (hm : m ≤ 8) (hol : o.length ≤ 9223372036854775807) (hno : o.length < n) : ∃ b, g55 n o (m : Int) = some b ∧ (b = true → o.length = m ∧ ∀ x ∈ o, 0 ≤ x ∧ x < m) := by
  unfold g55
  have hmk : makeO (m : Int) 1 = some m := by unfold makeO; simp; omega
  rw [hmk]
  simp only [Option.bind_some]
  refine iterO_rule (fun y => ∃ (i : Nat) (L : List Bool), y = ((i : Int), L) ∧ i ≤ o.length ∧ L.length = m ∧ ∀ x ∈ o.take i, 0 ≤ x ∧ x < m) _ (fun y => o.length - y.1.toNat) ?_ n _ ⟨0, _, rfl, Nat.zero_le _, by simp, fun x hx => by simp at hx⟩ (by simpa using hno)
  rintro _ ⟨i, L, rfl, hi, hL, hP⟩
  rcases Nat.lt_or_ge i o.length with hlt | hge
  · have hx : o[i]? = some o[i] := List.getElem?_eq_getElem hlt
    have htk := List.take_succ_eq_append_getElem hlt
    generalize o[i] = x at hx htk
    by_cases h1 : x < 0
    · refine .inr ⟨false, ?_, fun h => by cases h⟩
      show S55_0 n o (m : Int) false (o.length : Int) (i : Int) L = _
      unfold S55_0
      rw [decide_eq_true (show (i : Int) < (o.length : Int) by omega), getI_at hx]
      simp only [cond_true, Option.bind_some, decide_eq_true h1]
    by_cases h2 : x ≥ (m : Int)
    · refine .inr ⟨false, ?_, fun h => by cases h⟩
      show S55_0 n o (m : Int) false (o.length : Int) (i : Int) L = _
      unfold S55_0
      rw [decide_eq_true (show (i : Int) < (o.length : Int) by omega), getI_at hx]
      simp only [cond_true, Option.bind_some, decide_eq_false h1, decide_eq_true h2, cond_false]
    have hy : getI L x = some (L[x.toNat]'(by omega)) := by unfold getI; rw [if_pos (by omega)]; exact List.getElem?_eq_getElem (by omega)
    generalize L[x.toNat]'(by omega) = b at hy
    cases b with
    | true =>
      refine .inr ⟨false, ?_, fun h => by cases h⟩
      show S55_0 n o (m : Int) false (o.length : Int) (i : Int) L = _
      unfold S55_0
      rw [decide_eq_true (show (i : Int) < (o.length : Int) by omega), getI_at hx]
      simp only [cond_true, Option.bind_some, decide_eq_false h1, decide_eq_false h2, cond_false, hy]
    | false =>
      refine .inl ⟨_, ?_, ⟨i + 1, L.set x.toNat true, rfl, hlt, by simpa using hL, fun z hz => ?_⟩, by simp; omega⟩
      · show S55_0 n o (m : Int) false (o.length : Int) (i : Int) L = _
        unfold S55_0
        rw [decide_eq_true (show (i : Int) < (o.length : Int) by omega), getI_at hx]
        simp only [cond_true, Option.bind_some, decide_eq_false h1, decide_eq_false h2, cond_false, hy, wS (show i < 9223372036854775807 by omega)]
      · rw [htk] at hz
        rcases List.mem_append.1 hz with hz | hz
        · exact hP z hz
        · simp at hz; subst hz; omega
  · have : i = o.length := by omega
    subst this
    rw [List.take_length] at hP
    refine .inr ⟨((o.length : Int) == (m : Int)), ?_, fun h => ⟨by have := beq_iff_eq.1 h; omega, hP⟩⟩
    show S55_0 n o (m : Int) false (o.length : Int) (o.length : Int) L = _
    unfold S55_0
    rw [decide_eq_false (show ¬ (o.length : Int) < (o.length : Int) by omega)]; rfl

/- times of an order -/
structure TimesOk (l : List TSequenceArrival) (o : List Int) (t : TWakeTable) (L : List Int) : Prop where
  len : L.length = o.length
  each : ∀ (j : Nat) (k x : Int) (a : TSequenceArrival), o[j]? = some k → L[j]? = some x → getI l k = some a → a.Time ≤ x ∧ x ≤ a.Latest
  gaps : ∀ (j : Nat) (k k' x x' : Int) (a a' : TSequenceArrival), o[j]? = some k → o[j + 1]? = some k' → L[j]? = some x → L[j + 1]? = some x' → getI l k = some a → getI l k' = some a' → x + cell t a.Wake a'.Wake ≤ x'
theorem arr_at {l : List TSequenceArrival} (hl : ArrOk l) {k : Int} (h0 : 0 ≤ k) (h1 : k < (l.length : Int)) : ∃ a, getI l k = some a ∧ 0 ≤ a.Wake ∧ a.Wake ≤ 3 ∧ 0 ≤ a.Time ∧ a.Time ≤ a.Latest ∧ a.Latest ≤ 200000 := by
  refine ⟨l[k.toNat]'(by omega), by unfold getI; rw [if_pos h0]; exact List.getElem?_eq_getElem (by omega), hl.each _ (List.getElem_mem _)⟩
theorem times_tot (n : Nat) (hn : 100 < n) (l : List TSequenceArrival) (hl : ArrOk l) (o : List Int) (ho : o.length = l.length) (hr : ∀ x ∈ o, 0 ≤ x ∧ x < (l.length : Int)) (t : TWakeTable) (ht : TabOk t) : ∃ r, g53 n l o t = some r ∧ (r.2 = false ∨ r.2 = true ∧ TimesOk l o t r.1) := by
  have hll := hl.len
  unfold g53
  refine iterO_rule (fun y => ∃ (i : Nat) (L : List Int), y = ((i : Int), L) ∧ i ≤ o.length ∧ L.length = i ∧ (∀ (j : Nat) (k x : Int) (a : TSequenceArrival), j < i → o[j]? = some k → L[j]? = some x → getI l k = some a → a.Time ≤ x ∧ x ≤ a.Latest) ∧ (∀ (j : Nat) (k k' x x' : Int) (a a' : TSequenceArrival), j + 1 < i → o[j]? = some k → o[j + 1]? = some k' → L[j]? = some x → L[j + 1]? = some x' → getI l k = some a → getI l k' = some a' → x + cell t a.Wake a'.Wake ≤ x')) _ (fun y => o.length - y.1.toNat) ?_ n _ ⟨0, [], rfl, Nat.zero_le _, rfl, fun j k x a h => absurd h (Nat.not_lt_zero _), fun j k k' x x' a a' h => absurd h (Nat.not_lt_zero _)⟩ (by simp; omega)
  rintro _ ⟨i, L, rfl, hi, hL, h1, h2⟩
  rcases Nat.lt_or_ge i o.length with hlt | hge
  · have hx : o[i]? = some o[i] := List.getElem?_eq_getElem hlt
    have hm := List.getElem_mem hlt
    generalize o[i] = k at hx hm
    obtain ⟨hk0, hk1⟩ := hr k hm
    obtain ⟨a, ha, w0, w1, a0, a1, a2⟩ := arr_at hl hk0 hk1
    -- the new time
    have key : (∃ r, S53_0 n l o false (o.length : Int) t.c0_0 t.c0_1 t.c0_2 t.c0_3 t.c1_0 t.c1_1 t.c1_2 t.c1_3 t.c2_0 t.c2_1 t.c2_2 t.c2_3 t.c3_0 t.c3_1 t.c3_2 t.c3_3 (i : Int) L = some (.inr (r, false))) ∨ ∃ z, S53_0 n l o false (o.length : Int) t.c0_0 t.c0_1 t.c0_2 t.c0_3 t.c1_0 t.c1_1 t.c1_2 t.c1_3 t.c2_0 t.c2_1 t.c2_2 t.c2_3 t.c3_0 t.c3_1 t.c3_2 t.c3_3 (i : Int) L = some (.inl (((i + 1 : Nat) : Int), L ++ [z])) ∧ a.Time ≤ z ∧ z ≤ a.Latest ∧ ∀ (j : Nat) (k' x : Int) (a' : TSequenceArrival), i = j + 1 → o[j]? = some k' → L[j]? = some x → getI l k' = some a' → x + cell t a'.Wake a.Wake ≤ z := by
      unfold S53_0
      rw [decide_eq_true (show (i : Int) < (o.length : Int) by omega), getI_at hx, wS (by omega)]
      simp only [cond_true, Option.bind_some, ha]
      rcases Nat.eq_zero_or_pos i with h0 | h0
      · subst h0
        rw [decide_eq_false (show ¬ (((0 : Nat) : Int) > 0) by decide)]
        simp only [cond_false]
        right
        rw [decide_eq_false (show ¬ a.Time > a.Latest by omega), room_of (by simp; omega) (by simp; omega)]
        exact ⟨a.Time, rfl, Int.le_refl _, a1, fun j k' x a' h => by omega⟩
      · obtain ⟨m, rfl⟩ : ∃ m, i = m + 1 := ⟨i - 1, by omega⟩
        have hox : o[m]? = some o[m] := List.getElem?_eq_getElem (by omega)
        have hom := List.getElem_mem (l := o) (n := m) (by omega)
        generalize o[m] = k' at hox hom
        obtain ⟨hk0', hk1'⟩ := hr k' hom
        obtain ⟨a', ha', w0', w1', b0, b1, b2⟩ := arr_at hl hk0' hk1'
        have hLx : L[m]? = some (L[m]'(by omega)) := List.getElem?_eq_getElem (by omega)
        generalize L[m]'(by omega) = x at hLx
        obtain ⟨c1, c2⟩ := h1 m k' x a' (by omega) hox hLx ha'
        obtain ⟨r, e1, e2, e3, e4⟩ := cell_at t ht w0' w1' w0 w1
        unfold rows at e1
        unfold cols at e2
        have em : IntKind.wrap .i64 (((m + 1 : Nat) : Int) - 1) = (m : Int) := by rw [wrap64 (by omega) (by omega)]; omega
        rw [decide_eq_true (show ((m + 1 : Nat) : Int) > 0 by omega), em, getI_at hLx, getI_at hox]
        simp only [cond_true, Option.bind_some, ha', e1, e2]
        rw [wrap64 (by omega) (by omega)]
        generalize hz : (if x + cell t a'.Wake a.Wake > a.Time then x + cell t a'.Wake a.Wake else a.Time) = z
        by_cases hlat : z > a.Latest
        · left; exact ⟨[], by rw [decide_eq_true hlat]; rfl⟩
        · right
          rw [decide_eq_false hlat, room_of (by simp; omega) (by simp; omega)]
          refine ⟨z, rfl, by rw [← hz]; split <;> omega, by omega, fun j k2 x2 a2' hj q1 q2 q3 => ?_⟩
          obtain rfl : j = m := by omega
          rw [hox] at q1; cases q1
          rw [hLx] at q2; cases q2
          rw [ha'] at q3; cases q3
          rw [← hz]; split <;> omega
    rcases key with ⟨r, hS⟩ | ⟨z, hS, z1, z2, z3⟩
    · exact .inr ⟨_, hS, .inl rfl⟩
    · refine .inl ⟨_, hS, ⟨i + 1, L ++ [z], rfl, hlt, by simp [hL], fun j k2 x a2' hj q1 q2 q3 => ?_, fun j k2 k3 x x' a2' a3 hj q1 q2 q3 q4 q5 q6 => ?_⟩, by simp; omega⟩
      · rcases Nat.lt_or_ge j i with h | h
        · rw [List.getElem?_append_left (by omega)] at q2
          exact h1 j k2 x a2' h q1 q2 q3
        · obtain rfl : j = i := by omega
          rw [← hL, List.getElem?_concat_length] at q2
          cases q2
          rw [hx] at q1; cases q1
          rw [ha] at q3; cases q3
          exact ⟨z1, z2⟩
      · rcases Nat.lt_or_ge (j + 1) i with h | h
        · rw [List.getElem?_append_left (by omega)] at q3 q4
          exact h2 j k2 k3 x x' a2' a3 h q1 q2 q3 q4 q5 q6
        · obtain rfl : j + 1 = i := by omega
          rw [List.getElem?_append_left (by omega)] at q3
          rw [← hL, List.getElem?_concat_length] at q4
          cases q4
          rw [hx] at q2; cases q2
          rw [ha] at q6; cases q6
          exact z3 j k2 x a2' rfl q1 q3 q5
  · have : i = o.length := by omega
    refine .inr ⟨(L, true), ?_, .inr ⟨rfl, (by show L.length = o.length; omega), fun j k x a q1 q2 q3 => h1 j k x a (by have := some_lt q1; omega) q1 q2 q3, fun j k k' x x' a a' q1 q2 q3 q4 q5 q6 => h2 j k k' x x' a a' (by have := some_lt q2; omega) q1 q2 q3 q4 q5 q6⟩⟩
    unfold S53_0
    rw [decide_eq_false (show ¬ (i : Int) < (o.length : Int) by omega)]; rfl

theorem valid_eq (n : Nat) (hn : 300 < n) (t : TWakeTable) (h0 : g36 n t = some 0) (ht : TabOk t) (C L : List Int) (hl : C.length = L.length) (hle : C.length ≤ 256) (hc : ∀ x ∈ C, 0 ≤ x ∧ x ≤ 3) (hL : ∀ x ∈ L, 0 ≤ x ∧ x ≤ 200000) (hg : ∀ (j : Nat) (c c' x x' : Int), C[j]? = some c → C[j + 1]? = some c' → L[j]? = some x → L[j + 1]? = some x' → x + cell t c c' ≤ x') : g16 n t C L = some (true, 0) := by
  unfold g16
  rw [h0]
  simp only [Option.bind_some, bne_self_eq_false, cond_false]
  rw [decide_eq_false (show ¬ (C.length : Int) > 256 by omega), decide_eq_false (show ¬ (L.length : Int) > 256 by omega), show ((C.length : Int) != (L.length : Int)) = false by rw [hl]; simp]
  simp only [cond_false]
  have h1 : iterO (fun y : Int => S16_1 n C L false (0) t.c0_0 t.c0_1 t.c0_2 t.c0_3 t.c1_0 t.c1_1 t.c1_2 t.c1_3 t.c2_0 t.c2_1 t.c2_2 t.c2_3 t.c3_0 t.c3_1 t.c3_2 t.c3_3 y) n (1) = some (true, 0) := by
    refine iterO_eq (fun y => ∃ i : Nat, 1 ≤ i ∧ y = (i : Int) ∧ (i ≤ C.length ∨ i = 1)) _ (fun y => C.length - y.toNat) ?_ n _ ⟨1, by omega, rfl, .inr rfl⟩ (by simp; omega)
    rintro _ ⟨i, hi1, rfl, hi⟩
    rcases Nat.lt_or_ge i C.length with hlt | hge
    · obtain ⟨m, rfl⟩ : ∃ m, i = m + 1 := ⟨i - 1, by omega⟩
      have c1 : C[m + 1]? = some C[m + 1] := List.getElem?_eq_getElem hlt
      have c2 : C[m]? = some (C[m]'(by omega)) := List.getElem?_eq_getElem (by omega)
      have x1 : L[m + 1]? = some (L[m + 1]'(by omega)) := List.getElem?_eq_getElem (by omega)
      have x2 : L[m]? = some (L[m]'(by omega)) := List.getElem?_eq_getElem (by omega)
      have w1 := hc _ (List.mem_of_getElem? c1)
      have w2 := hc _ (List.mem_of_getElem? c2)
      have b1 := hL _ (List.mem_of_getElem? x1)
      have b2 := hL _ (List.mem_of_getElem? x2)
      have hgap := hg m _ _ _ _ c2 c1 x2 x1
      generalize C[m + 1] = a1 at *
      generalize C[m]'(by omega) = a2 at *
      generalize L[m + 1]'(by omega) = y1 at *
      generalize L[m]'(by omega) = y2 at *
      obtain ⟨r, e1, e2, e3, e4⟩ := cell_at t ht w2.1 w2.2 w1.1 w1.2
      unfold rows at e1
      unfold cols at e2
      have em : IntKind.wrap .i64 (((m + 1 : Nat) : Int) - 1) = (m : Int) := by rw [wrap64 (by omega) (by omega)]; omega
      refine .inl ⟨_, ?_, ⟨m + 2, by omega, rfl, .inl hlt⟩, by simp; omega⟩
      unfold S16_1
      rw [decide_eq_true (show ((m + 1 : Nat) : Int) < (C.length : Int) by omega), em, getI_at x1, getI_at x2, getI_at c1, getI_at c2]
      simp only [cond_true, Option.bind_some, e1, e2]
      rw [wrap64 (z := y1 - y2) (by omega) (by omega), decide_eq_false (show ¬ y1 - y2 < cell t a2 a1 by omega), cond_false, wS (i := m + 1) (by omega)]
    · right
      unfold S16_1
      rw [decide_eq_false (show ¬ (i : Int) < (C.length : Int) by omega)]; rfl
  refine iterO_eq (fun y => ∃ i : Nat, i ≤ C.length ∧ y = (i : Int)) _ (fun y => C.length - y.toNat) ?_ n _ ⟨0, Nat.zero_le _, rfl⟩ (by simp; omega)
  rintro _ ⟨i, hi, rfl⟩
  rcases Nat.lt_or_ge i C.length with hlt | hge
  · have c1 : C[i]? = some C[i] := List.getElem?_eq_getElem hlt
    have x1 : L[i]? = some (L[i]'(by omega)) := List.getElem?_eq_getElem (by omega)
    have w1 := hc _ (List.mem_of_getElem? c1)
    have b1 := hL _ (List.mem_of_getElem? x1)
    generalize C[i] = a1 at *
    generalize L[i]'(by omega) = y1 at *
    refine .inl ⟨_, ?_, ⟨i + 1, hlt, rfl⟩, by simp; omega⟩
    unfold S16_0
    rw [decide_eq_true (show (i : Int) < (C.length : Int) by omega), getI_at c1, getI_at x1]
    simp only [cond_true, Option.bind_some, class_eq, if_pos w1, bne_self_eq_false, cond_false]
    rw [decide_eq_false (show ¬ y1 < 0 by omega), decide_eq_false (show ¬ y1 > 200000 by omega), wS (by omega)]
    rfl
  · have : i = C.length := by omega
    subst this
    right
    unfold S16_0
    rw [decide_eq_false (show ¬ (C.length : Int) < (C.length : Int) by omega), cond_false, h1]; rfl
theorem valid_law (n : Nat) (hn : 300 < n) (l : List TSequenceArrival) (o : List Int) (t : TWakeTable) (hol : o.length ≤ 9223372036854775807) (hno : o.length < n) : g10 n l o t = some true := by
  unfold g10 g28
  simp only [Option.bind_some, Bool.not_true, cond_false]
  unfold g32
  obtain ⟨z, hz, hz0⟩ := arr_tot n (by omega) l
  rw [hz]
  simp only [Option.bind_some]
  by_cases h0 : ¬ z = 0
  · rw [show (z != 0) = true from bne_iff_ne.2 h0]
    simp only [cond_true, Option.bind_some, show (z != 0) = true from bne_iff_ne.2 h0]; rfl
  have h0 : z = 0 := Decidable.of_not_not h0
  have hl := hz0 h0
  subst h0
  obtain ⟨w, hw, hw0⟩ := tab_tot n (by omega) t
  rw [hw]
  simp only [Option.bind_some, bne_self_eq_false, cond_false]
  by_cases h1 : ¬ w = 0
  · rw [show (w != 0) = true from bne_iff_ne.2 h1]
    simp only [cond_true, Option.bind_some, show (w != 0) = true from bne_iff_ne.2 h1]; rfl
  have h1 : w = 0 := Decidable.of_not_not h1
  have ht := hw0 h1
  subst h1
  have hll := hl.len
  obtain ⟨b, hb, hb0⟩ := order_tot n (by omega) o l.length hl.len hol hno
  rw [hb]
  simp only [Option.bind_some, bne_self_eq_false, cond_false]
  cases b with
  | false => rfl
  | true =>
    obtain ⟨ho, hr⟩ := hb0 rfl
    obtain ⟨⟨L, q⟩, hL, hL0⟩ := times_tot n (by omega) l hl o ho hr t ht
    rw [hL]
    simp only [Option.bind_some, Bool.not_true, cond_false]
    rcases hL0 with hq | ⟨hq, hok⟩
    · have hq : q = false := hq
      subst hq
      rfl
    have hq : q = true := hq
    subst hq
    have hok : TimesOk l o t L := hok
    simp only [Bool.not_true, cond_false, Option.bind_some, bne_self_eq_false]
    have hLl := hok.len
    let cls : List Int := o.map fun k => ((getI l k).map (·.Wake)).getD 0
    have hat : ∀ x ∈ o, ∃ a, getI l x = some a ∧ 0 ≤ a.Wake ∧ a.Wake ≤ 3 ∧ 0 ≤ a.Time ∧ a.Time ≤ a.Latest ∧ a.Latest ≤ 200000 := fun x hx => arr_at hl (hr x hx).1 (hr x hx).2
    have hval : g16 n t cls L = some (true, 0) := by
      refine valid_eq n hn t hw ht cls L (by simp [cls, hLl]) (by simp [cls]; omega) (fun x hx => ?_) (fun x hx => ?_) (fun j c c' x x' q1 q2 q3 q4 => ?_)
      · obtain ⟨k, hk, rfl⟩ := List.mem_map.1 hx
        obtain ⟨a, ha, h1, h2, -⟩ := hat k hk
        rw [ha]; exact ⟨h1, h2⟩
      · obtain ⟨j, hj, rfl⟩ := List.getElem_of_mem hx
        have hk : o[j]? = some (o[j]'(by omega)) := List.getElem?_eq_getElem (by omega)
        obtain ⟨a, ha, h1, h2, h3, h4, h5⟩ := hat _ (List.mem_of_getElem? hk)
        have := hok.each j _ _ a hk (List.getElem?_eq_getElem hj) ha
        omega
      · have hk : o[j]? = some (o[j]'(by have := some_lt q3; omega)) := List.getElem?_eq_getElem (by have := some_lt q3; omega)
        have hk' : o[j + 1]? = some (o[j + 1]'(by have := some_lt q4; omega)) := List.getElem?_eq_getElem (by have := some_lt q4; omega)
        obtain ⟨a, ha, -⟩ := hat _ (List.mem_of_getElem? hk)
        obtain ⟨a', ha', -⟩ := hat _ (List.mem_of_getElem? hk')
        simp only [cls, List.getElem?_map, hk, hk', Option.map_some, ha, ha', Option.getD_some, Option.some.injEq] at q1 q2
        rw [← q1, ← q2]
        exact hok.gaps j _ _ x x' a a' hk hk' q3 q4 ha ha'
    have hlast : iterO (fun y : Int => S10_1 n l false L o (o.length : Int) y) n 0 = some true := by
      refine iterO_eq (fun y => ∃ i : Nat, i ≤ o.length ∧ y = (i : Int)) _ (fun y => o.length - y.toNat) ?_ n _ ⟨0, Nat.zero_le _, rfl⟩ (by simpa using hno)
      rintro _ ⟨i, hi, rfl⟩
      rcases Nat.lt_or_ge i o.length with hlt | hge
      · have hk : o[i]? = some o[i] := List.getElem?_eq_getElem hlt
        have hx : L[i]? = some (L[i]'(by omega)) := List.getElem?_eq_getElem (by omega)
        obtain ⟨a, ha, -⟩ := hat _ (List.mem_of_getElem? hk)
        have hb := hok.each i _ _ a hk hx ha
        refine .inl ⟨_, ?_, ⟨i + 1, hlt, rfl⟩, by simp; omega⟩
        unfold S10_1
        rw [decide_eq_true (show (i : Int) < (o.length : Int) by omega), getI_at hk, getI_at hx]
        simp only [cond_true, Option.bind_some, ha]
        rw [decide_eq_false (show ¬ L[i]'(by omega) < a.Time by omega), decide_eq_false (show ¬ L[i]'(by omega) > a.Latest by omega), wS (by omega)]
        rfl
      · have : i = o.length := by omega
        subst this
        right
        unfold S10_1
        rw [decide_eq_false (show ¬ (o.length : Int) < (o.length : Int) by omega)]; rfl
    have e := iter_map (S := fun y : Int × List Int => S10_0 n l o false L (o.length : Int) t.c0_0 t.c0_1 t.c0_2 t.c0_3 t.c1_0 t.c1_1 t.c1_2 t.c1_3 t.c2_0 t.c2_1 t.c2_2 t.c2_3 t.c3_0 t.c3_1 t.c3_2 t.c3_3 y.1 y.2) o (fun k => ((getI l k).map (·.Wake)).getD 0) (fun _ => true) (fun _ => true) true (fun i k M hk hM => by
      have hi := some_lt hk
      have hkr := hr k (List.mem_of_getElem? hk)
      obtain ⟨a, ha, -⟩ := hat k (List.mem_of_getElem? hk)
      show S10_0 n l o false L (o.length : Int) t.c0_0 t.c0_1 t.c0_2 t.c0_3 t.c1_0 t.c1_1 t.c1_2 t.c1_3 t.c2_0 t.c2_1 t.c2_2 t.c2_3 t.c3_0 t.c3_1 t.c3_2 t.c3_3 (i : Int) M = _
      unfold S10_0
      rw [decide_eq_true (show (i : Int) < (o.length : Int) by omega), getI_at hk, wS (by omega)]
      simp only [cond_true, Option.bind_some]
      rw [decide_eq_false (show ¬ k < 0 by omega), decide_eq_false (show ¬ k ≥ (l.length : Int) by omega), ha]
      simp only [cond_false, Option.bind_some]
      rw [room_of (by simp; omega) (by simp; omega)]
      simp) (by
      show S10_0 n l o false L (o.length : Int) t.c0_0 t.c0_1 t.c0_2 t.c0_3 t.c1_0 t.c1_1 t.c1_2 t.c1_3 t.c2_0 t.c2_1 t.c2_2 t.c2_3 t.c3_0 t.c3_1 t.c3_2 t.c3_3 (o.length : Int) cls = _
      unfold S10_0
      rw [decide_eq_false (show ¬ (o.length : Int) < (o.length : Int) by omega), cond_false]
      have hval' : g16 n (⟨t.c0_0, t.c0_1, t.c0_2, t.c0_3, t.c1_0, t.c1_1, t.c1_2, t.c1_3, t.c2_0, t.c2_1, t.c2_2, t.c2_3, t.c3_0, t.c3_1, t.c3_2, t.c3_3⟩ : TWakeTable) cls L = some (true, 0) := hval
      rw [hval']
      simp only [Option.bind_some, bne_self_eq_false, cond_false, Bool.not_true, hlast, Option.map_some]) n hno
    rw [e]
    have : o.find? (fun x => !(fun _ : Int => true) x) = none := find_none.2 fun _ _ => rfl
    rw [this]
end Go.Proofs.Ytfmodgffhbljoaa
