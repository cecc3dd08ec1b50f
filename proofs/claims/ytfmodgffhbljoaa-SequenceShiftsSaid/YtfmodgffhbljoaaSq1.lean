/- Arrivals, orders and times as plain values. -/
import Derived.Test.YtfmodgffhbljoaaChart
import Derived.Test.YtfmodgffhbljoaaTab
set_option linter.unusedVariables false
set_option linter.unusedSimpArgs false
namespace Go.Proofs.Ytfmodgffhbljoaa

def calledS (nm : ByteArray) (s : TSequenceArrival) : Bool := s.Call.toList == nm.toList
theorem hasS_eq (n : Nat) (l : List TSequenceArrival) (c : ByteArray) (w t e : Int) (hl : l.length ≤ 1000) (hn : l.length < n) : g63 n l c w t e = some (decide (idxL (calledS c) l ≥ 0)) := by
  unfold g63 g71
  have e := index_loop (calledS c) l (by omega) (S := fun y : Int => S71_0 n l c w t e 0 (l.length : Int) y) (fun i x' hx => by
    have := some_lt hx
    unfold S71_0 g64
    rw [decide_eq_true (show (i : Int) < _ by omega), getI_at hx, wS (by omega)]
    simp only [cond_true, Option.bind_some, calledS]
    by_cases h : (x'.Call.toList == c.toList) = true <;> simp [h]) (by
    unfold S71_0
    simp) n hn
  rw [e]; rfl
structure ArrOk (l : List TSequenceArrival) : Prop where
  len : l.length ≤ 8
  each : ∀ x ∈ l, 0 ≤ x.Wake ∧ x.Wake ≤ 3 ∧ 0 ≤ x.Time ∧ x.Time ≤ x.Latest ∧ x.Latest ≤ 200000
  names : ∀ (i j : Nat) (x y : TSequenceArrival), i < j → l[i]? = some x → l[j]? = some y → x.Call.toList ≠ y.Call.toList
theorem class_eq (n : Nat) (w : Int) : g37 n w = some (if 0 ≤ w ∧ w ≤ 3 then 0 else 1) := by
  unfold g37
  by_cases h1 : w < 0
  · rw [decide_eq_true h1, cond_true, if_neg (by omega)]
  · by_cases h2 : w > 3
    · rw [decide_eq_false h1, decide_eq_true h2, cond_false, cond_true, if_neg (by omega)]
    · rw [decide_eq_false h1, decide_eq_false h2, cond_false, cond_false, if_pos (by omega)]
theorem arr_tot (n : Nat) (hn : 100 < n) (l : List TSequenceArrival) : ∃ z, g50 n l = some z ∧ (z = 0 → ArrOk l) := by
  unfold g50
  by_cases h1 : (l.length : Int) > 8
  · exact ⟨2, by simp [h1], fun h => absurd h (by decide)⟩
  rw [decide_eq_false h1, cond_false]
  have hl : l.length ≤ 8 := by omega
  obtain ⟨r, h, hr⟩ := iter_each (S := fun y : Int => S50_0 n l 0 (l.length : Int) y) l (fun i x => (0 ≤ x.Wake ∧ x.Wake ≤ 3 ∧ 0 ≤ x.Time ∧ x.Time ≤ x.Latest ∧ x.Latest ≤ 200000) ∧ ∀ y ∈ l.take i, y.Call.toList ≠ x.Call.toList) (fun r => r ≠ 0) 0 (fun i x hx => by
    have hi := some_lt hx
    obtain ⟨b, hb⟩ := name_tot n (by omega) x.Call
    have hh := hasS_eq n (l.take i) x.Call x.Wake x.Time x.Latest (by simp; omega) (by simp; omega)
    have hc := class_eq n x.Wake
    show S50_0 n l 0 (l.length : Int) (i : Int) = _ ∧ _ ∨ ∃ r, S50_0 n l 0 (l.length : Int) (i : Int) = _ ∧ _
    unfold S50_0
    rw [decide_eq_true (show (i : Int) < _ by omega), getI_at hx, wS (by omega), slice_hi l i (by omega)]
    simp only [cond_true, Option.bind_some, hb, hh, hc]
    cases b with
    | false => right; exact ⟨3, rfl, by decide⟩
    | true =>
      simp only [Bool.not_true, cond_false]
      by_cases hw : 0 ≤ x.Wake ∧ x.Wake ≤ 3
      · rw [if_pos hw]
        simp only [bne_self_eq_false, cond_false]
        by_cases h2 : x.Time < 0
        · right; exact ⟨12, by rw [decide_eq_true h2]; rfl, by decide⟩
        by_cases h3 : x.Time > x.Latest
        · right; exact ⟨12, by rw [decide_eq_false h2, decide_eq_true h3]; rfl, by decide⟩
        by_cases h4 : x.Latest > 200000
        · right; exact ⟨12, by rw [decide_eq_false h2, decide_eq_false h3, decide_eq_true h4]; rfl, by decide⟩
        rw [decide_eq_false h2, decide_eq_false h3, decide_eq_false h4]
        simp only [cond_false]
        by_cases h5 : idxL (calledS x.Call) (l.take i) ≥ 0
        · right; exact ⟨7, by rw [decide_eq_true h5]; rfl, by decide⟩
        · left
          rw [decide_eq_false h5]
          refine ⟨rfl, by omega, fun y hy e => ?_⟩
          have := (idxL_neg (calledS x.Call) (l.take i)).1 (by omega) y hy
          unfold calledS at this
          rw [e, beq_self_eq_true] at this
          cases this
      · rw [if_neg hw]
        right; exact ⟨1, rfl, by decide⟩) (by
    show S50_0 n l 0 (l.length : Int) (l.length : Int) = _
    unfold S50_0; simp) n (by omega)
  refine ⟨r, h, fun h0 => ?_⟩
  rcases hr with hr | ⟨-, hr⟩
  · exact absurd h0 hr
  refine ⟨hl, fun d hd => ?_, fun i j x y hij hx hy => ?_⟩
  · obtain ⟨i, hi, rfl⟩ := List.getElem_of_mem hd
    exact (hr i _ (List.getElem?_eq_getElem hi)).1
  · refine (hr j y hy).2 x ?_
    rw [List.mem_iff_getElem?]
    exact ⟨i, by rw [List.getElem?_take, if_pos hij]; exact hx⟩
/- an order -/
def OrdV (m : Nat) (o : List Int) : Prop := o.length = m ∧ (∀ x ∈ o, 0 ≤ x ∧ x < (m : Int)) ∧ o.Nodup
theorem order_eq (n : Nat) (hn : 100 < n) (o : List Int) (m : Nat) (hm : m ≤ 8) (hol : o.length ≤ 9223372036854775807) (hno : o.length < n) : ∃ b, g55 n o (m : Int) = some b ∧ (b = true ↔ OrdV m o) := by
  unfold g55
  have hmk : makeO (m : Int) 1 = some m := by unfold makeO; simp; omega
  rw [hmk]
  simp only [Option.bind_some]
  refine iterO_rule (fun y => ∃ (i : Nat) (L : List Bool), y = ((i : Int), L) ∧ i ≤ o.length ∧ L.length = m ∧ (∀ x ∈ o.take i, 0 ≤ x ∧ x < m) ∧ (o.take i).Nodup ∧ ∀ j, j < m → L[j]? = some (decide ((j : Int) ∈ o.take i))) _ (fun y => o.length - y.1.toNat) ?_ n _ ⟨0, _, rfl, Nat.zero_le _, by simp, fun x hx => by simp at hx, by simp, fun j hj => by simp [hj]⟩ (by simpa using hno)
  rintro _ ⟨i, L, rfl, hi, hL, hP, hD, hM⟩
  rcases Nat.lt_or_ge i o.length with hlt | hge
  · have hx : o[i]? = some o[i] := List.getElem?_eq_getElem hlt
    have hmem := List.getElem_mem hlt
    have htk := List.take_succ_eq_append_getElem hlt
    generalize o[i] = x at hx htk hmem
    have hno1 : (o.take i ++ [x]).Sublist o := by rw [← htk]; exact List.take_sublist _ _
    by_cases h1 : x < 0
    · refine .inr ⟨false, ?_, ⟨(fun h => by cases h), fun h => by have := h.2.1 x hmem; omega⟩⟩
      show S55_0 n o (m : Int) false (o.length : Int) (i : Int) L = _
      unfold S55_0
      rw [decide_eq_true (show (i : Int) < (o.length : Int) by omega), getI_at hx]
      simp only [cond_true, Option.bind_some, decide_eq_true h1]
    by_cases h2 : x ≥ (m : Int)
    · refine .inr ⟨false, ?_, ⟨(fun h => by cases h), fun h => by have := h.2.1 x hmem; omega⟩⟩
      show S55_0 n o (m : Int) false (o.length : Int) (i : Int) L = _
      unfold S55_0
      rw [decide_eq_true (show (i : Int) < (o.length : Int) by omega), getI_at hx]
      simp only [cond_true, Option.bind_some, decide_eq_false h1, decide_eq_true h2, cond_false]
    obtain ⟨k, rfl⟩ : ∃ k : Nat, x = (k : Int) := ⟨x.toNat, by omega⟩
    have hk : k < m := by omega
    have hy : getI L (k : Int) = some (decide ((k : Int) ∈ o.take i)) := by rw [getI_nat]; exact hM k hk
    by_cases hin : (k : Int) ∈ o.take i
    · rw [decide_eq_true hin] at hy
      refine .inr ⟨false, ?_, ⟨(fun h => by cases h), fun h => ?_⟩⟩
      · show S55_0 n o (m : Int) false (o.length : Int) (i : Int) L = _
        unfold S55_0
        rw [decide_eq_true (show (i : Int) < (o.length : Int) by omega), getI_at hx]
        simp only [cond_true, Option.bind_some, decide_eq_false h1, decide_eq_false h2, cond_false, hy]
      · have := h.2.2.sublist hno1
        rw [List.nodup_append] at this
        exact absurd rfl (this.2.2 _ hin _ (by simp))
    · rw [decide_eq_false hin] at hy
      refine .inl ⟨_, ?_, ⟨i + 1, L.set k true, rfl, hlt, by simpa using hL, fun z hz => ?_, ?_, fun j hj => ?_⟩, by simp; omega⟩
      · show S55_0 n o (m : Int) false (o.length : Int) (i : Int) L = _
        unfold S55_0
        rw [decide_eq_true (show (i : Int) < (o.length : Int) by omega), getI_at hx]
        simp only [cond_true, Option.bind_some, decide_eq_false h1, decide_eq_false h2, cond_false, hy, wS (show i < 9223372036854775807 by omega), Int.toNat_natCast]
      · rw [htk] at hz
        rcases List.mem_append.1 hz with hz | hz
        · exact hP z hz
        · simp at hz; subst hz; omega
      · rw [htk, List.nodup_append]
        exact ⟨hD, by simp, fun a ha b hb e => by simp at hb; subst e; subst hb; exact hin ha⟩
      · rw [htk]
        by_cases e : k = j
        · subst e
          rw [List.getElem?_set_self (by omega)]
          simp
        · rw [List.getElem?_set_ne e, hM j hj]
          have : ¬ ((j : Int) = (k : Int)) := by omega
          simp [this]
  · have : i = o.length := by omega
    subst this
    rw [List.take_length] at hP hD
    refine .inr ⟨((o.length : Int) == (m : Int)), ?_, ?_⟩
    · show S55_0 n o (m : Int) false (o.length : Int) (o.length : Int) L = _
      unfold S55_0
      rw [decide_eq_false (show ¬ (o.length : Int) < (o.length : Int) by omega)]; rfl
    · exact ⟨fun h => ⟨by have := beq_iff_eq.1 h; omega, hP, hD⟩, fun h => beq_iff_eq.2 (by have := h.1; omega)⟩

/- times of an order -/
def tmG (l : List TSequenceArrival) (t : TWakeTable) : List Int → Option (Int × Int) → List Int → List Int × Bool
  | [], _, acc => (acc, true)
  | i :: o, prev, acc => match getI l i with
    | none => ([], false)
    | some a => match prev with
      | none => if a.Time > a.Latest then ([], false) else tmG l t o (some (a.Time, a.Wake)) (acc ++ [a.Time])
      | some (x, w) => if (if x + cell t w a.Wake > a.Time then x + cell t w a.Wake else a.Time) > a.Latest then ([], false) else tmG l t o (some ((if x + cell t w a.Wake > a.Time then x + cell t w a.Wake else a.Time), a.Wake)) (acc ++ [if x + cell t w a.Wake > a.Time then x + cell t w a.Wake else a.Time])
theorem arr_at {l : List TSequenceArrival} (hl : ArrOk l) {k : Int} (h0 : 0 ≤ k) (h1 : k < (l.length : Int)) : ∃ a, getI l k = some a ∧ 0 ≤ a.Wake ∧ a.Wake ≤ 3 ∧ 0 ≤ a.Time ∧ a.Time ≤ a.Latest ∧ a.Latest ≤ 200000 := by
  refine ⟨l[k.toNat]'(by omega), by unfold getI; rw [if_pos h0]; exact List.getElem?_eq_getElem (by omega), hl.each _ (List.getElem_mem _)⟩
theorem times_eq (n : Nat) (hn : 100 < n) (l : List TSequenceArrival) (hl : ArrOk l) (o : List Int) (ho : o.length ≤ 8) (hr : ∀ x ∈ o, 0 ≤ x ∧ x < (l.length : Int)) (t : TWakeTable) (ht : TabOk t) : g53 n l o t = some (tmG l t o none []) := by
  unfold g53
  generalize hR : tmG l t o none [] = R
  refine iterO_eq (fun y => ∃ (i : Nat) (L : List Int) (prev : Option (Int × Int)), y = ((i : Int), L) ∧ i ≤ o.length ∧ L.length = i ∧ tmG l t (o.drop i) prev L = R ∧ (i = 0 → prev = none) ∧ ∀ m, i = m + 1 → ∃ k x a, o[m]? = some k ∧ L[m]? = some x ∧ getI l k = some a ∧ prev = some (x, a.Wake) ∧ 0 ≤ x ∧ x ≤ 200000) _ (fun y => o.length - y.1.toNat) ?_ n _ ⟨0, [], none, rfl, Nat.zero_le _, rfl, hR, fun _ => rfl, fun m h => by omega⟩ (by simp; omega)
  rintro _ ⟨i, L, prev, rfl, hi, hL, hG, hp0, hp1⟩
  rcases Nat.lt_or_ge i o.length with hlt | hge
  · have hx : o[i]? = some o[i] := List.getElem?_eq_getElem hlt
    have hm := List.getElem_mem hlt
    rw [List.drop_eq_getElem_cons hlt] at hG
    generalize o[i] = k at hx hm hG
    obtain ⟨hk0, hk1⟩ := hr k hm
    obtain ⟨a, ha, w0, w1, a0, a1, a2⟩ := arr_at hl hk0 hk1
    unfold tmG at hG
    rw [ha] at hG
    simp only at hG
    show (∃ y, S53_0 n l o false (o.length : Int) t.c0_0 t.c0_1 t.c0_2 t.c0_3 t.c1_0 t.c1_1 t.c1_2 t.c1_3 t.c2_0 t.c2_1 t.c2_2 t.c2_3 t.c3_0 t.c3_1 t.c3_2 t.c3_3 (i : Int) L = some (.inl y) ∧ _) ∨ S53_0 n l o false (o.length : Int) t.c0_0 t.c0_1 t.c0_2 t.c0_3 t.c1_0 t.c1_1 t.c1_2 t.c1_3 t.c2_0 t.c2_1 t.c2_2 t.c2_3 t.c3_0 t.c3_1 t.c3_2 t.c3_3 (i : Int) L = _
    unfold S53_0
    rw [decide_eq_true (show (i : Int) < (o.length : Int) by omega), getI_at hx, wS (by omega)]
    simp only [cond_true, Option.bind_some, ha]
    rcases Nat.eq_zero_or_pos i with h0 | h0
    · subst h0
      rw [hp0 rfl] at hG
      simp only at hG
      rw [decide_eq_false (show ¬ (((0 : Nat) : Int) > 0) by decide)]
      simp only [cond_false]
      rw [if_neg (show ¬ a.Time > a.Latest by omega)] at hG
      left
      rw [decide_eq_false (show ¬ a.Time > a.Latest by omega), room_of (by simp; omega) (by simp; omega)]
      refine ⟨_, rfl, ⟨1, L ++ [a.Time], _, rfl, hlt, by simp [hL], hG, fun h => by omega, fun m hm => ?_⟩, by simp; omega⟩
      obtain rfl : m = 0 := by omega
      exact ⟨k, a.Time, a, hx, by rw [← hL, List.getElem?_concat_length], ha, rfl, a0, by omega⟩
    · obtain ⟨m, rfl⟩ : ∃ m, i = m + 1 := ⟨i - 1, by omega⟩
      obtain ⟨k', x, a', hox, hLx, ha', hpr, x0, x1⟩ := hp1 m rfl
      obtain ⟨hk0', hk1'⟩ := hr k' (List.mem_of_getElem? hox)
      obtain ⟨a'', ha'', w0', w1', b0, b1, b2⟩ := arr_at hl hk0' hk1'
      rw [ha'] at ha''; cases ha''
      rw [hpr] at hG
      simp only at hG
      obtain ⟨r, e1, e2, e3, e4⟩ := cell_at t ht w0' w1' w0 w1
      unfold rows at e1
      unfold cols at e2
      have em : IntKind.wrap .i64 (((m + 1 : Nat) : Int) - 1) = (m : Int) := by rw [wrap64 (by omega) (by omega)]; omega
      rw [decide_eq_true (show ((m + 1 : Nat) : Int) > 0 by omega), em, getI_at hLx, getI_at hox]
      simp only [cond_true, Option.bind_some, ha', e1, e2]
      rw [wrap64 (by omega) (by omega)]
      generalize hz : (if x + cell t a'.Wake a.Wake > a.Time then x + cell t a'.Wake a.Wake else a.Time) = z at hG ⊢
      by_cases hlat : z > a.Latest
      · right
        rw [if_pos hlat] at hG
        rw [decide_eq_true hlat, ← hG]; rfl
      · left
        rw [if_neg hlat] at hG
        rw [decide_eq_false hlat, room_of (by simp; omega) (by simp; omega)]
        refine ⟨_, rfl, ⟨m + 2, L ++ [z], _, rfl, hlt, by simp [hL], hG, fun h => by omega, fun m' hm' => ?_⟩, by simp; omega⟩
        obtain rfl : m' = m + 1 := by omega
        refine ⟨k, z, a, hx, by rw [← hL, List.getElem?_concat_length], ha, rfl, ?_, by omega⟩
        rw [← hz]; split <;> omega
  · have : i = o.length := by omega
    right
    rw [List.drop_eq_nil_of_le hge] at hG
    rw [← hG]
    show S53_0 n l o false (o.length : Int) t.c0_0 t.c0_1 t.c0_2 t.c0_3 t.c1_0 t.c1_1 t.c1_2 t.c1_3 t.c2_0 t.c2_1 t.c2_2 t.c2_3 t.c3_0 t.c3_1 t.c3_2 t.c3_3 (i : Int) L = _
    unfold S53_0
    rw [decide_eq_false (show ¬ (i : Int) < (o.length : Int) by omega)]; rfl
theorem tmG_len (l : List TSequenceArrival) (t : TWakeTable) : ∀ (o : List Int) (p : Option (Int × Int)) (acc : List Int), (tmG l t o p acc).2 = true → (tmG l t o p acc).1.length = acc.length + o.length
  | [], p, acc, _ => rfl
  | i :: o, p, acc, h => by
    unfold tmG at h ⊢
    cases ha : getI l i with
    | none => rw [ha] at h; cases h
    | some a =>
      rw [ha] at h
      cases p with
      | none =>
        simp only at h ⊢
        split at h
        · cases h
        · rename_i q
          rw [if_neg q]
          rw [tmG_len l t o _ _ h]
          simp; omega
      | some xw =>
        obtain ⟨x, w⟩ := xw
        simp only at h ⊢
        generalize (if x + cell t w a.Wake > a.Time then x + cell t w a.Wake else a.Time) = z at h ⊢
        split at h
        · cases h
        · rename_i q
          rw [if_neg q]
          rw [tmG_len l t o _ _ h]
          simp; omega
end Go.Proofs.Ytfmodgffhbljoaa
