/- slot.Check, flow.Check, slot.Assign as plain programs: what they answer. -/
import Derived.Test.YtfhcciepaangiaaChart
import Derived.Test.YtfhcciepaangiaaCmp
set_option linter.unusedVariables false
set_option linter.unusedSimpArgs false
namespace Go.Proofs.Ytfhcciepaangiaa

theorem sname_tot (n : Nat) (hn : 16 < n) (s : ByteArray) : ∃ b, g34 n s = some b := by
  obtain ⟨b, h⟩ := name_tot n hn s
  exact ⟨b, by unfold g34; rw [h]; rfl⟩
def calledD (nm : ByteArray) (s : TSlotDemand) : Bool := s.Call.toList == nm.toList
theorem hasD_eq (n : Nat) (l : List TSlotDemand) (c : ByteArray) (t : Int) (hl : l.length ≤ 1000) (hn : l.length < n) : g49 n l c t = some (decide (idxL (calledD c) l ≥ 0)) := by
  unfold g49 g54
  have e := index_loop (calledD c) l (by omega) (S := fun y : Int => S54_0 n l c t 0 (l.length : Int) y) (fun i x' hx => by
    have := some_lt hx
    unfold S54_0 g50
    rw [decide_eq_true (show (i : Int) < _ by omega), getI_at hx, wS (by omega)]
    simp only [cond_true, Option.bind_some, calledD]
    by_cases h : (x'.Call.toList == c.toList) = true <;> simp [h]) (by
    unfold S54_0
    simp) n hn
  rw [e]; rfl
structure DemOk (l : List TSlotDemand) : Prop where
  len : l.length ≤ 24
  time : ∀ d ∈ l, 0 ≤ d.Time ∧ d.Time ≤ 200000
  one : l.Pairwise fun x y => x.Call.toList ≠ y.Call.toList
theorem pw_of_idx {α : Type} (f : α → List UInt8) (l : List α) (h : ∀ (i : Nat) (x : α), l[i]? = some x → ∀ y ∈ l.take i, f y ≠ f x) : l.Pairwise fun x y => f x ≠ f y := by
  rw [List.pairwise_iff_getElem]
  intro i j hi hj hij
  refine h j _ (List.getElem?_eq_getElem hj) l[i] ?_
  rw [List.mem_take_iff_getElem]
  exact ⟨i, by omega, rfl⟩
theorem checkD_tot (n : Nat) (hn : 100 < n) (l : List TSlotDemand) : ∃ z, g35 n l = some z ∧ (z = 0 → DemOk l) := by
  unfold g35
  by_cases h1 : (l.length : Int) > 24
  · exact ⟨2, by simp [h1], fun h => absurd h (by decide)⟩
  rw [decide_eq_false h1, cond_false]
  have hl : l.length ≤ 24 := by omega
  obtain ⟨r, h, hr⟩ := iter_each (S := fun y : Int => S35_0 n l 0 (l.length : Int) y) l (fun i x => (0 ≤ x.Time ∧ x.Time ≤ 200000) ∧ idxL (calledD x.Call) (l.take i) < 0) (fun r => r ≠ 0) 0 (fun i x hx => by
    have hi := some_lt hx
    obtain ⟨b, hb⟩ := sname_tot n (by omega) x.Call
    have hh := hasD_eq n (l.take i) x.Call x.Time (by simp; omega) (by simp; omega)
    unfold S35_0
    rw [decide_eq_true (show (i : Int) < _ by omega), getI_at hx, wS (by omega), slice_hi l i (by omega)]
    simp only [cond_true, Option.bind_some, hb, hh]
    simp only [Bool.cond_eq_ite]
    repeat' split
    all_goals first
      | exact .inr ⟨_, rfl, by decide⟩
      | (refine .inl ⟨rfl, ⟨?_, ?_⟩, ?_⟩ <;> simp_all)) (by unfold S35_0; simp) n (by omega)
  refine ⟨r, h, fun h0 => ?_⟩
  rcases hr with hr | ⟨-, hr⟩
  · exact absurd h0 hr
  refine ⟨hl, fun d hd => ?_, pw_of_idx (fun d : TSlotDemand => d.Call.toList) l fun i x hx y hy => ?_⟩
  · obtain ⟨i, hi, rfl⟩ := List.getElem_of_mem hd
    exact (hr i _ (List.getElem?_eq_getElem hi)).1
  · have := (idxL_neg _ _).1 (hr i x hx).2 y hy
    simpa [calledD] using this
structure FlowOk (c : List TFlowCap) : Prop where
  len : c.length ≤ 256
  each : ∀ x ∈ c, 0 ≤ x.Span_From ∧ x.Span_From < x.Span_To ∧ x.Span_To ≤ 200000 ∧ 0 ≤ x.Many ∧ x.Many ≤ 24
  next : ∀ (i : Nat) (x y : TFlowCap), c[i]? = some x → c[i + 1]? = some y → x.Span_To ≤ y.Span_From
theorem checkC_tot (n : Nat) (hn : 300 < n) (c : List TFlowCap) : ∃ z, g10 n c = some z ∧ (z = 0 → FlowOk c) := by
  unfold g10
  by_cases h1 : (c.length : Int) > 256
  · exact ⟨2, by simp [h1], fun h => absurd h (by decide)⟩
  rw [decide_eq_false h1, cond_false]
  have hl : c.length ≤ 256 := by omega
  obtain ⟨r, h, hr⟩ := iter_each (S := fun y : Int => S10_0 n c 0 (c.length : Int) y) c (fun i x => (0 ≤ x.Span_From ∧ x.Span_From < x.Span_To ∧ x.Span_To ≤ 200000 ∧ 0 ≤ x.Many ∧ x.Many ≤ 24) ∧ ∀ k y, i = k + 1 → c[k]? = some y → y.Span_To ≤ x.Span_From) (fun r => r ≠ 0) 0 (fun i x hx => by
    have hi := some_lt hx
    unfold S10_0
    rw [decide_eq_true (show (i : Int) < _ by omega), getI_at hx, wS (by omega)]
    simp only [cond_true, Option.bind_some]
    rcases Nat.eq_zero_or_pos i with h0 | h0
    · subst h0
      rw [decide_eq_false (show ¬ (((0 : Nat) : Int) > 0) by decide)]
      simp only [Bool.cond_eq_ite, Bool.false_eq_true, if_false]
      repeat' split
      all_goals first
        | exact .inr ⟨_, rfl, by decide⟩
        | (refine .inl ⟨rfl, ⟨?_, ?_, ?_, ?_, ?_⟩, ?_⟩ <;> simp_all)
    · obtain ⟨k, rfl⟩ : ∃ k, i = k + 1 := ⟨i - 1, by omega⟩
      have hp : c[k]? = some c[k] := List.getElem?_eq_getElem (by omega)
      generalize c[k] = p at hp
      have e2 : IntKind.wrap .i64 (((k + 1 : Nat) : Int) - 1) = (k : Int) := by rw [wrap64 (by omega) (by omega)]; omega
      rw [e2, getI_at hp, decide_eq_true (show ((k + 1 : Nat) : Int) > 0 by omega)]
      simp only [Bool.cond_eq_ite, Option.bind_some, if_true]
      repeat' split
      all_goals first
        | exact .inr ⟨_, rfl, by decide⟩
        | (refine .inl ⟨rfl, ⟨?_, ?_, ?_, ?_, ?_⟩, fun k' y hk hy => ?_⟩
           all_goals first
             | (obtain rfl : k' = k := by omega
                rw [hp] at hy; cases hy; simp_all)
             | simp_all)) (by unfold S10_0; simp) n (by omega)
  refine ⟨r, h, fun h0 => ?_⟩
  rcases hr with hr | ⟨-, hr⟩
  · exact absurd h0 hr
  refine ⟨hl, fun d hd => ?_, fun i x y hx hy => (hr (i + 1) y hy).2 i x rfl hx⟩
  obtain ⟨i, hi, rfl⟩ := List.getElem_of_mem hd
  exact (hr i _ (List.getElem?_eq_getElem hi)).1

/- the assignment -/
def free (t : Int) (p : TFlowCap × Int) : Bool := decide (p.1.Span_To > t) && decide (p.2 < p.1.Many)
def pickA (c : List TFlowCap) (u : List Int) (t : Int) : Int := idxL (free t) (c.zip u)
def bump (u : List Int) (i : Nat) : List Int := u.set i ((u[i]?).getD 0 + 1)
def fromAt (c : List TFlowCap) (i : Nat) : Int := ((c[i]?).map (·.Span_From)).getD 0
def slotA (pl : ByteArray) (c : List TFlowCap) (d : TSlotDemand) (i : Nat) : TSlot := ⟨d.Call, pl, if fromAt c i > d.Time then fromAt c i else d.Time⟩
def runA (pl : ByteArray) (c : List TFlowCap) : List TSlotDemand → List Int → Option (List TSlot)
  | [], _ => some []
  | d :: r, u => if pickA c u d.Time < 0 then none else (runA pl c r (bump u (pickA c u d.Time).toNat)).map (slotA pl c d (pickA c u d.Time).toNat :: ·)
theorem first_eq (n : Nat) (c : List TFlowCap) (nm : ByteArray) (t : Int) (hl : c.length ≤ 1000) (hn : c.length < n) : g40 n c nm t = some (idxL (fun x : TFlowCap => decide (x.Span_To > t)) c) := by
  unfold g40
  exact index_loop (fun x : TFlowCap => decide (x.Span_To > t)) c (by omega) (S := fun y : Int => S40_0 n c nm t 0 (c.length : Int) y) (fun i x' hx => by
    have := some_lt hx
    unfold S40_0 g41
    rw [decide_eq_true (show (i : Int) < _ by omega), getI_at hx, wS (by omega)]
    simp only [cond_true, Option.bind_some]
    by_cases h : x'.Span_To > t <;> simp [h]) (by
    unfold S40_0
    simp) n hn
/- in valid capacities the ends grow -/
theorem FlowOk.to_le {c : List TFlowCap} (h : FlowOk c) : ∀ (k i : Nat) (x y : TFlowCap), c[i]? = some x → c[i + k]? = some y → x.Span_To ≤ y.Span_To
  | 0, i, x, y, hx, hy => by rw [Nat.add_zero, hx] at hy; cases hy; exact Int.le_refl _
  | k + 1, i, x, y, hx, hy => by
    have hlt := some_lt hy
    have hz : c[i + k]? = some c[i + k] := List.getElem?_eq_getElem (by omega)
    have h1 := h.to_le k i x _ hx hz
    have h2 := h.next (i + k) _ y hz hy
    have h3 := (h.each y (List.mem_of_getElem? hy)).2.1
    omega
end Go.Proofs.Ytfhcciepaangiaa
