/- Open clearances: readback.Check, Say, Hear, Lapse, Of as plain programs. -/
import Derived.Test.YtnechdhngpajbaaDoorChart
set_option linter.unusedVariables false
set_option linter.unusedSimpArgs false
namespace Go.Proofs.YtnechdhngpajbaaDoor

def clr (x : TReadbackOpen) : TClearance := ⟨x.Clearance_Call, x.Clearance_Kind, x.Clearance_Value, x.Clearance_Fix⟩
theorem kind_tot (n : Nat) (hn : 16 < n) (s : ByteArray) : ∃ z, g41 n s = some z := by
  unfold g41 g48
  generalize hl : ([(⟨#[72, 69, 73, 71, 72, 84]⟩ : ByteArray), (⟨#[72, 69, 65, 68, 73, 78, 71]⟩ : ByteArray), (⟨#[83, 80, 69, 69, 68]⟩ : ByteArray), (⟨#[68, 73, 82, 69, 67, 84]⟩ : ByteArray), (⟨#[72, 79, 76, 68]⟩ : ByteArray), (⟨#[67, 79, 78, 84, 65, 67, 84]⟩ : ByteArray), (⟨#[76, 65, 78, 68]⟩ : ByteArray)] : List ByteArray) = l
  have hlen : l.length = 7 := by rw [← hl]; rfl
  have e := index_loop (fun x : ByteArray => s.toList == x.toList) l (by omega) (S := fun y : Int => S48_0 n l s 0 (l.length : Int) y) (fun i x hx => by
    have := some_lt hx
    unfold S48_0
    rw [decide_eq_true (show (i : Int) < _ by omega), getI_at hx, wS (by omega)]
    simp only [cond_true, Option.bind_some]
    by_cases h : (s.toList == x.toList) = true <;> simp [h]) (by
    unfold S48_0
    simp) n (by omega)
  rw [e]
  exact ⟨_, rfl⟩
theorem pname_tot (n : Nat) (hn : 16 < n) (s : ByteArray) : ∃ b, g38 n s = some b := by
  unfold g38
  obtain ⟨b, hb⟩ := name_tot n hn s
  obtain ⟨z, hz⟩ := kind_tot n hn s
  rw [hb]
  cases b with
  | false => exact ⟨_, rfl⟩
  | true => simp only [Option.bind_some, cond_true, hz]; exact ⟨_, rfl⟩
theorem phrase_tot (n : Nat) (hn : 16 < n) (c : TClearance) : ∃ z, g32 n c = some z := by
  unfold g32
  obtain ⟨b, hb⟩ := pname_tot n hn c.Call
  obtain ⟨b2, hb2⟩ := pname_tot n hn c.Fix
  rw [hb]
  simp only [Option.bind_some, hb2]
  cases b with
  | false => exact ⟨_, rfl⟩
  | true =>
    simp only [Bool.not_true, cond_false]
    by_cases h1 : c.Kind < 0
    · rw [decide_eq_true h1]; exact ⟨_, rfl⟩
    by_cases h2 : c.Kind > 6
    · rw [decide_eq_false h1, decide_eq_true h2]; exact ⟨_, rfl⟩
    rw [decide_eq_false h1, decide_eq_false h2]
    simp only [cond_false]
    by_cases h3 : c.Kind > 2
    · rw [decide_eq_true h3, cond_true]
      cases (c.Value != 0) <;> cases b2 <;> exact ⟨_, rfl⟩
    · rw [decide_eq_false h3, cond_false]
      obtain ⟨x, hx⟩ : ∃ x, getI ([60000, 4095, 400] : List Int) c.Kind = some x := by
        rcases (by omega : c.Kind = 0 ∨ c.Kind = 1 ∨ c.Kind = 2) with h | h | h <;> rw [h] <;> exact ⟨_, rfl⟩
      rw [hx]
      simp only [Option.bind_some]
      cases (!(c.Fix.toList == (⟨#[]⟩ : ByteArray).toList)) <;> cases decide (c.Value < 0) <;> cases decide (c.Value > x) <;> exact ⟨_, rfl⟩
def keyed (c : TClearance) (x : TReadbackOpen) : Bool := x.Clearance_Call.toList == c.Call.toList && x.Clearance_Kind == c.Kind
theorem idx_eq (n : Nat) (l : List TReadbackOpen) (c : TClearance) (hl : l.length ≤ 1000) (hn : l.length < n) : g27 n l c = some (idxL (keyed c) l) := by
  unfold g27 g36
  have e := index_loop (keyed c) l (by omega) (S := fun y : Int => S36_0 n l c.Call c.Kind c.Value c.Fix 0 (l.length : Int) y) (fun i x hx => by
    have := some_lt hx
    unfold S36_0 g37
    rw [decide_eq_true (show (i : Int) < _ by omega), getI_at hx, wS (by omega)]
    simp only [cond_true, Option.bind_some, keyed]
    by_cases h : (x.Clearance_Call.toList == c.Call.toList) = true <;> by_cases h2 : (x.Clearance_Kind == c.Kind) = true <;> simp [h, h2]) (by
    unfold S36_0
    simp) n hn
  rw [e]; rfl
def wrongB (l : List TReadbackOpen) (t : Int) : Bool := decide (t < 0) || (decide (t > 200000) || match l.getLast? with | none => false | some x => decide (t < x.Time))
theorem wrong_eq (n : Nat) (l : List TReadbackOpen) (t : Int) (hl : l.length ≤ 1000) : g30 n l t = some (wrongB l t) := by
  unfold g30 wrongB
  cases decide (t < 0) with
  | true => rfl
  | false =>
    cases decide (t > 200000) with
    | true => rfl
    | false =>
      simp only [cond_false, Bool.false_or]
      rcases Nat.eq_zero_or_pos l.length with h | h
      · have : l = [] := List.eq_nil_of_length_eq_zero h
        subst this; rfl
      · rw [decide_eq_true (show (l.length : Int) > 0 by omega), cond_true, wrap64 (by omega) (by omega)]
        have e : l.getLast? = l[l.length - 1]? := List.getLast?_eq_getElem?
        have hx : l[l.length - 1]? = some (l[l.length - 1]'(by omega)) := List.getElem?_eq_getElem (by omega)
        rw [e, hx]
        have : getI l ((l.length : Int) - 1) = some (l[l.length - 1]'(by omega)) := by
          rw [show (l.length : Int) - 1 = ((l.length - 1 : Nat) : Int) by omega]
          exact getI_at hx
        rw [this]; rfl
/- open clearances that are valid -/
structure OpenOk (n : Nat) (l : List TReadbackOpen) : Prop where
  len : l.length ≤ 12
  said : ∀ x ∈ l, g32 n (clr x) = some 0
  time : ∀ x ∈ l, 0 ≤ x.Time ∧ x.Time ≤ 200000
  sorted : l.Pairwise fun x y => x.Time ≤ y.Time
  keys : l.Pairwise fun x y => keyed (clr y) x = false
theorem OpenOk.sub {n : Nat} {l k : List TReadbackOpen} (h : OpenOk n l) (hs : k.Sublist l) : OpenOk n k :=
  ⟨Nat.le_trans hs.length_le h.len, fun x hx => h.said x (hs.subset hx), fun x hx => h.time x (hs.subset hx), h.sorted.sublist hs, h.keys.sublist hs⟩
theorem check_round (n : Nat) (hn : 100 < n) (l : List TReadbackOpen) (hl : l.length ≤ 12) (i : Nat) (x : TReadbackOpen) (hx : l[i]? = some x) : ∃ z, g32 n (clr x) = some z ∧ S24_0 n l 0 (l.length : Int) (i : Int) = some (if z ≠ 0 then .inr z else if wrongB (l.take i) x.Time = true then .inr 12 else if idxL (keyed (clr x)) (l.take i) ≥ 0 then .inr 7 else .inl ((i + 1 : Nat) : Int)) := by
  have hi := some_lt hx
  obtain ⟨z, hz⟩ := phrase_tot n (by omega) (clr x)
  refine ⟨z, hz, ?_⟩
  have hz' : g32 n (⟨x.Clearance_Call, x.Clearance_Kind, x.Clearance_Value, x.Clearance_Fix⟩ : TClearance) = some z := hz
  have hi' : g27 n (l.take i) (⟨x.Clearance_Call, x.Clearance_Kind, x.Clearance_Value, x.Clearance_Fix⟩ : TClearance) = some (idxL (keyed (clr x)) (l.take i)) := idx_eq n _ (clr x) (by simp; omega) (by simp; omega)
  unfold S24_0
  rw [decide_eq_true (show (i : Int) < _ by omega), getI_at hx, wS (by omega), slice_hi l i (by omega)]
  simp only [cond_true, Option.bind_some, hz', wrong_eq n (l.take i) x.Time (by simp; omega), hi']
  by_cases h1 : z = 0
  · subst h1
    simp only [bne_self_eq_false, cond_false, ne_eq, not_true_eq_false, if_false]
    cases wrongB (l.take i) x.Time with
    | true => rfl
    | false =>
      simp only [cond_false, Bool.false_eq_true, if_false]
      by_cases h2 : idxL (keyed (clr x)) (l.take i) ≥ 0
      · rw [decide_eq_true h2, if_pos h2]; rfl
      · rw [decide_eq_false h2, if_neg h2]; rfl
  · rw [show (z != 0) = true from bne_iff_ne.2 h1, if_pos h1]; rfl
theorem check_tot (n : Nat) (hn : 100 < n) (l : List TReadbackOpen) : ∃ z, g24 n l = some z ∧ (z = 0 → OpenOk n l) := by
  unfold g24
  by_cases h1 : (l.length : Int) > 12
  · exact ⟨2, by simp [h1], fun h => absurd h (by decide)⟩
  rw [decide_eq_false h1, cond_false]
  have hl : l.length ≤ 12 := by omega
  obtain ⟨r, h, hr⟩ := iter_each (S := fun y : Int => S24_0 n l 0 (l.length : Int) y) l (fun i x => g32 n (clr x) = some 0 ∧ wrongB (l.take i) x.Time = false ∧ idxL (keyed (clr x)) (l.take i) < 0) (fun r => r ≠ 0) 0 (fun i x hx => by
    obtain ⟨z, hz, hS⟩ := check_round n hn l hl i x hx
    show S24_0 n l 0 (l.length : Int) (i : Int) = _ ∧ _ ∨ ∃ r, S24_0 n l 0 (l.length : Int) (i : Int) = _ ∧ _
    rw [hS]
    by_cases h1 : z ≠ 0
    · rw [if_pos h1]; exact .inr ⟨_, rfl, h1⟩
    · rw [if_neg h1]
      by_cases h2 : wrongB (l.take i) x.Time = true
      · rw [if_pos h2]; exact .inr ⟨_, rfl, by decide⟩
      · rw [if_neg h2]
        by_cases h3 : idxL (keyed (clr x)) (l.take i) ≥ 0
        · rw [if_pos h3]; exact .inr ⟨_, rfl, by decide⟩
        · rw [if_neg h3]
          refine .inl ⟨rfl, ?_, by simpa using h2, by omega⟩
          rw [hz]; congr 1; simpa using h1) (by
    show S24_0 n l 0 (l.length : Int) (l.length : Int) = _
    unfold S24_0; simp) n (by omega)
  refine ⟨r, h, fun h0 => ?_⟩
  rcases hr with hr | ⟨-, hr⟩
  · exact absurd h0 hr
  have hw : ∀ (i : Nat) (x : TReadbackOpen), l[i]? = some x → 0 ≤ x.Time ∧ x.Time ≤ 200000 ∧ ∀ y, i ≠ 0 → l[i - 1]? = some y → y.Time ≤ x.Time := fun i x hx => by
    have h2 := (hr i x hx).2.1
    unfold wrongB at h2
    simp only [Bool.or_eq_false_iff, decide_eq_false_iff_not] at h2
    refine ⟨by omega, by omega, fun y hi hy => ?_⟩
    have hlast : (l.take i).getLast? = some y := by
      rw [List.getLast?_eq_getElem?, List.length_take, Nat.min_eq_left (by have := some_lt hx; omega), List.getElem?_take, if_pos (by omega), hy]
    rw [hlast] at h2
    simpa using h2.2.2
  refine ⟨hl, fun x hx => ?_, fun x hx => ?_, ?_, ?_⟩
  · obtain ⟨i, hi, rfl⟩ := List.getElem_of_mem hx
    exact (hr i _ (List.getElem?_eq_getElem hi)).1
  · obtain ⟨i, hi, rfl⟩ := List.getElem_of_mem hx
    have := hw i _ (List.getElem?_eq_getElem hi)
    exact ⟨this.1, this.2.1⟩
  · rw [List.pairwise_iff_getElem]
    intro i j hi hj hij
    obtain ⟨k, rfl⟩ : ∃ k, j = i + k + 1 := ⟨j - i - 1, by omega⟩
    clear hij
    induction k with
    | zero => exact (hw (i + 0 + 1) _ (List.getElem?_eq_getElem hj)).2.2 _ (by omega) (List.getElem?_eq_getElem (by omega))
    | succ k ih =>
      have h1 := ih (by omega)
      have h2 := (hw (i + (k + 1) + 1) _ (List.getElem?_eq_getElem hj)).2.2 (l[i + k + 1]'(by omega)) (by omega) (List.getElem?_eq_getElem (by omega))
      omega
  · rw [List.pairwise_iff_getElem]
    intro i j hi hj hij
    have := (idxL_neg _ _).1 (hr j _ (List.getElem?_eq_getElem hj)).2.2 l[i] (by rw [List.mem_take_iff_getElem]; exact ⟨i, by omega, rfl⟩)
    exact this
theorem check_ok (n : Nat) (hn : 100 < n) (l : List TReadbackOpen) (h : OpenOk n l) : g24 n l = some 0 := by
  have hl := h.len
  unfold g24
  rw [decide_eq_false (show ¬ (l.length : Int) > 12 by omega), cond_false]
  refine iterO_eq (fun y => ∃ i : Nat, i ≤ l.length ∧ y = (i : Int)) _ (fun y => l.length - y.toNat) ?_ n _ ⟨0, Nat.zero_le _, rfl⟩ (by simp; omega)
  rintro _ ⟨i, hi, rfl⟩
  rcases Nat.lt_or_ge i l.length with hlt | hge
  · have hx : l[i]? = some l[i] := List.getElem?_eq_getElem hlt
    obtain ⟨z, hz, hS⟩ := check_round n hn l hl i _ hx
    have hz0 : z = 0 := by
      have := h.said _ (List.getElem_mem hlt)
      rw [hz] at this
      exact Option.some.inj this
    have ht := h.time _ (List.getElem_mem hlt)
    have hw : wrongB (l.take i) l[i].Time = false := by
      unfold wrongB
      rw [decide_eq_false (show ¬ l[i].Time < 0 by omega), decide_eq_false (show ¬ l[i].Time > 200000 by omega)]
      rcases Nat.eq_zero_or_pos i with h0 | h0
      · subst h0; rfl
      · have hy : (l.take i).getLast? = some (l[i - 1]'(by omega)) := by
          rw [List.getLast?_eq_getElem?, List.length_take, Nat.min_eq_left (by omega), List.getElem?_take, if_pos (by omega), List.getElem?_eq_getElem (by omega)]
        rw [hy]
        have := List.pairwise_iff_getElem.1 h.sorted (i - 1) i (by omega) hlt (by omega)
        simp; omega
    have hk : idxL (keyed (clr l[i])) (l.take i) < 0 := (idxL_neg _ _).2 fun y hy => by
      rw [List.mem_take_iff_getElem] at hy
      obtain ⟨j, hj, rfl⟩ := hy
      exact List.pairwise_iff_getElem.1 h.keys j i (by omega) hlt (by omega)
    rw [hw, hz0] at hS
    refine .inl ⟨_, ?_, ⟨i + 1, hlt, rfl⟩, by simp; omega⟩
    rw [hS]
    simp only [ne_eq, not_true_eq_false, if_false, Bool.false_eq_true]
    rw [if_neg (by omega)]
  · have : i = l.length := by omega
    subst this
    right
    unfold S24_0
    simp
/- the checks ahead of Say and Hear -/
theorem pre_tot (n : Nat) (hn : 100 < n) (l : List TReadbackOpen) (c : TClearance) (t : Int) : ∃ z, g25 n l c t = some z ∧ (z = 0 → OpenOk n l ∧ g32 n c = some 0 ∧ wrongB l t = false) := by
  unfold g25
  obtain ⟨z, hz, hz0⟩ := check_tot n hn l
  rw [hz]
  simp only [Option.bind_some]
  by_cases h0 : ¬ z = 0
  · refine ⟨z, by rw [show (z != 0) = true from bne_iff_ne.2 h0]; rfl, fun h => absurd h h0⟩
  have h0 : z = 0 := Decidable.of_not_not h0
  have hok := hz0 h0
  subst h0
  obtain ⟨w, hw⟩ := phrase_tot n (by omega) c
  rw [hw]
  simp only [Option.bind_some, bne_self_eq_false, cond_false]
  by_cases h1 : ¬ w = 0
  · refine ⟨w, by rw [show (w != 0) = true from bne_iff_ne.2 h1]; rfl, fun h => absurd h h1⟩
  have h1 : w = 0 := Decidable.of_not_not h1
  subst h1
  simp only [bne_self_eq_false, cond_false, wrong_eq n l t (by have := hok.len; omega), Option.bind_some]
  cases hq : wrongB l t with
  | true => exact ⟨12, rfl, fun h => absurd h (by decide)⟩
  | false => exact ⟨0, rfl, fun _ => by simp_all⟩
theorem pre_ok (n : Nat) (hn : 100 < n) (l : List TReadbackOpen) (c : TClearance) (t : Int) (h1 : OpenOk n l) (h2 : g32 n c = some 0) (h3 : wrongB l t = false) : g25 n l c t = some 0 := by
  unfold g25
  rw [check_ok n hn l h1, h2]
  simp only [Option.bind_some, bne_self_eq_false, cond_false, wrong_eq n l t (by have := h1.len; omega), h3]
end Go.Proofs.YtnechdhngpajbaaDoor
