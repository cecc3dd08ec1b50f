/- taxi.Check as a plain program. -/
import Derived.Test.YtbnnndfcaehlpaaGreatDoorX1G
import Derived.Test.YtbnnndfcaehlpaaGreatDoorMath
set_option linter.unusedVariables false
set_option linter.unusedSimpArgs false
namespace Go.Proofs.YtbnnndfcaehlpaaGreatDoor

theorem room_of {k by_ : Nat} (h1 : k * by_ ≤ 140737488355328) (h2 : k ≤ 4611686018427387904) : roomO k by_ = some () := by simp [roomO, h1, h2]
theorem slice_hi {α : Type} (l : List α) (i : Nat) (h : i ≤ l.length) : sliceO l none (some (i : Int)) = some (l.take i) := by
  simp only [sliceO, Option.getD_none, Option.getD_some]
  rw [if_pos ⟨Int.le_refl _, by omega, by omega⟩]
  simp
theorem name_tot (n : Nat) (hn : 16 < n) (s : ByteArray) : ∃ b, g50 n s = some b := by
  unfold g50
  by_cases h1 : (s.size : Int) < 1
  · simp [h1]
  by_cases h2 : (s.size : Int) > 8
  · simp [h1, h2]
  have hl : s.data.toList.length = s.size := Array.length_toList
  rw [decide_eq_false h1, decide_eq_false h2, room_of (by omega) (by omega)]
  simp only [cond_false, Option.bind_some]
  obtain ⟨r, h, -⟩ := iterO_rule (S := fun y : Int => S50_0 n false (s.data.toList) ((s.data.toList).length : Int) y) (fun x => ∃ i : Nat, i ≤ s.data.toList.length ∧ x = (i : Int)) (fun _ => True) (fun x => s.data.toList.length - x.toNat) (by
    rintro _ ⟨i, hi, rfl⟩
    rcases Nat.lt_or_ge i s.data.toList.length with hlt | hge
    · have hx := getI_at (List.getElem?_eq_getElem hlt)
      have hw := wS (i := i) (by omega)
      have key : S50_0 n false (s.data.toList) ((s.data.toList).length : Int) (i : Int) = some (.inl (((i + 1 : Nat) : Int))) ∨ ∃ r, S50_0 n false (s.data.toList) ((s.data.toList).length : Int) (i : Int) = some (.inr r) := by
        unfold S50_0
        rw [decide_eq_true (show (i : Int) < _ by omega), hx, hw]
        simp only [cond_true, Option.bind_some]
        repeat' (rw [Bool.cond_eq_ite]; split)
        all_goals simp
      rcases key with k | ⟨r, k⟩
      · exact .inl ⟨_, k, ⟨i + 1, hlt, rfl⟩, by simp; omega⟩
      · exact .inr ⟨r, k, trivial⟩
    · have : i = s.data.toList.length := by omega
      subst this
      refine .inr ⟨true, ?_, trivial⟩
      unfold S50_0
      simp) n 0 ⟨0, Nat.zero_le _, rfl⟩ (by simp; omega)
  exact ⟨r, h⟩
def named (nm : ByteArray) (s : TTaxiStand) : Bool := s.Name.toList == nm.toList
theorem stand_eq (n : Nat) (l : List TTaxiStand) (nm : ByteArray) (hl : l.length ≤ 1000) (hn : l.length < n) : g95 n l nm = some (idxL (named nm) l) := by
  unfold g95 g155
  have e := index_loop (named nm) l (by omega) (S := fun y : Int => S155_0 n l nm 0 (l.length : Int) y) (fun i x hx => by
    have := some_lt hx
    unfold S155_0 g156
    rw [decide_eq_true (show (i : Int) < _ by omega), getI_at hx, wS (by omega)]
    simp only [cond_true, Option.bind_some, named]
    by_cases h : (x.Name.toList == nm.toList) = true <;> simp [h]) (by
    unfold S155_0
    simp) n hn
  rw [e]; rfl
def calledA (nm : ByteArray) (s : TTaxiAsk) : Bool := s.Call.toList == nm.toList
theorem has_eq (n : Nat) (l : List TTaxiAsk) (x : TTaxiAsk) (hl : l.length ≤ 1000) (hn : l.length < n) : g153 n l x.Call x.Stand x.Ready = some (decide (idxL (calledA x.Call) l ≥ 0)) := by
  unfold g153 g210
  have e := index_loop (calledA x.Call) l (by omega) (S := fun y : Int => S210_0 n l x.Call x.Stand x.Ready 0 (l.length : Int) y) (fun i x' hx => by
    have := some_lt hx
    unfold S210_0 g154
    rw [decide_eq_true (show (i : Int) < _ by omega), getI_at hx, wS (by omega)]
    simp only [cond_true, Option.bind_some, calledA]
    by_cases h : (x'.Call.toList == x.Call.toList) = true <;> simp [h]) (by
    unfold S210_0
    simp) n hn
  rw [e]; rfl
/- stands that are valid -/
theorem stands_tot (n : Nat) (hn : 100 < n) (l : List TTaxiStand) : ∃ z, g152 n l = some z ∧ (z = 0 → l.length ≤ 16 ∧ ∀ s ∈ l, 0 ≤ s.Time ∧ s.Time ≤ 1800) := by
  unfold g152
  by_cases h1 : (l.length : Int) > 16
  · exact ⟨2, by simp [h1], fun h => absurd h (by decide)⟩
  rw [decide_eq_false h1, cond_false]
  have hl : l.length ≤ 16 := by omega
  obtain ⟨r, h, hr⟩ := iterO_rule (S := fun y : Int => S152_0 n l 0 (l.length : Int) y) (fun x => ∃ i : Nat, i ≤ l.length ∧ x = (i : Int) ∧ ∀ j s, j < i → l[j]? = some s → 0 ≤ s.Time ∧ s.Time ≤ 1800) (fun r => r = 0 → ∀ s ∈ l, 0 ≤ s.Time ∧ s.Time ≤ 1800) (fun x => l.length - x.toNat) (by
    rintro _ ⟨i, hi, rfl, hP⟩
    rcases Nat.lt_or_ge i l.length with hlt | hge
    · have hx0 := List.getElem?_eq_getElem hlt
      generalize l[i] = x at hx0
      obtain ⟨b, hb⟩ := name_tot n (by omega) x.Name
      have hs := stand_eq n (l.take i) x.Name (by simp; omega) (by simp; omega)
      have key : (S152_0 n l 0 (l.length : Int) (i : Int) = some (.inl (((i + 1 : Nat) : Int))) ∧ 0 ≤ x.Time ∧ x.Time ≤ 1800) ∨ ∃ r, S152_0 n l 0 (l.length : Int) (i : Int) = some (.inr r) ∧ r ≠ 0 := by
        unfold S152_0
        rw [decide_eq_true (show (i : Int) < _ by omega), getI_at hx0, wS (by omega), slice_hi l i hi]
        simp only [cond_true, Option.bind_some, hb, hs]
        simp only [Bool.cond_eq_ite]
        repeat' split
        all_goals first
          | exact .inr ⟨_, rfl, by decide⟩
          | (refine .inl ⟨rfl, ?_, ?_⟩ <;> simp_all)
      rcases key with ⟨k, k1, k2⟩ | ⟨r, k, k0⟩
      · refine .inl ⟨_, k, ⟨i + 1, hlt, rfl, fun j s hj hs => ?_⟩, by simp; omega⟩
        rcases Nat.lt_or_ge j i with h | h
        · exact hP j s h hs
        · have : j = i := by omega
          rw [this, hx0] at hs
          cases hs
          exact ⟨k1, k2⟩
      · exact .inr ⟨r, k, fun h => absurd h k0⟩
    · have : i = l.length := by omega
      subst this
      refine .inr ⟨0, ?_, fun _ s hs => ?_⟩
      · unfold S152_0
        simp
      · obtain ⟨j, hj, rfl⟩ := List.getElem_of_mem hs
        exact hP j _ hj (List.getElem?_eq_getElem hj)) n 0 ⟨0, Nat.zero_le _, rfl, fun j s hj => absurd hj (Nat.not_lt_zero _)⟩ (by simp; omega)
  exact ⟨r, h, fun h0 => ⟨hl, hr h0⟩⟩
/- departures that are valid -/
structure AskOk (l : List TTaxiStand) (d : List TTaxiAsk) : Prop where
  nl : l.length ≤ 16
  nd : d.length ≤ 16
  times : ∀ s ∈ l, 0 ≤ s.Time ∧ s.Time ≤ 1800
  has : ∀ x ∈ d, 0 ≤ idxL (named x.Stand) l
  ready : ∀ x ∈ d, 0 ≤ x.Ready ∧ x.Ready ≤ 200000
  one : d.Pairwise fun x y => (x.Call.toList == y.Call.toList) = false
theorem check_tot (n : Nat) (hn : 100 < n) (l : List TTaxiStand) (d : List TTaxiAsk) : ∃ z, g94 n l d = some z ∧ (z = 0 → AskOk l d) := by
  unfold g94
  obtain ⟨z, hz, hz0⟩ := stands_tot n hn l
  rw [hz]
  simp only [Option.bind_some]
  by_cases h0 : ¬ z = 0
  · refine ⟨z, ?_, fun h => absurd h h0⟩
    rw [show (z != 0) = true from bne_iff_ne.2 h0]; rfl
  have h0 : z = 0 := Decidable.of_not_not h0
  obtain ⟨nl, times⟩ := hz0 h0
  subst h0
  by_cases h1 : (d.length : Int) > 16
  · exact ⟨2, by simp [h1], fun h => absurd h (by decide)⟩
  rw [decide_eq_false h1]
  simp only [bne_self_eq_false, cond_false]
  have hl : d.length ≤ 16 := by omega
  obtain ⟨r, h, hr⟩ := iterO_rule (S := fun y : Int => S94_0 n l d 0 (d.length : Int) y) (fun x => ∃ i : Nat, i ≤ d.length ∧ x = (i : Int) ∧ (∀ x ∈ d.take i, 0 ≤ idxL (named x.Stand) l ∧ 0 ≤ x.Ready ∧ x.Ready ≤ 200000) ∧ (d.take i).Pairwise fun x y => (x.Call.toList == y.Call.toList) = false) (fun r => r = 0 → AskOk l d) (fun x => d.length - x.toNat) (by
    rintro _ ⟨i, hi, rfl, hP, hQ⟩
    rcases Nat.lt_or_ge i d.length with hlt | hge
    · have hx0 := List.getElem?_eq_getElem hlt
      have htk : d.take (i + 1) = d.take i ++ [d[i]] := List.take_succ_eq_append_getElem hlt
      generalize d[i] = x at hx0 htk
      obtain ⟨b, hb⟩ := name_tot n (by omega) x.Call
      have hs := stand_eq n l x.Stand (by omega) (by omega)
      have hh := has_eq n (d.take i) x (by simp; omega) (by simp; omega)
      have key : (S94_0 n l d 0 (d.length : Int) (i : Int) = some (.inl (((i + 1 : Nat) : Int))) ∧ (0 ≤ idxL (named x.Stand) l ∧ 0 ≤ x.Ready ∧ x.Ready ≤ 200000) ∧ idxL (calledA x.Call) (d.take i) < 0) ∨ ∃ r, S94_0 n l d 0 (d.length : Int) (i : Int) = some (.inr r) ∧ r ≠ 0 := by
        unfold S94_0
        rw [decide_eq_true (show (i : Int) < _ by omega), getI_at hx0, wS (by omega), slice_hi d i hi]
        simp only [cond_true, Option.bind_some, hb, hs, hh]
        simp only [Bool.cond_eq_ite]
        repeat' split
        all_goals first
          | exact .inr ⟨_, rfl, by decide⟩
          | (refine .inl ⟨rfl, ⟨?_, ?_, ?_⟩, ?_⟩ <;> simp_all)
      rcases key with ⟨k, k1, k2⟩ | ⟨r, k, k0⟩
      · refine .inl ⟨_, k, ⟨i + 1, hlt, rfl, fun y hy => ?_, ?_⟩, by simp; omega⟩
        · rw [htk] at hy
          rcases List.mem_append.1 hy with hy | hy
          · exact hP y hy
          · simp at hy; subst hy; exact k1
        · rw [htk, List.pairwise_append]
          refine ⟨hQ, by simp, fun y hy z hz => ?_⟩
          simp at hz
          subst hz
          exact (idxL_neg _ _).1 k2 y hy
      · exact .inr ⟨r, k, fun h => absurd h k0⟩
    · have : i = d.length := by omega
      subst this
      rw [List.take_length] at hP hQ
      refine .inr ⟨0, ?_, fun _ => ⟨nl, hl, times, fun x hx => (hP x hx).1, fun x hx => (hP x hx).2, hQ⟩⟩
      unfold S94_0
      simp) n 0 ⟨0, Nat.zero_le _, rfl, fun x hx => by simp at hx, by simp⟩ (by simp; omega)
  exact ⟨r, h, hr⟩
end Go.Proofs.YtbnnndfcaehlpaaGreatDoor
