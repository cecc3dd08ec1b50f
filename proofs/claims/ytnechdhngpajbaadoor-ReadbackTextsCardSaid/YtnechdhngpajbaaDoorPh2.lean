/- Clearances as texts: phrase.Check, Print, Back, Parse as plain programs. -/
import Derived.Test.YtnechdhngpajbaaDoorPh1
import Derived.Test.YtnechdhngpajbaaDoorChart
set_option linter.unusedVariables false
set_option linter.unusedSimpArgs false
namespace Go.Proofs.YtnechdhngpajbaaDoor
def wordsL : List ByteArray := [(⟨#[72, 69, 73, 71, 72, 84]⟩ : ByteArray), (⟨#[72, 69, 65, 68, 73, 78, 71]⟩ : ByteArray), (⟨#[83, 80, 69, 69, 68]⟩ : ByteArray), (⟨#[68, 73, 82, 69, 67, 84]⟩ : ByteArray), (⟨#[72, 79, 76, 68]⟩ : ByteArray), (⟨#[67, 79, 78, 84, 65, 67, 84]⟩ : ByteArray), (⟨#[76, 65, 78, 68]⟩ : ByteArray)]
def kindB (s : ByteArray) : Int := idxL (fun x => decide (s = x)) wordsL
theorem kind_eq (n : Nat) (hn : 16 < n) (s : ByteArray) : g41 n s = some (kindB s) := by
  unfold g41 g48
  show (iterO (fun y : Int => S48_0 n wordsL s 0 (wordsL.length : Int) y) n 0).bind _ = _
  have e := index_loop (fun x : ByteArray => decide (s = x)) wordsL (by decide) (S := fun y : Int => S48_0 n wordsL s 0 (wordsL.length : Int) y) (fun i x hx => by
    have h7 : wordsL.length = 7 := rfl
    have := some_lt hx
    unfold S48_0
    simp only [decide_eq_true (show (i : Int) < (wordsL.length : Int) by omega), getI_at hx, wS (show i < 9223372036854775807 by omega), cond_true, Option.bind_some, beqL]
    by_cases h : s = x <;> simp [h]) (by
    unfold S48_0
    simp) n (by have h7 : wordsL.length = 7 := rfl; omega)
  rw [e]; rfl
theorem kind_at {s : ByteArray} (h : 0 ≤ kindB s) : wordsL[(kindB s).toNat]? = some s ∧ kindB s ≤ 6 := by
  have h2 := idxL_ge (fun x => decide (s = x)) wordsL
  obtain ⟨x, h3, h4, -⟩ := idxL_at (fun x => decide (s = x)) wordsL h
  have h5 := of_decide_eq_true h4
  subst h5
  exact ⟨h3, by have : (wordsL.length : Int) = 7 := rfl; unfold kindB; omega⟩
theorem kind_word : ∀ (k : Nat) (x : ByteArray), wordsL[k]? = some x → kindB x = (k : Int)
  | 0, x, h => by simp only [wordsL, List.getElem?_cons_zero, Option.some.injEq] at h; subst h; decide
  | 1, x, h => by simp only [wordsL, List.getElem?_cons_succ, List.getElem?_cons_zero, Option.some.injEq] at h; subst h; decide
  | 2, x, h => by simp only [wordsL, List.getElem?_cons_succ, List.getElem?_cons_zero, Option.some.injEq] at h; subst h; decide
  | 3, x, h => by simp only [wordsL, List.getElem?_cons_succ, List.getElem?_cons_zero, Option.some.injEq] at h; subst h; decide
  | 4, x, h => by simp only [wordsL, List.getElem?_cons_succ, List.getElem?_cons_zero, Option.some.injEq] at h; subst h; decide
  | 5, x, h => by simp only [wordsL, List.getElem?_cons_succ, List.getElem?_cons_zero, Option.some.injEq] at h; subst h; decide
  | 6, x, h => by simp only [wordsL, List.getElem?_cons_succ, List.getElem?_cons_zero, Option.some.injEq] at h; subst h; decide
  | k + 7, x, h => by simp [wordsL] at h
theorem word_bytes : ∀ x ∈ wordsL, x.size ≤ 7 ∧ (∀ b ∈ x.data.toList, b ≠ 32) ∧ ∃ b, b ∈ x.data.toList ∧ 65 ≤ b.toNat := by
  intro x hx
  simp only [wordsL, List.mem_cons, List.not_mem_nil, or_false] at hx
  rcases hx with rfl | rfl | rfl | rfl | rfl | rfl | rfl
  · exact ⟨by decide, by decide, 72, by decide, by decide⟩
  · exact ⟨by decide, by decide, 72, by decide, by decide⟩
  · exact ⟨by decide, by decide, 83, by decide, by decide⟩
  · exact ⟨by decide, by decide, 68, by decide, by decide⟩
  · exact ⟨by decide, by decide, 72, by decide, by decide⟩
  · exact ⟨by decide, by decide, 67, by decide, by decide⟩
  · exact ⟨by decide, by decide, 76, by decide, by decide⟩
theorem kind_none {s : ByteArray} (h : ∀ b ∈ s.data.toList, ¬ 65 ≤ b.toNat) : kindB s < 0 := by
  rcases Int.lt_or_le (kindB s) 0 with h0 | h0
  · exact h0
  · obtain ⟨h1, -⟩ := kind_at h0
    obtain ⟨-, -, b, hb, h65⟩ := word_bytes s (List.mem_of_getElem? h1)
    exact absurd h65 (h b hb)
/- names -/
theorem chart_spec (n : Nat) (hn : 16 < n) (s : ByteArray) (h : g43 n s = some true) : 1 ≤ s.size ∧ s.size ≤ 8 ∧ ∀ b ∈ s.data.toList, b ≠ 32 := by
  unfold g43 at h
  by_cases h1 : (s.size : Int) < 1
  · rw [decide_eq_true h1] at h; simp at h
  by_cases h2 : (s.size : Int) > 8
  · rw [decide_eq_false h1, decide_eq_true h2] at h; simp at h
  have hl : s.data.toList.length = s.size := Array.length_toList
  rw [decide_eq_false h1, decide_eq_false h2, room_of (by omega) (by omega)] at h
  simp only [cond_false, Option.bind_some] at h
  refine ⟨by omega, by omega, ?_⟩
  obtain ⟨r, e1, e2⟩ := iter_each (S := fun y : Int => S43_0 n false (s.data.toList) ((s.data.toList).length : Int) y) s.data.toList (fun _ b => b ≠ 32) (fun r => r = false) true (fun i x hx => by
    have hlt := some_lt hx
    unfold S43_0
    simp only [decide_eq_true (show (i : Int) < (s.data.toList.length : Int) by omega), getI_at hx, wS (show i < 9223372036854775807 by omega), cond_true, Option.bind_some]
    by_cases h65 : (x.toNat : Int) ≥ 65
    · have hne : x ≠ 32 := by rintro rfl; exact absurd h65 (by decide)
      rw [decide_eq_true h65, cond_true]
      by_cases h90 : (x.toNat : Int) ≤ 90
      · rw [decide_eq_true h90, cond_true]; exact .inl ⟨rfl, hne⟩
      · rw [decide_eq_false h90, cond_false]
        by_cases hi : (i : Int) > 0
        · rw [decide_eq_true hi, cond_true]
          by_cases h48 : (x.toNat : Int) ≥ 48
          · rw [decide_eq_true h48, cond_true]
            by_cases h57 : (x.toNat : Int) ≤ 57
            · rw [decide_eq_true h57]; exact .inl ⟨rfl, hne⟩
            · rw [decide_eq_false h57]; exact .inr ⟨false, rfl, rfl⟩
          · rw [decide_eq_false h48]; exact .inr ⟨false, rfl, rfl⟩
        · rw [decide_eq_false hi]; exact .inr ⟨false, rfl, rfl⟩
    · rw [decide_eq_false h65, cond_false]
      by_cases hi : (i : Int) > 0
      · rw [decide_eq_true hi, cond_true]
        by_cases h48 : (x.toNat : Int) ≥ 48
        · have hne : x ≠ 32 := by rintro rfl; exact absurd h48 (by decide)
          rw [decide_eq_true h48, cond_true]
          by_cases h57 : (x.toNat : Int) ≤ 57
          · rw [decide_eq_true h57]; exact .inl ⟨rfl, hne⟩
          · rw [decide_eq_false h57]; exact .inr ⟨false, rfl, rfl⟩
        · rw [decide_eq_false h48]; exact .inr ⟨false, rfl, rfl⟩
      · rw [decide_eq_false hi]; exact .inr ⟨false, rfl, rfl⟩) (by
    unfold S43_0
    simp) n (by omega)
  rw [e1] at h
  rcases e2 with rfl | ⟨rfl, e2⟩
  · cases h
  · intro b hb
    obtain ⟨i, hi⟩ := List.mem_iff_getElem?.1 hb
    exact e2 i b hi
def NameOk (s : ByteArray) : Prop := 1 ≤ s.size ∧ s.size ≤ 8 ∧ (∀ b ∈ s.data.toList, b ≠ 32) ∧ kindB s < 0
theorem name_cases (n : Nat) (hn : 16 < n) (s : ByteArray) : g38 n s = some false ∨ (g38 n s = some true ∧ NameOk s) := by
  unfold g38
  obtain ⟨b, hb⟩ := name_tot n hn s
  rw [hb, kind_eq n hn]
  cases b with
  | false => exact .inl rfl
  | true =>
    obtain ⟨h1, h2, h3⟩ := chart_spec n hn s hb
    simp only [Option.bind_some, cond_true]
    by_cases hk : kindB s < 0
    · rw [decide_eq_true hk]; exact .inr ⟨rfl, h1, h2, h3, hk⟩
    · rw [decide_eq_false hk]; exact .inl rfl
structure Sayable (c : TClearance) : Prop where
  call : NameOk c.Call
  k0 : 0 ≤ c.Kind
  k6 : c.Kind ≤ 6
  fix : 2 < c.Kind → c.Value = 0 ∧ NameOk c.Fix
  num : c.Kind ≤ 2 → c.Fix = ⟨#[]⟩ ∧ 0 ≤ c.Value ∧ c.Value ≤ 60000
theorem check_cases (n : Nat) (hn : 16 < n) (c : TClearance) : (∃ z, z ≠ 0 ∧ g32 n c = some z) ∨ (g32 n c = some 0 ∧ Sayable c) := by
  unfold g32
  rcases name_cases n hn c.Call with h | ⟨h, hc⟩
  · rw [h]; exact .inl ⟨3, by decide, rfl⟩
  rw [h]
  simp only [Option.bind_some, Bool.not_true, cond_false]
  by_cases h1 : c.Kind < 0
  · rw [decide_eq_true h1]; exact .inl ⟨1, by decide, rfl⟩
  by_cases h2 : c.Kind > 6
  · rw [decide_eq_false h1, decide_eq_true h2]; exact .inl ⟨1, by decide, rfl⟩
  rw [decide_eq_false h1, decide_eq_false h2]
  simp only [cond_false]
  by_cases h3 : c.Kind > 2
  · rw [decide_eq_true h3, cond_true]
    by_cases h4 : c.Value = 0
    · have e : (c.Value != 0) = false := by simp [h4]
      rw [e, cond_false]
      rcases name_cases n hn c.Fix with h5 | ⟨h5, hf⟩
      · rw [h5]; exact .inl ⟨3, by decide, rfl⟩
      · rw [h5]; exact .inr ⟨rfl, hc, by omega, by omega, fun _ => ⟨h4, hf⟩, fun h => by omega⟩
    · have e : (c.Value != 0) = true := by simp [h4]
      rw [e, cond_true]; exact .inl ⟨3, by decide, rfl⟩
  · rw [decide_eq_false h3, cond_false, beqL]
    by_cases h4 : c.Fix = ⟨#[]⟩
    · rw [decide_eq_true h4]
      simp only [Bool.not_true, cond_false]
      by_cases h5 : c.Value < 0
      · rw [decide_eq_true h5]; exact .inl ⟨4, by decide, rfl⟩
      rw [decide_eq_false h5, cond_false]
      obtain ⟨x, hx, hx2⟩ : ∃ x, getI ([60000, 4095, 400] : List Int) c.Kind = some x ∧ x ≤ 60000 := by
        rcases (by omega : c.Kind = 0 ∨ c.Kind = 1 ∨ c.Kind = 2) with h | h | h <;> rw [h] <;> exact ⟨_, rfl, by decide⟩
      rw [hx]
      simp only [Option.bind_some]
      by_cases h6 : c.Value > x
      · rw [decide_eq_true h6]; exact .inl ⟨4, by decide, rfl⟩
      · rw [decide_eq_false h6]; exact .inr ⟨rfl, hc, by omega, by omega, fun h => by omega, fun _ => ⟨h4, by omega, by omega⟩⟩
    · rw [decide_eq_false h4]; exact .inl ⟨3, by decide, rfl⟩
/- what is said -/
def wordOf (c : TClearance) : ByteArray := (wordsL[c.Kind.toNat]?).getD ⟨#[]⟩
def restOf (c : TClearance) : ByteArray := if 2 < c.Kind then c.Fix else ⟨(Lib.itoa c.Value).toArray⟩
theorem word_at {c : TClearance} (h : Sayable c) : getI wordsL c.Kind = some (wordOf c) ∧ wordsL[c.Kind.toNat]? = some (wordOf c) := by
  have h0 := h.k0; have h6 := h.k6
  obtain ⟨k, hk⟩ : ∃ k : Nat, c.Kind = (k : Int) := ⟨c.Kind.toNat, by omega⟩
  have hlt : k < wordsL.length := by have : wordsL.length = 7 := rfl; omega
  unfold wordOf
  rw [hk, getI_nat, Int.toNat_natCast, List.getElem?_eq_getElem hlt]
  exact ⟨rfl, rfl⟩
theorem word_kind {c : TClearance} (h : Sayable c) : kindB (wordOf c) = c.Kind := by
  have h0 := h.k0
  rw [kind_word _ _ (word_at h).2]; omega
theorem word_facts {c : TClearance} (h : Sayable c) : (wordOf c).size ≤ 7 ∧ ∀ b ∈ (wordOf c).data.toList, b ≠ 32 := by
  obtain ⟨h1, h2, -⟩ := word_bytes _ (List.mem_of_getElem? (word_at h).2)
  exact ⟨h1, h2⟩
theorem rest_facts {c : TClearance} (h : Sayable c) : (restOf c).size ≤ 21 ∧ (∀ b ∈ (restOf c).data.toList, b ≠ 32) ∧ kindB (restOf c) < 0 := by
  unfold restOf
  by_cases hk : 2 < c.Kind
  · rw [if_pos hk]
    obtain ⟨-, h1, h2, h3, h4⟩ := h.fix hk
    exact ⟨by omega, h3, h4⟩
  · rw [if_neg hk]
    obtain ⟨-, h1, h2⟩ := h.num (by omega)
    refine ⟨?_, fun b hb => ?_, kind_none fun b hb => ?_⟩
    · show (Lib.itoa c.Value).toArray.size ≤ 21
      have := Lib.itoa_length_le c.Value (by omega) (by omega)
      simpa using this
    · have := itoa_digits c.Value h1 b (by simpa using hb)
      rintro rfl
      exact absurd this.1 (by decide)
    · have := itoa_digits c.Value h1 b (by simpa using hb)
      omega
theorem str_ok {a b : ByteArray} (h : a.size + b.size ≤ 1000) : strO a b = some (a ++ b) := by unfold strO; rw [if_pos (by omega)]
theorem size_app (a b : ByteArray) : (a ++ b).size = a.size + b.size := ByteArray.size_append
theorem data_app (a b : ByteArray) : (a ++ b).data.toList = a.data.toList ++ b.data.toList := by rw [ByteArray.data_append, Array.toList_append]
theorem what_eq (n : Nat) {c : TClearance} (h : Sayable c) : g33 n c = some (wordOf c ++ ⟨#[32]⟩ ++ restOf c) := by
  unfold g33
  obtain ⟨hw, -⟩ := word_at h
  obtain ⟨w7, -⟩ := word_facts h
  obtain ⟨r8, -, -⟩ := rest_facts h
  have hw : getI ([(⟨#[72, 69, 73, 71, 72, 84]⟩ : ByteArray), (⟨#[72, 69, 65, 68, 73, 78, 71]⟩ : ByteArray), (⟨#[83, 80, 69, 69, 68]⟩ : ByteArray), (⟨#[68, 73, 82, 69, 67, 84]⟩ : ByteArray), (⟨#[72, 79, 76, 68]⟩ : ByteArray), (⟨#[67, 79, 78, 84, 65, 67, 84]⟩ : ByteArray), (⟨#[76, 65, 78, 68]⟩ : ByteArray)] : List ByteArray) c.Kind = some (wordOf c) := hw
  have e32 : (⟨#[32]⟩ : ByteArray).size = 1 := rfl
  unfold restOf at *
  by_cases hk : 2 < c.Kind
  · rw [decide_eq_true (show c.Kind > 2 from hk), cond_true, hw]
    rw [if_pos hk] at r8 ⊢
    simp only [Option.bind_some]
    rw [str_ok (by omega)]
    simp only [Option.bind_some]
    rw [str_ok (by rw [size_app]; omega)]
    rfl
  · rw [decide_eq_false (show ¬ c.Kind > 2 from hk), cond_false, hw]
    rw [if_neg hk] at r8 ⊢
    obtain ⟨-, v0, v1⟩ := h.num (by omega)
    simp only [Option.bind_some]
    rw [str_ok (by omega)]
    have hi : g39 n c.Value = some ⟨(Lib.itoa c.Value).toArray⟩ := by unfold g39; rw [if_pos ⟨by omega, by omega⟩]
    simp only [Option.bind_some, hi]
    rw [str_ok (by rw [size_app]; omega)]
    rfl
def printOf (c : TClearance) : ByteArray := c.Call ++ ⟨#[32]⟩ ++ (wordOf c ++ ⟨#[32]⟩ ++ restOf c)
def backOf (c : TClearance) : ByteArray := wordOf c ++ ⟨#[32]⟩ ++ restOf c ++ ⟨#[32]⟩ ++ c.Call
theorem print_cases (n : Nat) (hn : 16 < n) (c : TClearance) : (∃ z, z ≠ 0 ∧ g32 n c = some z ∧ g17 n c = some (⟨#[]⟩, z) ∧ g18 n c = some (⟨#[]⟩, z)) ∨ (Sayable c ∧ g32 n c = some 0 ∧ g17 n c = some (printOf c, 0) ∧ g18 n c = some (backOf c, 0)) := by
  unfold g17 g18
  rcases check_cases n hn c with ⟨z, hz, h⟩ | ⟨h, hs⟩
  · rw [h]
    simp only [Option.bind_some, bne_iff_ne.2 hz, cond_true]
    exact .inl ⟨z, hz, rfl, rfl, rfl⟩
  · rw [h]
    obtain ⟨w7, -⟩ := word_facts hs
    obtain ⟨r8, -, -⟩ := rest_facts hs
    obtain ⟨c1, c8, -, -⟩ := hs.call
    have e32 : (⟨#[32]⟩ : ByteArray).size = 1 := rfl
    simp only [Option.bind_some, bne_self_eq_false, cond_false, what_eq n hs]
    rw [str_ok (by omega), str_ok (a := wordOf c ++ ⟨#[32]⟩ ++ restOf c) (by rw [size_app, size_app]; omega)]
    simp only [Option.bind_some]
    rw [str_ok (by rw [size_app, size_app, size_app]; omega), str_ok (by rw [size_app, size_app, size_app]; omega)]
    exact .inr ⟨hs, by first | trivial | rfl, rfl, rfl⟩
theorem print_sp {c : TClearance} (h : Sayable c) : sp (printOf c).data.toList = [c.Call.data.toList, (wordOf c).data.toList, (restOf c).data.toList] ∧ (printOf c).size ≤ 120 := by
  obtain ⟨w7, w32⟩ := word_facts h
  obtain ⟨r8, r32, -⟩ := rest_facts h
  obtain ⟨c1, c8, c32, -⟩ := h.call
  have e32 : (⟨#[32]⟩ : ByteArray).size = 1 := rfl
  unfold printOf
  refine ⟨?_, by rw [size_app, size_app, size_app, size_app]; omega⟩
  simp only [data_app]
  have e : (⟨#[32]⟩ : ByteArray).data.toList = [32] := rfl
  rw [List.append_assoc, List.append_assoc]
  show sp (c.Call.data.toList ++ 32 :: ((wordOf c).data.toList ++ 32 :: (restOf c).data.toList)) = _
  rw [sp_cut _ _ c32, sp_cut _ _ w32, sp_none _ r32]
theorem back_sp {c : TClearance} (h : Sayable c) : sp (backOf c).data.toList = [(wordOf c).data.toList, (restOf c).data.toList, c.Call.data.toList] ∧ (backOf c).size ≤ 120 := by
  obtain ⟨w7, w32⟩ := word_facts h
  obtain ⟨r8, r32, -⟩ := rest_facts h
  obtain ⟨c1, c8, c32, -⟩ := h.call
  have e32 : (⟨#[32]⟩ : ByteArray).size = 1 := rfl
  unfold backOf
  refine ⟨?_, by rw [size_app, size_app, size_app, size_app]; omega⟩
  simp only [data_app]
  have e : (⟨#[32]⟩ : ByteArray).data.toList = [32] := rfl
  simp only [List.append_assoc]
  show sp ((wordOf c).data.toList ++ 32 :: ((restOf c).data.toList ++ 32 :: c.Call.data.toList)) = _
  rw [sp_cut _ _ w32, sp_cut _ _ r32, sp_none _ c32]
/- what is read -/
def readOf (call word rest : ByteArray) : TClearance × Bool :=
  if kindB word < 0 then (⟨call, kindB word, 0, ⟨#[]⟩⟩, false)
  else if 2 < kindB word then (⟨call, kindB word, 0, rest⟩, true)
  else match Lib.atoiAll rest.data.toList with
    | .ok v => (⟨call, kindB word, v, ⟨#[]⟩⟩, decide (Lib.itoa v = rest.data.toList))
    | .«syntax» => (⟨call, kindB word, 0, ⟨#[]⟩⟩, false)
    | .range => (⟨call, kindB word, Lib.atoiSat rest.data.toList, ⟨#[]⟩⟩, false)
theorem read_eq (n : Nat) (hn : 16 < n) (call word rest : ByteArray) (hr : rest.size ≤ 1000) : g35 n call word rest = some (readOf call word rest) := by
  unfold g35 readOf
  rw [kind_eq n hn]
  simp only [Option.bind_some]
  by_cases h1 : kindB word < 0
  · rw [decide_eq_true h1, if_pos h1]; rfl
  rw [decide_eq_false h1, if_neg h1, cond_false]
  by_cases h2 : 2 < kindB word
  · rw [decide_eq_true (show kindB word > 2 from h2), if_pos h2]; rfl
  rw [decide_eq_false (show ¬ kindB word > 2 from h2), if_neg h2, cond_false]
  unfold g42
  rw [if_pos (by omega)]
  cases ha : Lib.atoiAll rest.data.toList with
  | ok v =>
    have hv := atoi_range ha
    simp only [Option.bind_some, cond_true]
    have hi : g39 n v = some ⟨(Lib.itoa v).toArray⟩ := by unfold g39; rw [if_pos hv]
    rw [hi]
    simp only [Option.bind_some, beqL]
    have e : decide ((⟨(Lib.itoa v).toArray⟩ : ByteArray) = rest) = decide (Lib.itoa v = rest.data.toList) := by
      rw [Bool.eq_iff_iff, decide_eq_true_iff, decide_eq_true_iff]
      constructor
      · intro h; rw [← h]
      · intro h; rw [h]
    rw [e]
  | «syntax» => simp only [Option.bind_some, cond_false]
  | range => simp only [Option.bind_some, cond_false]
/- a text of three parts -/
theorem parts3 {s : ByteArray} {x y z : List UInt8} (h : sp s.data.toList = [x, y, z]) : Lib.splitB ⟨#[32]⟩ 0 (Lib.countB s ⟨#[32]⟩) s = [⟨x.toArray⟩, ⟨y.toArray⟩, ⟨z.toArray⟩] := by
  have hs := split_plain s
  rw [h] at hs
  match hq : Lib.splitB ⟨#[32]⟩ 0 (Lib.countB s ⟨#[32]⟩) s, hs with
  | [a, b, c], hs =>
    simp only [List.map_cons, List.map_nil, List.cons.injEq, and_true] at hs
    obtain ⟨rfl, rfl, rfl⟩ := hs
    rfl
  | [], hs => simp at hs
  | [a], hs => simp at hs
  | [a, b], hs => simp at hs
  | a :: b :: c :: d :: r, hs => simp at hs
theorem parts_len (s : ByteArray) : (Lib.splitB ⟨#[32]⟩ 0 (Lib.countB s ⟨#[32]⟩) s).length = (sp s.data.toList).length := by
  rw [← split_plain, List.length_map]
theorem joinS_le : ∀ (L : List (List UInt8)) (x : List UInt8), x ∈ L → x.length ≤ (joinS L).length
  | [], x, h => by simp at h
  | [y], x, h => by simp only [List.mem_singleton] at h; subst h; exact Nat.le_refl _
  | y :: z :: r, x, h => by
    have ih := joinS_le (z :: r) x
    simp only [joinS, List.length_append, List.length_cons]
    rcases List.mem_cons.1 h with rfl | h
    · omega
    · have := ih h; omega
theorem part_size {s : ByteArray} {x : List UInt8} (h : x ∈ sp s.data.toList) : x.length ≤ s.size := by
  have := joinS_le _ _ h
  rw [join_sp] at this
  have e : s.data.toList.length = s.size := Array.length_toList
  omega
def parseOf (x y z : ByteArray) : TClearance × Bool × Bool := if (readOf x y z).2 then ((readOf x y z).1, false, true) else ((readOf z x y).1, true, (readOf z x y).2)
theorem parse_cases (n : Nat) (hn : 16 < n) (s : ByteArray) : (∃ z, z ≠ 0 ∧ g19 n s = some (⟨⟨#[]⟩, 0, 0, ⟨#[]⟩⟩, false, z)) ∨ (∃ x y z : List UInt8, s.size ≤ 120 ∧ sp s.data.toList = [x, y, z] ∧ (parseOf ⟨x.toArray⟩ ⟨y.toArray⟩ ⟨z.toArray⟩).2.2 = true ∧ Sayable (parseOf ⟨x.toArray⟩ ⟨y.toArray⟩ ⟨z.toArray⟩).1 ∧ g32 n (parseOf ⟨x.toArray⟩ ⟨y.toArray⟩ ⟨z.toArray⟩).1 = some 0 ∧ g19 n s = some ((parseOf ⟨x.toArray⟩ ⟨y.toArray⟩ ⟨z.toArray⟩).1, (parseOf ⟨x.toArray⟩ ⟨y.toArray⟩ ⟨z.toArray⟩).2.1, 0)) := by
  unfold g19
  by_cases h1 : (s.size : Int) > 120
  · rw [decide_eq_true h1]; exact .inl ⟨2, by decide, rfl⟩
  rw [decide_eq_false h1, cond_false]
  have hsp : g34 n s ⟨#[32]⟩ = some (Lib.splitB ⟨#[32]⟩ 0 (Lib.countB s ⟨#[32]⟩) s) := by
    unfold g34
    rw [if_pos ⟨by omega, rfl⟩]
  rw [hsp]
  simp only [Option.bind_some, parts_len]
  by_cases h2 : (sp s.data.toList).length = 3
  · have e : (((sp s.data.toList).length : Int) != 3) = false := by simp [h2]
    rw [e, cond_false]
    obtain ⟨x, y, z, hxyz⟩ : ∃ x y z, sp s.data.toList = [x, y, z] := by
      match hq : sp s.data.toList, h2 with
      | [a, b, c], _ => exact ⟨a, b, c, rfl⟩
    have hx := part_size (s := s) (x := x) (by rw [hxyz]; simp)
    have hy := part_size (s := s) (x := y) (by rw [hxyz]; simp)
    have hz := part_size (s := s) (x := z) (by rw [hxyz]; simp)
    rw [parts3 hxyz]
    have g0 : getI ([⟨x.toArray⟩, ⟨y.toArray⟩, ⟨z.toArray⟩] : List ByteArray) 0 = some ⟨x.toArray⟩ := rfl
    have g1 : getI ([⟨x.toArray⟩, ⟨y.toArray⟩, ⟨z.toArray⟩] : List ByteArray) 1 = some ⟨y.toArray⟩ := rfl
    have g2 : getI ([⟨x.toArray⟩, ⟨y.toArray⟩, ⟨z.toArray⟩] : List ByteArray) 2 = some ⟨z.toArray⟩ := rfl
    have sy : (⟨y.toArray⟩ : ByteArray).size ≤ 1000 := by show y.toArray.size ≤ 1000; simp; omega
    have sz : (⟨z.toArray⟩ : ByteArray).size ≤ 1000 := by show z.toArray.size ≤ 1000; simp; omega
    simp only [g0, g1, g2, Option.bind_some, read_eq n hn _ _ _ sz, read_eq n hn _ _ _ sy]
    unfold parseOf
    cases hr : (readOf ⟨x.toArray⟩ ⟨y.toArray⟩ ⟨z.toArray⟩).2 with
    | true =>
      simp only [Bool.not_true, cond_false]
      rcases check_cases n hn (readOf ⟨x.toArray⟩ ⟨y.toArray⟩ ⟨z.toArray⟩).1 with ⟨q, hq, h⟩ | ⟨h, hs⟩
      · rw [h]; simp only [Option.bind_some, bne_iff_ne.2 hq, cond_true]; exact .inl ⟨q, hq, rfl⟩
      · rw [h]; exact .inr ⟨x, y, z, by omega, hxyz, by simp [hr], by simpa [hr] using hs, by simpa [hr] using h, by simp [hr]⟩
    | false =>
      simp only [Bool.not_false, cond_true]
      cases hr2 : (readOf ⟨z.toArray⟩ ⟨x.toArray⟩ ⟨y.toArray⟩).2 with
      | false => simp only [Bool.not_false, cond_true]; exact .inl ⟨5, by decide, rfl⟩
      | true =>
        simp only [Bool.not_true, cond_false]
        rcases check_cases n hn (readOf ⟨z.toArray⟩ ⟨x.toArray⟩ ⟨y.toArray⟩).1 with ⟨q, hq, h⟩ | ⟨h, hs⟩
        · rw [h]; simp only [Option.bind_some, bne_iff_ne.2 hq, cond_true]; exact .inl ⟨q, hq, rfl⟩
        · rw [h]; exact .inr ⟨x, y, z, by omega, hxyz, by simp [hr, hr2], by simpa [hr] using hs, by simpa [hr] using h, by simp [hr]⟩
  · have e : (((sp s.data.toList).length : Int) != 3) = true := by simp; omega
    rw [e, cond_true]; exact .inl ⟨5, by decide, rfl⟩
/- what is said is read -/
theorem back_arr (a : ByteArray) : (⟨a.data.toList.toArray⟩ : ByteArray) = a := by simp
theorem read_said {c : TClearance} (h : Sayable c) : readOf c.Call (wordOf c) (restOf c) = (c, true) := by
  have hk := word_kind h
  have h0 := h.k0
  unfold readOf restOf
  rw [hk, if_neg (by omega)]
  by_cases h2 : 2 < c.Kind
  · obtain ⟨hv, -⟩ := h.fix h2
    rw [if_pos h2, if_pos h2, ← hv]
  · obtain ⟨hf, v0, v1⟩ := h.num (by omega)
    rw [if_neg h2, if_neg h2]
    have e : (⟨(Lib.itoa c.Value).toArray⟩ : ByteArray).data.toList = Lib.itoa c.Value := by simp
    rw [e, atoi_itoa c.Value v0 (by omega)]
    simp only [decide_true]
    rw [← hf]
theorem read_not {c : TClearance} (h : Sayable c) (a b : ByteArray) : (readOf a (restOf c) b).2 = false := by
  obtain ⟨-, -, hk⟩ := rest_facts h
  unfold readOf
  rw [if_pos hk]
theorem parse_print (n : Nat) (hn : 16 < n) {c : TClearance} (h : Sayable c) (hc : g32 n c = some 0) : g19 n (printOf c) = some (c, false, 0) := by
  obtain ⟨h1, h2⟩ := print_sp h
  unfold g19
  obtain ⟨w7, -⟩ := word_facts h
  obtain ⟨r8, -, -⟩ := rest_facts h
  have hsp : g34 n (printOf c) ⟨#[32]⟩ = some (Lib.splitB ⟨#[32]⟩ 0 (Lib.countB (printOf c) ⟨#[32]⟩) (printOf c)) := by
    unfold g34
    rw [if_pos ⟨by omega, rfl⟩]
  rw [decide_eq_false (show ¬ ((printOf c).size : Int) > 120 by omega), cond_false, hsp, parts3 h1]
  simp only [back_arr, Option.bind_some]
  have e : ((([c.Call, wordOf c, restOf c] : List ByteArray).length : Int) != 3) = false := rfl
  have g0 : getI ([c.Call, wordOf c, restOf c] : List ByteArray) 0 = some c.Call := rfl
  have g1 : getI ([c.Call, wordOf c, restOf c] : List ByteArray) 1 = some (wordOf c) := rfl
  have g2 : getI ([c.Call, wordOf c, restOf c] : List ByteArray) 2 = some (restOf c) := rfl
  rw [e, g0, g1, g2]
  simp only [cond_false, Option.bind_some, read_eq n hn _ _ _ (show (restOf c).size ≤ 1000 by omega), read_said h, Bool.not_true, hc]
  rfl
theorem parse_back (n : Nat) (hn : 16 < n) {c : TClearance} (h : Sayable c) (hc : g32 n c = some 0) : g19 n (backOf c) = some (c, true, 0) := by
  obtain ⟨h1, h2⟩ := back_sp h
  unfold g19
  obtain ⟨w7, -⟩ := word_facts h
  obtain ⟨r8, -, -⟩ := rest_facts h
  obtain ⟨c1, c8, -⟩ := h.call
  have hsp : g34 n (backOf c) ⟨#[32]⟩ = some (Lib.splitB ⟨#[32]⟩ 0 (Lib.countB (backOf c) ⟨#[32]⟩) (backOf c)) := by
    unfold g34
    rw [if_pos ⟨by omega, rfl⟩]
  rw [decide_eq_false (show ¬ ((backOf c).size : Int) > 120 by omega), cond_false, hsp, parts3 h1]
  simp only [back_arr, Option.bind_some]
  have e : ((([wordOf c, restOf c, c.Call] : List ByteArray).length : Int) != 3) = false := rfl
  have g0 : getI ([wordOf c, restOf c, c.Call] : List ByteArray) 0 = some (wordOf c) := rfl
  have g1 : getI ([wordOf c, restOf c, c.Call] : List ByteArray) 1 = some (restOf c) := rfl
  have g2 : getI ([wordOf c, restOf c, c.Call] : List ByteArray) 2 = some c.Call := rfl
  rw [e, g0, g1, g2]
  simp only [cond_false, Option.bind_some, read_eq n hn _ _ _ (show c.Call.size ≤ 1000 by omega), read_eq n hn _ _ _ (show (restOf c).size ≤ 1000 by omega), read_not h, read_said h, Bool.not_true, Bool.not_false, cond_true, hc]
  rfl
end Go.Proofs.YtnechdhngpajbaaDoor
