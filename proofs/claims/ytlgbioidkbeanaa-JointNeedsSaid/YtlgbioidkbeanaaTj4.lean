/- joint.Check and few: what they say. -/
import Derived.Test.YtlgbioidkbeanaaTj3
import Derived.Test.YtlgbioidkbeanaaTj5
set_option linter.unusedVariables false
set_option linter.unusedSimpArgs false
namespace Go.Proofs.Ytlgbioidkbeanaa

structure OptOk (n : Nat) (x : TJointOption) : Prop where
  lo : 0 ≤ x.Cost
  hi : x.Cost ≤ 1000000
  chk : g33 n x.Tube = some 0
  ok : TubeOk x.Tube
structure JOk (n : Nat) (l : List (List TJointOption)) : Prop where
  len : l.length ≤ 6
  each : ∀ o ∈ l, 1 ≤ o.length ∧ o.length ≤ 8 ∧ ∀ x ∈ o, OptOk n x
  prod : prodL l ≤ 5000
theorem prodL_append (a b : List (List TJointOption)) : prodL (a ++ b) = prodL a * prodL b := by
  induction a with
  | nil => simp [prodL]
  | cons o a ih => simp only [List.cons_append, prodL, ih, Nat.mul_assoc]
/- the options of one flight -/
theorem opts_loop (n : Nat) (hn : big n) (c2 c3 : Int) (a0 : List (List TJointOption)) (c13 v14 : Int) (o : List TJointOption) (ho : o.length ≤ 8) :
    (iterO (fun y : Int => S23_0_0 n c2 c3 a0 c13 v14 o (o.length : Int) y) n (0) = some (.inl (c3, IntKind.wrap .i64 (v14 + 1))) ∧ ∀ x ∈ o, OptOk n x) ∨ ∃ z, z ≠ 0 ∧ iterO (fun y : Int => S23_0_0 n c2 c3 a0 c13 v14 o (o.length : Int) y) n (0) = some (.inr z) := by
  have hn64 : 64 < n := by unfold big at hn; omega
  obtain ⟨r, hr, h⟩ := iter_each (S := fun y : Int => S23_0_0 n c2 c3 a0 c13 v14 o (o.length : Int) y) o (fun i x => OptOk n x) (fun r => ∃ z, z ≠ 0 ∧ r = Sum.inr z) (.inl (c3, IntKind.wrap .i64 (v14 + 1))) (fun i x hx => by
    have hlt := some_lt hx
    unfold S23_0_0
    rw [decide_eq_true (show (i : Int) < (o.length : Int) by omega), cond_true, getI_at hx, Option.bind_some, wS (by omega)]
    by_cases h1 : x.Cost < 0
    · rw [decide_eq_true h1, cond_true]; exact .inr ⟨_, rfl, 4, by decide, rfl⟩
    rw [decide_eq_false h1, cond_false]
    by_cases h2 : x.Cost > 1000000
    · rw [decide_eq_true h2, cond_true]; exact .inr ⟨_, rfl, 4, by decide, rfl⟩
    rw [decide_eq_false h2, cond_false]
    rcases check_tot n hn64 x.Tube with ⟨e, ok⟩ | ⟨z, hz, e⟩
    · left
      rw [e, Option.bind_some, show ((0 : Int) != 0) = false from rfl, cond_false]
      exact ⟨rfl, by omega, by omega, e, ok⟩
    · right
      rw [e, Option.bind_some, show (z != 0) = true from bne_iff_ne.2 hz, cond_true]
      exact ⟨_, rfl, z, hz, rfl⟩) (by
    unfold S23_0_0
    rw [decide_eq_false (Int.lt_irrefl _)]; rfl) n (by omega)
  rcases h with ⟨z, hz, rfl⟩ | ⟨rfl, h⟩
  · exact .inr ⟨z, hz, hr⟩
  · left; exact ⟨hr, fun x hx => by obtain ⟨i, hi⟩ := List.getElem?_of_mem hx; exact h i x hi⟩
theorem jcheck (n : Nat) (hn : big n) (l : List (List TJointOption)) : (g23 n l = some 0 ∧ JOk n l) ∨ ∃ z, z ≠ 0 ∧ g23 n l = some z := by
  unfold g23
  by_cases hl : (l.length : Int) > 6
  · rw [decide_eq_true hl, cond_true]; exact .inr ⟨2, by decide, rfl⟩
  rw [decide_eq_false hl, cond_false]
  obtain ⟨r, hr, h⟩ := iterO_rule (S := fun y : Int × Int => S23_0 n (0) l (l.length : Int) y.1 y.2) (fun y => ∃ i : Nat, i ≤ l.length ∧ y = ((prodL (l.take i) : Int), (i : Int)) ∧ prodL (l.take i) ≤ 5000 ∧ ∀ o ∈ l.take i, 1 ≤ o.length ∧ o.length ≤ 8 ∧ ∀ x ∈ o, OptOk n x) (fun r => (r = 0 ∧ JOk n l) ∨ r ≠ 0) (fun y => l.length - y.2.toNat) (by
    rintro _ ⟨i, hi, rfl, hp, hall⟩
    simp only
    unfold S23_0
    rcases Nat.lt_or_ge i l.length with hlt | hge
    · have hx : l[i]? = some l[i] := List.getElem?_eq_getElem hlt
      rw [decide_eq_true (show (i : Int) < (l.length : Int) by omega), cond_true, getI_at hx, Option.bind_some]
      by_cases h0 : l[i].length = 0
      · rw [show ((l[i].length : Int) == 0) = true by simp [h0], cond_true]; exact .inr ⟨8, rfl, .inr (by decide)⟩
      rw [show ((l[i].length : Int) == 0) = false by simp; exact fun h => h0 (by simp [h]), cond_false]
      by_cases h8 : (l[i].length : Int) > 8
      · rw [decide_eq_true h8, cond_true]; exact .inr ⟨2, rfl, .inr (by decide)⟩
      rw [decide_eq_false h8, cond_false]
      have ht : l.take (i + 1) = l.take i ++ [l[i]] := List.take_succ_eq_append_getElem hlt
      have hprod : prodL (l.take (i + 1)) = prodL (l.take i) * l[i].length := by rw [ht, prodL_append]; simp [prodL]
      have hb : prodL (l.take i) * l[i].length ≤ 5000 * 8 := Nat.mul_le_mul hp (by omega)
      have hw : IntKind.wrap .i64 ((prodL (l.take i) : Int) * (l[i].length : Int)) = ((prodL (l.take (i + 1)) : Nat) : Int) := by
        rw [hprod, Int.natCast_mul]
        have := Int.natCast_mul (prodL (l.take i)) l[i].length
        exact wrap64 (by omega) (by omega)
      rw [hw]
      by_cases h5 : ((prodL (l.take (i + 1)) : Nat) : Int) > 5000
      · rw [decide_eq_true h5, cond_true]; exact .inr ⟨2, rfl, .inr (by decide)⟩
      rw [decide_eq_false h5, cond_false]
      rcases opts_loop n hn 0 ((prodL (l.take (i + 1)) : Nat) : Int) l (l.length : Int) (i : Int) l[i] (by omega) with ⟨e, hop⟩ | ⟨z, hz, e⟩
      · left
        rw [e]
        refine ⟨_, rfl, ⟨i + 1, hlt, by rw [wS (by omega)], by omega, fun o ho => ?_⟩, ?_⟩
        · rw [ht] at ho
          rcases List.mem_append.1 ho with q | q
          · exact hall o q
          · rw [List.mem_singleton.1 q]; exact ⟨by omega, by omega, hop⟩
        · rw [wS (by omega)]; simp only [Int.toNat_natCast]; omega
      · right
        rw [e]
        exact ⟨z, rfl, .inr hz⟩
    · right
      rw [decide_eq_false (by omega)]
      obtain rfl : i = l.length := by omega
      rw [List.take_length] at hp hall
      exact ⟨0, rfl, .inl ⟨rfl, by omega, hall, hp⟩⟩) n ((1), (0)) ⟨0, Nat.zero_le _, by simp [prodL], by simp [prodL], by simp⟩ (by unfold big at hn; show l.length - (0 : Int).toNat < n; omega)
  rcases h with ⟨rfl, h⟩ | h
  · exact .inl ⟨hr, h⟩
  · exact .inr ⟨r, h, hr⟩
theorem csep (n : Nat) (s : TSep) : g36 n s = some 0 ∨ ∃ z, z ≠ 0 ∧ g36 n s = some z := by
  unfold g36
  simp only [cond_eq_ite, decide_eq_true_eq]
  repeat' split
  all_goals first | exact .inl rfl | exact .inr ⟨_, by decide, rfl⟩
/- few -/
theorem few_opts (n : Nat) (hn : big n) (c2 : Bool) (c3 : Int) (a0 : List (List TJointOption)) (c9 v10 : Int) (o : List TJointOption) (ho : o.length ≤ 9223372036854775807) (hon : o.length < n) :
    iterO (fun y : Int => S8_0_0 n c2 c3 a0 c9 v10 o (o.length : Int) y) n (0) = some (if c3 > 200 then .inr false else .inl (c3, IntKind.wrap .i64 (v10 + 1))) ∨ iterO (fun y : Int => S8_0_0 n c2 c3 a0 c9 v10 o (o.length : Int) y) n (0) = some (.inr false) := by
  have hn64 : 64 < n := by unfold big at hn; omega
  obtain ⟨r, hr, h⟩ := iter_each (S := fun y : Int => S8_0_0 n c2 c3 a0 c9 v10 o (o.length : Int) y) o (fun i x => True) (fun r => r = Sum.inr false) (if c3 > 200 then .inr false else .inl (c3, IntKind.wrap .i64 (v10 + 1))) (fun i x hx => by
    have hlt := some_lt hx
    unfold S8_0_0
    rw [decide_eq_true (show (i : Int) < (o.length : Int) by omega), cond_true, getI_at hx, Option.bind_some, wS (by omega)]
    rcases small_cases n hn64 [x.Tube] 1 100 (by simp) (by simp) with ⟨e, -⟩ | e
    · left; rw [e]; exact ⟨rfl, trivial⟩
    · right; rw [e]; exact ⟨_, rfl, rfl⟩) (by
    unfold S8_0_0
    rw [decide_eq_false (Int.lt_irrefl _), cond_false]
    by_cases h : c3 > 200
    · rw [decide_eq_true h, if_pos h]; rfl
    · rw [decide_eq_false h, if_neg h]; rfl) n hon
  rcases h with rfl | ⟨rfl, h⟩
  · exact .inr hr
  · exact .inl hr
def prodM : List (List TJointOption) → Nat
  | [] => 1
  | o :: l => max 1 (min o.length 9) * prodM l
theorem prodM_append (a b : List (List TJointOption)) : prodM (a ++ b) = prodM a * prodM b := by
  induction a with
  | nil => simp [prodM]
  | cons o a ih => simp only [List.cons_append, prodM, ih, Nat.mul_assoc]
theorem few_cases (n : Nat) (hn : big n) (l : List (List TJointOption)) (hl : l.length ≤ 9223372036854775807) (hln : l.length < n) (ho : ∀ o ∈ l, o.length ≤ 9223372036854775807 ∧ o.length < n) : (g8 n l = some true ∧ prodM l ≤ 200) ∨ g8 n l = some false := by
  unfold g8
  obtain ⟨r, hr, h⟩ := iterO_rule (S := fun y : Int × Int => S8_0 n false l (l.length : Int) y.1 y.2) (fun y => ∃ i : Nat, i ≤ l.length ∧ y = ((prodM (l.take i) : Int), (i : Int)) ∧ prodM (l.take i) ≤ 200) (fun r => (r = true ∧ prodM l ≤ 200) ∨ r = false) (fun y => l.length - y.2.toNat) (by
    rintro _ ⟨i, hi, rfl, hp⟩
    simp only
    unfold S8_0
    rcases Nat.lt_or_ge i l.length with hlt | hge
    · have hx : l[i]? = some l[i] := List.getElem?_eq_getElem hlt
      have hob := ho _ (List.getElem_mem hlt)
      rw [decide_eq_true (show (i : Int) < (l.length : Int) by omega), cond_true, getI_at hx, Option.bind_some]
      have hm : (if (if (9 : Int) < (l[i].length : Int) then (9 : Int) else (l[i].length : Int)) > 1 then (if (9 : Int) < (l[i].length : Int) then (9 : Int) else (l[i].length : Int)) else 1) = ((max 1 (min l[i].length 9) : Nat) : Int) := by
        generalize l[i].length = q
        split <;> split <;> omega
      have ht : l.take (i + 1) = l.take i ++ [l[i]] := List.take_succ_eq_append_getElem hlt
      have hprod : prodM (l.take (i + 1)) = prodM (l.take i) * max 1 (min l[i].length 9) := by rw [ht, prodM_append]; simp [prodM]
      have hb : prodM (l.take i) * max 1 (min l[i].length 9) ≤ 200 * 9 := Nat.mul_le_mul hp (by omega)
      have hw : IntKind.wrap .i64 ((prodM (l.take i) : Int) * ((max 1 (min l[i].length 9) : Nat) : Int)) = ((prodM (l.take (i + 1)) : Nat) : Int) := by
        rw [hprod, Int.natCast_mul]
        have := Int.natCast_mul (prodM (l.take i)) (max 1 (min l[i].length 9))
        exact wrap64 (by omega) (by omega)
      rw [hm, hw]
      rcases few_opts n hn false ((prodM (l.take (i + 1)) : Nat) : Int) l (l.length : Int) (i : Int) l[i] hob.1 hob.2 with e | e
      · rw [e]
        by_cases h2 : ((prodM (l.take (i + 1)) : Nat) : Int) > 200
        · rw [if_pos h2]; exact .inr ⟨false, rfl, .inr rfl⟩
        · rw [if_neg h2]
          left
          refine ⟨_, rfl, ⟨i + 1, hlt, by rw [wS (by omega)], by omega⟩, ?_⟩
          rw [wS (by omega)]; simp only [Int.toNat_natCast]; omega
      · rw [e]; exact .inr ⟨false, rfl, .inr rfl⟩
    · right
      rw [decide_eq_false (by omega)]
      obtain rfl : i = l.length := by omega
      rw [List.take_length] at hp
      exact ⟨true, rfl, .inl ⟨rfl, hp⟩⟩) n ((1), (0)) ⟨0, Nat.zero_le _, by simp [prodM], by simp [prodM]⟩ (by show l.length - (0 : Int).toNat < n; omega)
  rcases h with ⟨rfl, h⟩ | rfl
  · exact .inl ⟨hr, h⟩
  · exact .inr hr
end Go.Proofs.Ytlgbioidkbeanaa
