/- Positions of controllers: Check, Names, find, Moves and Position as plain answers; the law ConfigMovings as a plain program. -/
import Derived.Test.YthjcdlbkdobmiaaX1G
import Derived.Test.YthjcdlbkdobmiaaPT
import Derived.Test.YthjcdlbkdobmiaaMath2
set_option linter.unusedVariables false
set_option linter.unusedSimpArgs false
namespace Go.Proofs.Ythjcdlbkdobmiaa

theorem str_inj {a b : ByteArray} (h : a.toList = b.toList) : a = b := by
  rw [ByteArray.toList_eq, ByteArray.toList_eq] at h
  exact ByteArray.ext (Array.toList_inj.1 h)
theorem name_ok (n : Nat) (hn : 16 < n) (s : ByteArray) : ∃ b, g22 n s = some b ∧ (b = true → 1 ≤ s.size) := by
  unfold g22
  by_cases h1 : (s.size : Int) < 1
  · exact ⟨false, by simp [h1], fun h => by cases h⟩
  by_cases h2 : (s.size : Int) > 8
  · exact ⟨false, by simp [h1, h2], fun h => by cases h⟩
  have hl : s.data.toList.length = s.size := Array.length_toList
  rw [decide_eq_false h1, decide_eq_false h2, room_of (by omega) (by omega)]
  simp only [cond_false, Option.bind_some]
  obtain ⟨r, h, -⟩ := iterO_rule (S := fun y : Int => S22_0 n false (s.data.toList) ((s.data.toList).length : Int) y) (fun x => ∃ i : Nat, i ≤ s.data.toList.length ∧ x = (i : Int)) (fun _ => True) (fun x => s.data.toList.length - x.toNat) (by
    rintro _ ⟨i, hi, rfl⟩
    rcases Nat.lt_or_ge i s.data.toList.length with hlt | hge
    · have hx := getI_at (List.getElem?_eq_getElem hlt)
      have hw := wS (i := i) (by omega)
      have key : S22_0 n false (s.data.toList) ((s.data.toList).length : Int) (i : Int) = some (.inl (((i + 1 : Nat) : Int))) ∨ ∃ r, S22_0 n false (s.data.toList) ((s.data.toList).length : Int) (i : Int) = some (.inr r) := by
        unfold S22_0
        rw [decide_eq_true (show (i : Int) < _ by omega), hx, hw]
        simp only [cond_true, Option.bind_some]
        repeat' (rw [Bool.cond_eq_ite]; split)
        all_goals simp
      rcases key with k | ⟨r, k⟩
      · exact .inl ⟨_, k, ⟨i + 1, hlt, rfl⟩, by simp; omega⟩
      · exact .inr ⟨r, k, trivial⟩
    · have : i = s.data.toList.length := by omega
      subst this
      refine .inr ⟨true, ?_, trivial⟩
      unfold S22_0
      simp) n 0 ⟨0, Nat.zero_le _, rfl⟩ (by simp; omega)
  exact ⟨r, h, fun _ => by omega⟩
def has (L : List ByteArray) (s : ByteArray) : Bool := L.any fun x => s.toList == x.toList
theorem has_iff {L : List ByteArray} {s : ByteArray} : has L s = true ↔ s ∈ L := by
  unfold has
  rw [List.any_eq_true]
  constructor
  · rintro ⟨x, hx, e⟩
    rw [str_inj (beq_iff_eq.1 e)]; exact hx
  · exact fun h => ⟨s, h, by simp⟩
theorem has_val (n : Nat) (L : List ByteArray) (hL : L.length < n) (hL2 : L.length ≤ 1000) (s : ByteArray) : g23 n L s = some (has L s) := by
  have e : g33 n L s = some (idxL (fun x : ByteArray => s.toList == x.toList) L) := by
    unfold g33
    refine index_loop (fun x : ByteArray => s.toList == x.toList) L (by omega) (S := fun y : Int => S33_0 n L s (0) (L.length : Int) y) (fun i x hx => ?_) ?_ n hL
    · have := some_lt hx
      unfold S33_0
      rw [decide_eq_true (show (i : Int) < _ by omega), cond_true, getI_at hx, Option.bind_some, wS (by omega)]
      cases s.toList == x.toList <;> rfl
    · unfold S33_0
      rw [decide_eq_false (Int.lt_irrefl _)]; rfl
  unfold g23
  rw [e, Option.bind_some]
  congr 1
  unfold has
  have hn := idxL_neg (fun x : ByteArray => s.toList == x.toList) L
  rcases Int.lt_or_le (idxL (fun x : ByteArray => s.toList == x.toList) L) 0 with h | h
  · rw [decide_eq_false (show ¬ idxL (fun x : ByteArray => s.toList == x.toList) L ≥ 0 by omega)]
    symm
    rw [List.any_eq_false]
    exact fun x hx => by have := hn.1 h x hx; simp [this]
  · rw [decide_eq_true h]
    symm
    by_cases hh : (L.any fun x => s.toList == x.toList) = true
    · exact hh
    · exfalso
      have := hn.2 (fun x hx => by
        cases hq : (s.toList == x.toList)
        · rfl
        · exact absurd (List.any_eq_true.2 ⟨x, hx, hq⟩) hh)
      omega
structure CfOk (a : List TConfigGroup) : Prop where
  len : a.length ≤ 12
  grp : ∀ g ∈ a, 1 ≤ g.Position.size ∧ g.Sectors ≠ []
  all : (a.flatMap (·.Sectors)).length ≤ 12
theorem take_one {α : Type} {l : List α} {i : Nat} {x : α} (h : l[i]? = some x) : l.take (i + 1) = l.take i ++ [x] := by rw [List.take_add_one, h]; rfl
/- the sectors of one position -/
theorem inner_loop (n : Nat) (hn : 30 < n) (a : List TConfigGroup) (c : Int) (v : Int) (s : List ByteArray) (p : ByteArray) (L : List ByteArray) (hL : L.length ≤ 12) : ∃ r, iterO (fun y : Int × List ByteArray => S11_0_0 n a 0 c v s (s.length : Int) p y.1 y.2) n ((0), L) = some r ∧ ((∃ z, z ≠ 0 ∧ r = .inr z) ∨ (r = .inl (IntKind.wrap .i64 (v + 1), L ++ s) ∧ (L ++ s).length ≤ 12)) := by
  refine iterO_rule (fun y : Int × List ByteArray => ∃ j : Nat, j ≤ s.length ∧ y = ((j : Int), L ++ s.take j) ∧ (L ++ s.take j).length ≤ 12) _ (fun y => 13 - y.2.length) ?_ n _ ⟨0, Nat.zero_le _, by simp, by simpa using hL⟩ (by show 13 - _ < n; omega)
  rintro _ ⟨j, hj, rfl, hM⟩
  show (∃ y, S11_0_0 n a 0 c v s (s.length : Int) p (j : Int) (L ++ s.take j) = some (.inl y) ∧ _ ∧ _) ∨ ∃ r, S11_0_0 n a 0 c v s (s.length : Int) p (j : Int) (L ++ s.take j) = some (.inr r) ∧ _
  have hjl : j ≤ 12 := by rw [List.length_append, List.length_take] at hM; omega
  rcases Nat.lt_or_ge j s.length with hlt | hge
  · have hx : s[j]? = some s[j] := List.getElem?_eq_getElem hlt
    generalize s[j] = x at hx
    have hval := has_val n (L ++ s.take j) (by omega) (by omega) x
    obtain ⟨b, hb, -⟩ := name_ok n (by omega) x
    unfold S11_0_0
    rw [decide_eq_true (show (j : Int) < (s.length : Int) by omega), cond_true, getI_at hx, Option.bind_some, hb, Option.bind_some]
    cases b with
    | false => exact .inr ⟨_, rfl, .inl ⟨3, by decide, rfl⟩⟩
    | true =>
    rw [Bool.not_true, cond_false, hval, Option.bind_some]
    cases has (L ++ s.take j) x with
    | true => exact .inr ⟨_, rfl, .inl ⟨7, by decide, rfl⟩⟩
    | false =>
    rw [cond_false]
    have tail : (∃ y, (bif (((L ++ s.take j).length : Int) == (12)) then some (.inr (.inr (2))) else (roomO ((L ++ s.take j).length + ([x] : List ByteArray).length) 16).bind fun _ => some (.inl ((IntKind.wrap .i64 ((j : Int) + (1))), ((L ++ s.take j) ++ ([x] : List ByteArray)))) : Option ((Int × List ByteArray) ⊕ ((Int × List ByteArray) ⊕ Int))) = some (.inl y) ∧ (∃ j' : Nat, j' ≤ s.length ∧ y = ((j' : Int), L ++ s.take j') ∧ (L ++ s.take j').length ≤ 12) ∧ 13 - y.2.length < 13 - (L ++ s.take j).length) ∨ ∃ r, (bif (((L ++ s.take j).length : Int) == (12)) then some (.inr (.inr (2))) else (roomO ((L ++ s.take j).length + ([x] : List ByteArray).length) 16).bind fun _ => some (.inl ((IntKind.wrap .i64 ((j : Int) + (1))), ((L ++ s.take j) ++ ([x] : List ByteArray)))) : Option ((Int × List ByteArray) ⊕ ((Int × List ByteArray) ⊕ Int))) = some (.inr r) ∧ ((∃ z, z ≠ 0 ∧ r = .inr z) ∨ (r = .inl (IntKind.wrap .i64 (v + 1), L ++ s) ∧ (L ++ s).length ≤ 12)) := by
      by_cases h12 : (((L ++ s.take j).length : Int) = 12)
      · rw [beq_iff_eq.2 h12, cond_true]
        exact .inr ⟨_, rfl, .inl ⟨2, by decide, rfl⟩⟩
      · rw [beq_eq_false_iff_ne.2 h12, cond_false, room_of (by simp only [List.length_singleton]; omega) (by simp only [List.length_singleton]; omega), Option.bind_some, wS (by omega)]
        have e : (L ++ s.take j) ++ [x] = L ++ s.take (j + 1) := by rw [take_one hx, List.append_assoc]
        rw [e]
        have hle : (L ++ s.take (j + 1)).length = (L ++ s.take j).length + 1 := by rw [← e]; simp; omega
        exact .inl ⟨_, rfl, ⟨j + 1, hlt, rfl, by omega⟩, by show 13 - (L ++ s.take (j + 1)).length < _; omega⟩
    by_cases hj0 : (j : Int) > 0
    · obtain ⟨i, rfl⟩ : ∃ i, j = i + 1 := ⟨j - 1, by omega⟩
      have hw : IntKind.wrap .i64 (((i + 1 : Nat) : Int) - 1) = (i : Int) := by rw [wrap64 (by omega) (by omega)]; omega
      have hy : s[i]? = some s[i] := List.getElem?_eq_getElem (by omega)
      rw [decide_eq_true hj0, cond_true, hw, getI_at hy, Option.bind_some]
      cases Op.bytesLess x.toList (s[i]).toList with
      | true => exact .inr ⟨_, rfl, .inl ⟨7, by decide, rfl⟩⟩
      | false => rw [cond_false]; exact tail
    · rw [decide_eq_false hj0, cond_false]; exact tail
  · have hj' : j = s.length := by omega
    subst hj'
    unfold S11_0_0
    rw [decide_eq_false (Int.lt_irrefl _), cond_false]
    refine .inr ⟨_, rfl, .inr ⟨by rw [List.take_length], by rw [List.take_length] at hM; exact hM⟩⟩
theorem check_cases (n : Nat) (hn : 30 < n) (a : List TConfigGroup) : ∃ z, g11 n a = some z ∧ (z = 0 → CfOk a) := by
  unfold g11
  by_cases hl : (a.length : Int) > 12
  · rw [decide_eq_true hl, cond_true]; exact ⟨2, rfl, fun h => by cases h⟩
  rw [decide_eq_false hl, cond_false]
  refine iterO_rule (S := fun y : Int × List ByteArray => S11_0 n a (0) (a.length : Int) y.1 y.2) (fun y => ∃ i : Nat, i ≤ a.length ∧ y = ((i : Int), (a.take i).flatMap (·.Sectors)) ∧ ((a.take i).flatMap (·.Sectors)).length ≤ 12 ∧ ∀ g ∈ a.take i, 1 ≤ g.Position.size ∧ g.Sectors ≠ []) (fun z => z = 0 → CfOk a) (fun y => a.length - y.1.toNat) ?_ n _ ⟨0, Nat.zero_le _, rfl, Nat.zero_le _, fun g hg => by cases hg⟩ (by show a.length - (0 : Int).toNat < n; omega)
  rintro _ ⟨i, hi, rfl, hM, hG⟩
  show (∃ y, S11_0 n a (0) (a.length : Int) (i : Int) ((a.take i).flatMap (·.Sectors)) = some (.inl y) ∧ _ ∧ _) ∨ ∃ r, S11_0 n a (0) (a.length : Int) (i : Int) ((a.take i).flatMap (·.Sectors)) = some (.inr r) ∧ _
  rcases Nat.lt_or_ge i a.length with hlt | hge
  · have hx : a[i]? = some a[i] := List.getElem?_eq_getElem hlt
    generalize a[i] = g at hx
    obtain ⟨b, hb, hb1⟩ := name_ok n (by omega) g.Position
    unfold S11_0
    rw [decide_eq_true (show (i : Int) < (a.length : Int) by omega), cond_true, getI_at hx, Option.bind_some, hb, Option.bind_some]
    cases b with
    | false => exact .inr ⟨_, rfl, fun h => by cases h⟩
    | true =>
    rw [Bool.not_true, cond_false]
    have tail : (∃ y, (bif ((g.Sectors.length : Int) == (0)) then some (.inr (8)) else iterO (fun y : Int × List ByteArray => S11_0_0 n a 0 (a.length : Int) (i : Int) g.Sectors (g.Sectors.length : Int) g.Position y.1 y.2) n ((0), (a.take i).flatMap (·.Sectors)) : Option ((Int × List ByteArray) ⊕ Int)) = some (.inl y) ∧ (∃ i' : Nat, i' ≤ a.length ∧ y = ((i' : Int), (a.take i').flatMap (·.Sectors)) ∧ ((a.take i').flatMap (·.Sectors)).length ≤ 12 ∧ ∀ g ∈ a.take i', 1 ≤ g.Position.size ∧ g.Sectors ≠ []) ∧ a.length - y.1.toNat < a.length - (i : Int).toNat) ∨ ∃ r, (bif ((g.Sectors.length : Int) == (0)) then some (.inr (8)) else iterO (fun y : Int × List ByteArray => S11_0_0 n a 0 (a.length : Int) (i : Int) g.Sectors (g.Sectors.length : Int) g.Position y.1 y.2) n ((0), (a.take i).flatMap (·.Sectors)) : Option ((Int × List ByteArray) ⊕ Int)) = some (.inr r) ∧ (r = 0 → CfOk a) := by
      by_cases h0 : (g.Sectors.length : Int) = 0
      · rw [beq_iff_eq.2 h0, cond_true]
        exact .inr ⟨_, rfl, fun h => by cases h⟩
      rw [beq_eq_false_iff_ne.2 h0, cond_false]
      obtain ⟨r, hr, ⟨z, hz, rfl⟩ | ⟨rfl, hle⟩⟩ := inner_loop n hn a (a.length : Int) (i : Int) g.Sectors g.Position ((a.take i).flatMap (·.Sectors)) hM
      · exact .inr ⟨z, hr, fun h => absurd h hz⟩
      · have e : (a.take i).flatMap (·.Sectors) ++ g.Sectors = (a.take (i + 1)).flatMap (·.Sectors) := by rw [take_one hx]; simp
        rw [wS (by omega)] at hr
        rw [e] at hr hle
        refine .inl ⟨_, hr, ⟨i + 1, hlt, rfl, hle, fun q hq => ?_⟩, by show a.length - ((i + 1 : Nat) : Int).toNat < _; omega⟩
        rw [take_one hx] at hq
        rcases List.mem_append.1 hq with k | k
        · exact hG q k
        · rw [List.mem_singleton.1 k]
          exact ⟨hb1 rfl, fun e => by rw [e] at h0; exact h0 rfl⟩
    by_cases hi0 : (i : Int) > 0
    · obtain ⟨q, rfl⟩ : ∃ q, i = q + 1 := ⟨i - 1, by omega⟩
      have hw : IntKind.wrap .i64 (((q + 1 : Nat) : Int) - 1) = (q : Int) := by rw [wrap64 (by omega) (by omega)]; omega
      have hy : a[q]? = some a[q] := List.getElem?_eq_getElem (by omega)
      rw [decide_eq_true hi0, cond_true, hw, getI_at hy, Option.bind_some]
      cases (Op.bytesLess (g.Position).toList ((a[q]).Position).toList || (g.Position).toList == ((a[q]).Position).toList) with
      | true => exact .inr ⟨_, rfl, fun h => by cases h⟩
      | false => rw [cond_false]; exact tail
    · rw [decide_eq_false hi0, cond_false]; exact tail
  · have hi' : i = a.length := by omega
    subst hi'
    unfold S11_0
    rw [decide_eq_false (Int.lt_irrefl _), cond_false]
    rw [List.take_length] at hM hG
    exact .inr ⟨_, rfl, fun _ => ⟨by omega, hG, hM⟩⟩
end Go.Proofs.Ythjcdlbkdobmiaa
