/- Owners of flights: owner.Check, Flights, Move as plain programs; after a move one sector has the flights of both. -/
import Derived.Test.YtekjoddmohjpbaaChart
set_option linter.unusedVariables false
set_option linter.unusedSimpArgs false
namespace Go.Proofs.Ytekjoddmohjpbaa

def nm (n : Nat) (s : ByteArray) : Bool := (g21 n s).getD false
theorem nm_eq (n : Nat) (hn : 16 < n) (s : ByteArray) : g21 n s = some (nm n s) := by
  obtain ⟨b, hb⟩ := name_tot n hn s
  unfold nm g21
  rw [hb]; rfl
def okEn (n : Nat) (l : List TOwnerEntry) (i : Nat) (x : TOwnerEntry) : Prop :=
  nm n x.Call = true ∧ nm n x.Owner = true ∧ (x.Offered = ⟨#[]⟩ ∨ nm n x.Offered = true) ∧ x.Offered ≠ x.Owner ∧ ∀ p, 0 < i → l[i - 1]? = some p → Op.bytesLess p.Call.toList x.Call.toList = true
theorem le_not (a b : List UInt8) : (Op.bytesLess a b || a == b) = !(Op.bytesLess b a) := by
  rcases less_tot a b with h | h | h
  · rw [h, less_asy _ _ h]; rfl
  · rw [h, less_asy _ _ h]
    have : (a == b) = false := beq_eq_false_iff_ne.2 (by rintro rfl; rw [less_irr] at h; cases h)
    rw [this]; rfl
  · subst h; rw [less_irr]; simp
theorem le_notB (a b : ByteArray) : (Op.bytesLess a.toList b.toList || decide (a = b)) = !(Op.bytesLess b.toList a.toList) := by rw [← beqL]; exact le_not _ _
theorem check_step (n : Nat) (hn : 16 < n) (l : List TOwnerEntry) (hl : l.length ≤ 24) (i : Nat) (x : TOwnerEntry) (hx : l[i]? = some x) :
    (S12_0 n l 0 (l.length : Int) (i : Int) = some (.inl ((i + 1 : Nat) : Int)) ∧ okEn n l i x) ∨ ∃ r, S12_0 n l 0 (l.length : Int) (i : Int) = some (.inr r) ∧ r ≠ 0 ∧ ¬ okEn n l i x := by
  have hlt := some_lt hx
  have hx' := getI_at hx
  unfold S12_0
  rw [decide_eq_true (show (i : Int) < _ by omega), hx', wS (by omega)]
  simp only [cond_true, Option.bind_some, nm_eq n hn, beqL, le_notB]
  unfold okEn
  cases h1 : nm n x.Call with
  | false => exact .inr ⟨3, by simp, by decide, by simp [h1]⟩
  | true =>
    cases h2 : nm n x.Owner with
    | false => exact .inr ⟨3, by simp [h2], by decide, by simp [h1, h2]⟩
    | true =>
      have tail : (bif decide (x.Offered = x.Owner) then some (Sum.inr (11 : Int)) else bif decide ((i : Int) > 0) then (getI l (IntKind.wrap .i64 ((i : Int) - 1))).bind fun x8 => bif !Op.bytesLess x8.Call.toList x.Call.toList then some (.inr 7) else some (.inl (((i + 1 : Nat)) : Int)) else some (.inl ((i + 1 : Nat) : Int)) : Option (Int ⊕ Int)) = some (.inl ((i + 1 : Nat) : Int)) ∧ (x.Offered ≠ x.Owner ∧ ∀ p, 0 < i → l[i - 1]? = some p → Op.bytesLess p.Call.toList x.Call.toList = true) ∨ ∃ r, (bif decide (x.Offered = x.Owner) then some (Sum.inr (11 : Int)) else bif decide ((i : Int) > 0) then (getI l (IntKind.wrap .i64 ((i : Int) - 1))).bind fun x8 => bif !Op.bytesLess x8.Call.toList x.Call.toList then some (.inr 7) else some (.inl (((i + 1 : Nat)) : Int)) else some (.inl ((i + 1 : Nat) : Int)) : Option (Int ⊕ Int)) = some (.inr r) ∧ r ≠ 0 ∧ ¬ (x.Offered ≠ x.Owner ∧ ∀ p, 0 < i → l[i - 1]? = some p → Op.bytesLess p.Call.toList x.Call.toList = true) := by
        by_cases h4 : x.Offered = x.Owner
        · exact .inr ⟨11, by rw [decide_eq_true h4]; rfl, by decide, fun h => h.1 h4⟩
        rw [decide_eq_false h4, cond_false]
        by_cases h5 : 0 < i
        · have hp : l[i - 1]? = some (l[i - 1]'(by omega)) := List.getElem?_eq_getElem (by omega)
          have hw : IntKind.wrap .i64 ((i : Int) - 1) = ((i - 1 : Nat) : Int) := by rw [wrap64 (by omega) (by omega)]; omega
          rw [decide_eq_true (show (i : Int) > 0 by omega), cond_true, hw, getI_at hp]
          simp only [Option.bind_some]
          generalize l[i - 1]'(by omega) = p at hp
          cases h6 : Op.bytesLess p.Call.toList x.Call.toList with
          | false => exact .inr ⟨7, rfl, by decide, fun h => by have := h.2 p h5 hp; rw [h6] at this; cases this⟩
          | true => exact .inl ⟨rfl, h4, fun q _ hq => by rw [hp] at hq; cases hq; exact h6⟩
        · rw [decide_eq_false (show ¬ (i : Int) > 0 by omega), cond_false]
          exact .inl ⟨rfl, h4, fun q hq => absurd hq h5⟩
      by_cases h3 : x.Offered = ⟨#[]⟩
      · rw [decide_eq_true h3]
        simp only [Bool.not_true, cond_false, h1, h2, h3, true_and, true_or] at tail ⊢
        exact tail
      · rw [decide_eq_false h3]
        simp only [Bool.not_true, Bool.not_false, cond_false, cond_true, h1, h2, true_and]
        cases h7 : nm n x.Offered with
        | false => exact .inr ⟨3, by simp, by decide, by simp [h3]⟩
        | true =>
          simp only [Bool.not_true, cond_false, or_true, true_and]
          exact tail
def okAll (n : Nat) (l : List TOwnerEntry) : Prop := l.length ≤ 24 ∧ ∀ i x, l[i]? = some x → okEn n l i x
theorem check_end (n : Nat) (l : List TOwnerEntry) : S12_0 n l 0 (l.length : Int) (l.length : Int) = some (.inr 0) := by
  unfold S12_0
  simp
theorem check_cases (n : Nat) (hn : 30 < n) (l : List TOwnerEntry) : (∃ z, z ≠ 0 ∧ g12 n l = some z) ∨ (g12 n l = some 0 ∧ okAll n l) := by
  unfold g12
  by_cases hl : (l.length : Int) > 24
  · rw [decide_eq_true hl]; exact .inl ⟨2, by decide, rfl⟩
  · rw [decide_eq_false hl, cond_false]
    obtain ⟨r, h1, h2⟩ := iter_each (S := fun y : Int => S12_0 n l 0 (l.length : Int) y) l (okEn n l) (fun r => r ≠ 0) 0 (fun i x hx => by
      rcases check_step n (by omega) l (by omega) i x hx with h | ⟨r, h1, h2, -⟩
      · exact .inl h
      · exact .inr ⟨r, h1, h2⟩) (check_end n l) n (by omega)
    rcases h2 with h2 | ⟨rfl, h2⟩
    · exact .inl ⟨r, h2, h1⟩
    · exact .inr ⟨h1, by omega, h2⟩
theorem check_of (n : Nat) (hn : 30 < n) (l : List TOwnerEntry) (h : okAll n l) : g12 n l = some 0 := by
  unfold g12
  have hl := h.1
  rw [decide_eq_false (show ¬ (l.length : Int) > 24 by omega), cond_false]
  obtain ⟨r, h1, h2⟩ := iter_each (S := fun y : Int => S12_0 n l 0 (l.length : Int) y) l (okEn n l) (fun r => False) 0 (fun i x hx => by
    rcases check_step n (by omega) l hl i x hx with h' | ⟨r, h1, h2, h3⟩
    · exact .inl h'
    · exact absurd (h.2 i x hx) h3) (check_end n l) n (by omega)
  rcases h2 with h2 | ⟨rfl, h2⟩
  · exact h2.elim
  · exact h1
def flOf (l : List TOwnerEntry) (s : ByteArray) : List ByteArray := (l.filter fun x => decide (x.Owner = s)).map (·.Call)
theorem flOf_len (l : List TOwnerEntry) (s : ByteArray) : (flOf l s).length ≤ l.length := by
  unfold flOf; rw [List.length_map]; exact List.length_filter_le _ _
theorem flights_eq (n : Nat) (hn : 30 < n) (l : List TOwnerEntry) (s : ByteArray) (h : okAll n l) : g14 n l s = some (flOf l s, 0) := by
  unfold g14
  have hl := h.1
  rw [check_of n hn l h]
  simp only [Option.bind_some, bne_self_eq_false, cond_false]
  refine iterO_eq (fun x => ∃ i : Nat, i ≤ l.length ∧ x = ((i : Int), flOf (l.take i) s)) _ (fun x => l.length - x.1.toNat) ?_ n _ ⟨0, Nat.zero_le _, rfl⟩ (by simp; omega)
  rintro _ ⟨i, hi, rfl⟩
  rcases Nat.lt_or_ge i l.length with hlt | hge
  · have hx : l[i]? = some l[i] := List.getElem?_eq_getElem hlt
    have ht := List.take_succ_eq_append_getElem hlt
    generalize l[i] = x at hx ht
    have hfl := flOf_len (l.take i) s
    have htl : (l.take i).length = i := by rw [List.length_take]; omega
    have hsn : flOf (l.take (i + 1)) s = if x.Owner = s then flOf (l.take i) s ++ [x.Call] else flOf (l.take i) s := by
      rw [ht]; unfold flOf
      rw [List.filter_append, List.map_append]
      by_cases hq : x.Owner = s <;> simp [hq]
    refine .inl ⟨(((i + 1 : Nat) : Int), flOf (l.take (i + 1)) s), ?_, ⟨i + 1, hlt, rfl⟩, by simp; omega⟩
    unfold S14_0
    simp only [decide_eq_true (show (i : Int) < (l.length : Int) by omega), cond_true, getI_at hx, Option.bind_some, beqL, wS (show i < 9223372036854775807 by omega)]
    by_cases hq : x.Owner = s
    · rw [hsn, if_pos hq, decide_eq_true hq, cond_true, room_of (by simp; omega) (by simp; omega)]
      rfl
    · rw [hsn, if_neg hq, decide_eq_false hq, cond_false]
  · have : i = l.length := by omega
    subst this
    right
    unfold S14_0
    simp
def mvE (a b : ByteArray) (x : TOwnerEntry) : TOwnerEntry :=
  let o := if x.Owner = a then b else x.Owner
  let f := if x.Offered = a then b else x.Offered
  ⟨x.Call, o, if f = o then ⟨#[]⟩ else f⟩
theorem move_cases (n : Nat) (hn : 30 < n) (l : List TOwnerEntry) (a b : ByteArray) : (∃ z, z ≠ 0 ∧ g15 n l a b = some ([], z)) ∨ (okAll n l ∧ nm n a = true ∧ nm n b = true ∧ g15 n l a b = some (l.map (mvE a b), 0)) := by
  unfold g15
  rcases check_cases n hn l with ⟨z, hz, h⟩ | ⟨h0, h⟩
  · rw [h]
    refine .inl ⟨z, hz, ?_⟩
    simp only [Option.bind_some, bne_iff_ne.2 hz, cond_true]
  rw [h0]
  simp only [Option.bind_some, bne_self_eq_false, cond_false, nm_eq n (show 16 < n by omega)]
  cases ha : nm n a with
  | false => exact .inl ⟨3, by decide, rfl⟩
  | true =>
    cases hb : nm n b with
    | false => exact .inl ⟨3, by decide, rfl⟩
    | true =>
      have hl := h.1
      refine .inr ⟨h, rfl, rfl, ?_⟩
      simp only [Bool.not_true, cond_false]
      rw [room_of (by omega) (by omega), Option.bind_some]
      refine iterO_eq (fun x => ∃ i : Nat, i ≤ l.length ∧ x = ((i : Int), (l.take i).map (mvE a b) ++ l.drop i)) _ (fun x => l.length - x.1.toNat) ?_ n _ ⟨0, Nat.zero_le _, by simp⟩ (by simp; omega)
      rintro _ ⟨i, hi, rfl⟩
      rcases Nat.lt_or_ge i l.length with hlt | hge
      · have hx : l[i]? = some l[i] := List.getElem?_eq_getElem hlt
        have ht := List.take_succ_eq_append_getElem hlt
        have hd := List.drop_eq_getElem_cons hlt
        generalize l[i] = x at hx ht hd
        have htl : ((l.take i).map (mvE a b)).length = i := by rw [List.length_map, List.length_take]; omega
        have hg : getI ((l.take i).map (mvE a b) ++ l.drop i) (i : Int) = some x := by
          rw [getI_nat, List.getElem?_append_right (by omega), htl, Nat.sub_self, hd]; rfl
        have hs : ∀ y, ((l.take i).map (mvE a b) ++ l.drop i).set i y = (l.take i).map (mvE a b) ++ y :: l.drop (i + 1) := fun y => by
          rw [List.set_append_right _ _ (by omega), htl, Nat.sub_self, hd]; rfl
        have hs2 : ∀ y z, ((l.take i).map (mvE a b) ++ y :: l.drop (i + 1)).set i z = (l.take i).map (mvE a b) ++ z :: l.drop (i + 1) := fun y z => by
          rw [List.set_append_right _ _ (by omega), htl, Nat.sub_self]; rfl
        have hend : (l.take (i + 1)).map (mvE a b) ++ l.drop (i + 1) = (l.take i).map (mvE a b) ++ mvE a b x :: l.drop (i + 1) := by
          rw [ht, List.map_append, List.append_assoc]; rfl
        refine .inl ⟨(((i + 1 : Nat) : Int), (l.take (i + 1)).map (mvE a b) ++ l.drop (i + 1)), ?_, ⟨i + 1, hlt, rfl⟩, by simp; omega⟩
        rw [hend]
        generalize (l.take i).map (mvE a b) = M at *
        unfold S15_0 mvE
        simp only [decide_eq_true (show (i : Int) < (l.length : Int) by omega), cond_true, hg, Option.bind_some, beqL, wS (show i < 9223372036854775807 by omega), Int.toNat_natCast, hs, hs2]
        by_cases h1 : x.Owner = a <;> by_cases h2 : x.Offered = a <;> simp only [h1, h2, decide_true, decide_false, cond_true, cond_false, if_true, if_false]
        · by_cases h3 : x.Offered = b <;> simp [h3, h2]
        · by_cases h3 : b = x.Owner <;> simp [h3]
        · by_cases h3 : x.Offered = x.Owner
          · simp [h3]
          · simp only [h3, decide_false, cond_false, if_false]
            rw [hd]
      · have : i = l.length := by omega
        subst this
        right
        unfold S15_0
        simp
end Go.Proofs.Ytekjoddmohjpbaa
