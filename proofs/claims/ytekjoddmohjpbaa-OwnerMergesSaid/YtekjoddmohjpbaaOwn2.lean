/- After a move one sector has the flights of both: the law as a plain program answers true. -/
import Derived.Test.YtekjoddmohjpbaaOwn1
import Derived.Test.YtekjoddmohjpbaaSortS
set_option linter.unusedVariables false
set_option linter.unusedSimpArgs false
namespace Go.Proofs.Ytekjoddmohjpbaa
theorem nm_nil (n : Nat) : nm n ⟨#[]⟩ = false := rfl
theorem move_ok (n : Nat) (l : List TOwnerEntry) (a b : ByteArray) (h : okAll n l) (hb : nm n b = true) : okAll n (l.map (mvE a b)) := by
  refine ⟨by rw [List.length_map]; exact h.1, fun i y hy => ?_⟩
  rw [List.getElem?_map] at hy
  obtain ⟨x, hx, rfl⟩ := Option.map_eq_some_iff.1 hy
  obtain ⟨h1, h2, h3, h4, h5⟩ := h.2 i x hx
  have ho : nm n (mvE a b x).Owner = true := by
    show nm n (if x.Owner = a then b else x.Owner) = true
    split
    · exact hb
    · exact h2
  refine ⟨h1, ho, ?_, ?_, fun p hp hq => ?_⟩
  · by_cases hq : (if x.Offered = a then b else x.Offered) = (if x.Owner = a then b else x.Owner)
    · exact .inl (by show (if _ then _ else _) = _; rw [if_pos hq])
    · have e2 : (mvE a b x).Offered = (if x.Offered = a then b else x.Offered) := by show (if _ then _ else _) = _; rw [if_neg hq]
      rw [e2]
      by_cases ho : x.Offered = a
      · rw [if_pos ho]; exact .inr hb
      · rw [if_neg ho]; exact h3
  · intro e
    by_cases hq : (if x.Offered = a then b else x.Offered) = (if x.Owner = a then b else x.Owner)
    · have e2 : (mvE a b x).Offered = ⟨#[]⟩ := by show (if _ then _ else _) = _; rw [if_pos hq]
      rw [← e, e2, nm_nil] at ho; cases ho
    · have e2 : (mvE a b x).Offered = (if x.Offered = a then b else x.Offered) := by show (if _ then _ else _) = _; rw [if_neg hq]
      rw [e2] at e
      exact hq e
  · rw [List.getElem?_map] at hq
    obtain ⟨q, hq1, rfl⟩ := Option.map_eq_some_iff.1 hq
    exact h5 q hp hq1
theorem move_same (n : Nat) (l : List TOwnerEntry) (a : ByteArray) (h : okAll n l) : l.map (mvE a a) = l := by
  conv => rhs; rw [← List.map_id l]
  refine List.map_congr_left fun x hx => ?_
  obtain ⟨i, hi⟩ := List.mem_iff_getElem?.1 hx
  obtain ⟨h1, h2, h3, h4, h5⟩ := h.2 i x hi
  have e1 : (if x.Owner = a then a else x.Owner) = x.Owner := by
    split
    · rename_i h; exact h.symm
    · rfl
  have e2 : (if x.Offered = a then a else x.Offered) = x.Offered := by
    split
    · rename_i h; exact h.symm
    · rfl
  unfold mvE
  simp only [e1, e2, if_neg h4]
  rfl
theorem fl_moved (l : List TOwnerEntry) (a b : ByteArray) (hab : a ≠ b) : flOf (l.map (mvE a b)) b = (l.filter fun x => decide (x.Owner = a) || decide (x.Owner = b)).map (·.Call) := by
  unfold flOf
  rw [List.filter_map, List.map_map]
  have e1 : ((fun x : TOwnerEntry => decide (x.Owner = b)) ∘ mvE a b) = fun x => decide (x.Owner = a) || decide (x.Owner = b) := by
    funext x
    show decide ((if x.Owner = a then b else x.Owner) = b) = _
    by_cases h : x.Owner = a <;> simp [h]
  rw [e1]; rfl
theorem fl_gone (l : List TOwnerEntry) (a b : ByteArray) (hab : a ≠ b) : flOf (l.map (mvE a b)) a = [] := by
  unfold flOf
  rw [List.map_eq_nil_iff, List.filter_eq_nil_iff]
  intro y hy
  obtain ⟨x, hx, rfl⟩ := List.mem_map.1 hy
  show ¬ decide ((if x.Owner = a then b else x.Owner) = a) = true
  by_cases h : x.Owner = a
  · rw [if_pos h]; simpa using fun e => hab e.symm
  · rw [if_neg h]; simpa using h
theorem fl_perm (l : List TOwnerEntry) (a b : ByteArray) (hab : a ≠ b) : (flOf l a ++ flOf l b).Perm ((l.filter fun x => decide (x.Owner = a) || decide (x.Owner = b)).map (·.Call)) := by
  unfold flOf
  rw [← List.map_append]
  refine List.Perm.map _ ?_
  induction l with
  | nil => exact .nil
  | cons x l ih =>
    by_cases h1 : x.Owner = a
    · have h2 : ¬ x.Owner = b := fun e => hab (h1.symm.trans e)
      simp only [List.filter_cons, h1, decide_true, if_true, Bool.true_or, decide_eq_false hab, List.cons_append]
      simpa using ih.cons x
    · by_cases h2 : x.Owner = b
      · simp only [List.filter_cons, decide_eq_false h1, h2, decide_true, if_true, Bool.or_true]
        have hba : ¬ b = a := fun e => hab e.symm
        simp only [hba, decide_false, Bool.false_eq_true, if_false]
        exact List.perm_middle.trans (ih.cons x)
      · simpa [List.filter_cons, h1, h2] using ih
theorem calls_sorted (n : Nat) : ∀ (l : List TOwnerEntry), okAll n l → l.Pairwise fun x y => Op.bytesLess x.Call.toList y.Call.toList = true := by
  intro l h
  rw [List.pairwise_iff_getElem]
  intro i j hi hj hij
  induction j with
  | zero => omega
  | succ j ih =>
    obtain ⟨-, -, -, -, h5⟩ := h.2 (j + 1) l[j + 1] (List.getElem?_eq_getElem hj)
    have h6 := h5 (l[j]'(by omega)) (by omega) (List.getElem?_eq_getElem (by omega))
    rcases Nat.lt_or_ge i j with h' | h'
    · exact less_tra _ _ _ (ih (by omega) h') h6
    · have : i = j := by omega
      subst this; exact h6
theorem equal_str (n : Nat) (a b : List ByteArray) (ha : a.length ≤ 1000) (hn : 1000 < n) : g16 n a b = some (decide (a = b)) := by
  unfold g16
  by_cases hl : a.length = b.length
  · have e : ((a.length : Int) != (b.length : Int)) = false := by simp [hl]
    rw [e, cond_false]
    refine equal_loop a b hl (S := fun y : Int => S16_0 n a b false (a.length : Int) y) (fun i x y hx hy => ?_) ?_ n (by omega)
    · have := some_lt hx
      unfold S16_0
      simp only [decide_eq_true (show (i : Int) < (a.length : Int) by omega), cond_true, getI_at hx, getI_at hy, Option.bind_some, beqL, wS (show i < 9223372036854775807 by omega)]
      by_cases h : x = y <;> simp [h]
    · unfold S16_0
      simp
  · have e : ((a.length : Int) != (b.length : Int)) = true := by simp; omega
    rw [e, cond_true, decide_eq_false (fun h => hl (by rw [h]))]
theorem equal_ent (n : Nat) (a : List TOwnerEntry) (ha : a.length ≤ 1000) (hn : 1000 < n) : g11 n a a = some true := by
  unfold g11
  have e : ((a.length : Int) != (a.length : Int)) = false := by simp
  rw [e, cond_false]
  have := equal_loop a a rfl (S := fun y : Int => S11_0 n a a false (a.length : Int) y) (fun i x y hx hy => by
    have := some_lt hx
    unfold S11_0
    simp only [decide_eq_true (show (i : Int) < (a.length : Int) by omega), cond_true, getI_at hx, getI_at hy, Option.bind_some, wS (show i < 9223372036854775807 by omega)]
    rw [hx] at hy
    cases hy
    simp) (by
    unfold S11_0
    simp) n (by omega)
  rw [this]; simp
theorem ownerMerges_law (n : Nat) (hn : 1000 < n) (l : List TOwnerEntry) (a b : ByteArray) : g5 n l a b = some true := by
  unfold g5 g6
  simp only [Option.bind_some, Bool.not_true, cond_false]
  rcases move_cases n (by omega) l a b with ⟨z, hz, h⟩ | ⟨h, ha, hb, h0⟩
  · rw [h]
    simp only [Option.bind_some, bne_iff_ne.2 hz, cond_true]
  rw [h0]
  have hm := move_ok n l a b h hb
  have hlen := h.1
  have ha1 := flOf_len l a
  have hb1 := flOf_len l b
  simp only [Option.bind_some, bne_self_eq_false, cond_false, flights_eq n (show 30 < n by omega) _ _ h, flights_eq n (show 30 < n by omega) _ _ hm, check_of n (show 30 < n by omega) _ hm, beqL]
  by_cases hab : a = b
  · subst hab
    rw [decide_eq_true rfl, cond_true, move_same n l a h, equal_str n _ _ (by omega) (by omega), decide_eq_true rfl]
    simp only [Option.bind_some, cond_true]
    rw [equal_ent n l (by omega) (by omega)]
    rfl
  · rw [decide_eq_false hab, cond_false]
    have hc : catO 16 ([flOf l a, flOf l b] : List (List ByteArray)) = some (flOf l a ++ flOf l b) := by
      have hf : ([flOf l a, flOf l b] : List (List ByteArray)).flatten = flOf l a ++ flOf l b := by simp
      unfold catO
      rw [if_pos (by simp), hf, room_of (by rw [List.length_append]; omega) (by rw [List.length_append]; omega)]
      rfl
    have hl : lenO (flOf l a ++ flOf l b) = some () := by
      unfold lenO
      rw [if_pos (by rw [List.length_append]; omega)]
    rw [hc]
    simp only [Option.bind_some]
    rw [hl]
    simp only [Option.bind_some]
    have hs : sortS (flOf l a ++ flOf l b) = flOf (l.map (mvE a b)) b := by
      rw [fl_moved l a b hab]
      refine sortS_eq (fl_perm l a b hab) ?_
      rw [List.pairwise_map]
      exact ((calls_sorted n l h).filter _).imp fun h => less_asy _ _ h
    rw [hs, equal_str n _ _ (by have := flOf_len (l.map (mvE a b)) b; rw [List.length_map] at this; omega) (by omega), decide_eq_true rfl, fl_gone l a b hab]
    rfl
end Go.Proofs.Ytekjoddmohjpbaa
