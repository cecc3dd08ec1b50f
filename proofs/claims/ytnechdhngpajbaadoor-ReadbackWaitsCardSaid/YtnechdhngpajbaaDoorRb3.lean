/- What has not lapsed can still be read back. -/
import Derived.Test.YtnechdhngpajbaaDoorRb2
set_option linter.unusedVariables false
set_option linter.unusedSimpArgs false
namespace Go.Proofs.YtnechdhngpajbaaDoor

def lapsed (t : Int) (x : TReadbackOpen) : Bool := decide (t - x.Time > 40)
theorem lapse_eq (n : Nat) (hn : 100 < n) (l : List TReadbackOpen) (t : Int) (h : OpenOk n l) (hw : wrongB l t = false) : g14 n l t = some (l.filter (fun x => !lapsed t x), (l.filter (lapsed t)).map clr, 0) := by
  have hl := h.len
  obtain ⟨t0, t1, -⟩ := wrong_all h hw
  unfold g14
  rw [check_ok n hn l h]
  simp only [Option.bind_some, bne_self_eq_false, cond_false, wrong_eq n l t (by omega), hw]
  refine iterO_eq (fun y => ∃ i : Nat, i ≤ l.length ∧ y = ((i : Int), (l.take i).filter (fun x => !lapsed t x), ((l.take i).filter (lapsed t)).map clr)) _ (fun y => l.length - y.1.toNat) ?_ n _ ⟨0, Nat.zero_le _, rfl⟩ (by simp; omega)
  rintro _ ⟨i, hi, rfl⟩
  have b1 := List.length_filter_le (fun x => !lapsed t x) (l.take i)
  have b2 := List.length_filter_le (lapsed t) (l.take i)
  have b3 : (l.take i).length ≤ 12 := by rw [List.length_take]; omega
  rcases Nat.lt_or_ge i l.length with hlt | hge
  · have hx : l[i]? = some l[i] := List.getElem?_eq_getElem hlt
    have htk := List.take_succ_eq_append_getElem hlt
    have hm := List.getElem_mem hlt
    generalize l[i] = x at hx htk hm
    have hxt := h.time x hm
    refine .inl ⟨_, ?_, ⟨i + 1, hlt, rfl⟩, by simp; omega⟩
    unfold S14_0
    rw [decide_eq_true (show (i : Int) < _ by omega), getI_at hx, wS (by omega)]
    simp only [cond_true, Option.bind_some]
    rw [wrap64 (by omega) (by omega), htk, List.filter_append, List.filter_append, List.map_append]
    by_cases hq : t - x.Time > 40
    · have e : lapsed t x = true := decide_eq_true hq
      rw [decide_eq_true hq, cond_true, room_of (by rw [List.length_map, List.length_singleton]; omega) (by rw [List.length_map, List.length_singleton]; omega), List.filter_cons_of_pos e, List.filter_cons_of_neg (by simp [e]), List.filter_nil, List.filter_nil, List.append_nil]
      rfl
    · have e : lapsed t x = false := decide_eq_false hq
      rw [decide_eq_false hq, cond_false, room_of (by rw [List.length_singleton]; omega) (by rw [List.length_singleton]; omega), List.filter_cons_of_pos (by simp [e]), List.filter_cons_of_neg (by simp [e]), List.filter_nil, List.filter_nil, List.map_nil, List.append_nil]
      rfl
  · have : i = l.length := by omega
    subst this
    rw [List.take_length]
    right
    unfold S14_0
    rw [decide_eq_false (show ¬ (l.length : Int) < (l.length : Int) by omega)]; rfl
theorem hasO_eq (n : Nat) (L : List TReadbackOpen) (c : TReadbackOpen) (hl : L.length ≤ 1000) (hn : L.length < n) : g15 n L c = some (decide (c ∈ L)) := by
  unfold g15 g31
  have e := index_loop (fun x : TReadbackOpen => decide (c = x)) L (by omega) (S := fun y : Int => S31_0 n L 0 (L.length : Int) c.Clearance_Call c.Clearance_Kind c.Clearance_Value c.Clearance_Fix c.Time y) (fun i x hx => by
    have := some_lt hx
    unfold S31_0
    rw [decide_eq_true (show (i : Int) < _ by omega), getI_at hx, wS (by omega)]
    simp only [cond_true, Option.bind_some]
    by_cases h : c = x
    · have h' : (⟨c.Clearance_Call, c.Clearance_Kind, c.Clearance_Value, c.Clearance_Fix, c.Time⟩ : TReadbackOpen) = x := h
      rw [decide_eq_true h']; simp [h]
    · have h' : ¬ (⟨c.Clearance_Call, c.Clearance_Kind, c.Clearance_Value, c.Clearance_Fix, c.Time⟩ : TReadbackOpen) = x := h
      rw [decide_eq_false h']; simp [h]) (by
    unfold S31_0
    simp) n hn
  rw [e]
  simp only [Option.bind_some]
  congr 1
  by_cases h : c ∈ L
  · have : ¬ idxL (fun x : TReadbackOpen => decide (c = x)) L < 0 := fun hq => by
      have := (idxL_neg _ _).1 hq c h
      simp at this
    rw [decide_eq_true (show idxL (fun x : TReadbackOpen => decide (c = x)) L ≥ 0 by omega), decide_eq_true h]
  · have : idxL (fun x : TReadbackOpen => decide (c = x)) L < 0 := (idxL_neg _ _).2 fun x hx => by
      simp; rintro rfl; exact h hx
    rw [decide_eq_false (show ¬ idxL (fun x : TReadbackOpen => decide (c = x)) L ≥ 0 by omega), decide_eq_false h]
theorem waits_law (n : Nat) (hn : 100 < n) (l : List TReadbackOpen) (t : Int) : g4 n l t = some true := by
  unfold g4 g8
  simp only [Option.bind_some, Bool.not_true, cond_false]
  obtain ⟨z, hz, hz0⟩ := check_tot n hn l
  by_cases h0 : ¬ z = 0
  · have : g14 n l t = some ([], [], z) := by
      unfold g14
      rw [hz]
      simp only [Option.bind_some, show (z != 0) = true from bne_iff_ne.2 h0, cond_true]
    rw [this]
    simp only [Option.bind_some, show (z != 0) = true from bne_iff_ne.2 h0, cond_true]; rfl
  have h0 : z = 0 := Decidable.of_not_not h0
  have hok := hz0 h0
  subst h0
  have hl := hok.len
  cases hw : wrongB l t with
  | true =>
    have : g14 n l t = some ([], [], 12) := by
      unfold g14
      rw [hz]
      simp only [Option.bind_some, bne_self_eq_false, cond_false, wrong_eq n l t (by omega), hw, cond_true]
    rw [this]; rfl
  | false =>
    obtain ⟨t0, t1, tl⟩ := wrong_all hok hw
    rw [lapse_eq n hn l t hok hw]
    simp only [Option.bind_some, bne_self_eq_false, cond_false]
    have hsum : (l.filter (fun x => !lapsed t x)).length + ((l.filter (lapsed t)).map clr).length = l.length := by
      rw [List.length_map]
      clear hz hz0 hok hl hw tl
      induction l with
      | nil => rfl
      | cons a l ih =>
        cases ha : lapsed t a with
        | true => rw [List.filter_cons_of_neg (by simp [ha]), List.filter_cons_of_pos ha, List.length_cons, List.length_cons]; omega
        | false => rw [List.filter_cons_of_pos (by simp [ha]), List.filter_cons_of_neg (by simp [ha]), List.length_cons, List.length_cons]; omega
    rw [wrap64 (by omega) (by omega), show (((l.filter (fun x => !lapsed t x)).length : Int) + (((l.filter (lapsed t)).map clr).length : Int) != (l.length : Int)) = false by (rw [show ((l.filter (fun x => !lapsed t x)).length : Int) + (((l.filter (lapsed t)).map clr).length : Int) = (l.length : Int) by omega]; simp), cond_false]
    have b1 := List.length_filter_le (fun x => !lapsed t x) l
    have b2 := List.length_filter_le (lapsed t) l
    refine iterO_eq (fun y => ∃ i : Nat, i ≤ l.length ∧ y = (i : Int)) _ (fun y => l.length - y.toNat) ?_ n _ ⟨0, Nat.zero_le _, rfl⟩ (by simp; omega)
    rintro _ ⟨i, hi, rfl⟩
    rcases Nat.lt_or_ge i l.length with hlt | hge
    · have hx : l[i]? = some l[i] := List.getElem?_eq_getElem hlt
      have hm := List.getElem_mem hlt
      generalize l[i] = x at hx hm
      -- where it is found
      have hidx : ∃ (j : Nat) (y : TReadbackOpen), idxL (keyed (clr x)) l = (j : Int) ∧ l[j]? = some y ∧ y = x := by
        have hnn : ¬ idxL (keyed (clr x)) l < 0 := fun hq => by
          have := (idxL_neg _ _).1 hq x hm
          rw [keyed_self] at this; cases this
        obtain ⟨y, h1, h2, h3⟩ := idxL_at (keyed (clr x)) l (by omega)
        refine ⟨(idxL (keyed (clr x)) l).toNat, y, by omega, h1, ?_⟩
        generalize (idxL (keyed (clr x)) l).toNat = j at h1 h3
        have hj := some_lt h1
        have e1 : l[j] = y := by rw [List.getElem?_eq_getElem hj] at h1; exact Option.some.inj h1
        have e2 : l[i] = x := by rw [List.getElem?_eq_getElem hlt] at hx; exact Option.some.inj hx
        rcases Nat.lt_trichotomy j i with h | h | h
        · have := List.pairwise_iff_getElem.1 hok.keys j i hj hlt h
          rw [e1, e2, h2] at this; cases this
        · subst h; rw [← e1, ← e2]
        · have := List.pairwise_iff_getElem.1 hok.keys i j hlt hj h
          rw [e1, e2, keyed_two (keyed_self x) h2] at this; cases this
      obtain ⟨j, y, hj, hy, rfl⟩ := hidx
      have hpre : g25 n l (clr y) t = some 0 := pre_ok n hn l _ t hok (hok.said y hm) hw
      have hhear := hear_some n hn l (clr y) t ⟨t0, t1⟩ hpre hok j y hj hy rfl
      have hhear' : g11 n l (⟨y.Clearance_Call, y.Clearance_Kind, y.Clearance_Value, y.Clearance_Fix⟩ : TClearance) t = _ := hhear
      have hgone : (clr y ∈ (l.filter (lapsed t)).map clr) ↔ t - y.Time > 40 := by
        constructor
        · intro h
          obtain ⟨z, hz1, hz2⟩ := List.mem_map.1 h
          obtain ⟨hz1, hz3⟩ := List.mem_filter.1 hz1
          have hzy : z = y := by
            obtain ⟨a, ha, rfl⟩ := List.getElem_of_mem hz1
            obtain ⟨b, hb, rfl⟩ := List.getElem_of_mem hm
            have hk : keyed (clr l[b]) l[a] = true := by rw [← hz2]; exact keyed_self _
            have hk2 : keyed (clr l[a]) l[b] = true := by rw [hz2]; exact keyed_self _
            rcases Nat.lt_trichotomy a b with h | h | h
            · have := List.pairwise_iff_getElem.1 hok.keys a b ha hb h
              rw [hk] at this; cases this
            · subst h; rfl
            · have := List.pairwise_iff_getElem.1 hok.keys b a hb ha h
              rw [hk2] at this; cases this
          subst hzy
          exact of_decide_eq_true hz3
        · intro h
          exact List.mem_map.2 ⟨y, List.mem_filter.2 ⟨hm, decide_eq_true h⟩, rfl⟩
      have hstay : (y ∈ l.filter (fun x => !lapsed t x)) ↔ ¬ t - y.Time > 40 := by
        rw [List.mem_filter]
        simp [hm, lapsed]
      refine .inl ⟨_, ?_, ⟨i + 1, hlt, rfl⟩, by simp; omega⟩
      unfold S4_0
      rw [decide_eq_true (show (i : Int) < _ by omega), getI_at hx, wS (by omega)]
      simp only [cond_true, Option.bind_some, hhear', hasO_eq n (l.filter (fun x => !lapsed t x)) y (by omega) (by omega)]
      have hc2 : g13 n ((l.filter (lapsed t)).map clr) (⟨y.Clearance_Call, y.Clearance_Kind, y.Clearance_Value, y.Clearance_Fix⟩ : TClearance) = _ := hasC_eq n ((l.filter (lapsed t)).map clr) (clr y) (by simp; omega) (by simp; omega)
      rw [hc2]
      simp only [Option.bind_some]
      by_cases h40 : t - y.Time > 40
      · rw [if_pos h40, decide_eq_false (fun h => hstay.1 h h40), decide_eq_true (hgone.2 h40)]; rfl
      · rw [if_neg h40, decide_eq_true (hstay.2 h40), decide_eq_false (fun h => h40 (hgone.1 h))]; rfl
    · have : i = l.length := by omega
      subst this
      right
      unfold S4_0
      rw [decide_eq_false (show ¬ (l.length : Int) < (l.length : Int) by omega)]; rfl
end Go.Proofs.YtnechdhngpajbaaDoor
