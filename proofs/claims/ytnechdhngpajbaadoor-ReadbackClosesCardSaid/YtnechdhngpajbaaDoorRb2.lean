/- A clearance that is said can be read back, once, and then is not open any more. -/
import Derived.Test.YtnechdhngpajbaaDoorRb1
set_option linter.unusedVariables false
set_option linter.unusedSimpArgs false
namespace Go.Proofs.YtnechdhngpajbaaDoor

theorem wrong_all {n : Nat} {l : List TReadbackOpen} {t : Int} (h : OpenOk n l) (hw : wrongB l t = false) : 0 ≤ t ∧ t ≤ 200000 ∧ ∀ x ∈ l, x.Time ≤ t := by
  unfold wrongB at hw
  simp only [Bool.or_eq_false_iff, decide_eq_false_iff_not] at hw
  refine ⟨by omega, by omega, fun x hx => ?_⟩
  obtain ⟨i, hi, rfl⟩ := List.getElem_of_mem hx
  have hlast : l.getLast? = some (l[l.length - 1]'(by omega)) := by rw [List.getLast?_eq_getElem?]; exact List.getElem?_eq_getElem (by omega)
  rw [hlast] at hw
  have h1 : ¬ t < (l[l.length - 1]'(by omega)).Time := by simpa using hw.2.2
  rcases Nat.lt_or_ge i (l.length - 1) with h2 | h2
  · have := List.pairwise_iff_getElem.1 h.sorted i (l.length - 1) hi (by omega) h2
    omega
  · have : i = l.length - 1 := by omega
    subst this; omega
theorem wrong_no {l : List TReadbackOpen} {t : Int} (h0 : 0 ≤ t) (h1 : t ≤ 200000) (h : ∀ x ∈ l, x.Time ≤ t) : wrongB l t = false := by
  unfold wrongB
  rw [decide_eq_false (show ¬ t < 0 by omega), decide_eq_false (show ¬ t > 200000 by omega)]
  cases hq : l.getLast? with
  | none => rfl
  | some x =>
    have := h x (List.mem_of_getLast? hq)
    simp; omega
def without (l : List TReadbackOpen) (i : Nat) : List TReadbackOpen := l.take i ++ l.drop (i + 1)
theorem without_sub (l : List TReadbackOpen) (i : Nat) : (without l i).Sublist l := by
  unfold without
  have h1 : (l.drop (i + 1)).Sublist (l.drop i) := by
    rw [← List.drop_drop]; exact List.drop_sublist _ _
  have h2 := (List.Sublist.refl (l.take i)).append h1
  rwa [List.take_append_drop] at h2
theorem without_len {l : List TReadbackOpen} {i : Nat} (h : i < l.length) : (without l i).length + 1 = l.length := by unfold without; simp; omega
theorem del_at {l : List TReadbackOpen} {i : Nat} (h : i < l.length) (hl : l.length ≤ 1000) : delO 56 l (i : Int) (IntKind.wrap .i64 ((i : Int) + 1)) = some (without l i) := by
  rw [wS (by omega)]
  unfold delO
  rw [if_pos ⟨by omega, by omega, by omega, by omega, by omega⟩]
  rfl
theorem keyed_self (x : TReadbackOpen) : keyed (clr x) x = true := by simp [keyed, clr]
theorem keyed_two {c : TClearance} {x y : TReadbackOpen} (hx : keyed c x = true) (hy : keyed c y = true) : keyed (clr y) x = true := by
  unfold keyed at *
  simp only [Bool.and_eq_true, beq_iff_eq, clr] at *
  exact ⟨hx.1.trans hy.1.symm, hx.2.trans hy.2.symm⟩
theorem without_keys {n : Nat} {l : List TReadbackOpen} (h : OpenOk n l) (c : TClearance) (hi : 0 ≤ idxL (keyed c) l) : ∀ y ∈ without l (idxL (keyed c) l).toNat, keyed c y = false := by
  obtain ⟨x, h1, h2, h3⟩ := idxL_at (keyed c) l hi
  generalize (idxL (keyed c) l).toNat = i at h1 h3
  intro y hy
  unfold without at hy
  rcases List.mem_append.1 hy with hy | hy
  · rw [List.mem_take_iff_getElem] at hy
    obtain ⟨j, hj, rfl⟩ := hy
    exact h3 j (by omega) _ (List.getElem?_eq_getElem (by omega))
  · cases hk : keyed c y with
    | false => rfl
    | true =>
      obtain ⟨j, hj, rfl⟩ := List.getElem_of_mem hy
      rw [List.getElem_drop] at hk
      have hlt := some_lt h1
      rw [List.length_drop] at hj
      have := List.pairwise_iff_getElem.1 h.keys i (i + 1 + j) hlt (by omega) (by omega)
      have hx : l[i] = x := by
        rw [List.getElem?_eq_getElem hlt] at h1
        exact Option.some.inj h1
      rw [hx, keyed_two h2 hk] at this
      cases this
/- the clearances that stay when one is said -/
def rest (l : List TReadbackOpen) (c : TClearance) : List TReadbackOpen := if idxL (keyed c) l < 0 then l else without l (idxL (keyed c) l).toNat
theorem rest_ok {n : Nat} {l : List TReadbackOpen} (h : OpenOk n l) (c : TClearance) : OpenOk n (rest l c) ∧ ∀ y ∈ rest l c, keyed c y = false := by
  unfold rest
  by_cases hi : idxL (keyed c) l < 0
  · rw [if_pos hi]; exact ⟨h, (idxL_neg _ _).1 hi⟩
  · rw [if_neg hi]; exact ⟨h.sub (without_sub _ _), without_keys h c (by omega)⟩
def opened (c : TClearance) (t : Int) : TReadbackOpen := ⟨c.Call, c.Kind, c.Value, c.Fix, t⟩
theorem say_eq (n : Nat) (hn : 100 < n) (l : List TReadbackOpen) (c : TClearance) (t : Int) (hp : g25 n l c t = some 0) (h : OpenOk n l) : g9 n l c t = some (if (rest l c).length = 12 then ([], 9) else (rest l c ++ [opened c t], 0)) := by
  have hl := h.len
  unfold g9
  rw [hp]
  simp only [Option.bind_some, bne_self_eq_false, cond_false]
  rw [room_of (by omega) (by omega), idx_eq n l c (by omega) (by omega)]
  simp only [Option.bind_some]
  unfold rest
  by_cases hi : idxL (keyed c) l < 0
  · rw [decide_eq_false (show ¬ idxL (keyed c) l ≥ 0 by omega), cond_false, if_pos hi]
    by_cases h12 : l.length = 12
    · rw [show ((l.length : Int) == 12) = true from beq_iff_eq.2 (by omega), if_pos h12]; rfl
    · rw [show ((l.length : Int) == 12) = false from beq_eq_false_iff_ne.2 (by omega), if_neg h12, room_of (by simp; omega) (by simp; omega)]; rfl
  · rw [decide_eq_true (show idxL (keyed c) l ≥ 0 by omega), cond_true, if_neg hi]
    obtain ⟨x, h1, -, -⟩ := idxL_at (keyed c) l (by omega)
    have hlt := some_lt h1
    have hid : idxL (keyed c) l = (((idxL (keyed c) l).toNat : Nat) : Int) := by omega
    have hd : delO 56 l (idxL (keyed c) l) (IntKind.wrap .i64 (idxL (keyed c) l + 1)) = some (without l (idxL (keyed c) l).toNat) := by
      generalize (idxL (keyed c) l).toNat = i at hid hlt
      rw [hid]; exact del_at hlt (by omega)
    have hlen := without_len hlt
    rw [hd]
    simp only [Option.bind_some]
    rw [show (((without l (idxL (keyed c) l).toNat).length : Int) == 12) = false from beq_eq_false_iff_ne.2 (by omega), if_neg (by omega), room_of (by simp; omega) (by simp; omega)]; rfl
theorem hear_none (n : Nat) (hn : 100 < n) (l : List TReadbackOpen) (c : TClearance) (t : Int) (hp : g25 n l c t = some 0) (h : OpenOk n l) (hi : idxL (keyed c) l < 0) : g11 n l c t = some ([], 8) := by
  have hl := h.len
  unfold g11
  rw [hp]
  simp only [Option.bind_some, bne_self_eq_false, cond_false]
  rw [idx_eq n l c (by omega) (by omega)]
  simp only [Option.bind_some, decide_eq_true hi, cond_true]
theorem hear_some (n : Nat) (hn : 100 < n) (l : List TReadbackOpen) (c : TClearance) (t : Int) (ht : 0 ≤ t ∧ t ≤ 200000) (hp : g25 n l c t = some 0) (h : OpenOk n l) (i : Nat) (x : TReadbackOpen) (hi : idxL (keyed c) l = (i : Int)) (hx : l[i]? = some x) (hc : clr x = c) : g11 n l c t = some (if t - x.Time > 40 then ([], 21) else (without l i, 0)) := by
  have hl := h.len
  have hxt := h.time x (List.mem_of_getElem? hx)
  unfold g11
  rw [hp]
  simp only [Option.bind_some, bne_self_eq_false, cond_false]
  rw [idx_eq n l c (by omega) (by omega), hi]
  simp only [Option.bind_some, decide_eq_false (show ¬ (i : Int) < 0 by omega), cond_false, getI_at hx]
  rw [wrap64 (by omega) (by omega)]
  by_cases h1 : t - x.Time > 40
  · rw [decide_eq_true h1, if_pos h1]; rfl
  · have hc' : (⟨x.Clearance_Call, x.Clearance_Kind, x.Clearance_Value, x.Clearance_Fix⟩ : TClearance) = c := hc
    rw [decide_eq_false h1, if_neg h1, cond_false, decide_eq_true hc', room_of (by omega) (by omega), del_at (some_lt hx) (by omega)]
    rfl
/- what is open of a flight -/
theorem of_tot (n : Nat) (hn : 100 < n) (l : List TReadbackOpen) (nm : ByteArray) (h : OpenOk n l) : ∃ L, g12 n l nm = some (L, 0) ∧ L.length ≤ l.length ∧ ∀ c ∈ L, ∃ x ∈ l, clr x = c := by
  have hl := h.len
  unfold g12
  rw [check_ok n hn l h]
  simp only [Option.bind_some, bne_self_eq_false, cond_false]
  obtain ⟨r, h1, L, rfl, h2, h3⟩ := iterO_rule (S := fun y : Int × List TClearance => S12_0 n nm 0 l (l.length : Int) y.1 y.2) (fun y => ∃ (i : Nat) (L : List TClearance), y = ((i : Int), L) ∧ i ≤ l.length ∧ L.length ≤ i ∧ ∀ c ∈ L, ∃ x ∈ l, clr x = c) (fun r => ∃ L, r = (L, 0) ∧ L.length ≤ l.length ∧ ∀ c ∈ L, ∃ x ∈ l, clr x = c) (fun y => l.length - y.1.toNat) (by
    rintro _ ⟨i, L, rfl, hi, hL, hP⟩
    rcases Nat.lt_or_ge i l.length with hlt | hge
    · have hx : l[i]? = some l[i] := List.getElem?_eq_getElem hlt
      have hm := List.getElem_mem hlt
      generalize l[i] = x at hx hm
      cases hq : x.Clearance_Call.toList == nm.toList with
      | true =>
        refine .inl ⟨_, ?_, ⟨i + 1, L ++ [clr x], rfl, hlt, by simp; omega, fun c hc => ?_⟩, by simp; omega⟩
        · show S12_0 n nm 0 l (l.length : Int) (i : Int) L = _
          unfold S12_0
          rw [decide_eq_true (show (i : Int) < _ by omega), getI_at hx, wS (by omega)]
          simp only [cond_true, Option.bind_some, hq]
          rw [room_of (by simp; omega) (by simp; omega)]; rfl
        · rcases List.mem_append.1 hc with hc | hc
          · exact hP c hc
          · simp at hc; exact ⟨x, hm, hc.symm⟩
      | false =>
        refine .inl ⟨_, ?_, ⟨i + 1, L, rfl, hlt, by omega, hP⟩, by simp; omega⟩
        show S12_0 n nm 0 l (l.length : Int) (i : Int) L = _
        unfold S12_0
        rw [decide_eq_true (show (i : Int) < _ by omega), getI_at hx, wS (by omega)]
        simp only [cond_true, Option.bind_some, hq, cond_false]
    · have : i = l.length := by omega
      subst this
      refine .inr ⟨(L, 0), ?_, L, rfl, hL, hP⟩
      show S12_0 n nm 0 l (l.length : Int) (l.length : Int) L = _
      unfold S12_0
      rw [decide_eq_false (show ¬ (l.length : Int) < (l.length : Int) by omega)]; rfl) n (0, []) ⟨0, [], rfl, Nat.zero_le _, Nat.le_refl _, fun c hc => by simp at hc⟩ (by simp; omega)
  exact ⟨L, h1, h2, h3⟩
theorem hasC_eq (n : Nat) (L : List TClearance) (c : TClearance) (hl : L.length ≤ 1000) (hn : L.length < n) : g13 n L c = some (decide (c ∈ L)) := by
  unfold g13 g29
  have e := index_loop (fun x : TClearance => decide (c = x)) L (by omega) (S := fun y : Int => S29_0 n L 0 (L.length : Int) c.Call c.Kind c.Value c.Fix y) (fun i x hx => by
    have := some_lt hx
    unfold S29_0
    rw [decide_eq_true (show (i : Int) < _ by omega), getI_at hx, wS (by omega)]
    simp only [cond_true, Option.bind_some]
    by_cases h : c = x
    · have h' : (⟨c.Call, c.Kind, c.Value, c.Fix⟩ : TClearance) = x := h
      rw [decide_eq_true h']; simp [h]
    · have h' : ¬ (⟨c.Call, c.Kind, c.Value, c.Fix⟩ : TClearance) = x := h
      rw [decide_eq_false h']; simp [h]) (by
    unfold S29_0
    simp) n hn
  rw [e]
  simp only [Option.bind_some]
  congr 1
  by_cases h : c ∈ L
  · have : ¬ idxL (fun x : TClearance => decide (c = x)) L < 0 := fun hq => by
      have := (idxL_neg _ _).1 hq c h
      simp at this
    rw [decide_eq_true (show idxL (fun x : TClearance => decide (c = x)) L ≥ 0 by omega), decide_eq_true h]
  · have : idxL (fun x : TClearance => decide (c = x)) L < 0 := (idxL_neg _ _).2 fun x hx => by
      simp; rintro rfl; exact h hx
    rw [decide_eq_false (show ¬ idxL (fun x : TClearance => decide (c = x)) L ≥ 0 by omega), decide_eq_false h]
theorem pick_tot (n : Nat) (a : Int) (m : Nat) (h0 : 0 < m) (h1 : m ≤ 1000000) : ∃ p : Nat, g10 n a (m : Int) = some (p : Int) ∧ p < m := by
  unfold g10
  have hm : IntKind.wrap .u64 (m : Int) = (m : Int) := by simp [IntKind.wrap, IntKind.signed, IntKind.bits]; omega
  have ha : 0 ≤ IntKind.wrap .u64 a := by simp [IntKind.wrap, IntKind.signed, IntKind.bits]; omega
  generalize IntKind.wrap .u64 a = b at ha
  have ht : Int.tmod b (m : Int) = ((b.toNat % m : Nat) : Int) := by
    obtain ⟨q, rfl⟩ := Int.eq_ofNat_of_zero_le ha
    rw [Int.tmod_eq_emod_of_nonneg ha, Int.toNat_natCast]; simp
  have hlt : b.toNat % m < m := Nat.mod_lt _ h0
  refine ⟨b.toNat % m, ?_, hlt⟩
  rw [hm]
  unfold modO
  rw [ht]
  have : ¬ ((m : Int) = 0) := by omega
  simp only [this, if_false, decide_false, cond_false, Option.bind_some]
  rw [wrap64 (by omega) (by omega)]
theorem closes_law (n : Nat) (hn : 100 < n) (l : List TReadbackOpen) (c : TClearance) (t w : Int) : g3 n l c t w = some true := by
  unfold g3 g8
  simp only [Option.bind_some, Bool.not_true, cond_false]
  obtain ⟨z, hz, hz0⟩ := pre_tot n hn l c t
  by_cases h0 : ¬ z = 0
  · have : g9 n l c t = some ([], z) := by
      unfold g9
      rw [hz]
      simp only [Option.bind_some, show (z != 0) = true from bne_iff_ne.2 h0, cond_true]
    rw [this]
    simp only [Option.bind_some, show (z != 0) = true from bne_iff_ne.2 h0, cond_true]; rfl
  have h0 : z = 0 := Decidable.of_not_not h0
  obtain ⟨hok, hc, hw⟩ := hz0 h0
  subst h0
  obtain ⟨t0, t1, tl⟩ := wrong_all hok hw
  obtain ⟨rok, rkey⟩ := rest_ok hok c
  have hrt : ∀ x ∈ rest l c, x.Time ≤ t := fun x hx => by
    refine tl x ?_
    unfold rest at hx
    split at hx
    · exact hx
    · exact (without_sub _ _).subset hx
  have hrl := rok.len
  rw [say_eq n hn l c t hz hok]
  by_cases h12 : (rest l c).length = 12
  · rw [if_pos h12]; rfl
  rw [if_neg h12]
  simp only [Option.bind_some, bne_self_eq_false, cond_false]
  obtain ⟨p, hp, hp60⟩ := pick_tot n w 60 (by omega) (by omega)
  have hp : g10 n w 60 = some (p : Int) := hp
  rw [hp]
  simp only [Option.bind_some]
  rw [wrap64 (z := t + (p : Int)) (by omega) (by omega)]
  by_cases hat : t + (p : Int) > 200000
  · rw [decide_eq_true hat]; rfl
  rw [decide_eq_false hat, cond_false]
  -- the list with the clearance
  have hk : keyed c (opened c t) = true := by simp [keyed, opened]
  have mok : OpenOk n (rest l c ++ [opened c t]) := by
    refine ⟨by simp; omega, fun x hx => ?_, fun x hx => ?_, ?_, ?_⟩
    · rcases List.mem_append.1 hx with hx | hx
      · exact rok.said x hx
      · simp at hx; subst hx; exact hc
    · rcases List.mem_append.1 hx with hx | hx
      · exact rok.time x hx
      · simp at hx; subst hx; exact ⟨t0, t1⟩
    · rw [List.pairwise_append]
      exact ⟨rok.sorted, by simp, fun a ha b hb => by simp at hb; subst hb; exact hrt a ha⟩
    · rw [List.pairwise_append]
      exact ⟨rok.keys, by simp, fun a ha b hb => by simp at hb; subst hb; exact rkey a ha⟩
  have hidx : idxL (keyed c) (rest l c ++ [opened c t]) = ((rest l c).length : Int) := by
    have key : ∀ L : List TReadbackOpen, (∀ y ∈ L, keyed c y = false) → idxL (keyed c) (L ++ [opened c t]) = (L.length : Int) := by
      intro L
      induction L with
      | nil => intro _; simp [idxL, hk]
      | cons a L ih =>
        intro h
        have h1 := ih (fun y hy => h y (by simp [hy]))
        simp only [List.cons_append, idxL, h a (by simp), Bool.false_eq_true, if_false, h1, List.length_cons]
        rw [if_neg (by omega)]; omega
    exact key _ rkey
  have hx : (rest l c ++ [opened c t])[(rest l c).length]? = some (opened c t) := List.getElem?_concat_length
  have hpre : g25 n (rest l c ++ [opened c t]) c (t + p) = some 0 := pre_ok n hn _ c _ mok hc (wrong_no (by omega) (by omega) fun x hx => by
    rcases List.mem_append.1 hx with hx | hx
    · have := hrt x hx; omega
    · simp at hx; subst hx; show t ≤ _; omega)
  rw [hear_some n hn _ c (t + p) ⟨by omega, by omega⟩ hpre mok (rest l c).length (opened c t) hidx hx rfl]
  have hot : (opened c t).Time = t := rfl
  rw [hot]
  simp only [Option.bind_some]
  rw [wrap64 (z := t + (p : Int) - t) (by omega) (by omega)]
  by_cases h40 : t + (p : Int) - t > 40
  · rw [if_pos h40, decide_eq_true h40]; rfl
  rw [if_neg h40, decide_eq_false h40]
  simp only [cond_false]
  have hwo : without (rest l c ++ [opened c t]) (rest l c).length = rest l c := by
    unfold without
    rw [List.take_left, List.drop_of_length_le (by simp), List.append_nil]
  rw [hwo]
  have hneg : idxL (keyed c) (rest l c) < 0 := (idxL_neg _ _).2 rkey
  have hpre2 : g25 n (rest l c) c (t + p) = some 0 := pre_ok n hn _ c _ rok hc (wrong_no (by omega) (by omega) fun x hx => by have := hrt x hx; omega)
  rw [hear_none n hn (rest l c) c (t + p) hpre2 rok hneg]
  obtain ⟨L, hL, hLl, hLm⟩ := of_tot n hn (rest l c) c.Call rok
  rw [hL]
  simp only [Option.bind_some, beq_self_eq_true, cond_true]
  rw [hasC_eq n L c (by omega) (by omega)]
  have hnot : ¬ c ∈ L := fun hm => by
    obtain ⟨x, hx, hxc⟩ := hLm c hm
    have := rkey x hx
    rw [← hxc, keyed_self] at this
    cases this
  simp only [Option.bind_some, decide_eq_false hnot, Bool.not_false, cond_true]
  rw [wrap64 (by first | omega | (simp; done) | (simp; omega)) (by first | omega | (simp; done) | (simp; omega))]
  simp
end Go.Proofs.YtnechdhngpajbaaDoor
