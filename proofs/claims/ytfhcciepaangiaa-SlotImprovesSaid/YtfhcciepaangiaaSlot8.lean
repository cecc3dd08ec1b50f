/- Nobody has a greater delay after a demand is withdrawn. -/
import Derived.Test.YtfhcciepaangiaaSlot6
import Derived.Test.YtfhcciepaangiaaSlotP
import Derived.Test.YtfhcciepaangiaaSlot7
set_option linter.unusedVariables false
set_option linter.unusedSimpArgs false
namespace Go.Proofs.Ytfhcciepaangiaa

/- DeleteFunc's loop: what is kept moves to the front -/
theorem del_loop {α ρ : Type} (p : α → Bool) (l : List α) {S : Int × Int × List α → Option ((Int × Int × List α) ⊕ ρ)} (r : ρ)
    (hs : ∀ (i j : Nat) (L : List α) (x : α), L.length = l.length → i < j → L[j]? = some x → S ((i : Int), (j : Int), L) = some (.inl (if p x then ((i : Int), ((j + 1 : Nat) : Int), L) else (((i + 1 : Nat) : Int), ((j + 1 : Nat) : Int), L.set i x))))
    (h0 : ∀ (i : Nat) (L : List α), L.length = l.length → i < l.length → L.take i = l.filter (fun x => !p x) → S ((i : Int), (l.length : Int), L) = some (.inr r)) (n : Nat) (hn : l.length < n) (i0 : Nat) (hi0 : i0 < l.length) (hp0 : ∀ x, l[i0]? = some x → p x = true) (hlt : ∀ (j : Nat) (x : α), j < i0 → l[j]? = some x → p x = false) :
    iterO S n ((i0 : Int), ((i0 + 1 : Nat) : Int), l) = some r := by
  have hf0 : l.take i0 = (l.take (i0 + 1)).filter (fun x => !p x) := by
    rw [List.take_succ_eq_append_getElem hi0, List.filter_append, List.filter_cons_of_neg (by simp [hp0 _ (List.getElem?_eq_getElem hi0)]), List.filter_nil, List.append_nil]
    symm
    rw [List.filter_eq_self]
    intro x hx
    rw [List.mem_take_iff_getElem] at hx
    obtain ⟨j, hj, rfl⟩ := hx
    rw [hlt j _ (by omega) (List.getElem?_eq_getElem (by omega))]; rfl
  refine iterO_eq (fun y => ∃ (i j : Nat) (L : List α), y = ((i : Int), (j : Int), L) ∧ i < j ∧ j ≤ l.length ∧ L.length = l.length ∧ L.take i = (l.take j).filter (fun x => !p x) ∧ L.drop j = l.drop j) _ (fun y => l.length - y.2.1.toNat) ?_ n _ ⟨i0, i0 + 1, l, rfl, by omega, hi0, rfl, hf0, rfl⟩ (by simp; omega)
  rintro _ ⟨i, j, L, rfl, hij, hj, hL, ht, hd⟩
  rcases Nat.lt_or_ge j l.length with hjl | hge
  · have hx : l[j]? = some l[j] := List.getElem?_eq_getElem hjl
    have htk := List.take_succ_eq_append_getElem hjl
    generalize l[j] = x at hx htk
    have hLx : L[j]? = some x := by
      have := congrArg (fun q => q[0]?) hd
      simpa [List.getElem?_drop, hx] using this
    have hS := hs i j L x hL hij hLx
    have hdd : L.drop (j + 1) = l.drop (j + 1) := by
      have := congrArg (List.drop 1) hd
      simpa [List.drop_drop] using this
    cases hp : p x with
    | true =>
      rw [hp] at hS
      refine .inl ⟨_, hS, ⟨i, j + 1, L, rfl, by omega, hjl, hL, ?_, hdd⟩, by simp; omega⟩
      rw [htk, List.filter_append, List.filter_cons_of_neg (by simp [hp]), List.filter_nil, List.append_nil, ht]
    | false =>
      rw [hp] at hS
      refine .inl ⟨_, hS, ⟨i + 1, j + 1, L.set i x, rfl, by omega, hjl, by simpa using hL, ?_, ?_⟩, by simp; omega⟩
      · rw [htk, List.filter_append, List.filter_cons_of_pos (by simp [hp]), List.filter_nil, ← ht]
        have hi' : i < (L.set i x).length := by simp; omega
        rw [List.take_succ_eq_append_getElem hi', List.getElem_set_self, List.take_set_of_le (Nat.le_refl _)]
      · rw [List.drop_set_of_lt (by omega)]; exact hdd
  · have : j = l.length := by omega
    subst this
    rw [List.take_length] at ht
    exact .inr (h0 i L hL hij ht)
theorem delD_eq (n : Nat) (l : List TSlotDemand) (nm : ByteArray) (hl : l.length ≤ 1000) (hn : l.length < n) : g42 n l nm = some (l.filter fun d => !(d.Call.toList == nm.toList)) := by
  unfold g42
  have e : g54_1 n l nm = some (idxL (calledD nm) l) := by
    unfold g54_1
    exact index_loop (calledD nm) l (by omega) (S := fun y : Int => S54_0_x1 n l nm 0 (l.length : Int) y) (fun i x' hx => by
      have := some_lt hx
      unfold S54_0_x1 g43
      rw [decide_eq_true (show (i : Int) < _ by omega), getI_at hx, wS (by omega)]
      simp only [cond_true, Option.bind_some, calledD]
      by_cases h : (x'.Call.toList == nm.toList) = true <;> simp [h]) (by
      unfold S54_0_x1
      simp) n hn
  rw [e]
  simp only [Option.bind_some]
  have hge := idxL_ge (calledD nm) l
  by_cases h : idxL (calledD nm) l < 0
  · rw [show (idxL (calledD nm) l == -1) = true from beq_iff_eq.2 (by omega), cond_true]
    congr 1
    symm
    rw [List.filter_eq_self]
    intro x hx
    have := (idxL_neg _ _).1 h x hx
    unfold calledD at this
    rw [this]; rfl
  · obtain ⟨x0, k1, k2, k3⟩ := idxL_at (calledD nm) l (by omega)
    rw [show (idxL (calledD nm) l == -1) = false from beq_eq_false_iff_ne.2 (by omega), cond_false]
    generalize hi : (idxL (calledD nm) l).toNat = i at k1 k3
    have hi' : idxL (calledD nm) l = (i : Int) := by omega
    have hlt := some_lt k1
    rw [hi', wS (by omega)]
    refine del_loop (calledD nm) l _ (fun i j L x hL hij hx => ?_) (fun i L hL hil ht => ?_) n hn i hlt (fun x hx => by rw [k1] at hx; cases hx; exact k2) (fun j x hj hx => k3 j hj x hx)
    · have := some_lt hx
      show S42m_0 n nm (i : Int) (j : Int) L = _
      unfold S42m_0 g43
      rw [decide_eq_true (show (j : Int) < (L.length : Int) by omega), getI_at hx]
      simp only [cond_true, Option.bind_some, wS (show j < 9223372036854775807 by omega), wS (show i < 9223372036854775807 by omega), Int.toNat_natCast]
      unfold calledD
      have hy : L[i]? = some (L[i]'(by omega)) := List.getElem?_eq_getElem (by omega)
      cases hq : x.Call.toList == nm.toList with
      | true => rfl
      | false => simp only [Bool.not_false, cond_true, getI_at hy, Option.bind_some]; rfl
    · show S42m_0 n nm (i : Int) (l.length : Int) L = _
      unfold S42m_0
      rw [decide_eq_false (show ¬ (l.length : Int) < (L.length : Int) by omega), cond_false]
      have s1 : sliceO L (some (i : Int)) none = some (L.drop i) := by
        simp only [sliceO, Option.getD_none, Option.getD_some]
        rw [if_pos ⟨by omega, by omega, Int.le_refl _⟩, Int.toNat_natCast, List.take_of_length_le]
        rw [List.length_drop]; omega
      rw [s1]
      simp only [Option.bind_some]
      have hne : neO (L.drop i) = some () := by
        cases hq : L.drop i with
        | nil => rw [List.drop_eq_nil_iff] at hq; omega
        | cons a r => rfl
      rw [hne]
      simp only [Option.bind_some, Int.toNat_natCast]
      have hcl : ∀ z : TSlotDemand, (clrL z L (L.drop i) i).take i = L.take i := by
        intro z
        unfold clrL
        rw [List.append_assoc, List.take_append_of_le_length (by simp; omega), List.take_take, Nat.min_self]
      rw [slice_hi _ i (by unfold clrL; simp; omega), hcl, ht]
      rfl
theorem index3_eq (n : Nat) (l : List TSlot) (nm pl : ByteArray) (t : Int) (hl : l.length ≤ 1000) (hn : l.length < n) : g24 n l nm pl t = some (idxL (called nm) l) := by
  unfold g24
  exact index_loop (called nm) l (by omega) (S := fun y : Int => S24_0 n l nm pl t 0 (l.length : Int) y) (fun i x hx => by
    have := some_lt hx
    unfold S24_0 g25
    rw [decide_eq_true (show (i : Int) < _ by omega), getI_at hx, wS (by omega)]
    simp only [cond_true, Option.bind_some, called]
    by_cases h : (x.Call.toList == nm.toList) = true <;> simp [h]) (by
    unfold S24_0
    simp) n hn
theorem filter_len (l : List TSlotDemand) (hd : DemOk l) {d : TSlotDemand} (hdl : d ∈ l) : (l.filter fun x => !(x.Call.toList == d.Call.toList)).length + 1 = l.length := by
  have key : ∀ l : List TSlotDemand, (l.Pairwise fun x y => x.Call.toList ≠ y.Call.toList) → d ∈ l → (l.filter fun x => !(x.Call.toList == d.Call.toList)).length + 1 = l.length := by
    intro l
    induction l with
    | nil => intro _ h; simp at h
    | cons a l ih =>
      intro hp hm
      rw [List.pairwise_cons] at hp
      rcases List.mem_cons.1 hm with rfl | hm
      · rw [List.filter_cons_of_neg (by simp)]
        have : (l.filter fun x => !(x.Call.toList == d.Call.toList)) = l := by
          rw [List.filter_eq_self]
          intro x hx
          simp only [Bool.not_eq_true', beq_eq_false_iff_ne]
          exact fun e => hp.1 x hx e.symm
        rw [this]; rfl
      · rw [List.filter_cons_of_pos (by simp; exact hp.1 d hm), List.length_cons, ih hp.2 hm]; rfl
  exact key l hd.one hdl
theorem improves_law (n : Nat) (hn : 300 < n) (l : List TSlotDemand) (c : List TFlowCap) (a2 : Int) : g6 n l c a2 = some true := by
  unfold g6 g18
  simp only [Option.bind_some, Bool.not_true, cond_false]
  generalize hpl : (⟨#[82, 87, 89]⟩ : ByteArray) = pl
  rcases assign_cases n hn pl l c with ⟨z, hz, h⟩ | ⟨h1, h2, h3, hd, hc⟩
  · rw [h]
    simp only [Option.bind_some, show (z != 0) = true from bne_iff_ne.2 hz, cond_true]; rfl
  obtain ⟨k, -, hp, ho⟩ := sort_dem n (by omega) l hd
  have he := assign_eq n hn pl l c h1 h2 h3 hd hc k hp ho
  rw [he]
  cases hr : runA pl c k (List.replicate c.length 0) with
  | none => rfl
  | some s =>
    rw [hr] at he
    have hll := hd.len
    obtain ⟨f1, f2⟩ := runA_facts hc k _ s hr
    have hsl : s.length = l.length := by rw [f1, hp.length_eq]
    simp only [Option.bind_some, bne_self_eq_false, cond_false]
    rcases Nat.eq_zero_or_pos l.length with h0 | h0
    · have : s = [] := List.eq_nil_of_length_eq_zero (by omega)
      subst this
      rw [h0]; rfl
    rw [show ((l.length : Int) == 0) = false from beq_eq_false_iff_ne.2 (by omega)]
    obtain ⟨q, e1, lq⟩ := pick_tot n a2 l.length h0 (by omega)
    have hda : l[q]? = some l[q] := List.getElem?_eq_getElem lq
    generalize l[q] = d at hda
    have hdl := List.mem_of_getElem? hda
    simp only [cond_false, e1, getI_at hda, Option.bind_some]
    -- without the demand
    have hlen := filter_len l hd hdl
    have hrel : g23 n pl d.Call l c = g19 n pl (l.filter fun x => !(x.Call.toList == d.Call.toList)) c := by
      unfold g23
      rw [he]
      simp only [Option.bind_some, bne_self_eq_false, cond_false]
      have hne : neO l = some () := by
        cases l with
        | nil => simp at h0
        | cons a r => rfl
      rw [room_of (by omega) (by omega), hne, delD_eq n l d.Call (by omega) (by omega)]
      simp only [Option.bind_some]
      rw [show (((l.filter fun x => !(x.Call.toList == d.Call.toList)).length : Int) == (l.length : Int)) = false from beq_eq_false_iff_ne.2 (by omega), cond_false]
      cases g19 n pl (l.filter fun x => !(x.Call.toList == d.Call.toList)) c <;> rfl
    rw [hrel]
    have hd2 : DemOk (l.filter fun x => !(x.Call.toList == d.Call.toList)) := ⟨by omega, fun x hx => hd.time x (List.mem_filter.1 hx).1, hd.one.sublist List.filter_sublist⟩
    have hck : g35 n (l.filter fun x => !(x.Call.toList == d.Call.toList)) = some 0 := checkD_ok n (by omega) _ hd2 fun x hx => checkD_names n (by omega) l h2 x (List.mem_filter.1 hx).1
    have hkpw : k.Pairwise fun x y => x.Call.toList ≠ y.Call.toList := hp.symm.pairwise hd.one (fun h => Ne.symm h)
    obtain ⟨s', r1, r2⟩ := removal hc d.Call k _ s hkpw hr
    rw [assign_eq n hn pl _ c h1 hck h3 hd2 hc _ (hp.filter _) (ho.sublist List.filter_sublist), r1]
    obtain ⟨g1, g2⟩ := runA_facts hc _ _ s' r1
    have hs'l : s'.length + 1 = l.length := by rw [g1, (hp.filter _).length_eq, hlen]
    simp only [Option.bind_some, bne_self_eq_false, cond_false]
    rw [wrap64 (by omega) (by omega), show ((s'.length : Int) != (l.length : Int) - 1) = false by simp; omega, cond_false]
    have hnd := nodup_of hd
    refine iterO_eq (fun y => ∃ i : Nat, i ≤ s'.length ∧ y = (i : Int)) _ (fun y => s'.length - y.toNat) ?_ n _ ⟨0, Nat.zero_le _, rfl⟩ (by simp; omega)
    rintro _ ⟨i, hi, rfl⟩
    rcases Nat.lt_or_ge i s'.length with hlt | hge
    · have hx : s'[i]? = some s'[i] := List.getElem?_eq_getElem hlt
      have hm := List.getElem_mem hlt
      generalize s'[i] = x at hx hm
      obtain ⟨x0, m1, m2, m3⟩ := r2 x hm
      -- its demand is another one
      have hcall : (x.Call.toList == d.Call.toList) = false := by
        have hki : (k.filter fun x => !(x.Call.toList == d.Call.toList))[i]? = some ((k.filter fun x => !(x.Call.toList == d.Call.toList))[i]'(by omega)) := List.getElem?_eq_getElem (by omega)
        have h5 := g2 i _ x hki hx
        have h6 := (List.mem_filter.1 (List.mem_of_getElem? hki)).2
        rw [h5.1]
        simpa using h6
      -- the slot of the same flight
      rcases idx_find (called x.Call) s with ⟨h5, h6⟩ | ⟨h5, y, h6, h7⟩
      · exfalso
        rw [List.find?_eq_none] at h6
        have := h6 x0 m1
        unfold called at this
        rw [m2] at this
        simp at this
      · have hyc : called x.Call y = true := List.find?_some h6
        have hyx : y = x0 := by
          obtain ⟨a, ha, rfl⟩ := List.getElem_of_mem m1
          have hka : k[a]? = some (k[a]'(by omega)) := List.getElem?_eq_getElem (by omega)
          have hkb : k[(idxL (called x.Call) s).toNat]? = some (k[(idxL (called x.Call) s).toNat]'(by have := some_lt h7; omega)) := List.getElem?_eq_getElem (by have := some_lt h7; omega)
          have c1 := (f2 a _ s[a] hka (List.getElem?_eq_getElem ha)).1
          have c2 := (f2 _ _ y hkb h7).1
          unfold called at hyc
          have hyc := beq_iff_eq.1 hyc
          have heq : (k[a]'(by omega)).Call.toList = (k[(idxL (called x.Call) s).toNat]'(by have := some_lt h7; omega)).Call.toList := by rw [← c1, ← c2, hyc, m2]
          have hpi := List.pairwise_iff_getElem.1 hkpw
          have hab : a = (idxL (called x.Call) s).toNat := by
            have hb := some_lt h7
            rcases Nat.lt_trichotomy a (idxL (called x.Call) s).toNat with h | h | h
            · exact absurd heq (hpi a _ (by omega) (by omega) h)
            · exact h
            · exact absurd heq.symm (hpi _ a (by omega) (by omega) h)
          rw [← hab] at h7
          rw [List.getElem?_eq_getElem ha] at h7
          exact (Option.some.inj h7).symm
        have hgy : getI s (idxL (called x.Call) s) = some y := by unfold getI; rw [if_pos h5]; exact h7
        refine .inl ⟨_, ?_, ⟨i + 1, hlt, rfl⟩, by simp; omega⟩
        unfold S6_0
        rw [decide_eq_true (show (i : Int) < (s'.length : Int) by omega), getI_at hx]
        simp only [cond_true, Option.bind_some]
        rw [index3_eq n s x.Call x.Place x.Time (by omega) (by omega)]
        simp only [Option.bind_some, decide_eq_false (show ¬ idxL (called x.Call) s < 0 by omega), cond_false, hcall, hgy, wS (show i < 9223372036854775807 by omega)]
        rw [decide_eq_false (show ¬ x.Time > y.Time by rw [hyx]; omega), cond_false]
    · have : i = s'.length := by omega
      subst this
      right
      unfold S6_0
      rw [decide_eq_false (show ¬ (s'.length : Int) < (s'.length : Int) by omega)]; rfl
end Go.Proofs.Ytfhcciepaangiaa
