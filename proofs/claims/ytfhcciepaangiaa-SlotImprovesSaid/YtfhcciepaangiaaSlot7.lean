/- A demand behind all others does not change their slots. -/
import Derived.Test.YtfhcciepaangiaaSlot6
import Derived.Test.YtfhcciepaangiaaSlotP
set_option linter.unusedVariables false
set_option linter.unusedSimpArgs false
namespace Go.Proofs.Ytfhcciepaangiaa

theorem checkD_names (n : Nat) (hn : 100 < n) (l : List TSlotDemand) (h : g35 n l = some 0) : ∀ d ∈ l, g34 n d.Call = some true := by
  obtain ⟨z, hz, hz0⟩ := checkD_tot n hn l
  rw [hz] at h
  have h0 : z = 0 := Option.some.inj h
  have hd := hz0 h0
  have hl := hd.len
  subst h0
  unfold g35 at hz
  rw [decide_eq_false (show ¬ (l.length : Int) > 24 by omega), cond_false] at hz
  obtain ⟨r, e, hr⟩ := iter_each (S := fun y : Int => S35_0 n l 0 (l.length : Int) y) l (fun i x => g34 n x.Call = some true) (fun r => r ≠ 0) 0 (fun i x hx => by
    have hi := some_lt hx
    obtain ⟨b, hb⟩ := sname_tot n (by omega) x.Call
    have hh := hasD_eq n (l.take i) x.Call x.Time (by simp; omega) (by simp; omega)
    unfold S35_0
    rw [decide_eq_true (show (i : Int) < _ by omega), getI_at hx, wS (by omega), slice_hi l i (by omega)]
    simp only [cond_true, Option.bind_some, hb, hh]
    simp only [Bool.cond_eq_ite]
    repeat' split
    all_goals first
      | exact .inr ⟨_, rfl, by decide⟩
      | (refine .inl ⟨rfl, ?_⟩; simp_all)) (by unfold S35_0; simp) n (by omega)
  have e : iterO (fun y : Int => S35_0 n l 0 (l.length : Int) y) n 0 = some r := e
  rw [e] at hz
  rcases hr with hr | ⟨-, hr⟩
  · exact absurd (Option.some.inj hz) hr
  · intro d hd
    obtain ⟨i, hi, rfl⟩ := List.getElem_of_mem hd
    exact hr i _ (List.getElem?_eq_getElem hi)
theorem checkD_ok (n : Nat) (hn : 100 < n) (l : List TSlotDemand) (hd : DemOk l) (hnm : ∀ d ∈ l, g34 n d.Call = some true) : g35 n l = some 0 := by
  have hl := hd.len
  unfold g35
  rw [decide_eq_false (show ¬ (l.length : Int) > 24 by omega), cond_false]
  refine iterO_eq (fun y => ∃ i : Nat, i ≤ l.length ∧ y = (i : Int)) _ (fun y => l.length - y.toNat) ?_ n _ ⟨0, Nat.zero_le _, rfl⟩ (by simp; omega)
  rintro _ ⟨i, hi, rfl⟩
  rcases Nat.lt_or_ge i l.length with hlt | hge
  · have hx : l[i]? = some l[i] := List.getElem?_eq_getElem hlt
    have hm := List.getElem_mem hlt
    have hpw := hd.one
    rw [List.pairwise_iff_getElem] at hpw
    have hneg : idxL (calledD l[i].Call) (l.take i) < 0 := (idxL_neg _ _).2 fun y hy => by
      rw [List.mem_take_iff_getElem] at hy
      obtain ⟨j, hj, rfl⟩ := hy
      have := hpw j i (by omega) hlt (by omega)
      unfold calledD
      exact beq_eq_false_iff_ne.2 this
    generalize l[i] = x at hx hm hneg
    have ht := hd.time x hm
    have hh := hasD_eq n (l.take i) x.Call x.Time (by simp; omega) (by simp; omega)
    refine .inl ⟨_, ?_, ⟨i + 1, hlt, rfl⟩, by simp; omega⟩
    unfold S35_0
    rw [decide_eq_true (show (i : Int) < _ by omega), getI_at hx, wS (by omega), slice_hi l i (by omega)]
    simp only [cond_true, Option.bind_some, hnm x hm, hh, Bool.not_true, cond_false, decide_eq_false (show ¬ x.Time < 0 by omega), decide_eq_false (show ¬ x.Time > 200000 by omega), decide_eq_false (show ¬ idxL (calledD x.Call) (l.take i) ≥ 0 by omega)]
  · have : i = l.length := by omega
    subst this
    right
    unfold S35_0
    simp
theorem order_append (k : List TSlotDemand) (z : TSlotDemand) (ho : InOrder k) (hz : ∀ a ∈ k, a.Time ≤ z.Time ∧ Op.bytesLess a.Call.toList z.Call.toList = true) : InOrder (k ++ [z]) := by
  unfold InOrder
  rw [List.pairwise_append]
  refine ⟨ho, by simp, fun a ha b hb => ?_⟩
  simp at hb
  subst hb
  obtain ⟨h1, h2⟩ := hz a ha
  unfold beforeD
  rw [decide_eq_false (show ¬ b.Time < a.Time by omega), less_asy _ _ h2]
  simp
theorem earlier_law (n : Nat) (hn : 300 < n) (hzn : g34 n (⟨#[90, 90, 90, 90]⟩ : ByteArray) = some true) (l : List TSlotDemand) (c : List TFlowCap) (a2 : Int) : g5 n l c a2 = some true := by
  unfold g5 g18
  simp only [Option.bind_some, Bool.not_true, cond_false]
  generalize hpl : (⟨#[82, 87, 89]⟩ : ByteArray) = pl
  rcases assign_cases n hn pl l c with ⟨z, hz, h⟩ | ⟨h1, h2, h3, hd, hc⟩
  · rw [h]
    simp only [Option.bind_some, show (z != 0) = true from bne_iff_ne.2 hz, cond_true]
  obtain ⟨k, -, hp, ho⟩ := sort_dem n (by omega) l hd
  have he := assign_eq n hn pl l c h1 h2 h3 hd hc k hp ho
  rw [he]
  cases hr : runA pl c k (List.replicate c.length 0) with
  | none => rfl
  | some s =>
    simp only [Option.bind_some, bne_self_eq_false, cond_false]
    by_cases hlen : (l.length : Int) ≥ 24
    · rw [decide_eq_true hlen, cond_true]
    rw [decide_eq_false hlen, cond_false]
    have hsl : s.length = l.length := by rw [(runA_facts hc k _ s hr).1, hp.length_eq]
    refine iterO_eq (fun y => ∃ (i : Nat) (most : Int), y = (most, (i : Int)) ∧ i ≤ l.length ∧ 0 ≤ most ∧ most ≤ 200000 ∧ ∀ d ∈ l.take i, d.Time ≤ most ∧ Op.bytesLess d.Call.toList ((⟨#[90, 90, 90, 90]⟩ : ByteArray)).toList = true) _ (fun y => l.length - y.2.toNat) ?_ n _ ⟨0, 0, rfl, Nat.zero_le _, by omega, by omega, fun d hd => by simp at hd⟩ (by simp; omega)
    rintro _ ⟨i, most, rfl, hi, m0, m1, hm⟩
    rcases Nat.lt_or_ge i l.length with hlt | hge
    · have hx : l[i]? = some l[i] := List.getElem?_eq_getElem hlt
      have htk := List.take_succ_eq_append_getElem hlt
      have hml := List.getElem_mem hlt
      generalize l[i] = x at hx htk hml
      have hxt := hd.time x hml
      cases hb : Op.bytesLess x.Call.toList ((⟨#[90, 90, 90, 90]⟩ : ByteArray)).toList with
      | false =>
        right
        unfold S5_0
        rw [decide_eq_true (show (i : Int) < (l.length : Int) by omega), getI_at hx]
        simp only [cond_true, Option.bind_some, hb, Bool.not_false]
      | true =>
        refine .inl ⟨_, ?_, ⟨i + 1, if x.Time > most then x.Time else most, rfl, hlt, by split <;> omega, by split <;> omega, fun d hd => ?_⟩, by simp; omega⟩
        · unfold S5_0
          rw [decide_eq_true (show (i : Int) < (l.length : Int) by omega), getI_at hx]
          simp only [cond_true, Option.bind_some, hb, Bool.not_true, cond_false, wS (show i < 9223372036854775807 by omega)]
        · rw [htk] at hd
          rcases List.mem_append.1 hd with hd | hd
          · have := hm d hd
            exact ⟨by split <;> omega, this.2⟩
          · simp at hd; subst hd; exact ⟨by split <;> omega, hb⟩
    · have : i = l.length := by omega
      subst this
      rw [List.take_length] at hm
      right
      unfold S5_0
      rw [decide_eq_false (show ¬ (l.length : Int) < (l.length : Int) by omega), cond_false]
      obtain ⟨q, e1, hq⟩ := pick_tot n a2 50 (by omega) (by omega)
      have e1 : g20 n a2 50 = some (q : Int) := e1
      rw [e1]
      simp only [Option.bind_some]
      rw [room_of (k := l.length) (by omega) (by omega)]
      simp only [Option.bind_some]
      rw [room_of (by simp; omega) (by simp; omega)]
      simp only [Option.bind_some, hpl]
      rw [wrap64 (z := most + (q : Int)) (by omega) (by omega)]
      generalize ht : (if most + (q : Int) < 200000 then most + (q : Int) else 200000) = t
      have ht1 : most ≤ t ∧ t ≤ 200000 ∧ 0 ≤ t := by rw [← ht]; split <;> omega
      have hz : ∀ a ∈ l, a.Time ≤ t ∧ Op.bytesLess a.Call.toList ((⟨#[90, 90, 90, 90]⟩ : ByteArray)).toList = true := fun a ha => ⟨by have := (hm a ha).1; omega, (hm a ha).2⟩
      generalize hnm : (⟨#[90, 90, 90, 90]⟩ : ByteArray) = nm at hzn hz
      have hd2 : DemOk (l ++ [⟨nm, t⟩]) := by
        refine ⟨by simp; omega, fun d hd' => ?_, ?_⟩
        · rcases List.mem_append.1 hd' with h | h
          · exact hd.time d h
          · simp at h; subst h; exact ⟨ht1.2.2, ht1.2.1⟩
        · rw [List.pairwise_append]
          refine ⟨hd.one, by simp, fun a ha b hb => ?_⟩
          simp at hb; subst hb
          intro e
          have := (hz a ha).2
          rw [e, less_irr] at this
          cases this
      have hck : g35 n (l ++ [⟨nm, t⟩]) = some 0 := checkD_ok n (by omega) _ hd2 fun d hd' => by
        rcases List.mem_append.1 hd' with h | h
        · exact checkD_names n (by omega) l h2 d h
        · simp at h; subst h; exact hzn
      have hp2 : (k ++ [(⟨nm, t⟩ : TSlotDemand)]).Perm (l ++ [⟨nm, t⟩]) := hp.append_right _
      have ho2 : InOrder (k ++ [(⟨nm, t⟩ : TSlotDemand)]) := order_append k _ ho fun a ha => hz a (hp.mem_iff.1 ha)
      rw [assign_eq n hn pl _ c h1 hck h3 hd2 hc _ hp2 ho2]
      rcases runA_append (pl := pl) (c := c) ⟨nm, t⟩ k _ s hr with g | ⟨x, g⟩
      · rw [g]
        rfl
      · rw [g]
        simp only [Option.bind_some]
        have e18 : ((0 : Int) == 18) = false := by decide
        have hlen2 : (((s ++ [x]).length : Int) == IntKind.wrap .i64 ((s.length : Int) + 1)) = true := by
          rw [wS (by omega)]; simp
        rw [e18, hlen2, slice_hi (s ++ [x]) s.length (by simp), List.take_left]
        simp only [cond_false, beq_self_eq_true, cond_true, Option.bind_some]
        rw [equalS_eq n s s (by omega) (by omega)]
        simp
end Go.Proofs.Ytfhcciepaangiaa
