/- Slots keep all capacities, and nobody gets one too early. -/
import Derived.Test.YtfhcciepaangiaaSlot3
set_option linter.unusedVariables false
set_option linter.unusedSimpArgs false
namespace Go.Proofs.Ytfhcciepaangiaa

def inside (t : Int) (x : TFlowCap) : Bool := decide (t ≥ x.Span_From) && decide (t < x.Span_To)
theorem inside_eq (n : Nat) (c : List TFlowCap) (t : Int) (hl : c.length ≤ 1000) (hn : c.length < n) : g33 n c t = some (idxL (inside t) c) := by
  unfold g33 g40_1
  have e := index_loop (inside t) c (by omega) (S := fun y : Int => S40_0_x1 n c t 0 (c.length : Int) y) (fun i x' hx => by
    have := some_lt hx
    unfold S40_0_x1 g47
    rw [decide_eq_true (show (i : Int) < _ by omega), getI_at hx, wS (by omega)]
    simp only [cond_true, Option.bind_some, inside]
    by_cases h : t ≥ x'.Span_From <;> by_cases h' : t < x'.Span_To <;> simp [h, h']) (by
    unfold S40_0_x1
    simp) n hn
  rw [e]; rfl
def Under (c : List TFlowCap) (u : List Int) : Prop := ∀ (i : Nat) (x : TFlowCap) (y : Int), c[i]? = some x → u[i]? = some y → y ≤ x.Many
def Fit (c : List TFlowCap) : List Int → List Int → Prop
  | [], u => Under c u
  | t :: T, u => (0 ≤ t ∧ t ≤ 200000) ∧ ∃ (i : Nat) (x : TFlowCap) (y : Int), idxL (inside t) c = (i : Int) ∧ c[i]? = some x ∧ u[i]? = some y ∧ y < x.Many ∧ Fit c T (bump u i)
theorem before_from {c : List TFlowCap} (h : FlowOk c) {i j : Nat} {x y : TFlowCap} (hj : j < i) (hx : c[j]? = some x) (hy : c[i]? = some y) : x.Span_To ≤ y.Span_From := by
  obtain ⟨k, rfl⟩ : ∃ k, i = j + k + 1 := ⟨i - j - 1, by omega⟩
  obtain ⟨z, hz⟩ : ∃ z, c[j + k]? = some z := ⟨_, List.getElem?_eq_getElem (by have := some_lt hy; omega)⟩
  have h1 := h.to_le k j x z hx hz
  have h2 := h.next (j + k) z y hz hy
  omega
theorem inside_at {c : List TFlowCap} (h : FlowOk c) {i : Nat} {x : TFlowCap} {t : Int} (hx : c[i]? = some x) (h1 : x.Span_From ≤ t) (h2 : t < x.Span_To) : idxL (inside t) c = (i : Int) :=
  idxL_first _ _ i x hx (by unfold inside; simp [h1, h2]) fun j y hj hy => by
    have := before_from h hj hy hx
    unfold inside
    rw [decide_eq_false (show ¬ t < y.Span_To by omega), Bool.and_false]
theorem under_bump {c : List TFlowCap} {u : List Int} {i : Nat} {x : TFlowCap} {y : Int} (h : Under c u) (hx : c[i]? = some x) (hy : u[i]? = some y) (hl : y < x.Many) : Under c (bump u i) := by
  intro j x' y' hx' hy'
  unfold bump at hy'
  by_cases e : j = i
  · subst e
    rw [List.getElem?_set_self (some_lt hy), hy] at hy'
    rw [hx] at hx'
    cases hx'; cases hy'
    simp; omega
  · rw [List.getElem?_set_ne (Ne.symm e)] at hy'
    exact h j x' y' hx' hy'
theorem runA_fit {pl : ByteArray} {c : List TFlowCap} (hc : FlowOk c) : ∀ (k : List TSlotDemand) (u : List Int) (s : List TSlot), (∀ d ∈ k, 0 ≤ d.Time ∧ d.Time ≤ 200000) → runA pl c k u = some s → Under c u → Fit c (s.map (·.Time)) u
  | [], u, s, _, h, hu => by cases h; exact hu
  | d :: k, u, s, ht, h, hu => by
    unfold runA at h
    split at h
    · cases h
    · rename_i hp
      cases hr : runA pl c k (bump u (pickA c u d.Time).toNat) with
      | none => rw [hr] at h; cases h
      | some s' =>
        rw [hr] at h
        cases h
        obtain ⟨x, y, q1, q2, q3, q4, -⟩ := pickA_at hp
        have hb := hc.each x (List.mem_of_getElem? q1)
        have hd := ht d (by simp)
        have hT := slotA_time (pl := pl) (d := d) q1
        refine ⟨?_, _, x, y, inside_at hc q1 ?_ ?_, q1, q2, q4, runA_fit hc k _ s' (fun d hd => ht d (by simp [hd])) hr (under_bump hu q1 q2 q4)⟩
        · show 0 ≤ (slotA pl c d (pickA c u d.Time).toNat).Time ∧ (slotA pl c d (pickA c u d.Time).toNat).Time ≤ 200000
          rw [hT]; constructor <;> split <;> omega
        · show _ ≤ (slotA pl c d (pickA c u d.Time).toNat).Time
          rw [hT]; split <;> omega
        · show (slotA pl c d (pickA c u d.Time).toNat).Time < _
          rw [hT]; split <;> omega
theorem demand_eq (n : Nat) (hn : 300 < n) (c : List TFlowCap) (hC : g10 n c = some 0) (hc : FlowOk c) (T : List Int) (hT : T.length ≤ 24) (hf : Fit c T (List.replicate c.length 0)) : ∃ u, g16 n c T = some (u, 0, 0) ∧ u.length = c.length ∧ Under c u := by
  have hcl := hc.len
  unfold g16
  rw [hC]
  simp only [Option.bind_some, bne_self_eq_false, cond_false]
  rw [decide_eq_false (show ¬ (T.length : Int) > 256 by omega), cond_false]
  have hmk : makeO (c.length : Int) 8 = some c.length := by unfold makeO; simp; omega
  rw [hmk]
  simp only [Option.bind_some]
  obtain ⟨r, h1, u, rfl, h2, h3⟩ := iterO_rule (S := fun y : Int × Int × List Int => S16_0 n c 0 T (T.length : Int) y.1 y.2.1 y.2.2) (fun y => ∃ (i : Nat) (u : List Int), y = (0, (i : Int), u) ∧ i ≤ T.length ∧ u.length = c.length ∧ (∀ z ∈ u, 0 ≤ z) ∧ Fit c (T.drop i) u) (fun r => ∃ u, r = (u, 0, 0) ∧ u.length = c.length ∧ Under c u) (fun y => T.length - y.2.1.toNat) (by
    rintro _ ⟨i, u, rfl, hi, hu, hu0, hf⟩
    rcases Nat.lt_or_ge i T.length with hlt | hge
    · have hx : T[i]? = some T[i] := List.getElem?_eq_getElem hlt
      have hdr := List.drop_eq_getElem_cons hlt
      generalize T[i] = t at hx hdr
      rw [hdr] at hf
      obtain ⟨ht, j, x, y, q1, q2, q3, q4, q5⟩ := hf
      have hb := hc.each x (List.mem_of_getElem? q2)
      have hy := hu0 y (List.mem_of_getElem? q3)
      refine .inl ⟨_, ?_, ⟨i + 1, bump u j, rfl, hlt, by rw [bump_len, hu], bump_pos u j hu0, q5⟩, by simp; omega⟩
      show S16_0 n c 0 T (T.length : Int) 0 (i : Int) u = _
      unfold S16_0
      rw [decide_eq_true (show (i : Int) < (T.length : Int) by omega), getI_at hx]
      simp only [cond_true, Option.bind_some, decide_eq_false (show ¬ t < 0 by omega), decide_eq_false (show ¬ t > 200000 by omega), cond_false]
      rw [inside_eq n c t (by omega) (by omega), q1]
      simp only [Option.bind_some, decide_eq_true (show (j : Int) ≥ 0 by omega), cond_true, getI_at q3, wS (show i < 9223372036854775807 by omega), Int.toNat_natCast]
      rw [wrap64 (by omega) (by omega)]
      simp only [bump, q3, Option.getD_some]
    · have : i = T.length := by omega
      subst this
      rw [List.drop_length] at hf
      refine .inr ⟨(u, 0, 0), ?_, u, rfl, hu, hf⟩
      show S16_0 n c 0 T (T.length : Int) 0 (T.length : Int) u = _
      unfold S16_0
      rw [decide_eq_false (show ¬ (T.length : Int) < (T.length : Int) by omega)]; rfl) n (0, 0, List.replicate c.length 0) ⟨0, _, rfl, Nat.zero_le _, by simp, fun z hz => by rw [List.eq_of_mem_replicate hz]; exact Int.le_refl _, hf⟩ (by simp; omega)
  exact ⟨u, h1, h2, h3⟩
theorem over_eq (n : Nat) (hn : 300 < n) (c : List TFlowCap) (hC : g10 n c = some 0) (hc : FlowOk c) (T : List Int) (hT : T.length ≤ 24) (hf : Fit c T (List.replicate c.length 0)) : g12 n c T = some ([], 0) := by
  have hcl := hc.len
  obtain ⟨u, h1, h2, h3⟩ := demand_eq n hn c hC hc T hT hf
  unfold g12
  rw [h1]
  simp only [Option.bind_some, bne_self_eq_false, cond_false]
  refine iterO_eq (fun y => ∃ i : Nat, y = ((i : Int), []) ∧ i ≤ c.length) _ (fun y => c.length - y.1.toNat) ?_ n _ ⟨0, rfl, Nat.zero_le _⟩ (by simp; omega)
  rintro _ ⟨i, rfl, hi⟩
  rcases Nat.lt_or_ge i c.length with hlt | hge
  · have hx : c[i]? = some c[i] := List.getElem?_eq_getElem hlt
    have hy : u[i]? = some u[i] := List.getElem?_eq_getElem (by omega)
    have := h3 i _ _ hx hy
    refine .inl ⟨_, ?_, ⟨i + 1, rfl, hlt⟩, by simp; omega⟩
    unfold S12_0
    simp only [decide_eq_true (show (i : Int) < (c.length : Int) by omega), getI_at hx, getI_at hy, cond_true, Option.bind_some, decide_eq_false (show ¬ u[i] > c[i].Many by omega), cond_false, wS (show i < 9223372036854775807 by omega)]
  · have : i = c.length := by omega
    subst this
    right
    unfold S12_0
    rw [decide_eq_false (show ¬ (c.length : Int) < (c.length : Int) by omega)]; rfl
theorem noneg_eq (n : Nat) (l : List Int) (hl : l.length ≤ 1000) (hn : l.length < n) (h : ∀ x ∈ l, 0 ≤ x) : g28 n l = some false := by
  unfold g28 g46
  have e := index_loop (fun x : Int => decide (x < 0)) l (by omega) (S := fun y : Int => S46_0 n l 0 (l.length : Int) y) (fun i x' hx => by
    have := some_lt hx
    unfold S46_0 g29
    rw [decide_eq_true (show (i : Int) < _ by omega), getI_at hx, wS (by omega)]
    simp only [cond_true, Option.bind_some]
    by_cases h : x' < 0 <;> simp [h]) (by
    unfold S46_0
    simp) n hn
  rw [e]
  have : idxL (fun x : Int => decide (x < 0)) l < 0 := (idxL_neg _ _).2 fun x hx => by simpa using h x hx
  simp only [Option.bind_some, decide_eq_false (show ¬ idxL (fun x : Int => decide (x < 0)) l ≥ 0 by omega)]
theorem fits_law (n : Nat) (hn : 300 < n) (l : List TSlotDemand) (c : List TFlowCap) : g8 n l c = some true := by
  unfold g8 g18
  simp only [Option.bind_some, Bool.not_true, cond_false]
  generalize hpl : (⟨#[82, 87, 89]⟩ : ByteArray) = pl
  rcases assign_cases n hn pl l c with ⟨z, hz, h⟩ | ⟨h1, h2, h3, hd, hc⟩
  · rw [h]
    simp only [Option.bind_some, show (z != 0) = true from bne_iff_ne.2 hz, cond_true]; rfl
  obtain ⟨k, -, hp, ho⟩ := sort_dem n (by omega) l hd
  have he := assign_eq n hn pl l c h1 h2 h3 hd hc k hp ho
  rw [he]
  cases hr : runA pl c k (List.replicate c.length 0) with
  | none => rfl
  | some s =>
    have hs := assign_slots hd hc hp hr
    have hsl := hs.len
    have hll := hd.len
    have hlen : s.length = l.length := by rw [(runA_facts hc k _ s hr).1, hp.length_eq]
    simp only [Option.bind_some, bne_self_eq_false, cond_false]
    have hdel : g27 n l s = some (l.map (delayD s), 0) := by
      obtain ⟨r, e, hr⟩ := delays_eq n (by omega) l s h2 hd hs.len
      rcases hr with ⟨-, -, d, h1, h2⟩ | ⟨hr, -⟩
      · rw [slots_ok hs d h1] at h2; cases h2
      · rw [e, hr]
    rw [hdel]
    simp only [Option.bind_some]
    have hfit : Fit c (s.map (·.Time)) (List.replicate c.length 0) := runA_fit hc k _ s (fun d hd' => hd.time d (hp.mem_iff.1 hd')) hr (fun i x y hx hy => by
      have := List.eq_of_mem_replicate (List.mem_of_getElem? hy)
      have := (hc.each x (List.mem_of_getElem? hx)).2.2.2.1
      omega)
    have e := iter_map (S := fun y : Int × List Int => S8_0 n l c false s 0 (l.map (delayD s)) (s.length : Int) y.1 y.2) s (fun x => x.Time) (fun _ => true) (fun _ => true) true (fun i x L hx hL => by
      have := some_lt hx
      show S8_0 n l c false s 0 (l.map (delayD s)) (s.length : Int) (i : Int) L = _
      unfold S8_0
      rw [decide_eq_true (show (i : Int) < (s.length : Int) by omega), getI_at hx, wS (by omega)]
      simp only [cond_true, Option.bind_some]
      rw [room_of (by simp; omega) (by simp; omega)]
      simp) (by
      show S8_0 n l c false s 0 (l.map (delayD s)) (s.length : Int) (s.length : Int) (s.map fun x => x.Time) = _
      unfold S8_0
      obtain ⟨u, hu, -⟩ := demand_eq n hn c h3 hc (s.map fun x => x.Time) (by simpa using hsl) hfit
      rw [decide_eq_false (show ¬ (s.length : Int) < (s.length : Int) by omega), over_eq n hn c h3 hc (s.map fun x => x.Time) (by simpa using hsl) hfit, hu, noneg_eq n (l.map (delayD s)) (by simp; omega) (by simp; omega) (fun x hx => by
        obtain ⟨d, hdl, rfl⟩ := List.mem_map.1 hx
        have b1 := slots_ok hs d hdl
        unfold okD at b1
        unfold delayD
        cases q1 : slotT s d.Call with
        | none => rw [q1] at b1; cases b1
        | some t1 => rw [q1] at b1; simp at b1 ⊢; omega)]
      simp [hlen]) n (by omega)
    rw [e]
    have : s.find? (fun x => !(fun _ : TSlot => true) x) = none := find_none.2 fun _ _ => rfl
    rw [this]
end Go.Proofs.Ytfhcciepaangiaa
