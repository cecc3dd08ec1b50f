/- slot.Delays, slot.Swap as plain programs; exchanging twice restores the slots, and keeps the sum of delays. -/
import Derived.Test.YtfhcciepaangiaaSlot2
set_option linter.unusedVariables false
set_option linter.unusedSimpArgs false
namespace Go.Proofs.Ytfhcciepaangiaa

def called (nm : ByteArray) (s : TSlot) : Bool := s.Call.toList == nm.toList
theorem index_eq (n : Nat) (l : List TSlot) (nm : ByteArray) (hl : l.length ≤ 1000) (hn : l.length < n) : g44 n l nm = some (idxL (called nm) l) := by
  unfold g44 g24_1
  have e := index_loop (called nm) l (by omega) (S := fun y : Int => S24_0_x1 n l nm 0 (l.length : Int) y) (fun i x hx => by
    have := some_lt hx
    unfold S24_0_x1 g55
    rw [decide_eq_true (show (i : Int) < _ by omega), getI_at hx, wS (by omega)]
    simp only [cond_true, Option.bind_some, called]
    by_cases h : (x.Call.toList == nm.toList) = true <;> simp [h]) (by
    unfold S24_0_x1
    simp) n hn
  rw [e]; rfl
/- the time of the slot of a flight -/
def slotT (s : List TSlot) (nm : ByteArray) : Option Int := (s.find? (called nm)).map (·.Time)
theorem idx_find {α : Type} (p : α → Bool) : ∀ (l : List α), (idxL p l < 0 ∧ l.find? p = none) ∨ (0 ≤ idxL p l ∧ ∃ x, l.find? p = some x ∧ l[(idxL p l).toNat]? = some x)
  | [] => .inl ⟨by simp [idxL], rfl⟩
  | a :: r => by
    rw [List.find?_cons]
    simp only [idxL]
    cases hp : p a with
    | true => exact .inr ⟨by simp, a, rfl, by simp⟩
    | false =>
      rcases idx_find p r with ⟨h1, h2⟩ | ⟨h1, x, h2, h3⟩
      · left; simp [h1, h2]
      · right
        simp only [Bool.false_eq_true, if_false]
        rw [if_neg (by omega)]
        refine ⟨by omega, x, h2, ?_⟩
        rw [show (idxL p r + 1).toNat = (idxL p r).toNat + 1 by omega]
        simpa using h3
def okD (s : List TSlot) (d : TSlotDemand) : Bool := match slotT s d.Call with | none => false | some t => decide (d.Time ≤ t) && decide (t ≤ 200000)
def delayD (s : List TSlot) (d : TSlotDemand) : Int := (slotT s d.Call).getD 0 - d.Time
theorem delays_eq (n : Nat) (hn : 100 < n) (l : List TSlotDemand) (s : List TSlot) (hc : g35 n l = some 0) (hd : DemOk l) (hs : s.length ≤ 24) :
    ∃ r, g27 n l s = some r ∧ (r.2 ≠ 0 ∧ r.1 = [] ∧ (∃ d ∈ l, okD s d = false) ∨ r = (l.map (delayD s), 0) ∧ ∀ d ∈ l, okD s d = true) := by
  have hl := hd.len
  unfold g27
  rw [hc]
  simp only [Option.bind_some, bne_self_eq_false, cond_false]
  rw [decide_eq_false (show ¬ (s.length : Int) > 24 by omega), cond_false]
  have e := iter_map (S := fun y : Int × List Int => S27_0 n s 0 l (l.length : Int) y.1 y.2) l (delayD s) (okD s) (fun d => match slotT s d.Call with | none => ([], 8) | some _ => ([], 12)) (l.map (delayD s), 0) (fun i x L hx hL => by
    have hi := some_lt hx
    have ht := hd.time x (List.mem_of_getElem? hx)
    show S27_0 n s 0 l (l.length : Int) (i : Int) L = _
    unfold S27_0 okD delayD slotT
    rw [decide_eq_true (show (i : Int) < _ by omega), getI_at hx, wS (by omega)]
    simp only [cond_true, Option.bind_some, index_eq n s x.Call (by omega) (by omega)]
    rcases idx_find (called x.Call) s with ⟨h1, h2⟩ | ⟨h1, y, h2, h3⟩
    · rw [h2, decide_eq_true h1]; rfl
    · have hg : getI s (idxL (called x.Call) s) = some y := by unfold getI; rw [if_pos h1]; exact h3
      rw [h2, decide_eq_false (show ¬ idxL (called x.Call) s < 0 by omega), hg]
      simp only [cond_false, Option.bind_some, Option.map_some, Option.getD_some]
      by_cases k1 : y.Time < x.Time
      · simp [k1, show ¬ x.Time ≤ y.Time by omega]
      · by_cases k2 : y.Time > 200000
        · simp [k1, k2, show ¬ y.Time ≤ 200000 by omega]
        · rw [room_of (by simp; omega) (by simp; omega), wrap64 (by omega) (by omega)]
          simp [k1, k2, show x.Time ≤ y.Time by omega, show y.Time ≤ 200000 by omega]) (by
    show S27_0 n s 0 l (l.length : Int) (l.length : Int) (l.map (delayD s)) = _
    unfold S27_0; simp) n (by omega)
  rw [e]
  refine ⟨_, rfl, ?_⟩
  cases hf : l.find? (fun x => !okD s x) with
  | none => exact .inr ⟨rfl, find_none.1 hf⟩
  | some d =>
    left
    obtain ⟨h1, h2⟩ := find_some hf
    show _ ∧ _ ∧ _
    cases hq : slotT s d.Call with
    | none => exact ⟨by simp [hq], by simp [hq], d, h1, h2⟩
    | some t => exact ⟨by simp [hq], by simp [hq], d, h1, h2⟩

/- what the assignment gives -/
theorem pickA_at {c : List TFlowCap} {u : List Int} {t : Int} (h : ¬ pickA c u t < 0) : ∃ (x : TFlowCap) (y : Int), c[(pickA c u t).toNat]? = some x ∧ u[(pickA c u t).toNat]? = some y ∧ x.Span_To > t ∧ y < x.Many ∧ ∀ (j : Nat) (x' : TFlowCap) (y' : Int), j < (pickA c u t).toNat → c[j]? = some x' → u[j]? = some y' → ¬ (x'.Span_To > t ∧ y' < x'.Many) := by
  obtain ⟨⟨x, y⟩, h1, h2, h3⟩ := idxL_at (free t) (c.zip u) (by unfold pickA at h; omega)
  have h1 : (c.zip u)[(pickA c u t).toNat]? = some (x, y) := h1
  rw [List.getElem?_zip_eq_some] at h1
  unfold free at h2
  simp only [Bool.and_eq_true, decide_eq_true_eq] at h2
  refine ⟨x, y, h1.1, h1.2, h2.1, h2.2, fun j x' y' hj hx hy => ?_⟩
  have := h3 j hj (x', y') (zip_at hx hy)
  unfold free at this
  simpa using this
theorem slotA_time {pl : ByteArray} {c : List TFlowCap} {d : TSlotDemand} {i : Nat} {x : TFlowCap} (hx : c[i]? = some x) : (slotA pl c d i).Time = if x.Span_From > d.Time then x.Span_From else d.Time := by
  unfold slotA fromAt
  rw [hx]; rfl
theorem runA_facts {pl : ByteArray} {c : List TFlowCap} (hc : FlowOk c) : ∀ (k : List TSlotDemand) (u : List Int) (s : List TSlot), runA pl c k u = some s → s.length = k.length ∧ ∀ (j : Nat) (d : TSlotDemand) (x : TSlot), k[j]? = some d → s[j]? = some x → x.Call = d.Call ∧ d.Time ≤ x.Time ∧ x.Time ≤ 200000
  | [], u, s, h => by
    cases h
    exact ⟨rfl, fun j d x hd => by simp at hd⟩
  | d :: k, u, s, h => by
    unfold runA at h
    split at h
    · cases h
    · rename_i hp
      cases hr : runA pl c k (bump u (pickA c u d.Time).toNat) with
      | none => rw [hr] at h; cases h
      | some s' =>
        rw [hr] at h
        cases h
        obtain ⟨h1, h2⟩ := runA_facts hc k _ s' hr
        refine ⟨by simp [h1], fun j e x hj hx => ?_⟩
        cases j with
        | zero =>
          simp at hj hx
          subst hj; subst hx
          obtain ⟨x, y, q1, q2, q3, q4, -⟩ := pickA_at hp
          have hb := hc.each x (List.mem_of_getElem? q1)
          refine ⟨rfl, ?_, ?_⟩ <;> rw [slotA_time q1] <;> split <;> omega
        | succ j => exact h2 j e x (by simpa using hj) (by simpa using hx)
/- each flight has its slot -/
structure Slots (l : List TSlotDemand) (s : List TSlot) : Prop where
  len : s.length ≤ 24
  each : ∀ d ∈ l, ∃ x, s.find? (called d.Call) = some x ∧ d.Time ≤ x.Time ∧ x.Time ≤ 200000
theorem slots_ok {l : List TSlotDemand} {s : List TSlot} (h : Slots l s) : ∀ d ∈ l, okD s d = true := fun d hd => by
  obtain ⟨x, h1, h2, h3⟩ := h.each d hd
  unfold okD slotT
  rw [h1]
  simp [h2, h3]
theorem assign_slots {pl : ByteArray} {l k : List TSlotDemand} {c : List TFlowCap} {s : List TSlot} {u : List Int} (hd : DemOk l) (hc : FlowOk c) (hp : k.Perm l) (h : runA pl c k u = some s) : Slots l s := by
  obtain ⟨h1, h2⟩ := runA_facts hc k u s h
  have hkl := hp.length_eq
  refine ⟨by have := hd.len; omega, fun d hdl => ?_⟩
  have hdk := hp.mem_iff.2 hdl
  obtain ⟨j, hj, hjd⟩ := List.getElem_of_mem hdk
  have hx : s[j]? = some s[j] := List.getElem?_eq_getElem (by omega)
  have hcj := h2 j d _ (by rw [List.getElem?_eq_getElem hj, hjd]) hx
  cases hf : s.find? (called d.Call) with
  | none =>
    rw [List.find?_eq_none] at hf
    have := hf s[j] (List.getElem_mem _)
    unfold called at this
    rw [hcj.1] at this
    simp at this
  | some x =>
    refine ⟨x, rfl, ?_⟩
    obtain ⟨i, hi, hix⟩ := List.getElem_of_mem (List.mem_of_find?_eq_some hf)
    have hcx : called d.Call x = true := List.find?_some hf
    have hki : k[i]? = some k[i] := List.getElem?_eq_getElem (by omega)
    have h3 := h2 i k[i] x hki (by rw [List.getElem?_eq_getElem hi, hix])
    have hm : k[i] ∈ l := hp.mem_iff.1 (List.getElem_mem _)
    have : k[i] = d := pw_inj (fun d : TSlotDemand => d.Call.toList) hd.one _ hm _ hdl (by rw [← h3.1]; simpa [called] using hcx)
    rw [this] at h3
    exact h3.2
/- exchanging -/
def swapS (s : List TSlot) (i k : Nat) (x y : TSlot) : List TSlot := (s.set i ⟨x.Call, x.Place, y.Time⟩).set k ⟨y.Call, y.Place, x.Time⟩
theorem swap_eq (n : Nat) (hn : 100 < n) (l : List TSlotDemand) (s : List TSlot) (hc : g35 n l = some 0) (hd : DemOk l) (hs : Slots l s) (a b : ByteArray) (i k : Nat) (x y : TSlot) (ha : idxL (called a) s = (i : Int)) (hb : idxL (called b) s = (k : Int)) (hx : s[i]? = some x) (hy : s[k]? = some y) :
    g26 n l s a b = some (if (∀ d ∈ l, okD (swapS s i k x y) d = true) then (swapS s i k x y, 0) else ([], 12)) := by
  have hsl := hs.len
  obtain ⟨r, e, hr⟩ := delays_eq n hn l s hc hd hs.len
  have hr : r = (l.map (delayD s), 0) := by
    rcases hr with ⟨-, -, d, h1, h2⟩ | ⟨hr, -⟩
    · rw [slots_ok hs d h1] at h2; cases h2
    · exact hr
  subst hr
  unfold g26
  rw [e]
  simp only [Option.bind_some, bne_self_eq_false, cond_false]
  rw [index_eq n s a (by omega) (by omega), index_eq n s b (by omega) (by omega), ha, hb]
  simp only [Option.bind_some, decide_eq_false (show ¬ (i : Int) < 0 by omega), decide_eq_false (show ¬ (k : Int) < 0 by omega), cond_false]
  rw [room_of (by omega) (by omega)]
  simp only [Option.bind_some, getI_at hx, getI_at hy, Int.toNat_natCast]
  have hi := some_lt hx
  have hk := some_lt hy
  have h94 : ∃ z, getI (s.set i ⟨x.Call, x.Place, y.Time⟩) (k : Int) = some z ∧ (⟨z.Call, z.Place, x.Time⟩ : TSlot) = ⟨y.Call, y.Place, x.Time⟩ := by
    by_cases hik : k = i
    · subst hik
      rw [hx] at hy
      cases hy
      exact ⟨_, getI_set hi, rfl⟩
    · exact ⟨y, by rw [getI_setne hik]; exact hy, rfl⟩
  obtain ⟨z, hz, hz2⟩ := h94
  rw [hz]
  simp only [Option.bind_some, hz2]
  obtain ⟨r, e2, hr⟩ := delays_eq n hn l (swapS s i k x y) hc hd (by simpa [swapS] using hs.len)
  show (Option.bind (g27 n l (swapS s i k x y)) _) = _
  rw [e2]
  rcases hr with ⟨h1, -, d, h3, h4⟩ | ⟨hr, h5⟩
  · rw [if_neg (fun h => by rw [h d h3] at h4; cases h4)]
    simp only [Option.bind_some, show (r.2 != 0) = true from bne_iff_ne.2 h1, cond_true]
  · rw [if_pos h5]
    subst hr
    rfl
theorem swap_len {s : List TSlot} {i k : Nat} {x y : TSlot} : (swapS s i k x y).length = s.length := by simp [swapS]
theorem idx_congr {α : Type} {p : α → Bool} : ∀ {a b : List α}, a.map p = b.map p → idxL p a = idxL p b
  | [], [], _ => rfl
  | [], _ :: _, h => by simp at h
  | _ :: _, [], h => by simp at h
  | x :: a, y :: b, h => by
    simp only [List.map_cons, List.cons.injEq] at h
    simp only [idxL, h.1, idx_congr h.2]
theorem swap_calls {s : List TSlot} {i k : Nat} {x y : TSlot} (hx : s[i]? = some x) (hy : s[k]? = some y) (nm : ByteArray) : (swapS s i k x y).map (called nm) = s.map (called nm) := by
  apply List.ext_getElem?
  intro j
  have hi := some_lt hx
  have hk := some_lt hy
  simp only [List.getElem?_map, swapS]
  by_cases hjk : j = k
  · subst hjk
    rw [List.getElem?_set_self (by simpa using hk), hy]; rfl
  · rw [List.getElem?_set_ne (Ne.symm hjk)]
    by_cases hji : j = i
    · subst hji
      rw [List.getElem?_set_self hi, hx]; rfl
    · rw [List.getElem?_set_ne (Ne.symm hji)]
/- exchanging twice -/
theorem swap_i {s : List TSlot} {i k : Nat} {x y : TSlot} (hx : s[i]? = some x) (hy : s[k]? = some y) (hik : i ≠ k) : (swapS s i k x y)[i]? = some ⟨x.Call, x.Place, y.Time⟩ := by
  unfold swapS
  rw [List.getElem?_set_ne (Ne.symm hik), List.getElem?_set_self (some_lt hx)]
theorem swap_k {s : List TSlot} {i k : Nat} {x y : TSlot} (hy : s[k]? = some y) : (swapS s i k x y)[k]? = some ⟨y.Call, y.Place, x.Time⟩ := by
  unfold swapS
  rw [List.getElem?_set_self (by simpa using some_lt hy)]
theorem swap_j {s : List TSlot} {i k j : Nat} {x y : TSlot} (h1 : j ≠ i) (h2 : j ≠ k) : (swapS s i k x y)[j]? = s[j]? := by
  unfold swapS
  rw [List.getElem?_set_ne (Ne.symm h2), List.getElem?_set_ne (Ne.symm h1)]
theorem swap_same {s : List TSlot} {i : Nat} {x : TSlot} (hx : s[i]? = some x) : swapS s i i x x = s := by
  apply List.ext_getElem?
  intro j
  by_cases h : j = i
  · subst h; rw [swap_k hx, hx]
  · rw [swap_j h h]
theorem swap_twice {s : List TSlot} {i k : Nat} {x y : TSlot} (hx : s[i]? = some x) (hy : s[k]? = some y) : ∃ x' y', (swapS s i k x y)[i]? = some x' ∧ (swapS s i k x y)[k]? = some y' ∧ swapS (swapS s i k x y) i k x' y' = s := by
  by_cases hik : i = k
  · subst hik
    rw [hx] at hy; cases hy
    rw [swap_same hx]
    exact ⟨x, x, hx, hx, swap_same hx⟩
  · refine ⟨_, _, swap_i hx hy hik, swap_k hy, ?_⟩
    apply List.ext_getElem?
    intro j
    by_cases h1 : j = i
    · subst h1
      rw [swap_i (swap_i hx hy hik) (swap_k hy) hik, hx]
    · by_cases h2 : j = k
      · subst h2
        rw [swap_k (swap_k hy), hy]
      · rw [swap_j h1 h2, swap_j h1 h2]
end Go.Proofs.Ytfhcciepaangiaa
