/- Exchanging twice restores the slots, and keeps the sum of delays. -/
import Derived.Test.YtfhcciepaangiaaSlot3
set_option linter.unusedVariables false
set_option linter.unusedSimpArgs false
namespace Go.Proofs.Ytfhcciepaangiaa

theorem pick_tot (n : Nat) (a : Int) (m : Nat) (h0 : 0 < m) (h1 : m ≤ 1000000) : ∃ p : Nat, g20 n a (m : Int) = some (p : Int) ∧ p < m := by
  unfold g20
  have hm : IntKind.wrap .u64 (m : Int) = (m : Int) := by simp [IntKind.wrap, IntKind.signed, IntKind.bits]; omega
  have ha : 0 ≤ IntKind.wrap .u64 a := by simp [IntKind.wrap, IntKind.signed, IntKind.bits]; omega
  generalize IntKind.wrap .u64 a = b at ha
  have ht : Int.tmod b (m : Int) = ((b.toNat % m : Nat) : Int) := by
    obtain ⟨q, rfl⟩ := Int.eq_ofNat_of_zero_le ha
    rw [Int.tmod_eq_emod_of_nonneg ha, Int.toNat_natCast]; simp
  have hlt : b.toNat % m < m := Nat.mod_lt _ h0
  refine ⟨b.toNat % m, ?_, hlt⟩
  rw [hm]
  unfold modO
  rw [ht]
  have : ¬ ((m : Int) = 0) := by omega
  simp only [this, if_false, decide_false, cond_false, Option.bind_some]
  rw [wrap64 (by omega) (by omega)]
/- sums -/
theorem sum_two {α : Type} [DecidableEq α] (z : Int) (a b : α) : ∀ l : List α, ((l.map fun d => (if d = a then z else 0) + (if d = b then -z else 0)).sum : Int) = z * (l.count a : Int) - z * (l.count b : Int)
  | [] => by simp
  | d :: l => by
    rw [List.map_cons, List.sum_cons, sum_two z a b l, List.count_cons, List.count_cons]
    have e1 : ∀ (c : Nat) (p : Prop) [Decidable p], z * ((c + if p then 1 else 0 : Nat) : Int) = z * (c : Int) + if p then z else 0 := by
      intro c p _
      split <;> simp [Int.mul_add]
    simp only [beq_iff_eq]
    rw [e1, e1]
    have e2 : ∀ (A B : Int) (p q : Prop) [Decidable p] [Decidable q], (if p then z else 0) + (if q then -z else 0) + (A - B) = (A + if p then z else 0) - (B + if q then z else 0) := by
      intro A B p q _ _
      split <;> split <;> omega
    exact e2 _ _ _ _
theorem nodup_of {l : List TSlotDemand} (h : DemOk l) : l.Nodup := by
  rw [List.nodup_iff_pairwise_ne]
  exact h.one.imp fun {a b} k e => k (by rw [e])
theorem sum_bound {α : Type} (f : α → Int) (b : Int) (h0 : 0 ≤ b) : ∀ (l : List α), (∀ x ∈ l, -b ≤ f x ∧ f x ≤ b) → -(b * l.length) ≤ (l.map f).sum ∧ (l.map f).sum ≤ b * l.length
  | [], _ => by simp
  | x :: l, h => by
    have h1 := sum_bound f b h0 l (fun y hy => h y (by simp [hy]))
    have h2 := h x (by simp)
    rw [List.map_cons, List.sum_cons, List.length_cons]
    have : b * ((l.length + 1 : Nat) : Int) = b * (l.length : Int) + b := by
      rw [show ((l.length + 1 : Nat) : Int) = (l.length : Int) + 1 by omega, Int.mul_add, Int.mul_one]
    omega
theorem slotT_at {s : List TSlot} {nm : ByteArray} {j : Nat} (h : idxL (called nm) s = (j : Int)) : slotT s nm = (s[j]?).map (·.Time) := by
  unfold slotT
  rcases idx_find (called nm) s with ⟨h1, -⟩ | ⟨h1, x, h2, h3⟩
  · omega
  · rw [h2]
    rw [h] at h3
    rw [Int.toNat_natCast] at h3
    rw [h3]
theorem equalS_eq (n : Nat) (a b : List TSlot) (ha : a.length ≤ 1000) (hn : a.length < n) : g22 n a b = some (decide (a = b)) := by
  unfold g22
  by_cases h : a.length = b.length
  · rw [show ((a.length : Int) != (b.length : Int)) = false by simp [h], cond_false]
    refine equal_loop a b h (fun i x y hx hy => ?_) (by unfold S22_0; simp) n hn
    have := some_lt hx
    unfold S22_0
    rw [decide_eq_true (show (i : Int) < _ by omega), getI_at hx, getI_at hy, wS (by omega)]
    simp only [cond_true, Option.bind_some]
    by_cases e : x = y <;> simp [e]
  · rw [show ((a.length : Int) != (b.length : Int)) = true from bne_iff_ne.2 (by omega), cond_true, decide_eq_false]
    intro e; rw [e] at h; exact h rfl
/- the sum of delays -/
theorem delays_sum {l : List TSlotDemand} {s : List TSlot} (hd : DemOk l) (hs : Slots l s) {da db : TSlotDemand} (ha : da ∈ l) (hb : db ∈ l) {i k : Nat} {x y : TSlot} (hi : idxL (called da.Call) s = (i : Int)) (hk : idxL (called db.Call) s = (k : Int)) (hx : s[i]? = some x) (hy : s[k]? = some y) :
    (l.map fun d => delayD s d - delayD (swapS s i k x y) d).sum = 0 := by
  by_cases hik : i = k
  · subst hik
    rw [hx] at hy; cases hy
    rw [swap_same hx]
    have : (fun d => delayD s d - delayD s d) = fun _ : TSlotDemand => (0 : Int) := by funext d; omega
    rw [this]
    clear ha hb hs hd
    induction l with
    | nil => rfl
    | cons d l ih => simpa using ih
  have hne : da ≠ db := fun e => by rw [e, hk] at hi; omega
  have key : ∀ d ∈ l, delayD s d - delayD (swapS s i k x y) d = (if d = da then x.Time - y.Time else 0) + (if d = db then -(x.Time - y.Time) else 0) := by
    intro d hdl
    obtain ⟨z, hz, -⟩ := hs.each d hdl
    have hj : ∃ j : Nat, idxL (called d.Call) s = (j : Int) := by
      rcases idx_find (called d.Call) s with ⟨-, h⟩ | ⟨h1, -⟩
      · rw [h] at hz; cases hz
      · exact ⟨_, (Int.toNat_of_nonneg h1).symm⟩
    obtain ⟨j, hj⟩ := hj
    have hj2 : idxL (called d.Call) (swapS s i k x y) = (j : Int) := by rw [idx_congr (swap_calls hx hy d.Call), hj]
    unfold delayD
    rw [slotT_at hj, slotT_at hj2]
    have hcall : ∀ (d d' : TSlotDemand), d ∈ l → d' ∈ l → idxL (called d.Call) s = (j : Int) → idxL (called d'.Call) s = (j : Int) → d = d' := by
      intro d d' h1 h2 h3 h4
      obtain ⟨u, u1, u2, -⟩ := idxL_at (called d.Call) s (by omega)
      obtain ⟨v, v1, v2, -⟩ := idxL_at (called d'.Call) s (by omega)
      rw [h3, Int.toNat_natCast] at u1
      rw [h4, Int.toNat_natCast, u1] at v1
      cases v1
      unfold called at u2 v2
      exact pw_inj (fun d : TSlotDemand => d.Call.toList) hd.one d h1 d' h2 (by rw [← beq_iff_eq.1 u2, ← beq_iff_eq.1 v2])
    by_cases h1 : j = i
    · subst h1
      have : d = da := hcall d da hdl ha hj hi
      rw [swap_i hx hy hik, hx, if_pos this, if_neg (fun e => hne (this.symm.trans e))]
      simp; omega
    · by_cases h2 : j = k
      · subst h2
        have : d = db := hcall d db hdl hb hj hk
        rw [swap_k hy, hy, if_pos this, if_neg (fun e => hne (e.symm.trans this))]
        simp; omega
      · rw [swap_j h1 h2, if_neg (fun e => h1 (by rw [e, hi] at hj; omega)), if_neg (fun e => h2 (by rw [e, hk] at hj; omega))]
        omega
  rw [List.map_congr_left key, sum_two, (nodup_of hd).count, (nodup_of hd).count, if_pos ha, if_pos hb]
  omega
theorem swaps_law (n : Nat) (hn : 300 < n) (l : List TSlotDemand) (c : List TFlowCap) (a2 a3 : Int) : g7 n l c a2 a3 = some true := by
  unfold g7 g18
  simp only [Option.bind_some, Bool.not_true, cond_false]
  generalize hpl : (⟨#[82, 87, 89]⟩ : ByteArray) = pl
  rcases assign_cases n hn pl l c with ⟨z, hz, h⟩ | ⟨h1, h2, h3, hd, hc⟩
  · rw [h]
    simp only [Option.bind_some, show (z != 0) = true from bne_iff_ne.2 hz, cond_true]; rfl
  obtain ⟨k, -, hp, ho⟩ := sort_dem n (by omega) l hd
  have he := assign_eq n hn pl l c h1 h2 h3 hd hc k hp ho
  rw [he]
  cases hr : runA pl c k (List.replicate c.length 0) with
  | none => rfl
  | some s =>
    have hs := assign_slots hd hc hp hr
    have hsl := hs.len
    have hll := hd.len
    simp only [Option.bind_some, bne_self_eq_false, cond_false]
    rcases Nat.eq_zero_or_pos l.length with h0 | h0
    · have hl0 : l = [] := List.eq_nil_of_length_eq_zero h0
      subst hl0
      have : s = [] := List.eq_nil_of_length_eq_zero (by rw [(runA_facts hc k _ s hr).1, hp.length_eq]; rfl)
      subst this
      rfl
    rw [show ((l.length : Int) == 0) = false from beq_eq_false_iff_ne.2 (by omega)]
    obtain ⟨pa, e1, la⟩ := pick_tot n a2 l.length h0 (by omega)
    obtain ⟨pb, e2, lb⟩ := pick_tot n a3 l.length h0 (by omega)
    have hda : l[pa]? = some l[pa] := List.getElem?_eq_getElem la
    have hdb : l[pb]? = some l[pb] := List.getElem?_eq_getElem lb
    generalize l[pa] = da at hda
    generalize l[pb] = db at hdb
    simp only [cond_false, e1, e2, getI_at hda, getI_at hdb, Option.bind_some]
    have ma := List.mem_of_getElem? hda
    have mb := List.mem_of_getElem? hdb
    have hidx : ∀ d ∈ l, ∃ (j : Nat) (z : TSlot), idxL (called d.Call) s = (j : Int) ∧ s[j]? = some z := by
      intro d hdl
      obtain ⟨z, hz, -⟩ := hs.each d hdl
      rcases idx_find (called d.Call) s with ⟨-, h⟩ | ⟨h1, z, -, h3⟩
      · rw [h] at hz; cases hz
      · exact ⟨_, z, (Int.toNat_of_nonneg h1).symm, h3⟩
    obtain ⟨i, x, hi, hx⟩ := hidx da ma
    obtain ⟨j, y, hj, hy⟩ := hidx db mb
    rw [swap_eq n (by omega) l s h2 hd hs da.Call db.Call i j x y hi hj hx hy]
    by_cases hok : ∀ d ∈ l, okD (swapS s i j x y) d = true
    · rw [if_pos hok]
      simp only [Option.bind_some, bne_self_eq_false, cond_false]
      have hs2 : Slots l (swapS s i j x y) := ⟨by rw [swap_len]; exact hsl, fun d hdl => by
        have := hok d hdl
        unfold okD slotT at this
        cases hf : (swapS s i j x y).find? (called d.Call) with
        | none => rw [hf] at this; cases this
        | some z => rw [hf] at this; simp at this; exact ⟨z, rfl, this⟩⟩
      obtain ⟨x', y', hx', hy', htw⟩ := swap_twice hx hy
      have hi2 : idxL (called da.Call) (swapS s i j x y) = (i : Int) := by rw [idx_congr (swap_calls hx hy _), hi]
      have hj2 : idxL (called db.Call) (swapS s i j x y) = (j : Int) := by rw [idx_congr (swap_calls hx hy _), hj]
      rw [swap_eq n (by omega) l _ h2 hd hs2 da.Call db.Call i j x' y' hi2 hj2 hx' hy', htw, if_pos (slots_ok hs)]
      have hdel : ∀ s, Slots l s → g27 n l s = some (l.map (delayD s), 0) := by
        intro s hs
        obtain ⟨r, e, hr⟩ := delays_eq n (by omega) l s h2 hd hs.len
        rcases hr with ⟨-, -, d, h1, h2⟩ | ⟨hr, -⟩
        · rw [slots_ok hs d h1] at h2; cases h2
        · rw [e, hr]
      rw [hdel s hs, hdel _ hs2]
      simp only [Option.bind_some, List.length_map]
      rw [if_neg (by omega)]
      have hsum := delays_sum hd hs ma mb hi hj hx hy
      have hbd : ∀ d ∈ l, -200000 ≤ delayD s d - delayD (swapS s i j x y) d ∧ delayD s d - delayD (swapS s i j x y) d ≤ 200000 := by
        intro d hdl
        have b1 := slots_ok hs d hdl
        have b2 := hok d hdl
        have b0 := hd.time d hdl
        unfold okD at b1 b2
        unfold delayD
        cases q1 : slotT s d.Call with
        | none => rw [q1] at b1; cases b1
        | some t1 =>
          cases q2 : slotT (swapS s i j x y) d.Call with
          | none => rw [q2] at b2; cases b2
          | some t2 =>
            rw [q1] at b1
            rw [q2] at b2
            simp at b1 b2 ⊢
            omega
      have hdb : ∀ s, Slots l s → ∀ d ∈ l, 0 ≤ delayD s d ∧ delayD s d ≤ 200000 := by
        intro s hs d hdl
        have b1 := slots_ok hs d hdl
        have b0 := hd.time d hdl
        unfold okD at b1
        unfold delayD
        cases q1 : slotT s d.Call with
        | none => rw [q1] at b1; cases b1
        | some t1 => rw [q1] at b1; simp at b1 ⊢; omega
      refine iterO_eq (fun z => ∃ m : Nat, m ≤ l.length ∧ z = (((l.take m).map fun d => delayD s d - delayD (swapS s i j x y) d).sum, (m : Int))) _ (fun z => l.length - z.2.toNat) ?_ n _ ⟨0, Nat.zero_le _, rfl⟩ (by simp; omega)
      rintro _ ⟨m, hm, rfl⟩
      rcases Nat.lt_or_ge m l.length with hlt | hge
      · have hx : l[m]? = some l[m] := List.getElem?_eq_getElem hlt
        have htk := List.take_succ_eq_append_getElem hlt
        have hml := List.getElem_mem hlt
        generalize l[m] = d at hx htk hml
        have hg : ∀ f : TSlotDemand → Int, getI (l.map f) (m : Int) = some (f d) := fun f => getI_at (by rw [List.getElem?_map, hx]; rfl)
        have hb0 := hbd d hml
        have hb1 := sum_bound (fun d => delayD s d - delayD (swapS s i j x y) d) 200000 (by omega) (l.take m) (fun d hd => hbd d (List.mem_of_mem_take hd))
        have hlen : ((l.take m).length : Int) = m := by simp; omega
        rw [hlen] at hb1
        refine .inl ⟨_, ?_, ⟨m + 1, hlt, rfl⟩, by simp; omega⟩
        unfold S7_0
        rw [decide_eq_true (show (m : Int) < (l.length : Int) by omega)]
        simp only [cond_true, hg, Option.bind_some, wS (show m < 9223372036854775807 by omega), htk, List.map_append, List.sum_append]
        have d1 := hdb s hs d hml
        have d2 := hdb _ hs2 d hml
        rw [wrap64 (z := delayD s d - delayD (swapS s i j x y) d) (by omega) (by omega), wrap64 (by omega) (by omega)]
        simp
      · have : m = l.length := by omega
        subst this
        rw [List.take_length, hsum]
        right
        unfold S7_0
        rw [decide_eq_false (show ¬ (l.length : Int) < (l.length : Int) by omega), equalS_eq n s s (by omega) (by omega)]
        simp
    · rw [if_neg hok]
      simp only [Option.bind_some, show ((12 : Int) != 0) = true by decide, cond_true]
      have : (da.Call.toList == db.Call.toList) = false := by
        refine beq_eq_false_iff_ne.2 fun e => hok ?_
        have hab : da = db := pw_inj (fun d : TSlotDemand => d.Call.toList) hd.one da ma db mb e
        subst hab
        rw [hi] at hj
        obtain rfl : i = j := by omega
        rw [hx] at hy; cases hy
        rw [swap_same hx]
        exact slots_ok hs
      rw [this]; rfl
end Go.Proofs.Ytfhcciepaangiaa
