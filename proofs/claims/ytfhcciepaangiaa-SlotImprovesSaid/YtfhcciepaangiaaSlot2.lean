/- slot.Assign as a plain program: what it answers. -/
import Derived.Test.YtfhcciepaangiaaSlot1
set_option linter.unusedVariables false
set_option linter.unusedSimpArgs false
namespace Go.Proofs.Ytfhcciepaangiaa

theorem idxL_first {α : Type} (p : α → Bool) : ∀ (l : List α) (i : Nat) (x : α), l[i]? = some x → p x = true → (∀ (j : Nat) (y : α), j < i → l[j]? = some y → p y = false) → idxL p l = (i : Int)
  | [], i, x, h, _, _ => by simp at h
  | a :: r, 0, x, h, hx, _ => by simp at h; subst h; simp [idxL, hx]
  | a :: r, i + 1, x, h, hx, hn => by
    have ha := hn 0 a (by omega) rfl
    have ih := idxL_first p r i x (by simpa using h) hx (fun j y hj hy => hn (j + 1) y (by omega) (by simpa using hy))
    simp only [idxL, ha, Bool.false_eq_true, if_false, ih]
    rw [if_neg (by omega)]; omega
theorem zip_at {α β : Type} {a : List α} {b : List β} {i : Nat} {x : α} {y : β} (hx : a[i]? = some x) (hy : b[i]? = some y) : (a.zip b)[i]? = some (x, y) := by rw [List.getElem?_zip_eq_some]; exact ⟨hx, hy⟩
/- the inner loop -/
theorem pick_loop (n : Nat) (pl : ByteArray) (c : List TFlowCap) (c7 v c37 : Int) (L0 : List TSlotDemand) (d : TSlotDemand) (u : List Int) (L : List TSlot) (hc : FlowOk c) (hu : u.length = c.length) (hu0 : ∀ z ∈ u, 0 ≤ z) (hL : L.length ≤ 1000) (hn : 300 < n) (w : Nat) (hv : v = w) (hw : w < 1000) :
    iterO (fun y : Int × List Int × List TSlot => S19_0_0 n pl c c7 L0 c37 v d.Call d.Time y.1 y.2.1 y.2.2) n (idxL (fun x : TFlowCap => decide (x.Span_To > d.Time)) c, u, L) = some (if pickA c u d.Time < 0 then .inr ([], 18) else .inl (((w + 1 : Nat) : Int), bump u (pickA c u d.Time).toNat, L ++ [slotA pl c d (pickA c u d.Time).toNat])) := by
  subst hv
  have hcl := hc.len
  have hwr := wS (i := w) (by omega)
  have hidx := idxL_ge (fun x : TFlowCap => decide (x.Span_To > d.Time)) c
  by_cases h0 : idxL (fun x : TFlowCap => decide (x.Span_To > d.Time)) c < 0
  · have hp : pickA c u d.Time < 0 := by
      unfold pickA
      rw [idxL_neg]
      intro q hq
      have h2 := (idxL_neg _ _).1 h0 q.1 (List.of_mem_zip hq).1
      unfold free
      rw [h2]; rfl
    rw [if_pos hp]
    obtain ⟨k, rfl⟩ : ∃ k, n = k + 1 := ⟨n - 1, by omega⟩
    unfold iterO
    have : S19_0_0 (k + 1) pl c c7 L0 c37 (w : Int) d.Call d.Time (idxL (fun x : TFlowCap => decide (x.Span_To > d.Time)) c) u L = some (.inr (.inr ([], 18))) := by
      unfold S19_0_0
      rw [decide_eq_false (show ¬ idxL (fun x : TFlowCap => decide (x.Span_To > d.Time)) c ≥ 0 by omega), decide_eq_true h0]
      rfl
    rw [this]
  · obtain ⟨x0, k1, k2, k3⟩ := idxL_at (fun x : TFlowCap => decide (x.Span_To > d.Time)) c (by omega)
    generalize hi0 : (idxL (fun x : TFlowCap => decide (x.Span_To > d.Time)) c).toNat = i0 at k1 k3
    have hi0' : idxL (fun x : TFlowCap => decide (x.Span_To > d.Time)) c = (i0 : Int) := by omega
    rw [hi0']
    have hlt0 := some_lt k1
    have hTo : ∀ (j : Nat) (x : TFlowCap), i0 ≤ j → c[j]? = some x → x.Span_To > d.Time := fun j x hj hx => by
      obtain ⟨q, rfl⟩ : ∃ q, j = i0 + q := ⟨j - i0, by omega⟩
      have := hc.to_le q i0 x0 x k1 hx
      have k2 : x0.Span_To > d.Time := by simpa using k2
      omega
    refine iterO_eq (fun y => ∃ i : Nat, i0 ≤ i ∧ i ≤ c.length ∧ y = ((i : Int), u, L) ∧ ∀ (j : Nat) (q : TFlowCap × Int), j < i → (c.zip u)[j]? = some q → free d.Time q = false) _ (fun y => c.length - y.1.toNat) ?_ n _ ⟨i0, Nat.le_refl _, by omega, rfl, fun j q hj hq => ?_⟩ (by simp; omega)
    · rintro _ ⟨i, hi, hi2, rfl, hf⟩
      rcases Nat.lt_or_ge i c.length with hlt | hge
      · have hx : c[i]? = some c[i] := List.getElem?_eq_getElem hlt
        have hy : u[i]? = some u[i] := List.getElem?_eq_getElem (by omega)
        generalize c[i] = x at hx
        generalize u[i] = y at hy
        have hxb := hc.each x (List.mem_of_getElem? hx)
        have hyb := hu0 y (List.mem_of_getElem? hy)
        have hto := hTo i x hi hx
        by_cases hm : y ≥ x.Many
        · refine .inl ⟨_, ?_, ⟨i + 1, by omega, hlt, rfl, fun j q hj hq => ?_⟩, by simp; omega⟩
          · unfold S19_0_0
            simp only [decide_eq_true (show (i : Int) ≥ 0 by omega), decide_eq_true (show (i : Int) < (c.length : Int) by omega), getI_at hx, getI_at hy, decide_eq_true hm, cond_true, Option.bind_some, wS (show i < 9223372036854775807 by omega)]
          · rcases Nat.lt_or_ge j i with h' | h'
            · exact hf j q h' hq
            · have : j = i := by omega
              subst this
              rw [zip_at hx hy] at hq
              cases hq
              unfold free
              rw [decide_eq_false (show ¬ y < x.Many by omega), Bool.and_false]
        · right
          have hp : pickA c u d.Time = (i : Int) := idxL_first _ _ i (x, y) (zip_at hx hy) (by unfold free; simp; omega) hf
          rw [hp, if_neg (by omega), Int.toNat_natCast]
          unfold S19_0_0
          have hb : (((i : Int)) == (c.length : Int)) = false := beq_eq_false_iff_ne.2 (by omega)
          simp only [decide_eq_true (show (i : Int) ≥ 0 by omega), decide_eq_true (show (i : Int) < (c.length : Int) by omega), decide_eq_false (show ¬ (i : Int) < 0 by omega), hb, getI_at hx, getI_at hy, decide_eq_false hm, cond_true, cond_false, Option.bind_some, hwr, Int.toNat_natCast]
          rw [room_of (by simp; omega) (by simp; omega), wrap64 (by omega) (by omega)]
          simp only [Option.bind_some, bump, slotA, fromAt, hy, hx, Option.getD_some, Option.map_some]
      · have : i = c.length := by omega
        subst this
        right
        have hp : pickA c u d.Time < 0 := by
          unfold pickA
          rw [idxL_neg]
          intro q hq
          obtain ⟨j, hj, rfl⟩ := List.getElem_of_mem hq
          exact hf j _ (by simp at hj; omega) (List.getElem?_eq_getElem hj)
        rw [if_pos hp]
        unfold S19_0_0
        simp only [decide_eq_true (show (c.length : Int) ≥ 0 by omega), decide_eq_false (show ¬ (c.length : Int) < (c.length : Int) by omega), decide_eq_false (show ¬ (c.length : Int) < 0 by omega), beq_self_eq_true, cond_true, cond_false]
    · obtain ⟨x, hx⟩ : ∃ x, c[j]? = some x := ⟨_, List.getElem?_eq_getElem (by omega)⟩
      have := k3 j hj x hx
      rw [List.getElem?_zip_eq_some] at hq
      rw [hx] at hq
      unfold free
      have h1 : q.1 = x := by have := hq.1; simpa using this.symm
      rw [h1, this, Bool.false_and]
/- sorting -/
def beforeD (x y : TSlotDemand) : Bool := decide (x.Time < y.Time) || (decide (x.Time = y.Time) && Op.bytesLess x.Call.toList y.Call.toList)
def cmpD (x y : TSlotDemand) : Int := if x.Time - y.Time ≠ 0 then x.Time - y.Time else cmpC x.Call y.Call
theorem cmpD_eq (n : Nat) (hn : 4 < n) (x y : TSlotDemand) (hx : 0 ≤ x.Time ∧ x.Time ≤ 200000) (hy : 0 ≤ y.Time ∧ y.Time ≤ 200000) : g37 n x y = some (cmpD x y) := by
  unfold g37
  rw [cmpC_eq, wrap64 (by omega) (by omega)]
  simp only [Option.bind_some]
  have : g38 n [x.Time - y.Time, cmpC x.Call y.Call] = some (cmpD x y) := by
    unfold g38
    obtain ⟨k, rfl⟩ : ∃ k, n = k + 3 := ⟨n - 3, by omega⟩
    unfold cmpD
    by_cases h : x.Time - y.Time ≠ 0
    · have h' : (x.Time - y.Time != 0) = true := by simpa using h
      simp [iterO, S38_0, getI, h', h]
    · have h' : (x.Time - y.Time != 0) = false := by simpa using h
      by_cases hc : cmpC x.Call y.Call ≠ 0
      · have hc' : (cmpC x.Call y.Call != 0) = true := by simpa using hc
        simp [iterO, S38_0, getI, h', h, hc', wrap64]
      · have hc' : (cmpC x.Call y.Call != 0) = false := by simpa using hc
        have hc0 : cmpC x.Call y.Call = 0 := by simpa using hc
        simp [iterO, S38_0, getI, h', h, hc', hc0, wrap64]
  rw [this]; rfl
theorem ltO_dem (n : Nat) (hn : 4 < n) (x y : TSlotDemand) (hx : 0 ≤ x.Time ∧ x.Time ≤ 200000) (hy : 0 ≤ y.Time ∧ y.Time ≤ 200000) : ltO (fun x y => g37 n x y) x y = beforeD x y := by
  unfold ltO beforeD
  show decide ((g37 n x y).getD 0 < 0) = _
  rw [cmpD_eq n hn x y hx hy]
  show decide (cmpD x y < 0) = _
  unfold cmpD cmpC
  by_cases h : x.Time - y.Time ≠ 0
  · simp only [if_pos h]
    rw [decide_eq_false (show ¬ x.Time = y.Time by omega), Bool.false_and, Bool.or_false]
    by_cases h' : x.Time < y.Time
    · rw [decide_eq_true h', decide_eq_true (by omega)]
    · rw [decide_eq_false h', decide_eq_false (by omega)]
  · simp only [if_neg h]
    rw [decide_eq_false (show ¬ x.Time < y.Time by omega), decide_eq_true (show x.Time = y.Time by omega), Bool.false_or, Bool.true_and]
    rcases less_tot x.Call.toList y.Call.toList with k | k | k
    · simp [k]
    · simp [k, less_asy _ _ k]
    · rw [k]; simp [less_irr]
theorem before_tot (x y : TSlotDemand) : beforeD x y = true ∨ beforeD y x = true ∨ (x.Time = y.Time ∧ x.Call.toList = y.Call.toList) := by
  unfold beforeD
  rcases less_tot x.Call.toList y.Call.toList with k | k | k
  · by_cases e : y.Time < x.Time
    · exact .inr (.inl (by simp [e]))
    · left; simp [k]; omega
  · by_cases e : x.Time < y.Time
    · exact .inl (by simp [e])
    · right; left; simp [k]; omega
  · by_cases e : x.Time < y.Time
    · exact .inl (by simp [e])
    · by_cases e' : y.Time < x.Time
      · exact .inr (.inl (by simp [e']))
      · exact .inr (.inr ⟨by omega, k⟩)
theorem before_asy (x y : TSlotDemand) (h : beforeD x y = true) : beforeD y x = false := by
  unfold beforeD at *
  simp only [Bool.or_eq_true, Bool.and_eq_true, decide_eq_true_eq] at h
  simp only [Bool.or_eq_false_iff, Bool.and_eq_false_iff, decide_eq_false_iff_not]
  rcases h with h | ⟨h, k⟩
  · exact ⟨by omega, .inl (by omega)⟩
  · exact ⟨by omega, .inr (less_asy _ _ k)⟩
theorem before_tra (x y z : TSlotDemand) (h1 : beforeD x y = true) (h2 : beforeD y z = true) : beforeD x z = true := by
  unfold beforeD at *
  simp only [Bool.or_eq_true, Bool.and_eq_true, decide_eq_true_eq] at *
  rcases h1 with h1 | ⟨h1, k1⟩ <;> rcases h2 with h2 | ⟨h2, k2⟩
  · exact .inl (by omega)
  · exact .inl (by omega)
  · exact .inl (by omega)
  · exact .inr ⟨by omega, less_tra _ _ _ k1 k2⟩
theorem order_dem (n : Nat) (hn : 4 < n) (l : List TSlotDemand) (h : DemOk l) : OrdOn (fun x y => g37 n x y) l := by
  refine ⟨fun x hx y hy => ⟨_, cmpD_eq n hn x y (h.time x hx) (h.time y hy)⟩, fun x hx y hy => ?_, fun x hx y hy k => ?_, fun x hx y hy z hz k1 k2 => ?_⟩
  · rw [ltO_dem n hn x y (h.time x hx) (h.time y hy), ltO_dem n hn y x (h.time y hy) (h.time x hx)]
    rcases before_tot x y with k | k | ⟨-, k⟩
    · exact .inl k
    · exact .inr (.inl k)
    · exact .inr (.inr (pw_inj (fun d : TSlotDemand => d.Call.toList) h.one x hx y hy k))
  · rw [ltO_dem n hn x y (h.time x hx) (h.time y hy)] at k
    rw [ltO_dem n hn y x (h.time y hy) (h.time x hx)]
    exact before_asy x y k
  · rw [ltO_dem n hn x y (h.time x hx) (h.time y hy)] at k1
    rw [ltO_dem n hn y z (h.time y hy) (h.time z hz)] at k2
    rw [ltO_dem n hn x z (h.time x hx) (h.time z hz)]
    exact before_tra x y z k1 k2
/- k is l in order -/
def InOrder (k : List TSlotDemand) : Prop := k.Pairwise fun a b => beforeD b a = false
theorem sort_dem (n : Nat) (hn : 4 < n) (l : List TSlotDemand) (h : DemOk l) : ∃ k, sortO (fun x y => g37 n x y) l = some k ∧ k.Perm l ∧ InOrder k := by
  have ho := order_dem n hn l h
  have e : sortO (fun x y => g37 n x y) l = some (isortB (ltO fun x y => g37 n x y) l) := by
    unfold sortO
    rw [orderB_on.2 ho, decide_eq_true (by have := h.len; omega)]; rfl
  obtain ⟨p1, p2, -⟩ := sortO_facts e
  refine ⟨_, e, p1, p2.imp_of_mem fun {a b} ha hb k => ?_⟩
  rw [← ltO_dem n hn b a (h.time b (p1.mem_iff.1 hb)) (h.time a (p1.mem_iff.1 ha))]
  exact k
theorem order_unique (l k k' : List TSlotDemand) (h : DemOk l) (p : k.Perm l) (p' : k'.Perm l) (o : InOrder k) (o' : InOrder k') : k = k' := by
  refine sorted_unique (R := fun a b => beforeD b a = false) (fun x hx y hy h1 h2 => ?_) (p.trans p'.symm) o o'
  rcases before_tot x y with q | q | ⟨-, q⟩
  · rw [q] at h2; cases h2
  · rw [q] at h1; cases h1
  · exact pw_inj (fun d : TSlotDemand => d.Call.toList) h.one x (p.mem_iff.1 hx) y (p.mem_iff.1 hy) q
theorem bump_len (u : List Int) (i : Nat) : (bump u i).length = u.length := by simp [bump]
theorem bump_pos (u : List Int) (i : Nat) (h : ∀ z ∈ u, 0 ≤ z) : ∀ z ∈ bump u i, 0 ≤ z := by
  intro z hz
  unfold bump at hz
  rcases List.mem_or_eq_of_mem_set hz with hz | rfl
  · exact h z hz
  · cases hq : u[i]? with
    | none => simp
    | some y => have := h y (List.mem_of_getElem? hq); simp; omega
theorem assign_eq (n : Nat) (hn : 300 < n) (pl : ByteArray) (l : List TSlotDemand) (c : List TFlowCap) (h1 : g34 n pl = some true) (h2 : g35 n l = some 0) (h3 : g10 n c = some 0) (hd : DemOk l) (hc : FlowOk c) (k : List TSlotDemand) (hp : k.Perm l) (ho : InOrder k) :
    g19 n pl l c = some (match runA pl c k (List.replicate c.length 0) with | none => ([], 18) | some s => (s, 0)) := by
  obtain ⟨k', s1, s2, s3⟩ := sort_dem n (by omega) l hd
  obtain rfl := order_unique l k k' hd hp s2 ho s3
  have hkl := hp.length_eq
  have hdl := hd.len
  have hcl := hc.len
  unfold g19
  rw [h1, h2, h3]
  simp only [Option.bind_some, Bool.not_true, cond_false, bne_self_eq_false]
  rw [room_of (by omega) (by omega), s1]
  simp only [Option.bind_some]
  have hmk : makeO (c.length : Int) 8 = some c.length := by unfold makeO; simp; omega
  rw [hmk]
  simp only [Option.bind_some]
  refine iterO_eq (fun y => ∃ (i : Nat) (u : List Int) (L : List TSlot), y = ((i : Int), u, L) ∧ i ≤ k.length ∧ L.length = i ∧ u.length = c.length ∧ (∀ z ∈ u, 0 ≤ z) ∧ (runA pl c (k.drop i) u).map (L ++ ·) = runA pl c k (List.replicate c.length 0)) _ (fun y => k.length - y.1.toNat) ?_ n _ ⟨0, _, _, rfl, Nat.zero_le _, rfl, by simp, fun z hz => by rw [List.eq_of_mem_replicate hz]; exact Int.le_refl _, by cases h : runA pl c k (List.replicate c.length 0) <;> simp [h]⟩ (by simp; omega)
  rintro _ ⟨i, u, L, rfl, hi, hL, hu, hu0, hrun⟩
  rcases Nat.lt_or_ge i k.length with hlt | hge
  · have hx : k[i]? = some k[i] := List.getElem?_eq_getElem hlt
    have hdr := List.drop_eq_getElem_cons hlt
    generalize k[i] = d at hx hdr
    have hloop := pick_loop n pl c 0 (i : Int) (k.length : Int) k d u L hc hu hu0 (by omega) (by omega) i rfl (by omega)
    have hS : S19_0 n pl c 0 k (k.length : Int) (i : Int) u L = some (if pickA c u d.Time < 0 then .inr ([], 18) else .inl (((i + 1 : Nat) : Int), bump u (pickA c u d.Time).toNat, L ++ [slotA pl c d (pickA c u d.Time).toNat])) := by
      unfold S19_0
      rw [decide_eq_true (show (i : Int) < (k.length : Int) by omega), getI_at hx]
      simp only [cond_true, Option.bind_some]
      rw [first_eq n c d.Call d.Time (by omega) (by omega)]
      simp only [Option.bind_some]
      exact hloop
    rw [hdr, runA] at hrun
    by_cases hpk : pickA c u d.Time < 0
    · rw [if_pos hpk] at hS hrun
      right
      have hrun : runA pl c k (List.replicate c.length 0) = none := hrun.symm
      rw [hS, hrun]
    · rw [if_neg hpk] at hS hrun
      refine .inl ⟨_, hS, ⟨i + 1, _, _, rfl, hlt, by simp [hL], by rw [bump_len, hu], bump_pos _ _ hu0, ?_⟩, by simp; omega⟩
      rw [← hrun, Option.map_map]
      congr 1
      funext s
      simp
  · have : i = k.length := by omega
    subst this
    right
    rw [List.drop_length] at hrun
    have hrun : runA pl c k (List.replicate c.length 0) = some L := by rw [← hrun]; simp [runA]
    rw [hrun]
    unfold S19_0
    rw [decide_eq_false (show ¬ (k.length : Int) < (k.length : Int) by omega)]
    rfl
theorem assign_cases (n : Nat) (hn : 300 < n) (pl : ByteArray) (l : List TSlotDemand) (c : List TFlowCap) : (∃ z, z ≠ 0 ∧ g19 n pl l c = some ([], z)) ∨ (g34 n pl = some true ∧ g35 n l = some 0 ∧ g10 n c = some 0 ∧ DemOk l ∧ FlowOk c) := by
  obtain ⟨b, hb⟩ := sname_tot n (by omega) pl
  obtain ⟨z1, k1, q1⟩ := checkD_tot n (by omega) l
  obtain ⟨z2, k2, q2⟩ := checkC_tot n (by omega) c
  cases b with
  | false => exact .inl ⟨3, by decide, by unfold g19; rw [hb]; rfl⟩
  | true =>
    by_cases h1 : ¬ z1 = 0
    · exact .inl ⟨z1, h1, by unfold g19; rw [hb, k1]; simp [show (z1 != 0) = true from bne_iff_ne.2 h1]⟩
    have h1 : z1 = 0 := Decidable.of_not_not h1
    subst h1
    by_cases h2 : ¬ z2 = 0
    · exact .inl ⟨z2, h2, by unfold g19; rw [hb, k1, k2]; simp [show (z2 != 0) = true from bne_iff_ne.2 h2]⟩
    have h2 : z2 = 0 := Decidable.of_not_not h2
    subst h2
    exact .inr ⟨hb, k1, k2, q1 rfl, q2 rfl⟩
end Go.Proofs.Ytfhcciepaangiaa
