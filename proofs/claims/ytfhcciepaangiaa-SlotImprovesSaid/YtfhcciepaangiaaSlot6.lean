/- Fewer demands: nobody gets a later slot; a demand behind all others changes nothing. -/
import Derived.Test.YtfhcciepaangiaaSlot3
set_option linter.unusedVariables false
set_option linter.unusedSimpArgs false
namespace Go.Proofs.Ytfhcciepaangiaa

theorem bump_get (u : List Int) (j i : Nat) : (bump u j)[i]? = if i = j then (u[i]?).map (· + 1) else u[i]? := by
  unfold bump
  by_cases h : i = j
  · subst h
    rw [if_pos rfl]
    rcases Nat.lt_or_ge i u.length with hlt | hge
    · rw [List.getElem?_set_self hlt, List.getElem?_eq_getElem hlt]; rfl
    · rw [List.getElem?_eq_none (by simpa using hge), List.getElem?_eq_none hge]; rfl
  · rw [if_neg h, List.getElem?_set_ne (Ne.symm h)]
theorem bump_comm (u : List Int) (a b : Nat) : bump (bump u a) b = bump (bump u b) a := by
  apply List.ext_getElem?
  intro i
  rw [bump_get, bump_get, bump_get, bump_get]
  by_cases h1 : i = a <;> by_cases h2 : i = b <;> simp only [h1, h2, if_true, if_false] <;> (try split) <;> simp_all
theorem pick_some {c : List TFlowCap} {u : List Int} {t : Int} {i : Nat} {x : TFlowCap} {y : Int} (hx : c[i]? = some x) (hy : u[i]? = some y) (h1 : x.Span_To > t) (h2 : y < x.Many) : ¬ pickA c u t < 0 ∧ (pickA c u t).toNat ≤ i := by
  have hneg : ¬ pickA c u t < 0 := by
    intro h
    unfold pickA at h
    have := (idxL_neg _ _).1 h (x, y) (List.mem_of_getElem? (zip_at hx hy))
    unfold free at this
    simp [h1, h2] at this
  refine ⟨hneg, ?_⟩
  obtain ⟨x', y', -, -, -, -, q⟩ := pickA_at hneg
  rcases Nat.lt_or_ge i (pickA c u t).toNat with h | h
  · exact absurd ⟨h1, h2⟩ (q i x y h hx hy)
  · exact h
theorem from_mono {c : List TFlowCap} (hc : FlowOk c) {i j : Nat} {x y : TFlowCap} (h : i ≤ j) (hx : c[i]? = some x) (hy : c[j]? = some y) : x.Span_From ≤ y.Span_From := by
  rcases Nat.eq_or_lt_of_le h with rfl | h
  · rw [hx] at hy; cases hy; exact Int.le_refl _
  · obtain ⟨k, rfl⟩ : ∃ k, j = i + k + 1 := ⟨j - i - 1, by omega⟩
    obtain ⟨z, hz⟩ : ∃ z, c[i + k]? = some z := ⟨_, List.getElem?_eq_getElem (by have := some_lt hy; omega)⟩
    have h1 := hc.to_le k i x z hx hz
    have h2 := hc.next (i + k) z y hz hy
    have h3 := (hc.each x (List.mem_of_getElem? hx)).2.1
    omega
/- with one more used, slots are no earlier -/
theorem improve {pl : ByteArray} {c : List TFlowCap} (hc : FlowOk c) : ∀ (q : List TSlotDemand) (u : List Int) (j : Nat) (s : List TSlot), runA pl c q (bump u j) = some s → ∃ s', runA pl c q u = some s' ∧ ∀ (i : Nat) (x' : TSlot), s'[i]? = some x' → ∃ x, s[i]? = some x ∧ x'.Call = x.Call ∧ x'.Time ≤ x.Time
  | [], u, j, s, h => ⟨[], rfl, fun i x hx => by simp at hx⟩
  | d :: q, u, j, s, h => by
    unfold runA at h
    split at h
    · cases h
    · rename_i hp
      cases hr : runA pl c q (bump (bump u j) (pickA c (bump u j) d.Time).toNat) with
      | none => rw [hr] at h; cases h
      | some s1 =>
        rw [hr] at h
        cases h
        obtain ⟨x, y, q1, q2, q3, q4, q5⟩ := pickA_at hp
        generalize (pickA c (bump u j) d.Time).toNat = i at hr q1 q2 q5
        -- the same place is free
        have hy' : ∃ y', u[i]? = some y' ∧ y' ≤ y := by
          rw [bump_get] at q2
          by_cases e : i = j
          · rw [if_pos e] at q2
            cases hu : u[i]? with
            | none => rw [hu] at q2; cases q2
            | some z => rw [hu] at q2; simp at q2; exact ⟨z, rfl, by omega⟩
          · rw [if_neg e] at q2; exact ⟨y, q2, Int.le_refl _⟩
        obtain ⟨y', k1, k2⟩ := hy'
        obtain ⟨p1, p2⟩ := pick_some (t := d.Time) q1 k1 q3 (by omega)
        obtain ⟨x0, y0, r1, r2, r3, r4, -⟩ := pickA_at p1
        have hle : fromAt c (pickA c u d.Time).toNat ≤ fromAt c i := by
          unfold fromAt
          rw [r1, q1]
          exact from_mono hc p2 r1 q1
        have hnext : ∃ j', bump (bump u j) i = bump (bump u (pickA c u d.Time).toNat) j' := by
          rcases Nat.eq_or_lt_of_le p2 with e | e
          · rw [e]; exact ⟨j, bump_comm u j i⟩
          · have : (pickA c u d.Time).toNat = j := by
              rcases Nat.lt_trichotomy (pickA c u d.Time).toNat j with h | h | h
              all_goals first
                | exact h
                | (exfalso
                   refine q5 _ x0 y0 e r1 ?_ ⟨r3, r4⟩
                   rw [bump_get, if_neg (by omega)]; exact r2)
            rw [this]; exact ⟨i, rfl⟩
        obtain ⟨j', hj'⟩ := hnext
        rw [hj'] at hr
        obtain ⟨s', g1, g2⟩ := improve hc q _ j' s1 hr
        refine ⟨slotA pl c d (pickA c u d.Time).toNat :: s', ?_, fun m x' hx' => ?_⟩
        · unfold runA
          rw [if_neg p1, g1]; rfl
        · cases m with
          | zero =>
            simp at hx'
            subst hx'
            refine ⟨_, rfl, rfl, ?_⟩
            unfold slotA
            simp only
            split <;> split <;> omega
          | succ m => exact g2 m x' (by simpa using hx')
/- one demand less -/
theorem removal {pl : ByteArray} {c : List TFlowCap} (hc : FlowOk c) (nm : ByteArray) : ∀ (k : List TSlotDemand) (u : List Int) (s : List TSlot), (k.Pairwise fun x y => x.Call.toList ≠ y.Call.toList) → runA pl c k u = some s → ∃ s', runA pl c (k.filter fun d => !(d.Call.toList == nm.toList)) u = some s' ∧ ∀ x' ∈ s', ∃ x ∈ s, x'.Call = x.Call ∧ x'.Time ≤ x.Time
  | [], u, s, _, h => ⟨[], rfl, fun x hx => by simp at hx⟩
  | d :: k, u, s, hk, h => by
    rw [List.pairwise_cons] at hk
    unfold runA at h
    split at h
    · cases h
    · rename_i hp
      cases hr : runA pl c k (bump u (pickA c u d.Time).toNat) with
      | none => rw [hr] at h; cases h
      | some s1 =>
        rw [hr] at h
        cases h
        by_cases e : d.Call.toList = nm.toList
        · rw [List.filter_cons_of_neg (by simp [e])]
          have : k.filter (fun d => !(d.Call.toList == nm.toList)) = k := by
            rw [List.filter_eq_self]
            intro x hx
            have := hk.1 x hx
            simp only [Bool.not_eq_true', beq_eq_false_iff_ne]
            intro h'
            exact this (e.trans h'.symm)
          rw [this]
          obtain ⟨s', g1, g2⟩ := improve hc k u _ s1 hr
          refine ⟨s', g1, fun x' hx' => ?_⟩
          obtain ⟨i, hi, rfl⟩ := List.getElem_of_mem hx'
          obtain ⟨x, h1, h2⟩ := g2 i _ (List.getElem?_eq_getElem hi)
          exact ⟨x, List.mem_cons_of_mem _ (List.mem_of_getElem? h1), h2⟩
        · rw [List.filter_cons_of_pos (by simp [e])]
          obtain ⟨s', g1, g2⟩ := removal hc nm k _ s1 hk.2 hr
          refine ⟨slotA pl c d (pickA c u d.Time).toNat :: s', by unfold runA; rw [if_neg hp, g1]; rfl, fun x' hx' => ?_⟩
          rcases List.mem_cons.1 hx' with rfl | hx'
          · exact ⟨_, List.mem_cons_self .., rfl, Int.le_refl _⟩
          · obtain ⟨x, h1, h2⟩ := g2 x' hx'
            exact ⟨x, List.mem_cons_of_mem _ h1, h2⟩
/- one demand more, behind all others -/
theorem runA_append {pl : ByteArray} {c : List TFlowCap} (d : TSlotDemand) : ∀ (k : List TSlotDemand) (u : List Int) (s : List TSlot), runA pl c k u = some s → runA pl c (k ++ [d]) u = none ∨ ∃ x, runA pl c (k ++ [d]) u = some (s ++ [x])
  | [], u, s, h => by
    cases h
    simp only [List.nil_append, runA]
    split
    · exact .inl rfl
    · exact .inr ⟨_, rfl⟩
  | e :: k, u, s, h => by
    unfold runA at h
    split at h
    · cases h
    · rename_i hp
      cases hr : runA pl c k (bump u (pickA c u e.Time).toNat) with
      | none => rw [hr] at h; cases h
      | some s1 =>
        rw [hr] at h
        cases h
        simp only [List.cons_append, runA]
        rw [if_neg hp]
        rcases runA_append d k _ s1 hr with g | ⟨x, g⟩
        · rw [g]; exact .inl rfl
        · rw [g]; exact .inr ⟨x, rfl⟩
end Go.Proofs.Ytfhcciepaangiaa
