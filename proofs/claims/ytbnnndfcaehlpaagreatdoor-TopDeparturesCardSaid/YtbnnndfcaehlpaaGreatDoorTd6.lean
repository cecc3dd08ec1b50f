/- taxi.Queue as a plain program: what it answers. -/
import Derived.Test.YtbnnndfcaehlpaaGreatDoorTaxi5
set_option linter.unusedVariables false
set_option linter.unusedSimpArgs false
namespace Go.Proofs.YtbnnndfcaehlpaaGreatDoor

theorem pw_inj {α β : Type} (f : α → β) : ∀ {L : List α}, L.Pairwise (fun x y => f x ≠ f y) → ∀ x ∈ L, ∀ y ∈ L, f x = f y → x = y
  | [], _, x, hx, _, _, _ => by simp at hx
  | a :: r, h, x, hx, y, hy, e => by
    rw [List.pairwise_cons] at h
    rcases List.mem_cons.1 hx with h1 | h1 <;> rcases List.mem_cons.1 hy with h2 | h2
    · rw [h1, h2]
    · subst h1; exact absurd e (h.1 y h2)
    · subst h2; exact absurd e.symm (h.1 x h1)
    · exact pw_inj f h.2 x h1 y h2 e
structure QueueOk (gap : Int) (M : List TTaxiMove) : Prop where
  each : ∀ (j : Nat) (m : TTaxiMove), M[j]? = some m → 0 ≤ m.Push ∧ m.Push ≤ 200000 ∧ m.Push ≤ m.Hold ∧ m.Hold ≤ m.Leave ∧ m.Leave ≤ 200000
  gaps : ∀ (j : Nat) (p m : TTaxiMove), M[j]? = some p → M[j + 1]? = some m → p.Leave + gap ≤ m.Leave
theorem getI_set {α : Type} {L : List α} {i : Nat} {y : α} (h : i < L.length) : getI (L.set i y) (i : Int) = some y := by rw [getI_nat]; simp [h]
theorem getI_setne {α : Type} {L : List α} {i j : Nat} {y : α} (h : j ≠ i) : getI (L.set i y) (j : Int) = L[j]? := by rw [getI_nat, List.getElem?_set_ne (Ne.symm h)]
/- a round of the second loop -/
theorem round6_1 (n : Nat) (gap c7 : Int) (L : List TTaxiMove) (i : Nat) (x : TTaxiMove) (hx : L[i]? = some x) (hl : L.length ≤ 16) (hg : 0 ≤ gap ∧ gap ≤ 1800) (hb : ∀ p, i ≠ 0 → L[i - 1]? = some p → 0 ≤ p.Leave ∧ p.Leave ≤ 200000) :
    ∃ lv, x.Hold ≤ lv ∧ (∀ p, i ≠ 0 → L[i - 1]? = some p → p.Leave + gap ≤ lv) ∧ S26_1 n gap c7 (L.length : Int) (i : Int) L = some (if lv > 200000 then .inr ([], 12) else .inl (((i + 1 : Nat) : Int), L.set i ⟨x.Call, x.Push, x.Hold, lv⟩)) := by
  have hi := some_lt hx
  have e1 := wS (i := i) (by omega)
  have hi' : ((i : Int) < (L.length : Int)) := by omega
  rcases Nat.eq_zero_or_pos i with h0 | h0
  · subst h0
    refine ⟨x.Hold, Int.le_refl _, fun p h => absurd rfl h, ?_⟩
    unfold S26_1
    rw [getI_at hx, e1]
    simp only [decide_eq_true hi', cond_true, Option.bind_some, Int.toNat_natCast, getI_set hi, Bool.cond_eq_ite]
    simp
    split <;> simp_all
  · obtain ⟨k, rfl⟩ : ∃ k, i = k + 1 := ⟨i - 1, by omega⟩
    have hk : k < L.length := by omega
    have hp : L[k]? = some L[k] := List.getElem?_eq_getElem hk
    generalize L[k] = p at hp
    have hpb := hb p (by omega) (by simpa using hp)
    have e2 : IntKind.wrap .i64 (((k + 1 : Nat) : Int) - 1) = (k : Int) := by rw [wrap64 (by omega) (by omega)]; omega
    have e3 : IntKind.wrap .i64 (p.Leave + gap) = p.Leave + gap := wrap64 (by omega) (by omega)
    have hgt : decide (((k + 1 : Nat) : Int) > 0) = true := decide_eq_true (by omega)
    refine ⟨if p.Leave + gap > x.Hold then p.Leave + gap else x.Hold, by split <;> omega, fun q _ hq => ?_, ?_⟩
    · have hq : L[k]? = some q := by simpa using hq
      rw [hp] at hq
      cases hq
      split <;> omega
    · unfold S26_1
      rw [getI_at hx, e1, e2]
      simp only [decide_eq_true hi', cond_true, Option.bind_some, Int.toNat_natCast, getI_set hi, hgt, getI_setne (L := L) (show k ≠ k + 1 by omega), hp, e3, List.set_set, Bool.cond_eq_ite]
      simp
      split <;> (split <;> first | rfl | simp_all)
theorem loop6_1 (n : Nat) (hn : 100 < n) (gap c7 : Int) (L1 : List TTaxiMove) (hl : L1.length ≤ 16) (hg : 0 ≤ gap ∧ gap ≤ 1800) (hb : ∀ m ∈ L1, 0 ≤ m.Push ∧ m.Push ≤ 200000 ∧ m.Push ≤ m.Hold) :
    ∃ r, iterO (fun y : Int × List TTaxiMove => S26_1 n gap c7 (L1.length : Int) y.1 y.2) n ((0), L1) = some r ∧ (r = ([], 12) ∨ r.2 = 0 ∧ r.1.length = L1.length ∧ QueueOk gap r.1) := by
  refine iterO_rule (fun x => ∃ (i : Nat) (L : List TTaxiMove), x = ((i : Int), L) ∧ i ≤ L1.length ∧ L.length = L1.length ∧ (∀ j m, i ≤ j → L[j]? = some m → m ∈ L1) ∧ (∀ j m, j < i → L[j]? = some m → 0 ≤ m.Push ∧ m.Push ≤ 200000 ∧ m.Push ≤ m.Hold ∧ m.Hold ≤ m.Leave ∧ m.Leave ≤ 200000) ∧ (∀ j p m, j + 1 < i → L[j]? = some p → L[j + 1]? = some m → p.Leave + gap ≤ m.Leave)) _ (fun x => L1.length - x.1.toNat) ?_ n _ ⟨0, L1, rfl, Nat.zero_le _, rfl, fun j m _ h => List.mem_of_getElem? h, fun j m h => absurd h (Nat.not_lt_zero _), fun j p m h => absurd h (Nat.not_lt_zero _)⟩ (by simp; omega)
  rintro _ ⟨i, L, rfl, hi, hL, h1, h2, h3⟩
  rcases Nat.lt_or_ge i L1.length with hlt | hge
  · have hx : L[i]? = some L[i] := List.getElem?_eq_getElem (by omega)
    generalize L[i] = x at hx
    have hxb := hb x (h1 i x (Nat.le_refl _) hx)
    obtain ⟨lv, q1, q2, q3⟩ := round6_1 n gap c7 L i x hx (by omega) hg (fun p h hp => by have := h2 (i - 1) p (by omega) hp; omega)
    rw [hL] at q3
    by_cases hv : lv > 200000
    · rw [if_pos hv] at q3
      exact .inr ⟨_, q3, .inl rfl⟩
    · rw [if_neg hv] at q3
      refine .inl ⟨_, q3, ⟨i + 1, _, rfl, hlt, by simpa using hL, fun j m hj hm => ?_, fun j m hj hm => ?_, fun j p m hj hp hm => ?_⟩, by simp; omega⟩
      · rw [List.getElem?_set_ne (by omega)] at hm
        exact h1 j m (by omega) hm
      · rcases Nat.lt_or_ge j i with h | h
        · rw [List.getElem?_set_ne (by omega)] at hm
          exact h2 j m h hm
        · have : j = i := by omega
          subst this
          rw [List.getElem?_set_self (by omega)] at hm
          cases hm
          exact ⟨hxb.1, hxb.2.1, hxb.2.2, q1, by simpa using hv⟩
      · rw [List.getElem?_set_ne (by omega)] at hp
        rcases Nat.lt_or_ge (j + 1) i with h | h
        · rw [List.getElem?_set_ne (by omega)] at hm
          exact h3 j p m h hp hm
        · have : j + 1 = i := by omega
          subst this
          rw [List.getElem?_set_self (by omega)] at hm
          cases hm
          exact q2 p (by omega) (by simpa using hp)
  · have : i = L1.length := by omega
    refine .inr ⟨(L, 0), ?_, .inr ⟨rfl, hL, fun j m hm => h2 j m (by have := some_lt (l := L) hm; omega) hm, fun j p m hp hm => h3 j p m (by have := some_lt (l := L) hm; omega) hp hm⟩⟩
    unfold S26_1
    rw [decide_eq_false (show ¬ (i : Int) < (L1.length : Int) by omega)]
    rfl
/- the first loop, and all -/
theorem queue_tot (n : Nat) (hn : 100 < n) (l : List TTaxiStand) (d : List TTaxiAsk) (gap : Int) : ∃ r, g26 n l d gap = some r ∧ (r.2 ≠ 0 ∧ r.1 = [] ∨ r.2 = 0 ∧ r.1.length = d.length ∧ d.length ≤ 16 ∧ QueueOk gap r.1) := by
  unfold g26
  obtain ⟨z, hz, hz0⟩ := check_tot n hn l d
  rw [hz]
  simp only [Option.bind_some]
  by_cases h0 : ¬ z = 0
  · refine ⟨([], z), ?_, .inl ⟨h0, rfl⟩⟩
    rw [show (z != 0) = true from bne_iff_ne.2 h0]; rfl
  have h0 : z = 0 := Decidable.of_not_not h0
  obtain ⟨nl, nd, times, has, ready, one⟩ := hz0 h0
  subst h0
  by_cases g1 : gap < 0
  · exact ⟨([], 4), by simp [g1], .inl ⟨by decide, rfl⟩⟩
  by_cases g2 : gap > 1800
  · exact ⟨([], 4), by simp [g1, g2], .inl ⟨by decide, rfl⟩⟩
  rw [decide_eq_false g1, decide_eq_false g2]
  simp only [bne_self_eq_false, cond_false]
  refine iterO_rule (fun x => ∃ (i : Nat) (L : List TTaxiMove), x = ((i : Int), L) ∧ i ≤ d.length ∧ L.map (·.Call) = (d.take i).map (·.Call) ∧ (∀ m ∈ L, 0 ≤ m.Push ∧ m.Push ≤ 200000 ∧ m.Push ≤ m.Hold ∧ m.Hold ≤ 1000000)) _ (fun x => d.length - x.1.toNat) ?_ n _ ⟨0, [], rfl, Nat.zero_le _, rfl, fun m h => by simp at h⟩ (by simp; omega)
  rintro _ ⟨i, L, rfl, hi, hc, hb⟩
  have hLl : L.length = i := by have := congrArg List.length hc; simpa [Nat.min_eq_left hi] using this
  rcases Nat.lt_or_ge i d.length with hlt | hge
  · left
    have hx : d[i]? = some d[i] := List.getElem?_eq_getElem hlt
    have htk : d.take (i + 1) = d.take i ++ [d[i]] := List.take_succ_eq_append_getElem hlt
    have hm : d[i] ∈ d := List.getElem_mem hlt
    generalize d[i] = x at hx htk hm
    have hs := stand_eq n l x.Stand (by omega) (by omega)
    obtain ⟨s, k1, k2, k3⟩ := idxL_at (named x.Stand) l (has x hm)
    have hs0 : getI l (idxL (named x.Stand) l) = some s := by unfold getI; rw [if_pos (has x hm)]; exact k1
    have ht := times s (List.mem_of_getElem? k1)
    have hr := ready x hm
    refine ⟨_, ?_, ⟨i + 1, L ++ [⟨x.Call, x.Ready, x.Ready + s.Time, 0⟩], rfl, hlt, ?_, fun m hm => ?_⟩, by simp; omega⟩
    · unfold S26_0
      rw [decide_eq_true (show (i : Int) < (d.length : Int) by omega), getI_at hx, wS (by omega)]
      simp only [cond_true, Option.bind_some, hs, hs0]
      rw [room_of (by simp; omega) (by simp; omega), wrap64 (by omega) (by omega)]
      rfl
    · rw [List.map_append, hc, htk, List.map_append]; rfl
    · rcases List.mem_append.1 hm with hm | hm
      · exact hb m hm
      · simp at hm; subst hm; simp; omega
  · right
    have : i = d.length := by omega
    subst this
    rw [List.take_length] at hc
    have hpw : L.Pairwise (fun x y => x.Call.toList ≠ y.Call.toList) := by
      have h1 : (d.map (fun x => x.Call)).Pairwise (fun x y : ByteArray => x.toList ≠ y.toList) := by rw [List.pairwise_map]; exact one.imp fun {a b} h => by simpa using h
      rw [← hc, List.pairwise_map] at h1
      exact h1
    obtain ⟨L1, s1, s2, -⟩ := sort_moves n (by omega) L (by omega) (fun x hx => by have := hb x hx; omega) (pw_inj (fun m : TTaxiMove => m.Call.toList) hpw)
    have hl1 : L1.length = d.length := by rw [s2.length_eq, hLl]
    obtain ⟨r, r1, r2⟩ := loop6_1 n hn gap 0 L1 (by omega) (by omega) (fun m hm => by have := hb m (s2.mem_iff.1 hm); omega)
    refine ⟨r, ?_, ?_⟩
    · unfold S26_0
      rw [decide_eq_false (show ¬ (d.length : Int) < (d.length : Int) by omega)]
      simp only [cond_false, s1, Option.bind_some, r1, Option.map_some]
    · rcases r2 with rfl | ⟨r3, r4, r5⟩
      · exact .inl ⟨by decide, rfl⟩
      · exact .inr ⟨r3, by omega, nd, r5⟩
end Go.Proofs.YtbnnndfcaehlpaaGreatDoor
