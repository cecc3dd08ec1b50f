/- The visits of a tube: consecutive, and they cover its time. -/
import Derived.Test.YtldiackagnjlgaaGreatSc4
import Derived.Test.YtldiackagnjlgaaGreatSf2
set_option linter.unusedVariables false
set_option linter.unusedSimpArgs false
namespace Go.Proofs.YtldiackagnjlgaaGreat

structure VInv (m : Nat) (a u : Int) (L : List TSectorVisit) : Prop where
  ne : L ≠ []
  first : ∀ v, L[0]? = some v → v.From = a
  last : ∀ v, L[L.length - 1]? = some v → v.To = u
  each : ∀ (i : Nat) (v : TSectorVisit), L[i]? = some v → -1 ≤ v.Sector ∧ v.Sector < (m : Int) ∧ a ≤ v.From ∧ v.From ≤ v.To ∧ v.To ≤ u
  next : ∀ (i : Nat) (v w : TSectorVisit), L[i]? = some w → L[i + 1]? = some v → v.From = w.To + 1 ∧ v.Sector ≠ w.Sector
theorem add_last (Q : List TSectorVisit) (q : TSectorVisit) (i u : Int) : visAdd (Q ++ [q]) i u = if q.Sector = i then Q ++ [⟨q.Sector, q.From, u⟩] else (Q ++ [q]) ++ [⟨i, u, u⟩] := by
  unfold visAdd
  rw [List.getLast?_append]
  simp only [List.getLast?_singleton, Option.some_or]
  by_cases h : q.Sector = i
  · rw [beq_iff_eq.2 h, cond_true, if_pos h]; simp
  · rw [beq_eq_false_iff_ne.2 h, cond_false, if_neg h]
theorem snoc_at {α : Type} (Q : List α) (q : α) (i : Nat) (v : α) : (Q ++ [q])[i]? = some v ↔ (i < Q.length ∧ Q[i]? = some v) ∨ (i = Q.length ∧ v = q) := by
  rcases Nat.lt_trichotomy i Q.length with h | h | h
  · rw [List.getElem?_append_left h]
    constructor
    · exact fun k => .inl ⟨h, k⟩
    · rintro (⟨-, k⟩ | ⟨k, -⟩)
      · exact k
      · omega
  · subst h
    rw [List.getElem?_append_right (Nat.le_refl _), Nat.sub_self, List.getElem?_cons_zero, Option.some.injEq]
    constructor
    · exact fun k => .inr ⟨rfl, k.symm⟩
    · rintro (⟨k, -⟩ | ⟨-, k⟩)
      · omega
      · exact k.symm
  · rw [List.getElem?_eq_none (by simp; omega)]
    constructor
    · intro k; cases k
    · rintro (⟨k, -⟩ | ⟨k, -⟩) <;> omega
theorem VInv.one {m : Nat} {i a : Int} (h1 : -1 ≤ i) (h2 : i < (m : Int)) : VInv m a a (visAdd [] i a) := by
  show VInv m a a [⟨i, a, a⟩]
  refine ⟨by simp, ?_, ?_, ?_, ?_⟩
  · intro v hv; simp at hv; subst hv; rfl
  · intro v hv; simp at hv; subst hv; rfl
  · intro j v hv
    cases j with
    | zero => simp at hv; subst hv; exact ⟨h1, h2, Int.le_refl _, Int.le_refl _, Int.le_refl _⟩
    | succ j => simp at hv
  · intro j v w hw hv; simp at hv
theorem VInv.add {m : Nat} {a u i : Int} {L : List TSectorVisit} (h : VInv m a u L) (h1 : -1 ≤ i) (h2 : i < (m : Int)) (ha : a ≤ u) : VInv m a (u + 1) (visAdd L i (u + 1)) := by
  rcases List.eq_nil_or_concat L with e | ⟨Q, q, e⟩
  · exact absurd e h.ne
  rw [List.concat_eq_append] at e
  subst e
  have hq := h.each Q.length q ((snoc_at Q q _ _).2 (.inr ⟨rfl, rfl⟩))
  have hql := h.last q (by rw [show (Q ++ [q]).length - 1 = Q.length by simp]; exact (snoc_at Q q _ _).2 (.inr ⟨rfl, rfl⟩))
  rw [add_last]
  by_cases hs : q.Sector = i
  · rw [if_pos hs]
    refine ⟨by simp, fun v hv => ?_, fun v hv => ?_, fun j v hv => ?_, fun j v w hw hv => ?_⟩
    · rcases (snoc_at _ _ _ _).1 hv with ⟨k1, k2⟩ | ⟨k1, rfl⟩
      · exact h.first v ((snoc_at Q q _ _).2 (.inl ⟨k1, k2⟩))
      · exact h.first q ((snoc_at Q q _ _).2 (.inr ⟨k1, rfl⟩))
    · rcases (snoc_at _ _ _ _).1 hv with ⟨k1, k2⟩ | ⟨k1, rfl⟩
      · simp at k1
      · rfl
    · rcases (snoc_at _ _ _ _).1 hv with ⟨k1, k2⟩ | ⟨k1, rfl⟩
      · have := h.each j v ((snoc_at Q q _ _).2 (.inl ⟨k1, k2⟩)); omega
      · exact ⟨hq.1, hq.2.1, hq.2.2.1, by show q.From ≤ u + 1; omega, Int.le_refl _⟩
    · rcases (snoc_at _ _ _ _).1 hw with ⟨k1, k2⟩ | ⟨k1, rfl⟩
      · rcases (snoc_at _ _ _ _).1 hv with ⟨k3, k4⟩ | ⟨k3, rfl⟩
        · exact h.next j v w ((snoc_at Q q _ _).2 (.inl ⟨k1, k2⟩)) ((snoc_at Q q _ _).2 (.inl ⟨k3, k4⟩))
        · exact h.next j q w ((snoc_at Q q _ _).2 (.inl ⟨k1, k2⟩)) ((snoc_at Q q _ _).2 (.inr ⟨k3, rfl⟩))
      · rcases (snoc_at _ _ _ _).1 hv with ⟨k3, k4⟩ | ⟨k3, -⟩ <;> omega
  · rw [if_neg hs]
    refine ⟨by simp, fun v hv => ?_, fun v hv => ?_, fun j v hv => ?_, fun j v w hw hv => ?_⟩
    · rcases (snoc_at _ _ _ _).1 hv with ⟨k1, k2⟩ | ⟨k1, rfl⟩
      · exact h.first v k2
      · simp at k1
    · rcases (snoc_at _ _ _ _).1 hv with ⟨k1, k2⟩ | ⟨k1, rfl⟩
      · simp at k1
      · rfl
    · rcases (snoc_at _ _ _ _).1 hv with ⟨k1, k2⟩ | ⟨k1, rfl⟩
      · have := h.each j v k2; omega
      · exact ⟨h1, h2, by show a ≤ u + 1; omega, Int.le_refl _, Int.le_refl _⟩
    · rcases (snoc_at _ _ _ _).1 hw with ⟨k1, k2⟩ | ⟨k1, rfl⟩
      · rcases (snoc_at _ _ _ _).1 hv with ⟨k3, k4⟩ | ⟨k3, rfl⟩
        · exact h.next j v w k2 k4
        · have e : j = Q.length := by simp at k3; omega
          subst e
          rcases (snoc_at _ _ _ _).1 k2 with ⟨k5, -⟩ | ⟨-, rfl⟩
          · omega
          · exact ⟨by show u + 1 = _; omega, fun e => hs e.symm⟩
      · rcases (snoc_at _ _ _ _).1 hv with ⟨k3, k4⟩ | ⟨k3, -⟩ <;> omega
theorem getI_0 {α : Type} {l : List α} {x : α} (h : l[0]? = some x) : getI l (0) = some x := getI_at (i := 0) h
theorem ends_val (n : Nat) (l : List TTubeNode) (h : TubeOk l) (x0 x1 : TTubeNode) (h0 : l[0]? = some x0) (h1 : l[l.length - 1]? = some x1) : g51 n l = some (x0.Node_Time, x1.Node_Time) := by
  have hl := h.len
  have hp := h.pos
  unfold g51
  rw [getI_0 h0, Option.bind_some, show IntKind.wrap .i64 ((l.length : Int) - 1) = ((l.length - 1 : Nat) : Int) by rw [wrap64 (by omega) (by omega)]; omega, getI_at h1]
  rfl
theorem visGo_tot (n : Nat) (hn : 4500 < n) (l : List TSector) (hl : SecOk l) (t : List TTubeNode) (ht : TubeOk t) (x0 x1 : TTubeNode) (h0 : t[0]? = some x0) (h1 : t[t.length - 1]? = some x1) (a : Int) (ha : x0.Node_Time = a) :
    ∀ (k : Nat) (u : Int) (L : List TSectorVisit), a ≤ u → u + k ≤ x1.Node_Time + 1 → ((L = [] ∧ u = a) ∨ VInv l.length a (u - 1) L) → ∃ r, visGo n l t k u L = some r ∧ ((k = 0 ∧ r = L) ∨ VInv l.length a (u + k - 1) r)
  | 0, u, L, _, _, _ => ⟨L, rfl, .inl ⟨rfl, rfl⟩⟩
  | k + 1, u, L, hu, hk, hL => by
    obtain ⟨x, hx, hxt, -⟩ := at_ok n (by omega) t ht u x0 x1 h0 h1 (by omega) (by omega)
    obtain ⟨i, hi, i1, i2⟩ := place_val n hn l hl (⟨x.Node_At_X, x.Node_At_Y⟩ : TP) x.Node_Height
    have hL' : VInv l.length a u (visAdd L i x.Node_Time) := by
      rw [hxt]
      rcases hL with ⟨rfl, rfl⟩ | h
      · exact VInv.one i1 i2
      · by_cases e : u = a
        · exfalso
          rcases List.eq_nil_or_concat L with e2 | ⟨Q, q, e2⟩
          · exact h.ne e2
          · rw [List.concat_eq_append] at e2
            subst e2
            have := h.each Q.length q ((snoc_at Q q _ _).2 (.inr ⟨rfl, rfl⟩))
            omega
        · have := h.add i1 i2 (by omega)
          rwa [show u - 1 + 1 = u by omega] at this
    obtain ⟨r, hr, hQ⟩ := visGo_tot n hn l hl t ht x0 x1 h0 h1 a ha k (u + 1) (visAdd L i x.Node_Time) (by omega) (by omega) (.inr (by rwa [show u + 1 - 1 = u by omega]))
    refine ⟨r, ?_, .inr ?_⟩
    · simp only [visGo, hx, hi, Option.bind_some]
      exact hr
    · rcases hQ with ⟨rfl, rfl⟩ | hQ
      · rwa [show u + ((0 + 1 : Nat) : Int) - 1 = u by omega]
      · rwa [show u + ((k + 1 : Nat) : Int) - 1 = u + 1 + (k : Int) - 1 by omega]
theorem visits_val (n : Nat) (hn : 4500 < n) (l : List TSector) (hl : SecOk l) (t : List TTubeNode) (ht : TubeOk t) (hc : g21 n t = some 0) (x0 x1 : TTubeNode) (h0 : t[0]? = some x0) (h1 : t[t.length - 1]? = some x1) : ∃ r, g24 n l t = some r ∧ VInv l.length x0.Node_Time x1.Node_Time r := by
  have b0 := ht.nodes x0 (List.mem_of_getElem? h0)
  have b1 := ht.nodes x1 (List.mem_of_getElem? h1)
  have hle := ht.le' (Nat.zero_le _) h0 h1
  have hlen := ht.len
  obtain ⟨r, hr, hQ⟩ := visGo_tot n hn l hl t ht x0 x1 h0 h1 x0.Node_Time rfl (x1.Node_Time - x0.Node_Time + 1).toNat x0.Node_Time [] (Int.le_refl _) (by omega) (.inl ⟨rfl, rfl⟩)
  refine ⟨r, ?_, ?_⟩
  · unfold g24
    rw [hc, Option.bind_some, show ((0 : Int) != 0) = false from rfl, cond_false, ends_val n t ht x0 x1 h0 h1, Option.bind_some]
    simp only
    rw [if_pos ⟨b0.1, hle, by have := b1.2.1; omega, hlen⟩]
    exact hr
  · rcases hQ with ⟨k, -⟩ | hQ
    · omega
    · rwa [show x0.Node_Time + ((x1.Node_Time - x0.Node_Time + 1).toNat : Int) - 1 = x1.Node_Time by omega] at hQ
/- sector.Path -/
theorem path_cases (n : Nat) (hn : 4500 < n) (l : List TSector) (t : List TTubeNode) : (∃ z, z ≠ 0 ∧ g8 n l t = some ([], z)) ∨ (SecOk l ∧ TubeOk t ∧ g21 n t = some 0 ∧ ∃ r, g24 n l t = some r ∧ g8 n l t = some (r, 0)) := by
  obtain ⟨z, hz, kz⟩ := sec_check n hn l
  unfold g8
  rw [hz, Option.bind_some]
  by_cases z0 : z = 0
  case neg => rw [bne_iff_ne.2 z0, cond_true]; exact .inl ⟨z, z0, rfl⟩
  rw [z0, show ((0 : Int) != 0) = false from rfl, cond_false]
  rcases check_tot n (by omega) t with ⟨hc, ht⟩ | ⟨y, hy, hc⟩
  case inr => rw [hc, Option.bind_some, bne_iff_ne.2 hy, cond_true]; exact .inl ⟨y, hy, rfl⟩
  rw [hc, Option.bind_some, show ((0 : Int) != 0) = false from rfl, cond_false]
  have hp := ht.pos
  have hl := ht.len
  have h0 : t[0]? = some t[0] := List.getElem?_eq_getElem (by omega)
  have h1 : t[t.length - 1]? = some t[t.length - 1] := List.getElem?_eq_getElem (by omega)
  obtain ⟨r, hr, -⟩ := visits_val n hn l (kz z0) t ht hc _ _ h0 h1
  rw [show IntKind.wrap .i64 ((t.length : Int) - 1) = ((t.length - 1 : Nat) : Int) by rw [wrap64 (by omega) (by omega)]; omega, getI_at h1, Option.bind_some, getI_0 h0, Option.bind_some]
  cases decide (IntKind.wrap .i64 ((t[t.length - 1]).Node_Time - (t[0]).Node_Time) > 20000) with
  | true => exact .inl ⟨2, by decide, rfl⟩
  | false =>
    rw [cond_false, hr, Option.bind_some]
    exact .inr ⟨kz z0, ht, rfl, r, rfl, rfl⟩
end Go.Proofs.YtldiackagnjlgaaGreat
