/- load.Count. -/
import Derived.Test.YtldiackagnjlgaaScL
set_option linter.unusedVariables false
set_option linter.unusedSimpArgs false
namespace Go.Proofs.Ytldiackagnjlgaa

theorem At_either (n : Nat) (hn : 64 < n) (t : List TTubeNode) (hc : g28 n t = some 0) (ht : TubeOk t) (u : Int) : (∃ r, g20 n t u = some (r, 0)) ∨ g20 n t u = some (zeroN, 12) := by
  have hp := ht.pos
  have h0 : t[0]? = some t[0] := List.getElem?_eq_getElem (by omega)
  have h1 : t[t.length - 1]? = some t[t.length - 1] := List.getElem?_eq_getElem (by omega)
  rcases At_cases n hn t ht hc u _ _ h0 h1 with ⟨-, -, r, -, e⟩ | ⟨-, e⟩
  · exact .inl ⟨r, e⟩
  · exact .inr e
def hit (n : Nat) (u : Int) (t : List TTubeNode) : Bool := match g20 n t u with | some r => r.2 == 0 | none => false
theorem sum_set : ∀ (L : List Int) (k : Nat) (x : Int), L[k]? = some x → (L.set k (x + 1)).sum = L.sum + 1
  | [], k, x, h => by simp at h
  | y :: r, 0, x, h => by
    simp only [List.getElem?_cons_zero, Option.some.injEq] at h
    subst h
    simp only [List.set_cons_zero, List.sum_cons]; omega
  | y :: r, k + 1, x, h => by
    have := sum_set r k x (by simpa using h)
    simp only [List.set_cons_succ, List.sum_cons, this]; omega
theorem take_one {α : Type} {l : List α} {i : Nat} {x : α} (h : l[i]? = some x) : l.take (i + 1) = l.take i ++ [x] := by rw [List.take_add_one, h]; rfl
theorem rep_sum : ∀ m : Nat, (List.replicate m (0 : Int)).sum = 0
  | 0 => rfl
  | m + 1 => by rw [List.replicate_succ, List.sum_cons, rep_sum m]; rfl
theorem count_val (n : Nat) (hn : 4500 < n) (l : List TSector) (hl : SecOk l) (ts : List (List TTubeNode)) (hts : ts.length ≤ 24) (hok : ∀ t ∈ ts, g28 n t = some 0 ∧ TubeOk t) (u : Int) :
    ∃ (L : List Int) (o : Int), g41 n l ts u = some (L, o) ∧ L.length = l.length ∧ (∀ x ∈ L, 0 ≤ x ∧ x ≤ 24) ∧ 0 ≤ o ∧ o ≤ 24 ∧ L.sum + o = (ts.countP (hit n u) : Int) := by
  have hlen := hl.len
  unfold g41
  have hm : makeO (l.length : Int) 8 = some l.length := by
    unfold makeO
    rw [if_pos ⟨by omega, by omega, by omega⟩]; simp
  rw [hm, Option.bind_some]
  obtain ⟨r, hr, hQ⟩ := iterO_rule (S := fun y : Int × Int × List Int => S41_0 n l u (0) ts (ts.length : Int) y.1 y.2.1 y.2.2) (fun y => ∃ (i : Nat) (L : List Int) (o : Int), y = (o, (i : Int), L) ∧ i ≤ ts.length ∧ L.length = l.length ∧ (∀ x ∈ L, 0 ≤ x ∧ x ≤ (i : Int)) ∧ 0 ≤ o ∧ o ≤ (i : Int) ∧ L.sum + o = ((ts.take i).countP (hit n u) : Int))
    (fun r => r.1.length = l.length ∧ (∀ x ∈ r.1, 0 ≤ x ∧ x ≤ 24) ∧ 0 ≤ r.2 ∧ r.2 ≤ 24 ∧ r.1.sum + r.2 = (ts.countP (hit n u) : Int)) (fun y => ts.length - y.2.1.toNat) (by
    rintro _ ⟨i, L, o, rfl, hi, h1, h2, h3, h4, h5⟩
    show (∃ y, S41_0 n l u (0) ts (ts.length : Int) o (i : Int) L = some (.inl y) ∧ _ ∧ _) ∨ ∃ r, S41_0 n l u (0) ts (ts.length : Int) o (i : Int) L = some (.inr r) ∧ _
    unfold S41_0
    rcases Nat.lt_or_ge i ts.length with hlt | hge
    · left
      have hx : ts[i]? = some ts[i] := List.getElem?_eq_getElem hlt
      generalize ts[i] = t at hx
      obtain ⟨hc, htk⟩ := hok t (List.mem_of_getElem? hx)
      have hms : ts.length - ((i + 1 : Nat) : Int).toNat < ts.length - (i : Int).toNat := by omega
      rw [decide_eq_true (show (i : Int) < _ by omega), cond_true, getI_at hx, Option.bind_some, wS (by omega)]
      rcases At_either n (by omega) t hc htk u with ⟨q, hq⟩ | hq
      · have hh : hit n u t = true := by unfold hit; rw [hq]; rfl
        have hcnt : ((ts.take (i + 1)).countP (hit n u) : Int) = ((ts.take i).countP (hit n u) : Int) + 1 := by rw [take_one hx, List.countP_append]; simp [hh]
        obtain ⟨k, hk, k1, k2⟩ := place_val n hn l hl (⟨q.Node_At_X, q.Node_At_Y⟩ : TP) q.Node_Height
        rw [hq, Option.bind_some]
        simp only [show ((0 : Int) != 0) = false from rfl, cond_false]
        rw [hk, Option.bind_some]
        by_cases hk0 : k ≥ 0
        · obtain ⟨k', rfl⟩ : ∃ k' : Nat, k = (k' : Int) := ⟨k.toNat, by omega⟩
          have hy : L[k']? = some L[k'] := List.getElem?_eq_getElem (by omega)
          generalize L[k'] = x at hy
          have hxb := h2 x (List.mem_of_getElem? hy)
          rw [decide_eq_true hk0, cond_true, getI_at hy, Option.bind_some, Option.bind_some, Int.toNat_natCast, wrap64 (z := x + 1) (by omega) (by omega)]
          refine ⟨_, rfl, ⟨i + 1, _, o, rfl, hlt, by rw [List.length_set]; exact h1, fun z hz => ?_, h3, by omega, ?_⟩, hms⟩
          · rcases List.mem_or_eq_of_mem_set hz with k | k
            · have := h2 z k; omega
            · omega
          · rw [sum_set L k' x hy, hcnt]; omega
        · rw [decide_eq_false hk0, cond_false, wrap64 (z := o + 1) (by omega) (by omega)]
          exact ⟨_, rfl, ⟨i + 1, L, o + 1, rfl, hlt, h1, fun z hz => by have := h2 z hz; omega, by omega, by omega, by rw [hcnt]; omega⟩, hms⟩
      · have hh : hit n u t = false := by unfold hit; rw [hq]; rfl
        have hcnt : ((ts.take (i + 1)).countP (hit n u) : Int) = ((ts.take i).countP (hit n u) : Int) := by rw [take_one hx, List.countP_append]; simp [hh]
        rw [hq, Option.bind_some]
        simp only [show ((12 : Int) != 0) = true from rfl, cond_true]
        exact ⟨_, rfl, ⟨i + 1, L, o, rfl, hlt, h1, fun z hz => by have := h2 z hz; omega, h3, by omega, by rw [hcnt]; exact h5⟩, hms⟩
    · right
      have hi' : i = ts.length := by omega
      subst hi'
      rw [decide_eq_false (Int.lt_irrefl _), cond_false]
      refine ⟨_, rfl, h1, fun x hx => by have := h2 x hx; omega, h3, by omega, ?_⟩
      rw [List.take_length] at h5
      exact h5) n ((0), (0), (List.replicate l.length (0))) ⟨0, _, 0, rfl, Nat.zero_le _, by simp, fun x hx => by rw [List.eq_of_mem_replicate hx]; simp, Int.le_refl _, Int.le_refl _, by rw [rep_sum]; rfl⟩ (by show ts.length - (0 : Int).toNat < n; omega)
  obtain ⟨q1, q2, q3, q4, q5⟩ := hQ
  exact ⟨r.1, r.2, hr, q1, q2, q3, q4, q5⟩
theorem Count_cases (n : Nat) (hn : 4500 < n) (l : List TSector) (ts : List (List TTubeNode)) (u : Int) : (∃ z, z ≠ 0 ∧ g19 n l ts u = some ([], 0, z)) ∨ (SecOk l ∧ ts.length ≤ 24 ∧ (∀ t ∈ ts, g28 n t = some 0 ∧ TubeOk t) ∧ ∃ (L : List Int) (o : Int), g41 n l ts u = some (L, o) ∧ g19 n l ts u = some (L, o, 0)) := by
  obtain ⟨z, hz, kz⟩ := load_check n hn l ts
  unfold g19
  rw [hz, Option.bind_some]
  by_cases z0 : z = 0
  case neg => rw [bne_iff_ne.2 z0, cond_true]; exact .inl ⟨z, z0, rfl⟩
  obtain ⟨k1, k2, k3⟩ := kz z0
  rw [z0, show ((0 : Int) != 0) = false from rfl, cond_false]
  by_cases u0 : u < 0
  · rw [decide_eq_true u0, cond_true]; exact .inl ⟨12, by decide, rfl⟩
  by_cases u1 : u > 200000
  · rw [decide_eq_false u0, cond_false, decide_eq_true u1, cond_true]; exact .inl ⟨12, by decide, rfl⟩
  obtain ⟨L, o, e, -⟩ := count_val n hn l k1 ts k2 k3 u
  rw [decide_eq_false u0, decide_eq_false u1, cond_false, cond_false, e]
  exact .inr ⟨k1, k2, k3, L, o, rfl, rfl⟩
end Go.Proofs.Ytldiackagnjlgaa
