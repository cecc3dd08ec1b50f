/- JointEither, on plain values. -/
import Derived.Test.YtlgbioidkbeanaaTj6
set_option linter.unusedVariables false
set_option linter.unusedSimpArgs false
namespace Go.Proofs.Ytlgbioidkbeanaa

/- the best so far -/
def BI (l : List (List TJointOption)) (cl : Nat → Nat → Nat → Nat → Bool) (s : List Int × Int) : Prop := (s.1 = [] ∧ s.2 = -1) ∨ (0 ≤ s.2 ∧ s.2 = costS l 0 s.1 ∧ s.1.length = l.length ∧ Cho l s.1 ∧ Clear cl s.1)
def stB (l : List (List TJointOption)) (s : List Int × Int) (e : Ev) : Option (List Int × Int) := match e.2 with
  | none => frB l s e.1
  | some _ => some s
theorem best_fold {n : Nat} {l : List (List TJointOption)} (h : JOk n l) {cl : Nat → Nat → Nat → Nat → Bool} : ∀ (E : List Ev), (∀ e ∈ E, EvOk l cl [] e) → ∀ s, BI l cl s → ∃ t, E.foldlM (stB l) s = some t ∧ BI l cl t ∧ (0 ≤ s.2 → 0 ≤ t.2 ∧ t.2 ≤ s.2) ∧ (∀ c, (c, none) ∈ E → 0 ≤ t.2 ∧ t.2 ≤ costS l 0 c) ∧ (0 ≤ t.2 → 0 ≤ s.2 ∨ ∃ c, (c, none) ∈ E)
  | [], _, s, hs => ⟨s, rfl, hs, fun q => ⟨q, Int.le_refl _⟩, fun c hc => by simp at hc, fun q => .inl q⟩
  | e :: E, hE, s, hs => by
    obtain ⟨c, o⟩ := e
    have he := hE (c, o) (by simp)
    rw [List.foldlM_cons]
    cases o with
    | some i =>
      obtain ⟨t, h1, h2, h3, h4, h5⟩ := best_fold h E (fun e he => hE e (by simp [he])) s hs
      refine ⟨t, h1, h2, h3, fun c' hc' => ?_, fun q => (h5 q).imp id (fun ⟨c', hc'⟩ => ⟨c', by simp [hc']⟩)⟩
      rcases List.mem_cons.1 hc' with q | q
      · cases q
      · exact h4 c' q
    | none =>
      obtain ⟨-, hcho, hlen, hcl⟩ := he
      simp only at hcho hlen hcl
      obtain ⟨k1, k2⟩ := cho_cost h hcho
      have hst : ∃ u, stB l s (c, none) = some u ∧ BI l cl u ∧ (0 ≤ s.2 → u.2 ≤ s.2) ∧ 0 ≤ u.2 ∧ u.2 ≤ costS l 0 c := by
        show ∃ u, frB l s c = some u ∧ _
        unfold frB
        rw [k1, Option.bind_some]
        by_cases q : s.2 < 0 ∨ costS l 0 c < s.2
        · rw [if_pos q]
          exact ⟨_, rfl, .inr ⟨k2, rfl, hlen, hcho, hcl⟩, fun q2 => by rcases q with q | q <;> (show costS l 0 c ≤ s.2; omega), k2, Int.le_refl _⟩
        · rw [if_neg q]
          exact ⟨_, rfl, hs, fun _ => Int.le_refl _, by omega, by omega⟩
      obtain ⟨u, u1, u2, u3, u4, u5⟩ := hst
      obtain ⟨t, h1, h2, h3, h4, h5⟩ := best_fold h E (fun e he => hE e (by simp [he])) u u2
      rw [u1]
      refine ⟨t, h1, h2, fun q => ⟨(h3 u4).1, by have := (h3 u4).2; have := u3 q; omega⟩, fun c' hc' => ?_, fun _ => .inr ⟨c, by simp⟩⟩
      rcases List.mem_cons.1 hc' with q | q
      · cases q
        exact ⟨(h3 u4).1, by have := (h3 u4).2; omega⟩
      · exact h4 c' q
theorem best_val {n : Nat} (hn : big n) {l : List (List TJointOption)} (h : JOk n l) (hc : g23 n l = some 0) {s : TSep} (hs : g36 n s = some 0) :
    (g9 n l s = some ([], 0, 8) ∧ ∀ c, (c, none) ∉ evs n l s) ∨ ∃ b z, g9 n l s = some (b, z, 0) ∧ z = costS l 0 b ∧ b.length = l.length ∧ Cho l b ∧ Clear (clF n l s) b ∧ (∃ c, (c, none) ∈ evs n l s) ∧ ∀ c, (c, none) ∈ evs n l s → z ≤ costS l 0 c := by
  obtain ⟨t, h1, h2, h3, h4, h5⟩ := best_fold h (cl := clF n l s) (evs n l s) evs_ok ([], -1) (.inl ⟨rfl, rfl⟩)
  have hw : wlk l (clF n l s) (frB l) (fun s _ _ => some s) l.length [] (([] : List Int), (-1 : Int)) = some t := by
    rw [wlk_ev]
    exact h1
  have e : g9 n l s = bif decide (t.2 < 0) then some ([], 0, 8) else some (t.1, t.2, 0) := by
    unfold g9
    rw [hs, hc, clAll_jok hn h hs, few_jok h]
    simp only [Option.bind_some, hw]
    rfl
  rw [e]
  by_cases q : t.2 < 0
  · left
    rw [decide_eq_true q]
    exact ⟨rfl, fun c hc => by have := (h4 c hc).1; omega⟩
  · right
    rw [decide_eq_false q]
    rcases h2 with ⟨-, h2⟩ | ⟨-, k2, k3, k4, k5⟩
    · omega
    · refine ⟨t.1, t.2, rfl, k2, k3, k4, k5, ?_, fun c hc => (h4 c hc).2⟩
      rcases h5 (by omega) with q2 | q2
      · exact absurd q2 (by decide)
      · exact q2
def stR (s : Bool × List TJointRefuted) (e : Ev) : Option (Bool × List TJointRefuted) := match e.2 with
  | none => some (true, s.2)
  | some i => rfB s e.1 i
theorem refute_fold : ∀ (E : List Ev) (s : Bool × List TJointRefuted), s.2.length + E.length ≤ 1000000 → ∃ b, E.foldlM stR s = some (b, s.2 ++ refs E) ∧ (b = true ↔ s.1 = true ∨ ∃ c, (c, none) ∈ E)
  | [], s, _ => ⟨s.1, by simp [refs], by simp⟩
  | e :: E, s, hb => by
    obtain ⟨c, o⟩ := e
    simp only [List.length_cons] at hb
    rw [List.foldlM_cons]
    cases o with
    | none =>
      obtain ⟨b, h1, h2⟩ := refute_fold E (true, s.2) (by simp only; omega)
      refine ⟨b, h1, ?_⟩
      rw [h2]
      simp
    | some i =>
      have e1 : stR s (c, some i) = some (s.1, s.2 ++ [⟨c, i⟩]) := by
        show rfB s c i = _
        unfold rfB
        rw [if_pos (by omega)]
      rw [e1]
      obtain ⟨b, h1, h2⟩ := refute_fold E (s.1, s.2 ++ [⟨c, i⟩]) (by simp only [List.length_append, List.length_cons, List.length_nil]; omega)
      refine ⟨b, by rw [show ((some (s.1, s.2 ++ [(⟨c, i⟩ : TJointRefuted)])) >>= fun x => List.foldlM stR x E) = List.foldlM stR (s.1, s.2 ++ [(⟨c, i⟩ : TJointRefuted)]) E from rfl, h1]; simp [refs], ?_⟩
      rw [h2]
      simp
theorem refute_val {n : Nat} (hn : big n) {l : List (List TJointOption)} (h : JOk n l) (hc : g23 n l = some 0) {s : TSep} (hs : g36 n s = some 0) :
    (g10 n l s = some ([], 11) ∧ ∃ c, (c, none) ∈ evs n l s) ∨ (g10 n l s = some (refs (evs n l s), 0) ∧ ∀ c, (c, none) ∉ evs n l s) := by
  have hlen := evs_len (s := s) h
  have hp := h.prod
  obtain ⟨b, h1, h2⟩ := refute_fold (evs n l s) (false, []) (by simp only [List.length_nil]; omega)
  have hw : wlk l (clF n l s) (fun s _ => some (true, s.2)) rfB l.length [] (false, ([] : List TJointRefuted)) = some (b, refs (evs n l s)) := by
    rw [wlk_ev]
    exact h1
  have e : g10 n l s = bif b then some ([], 11) else some (refs (evs n l s), 0) := by
    unfold g10
    rw [hs, hc, clAll_jok hn h hs, few_jok h]
    simp only [Option.bind_some, hw]
    rfl
  rw [e]
  cases b with
  | true =>
    left
    refine ⟨rfl, ?_⟩
    rcases h2.1 rfl with q | q
    · cases q
    · exact q
  | false => exact .inr ⟨rfl, fun c hc => by have := h2.2 (.inr ⟨c, hc⟩); cases this⟩
/- the refutations, where no choice is free -/
theorem refs_mem {E : List Ev} {r : TJointRefuted} : r ∈ refs E ↔ (r.Choice, some r.With) ∈ E := by
  unfold refs
  rw [List.mem_filterMap]
  constructor
  · rintro ⟨⟨c, o⟩, h1, h2⟩
    cases o with
    | none => cases h2
    | some i => cases h2; exact h1
  · intro h
    exact ⟨_, h, rfl⟩
theorem refs_good {n : Nat} {l : List (List TJointOption)} (h : JOk n l) {s : TSep} : ∀ r ∈ refs (evs n l s), goodF l (clF n l s) r = true ∧ r.Choice.length ≤ 6 := by
  intro r hr
  obtain ⟨-, h2, h3⟩ := evs_ok _ (refs_mem.1 hr)
  exact ⟨h3.1, Nat.le_trans h2.1 h.len⟩
theorem refs_pw {E : List Ev} (h : E.Pairwise (fun a b => Before a.1 b.1)) : (refs E).Pairwise (fun a b => Before a.Choice b.Choice) := by
  unfold refs
  rw [List.pairwise_filterMap]
  refine h.imp (fun {a b} hab x hx y hy => ?_)
  obtain ⟨a1, a2⟩ := a
  obtain ⟨b1, b2⟩ := b
  cases a2 with
  | none => cases hx
  | some i =>
    cases b2 with
    | none => cases hy
    | some j => cases hx; cases hy; exact hab
theorem refs_sum {l : List (List TJointOption)} : ∀ E : List Ev, (∀ c, (c, none) ∉ E) → ((refs E).map fun r => prodL (l.drop r.Choice.length)).sum = (E.map (wgt l)).sum
  | [], _ => rfl
  | (c, none) :: E, h => absurd (List.mem_cons_self ..) (h c)
  | (c, some i) :: E, h => by
    have := refs_sum (l := l) E (fun c hc => h c (by simp [hc]))
    have e : refs ((c, some i) :: E) = ⟨c, i⟩ :: refs E := rfl
    rw [e, List.map_cons, List.sum_cons, this]
    rfl
theorem refuted_val {n : Nat} (hn : big n) {l : List (List TJointOption)} (h : JOk n l) (hc : g23 n l = some 0) {s : TSep} (hs : g36 n s = some 0) (all : List TJointRefuted) (ha : all.length ≤ 5000) :
    g11 n l s all = rfdT n l (clF n l s) none all ((prodL l : Nat) : Int) := by
  unfold g11
  rw [hs, hc, clAll_jok hn h hs, few_jok h]
  simp only [Option.bind_some]
  have hm : manyT 1 l = ((prodL l : Nat) : Int) := by
    have := many_drop (l := l) (fun o ho => (h.each o ho).1) h.prod 0
    simpa using this
  rw [hm]
  show (if all.length > 5000 then some 2 else _) = _
  rw [if_neg (by omega)]
theorem refs_len {E : List Ev} : (refs E).length ≤ E.length := List.length_filterMap_le _ _
theorem jerr (n : Nat) (hn : big n) (l : List (List TJointOption)) (s : TSep) : (∃ z, z ≠ 0 ∧ g9 n l s = some ([], 0, z) ∧ g10 n l s = some ([], z)) ∨ (g36 n s = some 0 ∧ g23 n l = some 0 ∧ JOk n l) := by
  rcases csep n s with hs | ⟨z, hz, hs⟩
  case inr =>
    refine .inl ⟨z, hz, ?_, ?_⟩
    · unfold g9; rw [hs, Option.bind_some, bne_iff_ne.2 hz]; rfl
    · unfold g10; rw [hs, Option.bind_some, bne_iff_ne.2 hz]; rfl
  rcases jcheck n hn l with ⟨hc, hj⟩ | ⟨z, hz, hc⟩
  case inr =>
    refine .inl ⟨z, hz, ?_, ?_⟩
    · unfold g9; rw [hs, Option.bind_some, show ((0 : Int) != 0) = false from rfl, cond_false, hc, Option.bind_some, bne_iff_ne.2 hz]; rfl
    · unfold g10; rw [hs, Option.bind_some, show ((0 : Int) != 0) = false from rfl, cond_false, hc, Option.bind_some, bne_iff_ne.2 hz]; rfl
  exact .inr ⟨hs, hc, hj⟩
theorem either_law (n : Nat) (hn : big n) (l : List (List TJointOption)) (s : TSep) (hl : l.length ≤ 9223372036854775807) (hln : l.length < n) (ho : ∀ o ∈ l, o.length ≤ 9223372036854775807 ∧ o.length < n) : g3 n l s = some true := by
  unfold g3
  rw [show g7 n = some true from rfl, Option.bind_some, Bool.not_true, cond_false]
  rcases few_cases n hn l hl hln ho with ⟨e, -⟩ | e
  case inr => rw [e]; rfl
  rw [e, Option.bind_some, Bool.not_true, cond_false]
  have err : ∀ z, z ≠ 0 → g9 n l s = some ([], 0, z) → g10 n l s = some ([], z) → ∀ {X : Option Bool}, X = ((g9 n l s).bind fun x78 => (g10 n l s).bind fun x79 => bif (x78.2.2 == (0)) then (bif (x79.2 == (11)) then (bif ((x79.1.length : Int) == (0)) then (some ((x78.1.length : Int) == (l.length : Int))) else (some (false))) else (some (false))) else (bif (x78.2.2 == (8)) then (bif ((x78.1.length : Int) == (0)) then (bif (x79.2 == (0)) then ((g11 n l s x79.1).bind fun x80 => bif (x80 == (0)) then (some (true)) else (some (x79.2 == (8)))) else (some (x79.2 == (8)))) else (some (false))) else (bif (x79.2 == x78.2.2) then (some ((x79.1.length : Int) == (0))) else (some (false))))) → X = some true := by
    intro z hz h1 h2 X hX
    rw [hX, h1, h2]
    simp only [Option.bind_some]
    rw [show (z == (0 : Int)) = false from beq_eq_false_iff_ne.2 hz]
    by_cases h8 : z = 8
    · subst h8; rfl
    · rw [show (z == (8 : Int)) = false from beq_eq_false_iff_ne.2 h8]
      simp
  rcases jerr n hn l s with ⟨z, hz, h1, h2⟩ | ⟨hs, hc, hj⟩
  · exact err z hz h1 h2 rfl
  rcases best_val hn hj hc hs with ⟨hb, hno⟩ | ⟨b, z, hb, -, hblen, -, -, ⟨c0, hc0⟩, -⟩
  · rcases refute_val hn hj hc hs with ⟨-, c, hc'⟩ | ⟨hr, -⟩
    · exact absurd hc' (hno c)
    rw [hb, hr]
    simp only [Option.bind_some]
    have hp := hj.prod
    have hcount := evs_count (n := n) (l := l) (s := s)
    have hrl : (refs (evs n l s)).length ≤ 5000 := by have := refs_len (E := evs n l s); have := evs_len (s := s) hj; omega
    have hrf : g11 n l s (refs (evs n l s)) = some 0 := by
      rw [refuted_val hn hj hc hs _ hrl]
      have hsum := refs_sum (l := l) (evs n l s) hno
      rw [hcount] at hsum
      have := rfd_pass hn hj.len (fun o ho => (hj.each o ho).1) hj.prod (cl := clF n l s) (refs (evs n l s)) none 0 (refs_good hj) (fun a ha => by cases ha) (refs_pw evs_sorted) (by omega)
      rw [hsum] at this
      simpa using this
    rw [hrf]
    rfl
  · rcases refute_val hn hj hc hs with ⟨hr, -⟩ | ⟨-, hno⟩
    · rw [hb, hr]
      simp [hblen]
    · exact absurd hc0 (hno c0)
theorem either_all (l : List (List TJointOption)) (s : TSep) (hl : l.length ≤ 9223372036854775807) (ho : ∀ o ∈ l, o.length ≤ 9223372036854775807) : g3 10000000000000000000 l s = some true :=
  either_law _ (by unfold big; decide) l s hl (by omega) (fun o h => ⟨ho o h, by have := ho o h; omega⟩)
end Go.Proofs.Ytlgbioidkbeanaa
