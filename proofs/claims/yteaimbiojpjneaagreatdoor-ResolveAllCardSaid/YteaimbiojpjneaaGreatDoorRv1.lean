/- Separation is symmetric; the times without separation. -/
import Derived.Test.YteaimbiojpjneaaGreatDoorTj3
set_option linter.unusedVariables false
set_option linter.unusedSimpArgs false
namespace Go.Proofs.YteaimbiojpjneaaGreatDoor

theorem sq_wrap (x y : Int) : IntKind.wrap .i64 (x - y) * IntKind.wrap .i64 (x - y) = IntKind.wrap .i64 (y - x) * IntKind.wrap .i64 (y - x) := by
  have h : IntKind.wrap .i64 (y - x) = - IntKind.wrap .i64 (x - y) ∨ IntKind.wrap .i64 (y - x) = IntKind.wrap .i64 (x - y) := by rw [IntKind.wrap_i64, IntKind.wrap_i64]; omega
  rcases h with h | h
  · rw [h, Int.neg_mul_neg]
  · rw [h]
theorem sq_sym (n : Nat) (a b : TP) : g77 n a b = g77 n b a := by
  unfold g77 g55 g103
  show some (IntKind.wrap .i64 (IntKind.wrap .i64 (IntKind.wrap .i64 (a.X - b.X) * IntKind.wrap .i64 (a.X - b.X)) + IntKind.wrap .i64 (IntKind.wrap .i64 (a.Y - b.Y) * IntKind.wrap .i64 (a.Y - b.Y)))) = some (IntKind.wrap .i64 (IntKind.wrap .i64 (IntKind.wrap .i64 (b.X - a.X) * IntKind.wrap .i64 (b.X - a.X)) + IntKind.wrap .i64 (IntKind.wrap .i64 (b.Y - a.Y) * IntKind.wrap .i64 (b.Y - a.Y))))
  rw [sq_wrap a.X b.X, sq_wrap a.Y b.Y]
theorem dist_sym (n : Nat) (a b : TP) : g56 n a b = g56 n b a := by
  unfold g56
  rw [sq_sym n a b]
theorem wrap_two (d p q : Int) : IntKind.wrap .i64 (IntKind.wrap .i64 (d - p) - q) = IntKind.wrap .i64 (IntKind.wrap .i64 (d - q) - p) := by
  simp only [IntKind.wrap_i64]; omega
theorem max_two (x y : Int) : (if x > y then x else y) = if y > x then y else x := by split <;> split <;> omega
theorem sepd_sym (n : Nat) (a b : TTubeNode) (s : TSep) : g65 n a b s = g65 n b a s := by
  unfold g65
  rw [dist_sym n ⟨a.Node_At_X, a.Node_At_Y⟩ ⟨b.Node_At_X, b.Node_At_Y⟩]
  congr 1
  funext d
  rw [wrap_two d.1 a.Radius b.Radius, max_two, wrap_two _ a.Band b.Band]
theorem common_eq (n : Nat) {a b : List TTubeNode} (ha : TubeOk a) (hb : TubeOk b) : ∃ f t : Int, g64 n a b = some (f, t) ∧ g64 n b a = some (f, t) ∧ 0 ≤ f ∧ f ≤ 200000 ∧ 0 ≤ t ∧ t ≤ 200000 := by
  obtain ⟨f, t, h, h1⟩ := common_val n ha hb
  refine ⟨f, t, h, ?_, h1⟩
  rw [← h]
  have hp := ha.pos
  have hq := ha.len
  have hp' := hb.pos
  have hq' := hb.len
  have h0 : a[0]? = some a[0] := List.getElem?_eq_getElem hp
  have h1 : a[a.length - 1]? = some a[a.length - 1] := List.getElem?_eq_getElem (by omega)
  have k0 : b[0]? = some b[0] := List.getElem?_eq_getElem hp'
  have k1 : b[b.length - 1]? = some b[b.length - 1] := List.getElem?_eq_getElem (by omega)
  have hw : IntKind.wrap .i64 ((a.length : Int) - 1) = ((a.length - 1 : Nat) : Int) := by rw [wrap64 (by omega) (by omega)]; omega
  have hw' : IntKind.wrap .i64 ((b.length : Int) - 1) = ((b.length - 1 : Nat) : Int) := by rw [wrap64 (by omega) (by omega)]; omega
  have g0 : getI a 0 = some a[0] := getI_at (i := 0) h0
  have g0' : getI b 0 = some b[0] := getI_at (i := 0) k0
  unfold g64
  rw [g0, g0', hw, hw', getI_at h1, getI_at k1]
  simp only [Option.bind_some]
  rw [max_two b[0].Node_Time a[0].Node_Time]
  congr 2
  split <;> split <;> omega
/- separated at a time -/
def sepB (n : Nat) (a b : List TTubeNode) (s : TSep) (u : Int) : Bool := (g65 n (atR n a u).1 (atR n b u).1 s).getD true
theorem sepB_sym (n : Nat) (a b : List TTubeNode) (s : TSep) (u : Int) : sepB n a b s u = sepB n b a s u := by unfold sepB; rw [sepd_sym]
theorem map_setF {α : Type} {L : List α} {i : Nat} {x y : α} (f : α → Int) (hx : L[i]? = some x) (h : f y = f x) : (L.set i y).map f = L.map f := by
  apply List.ext_getElem?
  intro j
  rw [List.getElem?_map, List.getElem?_map]
  by_cases e : i = j
  · subst e
    rw [List.getElem?_set_self (some_lt hx), hx]
    exact congrArg some h
  · rw [List.getElem?_set_ne e]
theorem spans_sem (n : Nat) (hn : big n) {a b : List TTubeNode} (ha : TubeOk a) (hb : TubeOk b) (ca : g24 n a = some 0) (cb : g24 n b = some 0) (s : TSep) {f t : Int} (hc : g64 n a b = some (f, t)) (f1 : 0 ≤ f) (f2 : f ≤ 200000) (t1 : 0 ≤ t) (t2 : t ≤ 200000) :
    ∃ L, g45 n a b s = some L ∧ L.length ≤ 200001 ∧ (L = [] ↔ ∀ u, f ≤ u → u ≤ t → sepB n a b s u = true) ∧ (L.map TSpan.From).Pairwise (· < ·) ∧ ∀ z ∈ L.map TSpan.From, 0 ≤ z ∧ z ≤ 200000 := by
  have hn64 : 64 < n := by unfold big at hn; omega
  unfold g45
  rw [hc, Option.bind_some]
  have fin : ∀ {u : Int} {L : List TSpan}, f ≤ u → ¬ u ≤ t → (∀ w, f ≤ w → w < u → w ≤ t) → (L = [] ↔ ∀ w, f ≤ w → w < u → sepB n a b s w = true) → (L = [] ↔ ∀ w, f ≤ w → w ≤ t → sepB n a b s w = true) := fun {u L} h1 h2 h3 h4 => h4.trans ⟨fun h w w1 w2 => h w w1 (by omega), fun h w w1 w2 => h w w1 (h3 w w1 w2)⟩
  refine iterO_rule (S := fun y : Int × List TSpan => S45_0 n a b (f, t).2 s.Lateral s.Vertical y.1 y.2) (fun y => f ≤ y.1 ∧ (y.1 ≤ t + 1 ∨ y.1 = f) ∧ y.2.length ≤ (y.1 - f).toNat ∧ (y.2 = [] ↔ ∀ w, f ≤ w → w < y.1 → sepB n a b s w = true) ∧ (y.2.map TSpan.From).Pairwise (· < ·) ∧ ∀ z ∈ y.2.map TSpan.From, f ≤ z ∧ z < y.1) _ (fun y => (t + 1 - y.1).toNat) ?_ n (f, []) ⟨Int.le_refl _, .inr rfl, by simp, ⟨fun _ w h1 h2 => by have h2 : w < f := h2; omega, fun _ => rfl⟩, by simp, by simp⟩ (by unfold big at hn; show (t + 1 - f).toNat < n; omega)
  rintro ⟨u, L⟩ ⟨h1, h2, h3, h4, h5, h6⟩
  simp only at h1 h2 h3 h4 h5 h6 ⊢
  unfold S45_0
  by_cases hle : u ≤ t
  · left
    rw [decide_eq_true hle, cond_true, (atR_eq n hn64 a ha ca u).1, (atR_eq n hn64 b hb cb u).1]
    simp only [Option.bind_some]
    obtain ⟨q, hq⟩ := sepd_tot n hn (atR n a u).1 (atR n b u).1 ⟨s.Lateral, s.Vertical⟩
    have hqs : sepB n a b s u = q := by unfold sepB; rw [show s = ⟨s.Lateral, s.Vertical⟩ from rfl, hq]; rfl
    rw [hq, Option.bind_some]
    have e1 : IntKind.wrap .i64 (u + 1) = u + 1 := wrap64 (by omega) (by omega)
    have dec : (t + 1 - (u + 1)).toNat < (t + 1 - u).toNat := by omega
    have room : roomO (L.length + 1) 16 = some () := room_of (by omega) (by omega)
    rw [e1]
    cases q with
    | true =>
      refine ⟨_, rfl, ⟨by show f ≤ u + 1; omega, .inl (by show u + 1 ≤ t + 1; omega), by show L.length ≤ (u + 1 - f).toNat; omega, ?_, h5, fun z hz => by have := h6 z hz; exact ⟨this.1, by show z < u + 1; omega⟩⟩, dec⟩
      show L = [] ↔ ∀ w, f ≤ w → w < u + 1 → _
      rw [h4]
      constructor
      · intro h w w1 w2
        by_cases e : w = u
        · rw [e]; exact hqs
        · exact h w w1 (by omega)
      · intro h w w1 w2
        exact h w w1 (by omega)
    | false =>
      rw [cond_false]
      have hno : ¬ ∀ w, f ≤ w → w < u + 1 → sepB n a b s w = true := fun h => by
        have := h u h1 (by omega)
        rw [hqs] at this; cases this
      have grow : ∀ x : TSpan, x.From = u → ∃ y : Int × List TSpan, (some (Sum.inl (u + 1, L ++ [x])) : Option ((Int × List TSpan) ⊕ ρ45)) = some (Sum.inl y) ∧ (f ≤ y.1 ∧ (y.1 ≤ t + 1 ∨ y.1 = f) ∧ y.2.length ≤ (y.1 - f).toNat ∧ (y.2 = [] ↔ ∀ w, f ≤ w → w < y.1 → sepB n a b s w = true) ∧ (y.2.map TSpan.From).Pairwise (· < ·) ∧ ∀ z ∈ y.2.map TSpan.From, f ≤ z ∧ z < y.1) ∧ (t + 1 - y.1).toNat < (t + 1 - u).toNat := fun x hx => by
        refine ⟨_, rfl, ⟨by show f ≤ u + 1; omega, .inl (by show u + 1 ≤ t + 1; omega), by simp only [List.length_append, List.length_cons, List.length_nil]; omega, ⟨fun h => by simp at h, fun h => absurd h hno⟩, ?_, fun z hz => ?_⟩, dec⟩
        · show ((L ++ [x]).map TSpan.From).Pairwise _
          rw [List.map_append, List.pairwise_append]
          exact ⟨h5, by simp, fun z hz w hw => by
            rw [List.map_singleton, List.mem_singleton] at hw
            have := (h6 z hz).2
            omega⟩
        · have hz : z ∈ (L ++ [x]).map TSpan.From := hz
          rw [List.map_append, List.mem_append] at hz
          rcases hz with hz | hz
          · have := h6 z hz; exact ⟨this.1, by show z < u + 1; omega⟩
          · rw [List.map_singleton, List.mem_singleton] at hz
            exact ⟨by omega, by show z < u + 1; omega⟩
      by_cases hl : (L.length : Int) > 0
      · rw [decide_eq_true hl, cond_true]
        have hw : IntKind.wrap .i64 ((L.length : Int) - 1) = ((L.length - 1 : Nat) : Int) := by rw [wrap64 (by omega) (by omega)]; omega
        have hx : L[L.length - 1]? = some (L[L.length - 1]'(by omega)) := List.getElem?_eq_getElem (by omega)
        generalize (L[L.length - 1]'(by omega)) = x at hx
        rw [hw, getI_at hx]
        simp only [Option.bind_some]
        cases x.To == u with
        | true =>
          refine ⟨_, rfl, ⟨by show f ≤ u + 1; omega, .inl (by show u + 1 ≤ t + 1; omega), by simp only [List.length_set]; omega, ⟨fun h => ?_, fun h => absurd h hno⟩, ?_, fun z hz => ?_⟩, dec⟩
          · have := congrArg List.length h
            simp only [List.length_set, List.length_nil] at this
            omega
          · show ((L.set ((L.length - 1 : Nat) : Int).toNat ⟨x.From, u + 1⟩).map TSpan.From).Pairwise _
            rw [Int.toNat_natCast, map_setF (y := ⟨x.From, u + 1⟩) TSpan.From hx rfl]; exact h5
          · have hz : z ∈ (L.set ((L.length - 1 : Nat) : Int).toNat ⟨x.From, u + 1⟩).map TSpan.From := hz
            rw [Int.toNat_natCast, map_setF (y := ⟨x.From, u + 1⟩) TSpan.From hx rfl] at hz
            have := h6 z hz
            exact ⟨this.1, by show z < u + 1; omega⟩
        | false =>
          rw [cond_false, show L.length + ([(⟨u, u + 1⟩ : TSpan)] : List TSpan).length = L.length + 1 from rfl, room, Option.bind_some]
          exact grow _ rfl
      · rw [decide_eq_false hl, cond_false, show L.length + ([(⟨u, u + 1⟩ : TSpan)] : List TSpan).length = L.length + 1 from rfl, room, Option.bind_some]
        exact grow _ rfl
  · right
    rw [decide_eq_false hle, cond_false]
    refine ⟨_, rfl, by omega, fin h1 hle (fun w w1 w2 => by omega) h4, h5, fun z hz => by have := h6 z hz; omega⟩
/- the spans of a pair of tubes and of the pair turned around -/
structure PairS (n : Nat) (a b : List TTubeNode) (s : TSep) (L : List TSpan) : Prop where
  val : g45 n a b s = some L
  len : L.length ≤ 200001
  ord : (L.map TSpan.From).Pairwise (· < ·)
  bd : ∀ z ∈ L.map TSpan.From, 0 ≤ z ∧ z ≤ 200000
theorem pair_two (n : Nat) (hn : big n) {a b : List TTubeNode} (ha : TubeOk a) (hb : TubeOk b) (ca : g24 n a = some 0) (cb : g24 n b = some 0) (s : TSep) : ∃ L M, PairS n a b s L ∧ PairS n b a s M ∧ (L = [] ↔ M = []) := by
  obtain ⟨f, t, h1, h2, f1, f2, t1, t2⟩ := common_eq n ha hb
  obtain ⟨L, a1, a2, a3, a4, a5⟩ := spans_sem n hn ha hb ca cb s h1 f1 f2 t1 t2
  obtain ⟨M, b1, b2, b3, b4, b5⟩ := spans_sem n hn hb ha cb ca s h2 f1 f2 t1 t2
  refine ⟨L, M, ⟨a1, a2, a4, a5⟩, ⟨b1, b2, b4, b5⟩, a3.trans (Iff.trans ?_ b3.symm)⟩
  constructor
  · intro h u u1 u2; rw [sepB_sym]; exact h u u1 u2
  · intro h u u1 u2; rw [sepB_sym]; exact h u u1 u2
theorem first_val (n : Nat) (hn : big n) {a b : List TTubeNode} (ca : g24 n a = some 0) (cb : g24 n b = some 0) (s : TSep) (hs : g43 n s = some 0) {L : List TSpan} (hL : g45 n a b s = some L) :
    ∃ r, g42 n a b s = some r ∧ (r.2 == 0) = !decide (L = []) := by
  have hp : g63 n a b s = some (L, 0) := by
    unfold g63
    rw [chk_all n s hs [a, b] (by simp) hn (by simp [ca, cb]), Option.bind_some, show ((0 : Int) != 0) = false from rfl, cond_false, hL]
    rfl
  unfold g42
  rw [hp, Option.bind_some, show ((0 : Int) != 0) = false from rfl, cond_false]
  cases L with
  | nil => exact ⟨(0, 8), rfl, rfl⟩
  | cons x L =>
    rw [show (((x :: L).length : Int) == 0) = false by simp; omega, cond_false]
    have : getI (x :: L) 0 = some x := getI_at (i := 0) rfl
    rw [show ((x :: L), (0 : Int)).1 = x :: L from rfl, this]
    exact ⟨(x.From, 0), rfl, by simp⟩
end Go.Proofs.YteaimbiojpjneaaGreatDoor
