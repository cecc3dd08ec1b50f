/- Conflicts of two valid tubes: the functions answer. -/
import Derived.Test.YtlgbioidkbeanaaTj2
set_option linter.unusedVariables false
set_option linter.unusedSimpArgs false
namespace Go.Proofs.Ytlgbioidkbeanaa

def big (n : Nat) : Prop := 4000000000 < n
theorem sqrt_tot (n : Nat) (hn : big n) (a : Int) : ∃ r, g74 n a = some r := by
  unfold g74
  by_cases h0 : a ≤ 0
  · rw [decide_eq_true h0, cond_true]; exact ⟨_, rfl⟩
  rw [decide_eq_false h0, cond_false]
  obtain ⟨r, hr, -⟩ := iterO_rule (S := fun y : Int × Int => S74_0 n a (0) y.1 y.2) (fun y => 0 ≤ y.1 ∧ y.1 ≤ y.2 ∧ y.2 ≤ 3037000499) (fun _ => True) (fun y => (y.2 - y.1).toNat) (by
    rintro ⟨u, v⟩ ⟨h1, h2, h3⟩
    simp only at h1 h2 h3 ⊢
    unfold S74_0
    by_cases hlt : u < v
    · rw [decide_eq_true hlt, cond_true]
      have e1 : IntKind.wrap .i64 (v - u) = v - u := wrap64 (by omega) (by omega)
      have e2 : IntKind.wrap .i64 (v - u + 1) = v - u + 1 := wrap64 (by omega) (by omega)
      have e3 : IntKind.wrap .i64 (Int.tdiv (v - u + 1) 2) = (v - u + 1) / 2 := by
        rw [Int.tdiv_eq_ediv_of_nonneg (by omega)]
        exact wrap64 (by omega) (by omega)
      have e4 : IntKind.wrap .i64 (u + (v - u + 1) / 2) = u + (v - u + 1) / 2 := wrap64 (by omega) (by omega)
      rw [e1, e2, e3, e4]
      have e5 : IntKind.wrap .i64 (u + (v - u + 1) / 2 - 1) = u + (v - u + 1) / 2 - 1 := wrap64 (by omega) (by omega)
      rw [e5]
      cases decide (IntKind.wrap .i64 ((u + (v - u + 1) / 2) * (u + (v - u + 1) / 2)) ≤ a) with
      | true => exact .inl ⟨_, rfl, ⟨by show 0 ≤ u + (v - u + 1) / 2; omega, by show u + (v - u + 1) / 2 ≤ v; omega, h3⟩, by show (v - (u + (v - u + 1) / 2)).toNat < (v - u).toNat; omega⟩
      | false => exact .inl ⟨_, rfl, ⟨h1, by show u ≤ u + (v - u + 1) / 2 - 1; omega, by show u + (v - u + 1) / 2 - 1 ≤ 3037000499; omega⟩, by show (u + (v - u + 1) / 2 - 1 - u).toNat < (v - u).toNat; omega⟩
    · rw [decide_eq_false hlt, cond_false]
      exact .inr ⟨_, rfl, trivial⟩) n (0, 3037000499) ⟨by decide, by decide, by decide⟩ (by unfold big at hn; show ((3037000499 : Int) - 0).toNat < n; omega)
  exact ⟨r, hr⟩
theorem dist_tot (n : Nat) (hn : big n) (a b : TP) : ∃ r, g57 n a b = some r := by
  unfold g57
  obtain ⟨d, hd⟩ : ∃ d, g73 n a b = some d := ⟨_, rfl⟩
  rw [hd, Option.bind_some]
  obtain ⟨q, hq⟩ := sqrt_tot n hn d
  rw [hq, Option.bind_some]
  cases decide (IntKind.wrap .i64 (q * q) < d) <;> exact ⟨_, rfl⟩
theorem sepd_tot (n : Nat) (hn : big n) (a b : TTubeNode) (s : TSep) : ∃ r, g49 n a b s = some r := by
  unfold g49
  obtain ⟨d, hd⟩ := dist_tot n hn ⟨a.Node_At_X, a.Node_At_Y⟩ ⟨b.Node_At_X, b.Node_At_Y⟩
  rw [hd, Option.bind_some]
  cases decide (IntKind.wrap .i64 (IntKind.wrap .i64 (d.1 - a.Radius) - b.Radius) ≥ s.Lateral) <;> exact ⟨_, rfl⟩
theorem common_val (n : Nat) {a b : List TTubeNode} (ha : TubeOk a) (hb : TubeOk b) : ∃ f t : Int, g47 n a b = some (f, t) ∧ 0 ≤ f ∧ f ≤ 200000 ∧ 0 ≤ t ∧ t ≤ 200000 := by
  have hp := ha.pos
  have hq := ha.len
  have hp' := hb.pos
  have hq' := hb.len
  have h0 : a[0]? = some a[0] := List.getElem?_eq_getElem hp
  have h1 : a[a.length - 1]? = some a[a.length - 1] := List.getElem?_eq_getElem (by omega)
  have k0 : b[0]? = some b[0] := List.getElem?_eq_getElem hp'
  have k1 : b[b.length - 1]? = some b[b.length - 1] := List.getElem?_eq_getElem (by omega)
  have hw : IntKind.wrap .i64 ((a.length : Int) - 1) = ((a.length - 1 : Nat) : Int) := by rw [wrap64 (by omega) (by omega)]; omega
  have hw' : IntKind.wrap .i64 ((b.length : Int) - 1) = ((b.length - 1 : Nat) : Int) := by rw [wrap64 (by omega) (by omega)]; omega
  have g0 : getI a 0 = some a[0] := getI_at (i := 0) h0
  have g0' : getI b 0 = some b[0] := getI_at (i := 0) k0
  have b0 := ha.nodes _ (List.mem_of_getElem? h0)
  have b1 := ha.nodes _ (List.mem_of_getElem? h1)
  have b2 := hb.nodes _ (List.mem_of_getElem? k0)
  have b3 := hb.nodes _ (List.mem_of_getElem? k1)
  unfold g47
  rw [g0, g0', hw, hw', getI_at h1, getI_at k1]
  refine ⟨_, _, rfl, ?_, ?_, ?_, ?_⟩
  · split <;> first | exact b2.1 | exact b0.1
  · split <;> first | exact b2.2.1 | exact b0.2.1
  · split <;> first | exact b3.1 | exact b1.1
  · split <;> first | exact b3.2.1 | exact b1.2.1
theorem spans_tot (n : Nat) (hn : big n) {a b : List TTubeNode} (ha : TubeOk a) (hb : TubeOk b) (ca : g33 n a = some 0) (cb : g33 n b = some 0) (s : TSep) : ∃ L, g38 n a b s = some L := by
  obtain ⟨f, t, hc, f1, f2, t1, t2⟩ := common_val n ha hb
  have hn64 : 64 < n := by unfold big at hn; omega
  unfold g38
  rw [hc, Option.bind_some]
  obtain ⟨r, hr, -⟩ := iterO_rule (S := fun y : Int × List TSpan => S38_0 n a b (f, t).2 s.Lateral s.Vertical y.1 y.2) (fun y => f ≤ y.1 ∧ y.1 ≤ 200001 ∧ y.2.length ≤ (y.1 - f).toNat) (fun _ => True) (fun y => (t + 1 - y.1).toNat) (by
    rintro ⟨u, L⟩ ⟨h1, h2, h3⟩
    simp only at h1 h2 h3 ⊢
    unfold S38_0
    by_cases hle : u ≤ t
    · rw [decide_eq_true hle, cond_true, (atR_eq n hn64 a ha ca u).1, (atR_eq n hn64 b hb cb u).1]
      simp only [Option.bind_some]
      obtain ⟨q, hq⟩ := sepd_tot n hn (atR n a u).1 (atR n b u).1 ⟨s.Lateral, s.Vertical⟩
      rw [hq, Option.bind_some]
      have e1 : IntKind.wrap .i64 (u + 1) = u + 1 := wrap64 (by omega) (by omega)
      have dec : (t + 1 - (u + 1)).toNat < (t + 1 - u).toNat := by omega
      have room : roomO (L.length + 1) 16 = some () := room_of (by omega) (by omega)
      rw [e1]
      cases q with
      | true => exact .inl ⟨_, rfl, ⟨by show f ≤ u + 1; omega, by show u + 1 ≤ 200001; omega, by show L.length ≤ (u + 1 - f).toNat; omega⟩, dec⟩
      | false =>
        rw [cond_false]
        by_cases hl : (L.length : Int) > 0
        · rw [decide_eq_true hl, cond_true]
          have hw : IntKind.wrap .i64 ((L.length : Int) - 1) = ((L.length - 1 : Nat) : Int) := by rw [wrap64 (by omega) (by omega)]; omega
          have hx : L[L.length - 1]? = some (L[L.length - 1]'(by omega)) := List.getElem?_eq_getElem (by omega)
          rw [hw, getI_at hx]
          simp only [Option.bind_some]
          cases (L[L.length - 1]'(by omega)).To == u with
          | true => exact .inl ⟨_, rfl, ⟨by show f ≤ u + 1; omega, by show u + 1 ≤ 200001; omega, by simp only [List.length_set]; omega⟩, dec⟩
          | false =>
            rw [cond_false, show L.length + ([(⟨u, u + 1⟩ : TSpan)] : List TSpan).length = L.length + 1 from rfl, room, Option.bind_some]
            exact .inl ⟨_, rfl, ⟨by show f ≤ u + 1; omega, by show u + 1 ≤ 200001; omega, by simp only [List.length_append, List.length_cons, List.length_nil]; omega⟩, dec⟩
        · rw [decide_eq_false hl, cond_false, show L.length + ([(⟨u, u + 1⟩ : TSpan)] : List TSpan).length = L.length + 1 from rfl, room, Option.bind_some]
          exact .inl ⟨_, rfl, ⟨by show f ≤ u + 1; omega, by show u + 1 ≤ 200001; omega, by simp only [List.length_append, List.length_cons, List.length_nil]; omega⟩, dec⟩
    · rw [decide_eq_false hle, cond_false]
      exact .inr ⟨_, rfl, trivial⟩) n (f, []) ⟨Int.le_refl _, by show f ≤ 200001; omega, by simp⟩ (by unfold big at hn; show (t + 1 - f).toNat < n; omega)
  exact ⟨r, hr⟩
theorem chk_all (n : Nat) (s : TSep) (hs : g36 n s = some 0) (L : List (List TTubeNode)) (hL : L.length ≤ 1000) (hn : big n) (h : ∀ l ∈ L, g33 n l = some 0) : g37 n s L = some 0 := by
  unfold g37
  rw [hs, Option.bind_some, show ((0 : Int) != 0) = false from rfl, cond_false]
  refine iterO_eq (fun y => ∃ i : Nat, i ≤ L.length ∧ y = (i : Int)) 0 (fun y => L.length - y.toNat) ?_ n _ ⟨0, Nat.zero_le _, rfl⟩ (by unfold big at hn; show L.length - (0 : Int).toNat < n; omega)
  rintro _ ⟨i, hi, rfl⟩
  unfold S37_0
  rcases Nat.lt_or_ge i L.length with hlt | hge
  · left
    have hx : L[i]? = some L[i] := List.getElem?_eq_getElem hlt
    rw [decide_eq_true (show (i : Int) < (L.length : Int) by omega), cond_true, getI_at hx, Option.bind_some, h _ (List.mem_of_getElem? hx), Option.bind_some, show ((0 : Int) != 0) = false from rfl, cond_false, wS (by omega)]
    exact ⟨_, rfl, ⟨i + 1, hlt, rfl⟩, by omega⟩
  · right
    rw [decide_eq_false (by omega)]; rfl
theorem first_tot (n : Nat) (hn : big n) {a b : List TTubeNode} (ha : TubeOk a) (hb : TubeOk b) (ca : g33 n a = some 0) (cb : g33 n b = some 0) (s : TSep) (hs : g36 n s = some 0) :
    ∃ r, g42 n a b s = some r ∧ ((r.2 == 0) = false → g38 n a b s = some []) := by
  obtain ⟨L, hL⟩ := spans_tot n hn ha hb ca cb s
  have hp : g52 n a b s = some (L, 0) := by
    unfold g52
    rw [chk_all n s hs [a, b] (by simp) hn (by simp [ca, cb]), Option.bind_some, show ((0 : Int) != 0) = false from rfl, cond_false, hL]
    rfl
  unfold g42
  rw [hp, Option.bind_some, show ((0 : Int) != 0) = false from rfl, cond_false]
  cases L with
  | nil => exact ⟨(0, 8), rfl, fun _ => hL⟩
  | cons x L =>
    rw [show (((x :: L).length : Int) == 0) = false by simp; omega, cond_false]
    have : getI (x :: L) 0 = some x := getI_at (i := 0) rfl
    rw [show ((x :: L), (0 : Int)).1 = x :: L from rfl, this]
    exact ⟨(x.From, 0), rfl, fun h => by cases h⟩
end Go.Proofs.Ytlgbioidkbeanaa
