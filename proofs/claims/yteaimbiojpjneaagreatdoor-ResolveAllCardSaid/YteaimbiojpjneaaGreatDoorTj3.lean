/- Conflicts of two valid tubes: the functions answer. -/
import Derived.Test.YteaimbiojpjneaaGreatDoorTj2
set_option linter.unusedVariables false
set_option linter.unusedSimpArgs false
namespace Go.Proofs.YteaimbiojpjneaaGreatDoor

def big (n : Nat) : Prop := 4000000000 < n
theorem sqrt_tot (n : Nat) (hn : big n) (a : Int) : ∃ r, g78 n a = some r := by
  unfold g78
  by_cases h0 : a ≤ 0
  · rw [decide_eq_true h0, cond_true]; exact ⟨_, rfl⟩
  rw [decide_eq_false h0, cond_false]
  obtain ⟨r, hr, -⟩ := iterO_rule (S := fun y : Int × Int => S78_0 n a (0) y.1 y.2) (fun y => 0 ≤ y.1 ∧ y.1 ≤ y.2 ∧ y.2 ≤ 3037000499) (fun _ => True) (fun y => (y.2 - y.1).toNat) (by
    rintro ⟨u, v⟩ ⟨h1, h2, h3⟩
    simp only at h1 h2 h3 ⊢
    unfold S78_0
    by_cases hlt : u < v
    · rw [decide_eq_true hlt, cond_true]
      have e1 : IntKind.wrap .i64 (v - u) = v - u := wrap64 (by omega) (by omega)
      have e2 : IntKind.wrap .i64 (v - u + 1) = v - u + 1 := wrap64 (by omega) (by omega)
      have e3 : IntKind.wrap .i64 (Int.tdiv (v - u + 1) 2) = (v - u + 1) / 2 := by
        rw [Int.tdiv_eq_ediv_of_nonneg (by omega)]
        exact wrap64 (by omega) (by omega)
      have e4 : IntKind.wrap .i64 (u + (v - u + 1) / 2) = u + (v - u + 1) / 2 := wrap64 (by omega) (by omega)
      rw [e1, e2, e3, e4]
      have e5 : IntKind.wrap .i64 (u + (v - u + 1) / 2 - 1) = u + (v - u + 1) / 2 - 1 := wrap64 (by omega) (by omega)
      rw [e5]
      cases decide (IntKind.wrap .i64 ((u + (v - u + 1) / 2) * (u + (v - u + 1) / 2)) ≤ a) with
      | true => exact .inl ⟨_, rfl, ⟨by show 0 ≤ u + (v - u + 1) / 2; omega, by show u + (v - u + 1) / 2 ≤ v; omega, h3⟩, by show (v - (u + (v - u + 1) / 2)).toNat < (v - u).toNat; omega⟩
      | false => exact .inl ⟨_, rfl, ⟨h1, by show u ≤ u + (v - u + 1) / 2 - 1; omega, by show u + (v - u + 1) / 2 - 1 ≤ 3037000499; omega⟩, by show (u + (v - u + 1) / 2 - 1 - u).toNat < (v - u).toNat; omega⟩
    · rw [decide_eq_false hlt, cond_false]
      exact .inr ⟨_, rfl, trivial⟩) n (0, 3037000499) ⟨by decide, by decide, by decide⟩ (by unfold big at hn; show ((3037000499 : Int) - 0).toNat < n; omega)
  exact ⟨r, hr⟩
theorem dist_tot (n : Nat) (hn : big n) (a b : TP) : ∃ r, g56 n a b = some r := by
  unfold g56
  obtain ⟨d, hd⟩ : ∃ d, g77 n a b = some d := ⟨_, rfl⟩
  rw [hd, Option.bind_some]
  obtain ⟨q, hq⟩ := sqrt_tot n hn d
  rw [hq, Option.bind_some]
  cases decide (IntKind.wrap .i64 (q * q) < d) <;> exact ⟨_, rfl⟩
theorem sepd_tot (n : Nat) (hn : big n) (a b : TTubeNode) (s : TSep) : ∃ r, g65 n a b s = some r := by
  unfold g65
  obtain ⟨d, hd⟩ := dist_tot n hn ⟨a.Node_At_X, a.Node_At_Y⟩ ⟨b.Node_At_X, b.Node_At_Y⟩
  rw [hd, Option.bind_some]
  cases decide (IntKind.wrap .i64 (IntKind.wrap .i64 (d.1 - a.Radius) - b.Radius) ≥ s.Lateral) <;> exact ⟨_, rfl⟩
theorem common_val (n : Nat) {a b : List TTubeNode} (ha : TubeOk a) (hb : TubeOk b) : ∃ f t : Int, g64 n a b = some (f, t) ∧ 0 ≤ f ∧ f ≤ 200000 ∧ 0 ≤ t ∧ t ≤ 200000 := by
  have hp := ha.pos
  have hq := ha.len
  have hp' := hb.pos
  have hq' := hb.len
  have h0 : a[0]? = some a[0] := List.getElem?_eq_getElem hp
  have h1 : a[a.length - 1]? = some a[a.length - 1] := List.getElem?_eq_getElem (by omega)
  have k0 : b[0]? = some b[0] := List.getElem?_eq_getElem hp'
  have k1 : b[b.length - 1]? = some b[b.length - 1] := List.getElem?_eq_getElem (by omega)
  have hw : IntKind.wrap .i64 ((a.length : Int) - 1) = ((a.length - 1 : Nat) : Int) := by rw [wrap64 (by omega) (by omega)]; omega
  have hw' : IntKind.wrap .i64 ((b.length : Int) - 1) = ((b.length - 1 : Nat) : Int) := by rw [wrap64 (by omega) (by omega)]; omega
  have g0 : getI a 0 = some a[0] := getI_at (i := 0) h0
  have g0' : getI b 0 = some b[0] := getI_at (i := 0) k0
  have b0 := ha.nodes _ (List.mem_of_getElem? h0)
  have b1 := ha.nodes _ (List.mem_of_getElem? h1)
  have b2 := hb.nodes _ (List.mem_of_getElem? k0)
  have b3 := hb.nodes _ (List.mem_of_getElem? k1)
  unfold g64
  rw [g0, g0', hw, hw', getI_at h1, getI_at k1]
  refine ⟨_, _, rfl, ?_, ?_, ?_, ?_⟩
  · split <;> first | exact b2.1 | exact b0.1
  · split <;> first | exact b2.2.1 | exact b0.2.1
  · split <;> first | exact b3.1 | exact b1.1
  · split <;> first | exact b3.2.1 | exact b1.2.1
theorem chk_all (n : Nat) (s : TSep) (hs : g43 n s = some 0) (L : List (List TTubeNode)) (hL : L.length ≤ 1000) (hn : big n) (h : ∀ l ∈ L, g24 n l = some 0) : g44 n s L = some 0 := by
  unfold g44
  rw [hs, Option.bind_some, show ((0 : Int) != 0) = false from rfl, cond_false]
  refine iterO_eq (fun y => ∃ i : Nat, i ≤ L.length ∧ y = (i : Int)) 0 (fun y => L.length - y.toNat) ?_ n _ ⟨0, Nat.zero_le _, rfl⟩ (by unfold big at hn; show L.length - (0 : Int).toNat < n; omega)
  rintro _ ⟨i, hi, rfl⟩
  unfold S44_0
  rcases Nat.lt_or_ge i L.length with hlt | hge
  · left
    have hx : L[i]? = some L[i] := List.getElem?_eq_getElem hlt
    rw [decide_eq_true (show (i : Int) < (L.length : Int) by omega), cond_true, getI_at hx, Option.bind_some, h _ (List.mem_of_getElem? hx), Option.bind_some, show ((0 : Int) != 0) = false from rfl, cond_false, wS (by omega)]
    exact ⟨_, rfl, ⟨i + 1, hlt, rfl⟩, by omega⟩
  · right
    rw [decide_eq_false (by omega)]; rfl
end Go.Proofs.YteaimbiojpjneaaGreatDoor
