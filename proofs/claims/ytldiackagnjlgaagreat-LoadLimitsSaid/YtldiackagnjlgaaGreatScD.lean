/- load.count as a table. -/
import Derived.Test.YtldiackagnjlgaaGreatScC
import Derived.Test.YtldiackagnjlgaaGreatTab9
set_option linter.unusedVariables false
set_option linter.unusedSimpArgs false
namespace Go.Proofs.YtldiackagnjlgaaGreat

/- the sector of a flight at a time -/
def plc (n : Nat) (l : List TSector) (u : Int) (t : List TTubeNode) : Option Int := match g42 n t u with
  | some r => if r.2 = 0 then g40 n l (⟨r.1.Node_At_X, r.1.Node_At_Y⟩ : TP) r.1.Node_Height else none
  | none => none
def ccs (n : Nat) (l : List TSector) (u : Int) (ts : List (List TTubeNode)) (s : Nat) : Int := (ts.countP (fun t => plc n l u t == some (s : Int)) : Nat)
def cco (n : Nat) (l : List TSector) (u : Int) (ts : List (List TTubeNode)) : Int := (ts.countP (fun t => (plc n l u t).any (fun z => decide (z < 0))) : Nat)
theorem ccs_app (n : Nat) (l : List TSector) (u : Int) (a b : List (List TTubeNode)) (s : Nat) : ccs n l u (a ++ b) s = ccs n l u a s + ccs n l u b s := by unfold ccs; rw [List.countP_append]; omega
theorem cco_app (n : Nat) (l : List TSector) (u : Int) (a b : List (List TTubeNode)) : cco n l u (a ++ b) = cco n l u a + cco n l u b := by unfold cco; rw [List.countP_append]; omega
theorem ccs_le (n : Nat) (l : List TSector) (u : Int) (a : List (List TTubeNode)) (s : Nat) : 0 ≤ ccs n l u a s ∧ ccs n l u a s ≤ (a.length : Int) := by
  unfold ccs
  have := List.countP_le_length (p := fun t => plc n l u t == some (s : Int)) (l := a)
  omega
theorem cco_le (n : Nat) (l : List TSector) (u : Int) (a : List (List TTubeNode)) : 0 ≤ cco n l u a ∧ cco n l u a ≤ (a.length : Int) := by
  unfold cco
  have := List.countP_le_length (p := fun t => (plc n l u t).any (fun z => decide (z < 0))) (l := a)
  omega
theorem ccs_one (n : Nat) (l : List TSector) (u : Int) (t : List TTubeNode) (s : Nat) : ccs n l u [t] s = if plc n l u t = some (s : Int) then 1 else 0 := by
  unfold ccs
  by_cases h : plc n l u t = some (s : Int) <;> simp [h]
theorem cco_one (n : Nat) (l : List TSector) (u : Int) (t : List TTubeNode) : cco n l u [t] = if (plc n l u t).any (fun z => decide (z < 0)) = true then 1 else 0 := by
  unfold cco
  by_cases h : (plc n l u t).any (fun z => decide (z < 0)) = true <;> simp [h]
theorem rep_tab (m : Nat) : List.replicate m (0 : Int) = tab m (fun _ => 0) := by
  unfold tab
  apply List.ext_getElem?
  intro s
  by_cases h : s < m
  · simp [h]
  · rw [List.getElem?_eq_none (by simp; omega), List.getElem?_eq_none (by simp; omega)]
theorem count_full (n : Nat) (hn : 4500 < n) (l : List TSector) (hl : SecOk l) (ts : List (List TTubeNode)) (hts : ts.length ≤ 24) (hok : ∀ t ∈ ts, g21 n t = some 0 ∧ TubeOk t) (u : Int) :
    g28 n l ts u = some (tab l.length (ccs n l u ts), cco n l u ts) := by
  have hlen := hl.len
  unfold g28
  have hm : makeO (l.length : Int) 8 = some l.length := by
    unfold makeO
    rw [if_pos ⟨by omega, by omega, by omega⟩]; simp
  rw [hm, Option.bind_some, rep_tab]
  refine iterO_eq (S := fun y : Int × Int × List Int => S28_0 n l u (0) ts (ts.length : Int) y.1 y.2.1 y.2.2) (fun y => ∃ i : Nat, i ≤ ts.length ∧ y = (cco n l u (ts.take i), (i : Int), tab l.length (ccs n l u (ts.take i)))) _ (fun y => ts.length - y.2.1.toNat) ?_ n _ ⟨0, Nat.zero_le _, rfl⟩ (by show ts.length - (0 : Int).toNat < n; omega)
  rintro _ ⟨i, hi, rfl⟩
  show (∃ y, S28_0 n l u (0) ts (ts.length : Int) (cco n l u (ts.take i)) (i : Int) (tab l.length (ccs n l u (ts.take i))) = some (.inl y) ∧ _ ∧ _) ∨ S28_0 n l u (0) ts (ts.length : Int) (cco n l u (ts.take i)) (i : Int) (tab l.length (ccs n l u (ts.take i))) = some (.inr _)
  unfold S28_0
  rcases Nat.lt_or_ge i ts.length with hlt | hge
  · left
    have hx : ts[i]? = some ts[i] := List.getElem?_eq_getElem hlt
    generalize ts[i] = t at hx
    obtain ⟨hc, htk⟩ := hok t (List.mem_of_getElem? hx)
    have hms : ts.length - ((i + 1 : Nat) : Int).toNat < ts.length - (i : Int).toNat := by omega
    have htl : (ts.take i).length ≤ 24 := by rw [List.length_take]; omega
    rw [decide_eq_true (show (i : Int) < _ by omega), cond_true, getI_at hx, Option.bind_some, wS (by omega)]
    rcases At_either n (by omega) t hc htk u with ⟨q, hq⟩ | hq
    · obtain ⟨k, hk, k1, k2⟩ := place_val n hn l hl (⟨q.Node_At_X, q.Node_At_Y⟩ : TP) q.Node_Height
      have hp : plc n l u t = some k := by unfold plc; rw [hq]; simp only [if_true]; exact hk
      rw [hq, Option.bind_some]
      simp only [show ((0 : Int) != 0) = false from rfl, cond_false]
      rw [hk, Option.bind_some]
      by_cases hk0 : k ≥ 0
      · obtain ⟨k', rfl⟩ : ∃ k' : Nat, k = (k' : Int) := ⟨k.toNat, by omega⟩
        have hkl : k' < l.length := by omega
        have hb := ccs_le n l u (ts.take i) k'
        rw [decide_eq_true hk0, cond_true, getI_at (tab_at hkl), Option.bind_some, Option.bind_some, Int.toNat_natCast, wrap64 (by omega) (by omega), tab_set _ _ (ccs n l u (ts.take (i + 1))) _ _ (fun s => by
          rw [take_one hx, ccs_app, ccs_one, hp]
          by_cases e : s = k'
          · subst e; rw [if_pos rfl, if_pos rfl]
          · rw [if_neg (by simp only [Option.some.injEq]; omega), if_neg e]; omega)]
        refine ⟨_, rfl, ⟨i + 1, hlt, ?_⟩, hms⟩
        rw [show cco n l u (ts.take (i + 1)) = cco n l u (ts.take i) by
          rw [take_one hx, cco_app, cco_one, hp, if_neg (by simp)]; omega]
      · have hb := cco_le n l u (ts.take i)
        rw [decide_eq_false hk0, cond_false, wrap64 (by omega) (by omega)]
        refine ⟨_, rfl, ⟨i + 1, hlt, ?_⟩, hms⟩
        rw [show cco n l u (ts.take (i + 1)) = cco n l u (ts.take i) + 1 by
          rw [take_one hx, cco_app, cco_one, hp, if_pos (by simp; omega)]]
        rw [show ccs n l u (ts.take (i + 1)) = ccs n l u (ts.take i) by
          funext s
          rw [take_one hx, ccs_app, ccs_one, hp, if_neg (by simp only [Option.some.injEq]; omega)]; omega]
    · have hp : plc n l u t = none := by unfold plc; rw [hq]; simp
      rw [hq, Option.bind_some]
      simp only [show ((12 : Int) != 0) = true from rfl, cond_true]
      refine ⟨_, rfl, ⟨i + 1, hlt, ?_⟩, hms⟩
      rw [show cco n l u (ts.take (i + 1)) = cco n l u (ts.take i) by
        rw [take_one hx, cco_app, cco_one, hp, if_neg (by simp)]; omega]
      rw [show ccs n l u (ts.take (i + 1)) = ccs n l u (ts.take i) by
        funext s
        rw [take_one hx, ccs_app, ccs_one, hp, if_neg (by simp)]; omega]
  · right
    have hi' : i = ts.length := by omega
    subst hi'
    rw [decide_eq_false (Int.lt_irrefl _), cond_false, List.take_length]
end Go.Proofs.YtldiackagnjlgaaGreat
