/- JointFree, on plain values. -/
import Derived.Test.YtlgbioidkbeanaaTj7
set_option linter.unusedVariables false
set_option linter.unusedSimpArgs false
namespace Go.Proofs.Ytlgbioidkbeanaa

/- the tubes of a choice -/
def tubS (l : List (List TJointOption)) : Nat → List Int → List (List TTubeNode)
  | _, [] => []
  | i, p :: c => ((l.getD i []).getD p.toNat ⟨0, []⟩).Tube :: tubS l (i + 1) c
theorem tubS_len (l : List (List TJointOption)) : ∀ (c : List Int) (i : Nat), (tubS l i c).length = c.length
  | [], _ => rfl
  | p :: c, i => by simp [tubS, tubS_len l c]
theorem tubS_get (l : List (List TJointOption)) : ∀ (c : List Int) (i j : Nat) (p : Int), c[j]? = some p → (tubS l i c)[j]? = some ((l.getD (i + j) []).getD p.toNat ⟨0, []⟩).Tube
  | [], _, _, _, h => by simp at h
  | q :: c, i, 0, p, h => by simp at h; subst h; rfl
  | q :: c, i, j + 1, p, h => by
    have := tubS_get l c (i + 1) j p (by simpa using h)
    rw [show i + (j + 1) = i + 1 + j by omega]
    simpa [tubS] using this
theorem tubS_snoc (l : List (List TJointOption)) : ∀ (c : List Int) (i : Nat) (p : Int), tubS l i (c ++ [p]) = tubS l i c ++ [((l.getD (i + c.length) []).getD p.toNat ⟨0, []⟩).Tube]
  | [], i, p => by simp [tubS]
  | q :: c, i, p => by
    rw [List.cons_append]
    simp only [tubS]
    rw [tubS_snoc l c (i + 1) p]
    rw [show i + (q :: c).length = i + 1 + c.length by simp; omega]
    rfl
theorem costS_snoc (l : List (List TJointOption)) : ∀ (c : List Int) (i : Nat) (p : Int), costS l i (c ++ [p]) = costS l i c + ((l.getD (i + c.length) []).getD p.toNat ⟨0, []⟩).Cost
  | [], i, p => by simp [costS]
  | q :: c, i, p => by
    rw [List.cons_append]
    simp only [costS]
    rw [costS_snoc l c (i + 1) p]
    rw [show i + (q :: c).length = i + 1 + c.length by simp; omega]
    omega
/- no clashes between tubes, none of a pair in conflict -/
theorem all_free {n : Nat} (hn : big n) {s : TSep} (hs : g36 n s = some 0) (L : List (List TTubeNode)) (hL : L.length ≤ 24) (hck : ∀ t ∈ L, g33 n t = some 0) (hsp : ∀ (i k : Nat) (x y : List TTubeNode), i < k → L[i]? = some x → L[k]? = some y → g38 n x y s = some []) : g19 n L s = some ([], 0) := by
  unfold g19
  rw [hs, Option.bind_some, show ((0 : Int) != 0) = false from rfl, cond_false, decide_eq_false (show ¬ (L.length : Int) > 24 by omega), cond_false, chk_all n s hs L (by omega) hn hck, Option.bind_some, show ((0 : Int) != 0) = false from rfl, cond_false]
  refine iterO_eq (fun y => ∃ i : Nat, i ≤ L.length ∧ y = ((i : Int), [])) ([], 0) (fun y => L.length - y.1.toNat) ?_ n _ ⟨0, Nat.zero_le _, rfl⟩ (by unfold big at hn; show L.length - (0 : Int).toNat < n; omega)
  rintro _ ⟨i, hi, rfl⟩
  simp only
  unfold S19_0
  rcases Nat.lt_or_ge i L.length with hlt | hge
  · left
    have hx : L[i]? = some L[i] := List.getElem?_eq_getElem hlt
    rw [decide_eq_true (show (i : Int) < (L.length : Int) by omega), cond_true, wS (by omega)]
    have inner : iterO (fun y : Int × List TClash => S19_0_0 n L (0) (i : Int) (L.length : Int) s.Lateral s.Vertical y.1 y.2) n (((i + 1 : Nat) : Int), []) = some (.inl (((i + 1 : Nat) : Int), [])) := by
      refine iterO_eq (fun y => ∃ k : Nat, i + 1 ≤ k ∧ k ≤ L.length ∧ y = ((k : Int), [])) _ (fun y => L.length - y.1.toNat) ?_ n _ ⟨i + 1, Nat.le_refl _, hlt, rfl⟩ (by unfold big at hn; simp only [Int.toNat_natCast]; omega)
      rintro _ ⟨k, hk0, hk, rfl⟩
      simp only
      unfold S19_0_0
      rcases Nat.lt_or_ge k L.length with hkl | hkg
      · left
        have hy : L[k]? = some L[k] := List.getElem?_eq_getElem hkl
        rw [decide_eq_true (show (k : Int) < (L.length : Int) by omega), cond_true, getI_at hx, getI_at hy]
        simp only [Option.bind_some]
        rw [show (⟨s.Lateral, s.Vertical⟩ : TSep) = s from rfl, hsp i k _ _ (by omega) hx hy, Option.bind_some]
        have e : iterO (fun y : Int × List TClash => S19_0_0_0 n L (0) (i : Int) (k : Int) (L.length : Int) ([] : List TSpan) ((([] : List TSpan).length : Nat) : Int) s.Lateral s.Vertical y.1 y.2) n ((0), []) = some (.inl (((k + 1 : Nat) : Int), [])) := by
          refine iterO_eq (fun y => y = (0, [])) _ (fun _ => 0) ?_ n _ rfl (by unfold big at hn; omega)
          rintro _ rfl
          right
          unfold S19_0_0_0
          simp only [List.length_nil]
          rw [decide_eq_false (by omega), cond_false, wS (by omega)]
        rw [e]
        exact ⟨_, rfl, ⟨k + 1, by omega, hkl, rfl⟩, by simp only [Int.toNat_natCast]; omega⟩
      · right
        obtain rfl : k = L.length := by omega
        rw [decide_eq_false (by omega), cond_false, wS (by omega)]
    rw [inner]
    exact ⟨_, rfl, ⟨i + 1, hlt, rfl⟩, by simp only [Int.toNat_natCast]; omega⟩
  · right
    obtain rfl : i = L.length := by omega
    rw [decide_eq_false (by omega), cond_false, decide_eq_false (by decide), cond_false]
    rfl
theorem choice_opt {n : Nat} {l : List (List TJointOption)} (h : JOk n l) {c : List Int} (hc : Cho l c) {j : Nat} {p : Int} (hp : c[j]? = some p) : ∃ o x, l[j]? = some o ∧ o[p.toNat]? = some x ∧ ((l.getD j []).getD p.toNat ⟨0, []⟩) = x ∧ OptOk n x ∧ 0 ≤ p ∧ p < (o.length : Int) := by
  obtain ⟨h1, h2⟩ := hc.2 j p hp
  have hj : j < l.length := Nat.lt_of_lt_of_le (List.getElem?_eq_some_iff.1 hp).1 hc.1
  obtain ⟨o, x, k1, k2, k3, k4⟩ := opt_at hj (show p.toNat < (l.getD j []).length by omega)
  have e : l.getD j [] = o := by simp [List.getD, k1]
  rw [e] at h2
  exact ⟨o, x, k1, k2, by rw [e]; simp [List.getD, k2], (h.each o k3).2.2 x k4, h1, h2⟩
theorem free_law (n : Nat) (hn : big n) (l : List (List TJointOption)) (s : TSep) (hl : l.length ≤ 9223372036854775807) (hln : l.length < n) (ho : ∀ o ∈ l, o.length ≤ 9223372036854775807 ∧ o.length < n) : g6 n l s = some true := by
  unfold g6
  rw [show g7 n = some true from rfl, Option.bind_some, Bool.not_true, cond_false]
  rcases few_cases n hn l hl hln ho with ⟨e, -⟩ | e
  case inr => rw [e]; rfl
  rw [e, Option.bind_some, Bool.not_true, cond_false]
  rcases jerr n hn l s with ⟨z, hz, h1, -⟩ | ⟨hs, hc, hj⟩
  · rw [h1, Option.bind_some, bne_iff_ne.2 hz]; rfl
  rcases best_val hn hj hc hs with ⟨hb, -⟩ | ⟨b, z, hb, hz, hlen, hcho, hcl, -, -⟩
  · rw [hb]; rfl
  rw [hb, Option.bind_some, show ((0 : Int) != 0) = false from rfl, cond_false]
  have hl6 := hj.len
  have hcb : ∀ i, i ≤ b.length → costS l 0 (b.take i) + costS l i (b.drop i) = costS l 0 b := by
    intro i
    induction i with
    | zero => simp [costS]
    | succ i ih =>
      intro hi
      have hp : b[i]? = some b[i] := List.getElem?_eq_getElem (by omega)
      have e1 : b.take (i + 1) = b.take i ++ [b[i]] := List.take_succ_eq_append_getElem (by omega)
      have e2 : b.drop i = b[i] :: b.drop (i + 1) := List.drop_eq_getElem_cons (by omega)
      have := ih (by omega)
      rw [e2] at this
      rw [e1, costS_snoc, ← this]
      have e3 : (b.take i).length = i := by simp; omega
      simp only [costS, e3, Nat.zero_add]
      omega
  have hcost := cho_cost hj hcho
  refine iterO_eq (fun y => ∃ i : Nat, i ≤ b.length ∧ y = (z - costS l 0 (b.take i), (i : Int), tubS l 0 (b.take i)) ∧ 0 ≤ costS l 0 (b.take i) ∧ costS l 0 (b.take i) ≤ (i : Int) * 1000000) true (fun y => b.length - y.2.1.toNat) ?_ n _ ⟨0, Nat.zero_le _, by simp [costS, tubS], by simp [costS], by simp [costS]⟩ (by unfold big at hn; show b.length - (0 : Int).toNat < n; omega)
  rintro _ ⟨i, hi, rfl, hc0, hc1⟩
  simp only
  unfold S6_0
  have hz6 : z ≤ 6000000 := by
    obtain ⟨-, -, e3⟩ := cost_ok hj b 0 0 (by omega) (fun j x hx => by rw [Nat.zero_add]; exact hcho.2 j x hx) (Int.le_refl _) (by omega)
    omega
  have hz0 : 0 ≤ z := by rw [hz]; exact hcost.2
  rcases Nat.lt_or_ge i b.length with hlt | hge
  · left
    have hp : b[i]? = some b[i] := List.getElem?_eq_getElem hlt
    obtain ⟨o, x, k1, k2, k3, k4, k5, k6⟩ := choice_opt hj hcho hp
    have hx : getI o b[i] = some x := by
      unfold getI
      rw [if_pos k5]; exact k2
    have e1 : b.take (i + 1) = b.take i ++ [b[i]] := List.take_succ_eq_append_getElem hlt
    have e3 : (b.take i).length = i := by simp; omega
    have et : tubS l 0 (b.take (i + 1)) = tubS l 0 (b.take i) ++ [x.Tube] := by rw [e1, tubS_snoc, e3, Nat.zero_add, k3]
    have ec : costS l 0 (b.take (i + 1)) = costS l 0 (b.take i) + x.Cost := by rw [e1, costS_snoc, e3, Nat.zero_add, k3]
    have hlo := k4.lo
    have hhi := k4.hi
    have htl : (tubS l 0 (b.take i)).length = i := by rw [tubS_len, e3]
    rw [decide_eq_true (show (i : Int) < (b.length : Int) by omega), cond_true, getI_at hp, Option.bind_some, decide_eq_false (show ¬ (i : Int) ≥ (l.length : Int) by omega), cond_false, decide_eq_false (show ¬ b[i] < 0 by omega), cond_false, getI_at k1, Option.bind_some, decide_eq_false (show ¬ b[i] ≥ (o.length : Int) by omega), cond_false]
    simp only [Option.bind_some, hx]
    rw [htl, show i + ([x.Tube] : List (List TTubeNode)).length = i + 1 from rfl, room_of (by omega) (by omega), Option.bind_some, wS (by omega)]
    have hw : IntKind.wrap .i64 (z - costS l 0 (b.take i) - x.Cost) = z - costS l 0 (b.take (i + 1)) := by
      rw [ec]
      rw [wrap64 (by omega) (by omega)]
      omega
    rw [hw]
    refine ⟨_, rfl, ⟨i + 1, hlt, by rw [et], by rw [ec]; omega, by rw [ec]; push_cast; omega⟩, by simp only [Int.toNat_natCast]; omega⟩
  · right
    obtain rfl : i = b.length := by omega
    rw [List.take_length] at hc0 hc1 ⊢
    have hall : g19 n (tubS l 0 b) s = some ([], 0) := by
      refine all_free hn hs _ (by rw [tubS_len]; omega) (fun t ht => ?_) (fun i k x y hik hx hy => ?_)
      · obtain ⟨j, hj2⟩ := List.getElem?_of_mem ht
        have hjl : j < b.length := by have := (List.getElem?_eq_some_iff.1 hj2).1; rwa [tubS_len] at this
        have hp : b[j]? = some b[j] := List.getElem?_eq_getElem hjl
        obtain ⟨o, x, k1, k2, k3, k4, -⟩ := choice_opt hj hcho hp
        have := tubS_get l b 0 j _ hp
        rw [Nat.zero_add, k3, hj2] at this
        cases this
        exact k4.chk
      · have hkl : k < b.length := by have := (List.getElem?_eq_some_iff.1 hy).1; rwa [tubS_len] at this
        have hp : b[i]? = some b[i] := List.getElem?_eq_getElem (by omega)
        have hq : b[k]? = some b[k] := List.getElem?_eq_getElem hkl
        obtain ⟨o, u, k1, k2, k3, k4, k5, k6⟩ := choice_opt hj hcho hp
        obtain ⟨o', u', k1', k2', k3', k4', k5', k6'⟩ := choice_opt hj hcho hq
        have h1 := tubS_get l b 0 i _ hp
        have h2 := tubS_get l b 0 k _ hq
        rw [Nat.zero_add, k3, hx] at h1
        rw [Nat.zero_add, k3', hy] at h2
        cases h1
        cases h2
        have hcc := hcl i k hik hkl
        rw [show b.getD i 0 = b[i] by simp [List.getD, hp], show b.getD k 0 = b[k] by simp [List.getD, hq]] at hcc
        have g1 : (l.getD i []).length = o.length := by simp [List.getD, k1]
        have g2 : (l.getD k []).length = o'.length := by simp [List.getD, k1']
        obtain ⟨a', b', x', y', m1, m2, m3, m4, m5⟩ := clear_spans hn hj hs (show i < l.length by omega) (show k < l.length by omega) (m := (b[i]).toNat) (q := (b[k]).toNat) (by omega) (by omega) hcc
        rw [k1] at m1
        rw [k1'] at m2
        cases m1
        cases m2
        rw [k2] at m3
        rw [k2'] at m4
        cases m3
        cases m4
        exact m5
    rw [decide_eq_false (by omega), cond_false, show (⟨s.Lateral, s.Vertical⟩ : TSep) = s from rfl, hall, Option.bind_some, show ((b.length : Int) == (l.length : Int)) = true by simp [hlen], cond_true, show (z - costS l 0 b == 0) = true by simp [hz]]
    rfl
theorem free_all (l : List (List TJointOption)) (s : TSep) (hl : l.length ≤ 9223372036854775807) (ho : ∀ o ∈ l, o.length ≤ 9223372036854775807) : g6 10000000000000000000 l s = some true :=
  free_law _ (by unfold big; decide) l s hl (by omega) (fun o h => ⟨ho o h, by have := ho o h; omega⟩)
end Go.Proofs.Ytlgbioidkbeanaa
