/- Two clearances have the same text exactly if nothing differs: the law as a plain program answers true. -/
import Derived.Test.YtnechdhngpajbaaDoorPh3
set_option linter.unusedVariables false
set_option linter.unusedSimpArgs false
namespace Go.Proofs.YtnechdhngpajbaaDoor
def bitsN (d0 d1 d2 d3 : Bool) : Int := (if d0 then 1 else 0) + (if d1 then 2 else 0) + (if d2 then 4 else 0) + (if d3 then 8 else 0)
theorem bits_loop (d0 d1 d2 d3 : Bool) : iterO (fun y : Int × Int => S20_1 101 0 [⟨d0, 1⟩, ⟨d1, 2⟩, ⟨d2, 4⟩, ⟨d3, 8⟩] 4 y.1 y.2) 101 (0, 0) = some (bitsN d0 d1 d2 d3, 0) := by
  cases d0 <;> cases d1 <;> cases d2 <;> cases d3 <;> rfl
def diffC (a b : TClearance) : Int := bitsN (!decide (a.Call = b.Call)) (a.Kind != b.Kind) (a.Value != b.Value) (!decide (a.Fix = b.Fix))
theorem compare_cases (a b : TClearance) : (∃ z, z ≠ 0 ∧ g20 101 a b = some (0, z)) ∨ (g32 101 a = some 0 ∧ Sayable a ∧ g32 101 b = some 0 ∧ Sayable b ∧ g20 101 a b = some (diffC a b, 0)) := by
  unfold g20
  obtain ⟨r, h1, h2⟩ := iter_each (S := fun y : Int => S20_0 101 0 [a, b] (([a, b] : List TClearance).length : Int) a.Call a.Kind a.Value a.Fix b.Call b.Kind b.Value b.Fix y) [a, b] (fun _ x => g32 101 x = some 0 ∧ Sayable x) (fun r => ∃ z, z ≠ 0 ∧ r = (0, z)) (diffC a b, 0) (fun i x hx => by
    have hlt := some_lt hx
    have hl2 : ([a, b] : List TClearance).length = 2 := rfl
    unfold S20_0
    simp only [decide_eq_true (show (i : Int) < (([a, b] : List TClearance).length : Int) by omega), cond_true, getI_at hx, Option.bind_some, wS (show i < 9223372036854775807 by omega)]
    rcases check_cases 101 (by decide) x with ⟨z, hz, h⟩ | ⟨h, hs⟩
    · rw [h]
      simp only [Option.bind_some, bne_iff_ne.2 hz, cond_true]
      exact .inr ⟨(0, z), rfl, z, hz, rfl⟩
    · rw [h]
      simp only [Option.bind_some, bne_self_eq_false, cond_false]
      exact .inl ⟨trivial, trivial, hs⟩) (by
    unfold S20_0
    simp only [decide_eq_false (show ¬ ((([a, b] : List TClearance).length : Int) < (([a, b] : List TClearance).length : Int)) by omega), cond_false, beqL]
    have := bits_loop (!decide (a.Call = b.Call)) (a.Kind != b.Kind) (a.Value != b.Value) (!decide (a.Fix = b.Fix))
    have e := congrArg (Option.map (Sum.inr (α := Int))) this
    exact e) 101 (by show 2 < 101; decide)
  rw [h1]
  rcases h2 with ⟨z, hz, rfl⟩ | ⟨rfl, h2⟩
  · exact .inl ⟨z, hz, rfl⟩
  · obtain ⟨a1, a2⟩ := h2 0 a rfl
    obtain ⟨b1, b2⟩ := h2 1 b rfl
    exact .inr ⟨a1, a2, b1, b2, rfl⟩
theorem bits_facts (d0 d1 d2 d3 : Bool) : 0 ≤ bitsN d0 d1 d2 d3 ∧ bitsN d0 d1 d2 d3 < 16 ∧ (bitsN d0 d1 d2 d3 = 0 ↔ d0 = false ∧ d1 = false ∧ d2 = false ∧ d3 = false) := by
  cases d0 <;> cases d1 <;> cases d2 <;> cases d3 <;> decide
theorem diff_zero (a b : TClearance) : diffC a b = 0 ↔ a = b := by
  unfold diffC
  rw [(bits_facts _ _ _ _).2.2]
  obtain ⟨a1, a2, a3, a4⟩ := a
  obtain ⟨b1, b2, b3, b4⟩ := b
  simp
theorem diff_symm (a b : TClearance) : diffC b a = diffC a b := by
  unfold diffC
  have e : ∀ x y : ByteArray, decide (x = y) = decide (y = x) := fun x y => by rw [Bool.eq_iff_iff, decide_eq_true_iff, decide_eq_true_iff]; exact eq_comm
  have f : ∀ x y : Int, (x != y) = (y != x) := fun x y => by rw [bne_comm]
  rw [e b.Call, e b.Fix, f b.Kind, f b.Value]
theorem print_inj {a b : TClearance} (ha : Sayable a) (hb : Sayable b) (h : printOf a = printOf b) : a = b := by
  have h1 := (print_sp ha).1
  rw [h, (print_sp hb).1] at h1
  simp only [List.cons.injEq, and_true] at h1
  obtain ⟨e1, e2, e3⟩ := h1
  have e1 := bytes_eq e1
  have e2 := bytes_eq e2
  have e3 := bytes_eq e3
  have hk : b.Kind = a.Kind := by rw [← word_kind ha, ← word_kind hb, e2]
  have r1 := read_said ha
  have r2 := read_said hb
  rw [← e1, ← e2, ← e3, r2] at r1
  exact (congrArg Prod.fst r1).symm
theorem texts_law (a b : TClearance) : g7 101 a b = some true := by
  unfold g7 g8
  rw [phrase_fact]
  simp only [Option.bind_some, Bool.not_true, cond_false]
  rcases compare_cases a b with ⟨z, hz, h⟩ | ⟨ca, ha, cb, hb, h⟩
  · rw [h]
    simp only [Option.bind_some, bne_iff_ne.2 hz, cond_true]
    simp
  · rw [h]
    have h2 : g20 101 b a = some (diffC b a, 0) := by
      rcases compare_cases b a with ⟨z, hz, h'⟩ | ⟨-, -, -, -, h'⟩
      · exfalso
        unfold g20 at h'
        obtain ⟨r, h1, h2⟩ := iter_each (S := fun y : Int => S20_0 101 0 [b, a] (([b, a] : List TClearance).length : Int) b.Call b.Kind b.Value b.Fix a.Call a.Kind a.Value a.Fix y) [b, a] (fun _ x => True) (fun r => False) (diffC b a, 0) (fun i x hx => by
          have hlt := some_lt hx
          have hl2 : ([b, a] : List TClearance).length = 2 := rfl
          have hc : g32 101 x = some 0 := by
            have hm := List.mem_of_getElem? hx
            simp only [List.mem_cons, List.not_mem_nil, or_false] at hm
            rcases hm with rfl | rfl
            · exact cb
            · exact ca
          unfold S20_0
          simp only [decide_eq_true (show (i : Int) < (([b, a] : List TClearance).length : Int) by omega), cond_true, getI_at hx, Option.bind_some, wS (show i < 9223372036854775807 by omega), hc, bne_self_eq_false, cond_false]
          exact .inl ⟨trivial, trivial⟩) (by
          unfold S20_0
          simp only [decide_eq_false (show ¬ ((([b, a] : List TClearance).length : Int) < (([b, a] : List TClearance).length : Int)) by omega), cond_false, beqL]
          exact congrArg (Option.map (Sum.inr (α := Int))) (bits_loop (!decide (b.Call = a.Call)) (b.Kind != a.Kind) (b.Value != a.Value) (!decide (b.Fix = a.Fix)))) 101 (by show 2 < 101; decide)
        rw [h1] at h'
        rcases h2 with h2 | ⟨rfl, -⟩
        · exact h2
        · simp only [Option.some.injEq, Prod.mk.injEq] at h'
          exact hz h'.2.symm
      · exact h'
    rw [h2, diff_symm a b]
    have pa : g17 101 a = some (printOf a, 0) := by
      rcases print_cases 101 (by decide) a with ⟨z, hz, hc, -⟩ | ⟨-, -, h1, -⟩
      · rw [ca] at hc; cases hc; exact absurd rfl hz
      · exact h1
    have pb : g17 101 b = some (printOf b, 0) := by
      rcases print_cases 101 (by decide) b with ⟨z, hz, hc, -⟩ | ⟨-, -, h1, -⟩
      · rw [cb] at hc; cases hc; exact absurd rfl hz
      · exact h1
    rw [pa, pb]
    obtain ⟨f1, f2, -⟩ := bits_facts (!decide (a.Call = b.Call)) (a.Kind != b.Kind) (a.Value != b.Value) (!decide (a.Fix = b.Fix))
    have f1 : 0 ≤ diffC a b := f1
    have f2 : diffC a b < 16 := f2
    have key : (decide (printOf a = printOf b) == (diffC a b == 0)) = true := by
      rw [beq_iff_eq, Bool.eq_iff_iff, decide_eq_true_iff, beq_iff_eq, diff_zero]
      exact ⟨print_inj ha hb, fun e => by rw [e]⟩
    simp only [Option.bind_some, bne_self_eq_false, cond_false, beq_self_eq_true, cond_true, beqL, key, decide_eq_true f1, decide_eq_true f2, ge_iff_le]
end Go.Proofs.YtnechdhngpajbaaDoor
