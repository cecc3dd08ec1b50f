/- Texts of clearances: the laws PhraseBacks, PhraseReads, ReadbackTexts as plain programs answer true. -/
import Derived.Test.YtnechdhngpajbaaDoorPh2
set_option linter.unusedVariables false
set_option linter.unusedSimpArgs false
namespace Go.Proofs.YtnechdhngpajbaaDoor
theorem phrase_fact : g16 101 = some true := by decide +kernel
theorem backs_law (c : TClearance) : g5 101 c = some true := by
  unfold g5
  rw [phrase_fact]
  simp only [Option.bind_some, Bool.not_true, cond_false]
  rcases print_cases 101 (by decide) c with ⟨z, hz, -, h1, h2⟩ | ⟨hs, hc, h1, h2⟩
  · rw [h1, h2]
    simp only [Option.bind_some, bne_iff_ne.2 hz, cond_true]
    simp
  · rw [h1, h2]
    simp only [Option.bind_some, bne_self_eq_false, cond_false, parse_print 101 (by decide) hs hc, parse_back 101 (by decide) hs hc]
    simp
theorem said_of_read {x y z : ByteArray} (h : (readOf x y z).2 = true) : x = (readOf x y z).1.Call ∧ (Sayable (readOf x y z).1 → y = wordOf (readOf x y z).1 ∧ z = restOf (readOf x y z).1) := by
  unfold readOf at h ⊢
  by_cases h1 : kindB y < 0
  · rw [if_pos h1] at h; cases h
  rw [if_neg h1] at h ⊢
  have hy := (kind_at (s := y) (by omega)).1
  by_cases h2 : 2 < kindB y
  · rw [if_pos h2]
    refine ⟨rfl, fun _ => ⟨?_, ?_⟩⟩
    · unfold wordOf; rw [hy]; rfl
    · unfold restOf; rw [if_pos h2]
  · rw [if_neg h2] at h ⊢
    cases ha : Lib.atoiAll z.data.toList with
    | ok v =>
      rw [ha] at h
      have hz := of_decide_eq_true h
      refine ⟨rfl, fun _ => ⟨?_, ?_⟩⟩
      · unfold wordOf; rw [hy]; rfl
      · unfold restOf; rw [if_neg h2, hz]
    | «syntax» => rw [ha] at h; cases h
    | range => rw [ha] at h; cases h
theorem bytes_eq {a b : ByteArray} (h : a.data.toList = b.data.toList) : a = b := by rw [← back_arr a, h, back_arr]
theorem join3 {s : ByteArray} {x y z : List UInt8} (h : sp s.data.toList = [x, y, z]) : s.data.toList = x ++ 32 :: (y ++ 32 :: z) := by
  have := join_sp s.data.toList
  rw [h] at this
  exact this.symm
theorem reads_law (s : ByteArray) : g6 101 s = some true := by
  unfold g6
  rw [phrase_fact]
  simp only [Option.bind_some, Bool.not_true, cond_false]
  rcases parse_cases 101 (by decide) s with ⟨z, hz, h⟩ | ⟨x, y, z, hsz, hsp, hok, hs, hck, h⟩
  · rw [h]
    simp only [Option.bind_some, bne_iff_ne.2 hz, cond_true]
    simp
  · rw [h]
    simp only [Option.bind_some, bne_self_eq_false, cond_false]
    have hj := join3 hsp
    have key : (parseOf ⟨x.toArray⟩ ⟨y.toArray⟩ ⟨z.toArray⟩).2.1 = false ∧ s = printOf (parseOf ⟨x.toArray⟩ ⟨y.toArray⟩ ⟨z.toArray⟩).1 ∨ (parseOf ⟨x.toArray⟩ ⟨y.toArray⟩ ⟨z.toArray⟩).2.1 = true ∧ s = backOf (parseOf ⟨x.toArray⟩ ⟨y.toArray⟩ ⟨z.toArray⟩).1 := by
      clear h hck
      unfold parseOf at hok hs ⊢
      cases hr : (readOf ⟨x.toArray⟩ ⟨y.toArray⟩ ⟨z.toArray⟩).2 with
      | true =>
        simp only [hr, if_true] at hs ⊢
        obtain ⟨h1, h2⟩ := said_of_read hr
        obtain ⟨h2, h3⟩ := h2 hs
        left
        refine ⟨by first | trivial | rfl, bytes_eq ?_⟩
        rw [hj]
        unfold printOf
        rw [← h1, ← h2, ← h3]
        simp only [data_app, List.append_assoc]
        rfl
      | false =>
        simp only [hr, Bool.false_eq_true, if_false] at hs hok ⊢
        obtain ⟨h1, h2⟩ := said_of_read hok
        obtain ⟨h2, h3⟩ := h2 hs
        right
        refine ⟨by first | trivial | rfl, bytes_eq ?_⟩
        rw [hj]
        unfold backOf
        rw [← h1, ← h2, ← h3]
        simp only [data_app, List.append_assoc]
        rfl
    generalize parseOf ⟨x.toArray⟩ ⟨y.toArray⟩ ⟨z.toArray⟩ = p at *
    rcases print_cases 101 (by decide) p.1 with ⟨q, hq, hc, -, -⟩ | ⟨-, hc, h1, h2⟩
    · rw [hc] at hck; cases hck; exact absurd rfl hq
    · rcases key with ⟨k1, k2⟩ | ⟨k1, k2⟩
      · rw [h1, k1]
        simp only [Option.bind_some, cond_false, beq_self_eq_true, cond_true, ← k2]
      · rw [h1, h2, k1]
        simp only [Option.bind_some, cond_true, beq_self_eq_true, ← k2]
end Go.Proofs.YtnechdhngpajbaaDoor
