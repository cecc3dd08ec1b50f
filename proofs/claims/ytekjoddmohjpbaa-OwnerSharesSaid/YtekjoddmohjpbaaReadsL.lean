/- How a slice reads as an argument: as a list of elements. -/
import Derived.Test.YtekjoddmohjpbaaReads
import Derived.Test.YtekjoddmohjpbaaGen
set_option linter.unusedVariables false
set_option linter.unusedSimpArgs false
namespace Go.Proofs.Ytekjoddmohjpbaa
open Go.RowKit Go.ChangeShapes Go.WideShapes Go.ChangeAt

theorem reads_list {W : World} {α : Type} [Inhabited α] (E : Enc α) (e : Sh) (P : α → Prop) (hsz : e.size = E.size) {a : Option Addr} {n c : Nat} (hq : ∀ es, Reads W e es → ∃ x, es = E.enc x ∧ P x) (h : Reads W (.sl e) [.slice a n c]) :
    ∃ l : List α, n = l.length ∧ E.Slc W a c l ∧ ∀ x ∈ l, P x := by
  unfold Reads at h
  obtain ⟨a', n', c', he, h1, h2, h3, h4⟩ := h
  simp only [List.cons.injEq, Value.slice.injEq, and_true] at he
  obtain ⟨rfl, rfl, rfl⟩ := he
  have hp := E.pos
  rcases Nat.eq_zero_or_pos n with h0 | h0
  · subst h0
    exact ⟨[], rfl, ⟨Nat.zero_le _, h2, h3, Enc.At.nil _ _⟩, fun x hx => by simp at hx⟩
  · obtain ⟨b, off, rfl, hb, hi⟩ := h4 h0 (by omega)
    have : ∀ i, i < n → ∃ x : α, P x ∧ ∀ j, j < E.size → W.cell? ⟨b, off + (i * E.size + j), none⟩ = (E.enc x)[j]? := by
      intro i hin
      obtain ⟨es, -, hc, hr⟩ := hi i hin
      obtain ⟨x, rfl, hx⟩ := hq es hr
      exact ⟨x, hx, fun j hj => by rw [← hsz]; exact hc j (by omega)⟩
    obtain ⟨X, hX⟩ := Deep.choose_lt this
    have hel : ∀ i, i < n → el ((List.range n).map X) i = X i := fun i hin => el_of (by rw [List.getElem?_map, List.getElem?_range hin]; rfl)
    refine ⟨(List.range n).map X, by simp, ⟨by simpa using h1, h2, h3, Enc.At.of_cells (E := E) hb fun i hin j hj => ?_⟩, fun x hx => ?_⟩
    · simp at hin
      rw [hel i hin]; exact (hX i hin).2 j hj
    · obtain ⟨i, hin, rfl⟩ := List.mem_map.1 hx
      exact (hX i (List.mem_range.1 hin)).1
theorem reads_strs {W : World} {a : Option Addr} {n c : Nat} (h : Reads W (.sl .str) [.slice a n c]) : ∃ l : List ByteArray, n = l.length ∧ strE.Slc W a c l ∧ ∀ t ∈ l, t.size ≤ maxLen :=
  reads_list strE .str (fun t => t.size ≤ maxLen) rfl (fun es h => by unfold Reads at h; obtain ⟨s, hs, hz⟩ := h; exact ⟨s, hs, hz⟩) h
theorem reads_intl {W : World} {a : Option Addr} {n c : Nat} (h : Reads W (.sl .int) [.slice a n c]) : ∃ l : List Int, n = l.length ∧ intE.Slc W a c l ∧ ∀ t ∈ l, -9223372036854775808 ≤ t ∧ t ≤ 9223372036854775807 :=
  reads_list intE .int (fun t => -9223372036854775808 ≤ t ∧ t ≤ 9223372036854775807) rfl (fun es h => by unfold Reads at h; obtain ⟨s, hs, hz⟩ := h; exact ⟨s, hs, hz⟩) h
theorem agg_of {v : Value} {cs : Array Value} {l : List Value} (hv : v = .agg cs) (h : v.cells.toList = l) : v = .agg l.toArray := by
  subst hv; simp [Value.cells] at h; rw [← h]

end Go.Proofs.Ytekjoddmohjpbaa
