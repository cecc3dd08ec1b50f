/- How a sender reads as an argument. -/
import Derived.Test.YtckjibjnplnfeaaReads
import Derived.Test.YtckjibjnplnfeaaLink2
set_option linter.unusedVariables false
set_option linter.unusedSimpArgs false
namespace Go.Proofs.Ytckjibjnplnfeaa
open Go.RowKit Go.ChangeShapes Go.WideShapes Go.ChangeAt
attribute [local go_sem ↓] Go.wp_at_zero Go.wp_at_succ

theorem reads_sender {W : World} {cs : List Value} (h : Reads W (.pair .int (.pair (.sl .str) .unit)) cs) : ∃ (b : Int) (a : Option Addr) (c : Nat) (ws : List ByteArray), cs = [.int .i64 b, .slice a ws.length c] ∧ strE.Slc W a c ws ∧ StrsOk ws := by
  unfold Reads at h
  obtain ⟨xs, ys, rfl, ⟨b, rfl, -⟩, h2⟩ := h
  unfold Reads at h2
  obtain ⟨x2, y2, rfl, h3, rfl⟩ := h2
  have h3' := h3
  unfold Reads at h3'
  obtain ⟨a, n, c, rfl, -⟩ := h3'
  obtain ⟨g1, g2, g3, X, hr, hc⟩ := reads_slice (α := ByteArray) (fun x => [.string x]) (by decide) (fun es h => by unfold Reads at h; obtain ⟨x, hx, _⟩ := h; exact ⟨x, hx⟩) h3
  refine ⟨b, a, c, (List.range n).map X, by simp, ⟨by simpa using g1, g2, g3, fun hn => ?_⟩, fun t ht => ?_⟩
  · simp at hn
    obtain ⟨bb, off, ha, hb, hcell⟩ := hc hn
    subst ha
    refine (Enc.At.of_cells (E := strE) hb fun i hi j hj => ?_) (by simpa using hn)
    simp at hi
    have hj0 : j = 0 := by simp [strE] at hj; omega
    subst hj0
    have := hcell i hi 0 (by decide)
    rw [show el ((List.range n).map X) i = X i from el_of (by rw [List.getElem?_map, List.getElem?_range hi]; rfl)]
    simpa [strE, Sh.size] using this
  · obtain ⟨i, hi, rfl⟩ := List.mem_map.1 ht
    have h5 := hr i (List.mem_range.1 hi)
    unfold Reads at h5
    obtain ⟨s, hs, hz⟩ := h5
    simp at hs
    rw [hs]; exact hz
theorem agg_of {v : Value} {cs : Array Value} {l : List Value} (hv : v = .agg cs) (h : v.cells.toList = l) : v = .agg l.toArray := by
  subst hv; simp [Value.cells] at h; rw [← h]

end Go.Proofs.Ytckjibjnplnfeaa
