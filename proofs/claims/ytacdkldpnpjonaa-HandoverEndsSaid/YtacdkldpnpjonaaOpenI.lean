/- How the arguments of this seat's laws read: a slice of integers. -/
import Derived.Test.YtacdkldpnpjonaaBase
import Derived.ProofKit
import Derived.OpenShut
import Derived.SizedLaws
set_option linter.unusedVariables false
set_option linter.unusedSimpArgs false
namespace Go.Proofs.Ytacdkldpnpjonaa
open Go.RowKit Go.ChangeShapes Go.WideShapes Go.ChangeAt

theorem open_introw {H : Type} {enc : TypeId × Value → H} {P : Program} {W : World} {t e : TypeId} {sp : Nat → Bool} {held : Bool} {a : Option Addr} {n c : Nat} {d : DataW H} {p : List MemPlace} (ht : P.underlying t = some (.slice e)) (he : P.underlying e = some (.int .i64)) (hc : P.cellsOf e = 1)
    (h : DataW.Trod enc P W 0 sp held t (.slice a n c) d p) : ∃ z : Nat → Int, n ≤ c ∧ c ≤ maxLen ∧ IntsAt W a n z ∧ (a = none → n = 0) ∧ (∀ k, k < n → (Lit.int .i64 (z k)).wf = true) := by
  obtain ⟨fuel, hf⟩ := h
  rcases open_ints ht he hc hf with ⟨hcs, _⟩ | ⟨x, l, c', zs, hcs, _, hl, hm, hz, _, hcell, hwz⟩
  · simp [Value.cells] at hcs
    obtain ⟨rfl, rfl, rfl⟩ := hcs
    exact ⟨fun _ => 0, by simp, by simp, fun h => absurd h (by omega), fun _ => rfl, fun k hk => absurd hk (by omega)⟩
  · simp [Value.cells] at hcs
    obtain ⟨rfl, rfl, rfl⟩ := hcs
    have hzl : n ≤ zs.length := by rw [hz]; split <;> omega
    refine ⟨fun k => zs.getD k 0, hl, hm, fun hn => ?_, fun h => by simp at h, fun k hk => ?_⟩
    · have h0 := hcell 0 (by omega)
      have hsp := World.cell?_spot h0
      obtain ⟨b, off, s⟩ := x
      have hspot : s = none := by simpa [Addr.add] using hsp
      subst hspot
      refine ⟨b, off, rfl, ?_, fun k hk => ?_⟩
      · have := World.block_lt_of_cell? W _ h0
        simpa [Addr.add] using this
      · have := hcell k (by omega)
        rw [addr_add] at this
        exact this
    · have hk2 : k < zs.length := by omega
      have := hwz (zs.getD k 0) (by rw [List.getD_eq_getElem?_getD, List.getElem?_eq_getElem hk2]; simp)
      exact this

end Go.Proofs.Ytacdkldpnpjonaa
