/- How the arguments of this seat's laws read: a table of 16 integers by value; a slice of integers. -/
import Derived.Test.YtfmodgffhbljoaaBase
import Derived.ProofKit
import Derived.OpenShut
import Derived.SizedLaws
import Derived.Deep.Slices
namespace Go.Proofs.Ytfmodgffhbljoaa
open Go.RowKit Go.ChangeShapes Go.WideShapes Go.ChangeAt

theorem okWide_cell_int {P : Program} {W : World} {r : Reach} {base : Nat} {t : TypeId} {v : Value} (ht : P.underlying t = some (.int .i64)) (h : Cell.okWide P W r base t v) : ∃ n, v = .int .i64 n ∧ IntKind.i64.has n := by
  unfold Cell.okWide at h
  rw [ht] at h
  simp only at h
  unfold Cell.ok at h
  rw [ht] at h
  cases v <;> simp at h
  exact ⟨_, by rw [h.1], h.2⟩

theorem open_tab {P : Program} {W : World} {r : Reach} {base : Nat} {t e u : TypeId} {v : Value} (ht : P.underlying t = some (.array 4 e)) (hc : P.cellsOf t = 16) (hct : P.cellTypes P.depth t = some (List.replicate 16 u)) (hu : P.underlying u = some (.int .i64))
    (o : Value.okWide P W r base t v) : ∃ x : Nat → Int, v = .agg #[.int .i64 (x 0), .int .i64 (x 1), .int .i64 (x 2), .int .i64 (x 3), .int .i64 (x 4), .int .i64 (x 5), .int .i64 (x 6), .int .i64 (x 7), .int .i64 (x 8), .int .i64 (x 9), .int .i64 (x 10), .int .i64 (x 11), .int .i64 (x 12), .int .i64 (x 13), .int .i64 (x 14), .int .i64 (x 15)] := by
  unfold Value.okWide at o
  rw [ht] at o
  obtain ⟨cs, rfl, hs, ts, hts, -, hcell⟩ := o
  rw [hc] at hs
  rw [hct] at hts
  obtain rfl := Option.some.inj hts
  have key : ∀ k, k < 16 → ∃ n, cs[k]? = some (.int .i64 n) := by
    intro k hk
    have hv : cs[k]? = some (cs[k]'(by omega)) := Array.getElem?_eq_getElem (by omega)
    obtain ⟨u', hu', hok⟩ := hcell k _ hv
    rw [List.length_replicate, Nat.mod_eq_of_lt hk, List.getElem?_replicate, if_pos hk] at hu'
    obtain rfl := Option.some.inj hu'
    obtain ⟨n, hn, -⟩ := okWide_cell_int hu hok
    exact ⟨n, by rw [hv, hn]⟩
  refine ⟨fun k => intOf (cs[k]?.getD (.int .i64 0)), ?_⟩
  congr 1
  apply Array.ext_getElem?
  intro k
  rcases Nat.lt_or_ge k 16 with hk | hk
  · obtain ⟨n, hn⟩ := key k hk
    have : (fun k => intOf (cs[k]?.getD (.int .i64 0))) k = n := by simp [hn, intOf]
    rw [hn]
    rcases (by omega : k = 0 ∨ k = 1 ∨ k = 2 ∨ k = 3 ∨ k = 4 ∨ k = 5 ∨ k = 6 ∨ k = 7 ∨ k = 8 ∨ k = 9 ∨ k = 10 ∨ k = 11 ∨ k = 12 ∨ k = 13 ∨ k = 14 ∨ k = 15) with rfl | rfl | rfl | rfl | rfl | rfl | rfl | rfl | rfl | rfl | rfl | rfl | rfl | rfl | rfl | rfl
    all_goals (simp [hn, intOf])
  · rw [Array.getElem?_eq_none (by omega), Array.getElem?_eq_none (by simpa using hk)]

theorem open_introw {H : Type} {enc : TypeId × Value → H} {P : Program} {W : World} {t e : TypeId} {sp : Nat → Bool} {held : Bool} {a : Option Addr} {n c : Nat} {d : DataW H} {p : List MemPlace} (ht : P.underlying t = some (.slice e)) (he : P.underlying e = some (.int .i64)) (hc : P.cellsOf e = 1)
    (h : DataW.Trod enc P W 0 sp held t (.slice a n c) d p) : ∃ z : Nat → Int, n ≤ c ∧ c ≤ maxLen ∧ IntsAt W a n z ∧ (a = none → n = 0) ∧ (∀ k, k < n → (Lit.int .i64 (z k)).wf = true) := by
  obtain ⟨fuel, hf⟩ := h
  rcases open_ints ht he hc hf with ⟨hcs, _⟩ | ⟨x, l, c', zs, hcs, _, hl, hm, hz, _, hcell, hwz⟩
  · simp [Value.cells] at hcs
    obtain ⟨rfl, rfl, rfl⟩ := hcs
    exact ⟨fun _ => 0, by simp, by simp, fun h => absurd h (by omega), fun _ => rfl, fun k hk => absurd hk (by omega)⟩
  · simp [Value.cells] at hcs
    obtain ⟨rfl, rfl, rfl⟩ := hcs
    have hzl : n ≤ zs.length := by rw [hz]; split <;> omega
    refine ⟨fun k => zs.getD k 0, hl, hm, fun hn => ?_, fun h => by simp at h, fun k hk => ?_⟩
    · have h0 := hcell 0 (by omega)
      have hsp := World.cell?_spot h0
      obtain ⟨b, off, s⟩ := x
      have hspot : s = none := by simpa [Addr.add] using hsp
      subst hspot
      refine ⟨b, off, rfl, ?_, fun k hk => ?_⟩
      · have := World.block_lt_of_cell? W _ h0
        simpa [Addr.add] using this
      · have := hcell k (by omega)
        rw [addr_add] at this
        exact this
    · have hk2 : k < zs.length := by omega
      have := hwz (zs.getD k 0) (by rw [List.getD_eq_getElem?_getD, List.getElem?_eq_getElem hk2]; simp)
      exact this

theorem slice_room {H : Type} {enc : TypeId × Value → H} {P : Program} {W : World} {ts : List TypeId} {ds : List (DataW H)} {j : Nat} {t e : TypeId} {held : Bool} {a : Option Addr} {n c : Nat} {d : DataW H} {p : List MemPlace}
    (hsz : (DataW.weightsEach P ts ds).all (· ≤ reachBytes) = true) (ht : ts[j]? = some t) (hd : ds[j]? = some d) (hu : P.underlying t = some (.slice e)) (h : DataW.Trod enc P W 0 (fun _ => true) held t (.slice a n c) d p) : n ≤ c ∧ c * P.bytesOf e ≤ reachBytes := by
  obtain ⟨fuel, hf⟩ := h
  rcases Deep.open_slice hu hf with ⟨hcs, _⟩ | ⟨x, l, c', m, k, D, Pl, hcs, _, hl, _, hm, hx, _⟩
  · simp [Value.cells] at hcs
    obtain ⟨rfl, rfl, rfl⟩ := hcs
    simp
  · simp [Value.cells] at hcs
    obtain ⟨rfl, rfl, rfl⟩ := hcs
    simp only [if_true] at hm
    simp only [Prod.mk.injEq] at hx
    obtain ⟨rfl, -⟩ := hx
    have := sized_slice hsz ht hd hu
    simp only [List.length_map, List.length_range] at this
    rw [show n + (m - n) = c by omega] at this
    exact ⟨hl, this⟩

end Go.Proofs.Ytfmodgffhbljoaa
