/- config.copied, walked. -/
import Derived.Test.YthjcdlbkdobmiaaCp
set_option linter.unusedVariables false
set_option linter.unusedSimpArgs false
namespace Go.Proofs.Ythjcdlbkdobmiaa
open Go.RowKit Go.Shelf

set_option maxRecDepth 100000 in
set_option maxHeartbeats 4000000 in
theorem copied_calls {w : World} {l : List TConfigGroup} {v : Value} (hr : VRel (cxA (fun _ => False) w) (lstA TConfigGroup.E l) v) (hl : l ≠ []) (hl2 : l.length ≤ 1000) (hs : ∀ x ∈ l, x.Sectors.length ≤ 1000) :
    Calls Try.prog 20 #[v] w fun e w' => ∃ gb cap ps base, e = .returned (.slice (some ⟨gb, 0, none⟩) l.length cap) ∧ Kept w w' ∧ w.heap.size ≤ gb ∧ w'.ownsRow w.heap.size 40 2 (.slice (some ⟨gb, 0, none⟩) l.length cap) l.length (cellsG ps) ∧ Cps w w' base gb l.length l ps ∧ base ≤ w'.heap.size := by
  have hlen : 0 < l.length := List.length_pos_iff.2 hl
  have hcC := callsIn_wide.1 (cloneGrp (rel_up hr (lstA_clean _ _)) (by omega) (by omega) 0)
  have HS := Lib.hid hs
  obtain ⟨la, lc, rfl⟩ := slice_lenE hr
  clear hr hs
  generalize hL : l.length = L at *
  go_enter Try.func20, Try.ntmps20
  go_wp2_with fail
  refine hcC.mono ?_
  rintro e w1 ⟨v1, cs, rfl, hk1, hown1, hrel1⟩
  clear hcC
  obtain ⟨gb, cap, rfl, hg1, hg2⟩ : ∃ gb cap, v1 = .slice (some ⟨gb, 0, none⟩) L cap ∧ w.heap.size ≤ gb ∧ gb < w1.heap.size := by
    rcases hown1.2 with ⟨q1, q2⟩ | ⟨g, cap, cur, q1, q2, q3, q4⟩
    · omega
    · exact ⟨g, cap, q1, q2, heap_lt q3⟩
  obtain ⟨ps0, rfl, hc0⟩ := cps_start (w0 := w) (W := w1) (base := w1.heap.size) hg2 hrel1
  have HO := Lib.hid hown1
  have HC := Lib.hid hc0
  clear hown1 hc0 hrel1
  go_wp2_with fail
  go_loopw [4, 9] (fun u i wr => ∃ (j : Nat) (ps : List (ByteArray × Value)), j ≤ L ∧ i = .int .i64 j ∧ Kept w wr ∧ w1.heap.size ≤ wr.heap.size ∧ Hid (wr.ownsRow w.heap.size 40 2 (.slice (some ⟨gb, 0, none⟩) L cap) L (cellsG ps)) ∧ Hid (Cps w wr w1.heap.size gb j l ps)) (fun _ i => fun _ => L - (intOf i).toNat)
  case atStart => exact ⟨0, ps0, Nat.zero_le _, rfl, hk1, Nat.le_refl _, HO, HC⟩
  case round =>
    obtain ⟨j, ps, hj, rfl, hkr, hsz, ho, hc⟩ := hrel
    by_cases hlt : j < L
    · have hx : l[j]? = some l[j] := List.getElem?_eq_getElem (by omega)
      generalize l[j] = x at hx
      obtain ⟨q, hq⟩ : ∃ q, ps[j]? = some q := ⟨_, List.getElem?_eq_getElem (by rw [hc.out.len]; omega)⟩
      have hxs := HS.out x (List.mem_of_getElem? hx)
      have hold := hc.out.old j x q hx hq (Nat.le_refl _)
      obtain ⟨qp, qv⟩ := q
      obtain ⟨ra, rc, rfl⟩ := slice_lenE hold
      have hcT := callsIn_wide.1 (cloneTxt ((hkr.kno _).rel hold (lstA_clean _ _)) (by omega) (by omega) 0)
      have hcell : wr.cell? ⟨gb, j * 2 + 1, none⟩ = some (.slice ra x.Sectors.length rc) := by
        rw [Nat.mul_comm, ho.out.cellAt (2 * j + 1) (by omega)]
        exact (cellsG_at hq).2
      have hfr : wr.frozen? ⟨gb, j * 2 + 1, none⟩ = false := by rw [Nat.mul_comm]; exact ho.out.frozenAt (2 * j + 1)
      have hgr : gb < wr.heap.size := by have := hc.out.out; omega
      have d1 : (j : Int) < (L : Int) := by omega
      generalize hSl : x.Sectors.length = S at *
      have HH := Lib.hid (And.intro hx (And.intro hq hold))
      clear hx hq hold
      go_wp2_with fail
      refine hcT.mono ?_
      rintro e w2 ⟨v2, scs, rfl, hk2, hown2, hrel2⟩
      clear hcT
      obtain ⟨va, vc, rfl⟩ := own_slice hown2
      have hcell2 : w2.cell? ⟨gb, j * 2 + 1, none⟩ = some (.slice ra S rc) := (hk2.cell hgr).trans hcell
      have hfr2 : w2.frozen? ⟨gb, j * 2 + 1, none⟩ = false := by
        rw [← hfr]
        simp only [World.frozen?, hk2.blk gb hgr]
      obtain ⟨hx, hq, hold⟩ := HH.out
      obtain rfl := rels_strs hrel2
      have hfin := cps_step hc.out hx hq hk2 hsz (by rw [hL]; exact ho.out) (v' := .slice va S vc) (by unfold rowT; rw [hSl]; exact hown2)
      rw [hL, Nat.mul_comm] at hfin
      have FIN := Lib.hid hfin
      have hkf : Kept w (w2.setCell ⟨gb, j * 2 + 1, none⟩ (.slice va S vc)) := (hkr.trans hk2).set _ hg1 _
      have hsz2 := hk2.size
      clear hfin hown2 hrel2 hx hq hold
      go_wp2_with fail
      refine ⟨⟨j + 1, _, hlt, by rw [show (j : Int) + 1 = ((j + 1 : Nat) : Int) by omega], hkf, by simp; omega, FIN.out.2, FIN.out.1⟩, by simp [intOf]; omega⟩
    · obtain rfl : j = L := by omega
      have hlt' : ¬ (j : Int) < (j : Int) := by omega
      clear HS HO HC
      go_wp2_with fail
      refine bodyPost_ret (results_tmp rfl _ _ _) rfl ?_
      exact ⟨gb, cap, rfl, hkr, hg1, ps, ho.out, _, hc.out, hsz⟩
end Go.Proofs.Ythjcdlbkdobmiaa
