/- slices.Sort at an own row of texts, in worlds. -/
import Derived.Test.YthjcdlbkdobmiaaCpW
set_option linter.unusedVariables false
set_option linter.unusedSimpArgs false
namespace Go.Proofs.Ythjcdlbkdobmiaa
open Go.RowKit Go.Shelf Go.Sort

theorem encs_strs : ∀ s : List ByteArray, encs strE s = (txs s).map AV.sc
  | [] => rfl
  | a :: s => by rw [encs_cons, encs_strs s]; rfl
theorem rels_txs (c : Cx) : ∀ s : List ByteArray, Rels c (encs strE s) (txs s)
  | [] => .nil
  | a :: s => by rw [encs_cons]; exact .cons (.sc _ rfl) (rels_txs c s)
theorem sort_row {P : Program} {f : FuncId} (hS : SortsS P f) {w : World} {base : Nat} {v : Value} {s : List ByteArray} (h : rowT w base v s) (hne : s ≠ []) (hn : s.length < 4611686018427387904) :
    Calls P f #[v] w fun e w' => e = .returned (.tuple #[]) ∧ rowT w' base v (sortS s) ∧ Kno (fun k => v.ownBlock = some k) w w' := by
  have hE := strE_ok
  have hlen := sortS_len s
  rcases h.2 with ⟨q1, q2⟩ | ⟨g, cap, cur, rfl, q2, q3, q4, q5, q6, q7⟩
  · exact absurd (List.eq_nil_of_length_eq_zero q2) hne
  have hlt := heap_lt q3
  have hl1 : (txs s).length = s.length := by simp [txs]
  have hsp : cur.toList = txs s ++ cur.toList.drop (s.length * 1) := by rw [← q7, List.take_append_drop]
  have hrow : HoldsK (encW strE) strE.size w g 0 s.toArray := holds_row hE q3 ⟨txs s, hsp, cxA (fun _ => False) w, rels_txs _ s⟩
  have hcall := hS g 0 cap (s.map bytesOfS) w (holds_str hrow) hlt (by simpa using hn)
  rw [List.length_map] at hcall
  refine hcall.mono ?_
  rintro e w' ⟨rfl, n, os, rfl⟩
  rw [putRow_str]
  have hsl : sortS s = (((s.map bytesOfS).mergeSort fun x y => decide (x ≤ y)).map strOfB) := rfl
  rw [← hsl]
  have hW : grow (putRowK (encW strE) strE.size (Sort.ahead w n) g 0 (sortS s).toArray) os = sortWorldK (encW strE) strE.size w g 0 n (sortS s).toArray os := rfl
  rw [hW]
  generalize hd : (sortS s).toArray = d at *
  have hsd : sortS s = d.toList := by rw [← hd]
  have hbut := sort_but (encW strE) strE.size w g 0 n d os
  have hsz : d.size = s.length := by rw [← hd]; simpa using hlen
  obtain ⟨arr', b1, b2⟩ := hbut.blk cur 9 q3
  have hold2 := holdsK_sortWorldK_c (encW strE) strE.size w g 0 s.toArray d n os hrow hlt (by rw [hsz]; simp)
  generalize sortWorldK (encW strE) strE.size w g 0 n d os = W at *
  have hfl : (flatK (encW strE) strE.size d).size = d.size := by rw [size_flatK]; show d.size * 1 = _; omega
  have hflt : (flatK (encW strE) strE.size d).toList = txs (sortS s) := by
    refine List.ext_getElem? fun t => ?_
    by_cases ht : t < d.size
    · rw [Array.getElem?_toList, Array.getElem?_eq_getElem (by omega)]
      have := flat_str d t ht
      rw [getElem!_pos _ t (by omega), getElem!_pos _ t ht] at this
      rw [this, hsd]
      simp [txs, ht]
    · rw [Array.getElem?_toList, Array.getElem?_eq_none (by omega), hsd, List.getElem?_eq_none (by simp [txs]; omega)]
  have htk : arr'.toList.take (s.length * 1) = txs (sortS s) := by
    rw [← hflt]
    refine List.ext_getElem? fun t => ?_
    rw [List.getElem?_take]
    split
    · rename_i ht
      have := (hold2 t (by rw [hfl]; omega)).1
      unfold World.cell? at this
      simp only [b1, Option.isSome_none, Bool.false_eq_true, if_false, Nat.zero_add, id] at this
      rw [Array.getElem?_toList, this, Array.getElem?_toList]
      have hs2 : t < (flatK (encW strE) strE.size d).size := by omega
      rw [Array.getElem?_eq_getElem hs2, getElem!_pos _ t hs2]
    · rename_i ht
      rw [Array.getElem?_toList, Array.getElem?_eq_none (by omega)]
  refine ⟨rfl, ⟨by simp [txs], .inr ⟨g, cap, arr', by rw [hlen], q2, b1, by omega, q5, by rw [b2]; exact q6, by rw [hlen]; exact htk⟩⟩, ⟨hbut.os, hbut.tape, hbut.output, hbut.size, fun b hb hno => hbut.oth b hb (fun e => hno (by rw [e]; rfl)), dr_le hbut.drawn⟩⟩
end Go.Proofs.Ythjcdlbkdobmiaa
