/- Runs that change a few blocks and the rows of refutations, and nothing else that lay before. -/
import Derived.Test.YtlgbioidkbeanaaJo
set_option linter.unusedVariables false
set_option linter.unusedSimpArgs false
namespace Go.Proofs.Ytlgbioidkbeanaa
open Go.RowKit Go.Shelf

def nT (base : Nat) (no : Nat → Prop) (w : World) (k : Nat) : Prop := no k ∨ (base ≤ k ∧ ∃ cur z, w.heap[k]? = some (.cells cur 49 z))
structure Ko (base : Nat) (no : Nat → Prop) (w w' : World) : Prop where
  os : w'.os = w.os
  tape : w'.tape = w.tape
  output : w'.output = w.output
  size : w.heap.size ≤ w'.heap.size
  blk : ∀ k, k < w.heap.size → ¬ nT base no w k → w'.heap[k]? = w.heap[k]?
  drawn : dr w ≤ dr w'
theorem Ko.refl (base : Nat) (no : Nat → Prop) (w : World) : Ko base no w w := ⟨rfl, rfl, rfl, Nat.le_refl _, fun _ _ _ => rfl, Nat.le_refl _⟩
theorem Ko.no {base : Nat} {no : Nat → Prop} {w w' : World} (h : Ko base no w w') {k : Nat} (hk : k < w.heap.size) (q : nT base no w' k) : nT base no w k := by
  by_cases e : nT base no w k
  · exact e
  · rcases q with q | ⟨q1, cur, z, q2⟩
    · exact .inl q
    · rw [h.blk k hk e] at q2
      exact .inr ⟨q1, cur, z, q2⟩
theorem Ko.trans {base : Nat} {no : Nat → Prop} {x y z : World} (h : Ko base no x y) (k : Ko base no y z) : Ko base no x z :=
  ⟨k.os.trans h.os, k.tape.trans h.tape, k.output.trans h.output, Nat.le_trans h.size k.size, fun i hi hb => (k.blk i (Nat.lt_of_lt_of_le hi h.size) (fun q => hb (h.no hi q))).trans (h.blk i hi hb), Nat.le_trans h.drawn k.drawn⟩
theorem Kno.ko {no : Nat → Prop} {w w' : World} (h : Kno no w w') (base : Nat) : Ko base no w w' := ⟨h.os, h.tape, h.output, h.size, fun k hk hb => h.blk k hk (fun q => hb (.inl q)), h.drawn⟩
theorem Kept.ko {w w' : World} (h : Kept w w') (base : Nat) (no : Nat → Prop) : Ko base no w w' := (h.kno no).ko base
theorem Ko.mono {base : Nat} {no no' : Nat → Prop} {w w' : World} (h : Ko base no w w') (hs : ∀ k, no k → no' k) : Ko base no' w w' := ⟨h.os, h.tape, h.output, h.size, fun k hk hb => h.blk k hk (fun q => hb (q.imp (hs k) id)), h.drawn⟩
/- below the base only the few blocks change -/
theorem Ko.old {base : Nat} {no : Nat → Prop} {w w' : World} (h : Ko base no w w') {k : Nat} (hk : k < w.heap.size) (hb : k < base) (hn : ¬ no k) : w'.heap[k]? = w.heap[k]? := h.blk k hk (fun q => q.elim hn (fun q => by have := q.1; omega))
theorem Ko.rel {base : Nat} {no : Nat → Prop} {w w' : World} (h : Ko base no w w') {x : AV} {v : Value} (r : VRel (cxA (nT base no w) w) x v) (q : clean x = true) : VRel (cxA (nT base no w') w') x v := by
  refine r.moved (c := cxA (nT base no w) w) (c' := cxA (nT base no w') w') (fun b ⟨q1, q2, q3⟩ => ⟨Nat.lt_of_lt_of_le q1 h.size, cxA_own b, fun e => q3 (h.no q1 e)⟩) (fun b o vs ⟨q1, q2, q3⟩ hc j v hv => ?_) q
  rw [← hc j v hv]
  simp only [World.cell?]
  rw [show (cxA (nT base no w') w').w = w' from rfl, h.blk b q1 q3]
  rfl
theorem Ko.rels {base : Nat} {no : Nat → Prop} {w w' : World} (h : Ko base no w w') {x : List AV} {v : List Value} (r : Rels (cxA (nT base no w) w) x v) (q : cleans x = true) : Rels (cxA (nT base no w') w') x v := by
  refine r.moved (c := cxA (nT base no w) w) (c' := cxA (nT base no w') w') (fun b ⟨q1, q2, q3⟩ => ⟨Nat.lt_of_lt_of_le q1 h.size, cxA_own b, fun e => q3 (h.no q1 e)⟩) (fun b o vs ⟨q1, q2, q3⟩ hc j v hv => ?_) q
  rw [← hc j v hv]
  simp only [World.cell?]
  rw [show (cxA (nT base no w') w').w = w' from rfl, h.blk b q1 q3]
  rfl
theorem row_relT {base b0 : Nat} {no : Nat → Prop} {w : World} {v : Value} {r : List Int} (hn : ∀ b, no b → b < base) (hrow : w.ownsRow base 3 1 v r.length (r.map (Value.int .i64))) : VRel (cxA (nT b0 no w) w) (lstA intE r) v := by
  rcases hrow.2 with ⟨hv0, hl0⟩ | ⟨gb, cap, cur, rfl, hbg, hg, hle, hmx, hsz, htk⟩
  · rw [hv0, List.eq_nil_of_length_eq_zero hl0]
    exact .lst0 none 0 false (fun h => by cases h) (Nat.zero_le _) (fun _ => rfl)
  · refine .lst (b := gb) (o := 0) (vs := r.map (Value.int .i64)) ⟨heap_lt hg, cxA_own _, fun q => ?_⟩ ?_ (fun k u hu => ?_) hle (fun h => by cases h) hmx
    · rcases q with q | ⟨-, c2, z2, q⟩
      · have := hn gb q
        omega
      · have : some (Obj.cells cur 3 (0, 0)) = some (Obj.cells c2 49 z2) := hg.symm.trans q
        cases this
    · have : ∀ r : List Int, Rels (cxA (nT b0 no w) w) (encs intE r) (r.map (Value.int .i64)) := by
        intro r
        induction r with
        | nil => exact .nil
        | cons x r ih => rw [encs_cons]; exact .cons (.sc _ rfl) ih
      exact this r
    · have := hrow.cells (g := gb) rfl k u hu
      rw [Nat.zero_add]
      rwa [show (⟨gb, 0, none⟩ : Addr).add k = ⟨gb, k, none⟩ by unfold Addr.add; split <;> simp_all] at this
end Go.Proofs.Ytlgbioidkbeanaa
