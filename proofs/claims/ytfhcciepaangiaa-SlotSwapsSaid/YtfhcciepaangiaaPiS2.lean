/- slices.SortFunc at a slice of the run's own: from the library's contract to plain values. -/
import Derived.Test.YtfhcciepaangiaaPiS
import Derived.Sort.AssemblyPlain
set_option linter.unusedVariables false
set_option linter.unusedSimpArgs false
namespace Go.Proofs.Ytfhcciepaangiaa
open Go.RowKit Go.Sort

/- captured values: plain, or boxes of the run's own -/
def CapOk (m : Mem) (id : Nat) (a b : AV) : Prop := (a = b ∧ clean a = true) ∨ (∃ j off cs t, a = .ptr j off ∧ j ≠ id ∧ mget m j = some ⟨cs, t⟩ ∧ cleans cs = true ∧ b = .ept cs off)
def CapsOk (m : Mem) (id : Nat) : List AV → List AV → Prop
  | [], [] => True
  | a :: r, b :: s => CapOk m id a b ∧ CapsOk m id r s
  | _, _ => False
theorem capsOk_nil {m : Mem} {id : Nat} : CapsOk m id [] [] := trivial
theorem capsOk_cons {m : Mem} {id : Nat} {a b : AV} {r s : List AV} (h : CapOk m id a b) (hr : CapsOk m id r s) : CapsOk m id (a :: r) (b :: s) := ⟨h, hr⟩
theorem capsOk_clean {m : Mem} {id : Nat} : ∀ {a b : List AV}, CapsOk m id a b → cleans b = true
  | [], [], _ => rfl
  | a :: r, b :: s, ⟨h, t⟩ => by
    simp only [cleans, Bool.and_eq_true]
    refine ⟨?_, capsOk_clean t⟩
    rcases h with ⟨rfl, h⟩ | ⟨j, off, cs, ty, rfl, -, -, h, rfl⟩
    · exact h
    · simpa [clean] using h
  | [], _ :: _, h => h.elim
  | _ :: _, [], h => h.elim
/- all but one block lies still -/
def Cx.rest (c : Cx) (blk : Nat) : Cx := ⟨c.w, fun _ => blk, fun i => i = 0, fun i => if i = 0 then some ⟨[], 0⟩ else none, c.no⟩
theorem rest_own {c : Cx} {blk b : Nat} : (c.rest blk).own b ↔ b = blk := by
  constructor
  · rintro ⟨id, bk, -, h⟩; exact h.symm
  · rintro rfl; exact ⟨0, ⟨[], 0⟩, rfl, rfl⟩
section
variable {B : Nat} {c : Cx} {id : Nat} {bk : ABlk}
theorem rest_stable (hM : c.M id = some bk) {b : Nat} (h : c.stable b) : (c.rest (c.f id)).stable b := ⟨h.1, fun ho => h.2.1 ⟨id, bk, hM, (rest_own.1 ho).symm⟩, h.2.2⟩
theorem caps_rel (g : Good B c) (hM : c.M id = some bk) {m : Mem} (hm : ∀ j b, mget m j = some b → c.M j = some b) : ∀ {caps caps' : List AV} {vs : List Value}, CapsOk m id caps caps' → Rels c caps vs → Rels (c.rest (c.f id)) caps' vs
  | [], [], _, _, h => by cases h; exact .nil
  | a :: r, b :: s, _, ⟨hk, ht⟩, h => by
    cases h with
    | cons h t =>
      refine .cons ?_ (caps_rel g hM hm ht t)
      rcases hk with ⟨rfl, hc⟩ | ⟨j, off, cs, ty, rfl, hj, hb, hc, rfl⟩
      · exact VRel.clean_to (c := c) (c0 := c.rest (c.f id)) rfl (fun b hb => rest_stable hM hb) h hc
      · cases h with
        | ptr ha =>
          have hMj := hm j _ hb
          obtain ⟨arr, vs, rest, q1, q2, q3, q4⟩ := g.cells hMj
          have hlow := (g.low j _ hMj).1
          have st : (c.rest (c.f id)).stable (c.f j) := ⟨g.lt hMj, fun ho => hj (g.inj j id _ _ hMj hM (rest_own.1 ho)), fun hn => by have : c.f j < B := g.nol _ hn; omega⟩
          have := VRel.ept (c := c.rest (c.f id)) (o := 0) st (Rels.clean_to (c := c) (c0 := c.rest (c.f id)) rfl (fun b hb => rest_stable hM hb) q3 hc) q4 off
          rw [Nat.zero_add] at this
          exact this
  | [], _ :: _, _, h, _ => h.elim
  | _ :: _, [], _, h, _ => h.elim
end
/- what the sort's worlds have in common with the first one -/
structure But (w W : World) (blk : Nat) : Prop where
  os : W.os = w.os
  tape : W.tape = w.tape
  output : W.output = w.output
  size : w.heap.size ≤ W.heap.size
  oth : ∀ b, b < w.heap.size → b ≠ blk → W.heap[b]? = w.heap[b]?
  blk : ∀ (arr : Array Value) (T : TypeId), w.heap[blk]? = some (.cells arr T) → ∃ arr' : Array Value, W.heap[blk]? = some (.cells arr' T) ∧ arr'.size = arr.size
  drawn : w.drawn ≤ W.drawn
section
variable {α : Type} [Inhabited α]
theorem sort_but (enc : α → List Value) (k : Nat) (w : World) (blk off n : Nat) (d : Array α) (os : Array Obj) : But w (sortWorldK enc k w blk off n d os) blk where
  os := rfl
  tape := rfl
  output := rfl
  size := size_sortWorldK_c enc k w blk off n d os
  oth := fun b hb hne => by
    show ((w.heap.modify blk _) ++ os)[b]? = _
    rw [Array.getElem?_append_left (by simpa using hb), Array.getElem?_modify, if_neg (fun h => hne h.symm)]
  blk := fun arr T h => by
    have hb : blk < w.heap.size := heap_lt h
    refine ⟨putCells id off (flatK enc k d) arr, ?_, by simp [putCells]⟩
    show ((w.heap.modify blk _) ++ os)[blk]? = _
    rw [Array.getElem?_append_left (by simpa using hb), Array.getElem?_modify, if_pos rfl, h]
    rfl
  drawn := Nat.le_add_right _ _
theorem but_step {c : Cx} {blk : Nat} {W : World} (h : But c.w W blk) : Step (c.rest blk) { c.rest blk with w := W } where
  os := h.os
  tape := h.tape
  output := h.output
  size := h.size
  blk := fun b hb hn => h.oth b hb fun e => hn (rest_own.2 e)
  own := fun b _ ho => ho
  f := fun _ _ => rfl
  al := fun _ h => h
  no := fun _ => Iff.rfl
  shp := fun b arr T hb => by
    by_cases e : b = blk
    · subst e; exact h.blk arr T hb
    · exact ⟨arr, (h.oth b (heap_lt hb) e).trans hb, rfl⟩
  drawn := h.drawn
variable {P : Program} {gl : Nat → Option (List AV)} {E : En α}
/- the comparison, in the sort's worlds -/
theorem cmp_lays {B : Nat} {c : Cx} {id : Nat} {bk : ABlk} (hE : OkE E) (g : Good B c) (hgl : GlobOk gl c) (hM : c.M id = some bk) {caps' : List AV} {capv : List Value} (hcr : Rels (c.rest (c.f id)) caps' capv) (hcc : cleans caps' = true) {gg : FuncId} {cf : α → α → Int}
    (hcmp : ∀ x y, Says P gl gg (.agg (E.enc x) :: .agg (E.enc y) :: caps') (intA (cf x y))) (off size : Nat) : CmpLays P gg capv.toArray (encW E) E.size cf (c.f id) off size c.w := by
  intro m os dk hs x y
  have hbut := sort_but (encW E) E.size c.w (c.f id) off m dk os
  generalize sortWorldK (encW E) E.size c.w (c.f id) off m dk os = W at hbut ⊢
  have stp := but_step (c := c) hbut
  have hlt := g.lt hM
  have hno : ∀ b, (b = c.f id ∨ c.no b) → b < W.heap.size := by
    rintro b (rfl | h)
    · exact Nat.lt_of_lt_of_le hlt hbut.size
    · have := g.nol b h; have := g.hB; have := hbut.size; omega
  let D : Cx := Cx.alone { c.rest (c.f id) with w := W } (fun b => b = c.f id ∨ c.no b)
  have hst : ∀ b, ({ c.rest (c.f id) with w := W } : Cx).stable b → D.stable b := fun b ⟨h1, h2, h3⟩ => ⟨h1, alone_own, fun h => h.elim (fun e => h2 (rest_own (c := { c with w := W }).2 e)) h3⟩
  have hcaps : Rels D caps' capv := Rels.clean_to (c := { c.rest (c.f id) with w := W }) (c0 := D) rfl hst (hcr.step stp) hcc
  have hglD : GlobOk gl D := by
    have h1 : GlobOk gl (c.rest (c.f id)) := GlobOk.clean_to (c := c) (c0 := c.rest (c.f id)) rfl (fun b hb => rest_stable hM hb) hgl
    exact GlobOk.clean_to (c := { c.rest (c.f id) with w := W }) (c0 := D) rfl hst (h1.step stp)
  have hr : Rels D (.agg (E.enc x) :: .agg (E.enc y) :: caps') (.agg (encW E x).toArray :: .agg (encW E y).toArray :: capv) := .cons (.agg (rels_encW hE D x)) (.cons (.agg (rels_encW hE D y)) hcaps)
  have hcall := (hcmp x y).2.2.2 W.heap.size D _ (alone_good (c := { c.rest (c.f id) with w := W }) hno) hglD (fun _ _ h => by cases h) hr
  have e1 : (#[Value.agg (encW E x).toArray, Value.agg (encW E y).toArray] ++ capv.toArray) = (Value.agg (encW E x).toArray :: Value.agg (encW E y).toArray :: capv).toArray := by apply Array.ext'; simp
  rw [e1]
  refine hcall.mono ?_
  rintro e w' ⟨v', c', rfl, rfl, k1, k2, k3, k4, k5⟩
  refine ⟨by cases k1; rfl, world_grow k2.os k2.tape k2.output k2.size (fun b hb => k2.blk b hb alone_own) k2.drawn⟩
end
end Go.Proofs.Ytfhcciepaangiaa
