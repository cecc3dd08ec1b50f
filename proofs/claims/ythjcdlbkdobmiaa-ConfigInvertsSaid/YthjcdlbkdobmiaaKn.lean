/- Runs that change a few blocks (the set no) and nothing else that lay before. -/
import Derived.Test.YthjcdlbkdobmiaaSv0
set_option linter.unusedVariables false
set_option linter.unusedSimpArgs false
namespace Go.Proofs.Ythjcdlbkdobmiaa
open Go.RowKit Go.Shelf

def cxA (no : Nat → Prop) (w : World) : Cx := ⟨w, fun _ => 0, fun _ => False, fun _ => none, no⟩
structure Kno (no : Nat → Prop) (w w' : World) : Prop where
  os : w'.os = w.os
  tape : w'.tape = w.tape
  output : w'.output = w.output
  size : w.heap.size ≤ w'.heap.size
  blk : ∀ k, k < w.heap.size → ¬ no k → w'.heap[k]? = w.heap[k]?
  drawn : dr w ≤ dr w'
theorem Kno.refl (no : Nat → Prop) (w : World) : Kno no w w := ⟨rfl, rfl, rfl, Nat.le_refl _, fun _ _ _ => rfl, Nat.le_refl _⟩
theorem Kno.trans {no : Nat → Prop} {x y z : World} (h : Kno no x y) (k : Kno no y z) : Kno no x z := ⟨k.os.trans h.os, k.tape.trans h.tape, k.output.trans h.output, Nat.le_trans h.size k.size, fun i hi hb => (k.blk i (Nat.lt_of_lt_of_le hi h.size) hb).trans (h.blk i hi hb), Nat.le_trans h.drawn k.drawn⟩
theorem Kept.kno {w w' : World} (h : Kept w w') (no : Nat → Prop) : Kno no w w' := ⟨h.os, h.tape, h.output, h.size, fun k hk _ => h.blk k hk, h.drawn⟩
theorem Kept.trans {x y z : World} (h : Kept x y) (k : Kept y z) : Kept x z := ⟨k.os.trans h.os, k.tape.trans h.tape, k.output.trans h.output, Nat.le_trans h.size k.size, fun i hi => (k.blk i (Nat.lt_of_lt_of_le hi h.size)).trans (h.blk i hi), Nat.le_trans h.drawn k.drawn⟩
theorem Kno.setCell {no : Nat → Prop} {w w' : World} (h : Kno no w w') (a : Addr) (ha : no a.block ∨ w.heap.size ≤ a.block) (v : Value) : Kno no w (w'.setCell a v) := by
  refine ⟨h.os, h.tape, h.output, by have := h.size; simpa using this, fun k hk hb => ?_, h.drawn⟩
  rw [Below.heap_setCell _ _ _ _ (by rintro rfl; exact ha.elim hb (fun q => by omega))]
  exact h.blk k hk hb
theorem Kno.kept {no : Nat → Prop} {w w' w0 : World} (h : Kno no w w') (hs : w0.heap.size ≤ w.heap.size) (hn : ∀ k, no k → w0.heap.size ≤ k) (hk : Kept w0 w) : Kept w0 w' := ⟨h.os.trans hk.os, h.tape.trans hk.tape, h.output.trans hk.output, Nat.le_trans hs h.size, fun k hk2 => (h.blk k (by omega) (fun q => by have := hn k q; omega)).trans (hk.blk k hk2), Nat.le_trans hk.drawn h.drawn⟩
theorem cxA_own {no : Nat → Prop} {w : World} (b : Nat) : ¬ (cxA no w).own b := fun ⟨_, _, h, _⟩ => by cases h
theorem cxA_bare {no : Nat → Prop} {w : World} (h : ∀ b, no b → b < w.heap.size) : Bare (cxA no w) := ⟨fun _ => rfl, h⟩
theorem Kno.rel {no : Nat → Prop} {w w' : World} (h : Kno no w w') {x : AV} {v : Value} (r : VRel (cxA no w) x v) (q : clean x = true) : VRel (cxA no w') x v := by
  refine r.moved (c := cxA no w) (c' := cxA no w') (fun b ⟨q1, q2, q3⟩ => ⟨Nat.lt_of_lt_of_le q1 h.size, cxA_own b, q3⟩) (fun b o vs ⟨q1, q2, q3⟩ hc j v hv => ?_) q
  rw [← hc j v hv]
  simp only [World.cell?]
  rw [show (cxA no w').w = w' from rfl, h.blk b q1 q3]
  rfl
theorem Kno.rels {no : Nat → Prop} {w w' : World} (h : Kno no w w') {x : List AV} {v : List Value} (r : Rels (cxA no w) x v) (q : cleans x = true) : Rels (cxA no w') x v := by
  refine r.moved (c := cxA no w) (c' := cxA no w') (fun b ⟨q1, q2, q3⟩ => ⟨Nat.lt_of_lt_of_le q1 h.size, cxA_own b, q3⟩) (fun b o vs ⟨q1, q2, q3⟩ hc j v hv => ?_) q
  rw [← hc j v hv]
  simp only [World.cell?]
  rw [show (cxA no w').w = w' from rfl, h.blk b q1 q3]
  rfl
/- more blocks may not be used -/
theorem rel_no {no no' : Nat → Prop} {w : World} {x : AV} {v : Value} (r : VRel (cxA no w) x v) (q : clean x = true) (h : ∀ b, b < w.heap.size → no' b → no b) : VRel (cxA no' w) x v := r.moved (c := cxA no w) (c' := cxA no' w) (fun b ⟨q1, q2, q3⟩ => ⟨q1, cxA_own b, fun k => q3 (h b q1 k)⟩) (fun _ _ _ _ hc => hc) q
/- a call of a function whose answer is known -/
theorem says_kn {P : Program} {gl : Nat → Option (List AV)} {f : FuncId} {args : List AV} {v : AV} (h : Says P gl f args v) {no : Nat → Prop} {w : World} (hn : ∀ b, no b → b < w.heap.size) (hgl : GlobOk gl (cxA no w)) {vals : List Value} (hr : Rels (cxA no w) args vals) (n : Nat) :
    CallsIn Fence.wide n P f vals.toArray w (fun e w' => ∃ v', e = .returned v' ∧ Kept w w' ∧ VRel (cxA no w') v v') := by
  obtain ⟨h1, h2, -, h4⟩ := h
  have hc1 : Bare (cxA no w) := cxA_bare hn
  refine callsIn_wide.2 ((h4 _ (cxA no w) vals hc1.good hgl (fun _ _ h => by cases h) hr).mono ?_)
  rintro e w' ⟨v', c', rfl, rfl, k1, k2, k3, k4, k5⟩
  refine ⟨v', rfl, ⟨k2.os, k2.tape, k2.output, k2.size, fun i hi => k2.blk i hi (hc1.own i), k2.drawn⟩, VRel.clean_to (c := c') (c0 := cxA no c'.w) rfl (fun i ⟨q1, q2, q3⟩ => ⟨q1, cxA_own i, fun q => q3 ((k2.no i).2 q)⟩) k1 h2⟩
/- a call of a function that returns a slice of its own: its row lies in a block of its own -/
theorem made_kn {α : Type} {E : En α} {P : Program} {gl : Nat → Option (List AV)} {f : FuncId} {args : List AV} {l : List α} {ty : Nat} {ws : List Value} {tup : Bool} (hl : l ≠ [])
    (h : PureD P gl (fun _ => none) 0 f args (bif tup then .tup (ownV E 0 l :: ws.map AV.sc) else ownV E 0 l) [(0, ownB E ty l)]) {no : Nat → Prop} {w : World} (hn : ∀ b, no b → b < w.heap.size) (hgl : GlobOk gl (cxA no w)) {vals : List Value} (hr : Rels (cxA no w) args vals) (n : Nat) :
    CallsIn Fence.wide n P f vals.toArray w (fun e w' => ∃ (b cap : Nat) (arr : Array Value) (vs rest : List Value), e = .returned (bif tup then .tuple (.slice (some ⟨b, 0, none⟩) l.length cap :: ws).toArray else .slice (some ⟨b, 0, none⟩) l.length cap) ∧ Kept w w' ∧ w.heap.size ≤ b ∧ w'.heap[b]? = some (.cells arr ty) ∧ arr.toList = vs ++ rest ∧ Rels (cxA no w') (encs E l) vs ∧ l.length ≤ cap ∧ cap * E.size ≤ arr.size ∧ cap ≤ maxLen) := by
  have hc1 : Bare (cxA no w) := cxA_bare hn
  refine callsIn_wide.2 ((h.2 w.heap.size (cxA no w) vals hc1.good hgl (fun q => q) (fun _ _ h => by cases h) hr).mono ?_)
  rintro e w' ⟨v', c', rfl, rfl, k1, k2, k3, k4, k5, k6⟩
  have hM : c'.M 0 = some ⟨encs E l, ty⟩ := by
    rw [k4]; show (if 0 = 0 then ownB E ty l else none) = _
    rw [if_pos rfl, ownB_ne hl]
  obtain ⟨arr, vs, rest, q1, q2, q3⟩ := k3.blk 0 _ hM
  have hlow := (k3.low 0 _ hM).1
  have hk : Kept w c'.w := ⟨k2.os, k2.tape, k2.output, k2.size, fun i hi => k2.blk i hi (hc1.own i), k2.drawn⟩
  have q3' : Rels (cxA no c'.w) (encs E l) vs := Rels.clean_to (c := c') (c0 := cxA no c'.w) rfl (fun i ⟨r1, r2, r3⟩ => ⟨r1, cxA_own i, fun q => r3 ((k2.no i).2 q)⟩) q3 (encs_clean l)
  have fin : ∀ {x : Value}, VRel c' (ownV E 0 l) x → ∃ cap, x = .slice (some ⟨c'.f 0, 0, none⟩) l.length cap ∧ l.length ≤ cap ∧ cap * E.size ≤ arr.size ∧ cap ≤ maxLen := by
    intro x hx
    rw [ownV_ne hl] at hx
    cases hx with
    | sl ha hb hs hn hc he hm =>
      rename_i cap' arr0 T0
      rw [hb] at q1
      cases q1
      exact ⟨_, rfl, by omega, by rwa [Nat.zero_add] at hs, hm⟩
  cases tup with
  | false =>
    obtain ⟨cap, rfl, h1, h2, h3⟩ := fin k1
    exact ⟨_, cap, arr, vs, rest, rfl, hk, hlow, q1, q2, q3', h1, h2, h3⟩
  | true =>
    have k1 : VRel c' (.tup (ownV E 0 l :: ws.map AV.sc)) v' := k1
    cases k1 with
    | tup ht =>
      cases ht with
      | cons hx ht =>
        obtain ⟨cap, rfl, h1, h2, h3⟩ := fin hx
        have hws : ∀ {us : List Value} {vs : List Value}, Rels c' (us.map AV.sc) vs → vs = us := by
          intro us
          induction us with
          | nil => intro vs h; cases h; rfl
          | cons u us ih => intro vs h; cases h with | cons h t => cases h; rw [ih t]
        rw [hws ht]
        exact ⟨_, cap, arr, vs, rest, rfl, hk, hlow, q1, q2, q3', h1, h2, h3⟩
end Go.Proofs.Ythjcdlbkdobmiaa
