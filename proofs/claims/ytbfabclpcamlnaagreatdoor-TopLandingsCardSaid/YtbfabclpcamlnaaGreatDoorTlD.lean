/- Parts Sv1, Sv0, Kn, Be1, Be2, Be3. -/
import Derived.Test.YtbfabclpcamlnaaGreatDoorPJ
import Derived.RangeFuncNested
import Derived.RangeFuncBound
import Derived.RangeFuncCalls
import Derived.RangeFuncLeaves
import Derived.Shelf.Abstract
import Derived.Shelf.RegionOpen
import Derived.WalkKit
import Derived.OwnWalkIn
import Derived.TacticsInMore
import Derived.LoopNIn
import Derived.LoopIn
import Derived.Test.YtbfabclpcamlnaaGreatDoorX1G
import Derived.Test.YtbfabclpcamlnaaGreatDoorX1E2
import Derived.WalkSpells
import Derived.WalkLawsBesides
import Derived.RegionTactic
import Derived.ChangeAlike
import Derived.Lib.Hide
import Derived.Handy
import Derived.Deep.RegionWith
import Derived.Deep.QuietTactic
import Derived.BigQuiet
import Derived.OneCell
import Derived.Lib.SliceRun
import Derived.LoopTactic
set_option linter.unusedVariables false
set_option linter.unusedSimpArgs false
namespace Go.Proofs.YtbfabclpcamlnaaGreatDoor
open Go.RowKit Go.Shelf
structure Kx (n b : Nat) (w w' : World) : Prop where
  os : w'.os = w.os
  tape : w'.tape = w.tape
  output : w'.output = w.output
  size : w.heap.size ≤ w'.heap.size
  Bh : ∀ k, k < n → k ≠ b → w'.heap[k]? = w.heap[k]?
  drawn : dr w ≤ dr w'
theorem Kx.refl (n b : Nat) (w : World) : Kx n b w w := ⟨rfl, rfl, rfl, Nat.le_refl _, fun _ _ _ => rfl, Nat.le_refl _⟩
theorem Kx.trans {n b : Nat} {x y z : World} (h : Kx n b x y) (k : Kx n b y z) : Kx n b x z := ⟨k.os.trans h.os, k.tape.trans h.tape, k.output.trans h.output, Nat.le_trans h.size k.size, fun i hi hb => (k.Bh i hi hb).trans (h.Bh i hi hb), Nat.le_trans h.drawn k.drawn⟩
theorem Kx.sA {n b : Nat} {w w' : World} (hn : n ≤ w.heap.size) (h : Kept w w') : Kx n b w w' := ⟨h.os, h.tape, h.output, h.size, fun k hk _ => h.Bh k (by omega), h.drawn⟩
theorem Kx.mono {n m b : Nat} {w w' : World} (hn : m ≤ n) (h : Kx n b w w') : Kx m b w w' := ⟨h.os, h.tape, h.output, h.size, fun k hk hb => h.Bh k (by omega) hb, h.drawn⟩
theorem Kx.cell {n b : Nat} {w w' : World} (h : Kx n b w w') {p : Addr} (hp : p.block < n) (hb : p.block ≠ b) : w'.cell? p = w.cell? p := by simp [World.cell?, h.Bh _ hp hb]
theorem Kx.alloc {n b : Nat} {w w' : World} (h : Kx n b w w') (hn : n ≤ w'.heap.size) (o : Obj) : Kx n b w (w'.alloc o) := h.trans (Kx.sA hn (Kept.alloc _ _))
theorem Kx.setCell {n b : Nat} {w w' : World} (h : Kx n b w w') (a : Addr) (ha : a.block = b ∨ n ≤ a.block) (v : Value) : Kx n b w (w'.setCell a v) := by
  refine h.trans ⟨rfl, rfl, rfl, by simp, fun k hk hb => ?_, Nat.le_refl _⟩
  exact Below.heap_setCell _ _ _ _ (by omega)
structure Ln (c : Cx) : Prop where
  M : ∀ id, c.M id = none
  no : ∀ b, c.no b → b < c.w.heap.size
theorem Ln.own {c : Cx} (h : Ln c) (b : Nat) : ¬ c.own b := fun ⟨id, Bh, h1, _⟩ => by rw [h.M id] at h1; cases h1
theorem Ln.Uh {c : Cx} (h : Ln c) : Good c.w.heap.size c :=
  ⟨Nat.le_refl _, fun id Bh h1 => (by rw [h.M id] at h1; cases h1), fun id Bh h1 => (by rw [h.M id] at h1; cases h1), h.no, fun id _ Bh _ h1 => (by rw [h.M id] at h1; cases h1)⟩
theorem Ln.at {c : Cx} (h : Ln c) {w : World} (hs : c.w.heap.size ≤ w.heap.size) : Ln { c with w := w } := ⟨h.M, fun b hb => Nat.lt_of_lt_of_le (h.no b hb) hs⟩
mutual
theorem Bb.H6 {c c' : Cx} (hs : ∀ b, c.Bl b → c'.Bl b) (hc : ∀ b o vs, c.Bl b → E3 c.w b o vs → E3 c'.w b o vs) {x : AV} {v : Value} : Bb c x v → clean x = true → Bb c' x v
  | .D7 v, _ => .D7 v
  | .sc v h, _ => .sc v h
  | .agg h, q => .agg (Bf.H6 hs hc h (by simpa [clean] using q))
  | .tup h, q => .tup (Bf.H6 hs hc h (by simpa [clean] using q))
  | .H3, _ => .H3
  | .ptr h off, q => by simp [clean] at q
  | .B8 hb h hce off, q => .B8 (hs _ hb) (Bf.H6 hs hc h (by simpa [clean] using q)) (hc _ _ _ hb hce) off
  | .Cc, _ => .Cc
  | .D6 a cap ex he hm hn, _ => .D6 a cap ex he hm hn
  | .Dm hb h hce hn he hm, q => .Dm (hs _ hb) (Bf.H6 hs hc h (by simpa [clean] using q)) (hc _ _ _ hb hce) hn he hm
  | .sl h hb hs' hn hc' he hm, q => by simp [clean] at q
  | .fn f h, q => .fn f (Bf.H6 hs hc h (by simpa [clean] using q))
  | .Me, _ => .Me
  | .Mx u v, _ => .Mx u v
theorem Bf.H6 {c c' : Cx} (hs : ∀ b, c.Bl b → c'.Bl b) (hc : ∀ b o vs, c.Bl b → E3 c.w b o vs → E3 c'.w b o vs) {xs : List AV} {vs : List Value} : Bf c xs vs → As xs = true → Bf c' xs vs
  | .nil, _ => .nil
  | .cons h t, q => .cons (Bb.H6 hs hc h (by simp [As] at q; exact q.1)) (Bf.H6 hs hc t (by simp [As] at q; exact q.2))
end
theorem Ln.Ac0 {c : Cx} (h : Ln c) {b : Nat} (hb : c.no b) {w : World} (hk : Kx c.w.heap.size b c.w w) : (∀ k, c.Bl k → ({ c with w := w } : Cx).Bl k) ∧ ∀ k, c.Bl k → w.heap[k]? = c.w.heap[k]? :=
  ⟨fun k ⟨h1, h2, h3⟩ => ⟨Nat.lt_of_lt_of_le h1 hk.size, (h.at hk.size).own k, h3⟩, fun k ⟨h1, h2, h3⟩ => hk.Bh k h1 (fun e => h3 (e ▸ hb))⟩
theorem Ln.cat {c : Cx} (h : Ln c) {b : Nat} (hb : c.no b) {w : World} (hk : Kx c.w.heap.size b c.w w) : ∀ k o vs, c.Bl k → E3 c.w k o vs → E3 w k o vs := fun k o vs hs hc j v hv => by
  have := hc j v hv
  rw [← this]
  simp [World.cell?, (h.Ac0 hb hk).2 k hs]
theorem Ln.yE {c : Cx} (h : Ln c) {b : Nat} (hb : c.no b) {w : World} (hk : Kx c.w.heap.size b c.w w) {xs : List AV} {vs : List Value} (hx : As xs = true) (r : Bf c xs vs) : Bf { c with w := w } xs vs := r.H6 (h.Ac0 hb hk).1 (h.cat hb hk) hx
end Go.Proofs.YtbfabclpcamlnaaGreatDoor
set_option linter.unusedVariables false
set_option linter.unusedSimpArgs false
namespace Go.Proofs.YtbfabclpcamlnaaGreatDoor
open Go.RowKit Go.Shelf
theorem P0 {p : Program} {w w' : World} {at_ k : Addr} {u : TypeId} {v : Value} {b : Bool} {l : List Addr} (h : w.viewStore p at_ u k v b = .ok (w', l)) : w'.drawn = w.drawn := by
  unfold World.viewStore at h
  simp only [bind, Except.bind, pure, Except.pure] at h
  repeat' (first | (split at h) | (cases h; done))
  all_goals first | (cases h; rfl) | (simp only [Except.ok.injEq, Prod.mk.injEq] at h; obtain ⟨rfl, -⟩ := h; rfl)
theorem O3 {α : Type} : ∀ (a : Ask α) (w : World), w.drawn ≤ (w.ask a).2.drawn
  | .done _, w => Nat.le_refl _
  | .ask what range k, w => by
    unfold World.ask
    simp only
    split
    · exact O3 _ w
    · exact Nat.le_trans (Nat.le_succ _) (O3 (k ((Question.extern what range).cut (w.tape w.drawn (Question.extern what range)))) { w with drawn := w.drawn + 1 })
theorem Dr {α : Type} (p : Program) : ∀ (s : Sem α) (w w' : World) (a : α), s.run p w = .ok a w' → w.drawn ≤ w'.drawn
  | .pure x, w, w', a, h => by simp only [Sem.run, Result.ok.injEq] at h; rw [h.2]; exact Nat.le_refl _
  | .load m x k, w, w', a, h => by
    unfold Sem.run at h
    split at h
    · exact Dr p _ w w' a h
    · split at h
      · exact Dr p _ w w' a h
      · cases h
  | .store m x v k, w, w', a, h => by
    have key : (match w.cell? x with
      | some _ => if w.frozen? x then Result.halt (.unsupported (.unsafePointer "a write to bytes that a string shares")) w else k.run p (w.setCell x v)
      | none => match w.farStore p x v (m == Mode.atomic) with
        | .ok (w, _) => k.run p w
        | .error h => .halt h w) = .ok a w' := by
      cases v <;> simp only [Sem.run] at h <;> first | exact h | cases h
    clear h
    split at key
    · split at key
      · cases key
      · exact Dr p k (w.setCell x v) w' a key
    · split at key
      · rename_i w1 l hs
        have e : w1.drawn = w.drawn := by
          unfold World.farStore at hs
          split at hs
          · split at hs
            · rename_i r hr
              cases hs
              exact P0 hr
            · cases hs
          · cases hs
        rw [← e]
        exact Dr p k w1 w' a key
      · cases key
  | .new o k, w, w', a, h => by unfold Sem.run at h; exact Dr p (k w.heap.size) { w with heap := w.heap.push o } w' a h
  | .shape r k, w, w', a, h => by unfold Sem.run at h; exact Dr p _ w w' a h
  | .freeze x n k, w, w', a, h => by
    unfold Sem.run at h
    have := Dr p k _ w' a h
    unfold World.freeze at this
    split at this <;> exact this
  | .frozen x k, w, w', a, h => by unfold Sem.run at h; exact Dr p _ w w' a h
  | .getObj r k, w, w', a, h => by
    unfold Sem.run at h
    split at h
    · cases h
    · exact Dr p _ w w' a h
    · cases h
  | .setObj r o k, w, w', a, h => by
    unfold Sem.run at h
    split at h
    · cases h
    · exact Dr p k { w with heap := w.heap.setIfInBounds r o } w' a h
    · cases h
  | .choose q k, w, w', a, h => by
    unfold Sem.run at h
    split at h
    · exact Dr p _ w w' a h
    · exact Nat.le_trans (Nat.le_succ _) (Dr p _ _ w' a h)
  | .sys c k, w, w', a, h => by
    unfold Sem.run at h
    refine Nat.le_trans ?_ (Dr p _ _ w' a h)
    unfold World.sys
    have := O3 (Kernel.perform c w.os) w
    split
    · exact Nat.le_refl _
    · rename_i hq
      rw [hq] at this
      exact this
  | .program k, w, w', a, h => by unfold Sem.run at h; exact Dr p _ w w' a h
  | .mark m k, w, w', a, h => by unfold Sem.run at h; exact Dr p k w w' a h
  | .halt x, w, w', a, h => by simp [Sem.run] at h
theorem X8 {F : Fence} {n : Nat} {P : Program} (w : World) {ops : Array Oper} {rest : List Oper} {o : Oper} {a : Act} {Q : Exit → Act → World → Prop}
    (hg : o.guard = none) (s x : Operand) (t : TypeId) (hop : o.op = Op.call { callee := Callee.builtin Builtin.append, args := #[s, x], argTypes := #[t, t] })
    (base : Nat) (e : TypeId) (i : TypeInfo) (z : Value) (size bytes : Nat) (h1 : P.underlying t = some (.slice e)) (h2 : P.info? e = some i) (h3 : i.zero = some z) (h4 : i.size = size) (h5 : i.bytes = bytes) (h6 : z.cells.size = size) (h7 : 0 < size)
    (v : Value) (k : Nat) (xs : List Value) (hs : a.eval s = v) (hown : w.ownsRow base e size v k xs) (ad : Addr) (m c : Nat) (news : List Value) (hx : a.eval x = .slice (some ad) m c) (hn : news.length = m * size)
    (hc : ∀ j u, news[j]? = some u → w.cell? (ad.add j) = some u) (h1c : ∀ u ∈ news, u.oneCell' = true) (b1 : k + m ≤ maxLen) (b2 : (k + m) * bytes ≤ 140737488355328) (b3 : base ≤ w.heap.size)
    (hK : ∀ v' w', w'.ownsRow base e size v' (k + m) (xs ++ news) → w.grownBy w' v.ownBlock → (v' = .slice none 0 0 ↔ v = .slice none 0 0 ∧ m = 0) → w.drawn ≤ w'.drawn → wpListIn F n P ops Q rest (a.put o.dst v') w') :
    wpListIn F n P ops Q (o :: rest) a w := by
  refine wpListIn_plain hg fun K hK' => ?_
  obtain ⟨v', w', hrun, r1, r2, r3⟩ := run_append_own (P := P) w base t o.type e i z size bytes h1 h2 h3 h4 h5 h6 h7 v k xs hown ad m c news hn hc h1c b1 b2 b3
  have hd := Dr P _ _ _ _ hrun
  unfold Oper.wpIn
  refine ⟨?_, ?_⟩
  · simp [Oper.about, hop, resolve, Target.leads, Sem.run_pure]
  · rw [Oper.semAt_plain F _ _ (by rw [hop]; intro c hc'; cases hc')]
    simp [execOp, hop, resolve, invoke, builtin, hs, hx, hrun, Result.andThen]
    exact hK' _ _ (hK v' w' r1 r2 r3 hd)
end Go.Proofs.YtbfabclpcamlnaaGreatDoor
set_option linter.unusedVariables false
set_option linter.unusedSimpArgs false
namespace Go.Proofs.YtbfabclpcamlnaaGreatDoor
open Go.RowKit Go.Shelf
def Fx (no : Nat → Prop) (w : World) : Cx := ⟨w, fun _ => 0, fun _ => False, fun _ => none, no⟩
structure Mm (no : Nat → Prop) (w w' : World) : Prop where
  os : w'.os = w.os
  tape : w'.tape = w.tape
  output : w'.output = w.output
  size : w.heap.size ≤ w'.heap.size
  Bh : ∀ k, k < w.heap.size → ¬ no k → w'.heap[k]? = w.heap[k]?
  drawn : dr w ≤ dr w'
theorem Mm.refl (no : Nat → Prop) (w : World) : Mm no w w := ⟨rfl, rfl, rfl, Nat.le_refl _, fun _ _ _ => rfl, Nat.le_refl _⟩
theorem Mm.trans {no : Nat → Prop} {x y z : World} (h : Mm no x y) (k : Mm no y z) : Mm no x z := ⟨k.os.trans h.os, k.tape.trans h.tape, k.output.trans h.output, Nat.le_trans h.size k.size, fun i hi hb => (k.Bh i (Nat.lt_of_lt_of_le hi h.size) hb).trans (h.Bh i hi hb), Nat.le_trans h.drawn k.drawn⟩
theorem Kept.Ms {w w' : World} (h : Kept w w') (no : Nat → Prop) : Mm no w w' := ⟨h.os, h.tape, h.output, h.size, fun k hk _ => h.Bh k hk, h.drawn⟩
theorem Kept.trans {x y z : World} (h : Kept x y) (k : Kept y z) : Kept x z := ⟨k.os.trans h.os, k.tape.trans h.tape, k.output.trans h.output, Nat.le_trans h.size k.size, fun i hi => (k.Bh i (Nat.lt_of_lt_of_le hi h.size)).trans (h.Bh i hi), Nat.le_trans h.drawn k.drawn⟩
theorem Mm.setCell {no : Nat → Prop} {w w' : World} (h : Mm no w w') (a : Addr) (ha : no a.block ∨ w.heap.size ≤ a.block) (v : Value) : Mm no w (w'.setCell a v) := by
  refine ⟨h.os, h.tape, h.output, by have := h.size; simpa using this, fun k hk hb => ?_, h.drawn⟩
  rw [Below.heap_setCell _ _ _ _ (by rintro rfl; exact ha.elim hb (fun q => by omega))]
  exact h.Bh k hk hb
theorem Mm.kept {no : Nat → Prop} {w w' w0 : World} (h : Mm no w w') (hs : w0.heap.size ≤ w.heap.size) (hn : ∀ k, no k → w0.heap.size ≤ k) (hk : Kept w0 w) : Kept w0 w' := ⟨h.os.trans hk.os, h.tape.trans hk.tape, h.output.trans hk.output, Nat.le_trans hs h.size, fun k hk2 => (h.Bh k (by omega) (fun q => by have := hn k q; omega)).trans (hk.Bh k hk2), Nat.le_trans hk.drawn h.drawn⟩
theorem Gv {no : Nat → Prop} {w : World} (b : Nat) : ¬ (Fx no w).own b := fun ⟨_, _, h, _⟩ => by cases h
theorem X2 {no : Nat → Prop} {w : World} (h : ∀ b, no b → b < w.heap.size) : Ln (Fx no w) := ⟨fun _ => rfl, h⟩
theorem Mm.rel {no : Nat → Prop} {w w' : World} (h : Mm no w w') {x : AV} {v : Value} (r : Bb (Fx no w) x v) (q : clean x = true) : Bb (Fx no w') x v := by
  refine r.H6 (c := Fx no w) (c' := Fx no w') (fun b ⟨q1, q2, q3⟩ => ⟨Nat.lt_of_lt_of_le q1 h.size, Gv b, q3⟩) (fun b o vs ⟨q1, q2, q3⟩ hc j v hv => ?_) q
  rw [← hc j v hv]
  simp only [World.cell?]
  rw [show (Fx no w').w = w' from rfl, h.Bh b q1 q3]
  rfl
theorem Mm.yE {no : Nat → Prop} {w w' : World} (h : Mm no w w') {x : List AV} {v : List Value} (r : Bf (Fx no w) x v) (q : As x = true) : Bf (Fx no w') x v := by
  refine r.H6 (c := Fx no w) (c' := Fx no w') (fun b ⟨q1, q2, q3⟩ => ⟨Nat.lt_of_lt_of_le q1 h.size, Gv b, q3⟩) (fun b o vs ⟨q1, q2, q3⟩ hc j v hv => ?_) q
  rw [← hc j v hv]
  simp only [World.cell?]
  rw [show (Fx no w').w = w' from rfl, h.Bh b q1 q3]
  rfl
theorem B2.Ms {gl : Nat → Option (List AV)} {no : Nat → Prop} {w w' : World} (hk : Mm no w w') (h : B2 gl (Fx no w)) : B2 gl (Fx no w') := fun g cs hg => ⟨(h g cs hg).1, hk.rel (h g cs hg).2.1 (by simpa [clean] using (h g cs hg).1), fun q => by
  obtain ⟨h0, arr, T, fz, h1, h2⟩ := (h g cs hg).2.2 q
  exact ⟨⟨Nat.lt_of_lt_of_le h0.1 hk.size, Gv _, h0.2.2⟩, arr, T, fz, (hk.Bh g h0.1 h0.2.2).trans h1, h2⟩⟩
theorem B2.no {gl : Nat → Option (List AV)} {no : Nat → Prop} {w : World} (h : B2 gl (Fx (fun _ => False) w)) (hn : ∀ k, no k → w.heap.size ≤ k) : B2 gl (Fx no w) := B2.Br (c := Fx (fun _ => False) w) rfl (fun b ⟨q1, q2, q3⟩ => ⟨q1, Gv b, fun k => by have := hn b k; exact absurd q1 (by show ¬ b < w.heap.size; omega)⟩) h
theorem Ox {no no' : Nat → Prop} {w : World} {x : AV} {v : Value} (r : Bb (Fx no w) x v) (q : clean x = true) (h : ∀ b, b < w.heap.size → no' b → no b) : Bb (Fx no' w) x v := r.H6 (c := Fx no w) (c' := Fx no' w) (fun b ⟨q1, q2, q3⟩ => ⟨q1, Gv b, fun k => q3 (h b q1 k)⟩) (fun _ _ _ _ hc => hc) q
theorem bR {P : Program} {gl : Nat → Option (List AV)} {f : FuncId} {args : List AV} {v : AV} (h : C3 P gl f args v) {no : Nat → Prop} {w : World} (hn : ∀ b, no b → b < w.heap.size) (hgl : B2 gl (Fx no w)) {vals : List Value} (hr : Bf (Fx no w) args vals) (n : Nat) :
    CallsIn Fence.wide n P f vals.toArray w (fun e w' => ∃ v', e = .returned v' ∧ Kept w w' ∧ Bb (Fx no w') v v') := by
  obtain ⟨h1, h2, -, h4⟩ := h
  have hc1 : Ln (Fx no w) := X2 hn
  refine callsIn_wide.2 ((h4 _ (Fx no w) vals hc1.Uh hgl (fun _ _ h => by cases h) hr).mono ?_)
  rintro e w' ⟨v', c', rfl, rfl, k1, k2, k3, k4, k5⟩
  refine ⟨v', rfl, ⟨k2.os, k2.tape, k2.output, k2.size, fun i hi => k2.Bh i hi (hc1.own i), k2.drawn⟩, Bb.Br (c := c') (c0 := Fx no c'.w) rfl (fun i ⟨q1, q2, q3⟩ => ⟨q1, Gv i, fun q => q3 ((k2.no i).2 q)⟩) k1 h2⟩
theorem vW {α : Type} {E : En α} {P : Program} {gl : Nat → Option (List AV)} {f : FuncId} {args : List AV} {l : List α} {ty : Nat} {ws : List Value} {tup : Bool} (hl : l ≠ [])
    (h : D2 P gl (fun _ => none) 0 f args (bif tup then .tup (B5 E 0 l :: ws.map AV.sc) else B5 E 0 l) [(0, Cs E ty l)]) {no : Nat → Prop} {w : World} (hn : ∀ b, no b → b < w.heap.size) (hgl : B2 gl (Fx no w)) {vals : List Value} (hr : Bf (Fx no w) args vals) (n : Nat) :
    CallsIn Fence.wide n P f vals.toArray w (fun e w' => ∃ (b cap : Nat) (arr : Array Value) (vs rest : List Value), e = .returned (bif tup then .tuple (.slice (some ⟨b, 0, none⟩) l.length cap :: ws).toArray else .slice (some ⟨b, 0, none⟩) l.length cap) ∧ Kept w w' ∧ w.heap.size ≤ b ∧ w'.heap[b]? = some (.cells arr ty) ∧ arr.toList = vs ++ rest ∧ Bf (Fx no w') (Ay E l) vs ∧ l.length ≤ cap ∧ cap * E.size ≤ arr.size ∧ cap ≤ maxLen) := by
  have hc1 : Ln (Fx no w) := X2 hn
  refine callsIn_wide.2 ((h.2 w.heap.size (Fx no w) vals hc1.Uh hgl (fun q => q) (fun _ _ h => by cases h) hr).mono ?_)
  rintro e w' ⟨v', c', rfl, rfl, k1, k2, k3, k4, k5, k6⟩
  have hM : c'.M 0 = some ⟨Ay E l, ty⟩ := by
    rw [k4]; show (if 0 = 0 then Cs E ty l else none) = _
    rw [if_pos rfl, C1 hl]
  obtain ⟨arr, vs, rest, q1, q2, q3⟩ := k3.Bh 0 _ hM
  have hlow := (k3.low 0 _ hM).1
  have hk : Kept w c'.w := ⟨k2.os, k2.tape, k2.output, k2.size, fun i hi => k2.Bh i hi (hc1.own i), k2.drawn⟩
  have q3' : Bf (Fx no c'.w) (Ay E l) vs := Bf.Br (c := c') (c0 := Fx no c'.w) rfl (fun i ⟨r1, r2, r3⟩ => ⟨r1, Gv i, fun q => r3 ((k2.no i).2 q)⟩) q3 (Ak l)
  have fin : ∀ {x : Value}, Bb c' (B5 E 0 l) x → ∃ cap, x = .slice (some ⟨c'.f 0, 0, none⟩) l.length cap ∧ l.length ≤ cap ∧ cap * E.size ≤ arr.size ∧ cap ≤ maxLen := by
    intro x hx
    rw [Dx hl] at hx
    cases hx with
    | sl ha hb hs hn hc he hm =>
      rename_i cap' arr0 T0
      rw [hb] at q1
      cases q1
      exact ⟨_, rfl, by omega, by rwa [Nat.zero_add] at hs, hm⟩
  cases tup with
  | false =>
    obtain ⟨cap, rfl, h1, h2, h3⟩ := fin k1
    exact ⟨_, cap, arr, vs, rest, rfl, hk, hlow, q1, q2, q3', h1, h2, h3⟩
  | true =>
    have k1 : Bb c' (.tup (B5 E 0 l :: ws.map AV.sc)) v' := k1
    cases k1 with
    | tup ht =>
      cases ht with
      | cons hx ht =>
        obtain ⟨cap, rfl, h1, h2, h3⟩ := fin hx
        have hws : ∀ {us : List Value} {vs : List Value}, Bf c' (us.map AV.sc) vs → vs = us := by
          intro us
          induction us with
          | nil => intro vs h; cases h; rfl
          | cons u us ih => intro vs h; cases h with | cons h t => cases h; rw [ih t]
        rw [hws ht]
        exact ⟨_, cap, arr, vs, rest, rfl, hk, hlow, q1, q2, q3', h1, h2, h3⟩
end Go.Proofs.YtbfabclpcamlnaaGreatDoor
set_option linter.unusedVariables false
set_option linter.unusedSimpArgs false
namespace Go.Proofs.YtbfabclpcamlnaaGreatDoor
open Go.RowKit Go.Shelf
attribute [local go_sem] Oper.semAt_some
theorem xJ : (Tryz.prog.info? 3).map (fun i => (i.zero, i.size, i.bytes)) = some (some (.int .i64 0), 1, 8) := by kernel_rfl
theorem vX {no : Nat → Prop} {base : Nat} {w : World} {v : Value} {r : List Int} (hn : ∀ b, no b → b < base) (hrow : w.ownsRow base 3 1 v r.length (r.map (Value.int .i64))) : Bb (Fx no w) (Am A2 r) v := by
  rcases hrow.2 with ⟨hv0, hl0⟩ | ⟨gb, cap, cur, rfl, hbg, hg, hle, hmx, hsz, htk⟩
  · rw [hv0, List.eq_nil_of_length_eq_zero hl0]
    exact .D6 none 0 false (fun h => by cases h) (Nat.zero_le _) (fun _ => rfl)
  · refine .Dm (b := gb) (o := 0) (vs := r.map (Value.int .i64)) ⟨B1 hg, Gv _, fun q => ?_⟩ ?_ (fun k u hu => ?_) hle (fun h => by cases h) hmx
    · have := hn gb q
      omega
    · have : ∀ r : List Int, Bf (Fx no w) (Ay A2 r) (r.map (Value.int .i64)) := by
        intro r
        induction r with
        | nil => exact .nil
        | cons x r ih => rw [Da]; exact .cons (.sc _ rfl) ih
      exact this r
    · have := hrow.cells (g := gb) rfl k u hu
      rw [Nat.zero_add]
      rwa [show (⟨gb, 0, none⟩ : Addr).add k = ⟨gb, k, none⟩ by unfold Addr.add; split <;> simp_all] at this
theorem Qy {c : Cx} : ∀ {r : List Int} {vs : List Value}, Bf c (Ay A2 r) vs → vs = r.map (Value.int .i64)
  | [], vs, h => by cases h; rfl
  | x :: r, vs, h => by
    rw [Da] at h
    cases h with
    | cons h t => cases h; rw [Qy t]; rfl
set_option maxRecDepth 100000 in
set_option maxHeartbeats 2000000 in
theorem gC {no : Nat → Prop} {w : World} {o : List Int} {v : Value} (hr : Bb (Fx no w) (Am A2 o) v) (ho : o.length ≤ 1000) (n : Nat) :
    CallsIn Fence.wide n Tryz.prog 113 #[v] w (fun e w' => ∃ v', e = .returned v' ∧ Kept w w' ∧ w'.ownsRow w.heap.size 3 1 v' o.length (o.map (Value.int .i64))) := by
  obtain ⟨i0, hi, hzz⟩ := Option.map_eq_some_iff.1 xJ
  simp only [Prod.mk.injEq] at hzz
  obtain ⟨hz0, hz1, hz2⟩ := hzz
  have key : ∃ a cap, v = .slice a o.length cap ∧ (a = none → o.length = 0) ∧ ∀ ad, a = some ad → ∀ k u, (o.map (Value.int .i64))[k]? = some u → w.cell? (ad.add k) = some u ∧ ad.block < w.heap.size := by
    unfold Am at hr
    generalize hcs : Ay A2 o = cs at hr
    generalize hq : o.length = q at hr
    cases hr with
    | D6 a cap ex he hm hn =>
      have h0 : o = [] := List.eq_nil_of_length_eq_zero hq
      subst h0
      exact ⟨a, cap, rfl, fun _ => rfl, fun ad _ k u hu => by simp at hu⟩
    | Dm hb h hc hn he hm =>
      rename_i b off vs cap
      subst hcs
      have hv := Qy h
      subst hv
      refine ⟨_, _, rfl, (fun h => by cases h), fun ad had k u hu => ?_⟩
      cases had
      refine ⟨?_, hb.1⟩
      have := hc k u hu
      rwa [show (⟨b, off, none⟩ : Addr).add k = ⟨b, off + k, none⟩ by unfold Addr.add; split <;> simp_all]
  obtain ⟨a, cap, rfl, hnil, hcell⟩ := key
  have hq := fun wx => Lib.run_eql_slice_nil (P := Tryz.prog) wx 29 3 a o.length cap 0 0 Tryz.underlying29
  refine callsIn_of_wp Tryz.func113 rfl trivial ?_ rfl
  simp only [Tryz.ntmps113, List.size_toArray, List.length_cons, List.length_nil, Nat.reduceAdd, Nat.reduceSub, Array.replicate_succ, Array.replicate_zero, List.push_toArray, List.append_toArray, List.nil_append, List.cons_append]
  cases a with
  | none =>
    have h0 := hnil rfl
    have h1 : o = [] := List.eq_nil_of_length_eq_zero h0
    subst h1
    simp only [Option.isNone, List.length_nil] at hq
    clear hcell
    gi_wp2
    go_ret
    exact ⟨_, rfl, Kept.refl _, by simpa using World.ownsRow_nil _ _ _ _⟩
  | some ad =>
    simp only [Option.isNone] at hq
    have hc := hcell ad rfl
    clear hcell hnil
    gi_wp2_with (gi_at_builtin; refine X8 _ rfl _ _ 29 rfl w.heap.size 3 i0 (.int .i64 0) 1 8 Tryz.underlying29 hi hz0 hz1 hz2 rfl (by decide) _ 0 [] rfl ?c0 ad o.length cap (o.map (Value.int .i64)) rfl ?c1 ?c2 ?c3 ?c4 ?c5 ?c6 ?_)
    case c0 => exact ⟨by simp, .inr ⟨_, _, _, rfl, Nat.le_refl _, World.alloc_heap_new _ _, Nat.le_refl _, by decide, rfl, rfl⟩⟩
    case c1 => simp
    case c2 =>
      intro j u hj
      obtain ⟨q1, q2⟩ := hc j u hj
      rw [← q1]
      have hb : (ad.add j).block = ad.block := by unfold Addr.add; split <;> rfl
      exact World.cell?_alloc_lt _ _ _ (by rw [hb]; exact q2)
    case c3 =>
      intro u hu
      obtain ⟨k, hk, rfl⟩ := List.mem_map.1 hu
      rfl
    case c4 => simp only [maxLen]; omega
    case c5 => omega
    case c6 => simp
    intro v' w1 hown hgrow hiff hdr
    gi_wp2
    go_ret
    refine ⟨v', rfl, ⟨hgrow.os, hgrow.tape, hgrow.output, by have := hgrow.size; simp at this; omega, fun k hk => (hgrow.block k (by simp; omega) (fun e => by simp [Value.ownBlock] at e; omega)).trans (Below.heap_alloc _ _ k hk), Pd hdr⟩, by simpa using hown⟩
end Go.Proofs.YtbfabclpcamlnaaGreatDoor
set_option linter.unusedVariables false
set_option linter.unusedSimpArgs false
namespace Go.Proofs.YtbfabclpcamlnaaGreatDoor
open Go.RowKit Go.Shelf
attribute [local go_sem] Oper.semAt_some
theorem Kz {c : Cx} {o : List Int} {v : Value} (hr : Bb c (Am A2 o) v) : ∃ a cap, v = .slice a o.length cap := by
  unfold Am at hr
  generalize hcs : Ay A2 o = cs at hr
  generalize hq : o.length = q at hr
  cases hr with
  | D6 a cap ex he hm hn => exact ⟨_, _, rfl⟩
  | Dm hb h hc hn he hm => exact ⟨_, _, rfl⟩
theorem Us {c : Cx} {b : Bool} {v : Value} (h : Bb c (Ac b) v) : v = .bool b := by cases h; rfl
theorem Afk (w : World) (x : Value) (T : TypeId) : ∀ j u, ([x] : List Value)[j]? = some u → (w.alloc (.cells #[x] T)).cell? ((⟨w.heap.size, 0, none⟩ : Addr).add j) = some u := by
  intro j u hu
  have hh : (w.alloc (.cells #[x] T)).heap[w.heap.size]? = some (.cells #[x] T (0, 0)) := World.alloc_heap_new w _
  rw [show (⟨w.heap.size, 0, none⟩ : Addr).add j = ⟨w.heap.size, j, none⟩ by unfold Addr.add; split <;> simp_all]
  match j, hu with
  | 0, hu => simp only [World.cell?, hh]; simpa using hu
  | j + 1, hu => simp at hu
theorem Zn {w w3 w4 : World} {o : Obj} {row : Option Nat} (hk : Kept w w3) (hg : (w3.alloc o).grownBy w4 row) (hr : ∀ b, row = some b → w.heap.size ≤ b) (hd : w3.drawn ≤ w4.drawn) : Kept w w4 := by
  have hs := hk.size
  refine ⟨hg.os.trans hk.os, hg.tape.trans hk.tape, hg.output.trans hk.output, by have := hg.size; simp at this; omega, fun k hlt => ?_, Nat.le_trans hk.drawn (Pd hd)⟩
  exact (hg.block k (by simp; omega) (fun e => by have := hr k e.symm; omega)).trans ((Below.heap_alloc _ _ k (by omega)).trans (hk.Bh k hlt))
set_option maxRecDepth 100000 in
set_option maxHeartbeats 4000000 in
theorem Tv {σ : Type} {N : Nat} (hN : N ≤ 8) {no : Nat → Prop} {caps : Array Value} {vis : σ → List Int → Option σ} {J : σ → World → Prop} (hJ : ∀ s A B, J s A → Kept A B → J s B) {noG : Nat → Prop} (hNo : ∀ b, noG b → no b) (hG : ∀ s w, J s w → B2 KK.gl (Fx noG w))
    (hC : ∀ (o : List Int) (i : Int), o.length ≤ 8 → C3 Tryz.prog KK.gl 112 [Am A2 o, Aa i] (Ac (decide (i ∈ o))))
    (hV : ∀ (n : Nat) (s r : σ) (o : List Int) (v : Value) (w : World), o.length = N → (∀ b, no b → b < w.heap.size) → Bb (Fx no w) (Am A2 o) v → J s w → vis s o = some r → CallsIn Fence.wide n Tryz.prog 41 (#[v] ++ caps) w fun e w' => (∃ u, e = .returned u) ∧ J r w' ∧ Mm no w w') :
    ∀ (k n : Nat) (o : List Int) (s r : σ) (v : Value) (w : World), o.length + k = N → (∀ b, no b → b < w.heap.size) → Bb (Fx no w) (Am A2 o) v → J s w → Wp N vis k o s = some r →
      CallsIn Fence.wide n Tryz.prog 40 #[.int .i64 N, v, .func (.func 41) #[] caps] w fun e w' => e = .returned (.tuple #[]) ∧ J r w' ∧ Mm no w w'
  | 0, n, o, s, r, v, w, hk, hn, hr, hs, hg => by
    have hlen : o.length = N := by omega
    obtain ⟨a, cap, hve⟩ := Kz hr
    rw [hlen] at hve
    subst hve
    have hv := fun n => hV n s r o _ w hlen hn hr hs hg
    clear hV hC hJ hG
    refine callsIn_of_wp Tryz.func40 rfl trivial ?_ rfl
    simp only [Tryz.ntmps40, List.size_toArray, List.length_cons, List.length_nil, Nat.reduceAdd, Nat.reduceSub, Array.replicate_succ, Array.replicate_zero, List.push_toArray, List.append_toArray, List.nil_append, List.cons_append]
    gi_wp2_with (refine ⟨trivial, (fun h => by cases h), ?_⟩; refine (hv _).mono ?_; rintro e w1 ⟨⟨u, rfl⟩, h1, h2⟩)
    refine bodyPost_ret (results_none rfl _ _ _) rfl ?_
    exact ⟨rfl, h1, h2⟩
  | k + 1, n, o, s, r, v, w, hk, hn, hr, hs, hg => by
    have IH := Tv hN hJ hNo hG hC hV k
    obtain ⟨a, cap, rfl⟩ := Kz hr
    clear hV
    have hlen : ¬ o.length = N := by omega
    have hbq : ((o.length : Int) == (N : Int)) = false := beq_eq_false_iff_ne.2 (by omega)
    unfold Wp at hg
    have hcon := fun i => hC o i (by omega)
    clear hC
    obtain ⟨i0, hi, hzz⟩ := Option.map_eq_some_iff.1 xJ
    simp only [Prod.mk.injEq] at hzz
    obtain ⟨hz0, hz1, hz2⟩ := hzz
    generalize hfd : (fun (s : σ) (i : Nat) => if (i : Int) ∈ o then some s else Wp N vis k (o ++ [(i : Int)]) s) = fd at hg
    refine callsIn_of_wp Tryz.func40 rfl trivial ?_ rfl
    simp only [Tryz.ntmps40, List.size_toArray, List.length_cons, List.length_nil, Nat.reduceAdd, Nat.reduceSub, Array.replicate_succ, Array.replicate_zero, List.push_toArray, List.append_toArray, List.nil_append, List.cons_append]
    gi_wp2
    gi_loopw [15] (fun i wr => ∃ (j : Nat) (sj : σ), j ≤ N ∧ i = .int .i64 j ∧ J sj wr ∧ Mm no w wr ∧ ((List.range N).drop j).foldlM fd sj = some r) (fun i _ => N - (intOf i).toNat)
    case atStart => exact ⟨0, s, Nat.zero_le _, rfl, hs, Mm.refl _ _, hg⟩
    case round =>
      obtain ⟨j, sj, hj, rfl, hJs, hkn, hfo⟩ := hrel
      by_cases hlt : j < N
      · have hlt' : (j : Int) < (N : Int) := by omega
        have hn1 : ∀ b, no b → b < wr.heap.size := fun b hb => Nat.lt_of_lt_of_le (hn b hb) hkn.size
        have hr1 := hkn.rel hr (Ct _ _)
        rw [List.drop_eq_getElem_cons (by simpa using hlt), List.foldlM_cons, List.getElem_range] at hfo
        obtain ⟨s1, hs1, hfo2⟩ := Option.bind_eq_some_iff.1 hfo
        clear hfo
        have hc := bR (hcon (j : Int)) (fun b hb => hn1 b (hNo b hb)) (hG _ _ hJs) (.cons (Ox hr1 (Ct _ _) (fun b _ q => hNo b q)) (.cons (.sc _ rfl) .nil))
        by_cases hm : (j : Int) ∈ o
        · have e : s1 = sj := by rw [← hfd] at hs1; simp only [if_pos hm, Option.some.injEq] at hs1; exact hs1.symm
          subst e
          gi_wp2_with (refine ⟨trivial, (fun h => by cases h), ?_⟩; gi_at_call 112; refine (hc _).mono ?_; rintro e w1 ⟨v1, rfl, hk1, hv1⟩; obtain rfl := Us hv1; rw [decide_eq_true hm])
          go_roundw
          case rel => exact ⟨j + 1, s1, hlt, by rw [show (j : Int) + 1 = ((j + 1 : Nat) : Int) by omega], hJ _ _ _ hJs hk1, hkn.trans (hk1.Ms no), hfo2⟩
          case measure => simp [intOf]; omega
        · have hs1 : Wp N vis k (o ++ [(j : Int)]) sj = some s1 := by rw [← hfd] at hs1; simpa only [if_neg hm] using hs1
          gi_wp2_with (first
            | (refine ⟨trivial, (fun h => by cases h), ?_⟩; gi_at_call 112; refine (hc _).mono ?_; rintro e w1 ⟨v1, rfl, hk1, hv1⟩; obtain rfl := Us hv1; rw [decide_eq_false hm]; have hr2 := (hk1.Ms no).rel hr1 (Ct _ _); have hcl := gC hr2 (by omega))
            | (refine ⟨trivial, (fun h => by cases h), ?_⟩; gi_at_call 113; refine (hcl _).mono ?_; rintro e w2 ⟨v2, rfl, hk2, hrow2⟩)
            | (gi_at_builtin; refine X8 _ rfl _ _ 29 rfl w1.heap.size 3 i0 (.int .i64 0) 1 8 Tryz.underlying29 hi hz0 hz1 hz2 rfl (by decide) v2 o.length (o.map (Value.int .i64)) rfl (hrow2.alloc _) ⟨w2.heap.size, 0, none⟩ 1 1 [.int .i64 (j : Int)] rfl rfl (Afk _ _ _) (by intro u hu; simp at hu; subst hu; rfl) (by simp only [maxLen]; omega) (by omega) (by have := hk2.size; simp; omega) ?_; intro v3 w3 hown3 hgrow3 _ hdr3)
            | (refine ⟨trivial, (fun h => by cases h), ?_⟩; gi_at_call 40))
          have hkk : Kept wr w3 := Zn (hk1.trans hk2) hgrow3 (fun b hb => by
            have := hrow2.2
            rcases this with ⟨q, -⟩ | ⟨g, c3, cur, q, q2, -⟩
            · rw [q] at hb; cases hb
            · rw [q] at hb; cases hb; exact Nat.le_trans hk1.size q2) hdr3
          have hown3 : w3.ownsRow w1.heap.size 3 1 v3 (o ++ [(j : Int)]).length ((o ++ [(j : Int)]).map (Value.int .i64)) := by
            have e1 : (o ++ [(j : Int)]).length = o.length + 1 := by simp
            have e2 : (o ++ [(j : Int)]).map (Value.int .i64) = o.map (Value.int .i64) ++ [.int .i64 (j : Int)] := by simp
            rw [e1, e2]; exact hown3
          have hn3 : ∀ b, no b → b < w3.heap.size := fun b hb => Nat.lt_of_lt_of_le (hn1 b hb) hkk.size
          have hrel3 : Bb (Fx no w3) (Am A2 (o ++ [(j : Int)])) v3 := vX (fun b hb => Nat.lt_of_lt_of_le (hn1 b hb) hk1.size) hown3
          have hcall := IH (n - 1) (o ++ [(j : Int)]) sj s1 v3 w3 (by simp; omega) hn3 hrel3 (hJ _ _ _ hJs hkk) hs1
          refine hcall.mono ?_
          rintro e w4 ⟨rfl, hJ4, hk4⟩
          gi_wp2
          go_roundw
          case rel => exact ⟨j + 1, s1, hlt, by rw [show (j : Int) + 1 = ((j + 1 : Nat) : Int) by omega], hJ4, (hkn.trans (hkk.Ms no)).trans hk4, hfo2⟩
          case measure => simp [intOf]; omega
      · obtain rfl : j = N := by omega
        have hlt' : ¬ (j : Int) < (j : Int) := by omega
        gi_wp2
        go_end0
        have e : sj = r := by
          rw [List.drop_eq_nil_of_le (by simp)] at hfo
          exact Option.some.inj hfo
        rw [← e]
        exact ⟨rfl, hJs, hkn⟩
end Go.Proofs.YtbfabclpcamlnaaGreatDoor
set_option linter.unusedVariables false
set_option linter.unusedSimpArgs false
namespace Go.Proofs.YtbfabclpcamlnaaGreatDoor
open Go.RowKit Go.Shelf
def Rl (t : Ao) : Array Value := #[.int .i64 t.Cf, .int .i64 t.Ce, .int .i64 t.Ci, .int .i64 t.Cn, .int .i64 t.Cd, .int .i64 t.Cl, .int .i64 t.Cr, .int .i64 t.Co, .int .i64 t.Cm, .int .i64 t.Ck, .int .i64 t.Ch, .int .i64 t.Cg, .int .i64 t.Cb, .int .i64 t.Cj, .int .i64 t.Cq, .int .i64 t.Cp]
theorem Vw (c : Cx) (t : Ao) : Bb c (AV.agg [(Aa t.Cf), (Aa t.Ce), (Aa t.Ci), (Aa t.Cn), (Aa t.Cd), (Aa t.Cl), (Aa t.Cr), (Aa t.Co), (Aa t.Cm), (Aa t.Ck), (Aa t.Ch), (Aa t.Cg), (Aa t.Cb), (Aa t.Cj), (Aa t.Cq), (Aa t.Cp)]) (.agg (Rl t)) := by
  refine Bb.agg (vs := [.int .i64 t.Cf, .int .i64 t.Ce, .int .i64 t.Ci, .int .i64 t.Cn, .int .i64 t.Cd, .int .i64 t.Cl, .int .i64 t.Cr, .int .i64 t.Co, .int .i64 t.Cm, .int .i64 t.Ck, .int .i64 t.Ch, .int .i64 t.Cg, .int .i64 t.Cb, .int .i64 t.Cj, .int .i64 t.Cq, .int .i64 t.Cp]) ?_
  repeat (first | exact .nil | refine .cons (.sc _ rfl) ?_)
abbrev Bx (w : World) (b : Nat) (T : TypeId) (v : Value) : Prop := w.heap[b]? = some (.cells #[v] T (0, 0))
theorem Bx.cell {w : World} {b : Nat} {T : TypeId} {v : Value} (h : Bx w b T v) : w.cell? ⟨b, 0, none⟩ = some v := by unfold Bx at h; simp [World.cell?, h]
theorem Bx.frozen {w : World} {b : Nat} {T : TypeId} {v : Value} (h : Bx w b T v) : w.frozen? ⟨b, 0, none⟩ = false := by unfold Bx at h; simp [World.frozen?, h]
theorem fU {w : World} {g : Nat} {cur : Array Value} {T : TypeId} (h : w.heap[g]? = some (.cells cur T (0, 0))) (k : Nat) (v : Value) : (w.setCell ⟨g, k, none⟩ v).heap[g]? = some (.cells (cur.setIfInBounds k v) T (0, 0)) := by
  unfold World.setCell
  simp only [Array.getElem?_modify, h]
  simp
theorem Bx.set {w : World} {b : Nat} {T : TypeId} {v : Value} (h : Bx w b T v) (u : Value) : Bx (w.setCell ⟨b, 0, none⟩ u) b T u := by
  have := fU h 0 u
  unfold Bx
  rw [this]
  rfl
theorem Bx.other {w : World} {b : Nat} {T : TypeId} {v : Value} (h : Bx w b T v) {k : Nat} (hk : b ≠ k) (u : Value) : Bx (w.setCell ⟨k, 0, none⟩ u) b T v := by
  unfold Bx at *; rw [Below.heap_setCell _ _ _ _ hk]; exact h
theorem K4 {c : Cx} {z : Int} {v : Value} (h : Bb c (Aa z) v) : v = .int .i64 z := by cases h; rfl
theorem kM {c : Cx} {x : List Int} {q : Bool} {v : Value} (h : Bb c (.tup [Am A2 x, Ac q]) v) : ∃ a cap, v = .tuple #[.slice a x.length cap, .bool q] := by
  cases h with
  | tup h =>
    cases h with
    | cons h1 t =>
      cases t with
      | cons h2 t =>
        cases t
        obtain ⟨a, cap, rfl⟩ := Kz h1
        obtain rfl := Us h2
        exact ⟨a, cap, rfl⟩
structure Pm (no : Nat → Prop) (bl bt bn bm : Nat) (l : List Ad) (t : Ao) (nat : List Int) (most : Int) (w : World) : Prop where
  nl : ¬ no bl
  nt : ¬ no bt
  nn : ¬ no bn
  nm : ¬ no bm
  hl : ∃ lv, Bx w bl 22 lv ∧ Bb (Fx no w) (Am Ad.E l) lv
  ht : w.heap[bt]? = some (.cells (Rl t) 25 (0, 0))
  hn : ∃ nv, Bx w bn 29 nv ∧ Bb (Fx no w) (Am A2 nat) nv
  hm : Bx w bm 3 (.int .i64 most)
theorem Pm.step {no : Nat → Prop} {bl bt bn bm : Nat} {l : List Ad} {t : Ao} {nat : List Int} {most : Int} {w w' : World} (h : Pm no bl bt bn bm l t nat most w) (k : Mm no w w') : Pm no bl bt bn bm l t nat most w' := by
  obtain ⟨h1, h2, h3, h4, ⟨lv, h5, h6⟩, h7, ⟨nv, h8, h9⟩, h10⟩ := h
  exact ⟨h1, h2, h3, h4, ⟨lv, (k.Bh _ (B1 h5) h1).trans h5, k.rel h6 (Ct _ _)⟩, (k.Bh _ (B1 h7) h2).trans h7, ⟨nv, (k.Bh _ (B1 h8) h3).trans h8, k.rel h9 (Ct _ _)⟩, (k.Bh _ (B1 h10) h4).trans h10⟩
def wE (w : World) (b : Nat) (v : Value) (x : List Int) : Prop := ∃ (cap : Nat) (arr : Array Value) (rest : List Value), v = .slice (some ⟨b, 0, none⟩) x.length cap ∧ w.heap[b]? = some (.cells arr 3 (0, 0)) ∧ arr.toList = x.map (Value.int .i64) ++ rest ∧ x.length ≤ cap ∧ cap ≤ arr.size ∧ cap ≤ maxLen
structure BJ (D : Nat) (no : Nat → Prop) (s : Lv) (w : World) : Prop where
  size : D + 4 ≤ w.heap.size
  box : ∃ (bv av : Value) (e z : Int), Bx w D 29 bv ∧ Bx w (D + 1) 29 av ∧ Bx w (D + 2) 3 (.int .i64 e) ∧ Bx w (D + 3) 3 (.int .i64 z) ∧
    ((s = none ∧ bv = .slice none 0 0) ∨ ∃ o x, s = some (o, x, e, z) ∧ o ≠ [] ∧ x ≠ [] ∧ ∃ b, D + 4 ≤ b ∧ wE w b av x ∧ Bb (Fx (fun k => no k ∨ k = b) w) (Am A2 o) bv)
theorem BJ.kept {D : Nat} {no : Nat → Prop} {s : Lv} {w w' : World} (h : BJ D no s w) (k : Kept w w') : BJ D no s w' := by
  obtain ⟨h0, bv, av, e, z, h1, h2, h3, h4, h5⟩ := h
  refine ⟨Nat.le_trans h0 k.size, bv, av, e, z, (k.Bh _ (B1 h1)).trans h1, (k.Bh _ (B1 h2)).trans h2, (k.Bh _ (B1 h3)).trans h3, (k.Bh _ (B1 h4)).trans h4, ?_⟩
  rcases h5 with h5 | ⟨o, x, q1, q2, q3, b, q4, ⟨cap, arr, rest, r1, r2, r3⟩, q6⟩
  · exact .inl h5
  · exact .inr ⟨o, x, q1, q2, q3, b, q4, ⟨cap, arr, rest, r1, (k.Bh _ (B1 r2)).trans r2, r3⟩, (k.Ms _).rel q6 (Ct _ _)⟩
theorem Mm.mono {no no' : Nat → Prop} {w w' : World} (h : Mm no w w') (hs : ∀ k, no k → no' k) : Mm no' w w' := ⟨h.os, h.tape, h.output, h.size, fun k hk hb => h.Bh k hk (fun q => hb (hs k q)), h.drawn⟩
theorem aB {D : Nat} {no no2 : Nat → Prop} (h12 : ∀ k, no k → no2 k) (hno : ∀ k, no k ↔ D ≤ k ∧ k < D + 4) {w wr : World} {o x : List Int} {v bv av : Value} {e z e0 z0 : Int} {b cap : Nat} (hD : D + 4 ≤ w.heap.size) (hkw : Kept w wr)
    (g1 : Bx wr D 29 bv) (g2 : Bx wr (D + 1) 29 av) (g3 : Bx wr (D + 2) 3 (.int .i64 e0)) (g4 : Bx wr (D + 3) 3 (.int .i64 z0)) (hb : w.heap.size ≤ b) (hrow : wE wr b (.slice (some ⟨b, 0, none⟩) x.length cap) x)
    (hr : Bb (Fx no2 w) (Am A2 o) v) (ho : o ≠ []) (hx : x ≠ []) :
    BJ D no2 (some (o, x, e, z)) ((((wr.setCell ⟨D, 0, none⟩ v).setCell ⟨D + 1, 0, none⟩ (.slice (some ⟨b, 0, none⟩) x.length cap)).setCell ⟨D + 2, 0, none⟩ (.int .i64 e)).setCell ⟨D + 3, 0, none⟩ (.int .i64 z)) ∧
    Mm no w ((((wr.setCell ⟨D, 0, none⟩ v).setCell ⟨D + 1, 0, none⟩ (.slice (some ⟨b, 0, none⟩) x.length cap)).setCell ⟨D + 2, 0, none⟩ (.int .i64 e)).setCell ⟨D + 3, 0, none⟩ (.int .i64 z)) := by
  have hs := hkw.size
  have hk : Mm no w ((((wr.setCell ⟨D, 0, none⟩ v).setCell ⟨D + 1, 0, none⟩ (.slice (some ⟨b, 0, none⟩) x.length cap)).setCell ⟨D + 2, 0, none⟩ (.int .i64 e)).setCell ⟨D + 3, 0, none⟩ (.int .i64 z)) :=
    ((((hkw.Ms no).setCell _ (.inl ((hno _).2 ⟨by show D ≤ D; omega, by show D < D + 4; omega⟩)) _).setCell _ (.inl ((hno _).2 ⟨by show D ≤ D + 1; omega, by show D + 1 < D + 4; omega⟩)) _).setCell _ (.inl ((hno _).2 ⟨by show D ≤ D + 2; omega, by show D + 2 < D + 4; omega⟩)) _).setCell _ (.inl ((hno _).2 ⟨by show D ≤ D + 3; omega, by show D + 3 < D + 4; omega⟩)) _
  refine ⟨⟨by simp; omega, v, _, e, z, (((g1.set v).other (by omega) _).other (by omega) _).other (by omega) _, ((((g2.other (by omega) _).set _).other (by omega) _).other (by omega) _), ((((g3.other (by omega) _).other (by omega) _).set _).other (by omega) _), ((((g4.other (by omega) _).other (by omega) _).other (by omega) _).set _), .inr ⟨o, x, rfl, ho, hx, b, by omega, ?_, ?_⟩⟩, hk⟩
  · obtain ⟨cap', arr, rest, q1, q2, q3⟩ := hrow
    refine ⟨cap', arr, rest, q1, ?_, q3⟩
    rw [Below.heap_setCell _ _ _ _ (by show b ≠ D + 3; omega), Below.heap_setCell _ _ _ _ (by show b ≠ D + 2; omega), Below.heap_setCell _ _ _ _ (by show b ≠ D + 1; omega), Below.heap_setCell _ _ _ _ (by show b ≠ D; omega)]
    exact q2
  · exact (hk.mono (fun k q => .inl (h12 k q))).rel (Ox hr (Ct _ _) (fun k hk q => q.elim id (fun e => by omega))) (Ct _ _)
theorem Na {α : Type} {E : En α} {no : Nat → Prop} {w : World} {l : List α} {v : Value} (h : Bb (Fx no w) (Am E l) v) (hl : l ≠ []) : ∃ b off cap, v = .slice (some ⟨b, off, none⟩) l.length cap ∧ b < w.heap.size ∧ ¬ no b ∧ ∀ (i : Nat) (x : α), l[i]? = some x → ∀ (j : Nat) (u : Value), j < E.size → (E.enc x)[j]? = some (.sc u) → w.cell? ⟨b, off + (i * E.size + j), none⟩ = some u := by
  unfold Am at h
  generalize hcs : Ay E l = cs at h
  generalize hq : l.length = q at h
  cases h with
  | D6 a cap ex he hm hn => exact absurd (List.eq_nil_of_length_eq_zero hq) hl
  | Dm hb h hc hn he hm =>
    refine ⟨_, _, _, rfl, hb.1, hb.2.2, fun i x hx j u hj hu => ?_⟩
    subst hcs
    have h1 := K0 (E := E) hx j hj
    rw [hu] at h1
    obtain ⟨v', g1, g2⟩ := h.get h1
    cases g2
    exact hc _ _ g1
theorem Kept.drew {w w' : World} (h : Kept w w') : Kept w w'.drew := ⟨h.os, h.tape, h.output, h.size, h.Bh, Nat.le_trans h.drawn (Pd (Nat.le_succ _))⟩
theorem Kept.drewN {w w' : World} (h : Kept w w') (n : Nat) : Kept w (w'.drewN n) := ⟨h.os, h.tape, h.output, h.size, h.Bh, Nat.le_trans h.drawn (Pd (Nat.le_add_right _ _))⟩
theorem Nf {P : Program} {gl : Nat → Option (List AV)} {f : FuncId} {args : List AV} {v : AV} (h : C3 P gl f args v) {no : Nat → Prop} {w : World} (hn : ∀ b, no b → b < w.heap.size) (hgl : B2 gl (Fx no w)) {vals : List Value} (hr : Bf (Fx no w) args vals) (W : World) (hk : Kept w W) :
    Calls P f vals.toArray W (fun e w' => ∃ v', e = .returned v' ∧ Kept w w' ∧ Bb (Fx no w') v v') :=
  (callsIn_wide.1 (bR h (fun b hb => Nat.lt_of_lt_of_le (hn b hb) hk.size) (hgl.Ms (hk.Ms no)) ((hk.Ms no).yE hr h.1) 0)).mono fun e w' ⟨v', h1, h2, h3⟩ => ⟨v', h1, hk.trans h2, h3⟩
theorem Kept.cell {w w' : World} (h : Kept w w') {a : Addr} (ha : a.block < w.heap.size) : w'.cell? a = w.cell? a := by simp [World.cell?, h.Bh _ ha]
set_option maxRecDepth 100000 in
set_option maxHeartbeats 4000000 in
theorem pB {D bl bt bn bm : Nat} {no no2 : Nat → Prop} (h12 : ∀ k, no k → no2 k) (hno : ∀ k, no k ↔ D ≤ k ∧ k < D + 4) {l : List Ad} {t : Ao} {nat : List Int} {most : Int} (n0 : Nat) (s r : Lv) (o : List Int) (v : Value) (w : World) (hG : B2 KK.gl (Fx no w)) (ho : o ≠ []) (ho8 : o.length ≤ 8)
    (hn : ∀ b, no b → b < w.heap.size) (hr : Bb (Fx no2 w) (Am A2 o) v) (hB : BJ D no2 s w) (hE : Pm no bl bt bn bm l t nat most w) (hv : jQ n0 l t nat most s o = some r) :
    Calls Tryz.prog 41 #[v, .pointer (some ⟨bl, 0, none⟩), .pointer (some ⟨bt, 0, none⟩), .pointer (some ⟨bn, 0, none⟩), .pointer (some ⟨bm, 0, none⟩), .pointer (some ⟨D, 0, none⟩), .pointer (some ⟨D + 2, 0, none⟩), .pointer (some ⟨D + 3, 0, none⟩), .pointer (some ⟨D + 1, 0, none⟩)] w
      fun e w' => (∃ u, e = .returned u) ∧ (BJ D no2 r w' ∧ Pm no bl bt bn bm l t nat most w') ∧ Mm no w w' := by
  have hr2 := hr
  replace hr := Ox hr (Ct _ _) (fun k _ q => h12 k q)
  unfold jQ at hv
  obtain ⟨⟨x, q⟩, hx, hv⟩ := Option.bind_eq_some_iff.1 hv
  simp only at hv
  obtain ⟨lv, hl1, hl2⟩ := hE.hl
  obtain ⟨nv, hv1, hv2⟩ := hE.hn
  have hl0 := hl1.cell
  have hn0 := hv1.cell
  have hm0 := hE.hm.cell
  have ht0 : ∀ k u, (Rl t)[k]? = some u → w.cell? ⟨bt, k, none⟩ = some u := fun k u hu => by simp [World.cell?, hE.ht, hu]
  have t0 := ht0 0 _ rfl; have t1 := ht0 1 _ rfl; have t2 := ht0 2 _ rfl; have t3 := ht0 3 _ rfl; have t4 := ht0 4 _ rfl; have t5 := ht0 5 _ rfl; have t6 := ht0 6 _ rfl; have t7 := ht0 7 _ rfl
  have t8 := ht0 8 _ rfl; have t9 := ht0 9 _ rfl; have t10 := ht0 10 _ rfl; have t11 := ht0 11 _ rfl; have t12 := ht0 12 _ rfl; have t13 := ht0 13 _ rfl; have t14 := ht0 14 _ rfl; have t15 := ht0 15 _ rfl
  clear ht0
  have fin : ∀ w', Kept w w' → r = s → (BJ D no2 r w' ∧ Pm no bl bt bn bm l t nat most w') ∧ Mm no w w' := fun w' hk e => ⟨⟨e ▸ hB.kept hk, hE.step (hk.Ms no)⟩, hk.Ms no⟩
  have hc := Nf (Afz hx) hn hG (.cons hl2 (.cons hr (.cons (Vw _ t) .nil)))
  cases q with
  | false =>
    have e : r = s := by simpa using hv.symm
    go_enter Tryz.func41, Tryz.ntmps41
    go_wp2_with (go_at_call 42; refine (hc _ (Kept.refl w)).mono ?_; rintro e w1 ⟨v1, rfl, hk1, hvt⟩; obtain ⟨a1, cap1, rfl⟩ := kM hvt)
    go_quiet (fail)
    go_wp2
    refine bodyPost_ret (results_none rfl _ _ _) rfl ?_
    exact ⟨⟨_, rfl⟩, fin _ (hk1.drewN _) e⟩
  | true =>
  simp only [Bool.not_true, cond_false] at hv
  obtain ⟨d, hd, hv⟩ := Option.bind_eq_some_iff.1 hv
  have hs := Nf (zQ hd) hn hG (.cons hv2 (.cons hr .nil))
  by_cases hdm : most < d
  · rw [decide_eq_true (show d > most from hdm), cond_true] at hv
    have e : r = s := (Option.some.inj hv).symm
    have hdd : decide (most < d) = true := decide_eq_true hdm
    go_enter Tryz.func41, Tryz.ntmps41
    go_wp2_with (go_at_call 42; refine (hc _ (Kept.refl w)).mono ?_; rintro e w1 ⟨v1, rfl, hk1, hvt⟩; obtain ⟨a1, cap1, rfl⟩ := kM hvt)
    have hn1 := (hk1.cell (a := ⟨bn, 0, none⟩) (B1 hv1)).trans hn0
    have hm1 := (hk1.cell (a := ⟨bm, 0, none⟩) (B1 hE.hm)).trans hm0
    go_region_with (go_at_call 43; refine (hs _ ?_).mono ?_; (repeat (first | exact hk1 | refine Kept.drew ?_)); rintro e w2 ⟨v2, rfl, hk2, hv3⟩; obtain rfl := K4 hv3; have hm2 := (hk2.cell (a := ⟨bm, 0, none⟩) (B1 hE.hm)).trans hm0)
    all_goals
      go_wp2
      refine bodyPost_ret (results_none rfl _ _ _) rfl ?_
      exact ⟨⟨_, rfl⟩, fin _ hk2 e⟩
  · rw [decide_eq_false (show ¬ d > most from hdm), cond_false] at hv
    obtain ⟨e, he, hv⟩ := Option.bind_eq_some_iff.1 hv
    obtain ⟨z, hz, hv⟩ := Option.bind_eq_some_iff.1 hv
    have hdd : decide (most < d) = false := decide_eq_false hdm
    have hxe : x ≠ [] := by rintro rfl; simp at he
    clear hc
    have hc := callsIn_wide.1 (vW (tup := true) (ws := [Value.bool true]) hxe (Ad2 hx) hn hG (.cons hl2 (.cons hr (.cons (Vw _ t) .nil))) 0)
    simp only [cond_true] at hc
    have hle : l ≠ [] := by
      rintro rfl
      cases o with
      | nil => exact ho rfl
      | cons k o => cases x with
        | nil => exact hxe rfl
        | cons y x => simp [P2, Bt] at hz
    obtain ⟨m, hm⟩ : ∃ m, x.length = m + 1 := ⟨x.length - 1, by cases x with | nil => exact absurd rfl hxe | cons y x => simp⟩
    have hxm : x[m]? = some e := by rw [List.getLast?_eq_getElem?, hm] at he; exact he
    have HXM := Lib.hid hxm
    clear hxm he
    have hr0 := hr2
    clear hr2
    obtain ⟨bo, oo, capo, rfl, hbo, hboN, hoc⟩ := Na hr ho
    obtain ⟨ba, la, capl, rfl, hba, hbaN, hlc⟩ := Na hl2 hle
    rw [hm] at hc
    go_enter Tryz.func41, Tryz.ntmps41
    go_wp2_with (go_at_call 42; refine hc.mono ?_; rintro e9 w1 ⟨b, cap, arr, vs, rest, rfl, hk1, hb1, hb2, hb3, hb4, hb5, hb6, hb7⟩)
    have hn1 := (hk1.cell (a := ⟨bn, 0, none⟩) (B1 hv1)).trans hn0
    have hm1 := (hk1.cell (a := ⟨bm, 0, none⟩) (B1 hE.hm)).trans hm0
    have hs1 := Nf (zQ hd) (fun b hb => Nat.lt_of_lt_of_le (hn b hb) hk1.size) (hG.Ms (hk1.Ms no)) ((hk1.Ms no).yE (.cons hv2 (.cons hr .nil)) (by simp [As, clean, Ak]))
    go_region_with (go_at_call 43; refine (hs1 _ ?_).mono ?_; (repeat (first | exact Kept.refl _ | refine Kept.drew ?_)); rintro e9 w2 ⟨v2, rfl, hk12, hv3⟩; obtain rfl := K4 hv3; have hm2 := (hk12.cell (a := ⟨bm, 0, none⟩) (Nat.lt_of_lt_of_le (B1 hE.hm) hk1.size)).trans hm1)
    all_goals
      have hk2 : Kept w w2 := hk1.trans hk12
      clear hs hs1 hc t0 t1 t2 t3 t4 t5 t6 t7 t8 t9 t10 t11 t12 t13 t14 t15
      have hvs := Qy hb4
      subst hvs
      have hbx : ∀ (j : Nat) (y : Int), x[j]? = some y → w2.cell? ⟨b, j, none⟩ = some (.int .i64 y) := fun j y hy => by
        have h1 : w2.heap[b]? = _ := (hk12.Bh b (B1 hb2)).trans hb2
        simp only [World.cell?, h1]
        rw [← Array.getElem?_toList, hb3, List.getElem?_append_left (by have := (List.getElem?_eq_some_iff.1 hy).1; simpa using this)]
        simp [hy]
      have hxm2 := hbx m e HXM.out
      have HBX := Lib.hid hbx
      clear hbx
      have hmx : m + 1 ≤ 9223372036854775807 := by have := hb7; unfold maxLen at this; omega
      have x1 : IntKind.i64.wrap (((m + 1 : Nat) : Int) - 1) = (m : Int) := by rw [wrap64 (by omega) (by omega)]; omega
      have x2 : (m : Int) < ((m + 1 : Nat) : Int) := by omega
      have x3 : (0 : Int) ≤ (m : Int) := by omega
      go_wp2
      go_loopw [13, 40] (fun s i wr => ∃ (j : Nat) (sj : Int), j ≤ o.length ∧ i = .int .i64 j ∧ s = .int .i64 sj ∧ P2 l (o.drop j) (x.drop j) sj = some z ∧ Kept w2 wr) (fun _ i => fun _ => o.length - (intOf i).toNat)
      case atStart => exact ⟨0, 0, Nat.zero_le _, rfl, rfl, hz, Kept.refl _⟩
      case round =>
        obtain ⟨j, sj, hj, rfl, rfl, hsum, hkr⟩ := hrel
        by_cases hlt : j < o.length
        · have hkw : Kept w wr := hk2.trans hkr
          have ek : o[j]? = some o[j] := List.getElem?_eq_getElem hlt
          rw [List.drop_eq_getElem_cons hlt] at hsum
          generalize o[j] = k at ek hsum
          cases hxd : x.drop j with
          | nil => rw [hxd] at hsum; simp [P2] at hsum
          | cons y ys =>
          have hy : x[j]? = some y := by
            have := congrArg (·[0]?) hxd
            simpa using this
          have hys : ys = x.drop (j + 1) := by
            have := congrArg List.tail hxd
            rw [List.tail_drop] at this
            exact this.symm
          rw [hxd] at hsum
          simp only [P2] at hsum
          obtain ⟨a, ha, hsum2⟩ := Option.bind_eq_some_iff.1 hsum
          clear hsum
          obtain ⟨κ, rfl, hκ⟩ : ∃ κ : Nat, k = (κ : Int) ∧ l[κ]? = some a := by
            unfold Bt at ha
            split at ha
            · exact ⟨k.toNat, by omega, ha⟩
            · cases ha
          rw [hys] at hsum2
          simp only [IntWalk.i64_left] at hsum2
          have c1 : wr.cell? ⟨bo, oo + j, none⟩ = some (.int .i64 (κ : Int)) := by
            have := hoc j _ ek 0 (.int .i64 (κ : Int)) (by decide) rfl
            rw [← this]
            show wr.cell? ⟨bo, oo + j, none⟩ = w.cell? ⟨bo, oo + (j * 1 + 0), none⟩
            rw [Nat.mul_one, Nat.add_zero]
            exact hkw.cell hbo
          have c2 : wr.cell? ⟨b, j, none⟩ = some (.int .i64 y) := (hkr.cell (a := ⟨b, j, none⟩) (Nat.lt_of_lt_of_le (B1 hb2) hk12.size)).trans (HBX.out j y hy)
          have c3 : wr.cell? ⟨bl, 0, none⟩ = some (.slice (some ⟨ba, la, none⟩) l.length capl) := (hkw.cell (a := ⟨bl, 0, none⟩) (B1 hl1)).trans hl0
          have c4 : wr.cell? ⟨ba, la + κ * 4 + 2, none⟩ = some (.int .i64 a.Time) := by
            have := hlc κ a hκ 2 (.int .i64 a.Time) (by decide) rfl
            rw [← this]
            show wr.cell? ⟨ba, la + κ * 4 + 2, none⟩ = w.cell? ⟨ba, la + (κ * 4 + 2), none⟩
            rw [Nat.add_assoc]
            exact hkw.cell hba
          have d1 : (j : Int) < (o.length : Int) := by omega
          have d2 : (j : Int) < ((m + 1 : Nat) : Int) := by have := (List.getElem?_eq_some_iff.1 hy).1; omega
          have d3 : (κ : Int) < (l.length : Int) := by have := (List.getElem?_eq_some_iff.1 hκ).1; omega
          go_wp2
          go_quiet (fail)
          go_wp2
          refine ⟨⟨j + 1, _, hlt, by rw [show (j : Int) + 1 = ((j + 1 : Nat) : Int) by omega], rfl, hsum2, hkr.drewN _⟩, by simp [intOf]; omega⟩
        · obtain rfl : j = o.length := by omega
          have hsz : sj = z := by
            rw [List.drop_eq_nil_of_le (Nat.le_refl _)] at hsum
            simpa [P2] using hsum
          subst hsz
          have hlt' : ¬ ((o.length : Nat) : Int) < ((o.length : Nat) : Int) := by omega
          have hkw : Kept w wr := hk2.trans hkr
          have hBr := hB.kept hkw
          obtain ⟨hDs, bv, av, e0, z0, g1, g2, g3, g4, hst⟩ := hBr
          have c1 := g1.cell
          have c2 := g2.cell
          have c3 := g3.cell
          have c4 := g4.cell
          have f1 := g1.frozen
          have f2 := g2.frozen
          have f3 := g3.frozen
          have f4 := g4.frozen
          have hrowx : wE wr b (.slice (some ⟨b, 0, none⟩) x.length cap) x := ⟨cap, arr, rest, rfl, (hkr.Bh b (Nat.lt_of_lt_of_le (B1 hb2) hk12.size)).trans ((hk12.Bh b (B1 hb2)).trans hb2), hb3, by omega, by simpa [A2] using hb6, hb7⟩
          clear hlc hoc HBX
          rcases hst with ⟨rfl, rfl⟩ | ⟨o', x', rfl, ho', hx', b', hb', hrx, hrel'⟩
          · simp only [Option.some.injEq] at hv
            have hq := fun wx => Lib.run_eql_slice_nil (P := Tryz.prog) wx 29 3 none 0 0 0 0 Tryz.underlying29
            simp only [Option.isNone] at hq
            go_wp2
            go_end0
            rw [← hv]
            have hput := aB (e := e) (z := sj) (cap := cap) (b := b) (x := x) h12 hno hB.size hkw g1 g2 g3 g4 hb1 hrowx hr0 ho hxe
            rw [hm] at hput
            exact ⟨⟨_, rfl⟩, ⟨hput.1, hE.step hput.2⟩, hput.2⟩
          · obtain ⟨bq, oq, cq, rfl, -⟩ := Na hrel' ho'
            have hq := fun wx => Lib.run_eql_slice_nil (P := Tryz.prog) wx 29 3 (some ⟨bq, oq, none⟩) o'.length cq 0 0 Tryz.underlying29
            simp only [Option.isNone] at hq
            clear hrx hrel'
            replace hv : (if e < e0 ∨ (e = e0 ∧ sj < z0) then some (some (o, x, e, sj)) else some (some (o', x', e0, z0)) : Option Lv) = some r := hv
            by_cases h1 : e < e0
            · have hd1 : decide (e < e0) = true := decide_eq_true h1
              rw [if_pos (Or.inl h1 : e < e0 ∨ (e = e0 ∧ sj < z0))] at hv
              replace hv := Option.some.inj hv
              go_wp2
              go_end0
              rw [← hv]
              have hput := aB (e := e) (z := sj) (cap := cap) (b := b) (x := x) h12 hno hB.size hkw g1 g2 g3 g4 hb1 hrowx hr0 ho hxe
              rw [hm] at hput
              exact ⟨⟨_, rfl⟩, ⟨hput.1, hE.step hput.2⟩, hput.2⟩
            · have hd1 : decide (e < e0) = false := decide_eq_false h1
              by_cases h2 : e = e0
              · subst h2
                by_cases h3 : sj < z0
                · have hd3 : decide (sj < z0) = true := decide_eq_true h3
                  rw [if_pos (Or.inr ⟨rfl, h3⟩ : e < e ∨ (e = e ∧ sj < z0))] at hv
                  have HV := Lib.hid (Option.some.inj hv)
                  clear hv
                  go_wp2
                  go_end0
                  rw [← HV.out]
                  have hput := aB (e := e) (z := sj) (cap := cap) (b := b) (x := x) h12 hno hB.size hkw g1 g2 g3 g4 hb1 hrowx hr0 ho hxe
                  rw [hm] at hput
                  exact ⟨⟨_, rfl⟩, ⟨hput.1, hE.step hput.2⟩, hput.2⟩
                · have hd3 : decide (sj < z0) = false := decide_eq_false h3
                  rw [if_neg (show ¬ (e < e ∨ (e = e ∧ sj < z0)) by omega)] at hv
                  have hfin := fin wr hkw (Option.some.inj hv).symm
                  clear hv
                  go_wp2
                  go_end0
                  exact ⟨⟨_, rfl⟩, hfin⟩
              · have hd2 : (e == e0) = false := beq_eq_false_iff_ne.2 h2
                rw [if_neg (show ¬ (e < e0 ∨ (e = e0 ∧ sj < z0)) by omega)] at hv
                have hfin := fin wr hkw (Option.some.inj hv).symm
                clear h2 hv
                go_wp2
                go_end0
                exact ⟨⟨_, rfl⟩, hfin⟩
end Go.Proofs.YtbfabclpcamlnaaGreatDoor
