/- A part. -/
import Derived.Test.YtbfabclpcamlnaaGreatDoorPF
import Derived.Shelf.SlSortCmp.InsertionK
import Derived.Sort.AssemblyPlain
set_option linter.unusedVariables false
set_option linter.unusedSimpArgs false
namespace Go.Proofs.YtbfabclpcamlnaaGreatDoor
open Go.RowKit Go.Sort
def scV : AV → Value
  | .sc v => v
  | _ => undef
section
variable {α : Type}
def Fq (E : En α) (x : α) : List Value := (E.enc x).map scV
theorem Xo (E : En α) (x : α) : (Fq E x).length = E.size := by rw [Fq, List.length_map, E.len]
theorem T8 {c : Cx} : ∀ {cs : List AV} {vs : List Value}, cs.all Ka = true → Bf c cs vs → vs = cs.map scV
  | [], _, _, h => by cases h; rfl
  | x :: cs, _, ha, h => by
    simp only [List.all_cons, Bool.and_eq_true] at ha
    cases h with
    | cons h t =>
      rw [T8 ha.2 t, List.map_cons]
      congr 1
      cases x with
      | sc v => cases h with | sc _ _ => rfl
      | _ => simp [Ka] at ha
def jV (E : En α) : Prop := ∀ x, ∀ c ∈ E.enc x, ∃ v, c = .sc v ∧ Lo v = true
theorem jV.sc {E : En α} (h : jV E) : xS E := fun x => List.all_eq_true.2 fun c hc => by obtain ⟨v, rfl, -⟩ := h x c hc; rfl
theorem gM {E : En α} (h : jV E) (c : Cx) (x : α) : Bf c (E.enc x) (Fq E x) := by
  have key : ∀ cs : List AV, (∀ a ∈ cs, ∃ v, a = .sc v ∧ Lo v = true) → Bf c cs (cs.map scV) := by
    intro cs
    induction cs with
    | nil => intro _; exact .nil
    | cons a cs ih =>
      intro ha
      obtain ⟨v, rfl, hv⟩ := ha a (by simp)
      exact .cons (.sc v hv) (ih fun b hb => ha b (by simp [hb]))
  exact key _ (h x)
theorem Vf {E : En α} (h : jV E) (x : α) : ∀ v ∈ Fq E x, v.oneCell' = true := by
  intro v hv
  obtain ⟨a, ha, rfl⟩ := List.mem_map.1 hv
  obtain ⟨u, rfl, hu⟩ := h x a ha
  cases u <;> simp [Lo] at hu <;> rfl
theorem Zs {W w' : World} (h1 : w'.os = W.os) (h2 : w'.tape = W.tape) (h3 : w'.output = W.output) (h4 : W.heap.size ≤ w'.heap.size) (h5 : ∀ b, b < W.heap.size → w'.heap[b]? = W.heap[b]?) (h6 : W.drawn ≤ w'.drawn) : ∃ q os', w' = Sort.grow (W.drewN q) os' := by
  refine ⟨w'.drawn - W.drawn, w'.heap.extract W.heap.size w'.heap.size, ?_⟩
  have hh : w'.heap = W.heap ++ w'.heap.extract W.heap.size w'.heap.size := by
    apply Array.ext_getElem?
    intro k
    rw [Array.getElem?_append]
    split
    · rename_i hk; exact h5 k hk
    · rename_i hk
      rw [Array.getElem?_extract]
      split
      · congr 1; omega
      · rename_i hk2
        rw [Array.getElem?_eq_none (by omega)]
  cases w' with
  | mk heap tape drawn os output =>
    have hd : drawn = W.drawn + (drawn - W.drawn) := by have : W.drawn ≤ drawn := h6; omega
    show World.mk heap tape drawn os output = Sort.grow (W.drewN (drawn - W.drawn)) _
    have e1 : tape = W.tape := h2
    have e2 : os = W.os := h1
    have e3 : output = W.output := h3
    have e4 : heap = W.heap ++ heap.extract W.heap.size heap.size := hh
    subst e1; subst e2; subst e3
    unfold Sort.grow
    simp only [World.drewN]
    congr 1
end
end Go.Proofs.YtbfabclpcamlnaaGreatDoor
set_option linter.unusedVariables false
set_option linter.unusedSimpArgs false
namespace Go.Proofs.YtbfabclpcamlnaaGreatDoor
open Go.RowKit Go.Sort
def xI (m : Mem) (id : Nat) (a b : AV) : Prop := (a = b ∧ clean a = true) ∨ (∃ j off cs t, a = .ptr j off ∧ j ≠ id ∧ Al m j = some ⟨cs, t⟩ ∧ As cs = true ∧ b = .B8 cs off)
def Jl (m : Mem) (id : Nat) : List AV → List AV → Prop
  | [], [] => True
  | a :: r, b :: s => xI m id a b ∧ Jl m id r s
  | _, _ => False
theorem bC {m : Mem} {id : Nat} : Jl m id [] [] := trivial
theorem Xv {m : Mem} {id : Nat} {a b : AV} {r s : List AV} (h : xI m id a b) (hr : Jl m id r s) : Jl m id (a :: r) (b :: s) := ⟨h, hr⟩
theorem Nr {m : Mem} {id : Nat} : ∀ {a b : List AV}, Jl m id a b → As b = true
  | [], [], _ => rfl
  | a :: r, b :: s, ⟨h, t⟩ => by
    simp only [As, Bool.and_eq_true]
    refine ⟨?_, Nr t⟩
    rcases h with ⟨rfl, h⟩ | ⟨j, off, cs, ty, rfl, -, -, h, rfl⟩
    · exact h
    · simpa [clean] using h
  | [], _ :: _, h => h.elim
  | _ :: _, [], h => h.elim
def Cx.rest (c : Cx) (Bh : Nat) : Cx := ⟨c.w, fun _ => Bh, fun i => i = 0, fun i => if i = 0 then some ⟨[], 0⟩ else none, c.no⟩
theorem Ng {c : Cx} {Bh b : Nat} : (c.rest Bh).own b ↔ b = Bh := by
  constructor
  · rintro ⟨id, bk, -, h⟩; exact h.symm
  · rintro rfl; exact ⟨0, ⟨[], 0⟩, rfl, rfl⟩
section
variable {B : Nat} {c : Cx} {id : Nat} {bk : Bi}
theorem Jy (hM : c.M id = some bk) {b : Nat} (h : c.Bl b) : (c.rest (c.f id)).Bl b := ⟨h.1, fun ho => h.2.1 ⟨id, bk, hM, (Ng.1 ho).symm⟩, h.2.2⟩
theorem W1 (g : Good B c) (hM : c.M id = some bk) {m : Mem} (hm : ∀ j b, Al m j = some b → c.M j = some b) : ∀ {caps caps' : List AV} {vs : List Value}, Jl m id caps caps' → Bf c caps vs → Bf (c.rest (c.f id)) caps' vs
  | [], [], _, _, h => by cases h; exact .nil
  | a :: r, b :: s, _, ⟨hk, ht⟩, h => by
    cases h with
    | cons h t =>
      refine .cons ?_ (W1 g hM hm ht t)
      rcases hk with ⟨rfl, hc⟩ | ⟨j, off, cs, ty, rfl, hj, hb, hc, rfl⟩
      · exact Bb.Br (c := c) (c0 := c.rest (c.f id)) rfl (fun b hb => Jy hM hb) h hc
      · cases h with
        | ptr ha =>
          have hMj := hm j _ hb
          obtain ⟨arr, vs, rest, q1, q2, q3, q4⟩ := g.cells hMj
          have hlow := (g.low j _ hMj).1
          have st : (c.rest (c.f id)).Bl (c.f j) := ⟨g.lt hMj, fun ho => hj (g.inj j id _ _ hMj hM (Ng.1 ho)), fun hn => by have : c.f j < B := g.Iq _ hn; omega⟩
          have := Bb.B8 (c := c.rest (c.f id)) (o := 0) st (Bf.Br (c := c) (c0 := c.rest (c.f id)) rfl (fun b hb => Jy hM hb) q3 hc) q4 off
          rw [Nat.zero_add] at this
          exact this
  | [], _ :: _, _, h, _ => h.elim
  | _ :: _, [], _, h, _ => h.elim
end
structure But (w W : World) (Bh : Nat) : Prop where
  os : W.os = w.os
  tape : W.tape = w.tape
  output : W.output = w.output
  size : w.heap.size ≤ W.heap.size
  oth : ∀ b, b < w.heap.size → b ≠ Bh → W.heap[b]? = w.heap[b]?
  Bh : ∀ (arr : Array Value) (T : TypeId), w.heap[Bh]? = some (.cells arr T) → ∃ arr' : Array Value, W.heap[Bh]? = some (.cells arr' T) ∧ arr'.size = arr.size
  drawn : w.drawn ≤ W.drawn
section
variable {α : Type} [Inhabited α]
theorem Zc (enc : α → List Value) (k : Nat) (w : World) (Bh off n : Nat) (d : Array α) (os : Array Obj) : But w (sortWorldK enc k w Bh off n d os) Bh where
  os := rfl
  tape := rfl
  output := rfl
  size := size_sortWorldK_c enc k w Bh off n d os
  oth := fun b hb hne => by
    show ((w.heap.modify Bh _) ++ os)[b]? = _
    rw [Array.getElem?_append_left (by simpa using hb), Array.getElem?_modify, if_neg (fun h => hne h.symm)]
  Bh := fun arr T h => by
    have hb : Bh < w.heap.size := B1 h
    refine ⟨putCells id off (flatK enc k d) arr, ?_, by simp [putCells]⟩
    show ((w.heap.modify Bh _) ++ os)[Bh]? = _
    rw [Array.getElem?_append_left (by simpa using hb), Array.getElem?_modify, if_pos rfl, h]
    rfl
  drawn := Nat.le_add_right _ _
theorem kL {c : Cx} {Bh : Nat} {W : World} (h : But c.w W Bh) : Step (c.rest Bh) { c.rest Bh with w := W } where
  os := h.os
  tape := h.tape
  output := h.output
  size := h.size
  Bh := fun b hb hn => h.oth b hb fun e => hn (Ng.2 e)
  own := fun b _ ho => ho
  f := fun _ _ => rfl
  al := fun _ h => h
  no := fun _ => Iff.rfl
  T9 := fun b arr T hb => by
    by_cases e : b = Bh
    · subst e; exact h.Bh arr T hb
    · exact ⟨arr, (h.oth b (B1 hb) e).trans hb, rfl⟩
  drawn := Pd h.drawn
variable {P : Program} {gl : Nat → Option (List AV)} {E : En α}
end
end Go.Proofs.YtbfabclpcamlnaaGreatDoor
set_option linter.unusedVariables false
set_option linter.unusedSimpArgs false
namespace Go.Proofs.YtbfabclpcamlnaaGreatDoor
open Go.RowKit Go.Sort
def Aef (P : Program) (f k : Nat) : Prop := ∀ (β : Type) [Inhabited β] (enc : β → List Value) (hk : ∀ x, (enc x).length = k) (h1 : ∀ x, ∀ v ∈ enc x, v.oneCell' = true) (cf : β → β → Int) (hO : SWO (ltOf cf)) (g : Nat) (cb : Array Value) (Bh off cap : Nat) (d : Array β) (w : World),
  (∀ args w, (callFunc g args).run P w = .ok (.enter g args) w) → CmpLays P g cb enc k cf Bh off d.size w → HoldsK enc k w Bh off d → Bh < w.heap.size → d.size < 4611686018427387904 →
  Calls P f #[.slice (some ⟨Bh, off, none⟩) d.size cap, .func (.func g) #[] cb] w fun e w' => e = .returned (.tuple #[]) ∧ ∃ n os, w' = sortWorldK enc k w Bh off n (pdq (ltOf cf) d 0 d.size (Lib.bitLen d.size) true true) os
def F0 {α : Type} [Inhabited α] (cf : α → α → Int) (l : List α) : List α := (pdq (ltOf cf) l.toArray 0 l.toArray.size (Lib.bitLen l.toArray.size) true true).toList
section
variable {α : Type} [Inhabited α]
theorem Ph {cf : α → α → Int} (hO : SWO (ltOf cf)) (l : List α) : (F0 cf l).length = l.length ∧ (F0 cf l).Perm l ∧ (F0 cf l).Pairwise (fun x y => ltOf cf y x = false) := by
  obtain ⟨⟨h1, -, h2⟩, h3⟩ := pdq_sorts (ltOf cf) hO l.toArray 0 l.toArray.size (Lib.bitLen l.toArray.size) true true (Nat.zero_le _) (Nat.le_refl _) (Or.inl rfl)
  refine ⟨by simpa [F0] using h1, ?_, ?_⟩
  · generalize hd : pdq (ltOf cf) l.toArray 0 l.toArray.size (Lib.bitLen l.toArray.size) true true = d at h1 h2
    have e1 : d.extract 0 l.toArray.size = d := by rw [← h1]; simp
    have e2 : l.toArray.extract 0 l.toArray.size = l.toArray := by simp
    rw [e1, e2] at h2
    have e : F0 cf l = d.toList := by unfold F0; rw [hd]
    rw [e]
    simpa using h2
  · rw [List.pairwise_iff_getElem]
    intro i j hi hj hij
    have hs : (pdq (ltOf cf) l.toArray 0 l.toArray.size (Lib.bitLen l.toArray.size) true true).size = l.toArray.size := h1
    have hj' : j < l.toArray.size := by rw [← hs]; simpa [F0] using hj
    have := h3 i j (Nat.zero_le _) hij hj'
    have g1 : (F0 cf l)[i] = (pdq (ltOf cf) l.toArray 0 l.toArray.size (Lib.bitLen l.toArray.size) true true)[i]! := by
      rw [getElem!_pos _ i (by omega)]; simp [F0]
    have g2 : (F0 cf l)[j] = (pdq (ltOf cf) l.toArray 0 l.toArray.size (Lib.bitLen l.toArray.size) true true)[j]! := by
      rw [getElem!_pos _ j (by omega)]; simp [F0]
    rw [g1, g2]
    exact this
theorem Yh {E : En α} (hE : jV E) (c : Cx) (d : Array α) : Bf c (Ay E d.toList) (flatK (Fq E) E.size d).toList := by
  refine Bf.zC (by rw [Bz]; simp) fun t x v hx hv => ?_
  have hp := E.pos
  have ht : t < d.size * E.size := by
    have : t < (Ay E d.toList).length := by
      rcases Nat.lt_or_ge t (Ay E d.toList).length with h | h
      · exact h
      · rw [List.getElem?_eq_none h] at hx; cases hx
    rwa [Bz, Array.length_toList] at this
  have hq : t / E.size < d.size := Nat.div_lt_of_lt_mul (by rw [Nat.mul_comm]; exact ht)
  have hm : t % E.size < E.size := Nat.mod_lt _ hp
  have he : t / E.size * E.size + t % E.size = t := by rw [Nat.mul_comm]; exact Nat.div_add_mod t E.size
  have h1 := K0 (E := E) (l := d.toList) (i := t / E.size) (x := d[t / E.size]!) (by rw [Array.getElem?_toList, getElem!_pos d _ hq, Array.getElem?_eq_getElem hq]) (t % E.size) hm
  rw [he, hx] at h1
  have h2 := get_flatK (Fq E) E.size d t ht
  have h3 : v = (flatK (Fq E) E.size d)[t]! := by
    rw [Array.getElem?_toList] at hv
    have hs : t < (flatK (Fq E) E.size d).size := by rw [size_flatK]; exact ht
    rw [Array.getElem?_eq_getElem hs] at hv
    rw [getElem!_pos _ t hs]
    exact (Option.some.inj hv).symm
  obtain ⟨v', hv', hr⟩ := (gM hE c d[t / E.size]!).get h1.symm
  have h4 : (Fq E d[t / E.size]!)[t % E.size]! = v' := by
    have hl : t % E.size < (Fq E d[t / E.size]!).length := by rw [Xo]; exact hm
    rw [List.getElem?_eq_getElem hl] at hv'
    rw [getElem!_pos (Fq E d[t / E.size]!) (t % E.size) hl]
    exact Option.some.inj hv'
  rw [h3, h2, h4]
  exact hr
theorem P1 {P : Program} {g : FuncId} (h : D8 P g) : ∀ args w, (callFunc g args).run P w = .ok (.enter g args) w := by
  obtain ⟨fn, code, h1, h2, h3⟩ := h
  intro args w
  have h3' : ¬ fn.name = "runtime.NumGoroutine" := by simpa using h3
  simp [callFunc, h1, h2, h3']
theorem iK {E : En α} (hE : jV E) {w : World} {Bh : Nat} {arr : Array Value} {T : TypeId} {l : List α} {rest : List Value} (hb : w.heap[Bh]? = some (.cells arr T)) (hl : ∃ vs, arr.toList = vs ++ rest ∧ ∃ c, Bf c (Ay E l) vs) : HoldsK (Fq E) E.size w Bh 0 l.toArray := by
  intro j hj
  obtain ⟨vs, h1, c, h2⟩ := hl
  have hf := Yh hE c l.toArray
  have e1 : vs = (Ay E l).map scV := T8 (Gg hE.sc l) h2
  have e2 : (flatK (Fq E) E.size l.toArray).toList = (Ay E l).map scV := T8 (Gg hE.sc _) hf
  have hj' : j < (flatK (Fq E) E.size l.toArray).toList.length := by simpa using hj
  refine ⟨?_, ?_⟩
  · show World.cell? _ _ = _
    unfold World.cell?
    simp only [hb, Option.isSome_none, Bool.false_eq_true, if_false, Nat.zero_add]
    rw [← Array.getElem?_toList, h1, e1, ← e2, List.getElem?_append_left hj', List.getElem?_eq_getElem hj']
    simp only [Array.getElem_toList, id]
    rw [getElem!_pos _ j (by simpa using hj')]
  · unfold World.frozen?
    simp only [hb]
    simp
end
end Go.Proofs.YtbfabclpcamlnaaGreatDoor
set_option linter.unusedVariables false
set_option linter.unusedSimpArgs false
namespace Go.Proofs.YtbfabclpcamlnaaGreatDoor
open Go.RowKit Go.Sort
section
variable {α : Type}
def Abs (E : En α) (p : α → Prop) : En { x // p x } where
  size := E.size
  enc x := E.enc x.1
  len x := E.len x.1
  pos := E.pos
  cell x := E.cell x.1
  Di x := E.Di x.1
  R1 x := E.R1 x.1
theorem Xk (E : En α) (p : α → Prop) (l : List { x // p x }) : Ay (Abs E p) l = Ay E (l.map (·.1)) := by
  induction l with
  | nil => rfl
  | cons x l ih => rw [Da, ih, List.map_cons, Da]; rfl
end
end Go.Proofs.YtbfabclpcamlnaaGreatDoor
set_option linter.unusedVariables false
set_option linter.unusedSimpArgs false
namespace Go.Proofs.YtbfabclpcamlnaaGreatDoor
open Go.RowKit Go.Sort
def Sk (P : Program) (f : Nat) : Prop := ∀ (p : Option Addr) (cap : Nat) (fv : Value) (w : World), Calls P f #[.slice p 0 cap, fv] w fun e w' => e = .returned (.tuple #[]) ∧ w' = w
theorem Tr {α : Type} [DecidableEq α] {cmp : α → α → Option Int} {l l' : List α} (h : Ia cmp l = some l') : l'.length = l.length := (J2 h).1.length_eq
end Go.Proofs.YtbfabclpcamlnaaGreatDoor
