/- A part. -/
import Derived.Test.YtbfabclpcamlnaaGreatDoorPS
import Derived.Shelf.SlSortCmp.Kit1
set_option linter.unusedVariables false
set_option linter.unusedSimpArgs false
namespace Go.Proofs.YtbfabclpcamlnaaGreatDoor
open Go.RowKit Go.Sort
def fT : List AV → AV
  | a :: _ => a
  | [] => .D7
def Z6 : List Value → Value
  | v :: _ => v
  | [] => undef
def Y2 {α : Type} [Inhabited α] (P : Program) (g : Nat) (cb : Array Value) (enc : α → List Value) (k : Nat) (cf : α → α → Int) (Bh off size : Nat) (w : World) : Prop :=
  ∀ (m : Nat) (os : Array Obj) (dk : Array α), dk.size = size → ∀ x y : α,
    Calls P g (#[Z6 (enc x), Z6 (enc y)] ++ cb) (sortWorldK enc k w Bh off m dk os) fun e w' => e = .returned (.int .i64 (cf x y)) ∧ ∃ q os', w' = grow ((sortWorldK enc k w Bh off m dk os).drewN q) os'
def Rx (P : Program) (f k : Nat) : Prop := ∀ (β : Type) [Inhabited β] (enc : β → List Value) (hk : ∀ x, (enc x).length = k) (h1 : ∀ x, ∀ v ∈ enc x, v.oneCell' = true) (cf : β → β → Int) (hO : SWO (ltOf cf)) (g : Nat) (cb : Array Value) (Bh off cap : Nat) (d : Array β) (w : World),
  (∀ args w, (callFunc g args).run P w = .ok (.enter g args) w) → Y2 P g cb enc k cf Bh off d.size w → HoldsK enc k w Bh off d → Bh < w.heap.size → d.size < 4611686018427387904 →
  Calls P f #[.slice (some ⟨Bh, off, none⟩) d.size cap, .func (.func g) #[] cb] w fun e w' => e = .returned (.tuple #[]) ∧ ∃ n os, w' = sortWorldK enc k w Bh off n (pdq (ltOf cf) d 0 d.size (Lib.bitLen d.size) true true) os
section
variable {β : Type} [Inhabited β]
theorem Zb {enc : β → List Value} (hk : ∀ x, (enc x).length = 1) (d : Array β) (t : Nat) (ht : t < d.size) : (flatK enc 1 d)[t]! = Z6 (enc d[t]!) := by
  rw [get_flatK _ _ _ _ (by omega), Nat.mod_one, Nat.div_one]
  have := hk d[t]!
  generalize enc d[t]! = l at *
  match l, this with
  | [v], _ => rfl
theorem holds_one {enc : β → List Value} (hk : ∀ x, (enc x).length = 1) {w : World} {Bh off : Nat} {d : Array β} (h : HoldsK enc 1 w Bh off d) : Holds (fun x => Z6 (enc x)) w Bh off d := by
  intro j hj
  have := h j (by rw [size_flatK]; omega)
  rw [Zb hk d j hj] at this
  exact this
theorem aZ {enc : β → List Value} (hk : ∀ x, (enc x).length = 1) (w : World) (Bh off : Nat) (d : Array β) : putRow (fun x => Z6 (enc x)) w Bh off d = putRowK enc 1 w Bh off d := by
  unfold putRowK putRow
  congr 1
  funext c
  unfold putCells
  have hs : (flatK enc 1 d).size = d.size := by rw [size_flatK]; omega
  congr 1
  funext k x
  rw [hs]
  by_cases h : off ≤ k ∧ k < off + d.size
  · rw [if_pos h, if_pos h, Zb hk _ _ (by omega)]
    rfl
  · rw [if_neg h, if_neg h]
theorem L3 {enc : β → List Value} (hk : ∀ x, (enc x).length = 1) (w : World) (Bh off m : Nat) (d : Array β) (os : Array Obj) : sortWorld (fun x => Z6 (enc x)) w Bh off m d os = sortWorldK enc 1 w Bh off m d os := by
  unfold sortWorld sortWorldK
  rw [aZ hk]
end
theorem gE {P : Program} {f : Nat} (h : ∀ (β : Type) [Inhabited β] (enc : β → Value) (h1 : OneCell enc) (cf : β → β → Int) (hO : SWO (ltOf cf)) (g : Nat) (cb : Array Value) (Bh off cap : Nat) (d : Array β) (w : World),
    (∀ args w, (callFunc g args).run P w = .ok (.enter g args) w) → CmpLays1 P g cb enc cf Bh off d.size w → Holds enc w Bh off d → Bh < w.heap.size → d.size < 4611686018427387904 →
    Calls P f #[.slice (some ⟨Bh, off, none⟩) d.size cap, .func (.func g) #[] cb] w fun e w' => e = .returned (.tuple #[]) ∧ ∃ n os, w' = sortWorld enc w Bh off n (pdq (ltOf cf) d 0 d.size (Lib.bitLen d.size) true true) os) : Rx P f 1 := by
  intro β _ enc hk h1 cf hO g cb Bh off cap d w eg hcmp hH hblk hsz
  refine (h β (fun x => Z6 (enc x)) (fun x => ?_) cf hO g cb Bh off cap d w eg (fun m os dk hs x y => ?_) (holds_one hk hH) hblk hsz).mono ?_
  · have := hk x
    have h2 := h1 x
    show (Z6 (enc x)).oneCell' = true
    generalize enc x = l at *
    match l, this with
    | [v], _ => exact h2 v (by simp)
  · rw [L3 hk]
    exact hcmp m os dk hs x y
  · rintro e w' ⟨he, n, os, hw⟩
    exact ⟨he, n, os, by rw [hw, L3 hk]⟩
theorem tJ : jV A2 := by
  intro x c hc
  simp only [A2, List.mem_singleton] at hc
  subst hc
  exact ⟨_, rfl, rfl⟩
section
variable {α : Type}
theorem mX {E : En α} (hE : jV E) (c : Cx) (x : α) : Bb c (fT (E.enc x)) (Z6 (Fq E x)) := by
  have hl := E.len x
  have hp := E.pos
  have ho := hE x
  unfold Fq
  generalize E.enc x = l at *
  match l, hl with
  | a :: r, _ =>
    obtain ⟨v, rfl, hv⟩ := ho a (by simp)
    exact .sc v hv
  | [], hl => simp at hl; omega
variable [Inhabited α] {P : Program} {gl : Nat → Option (List AV)} {E : En α}
theorem gI (hx : lax = false) {B : Nat} {c : Cx} {id : Nat} {bk : Bi} (hE : jV E) (g : Good B c) (hgl : B2 gl c) (hM : c.M id = some bk) {caps' : List AV} {capv : List Value} (hcr : Bf (c.rest (c.f id)) caps' capv) (hcc : As caps' = true) {gg : FuncId} {cf : α → α → Int}
    (hcmp : ∀ x y, C3 P gl gg (fT (E.enc x) :: fT (E.enc y) :: caps') (Aa (cf x y))) (off size : Nat) : Y2 P gg capv.toArray (Fq E) E.size cf (c.f id) off size c.w := by
  intro m os dk hs x y
  have hbut := Zc (Fq E) E.size c.w (c.f id) off m dk os
  generalize sortWorldK (Fq E) E.size c.w (c.f id) off m dk os = W at hbut ⊢
  have stp := kL (c := c) hbut
  have hlt := g.lt hM
  have hno : ∀ b, (b = c.f id ∨ c.no b) → b < W.heap.size := by
    rintro b (rfl | h)
    · exact Nat.lt_of_lt_of_le hlt hbut.size
    · have := g.Iq b h; have := g.hB; have := hbut.size; omega
  let D : Cx := Cx.alone { c.rest (c.f id) with w := W } (fun b => b = c.f id ∨ c.no b)
  have hst : ∀ b, ({ c.rest (c.f id) with w := W } : Cx).Bl b → D.Bl b := fun b ⟨h1, h2, h3⟩ => ⟨h1, Cy, fun h => h.elim (fun e => h2 (Ng (c := { c with w := W }).2 e)) h3⟩
  have hcaps : Bf D caps' capv := Bf.Br (c := { c.rest (c.f id) with w := W }) (c0 := D) rfl hst (hcr.step stp) hcc
  have hglD : B2 gl D := by
    have h1 : B2 gl (c.rest (c.f id)) := B2.Br (c := c) (c0 := c.rest (c.f id)) rfl (fun b hb => Jy hM hb) hgl
    exact B2.Br (c := { c.rest (c.f id) with w := W }) (c0 := D) rfl hst (h1.step stp)
  have hr : Bf D (fT (E.enc x) :: fT (E.enc y) :: caps') (Z6 (Fq E x) :: Z6 (Fq E y) :: capv) := .cons (mX hE D x) (.cons (mX hE D y) hcaps)
  have hcall := (hcmp x y).2.2.2 W.heap.size D _ (Eg (c := { c.rest (c.f id) with w := W }) hno) hglD (fun _ _ h => by cases h) hr
  have e1 : (#[Z6 (Fq E x), Z6 (Fq E y)] ++ capv.toArray) = (Z6 (Fq E x) :: Z6 (Fq E y) :: capv).toArray := by apply Array.ext'; simp
  rw [e1]
  refine hcall.mono ?_
  rintro e w' ⟨v', c', rfl, rfl, k1, k2, k3, k4, k5⟩
  refine ⟨by cases k1; rfl, Zs k2.os k2.tape k2.output k2.size (fun b hb => k2.Bh b hb Cy) (qM hx k2.drawn)⟩
theorem Yj (hx : lax = false) {P : Program} {gl : Nat → Option (List AV)} {f g : FuncId} {E : En α} {k : Nat} (hk : E.size = k) (hE : jV E) (hS : Rx P f k) (hpf : D8 P f) {m : Mem} {nx id ty : Nat} {l : List α} {ex : Bool} (hb : Al m id = some ⟨Ay E l, ty⟩) (hn : l.length < 4611686018427387904)
    {caps caps' : List AV} (hc : Jl m id caps caps') {cf : α → α → Int} (hO : SWO (ltOf cf)) (hcmp : ∀ x y, C3 P gl g (fT (E.enc x) :: fT (E.enc y) :: caps') (Aa (cf x y))) {K : AV → Mem → Prop} (hK : K (.tup []) (Ae m [(id, some ⟨Ay E (F0 cf l), ty⟩)])) :
    Ed P gl m nx f [.sl id 0 k l.length l.length ex, .fn g caps] K := by
  subst hk
  refine ⟨hpf, fun B c vals hg hgl hM ha hr => ?_⟩
  have hMid : c.M id = some ⟨Ay E l, ty⟩ := by rw [hM]; exact hb
  cases hr with
  | cons r1 r2 =>
    cases r2 with
    | cons r2 r3 =>
      cases r3
      cases r2 with
      | fn _ hcap =>
        rename_i capv
        cases r1 with
        | sl hal hb2 hs hnc hc2 hex hmx =>
          rename_i cap' arr0 T0
          obtain ⟨arr, vs, rest, q1, q2, q3⟩ := hg.Bh id _ hMid
          have hlt := hg.lt hMid
          have hpg : D8 P g := by
            cases l with
            | nil => exact (hcmp default default).2.2.1
            | cons x l => exact (hcmp x x).2.2.1
          have hcr := W1 hg hMid (m := m) (fun j b h => by rw [hM]; exact h) hc hcap
          have hlay := gI hx (off := 0) (size := l.toArray.size) hE hg hgl hMid hcr (Nr hc) hcmp
          have hrow : HoldsK (Fq E) E.size c.w (c.f id) 0 l.toArray := iK hE q1 ⟨vs, q2, c, q3⟩
          have hcall := hS α (Fq E) (Xo E) (Vf hE) cf hO g capv.toArray (c.f id) 0 cap' l.toArray c.w (P1 hpg) hlay hrow hlt (by simpa using hn)
          have e0 : l.toArray.size = l.length := by simp
          rw [e0] at hcall
          refine hcall.mono ?_
          rintro e w' ⟨rfl, n, os, rfl⟩
          have hfacts := Ph hO l
          generalize hd : pdq (ltOf cf) l.toArray 0 l.length (Lib.bitLen l.length) true true = d at *
          have hsl : F0 cf l = d.toList := by simp only [F0, e0, hd]
          have hbut := Zc (Fq E) E.size c.w (c.f id) 0 n d os
          have hsz : d.size = l.length := by have := hfacts.1; rw [hsl] at this; simpa using this
          obtain ⟨arr', b1, b2⟩ := hbut.Bh arr ty q1
          have hold2 := holdsK_sortWorldK_c (Fq E) E.size c.w (c.f id) 0 l.toArray d n os hrow hlt (by rw [hsz]; simp)
          generalize sortWorldK (Fq E) E.size c.w (c.f id) 0 n d os = W at *
          let c' : Cx := { c with w := W, M := fun j => if j = id then some ⟨Ay E (F0 cf l), ty⟩ else c.M j }
          have hown : ∀ b, c'.own b → c.own b := by
            rintro b ⟨j, bk, j1, j2⟩
            by_cases hj : j = id
            · subst hj; exact ⟨j, _, hMid, j2⟩
            · simp only [c', hj, if_false] at j1; exact ⟨j, bk, j1, j2⟩
          have stp : Step c c' := ⟨hbut.os, hbut.tape, hbut.output, hbut.size, fun b hb' hno => hbut.oth b hb' (fun e => hno ⟨id, _, hMid, e.symm⟩), fun b _ ho => hown b ho, fun _ _ => rfl, fun _ h => h, fun _ => Iff.rfl, fun b a T h => by
            by_cases e : b = c.f id
            · subst e; exact hbut.Bh a T h
            · exact ⟨a, (hbut.oth b (B1 h) e).trans h, rfl⟩, Pd hbut.drawn⟩
          refine ⟨.tup [], _, hK, .tuple #[], c', rfl, rfl, .tup .nil, stp, ⟨Nat.le_trans hg.hB hbut.size, fun j bk h => ?_, fun j bk h => ?_, hg.Iq, fun i j bi bj h h' hf => ?_⟩, fun j => ?_, fun j h => Nat.lt_of_lt_of_le (ha j h) (Nat.le_add_right _ _)⟩
          · by_cases hj : j = id
            · subst hj; exact hg.low j _ hMid
            · simp only [c', hj, if_false] at h; exact hg.low j bk h
          · by_cases hj : j = id
            · subst hj
              simp only [c', if_true, Option.some.injEq] at h
              subst h
              refine ⟨arr', (flatK (Fq E) E.size d).toList, arr'.toList.drop (d.size * E.size), b1, ?_, ?_⟩
              · have hle : d.size * E.size ≤ arr'.toList.length := by
                  have h5 : vs.length = l.length * E.size := by rw [← q3.length, Bz]
                  have h6 : arr.toList.length = vs.length + rest.length := by rw [q2, List.length_append]
                  rw [Array.length_toList] at h6 ⊢
                  rw [b2, hsz]; omega
                have h7 : arr'.toList.take (d.size * E.size) = (flatK (Fq E) E.size d).toList := by
                  refine List.ext_getElem? fun t => ?_
                  rw [List.getElem?_take]
                  split
                  · rename_i ht
                    have := (hold2 t (by rw [size_flatK]; exact ht)).1
                    unfold World.cell? at this
                    simp only [b1, Option.isSome_none, Bool.false_eq_true, if_false, Nat.zero_add, id] at this
                    rw [Array.getElem?_toList, this, Array.getElem?_toList]
                    have hs2 : t < (flatK (Fq E) E.size d).size := by rw [size_flatK]; exact ht
                    rw [Array.getElem?_eq_getElem hs2, getElem!_pos _ t hs2]
                  · rename_i ht
                    rw [Array.getElem?_toList, Array.getElem?_eq_none (by rw [size_flatK]; omega)]
                rw [← h7, List.take_append_drop]
              · show Bf c' (Ay E (F0 cf l)) _
                rw [hsl]; exact Yh hE c' d
            · simp only [c', hj, if_false] at h
              obtain ⟨a, vs', r', k1, k2, k3⟩ := hg.Bh j bk h
              have hne : c.f j ≠ c.f id := fun e => hj (hg.inj j id _ _ h hMid e)
              exact ⟨a, vs', r', (hbut.oth (c.f j) (B1 k1) hne).trans k1, k2, k3.step stp⟩
          · have hi : ∃ b, c.M i = some b := by
              by_cases e : i = id
              · subst e; exact ⟨_, hMid⟩
              · simp only [c', e, if_false] at h; exact ⟨_, h⟩
            have hj : ∃ b, c.M j = some b := by
              by_cases e : j = id
              · subst e; exact ⟨_, hMid⟩
              · simp only [c', e, if_false] at h'; exact ⟨_, h'⟩
            obtain ⟨b1', hi⟩ := hi
            obtain ⟨b2', hj⟩ := hj
            exact hg.inj i j b1' b2' hi hj hf
          · show (if j = id then _ else c.M j) = Al ((id, some ⟨Ay E (F0 cf l), ty⟩) :: m) j
            by_cases hj : j = id
            · subst hj; rw [if_pos rfl]; simp [Al]
            · rw [if_neg hj, T1 (fun e => hj e.symm), hM]
end
section
variable {α : Type}
theorem Wd (hx : lax = false) [DecidableEq α] {P : Program} {gl : Nat → Option (List AV)} {f g : FuncId} {E : En α} {k : Nat} (hk : E.size = k) (hE : jV E) (hS : Rx P f k) (hpf : D8 P f) {m : Mem} {nx id ty : Nat} {l l' : List α} {ex : Bool} (hb : Al m id = some ⟨Ay E l, ty⟩) (hne : l ≠ []) {caps caps' : List AV} (hc : Jl m id caps caps')
    {cmp : α → α → Option Int} (hcmp : ∀ x y z, cmp x y = some z → C3 P gl g (fT (E.enc x) :: fT (E.enc y) :: caps') (Aa z)) (h : Ia cmp l = some l') {K : AV → Mem → Prop} (hK : K (.tup []) (Ae m [(id, some ⟨Ay E l', ty⟩)])) :
    Ed P gl m nx f [.sl id 0 k l.length l.length ex, .fn g caps] K := by
  obtain ⟨h1, h2, ho⟩ := J2 h
  have hn : l.length < 4611686018427387904 := by
    unfold Ia at h
    cases hc : Re cmp l && decide (l.length < 4611686018427387904) with
    | false => rw [hc] at h; cases h
    | true => simp only [Bool.and_eq_true, decide_eq_true_eq] at hc; exact hc.2
  let β := { x // x ∈ l }
  have inh : Inhabited β := by
    cases l with
    | nil => exact absurd rfl hne
    | cons x l => exact ⟨⟨x, by simp⟩⟩
  let cf : β → β → Int := fun x y => (cmp x.1 y.1).getD 0
  have hlt : ∀ x y : β, ltOf cf x y = Le cmp x.1 y.1 := fun x y => rfl
  have hO : SWO (ltOf cf) := ⟨fun x => by rw [hlt]; exact ho.irr x.2, fun x y z a b => by rw [hlt] at *; exact ho.tra _ x.2 _ y.2 _ z.2 a b, fun x y z a b => by rw [hlt] at *; exact ho.nle x.2 y.2 z.2 a b⟩
  have hat : (l.attach.map (·.1)) = l := by simp
  have hla : l.attach.length = l.length := by simp
  have he : Ay (Abs E (· ∈ l)) l.attach = Ay E l := by rw [Xk, hat]
  have fin : (F0 cf l.attach).map (·.1) = l' := by
    obtain ⟨-, s2, s3⟩ := Ph hO l.attach
    have p1 : ((F0 cf l.attach).map (·.1)).Perm l := by have := s2.map (·.1); rwa [hat] at this
    refine L1 (R := fun a b => Le cmp b a = false) (fun x hx y hy a b => ?_) (p1.trans h1.symm) ?_ h2
    · have mx : x ∈ l := p1.mem_iff.1 hx
      have my : y ∈ l := p1.mem_iff.1 hy
      rcases ho.tot x mx y my with k | k | k
      · rw [k] at b; cases b
      · rw [k] at a; cases a
      · exact k
    · rw [List.pairwise_map]
      exact s3
  have := Yj hx (α := β) (E := Abs E (· ∈ l)) (k := k) (f := f) (g := g) (nx := nx) (id := id) (ty := ty) (l := l.attach) (ex := ex) (cf := cf) (K := K) (gl := gl) hk (fun x c hc => hE x.1 c hc) hS hpf (by rw [he]; exact hb) (by rw [hla]; exact hn) hc hO (fun x y => by
    obtain ⟨z, hz⟩ := ho.some x.1 x.2 y.1 y.2
    have := hcmp x.1 y.1 z hz
    show C3 P gl g (fT (E.enc x.1) :: fT (E.enc y.1) :: caps') (Aa ((cmp x.1 y.1).getD 0))
    rw [hz]; exact this) (by rw [Xk, fin]; exact hK)
  rw [hla] at this
  exact this
end
theorem Vq (hx : lax = false := by rfl) {α : Type} [DecidableEq α] {P : Program} {gl : Nat → Option (List AV)} {f g : FuncId} {E : En α} {k : Nat} (hk : E.size = k) (hE : jV E) (hS : Rx P f k) (hS0 : Sk P f) (hpf : D8 P f) {m : Mem} {nx id ty : Nat} {l0 l l' : List α} (hl : l0.length = l.length) (hb : Al m id = Cs E ty l) {caps caps' : List AV} (hc : Jl m id caps caps')
    {cmp : α → α → Option Int} (hcmp : ∀ x y z, cmp x y = some z → C3 P gl g (fT (E.enc x) :: fT (E.enc y) :: caps') (Aa z)) (h : Ia cmp l = some l') {K : AV → Mem → Prop} (hK : K (.tup []) (Ae m [(id, Cs E ty l')])) :
    Ed P gl m nx f [B5 E id l0, .fn g caps] K := by
  have hlen := Tr h
  cases l with
  | nil =>
    have h0 : l0 = [] := List.eq_nil_of_length_eq_zero hl
    have h1 : l' = [] := List.eq_nil_of_length_eq_zero hlen
    subst h0; subst h1
    refine ⟨hpf, fun B c vals hg hgl hM ha hr => ?_⟩
    cases hr with
    | cons r1 r2 =>
      cases r2 with
      | cons r2 r3 =>
        cases r3
        have key : ∀ (p : Option Addr) (cap : Nat) (fv : Value), Calls P f #[.slice p 0 cap, fv] c.w fun e w' => ∃ v m', K v m' ∧ Fi B c v m' (nx + 64) e w' := fun p cap fv => (hS0 p cap fv c.w).mono fun e w' ⟨h1, h2⟩ => by
          subst h1; subst h2
          refine ⟨.tup [], _, hK, .tuple #[], c, rfl, rfl, .tup .nil, Step.refl c, hg, fun j => ?_, fun j h => Nat.lt_of_lt_of_le (ha j h) (Nat.le_add_right _ _)⟩
          show c.M j = Al ((id, none) :: m) j
          rw [hM]
          by_cases hj : j = id
          · subst hj; rw [cU, hb]; rfl
          · rw [T1 (fun e => hj e.symm)]
        have r1 : Bb c (.Dm 0 [] true) _ := r1
        cases r1 with
        | D6 a cap ex he hm hn => exact key a cap _
        | Dm hb h hc hn he hm => exact key _ _ _
  | cons x l =>
    have hne : l0 ≠ [] := by rintro rfl; simp at hl
    have hne' : l' ≠ [] := by rintro rfl; simp at hlen
    rw [Dx hne, hk]
    have := Wd hx (f := f) (g := g) (nx := nx) (id := id) (ty := ty) (ex := false) hk hE hS hpf (hb.trans (C1 (by simp))) (by simp) hc hcmp h (K := K) (gl := gl) (by rw [C1 hne'] at hK; exact hK)
    rw [← hl] at this
    exact this
end Go.Proofs.YtbfabclpcamlnaaGreatDoor
