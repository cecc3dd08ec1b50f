/- A part. -/
import Derived.Test.YtbfabclpcamlnaaGreatDoorPI
import Derived.Sort.Grow
set_option linter.unusedVariables false
set_option linter.unusedSimpArgs false
namespace Go.Proofs.YtbfabclpcamlnaaGreatDoor
open Go.RowKit
section
variable {α : Type} {E : En α} {P : Program} {K : H0} {gl : Nat → Option (List AV)}
def Ag7 {α : Type} (by_ : Nat) (L : List (List α)) : Option (List α) := if L.length ≤ 4611686018427387904 ∧ L.flatten.length * by_ ≤ 281474976710656 ∧ L.flatten.length ≤ 4611686018427387904 then some L.flatten else none
end
section
variable {α : Type} {E : En α} {P : Program} {gl : Nat → Option (List AV)}
def Ahk {α : Type} (l : List α) : Option Unit := if l.length < 4611686018427387904 then some () else none
end
section
variable {P : Program} {gl : Nat → Option (List AV)} {look : Nat → Option Bi} {m : Mem}
def Abg : En Bool where
  size := 1
  enc p := [.pX p]
  len _ := rfl
  pos := by decide
  cell _ := rfl
  Di _ := rfl
  R1 _ := rfl
theorem Abg.nf : H2 Abg := by
  intro x c hc f l
  simp only [Abg, List.mem_singleton] at hc
  subst hc
  exact fun h => by cases h
structure Kept (w w' : World) : Prop where
  os : w'.os = w.os
  tape : w'.tape = w.tape
  output : w'.output = w.output
  size : w.heap.size ≤ w'.heap.size
  Bh : ∀ b, b < w.heap.size → w'.heap[b]? = w.heap[b]?
  drawn : dr w ≤ dr w'
theorem Kept.refl (w : World) : Kept w w := ⟨rfl, rfl, rfl, Nat.le_refl _, fun _ _ => rfl, Nat.le_refl _⟩
theorem Kept.alloc (w : World) (o : Obj) : Kept w (w.alloc o) := ⟨rfl, rfl, rfl, by simp, fun b hb => Below.heap_alloc w o b hb, Nat.le_refl _⟩
theorem Kept.grow (w : World) (k : Nat) (os : Array Obj) : Kept w (Sort.grow (w.drewN k) os) := ⟨rfl, rfl, rfl, by simp [Sort.grow], fun b hb => by
  show ((w.heap ++ os : Array Obj))[b]? = _
  rw [Array.getElem?_append_left hb], Pd (Nat.le_add_right _ _)⟩
theorem S5 {c : Cx} {w' : World} (h : Kept c.w w') : Step c { c with w := w' } where
  os := h.os
  tape := h.tape
  output := h.output
  size := h.size
  Bh := fun b hb _ => h.Bh b hb
  own := fun b hb ho => ho
  f := fun _ _ => rfl
  al := fun _ h => h
  no := fun _ => Iff.rfl
  T9 := fun b arr T hb => ⟨arr, (h.Bh b (B1 hb)).trans hb, rfl⟩
  drawn := h.drawn
theorem gN {B : Nat} {c : Cx} {w' : World} (g : Good B c) (h : Kept c.w w') : Good B { c with w := w' } :=
  ⟨Nat.le_trans g.hB h.size, g.low, fun id b hb => by
    obtain ⟨arr, vs, rest, q1, q2, q3⟩ := g.Bh id b hb
    exact ⟨arr, vs, rest, (h.Bh _ (B1 q1)).trans q1, q2, q3.step (S5 h)⟩, g.Iq, g.inj⟩
end
section
variable {P : Program}
def Ag0 (a b : ByteArray) : Option ByteArray := if a.size + b.size ≤ 9223372036854775807 then some (a ++ b) else none
end
theorem kY {P : Program} {t yt ty n : Nat} {look : Nat → Option Bi} {a : Int} : B9 P (.binOp .shr t (.tmp 0) (.tmp 1) yt) ty [.sc (.int .u64 a), .sc (.int .u64 1)] look n = some (.sc (.int .u64 (a.fdiv 2)), []) := by
  have h : B9 P (.binOp .shr t (.tmp 0) (.tmp 1) yt) ty [.sc (.int .u64 a), .sc (.int .u64 1)] look n = some (.sc (match By P (Op.shift .shr .u64 a .u64 1) with | some v => v | _ => undef), []) := rfl
  rw [h]
  simp [Op.shift, IntKind.bits]
  rfl
theorem Abz {u v : AV} (h : u = v) : gS u v := fun _ _ r => h ▸ r
def Agj (x : AV) : Prop := C9 x = some [x] ∧ Dd x = true
theorem Abb {ρ : Type} {t : ρ} {c : Bool} {a b : Option ρ} {X : Prop} (h1 : c = true → a = some t → X) (h2 : c = false → b = some t → X) : (bif c then a else b) = some t → X := by
  cases c
  · exact h2 rfl
  · exact h1 rfl
theorem lk : (∀ {m : Mem}, Ae m [] = m) ∧ (∀ {m : Mem} {p : Nat × Option Bi} {r : Wr}, Ae m (p :: r) = Ae (p :: m) r) ∧ (∀ {m : Mem} {j : Nat} {v : Option Bi}, Al ((j, v) :: m) j = v) ∧ (∀ {m : Mem} {j i : Nat} {v : Option Bi}, j ≠ i → Al ((j, v) :: m) i = Al m i) ∧
  (∀ {α : Type} {E : En α} {m : Mem} {n id ty j : Nat} {l xs : List α}, n ≠ j → id ≠ j → Al (Ae m (Ip E n id ty l xs)) j = Al m j) ∧ (∀ {α : Type} {E : En α} {m : Mem} {n id ty : Nat} {l xs : List α} {x : α}, n ≠ id → Al (Ae m (Ip E n id ty l (x :: xs))) n = Cs E ty (l ++ x :: xs)) ∧ (∀ {α : Type} {E : En α} {m : Mem} {n id ty : Nat} {l xs : List α}, xs ≠ [] → n ≠ id → Al (Ae m (Ip E n id ty l xs)) n = Cs E ty (l ++ xs)) :=
  ⟨Z4, Y8, cU, T1, W4, Pj, W3⟩
theorem oR {s : St} {pl : List (Nat × Nat)} {j : Nat} {v : AV} {r : List (Nat × AV)} (hr : okW s pl r) (h : E7 s.e j = Ir (H4 pl s.nx) v := by rfl) : okW s pl ((j, v) :: r) := Aj (.inl (Abz h)) hr
theorem fS {m : Mem} {k : Nat} {v : Value} {r s : List AV} (hr : vH (k + 1) m r s) : vH (k + 1) m (.sc v :: r) (.sc v :: s) := Dp (xV _ _) hr
theorem Df {ρ τ : Type} {c : ρ → τ} {e : ρ → AV} {v : Value} {r : ρ} {x t : τ} {R : AV → Mem → Prop} {m : Mem} (hR : ∀ r : ρ, t = c r → ∀ u m, Cu (e r) u m → R u m) (hx : x = c r) (he : e r = .sc v) : some x = some t → A4 R m [some (.sc v)] := fun hg => oF (hR _ ((Option.some.inj hg).symm.trans hx)) (by rw [he]; exact xV _ _)
theorem Xx {P : Program} {K : H0} (hm : P.follows .mixedOrders = true) {k : Nat} {f : FuncId} {args : List AV} {v : AV} (hc : As args = true) (h : ((Vi P K k f args [] 0).bind fun r => freeze (Al r.2.1) 6 r.1) = some v) (hcl : clean v = true) : C3 P K.gl f args v := by
  obtain ⟨r, h1, h2⟩ := Option.bind_eq_some_iff.1 h
  obtain ⟨u, m, nx⟩ := r
  exact aI hm hc h1 h2 hcl
end Go.Proofs.YtbfabclpcamlnaaGreatDoor
