/- The rule for slices.SortFunc. -/
import Derived.Test.YtfhcciepaangiaaPiS4
set_option linter.unusedVariables false
set_option linter.unusedSimpArgs false
namespace Go.Proofs.Ytfhcciepaangiaa
open Go.RowKit Go.Sort

def SortsNone (P : Program) (f : Nat) : Prop := ∀ (p : Option Addr) (cap : Nat) (fv : Value) (w : World), Calls P f #[.slice p 0 cap, fv] w fun e w' => e = .returned (.tuple #[]) ∧ w' = w
theorem sortO_len {α : Type} [DecidableEq α] {cmp : α → α → Option Int} {l l' : List α} (h : sortO cmp l = some l') : l'.length = l.length := (sortO_facts h).1.length_eq
theorem callW_sortV {α : Type} [DecidableEq α] {P : Program} {gl : Nat → Option (List AV)} {f g : FuncId} {E : En α} {k : Nat} (hk : E.size = k) (hE : OkE E) (hS : SortsK P f k) (hS0 : SortsNone P f) (hpf : Plainly P f) {m : Mem} {nx id ty : Nat} {l0 l l' : List α} (hl : l0.length = l.length) (hb : mget m id = ownB E ty l) {caps caps' : List AV} (hc : CapsOk m id caps caps')
    {cmp : α → α → Option Int} (hcmp : ∀ x y z, cmp x y = some z → Says P gl g (.agg (E.enc x) :: .agg (E.enc y) :: caps') (intA z)) (h : sortO cmp l = some l') {K : AV → Mem → Prop} (hK : K (.tup []) (mpushs m [(id, ownB E ty l')])) :
    callW P gl m nx f [ownV E id l0, .fn g caps] K := by
  have hlen := sortO_len h
  cases l with
  | nil =>
    have h0 : l0 = [] := List.eq_nil_of_length_eq_zero hl
    have h1 : l' = [] := List.eq_nil_of_length_eq_zero hlen
    subst h0; subst h1
    refine ⟨hpf, fun B c vals hg hgl hM ha hr => ?_⟩
    cases hr with
    | cons r1 r2 =>
      cases r2 with
      | cons r2 r3 =>
        cases r3
        have key : ∀ (p : Option Addr) (cap : Nat) (fv : Value), Calls P f #[.slice p 0 cap, fv] c.w fun e w' => ∃ v m', K v m' ∧ CallPost B c v m' (nx + 64) e w' := fun p cap fv => (hS0 p cap fv c.w).mono fun e w' ⟨h1, h2⟩ => by
          subst h1; subst h2
          refine ⟨.tup [], _, hK, .tuple #[], c, rfl, rfl, .tup .nil, Step.refl c, hg, fun j => ?_, fun j h => Nat.lt_of_lt_of_le (ha j h) (Nat.le_add_right _ _)⟩
          show c.M j = mget ((id, none) :: m) j
          rw [hM]
          by_cases hj : j = id
          · subst hj; rw [mget_hd, hb]; rfl
          · rw [mget_tl (fun e => hj e.symm)]
        have r1 : VRel c (.lst 0 [] true) _ := r1
        cases r1 with
        | lst0 a cap ex he hm hn => exact key a cap _
        | lst hb h hc hn he hm => exact key _ _ _
  | cons x l =>
    have hne : l0 ≠ [] := by rintro rfl; simp at hl
    have hne' : l' ≠ [] := by rintro rfl; simp at hlen
    rw [ownV_ne hne, hk]
    have := callW_sortO (f := f) (g := g) (nx := nx) (id := id) (ty := ty) (ex := false) hk hE hS hpf (hb.trans (ownB_ne (by simp))) (by simp) hc hcmp h (K := K) (gl := gl) (by rw [ownB_ne hne'] at hK; exact hK)
    rw [← hl] at this
    exact this
end Go.Proofs.Ytfhcciepaangiaa
