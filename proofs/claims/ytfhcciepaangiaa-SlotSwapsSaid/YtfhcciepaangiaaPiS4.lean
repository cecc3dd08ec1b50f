/- Sorting as a plain program. -/
import Derived.Test.YtfhcciepaangiaaPiS3
import Derived.Test.YtfhcciepaangiaaPiP
set_option linter.unusedVariables false
set_option linter.unusedSimpArgs false
namespace Go.Proofs.Ytfhcciepaangiaa
open Go.RowKit Go.Sort

section
variable {α : Type}
/- elements of a list as a type -/
def SubE (E : En α) (p : α → Prop) : En { x // p x } where
  size := E.size
  enc x := E.enc x.1
  len x := E.len x.1
  pos := E.pos
  cell x := E.cell x.1
  cln x := E.cln x.1
  nrm x := E.nrm x.1
theorem encs_sub (E : En α) (p : α → Prop) (l : List { x // p x }) : encs (SubE E p) l = encs E (l.map (·.1)) := by
  induction l with
  | nil => rfl
  | cons x l ih => rw [encs_cons, ih, List.map_cons, encs_cons]; rfl
theorem callW_sortO [DecidableEq α] {P : Program} {gl : Nat → Option (List AV)} {f g : FuncId} {E : En α} {k : Nat} (hk : E.size = k) (hE : OkE E) (hS : SortsK P f k) (hpf : Plainly P f) {m : Mem} {nx id ty : Nat} {l l' : List α} {ex : Bool} (hb : mget m id = some ⟨encs E l, ty⟩) (hne : l ≠ []) {caps caps' : List AV} (hc : CapsOk m id caps caps')
    {cmp : α → α → Option Int} (hcmp : ∀ x y z, cmp x y = some z → Says P gl g (.agg (E.enc x) :: .agg (E.enc y) :: caps') (intA z)) (h : sortO cmp l = some l') {K : AV → Mem → Prop} (hK : K (.tup []) (mpushs m [(id, some ⟨encs E l', ty⟩)])) :
    callW P gl m nx f [.sl id 0 k l.length l.length ex, .fn g caps] K := by
  obtain ⟨h1, h2, ho⟩ := sortO_facts h
  have hn : l.length < 4611686018427387904 := by
    unfold sortO at h
    cases hc : orderB cmp l && decide (l.length < 4611686018427387904) with
    | false => rw [hc] at h; cases h
    | true => simp only [Bool.and_eq_true, decide_eq_true_eq] at hc; exact hc.2
  let β := { x // x ∈ l }
  have inh : Inhabited β := by
    cases l with
    | nil => exact absurd rfl hne
    | cons x l => exact ⟨⟨x, by simp⟩⟩
  let cf : β → β → Int := fun x y => (cmp x.1 y.1).getD 0
  have hlt : ∀ x y : β, ltOf cf x y = ltO cmp x.1 y.1 := fun x y => rfl
  have hO : SWO (ltOf cf) := ⟨fun x => by rw [hlt]; exact ho.irr x.2, fun x y z a b => by rw [hlt] at *; exact ho.tra _ x.2 _ y.2 _ z.2 a b, fun x y z a b => by rw [hlt] at *; exact ho.nle x.2 y.2 z.2 a b⟩
  have hat : (l.attach.map (·.1)) = l := by simp
  have hla : l.attach.length = l.length := by simp
  have he : encs (SubE E (· ∈ l)) l.attach = encs E l := by rw [encs_sub, hat]
  have fin : (sortL cf l.attach).map (·.1) = l' := by
    obtain ⟨-, s2, s3⟩ := sortL_facts hO l.attach
    have p1 : ((sortL cf l.attach).map (·.1)).Perm l := by have := s2.map (·.1); rwa [hat] at this
    refine sorted_unique (R := fun a b => ltO cmp b a = false) (fun x hx y hy a b => ?_) (p1.trans h1.symm) ?_ h2
    · have mx : x ∈ l := p1.mem_iff.1 hx
      have my : y ∈ l := p1.mem_iff.1 hy
      rcases ho.tot x mx y my with k | k | k
      · rw [k] at b; cases b
      · rw [k] at a; cases a
      · exact k
    · rw [List.pairwise_map]
      exact s3
  have := callW_sortK (α := β) (E := SubE E (· ∈ l)) (k := k) (f := f) (g := g) (nx := nx) (id := id) (ty := ty) (l := l.attach) (ex := ex) (cf := cf) (K := K) (gl := gl) hk (fun x c hc => hE x.1 c hc) hS hpf (by rw [he]; exact hb) (by rw [hla]; exact hn) hc hO (fun x y => by
    obtain ⟨z, hz⟩ := ho.some x.1 x.2 y.1 y.2
    have := hcmp x.1 y.1 z hz
    show Says P gl g (.agg (E.enc x.1) :: .agg (E.enc y.1) :: caps') (intA ((cmp x.1 y.1).getD 0))
    rw [hz]; exact this) (by rw [encs_sub, fin]; exact hK)
  rw [hla] at this
  exact this
end
end Go.Proofs.Ytfhcciepaangiaa
