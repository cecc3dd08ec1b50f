/- Functions that make a slice and hand back more beside it. -/
import Derived.Test.YtfhcciepaangiaaPi28
set_option linter.unusedVariables false
set_option linter.unusedSimpArgs false
namespace Go.Proofs.Ytfhcciepaangiaa
open Go.RowKit

section
variable {α : Type} {E : En α} {P : Program} {K : Cfg} {gl : Nat → Option (List AV)}
def MadeT (E : En α) (ty : Nat) (l : List α) (ws : List Value) (u : AV) (m : Mem) : Prop := ∃ a, u = .tup (a :: ws.map AV.sc) ∧ MadeO E ty l a m
theorem made_own_pf {ty id : Nat} {m : Mem} {l0 l : List α} (hl : l0.length = l.length) (hb : mget m id = ownB E ty l) : MadeO E ty l (ownV E id l0) m := by
  cases l with
  | nil =>
    have : l0 = [] := List.eq_nil_of_length_eq_zero hl
    subst this
    exact .inl ⟨rfl, .inr (.inl rfl)⟩
  | cons x l =>
    have hne : l0 ≠ [] := by rintro rfl; simp at hl
    refine .inr ⟨by simp, id, l0.length, false, ?_, hb⟩
    rw [ownV_ne hne, hl]
theorem made_blk_pf {ty id : Nat} {m : Mem} {l0 l : List α} (hl : l0.length = l.length) (hb : mget m id = some ⟨encs E l, ty⟩) : MadeO E ty l (blkV E id l0) m := by
  cases l with
  | nil =>
    have : l0 = [] := List.eq_nil_of_length_eq_zero hl
    subst this
    exact .inl ⟨rfl, .inr (.inr ⟨id, 0, E.size, rfl⟩)⟩
  | cons x l =>
    refine .inr ⟨by simp, id, l0.length, true, ?_, hb⟩
    simp only [blkV, hl]
theorem made_nils_pf {ty : Nat} {m : Mem} : MadeO E ty [] .nils m := .inl ⟨rfl, .inl rfl⟩
/- a value in a world, out of a run that is over, becomes the caller's -/
theorem made_any {B : Nat} {c : Cx} (g : Good B c) {n : Nat} (hn : ¬ c.al n) {no : Nat → Prop} {c0 : Cx} (k2 : Step (c.alone no) c0) (k3 : Good c.w.heap.size c0) {m : Mem} (k4 : ∀ id, c0.M id = mget m id) {ty : Nat} {l : List α} {u : AV} {v' : Value} (hm : MadeO E ty l u m) (k1 : VRel c0 u v')
    (hcl : ∀ {id : Nat} {b : ABlk} {off esz k cap : Nat} {ex : Bool}, c0.M id = some b → cleans b.cells = true → b.cells = encs E l → VRel c0 (.sl id off esz k cap ex) v' → PurePostD B c n (.sl n off esz k cap ex) [(n, some b)] (.returned v') c0.w) : PurePostD B c n (ownV E n l) [(n, ownB E ty l)] (.returned v') c0.w := by
  rcases hm with ⟨rfl, hu⟩ | ⟨hne, id, cap, ex, rfl, hb⟩
  · exact made_nil g hn k2 hu k1
  · rw [ownV_ne hne, ownB_ne hne]
    exact (hcl (by rw [k4]; exact hb) (encs_clean l) rfl k1).leV leV_sl
theorem tup_post {B : Nat} {c : Cx} {n : Nat} {a : AV} {d : Wr} {va : Value} {w' : World} (h : PurePostD B c n a d (.returned va) w') {ws : List Value} (hw : ∀ w ∈ ws, isSc w = true) : PurePostD B c n (.tup (a :: ws.map AV.sc)) d (.returned (.tuple (va :: ws).toArray)) w' := by
  obtain ⟨v', c', h1, h2, h3, h4⟩ := h
  cases h1
  refine ⟨_, c', rfl, h2, .tup (.cons h3 ?_), h4⟩
  clear h3 h4 h2
  induction ws with
  | nil => exact .nil
  | cons w ws ih => exact .cons (.sc w (hw w (by simp))) (ih fun x hx => hw x (by simp [hx]))
theorem rels_scs {c : Cx} : ∀ {ws : List Value} {vs : List Value}, Rels c (ws.map AV.sc) vs → vs = ws ∧ ∀ w ∈ ws, isSc w = true
  | [], _, h => by cases h; exact ⟨rfl, fun w hw => by simp at hw⟩
  | w :: ws, _, h => by
    cases h with
    | cons h t =>
      obtain ⟨rfl, h2⟩ := rels_scs t
      cases h with
      | sc _ hw => exact ⟨rfl, fun x hx => (List.mem_cons.1 hx).elim (fun e => e ▸ hw) (h2 x)⟩
theorem tup_split {c : Cx} {a : AV} {ws : List Value} {v' : Value} (h : VRel c (.tup (a :: ws.map AV.sc)) v') : ∃ va, v' = .tuple (va :: ws).toArray ∧ VRel c a va ∧ ∀ w ∈ ws, isSc w = true := by
  cases h with
  | tup h =>
    cases h with
    | cons h t =>
      obtain ⟨rfl, h2⟩ := rels_scs t
      exact ⟨_, rfl, h, h2⟩
theorem made_tupC {n : Nat} {look : Nat → Option ABlk} {f : FuncId} {args : List AV} {ty : Nat} {l : List α} {ws : List Value} (hc : cleans args = true) (h : Own P gl f args (MadeT E ty l ws)) : PureD P gl look n f args (.tup (ownV E n l :: ws.map AV.sc)) [(n, ownB E ty l)] := by
  refine ⟨h.1, fun B c vals g hgl hn _ hr => ?_⟩
  have hBs := g.hB
  have hno : ∀ b, (c.own b ∨ c.no b) → b < c.w.heap.size := by
    rintro b (⟨id, blk, h1, h2⟩ | h)
    · rw [← h2]; exact g.lt h1
    · have := g.nol b h; omega
  have hst : ∀ b, c.stable b → (c.alone fun b => c.own b ∨ c.no b).stable b := fun b ⟨h1, h2, h3⟩ => ⟨h1, alone_own, fun h => h.elim h2 h3⟩
  refine (h.2 c.w.heap.size (c.alone fun b => c.own b ∨ c.no b) vals (alone_good hno) (GlobOk.clean_to (c := c) rfl hst hgl) (fun _ => rfl) (fun _ h => h) (Rels.clean_to (c := c) (c0 := c.alone fun b => c.own b ∨ c.no b) rfl hst hr hc)).mono ?_
  rintro e w' ⟨u, m, nx, ⟨a, rfl, hm⟩, u', c0, rfl, rfl, k1, k2, k3, k4, k5⟩
  obtain ⟨va, rfl, k1, hw⟩ := tup_split k1
  exact tup_post (made_any g hn k2 k3 k4 hm k1 fun hb hcl _ hv => made_clean g hn k2 k3 hb hcl hv) hw
theorem made_tupS {n : Nat} {look : Nat → Option ABlk} {f : FuncId} {args ar : List AV} {ty : Nat} {l : List α} {ws : List Value} (hE : ScE E) (ha : SnL look 6 args ar) (h : Own P gl f ar (MadeT E ty l ws)) : PureD P gl look n f args (.tup (ownV E n l :: ws.map AV.sc)) [(n, ownB E ty l)] := by
  obtain ⟨us, h1, h2⟩ := snL_map 6 ha
  refine ⟨h.1, fun B c vals g hgl hn hl hr => ?_⟩
  have hBs := g.hB
  have hst : ∀ b, c.stable b → (c.alone c.no).stable b := fun b ⟨h1, h2, h3⟩ => ⟨h1, alone_own, h3⟩
  have hso : ∀ b, c.own b → (c.alone c.no).stable b := by
    rintro b ⟨id, blk, h1, h2⟩
    have hlow := (g.low id blk h1).1
    have hlt := g.lt h1
    refine ⟨by show b < c.w.heap.size; omega, alone_own, fun hn => ?_⟩
    have : b < B := g.nol b hn
    omega
  have hrr : Rels (c.alone c.no) us vals := mapO_rel (fun z _ u y r h => snap_rel (c := c) (c0 := c.alone c.no) g rfl hst hso hl 6 r h) hr h1
  have hrr : Rels (c.alone c.no) ar vals := by rw [← h2]; exact norms_rel hrr
  refine (h.2 c.w.heap.size (c.alone c.no) vals (alone_good fun b hb => by have := g.nol b hb; omega) (GlobOk.clean_to (c := c) rfl hst hgl) (fun _ => rfl) (fun _ h => h) hrr).mono ?_
  rintro e w' ⟨u, m, nx, ⟨a, rfl, hm⟩, u', c0, rfl, rfl, k1, k2, k3, k4, k5⟩
  obtain ⟨va, rfl, k1, hw⟩ := tup_split k1
  exact tup_post (made_any g hn k2 k3 k4 hm k1 fun {id b _ _ _ _ _} hb hcl he hv => made_scalar g hn k2 k3 hb (by rw [he]; exact encs_sc hE l) hv) hw
/- arguments that say less -/
theorem pureD_rl {n : Nat} {look : Nat → Option ABlk} {f : FuncId} {args ar : List AV} {v : AV} {d : Wr} (hl : ∀ (c : Cx) (vs : List Value), Rels c args vs → Rels c ar vs) (h : PureD P gl look n f ar v d) : PureD P gl look n f args v d :=
  ⟨h.1, fun B c vals g hgl hn hlk hr => h.2 B c vals g hgl hn hlk (hl c vals hr)⟩
end
end Go.Proofs.Ytfhcciepaangiaa
