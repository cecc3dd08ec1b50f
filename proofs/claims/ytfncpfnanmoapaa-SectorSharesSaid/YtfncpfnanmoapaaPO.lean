/- Delete and Insert of elements with slices inside: their cells are carried as they are. -/
import Derived.Test.YtfncpfnanmoapaaPI
set_option linter.unusedVariables false
set_option linter.unusedSimpArgs false
namespace Go.Proofs.Ytfncpfnanmoapaa
open Go.RowKit

section
variable {P : Program} {gl : Nat → Option (List AV)} {α : Type} {E : En α}
/- an element with the values of its cells -/
abbrev Raw (E : En α) := { p : α × List Value // p.2.length = E.size }
def EnO (E : En α) : En (Raw E) where
  size := E.size
  enc p := p.1.2.map .sc
  len p := by rw [List.length_map]; exact p.2
  pos := E.pos
  cell p := by simp [isCell]
  cln p := by
    have : ∀ l : List Value, cleans (l.map AV.sc) = true := by
      intro l
      induction l with
      | nil => rfl
      | cons x l ih => simp [cleans, clean, ih]
    exact this _
  nrm p := by
    have : ∀ l : List Value, norms (l.map AV.sc) = l.map AV.sc := by
      intro l
      induction l with
      | nil => rfl
      | cons x l ih => simp [norms, norm, ih]
    exact this _
theorem EnO.sc : ScE (EnO E) := fun p => by
  show (p.1.2.map AV.sc).all isScA = true
  rw [List.all_map, List.all_eq_true]
  intro x _
  rfl
def rawL (L : List (Raw E)) : List Value := L.flatMap fun p => p.1.2
/- cells that are numbers, texts or slices -/
def SlE (E : En α) : Prop := ∀ x, ∀ a ∈ E.enc x, (∃ v, a = .sc v) ∨ ∃ k cs ex, a = .lst k cs ex
theorem sc_of {c c' : Cx} {a : AV} {v : Value} (h : (∃ v, a = .sc v) ∨ ∃ k cs ex, a = .lst k cs ex) (r : VRel c a v) : VRel c' (.sc v) v := by
  rcases h with ⟨u, rfl⟩ | ⟨k, cs, ex, rfl⟩
  · cases r with | sc v h => exact .sc v h
  · cases r <;> exact .sc _ rfl
theorem scs_of {c c' : Cx} : ∀ {xs : List AV} {vs : List Value}, (∀ a ∈ xs, (∃ v, a = .sc v) ∨ ∃ k cs ex, a = .lst k cs ex) → Rels c xs vs → Rels c' (vs.map AV.sc) vs
  | _, _, _, .nil => .nil
  | _, _, h, .cons r t => .cons (sc_of (h _ (by simp)) r) (scs_of (fun a ha => h a (by simp [ha])) t)
theorem scs_val {c : Cx} : ∀ {us vs : List Value}, Rels c (us.map AV.sc) vs → vs = us
  | [], _, h => by cases h; rfl
  | u :: us, _, h => by
    cases h with
    | cons h t => cases h; rw [scs_val t]
theorem split_raw (hE : SlE E) {c : Cx} : ∀ (l : List α) (vs : List Value), Rels c (encs E l) vs → ∃ L : List (Raw E), L.map (fun p => p.1.1) = l ∧ rawL L = vs ∧ (∀ p ∈ L, Rels c (E.enc p.1.1) p.1.2)
  | [], vs, h => by cases h; exact ⟨[], rfl, rfl, fun p hp => by simp at hp⟩
  | x :: l, vs, h => by
    rw [encs_cons] at h
    have h1 := h.take (E.enc x).length
    have h2 := h.drop (E.enc x).length
    rw [List.take_left] at h1
    rw [List.drop_left] at h2
    obtain ⟨L, q1, q2, q3⟩ := split_raw hE l _ h2
    have hlen : (vs.take (E.enc x).length).length = E.size := by rw [← h1.length]; exact E.len x
    refine ⟨⟨(x, vs.take (E.enc x).length), hlen⟩ :: L, by rw [List.map_cons, q1], ?_, fun p hp => ?_⟩
    · show vs.take (E.enc x).length ++ rawL L = vs
      rw [q2, List.take_append_drop]
    · rcases List.mem_cons.1 hp with rfl | hp
      · exact h1
      · exact q3 p hp
theorem encs_raw (L : List (Raw E)) : encs (EnO E) L = (rawL L).map AV.sc := by
  induction L with
  | nil => rfl
  | cons p L ih => rw [encs_cons, ih]; simp [rawL, EnO]
theorem rels_raw {c : Cx} : ∀ L : List (Raw E), (∀ p ∈ L, Rels c (E.enc p.1.1) p.1.2) → Rels c (encs E (L.map fun p => p.1.1)) (rawL L)
  | [], _ => .nil
  | p :: L, h => by
    rw [List.map_cons, encs_cons]
    exact (h p (by simp)).append (rels_raw L (fun q hq => h q (by simp [hq])))
/- a block's cells under another reading -/
def setM (c : Cx) (id : Nat) (b : ABlk) : Cx := { c with M := fun j => if j = id then some b else c.M j }
theorem setM_own {c : Cx} {id : Nat} {b b0 : ABlk} (hM : c.M id = some b0) (x : Nat) : (setM c id b).own x ↔ c.own x := by
  constructor
  · rintro ⟨j, blk, h1, h2⟩
    by_cases e : j = id
    · subst e; exact ⟨j, b0, hM, h2⟩
    · simp only [setM, if_neg e] at h1; exact ⟨j, blk, h1, h2⟩
  · rintro ⟨j, blk, h1, h2⟩
    by_cases e : j = id
    · subst e; exact ⟨j, b, by simp [setM], h2⟩
    · exact ⟨j, blk, by simp only [setM, if_neg e]; exact h1, h2⟩
theorem setM_step {c : Cx} {id : Nat} {b b0 : ABlk} (hM : c.M id = some b0) : Step c (setM c id b) :=
  ⟨rfl, rfl, rfl, Nat.le_refl _, fun _ _ _ => rfl, fun x _ h => (setM_own hM x).1 h, fun _ _ => rfl, fun _ h => h, fun _ => Iff.rfl, fun x arr T h => ⟨arr, h, rfl⟩, Nat.le_refl _⟩
theorem setM_good {B : Nat} {c : Cx} (g : Good B c) {id : Nat} {b b0 : ABlk} (hM : c.M id = some b0) (hb : ∃ (arr : Array Value) (vs rest : List Value), c.w.heap[c.f id]? = some (.cells arr b.ty) ∧ arr.toList = vs ++ rest ∧ Rels (setM c id b) b.cells vs) : Good B (setM c id b) := by
  have hj : ∀ j blk, (setM c id b).M j = some blk → (j = id ∧ blk = b) ∨ (j ≠ id ∧ c.M j = some blk) := by
    intro j blk h
    by_cases e : j = id
    · simp only [setM, if_pos e] at h; exact .inl ⟨e, (Option.some.inj h).symm⟩
    · simp only [setM, if_neg e] at h; exact .inr ⟨e, h⟩
  refine ⟨g.hB, fun j blk h => ?_, fun j blk h => ?_, g.nol, fun i j bi bj h h' hf => ?_⟩
  · rcases hj j blk h with ⟨rfl, -⟩ | ⟨-, h⟩
    · exact g.low _ _ hM
    · exact g.low _ _ h
  · rcases hj j blk h with ⟨rfl, rfl⟩ | ⟨-, h⟩
    · exact hb
    · obtain ⟨arr, vs, rest, q1, q2, q3⟩ := g.blk j blk h
      exact ⟨arr, vs, rest, q1, q2, q3.step (setM_step hM)⟩
  · have h1 : ∃ b1, c.M i = some b1 := by
      rcases hj i bi h with ⟨rfl, -⟩ | ⟨-, h⟩
      · exact ⟨_, hM⟩
      · exact ⟨_, h⟩
    have h2 : ∃ b1, c.M j = some b1 := by
      rcases hj j bj h' with ⟨rfl, -⟩ | ⟨-, h⟩
      · exact ⟨_, hM⟩
      · exact ⟨_, h⟩
    obtain ⟨b1, h1⟩ := h1
    obtain ⟨b2, h2⟩ := h2
    exact g.inj i j b1 b2 h1 h2 hf
/- read the cells as they are -/
theorem recode (hE : SlE E) {B : Nat} {c : Cx} (g : Good B c) {id ty : Nat} {l : List α} (hM : c.M id = some ⟨encs E l, ty⟩) : ∃ L : List (Raw E), L.map (fun p => p.1.1) = l ∧ (∀ p ∈ L, Rels c (E.enc p.1.1) p.1.2) ∧ Good B (setM c id ⟨encs (EnO E) L, ty⟩) := by
  obtain ⟨arr, vs, rest, q1, q2, q3⟩ := g.blk id _ hM
  obtain ⟨L, h1, h2, h3⟩ := split_raw hE l vs q3
  refine ⟨L, h1, h3, setM_good g hM ⟨arr, vs, rest, q1, q2, ?_⟩⟩
  show Rels _ (encs (EnO E) L) vs
  rw [encs_raw, h2]
  refine scs_of (c := c) (xs := encs E l) (fun a ha => ?_) q3
  unfold encs at ha
  obtain ⟨x, -, hx⟩ := List.mem_flatMap.1 ha
  exact hE x a hx
/- and back -/
theorem decode {B : Nat} {c : Cx} (g : Good B c) {id ty : Nat} {Y : List (Raw E)} (hM : c.M id = some ⟨encs (EnO E) Y, ty⟩) (hY : ∀ p ∈ Y, Rels c (E.enc p.1.1) p.1.2) : Good B (setM c id ⟨encs E (Y.map fun p => p.1.1), ty⟩) := by
  obtain ⟨arr, vs, rest, q1, q2, q3⟩ := g.blk id _ hM
  have q3 : Rels c (encs (EnO E) Y) vs := q3
  rw [encs_raw] at q3
  have hv := scs_val q3
  subst hv
  refine setM_good g hM ⟨arr, _, rest, q1, q2, ?_⟩
  exact rels_raw Y fun p hp => (hY p hp).step (setM_step hM)
theorem delO_map {β γ : Type} (f : β → γ) {by_ : Nat} {L : List β} {i j : Int} {y : List γ} (h : delO by_ (L.map f) i j = some y) : ∃ Y, delO by_ L i j = some Y ∧ Y.map f = y ∧ ∀ p ∈ Y, p ∈ L := by
  unfold delO at h ⊢
  rw [List.length_map] at h
  split at h
  · rename_i hc
    cases h
    rw [if_pos hc]
    refine ⟨_, rfl, by simp [List.map_take, List.map_drop], fun p hp => ?_⟩
    rcases List.mem_append.1 hp with q | q
    · exact List.mem_of_mem_take q
    · exact List.mem_of_mem_drop q
  · cases h
theorem del_opq {n id ty by_ : Nat} {look : Nat → Option ABlk} {f : FuncId} {l0 l y : List α} {i j : Int} (hE : SlE E) (hp : Plainly P f) (hl : l0.length = l.length) (hb : look id = ownB E ty l) (h : delO by_ l i j = some y)
    (run : ∀ {look' : Nat → Option ABlk} {L Y : List (Raw E)}, look' id = ownB (EnO E) ty L → delO by_ L i j = some Y → PureD P gl look' n f [ownV (EnO E) id L, intA i, intA j] (blkW (EnO E) n Y) [(n, some ⟨encs (EnO E) Y, ty⟩), (id, none)]) :
    PureD P gl look n f [ownV E id l0, intA i, intA j] (blkW E n y) [(n, some ⟨encs E y, ty⟩), (id, none)] := by
  refine ⟨hp, fun B c vals g hgl hn hlk hr => ?_⟩
  have hne : l ≠ [] := by
    rintro rfl
    unfold delO at h
    split at h
    · rename_i hc; simp only [List.length_nil] at hc; omega
    · cases h
  rw [ownB_ne hne] at hb
  have hM := hlk id _ hb
  obtain ⟨L, h1, h2, g1⟩ := recode hE g hM
  have hLl : L.length = l.length := by rw [← h1, List.length_map]
  have hLne : L ≠ [] := by rintro rfl; exact hne (by rw [← h1]; rfl)
  have hl0 : l0 ≠ [] := by rintro rfl; exact hne (List.eq_nil_of_length_eq_zero hl.symm)
  rw [← h1] at h
  obtain ⟨Y, k1, k2, k3⟩ := delO_map (fun p : Raw E => p.1.1) h
  have st1 := setM_step (b := ⟨encs (EnO E) L, ty⟩) hM
  have hv : ownV E id l0 = ownV (EnO E) id L := by rw [ownV_ne hl0, ownV_ne hLne, hl, hLl]; rfl
  rw [hv] at hr
  have hidn : n ≠ id := by rintro rfl; exact hn (g.low _ _ hM).2
  refine ((run (look' := fun j => if j = id then ownB (EnO E) ty L else none) (by simp) k1).2 B _ vals g1 (hgl.step st1) hn (fun j b hj => ?_) (hr.step st1)).mono ?_
  · by_cases e : j = id
    · simp only [if_pos e] at hj
      rw [ownB_ne hLne] at hj
      simp only [setM, if_pos e]
      exact hj
    · simp only [if_neg e] at hj; cases hj
  rintro e w' ⟨v', c2, rfl, rfl, r1, st2, g2, kM, ka1, ka2⟩
  have hMn : c2.M n = some ⟨encs (EnO E) Y, ty⟩ := by
    rw [kM]
    show (if n = id then none else if n = n then some (⟨encs (EnO E) Y, ty⟩ : ABlk) else _) = _
    rw [if_neg hidn, if_pos rfl]
  have g3 := decode g2 hMn (fun p hp => ((h2 p (k3 p hp)).step st1).step st2)
  have st3 := setM_step (b := ⟨encs E (Y.map fun p => p.1.1), ty⟩) hMn
  have hYl : Y.length = y.length := by rw [← k2, List.length_map]
  refine ⟨v', setM c2 n ⟨encs E (Y.map fun p => p.1.1), ty⟩, rfl, rfl, ?_, (st1.trans st2).trans st3, g3, fun j => ?_, ka1, ka2⟩
  · have : blkW E n y = blkW (EnO E) n Y := by unfold blkW; rw [hYl]; rfl
    rw [this]
    exact r1.step st3
  · show (if j = n then some (⟨encs E (Y.map fun p => p.1.1), ty⟩ : ABlk) else c2.M j) = (if j = id then none else if j = n then some (⟨encs E y, ty⟩ : ABlk) else c.M j)
    rw [k2]
    by_cases e1 : j = n
    · subst e1
      rw [if_pos rfl, if_neg hidn, if_pos rfl]
    · rw [if_neg e1, if_neg e1, kM]
      show (if j = id then none else if j = n then some (⟨encs (EnO E) Y, ty⟩ : ABlk) else (if j = id then some (⟨encs (EnO E) L, ty⟩ : ABlk) else c.M j)) = _
      by_cases e2 : j = id
      · rw [if_pos e2, if_pos e2]
      · rw [if_neg e2, if_neg e1, if_neg e2, if_neg e2]
end
end Go.Proofs.Ytfncpfnanmoapaa
