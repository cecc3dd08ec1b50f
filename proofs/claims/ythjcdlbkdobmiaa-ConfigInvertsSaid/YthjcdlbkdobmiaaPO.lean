/- Delete and Insert of elements with slices inside: their cells are carried as they are. -/
import Derived.Test.YthjcdlbkdobmiaaPI
set_option linter.unusedVariables false
set_option linter.unusedSimpArgs false
namespace Go.Proofs.Ythjcdlbkdobmiaa
open Go.RowKit

section
variable {P : Program} {gl : Nat → Option (List AV)} {α : Type} {E : En α}
/- an element with the values of its cells -/
abbrev Raw (E : En α) := { p : α × List Value // p.2.length = E.size }
def EnO (E : En α) : En (Raw E) where
  size := E.size
  enc p := p.1.2.map .sc
  len p := by rw [List.length_map]; exact p.2
  pos := E.pos
  cell p := by simp [isCell]
  cln p := by
    have : ∀ l : List Value, cleans (l.map AV.sc) = true := by
      intro l
      induction l with
      | nil => rfl
      | cons x l ih => simp [cleans, clean, ih]
    exact this _
  nrm p := by
    have : ∀ l : List Value, norms (l.map AV.sc) = l.map AV.sc := by
      intro l
      induction l with
      | nil => rfl
      | cons x l ih => simp [norms, norm, ih]
    exact this _
theorem EnO.sc : ScE (EnO E) := fun p => by
  show (p.1.2.map AV.sc).all isScA = true
  rw [List.all_map, List.all_eq_true]
  intro x _
  rfl
def rawL (L : List (Raw E)) : List Value := L.flatMap fun p => p.1.2
/- cells that are numbers, texts or slices -/
def SlE (E : En α) : Prop := ∀ x, ∀ a ∈ E.enc x, (∃ v, a = .sc v) ∨ ∃ k cs ex, a = .lst k cs ex
theorem sc_of {c c' : Cx} {a : AV} {v : Value} (h : (∃ v, a = .sc v) ∨ ∃ k cs ex, a = .lst k cs ex) (r : VRel c a v) : VRel c' (.sc v) v := by
  rcases h with ⟨u, rfl⟩ | ⟨k, cs, ex, rfl⟩
  · cases r with | sc v h => exact .sc v h
  · cases r <;> exact .sc _ rfl
theorem scs_of {c c' : Cx} : ∀ {xs : List AV} {vs : List Value}, (∀ a ∈ xs, (∃ v, a = .sc v) ∨ ∃ k cs ex, a = .lst k cs ex) → Rels c xs vs → Rels c' (vs.map AV.sc) vs
  | _, _, _, .nil => .nil
  | _, _, h, .cons r t => .cons (sc_of (h _ (by simp)) r) (scs_of (fun a ha => h a (by simp [ha])) t)
theorem scs_val {c : Cx} : ∀ {us vs : List Value}, Rels c (us.map AV.sc) vs → vs = us
  | [], _, h => by cases h; rfl
  | u :: us, _, h => by
    cases h with
    | cons h t => cases h; rw [scs_val t]
theorem split_raw (hE : SlE E) {c : Cx} : ∀ (l : List α) (vs : List Value), Rels c (encs E l) vs → ∃ L : List (Raw E), L.map (fun p => p.1.1) = l ∧ rawL L = vs ∧ (∀ p ∈ L, Rels c (E.enc p.1.1) p.1.2)
  | [], vs, h => by cases h; exact ⟨[], rfl, rfl, fun p hp => by simp at hp⟩
  | x :: l, vs, h => by
    rw [encs_cons] at h
    have h1 := h.take (E.enc x).length
    have h2 := h.drop (E.enc x).length
    rw [List.take_left] at h1
    rw [List.drop_left] at h2
    obtain ⟨L, q1, q2, q3⟩ := split_raw hE l _ h2
    have hlen : (vs.take (E.enc x).length).length = E.size := by rw [← h1.length]; exact E.len x
    refine ⟨⟨(x, vs.take (E.enc x).length), hlen⟩ :: L, by rw [List.map_cons, q1], ?_, fun p hp => ?_⟩
    · show vs.take (E.enc x).length ++ rawL L = vs
      rw [q2, List.take_append_drop]
    · rcases List.mem_cons.1 hp with rfl | hp
      · exact h1
      · exact q3 p hp
theorem encs_raw (L : List (Raw E)) : encs (EnO E) L = (rawL L).map AV.sc := by
  induction L with
  | nil => rfl
  | cons p L ih => rw [encs_cons, ih]; simp [rawL, EnO]
theorem rels_raw {c : Cx} : ∀ L : List (Raw E), (∀ p ∈ L, Rels c (E.enc p.1.1) p.1.2) → Rels c (encs E (L.map fun p => p.1.1)) (rawL L)
  | [], _ => .nil
  | p :: L, h => by
    rw [List.map_cons, encs_cons]
    exact (h p (by simp)).append (rels_raw L (fun q hq => h q (by simp [hq])))
/- a block's cells under another reading -/
def setM (c : Cx) (id : Nat) (b : ABlk) : Cx := { c with M := fun j => if j = id then some b else c.M j }
theorem setM_own {c : Cx} {id : Nat} {b b0 : ABlk} (hM : c.M id = some b0) (x : Nat) : (setM c id b).own x ↔ c.own x := by
  constructor
  · rintro ⟨j, blk, h1, h2⟩
    by_cases e : j = id
    · subst e; exact ⟨j, b0, hM, h2⟩
    · simp only [setM, if_neg e] at h1; exact ⟨j, blk, h1, h2⟩
  · rintro ⟨j, blk, h1, h2⟩
    by_cases e : j = id
    · subst e; exact ⟨j, b, by simp [setM], h2⟩
    · exact ⟨j, blk, by simp only [setM, if_neg e]; exact h1, h2⟩
theorem setM_step {c : Cx} {id : Nat} {b b0 : ABlk} (hM : c.M id = some b0) : Step c (setM c id b) :=
  ⟨rfl, rfl, rfl, Nat.le_refl _, fun _ _ _ => rfl, fun x _ h => (setM_own hM x).1 h, fun _ _ => rfl, fun _ h => h, fun _ => Iff.rfl, fun x arr T h => ⟨arr, h, rfl⟩, Nat.le_refl _⟩
theorem setM_good {B : Nat} {c : Cx} (g : Good B c) {id : Nat} {b b0 : ABlk} (hM : c.M id = some b0) (hb : ∃ (arr : Array Value) (vs rest : List Value), c.w.heap[c.f id]? = some (.cells arr b.ty) ∧ arr.toList = vs ++ rest ∧ Rels (setM c id b) b.cells vs) : Good B (setM c id b) := by
  have hj : ∀ j blk, (setM c id b).M j = some blk → (j = id ∧ blk = b) ∨ (j ≠ id ∧ c.M j = some blk) := by
    intro j blk h
    by_cases e : j = id
    · simp only [setM, if_pos e] at h; exact .inl ⟨e, (Option.some.inj h).symm⟩
    · simp only [setM, if_neg e] at h; exact .inr ⟨e, h⟩
  refine ⟨g.hB, fun j blk h => ?_, fun j blk h => ?_, g.nol, fun i j bi bj h h' hf => ?_⟩
  · rcases hj j blk h with ⟨rfl, -⟩ | ⟨-, h⟩
    · exact g.low _ _ hM
    · exact g.low _ _ h
  · rcases hj j blk h with ⟨rfl, rfl⟩ | ⟨-, h⟩
    · exact hb
    · obtain ⟨arr, vs, rest, q1, q2, q3⟩ := g.blk j blk h
      exact ⟨arr, vs, rest, q1, q2, q3.step (setM_step hM)⟩
  · have h1 : ∃ b1, c.M i = some b1 := by
      rcases hj i bi h with ⟨rfl, -⟩ | ⟨-, h⟩
      · exact ⟨_, hM⟩
      · exact ⟨_, h⟩
    have h2 : ∃ b1, c.M j = some b1 := by
      rcases hj j bj h' with ⟨rfl, -⟩ | ⟨-, h⟩
      · exact ⟨_, hM⟩
      · exact ⟨_, h⟩
    obtain ⟨b1, h1⟩ := h1
    obtain ⟨b2, h2⟩ := h2
    exact g.inj i j b1 b2 h1 h2 hf
/- read the cells as they are -/
theorem recode (hE : SlE E) {B : Nat} {c : Cx} (g : Good B c) {id ty : Nat} {l : List α} (hM : c.M id = some ⟨encs E l, ty⟩) : ∃ L : List (Raw E), L.map (fun p => p.1.1) = l ∧ (∀ p ∈ L, Rels c (E.enc p.1.1) p.1.2) ∧ Good B (setM c id ⟨encs (EnO E) L, ty⟩) := by
  obtain ⟨arr, vs, rest, q1, q2, q3⟩ := g.blk id _ hM
  obtain ⟨L, h1, h2, h3⟩ := split_raw hE l vs q3
  refine ⟨L, h1, h3, setM_good g hM ⟨arr, vs, rest, q1, q2, ?_⟩⟩
  show Rels _ (encs (EnO E) L) vs
  rw [encs_raw, h2]
  refine scs_of (c := c) (xs := encs E l) (fun a ha => ?_) q3
  unfold encs at ha
  obtain ⟨x, -, hx⟩ := List.mem_flatMap.1 ha
  exact hE x a hx
/- and back -/
theorem decode {B : Nat} {c : Cx} (g : Good B c) {id ty : Nat} {Y : List (Raw E)} (hM : c.M id = some ⟨encs (EnO E) Y, ty⟩) (hY : ∀ p ∈ Y, Rels c (E.enc p.1.1) p.1.2) : Good B (setM c id ⟨encs E (Y.map fun p => p.1.1), ty⟩) := by
  obtain ⟨arr, vs, rest, q1, q2, q3⟩ := g.blk id _ hM
  have q3 : Rels c (encs (EnO E) Y) vs := q3
  rw [encs_raw] at q3
  have hv := scs_val q3
  subst hv
  refine setM_good g hM ⟨arr, _, rest, q1, q2, ?_⟩
  exact rels_raw Y fun p hp => (hY p hp).step (setM_step hM)
theorem delO_map {β γ : Type} (f : β → γ) {by_ : Nat} {L : List β} {i j : Int} {y : List γ} (h : delO by_ (L.map f) i j = some y) : ∃ Y, delO by_ L i j = some Y ∧ Y.map f = y ∧ ∀ p ∈ Y, p ∈ L := by
  unfold delO at h ⊢
  rw [List.length_map] at h
  split at h
  · rename_i hc
    cases h
    rw [if_pos hc]
    refine ⟨_, rfl, by simp [List.map_take, List.map_drop], fun p hp => ?_⟩
    rcases List.mem_append.1 hp with q | q
    · exact List.mem_of_mem_take q
    · exact List.mem_of_mem_drop q
  · cases h
theorem del_opq {n id ty by_ : Nat} {look : Nat → Option ABlk} {f : FuncId} {l0 l y : List α} {i j : Int} (hE : SlE E) (hp : Plainly P f) (hl : l0.length = l.length) (hb : look id = ownB E ty l) (h : delO by_ l i j = some y)
    (run : ∀ {look' : Nat → Option ABlk} {L Y : List (Raw E)}, look' id = ownB (EnO E) ty L → delO by_ L i j = some Y → PureD P gl look' n f [ownV (EnO E) id L, intA i, intA j] (blkW (EnO E) n Y) [(n, some ⟨encs (EnO E) Y, ty⟩), (id, none)]) :
    PureD P gl look n f [ownV E id l0, intA i, intA j] (blkW E n y) [(n, some ⟨encs E y, ty⟩), (id, none)] := by
  refine ⟨hp, fun B c vals g hgl hn hlk hr => ?_⟩
  have hne : l ≠ [] := by
    rintro rfl
    unfold delO at h
    split at h
    · rename_i hc; simp only [List.length_nil] at hc; omega
    · cases h
  rw [ownB_ne hne] at hb
  have hM := hlk id _ hb
  obtain ⟨L, h1, h2, g1⟩ := recode hE g hM
  have hLl : L.length = l.length := by rw [← h1, List.length_map]
  have hLne : L ≠ [] := by rintro rfl; exact hne (by rw [← h1]; rfl)
  have hl0 : l0 ≠ [] := by rintro rfl; exact hne (List.eq_nil_of_length_eq_zero hl.symm)
  rw [← h1] at h
  obtain ⟨Y, k1, k2, k3⟩ := delO_map (fun p : Raw E => p.1.1) h
  have st1 := setM_step (b := ⟨encs (EnO E) L, ty⟩) hM
  have hv : ownV E id l0 = ownV (EnO E) id L := by rw [ownV_ne hl0, ownV_ne hLne, hl, hLl]; rfl
  rw [hv] at hr
  have hidn : n ≠ id := by rintro rfl; exact hn (g.low _ _ hM).2
  refine ((run (look' := fun j => if j = id then ownB (EnO E) ty L else none) (by simp) k1).2 B _ vals g1 (hgl.step st1) hn (fun j b hj => ?_) (hr.step st1)).mono ?_
  · by_cases e : j = id
    · simp only [if_pos e] at hj
      rw [ownB_ne hLne] at hj
      simp only [setM, if_pos e]
      exact hj
    · simp only [if_neg e] at hj; cases hj
  rintro e w' ⟨v', c2, rfl, rfl, r1, st2, g2, kM, ka1, ka2⟩
  have hMn : c2.M n = some ⟨encs (EnO E) Y, ty⟩ := by
    rw [kM]
    show (if n = id then none else if n = n then some (⟨encs (EnO E) Y, ty⟩ : ABlk) else _) = _
    rw [if_neg hidn, if_pos rfl]
  have g3 := decode g2 hMn (fun p hp => ((h2 p (k3 p hp)).step st1).step st2)
  have st3 := setM_step (b := ⟨encs E (Y.map fun p => p.1.1), ty⟩) hMn
  have hYl : Y.length = y.length := by rw [← k2, List.length_map]
  refine ⟨v', setM c2 n ⟨encs E (Y.map fun p => p.1.1), ty⟩, rfl, rfl, ?_, (st1.trans st2).trans st3, g3, fun j => ?_, ka1, ka2⟩
  · have : blkW E n y = blkW (EnO E) n Y := by unfold blkW; rw [hYl]; rfl
    rw [this]
    exact r1.step st3
  · show (if j = n then some (⟨encs E (Y.map fun p => p.1.1), ty⟩ : ABlk) else c2.M j) = (if j = id then none else if j = n then some (⟨encs E y, ty⟩ : ABlk) else c.M j)
    rw [k2]
    by_cases e1 : j = n
    · subst e1
      rw [if_pos rfl, if_neg hidn, if_pos rfl]
    · rw [if_neg e1, if_neg e1, kM]
      show (if j = id then none else if j = n then some (⟨encs (EnO E) Y, ty⟩ : ABlk) else (if j = id then some (⟨encs (EnO E) L, ty⟩ : ABlk) else c.M j)) = _
      by_cases e2 : j = id
      · rw [if_pos e2, if_pos e2]
      · rw [if_neg e2, if_neg e1, if_neg e2, if_neg e2]
theorem insO_map {β γ : Type} (f : β → γ) {by_ : Nat} {L X : List β} {i : Int} {y : List γ} (h : insO by_ (L.map f) i (X.map f) = some y) : ∃ Y, insO by_ L i X = some Y ∧ Y.map f = y ∧ (∀ p ∈ Y, p ∈ L ∨ p ∈ X) ∧ Y ≠ [] := by
  unfold insO at h ⊢
  rw [List.length_map, List.length_map] at h
  split at h
  · rename_i hc
    cases h
    rw [if_pos hc]
    refine ⟨_, rfl, by simp [List.map_take, List.map_drop], fun p hp => ?_, ?_⟩
    · rcases List.mem_append.1 hp with q | q
      · rcases List.mem_append.1 q with q | q
        · exact .inl (List.mem_of_mem_take q)
        · exact .inr q
      · exact .inl (List.mem_of_mem_drop q)
    · intro e
      have := congrArg List.length e
      simp only [List.length_append, List.length_nil] at this
      omega
  · cases h
theorem ins_opq {n id wid ty ty2 by_ : Nat} {look : Nat → Option ABlk} {f : FuncId} {l0 l xs0 xs y : List α} {i : Int} (hE : SlE E) (hp : Plainly P f) (hl : l0.length = l.length) (hb : look id = ownB E ty l) (hl2 : xs0.length = xs.length) (hb2 : look wid = some ⟨encs E xs, ty2⟩) (hid : id ≠ wid) (h : insO by_ l i xs = some y)
    (run : ∀ {look' : Nat → Option ABlk} {L X Y : List (Raw E)}, look' id = ownB (EnO E) ty L → look' wid = some ⟨encs (EnO E) X, ty2⟩ → insO by_ L i X = some Y → PureD P gl look' n f [ownV (EnO E) id L, intA i, blkV (EnO E) wid X] (ownV (EnO E) n Y) [(n, ownB (EnO E) ty Y), (wid, none), (id, none)]) :
    PureD P gl look n f [ownV E id l0, intA i, blkV E wid xs0] (ownV E n y) [(n, ownB E ty y), (wid, none), (id, none)] := by
  refine ⟨hp, fun B c vals g hgl hn hlk hr => ?_⟩
  have hMw := hlk wid _ hb2
  obtain ⟨X, x1, x2, g1⟩ := recode hE g hMw
  have st1 := setM_step (b := ⟨encs (EnO E) X, ty2⟩) hMw
  have hwn : n ≠ wid := by rintro rfl; exact hn (g.low _ _ hMw).2
  obtain ⟨L, c2, h1, h2, g2, st2, hcw, hal, hMw2, hMi, hMo⟩ : ∃ (L : List (Raw E)) (c2 : Cx), L.map (fun p => p.1.1) = l ∧ (∀ p ∈ L, Rels c2 (E.enc p.1.1) p.1.2) ∧ Good B c2 ∧ Step (setM c wid ⟨encs (EnO E) X, ty2⟩) c2 ∧ c2.w = c.w ∧ (∀ j, c2.al j ↔ c.al j) ∧ c2.M wid = some ⟨encs (EnO E) X, ty2⟩ ∧ (∀ b, ownB (EnO E) ty L = some b → c2.M id = some b) ∧ ∀ j, j ≠ id → j ≠ wid → c2.M j = c.M j := by
    by_cases hne : l = []
    · refine ⟨[], setM c wid ⟨encs (EnO E) X, ty2⟩, by rw [hne]; rfl, fun p hp => by simp at hp, g1, Step.refl _, rfl, fun _ => Iff.rfl, by simp [setM], (fun b hb => by cases hb), fun j _ hj => by simp [setM, hj]⟩
    · rw [ownB_ne hne] at hb
      have hM := hlk id _ hb
      have hM1 : (setM c wid ⟨encs (EnO E) X, ty2⟩).M id = some ⟨encs E l, ty⟩ := by simp only [setM, if_neg hid]; exact hM
      obtain ⟨L, h1, h2, g2⟩ := recode hE g1 hM1
      have st2 := setM_step (b := ⟨encs (EnO E) L, ty⟩) hM1
      have hLne : L ≠ [] := by rintro rfl; exact hne (by rw [← h1]; rfl)
      refine ⟨L, _, h1, fun p hp => (h2 p hp).step st2, g2, st2, rfl, fun _ => Iff.rfl, by simp [setM, Ne.symm hid], fun b hb => ?_, fun j hj hj2 => by simp [setM, hj, hj2]⟩
      rw [ownB_ne hLne] at hb
      simp only [setM, if_true]
      exact hb
  have hLl : L.length = l.length := by rw [← h1, List.length_map]
  have hXl : X.length = xs.length := by rw [← x1, List.length_map]
  have st12 := st1.trans st2
  rw [← h1, ← x1] at h
  obtain ⟨Y, k1, k2, k3, hYne⟩ := insO_map (fun p : Raw E => p.1.1) h
  have hv : ownV E id l0 = ownV (EnO E) id L := by
    cases l0 with
    | nil =>
      have : L = [] := List.eq_nil_of_length_eq_zero (by rw [hLl, ← hl]; rfl)
      rw [this]; rfl
    | cons x l0 =>
      have hLne : L ≠ [] := by rintro rfl; simp only [List.length_nil] at hLl; rw [← hLl] at hl; simp at hl
      rw [ownV_ne (by simp), ownV_ne hLne, hl, hLl]; rfl
  have hw : blkV E wid xs0 = blkV (EnO E) wid X := by unfold blkV; rw [hl2, hXl]; rfl
  rw [hv, hw] at hr
  have hnal : ¬ c2.al n := fun q => hn ((hal n).1 q)
  have hcall := (run (look' := fun j => if j = wid then some ⟨encs (EnO E) X, ty2⟩ else if j = id then ownB (EnO E) ty L else none) (by simp [hid]) (by simp) k1).2 B _ vals g2 (hgl.step st12) hnal (fun j b hj => by
    by_cases e : j = wid
    · simp only [if_pos e] at hj
      rw [e, hMw2]; exact hj
    · simp only [if_neg e] at hj
      by_cases e2 : j = id
      · simp only [if_pos e2] at hj
        rw [e2]; exact hMi b hj
      · simp only [if_neg e2] at hj; cases hj) (hr.step st12)
  rw [hcw] at hcall
  refine hcall.mono ?_
  rintro e w' ⟨v', c3, rfl, rfl, r1, st3, g3, kM, ka1, ka2⟩
  rw [ownB_ne hYne] at kM
  have hYl : Y.length = y.length := by rw [← k2, List.length_map]
  have hyne : y ≠ [] := by rintro rfl; exact hYne (List.eq_nil_of_length_eq_zero hYl)
  have hval : ownV E n y = ownV (EnO E) n Y := by rw [ownV_ne hyne, ownV_ne hYne, hYl]; rfl
  by_cases hnid : n = id
  · refine ⟨v', c3, rfl, rfl, by rw [hval]; exact r1, st12.trans st3, g3, fun j => ?_, fun j q => (ka1 j q).imp (hal j).1 (fun h => h), fun j q => ka2 j ((hal j).2 q)⟩
    rw [kM]
    show (if j = id then none else if j = wid then none else if j = n then some (⟨encs (EnO E) Y, ty⟩ : ABlk) else c2.M j) = (if j = id then none else if j = wid then none else if j = n then ownB E ty y else c.M j)
    by_cases e2 : j = id
    · rw [if_pos e2, if_pos e2]
    · rw [if_neg e2, if_neg e2]
      by_cases e3 : j = wid
      · rw [if_pos e3, if_pos e3]
      · rw [if_neg e3, if_neg e3, if_neg (by rw [hnid]; exact e2), if_neg (by rw [hnid]; exact e2), hMo j e2 e3]
  have hMn : c3.M n = some ⟨encs (EnO E) Y, ty⟩ := by
    rw [kM]
    show (if n = id then none else if n = wid then none else if n = n then some (⟨encs (EnO E) Y, ty⟩ : ABlk) else _) = _
    rw [if_neg hnid, if_neg hwn, if_pos rfl]
  have g4 := decode g3 hMn (fun p hp => by
    rcases k3 p hp with q | q
    · exact (h2 p q).step st3
    · exact ((x2 p q).step st12).step st3)
  have st4 := setM_step (b := ⟨encs E (Y.map fun p => p.1.1), ty⟩) hMn
  refine ⟨v', setM c3 n ⟨encs E (Y.map fun p => p.1.1), ty⟩, rfl, rfl, ?_, (st12.trans st3).trans st4, g4, fun j => ?_, fun j q => (ka1 j q).imp (hal j).1 (fun h => h), fun j q => ka2 j ((hal j).2 q)⟩
  · rw [hval]
    exact r1.step st4
  · rw [ownB_ne hyne]
    show (if j = n then some (⟨encs E (Y.map fun p => p.1.1), ty⟩ : ABlk) else c3.M j) = (if j = id then none else if j = wid then none else if j = n then some (⟨encs E y, ty⟩ : ABlk) else c.M j)
    rw [k2]
    by_cases e1 : j = n
    · subst e1
      rw [if_pos rfl, if_neg hnid, if_neg hwn, if_pos rfl]
    · rw [if_neg e1, if_neg e1, kM]
      show (if j = id then none else if j = wid then none else if j = n then some (⟨encs (EnO E) Y, ty⟩ : ABlk) else c2.M j) = _
      rw [if_neg e1]
      by_cases e2 : j = id
      · rw [if_pos e2, if_pos e2]
      · rw [if_neg e2, if_neg e2]
        by_cases e3 : j = wid
        · rw [if_pos e3, if_pos e3]
        · rw [if_neg e3, if_neg e3, hMo j e2 e3]
end
end Go.Proofs.Ythjcdlbkdobmiaa
