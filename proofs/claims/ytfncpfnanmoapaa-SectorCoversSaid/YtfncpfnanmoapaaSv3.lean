/- tube.All, called: a copy of the tube lies in a box. -/
import Derived.Test.YtfncpfnanmoapaaSv2
set_option linter.unusedVariables false
set_option linter.unusedSimpArgs false
namespace Go.Proofs.Ytfncpfnanmoapaa
open Go.RowKit Go.Shelf
attribute [local go_sem] Oper.semAt_some

theorem no_own {c : Cx} (h : ∀ id, c.M id = none) (b : Nat) : ¬ c.own b := by
  rintro ⟨id, blk, q, -⟩
  rw [h id] at q; cases q
theorem clone_at {α : Type} {E : En α} {P : Program} {gl : Nat → Option (List AV)} {f : FuncId} {l : List α} {ty : Nat} (h : PureD P gl (fun _ => none) 0 f [lstA E l] (ownV E 0 l) [(0, ownB E ty l)]) {c : Cx} (hc : Bare c) (hal : ∀ id, ¬ c.al id) (hgl : GlobOk gl c) {v : Value} (hr : VRel c (lstA E l) v) (n : Nat) :
    CallsIn Fence.wide n P f #[v] c.w (fun e w' => ∃ v', e = .returned v' ∧ Kept c.w w' ∧ VRel { c with w := w' } (lstA E l) v') := by
  refine callsIn_wide.2 ((h.2 _ c [v] hc.good hgl (hal 0) (fun _ _ h => by cases h) (.cons hr .nil)).mono ?_)
  rintro e w' ⟨v', c', rfl, rfl, k1, k2, k3, k4, k5, k6⟩
  have hM : ∀ id, c'.M id = if id = 0 then ownB E ty l else none := fun id => by
    rw [k4]
    show (if id = 0 then ownB E ty l else c.M id) = _
    rw [hc.M]
  have hb : Bare { c with w := c'.w } := hc.at k2.size
  obtain ⟨y, hy1, hy2⟩ : ∃ y, freeze (mget [(0, ownB E ty l)]) 6 (ownV E 0 l) = some y ∧ norm y = lstA E l := by
    have := fz_own (E := E) (m := [(0, ownB E ty l)]) 4 (id := 0) (ty := ty) (l := l) (l' := l) rfl (by simp [mget])
    unfold Fz at this
    exact Option.map_eq_some_iff.1 this
  refine ⟨v', rfl, ⟨k2.os, k2.tape, k2.output, k2.size, fun i hi => k2.blk i hi (hc.own i), k2.drawn⟩, ?_⟩
  rw [← hy2]
  refine norm_rel (freeze_rel (c0 := c') (c' := { c with w := c'.w }) k3 rfl ?_ ?_ (look := mget [(0, ownB E ty l)]) ?_ 6 k1 hy1)
  · exact fun i ⟨q1, q2, q3⟩ => ⟨q1, hb.own i, fun q => q3 ((k2.no i).2 q)⟩
  · rintro i ⟨id, blk, q1, rfl⟩
    exact ⟨k3.lt q1, hb.own _, fun q => by have h1 := hc.no _ q; have h2 := (k3.low id blk q1).1; omega⟩
  · intro id b hb'
    rw [hM]
    by_cases h0 : id = 0
    · subst h0; rw [if_pos rfl]; simpa [mget] using hb'
    · exfalso
      have h1 : Nat.beq 0 id = false := by
        cases q : Nat.beq 0 id with
        | false => rfl
        | true => exact absurd (Nat.eq_of_beq_eq_true q).symm h0
      simp [mget, h1] at hb'
theorem slice_of {α : Type} {E : En α} {c : Cx} {l : List α} {v : Value} (h : VRel c (lstA E l) v) : ∃ a m cap, v = .slice a m cap := by
  unfold lstA at h
  generalize encs E l = cs at h
  generalize l.length = q at h
  cases h <;> exact ⟨_, _, _, rfl⟩
set_option maxRecDepth 100000 in
set_option maxHeartbeats 2000000 in
theorem all_in {gl : Nat → Option (List AV)} {T : List TTubeNode} (hcl : PureD Try.prog gl (fun _ => none) 0 44 [lstA TTubeNode.E T] (ownV TTubeNode.E 0 T) [(0, ownB TTubeNode.E 66 T)])
    {c : Cx} (hc : Bare c) (hal : ∀ id, ¬ c.al id) (hgl : GlobOk gl c) {tv : Value} (hr : VRel c (lstA TTubeNode.E T) tv) (n : Nat) (hn : 1 ≤ n) :
    CallsIn Fence.wide n Try.prog 36 #[tv] c.w (fun e w' => ∃ tv', e = .returned (.func (.func 45) #[] #[.pointer (some ⟨c.w.heap.size, 0, none⟩)]) ∧ Kept c.w w' ∧ c.w.heap.size < w'.heap.size ∧ w'.cell? ⟨c.w.heap.size, 0, none⟩ = some tv' ∧
      VRel ⟨w', c.f, c.al, c.M, fun b => c.no b ∨ b = c.w.heap.size⟩ (lstA TTubeNode.E T) tv') := by
  obtain ⟨ad, m, cap, rfl⟩ := slice_of hr
  obtain ⟨W1, hW1⟩ : ∃ W1, c.w.alloc (.cells #[.slice ad m cap] 45) = W1 := ⟨_, rfl⟩
  have hK1 : Kept c.w W1 := by rw [← hW1]; exact Kept.alloc _ _
  have hs1 : W1.heap.size = c.w.heap.size + 1 := by rw [← hW1]; simp
  have hbox : W1.heap[c.w.heap.size]? = some (.cells #[.slice ad m cap] 45 (0, 0)) := by rw [← hW1]; exact World.alloc_heap_new _ _
  have hc1 : Bare ⟨W1, c.f, c.al, c.M, fun b => c.no b ∨ b = c.w.heap.size⟩ := ⟨hc.M, fun b hb => by
    show b < W1.heap.size
    rcases hb with h | h
    · have := hc.no b h; omega
    · omega⟩
  have st1 : ∀ k, c.stable k → (⟨W1, c.f, c.al, c.M, fun b => c.no b ∨ b = c.w.heap.size⟩ : Cx).stable k := fun k ⟨q1, q2, q3⟩ => ⟨by show k < W1.heap.size; omega, hc1.own k, fun q => by
    rcases q with q | q
    · exact q3 q
    · omega⟩
  have ct1 : ∀ k o vs, c.stable k → CellsAt c.w k o vs → CellsAt W1 k o vs := fun k o vs hs hce j v hv => by
    rw [← hce j v hv]
    simp [World.cell?, hK1.blk k hs.1]
  have hr1 := hr.moved (c' := ⟨W1, c.f, c.al, c.M, fun b => c.no b ∨ b = c.w.heap.size⟩) st1 ct1 (by simp [clean, encs_clean])
  have hgl1 : GlobOk gl ⟨W1, c.f, c.al, c.M, fun b => c.no b ∨ b = c.w.heap.size⟩ := fun g cs hg => by
    obtain ⟨h1, h2, h3⟩ := hgl g cs hg
    refine ⟨h1, h2.moved st1 ct1 (by simpa [clean] using h1), fun q => ?_⟩
    obtain ⟨k1, arr, T, fz, k2, k3⟩ := h3 q
    exact ⟨st1 _ k1, arr, T, fz, (hK1.blk _ k1.1).trans k2, k3⟩
  have hcall := clone_at hcl hc1 hal hgl1 hr1
  have hc0 : W1.cell? ⟨c.w.heap.size, 0, none⟩ = some (.slice ad m cap) := by simp [World.cell?, hbox]
  refine callsIn_of_wp Try.func36 rfl trivial ?_ rfl
  simp only [Try.ntmps36, List.size_toArray, List.length_cons, List.length_nil, Nat.reduceAdd, Nat.reduceSub, Array.replicate_succ, Array.replicate_zero, List.push_toArray, List.append_toArray, List.nil_append, List.cons_append]
  gi_wp2_with (refine ⟨trivial, ?_⟩; gi_at_call 44)
  refine (hcall _).mono ?_
  rintro e w2 ⟨v2, rfl, hk2, hv2⟩
  have hb2 : w2.heap[c.w.heap.size]? = some (.cells #[.slice ad m cap] 45 (0, 0)) := (hk2.blk _ (by show c.w.heap.size < W1.heap.size; omega)).trans hbox
  have hc2 : w2.cell? ⟨c.w.heap.size, 0, none⟩ = some (.slice ad m cap) := by simp [World.cell?, hb2]
  have hf2 : w2.frozen? ⟨c.w.heap.size, 0, none⟩ = false := by simp [World.frozen?, hb2]
  obtain ⟨ad2, m2, cap2, rfl⟩ := slice_of hv2
  gi_wp2
  go_ret
  have hsz : c.w.heap.size < w2.heap.size := by have := hk2.size; have h : W1.heap.size ≤ w2.heap.size := this; omega
  have hkeep : Kept c.w (w2.setCell ⟨c.w.heap.size, 0, none⟩ (.slice ad2 m2 cap2)) :=
    ⟨hk2.os.trans hK1.os, hk2.tape.trans hK1.tape, hk2.output.trans hK1.output, by simp; omega, fun b hb => (Below.heap_setCell _ _ _ _ (by show b ≠ c.w.heap.size; omega)).trans ((hk2.blk b (by show b < W1.heap.size; omega)).trans (hK1.blk b hb)), Nat.le_trans hK1.drawn hk2.drawn⟩
  refine ⟨.slice ad2 m2 cap2, rfl, hkeep, by simp; omega, World.cell?_setCell_same' _ _ _ (by rw [hc2]; rfl), ?_⟩
  refine VRel.moved (c := ⟨w2, c.f, c.al, c.M, fun b => c.no b ∨ b = c.w.heap.size⟩) (c' := ⟨w2.setCell ⟨c.w.heap.size, 0, none⟩ (.slice ad2 m2 cap2), c.f, c.al, c.M, fun b => c.no b ∨ b = c.w.heap.size⟩) (fun k ⟨q1, q2, q3⟩ => ⟨by show k < (w2.setCell _ _).heap.size; simpa using q1, no_own hc.M k, q3⟩) (fun k o vs hs hce j v hv => ?_) hv2 (by simp [clean, encs_clean])
  rw [← hce j v hv]
  have hne : k ≠ c.w.heap.size := fun e => hs.2.2 (.inr e)
  simp only [World.cell?]
  rw [Below.heap_setCell _ _ _ _ hne]
end Go.Proofs.Ytfncpfnanmoapaa
