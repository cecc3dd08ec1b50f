/- States at the head of a loop, with memory; calls with arguments in the run's own memory. -/
import Derived.Test.YtfhcciepaangiaaPi25
set_option linter.unusedVariables false
set_option linter.unusedSimpArgs false
namespace Go.Proofs.Ytfhcciepaangiaa
open Go.RowKit

/- a value that says no more -/
def leV (u v : AV) : Prop := ∀ (c : Cx) (x : Value), VRel c u x → VRel c v x
theorem leV_refl (u : AV) : leV u u := fun _ _ h => h
theorem leV_norm (u : AV) : leV u (norm u) := fun _ _ h => norm_rel h
theorem leV_nils (ex : Bool) : leV .nils (.lst 0 [] ex) := fun c x h => by
  cases h
  exact .lst0 none 0 ex (fun _ => rfl) (Nat.zero_le _) (fun _ => rfl)
theorem leV_und (u : AV) : leV u .und := fun c x _ => .und x
section
variable {α : Type} {E : En α}
theorem ownV_len {id : Nat} {l l' : List α} (h : l.length = l'.length) : ownV E id l = ownV E id l' := by
  cases l with
  | nil =>
    have : l' = [] := List.eq_nil_of_length_eq_zero h.symm
    subst this; rfl
  | cons x l =>
    have hne : l' ≠ [] := by rintro rfl; simp at h
    rw [ownV_ne hne, ownV_ne (by simp), h]
theorem blkV_len {id : Nat} {l l' : List α} (h : l.length = l'.length) : blkV E id l = blkV E id l' := by simp only [blkV, h]
theorem ren_ownV (π : Nat → Nat) {id : Nat} {l : List α} : ren π (ownV E id l) = ownV E (π id) l := by cases l <;> rfl
theorem ren_blkV (π : Nat → Nat) {id : Nat} {l : List α} : ren π (blkV E id l) = blkV E (π id) l := rfl
theorem rens_encs (π : Nat → Nat) (l : List α) : rens π (encs E l) = encs E l := rens_clean π (encs_clean l)
end
def piL : List (Nat × Nat) → Nat → Nat → Nat
  | [], nx, id => nx + id
  | (a, b) :: r, nx, id => bif Nat.beq a id then b else piL r nx id
theorem piL_out {n1 : Nat} : ∀ (pl : List (Nat × Nat)) (nx id : Nat), (pl.all fun p => Nat.blt p.1 n1) = true → n1 ≤ id → nx ≤ piL pl nx id
  | [], nx, id, _, _ => Nat.le_add_right _ _
  | (a, b) :: r, nx, id, h, hi => by
    simp only [List.all_cons, Bool.and_eq_true] at h
    unfold piL
    have h1 : a < n1 := Nat.le_of_ble_eq_true h.1
    cases hq : Nat.beq a id with
    | true => have := Nat.eq_of_beq_eq_true hq; omega
    | false => exact piL_out r nx id h.2 hi
theorem piL_in : ∀ (pl : List (Nat × Nat)) (nx id : Nat), id ∈ pl.map (·.1) → piL pl nx id ∈ pl.map (·.2)
  | [], nx, id, h => by simp at h
  | (a, b) :: r, nx, id, h => by
    unfold piL
    cases hq : Nat.beq a id with
    | true => simp
    | false =>
      simp only [cond_false]
      have hne : a ≠ id := Nat.ne_of_beq_eq_false hq
      have : id ∈ r.map (·.1) := by
        rcases List.mem_cons.1 (by simpa using h : id ∈ a :: r.map (·.1)) with h | h
        · exact absurd h.symm hne
        · exact h
      exact List.mem_cons_of_mem _ (piL_in r nx id this)
def nodupB : List Nat → Bool
  | [] => true
  | a :: r => !(r.any fun b => Nat.beq a b) && nodupB r
theorem nodupB_mem {a : Nat} {r : List Nat} (h : nodupB (a :: r) = true) : a ∉ r := by
  simp only [nodupB, Bool.and_eq_true, Bool.not_eq_true'] at h
  intro hm
  have : (r.any fun b => Nat.beq a b) = true := List.any_eq_true.2 ⟨a, hm, Nat.beq_refl a⟩
  rw [this] at h; exact absurd h.1 (by simp)
theorem piL_inj : ∀ (pl : List (Nat × Nat)) (nx id id' : Nat), nodupB (pl.map (·.2)) = true → id ∈ pl.map (·.1) → id' ∈ pl.map (·.1) → piL pl nx id = piL pl nx id' → id = id'
  | [], nx, id, id', _, h, _, _ => by simp at h
  | (a, b) :: r, nx, id, id', hn, h, h', he => by
    have hb : b ∉ r.map (·.2) := nodupB_mem (by simpa using hn)
    have hn' : nodupB (r.map (·.2)) = true := by
      simp only [List.map_cons, nodupB, Bool.and_eq_true] at hn
      exact hn.2
    unfold piL at he
    have mem : ∀ j, a ≠ j → j ∈ ((a, b) :: r).map (·.1) → j ∈ r.map (·.1) := by
      intro j hne hj
      rcases List.mem_cons.1 (by simpa using hj : j ∈ a :: r.map (·.1)) with h | h
      · exact absurd h.symm hne
      · exact h
    cases h1 : Nat.beq a id with
    | true =>
      have e1 := Nat.eq_of_beq_eq_true h1
      cases h2 : Nat.beq a id' with
      | true => have e2 := Nat.eq_of_beq_eq_true h2; rw [← e1, ← e2]
      | false =>
        rw [h1, h2] at he
        simp only [cond_true, cond_false] at he
        have := piL_in r nx id' (mem id' (Nat.ne_of_beq_eq_false h2) h')
        rw [← he] at this
        exact absurd this hb
    | false =>
      cases h2 : Nat.beq a id' with
      | true =>
        rw [h1, h2] at he
        simp only [cond_true, cond_false] at he
        have := piL_in r nx id (mem id (Nat.ne_of_beq_eq_false h1) h)
        rw [he] at this
        exact absurd this hb
      | false =>
        rw [h1, h2] at he
        simp only [cond_false] at he
        exact piL_inj r nx id id' hn' (mem id (Nat.ne_of_beq_eq_false h1) h) (mem id' (Nat.ne_of_beq_eq_false h2) h') he
/- one entry: the value as it is, renamed; or a slice that is written no more -/
def Ent (s : St) (pl : List (Nat × Nat)) (u v : AV) : Prop :=
  leV u (ren (piL pl s.nx) v) ∨ ∃ id off esz n cap ex b, u = .sl id off esz n cap ex ∧ mget s.m id = some b ∧ (pl.map (·.2)).contains id = false ∧ off + n * esz ≤ b.cells.length ∧ cleans b.cells = true ∧ v = .lst n ((b.cells.drop off).take (n * esz)) false
def okW (s : St) (pl : List (Nat × Nat)) : List (Nat × AV) → Prop
  | [] => True
  | (t, v) :: r => Ent s pl (eget s.e t) v ∧ okW s pl r
def okB (s : St) (pl : List (Nat × Nat)) : Mem → Prop
  | [] => True
  | (id, ob) :: r => (∀ b, ob = some b → ∃ b', mget s.m (piL pl s.nx id) = some b' ∧ b'.ty = b.ty ∧ b'.cells = rens (piL pl s.nx) b.cells) ∧ okB s pl r
theorem okW_mem {s : St} {pl : List (Nat × Nat)} : ∀ {e0 : List (Nat × AV)}, okW s pl e0 → ∀ p ∈ e0, Ent s pl (eget s.e p.1) p.2
  | [], _, p, hp => by simp at hp
  | (t, v) :: r, h, p, hp => by
    rcases List.mem_cons.1 hp with rfl | hp
    · exact h.1
    · exact okW_mem h.2 p hp
theorem okB_mem {s : St} {pl : List (Nat × Nat)} : ∀ {m0 : Mem}, okB s pl m0 → ∀ id b, mget m0 id = some b → ∃ b', mget s.m (piL pl s.nx id) = some b' ∧ b'.ty = b.ty ∧ b'.cells = rens (piL pl s.nx) b.cells
  | [], _, id, b, h => by simp [mget] at h
  | (j, ob) :: r, hk, id, b, h => by
    unfold mget at h
    cases hq : Nat.beq j id with
    | true => rw [hq] at h; rw [← Nat.eq_of_beq_eq_true hq]; exact hk.1 b h
    | false => rw [hq] at h; exact okB_mem hk.2 id b h
section
variable {K : Cfg} {nt : Nat}
theorem cleans_drop : ∀ (cs : List AV) (k : Nat), cleans cs = true → cleans (cs.drop k) = true
  | [], k, _ => by simp [cleans]
  | c :: cs, 0, h => h
  | c :: cs, k + 1, h => by
    simp only [cleans, Bool.and_eq_true] at h
    exact cleans_drop cs k h.2
theorem cleans_take : ∀ (cs : List AV) (k : Nat), cleans cs = true → cleans (cs.take k) = true
  | [], k, _ => by simp [cleans]
  | c :: cs, 0, h => by simp [cleans]
  | c :: cs, k + 1, h => by
    simp only [cleans, Bool.and_eq_true] at h
    simp only [List.take_succ_cons, cleans, h.1, cleans_take cs k h.2, Bool.and_self]
theorem weak_mem {s : St} {e0 : List (Nat × AV)} {m0 : Mem} {n1 : Nat} (pl : List (Nat × Nat)) (h1 : (pl.all fun p => Nat.blt p.1 n1) = true) (h2 : nodupB (pl.map (·.2)) = true) (h3 : (m0.all fun p => (pl.map (·.1)).contains p.1) = true) (he : okW s pl e0) (hb : okB s pl m0) : Weak K nt 0 s ⟨e0, m0, n1⟩ := by
  intro B c0 cx a sr st hn
  have hM := okB_mem hb
  have hM' : ∀ id b, mget m0 id = some b → ∃ b', cx.M (piL pl s.nx id) = some b' ∧ b'.ty = b.ty ∧ b'.cells = rens (piL pl s.nx) b.cells := fun id b h => by
    obtain ⟨b', k1, k2⟩ := hM id b h
    exact ⟨b', by rw [sr.m]; exact k1, k2⟩
  have hin : ∀ id b, mget m0 id = some b → id ∈ pl.map (·.1) := fun id b h => by
    have := mget_fst h
    obtain ⟨p, hp, rfl⟩ := List.mem_map.1 this
    have := List.all_eq_true.1 h3 p hp
    simpa using this
  have h4 : ∀ id id' b b', mget m0 id = some b → mget m0 id' = some b' → piL pl s.nx id = piL pl s.nx id' → id = id' := fun id id' b b' h h' e => piL_inj pl s.nx id id' h2 (hin id b h) (hin id' b' h') e
  have ho : ∀ b, (cx.ren (piL pl s.nx) m0).own b → cx.own b := by
    rintro b ⟨id, blk, k1, k2⟩
    obtain ⟨b', k3, -⟩ := hM' id blk k1
    exact ⟨piL pl s.nx id, b', k3, k2⟩
  refine ⟨cx.ren (piL pl s.nx) m0, ⟨⟨sr.g.hB, fun id blk h => ?_, fun id blk h => ?_, sr.g.nol, fun id id' blk blk' h h' hf => ?_⟩, fun t => ?_, fun _ => rfl, fun id h => ?_, sr.sz, sr.df, ?_⟩, ⟨st.os, st.tape, st.output, st.size, st.blk, fun b hb h => st.own b hb (ho b h), fun id h => absurd (hn id h) (Nat.not_lt_zero _), fun id h => absurd (hn id h) (Nat.not_lt_zero _), st.no, st.shp, st.drawn⟩, rfl⟩
  · obtain ⟨b', k3, -⟩ := hM' id blk h
    exact sr.g.low (piL pl s.nx id) b' k3
  · obtain ⟨b', k3, k4, k5⟩ := hM' id blk h
    obtain ⟨arr, vs, rest, q1, q2, q3⟩ := sr.g.blk (piL pl s.nx id) b' k3
    rw [k5] at q3
    exact ⟨arr, vs, rest, by rw [← k4]; exact q1, q2, rens_rel ho q3⟩
  · obtain ⟨b1, k1, -⟩ := hM' id blk h
    obtain ⟨b2, k2, -⟩ := hM' id' blk' h'
    exact h4 id id' blk blk' h h' (sr.g.inj (piL pl s.nx id) (piL pl s.nx id') b1 b2 k1 k2 hf)
  · show VRel _ (eget e0 t) _
    rcases eget_mem e0 t with h | h
    · rw [h]; exact .und _
    · have hr := sr.e t
      rcases okW_mem he _ h with k | ⟨id, off, esz, n, cap, ex, b, k1, k2, k3, k4, k5, k6⟩
      · exact ren_rel ho (k _ _ hr)
      · have k6 : eget e0 t = .lst n ((b.cells.drop off).take (n * esz)) false := k6
        have k1 : eget s.e t = .sl id off esz n cap ex := k1
        rw [k1] at hr
        rw [k6]
        have hMb : cx.M id = some b := by rw [sr.m]; exact k2
        obtain ⟨arr, vs, rest, q1, q2, q3, q4⟩ := sr.g.cells hMb
        have hlow := (sr.g.low id b hMb).1
        have hlt := sr.g.lt hMb
        have stb : (cx.ren (piL pl s.nx) m0).stable (cx.f id) := by
          refine ⟨hlt, ?_, fun hno => ?_⟩
          · rintro ⟨j, bj, j1, j2⟩
            obtain ⟨b', j3, -⟩ := hM' j bj j1
            have := sr.g.inj (piL pl s.nx j) id b' b j3 hMb j2
            have hmem := piL_in pl s.nx j (hin j bj j1)
            rw [this] at hmem
            have : (pl.map (·.2)).contains id = true := by simpa using hmem
            rw [this] at k3; cases k3
          · have : cx.f id < B := sr.g.nol _ hno
            omega
        have stc : ∀ b, cx.stable b → (cx.ren (piL pl s.nx) m0).stable b := fun b h => ren_stable ho h
        have hcl : cleans ((b.cells.drop off).take (n * esz)) = true := cleans_take _ _ (cleans_drop _ _ k5)
        have hrel : Rels (cx.ren (piL pl s.nx) m0) ((b.cells.drop off).take (n * esz)) ((vs.drop off).take (n * esz)) := Rels.clean_to (c := cx) (c0 := cx.ren (piL pl s.nx) m0) rfl stc ((q3.drop off).take (n * esz)) hcl
        generalize hv : a.eval (.tmp t) = v at hr
        cases hr with
        | sl ha hb2 hs hnc hc hex hm =>
          rename_i cap' arr2 T2
          refine VRel.lst (c := cx.ren (piL pl s.nx) m0) stb hrel ?_ (by omega) (fun h => by cases h) hm
          intro k v hk
          have hk2 : vs[off + k]? = some v := by
            rw [List.getElem?_take] at hk
            split at hk
            · rw [List.getElem?_drop] at hk; exact hk
            · cases hk
          have := q4 (off + k) v hk2
          rw [Nat.zero_add] at this
          exact this
  · have k : cx.al (piL pl s.nx id) := h
    have := sr.al _ k
    rcases Nat.lt_or_ge id n1 with h' | h'
    · exact h'
    · have := piL_out pl s.nx id h1 h'; omega
  · intro g cs hg
    obtain ⟨k1, k2⟩ := sr.gl g cs hg
    refine ⟨k1, ren_rel ho ?_⟩
    rw [ren_clean _ (by simpa [clean] using k1)]
    exact k2
variable {s : St} {pl : List (Nat × Nat)} {α : Type} {E : En α}
theorem ent_clean {u v : AV} (h : leV u v) (hc : clean v = true) : Ent s pl u v := .inl (by rw [ren_clean _ hc]; exact h)
theorem ent_sc (v : Value) : Ent s pl (.sc v) (.sc v) := .inl (leV_refl _)
theorem ent_lst (l : List α) (ex : Bool) : Ent s pl (.lst l.length (encs E l) ex) (lstA E l) := by
  refine ent_clean (fun c x h => ?_) (lstA_clean E l)
  have := norm_rel h
  simp only [norm, encs_norm] at this
  exact this
theorem ent_nils : Ent s pl .nils (lstA E []) := ent_clean (leV_nils false) rfl
theorem ent_own {id j : Nat} {l l' : List α} (hl : l.length = l'.length) (hj : piL pl s.nx j = id) : Ent s pl (ownV E id l) (ownV E j l') := .inl (by rw [ren_ownV, hj, ownV_len hl]; exact leV_refl _)
theorem ent_nils_own {j : Nat} : Ent s pl .nils (ownV E j []) := .inl (leV_nils true)
theorem ent_blk {id j : Nat} {l l' : List α} (hl : l.length = l'.length) (hj : piL pl s.nx j = id) : Ent s pl (blkV E id l) (blkV E j l') := .inl (by rw [ren_blkV, hj, blkV_len hl]; exact leV_refl _)
theorem ent_und (u : AV) : Ent s pl u .und := .inl (leV_und u)
theorem ent_own_frz {id ty : Nat} {l l' : List α} (hl : l.length = l'.length) (hb : mget s.m id = ownB E ty l') (hp : (pl.map (·.2)).contains id = false) : Ent s pl (ownV E id l) (lstA E l') := by
  cases l with
  | nil =>
    have : l' = [] := List.eq_nil_of_length_eq_zero hl.symm
    subst this
    exact ent_lst (E := E) [] true
  | cons x l =>
    have hne : l' ≠ [] := by rintro rfl; simp at hl
    rw [ownB_ne hne] at hb
    refine .inr ⟨id, 0, E.size, l'.length, l'.length, false, _, ?_, hb, hp, ?_, encs_clean l', ?_⟩
    · rw [ownV_ne (by simp), hl]
    · show 0 + l'.length * E.size ≤ (encs E l').length
      rw [encs_length]; omega
    · show _ = AV.lst _ (((encs E l').drop 0).take _) _
      rw [List.drop_zero, List.take_of_length_le (by rw [encs_length]; exact Nat.le_refl _)]
theorem ent_blk_frz {id ty : Nat} {l l' : List α} (hl : l.length = l'.length) (hb : mget s.m id = some ⟨encs E l', ty⟩) (hp : (pl.map (·.2)).contains id = false) : Ent s pl (blkV E id l) (lstA E l') := by
  refine .inr ⟨id, 0, E.size, l.length, l.length, true, _, rfl, hb, hp, ?_, encs_clean l', ?_⟩
  · show 0 + l.length * E.size ≤ (encs E l').length
    rw [encs_length, hl]; omega
  · show _ = AV.lst _ (((encs E l').drop 0).take _) _
    rw [List.drop_zero, hl, List.take_of_length_le (by rw [encs_length]; exact Nat.le_refl _)]
theorem okB_own {id ty : Nat} {l l' : List α} (hl : l' = l) (hb : mget s.m (piL pl s.nx id) = ownB E ty l') : ∀ b, ownB E ty l = some b → ∃ b', mget s.m (piL pl s.nx id) = some b' ∧ b'.ty = b.ty ∧ b'.cells = rens (piL pl s.nx) b.cells := by
  subst hl
  intro b h
  refine ⟨b, by rw [hb, h], rfl, ?_⟩
  cases l' with
  | nil => cases h
  | cons x l => cases h; exact (rens_encs _ _).symm
theorem okB_nil {id ty : Nat} : ∀ b, ownB E ty [] = some b → ∃ b', mget s.m (piL pl s.nx id) = some b' ∧ b'.ty = b.ty ∧ b'.cells = rens (piL pl s.nx) b.cells := fun b h => by cases h
theorem okB_cells {id ty : Nat} {cs : List AV} (hc : cleans cs = true) (hb : mget s.m (piL pl s.nx id) = some ⟨cs, ty⟩) : ∀ b, (some ⟨cs, ty⟩ : Option ABlk) = some b → ∃ b', mget s.m (piL pl s.nx id) = some b' ∧ b'.ty = b.ty ∧ b'.cells = rens (piL pl s.nx) b.cells := fun b h => by
  cases h
  exact ⟨_, hb, rfl, (rens_clean _ hc).symm⟩
end
/- calls with arguments in the run's own memory -/
section
variable {P : Program} {gl : Nat → Option (List AV)}
theorem pure_snapN {look : Nat → Option ABlk} {f : FuncId} {args ar : List AV} {v : AV} (ha : SnL look 6 args ar) (h : Says P gl f ar v) (hs : scalarRes v = true) : PureAt P gl look f args v := by
  obtain ⟨us, h1, h2⟩ := snL_map 6 ha
  refine ⟨h.2.2.1, fun B c vals g hgl hl hr => ?_⟩
  have hBs := g.hB
  have hst : ∀ b, c.stable b → (c.alone c.no).stable b := fun b ⟨h1, h2, h3⟩ => ⟨h1, alone_own, h3⟩
  have hso : ∀ b, c.own b → (c.alone c.no).stable b := by
    rintro b ⟨id, blk, h1, h2⟩
    have hlow := (g.low id blk h1).1
    have hlt := g.lt h1
    refine ⟨by show b < c.w.heap.size; omega, alone_own, fun hn => ?_⟩
    have : b < B := g.nol b hn
    omega
  have hrr : Rels (c.alone c.no) us vals := mapO_rel (fun z _ u y r h => snap_rel (c := c) (c0 := c.alone c.no) g rfl hst hso hl 6 r h) hr h1
  have hrr : Rels (c.alone c.no) ar vals := by rw [← h2]; exact norms_rel hrr
  refine (h.2.2.2 c.w.heap.size (c.alone c.no) vals (alone_good fun b hb => by have := g.nol b hb; omega) (GlobOk.clean_to (c := c) rfl hst hgl) (fun _ _ h => by cases h) hrr).mono ?_
  rintro e w' ⟨u', c0, rfl, rfl, k1, k2, k3, k4, k5⟩
  exact ⟨u', { c with w := c0.w }, rfl, rfl, scalar_rel hs k1, alone_step g k2, alone_back g k2, fun _ => rfl, fun _ => Iff.rfl⟩
theorem callF_pure {m : Mem} {n : Nat} {f : FuncId} {args : List AV} {v : AV} (ft : List Nat) {k : AV → Wr → List Nat → Prop} (h : PureAt P gl (look' m ft) f args v) (hk : k v [] ft) : callF P gl m n f args k := ⟨v, [], ft, h.toD, hk⟩
end
end Go.Proofs.Ytfhcciepaangiaa
