/- Library functions that change a slice of the run's own in place: a run over the one block alone, and what it is to the caller. -/
import Derived.Test.YteaimbiojpjneaaGreatDoorPF
import Derived.KernelRfl
set_option linter.unusedVariables false
set_option linter.unusedSimpArgs false
namespace Go.Proofs.YteaimbiojpjneaaGreatDoor
open Go.RowKit

section
variable {α : Type} {E : En α} {P : Program} {K : Cfg} {gl : Nat → Option (List AV)}
/- a slice of the run's own whose block may have room beyond it -/
def blkW (E : En α) (id : Nat) (l : List α) : AV := .sl id 0 E.size l.length l.length false
def MutO (E : En α) (ty : Nat) (l' : List α) (u : AV) (m : Mem) : Prop := ∃ k cap ex rest, u = .sl k 0 E.size l'.length cap ex ∧ mget m k = some ⟨encs E l' ++ rest, ty⟩
def less (look : Nat → Option ABlk) (id : Nat) : Nat → Option ABlk := fun j => bif Nat.beq j id then none else look j
def callN (P : Program) (gl : Nat → Option (List AV)) (m : Mem) (nx : Nat) (f : FuncId) (args : List AV) (R : AV → Mem → Prop) : Prop :=
  Plainly P f ∧ ∀ (B : Nat) (c : Cx) (vals : List Value), Good B c → GlobOk gl c → (∀ id, c.M id = mget m id) → (∀ id, c.al id → id < nx) → Rels c args vals → Calls P f vals.toArray c.w (fun e w' => ∃ v m' nx', R v m' ∧ CallPost B { c with al := fun _ => False } v m' nx' e w')
theorem step_bare (c : Cx) : Step { c with al := fun _ => False } c := ⟨rfl, rfl, rfl, Nat.le_refl _, fun _ _ _ => rfl, fun _ _ h => h, fun _ h => h.elim, fun _ h => h.elim, fun _ => Iff.rfl, fun b arr T h => ⟨arr, h, rfl⟩, Nat.le_refl _⟩
theorem callW_N {m : Mem} {nx : Nat} {f : FuncId} {args : List AV} {R : AV → Mem → Prop} (h : callW P gl m nx f args R) : callN P gl m nx f args R :=
  ⟨h.1, fun B c vals g hgl hM ha hr => (h.2 B c vals g hgl hM ha hr).mono fun e w' ⟨v, m', h1, v', c', q1, q2, q3, q4, q5, q6, q7⟩ => ⟨v, m', _, h1, v', c', q1, q2, q3, (step_bare c).trans q4, q5, q6, q7⟩⟩
theorem callN_of_F (hm : P.follows .mixedOrders = true) {f : FuncId} {fn : Func} {code : Code} (hf : P.funcs[f]? = some fn) (hb : fn.body = some code) (hn : (fn.name == "runtime.NumGoroutine") = false) {args : List AV} (hl : Nat.ble args.length fn.ntmps = true) {m : Mem} {nx : Nat} {R : AV → Mem → Prop} {X : Prop}
    (hX : W P K fn.ntmps 0 code ⟨initEnv args 0, m, nx⟩ (retQ P fn R) = X) (h : X) : callN P K.gl m nx f args R := by
  have h := hX.mpr h
  refine ⟨⟨fn, code, hf, hb, hn⟩, fun B c vals g gl hM ha hr => ?_⟩
  have tri : Tri P K fn.ntmps 0 code ⟨initEnv args 0, m, nx⟩ (fun x s => (x = .normal ∨ x = .ret) ∧ ∃ v, aResults P fn s = some v ∧ R v s.m) := (W_ok hm code _ _ h).mono fun x s hq => by
    cases x with
    | normal =>
      simp only [retQ] at hq
      split at hq
      · rename_i v hv; exact ⟨.inl rfl, v, hv, hq⟩
      · exact hq.elim
    | ret =>
      simp only [retQ] at hq
      split at hq
      · rename_i v hv; exact ⟨.inr rfl, v, hv, hq⟩
      · exact hq.elim
    | exit i => exact hq.elim
  have hl := Nat.le_of_ble_eq_true hl
  refine calls_of_wp hf hb ?_
  have hlen := hr.length
  have sr : SR K.gl B fn.ntmps c ⟨initEnv args 0, m, nx⟩ { tmps := vals.toArray ++ Array.replicate (fn.ntmps - vals.toArray.size) undef, defers := [] } := by
    refine ⟨g, fun t => ?_, hM, ha, by simp; omega, rfl, gl⟩
    simp only [eget_init, Nat.zero_le, if_true, Nat.sub_zero]
    rcases Nat.lt_or_ge t args.length with h | h
    · obtain ⟨v, hv, hx⟩ := hr.get (k := t) (x := args[t]) (List.getElem?_eq_getElem h)
      have e1 : args.getD t .und = args[t] := by simp [List.getD_eq_getElem?_getD, h]
      rw [e1]
      have : (vals.toArray ++ Array.replicate (fn.ntmps - vals.toArray.size) undef).getD t undef = v := by
        rw [Array.getD_eq_getD_getElem?, Array.getElem?_append_left (by simp; omega)]
        simp [hv]
      simp only [Act.eval, this]
      exact hx
    · have e1 : args.getD t .und = .und := by simp [List.getD_eq_getElem?_getD, h]
      rw [e1]; exact .und _
  refine wp_mono (tri B { c with al := fun _ => False } c _ sr (step_bare c) (fun _ h => h.elim)) ?_
  rintro ex a' w' ⟨x, s, c', rfl, ⟨hx, v, hv, hR⟩, sr', rfl, st⟩
  obtain ⟨v', h1, h2⟩ := results_ok sr' hv
  have post : a'.defers = [] ∧ ∃ v, (results fn a'.tmps).run P c'.w = .ok v c'.w ∧ ∃ v_1 m' nx', R v_1 m' ∧ CallPost B { c with al := fun _ => False } v_1 m' nx' (.returned v) c'.w :=
    ⟨sr'.df, v', h1, v, s.m, s.nx, hR, v', c', rfl, rfl, h2, st, sr'.g, sr'.m, sr'.al⟩
  rcases hx with rfl | rfl
  · exact post
  · exact post
theorem mut_own {n id ty : Nat} {look : Nat → Option ABlk} {f : FuncId} {l l0 l' : List α} {args ar : List AV} (hE : ScE E) (hl : l0.length = l.length) (hne : l ≠ []) (hb : look id = ownB E ty l) (ha : SnL (less look id) 6 args ar)
    (h : callN P gl [(0, some ⟨encs E l, ty⟩)] 1 f (.sl 0 0 E.size l.length l.length false :: ar) (MutO E ty l')) :
    PureD P gl look n f (ownV E id l0 :: args) (blkW E n l') [(n, some ⟨encs E l', ty⟩), (id, none)] := by
  refine ⟨h.1, fun B c vals g hgl hn hlk hr => ?_⟩
  have hl0 : l0 ≠ [] := by rintro rfl; exact hne (List.eq_nil_of_length_eq_zero hl.symm)
  rw [ownV_ne hl0, hl] at hr
  rw [ownB_ne hne] at hb
  have hM := hlk id _ hb
  have hfid := g.lt hM
  have hidn : id ≠ n := fun e => hn (e ▸ (g.low id _ hM).2)
  cases hr with
  | cons hv hr =>
    rename_i v vals
    -- the block alone
    let c1 : Cx := { w := c.w, f := fun _ => c.f id, al := fun j => j = 0, M := fun j => mget [(0, some ⟨encs E l, ty⟩)] j, no := c.no }
    have own1 : ∀ b, c1.own b → b = c.f id := by
      rintro b ⟨j, blk, h1, h2⟩
      exact h2.symm
    have hst : ∀ b, c.stable b → c1.stable b := fun b ⟨h1, h2, h3⟩ => ⟨h1, fun ho => h2 (own1 b ho ▸ ⟨id, _, hM, rfl⟩), h3⟩
    have g1 : Good B c1 := by
      have hj : ∀ j blk, c1.M j = some blk → j = 0 ∧ blk = ⟨encs E l, ty⟩ := by
        intro j blk h
        have h : mget [(0, some ⟨encs E l, ty⟩)] j = some blk := h
        unfold mget at h
        cases hq : Nat.beq 0 j with
        | true => rw [hq] at h; exact ⟨(Nat.eq_of_beq_eq_true hq).symm, (Option.some.inj h).symm⟩
        | false => rw [hq] at h; simp [mget] at h
      refine ⟨g.hB, fun j blk h => ?_, fun j blk h => ?_, g.nol, fun j j' blk blk' h h' _ => ?_⟩
      · exact ⟨(g.low id _ hM).1, (hj j blk h).1⟩
      · obtain ⟨rfl, rfl⟩ := hj j blk h
        obtain ⟨arr, vs, rest, q1, q2, q3⟩ := g.blk id _ hM
        exact ⟨arr, vs, rest, q1, q2, all_sc (encs_sc hE l) q3⟩
      · rw [(hj j blk h).1, (hj j' blk' h').1]
    have r0 : VRel c1 (.sl 0 0 E.size l.length l.length false) v := by
      cases hv with
      | sl ha hb hs hk hc he hm => exact .sl (c := c1) (id := 0) rfl hb hs hk hc he hm
    -- the other arguments, as they read
    have rr : Rels c1 ar vals := by
      obtain ⟨us, h1, h2⟩ := snL_map 6 ha
      have hll : ∀ j b, less look id j = some b → c.M j = some b ∧ j ≠ id := by
        intro j b h
        unfold less at h
        cases e : Nat.beq j id with
        | true => rw [e] at h; cases h
        | false => rw [e] at h; exact ⟨hlk j b h, Nat.ne_of_beq_eq_false e⟩
      have : Rels c1 us vals := mapO_rel (fun z u y u' r h => snap_rel2 (c := c) (c0 := c1) g rfl hst (fun j b hb => by
        obtain ⟨k1, k2⟩ := hll j b hb
        have hlow := (g.low j b k1).1
        refine ⟨g.lt k1, fun ho => k2 (g.inj j id b _ k1 hM (own1 _ ho)), fun hn => ?_⟩
        have := g.nol _ hn
        omega) (fun j b h => (hll j b h).1) 6 r h) hr h1
      rw [← h2]; exact norms_rel this
    refine (h.2 B c1 (v :: vals) g1 (GlobOk.clean_to (c := c) rfl hst hgl) (fun _ => rfl) (fun j hj => by have : j = 0 := hj; omega) (.cons r0 rr)).mono ?_
    rintro e w' ⟨u, m, nx', ⟨k, cap, ex, rest, rfl, hk⟩, v', c2, rfl, rfl, k1, st, g2, k4, k5⟩
    have hk2 : c2.M k = some ⟨encs E l' ++ rest, ty⟩ := by rw [k4]; exact hk
    have hlow2 := (g2.low k _ hk2).1
    have hsz : c.w.heap.size ≤ c2.w.heap.size := st.size
    have hfk := g2.lt hk2
    -- where the result lies
    have hwhere : c2.f k = c.f id ∨ c.w.heap.size ≤ c2.f k := by
      rcases Nat.lt_or_ge (c2.f k) c.w.heap.size with hlt | hge
      · exact .inl (own1 _ (st.own _ hlt ⟨k, _, hk2, rfl⟩))
      · exact .inr hge
    let c' : Cx := { w := c2.w, f := fun i => if i = n then c2.f k else c.f i, al := fun i => c.al i ∨ i = n, M := upd c.M [(n, some ⟨encs E l', ty⟩), (id, none)], no := c.no }
    have hM' : ∀ i, c'.M i = if i = id then none else if i = n then some ⟨encs E l', ty⟩ else c.M i := fun i => rfl
    have hMi : ∀ i blk, c'.M i = some blk → (i = n ∧ blk = ⟨encs E l', ty⟩) ∨ (i ≠ n ∧ i ≠ id ∧ c.M i = some blk) := by
      intro i blk h
      rw [hM'] at h
      by_cases e1 : i = id
      · rw [if_pos e1] at h; cases h
      · rw [if_neg e1] at h
        by_cases e2 : i = n
        · rw [if_pos e2] at h; exact .inl ⟨e2, (Option.some.inj h).symm⟩
        · rw [if_neg e2] at h; exact .inr ⟨e2, e1, h⟩
    have own' : ∀ x, c'.own x → c.own x ∨ x = c2.f k := by
      rintro x ⟨i, blk, h1, h2⟩
      rcases hMi i blk h1 with ⟨e, -⟩ | ⟨e, -, h3⟩
      · right; simp only [c', e, if_true] at h2; exact h2.symm
      · left; simp only [c', e, if_false] at h2; exact ⟨i, blk, h3, h2⟩
    have stp : Step c c' := by
      refine ⟨st.os, st.tape, st.output, st.size, fun x hx ho => st.blk x hx (fun h => ho (own1 x h ▸ ⟨id, _, hM, rfl⟩)), fun x hx ho => ?_, fun i hi => ?_, fun i hi => .inl hi, fun _ => Iff.rfl, st.shp, st.drawn⟩
      · rcases own' x ho with h | h
        · exact h
        · have hx' : x < c.w.heap.size := hx
          rcases hwhere with h2 | h2
          · exact ⟨id, _, hM, by rw [h, h2]⟩
          · omega
      · have : i ≠ n := fun h => hn (h ▸ hi)
        simp [c', this]
    refine ⟨v', c', rfl, rfl, ?_, stp, ⟨Nat.le_trans g.hB hsz, fun i blk h => ?_, fun i blk h => ?_, g.nol, fun i i' blk blk' h h' hf => ?_⟩, fun i => rfl, fun i h => h, fun i h => .inl h⟩
    · cases k1 with
      | sl ha hb hs hk hc he hm =>
        have := VRel.sl (c := c') (id := n) (off := 0) (esz := E.size) (n := l'.length) (cap := l'.length) (ex := false) (.inr rfl) (by simp only [c', if_true]; exact hb) hs (Nat.le_refl _) (Nat.le_trans hk hc) (fun h => by cases h) hm
        simpa [c', blkW] using this
    · rcases hMi i blk h with ⟨e, -⟩ | ⟨e, -, h3⟩
      · simp only [c', e, if_true]; exact ⟨hlow2, .inr trivial⟩
      · simp only [c', e, if_false]; exact ⟨(g.low i blk h3).1, .inl (g.low i blk h3).2⟩
    · rcases hMi i blk h with ⟨e, rfl⟩ | ⟨e, e2, h3⟩
      · obtain ⟨arr, vs, rst, q1, q2, q3⟩ := g2.blk k _ hk2
        refine ⟨arr, vs.take (encs E l').length, vs.drop (encs E l').length ++ rst, by simp only [c', e, if_true]; exact q1, by rw [← List.append_assoc, List.take_append_drop]; exact q2, ?_⟩
        have := q3.take (encs E l').length
        rw [List.take_left] at this
        exact all_sc (encs_sc hE l') this
      · obtain ⟨arr, vs, rst, q1, q2, q3⟩ := g.blk i blk h3
        refine ⟨arr, vs, rst, ?_, q2, q3.step stp⟩
        simp only [c', e, if_false]
        exact (st.blk _ (heap_lt q1) (fun ho => e2 (g.inj i id blk _ h3 hM (own1 _ ho)))).trans q1
    · rcases hMi i blk h with ⟨e1, -⟩ | ⟨e1, e2, h3⟩ <;> rcases hMi i' blk' h' with ⟨e3, -⟩ | ⟨e3, e4, h5⟩
      · rw [e1, e3]
      · exfalso
        have hlt := g.lt h5
        simp only [c', e1, e3, if_true, if_false] at hf
        rcases hwhere with h2 | h2
        · exact e4 (g.inj i' id blk' _ h5 hM (by rw [← hf, h2]))
        · omega
      · exfalso
        have hlt := g.lt h3
        simp only [c', e1, e3, if_true, if_false] at hf
        rcases hwhere with h2 | h2
        · exact e2 (g.inj i id blk _ h3 hM (by rw [hf, h2]))
        · omega
      · simp only [c', e1, e3, if_false] at hf
        exact g.inj i i' blk blk' h3 h5 hf
/- Delete -/
def delO {α : Type} (by_ : Nat) (l : List α) (i j : Int) : Option (List α) := if 0 ≤ i ∧ i < j ∧ j ≤ l.length ∧ l.length * by_ ≤ 140737488355328 ∧ l.length ≤ 4611686018427387904 then some (l.take i.toNat ++ l.drop j.toNat) else none
theorem opA_slice3 {t yt ty n e sz : Nat} {look : Nat → Option ABlk} (hu : P.underlying t = some (.slice e)) (hz : tsize P e = some sz) {id off esz k cap : Nat} {ex : Bool} {x y z : AV} :
    opA P (.slice t (.tmp 0) (some (.tmp 1)) (some (.tmp 2)) (some (.tmp 3))) ty [.sl id off esz k cap ex, x, y, z] look n = slcS sz (.sl id off esz k cap ex) (some x) (some y) (some z) ∧ opA P (.slice t (.tmp 0) none (some (.tmp 1)) none) ty [.sl id off esz k cap ex, x] look n = slcS sz (.sl id off esz k cap ex) none (some x) none ∧ opA P (.slice t (.tmp 0) (some (.tmp 1)) none none) ty [.sl id off esz k cap ex, x] look n = slcS sz (.sl id off esz k cap ex) (some x) none none ∧ opA P (.slice t (.tmp 0) (some (.tmp 1)) (some (.tmp 2)) none) ty [.sl id off esz k cap ex, x, y] look n = slcS sz (.sl id off esz k cap ex) (some x) (some y) none := by
  refine ⟨?_, ?_, ?_, ?_⟩ <;> (simp [opA, aop, rhoV, aSlice, hu, hz, slcS]; rfl)
theorem bnd_nat {d a : Nat} : bnd d (some (intA (a : Int))) = some a := by rw [bnd_int (by omega), Int.toNat_natCast]
theorem slcS_sl {sz id off k cap lo hi mx : Nat} {ex : Bool} {x y z : Option AV} (hx : bnd 0 x = some lo) (hy : bnd k y = some hi) (hz : bnd cap z = some mx) (h1 : lo ≤ hi) (h2 : hi ≤ mx) (h3 : mx ≤ cap) (hn : (z.isSome && y.isNone) = false) : slcS sz (.sl id off sz k cap ex) x y z = some (bif Nat.beq lo mx then .lst 0 [] (ex || z.isSome) else .sl id (off + lo * sz) sz (hi - lo) (mx - lo) (ex || z.isSome), []) := by
  unfold slcS
  simp only [hx, hy, hz, Nat.ble_eq_true_of_le h1, Nat.ble_eq_true_of_le h2, Nat.ble_eq_true_of_le h3, Nat.beq_refl, hn, Bool.and_self, Bool.not_false, cond_true]
  cases Nat.beq lo mx <;> rfl
theorem beq_ne {a b : Nat} (h : a ≠ b) : Nat.beq a b = false := by
  cases e : Nat.beq a b with
  | false => rfl
  | true => exact absurd (Nat.eq_of_beq_eq_true e) h
theorem rep_len {zs : List AV} {sz : Nat} (h : zs.length = sz) : ∀ n, (rep zs n).length = n * sz
  | 0 => by simp [rep]
  | n + 1 => by rw [rep, List.length_append, rep_len h n, h, Nat.add_mul, Nat.one_mul, Nat.add_comm]
theorem encs_take_drop (l : List α) (a : Nat) : (encs E l).take (a * E.size) = encs E (l.take a) := by rw [encs_take]
/- the block after the append, and after the rest is cleared -/
theorem aput_pre {cs xs zs : List AV} {o p : Nat} (ho : o + xs.length ≤ p) (hp : p + zs.length ≤ cs.length) : ∃ rest, aput (aput cs o xs) p zs = (cs.take o ++ xs) ++ rest := by
  refine ⟨(aput (aput cs o xs) p zs).drop (o + xs.length), ?_⟩
  have hlen : (cs.take o ++ xs).length = o + xs.length := by rw [List.length_append, List.length_take]; omega
  conv => lhs; rw [← List.take_append_drop (o + xs.length) (aput (aput cs o xs) p zs)]
  congr 1
  unfold aput
  rw [List.append_assoc, List.take_append_of_le_length (by rw [List.length_take, List.length_append, List.length_append, List.length_take, List.length_drop]; omega), List.take_take, Nat.min_eq_left (by omega), List.take_append_of_le_length (by rw [hlen]; omega), ← hlen, List.take_length]
theorem aput_pre1 {cs zs : List AV} {o p : Nat} (ho : o ≤ p) (hp : p + zs.length ≤ cs.length) : ∃ rest, aput cs p zs = cs.take o ++ rest := by
  refine ⟨(aput cs p zs).drop o, ?_⟩
  conv => lhs; rw [← List.take_append_drop o (aput cs p zs)]
  congr 1
  unfold aput
  rw [List.append_assoc, List.take_append_of_le_length (by rw [List.length_take]; omega), List.take_take, Nat.min_eq_left (by omega)]
theorem app_sl {look : Nat → Option ABlk} {e sz by_ n id off k cap : Nat} {ex : Bool} {zs xs old : List AV} {m : Nat} {x : AV} {b : ABlk} (hx : cellsOf look sz x = some (m, xs)) (hm : m ≠ 0) (ho : cellsOf look sz (.sl id off sz k cap ex) = some (k, old)) (hb : look id = some b) (hc : k + m ≤ cap) (hlen : off + (k + m) * sz ≤ b.cells.length) (hzs : zs.length = sz) (h1 : 1 ≤ sz) (hxs : xs.length = m * sz) (hol : old.length = k * sz) (hcell : xs.all isCell = true) (hr1 : (k + m) * by_ ≤ 140737488355328) (hr2 : k + m ≤ 4611686018427387904) :
    app look e sz by_ zs n (.sl id off sz k cap ex) x = some (.sl id off sz (k + m) cap ex, [(id, some ⟨aput b.cells (off + k * sz) xs, b.ty⟩)]) := by
  unfold app
  simp only [hx, beq_ne hm, cond_false, ho, Nat.ble_eq_true_of_le hr1, Nat.ble_eq_true_of_le hr2, hzs, Nat.beq_refl, Nat.ble_eq_true_of_le h1, hcell, hxs, hol, Bool.true_or, Bool.and_self, cond_true, Nat.ble_eq_true_of_le hc, hb, Nat.ble_eq_true_of_le hlen]
theorem app_slc {look : Nat → Option ABlk} {e sz by_ n id off k cap : Nat} {ex : Bool} {zs xs old : List AV} {m : Nat} {x : AV} {b : ABlk} (hx : cellsOf look sz x = some (m, xs)) (hm : m ≠ 0) (ho : cellsOf look sz (.sl id off sz k cap ex) = some (k, old)) (hb : look id = some b) (hc : k + m ≤ cap) (hlen : off + (k + m) * sz ≤ b.cells.length) (hzs : zs.length = sz) (h1 : 1 ≤ sz) (hxs : xs.length = m * sz) (hol : old.length = k * sz) (hcell : xs.all isCell = true) (hr2 : k + m ≤ 4611686018427387904) :
    app look e sz by_ zs n (.sl id off sz k cap ex) x = some (.sl id off sz (k + m) cap ex, [(id, some ⟨aput b.cells (off + k * sz) xs, b.ty⟩)]) := by
  unfold app
  simp only [hx, beq_ne hm, cond_false, ho, aFits, Bool.or_true, Nat.ble_eq_true_of_le hr2, hzs, Nat.beq_refl, Nat.ble_eq_true_of_le h1, hcell, hxs, hol, Bool.and_self, cond_true, Nat.ble_eq_true_of_le hc, hb, Nat.ble_eq_true_of_le hlen]
theorem clear_sl {look : Nat → Option ABlk} {t e sz ty n id off k cap : Nat} {ex : Bool} {zs : List AV} {b : ABlk} (hu : P.underlying t = some (.slice e)) (hz : tsize P e = some sz) (hze : (tzero P e).bind (fun z => (ofVal z).bind acells) = some zs) (hzc : zs.all isCell = true) (hzs : zs.length = sz) (h1 : 1 ≤ sz) (hb : look id = some b) (hk : k ≠ 0) (hlen : off + k * sz ≤ b.cells.length) :
    opA P (.call ⟨.builtin .clear, #[.tmp 0], #[t]⟩) ty [.sl id off sz k cap ex] look n = some (.tup [], [(id, some ⟨aput b.cells off (rep zs k), b.ty⟩)]) := by
  obtain ⟨j, rfl⟩ : ∃ j, k = j + 1 := ⟨k - 1, by omega⟩
  show aClear P look t (.sl id off sz (j + 1) cap ex) = _
  unfold aClear
  simp only [hu, hz, hze, hb, Nat.ble_eq_true_of_le hlen, hzc, Nat.beq_refl, hzs, Nat.ble_eq_true_of_le h1, Bool.true_or, Bool.and_self, cond_true]
theorem delete_ok {t e sz by_ ty : Nat} {zs : List AV} {l : List α} {a b : Nat} (hu : P.underlying t = some (.slice e)) (hz : tsize P e = some sz) (hs : E.size = sz) (hzl : zs.length = sz) (hze : (tzero P e).bind (fun z => (ofVal z).bind acells) = some zs) (hzc : zs.all isCell = true) (hr1 : l.length * by_ ≤ 140737488355328) (hr2 : l.length ≤ 4611686018427387904) (h1 : a < b) (h2 : b ≤ l.length) (R : AV → Mem → Prop) (hR : ∀ u m, MutO E ty (l.take a ++ l.drop b) u m → R u m) (m : Mem) (hm : m = [(0, some ⟨encs E l, ty⟩)]) (a0 : AV) (ha0 : a0 = .sl 0 0 E.size l.length l.length false) (a1 a2 : Int) (ha1 : a1 = (a : Int)) (ha2 : a2 = (b : Int)) :
    opP (lenS a0) fun v0 =>
    ex_i64 v0 fun z1 =>
    opP (opA P (.slice t (.tmp 0) (some (.tmp 1)) (some (.tmp 2)) (some (.tmp 3))) t [a0, (AV.sc (.int .i64 a1)), (AV.sc (.int .i64 a2)), (AV.sc (.int .i64 z1))] (mget m) 7) fun v2 =>
    bif (a1 == a2) then (
    chk (Nat.ble 13 65) (retL R m [some a0])) else (
    opP (lenS a0) fun v3 =>
    ex_i64 v3 fun z4 =>
    opM (opA P (.slice t (.tmp 0) none (some (.tmp 1)) none) t [a0, (AV.sc (.int .i64 a1))] (look' m (topId a0 ++ (topId (AV.sc (.int .i64 a1)) ++ ([])))) 16) fun v5 d5 =>
    opM (opA P (.slice t (.tmp 0) (some (.tmp 1)) none none) t [a0, (AV.sc (.int .i64 a2))] (look' (mpushs m d5) (topId a0 ++ (topId (AV.sc (.int .i64 a2)) ++ ([])))) 19) fun v6 d6 =>
    opM (app (look' (mpushs (mpushs m d5) d6) (topId v5 ++ (topId v6 ++ ([])))) e sz by_ zs 20 v5 v6) fun v7 d7 =>
    chk (confOk [0, 0, 3, 0, 0, 24, 63, 127] [⟨[], []⟩, ⟨[], []⟩, ⟨d5, (topId a0 ++ (topId (AV.sc (.int .i64 a1)) ++ ([])))⟩, ⟨[], []⟩, ⟨[], []⟩, ⟨d6, (topId a0 ++ (topId (AV.sc (.int .i64 a2)) ++ ([])))⟩, ⟨d7, (topId v5 ++ (topId v6 ++ ([])))⟩, ⟨[], []⟩]) (opP (lenS v7) fun v8 =>
    ex_i64 v8 fun z9 =>
    opP (opA P (.slice t (.tmp 0) (some (.tmp 1)) (some (.tmp 2)) none) t [v7, (AV.sc (.int .i64 z9)), (AV.sc (.int .i64 z4))] (mget (mpushs (mpushs (mpushs m d5) d6) d7)) 26) fun v10 =>
    opN (opA P (.call ⟨.builtin .clear, #[.tmp 0], #[t]⟩) 0 [v10] (mget (mpushs (mpushs (mpushs m d5) d6) d7)) 27) (mpushs (mpushs (mpushs m d5) d6) d7) fun v11 m11 =>
    exT0 v11 <|
    chk (Nat.ble 30 65) (retL R m11 [some v7]))) := by
  subst hs hm ha0 ha1 ha2
  have hn0 : l.length ≠ 0 := by omega
  have hp := E.pos
  have hlen : lenS (.sl 0 0 E.size l.length l.length false) = some (intA l.length, []) := rfl
  refine opP_of hlen ?_
  refine ex_i64_b ?_
  have s3 := fun (yt ty n : Nat) (look : Nat → Option ABlk) (k cap off : Nat) (ex : Bool) (x y z : AV) => opA_slice3 (P := P) (look := look) (yt := yt) (ty := ty) (n := n) hu hz (id := 0) (off := off) (esz := E.size) (k := k) (cap := cap) (ex := ex) (x := x) (y := y) (z := z)
  refine opP_of ((s3 0 t 7 _ l.length l.length 0 false _ _ _).1.trans (slcS_sl (bnd_nat (a := a)) (bnd_nat (a := b)) (bnd_nat (a := l.length)) (by omega) h2 (Nat.le_refl _) rfl)) ?_
  have hab : ((a : Int) == (b : Int)) = false := beq_eq_false_iff_ne.2 (by omega)
  rw [hab, cond_false]
  refine opP_of hlen ?_
  refine ex_i64_b ?_
  refine opM_of ((s3 0 t 16 _ l.length l.length 0 false (intA (a : Int)) .und .und).2.1.trans (slcS_sl (lo := 0) rfl (bnd_nat (a := a)) (mx := l.length) rfl (Nat.zero_le _) (by omega) (Nat.le_refl _) rfl)) ?_
  rw [beq_ne (Ne.symm hn0), cond_false]
  refine opM_of ((s3 0 t 19 _ l.length l.length 0 false (intA (b : Int)) .und .und).2.2.1.trans (slcS_sl (bnd_nat (a := b)) (hi := l.length) rfl (mx := l.length) rfl h2 (Nat.le_refl _) (Nat.le_refl _) rfl)) ?_
  have hel : (encs E l).length = l.length * E.size := encs_length l
  have hale : a * E.size ≤ l.length * E.size := Nat.mul_le_mul_right _ (by omega)
  rcases Nat.eq_or_lt_of_le h2 with hbn | hbn
  · -- nothing behind
    subst hbn
    rw [Nat.beq_refl, cond_true]
    refine opM_of (d := []) (v := .sl 0 (0 + 0 * E.size) E.size (a - 0) (l.length - 0) false) (by
      unfold app
      simp only [cellsOf, List.length_nil, Nat.zero_mul]
      rfl) ?_
    refine chk_of rfl ?_
    refine opP_of (v := intA ((a - 0 : Nat) : Int)) rfl ?_
    refine ex_i64_b ?_
    refine opP_of ((s3 0 t 26 _ (a - 0) (l.length - 0) (0 + 0 * E.size) false _ _ .und).2.2.2.trans (slcS_sl (bnd_nat (a := a - 0)) (bnd_nat (a := l.length)) (mx := l.length - 0) rfl (by omega) (by omega) (Nat.le_refl _) rfl)) ?_
    rw [beq_ne (show a - 0 ≠ l.length - 0 by omega), cond_false]
    have hmul : (l.length - (a - 0)) * E.size = l.length * E.size - a * E.size := by rw [Nat.sub_zero, Nat.sub_mul]
    refine opN_of (clear_sl (b := ⟨encs E l, ty⟩) hu hz hze hzc hzl hp rfl (by omega) (by show _ ≤ (encs E l).length; rw [hel, hmul, Nat.sub_zero, Nat.zero_mul]; omega)) ?_
    rw [exT0_tup]
    refine chk_of rfl ?_
    obtain ⟨rest, hrest⟩ := aput_pre1 (cs := encs E l) (zs := rep zs (l.length - (a - 0))) (o := a * E.size) (p := 0 + 0 * E.size + (a - 0) * E.size) (by rw [Nat.sub_zero, Nat.zero_mul]; omega) (by rw [rep_len hzl, hel, hmul, Nat.sub_zero, Nat.zero_mul]; omega)
    refine hR _ _ ⟨0, l.length - 0, false, rest, ?_, ?_⟩
    · rw [List.drop_length, List.append_nil, List.length_take, Nat.min_eq_left (by omega), Nat.zero_mul]; rfl
    · rw [List.drop_length, List.append_nil, ← encs_take, ← hrest]; rfl
  · have hbe : (l.length - b) * E.size = l.length * E.size - b * E.size := Nat.sub_mul _ _ _
    have hble : b * E.size + E.size ≤ l.length * E.size := by
      have := Nat.mul_le_mul_right E.size (show b + 1 ≤ l.length by omega)
      rw [Nat.add_mul, Nat.one_mul] at this; exact this
    have hable : a * E.size + E.size ≤ b * E.size := by
      have := Nat.mul_le_mul_right E.size (show a + 1 ≤ b by omega)
      rw [Nat.add_mul, Nat.one_mul] at this; exact this
    rw [beq_ne (show b ≠ l.length by omega), cond_false]
    have hxs : ((encs E l).drop (0 + b * E.size)).take ((l.length - b) * E.size) = encs E (l.drop b) := by
      rw [Nat.zero_add, encs_drop, List.take_of_length_le]
      rw [encs_length, List.length_drop]; exact Nat.le_refl _
    have hc1 : ∀ look : Nat → Option ABlk, look 0 = some ⟨encs E l, ty⟩ → cellsOf look E.size (.sl 0 (0 + b * E.size) E.size (l.length - b) (l.length - b) false) = some (l.length - b, encs E (l.drop b)) := by
      intro look hlk
      simp only [cellsOf, hlk, Nat.beq_refl, Bool.and_true, hxs]
      rw [Nat.ble_eq_true_of_le (by rw [hel, hbe]; omega), cond_true]
    have hc2 : ∀ look : Nat → Option ABlk, look 0 = some ⟨encs E l, ty⟩ → cellsOf look E.size (.sl 0 (0 + 0 * E.size) E.size (a - 0) (l.length - 0) false) = some (a - 0, encs E (l.take a)) := by
      intro look hlk
      simp only [cellsOf, hlk, Nat.beq_refl, Bool.and_true]
      rw [Nat.ble_eq_true_of_le (by rw [hel, Nat.zero_mul, Nat.sub_zero]; omega), cond_true, Nat.zero_mul, Nat.add_zero, List.drop_zero, Nat.sub_zero, encs_take]
    have hdl : (encs E (l.drop b)).length = (l.length - b) * E.size := by rw [encs_length, List.length_drop]
    refine opM_of (app_sl (m := l.length - b) (hc1 _ rfl) (by omega) (hc2 _ rfl) (b := ⟨encs E l, ty⟩) rfl (by omega) (by
      show _ ≤ (encs E l).length
      rw [hel, Nat.add_mul, hbe, Nat.zero_mul, Nat.sub_zero]; omega) hzl hp hdl (by rw [encs_length, List.length_take, Nat.sub_zero, Nat.min_eq_left (by omega)]) (encs_cell _) (Nat.le_trans (Nat.mul_le_mul_right _ (by omega)) hr1) (by omega)) ?_
    refine chk_of (by kernel_rfl) ?_
    refine opP_of (v := intA ((a - 0 + (l.length - b) : Nat) : Int)) rfl ?_
    refine ex_i64_b ?_
    refine opP_of ((s3 0 t 26 _ (a - 0 + (l.length - b)) (l.length - 0) (0 + 0 * E.size) false _ _ .und).2.2.2.trans (slcS_sl (bnd_nat (a := a - 0 + (l.length - b))) (bnd_nat (a := l.length)) (mx := l.length - 0) rfl (by omega) (by omega) (Nat.le_refl _) rfl)) ?_
    rw [beq_ne (show a - 0 + (l.length - b) ≠ l.length - 0 by omega), cond_false]
    have hap : (aput (encs E l) (0 + 0 * E.size + (a - 0) * E.size) (encs E (l.drop b))).length = l.length * E.size := by
      unfold aput
      simp only [List.length_append, List.length_take, List.length_drop, hel, hdl, hbe, Nat.zero_mul, Nat.sub_zero]
      omega
    have hq : (l.length - (a - 0 + (l.length - b))) * E.size = b * E.size - a * E.size := by
      rw [show l.length - (a - 0 + (l.length - b)) = b - a by omega, Nat.sub_mul]
    refine opN_of (clear_sl (b := ⟨aput (encs E l) (0 + 0 * E.size + (a - 0) * E.size) (encs E (l.drop b)), ty⟩) hu hz hze hzc hzl hp rfl (by omega) (by
      show _ ≤ (aput (encs E l) (0 + 0 * E.size + (a - 0) * E.size) (encs E (l.drop b))).length
      rw [hap, hq, Nat.add_mul, hbe, Nat.zero_mul, Nat.sub_zero]; omega)) ?_
    rw [exT0_tup]
    refine chk_of rfl ?_
    obtain ⟨rest, hrest⟩ := aput_pre (cs := encs E l) (xs := encs E (l.drop b)) (zs := rep zs (l.length - (a - 0 + (l.length - b)))) (o := 0 + 0 * E.size + (a - 0) * E.size) (p := 0 + 0 * E.size + (a - 0 + (l.length - b)) * E.size) (by rw [hdl, Nat.add_mul, hbe]; omega) (by rw [rep_len hzl, hq, hel, Nat.add_mul, hbe, Nat.zero_mul, Nat.sub_zero]; omega)
    refine hR _ _ ⟨0, l.length - 0, false, rest, ?_, ?_⟩
    · rw [List.length_append, List.length_take, List.length_drop, Nat.min_eq_left (by omega), Nat.zero_mul, Nat.sub_zero]; rfl
    · rw [encs_append, ← encs_take]
      show _ = some (⟨encs E l |>.take (a * E.size) |> (· ++ encs E (l.drop b)) |> (· ++ rest), ty⟩ : ABlk)
      show some (⟨aput (aput (encs E l) (0 + 0 * E.size + (a - 0) * E.size) (encs E (l.drop b))) (0 + 0 * E.size + (a - 0 + (l.length - b)) * E.size) (rep zs (l.length - (a - 0 + (l.length - b)))), ty⟩ : ABlk) = _
      rw [hrest]
      simp only [Nat.zero_mul, Nat.add_zero, Nat.zero_add, Nat.sub_zero]
theorem del_mk {n id ty by_ : Nat} {look : Nat → Option ABlk} {f : FuncId} {l l0 y : List α} {i j : Int} (hE : ScE E) (hl : l0.length = l.length) (hb : look id = ownB E ty l) (h : delO by_ l i j = some y)
    (hF : ∀ a b : Nat, l.length * by_ ≤ 140737488355328 → l.length ≤ 4611686018427387904 → a < b → b ≤ l.length → callW P gl [(0, some ⟨encs E l, ty⟩)] 1 f [.sl 0 0 E.size l.length l.length false, intA (a : Int), intA (b : Int)] (MutO E ty (l.take a ++ l.drop b))) :
    PureD P gl look n f [ownV E id l0, intA i, intA j] (blkW E n y) [(n, some ⟨encs E y, ty⟩), (id, none)] := by
  unfold delO at h
  split at h
  · rename_i hc
    obtain ⟨h1, h2, h3, h4, h5⟩ := hc
    have hy := Option.some.inj h
    obtain ⟨a, rfl⟩ := Int.eq_ofNat_of_zero_le h1
    obtain ⟨b, rfl⟩ := Int.eq_ofNat_of_zero_le (show 0 ≤ j by omega)
    rw [Int.toNat_natCast, Int.toNat_natCast] at hy
    have := hF a b h4 h5 (by omega) (by omega)
    rw [hy] at this
    exact mut_own (args := [intA (a : Int), intA (b : Int)]) (ar := [intA (a : Int), intA (b : Int)]) hE hl (by rintro rfl; simp at h3; omega) hb (snL_cons (sn_sc _ _) (snL_cons (sn_sc _ _) snL_nil)) (callW_N this)
  · cases h
theorem len_bw {id : Nat} {l l' : List α} (h : l.length = l'.length) : lenS (blkW E id l) = some (intA l'.length, []) := by unfold blkW; rw [h]; rfl
theorem sn_bw {look : Nat → Option ABlk} (k : Nat) (hE : NoFn E) {id ty : Nat} {l l' : List α} (hl : l.length = l'.length) (hb : look id = some ⟨encs E l', ty⟩) : Sn look (k + 2) (blkW E id l) (lstA E l') := sn_sl k hE hl hb
theorem fz_bw {m : Mem} (k : Nat) {id ty : Nat} {l l' : List α} (hl : l.length = l'.length) (hb : mget m id = some ⟨encs E l', ty⟩) : Fz (k + 2) m (blkW E id l) (lstA E l') := fz_sl k hl hb
theorem app_bw {look : Nat → Option ABlk} {sz by_ n id ty : Nat} {zs : List AV} {l l' xs : List α} {x : AV} {u : Unit} (hs : E.size = sz) (hz : Nat.beq zs.length sz = true) (hx : cellsOf look sz x = some (xs.length, encs E xs)) (hne : xs ≠ []) (hl : l.length = l'.length) (hb : look id = some ⟨encs E l', ty⟩) (hr : roomO (l'.length + xs.length) by_ = some u) :
    app look ty sz by_ zs n (blkW E id l) x = some (ownV E n (l' ++ xs), [(n, ownB E ty (l' ++ xs)), (id, none)]) := by
  obtain ⟨r1, r2⟩ := room_some hr
  have hx0 : Nat.beq xs.length 0 = false := by
    cases h : Nat.beq xs.length 0 with
    | false => rfl
    | true => exact absurd (List.eq_nil_of_length_eq_zero (Nat.eq_of_beq_eq_true h)) hne
  have hne2 : l' ++ xs ≠ [] := by simp [hne]
  have hlen : 0 < xs.length := List.length_pos_iff.2 hne
  have t2 : Nat.ble ((l'.length + xs.length) * by_) 140737488355328 = true := Nat.ble_eq_true_of_le r1
  have t3 : Nat.ble (l'.length + xs.length) 4611686018427387904 = true := Nat.ble_eq_true_of_le r2
  have t5 : Nat.ble 1 sz = true := by rw [← hs]; exact Nat.ble_eq_true_of_le E.pos
  have t6 : Nat.beq (encs E xs).length (xs.length * sz) = true := by rw [encs_length, hs]; exact Nat.beq_refl _
  have t7 : Nat.beq (encs E l').length (l'.length * sz) = true := by rw [encs_length, hs]; exact Nat.beq_refl _
  have hcell := encs_cell (E := E) xs
  subst hs
  have hc : cellsOf look E.size (blkW E id l) = some (l'.length, encs E l') := cellsOf_sl rfl hl hb
  have t8 : Nat.ble (l'.length + xs.length) l.length = false := by
    cases h : Nat.ble (l'.length + xs.length) l.length with
    | false => rfl
    | true => have := Nat.le_of_ble_eq_true h; omega
  rw [ownV_ne hne2, ownB_ne hne2]
  unfold app
  rw [hx]
  simp only [hx0, cond_false]
  rw [hc]
  simp only [t2, t3, hz, t5, hcell, t6, t7, Bool.true_or, Bool.and_self, cond_true, blkW, t8, cond_false, hb, Nat.beq_refl, List.length_append, encs_append]
theorem ent_bw_frz {s : St} {pl : List (Nat × Nat)} {id ty : Nat} {l l' : List α} (hl : l.length = l'.length) (hb : mget s.m id = some ⟨encs E l', ty⟩) (hout : (pl.map (·.2)).contains id = false) : Ent s pl (blkW E id l) (lstA E l') := by
  refine .inr ⟨id, 0, E.size, l.length, l.length, false, _, rfl, hb, hout, ?_, encs_clean _, ?_⟩
  · rw [encs_length, hl]; omega
  · show lstA E l' = _
    rw [List.drop_zero, hl, List.take_of_length_le (by rw [encs_length]; exact Nat.le_refl _)]
/- a part of a slice of the run's own, to be read -/
def subV (E : En α) (id n lo k : Nat) : AV := bif Nat.beq lo n then .lst 0 [] false else .sl id (0 + lo * E.size) E.size k (n - lo) false
theorem sliceO_some {l y : List α} {lo hi : Option Int} (h : sliceO l lo hi = some y) : ∃ a b : Nat, lo.getD 0 = (a : Int) ∧ hi.getD (l.length : Int) = (b : Int) ∧ a ≤ b ∧ b ≤ l.length ∧ y = (l.drop a).take (b - a) ∧ y.length = b - a := by
  unfold sliceO at h
  simp only at h
  split at h
  · rename_i hc
    obtain ⟨h1, h2, h3⟩ := hc
    have hy := Option.some.inj h
    refine ⟨(lo.getD 0).toNat, (hi.getD (l.length : Int)).toNat, (Int.toNat_of_nonneg h1).symm, (Int.toNat_of_nonneg (by omega)).symm, by omega, by omega, ?_, ?_⟩
    · rw [← hy]; congr 1; omega
    · rw [← hy, List.length_take, List.length_drop]; omega
  · cases h
theorem slcO_own {id : Nat} {l0 l y : List α} {lo hi : Option Int} (hl : l0.length = l.length) (h : sliceO l lo hi = some y) : slcS E.size (ownV E id l0) (lo.map intA) (hi.map intA) none = some (subV E id l.length (lo.getD 0).toNat y.length, []) := by
  obtain ⟨a, b, h1, h2, h3, h4, -, h6⟩ := sliceO_some h
  have b1 : bnd 0 (lo.map intA) = some a := by
    cases lo with
    | none => simp at h1; have : a = 0 := by omega
              rw [this]; rfl
    | some z => simp at h1; subst h1; exact bnd_nat
  have b2 : bnd l.length (hi.map intA) = some b := by
    cases hi with
    | none => simp at h2; have : l.length = b := by omega
              rw [this]; rfl
    | some z => simp at h2; subst h2; exact bnd_nat
  have h1 : (lo.getD 0).toNat = a := by rw [h1]; rfl
  rw [h1, h6]
  cases l0 with
  | nil =>
    have hl0 : l.length = 0 := hl.symm
    have ha : a = 0 := by omega
    have hb : b = 0 := by omega
    subst ha hb
    rw [hl0] at b2 ⊢
    have e0 : Nat.beq ([] : List AV).length (0 * E.size) = true := by rw [Nat.zero_mul]; rfl
    have b3 : bnd 0 (none : Option AV) = some 0 := rfl
    simp only [ownV, slcS, b1, b2, b3, e0, Option.isSome_none, Bool.false_and, Bool.not_false, Bool.and_true]
    rw [List.drop_nil, List.take_nil]
    rfl
  | cons x l0 =>
    rw [ownV_ne (by simp), hl, slcS_sl b1 b2 (mx := l.length) rfl h3 h4 (Nat.le_refl _) rfl]
    rfl
theorem slo_lo {t ty n e id : Nat} {look : Nat → Option ABlk} (hu : P.underlying t = some (.slice e)) (hz : tsize P e = some E.size) {l0 l y : List α} {a : Int} (hl : l0.length = l.length) (h : sliceO l (some a) none = some y) : opA P (.slice t (.tmp 0) (some (.tmp 1)) none none) ty [ownV E id l0, intA a] look n = some (subV E id l.length a.toNat y.length, []) := by
  refine Eq.trans ?_ (slcO_own (id := id) hl h)
  cases l0 with
  | nil => exact (opA_slice (yt := 0) (a := intA a) (b := .und) hu hz).1
  | cons x l0 => exact (opA_slice3 (yt := 0) (x := intA a) (y := .und) (z := .und) hu hz).2.2.1
theorem slo_hi {t ty n e id : Nat} {look : Nat → Option ABlk} (hu : P.underlying t = some (.slice e)) (hz : tsize P e = some E.size) {l0 l y : List α} {a : Int} (hl : l0.length = l.length) (h : sliceO l none (some a) = some y) : opA P (.slice t (.tmp 0) none (some (.tmp 1)) none) ty [ownV E id l0, intA a] look n = some (subV E id l.length 0 y.length, []) := by
  refine Eq.trans ?_ (slcO_own (id := id) hl h)
  cases l0 with
  | nil => exact (opA_slice (yt := 0) (a := intA a) (b := .und) hu hz).2.1
  | cons x l0 => exact (opA_slice3 (yt := 0) (x := intA a) (y := .und) (z := .und) hu hz).2.1
theorem slo_both {t ty n e id : Nat} {look : Nat → Option ABlk} (hu : P.underlying t = some (.slice e)) (hz : tsize P e = some E.size) {l0 l y : List α} {a b : Int} (hl : l0.length = l.length) (h : sliceO l (some a) (some b) = some y) : opA P (.slice t (.tmp 0) (some (.tmp 1)) (some (.tmp 2)) none) ty [ownV E id l0, intA a, intA b] look n = some (subV E id l.length a.toNat y.length, []) := by
  refine Eq.trans ?_ (slcO_own (id := id) hl h)
  cases l0 with
  | nil => exact (opA_slice (yt := 0) (a := intA a) (b := intA b) hu hz).2.2
  | cons x l0 => exact (opA_slice3 (yt := 0) (x := intA a) (y := intA b) (z := .und) hu hz).2.2.2
theorem len_sub {id : Nat} {l y : List α} {lo hi : Option Int} (h : sliceO l lo hi = some y) : lenS (subV E id l.length (lo.getD 0).toNat y.length) = some (intA y.length, []) := by
  obtain ⟨a, b, h1, h2, h3, h4, -, h6⟩ := sliceO_some h
  have h1 : (lo.getD 0).toNat = a := by rw [h1]; rfl
  rw [h1]
  unfold subV
  cases hq : Nat.beq a l.length with
  | true =>
    have := Nat.eq_of_beq_eq_true hq
    rw [h6, show b - a = 0 by omega]; rfl
  | false => rfl
theorem sn_sub {look : Nat → Option ABlk} (k : Nat) (hE : NoFn E) {id ty : Nat} {l y : List α} {lo hi : Option Int} (h : sliceO l lo hi = some y) (hb : look id = ownB E ty l) : Sn look (k + 2) (subV E id l.length (lo.getD 0).toNat y.length) (lstA E y) := by
  obtain ⟨a, b, h1, h2, h3, h4, h5, h6⟩ := sliceO_some h
  have h1 : (lo.getD 0).toNat = a := by rw [h1]; rfl
  rw [h1]
  unfold subV
  cases hq : Nat.beq a l.length with
  | true =>
    have := Nat.eq_of_beq_eq_true hq
    have : y = [] := List.eq_nil_of_length_eq_zero (by rw [h6]; omega)
    subst this; rfl
  | false =>
    have hne : l ≠ [] := by
      rintro rfl
      simp at h4
      have : a = 0 := by omega
      subst this; cases hq
    rw [ownB_ne hne] at hb
    have h3' : ∀ x ∈ encs E y, ∀ f c, x ≠ .fn f c := by
      intro x hx
      simp only [encs, List.mem_flatMap] at hx
      obtain ⟨z, -, hz⟩ := hx
      exact hE z x hz
    have e1 : ((encs E l).drop (0 + a * E.size)).take (y.length * E.size) = encs E y := by
      rw [Nat.zero_add, encs_drop, encs_take, h6, ← h5]
    have e2 : Nat.ble (0 + a * E.size + y.length * E.size) (encs E l).length = true := Nat.ble_eq_true_of_le (by
      rw [encs_length, h6, Nat.zero_add, ← Nat.add_mul]
      exact Nat.mul_le_mul_right _ (by omega))
    simp only [cond_false, Sn, snap, hb, e2, cond_true, e1, snap_clean look k (encs E y) (encs_cell y) h3' (encs_clean y), Option.map_some, norm, encs_norm]
/- functions that change their first argument in place, by extraction -/
theorem less_ne {look : Nat → Option ABlk} {id j : Nat} (h : Nat.beq j id = false) : less look id j = look j := by unfold less; rw [h]; rfl
theorem mut_own_leaf {m : Mem} {id ty : Nat} {l0 l : List α} (hne : l ≠ []) (hl : l0.length = l.length) (hb : mget m id = ownB E ty l) : MutO E ty l (ownV E id l0) m := by
  have hl0 : l0 ≠ [] := by rintro rfl; exact hne (List.eq_nil_of_length_eq_zero hl.symm)
  rw [ownV_ne hl0, hl]
  rw [ownB_ne hne] at hb
  exact ⟨id, l.length, false, [], rfl, by rw [List.append_nil]; exact hb⟩
theorem mut_sub_leaf {m : Mem} {id ty : Nat} {l y : List α} {hi : Option Int} (hne : l ≠ []) (h : sliceO l none hi = some y) (hb : mget m id = ownB E ty l) : MutO E ty y (subV E id l.length 0 y.length) m := by
  obtain ⟨a, b, h1, h2, h3, h4, h5, h6⟩ := sliceO_some h
  have h1 : a = 0 := by simp at h1; omega
  subst h1
  rw [ownB_ne hne] at hb
  have h0 : Nat.beq 0 l.length = false := by
    cases q : Nat.beq 0 l.length with
    | false => rfl
    | true => exact absurd (List.eq_nil_of_length_eq_zero (Nat.eq_of_beq_eq_true q).symm) hne
  refine ⟨id, l.length - 0, false, encs E (l.drop b), ?_, ?_⟩
  · unfold subV
    rw [h0, cond_false, Nat.zero_mul]
  · rw [hb, h5, List.drop_zero, Nat.sub_zero, ← encs_append, List.take_append_drop]
def neO {α : Type} (l : List α) : Option Unit := match l with | [] => none | _ :: _ => some ()
theorem mget_appW_e {m : Mem} {n id ty : Nat} {l xs : List α} (hx : xs ≠ []) (h : n ≠ id) : mget (mpushs m (appW E n id ty l xs)) n = ownB E ty (l ++ xs) := by
  cases xs with
  | nil => exact absurd rfl hx
  | cons x xs => exact mget_appW_n h
theorem neO_some {l : List α} {u : Unit} (h : neO l = some u) : l ≠ [] := by rintro rfl; cases h
def clrL {α : Type} (z : α) (l y : List α) (lo : Nat) : List α := l.take lo ++ List.replicate y.length z ++ l.drop (lo + y.length)
theorem clrL_ne {z : α} {l y : List α} {lo : Nat} {u : Unit} (h : neO y = some u) : clrL z l y lo ≠ [] := by
  intro e
  have : (clrL z l y lo).length = 0 := by rw [e]; rfl
  unfold clrL at this
  simp at this
  exact neO_some h this.2.1
theorem clrL_len {z : α} {l y : List α} {lo hi : Option Int} (h : sliceO l lo hi = some y) : (clrL z l y (lo.getD 0).toNat).length = l.length := by
  obtain ⟨a, b, h1, h2, h3, h4, h5, h6⟩ := sliceO_some h
  have h1 : (lo.getD 0).toNat = a := by rw [h1]; rfl
  rw [h1]
  unfold clrL
  simp only [List.length_append, List.length_take, List.length_replicate, List.length_drop]
  omega
theorem clear_sub {look : Nat → Option ABlk} {t e sz ty tt n id : Nat} {l y : List α} {lo hi : Option Int} {z : α} {u : Unit} (hu : P.underlying t = some (.slice e)) (hz : tsize P e = some sz) (hs : E.size = sz) (hze : (tzero P e).bind (fun z => (ofVal z).bind acells) = some (E.enc z)) (h : sliceO l lo hi = some y) (hne : neO y = some u) (hb : look id = ownB E ty l) :
    opA P (.call ⟨.builtin .clear, #[.tmp 0], #[t]⟩) tt [subV E id l.length (lo.getD 0).toNat y.length] look n = some (.tup [], [(id, ownB E ty (clrL z l y (lo.getD 0).toNat))]) := by
  subst hs
  rw [ownB_ne (clrL_ne hne)]
  obtain ⟨a, b, h1, h2, h3, h4, h5, h6⟩ := sliceO_some h
  have h1 : (lo.getD 0).toNat = a := by rw [h1]; rfl
  rw [h1]
  have hy := neO_some hne
  have hy0 : y.length ≠ 0 := fun e => hy (List.eq_nil_of_length_eq_zero e)
  have hl : l ≠ [] := by rintro rfl; simp at h5; exact hy h5
  rw [ownB_ne hl] at hb
  unfold subV
  rw [beq_ne (show a ≠ l.length by omega), cond_false]
  have hle : (a + y.length) * E.size ≤ l.length * E.size := Nat.mul_le_mul_right _ (by omega)
  rw [clear_sl (b := ⟨encs E l, ty⟩) hu hz hze (E.cell z) (E.len z) E.pos hb hy0 (by show _ ≤ (encs E l).length; rw [encs_length, Nat.zero_add, ← Nat.add_mul]; exact hle)]
  have : aput (encs E l) (0 + a * E.size) (rep (E.enc z) y.length) = encs E (clrL z l y a) := by
    unfold aput clrL
    rw [rep_len (E.len z), Nat.zero_add, ← Nat.add_mul, encs_append, encs_append, encs_take, encs_drop, rep_encs rfl]
  show some (_, [(id, some (⟨aput (encs E l) (0 + a * E.size) (rep (E.enc z) y.length), ty⟩ : ABlk))]) = _
  rw [this]
theorem leV_lstT {n : Nat} {cs : List AV} : leV (.lst n cs true) (.lst n cs false) := by
  intro c v h
  cases h with
  | lst0 a cap ex he hm hn => exact .lst0 a cap false (fun h => by cases h) hm hn
  | lst hb h hc hn he hm => exact .lst hb h hc hn (fun h => by cases h) hm
theorem own_of_bw {n id ty : Nat} {look : Nat → Option ABlk} {f : FuncId} {args : List AV} {y : List α} {u : Unit} (hne : neO y = some u) (h : PureD P gl look n f args (blkW E n y) [(n, some ⟨encs E y, ty⟩), (id, none)]) : PureD P gl look n f args (ownV E n y) [(n, ownB E ty y), (id, none)] := by
  rw [ownV_ne (neO_some hne), ownB_ne (neO_some hne)]
  exact h
end
end Go.Proofs.YteaimbiojpjneaaGreatDoor
