/- A part. -/
import Derived.Test.YtbfabclpcamlnaaGreatDoorPF
import Derived.KernelRfl
set_option linter.unusedVariables false
set_option linter.unusedSimpArgs false
namespace Go.Proofs.YtbfabclpcamlnaaGreatDoor
open Go.RowKit
section
variable {α : Type} {E : En α} {P : Program} {K : H0} {gl : Nat → Option (List AV)}
def Vs (E : En α) (id : Nat) (l : List α) : AV := .sl id 0 E.size l.length l.length false
def Jn (E : En α) (ty : Nat) (l' : List α) (u : AV) (m : Mem) : Prop := ∃ k cap ex rest, u = .sl k 0 E.size l'.length cap ex ∧ Al m k = some ⟨Ay E l' ++ rest, ty⟩
def less (look : Nat → Option Bi) (id : Nat) : Nat → Option Bi := fun j => bif Nat.beq j id then none else look j
def Kf (P : Program) (gl : Nat → Option (List AV)) (m : Mem) (nx : Nat) (f : FuncId) (args : List AV) (R : AV → Mem → Prop) : Prop :=
  D8 P f ∧ ∀ (B : Nat) (c : Cx) (vals : List Value), Good B c → B2 gl c → (∀ id, c.M id = Al m id) → (∀ id, c.al id → id < nx) → Bf c args vals → Calls P f vals.toArray c.w (fun e w' => ∃ v m' nx', R v m' ∧ Fi B { c with al := fun _ => False } v m' nx' e w')
theorem jM (c : Cx) : Step { c with al := fun _ => False } c := ⟨rfl, rfl, rfl, Nat.le_refl _, fun _ _ _ => rfl, fun _ _ h => h, fun _ h => h.elim, fun _ h => h.elim, fun _ => Iff.rfl, fun b arr T h => ⟨arr, h, rfl⟩, Nat.le_refl _⟩
theorem Hl (hm : P.follows .mixedOrders = true) {f : FuncId} {fn : Func} {code : Code} (hf : P.funcs[f]? = some fn) (hb : fn.body = some code) (hn : (fn.name == "runtime.NumGoroutine") = false) {args : List AV} (hl : Nat.ble args.length fn.ntmps = true) {m : Mem} {nx : Nat} {R : AV → Mem → Prop} {X : Prop}
    (hX : W P K fn.ntmps 0 code ⟨El args 0, m, nx⟩ (Dj P fn R) = X) (h : X) : Kf P K.gl m nx f args R := by
  have h := hX.mpr h
  refine ⟨⟨fn, code, hf, hb, hn⟩, fun B c vals g gl hM ha hr => ?_⟩
  have tri : Ca P K fn.ntmps 0 code ⟨El args 0, m, nx⟩ (fun x s => (x = .normal ∨ x = .ret) ∧ ∃ v, Ek P fn s = some v ∧ R v s.m) := (W9 hm code _ _ h).mono fun x s hq => by
    cases x with
    | normal =>
      simp only [Dj] at hq
      split at hq
      · rename_i v hv; exact ⟨.inl rfl, v, hv, hq⟩
      · exact hq.elim
    | ret =>
      simp only [Dj] at hq
      split at hq
      · rename_i v hv; exact ⟨.inr rfl, v, hv, hq⟩
      · exact hq.elim
    | exit i => exact hq.elim
  have hl := Nat.le_of_ble_eq_true hl
  refine calls_of_wp hf hb ?_
  have hlen := hr.length
  have sr : SR K.gl B fn.ntmps c ⟨El args 0, m, nx⟩ { tmps := vals.toArray ++ Array.replicate (fn.ntmps - vals.toArray.size) undef, defers := [] } := by
    refine ⟨g, fun t => ?_, hM, ha, by simp; omega, rfl, gl⟩
    simp only [Oz, Nat.zero_le, if_true, Nat.sub_zero]
    rcases Nat.lt_or_ge t args.length with h | h
    · obtain ⟨v, hv, hx⟩ := hr.get (k := t) (x := args[t]) (List.getElem?_eq_getElem h)
      have e1 : args.getD t .D7 = args[t] := by simp [List.getD_eq_getElem?_getD, h]
      rw [e1]
      have : (vals.toArray ++ Array.replicate (fn.ntmps - vals.toArray.size) undef).getD t undef = v := by
        rw [Array.getD_eq_getD_getElem?, Array.getElem?_append_left (by simp; omega)]
        simp [hv]
      simp only [Act.eval, this]
      exact hx
    · have e1 : args.getD t .D7 = .D7 := by simp [List.getD_eq_getElem?_getD, h]
      rw [e1]; exact .D7 _
  refine wp_mono (tri B { c with al := fun _ => False } c _ sr (jM c) (fun _ h => h.elim)) ?_
  rintro ex a' w' ⟨x, s, c', rfl, ⟨hx, v, hv, hR⟩, sr', rfl, st⟩
  obtain ⟨v', h1, h2⟩ := Q5 sr' hv
  have post : a'.defers = [] ∧ ∃ v, (results fn a'.tmps).run P c'.w = .ok v c'.w ∧ ∃ v_1 m' nx', R v_1 m' ∧ Fi B { c with al := fun _ => False } v_1 m' nx' (.returned v) c'.w :=
    ⟨sr'.df, v', h1, v, s.m, s.nx, hR, v', c', rfl, rfl, h2, st, sr'.g, sr'.m, sr'.al⟩
  rcases hx with rfl | rfl
  · exact post
  · exact post
theorem qG {n id ty : Nat} {look : Nat → Option Bi} {f : FuncId} {l l0 l' : List α} {args ar : List AV} (hE : xS E) (hl : l0.length = l.length) (hne : l ≠ []) (hb : look id = Cs E ty l) (ha : aX (less look id) 6 args ar)
    (h : Kf P gl [(0, some ⟨Ay E l, ty⟩)] 1 f (.sl 0 0 E.size l.length l.length false :: ar) (Jn E ty l')) :
    D2 P gl look n f (B5 E id l0 :: args) (Vs E n l') [(n, some ⟨Ay E l', ty⟩), (id, none)] := by
  refine ⟨h.1, fun B c vals g hgl hn hlk hr => ?_⟩
  have hl0 : l0 ≠ [] := by rintro rfl; exact hne (List.eq_nil_of_length_eq_zero hl.symm)
  rw [Dx hl0, hl] at hr
  rw [C1 hne] at hb
  have hM := hlk id _ hb
  have hfid := g.lt hM
  have hidn : id ≠ n := fun e => hn (e ▸ (g.low id _ hM).2)
  cases hr with
  | cons hv hr =>
    rename_i v vals
    let c1 : Cx := { w := c.w, f := fun _ => c.f id, al := fun j => j = 0, M := fun j => Al [(0, some ⟨Ay E l, ty⟩)] j, no := c.no }
    have own1 : ∀ b, c1.own b → b = c.f id := by
      rintro b ⟨j, Bh, h1, h2⟩
      exact h2.symm
    have hst : ∀ b, c.Bl b → c1.Bl b := fun b ⟨h1, h2, h3⟩ => ⟨h1, fun ho => h2 (own1 b ho ▸ ⟨id, _, hM, rfl⟩), h3⟩
    have g1 : Good B c1 := by
      have hj : ∀ j Bh, c1.M j = some Bh → j = 0 ∧ Bh = ⟨Ay E l, ty⟩ := by
        intro j Bh h
        have h : Al [(0, some ⟨Ay E l, ty⟩)] j = some Bh := h
        unfold Al at h
        cases hq : Nat.beq 0 j with
        | true => rw [hq] at h; exact ⟨(Nat.eq_of_beq_eq_true hq).symm, (Option.some.inj h).symm⟩
        | false => rw [hq] at h; simp [Al] at h
      refine ⟨g.hB, fun j Bh h => ?_, fun j Bh h => ?_, g.Iq, fun j j' Bh blk' h h' _ => ?_⟩
      · exact ⟨(g.low id _ hM).1, (hj j Bh h).1⟩
      · obtain ⟨rfl, rfl⟩ := hj j Bh h
        obtain ⟨arr, vs, rest, q1, q2, q3⟩ := g.Bh id _ hM
        exact ⟨arr, vs, rest, q1, q2, Hw (Gg hE l) q3⟩
      · rw [(hj j Bh h).1, (hj j' blk' h').1]
    have r0 : Bb c1 (.sl 0 0 E.size l.length l.length false) v := by
      cases hv with
      | sl ha hb hs hk hc he hm => exact .sl (c := c1) (id := 0) rfl hb hs hk hc he hm
    have rr : Bf c1 ar vals := by
      obtain ⟨us, h1, h2⟩ := Ic 6 ha
      have hll : ∀ j b, less look id j = some b → c.M j = some b ∧ j ≠ id := by
        intro j b h
        unfold less at h
        cases e : Nat.beq j id with
        | true => rw [e] at h; cases h
        | false => rw [e] at h; exact ⟨hlk j b h, Nat.ne_of_beq_eq_false e⟩
      have : Bf c1 us vals := Ei (fun z u y u' r h => Ob (c := c) (c0 := c1) g rfl hst (fun j b hb => by
        obtain ⟨k1, k2⟩ := hll j b hb
        have hlow := (g.low j b k1).1
        refine ⟨g.lt k1, fun ho => k2 (g.inj j id b _ k1 hM (own1 _ ho)), fun hn => ?_⟩
        have := g.Iq _ hn
        omega) (fun j b h => (hll j b h).1) 6 r h) hr h1
      rw [← h2]; exact Fb this
    refine (h.2 B c1 (v :: vals) g1 (B2.Br (c := c) rfl hst hgl) (fun _ => rfl) (fun j hj => by have : j = 0 := hj; omega) (.cons r0 rr)).mono ?_
    rintro e w' ⟨u, m, nx', ⟨k, cap, ex, rest, rfl, hk⟩, v', c2, rfl, rfl, k1, st, g2, k4, k5⟩
    have hk2 : c2.M k = some ⟨Ay E l' ++ rest, ty⟩ := by rw [k4]; exact hk
    have hlow2 := (g2.low k _ hk2).1
    have hsz : c.w.heap.size ≤ c2.w.heap.size := st.size
    have hfk := g2.lt hk2
    have hwhere : c2.f k = c.f id ∨ c.w.heap.size ≤ c2.f k := by
      rcases Nat.lt_or_ge (c2.f k) c.w.heap.size with hlt | hge
      · exact .inl (own1 _ (st.own _ hlt ⟨k, _, hk2, rfl⟩))
      · exact .inr hge
    let c' : Cx := { w := c2.w, f := fun i => if i = n then c2.f k else c.f i, al := fun i => c.al i ∨ i = n, M := P4 c.M [(n, some ⟨Ay E l', ty⟩), (id, none)], no := c.no }
    have hM' : ∀ i, c'.M i = if i = id then none else if i = n then some ⟨Ay E l', ty⟩ else c.M i := fun i => rfl
    have hMi : ∀ i Bh, c'.M i = some Bh → (i = n ∧ Bh = ⟨Ay E l', ty⟩) ∨ (i ≠ n ∧ i ≠ id ∧ c.M i = some Bh) := by
      intro i Bh h
      rw [hM'] at h
      by_cases e1 : i = id
      · rw [if_pos e1] at h; cases h
      · rw [if_neg e1] at h
        by_cases e2 : i = n
        · rw [if_pos e2] at h; exact .inl ⟨e2, (Option.some.inj h).symm⟩
        · rw [if_neg e2] at h; exact .inr ⟨e2, e1, h⟩
    have own' : ∀ x, c'.own x → c.own x ∨ x = c2.f k := by
      rintro x ⟨i, Bh, h1, h2⟩
      rcases hMi i Bh h1 with ⟨e, -⟩ | ⟨e, -, h3⟩
      · right; simp only [c', e, if_true] at h2; exact h2.symm
      · left; simp only [c', e, if_false] at h2; exact ⟨i, Bh, h3, h2⟩
    have stp : Step c c' := by
      refine ⟨st.os, st.tape, st.output, st.size, fun x hx ho => st.Bh x hx (fun h => ho (own1 x h ▸ ⟨id, _, hM, rfl⟩)), fun x hx ho => ?_, fun i hi => ?_, fun i hi => .inl hi, fun _ => Iff.rfl, st.T9, st.drawn⟩
      · rcases own' x ho with h | h
        · exact h
        · have hx' : x < c.w.heap.size := hx
          rcases hwhere with h2 | h2
          · exact ⟨id, _, hM, by rw [h, h2]⟩
          · omega
      · have : i ≠ n := fun h => hn (h ▸ hi)
        simp [c', this]
    refine ⟨v', c', rfl, rfl, ?_, stp, ⟨Nat.le_trans g.hB hsz, fun i Bh h => ?_, fun i Bh h => ?_, g.Iq, fun i i' Bh blk' h h' hf => ?_⟩, fun i => rfl, fun i h => h, fun i h => .inl h⟩
    · cases k1 with
      | sl ha hb hs hk hc he hm =>
        have := Bb.sl (c := c') (id := n) (off := 0) (esz := E.size) (n := l'.length) (cap := l'.length) (ex := false) (.inr rfl) (by simp only [c', if_true]; exact hb) hs (Nat.le_refl _) (Nat.le_trans hk hc) (fun h => by cases h) hm
        simpa [c', Vs] using this
    · rcases hMi i Bh h with ⟨e, -⟩ | ⟨e, -, h3⟩
      · simp only [c', e, if_true]; exact ⟨hlow2, .inr trivial⟩
      · simp only [c', e, if_false]; exact ⟨(g.low i Bh h3).1, .inl (g.low i Bh h3).2⟩
    · rcases hMi i Bh h with ⟨e, rfl⟩ | ⟨e, e2, h3⟩
      · obtain ⟨arr, vs, rst, q1, q2, q3⟩ := g2.Bh k _ hk2
        refine ⟨arr, vs.take (Ay E l').length, vs.drop (Ay E l').length ++ rst, by simp only [c', e, if_true]; exact q1, by rw [← List.append_assoc, List.take_append_drop]; exact q2, ?_⟩
        have := q3.take (Ay E l').length
        rw [List.take_left] at this
        exact Hw (Gg hE l') this
      · obtain ⟨arr, vs, rst, q1, q2, q3⟩ := g.Bh i Bh h3
        refine ⟨arr, vs, rst, ?_, q2, q3.step stp⟩
        simp only [c', e, if_false]
        exact (st.Bh _ (B1 q1) (fun ho => e2 (g.inj i id Bh _ h3 hM (own1 _ ho)))).trans q1
    · rcases hMi i Bh h with ⟨e1, -⟩ | ⟨e1, e2, h3⟩ <;> rcases hMi i' blk' h' with ⟨e3, -⟩ | ⟨e3, e4, h5⟩
      · rw [e1, e3]
      · exfalso
        have hlt := g.lt h5
        simp only [c', e1, e3, if_true, if_false] at hf
        rcases hwhere with h2 | h2
        · exact e4 (g.inj i' id blk' _ h5 hM (by rw [← hf, h2]))
        · omega
      · exfalso
        have hlt := g.lt h3
        simp only [c', e1, e3, if_true, if_false] at hf
        rcases hwhere with h2 | h2
        · exact e2 (g.inj i id Bh _ h3 hM (by rw [hf, h2]))
        · omega
      · simp only [c', e1, e3, if_false] at hf
        exact g.inj i i' Bh blk' h3 h5 hf
def Ahi {α : Type} (by_ : Nat) (l : List α) (i j : Int) : Option (List α) := if 0 ≤ i ∧ i < j ∧ j ≤ l.length ∧ l.length * by_ ≤ 140737488355328 ∧ l.length ≤ 4611686018427387904 then some (l.take i.toNat ++ l.drop j.toNat) else none
theorem Mj {t yt ty n e sz : Nat} {look : Nat → Option Bi} (hu : P.underlying t = some (.slice e)) (hz : C8 P e = some sz) {id off esz k cap : Nat} {ex : Bool} {x y z : AV} :
    B9 P (.slice t (.tmp 0) (some (.tmp 1)) (some (.tmp 2)) (some (.tmp 3))) ty [.sl id off esz k cap ex, x, y, z] look n = Lt sz (.sl id off esz k cap ex) (some x) (some y) (some z) ∧ B9 P (.slice t (.tmp 0) none (some (.tmp 1)) none) ty [.sl id off esz k cap ex, x] look n = Lt sz (.sl id off esz k cap ex) none (some x) none ∧ B9 P (.slice t (.tmp 0) (some (.tmp 1)) none none) ty [.sl id off esz k cap ex, x] look n = Lt sz (.sl id off esz k cap ex) (some x) none none ∧ B9 P (.slice t (.tmp 0) (some (.tmp 1)) (some (.tmp 2)) none) ty [.sl id off esz k cap ex, x, y] look n = Lt sz (.sl id off esz k cap ex) (some x) (some y) none := by
  refine ⟨?_, ?_, ?_, ?_⟩ <;> (simp [B9, My, Nh, Q0, hu, hz, Lt]; rfl)
theorem Fs {d a : Nat} : Is d (some (Aa (a : Int))) = some a := by rw [Vu (by omega), Int.toNat_natCast]
theorem Gh {sz id off k cap lo hi mx : Nat} {ex : Bool} {x y z : Option AV} (hx : Is 0 x = some lo) (hy : Is k y = some hi) (hz : Is cap z = some mx) (h1 : lo ≤ hi) (h2 : hi ≤ mx) (h3 : mx ≤ cap) (hn : (z.isSome && y.isNone) = false) : Lt sz (.sl id off sz k cap ex) x y z = some (bif Nat.beq lo mx then .Dm 0 [] (ex || z.isSome) else .sl id (off + lo * sz) sz (hi - lo) (mx - lo) (ex || z.isSome), []) := by
  unfold Lt
  simp only [hx, hy, hz, Nat.ble_eq_true_of_le h1, Nat.ble_eq_true_of_le h2, Nat.ble_eq_true_of_le h3, Nat.beq_refl, hn, Bool.and_self, Bool.not_false, cond_true]
  cases Nat.beq lo mx <;> rfl
theorem Gq {a b : Nat} (h : a ≠ b) : Nat.beq a b = false := by
  cases e : Nat.beq a b with
  | false => rfl
  | true => exact absurd (Nat.eq_of_beq_eq_true e) h
theorem Vz {zs : List AV} {sz : Nat} (h : zs.length = sz) : ∀ n, (rep zs n).length = n * sz
  | 0 => by simp [rep]
  | n + 1 => by rw [rep, List.length_append, Vz h n, h, Nat.add_mul, Nat.one_mul, Nat.add_comm]
theorem zG {look : Nat → Option Bi} {e sz by_ n id off k cap : Nat} {ex : Bool} {zs xs old : List AV} {m : Nat} {x : AV} {b : Bi} (hx : cellsOf look sz x = some (m, xs)) (hm : m ≠ 0) (ho : cellsOf look sz (.sl id off sz k cap ex) = some (k, old)) (hb : look id = some b) (hc : k + m ≤ cap) (hlen : off + (k + m) * sz ≤ b.cells.length) (hzs : zs.length = sz) (h1 : 1 ≤ sz) (hxs : xs.length = m * sz) (hol : old.length = k * sz) (hcell : xs.all Dd = true) (hr1 : (k + m) * by_ ≤ 140737488355328) (hr2 : k + m ≤ 4611686018427387904) :
    app look e sz by_ zs n (.sl id off sz k cap ex) x = some (.sl id off sz (k + m) cap ex, [(id, some ⟨D0 b.cells (off + k * sz) xs, b.ty⟩)]) := by
  unfold app
  simp only [hx, Gq hm, cond_false, ho, Nat.ble_eq_true_of_le hr1, Nat.ble_eq_true_of_le hr2, hzs, Nat.beq_refl, Nat.ble_eq_true_of_le h1, hcell, hxs, hol, Bool.true_or, Bool.and_self, cond_true, Nat.ble_eq_true_of_le hc, hb, Nat.ble_eq_true_of_le hlen]
theorem pQ {look : Nat → Option Bi} {t e sz ty n id off k cap : Nat} {ex : Bool} {zs : List AV} {b : Bi} (hu : P.underlying t = some (.slice e)) (hz : C8 P e = some sz) (hze : (Fo P e).bind (fun z => (F6 z).bind C9) = some zs) (hzc : zs.all Dd = true) (hzs : zs.length = sz) (h1 : 1 ≤ sz) (hb : look id = some b) (hk : k ≠ 0) (hlen : off + k * sz ≤ b.cells.length) :
    B9 P (.call ⟨.builtin .clear, #[.tmp 0], #[t]⟩) ty [.sl id off sz k cap ex] look n = some (.tup [], [(id, some ⟨D0 b.cells off (rep zs k), b.ty⟩)]) := by
  obtain ⟨j, rfl⟩ : ∃ j, k = j + 1 := ⟨k - 1, by omega⟩
  show Rz P look t (.sl id off sz (j + 1) cap ex) = _
  unfold Rz
  simp only [hu, hz, hze, hb, Nat.ble_eq_true_of_le hlen, hzc, Nat.beq_refl, hzs, Nat.ble_eq_true_of_le h1, Bool.true_or, Bool.and_self, cond_true]
theorem Adh {look : Nat → Option Bi} (k : Nat) (hE : H2 E) {id ty : Nat} {l l' : List α} (hl : l.length = l'.length) (hb : look id = some ⟨Ay E l', ty⟩) : Sn look (k + 2) (Vs E id l) (Am E l') := jX k hE hl hb
def Ve (E : En α) (id n lo k : Nat) : AV := bif Nat.beq lo n then .Dm 0 [] false else .sl id (0 + lo * E.size) E.size k (n - lo) false
theorem Ie {l y : List α} {lo hi : Option Int} (h : Eb l lo hi = some y) : ∃ a b : Nat, lo.getD 0 = (a : Int) ∧ hi.getD (l.length : Int) = (b : Int) ∧ a ≤ b ∧ b ≤ l.length ∧ y = (l.drop a).take (b - a) ∧ y.length = b - a := by
  unfold Eb at h
  simp only at h
  split at h
  · rename_i hc
    obtain ⟨h1, h2, h3⟩ := hc
    have hy := Option.some.inj h
    refine ⟨(lo.getD 0).toNat, (hi.getD (l.length : Int)).toNat, (Int.toNat_of_nonneg h1).symm, (Int.toNat_of_nonneg (by omega)).symm, by omega, by omega, ?_, ?_⟩
    · rw [← hy]; congr 1; omega
    · rw [← hy, List.length_take, List.length_drop]; omega
  · cases h
theorem Ys {id : Nat} {l0 l y : List α} {lo hi : Option Int} (hl : l0.length = l.length) (h : Eb l lo hi = some y) : Lt E.size (B5 E id l0) (lo.map Aa) (hi.map Aa) none = some (Ve E id l.length (lo.getD 0).toNat y.length, []) := by
  obtain ⟨a, b, h1, h2, h3, h4, -, h6⟩ := Ie h
  have b1 : Is 0 (lo.map Aa) = some a := by
    cases lo with
    | none => simp at h1; have : a = 0 := by omega
              rw [this]; rfl
    | some z => simp at h1; subst h1; exact Fs
  have b2 : Is l.length (hi.map Aa) = some b := by
    cases hi with
    | none => simp at h2; have : l.length = b := by omega
              rw [this]; rfl
    | some z => simp at h2; subst h2; exact Fs
  have h1 : (lo.getD 0).toNat = a := by rw [h1]; rfl
  rw [h1, h6]
  cases l0 with
  | nil =>
    have hl0 : l.length = 0 := hl.symm
    have ha : a = 0 := by omega
    have hb : b = 0 := by omega
    subst ha hb
    rw [hl0] at b2 ⊢
    have e0 : Nat.beq ([] : List AV).length (0 * E.size) = true := by rw [Nat.zero_mul]; rfl
    have b3 : Is 0 (none : Option AV) = some 0 := rfl
    simp only [B5, Lt, b1, b2, b3, e0, Option.isSome_none, Bool.false_and, Bool.not_false, Bool.and_true]
    rw [List.drop_nil, List.take_nil]
    rfl
  | cons x l0 =>
    rw [Dx (by simp), hl, Gh b1 b2 (mx := l.length) rfl h3 h4 (Nat.le_refl _) rfl]
    rfl
theorem y8 {t ty n e id : Nat} {look : Nat → Option Bi} (hu : P.underlying t = some (.slice e)) (hz : C8 P e = some E.size) {l0 l y : List α} {a : Int} (hl : l0.length = l.length) (h : Eb l (some a) none = some y) : B9 P (.slice t (.tmp 0) (some (.tmp 1)) none none) ty [B5 E id l0, Aa a] look n = some (Ve E id l.length a.toNat y.length, []) := by
  refine Eq.trans ?_ (Ys (id := id) hl h)
  cases l0 with
  | nil => exact (I6 (yt := 0) (a := Aa a) (b := .D7) hu hz).1
  | cons x l0 => exact (Mj (yt := 0) (x := Aa a) (y := .D7) (z := .D7) hu hz).2.2.1
theorem Aaz {t ty n e id : Nat} {look : Nat → Option Bi} (hu : P.underlying t = some (.slice e)) (hz : C8 P e = some E.size) {l0 l y : List α} {a : Int} (hl : l0.length = l.length) (h : Eb l none (some a) = some y) : B9 P (.slice t (.tmp 0) none (some (.tmp 1)) none) ty [B5 E id l0, Aa a] look n = some (Ve E id l.length 0 y.length, []) := by
  refine Eq.trans ?_ (Ys (id := id) hl h)
  cases l0 with
  | nil => exact (I6 (yt := 0) (a := Aa a) (b := .D7) hu hz).2.1
  | cons x l0 => exact (Mj (yt := 0) (x := Aa a) (y := .D7) (z := .D7) hu hz).2.1
theorem Vj {m : Mem} {id ty : Nat} {l0 l : List α} (hne : l ≠ []) (hl : l0.length = l.length) (hb : Al m id = Cs E ty l) : Jn E ty l (B5 E id l0) m := by
  have hl0 : l0 ≠ [] := by rintro rfl; exact hne (List.eq_nil_of_length_eq_zero hl.symm)
  rw [Dx hl0, hl]
  rw [C1 hne] at hb
  exact ⟨id, l.length, false, [], rfl, by rw [List.append_nil]; exact hb⟩
theorem Wm {m : Mem} {id ty : Nat} {l y : List α} {hi : Option Int} (hne : l ≠ []) (h : Eb l none hi = some y) (hb : Al m id = Cs E ty l) : Jn E ty y (Ve E id l.length 0 y.length) m := by
  obtain ⟨a, b, h1, h2, h3, h4, h5, h6⟩ := Ie h
  have h1 : a = 0 := by simp at h1; omega
  subst h1
  rw [C1 hne] at hb
  have h0 : Nat.beq 0 l.length = false := by
    cases q : Nat.beq 0 l.length with
    | false => rfl
    | true => exact absurd (List.eq_nil_of_length_eq_zero (Nat.eq_of_beq_eq_true q).symm) hne
  refine ⟨id, l.length - 0, false, Ay E (l.drop b), ?_, ?_⟩
  · unfold Ve
    rw [h0, cond_false, Nat.zero_mul]
  · rw [hb, h5, List.drop_zero, Nat.sub_zero, ← Ds, List.take_append_drop]
def neO {α : Type} (l : List α) : Option Unit := match l with | [] => none | _ :: _ => some ()
theorem W3 {m : Mem} {n id ty : Nat} {l xs : List α} (hx : xs ≠ []) (h : n ≠ id) : Al (Ae m (Ip E n id ty l xs)) n = Cs E ty (l ++ xs) := by
  cases xs with
  | nil => exact absurd rfl hx
  | cons x xs => exact Pj h
theorem Qq {l : List α} {u : Unit} (h : neO l = some u) : l ≠ [] := by rintro rfl; cases h
def Ls {α : Type} (z : α) (l y : List α) (lo : Nat) : List α := l.take lo ++ List.replicate y.length z ++ l.drop (lo + y.length)
theorem eS {z : α} {l y : List α} {lo : Nat} {u : Unit} (h : neO y = some u) : Ls z l y lo ≠ [] := by
  intro e
  have : (Ls z l y lo).length = 0 := by rw [e]; rfl
  unfold Ls at this
  simp at this
  exact Qq h this.2.1
theorem oQ {z : α} {l y : List α} {lo hi : Option Int} (h : Eb l lo hi = some y) : (Ls z l y (lo.getD 0).toNat).length = l.length := by
  obtain ⟨a, b, h1, h2, h3, h4, h5, h6⟩ := Ie h
  have h1 : (lo.getD 0).toNat = a := by rw [h1]; rfl
  rw [h1]
  unfold Ls
  simp only [List.length_append, List.length_take, List.length_replicate, List.length_drop]
  omega
theorem gD {look : Nat → Option Bi} {t e sz ty tt n id : Nat} {l y : List α} {lo hi : Option Int} {z : α} {u : Unit} (hu : P.underlying t = some (.slice e)) (hz : C8 P e = some sz) (hs : E.size = sz) (hze : (Fo P e).bind (fun z => (F6 z).bind C9) = some (E.enc z)) (h : Eb l lo hi = some y) (hne : neO y = some u) (hb : look id = Cs E ty l) :
    B9 P (.call ⟨.builtin .clear, #[.tmp 0], #[t]⟩) tt [Ve E id l.length (lo.getD 0).toNat y.length] look n = some (.tup [], [(id, Cs E ty (Ls z l y (lo.getD 0).toNat))]) := by
  subst hs
  rw [C1 (eS hne)]
  obtain ⟨a, b, h1, h2, h3, h4, h5, h6⟩ := Ie h
  have h1 : (lo.getD 0).toNat = a := by rw [h1]; rfl
  rw [h1]
  have hy := Qq hne
  have hy0 : y.length ≠ 0 := fun e => hy (List.eq_nil_of_length_eq_zero e)
  have hl : l ≠ [] := by rintro rfl; simp at h5; exact hy h5
  rw [C1 hl] at hb
  unfold Ve
  rw [Gq (show a ≠ l.length by omega), cond_false]
  have hle : (a + y.length) * E.size ≤ l.length * E.size := Nat.mul_le_mul_right _ (by omega)
  rw [pQ (b := ⟨Ay E l, ty⟩) hu hz hze (E.cell z) (E.len z) E.pos hb hy0 (by show _ ≤ (Ay E l).length; rw [Bz, Nat.zero_add, ← Nat.add_mul]; exact hle)]
  have : D0 (Ay E l) (0 + a * E.size) (rep (E.enc z) y.length) = Ay E (Ls z l y a) := by
    unfold D0 Ls
    rw [Vz (E.len z), Nat.zero_add, ← Nat.add_mul, Ds, Ds, Og, Hf, Zd rfl]
  show some (_, [(id, some (⟨D0 (Ay E l) (0 + a * E.size) (rep (E.enc z) y.length), ty⟩ : Bi))]) = _
  rw [this]
theorem kO {n : Nat} {cs : List AV} : gS (.Dm n cs true) (.Dm n cs false) := by
  intro c v h
  cases h with
  | D6 a cap ex he hm hn => exact .D6 a cap false (fun h => by cases h) hm hn
  | Dm hb h hc hn he hm => exact .Dm hb h hc hn (fun h => by cases h) hm
end
end Go.Proofs.YtbfabclpcamlnaaGreatDoor
