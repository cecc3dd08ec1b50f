/- What a visit of an order does: the best one so far lies in four boxes. -/
import Derived.Test.YtfmodgffhbljoaaBe2
import Derived.Test.YtfmodgffhbljoaaX1E2
import Derived.WalkSpells
import Derived.WalkLawsBesides
import Derived.RegionTactic
import Derived.ChangeAlike
import Derived.Lib.Hide
import Derived.Handy
import Derived.Deep.RegionWith
import Derived.Deep.QuietTactic
import Derived.BigQuiet
import Derived.OneCell
import Derived.Lib.SliceRun
import Derived.LoopTactic
set_option linter.unusedVariables false
set_option linter.unusedSimpArgs false
namespace Go.Proofs.Ytfmodgffhbljoaa
open Go.RowKit Go.Shelf

def tabV (t : TWakeTable) : Array Value := #[.int .i64 t.c0_0, .int .i64 t.c0_1, .int .i64 t.c0_2, .int .i64 t.c0_3, .int .i64 t.c1_0, .int .i64 t.c1_1, .int .i64 t.c1_2, .int .i64 t.c1_3, .int .i64 t.c2_0, .int .i64 t.c2_1, .int .i64 t.c2_2, .int .i64 t.c2_3, .int .i64 t.c3_0, .int .i64 t.c3_1, .int .i64 t.c3_2, .int .i64 t.c3_3]
theorem tab_rel (c : Cx) (t : TWakeTable) : VRel c (AV.agg [(intA t.c0_0), (intA t.c0_1), (intA t.c0_2), (intA t.c0_3), (intA t.c1_0), (intA t.c1_1), (intA t.c1_2), (intA t.c1_3), (intA t.c2_0), (intA t.c2_1), (intA t.c2_2), (intA t.c2_3), (intA t.c3_0), (intA t.c3_1), (intA t.c3_2), (intA t.c3_3)]) (.agg (tabV t)) := by
  refine VRel.agg (vs := [.int .i64 t.c0_0, .int .i64 t.c0_1, .int .i64 t.c0_2, .int .i64 t.c0_3, .int .i64 t.c1_0, .int .i64 t.c1_1, .int .i64 t.c1_2, .int .i64 t.c1_3, .int .i64 t.c2_0, .int .i64 t.c2_1, .int .i64 t.c2_2, .int .i64 t.c2_3, .int .i64 t.c3_0, .int .i64 t.c3_1, .int .i64 t.c3_2, .int .i64 t.c3_3]) ?_
  repeat (first | exact .nil | refine .cons (.sc _ rfl) ?_)
/- a box -/
abbrev Bx (w : World) (b : Nat) (T : TypeId) (v : Value) : Prop := w.heap[b]? = some (.cells #[v] T (0, 0))
theorem Bx.cell {w : World} {b : Nat} {T : TypeId} {v : Value} (h : Bx w b T v) : w.cell? ⟨b, 0, none⟩ = some v := by unfold Bx at h; simp [World.cell?, h]
theorem Bx.frozen {w : World} {b : Nat} {T : TypeId} {v : Value} (h : Bx w b T v) : w.frozen? ⟨b, 0, none⟩ = false := by unfold Bx at h; simp [World.frozen?, h]
theorem set_block {w : World} {g : Nat} {cur : Array Value} {T : TypeId} (h : w.heap[g]? = some (.cells cur T (0, 0))) (k : Nat) (v : Value) : (w.setCell ⟨g, k, none⟩ v).heap[g]? = some (.cells (cur.setIfInBounds k v) T (0, 0)) := by
  unfold World.setCell
  simp only [Array.getElem?_modify, h]
  simp
theorem Bx.set {w : World} {b : Nat} {T : TypeId} {v : Value} (h : Bx w b T v) (u : Value) : Bx (w.setCell ⟨b, 0, none⟩ u) b T u := by
  have := set_block h 0 u
  unfold Bx
  rw [this]
  rfl
theorem Bx.other {w : World} {b : Nat} {T : TypeId} {v : Value} (h : Bx w b T v) {k : Nat} (hk : b ≠ k) (u : Value) : Bx (w.setCell ⟨k, 0, none⟩ u) b T v := by
  unfold Bx at *; rw [Below.heap_setCell _ _ _ _ hk]; exact h
theorem int_of2 {c : Cx} {z : Int} {v : Value} (h : VRel c (intA z) v) : v = .int .i64 z := by cases h; rfl
theorem tup_sb {c : Cx} {x : List Int} {q : Bool} {v : Value} (h : VRel c (.tup [lstA intE x, boolA q]) v) : ∃ a cap, v = .tuple #[.slice a x.length cap, .bool q] := by
  cases h with
  | tup h =>
    cases h with
    | cons h1 t =>
      cases t with
      | cons h2 t =>
        cases t
        obtain ⟨a, cap, rfl⟩ := slice_len h1
        obtain rfl := bool_of h2
        exact ⟨a, cap, rfl⟩
structure EnvAt (no : Nat → Prop) (bl bt bn bm : Nat) (l : List TSequenceArrival) (t : TWakeTable) (nat : List Int) (most : Int) (w : World) : Prop where
  nl : ¬ no bl
  nt : ¬ no bt
  nn : ¬ no bn
  nm : ¬ no bm
  hl : ∃ lv, Bx w bl 59 lv ∧ VRel (cxA no w) (lstA TSequenceArrival.E l) lv
  ht : w.heap[bt]? = some (.cells (tabV t) 24 (0, 0))
  hn : ∃ nv, Bx w bn 25 nv ∧ VRel (cxA no w) (lstA intE nat) nv
  hm : Bx w bm 3 (.int .i64 most)
theorem EnvAt.step {no : Nat → Prop} {bl bt bn bm : Nat} {l : List TSequenceArrival} {t : TWakeTable} {nat : List Int} {most : Int} {w w' : World} (h : EnvAt no bl bt bn bm l t nat most w) (k : Kno no w w') : EnvAt no bl bt bn bm l t nat most w' := by
  obtain ⟨h1, h2, h3, h4, ⟨lv, h5, h6⟩, h7, ⟨nv, h8, h9⟩, h10⟩ := h
  exact ⟨h1, h2, h3, h4, ⟨lv, (k.blk _ (heap_lt h5) h1).trans h5, k.rel h6 (lstA_clean _ _)⟩, (k.blk _ (heap_lt h7) h2).trans h7, ⟨nv, (k.blk _ (heap_lt h8) h3).trans h8, k.rel h9 (lstA_clean _ _)⟩, (k.blk _ (heap_lt h10) h4).trans h10⟩
/- a row of integers in a block of its own -/
def RowX (w : World) (b : Nat) (v : Value) (x : List Int) : Prop := ∃ (cap : Nat) (arr : Array Value) (rest : List Value), v = .slice (some ⟨b, 0, none⟩) x.length cap ∧ w.heap[b]? = some (.cells arr 3 (0, 0)) ∧ arr.toList = x.map (Value.int .i64) ++ rest ∧ x.length ≤ cap ∧ cap ≤ arr.size ∧ cap ≤ maxLen
structure BJ (D : Nat) (no : Nat → Prop) (s : BestS) (w : World) : Prop where
  size : D + 4 ≤ w.heap.size
  box : ∃ (bv av : Value) (e z : Int), Bx w D 25 bv ∧ Bx w (D + 1) 25 av ∧ Bx w (D + 2) 3 (.int .i64 e) ∧ Bx w (D + 3) 3 (.int .i64 z) ∧
    ((s = none ∧ bv = .slice none 0 0) ∨ ∃ o x, s = some (o, x, e, z) ∧ o ≠ [] ∧ x ≠ [] ∧ ∃ b, D + 4 ≤ b ∧ RowX w b av x ∧ VRel (cxA (fun k => no k ∨ k = b) w) (lstA intE o) bv)
theorem BJ.kept {D : Nat} {no : Nat → Prop} {s : BestS} {w w' : World} (h : BJ D no s w) (k : Kept w w') : BJ D no s w' := by
  obtain ⟨h0, bv, av, e, z, h1, h2, h3, h4, h5⟩ := h
  refine ⟨Nat.le_trans h0 k.size, bv, av, e, z, (k.blk _ (heap_lt h1)).trans h1, (k.blk _ (heap_lt h2)).trans h2, (k.blk _ (heap_lt h3)).trans h3, (k.blk _ (heap_lt h4)).trans h4, ?_⟩
  rcases h5 with h5 | ⟨o, x, q1, q2, q3, b, q4, ⟨cap, arr, rest, r1, r2, r3⟩, q6⟩
  · exact .inl h5
  · exact .inr ⟨o, x, q1, q2, q3, b, q4, ⟨cap, arr, rest, r1, (k.blk _ (heap_lt r2)).trans r2, r3⟩, (k.kno _).rel q6 (lstA_clean _ _)⟩
theorem Kno.mono {no no' : Nat → Prop} {w w' : World} (h : Kno no w w') (hs : ∀ k, no k → no' k) : Kno no' w w' := ⟨h.os, h.tape, h.output, h.size, fun k hk hb => h.blk k hk (fun q => hb (hs k q)), h.drawn⟩
theorem put_BJ {D : Nat} {no no2 : Nat → Prop} (h12 : ∀ k, no k → no2 k) (hno : ∀ k, no k ↔ D ≤ k ∧ k < D + 4) {w wr : World} {o x : List Int} {v bv av : Value} {e z e0 z0 : Int} {b cap : Nat} (hD : D + 4 ≤ w.heap.size) (hkw : Kept w wr)
    (g1 : Bx wr D 25 bv) (g2 : Bx wr (D + 1) 25 av) (g3 : Bx wr (D + 2) 3 (.int .i64 e0)) (g4 : Bx wr (D + 3) 3 (.int .i64 z0)) (hb : w.heap.size ≤ b) (hrow : RowX wr b (.slice (some ⟨b, 0, none⟩) x.length cap) x)
    (hr : VRel (cxA no2 w) (lstA intE o) v) (ho : o ≠ []) (hx : x ≠ []) :
    BJ D no2 (some (o, x, e, z)) ((((wr.setCell ⟨D, 0, none⟩ v).setCell ⟨D + 1, 0, none⟩ (.slice (some ⟨b, 0, none⟩) x.length cap)).setCell ⟨D + 2, 0, none⟩ (.int .i64 e)).setCell ⟨D + 3, 0, none⟩ (.int .i64 z)) ∧
    Kno no w ((((wr.setCell ⟨D, 0, none⟩ v).setCell ⟨D + 1, 0, none⟩ (.slice (some ⟨b, 0, none⟩) x.length cap)).setCell ⟨D + 2, 0, none⟩ (.int .i64 e)).setCell ⟨D + 3, 0, none⟩ (.int .i64 z)) := by
  have hs := hkw.size
  have hk : Kno no w ((((wr.setCell ⟨D, 0, none⟩ v).setCell ⟨D + 1, 0, none⟩ (.slice (some ⟨b, 0, none⟩) x.length cap)).setCell ⟨D + 2, 0, none⟩ (.int .i64 e)).setCell ⟨D + 3, 0, none⟩ (.int .i64 z)) :=
    ((((hkw.kno no).setCell _ (.inl ((hno _).2 ⟨by show D ≤ D; omega, by show D < D + 4; omega⟩)) _).setCell _ (.inl ((hno _).2 ⟨by show D ≤ D + 1; omega, by show D + 1 < D + 4; omega⟩)) _).setCell _ (.inl ((hno _).2 ⟨by show D ≤ D + 2; omega, by show D + 2 < D + 4; omega⟩)) _).setCell _ (.inl ((hno _).2 ⟨by show D ≤ D + 3; omega, by show D + 3 < D + 4; omega⟩)) _
  refine ⟨⟨by simp; omega, v, _, e, z, (((g1.set v).other (by omega) _).other (by omega) _).other (by omega) _, ((((g2.other (by omega) _).set _).other (by omega) _).other (by omega) _), ((((g3.other (by omega) _).other (by omega) _).set _).other (by omega) _), ((((g4.other (by omega) _).other (by omega) _).other (by omega) _).set _), .inr ⟨o, x, rfl, ho, hx, b, by omega, ?_, ?_⟩⟩, hk⟩
  · obtain ⟨cap', arr, rest, q1, q2, q3⟩ := hrow
    refine ⟨cap', arr, rest, q1, ?_, q3⟩
    rw [Below.heap_setCell _ _ _ _ (by show b ≠ D + 3; omega), Below.heap_setCell _ _ _ _ (by show b ≠ D + 2; omega), Below.heap_setCell _ _ _ _ (by show b ≠ D + 1; omega), Below.heap_setCell _ _ _ _ (by show b ≠ D; omega)]
    exact q2
  · exact (hk.mono (fun k q => .inl (h12 k q))).rel (rel_no hr (lstA_clean _ _) (fun k hk q => q.elim id (fun e => by omega))) (lstA_clean _ _)
theorem lst_open {α : Type} {E : En α} {no : Nat → Prop} {w : World} {l : List α} {v : Value} (h : VRel (cxA no w) (lstA E l) v) (hl : l ≠ []) : ∃ b off cap, v = .slice (some ⟨b, off, none⟩) l.length cap ∧ b < w.heap.size ∧ ¬ no b ∧ ∀ (i : Nat) (x : α), l[i]? = some x → ∀ (j : Nat) (u : Value), j < E.size → (E.enc x)[j]? = some (.sc u) → w.cell? ⟨b, off + (i * E.size + j), none⟩ = some u := by
  unfold lstA at h
  generalize hcs : encs E l = cs at h
  generalize hq : l.length = q at h
  cases h with
  | lst0 a cap ex he hm hn => exact absurd (List.eq_nil_of_length_eq_zero hq) hl
  | lst hb h hc hn he hm =>
    refine ⟨_, _, _, rfl, hb.1, hb.2.2, fun i x hx j u hj hu => ?_⟩
    subst hcs
    have h1 := encs_at (E := E) hx j hj
    rw [hu] at h1
    obtain ⟨v', g1, g2⟩ := h.get h1
    cases g2
    exact hc _ _ g1
theorem Kept.drew {w w' : World} (h : Kept w w') : Kept w w'.drew := ⟨h.os, h.tape, h.output, h.size, h.blk, Nat.le_trans h.drawn (dr_le (Nat.le_succ _))⟩
theorem Kept.drewN {w w' : World} (h : Kept w w') (n : Nat) : Kept w (w'.drewN n) := ⟨h.os, h.tape, h.output, h.size, h.blk, Nat.le_trans h.drawn (dr_le (Nat.le_add_right _ _))⟩
theorem says_kw {P : Program} {gl : Nat → Option (List AV)} {f : FuncId} {args : List AV} {v : AV} (h : Says P gl f args v) {no : Nat → Prop} {w : World} (hn : ∀ b, no b → b < w.heap.size) (hgl : ∀ w, GlobOk gl (cxA no w)) {vals : List Value} (hr : Rels (cxA no w) args vals) (W : World) (hk : Kept w W) :
    Calls P f vals.toArray W (fun e w' => ∃ v', e = .returned v' ∧ Kept w w' ∧ VRel (cxA no w') v v') :=
  (callsIn_wide.1 (says_kn h (fun b hb => Nat.lt_of_lt_of_le (hn b hb) hk.size) (hgl W) ((hk.kno no).rels hr h.1) 0)).mono fun e w' ⟨v', h1, h2, h3⟩ => ⟨v', h1, hk.trans h2, h3⟩
theorem Kept.cell {w w' : World} (h : Kept w w') {a : Addr} (ha : a.block < w.heap.size) : w'.cell? a = w.cell? a := by simp [World.cell?, h.blk _ ha]
set_option maxRecDepth 100000 in
set_option maxHeartbeats 4000000 in
theorem visit_in {D bl bt bn bm : Nat} {no no2 : Nat → Prop} (h12 : ∀ k, no k → no2 k) (hno : ∀ k, no k ↔ D ≤ k ∧ k < D + 4) (hG : ∀ w, GlobOk KK.gl (cxA no w)) {l : List TSequenceArrival} {t : TWakeTable} {nat : List Int} {most : Int} (n0 : Nat) (s r : BestS) (o : List Int) (v : Value) (w : World) (ho : o ≠ []) (ho8 : o.length ≤ 8)
    (hn : ∀ b, no b → b < w.heap.size) (hr : VRel (cxA no2 w) (lstA intE o) v) (hB : BJ D no2 s w) (hE : EnvAt no bl bt bn bm l t nat most w) (hv : visB n0 l t nat most s o = some r) :
    Calls Try.prog 52 #[v, .pointer (some ⟨bl, 0, none⟩), .pointer (some ⟨bt, 0, none⟩), .pointer (some ⟨bn, 0, none⟩), .pointer (some ⟨bm, 0, none⟩), .pointer (some ⟨D, 0, none⟩), .pointer (some ⟨D + 2, 0, none⟩), .pointer (some ⟨D + 3, 0, none⟩), .pointer (some ⟨D + 1, 0, none⟩)] w
      fun e w' => (∃ u, e = .returned u) ∧ (BJ D no2 r w' ∧ EnvAt no bl bt bn bm l t nat most w') ∧ Kno no w w' := by
  have hr2 := hr
  replace hr := rel_no hr (lstA_clean _ _) (fun k _ q => h12 k q)
  unfold visB at hv
  obtain ⟨⟨x, q⟩, hx, hv⟩ := Option.bind_eq_some_iff.1 hv
  simp only at hv
  obtain ⟨lv, hl1, hl2⟩ := hE.hl
  obtain ⟨nv, hv1, hv2⟩ := hE.hn
  have hl0 := hl1.cell
  have hn0 := hv1.cell
  have hm0 := hE.hm.cell
  have ht0 : ∀ k u, (tabV t)[k]? = some u → w.cell? ⟨bt, k, none⟩ = some u := fun k u hu => by simp [World.cell?, hE.ht, hu]
  have t0 := ht0 0 _ rfl; have t1 := ht0 1 _ rfl; have t2 := ht0 2 _ rfl; have t3 := ht0 3 _ rfl; have t4 := ht0 4 _ rfl; have t5 := ht0 5 _ rfl; have t6 := ht0 6 _ rfl; have t7 := ht0 7 _ rfl
  have t8 := ht0 8 _ rfl; have t9 := ht0 9 _ rfl; have t10 := ht0 10 _ rfl; have t11 := ht0 11 _ rfl; have t12 := ht0 12 _ rfl; have t13 := ht0 13 _ rfl; have t14 := ht0 14 _ rfl; have t15 := ht0 15 _ rfl
  clear ht0
  have fin : ∀ w', Kept w w' → r = s → (BJ D no2 r w' ∧ EnvAt no bl bt bn bm l t nat most w') ∧ Kno no w w' := fun w' hk e => ⟨⟨e ▸ hB.kept hk, hE.step (hk.kno no)⟩, hk.kno no⟩
  have hc := says_kw (sg53 hx) hn hG (.cons hl2 (.cons hr (.cons (tab_rel _ t) .nil)))
  cases q with
  | false =>
    have e : r = s := by simpa using hv.symm
    go_enter Try.func52, Try.ntmps52
    go_wp2_with (go_at_call 53; refine (hc _ (Kept.refl w)).mono ?_; rintro e w1 ⟨v1, rfl, hk1, hvt⟩; obtain ⟨a1, cap1, rfl⟩ := tup_sb hvt)
    go_quiet (fail)
    go_wp2
    refine bodyPost_ret (results_none rfl _ _ _) rfl ?_
    exact ⟨⟨_, rfl⟩, fin _ (hk1.drewN _) e⟩
  | true =>
  simp only [Bool.not_true, cond_false] at hv
  obtain ⟨d, hd, hv⟩ := Option.bind_eq_some_iff.1 hv
  have hs := says_kw (sg54 hd) hn hG (.cons hv2 (.cons hr .nil))
  by_cases hdm : most < d
  · rw [decide_eq_true (show d > most from hdm), cond_true] at hv
    have e : r = s := (Option.some.inj hv).symm
    have hdd : decide (most < d) = true := decide_eq_true hdm
    go_enter Try.func52, Try.ntmps52
    go_wp2_with (go_at_call 53; refine (hc _ (Kept.refl w)).mono ?_; rintro e w1 ⟨v1, rfl, hk1, hvt⟩; obtain ⟨a1, cap1, rfl⟩ := tup_sb hvt)
    have hn1 := (hk1.cell (a := ⟨bn, 0, none⟩) (heap_lt hv1)).trans hn0
    have hm1 := (hk1.cell (a := ⟨bm, 0, none⟩) (heap_lt hE.hm)).trans hm0
    go_region_with (go_at_call 54; refine (hs _ ?_).mono ?_; (repeat (first | exact hk1 | refine Kept.drew ?_)); rintro e w2 ⟨v2, rfl, hk2, hv3⟩; obtain rfl := int_of2 hv3; have hm2 := (hk2.cell (a := ⟨bm, 0, none⟩) (heap_lt hE.hm)).trans hm0)
    all_goals
      go_wp2
      refine bodyPost_ret (results_none rfl _ _ _) rfl ?_
      exact ⟨⟨_, rfl⟩, fin _ hk2 e⟩
  · rw [decide_eq_false (show ¬ d > most from hdm), cond_false] at hv
    obtain ⟨e, he, hv⟩ := Option.bind_eq_some_iff.1 hv
    obtain ⟨z, hz, hv⟩ := Option.bind_eq_some_iff.1 hv
    have hdd : decide (most < d) = false := decide_eq_false hdm
    have hxe : x ≠ [] := by rintro rfl; simp at he
    clear hc
    have hc := callsIn_wide.1 (made_kn (tup := true) (ws := [Value.bool true]) hxe (mg53C hx) hn (hG w) (.cons hl2 (.cons hr (.cons (tab_rel _ t) .nil))) 0)
    simp only [cond_true] at hc
    have hle : l ≠ [] := by
      rintro rfl
      cases o with
      | nil => exact ho rfl
      | cons k o => cases x with
        | nil => exact hxe rfl
        | cons y x => simp [sumT, getI] at hz
    obtain ⟨m, hm⟩ : ∃ m, x.length = m + 1 := ⟨x.length - 1, by cases x with | nil => exact absurd rfl hxe | cons y x => simp⟩
    have hxm : x[m]? = some e := by rw [List.getLast?_eq_getElem?, hm] at he; exact he
    have HXM := Lib.hid hxm
    clear hxm he
    have hr0 := hr2
    clear hr2
    obtain ⟨bo, oo, capo, rfl, hbo, hboN, hoc⟩ := lst_open hr ho
    obtain ⟨ba, la, capl, rfl, hba, hbaN, hlc⟩ := lst_open hl2 hle
    rw [hm] at hc
    go_enter Try.func52, Try.ntmps52
    go_wp2_with (go_at_call 53; refine hc.mono ?_; rintro e9 w1 ⟨b, cap, arr, vs, rest, rfl, hk1, hb1, hb2, hb3, hb4, hb5, hb6, hb7⟩)
    have hn1 := (hk1.cell (a := ⟨bn, 0, none⟩) (heap_lt hv1)).trans hn0
    have hm1 := (hk1.cell (a := ⟨bm, 0, none⟩) (heap_lt hE.hm)).trans hm0
    have hs1 := says_kw (sg54 hd) (fun b hb => Nat.lt_of_lt_of_le (hn b hb) hk1.size) hG ((hk1.kno no).rels (.cons hv2 (.cons hr .nil)) (by simp [cleans, clean, encs_clean]))
    go_region_with (go_at_call 54; refine (hs1 _ ?_).mono ?_; (repeat (first | exact Kept.refl _ | refine Kept.drew ?_)); rintro e9 w2 ⟨v2, rfl, hk12, hv3⟩; obtain rfl := int_of2 hv3; have hm2 := (hk12.cell (a := ⟨bm, 0, none⟩) (Nat.lt_of_lt_of_le (heap_lt hE.hm) hk1.size)).trans hm1)
    all_goals
      have hk2 : Kept w w2 := hk1.trans hk12
      clear hs hs1 hc t0 t1 t2 t3 t4 t5 t6 t7 t8 t9 t10 t11 t12 t13 t14 t15
      have hvs := encs_int hb4
      subst hvs
      have hbx : ∀ (j : Nat) (y : Int), x[j]? = some y → w2.cell? ⟨b, j, none⟩ = some (.int .i64 y) := fun j y hy => by
        have h1 : w2.heap[b]? = _ := (hk12.blk b (heap_lt hb2)).trans hb2
        simp only [World.cell?, h1]
        rw [← Array.getElem?_toList, hb3, List.getElem?_append_left (by have := (List.getElem?_eq_some_iff.1 hy).1; simpa using this)]
        simp [hy]
      have hxm2 := hbx m e HXM.out
      have HBX := Lib.hid hbx
      clear hbx
      have hmx : m + 1 ≤ 9223372036854775807 := by have := hb7; unfold maxLen at this; omega
      have x1 : IntKind.i64.wrap (((m + 1 : Nat) : Int) - 1) = (m : Int) := by rw [wrap64 (by omega) (by omega)]; omega
      have x2 : (m : Int) < ((m + 1 : Nat) : Int) := by omega
      have x3 : (0 : Int) ≤ (m : Int) := by omega
      go_wp2
      go_loopw [13, 40] (fun s i wr => ∃ (j : Nat) (sj : Int), j ≤ o.length ∧ i = .int .i64 j ∧ s = .int .i64 sj ∧ sumT l (o.drop j) (x.drop j) sj = some z ∧ Kept w2 wr) (fun _ i => fun _ => o.length - (intOf i).toNat)
      case atStart => exact ⟨0, 0, Nat.zero_le _, rfl, rfl, hz, Kept.refl _⟩
      case round =>
        obtain ⟨j, sj, hj, rfl, rfl, hsum, hkr⟩ := hrel
        by_cases hlt : j < o.length
        · have hkw : Kept w wr := hk2.trans hkr
          have ek : o[j]? = some o[j] := List.getElem?_eq_getElem hlt
          rw [List.drop_eq_getElem_cons hlt] at hsum
          generalize o[j] = k at ek hsum
          cases hxd : x.drop j with
          | nil => rw [hxd] at hsum; simp [sumT] at hsum
          | cons y ys =>
          have hy : x[j]? = some y := by
            have := congrArg (·[0]?) hxd
            simpa using this
          have hys : ys = x.drop (j + 1) := by
            have := congrArg List.tail hxd
            rw [List.tail_drop] at this
            exact this.symm
          rw [hxd] at hsum
          simp only [sumT] at hsum
          obtain ⟨a, ha, hsum2⟩ := Option.bind_eq_some_iff.1 hsum
          clear hsum
          obtain ⟨κ, rfl, hκ⟩ : ∃ κ : Nat, k = (κ : Int) ∧ l[κ]? = some a := by
            unfold getI at ha
            split at ha
            · exact ⟨k.toNat, by omega, ha⟩
            · cases ha
          rw [hys] at hsum2
          simp only [IntWalk.i64_left] at hsum2
          have c1 : wr.cell? ⟨bo, oo + j, none⟩ = some (.int .i64 (κ : Int)) := by
            have := hoc j _ ek 0 (.int .i64 (κ : Int)) (by decide) rfl
            rw [← this]
            show wr.cell? ⟨bo, oo + j, none⟩ = w.cell? ⟨bo, oo + (j * 1 + 0), none⟩
            rw [Nat.mul_one, Nat.add_zero]
            exact hkw.cell hbo
          have c2 : wr.cell? ⟨b, j, none⟩ = some (.int .i64 y) := (hkr.cell (a := ⟨b, j, none⟩) (Nat.lt_of_lt_of_le (heap_lt hb2) hk12.size)).trans (HBX.out j y hy)
          have c3 : wr.cell? ⟨bl, 0, none⟩ = some (.slice (some ⟨ba, la, none⟩) l.length capl) := (hkw.cell (a := ⟨bl, 0, none⟩) (heap_lt hl1)).trans hl0
          have c4 : wr.cell? ⟨ba, la + κ * 4 + 2, none⟩ = some (.int .i64 a.Time) := by
            have := hlc κ a hκ 2 (.int .i64 a.Time) (by decide) rfl
            rw [← this]
            show wr.cell? ⟨ba, la + κ * 4 + 2, none⟩ = w.cell? ⟨ba, la + (κ * 4 + 2), none⟩
            rw [Nat.add_assoc]
            exact hkw.cell hba
          have d1 : (j : Int) < (o.length : Int) := by omega
          have d2 : (j : Int) < ((m + 1 : Nat) : Int) := by have := (List.getElem?_eq_some_iff.1 hy).1; omega
          have d3 : (κ : Int) < (l.length : Int) := by have := (List.getElem?_eq_some_iff.1 hκ).1; omega
          go_wp2
          go_quiet (fail)
          go_wp2
          refine ⟨⟨j + 1, _, hlt, by rw [show (j : Int) + 1 = ((j + 1 : Nat) : Int) by omega], rfl, hsum2, hkr.drewN _⟩, by simp [intOf]; omega⟩
        · obtain rfl : j = o.length := by omega
          have hsz : sj = z := by
            rw [List.drop_eq_nil_of_le (Nat.le_refl _)] at hsum
            simpa [sumT] using hsum
          subst hsz
          have hlt' : ¬ ((o.length : Nat) : Int) < ((o.length : Nat) : Int) := by omega
          have hkw : Kept w wr := hk2.trans hkr
          have hBr := hB.kept hkw
          obtain ⟨hDs, bv, av, e0, z0, g1, g2, g3, g4, hst⟩ := hBr
          have c1 := g1.cell
          have c2 := g2.cell
          have c3 := g3.cell
          have c4 := g4.cell
          have f1 := g1.frozen
          have f2 := g2.frozen
          have f3 := g3.frozen
          have f4 := g4.frozen
          have hrowx : RowX wr b (.slice (some ⟨b, 0, none⟩) x.length cap) x := ⟨cap, arr, rest, rfl, (hkr.blk b (Nat.lt_of_lt_of_le (heap_lt hb2) hk12.size)).trans ((hk12.blk b (heap_lt hb2)).trans hb2), hb3, by omega, by simpa [intE] using hb6, hb7⟩
          clear hlc hoc HBX
          rcases hst with ⟨rfl, rfl⟩ | ⟨o', x', rfl, ho', hx', b', hb', hrx, hrel'⟩
          · simp only [Option.some.injEq] at hv
            have hq := fun wx => Lib.run_eql_slice_nil (P := Try.prog) wx 25 3 none 0 0 0 0 Try.underlying25
            simp only [Option.isNone] at hq
            go_wp2
            go_end0
            rw [← hv]
            have hput := put_BJ (e := e) (z := sj) (cap := cap) (b := b) (x := x) h12 hno hB.size hkw g1 g2 g3 g4 hb1 hrowx hr0 ho hxe
            rw [hm] at hput
            exact ⟨⟨_, rfl⟩, ⟨hput.1, hE.step hput.2⟩, hput.2⟩
          · obtain ⟨bq, oq, cq, rfl, -⟩ := lst_open hrel' ho'
            have hq := fun wx => Lib.run_eql_slice_nil (P := Try.prog) wx 25 3 (some ⟨bq, oq, none⟩) o'.length cq 0 0 Try.underlying25
            simp only [Option.isNone] at hq
            clear hrx hrel'
            replace hv : (if e < e0 ∨ (e = e0 ∧ sj < z0) then some (some (o, x, e, sj)) else some (some (o', x', e0, z0)) : Option BestS) = some r := hv
            by_cases h1 : e < e0
            · have hd1 : decide (e < e0) = true := decide_eq_true h1
              rw [if_pos (Or.inl h1 : e < e0 ∨ (e = e0 ∧ sj < z0))] at hv
              replace hv := Option.some.inj hv
              go_wp2
              go_end0
              rw [← hv]
              have hput := put_BJ (e := e) (z := sj) (cap := cap) (b := b) (x := x) h12 hno hB.size hkw g1 g2 g3 g4 hb1 hrowx hr0 ho hxe
              rw [hm] at hput
              exact ⟨⟨_, rfl⟩, ⟨hput.1, hE.step hput.2⟩, hput.2⟩
            · have hd1 : decide (e < e0) = false := decide_eq_false h1
              by_cases h2 : e = e0
              · subst h2
                by_cases h3 : sj < z0
                · have hd3 : decide (sj < z0) = true := decide_eq_true h3
                  rw [if_pos (Or.inr ⟨rfl, h3⟩ : e < e ∨ (e = e ∧ sj < z0))] at hv
                  have HV := Lib.hid (Option.some.inj hv)
                  clear hv
                  go_wp2
                  go_end0
                  rw [← HV.out]
                  have hput := put_BJ (e := e) (z := sj) (cap := cap) (b := b) (x := x) h12 hno hB.size hkw g1 g2 g3 g4 hb1 hrowx hr0 ho hxe
                  rw [hm] at hput
                  exact ⟨⟨_, rfl⟩, ⟨hput.1, hE.step hput.2⟩, hput.2⟩
                · have hd3 : decide (sj < z0) = false := decide_eq_false h3
                  rw [if_neg (show ¬ (e < e ∨ (e = e ∧ sj < z0)) by omega)] at hv
                  have hfin := fin wr hkw (Option.some.inj hv).symm
                  clear hv
                  go_wp2
                  go_end0
                  exact ⟨⟨_, rfl⟩, hfin⟩
              · have hd2 : (e == e0) = false := beq_eq_false_iff_ne.2 h2
                rw [if_neg (show ¬ (e < e0 ∨ (e = e0 ∧ sj < z0)) by omega)] at hv
                have hfin := fin wr hkw (Option.some.inj hv).symm
                clear h2 hv
                go_wp2
                go_end0
                exact ⟨⟨_, rfl⟩, hfin⟩
end Go.Proofs.Ytfmodgffhbljoaa
