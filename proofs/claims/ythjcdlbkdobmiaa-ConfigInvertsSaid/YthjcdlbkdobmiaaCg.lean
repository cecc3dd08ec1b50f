/- general lemmas of worlds; slices.Clone of texts and of positions: a row of the run's own. -/
import Derived.Test.YthjcdlbkdobmiaaKn
import Derived.Test.YthjcdlbkdobmiaaBb
import Derived.Test.YthjcdlbkdobmiaaX1E1
set_option linter.unusedVariables false
set_option linter.unusedSimpArgs false
namespace Go.Proofs.Ythjcdlbkdobmiaa
open Go.RowKit Go.Shelf
attribute [local go_sem] Oper.semAt_some

/- what a list's value is, cell by cell -/
theorem lst_cells {α : Type} {E : En α} {no : Nat → Prop} {w : World} {o : List α} {v : Value} (hr : VRel (cxA no w) (lstA E o) v) : ∃ a cap cs, v = .slice a o.length cap ∧ (a = none → o.length = 0) ∧ cs.length = o.length * E.size ∧ Rels (cxA no w) (encs E o) cs ∧ ∀ ad, a = some ad → ∀ k u, cs[k]? = some u → w.cell? (ad.add k) = some u ∧ ad.block < w.heap.size := by
  unfold lstA at hr
  generalize hcs : encs E o = es at hr
  generalize hq : o.length = q at hr
  cases hr with
  | lst0 a cap ex he hm hn =>
    have h0 : o = [] := List.eq_nil_of_length_eq_zero hq
    subst h0
    exact ⟨a, cap, [], rfl, fun _ => rfl, by simp, hcs ▸ .nil, fun ad _ k u hu => by simp at hu⟩
  | lst hb h hc hn he hm =>
    rename_i b off vs cap
    refine ⟨_, _, vs, rfl, (fun h => by cases h), ?_, h, fun ad had k u hu => ?_⟩
    · have h1 := h.length
      rw [← h1, ← hcs, encs_length, hq]
    · cases had
      refine ⟨?_, hb.1⟩
      have := hc k u hu
      rwa [show (⟨b, off, none⟩ : Addr).add k = ⟨b, off + k, none⟩ by unfold Addr.add; split <;> simp_all]
theorem one_cells {c : Cx} : ∀ {xs : List AV} {vs : List Value}, Rels c xs vs → (∀ x ∈ xs, isCell x = true) → ∀ u ∈ vs, u.oneCell' = true
  | [], _, .nil, _, u, hu => by simp at hu
  | x :: xs, _, .cons h t, q, u, hu => by
    rcases List.mem_cons.1 hu with rfl | hu
    · exact isCell_one h (q x (by simp))
    · exact one_cells t (fun x hx => q x (by simp [hx])) u hu
theorem cells_all {α : Type} {E : En α} (h : ∀ x, ∀ a ∈ E.enc x, isCell a = true) (l : List α) : ∀ a ∈ encs E l, isCell a = true := by
  induction l with
  | nil => intro a ha; simp [encs] at ha
  | cons x l ih =>
    intro a ha
    rw [encs_cons] at ha
    rcases List.mem_append.1 ha with q | q
    · exact h x a q
    · exact ih a q
/- a row of the run's own as a list -/
theorem own_rel {α : Type} {E : En α} {no : Nat → Prop} {base : Nat} {T : TypeId} {w : World} {l : List α} {v : Value} {cs : List Value} (h : w.ownsRow base T E.size v l.length cs) (hr : Rels (cxA no w) (encs E l) cs) (hn : ∀ k, no k → k < base) : VRel (cxA no w) (lstA E l) v := by
  rcases h.2 with ⟨hv0, hl0⟩ | ⟨gb, cap, cur, rfl, hbg, hg, hle, hmx, hsz, htk⟩
  · rw [hv0, List.eq_nil_of_length_eq_zero hl0]
    exact .lst0 none 0 false (fun h => by cases h) (Nat.zero_le _) (fun _ => rfl)
  · refine .lst (b := gb) (o := 0) (vs := cs) ⟨heap_lt hg, cxA_own _, fun q => by have := hn gb q; omega⟩ hr (fun k u hu => ?_) hle (fun h => by cases h) hmx
    have := h.cells (g := gb) rfl k u hu
    rw [Nat.zero_add]
    rwa [show (⟨gb, 0, none⟩ : Addr).add k = ⟨gb, k, none⟩ by unfold Addr.add; split <;> simp_all] at this
theorem kept_grown0 {w w3 w4 : World} {row : Option Nat} (hk : Kept w w3) (hg : w3.grownBy w4 row) (hr : ∀ b, row = some b → w.heap.size ≤ b) (hd : w3.drawn ≤ w4.drawn) : Kept w w4 := by
  have hs := hk.size
  refine ⟨hg.os.trans hk.os, hg.tape.trans hk.tape, hg.output.trans hk.output, Nat.le_trans hs hg.size, fun k hlt => ?_, Nat.le_trans hk.drawn (dr_le hd)⟩
  exact (hg.block k (by omega) (fun e => by have := hr k e.symm; omega)).trans (hk.blk k hlt)
theorem new1k {wr w2 : World} {x : Value} {T : TypeId} (hk : Kept ((wr.alloc (.cells #[x] T)).drew) w2) : ∀ j u, ([x] : List Value)[j]? = some u → w2.cell? ((⟨wr.heap.size, 0, none⟩ : Addr).add j) = some u := by
  intro j u hu
  have hb : ((⟨wr.heap.size, 0, none⟩ : Addr).add j).block = wr.heap.size := by unfold Addr.add; split <;> rfl
  refine (hk.cell ?_).trans (new1 wr x T j u hu)
  rw [hb]
  show wr.heap.size < (wr.alloc _).heap.size
  simp
theorem own_ge {w : World} {base : Nat} {e : TypeId} {sz : Nat} {v : Value} {k : Nat} {xs : List Value} (h : w.ownsRow base e sz v k xs) : ∀ b, v.ownBlock = some b → base ≤ b := by
  intro b hb
  rcases h.2 with ⟨q, -⟩ | ⟨g, c3, cur, q, q2, -⟩
  · rw [q] at hb; cases hb
  · rw [q] at hb; cases hb; exact q2
theorem both2 {w : World} {b : Nat} {x y : Value} {T : TypeId} (h : w.heap[b]? = some (.cells #[x, y] T (0, 0))) : w.cell? ⟨b, 0, none⟩ = some x ∧ w.cell? ⟨b, 1, none⟩ = some y := by simp [World.cell?, h]
theorem own_kept {w w' : World} {base : Nat} {e : TypeId} {sz : Nat} {v : Value} {k : Nat} {xs : List Value} (h : w.ownsRow base e sz v k xs) (hk : Kept w w') : w'.ownsRow base e sz v k xs := by
  refine ⟨h.1, ?_⟩
  rcases h.2 with q | ⟨g, cap, cur, q1, q2, q3, q4⟩
  · exact .inl q
  · exact .inr ⟨g, cap, cur, q1, q2, (hk.blk g (heap_lt q3)).trans q3, q4⟩
theorem own_slice {w : World} {base : Nat} {e : TypeId} {sz : Nat} {v : Value} {k : Nat} {xs : List Value} (h : w.ownsRow base e sz v k xs) : ∃ a cap, v = .slice a k cap := by
  rcases h.2 with ⟨q1, q2⟩ | ⟨g, cap, cur, q1, -⟩
  · exact ⟨none, 0, by rw [q1, q2]⟩
  · exact ⟨_, _, q1⟩
theorem says_kK {f : FuncId} {args : List AV} {v : AV} (h : Says Try.prog KK.gl f args v) {w : World} {vals : List Value} (hr : Rels (cxA (fun _ => False) w) args vals) (W : World) (hk : Kept w W) :
    Calls Try.prog f vals.toArray W (fun e w' => ∃ v', e = .returned v' ∧ Kept W w' ∧ VRel (cxA (fun _ => False) w') v v') :=
  callsIn_wide.1 (says_kn h (fun b hb => hb.elim) (fun g cs h => by cases h) ((hk.kno _).rels hr h.1) 0)
theorem own_le {w : World} {base b' : Nat} {e : TypeId} {sz : Nat} {v : Value} {k : Nat} {xs : List Value} (h : w.ownsRow base e sz v k xs) (hb : b' ≤ base) : w.ownsRow b' e sz v k xs :=
  ⟨h.1, h.2.imp id fun ⟨g, cap, cur, q1, q2, q3⟩ => ⟨g, cap, cur, q1, Nat.le_trans hb q2, q3⟩⟩
theorem rel_up {w : World} {x : AV} {v : Value} (r : VRel (cxA (fun _ => False) w) x v) (q : clean x = true) : VRel (cxA (fun k => w.heap.size ≤ k) w) x v := rel_no r q (fun b hb h => by omega)
theorem rels_old {w W W' : World} (hk : Kept w W) (hk' : Kept w W') {x : List AV} {vs : List Value} (r : Rels (cxA (fun k => w.heap.size ≤ k) W) x vs) (q : cleans x = true) : Rels (cxA (fun _ => False) W') x vs := by
  refine r.moved (c := cxA (fun k => w.heap.size ≤ k) W) (c' := cxA (fun _ => False) W') (fun b ⟨q1, q2, q3⟩ => ?_) (fun b o vs ⟨q1, q2, q3⟩ hc j v hv => ?_) q
  · have q3 : ¬ w.heap.size ≤ b := q3
    exact ⟨by have := hk'.size; show b < W'.heap.size; omega, cxA_own b, fun h => h⟩
  · have q3 : ¬ w.heap.size ≤ b := q3
    rw [← hc j v hv]
    simp only [World.cell?]
    rw [show (cxA (fun _ => False) W').w = W' from rfl, show (cxA (fun k => w.heap.size ≤ k) W).w = W from rfl, hk'.blk b (by omega), hk.blk b (by omega)]
theorem rels_set {c : Cx} : ∀ {xs : List AV} {vs : List Value}, Rels c xs vs → ∀ (i : Nat) (x : AV) (v : Value), VRel c x v → Rels c (xs.set i x) (vs.set i v)
  | _, _, .nil, _, _, _, _ => .nil
  | _, _, .cons h t, 0, x, v, r => .cons r t
  | _, _, .cons h t, i + 1, x, v, r => .cons h (rels_set t i x v r)
theorem rel_in {c : Cx} {x : AV} {v : Value} (r : VRel c x v) (q : clean x = true) : VRel (cxA (fun _ => False) c.w) x v := r.moved (c := c) (c' := cxA (fun _ => False) c.w) (fun b ⟨q1, _, _⟩ => ⟨q1, cxA_own b, fun h => h⟩) (fun _ _ _ _ hc => hc) q
theorem rel_out {B : Nat} {c : Cx} (g : Good B c) {w' : World} {x : AV} {v : Value} (r : VRel (cxA (fun k => k < c.w.heap.size) w') x v) (q : clean x = true) : VRel { c with w := w' } x v := by
  refine r.moved (c := cxA (fun k => k < c.w.heap.size) w') (c' := { c with w := w' }) (fun b ⟨q1, _, q3⟩ => ⟨q1, ?_, fun hq => ?_⟩) (fun _ _ _ _ hc => hc) q
  · rintro ⟨id, bk, p1, p2⟩
    have := g.lt p1
    have p2 : c.f id = b := p2
    exact q3 (show b < c.w.heap.size by omega)
  · have := g.nol b hq
    have := g.hB
    exact q3 (show b < c.w.heap.size by omega)
theorem infoTxt : ((Try.prog.info? 9).bind fun i => i.zero.map fun z => (z.cells.size, i.size, i.bytes)) = some (1, 1, 16) := by kernel_rfl
set_option maxRecDepth 100000 in
set_option maxHeartbeats 2000000 in
theorem cloneTxt {no : Nat → Prop} {w : World} {o : List ByteArray} {v : Value} (hr : VRel (cxA no w) (lstA strE o) v) (ho : o.length * 16 ≤ 140737488355328) (ho2 : o.length ≤ 4611686018427387904) (n : Nat) :
    CallsIn Fence.wide n Try.prog 32 #[v] w (fun e w' => ∃ v' cs, e = .returned v' ∧ Kept w w' ∧ w'.ownsRow w.heap.size 9 1 v' o.length cs ∧ Rels (cxA no w) (encs strE o) cs) := by
  obtain ⟨i0, hi, hzz⟩ := Option.bind_eq_some_iff.1 infoTxt
  obtain ⟨z0, hz0, hzz⟩ := Option.map_eq_some_iff.1 hzz
  simp only [Prod.mk.injEq] at hzz
  obtain ⟨hzc, hz1, hz2⟩ := hzz
  obtain ⟨a, cap, cs, rfl, hnil, hlen, hrel, hcell⟩ := lst_cells hr
  have hone := one_cells hrel (cells_all (by intro x a ha; simp only [strE, List.mem_cons, List.not_mem_nil, or_false] at ha; rw [ha]; rfl) o)
  have hlen : cs.length = o.length * 1 := hlen
  have hq := fun wx => Lib.run_eql_slice_nil (P := Try.prog) wx 23 9 a o.length cap 0 0 Try.underlying23
  refine callsIn_of_wp Try.func32 rfl trivial ?_ rfl
  simp only [Try.ntmps32, List.size_toArray, List.length_cons, List.length_nil, Nat.reduceAdd, Nat.reduceSub, Array.replicate_succ, Array.replicate_zero, List.push_toArray, List.append_toArray, List.nil_append, List.cons_append]
  cases a with
  | none =>
    have h0 := hnil rfl
    have h1 : o = [] := List.eq_nil_of_length_eq_zero h0
    subst h1
    simp only [Option.isNone, List.length_nil] at hq
    have hcs : cs = [] := List.eq_nil_of_length_eq_zero (by simpa using hlen)
    have HR := Lib.hid hrel
    clear hcell hrel hr
    gi_wp2
    go_ret
    refine ⟨_, rfl, Kept.refl _, cs, ?_, HR.out⟩
    rw [hcs]
    exact World.ownsRow_nil _ _ _ _
  | some ad =>
    simp only [Option.isNone] at hq
    have hc := hcell ad rfl
    have HR := Lib.hid hrel
    clear hcell hnil hrel hr
    gi_wp2_with (gi_at_builtin; refine append_d _ rfl _ _ 23 rfl w.heap.size 9 i0 z0 1 16 Try.underlying23 hi hz0 hz1 hz2 hzc (by decide) _ 0 [] rfl ?c0 ad o.length cap cs rfl ?c1 ?c2 ?c3 ?c4 ?c5 ?c6 ?_)
    case c0 => exact ⟨by simp, .inr ⟨_, _, _, rfl, Nat.le_refl _, World.alloc_heap_new _ _, Nat.le_refl _, by decide, rfl, rfl⟩⟩
    case c1 => exact hlen
    case c2 =>
      intro j u hj
      obtain ⟨q1, q2⟩ := hc j u hj
      rw [← q1]
      have hb : (ad.add j).block = ad.block := by unfold Addr.add; split <;> rfl
      exact World.cell?_alloc_lt _ _ _ (by rw [hb]; exact q2)
    case c3 => exact hone
    case c4 => simp only [maxLen]; omega
    case c5 => omega
    case c6 => simp
    intro v' w1 hown hgrow hiff hdr
    gi_wp2
    go_ret
    refine ⟨v', cs, rfl, ⟨hgrow.os, hgrow.tape, hgrow.output, by have := hgrow.size; simp at this; omega, fun k hk => (hgrow.block k (by simp; omega) (fun e => by simp [Value.ownBlock] at e; omega)).trans (Below.heap_alloc _ _ k hk), dr_le hdr⟩, by simpa using hown, HR.out⟩
theorem infoGrp : ((Try.prog.info? 40).bind fun i => i.zero.map fun z => (z.cells.size, i.size, i.bytes)) = some (2, 2, 40) := by kernel_rfl
set_option maxRecDepth 100000 in
set_option maxHeartbeats 2000000 in
theorem cloneGrp {no : Nat → Prop} {w : World} {o : List TConfigGroup} {v : Value} (hr : VRel (cxA no w) (lstA TConfigGroup.E o) v) (ho : o.length * 40 ≤ 140737488355328) (ho2 : o.length ≤ 4611686018427387904) (n : Nat) :
    CallsIn Fence.wide n Try.prog 31 #[v] w (fun e w' => ∃ v' cs, e = .returned v' ∧ Kept w w' ∧ w'.ownsRow w.heap.size 40 2 v' o.length cs ∧ Rels (cxA no w) (encs TConfigGroup.E o) cs) := by
  obtain ⟨i0, hi, hzz⟩ := Option.bind_eq_some_iff.1 infoGrp
  obtain ⟨z0, hz0, hzz⟩ := Option.map_eq_some_iff.1 hzz
  simp only [Prod.mk.injEq] at hzz
  obtain ⟨hzc, hz1, hz2⟩ := hzz
  obtain ⟨a, cap, cs, rfl, hnil, hlen, hrel, hcell⟩ := lst_cells hr
  have hone := one_cells hrel (cells_all (by intro x a ha; simp only [TConfigGroup.E, List.mem_cons, List.not_mem_nil, or_false] at ha; rcases ha with rfl | rfl <;> rfl) o)
  have hlen : cs.length = o.length * 2 := hlen
  have hq := fun wx => Lib.run_eql_slice_nil (P := Try.prog) wx 22 40 a o.length cap 0 0 Try.underlying22
  refine callsIn_of_wp Try.func31 rfl trivial ?_ rfl
  simp only [Try.ntmps31, List.size_toArray, List.length_cons, List.length_nil, Nat.reduceAdd, Nat.reduceSub, Array.replicate_succ, Array.replicate_zero, List.push_toArray, List.append_toArray, List.nil_append, List.cons_append]
  cases a with
  | none =>
    have h0 := hnil rfl
    have h1 : o = [] := List.eq_nil_of_length_eq_zero h0
    subst h1
    simp only [Option.isNone, List.length_nil] at hq
    have hcs : cs = [] := List.eq_nil_of_length_eq_zero (by simpa using hlen)
    have HR := Lib.hid hrel
    clear hcell hrel hr
    gi_wp2
    go_ret
    refine ⟨_, rfl, Kept.refl _, cs, ?_, HR.out⟩
    rw [hcs]
    exact World.ownsRow_nil _ _ _ _
  | some ad =>
    simp only [Option.isNone] at hq
    have hc := hcell ad rfl
    have HR := Lib.hid hrel
    clear hcell hnil hrel hr
    gi_wp2_with (gi_at_builtin; refine append_d _ rfl _ _ 22 rfl w.heap.size 40 i0 z0 2 40 Try.underlying22 hi hz0 hz1 hz2 hzc (by decide) _ 0 [] rfl ?c0 ad o.length cap cs rfl ?c1 ?c2 ?c3 ?c4 ?c5 ?c6 ?_)
    case c0 => exact ⟨by simp, .inr ⟨_, _, _, rfl, Nat.le_refl _, World.alloc_heap_new _ _, Nat.le_refl _, by decide, rfl, rfl⟩⟩
    case c1 => exact hlen
    case c2 =>
      intro j u hj
      obtain ⟨q1, q2⟩ := hc j u hj
      rw [← q1]
      have hb : (ad.add j).block = ad.block := by unfold Addr.add; split <;> rfl
      exact World.cell?_alloc_lt _ _ _ (by rw [hb]; exact q2)
    case c3 => exact hone
    case c4 => simp only [maxLen]; omega
    case c5 => omega
    case c6 => simp
    intro v' w1 hown hgrow hiff hdr
    gi_wp2
    go_ret
    refine ⟨v', cs, rfl, ⟨hgrow.os, hgrow.tape, hgrow.output, by have := hgrow.size; simp at this; omega, fun k hk => (hgrow.block k (by simp; omega) (fun e => by simp [Value.ownBlock] at e; omega)).trans (Below.heap_alloc _ _ k hk), dr_le hdr⟩, by simpa using hown, HR.out⟩
end Go.Proofs.Ythjcdlbkdobmiaa
