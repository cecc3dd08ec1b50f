/- sector.visits, as a plain program. -/
import Derived.Test.YtfncpfnanmoapaaX1E3
import Derived.Test.YtfncpfnanmoapaaSv5
set_option linter.unusedVariables false
set_option linter.unusedSimpArgs false
namespace Go.Proofs.Ytfncpfnanmoapaa
open Go.RowKit Go.Shelf

theorem visGo_hits (n : Nat) (l : List TSector) (t : List TTubeNode) : ∀ (k : Nat) (u : Int) (L r : List TSectorVisit), visGo n l t k u L = some r →
    ∃ hs : List (Hit KK.gl l), hs.length = k ∧ (∀ (j : Nat) (x : Hit KK.gl l), hs[j]? = some x → Says Try.prog KK.gl 47 [lstA TTubeNode.E t, intA (u + j)] (nodeA x.1.1)) ∧ r = hs.foldl (fun q x => visAdd q x.1.2 x.1.1.Node_Time) L
  | 0, u, L, r, h => by
    simp only [visGo, Option.some.injEq] at h
    exact ⟨[], rfl, fun j x hx => by simp at hx, h.symm⟩
  | k + 1, u, L, r, h => by
    simp only [visGo] at h
    obtain ⟨x, hx, h⟩ := Option.bind_eq_some_iff.1 h
    obtain ⟨i, hi, h⟩ := Option.bind_eq_some_iff.1 h
    obtain ⟨hs, h1, h2, h3⟩ := visGo_hits n l t k (u + 1) _ r h
    refine ⟨⟨(x, i), sg20 hi⟩ :: hs, by simp [h1], fun j y hy => ?_, by rw [h3]; rfl⟩
    cases j with
    | zero =>
      simp only [List.getElem?_cons_zero, Option.some.injEq] at hy
      subst hy
      rw [show u + ((0 : Nat) : Int) = u by simp]
      exact sg47 hx
    | succ j =>
      have := h2 j y (by simpa using hy)
      rwa [show u + ((j + 1 : Nat) : Int) = u + 1 + (j : Int) by omega]
theorem vis_rels {c : Cx} : ∀ q : List TSectorVisit, Rels c (encs TSectorVisit.E q) (visCells q)
  | [] => .nil
  | y :: r => by
    have := vis_rels (c := c) r
    show Rels c (TSectorVisit.E.enc y ++ encs TSectorVisit.E r) ([.int .i64 y.Sector, .int .i64 y.From, .int .i64 y.To] ++ visCells r)
    exact Rels.append (.cons (.sc _ rfl) (.cons (.sc _ rfl) (.cons (.sc _ rfl) .nil))) this
theorem vis_calls {n : Nat} {l : List TSector} {t : List TTubeNode} {r : ρ23} (h : g23 n l t = some r) {cb : Cx} (Bb : Bare cb) (hal : ∀ id, ¬ cb.al id) (hgb : GlobOk KK.gl cb) {lv tv : Value} (r1' : VRel cb (lstA TSector.E l) lv) (r2' : VRel cb (lstA TTubeNode.E t) tv) :
    Calls Try.prog 23 #[lv, tv] cb.w (fun e w' => ∃ v, e = .returned v ∧ Kept cb.w w' ∧ w'.ownsRow cb.w.heap.size 50 3 v r.length (visCells r)) := by
  unfold g23 at h
  obtain ⟨z, hz, h⟩ := Option.bind_eq_some_iff.1 h
  by_cases z0 : z = 0
  case neg => rw [bne_iff_ne.2 z0] at h; cases h
  subst z0
  rw [show ((0 : Int) != 0) = false from rfl, cond_false] at h
  obtain ⟨⟨a, b⟩, hq, h⟩ := Option.bind_eq_some_iff.1 h
  simp only at h
  split at h
  case isFalse => cases h
  rename_i hb
  obtain ⟨b1, b2, b3, b4⟩ := hb
  obtain ⟨hs, h1, h2, h3⟩ := visGo_hits n l t _ _ _ _ h
  obtain ⟨N, hN⟩ : ∃ N : Nat, b = a + N := ⟨(b - a).toNat, by omega⟩
  have hlen : hs.length = N + 1 := by rw [h1]; omega
  have hpos : 0 < hs.length := by omega
  obtain ⟨xs, hxs⟩ : ∃ xs : Nat → Hit KK.gl l, xs = fun j => hs.getD j (hs[0]) := ⟨_, rfl⟩
  have hup : upto xs (N + 1) = hs := by
    rw [← hlen, hxs]
    apply List.ext_getElem
    · simp [upto]
    · intro i q1 q2
      simp [upto, q2]
  have hr : r = visL (upto xs (N + 1)) := by rw [hup]; exact h3
  have hat : ∀ k : Nat, k ≤ N → Says Try.prog KK.gl 47 [lstA TTubeNode.E t, intA (a + k)] (nodeA (xs k).1.1) := fun k hk => by
    refine h2 k (xs k) ?_
    rw [hxs]
    simp [List.getElem?_eq_getElem (show k < hs.length by omega)]
  have hu : roomO t.length 48 = some () := by unfold roomO; rw [if_pos ⟨by omega, by omega⟩]
  have hv := visits_in (xs := xs) hN (by omega) (by omega) (by omega) (cloneC44 hu) (sg22 hz) (sg46 hq) hat Bb hal hgb r1' r2' 5 (Nat.le_refl _)
  rw [← hr] at hv
  exact (callsIn_wide.1 hv).mono fun e w' ⟨v, q1, q2, q3, q4⟩ => ⟨v, q1, q2, q3⟩
theorem vis_val {B : Nat} {c : Cx} (g : Good B c) {w' : World} {v : Value} {r : List TSectorVisit} (hrow : w'.ownsRow c.w.heap.size 50 3 v r.length (visCells r)) : VRel { c with w := w' } (lstA TSectorVisit.E r) v := by
  rcases hrow.2 with ⟨hv0, hl0⟩ | ⟨gb, cap, cur, rfl, hbg, hg, hle, hmx, hsz, htk⟩
  · rw [hv0, List.eq_nil_of_length_eq_zero hl0]
    exact .lst0 none 0 false (fun h => by cases h) (Nat.zero_le _) (fun _ => rfl)
  · refine .lst (b := gb) (o := 0) (vs := visCells r) ⟨heap_lt hg, ?_, fun q => ?_⟩ (vis_rels r) (fun k u hu => ?_) hle (fun h => by cases h) hmx
    · rintro ⟨id, blk, q1, q2⟩
      have := g.lt q1
      have q2 : c.f id = gb := q2
      omega
    · have h1 : gb < B := g.nol gb q
      have := g.hB
      omega
    · have := hrow.cells (g := gb) rfl k u hu
      rw [Nat.zero_add]
      rwa [show (⟨gb, 0, none⟩ : Addr).add k = ⟨gb, k, none⟩ by unfold Addr.add; split <;> simp_all] at this
theorem vis_bare {gl : Nat → Option (List AV)} {B : Nat} {c : Cx} (g : Good B c) (hgl : GlobOk gl c) : Bare (c.alone c.no) ∧ (∀ i, c.stable i → (c.alone c.no).stable i) ∧ (∀ i, c.own i → (c.alone c.no).stable i) ∧ GlobOk gl (c.alone c.no) := by
  have hBs := g.hB
  have Bb : Bare (c.alone c.no) := ⟨fun _ => rfl, fun i hi => by show i < c.w.heap.size; have : i < B := g.nol i hi; omega⟩
  have st : ∀ i, c.stable i → (c.alone c.no).stable i := fun i ⟨q1, q2, q3⟩ => ⟨q1, Bb.own i, q3⟩
  refine ⟨Bb, st, ?_, GlobOk.clean_to (c := c) (c0 := c.alone c.no) rfl st hgl⟩
  rintro i ⟨id, blk, q1, q2⟩
  have hlow := (g.low id blk q1).1
  have hlt := g.lt q1
  refine ⟨by show i < c.w.heap.size; omega, Bb.own i, fun hn => ?_⟩
  have : i < B := g.nol i hn
  omega
end Go.Proofs.Ytfncpfnanmoapaa
