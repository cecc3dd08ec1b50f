/- Se6 to Se12. -/
import Derived.Test.YtfncpfnanmoapaaSea
import Derived.Test.YtfncpfnanmoapaaSc4
import Derived.Test.YtfncpfnanmoapaaGeb
/- The cuts of the doubled polygons, told in the plane. -/
set_option linter.unusedVariables false
set_option linter.unusedSimpArgs false
namespace Go.Proofs.Ytfncpfnanmoapaa

def dbl (c : TP) : TP := ⟨2 * c.X, 2 * c.Y⟩
theorem pt_dbl (c : TP) : pt (dbl c) = scl 2 (pt c) := rfl
theorem vtx_dbl {l : List TP} (h : 0 < l.length) (i : Nat) : vtx (l.map dbl) i = dbl (vtx l i) := by
  have h1 := vtx_get (l := l.map dbl) (by simpa using h) i
  rw [List.length_map, List.getElem?_map, vtx_get h i] at h1
  exact (Option.some.inj h1).symm
theorem doubled_eq (n : Nat) (p : List TP) (hl : p.length ≤ 1000) (hn : p.length < n) (hp : ∀ x ∈ p, POk x) : g49 n p = some (p.map dbl) := by
  unfold g49
  obtain ⟨r, hr, rfl⟩ := iterO_rule (S := fun y : Int × List TP => S49_0 n p (p.length : Int) y.1 y.2) (fun y => ∃ i : Nat, y = ((i : Int), (p.take i).map dbl) ∧ i ≤ p.length) (fun r => r = p.map dbl) (fun y => p.length - y.1.toNat) (by
    rintro _ ⟨i, rfl, hi⟩
    show (∃ y, S49_0 n p (p.length : Int) (i : Int) ((p.take i).map dbl) = some (.inl y) ∧ _ ∧ _) ∨ ∃ r, S49_0 n p (p.length : Int) (i : Int) ((p.take i).map dbl) = some (.inr r) ∧ _
    unfold S49_0
    rcases Nat.lt_or_ge i p.length with hlt | hge
    · have hc : p[i]? = some p[i] := List.getElem?_eq_getElem hlt
      have ht : (p.take (i + 1)).map dbl = (p.take i).map dbl ++ [dbl p[i]] := by rw [List.take_add_one, hc, List.map_append]; rfl
      have hln : ((p.take i).map dbl).length ≤ i := by rw [List.length_map, List.length_take]; omega
      generalize p[i] = c at hc ht
      obtain ⟨c1, c2, c3, c4⟩ := hp c (List.mem_of_getElem? hc)
      rw [decide_eq_true (show (i : Int) < _ by omega), cond_true, getI_at hc, Option.bind_some, room_of (by simp only [List.length_singleton]; omega) (by simp only [List.length_singleton]; omega), Option.bind_some, wS (by omega), wrap64 (z := 2 * c.X) (by omega) (by omega), wrap64 (z := 2 * c.Y) (by omega) (by omega)]
      exact .inl ⟨_, rfl, ⟨i + 1, by rw [ht]; rfl, hlt⟩, by show p.length - ((i + 1 : Nat) : Int).toNat < p.length - (i : Int).toNat; omega⟩
    · rw [decide_eq_false (show ¬ (i : Int) < _ by omega), cond_false]
      exact .inr ⟨_, rfl, by rw [List.take_of_length_le hge]⟩) n ((0), []) ⟨0, rfl, Nat.zero_le _⟩ (by show p.length - (0 : Int).toNat < n; omega)
  exact hr
theorem on_scl {a b c : Pt} : onB (scl 2 a) (scl 2 b) (scl 2 c) ↔ onB a b c := by
  unfold onB
  rw [turn_scl0 (by decide)]
  show _ ∧ min (2 * a.x) (2 * b.x) ≤ 2 * c.x ∧ 2 * c.x ≤ max (2 * a.x) (2 * b.x) ∧ min (2 * a.y) (2 * b.y) ≤ 2 * c.y ∧ 2 * c.y ≤ max (2 * a.y) (2 * b.y) ↔ _
  constructor <;> rintro ⟨h1, h2⟩ <;> refine ⟨h1, ?_⟩ <;> omega
theorem dot_scl (a b c d : Pt) : dotP (scl 2 a) (scl 2 b) (scl 2 c) (scl 2 d) = 4 * dotP a b c d := by unfold dotP scl; grind
theorem sq_nn (z : Int) : 0 ≤ z * z := by
  rcases Int.le_total 0 z with k | k
  · exact w_pp k k
  · exact w_nn k k
/- on a rising line the distance grows with the height -/
theorem sq_mono {a b f g : Pt} (hab : a.y < b.y) (hf : turn a b f = 0) (hg : turn a b g = 0) (h1 : a.y ≤ g.y) (h2 : g.y < f.y) : (g.x - a.x) * (g.x - a.x) + (g.y - a.y) * (g.y - a.y) < (f.x - a.x) * (f.x - a.x) + (f.y - a.y) * (f.y - a.y) := by
  have l1 := line_x hf
  have l2 := line_x hg
  generalize f.x - a.x = fx at *
  generalize g.x - a.x = gx at *
  have e1 : f.y - a.y = (g.y - a.y) + (f.y - g.y) := by omega
  generalize hgy : g.y - a.y = gy at *
  generalize hfy : f.y - a.y = fy at *
  generalize hh : b.y - a.y = h at *
  generalize b.x - a.x = w at *
  have q1 : 0 < fy - gy := by omega
  have q2 : 0 < fy + gy := by omega
  have q3 : 0 < h := by omega
  have p1 := m_pp q1 q2
  have p2 := m_pp q3 q3
  have p3 := sq_nn w
  have p4 := m_pp (show 0 < w * w + h * h by omega) p1
  have e : (fx * fx + fy * fy - (gx * gx + gy * gy)) * (h * h) = (w * w + h * h) * ((fy - gy) * (fy + gy)) := by
    have e1 : fx * fx * (h * h) = (h * fx) * (h * fx) := by grind
    have e2 : gx * gx * (h * h) = (h * gx) * (h * gx) := by grind
    have : (fx * fx + fy * fy - (gx * gx + gy * gy)) * (h * h) = fx * fx * (h * h) - gx * gx * (h * h) + (fy * fy - gy * gy) * (h * h) := by grind
    rw [this, e1, e2, l1, l2]; grind
  rw [← e] at p4
  have := (sgn_pos (a := fx * fx + fy * fy - (gx * gx + gy * gy)) p2).1.1 p4
  omega
/- in a list sorted by f two values with none between them stand side by side -/
theorem pair_at {α : Type} {f : α → Int} {u v : Int} (huv : u < v) : ∀ {L : List α}, L.Pairwise (fun x y => f x ≤ f y) → (∃ c ∈ L, f c = u) → (∃ d ∈ L, f d = v) → (∀ e ∈ L, f e ≤ u ∨ v ≤ f e) → ∃ k x y, L[k + 1]? = some x ∧ L[k]? = some y ∧ f y = u ∧ f x = v
  | [], _, ⟨c, hc, _⟩, _, _ => by cases hc
  | [e], _, ⟨c, hc, h1⟩, ⟨d, hd, h2⟩, _ => by
    rw [List.mem_singleton.1 hc] at h1
    rw [List.mem_singleton.1 hd] at h2
    omega
  | e :: e' :: L, hp, ⟨c, hc, h1⟩, ⟨d, hd, h2⟩, hall => by
    obtain ⟨p1, p2⟩ := List.pairwise_cons.1 hp
    obtain ⟨p3, p4⟩ := List.pairwise_cons.1 p2
    have he : f e ≤ u := by
      rcases List.mem_cons.1 hc with k | k
      · rw [← k]; omega
      · have := p1 c k; omega
    have hee := p1 e' (by simp)
    have hd' : d ∈ e' :: L := by
      rcases List.mem_cons.1 hd with k | k
      · rw [k] at h2; omega
      · exact k
    rcases hall e' (by simp) with q | q
    · have hc' : ∃ c ∈ e' :: L, f c = u := by
        rcases List.mem_cons.1 hc with k | k
        · rw [k] at h1; exact ⟨e', by simp, by omega⟩
        · exact ⟨c, k, h1⟩
      obtain ⟨k, x, y, k1, k2, k3, k4⟩ := pair_at huv p2 hc' ⟨d, hd', h2⟩ (fun e he => hall e (List.mem_cons_of_mem _ he))
      exact ⟨k + 1, x, y, k1, k2, k3, k4⟩
    · have hv : f e' = v := by
        rcases List.mem_cons.1 hd' with k | k
        · rw [← k]; exact h2
        · have := p3 d k; omega
      have hu : f e = u := by
        rcases List.mem_cons.1 hc with k | k
        · rw [← k]; exact h1
        · rcases List.mem_cons.1 k with k | k
          · rw [k] at h1; omega
          · have := p3 c k; omega
      exact ⟨0, e', e, rfl, rfl, hu, hv⟩
theorem enot_of {p q : List TP} (hp : 0 < p.length) (hq : 0 < q.length) (h : ∀ (i : Nat) (x : TP), (p.map dbl)[i]? = some x → CutsOk (q.map dbl) x (vtx (p.map dbl) (i + 1))) : ENot p.length (vpt p) q.length (vpt q) := by
  intro i hi hab c d hc hd hcd hf
  have hx : (p.map dbl)[i]? = some (dbl (vtx p i)) := by
    have := vtx_get hp i
    rw [Nat.mod_eq_of_lt hi] at this
    rw [List.getElem?_map, this]; rfl
  obtain ⟨L, h1, h2, h3⟩ := h i _ hx
  rw [vtx_dbl hp] at h2 h3
  have to : ∀ f, cutB q.length (vpt q) (vpt p i) (vpt p (i + 1)) f → ∃ F ∈ L, pt F = scl 2 f := by
    rintro f (rfl | rfl | ⟨j, hj, rfl, ho⟩)
    · exact ⟨_, (h2 _).2 (.inl rfl), rfl⟩
    · exact ⟨_, (h2 _).2 (.inr (.inl rfl)), rfl⟩
    · exact ⟨dbl (vtx q j), (h2 _).2 (.inr (.inr ⟨List.mem_map.2 ⟨_, vtx_mem hq j, rfl⟩, on_scl.2 ho⟩)), rfl⟩
  have fro : ∀ F ∈ L, ∃ f, cutB q.length (vpt q) (vpt p i) (vpt p (i + 1)) f ∧ pt F = scl 2 f := by
    intro F hF
    rcases (h2 F).1 hF with rfl | rfl | ⟨k1, k2⟩
    · exact ⟨_, .inl rfl, rfl⟩
    · exact ⟨_, .inr (.inl rfl), rfl⟩
    · obtain ⟨f, k3, rfl⟩ := List.mem_map.1 k1
      obtain ⟨j, hj⟩ := List.getElem?_of_mem k3
      have hv := vtx_at hj
      exact ⟨vpt q j, .inr (.inr ⟨j, some_lt hj, rfl, by rw [pt_dbl, pt_dbl, pt_dbl, on_scl] at k2; show onB _ _ (pt (vtx q j)); rw [hv]; exact k2⟩), by show scl 2 (pt f) = scl 2 (pt (vtx q j)); rw [hv]⟩
  have hs : L.Pairwise fun x y => x.Y ≤ y.Y := by
    refine h1.imp_of_mem fun {x y} hx hy hle => ?_
    obtain ⟨f, k1, k2⟩ := fro x hx
    obtain ⟨g, k3, k4⟩ := fro y hy
    have e1 : x.Y = 2 * f.y := congrArg Pt.y k2
    have e2 : y.Y = 2 * g.y := congrArg Pt.y k4
    have e3 : x.X = 2 * f.x := congrArg Pt.x k2
    have e4 : y.X = 2 * g.x := congrArg Pt.x k4
    refine Decidable.byContradiction fun hh => ?_
    have := sq_mono hab (cut_line k1) (cut_line k3) (cut_y hab k3).1 (show g.y < f.y by omega)
    have s : ∀ z : TP, ∀ w : Pt, z.X = 2 * w.x → z.Y = 2 * w.y → sqn (dif (dbl (vtx p i)) z) = 4 * ((w.x - (vpt p i).x) * (w.x - (vpt p i).x) + (w.y - (vpt p i).y) * (w.y - (vpt p i).y)) := fun z w r1 r2 => by
      show (z.X - 2 * (vtx p i).X) * (z.X - 2 * (vtx p i).X) + (z.Y - 2 * (vtx p i).Y) * (z.Y - 2 * (vtx p i).Y) = 4 * ((w.x - (vtx p i).X) * (w.x - (vtx p i).X) + (w.y - (vtx p i).Y) * (w.y - (vtx p i).Y))
      rw [r1, r2]; grind
    rw [s x f e3 e1, s y g e4 e2] at hle
    omega
  obtain ⟨C, c1, c2⟩ := to c hc
  obtain ⟨D, d1, d2⟩ := to d hd
  obtain ⟨k, x, y, k1, k2, k3, k4⟩ := pair_at (f := TP.Y) (u := 2 * c.y) (v := 2 * d.y) (by omega) hs ⟨C, c1, congrArg Pt.y c2⟩ ⟨D, d1, congrArg Pt.y d2⟩ (fun e he => by
    obtain ⟨f, g1, g2⟩ := fro e he
    have : e.Y = 2 * f.y := congrArg Pt.y g2
    rcases hf f g1 with r | r
    · exact .inl (by omega)
    · exact .inr (by omega))
  obtain ⟨f, f1, f2⟩ := fro x (List.mem_of_getElem? k1)
  obtain ⟨g, g1, g2⟩ := fro y (List.mem_of_getElem? k2)
  have fy : x.Y = 2 * f.y := congrArg Pt.y f2
  have gy : y.Y = 2 * g.y := congrArg Pt.y g2
  have fd : f = d := same_x hab (cut_line f1) (cut_line hd) (by omega)
  have gc : g = c := same_x hab (cut_line g1) (cut_line hc) (by omega)
  subst fd gc
  have fx : x.X = 2 * f.x := congrArg Pt.x f2
  have gx : y.X = 2 * g.x := congrArg Pt.x g2
  obtain ⟨m1, m2⟩ := h3 k x y k1 k2 (fun e => by rw [e] at fy; omega)
  have hm : pt (midT x y) = mid2 g f := by
    have half : ∀ z : Int, Int.tdiv (2 * z) 2 = z := fun z => Int.mul_tdiv_cancel_left z (by decide)
    show (⟨Int.tdiv (x.X + y.X) 2, Int.tdiv (x.Y + y.Y) 2⟩ : Pt) = ⟨g.x + f.x, g.y + f.y⟩
    rw [fx, fy, gx, gy, show 2 * f.x + 2 * g.x = 2 * (g.x + f.x) by omega, show 2 * f.y + 2 * g.y = 2 * (g.y + f.y) by omega, half, half]
  have hU : ∀ j, vpt (q.map dbl) j = scl 2 (vpt q j) := fun j => by unfold vpt; rw [vtx_dbl hq]; rfl
  have hU' : vpt (q.map dbl) = fun j => scl 2 (vpt q j) := funext hU
  rw [hm, hU', List.length_map] at m1
  refine ⟨fun hno hw => m1 (fun j hj => hno j hj) (by rw [hw]; rfl), fun j hj hon => ?_⟩
  have := m2 j (by rw [List.length_map]; exact hj) (by rw [hm, hU, hU]; exact hon)
  rw [hU, hU, pt_dbl, pt_dbl, dot_scl] at this
  show dotP (pt (vtx p i)) (pt (vtx p (i + 1))) (vpt q j) (vpt q (j + 1)) ≤ 0
  omega
end Go.Proofs.Ytfncpfnanmoapaa
/- Polygons and volumes of the program that do not overlap. -/
set_option linter.unusedVariables false
set_option linter.unusedSimpArgs false
namespace Go.Proofs.Ytfncpfnanmoapaa

theorem dbl_p2 {l : List TP} (h : ∀ x ∈ l, POk x) : ∀ x ∈ l.map dbl, P2 x := fun x hx => by
  obtain ⟨c, hc, rfl⟩ := List.mem_map.1 hx
  obtain ⟨c1, c2, c3, c4⟩ := h c hc
  exact ⟨by show -2000000 ≤ 2 * c.X; omega, by show 2 * c.X ≤ _; omega, by show -2000000 ≤ 2 * c.Y; omega, by show 2 * c.Y ≤ _; omega⟩
def noCross (a b c d : Pt) : Prop := ¬ (turn a b c * turn a b d < 0 ∧ turn c d a * turn c d b < 0)
theorem cross_each (n : Nat) (p q : List TP) (hp : PolyOk p) (hq : PolyOk q) (hn : 4000 < n) : ∃ r, iterO (fun y : Int => S37_1 n p q false (0) (p.length : Int) y) n (0) = some r ∧ r.2 = 0 ∧ (r.1 = false → CNot p.length (vpt p) q.length (vpt q) ∧ ENot p.length (vpt p) q.length (vpt q) ∧ ENot q.length (vpt q) p.length (vpt p)) := by
  have p1 := hp.lo
  have p2 := hp.hi
  have q1 := hq.lo
  have q2 := hq.hi
  have e1 := doubled_eq n p (by omega) (by omega) hp.pts
  have e2 := doubled_eq n q (by omega) (by omega) hq.pts
  have lp : (p.map dbl).length = p.length := List.length_map ..
  have lq : (q.map dbl).length = q.length := List.length_map ..
  obtain ⟨b1, h1, k1⟩ := enters_val n (p.map dbl) (q.map dbl) (dbl_p2 hp.pts) (dbl_p2 hq.pts) (by omega) (by omega) hn
  obtain ⟨b2, h2, k2⟩ := enters_val n (q.map dbl) (p.map dbl) (dbl_p2 hq.pts) (dbl_p2 hp.pts) (by omega) (by omega) hn
  have pp : ∀ j, P2 (vtx p j) := fun j => (hp.pts _ (vtx_mem (by omega) j)).p2
  have pq : ∀ j, P2 (vtx q j) := fun j => (hq.pts _ (vtx_mem (by omega) j)).p2
  obtain ⟨r, hr, hQ⟩ := iter_each (S := fun y : Int => S37_1 n p q false (0) (p.length : Int) y) p (fun i x => ∀ j, j < q.length → noCross (vpt p i) (vpt p (i + 1)) (vpt q j) (vpt q (j + 1))) (fun r => r = (true, (0 : Int))) (b1 || b2, (0 : Int)) (fun i x hx => by
    show (S37_1 n p q false (0) (p.length : Int) (i : Int) = _ ∧ _) ∨ _
    have hi := some_lt hx
    have hxv := vtx_at hx
    obtain ⟨r, hr, hQ⟩ := iterO_rule (S := fun y : Int => S37_1_0 n p q false (0) (i : Int) (p.length : Int) (q.length : Int) y) (fun y => ∃ j : Nat, y = (j : Int) ∧ j ≤ q.length ∧ ∀ j', j' < j → noCross (vpt p i) (vpt p (i + 1)) (vpt q j') (vpt q (j' + 1))) (fun r => (r = .inl ((i + 1 : Nat) : Int) ∧ ∀ j', j' < q.length → noCross (vpt p i) (vpt p (i + 1)) (vpt q j') (vpt q (j' + 1))) ∨ r = .inr (true, 0)) (fun y => q.length - y.toNat) (by
      rintro _ ⟨j, rfl, hj, hno⟩
      show (∃ y, S37_1_0 n p q false (0) (i : Int) (p.length : Int) (q.length : Int) (j : Int) = some (.inl y) ∧ _ ∧ _) ∨ ∃ r, S37_1_0 n p q false (0) (i : Int) (p.length : Int) (q.length : Int) (j : Int) = some (.inr r) ∧ _
      unfold S37_1_0
      rcases Nat.lt_or_ge j q.length with hlt | hge
      · have hu : q[j]? = some q[j] := List.getElem?_eq_getElem hlt
        generalize q[j] = u at hu
        have huv := vtx_at hu
        have cr := cross_val n (pp i) (pp (i + 1)) (pq j) (pq (j + 1))
        rw [hxv, huv] at cr
        obtain ⟨b, hb, hbm⟩ := cr
        rw [decide_eq_true (show (j : Int) < _ by omega), cond_true, getI_at hx, Option.bind_some, next_val n hi (by omega), Option.bind_some, getI_at hu, Option.bind_some, next_val n hlt (by omega), Option.bind_some, hb, Option.bind_some, wS (by omega)]
        cases b
        · refine .inl ⟨_, rfl, ⟨j + 1, rfl, hlt, fun j' hj' => ?_⟩, by show q.length - ((j + 1 : Nat) : Int).toNat < q.length - (j : Int).toNat; omega⟩
          rcases Nat.lt_succ_iff_lt_or_eq.1 hj' with k | k
          · exact hno j' k
          · subst k
            intro h
            have : vpt p i = pt x := congrArg pt hxv
            rw [this] at h
            have : vpt q j' = pt u := congrArg pt huv
            rw [this] at h
            have := hbm.2 h
            cases this
        · exact .inr ⟨_, rfl, .inr rfl⟩
      · rw [decide_eq_false (show ¬ (j : Int) < _ by omega), cond_false, wS (by omega)]
        exact .inr ⟨_, rfl, .inl ⟨rfl, fun j' hj' => hno j' (by omega)⟩⟩) n 0 ⟨0, rfl, Nat.zero_le _, fun j h => absurd h (Nat.not_lt_zero _)⟩ (by show q.length - (0 : Int).toNat < n; omega)
    unfold S37_1
    rw [decide_eq_true (show (i : Int) < _ by omega), cond_true, hr]
    rcases hQ with ⟨rfl, h⟩ | rfl
    · exact .inl ⟨rfl, h⟩
    · exact .inr ⟨_, rfl, rfl⟩) (by
    show S37_1 n p q false (0) (p.length : Int) (p.length : Int) = _
    unfold S37_1
    rw [decide_eq_false (show ¬ (p.length : Int) < _ by omega), cond_false, e1, Option.bind_some, e2, Option.bind_some, h1, Option.bind_some, h2, Option.bind_some]
    cases b1 <;> cases b2 <;> rfl) n (by omega)
  refine ⟨r, hr, ?_⟩
  rcases hQ with rfl | ⟨rfl, hall⟩
  · exact ⟨rfl, fun h => by cases h⟩
  · refine ⟨rfl, fun h => ?_⟩
    have h : (b1 || b2) = false := h
    rw [Bool.or_eq_false_iff] at h
    obtain ⟨rfl, rfl⟩ := h
    refine ⟨fun i j hi hj => hall i _ (List.getElem?_eq_getElem hi) j hj, ?_, ?_⟩
    · rcases k1 with h | ⟨-, h⟩
      · cases h
      · exact enot_of (by omega) (by omega) h
    · rcases k2 with h | ⟨-, h⟩
      · cases h
      · exact enot_of (by omega) (by omega) h
theorem overlap_val (n : Nat) (p q : List TP) (hp : g29 n p = some 0) (hq : g29 n q = some 0) (hn : 4000 < n) : ∃ r, g37 n p q = some r ∧ r.2 = 0 ∧ (r.1 = false → CNot p.length (vpt p) q.length (vpt q) ∧ ENot p.length (vpt p) q.length (vpt q) ∧ ENot q.length (vpt q) p.length (vpt p)) := by
  obtain ⟨r, hr, hQ⟩ := cross_each n p q (poly_simple (by omega) hp).1 (poly_simple (by omega) hq).1 hn
  unfold g37
  refine iterO_rule (S := fun y : Int => S37_0 n p q false (0) ([p, q] : List (List TP)) (([p, q] : List (List TP)).length : Int) y) (fun y => ∃ i : Nat, y = (i : Int) ∧ i ≤ 2) _ (fun y => 2 - y.toNat) (by
    rintro _ ⟨i, rfl, hi⟩
    show (∃ y, S37_0 n p q false (0) ([p, q] : List (List TP)) (([p, q] : List (List TP)).length : Int) (i : Int) = some (.inl y) ∧ _ ∧ _) ∨ ∃ r, S37_0 n p q false (0) ([p, q] : List (List TP)) (([p, q] : List (List TP)).length : Int) (i : Int) = some (.inr r) ∧ _
    rcases Nat.lt_or_ge i 2 with hlt | hge
    · have hx : ∃ x, ([p, q] : List (List TP))[i]? = some x ∧ g29 n x = some 0 := by
        match i, hlt with
        | 0, _ => exact ⟨p, rfl, hp⟩
        | 1, _ => exact ⟨q, rfl, hq⟩
      obtain ⟨x, hx, hz⟩ := hx
      unfold S37_0
      rw [decide_eq_true (show (i : Int) < _ by simp; omega), cond_true, getI_at hx, Option.bind_some, hz, Option.bind_some, wS (by omega)]
      exact .inl ⟨_, rfl, ⟨i + 1, rfl, by omega⟩, by show 2 - ((i + 1 : Nat) : Int).toNat < 2 - (i : Int).toNat; omega⟩
    · unfold S37_0
      rw [decide_eq_false (show ¬ (i : Int) < _ by simp; omega), cond_false, hr]
      exact .inr ⟨r, rfl, hQ⟩) n 0 ⟨0, rfl, by omega⟩ (by show 2 - (0 : Int).toNat < n; omega)
def rmOf (v : TVolume) : Rm := ⟨v.Area.length, vpt v.Area, v.Low, v.High⟩
structure VolGood (v : TVolume) : Prop where
  ok : PolyOk v.Area
  poly : Poly v.Area.length (vpt v.Area)
  area : 0 < twiceN v.Area.length (vpt v.Area)
  lo : 0 ≤ v.Low
  hi : v.High ≤ 60001
  lt : v.Low < v.High
theorem vol_good {n : Nat} (hn : 40 < n) {v : TVolume} (h : g24 n v = some 0) : g29 n v.Area = some 0 ∧ VolGood v := by
  obtain ⟨z, e, k⟩ := poly_check n v.Area hn
  unfold g24 at h
  rw [e, Option.bind_some] at h
  by_cases hz : z = 0
  · subst hz
    rw [show ((0 : Int) != 0) = false from rfl, cond_false] at h
    obtain ⟨h1, h2, h3⟩ := poly_simple hn e
    refine ⟨e, h1, h2, h3, ?_, ?_, ?_⟩
    · refine Decidable.byContradiction fun hh => ?_
      rw [decide_eq_true (show v.Low < 0 by omega)] at h
      cases h
    · refine Decidable.byContradiction fun hh => ?_
      rw [decide_eq_true (show v.High > 60001 by omega)] at h
      cases hd : decide (v.Low < 0) <;> rw [hd] at h <;> cases h
    · refine Decidable.byContradiction fun hh => ?_
      rw [decide_eq_true (show v.Low ≥ v.High by omega)] at h
      cases hd : decide (v.Low < 0) <;> rw [hd] at h <;> cases hd2 : decide (v.High > 60001) <;> rw [hd2] at h <;> cases h
  · rw [bne_iff_ne.2 hz, cond_true] at h
    exact absurd (Option.some.inj h) hz
theorem vover_val (n : Nat) (v w : TVolume) (hv : g24 n v = some 0) (hw : g24 n w = some 0) (hn : 4000 < n) : ∃ r, g27 n v w = some r ∧ (r.1 = false → (∃ h, v.Low ≤ h ∧ h < v.High ∧ w.Low ≤ h ∧ h < w.High) → Apart (rmOf v) (rmOf w)) := by
  obtain ⟨r, hr, hr2, hQ⟩ := overlap_val n v.Area w.Area (vol_good (by omega) hv).1 (vol_good (by omega) hw).1 hn
  unfold g27
  refine iterO_rule (S := fun y : Int => S27_0 n false (0) ([v, w] : List TVolume) (([v, w] : List TVolume).length : Int) v.Area v.Low v.High w.Area w.Low w.High y) (fun y => ∃ i : Nat, y = (i : Int) ∧ i ≤ 2) _ (fun y => 2 - y.toNat) (by
    rintro _ ⟨i, rfl, hi⟩
    show (∃ y, S27_0 n false (0) ([v, w] : List TVolume) (([v, w] : List TVolume).length : Int) v.Area v.Low v.High w.Area w.Low w.High (i : Int) = some (.inl y) ∧ _ ∧ _) ∨ ∃ r, S27_0 n false (0) ([v, w] : List TVolume) (([v, w] : List TVolume).length : Int) v.Area v.Low v.High w.Area w.Low w.High (i : Int) = some (.inr r) ∧ _
    rcases Nat.lt_or_ge i 2 with hlt | hge
    · have hx : ∃ x, ([v, w] : List TVolume)[i]? = some x ∧ g24 n x = some 0 := by
        match i, hlt with
        | 0, _ => exact ⟨v, rfl, hv⟩
        | 1, _ => exact ⟨w, rfl, hw⟩
      obtain ⟨x, hx, hz⟩ := hx
      unfold S27_0
      rw [decide_eq_true (show (i : Int) < _ by simp; omega), cond_true, getI_at hx, Option.bind_some, hz, Option.bind_some, wS (by omega)]
      exact .inl ⟨_, rfl, ⟨i + 1, rfl, by omega⟩, by show 2 - ((i + 1 : Nat) : Int).toNat < 2 - (i : Int).toNat; omega⟩
    · unfold S27_0
      rw [decide_eq_false (show ¬ (i : Int) < _ by simp; omega), cond_false, hr, Option.bind_some, hr2, show ((0 : Int) == 0) = true from rfl, cond_true]
      cases hb : r.1 with
      | false =>
        rw [cond_false]
        exact .inr ⟨_, rfl, fun _ _ => hQ hb⟩
      | true =>
        rw [cond_true]
        refine .inr ⟨_, rfl, fun h => ?_⟩
        rintro ⟨t, t1, t2, t3, t4⟩
        have h := of_decide_eq_false h
        exact absurd (show (if w.Low > v.Low then w.Low else v.Low) < if w.High < v.High then w.High else v.High by split <;> split <;> omega) h) n 0 ⟨0, rfl, by omega⟩ (by show 2 - (0 : Int).toNat < n; omega)
end Go.Proofs.Ytfncpfnanmoapaa
/- Sectors: what Check asks, whole. -/
set_option linter.unusedVariables false
set_option linter.unusedSimpArgs false
namespace Go.Proofs.Ytfncpfnanmoapaa

theorem take_at {α : Type} {l : List α} {i : Nat} {x : α} (hx : l[i]? = some x) : l.take (i + 1) = l.take i ++ [x] := by rw [List.take_add_one, hx]; rfl
theorem pw_take {α : Type} {R : α → α → Prop} {l : List α} {i : Nat} {x : α} (hx : l[i]? = some x) : (l.take (i + 1)).Pairwise R ↔ (l.take i).Pairwise R ∧ ∀ y ∈ l.take i, R y x := by
  rw [take_at hx, List.pairwise_append]
  constructor
  · rintro ⟨h1, -, h3⟩
    exact ⟨h1, fun y hy => h3 y hy x (by simp)⟩
  · rintro ⟨h1, h2⟩
    exact ⟨h1, List.pairwise_singleton _ _, fun y hy z hz => by rw [List.mem_singleton.1 hz]; exact h2 y hy⟩
theorem pw_at {α : Type} {R : α → α → Prop} {l : List α} (h : l.Pairwise R) {i : Nat} {x : α} (hx : l[i]? = some x) : ∀ y ∈ l.take i, R y x := ((pw_take hx).1 (h.sublist (List.take_sublist _ _))).2
def noOver (n : Nat) (w x : TVolume) : Prop := (g27 n x w).map (·.1) = some false
theorem apart_iff (n : Nat) (hn : 4500 < n) (L : List TVolume) (hL : L.length ≤ 100) : ∃ z, iterO (fun y : Int => S14_1 n 0 L (L.length : Int) y) n (0) = some z ∧ (z = 0 ↔ L.Pairwise (noOver n)) := by
  refine iterO_rule (S := fun y : Int => S14_1 n 0 L (L.length : Int) y) (fun y => ∃ i : Nat, y = (i : Int) ∧ i ≤ L.length ∧ (L.take i).Pairwise (noOver n)) _ (fun y => L.length - y.toNat) ?_ n 0 ⟨0, rfl, Nat.zero_le _, by rw [List.take_zero]; exact List.Pairwise.nil⟩ (by show L.length - (0 : Int).toNat < n; omega)
  rintro _ ⟨i, rfl, hi, hpw⟩
  show (∃ y, S14_1 n 0 L (L.length : Int) (i : Int) = some (.inl y) ∧ _ ∧ _) ∨ ∃ r, S14_1 n 0 L (L.length : Int) (i : Int) = some (.inr r) ∧ _
  rcases Nat.lt_or_ge i L.length with hlt | hge
  · have hx : L[i]? = some L[i] := List.getElem?_eq_getElem hlt
    generalize L[i] = x at hx
    have hjl : (L.take i).length ≤ 100 := by rw [List.length_take]; omega
    obtain ⟨r, hr, hQ⟩ := iterO_rule (S := fun y : Int => S14_1_0 n 0 L (L.length : Int) (i : Int) (L.take i) ((L.take i).length : Int) x.Area x.Low x.High y) (fun y => ∃ j : Nat, y = (j : Int) ∧ j ≤ (L.take i).length ∧ ∀ w ∈ (L.take i).take j, noOver n w x) (fun r => (r = .inl ((i + 1 : Nat) : Int) ∧ ∀ w ∈ L.take i, noOver n w x) ∨ (r = .inr 19 ∧ ¬ ∀ w ∈ L.take i, noOver n w x)) (fun y => (L.take i).length - y.toNat) (by
      rintro _ ⟨j, rfl, hj, hno⟩
      show (∃ y, S14_1_0 n 0 L (L.length : Int) (i : Int) (L.take i) ((L.take i).length : Int) x.Area x.Low x.High (j : Int) = some (.inl y) ∧ _ ∧ _) ∨ ∃ r, S14_1_0 n 0 L (L.length : Int) (i : Int) (L.take i) ((L.take i).length : Int) x.Area x.Low x.High (j : Int) = some (.inr r) ∧ _
      unfold S14_1_0
      rcases Nat.lt_or_ge j (L.take i).length with hlt | hge
      · have hw : (L.take i)[j]? = some (L.take i)[j] := List.getElem?_eq_getElem hlt
        generalize (L.take i)[j] = w at hw
        obtain ⟨o, ho⟩ := vover_tot n x w (by omega)
        have ho' : g27 n (⟨x.Area, x.Low, x.High⟩ : TVolume) w = some o := ho
        have hm : noOver n w x ↔ o.1 = false := by unfold noOver; rw [ho]; exact ⟨fun h => Option.some.inj h, fun h => congrArg some h⟩
        rw [decide_eq_true (show (j : Int) < _ by omega), cond_true, getI_at hw, Option.bind_some, ho', Option.bind_some, wS (by omega)]
        cases hb : o.1
        · refine .inl ⟨_, rfl, ⟨j + 1, rfl, hlt, fun w' hw' => ?_⟩, by show (L.take i).length - ((j + 1 : Nat) : Int).toNat < (L.take i).length - (j : Int).toNat; omega⟩
          rw [take_at hw, List.mem_append, List.mem_singleton] at hw'
          rcases hw' with k | rfl
          · exact hno w' k
          · exact hm.2 hb
        · refine .inr ⟨_, rfl, .inr ⟨rfl, fun h => ?_⟩⟩
          have := hm.1 (h w (List.mem_of_getElem? hw))
          rw [hb] at this; cases this
      · rw [decide_eq_false (show ¬ (j : Int) < _ by omega), cond_false, wS (by omega)]
        exact .inr ⟨_, rfl, .inl ⟨rfl, by rwa [List.take_of_length_le hge] at hno⟩⟩) n 0 ⟨0, rfl, Nat.zero_le _, fun w hw => by rw [List.take_zero] at hw; cases hw⟩ (by show (L.take i).length - (0 : Int).toNat < n; omega)
    unfold S14_1
    rw [decide_eq_true (show (i : Int) < _ by omega), cond_true, getI_at hx, Option.bind_some, slice_hi L i (by omega), Option.bind_some, hr]
    rcases hQ with ⟨rfl, h⟩ | ⟨rfl, h⟩
    · exact .inl ⟨_, rfl, ⟨i + 1, rfl, hlt, (pw_take hx).2 ⟨hpw, h⟩⟩, by show L.length - ((i + 1 : Nat) : Int).toNat < L.length - (i : Int).toNat; omega⟩
    · exact .inr ⟨_, rfl, fun hz => (by cases hz), fun hz => absurd (pw_at hz hx) h⟩
  · unfold S14_1
    rw [decide_eq_false (show ¬ (i : Int) < _ by omega)]
    exact .inr ⟨_, rfl, fun _ => (by rwa [List.take_of_length_le hge] at hpw), fun _ => rfl⟩
theorem named_val (n : Nat) (l : List TSector) (a : ByteArray) (b : List TVolume) (hl : l.length < n) (hl2 : l.length ≤ 1000) : ∃ r, g25 n l a b = some r ∧ (r = false ↔ ∀ s ∈ l, s.Name.toList ≠ a.toList) := by
  have e := index_loop (fun s : TSector => s.Name.toList == a.toList) l (by omega) (S := fun y : Int => S31_0_x1 n l a b (0) (l.length : Int) y) (fun i s hs => by
    have := some_lt hs
    show S31_0_x1 n l a b (0) (l.length : Int) (i : Int) = _
    unfold S31_0_x1 g26
    rw [decide_eq_true (show (i : Int) < _ by omega), cond_true, getI_at hs, Option.bind_some, Option.bind_some, wS (by omega)]
    cases s.Name.toList == a.toList <;> rfl) (by
    show S31_0_x1 n l a b (0) (l.length : Int) (l.length : Int) = _
    unfold S31_0_x1
    rw [decide_eq_false (Int.lt_irrefl _)]; rfl) n (by omega)
  unfold g25 g31_1
  rw [e, Option.bind_some]
  refine ⟨_, rfl, ?_⟩
  have h := idxL_neg (fun s : TSector => s.Name.toList == a.toList) l
  generalize idxL (fun s : TSector => s.Name.toList == a.toList) l = k at h ⊢
  constructor
  · intro hh s hs
    have hh : ¬ (k ≥ 0) := of_decide_eq_false hh
    exact beq_eq_false_iff_ne.1 (h.1 (by omega) s hs)
  · intro hh
    have := h.2 fun s hs => beq_eq_false_iff_ne.2 (hh s hs)
    exact decide_eq_false (show ¬ (k ≥ 0) by omega)
def RoomsOk (n : Nat) (s : TSector) : Prop := ∀ v ∈ s.Room, g24 n v = some 0
structure SecOne (n : Nat) (s : TSector) : Prop where
  name : g16 n s.Name = some true
  ne : s.Room ≠ []
  len : s.Room.length ≤ 4
  rooms : ∀ v ∈ s.Room, g24 n v = some 0
def nameNe (s t : TSector) : Prop := s.Name.toList ≠ t.Name.toList
structure SecAll (n : Nat) (l : List TSector) : Prop where
  len : l.length ≤ 12
  each : ∀ s ∈ l, SecOne n s
  names : l.Pairwise nameNe
  apart : (l.flatMap TSector.Room).Pairwise (noOver n)
theorem room_iff (n : Nat) (hn : 4500 < n) (l : List TSector) (hl : l.length ≤ 12) (i : Nat) (hi : i < l.length) (c19 : Int) (s : TSector) (hR : s.Room.length ≤ 4) (hR0 : s.Room ≠ []) (L : List TVolume) (hL : L.length ≤ 100) :
    ∃ r, iterO (fun y : Int × List TVolume => S14_0_0 n l 0 (i : Int) c19 s.Room (s.Room.length : Int) s.Name y.1 y.2) n ((0), L) = some r ∧ ((r = .inl (((i + 1 : Nat) : Int), L ++ s.Room) ∧ (∀ v ∈ s.Room, g24 n v = some 0) ∧ ∀ t ∈ l.take i, nameNe t s) ∨ ∃ z, z ≠ 0 ∧ r = .inr z ∧ ¬ ((∀ v ∈ s.Room, g24 n v = some 0) ∧ ∀ t ∈ l.take i, nameNe t s)) := by
  refine iterO_rule (S := fun y : Int × List TVolume => S14_0_0 n l 0 (i : Int) c19 s.Room (s.Room.length : Int) s.Name y.1 y.2) (fun y => ∃ j : Nat, y = ((j : Int), L) ∧ j ≤ s.Room.length ∧ ∀ (k : Nat) (v : TVolume), k < j → s.Room[k]? = some v → g24 n v = some 0) _ (fun y => s.Room.length - y.1.toNat) ?_ n ((0), L) ⟨0, rfl, Nat.zero_le _, fun k v h => absurd h (Nat.not_lt_zero _)⟩ (by show s.Room.length - (0 : Int).toNat < n; omega)
  rintro _ ⟨j, rfl, hj, hv⟩
  show (∃ y, S14_0_0 n l 0 (i : Int) c19 s.Room (s.Room.length : Int) s.Name (j : Int) L = some (.inl y) ∧ _ ∧ _) ∨ ∃ r, S14_0_0 n l 0 (i : Int) c19 s.Room (s.Room.length : Int) s.Name (j : Int) L = some (.inr r) ∧ _
  unfold S14_0_0
  rcases Nat.lt_or_ge j s.Room.length with hlt | hge
  · have hx : s.Room[j]? = some s.Room[j] := List.getElem?_eq_getElem hlt
    generalize s.Room[j] = x at hx
    obtain ⟨z, hz, kz⟩ := vol_check n x (by omega)
    rw [decide_eq_true (show (j : Int) < _ by omega), cond_true, getI_at hx, Option.bind_some, hz, Option.bind_some, wS (by omega)]
    by_cases h : z = 0
    · subst h
      refine .inl ⟨_, rfl, ⟨j + 1, rfl, hlt, fun k v hk hkv => ?_⟩, by show s.Room.length - ((j + 1 : Nat) : Int).toNat < s.Room.length - (j : Int).toNat; omega⟩
      by_cases e : k = j
      · subst e; rw [hx] at hkv; cases hkv; exact hz
      · exact hv k v (by omega) hkv
    · rw [bne_iff_ne.2 h, cond_true]
      refine .inr ⟨_, rfl, .inr ⟨z, h, rfl, fun hh => ?_⟩⟩
      have := hh.1 x (List.mem_of_getElem? hx)
      rw [hz] at this
      exact h (Option.some.inj this)
  · have htl : (l.take i).length ≤ 12 := by rw [List.length_take]; omega
    obtain ⟨b, hb, hbm⟩ := named_val n (l.take i) s.Name s.Room (by omega) (by omega)
    have hne : neO s.Room = some () := by
      cases hR' : s.Room with
      | nil => exact absurd hR' hR0
      | cons _ _ => rfl
    rw [decide_eq_false (show ¬ (j : Int) < _ by omega), cond_false, slice_hi l i (by omega), Option.bind_some, hb, Option.bind_some]
    cases b with
    | true =>
      refine .inr ⟨_, rfl, .inr ⟨7, by decide, rfl, fun hh => ?_⟩⟩
      have := hbm.2 hh.2
      cases this
    | false =>
      rw [cond_false, hne, Option.bind_some, room_of (by omega) (by omega), Option.bind_some, wS (by omega)]
      refine .inr ⟨_, rfl, .inl ⟨rfl, fun v hv' => ?_, hbm.1 rfl⟩⟩
      obtain ⟨k, hk⟩ := List.getElem?_of_mem hv'
      exact hv k v (by have := some_lt hk; omega) hk
theorem sec_iff (n : Nat) (hn : 4500 < n) (l : List TSector) : ∃ z, g14 n l = some z ∧ (z = 0 ↔ SecAll n l) := by
  unfold g14
  by_cases h1 : (l.length : Int) > 12
  · rw [decide_eq_true h1, cond_true]; exact ⟨2, rfl, fun h => (by cases h), fun h => by have := h.len; omega⟩
  rw [decide_eq_false h1, cond_false]
  refine iterO_rule (S := fun y : Int × List TVolume => S14_0 n l 0 (l.length : Int) y.1 y.2) (fun y => ∃ i : Nat, y = ((i : Int), (l.take i).flatMap TSector.Room) ∧ i ≤ l.length ∧ ((l.take i).flatMap TSector.Room).length ≤ 4 * i ∧ (∀ s ∈ l.take i, SecOne n s) ∧ (l.take i).Pairwise nameNe) _ (fun y => l.length - y.1.toNat) ?_ n ((0), []) ⟨0, rfl, Nat.zero_le _, Nat.zero_le _, fun s h => (by rw [List.take_zero] at h; cases h), by rw [List.take_zero]; exact List.Pairwise.nil⟩ (by show l.length - (0 : Int).toNat < n; omega)
  rintro _ ⟨i, rfl, hi, hL, hv, hnm⟩
  show (∃ y, S14_0 n l 0 (l.length : Int) (i : Int) ((l.take i).flatMap TSector.Room) = some (.inl y) ∧ _ ∧ _) ∨ ∃ r, S14_0 n l 0 (l.length : Int) (i : Int) ((l.take i).flatMap TSector.Room) = some (.inr r) ∧ _
  rcases Nat.lt_or_ge i l.length with hlt | hge
  · have hx : l[i]? = some l[i] := List.getElem?_eq_getElem hlt
    generalize l[i] = x at hx
    have hxm := List.mem_of_getElem? hx
    have ht := take_at hx
    have hpt := pw_take (R := nameNe) hx
    have hpa := fun h : l.Pairwise nameNe => pw_at h hx
    have hfl : (l.take (i + 1)).flatMap TSector.Room = (l.take i).flatMap TSector.Room ++ x.Room := by rw [ht, List.flatMap_append, List.flatMap_cons, List.flatMap_nil, List.append_nil]
    generalize (l.take i).flatMap TSector.Room = L at hL hfl
    unfold S14_0
    obtain ⟨b, hb⟩ := sname_tot n (by omega) x.Name
    rw [decide_eq_true (show (i : Int) < _ by omega), cond_true, getI_at hx, Option.bind_some, hb, Option.bind_some]
    cases b with
    | false =>
      refine .inr ⟨_, rfl, fun h => (by cases h), fun h => ?_⟩
      have := (h.each x hxm).name
      rw [hb] at this; cases this
    | true =>
    rw [Bool.not_true, cond_false]
    by_cases h0 : (x.Room.length : Int) = 0
    · rw [beq_iff_eq.2 h0, cond_true]; exact .inr ⟨_, rfl, fun h => (by cases h), fun h => absurd (List.length_eq_zero_iff.1 (by omega)) (h.each x hxm).ne⟩
    by_cases h4 : (x.Room.length : Int) > 4
    · rw [beq_eq_false_iff_ne.2 h0, cond_false, decide_eq_true h4, cond_true]; exact .inr ⟨_, rfl, fun h => (by cases h), fun h => by have := (h.each x hxm).len; omega⟩
    rw [beq_eq_false_iff_ne.2 h0, cond_false, decide_eq_false h4, cond_false]
    have hne : x.Room ≠ [] := fun e => h0 (by rw [e]; rfl)
    obtain ⟨r, hr, ⟨rfl, hvs, hns⟩ | ⟨z, hz, rfl, hz2⟩⟩ := room_iff n hn l (by omega) i hlt (l.length : Int) x (by omega) hne L (by omega)
    · refine .inl ⟨_, hr, ⟨i + 1, by rw [hfl], hlt, by rw [hfl, List.length_append]; omega, fun s hs => ?_, hpt.2 ⟨hnm, hns⟩⟩, by show l.length - ((i + 1 : Nat) : Int).toNat < l.length - (i : Int).toNat; omega⟩
      rw [ht, List.mem_append, List.mem_singleton] at hs
      rcases hs with k | rfl
      · exact hv s k
      · exact ⟨hb, hne, by omega, hvs⟩
    · exact .inr ⟨z, hr, fun h => absurd h hz, fun h => absurd ⟨(h.each x hxm).rooms, hpa h.names⟩ hz2⟩
  · rw [List.take_of_length_le hge] at hL hv hnm ⊢
    obtain ⟨z, hz, hzm⟩ := apart_iff n hn (l.flatMap TSector.Room) (by omega)
    unfold S14_0
    rw [decide_eq_false (show ¬ (i : Int) < _ by omega), cond_false, hz]
    exact .inr ⟨z, rfl, fun h => ⟨by omega, hv, hnm, hzm.1 h⟩, fun h => hzm.2 h.apart⟩
end Go.Proofs.Ytfncpfnanmoapaa
/- What sectors leave of a box. -/
set_option linter.unusedVariables false
set_option linter.unusedSimpArgs false
namespace Go.Proofs.Ytfncpfnanmoapaa

structure BoxOk (b : TSectorBox) : Prop where
  x0 : -1000000 ≤ b.From_X
  x1 : b.To_X ≤ 1000000
  y0 : -1000000 ≤ b.From_Y
  y1 : b.To_Y ≤ 1000000
  x : b.From_X < b.To_X
  y : b.From_Y < b.To_Y
  lo : 0 ≤ b.Low
  lt : b.Low < b.High
  hi : b.High ≤ 60001
theorem box_val (n : Nat) (hn : 40 < n) (b : TSectorBox) : ∃ z, g17 n b = some z ∧ (z = 0 → BoxOk b) := by
  unfold g17
  refine iterO_rule (S := fun y : Int => S17_0 n (0) b.From_X b.From_Y b.To_X b.To_Y b.Low b.High y) (fun y => ∃ i : Nat, y = (i : Int) ∧ i ≤ 2 ∧ (1 ≤ i → POk ⟨b.From_X, b.From_Y⟩) ∧ (2 ≤ i → POk ⟨b.To_X, b.To_Y⟩)) _ (fun y => 2 - y.toNat) ?_ n 0 ⟨0, rfl, by omega, fun h => by omega, fun h => by omega⟩ (by show 2 - (0 : Int).toNat < n; omega)
  rintro _ ⟨i, rfl, hi, j1, j2⟩
  show (∃ y, S17_0 n (0) b.From_X b.From_Y b.To_X b.To_Y b.Low b.High (i : Int) = some (.inl y) ∧ _ ∧ _) ∨ ∃ r, S17_0 n (0) b.From_X b.From_Y b.To_X b.To_Y b.Low b.High (i : Int) = some (.inr r) ∧ _
  unfold S17_0
  rcases Nat.lt_or_ge i 2 with hlt | hge
  · have hx : ∃ x, ([⟨b.From_X, b.From_Y⟩, ⟨b.To_X, b.To_Y⟩] : List TP)[i]? = some x ∧ (POk x → (1 ≤ i + 1 → POk ⟨b.From_X, b.From_Y⟩) ∧ (2 ≤ i + 1 → POk ⟨b.To_X, b.To_Y⟩)) := by
      match i, hlt with
      | 0, _ => exact ⟨_, rfl, fun h => ⟨fun _ => h, fun h => by omega⟩⟩
      | 1, _ => exact ⟨_, rfl, fun h => ⟨fun _ => j1 (by omega), fun _ => h⟩⟩
    obtain ⟨x, hx, hx2⟩ := hx
    rw [decide_eq_true (show (i : Int) < 2 by omega), cond_true, getI_at hx, Option.bind_some, wS (by omega)]
    rcases pcheck n x with ⟨h1, h2⟩ | ⟨h1, h2⟩
    · rw [h1]
      exact .inl ⟨_, rfl, ⟨i + 1, rfl, by omega, (hx2 h2).1, (hx2 h2).2⟩, by show 2 - ((i + 1 : Nat) : Int).toNat < 2 - (i : Int).toNat; omega⟩
    · rw [h1]
      exact .inr ⟨_, rfl, fun h => by cases h⟩
  · obtain ⟨a1, a2, a3, a4⟩ := j1 (by omega)
    obtain ⟨b1, b2, b3, b4⟩ := j2 (by omega)
    rw [decide_eq_false (show ¬ (i : Int) < 2 by omega), cond_false]
    by_cases c1 : b.From_X ≥ b.To_X
    · rw [decide_eq_true c1]; exact .inr ⟨_, rfl, fun h => by cases h⟩
    by_cases c2 : b.From_Y ≥ b.To_Y
    · rw [decide_eq_false c1, decide_eq_true c2]; exact .inr ⟨_, rfl, fun h => by cases h⟩
    by_cases c3 : b.Low < 0
    · rw [decide_eq_false c1, decide_eq_false c2, decide_eq_true c3]; exact .inr ⟨_, rfl, fun h => by cases h⟩
    by_cases c4 : b.Low ≥ b.High
    · rw [decide_eq_false c1, decide_eq_false c2, decide_eq_false c3, decide_eq_true c4]; exact .inr ⟨_, rfl, fun h => by cases h⟩
    by_cases c5 : b.High > 60001
    · rw [decide_eq_false c1, decide_eq_false c2, decide_eq_false c3, decide_eq_false c4, decide_eq_true c5]; exact .inr ⟨_, rfl, fun h => by cases h⟩
    rw [decide_eq_false c1, decide_eq_false c2, decide_eq_false c3, decide_eq_false c4, decide_eq_false c5]
    exact .inr ⟨_, rfl, fun _ => ⟨a1, b2, a3, b4, by omega, by omega, by omega, by omega, by omega⟩⟩
structure InBox (b : TSectorBox) (v : TVolume) : Prop where
  lo : b.Low ≤ v.Low
  hi : v.High ≤ b.High
  pts : ∀ p ∈ v.Area, b.From_X ≤ p.X ∧ p.X ≤ b.To_X ∧ b.From_Y ≤ p.Y ∧ p.Y ≤ b.To_Y
def volN (v : TVolume) : Int := twiceN v.Area.length (vpt v.Area) * (v.High - v.Low)
def capN (b : TSectorBox) : Int := 2 * (b.To_X - b.From_X) * (b.To_Y - b.From_Y) * (b.High - b.Low)
theorem lsum_map {α β : Type} (f : α → β) (h : β → Int) : ∀ l : List α, lsum (l.map f) h = lsum l fun a => h (f a)
  | [] => rfl
  | a :: l => by show h (f a) + lsum (l.map f) h = h (f a) + lsum l _; rw [lsum_map f h l]
theorem lsum_app {α : Type} (h : α → Int) : ∀ l k : List α, lsum (l ++ k) h = lsum l h + lsum k h
  | [], k => by show lsum k h = 0 + lsum k h; omega
  | a :: l, k => by show h a + lsum (l ++ k) h = h a + lsum l h + lsum k h; rw [lsum_app h l k]; omega
theorem lsum_pos {α : Type} (h : α → Int) : ∀ l : List α, (∀ a ∈ l, 0 < h a) → 0 ≤ lsum l h ∧ (l ≠ [] → 0 < lsum l h)
  | [], _ => ⟨Int.le_refl _, fun h => absurd rfl h⟩
  | a :: l, hp => by
    have h1 := hp a (by simp)
    have h2 := (lsum_pos h l fun b hb => hp b (by simp [hb])).1
    exact ⟨by show 0 ≤ h a + lsum l h; omega, fun _ => by show 0 < h a + lsum l h; omega⟩
theorem Apart.symm {p q : Rm} (h : Apart p q) : Apart q p := ⟨h.1.symm, h.2.2, h.2.1⟩
theorem area_of {b : TSectorBox} {v : TVolume} (hb : BoxOk b) (hv : VolGood v) (hi : InBox b v) : Area v.Area.length (vpt v.Area) b.From_X b.To_X b.From_Y (b.To_Y - b.From_Y).toNat := by
  have h3 := hv.ok.lo
  have hy := hb.y
  refine ⟨hv.poly, hv.area, fun i => ?_, fun i => ?_⟩
  · have := hi.pts _ (vtx_mem (show 0 < v.Area.length by omega) i)
    exact ⟨this.1, this.2.1⟩
  · have := hi.pts _ (vtx_mem (show 0 < v.Area.length by omega) i)
    show b.From_Y ≤ (vtx v.Area i).Y ∧ (vtx v.Area i).Y ≤ _
    omega
theorem vols_le {n : Nat} (hn : 4500 < n) {b : TSectorBox} (hb : BoxOk b) {L : List TVolume} (hv : ∀ v ∈ L, g24 n v = some 0) (hi : ∀ v ∈ L, InBox b v) (hp : L.Pairwise (noOver n)) : lsum L volN ≤ capN b := by
  have hx := hb.x
  have hy := hb.y
  have hz := hb.lt
  have h := vol_le (x0 := b.From_X) (x1 := b.To_X) (y0 := b.From_Y) (H := (b.To_Y - b.From_Y).toNat) (by omega) (lo := b.Low) (D := (b.High - b.Low).toNat) (rs := L.map rmOf) (fun p hp => by
    obtain ⟨v, hv', rfl⟩ := List.mem_map.1 hp
    have g := (vol_good (by omega) (hv v hv')).2
    have i := hi v hv'
    have lt := g.lt
    have lo := i.lo
    have hi := i.hi
    exact ⟨area_of hb g i, lo, by show v.Low ≤ v.High; omega, by show v.High ≤ _; omega⟩) (by
    rw [List.pairwise_map]
    refine hp.imp_of_mem fun {w x} hw hx' h => ?_
    rintro ⟨t, t1, t2, t3, t4⟩
    obtain ⟨r, hr, hQ⟩ := vover_val n x w (hv x hx') (hv w hw) (by omega)
    unfold noOver at h
    rw [hr] at h
    exact (hQ (Option.some.inj h) ⟨t, t3, t4, t1, t2⟩).symm)
  rw [lsum_map] at h
  have e1 : ((b.To_Y - b.From_Y).toNat : Int) = b.To_Y - b.From_Y := by omega
  have e2 : ((b.High - b.Low).toNat : Int) = b.High - b.Low := by omega
  rw [e1, e2] at h
  exact h
theorem cap_bd {b : TSectorBox} (hb : BoxOk b) : 0 ≤ capN b ∧ capN b ≤ 480008000000000000 ∧ 0 ≤ 2 * (b.To_X - b.From_X) * (b.To_Y - b.From_Y) ∧ 2 * (b.To_X - b.From_X) * (b.To_Y - b.From_Y) ≤ 8000000000000 := by
  obtain ⟨a1, a2, a3, a4, a5, a6, a7, a8, a9⟩ := hb
  have m1 : 2 * (b.To_X - b.From_X) * (b.To_Y - b.From_Y) ≤ 4000000 * 2000000 := Int.mul_le_mul (by omega) (by omega) (by omega) (by omega)
  have m0 := w_pp (show 0 ≤ 2 * (b.To_X - b.From_X) by omega) (show 0 ≤ b.To_Y - b.From_Y by omega)
  have m2 : 2 * (b.To_X - b.From_X) * (b.To_Y - b.From_Y) * (b.High - b.Low) ≤ 8000000000000 * 60001 := Int.mul_le_mul (by omega) (by omega) (by omega) (by omega)
  have m3 := w_pp m0 (show 0 ≤ b.High - b.Low by omega)
  exact ⟨m3, by unfold capN; omega, m0, by omega⟩
theorem vol_pos {v : TVolume} (h : VolGood v) : 0 < volN v := m_pp h.area (by have := h.lt; omega)
theorem twice_bd {b : TSectorBox} {v : TVolume} (hb : BoxOk b) (hv : VolGood v) (hi : InBox b v) : twiceN v.Area.length (vpt v.Area) ≤ 2 * (b.To_X - b.From_X) * (b.To_Y - b.From_Y) := by
  have hx := hb.x
  have hy := hb.y
  have h := area_le (x0 := b.From_X) (x1 := b.To_X) (y0 := b.From_Y) (H := (b.To_Y - b.From_Y).toNat) (by omega) (ps := [rmOf v]) (fun p hp => by rw [List.mem_singleton.1 hp]; exact area_of hb hv hi) (List.pairwise_singleton _ _)
  rw [show ((b.To_Y - b.From_Y).toNat : Int) = b.To_Y - b.From_Y by omega] at h
  have h : twiceN v.Area.length (vpt v.Area) + 0 ≤ 2 * (b.To_X - b.From_X) * (b.To_Y - b.From_Y) := h
  omega
/- the corners of one room -/
theorem corner_val (n : Nat) (hn : 4500 < n) (b : TSectorBox) (hb : BoxOk b) (l : List TSector) (c50 v51 : Int) (R : List TVolume) (c57 : Int) (j : Nat) (hj : j < 100) (W : Int) (v : TVolume) (hv : g24 n v = some 0) (lo : b.Low ≤ v.Low) (hi : v.High ≤ b.High) (hW : InBox b v → 0 ≤ W - volN v ∧ W ≤ capN b) :
    ∃ r, iterO (fun y : Int => S6_0_0_0 n (0) W l c50 v51 R c57 (j : Int) v.Area (v.Area.length : Int) b.From_X b.From_Y b.To_X b.To_Y b.Low b.High v.Low v.High y) n (0) = some r ∧ ((r = .inl (W - volN v, ((j + 1 : Nat) : Int)) ∧ InBox b v) ∨ (r = .inr (.inr (0, 19)) ∧ ¬ InBox b v)) := by
  obtain ⟨hc, hg⟩ := vol_good (by omega) hv
  have l1 := hg.ok.lo
  have l2 := hg.ok.hi
  refine iterO_rule (S := fun y : Int => S6_0_0_0 n (0) W l c50 v51 R c57 (j : Int) v.Area (v.Area.length : Int) b.From_X b.From_Y b.To_X b.To_Y b.Low b.High v.Low v.High y) (fun y => ∃ i : Nat, y = (i : Int) ∧ i ≤ v.Area.length ∧ ∀ p ∈ v.Area.take i, b.From_X ≤ p.X ∧ p.X ≤ b.To_X ∧ b.From_Y ≤ p.Y ∧ p.Y ≤ b.To_Y) _ (fun y => v.Area.length - y.toNat) ?_ n 0 ⟨0, rfl, Nat.zero_le _, fun p hp => by rw [List.take_zero] at hp; cases hp⟩ (by show v.Area.length - (0 : Int).toNat < n; omega)
  rintro _ ⟨i, rfl, hil, hin⟩
  show (∃ y, S6_0_0_0 n (0) W l c50 v51 R c57 (j : Int) v.Area (v.Area.length : Int) b.From_X b.From_Y b.To_X b.To_Y b.Low b.High v.Low v.High (i : Int) = some (.inl y) ∧ _ ∧ _) ∨ ∃ r, S6_0_0_0 n (0) W l c50 v51 R c57 (j : Int) v.Area (v.Area.length : Int) b.From_X b.From_Y b.To_X b.To_Y b.Low b.High v.Low v.High (i : Int) = some (.inr r) ∧ _
  unfold S6_0_0_0
  rcases Nat.lt_or_ge i v.Area.length with hlt | hge
  · have hx : v.Area[i]? = some v.Area[i] := List.getElem?_eq_getElem hlt
    generalize v.Area[i] = x at hx
    have hxm := List.mem_of_getElem? hx
    rw [decide_eq_true (show (i : Int) < _ by omega), cond_true, getI_at hx, Option.bind_some, wS (by omega)]
    by_cases c1 : x.X < b.From_X
    · rw [decide_eq_true c1]; exact .inr ⟨_, rfl, .inr ⟨rfl, fun h => by have := h.pts x hxm; omega⟩⟩
    by_cases c2 : x.X > b.To_X
    · rw [decide_eq_false c1, decide_eq_true c2]; exact .inr ⟨_, rfl, .inr ⟨rfl, fun h => by have := h.pts x hxm; omega⟩⟩
    by_cases c3 : x.Y < b.From_Y
    · rw [decide_eq_false c1, decide_eq_false c2, decide_eq_true c3]; exact .inr ⟨_, rfl, .inr ⟨rfl, fun h => by have := h.pts x hxm; omega⟩⟩
    by_cases c4 : x.Y > b.To_Y
    · rw [decide_eq_false c1, decide_eq_false c2, decide_eq_false c3, decide_eq_true c4]; exact .inr ⟨_, rfl, .inr ⟨rfl, fun h => by have := h.pts x hxm; omega⟩⟩
    rw [decide_eq_false c1, decide_eq_false c2, decide_eq_false c3, decide_eq_false c4]
    refine .inl ⟨_, rfl, ⟨i + 1, rfl, hlt, fun p hp => ?_⟩, by show v.Area.length - ((i + 1 : Nat) : Int).toNat < v.Area.length - (i : Int).toNat; omega⟩
    rw [take_at hx, List.mem_append, List.mem_singleton] at hp
    rcases hp with k | rfl
    · exact hin p k
    · omega
  · rw [List.take_of_length_le hge] at hin
    have ib : InBox b v := ⟨lo, hi, hin⟩
    obtain ⟨w1, w2⟩ := hW ib
    have hvp := vol_pos hg
    have cb := cap_bd hb
    have tb := twice_bd hb hg ib
    have ta := hg.area
    have hl := hg.lt
    have h0 := hg.lo
    have h1 := hg.hi
    have hva : g18 n v.Area = some (twiceN v.Area.length (vpt v.Area), 0) := by
      unfold g18
      rw [hc, Option.bind_some, show ((0 : Int) != 0) = false from rfl, cond_false, twice_val n l2 (by omega) hg.ok.pts, Option.bind_some]
    have ev : IntKind.wrap .i64 (twiceN v.Area.length (vpt v.Area) * IntKind.wrap .i64 (v.High - v.Low)) = volN v := by
      rw [wrap64 (z := v.High - v.Low) (by omega) (by omega)]
      exact wrap64 (show _ ≤ volN v by omega) (show volN v ≤ _ by omega)
    rw [decide_eq_false (show ¬ (i : Int) < _ by omega), cond_false, hva, Option.bind_some]
    show (∃ y, some (Sum.inr (Sum.inl (IntKind.wrap .i64 (W - IntKind.wrap .i64 (twiceN v.Area.length (vpt v.Area) * IntKind.wrap .i64 (v.High - v.Low))), IntKind.wrap .i64 ((j : Int) + 1)))) = some (.inl y) ∧ _ ∧ _) ∨ ∃ r, some (Sum.inr (Sum.inl (IntKind.wrap .i64 (W - IntKind.wrap .i64 (twiceN v.Area.length (vpt v.Area) * IntKind.wrap .i64 (v.High - v.Low))), IntKind.wrap .i64 ((j : Int) + 1)))) = some (.inr r) ∧ _
    rw [ev, wrap64 (z := W - volN v) (by omega) (by omega), wS (by omega)]
    exact .inr ⟨_, rfl, .inl ⟨rfl, ib⟩⟩
end Go.Proofs.Ytfncpfnanmoapaa
/- What sectors leave of a box: the value of Left. -/
set_option linter.unusedVariables false
set_option linter.unusedSimpArgs false
namespace Go.Proofs.Ytfncpfnanmoapaa

theorem vols_nn {n : Nat} (hn : 4500 < n) {L : List TVolume} (hv : ∀ v ∈ L, g24 n v = some 0) : 0 ≤ lsum L volN ∧ (L ≠ [] → 0 < lsum L volN) := lsum_pos volN L fun v h => vol_pos (vol_good (by omega) (hv v h)).2
theorem room_sum (n : Nat) (hn : 4500 < n) (b : TSectorBox) (hb : BoxOk b) (l : List TSector) (c50 : Int) (i : Nat) (hi : i < 100) (P : List TVolume) (s : TSector) (hR : s.Room.length ≤ 4) (hv : ∀ v ∈ P ++ s.Room, g24 n v = some 0) (hP : ∀ v ∈ P, InBox b v) (hp : (P ++ s.Room).Pairwise (noOver n)) :
    ∃ r, iterO (fun y : Int × Int => S6_0_0 n (0) l c50 (i : Int) s.Room (s.Room.length : Int) b.From_X b.From_Y b.To_X b.To_Y b.Low b.High y.1 y.2) n (capN b - lsum P volN, (0)) = some r ∧ ((r = .inl (capN b - lsum (P ++ s.Room) volN, ((i + 1 : Nat) : Int)) ∧ ∀ v ∈ s.Room, InBox b v) ∨ (r = .inr (0, 19) ∧ ¬ ∀ v ∈ s.Room, InBox b v)) := by
  refine iterO_rule (S := fun y : Int × Int => S6_0_0 n (0) l c50 (i : Int) s.Room (s.Room.length : Int) b.From_X b.From_Y b.To_X b.To_Y b.Low b.High y.1 y.2) (fun y => ∃ j : Nat, y = (capN b - lsum (P ++ s.Room.take j) volN, (j : Int)) ∧ j ≤ s.Room.length ∧ ∀ v ∈ s.Room.take j, InBox b v) _ (fun y => s.Room.length - y.2.toNat) ?_ n _ ⟨0, by rw [List.take_zero, List.append_nil]; rfl, Nat.zero_le _, fun v h => by rw [List.take_zero] at h; cases h⟩ (by show s.Room.length - (0 : Int).toNat < n; omega)
  rintro _ ⟨j, rfl, hj, hin⟩
  show (∃ y, S6_0_0 n (0) l c50 (i : Int) s.Room (s.Room.length : Int) b.From_X b.From_Y b.To_X b.To_Y b.Low b.High (capN b - lsum (P ++ s.Room.take j) volN) (j : Int) = some (.inl y) ∧ _ ∧ _) ∨ ∃ r, S6_0_0 n (0) l c50 (i : Int) s.Room (s.Room.length : Int) b.From_X b.From_Y b.To_X b.To_Y b.Low b.High (capN b - lsum (P ++ s.Room.take j) volN) (j : Int) = some (.inr r) ∧ _
  unfold S6_0_0
  rcases Nat.lt_or_ge j s.Room.length with hlt | hge
  · have hx : s.Room[j]? = some s.Room[j] := List.getElem?_eq_getElem hlt
    generalize s.Room[j] = x at hx
    have hxm := List.mem_of_getElem? hx
    have ht := take_at hx
    have hpre : ∀ k, ∀ v ∈ P ++ s.Room.take k, v ∈ P ++ s.Room := fun k v h => by
      rcases List.mem_append.1 h with q | q
      · exact List.mem_append_left _ q
      · exact List.mem_append_right _ (List.mem_of_mem_take q)
    have hsm : lsum (P ++ s.Room.take (j + 1)) volN = lsum (P ++ s.Room.take j) volN + volN x := by
      rw [ht, ← List.append_assoc, lsum_app volN (P ++ s.Room.take j)]
      show _ + (volN x + 0) = _
      omega
    have hnn := (vols_nn hn (L := P ++ s.Room.take j) fun v h => hv v (hpre _ v h)).1
    rw [decide_eq_true (show (j : Int) < _ by omega), cond_true, getI_at hx, Option.bind_some]
    by_cases c1 : x.Low < b.Low
    · rw [decide_eq_true c1]; exact .inr ⟨_, rfl, .inr ⟨rfl, fun h => by have := (h x hxm).lo; omega⟩⟩
    by_cases c2 : x.High > b.High
    · rw [decide_eq_false c1, decide_eq_true c2]; exact .inr ⟨_, rfl, .inr ⟨rfl, fun h => by have := (h x hxm).hi; omega⟩⟩
    rw [decide_eq_false c1, decide_eq_false c2, cond_false, cond_false]
    obtain ⟨r, hr, ⟨rfl, h1⟩ | ⟨rfl, h1⟩⟩ := corner_val n hn b hb l c50 (i : Int) s.Room (s.Room.length : Int) j (by omega) (capN b - lsum (P ++ s.Room.take j) volN) x (hv x (List.mem_append_right _ hxm)) (by omega) (by omega) (fun ib => by
      have := vols_le hn hb (L := P ++ s.Room.take (j + 1)) (fun v h => hv v (hpre _ v h)) (fun v h => by
        rw [ht] at h
        rcases List.mem_append.1 h with q | q
        · exact hP v q
        · rcases List.mem_append.1 q with q | q
          · exact hin v q
          · rw [List.mem_singleton.1 q]; exact ib) (hp.sublist (List.Sublist.append (List.Sublist.refl P) (List.take_sublist _ _)))
      rw [hsm] at this
      exact ⟨by omega, by omega⟩)
    · refine .inl ⟨_, hr, ⟨j + 1, by rw [hsm, Int.sub_sub], hlt, fun v h => ?_⟩, by show s.Room.length - ((j + 1 : Nat) : Int).toNat < s.Room.length - (j : Int).toNat; omega⟩
      rw [ht] at h
      rcases List.mem_append.1 h with q | q
      · exact hin v q
      · rw [List.mem_singleton.1 q]; exact h1
    · exact .inr ⟨_, hr, .inr ⟨rfl, fun h => h1 (h x hxm)⟩⟩
  · rw [List.take_of_length_le hge] at hin ⊢
    rw [decide_eq_false (show ¬ (j : Int) < _ by omega), cond_false, wS (by omega)]
    exact .inr ⟨_, rfl, .inl ⟨rfl, hin⟩⟩
structure LeftOk (n : Nat) (l : List TSector) (b : TSectorBox) : Prop where
  sec : SecAll n l
  box : g17 n b = some 0
  ins : ∀ v ∈ l.flatMap TSector.Room, InBox b v
theorem all_rooms {n : Nat} {l : List TSector} (h : SecAll n l) : ∀ v ∈ l.flatMap TSector.Room, g24 n v = some 0 := fun v hv => by
  obtain ⟨s, hs, hv⟩ := List.mem_flatMap.1 hv
  exact (h.each s hs).rooms v hv
theorem left_val (n : Nat) (hn : 4500 < n) (l : List TSector) (b : TSectorBox) : ∃ r, g6 n l b = some r ∧ ((LeftOk n l b ∧ r = (capN b - lsum (l.flatMap TSector.Room) volN, 0)) ∨ (¬ LeftOk n l b ∧ r.2 ≠ 0 ∧ r.1 = 0)) := by
  obtain ⟨z, hz, hzm⟩ := sec_iff n hn l
  obtain ⟨y, hy, hym⟩ := box_val n (by omega) b
  unfold g6
  rw [hz, Option.bind_some]
  rcases Decidable.em (z = 0) with z0 | z0
  rotate_left
  · rw [bne_iff_ne.2 z0, cond_true]
    exact ⟨_, rfl, .inr ⟨fun h => z0 (hzm.2 h.sec), z0, rfl⟩⟩
  subst z0
  rw [show ((0 : Int) != 0) = false from rfl, cond_false, hy, Option.bind_some]
  rcases Decidable.em (y = 0) with y0 | y0
  rotate_left
  · rw [bne_iff_ne.2 y0, cond_true]
    refine ⟨_, rfl, .inr ⟨fun h => y0 ?_, y0, rfl⟩⟩
    have := h.box
    rw [hy] at this
    exact Option.some.inj this
  subst y0
  have sa := hzm.1 rfl
  have hb := hym rfl
  have cb := cap_bd hb
  have e0 : IntKind.wrap .i64 (IntKind.wrap .i64 (IntKind.wrap .i64 (2 * IntKind.wrap .i64 (b.To_X - b.From_X)) * IntKind.wrap .i64 (b.To_Y - b.From_Y)) * IntKind.wrap .i64 (b.High - b.Low)) = capN b := by
    obtain ⟨a1, a2, a3, a4, a5, a6, a7, a8, a9⟩ := hb
    rw [wrap64 (z := b.To_X - b.From_X) (by omega) (by omega), wrap64 (z := 2 * (b.To_X - b.From_X)) (by omega) (by omega), wrap64 (z := b.To_Y - b.From_Y) (by omega) (by omega), wrap64 (z := b.High - b.Low) (by omega) (by omega), wrap64 (z := 2 * (b.To_X - b.From_X) * (b.To_Y - b.From_Y)) (by omega) (by omega)]
    exact wrap64 (show _ ≤ capN b by omega) (show capN b ≤ _ by omega)
  rw [show ((0 : Int) != 0) = false from rfl, cond_false, e0]
  have hrm := all_rooms sa
  have hlen := sa.len
  refine iterO_rule (S := fun y : Int × Int => S6_0 n (0) l (l.length : Int) b.From_X b.From_Y b.To_X b.To_Y b.Low b.High y.1 y.2) (fun y => ∃ i : Nat, y = (capN b - lsum ((l.take i).flatMap TSector.Room) volN, (i : Int)) ∧ i ≤ l.length ∧ ∀ v ∈ (l.take i).flatMap TSector.Room, InBox b v) _ (fun y => l.length - y.2.toNat) ?_ n _ ⟨0, by rw [List.take_zero]; show _ = (capN b - 0, (0 : Int)); rw [Int.sub_zero], Nat.zero_le _, fun v h => by rw [List.take_zero] at h; cases h⟩ (by show l.length - (0 : Int).toNat < n; omega)
  rintro _ ⟨i, rfl, hi, hin⟩
  show (∃ y, S6_0 n (0) l (l.length : Int) b.From_X b.From_Y b.To_X b.To_Y b.Low b.High (capN b - lsum ((l.take i).flatMap TSector.Room) volN) (i : Int) = some (.inl y) ∧ _ ∧ _) ∨ ∃ r, S6_0 n (0) l (l.length : Int) b.From_X b.From_Y b.To_X b.To_Y b.Low b.High (capN b - lsum ((l.take i).flatMap TSector.Room) volN) (i : Int) = some (.inr r) ∧ _
  unfold S6_0
  rcases Nat.lt_or_ge i l.length with hlt | hge
  · have hx : l[i]? = some l[i] := List.getElem?_eq_getElem hlt
    generalize l[i] = x at hx
    have hxm := List.mem_of_getElem? hx
    have hfl : (l.take (i + 1)).flatMap TSector.Room = (l.take i).flatMap TSector.Room ++ x.Room := by rw [take_at hx, List.flatMap_append, List.flatMap_cons, List.flatMap_nil, List.append_nil]
    have hsub : ((l.take i).flatMap TSector.Room ++ x.Room).Sublist (l.flatMap TSector.Room) := by
      rw [← hfl]
      conv => rhs; rw [← List.take_append_drop (i + 1) l, List.flatMap_append]
      exact List.sublist_append_left _ _
    rw [decide_eq_true (show (i : Int) < _ by omega), cond_true, getI_at hx, Option.bind_some]
    obtain ⟨r, hr, ⟨rfl, h1⟩ | ⟨rfl, h1⟩⟩ := room_sum n hn b hb l (l.length : Int) i (by omega) ((l.take i).flatMap TSector.Room) x (sa.each x hxm).len (fun v h => hrm v (hsub.subset h)) hin (sa.apart.sublist hsub)
    · refine .inl ⟨_, hr, ⟨i + 1, by rw [hfl], hlt, fun v h => ?_⟩, by show l.length - ((i + 1 : Nat) : Int).toNat < l.length - (i : Int).toNat; omega⟩
      rw [hfl] at h
      rcases List.mem_append.1 h with q | q
      · exact hin v q
      · exact h1 v q
    · exact .inr ⟨_, hr, .inr ⟨fun h => h1 fun v hv => h.ins v (List.mem_flatMap.2 ⟨x, hxm, hv⟩), by decide, rfl⟩⟩
  · rw [List.take_of_length_le hge] at hin ⊢
    rw [decide_eq_false (show ¬ (i : Int) < _ by omega), cond_false]
    exact .inr ⟨_, rfl, .inl ⟨⟨sa, hy, hin⟩, rfl⟩⟩
end Go.Proofs.Ytfncpfnanmoapaa
/- SectorShares: the plain law. -/
set_option linter.unusedVariables false
set_option linter.unusedSimpArgs false
namespace Go.Proofs.Ytfncpfnanmoapaa

theorem pick_at (n : Nat) (a : Int) (m : Nat) (h0 : 0 < m) (h1 : m ≤ 1000000) : ∃ p : Nat, g7 n a (m : Int) = some (p : Int) ∧ p < m := by
  unfold g7
  have e2 : IntKind.wrap .u64 (m : Int) = (m : Int) := by
    show (m : Int) % (2 ^ 64 : Int) = _
    omega
  have e1 : ∃ u : Nat, IntKind.wrap .u64 a = (u : Int) := ⟨(a % (2 ^ 64 : Int)).toNat, by show a % (2 ^ 64 : Int) = _; omega⟩
  obtain ⟨u, hu⟩ := e1
  have := Nat.mod_lt u h0
  rw [e2, hu, modNat h0, Option.bind_some, wrap64 (by omega) (by omega)]
  exact ⟨_, rfl, this⟩
theorem SecAll.sub {n : Nat} {l k : List TSector} (h : SecAll n l) (hs : k.Sublist l) : SecAll n k := by
  refine ⟨by have := hs.length_le; have := h.len; omega, fun s hs' => h.each s (hs.subset hs'), h.names.sublist hs, h.apart.sublist ?_⟩
  have fm : ∀ {a b : List TSector}, a.Sublist b → (a.flatMap TSector.Room).Sublist (b.flatMap TSector.Room) := fun {a b} hab => by
    induction hab with
    | slnil => exact List.Sublist.refl _
    | cons x _ ih => rw [List.flatMap_cons]; exact ih.trans (List.sublist_append_right _ _)
    | cons_cons x _ ih => rw [List.flatMap_cons, List.flatMap_cons]; exact (List.Sublist.refl _).append ih
  exact fm hs
theorem LeftOk.sub {n : Nat} {l k : List TSector} {b : TSectorBox} (h : LeftOk n l b) (hs : k.Sublist l) : LeftOk n k b := ⟨h.sec.sub hs, h.box, fun v hv => by
  obtain ⟨s, hs', hv⟩ := List.mem_flatMap.1 hv
  exact h.ins v (List.mem_flatMap.2 ⟨s, hs.subset hs', hv⟩)⟩
end Go.Proofs.Ytfncpfnanmoapaa
/- SectorCovers: the plain law. -/
set_option linter.unusedVariables false
set_option linter.unusedSimpArgs false
namespace Go.Proofs.Ytfncpfnanmoapaa

/- where nothing is left, each point has a room -/
theorem vols_cover {n : Nat} (hn : 4500 < n) {b : TSectorBox} (hb : BoxOk b) {L : List TVolume} (hv : ∀ v ∈ L, g24 n v = some 0) (hi : ∀ v ∈ L, InBox b v) (hp : L.Pairwise (noOver n)) (hs : lsum L volN = capN b) (P : Pt) (px : b.From_X ≤ P.x ∧ P.x ≤ b.To_X) (py : b.From_Y ≤ P.y ∧ P.y ≤ b.To_Y) {h : Int} (h1 : b.Low ≤ h) (h2 : h < b.High) : ∃ v ∈ L, v.Low ≤ h ∧ h < v.High ∧ ((∃ i, i < v.Area.length ∧ onB (vpt v.Area i) (vpt v.Area (i + 1)) P) ∨ wx v.Area.length (vpt v.Area) P = 1) := by
  have hx := hb.x
  have hy := hb.y
  have hz := hb.lt
  have e1 : ((b.To_Y - b.From_Y).toNat : Int) = b.To_Y - b.From_Y := by omega
  have e2 : ((b.High - b.Low).toNat : Int) = b.High - b.Low := by omega
  obtain ⟨p, hp1, hp2⟩ := covers_vol (x0 := b.From_X) (x1 := b.To_X) (y0 := b.From_Y) (H := (b.To_Y - b.From_Y).toNat) hx (by omega) (lo := b.Low) (D := (b.High - b.Low).toNat) (rs := L.map rmOf) (fun p hp => by
    obtain ⟨v, hv', rfl⟩ := List.mem_map.1 hp
    have g := (vol_good (by omega) (hv v hv')).2
    have i := hi v hv'
    have lt := g.lt
    have lo := i.lo
    have hi := i.hi
    exact ⟨area_of hb g i, lo, by show v.Low ≤ v.High; omega, by show v.High ≤ _; omega⟩) (by
    rw [List.pairwise_map]
    refine hp.imp_of_mem fun {w x} hw hx' h => ?_
    rintro ⟨t, t1, t2, t3, t4⟩
    obtain ⟨r, hr, hQ⟩ := vover_val n x w (hv x hx') (hv w hw) (by omega)
    unfold noOver at h
    rw [hr] at h
    exact (hQ (Option.some.inj h) ⟨t, t3, t4, t1, t2⟩).symm) (by rw [lsum_map, e1, e2]; exact hs) P px (by omega) (h := h) h1 (by omega)
  obtain ⟨v, hv', rfl⟩ := List.mem_map.1 hp1
  exact ⟨v, hv', hp2⟩
theorem con_val (n : Nat) (hn : 4500 < n) {v : TVolume} (hv : g24 n v = some 0) {x y h : Int} (hP : POk ⟨x, y⟩) : ∃ b, g34 n v x y h = some b ∧ (v.Low ≤ h → h < v.High → ((∃ i, i < v.Area.length ∧ onB (vpt v.Area i) (vpt v.Area (i + 1)) ⟨x, y⟩) ∨ wx v.Area.length (vpt v.Area) ⟨x, y⟩ = 1) → b = true) := by
  have g := (vol_good (by omega) hv).2.ok
  obtain ⟨z, hz, hz2⟩ := place_par n (l := v.Area) (q := ⟨x, y⟩) (by have := g.hi; omega) (by omega) (fun p hp => (g.pts p hp).p2) hP.p2
  unfold g34 g35
  rw [hz, Option.bind_some]
  by_cases c1 : h ≥ v.Low
  · by_cases c2 : h < v.High
    · rw [decide_eq_true c1, decide_eq_true c2]
      refine ⟨_, rfl, fun _ _ hin => decide_eq_true ?_⟩
      rcases hz2 with ⟨-, rfl⟩ | ⟨k1, rfl⟩
      · exact Int.le_refl _
      · rcases hin with ⟨i, k2, k3⟩ | k2
        · exact absurd k3 (k1 i k2)
        · have k2 : wx v.Area.length (vpt v.Area) (pt ⟨x, y⟩) = 1 := k2
          rw [k2]; decide
    · rw [decide_eq_true c1, decide_eq_false c2]
      exact ⟨_, rfl, fun _ q => absurd q c2⟩
  · rw [decide_eq_false c1]
    exact ⟨_, rfl, fun q => absurd q c1⟩
theorem in_room_val (n : Nat) (hn : 4500 < n) {x y h : Int} (hP : POk ⟨x, y⟩) (R : List TVolume) (hR : R.length ≤ 4) (hv : ∀ v ∈ R, g24 n v = some 0) : ∃ b, g33 n R x y h = some b ∧ ((∃ v ∈ R, v.Low ≤ h ∧ h < v.High ∧ ((∃ i, i < v.Area.length ∧ onB (vpt v.Area i) (vpt v.Area (i + 1)) ⟨x, y⟩) ∨ wx v.Area.length (vpt v.Area) ⟨x, y⟩ = 1)) → b = true) := by
  unfold g33 g42
  have e := index_loop (fun v : TVolume => (g34 n v x y h).getD false) R (by omega) (S := fun y' : Int => S42_0 n R x y h (0) (R.length : Int) y') (fun i v hs => by
    have := some_lt hs
    obtain ⟨b, hb, -⟩ := con_val n hn (hv v (List.mem_of_getElem? hs)) hP (h := h)
    show S42_0 n R x y h (0) (R.length : Int) (i : Int) = _
    unfold S42_0
    rw [decide_eq_true (show (i : Int) < _ by omega), cond_true, getI_at hs, Option.bind_some, hb, Option.bind_some, wS (by omega)]
    cases b <;> rfl) (by
    show S42_0 n R x y h (0) (R.length : Int) (R.length : Int) = _
    unfold S42_0
    rw [decide_eq_false (Int.lt_irrefl _)]; rfl) n (by omega)
  rw [e]
  refine ⟨_, rfl, fun ⟨v, hv1, hv2, hv3, hv4⟩ => decide_eq_true (Decidable.byContradiction fun hh => ?_)⟩
  have hh : ¬ idxL (fun v : TVolume => (g34 n v x y h).getD false) R ≥ 0 := hh
  have := (idxL_neg (fun v : TVolume => (g34 n v x y h).getD false) R).1 (by omega) v hv1
  obtain ⟨b, hb, hb2⟩ := con_val n hn (hv v hv1) hP (h := h)
  rw [hb, hb2 hv2 hv3 hv4] at this
  cases this
theorem place_pos (n : Nat) (hn : 4500 < n) (l : List TSector) (hl : SecAll n l) {x y h : Int} (hP : POk ⟨x, y⟩) : ∃ i : Int, g20 n l ⟨x, y⟩ h = some i ∧ -1 ≤ i ∧ i < (l.length : Int) ∧ ((∃ v ∈ l.flatMap TSector.Room, v.Low ≤ h ∧ h < v.High ∧ ((∃ i, i < v.Area.length ∧ onB (vpt v.Area i) (vpt v.Area (i + 1)) ⟨x, y⟩) ∨ wx v.Area.length (vpt v.Area) ⟨x, y⟩ = 1)) → 0 ≤ i) := by
  have hlen := hl.len
  unfold g20 g31
  have one : ∀ s ∈ l, ∃ b, g32 n s x y h = some b ∧ ((∃ v ∈ s.Room, v.Low ≤ h ∧ h < v.High ∧ ((∃ i, i < v.Area.length ∧ onB (vpt v.Area i) (vpt v.Area (i + 1)) ⟨x, y⟩) ∨ wx v.Area.length (vpt v.Area) ⟨x, y⟩ = 1)) → b = true) := fun s hs => by
    obtain ⟨b, hb, hb2⟩ := in_room_val n hn hP (h := h) s.Room (hl.each s hs).len (hl.each s hs).rooms
    refine ⟨b, ?_, hb2⟩
    unfold g32
    rw [hb]; rfl
  have e := index_loop (fun s : TSector => (g32 n s x y h).getD false) l (by omega) (S := fun y' : Int => S31_0 n l x y h (0) (l.length : Int) y') (fun i s hs => by
    have := some_lt hs
    obtain ⟨b, hb2, -⟩ := one s (List.mem_of_getElem? hs)
    show S31_0 n l x y h (0) (l.length : Int) (i : Int) = _
    unfold S31_0
    rw [decide_eq_true (show (i : Int) < _ by omega), cond_true, getI_at hs, Option.bind_some, hb2, Option.bind_some, wS (by omega)]
    cases b <;> rfl) (by
    show S31_0 n l x y h (0) (l.length : Int) (l.length : Int) = _
    unfold S31_0
    rw [decide_eq_false (Int.lt_irrefl _)]; rfl) n (by omega)
  rw [e]
  refine ⟨_, rfl, (idxL_ge _ l).1, (idxL_ge _ l).2, fun ⟨v, hv1, hv2⟩ => Decidable.byContradiction fun hh => ?_⟩
  obtain ⟨s, hs, hvs⟩ := List.mem_flatMap.1 hv1
  have := (idxL_neg (fun s : TSector => (g32 n s x y h).getD false) l).1 (by omega) s hs
  obtain ⟨b, hb, hb2⟩ := one s hs
  rw [hb, hb2 ⟨v, hvs, hv2⟩] at this
  cases this
theorem pick_big (n : Nat) (a : Int) (m : Nat) (h0 : 0 < m) (h1 : m ≤ 1000000000) : ∃ p : Nat, g7 n a (m : Int) = some (p : Int) ∧ p < m := by
  unfold g7
  have e2 : IntKind.wrap .u64 (m : Int) = (m : Int) := by
    show (m : Int) % (2 ^ 64 : Int) = _
    omega
  have e1 : ∃ u : Nat, IntKind.wrap .u64 a = (u : Int) := ⟨(a % (2 ^ 64 : Int)).toNat, by show a % (2 ^ 64 : Int) = _; omega⟩
  obtain ⟨u, hu⟩ := e1
  have := Nat.mod_lt u h0
  rw [e2, hu, modNat h0, Option.bind_some, wrap64 (by omega) (by omega)]
  exact ⟨_, rfl, this⟩
theorem covers_true (n : Nat) (hn : 4500 < n) (l : List TSector) (b : TSectorBox) (p : TP) (i : Int) : g3 n l b p i = some true := by
  unfold g3 g5
  rw [Option.bind_some, Bool.not_true, cond_false]
  obtain ⟨r, hr, ⟨hl, rfl⟩ | ⟨hl, h2, h1⟩⟩ := left_val n hn l b
  rotate_left
  · rw [hr, Option.bind_some, bne_iff_ne.2 h2]
    rfl
  rw [hr, Option.bind_some, show (((0 : Int)) != 0) = false from rfl, cond_false]
  by_cases h0 : capN b - lsum (l.flatMap TSector.Room) volN = 0
  rotate_left
  · show (bif capN b - lsum (l.flatMap TSector.Room) volN != 0 then _ else _) = _
    rw [bne_iff_ne.2 h0]; rfl
  show (bif capN b - lsum (l.flatMap TSector.Room) volN != 0 then _ else _) = _
  rw [h0, show (((0 : Int)) != 0) = false from rfl, cond_false]
  obtain ⟨y, hy, hym⟩ := box_val n (by omega) b
  have hb : BoxOk b := hym (by have := hl.box; rw [hy] at this; exact Option.some.inj this)
  have hbx := hb
  obtain ⟨b1, b2, b3, b4, b5, b6, b7, b8, b9⟩ := hbx
  obtain ⟨u, hu, hul⟩ := pick_big n p.X (b.To_X - b.From_X + 1).toNat (by omega) (by omega)
  obtain ⟨v, hv, hvl⟩ := pick_big n p.Y (b.To_Y - b.From_Y + 1).toNat (by omega) (by omega)
  obtain ⟨T, hT, hT1⟩ : ∃ T : Int, (if (60000 : Int) < b.High then (60000 : Int) else b.High) = T ∧ b.Low ≤ T ∧ T ≤ b.High ∧ T ≤ 60000 ∧ (T < b.High → T = 60000) := by
    by_cases c : (60000 : Int) < b.High
    · exact ⟨60000, if_pos c, by omega, by omega, by omega, fun _ => rfl⟩
    · exact ⟨b.High, if_neg c, by omega, by omega, by omega, fun q => by omega⟩
  obtain ⟨w, hw, hwl⟩ := pick_at n i (T - b.Low + 1).toNat (by omega) (by omega)
  rw [show ((b.To_X - b.From_X + 1).toNat : Int) = b.To_X - b.From_X + 1 by omega] at hu
  rw [show ((b.To_Y - b.From_Y + 1).toNat : Int) = b.To_Y - b.From_Y + 1 by omega] at hv
  rw [show ((T - b.Low + 1).toNat : Int) = T - b.Low + 1 by omega] at hw
  rw [hT, wrap64 (z := b.To_X - b.From_X) (by omega) (by omega), wrap64 (z := b.To_X - b.From_X + 1) (by omega) (by omega), wrap64 (z := b.To_Y - b.From_Y) (by omega) (by omega), wrap64 (z := b.To_Y - b.From_Y + 1) (by omega) (by omega), wrap64 (z := T - b.Low) (by omega) (by omega), wrap64 (z := T - b.Low + 1) (by omega) (by omega), hu, Option.bind_some, hv, Option.bind_some, hw, Option.bind_some, wrap64 (z := b.From_X + u) (by omega) (by omega), wrap64 (z := b.From_Y + v) (by omega) (by omega), wrap64 (z := b.Low + w) (by omega) (by omega)]
  have hP : POk ⟨b.From_X + u, b.From_Y + v⟩ := ⟨by show _ ≤ b.From_X + u; omega, by show b.From_X + u ≤ _; omega, by show _ ≤ b.From_Y + v; omega, by show b.From_Y + v ≤ _; omega⟩
  have hF : ∃ k : Int, g8 n l ⟨b.From_X + u, b.From_Y + v⟩ (b.Low + w) = some (if k < 0 then (0, 8) else (k, 0)) ∧ k < (l.length : Int) ∧ (b.Low + w ≠ b.High → 0 ≤ k) := by
    obtain ⟨k, k1, k2, k3, k4⟩ := place_pos n hn l hl.sec (x := b.From_X + u) (y := b.From_Y + v) (h := b.Low + w) hP
    refine ⟨k, ?_, k3, fun q => k4 (vols_cover hn hb (all_rooms hl.sec) hl.ins hl.sec.apart (by omega) ⟨b.From_X + u, b.From_Y + v⟩ ⟨by show _ ≤ b.From_X + u; omega, by show b.From_X + u ≤ _; omega⟩ ⟨by show _ ≤ b.From_Y + v; omega, by show b.From_Y + v ≤ _; omega⟩ (by omega) (by omega))⟩
    unfold g8
    obtain ⟨z, hz, hzm⟩ := sec_iff n hn l
    rw [hz, hzm.2 hl.sec, Option.bind_some, show (((0 : Int)) != 0) = false from rfl, cond_false]
    rcases pcheck n ⟨b.From_X + u, b.From_Y + v⟩ with ⟨e, -⟩ | ⟨-, e⟩
    · rw [e, Option.bind_some, show (((0 : Int)) != 0) = false from rfl, cond_false, decide_eq_false (show ¬ b.Low + (w : Int) < 0 by omega), cond_false, decide_eq_false (show ¬ b.Low + (w : Int) > 60000 by omega), cond_false, k1, Option.bind_some]
      by_cases c : k < 0
      · rw [decide_eq_true c, cond_true, if_pos c]
      · rw [decide_eq_false c, cond_false, if_neg c]
    · exact absurd hP e
  obtain ⟨k, k1, k2, k3⟩ := hF
  rw [k1, Option.bind_some]
  by_cases c : b.Low + (w : Int) = b.High
  · rw [beq_iff_eq.2 c, cond_true]
  · have := k3 c
    rw [beq_eq_false_iff_ne.2 c, cond_false, if_neg (by omega)]
    show (bif decide (k ≥ 0) then some (decide (k < (l.length : Int))) else some false) = _
    rw [decide_eq_true (show k ≥ 0 by omega), decide_eq_true k2, cond_true]
end Go.Proofs.Ytfncpfnanmoapaa
