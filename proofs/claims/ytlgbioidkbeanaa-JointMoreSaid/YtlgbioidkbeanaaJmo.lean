/- JointMore, walked by hand. -/
import Derived.Test.YtlgbioidkbeanaaCq
import Derived.Test.YtlgbioidkbeanaaX1E3
import Derived.Test.YtlgbioidkbeanaaJfH
import Derived.Deep.RegionLaw
set_option linter.unusedVariables false
set_option linter.unusedSimpArgs false
namespace Go.Proofs.Ytlgbioidkbeanaa
open Go.RowKit Go.Shelf

theorem rel_up {w : World} {x : AV} {v : Value} (r : VRel (cxA (fun _ => False) w) x v) (q : clean x = true) : VRel (cxA (fun k => w.heap.size ≤ k) w) x v := rel_no r q (fun b hb h => by omega)
theorem rels_old {w W W' : World} (hk : Kept w W) (hk' : Kept w W') {x : List AV} {vs : List Value} (r : Rels (cxA (fun k => w.heap.size ≤ k) W) x vs) (q : cleans x = true) : Rels (cxA (fun _ => False) W') x vs := by
  refine r.moved (c := cxA (fun k => w.heap.size ≤ k) W) (c' := cxA (fun _ => False) W') (fun b ⟨q1, q2, q3⟩ => ?_) (fun b o vs ⟨q1, q2, q3⟩ hc j v hv => ?_) q
  · have q3 : ¬ w.heap.size ≤ b := q3
    exact ⟨by have := hk'.size; show b < W'.heap.size; omega, cxA_own b, fun h => h⟩
  · have q3 : ¬ w.heap.size ≤ b := q3
    rw [← hc j v hv]
    simp only [World.cell?]
    rw [show (cxA (fun _ => False) W').w = W' from rfl, show (cxA (fun k => w.heap.size ≤ k) W).w = W from rfl, hk'.blk b (by omega), hk.blk b (by omega)]
theorem rows_encs : ∀ l : List (List TJointOption), encs (lstE TJointOption.E) l = l.map (lstA TJointOption.E)
  | [] => rfl
  | r :: l => by rw [encs_cons, rows_encs l]; rfl
theorem rels_set {c : Cx} : ∀ {xs : List AV} {vs : List Value}, Rels c xs vs → ∀ (i : Nat) (x : AV) (v : Value), VRel c x v → Rels c (xs.set i x) (vs.set i v)
  | _, _, .nil, _, _, _, _ => .nil
  | _, _, .cons h t, 0, x, v, r => .cons r t
  | _, _, .cons h t, i + 1, x, v, r => .cons h (rels_set t i x v r)
theorem new2k {W w2 : World} {x y : Value} {T : TypeId} (hk : Kept ((W.alloc (.cells #[x, y] T)).drew) w2) : ∀ j u, ([x, y] : List Value)[j]? = some u → w2.cell? ((⟨W.heap.size, 0, none⟩ : Addr).add j) = some u := by
  intro j u hu
  have hb : ((⟨W.heap.size, 0, none⟩ : Addr).add j).block = W.heap.size := by unfold Addr.add; split <;> rfl
  refine (hk.cell ?_).trans (new2 W x y T j u hu)
  rw [hb]
  show W.heap.size < (W.alloc _).heap.size
  simp
theorem own_le {w : World} {base b' : Nat} {e : TypeId} {sz : Nat} {v : Value} {k : Nat} {xs : List Value} (h : w.ownsRow base e sz v k xs) (hb : b' ≤ base) : w.ownsRow b' e sz v k xs :=
  ⟨h.1, h.2.imp id fun ⟨g, cap, cur, q1, q2, q3⟩ => ⟨g, cap, cur, q1, Nat.le_trans hb q2, q3⟩⟩
theorem more_fin {w w4 w7 w8 : World} {l : List (List TJointOption)} {row : List TJointOption} {o : TJointOption} {P L g mc bb : Nat} {mcs rcs : List Value} {v8 tv : Value} (hL : l.length = L) (hP : P < L)
    (hk4 : Kept w w4) (hk7 : Kept w w7) (hk8 : Kept w w8) (hg : w.heap.size ≤ g) (hgb : g < bb) (hown : w8.ownsRow w.heap.size 43 1 (.slice (some ⟨g, 0, none⟩) L mc) L mcs) (hrel : Rels (cxA (fun k => w.heap.size ≤ k) w4) (encs (lstE TJointOption.E) l) mcs)
    (hown8 : w8.ownsRow bb 39 2 v8 (row.length + 1) (rcs ++ [.int .i64 o.Cost, tv])) (hrel8 : Rels (cxA (fun k => w.heap.size ≤ k) w7) (encs TJointOption.E row) rcs) (ht : VRel (cxA (fun k => w.heap.size ≤ k) w) (lstA TTubeNode.E o.Tube) tv) :
    VRel (cxA (fun _ => False) (w8.setCell ⟨g, P, none⟩ v8)) (lstA (lstE TJointOption.E) (l.set P (row ++ [o]))) (.slice (some ⟨g, 0, none⟩) L mc) ∧ Kept w (w8.setCell ⟨g, P, none⟩ v8) := by
  have hk9 : Kept w (w8.setCell ⟨g, P, none⟩ v8) := hk8.set _ hg _
  refine ⟨?_, hk9⟩
  have hrow9 : (w8.setCell ⟨g, P, none⟩ v8).ownsRow bb 39 2 v8 (row ++ [o]).length (rcs ++ [.int .i64 o.Cost, tv]) := by
    have hl : (row ++ [o]).length = row.length + 1 := by simp
    rw [hl]
    refine ⟨hown8.1, ?_⟩
    rcases hown8.2 with q | ⟨gb, cap, cur, q1, q2, q3, q4⟩
    · exact .inl q
    · refine .inr ⟨gb, cap, cur, q1, q2, ?_, q4⟩
      rw [Below.heap_setCell _ _ _ _ (by show gb ≠ g; omega)]
      exact q3
  have hcells : Rels (cxA (fun _ => False) (w8.setCell ⟨g, P, none⟩ v8)) (encs TJointOption.E (row ++ [o])) (rcs ++ [.int .i64 o.Cost, tv]) := by
    have e : encs TJointOption.E (row ++ [o]) = encs TJointOption.E row ++ [intA o.Cost, lstA TTubeNode.E o.Tube] := by simp [encs, TJointOption.E]
    rw [e]
    exact (rels_old hk7 hk9 hrel8 (encs_clean _)).append (.cons (.sc _ rfl) (rels_old (Kept.refl w) hk9 (.cons ht .nil) (by simp [cleans, clean, encs_clean])))
  have hv8 := own_rel (no := fun _ => False) (E := TJointOption.E) hrow9 hcells (fun k h => h.elim)
  have hlen : (l.set P (row ++ [o])).length = L := by simp [hL]
  have hown9 := (hown.stored P v8).1
  refine own_rel (no := fun _ => False) (E := lstE TJointOption.E) (l := l.set P (row ++ [o])) (by rw [hlen]; exact hown9) ?_ (fun k h => h.elim)
  rw [rows_encs, List.map_set, ← rows_encs]
  exact rels_set (rels_old hk4 hk9 hrel (encs_clean _)) P _ _ hv8
/- JointMore as a plain program -/
def moreT (n : Nat) (l : List (List TJointOption)) (s : TSep) (o : TJointOption) (b : List Int × Int × Int) (p : Int) : Option Bool :=
  if 0 ≤ p ∧ p < (l.length : Int) ∧ l.length * 24 ≤ 140737488355328 ∧ ((l.getD p.toNat []).length + 1) * 32 ≤ 140737488355328 then
    (g9 n (l.set p.toNat (l.getD p.toNat [] ++ [o])) s).bind fun c => some (b.2.2 != 0 || c.2.2 != 0 || decide (c.2.1 ≤ b.2.1))
  else none
def gMore (n : Nat) (l : List (List TJointOption)) (s : TSep) (o : TJointOption) (i : Int) : Option Bool :=
  (g8 n l).bind fun w => bif !w then some true else
  if l = [] then some true else
  (g12 n [o.Tube] 1 100).bind fun v => bif !v then some true else
  (g9 n l s).bind fun b =>
  (g14 n i (l.length : Int)).bind fun p => moreT n l s o b p
set_option maxRecDepth 100000 in
set_option maxHeartbeats 8000000 in
theorem more_calls {w : World} {n : Nat} {l : List (List TJointOption)} {s : TSep} {o : TJointOption} {i : Int} {r : Bool} (h : gMore n l s o i = some r) {lv tv : Value} (hl : VRel (cxA (fun _ => False) w) (lstA (lstE TJointOption.E) l) lv) (ht : VRel (cxA (fun _ => False) w) (lstA TTubeNode.E o.Tube) tv) :
    Calls Try.prog 4 #[lv, .agg #[.int .i64 s.Lateral, .int .i64 s.Vertical], .agg #[.int .i64 o.Cost, tv], .int .i64 i] w fun e w' => e = .returned (.bool r) ∧ Kept w w' := by
  obtain ⟨la, lc, rfl⟩ := slice_lenE hl
  obtain ⟨ta, tc, rfl⟩ := slice_lenE ht
  generalize hTl : o.Tube.length = tl at *
  obtain ⟨V0, hV0⟩ : ∃ V0, (w.alloc (.cells #[.int .i64 s.Lateral, .int .i64 s.Vertical] 24)).alloc (.cells #[.int .i64 o.Cost, .slice ta tl tc] 39) = V0 := ⟨_, rfl⟩
  have hK0 : Kept w V0 := by rw [← hV0]; exact ((Kept.refl _).al _).al _
  have hs0 : V0.heap.size = w.heap.size + 2 := by rw [← hV0]; simp
  have b1 : V0.heap[w.heap.size]? = some (.cells #[.int .i64 s.Lateral, .int .i64 s.Vertical] 24 (0, 0)) := by
    rw [← hV0]
    exact (Below.heap_alloc _ _ _ (by simp)).trans (World.alloc_heap_new _ _)
  have b2 : V0.heap[w.heap.size + 1]? = some (.cells #[.int .i64 o.Cost, .slice ta tl tc] 39 (0, 0)) := by
    rw [← hV0]
    have := World.alloc_heap_new (w.alloc (.cells #[.int .i64 s.Lateral, .int .i64 s.Vertical] 24)) (.cells #[.int .i64 o.Cost, .slice ta tl tc] 39)
    rwa [World.size_alloc] at this
  unfold gMore at h
  obtain ⟨fw, hfw, h⟩ := Option.bind_eq_some_iff.1 h
  have hcF := fun W (hk : Kept w W) => says_kK (sg7 (n := 0) rfl) (w := w) .nil W hk
  have hcW := fun W (hk : Kept w W) => says_kK (sg8 hfw) (w := w) (.cons hl .nil) W hk
  generalize hL : l.length = L at *
  cases fw with
  | false =>
    cases h
    clear hl ht hfw
    go_enter Try.func4, Try.ntmps4
    go_wp2_with fail
    refine (hcF V0 hK0).mono ?_
    rintro e w1 ⟨v1, rfl, hk1, hv1⟩
    obtain rfl := bool_of hv1
    go_wp2_with fail
    refine (hcW w1 (hK0.trans hk1)).mono ?_
    rintro e w2 ⟨v2, rfl, hk2, hv2⟩
    obtain rfl := bool_of hv2
    clear hcF hcW hv1 hv2
    go_wp2_with fail
    refine bodyPost_ret (results_tmp rfl _ _ _) rfl ?_
    exact ⟨rfl, (hK0.trans hk1).trans hk2⟩
  | true =>
  rw [Bool.not_true, cond_false] at h
  by_cases h0 : l = []
  · rw [if_pos h0] at h
    cases h
    have hL0 : L = 0 := by rw [← hL, h0]; rfl
    subst hL0
    clear hl ht hfw h0 hL
    go_enter Try.func4, Try.ntmps4
    go_wp2_with fail
    refine (hcF V0 hK0).mono ?_
    rintro e w1 ⟨v1, rfl, hk1, hv1⟩
    obtain rfl := bool_of hv1
    go_wp2_with fail
    refine (hcW w1 (hK0.trans hk1)).mono ?_
    rintro e w2 ⟨v2, rfl, hk2, hv2⟩
    obtain rfl := bool_of hv2
    clear hcF hcW hv1 hv2
    go_wp2_with fail
    refine bodyPost_ret (results_tmp rfl _ _ _) rfl ?_
    exact ⟨rfl, (hK0.trans hk1).trans hk2⟩
  rw [if_neg h0] at h
  have hLpos : 0 < L := by rw [← hL]; exact List.length_pos_iff.2 h0
  have hLb : ((L : Int) == 0) = false := by simp; omega
  obtain ⟨sm, hsm, h⟩ := Option.bind_eq_some_iff.1 h
  -- the literal of one tube
  have tub1 : ∀ W, Kept w W → VRel (cxA (fun _ => False) (W.alloc (.cells #[.slice ta tl tc] 37))) (lstA (lstE TTubeNode.E) [o.Tube]) (.slice (some ⟨W.heap.size, 0, none⟩) 1 1) := fun W hk => by
    refine own_rel (base := 0) (T := 37) (cs := [.slice ta tl tc]) ⟨rfl, .inr ⟨W.heap.size, 1, #[.slice ta tl tc], rfl, Nat.zero_le _, World.alloc_heap_new _ _, Nat.le_refl _, by decide, rfl, rfl⟩⟩ ?_ (fun k q => q.elim)
    exact .cons (((hk.al _).kno _).rel ht (lstA_clean _ _)) .nil
  have hcS := fun W (hk : Kept w W) => says_kK (sg12 hsm) (.cons (tub1 W hk) (.cons (.sc _ rfl) (.cons (.sc _ rfl) .nil))) _ (Kept.refl _)
  have HT := Lib.hid (And.intro hl ht)
  clear tub1
  cases sm with
  | false =>
    cases h
    clear hl ht hfw h0 hLpos hsm
    go_enter Try.func4, Try.ntmps4
    go_wp2_with fail
    refine (hcF V0 hK0).mono ?_
    rintro e w1 ⟨v1, rfl, hk1, hv1⟩
    obtain rfl := bool_of hv1
    go_wp2_with fail
    refine (hcW w1 (hK0.trans hk1)).mono ?_
    rintro e w2 ⟨v2, rfl, hk2, hv2⟩
    obtain rfl := bool_of hv2
    have hk02 := hk1.trans hk2
    obtain ⟨c1, c2⟩ := both2 ((hk02.blk _ (heap_lt b2)).trans b2)
    clear hcF hcW hv1 hv2
    go_wp2_with fail
    refine (hcS w2 (hK0.trans hk02)).mono ?_
    rintro e w3 ⟨v3, rfl, hk3, hv3⟩
    obtain rfl := bool_of hv3
    clear hcS hv3
    go_wp2_with fail
    refine bodyPost_ret (results_tmp rfl _ _ _) rfl ?_
    exact ⟨rfl, ((hK0.trans hk02).al _).trans hk3⟩
  | true =>
  rw [Bool.not_true, cond_false] at h
  obtain ⟨b, hb, h⟩ := Option.bind_eq_some_iff.1 h
  obtain ⟨p, hp, h⟩ := Option.bind_eq_some_iff.1 h
  unfold moreT at h
  split at h
  case isFalse => cases h
  rename_i hcond
  obtain ⟨hp0, hpL, hroom1, hroom2⟩ := hcond
  obtain ⟨P, rfl⟩ : ∃ P : Nat, p = (P : Int) := ⟨p.toNat, (Int.toNat_of_nonneg hp0).symm⟩
  rw [Int.toNat_natCast] at h hroom2
  obtain ⟨c, hc, h9⟩ := Option.bind_eq_some_iff.1 h
  clear h
  have hrow : l[P]? = some (l.getD P []) := by
    have : P < l.length := by omega
    simp [List.getD, this]
  generalize l.getD P [] = row at *
  have hPL : (P : Int) < (L : Int) := by omega
  have hcB := fun W (hk : Kept w W) => best_calls sgJ hb ((hk.kno _).rel hl (lstA_clean _ _))
  have hcC := fun W (hk : Kept w W) => callsIn_wide.1 (cloneRow ((hk.kno (fun k => w.heap.size ≤ k)).rel (rel_up hl (lstA_clean _ _)) (lstA_clean _ _)) (by rw [hL] at *; exact hroom1) (by omega) 0)
  have hcP := fun W => says_kK (sg14 hp) (w := W) (.cons (.sc _ rfl) (.cons (.sc _ rfl) .nil)) W (Kept.refl _)
  rw [hL] at hcC
  clear hfw hsm hb hp
  go_enter Try.func4, Try.ntmps4
  go_wp2_with fail
  refine (hcF V0 hK0).mono ?_
  rintro e w1 ⟨v1, rfl, hk1, hv1⟩
  obtain rfl := bool_of hv1
  go_wp2_with fail
  refine (hcW w1 (hK0.trans hk1)).mono ?_
  rintro e w2 ⟨v2, rfl, hk2, hv2⟩
  obtain rfl := bool_of hv2
  have hk02 := hk1.trans hk2
  obtain ⟨c1, c2⟩ := both2 ((hk02.blk _ (heap_lt b2)).trans b2)
  clear hcF hcW hv1 hv2
  go_wp2_with fail
  refine (hcS w2 (hK0.trans hk02)).mono ?_
  rintro e w3 ⟨v3, rfl, hk3, hv3⟩
  obtain rfl := bool_of hv3
  have hk03 := (hk02.al (.cells #[.slice ta tl tc] 37)).trans hk3
  clear hcS hv3 c1 c2 hV0
  have b13 := (hk03.blk _ (heap_lt b1)).trans b1
  have b23 := (hk03.blk _ (heap_lt b2)).trans b2
  obtain ⟨c1, c2⟩ := both2 b13
  go_wp2_with fail
  refine (hcB w3 (hK0.trans hk03)).mono ?_
  rintro e w4 ⟨bv, rfl, hk4, -⟩
  clear c1 c2 hcB
  have hk04 := hk03.trans hk4
  go_wp2_with fail
  refine (hcC w4 (hK0.trans hk04)).mono ?_
  rintro e w5 ⟨mv, mcs, rfl, hk5, hown5, hrel5⟩
  obtain ⟨ma, mc, rfl⟩ := own_slice hown5
  clear hcC
  have hk05 := hk04.trans hk5
  go_wp2_with fail
  refine (hcP w5).mono ?_
  rintro e w6 ⟨v6, rfl, hk6, hv6⟩
  obtain rfl := int_of2 hv6
  clear hcP hv6
  have hk06 := hk05.trans hk6
  have hkw6 := hK0.trans hk06
  have hkw4 := hK0.trans hk04
  have hown6 := own_kept hown5 hk6
  obtain ⟨g, hma, hg4⟩ : ∃ g, ma = some ⟨g, 0, none⟩ ∧ w4.heap.size ≤ g ∧ g < w6.heap.size := by
    rcases hown6.2 with ⟨q1, q2⟩ | ⟨g, cap, cur, q1, q2, q3, q4⟩
    · omega
    · cases q1
      exact ⟨g, rfl, q2, heap_lt q3⟩
  subst hma
  obtain ⟨hg4, hg6⟩ := hg4
  have hsz4 := hkw4.size
  -- the row that is made longer
  obtain ⟨rv, hrv1, hrv2⟩ : ∃ rv, mcs[P]? = some rv ∧ VRel (cxA (fun k => w.heap.size ≤ k) w4) (lstA TJointOption.E row) rv := by
    have h1 := encs_at (E := lstE TJointOption.E) hrow 0 (by decide)
    have h1 : (encs (lstE TJointOption.E) l)[P]? = some (lstA TJointOption.E row) := by
      rw [rows_encs, List.getElem?_map, hrow]; rfl
    obtain ⟨v', q1, q2⟩ := hrel5.get h1
    exact ⟨v', q1, q2⟩
  obtain ⟨ra, rc, rfl⟩ := slice_lenE hrv2
  generalize hrl : row.length = rl at *
  have hcellP : ∀ W, Kept w6 W → W.cell? ⟨g, P, none⟩ = some (.slice ra rl rc) := fun W hk => by
    have h1 : w6.cell? ⟨g, P, none⟩ = some (.slice ra rl rc) := by
      have := hown6.cells (g := g) rfl P _ hrv1
      rwa [show (⟨g, 0, none⟩ : Addr).add P = ⟨g, P, none⟩ by unfold Addr.add; split <;> simp_all] at this
    rw [← h1]
    exact hk.cell hg6
  have hfrP : ∀ W, Kept w6 W → W.frozen? ⟨g, P, none⟩ = false := fun W hk => by
    have h1 := hown6.frozenAt P
    rw [← h1]
    simp only [World.frozen?, hk.blk g hg6]
  have hcR : ∀ W, Kept w6 W → Calls Try.prog 15 #[.slice ra rl rc] W fun e w' => ∃ v' cs, e = .returned v' ∧ Kept W w' ∧ w'.ownsRow W.heap.size 39 2 v' rl cs ∧ Rels (cxA (fun k => w.heap.size ≤ k) W) (encs TJointOption.E row) cs := fun W hk => by
    have := callsIn_wide.1 (cloneOpt (((((hk5.trans hk6).trans hk).kno _).rel hrv2 (lstA_clean _ _))) (by omega) (by omega) 0)
    rw [hrl] at this
    exact this
  have b26 := (hk06.blk _ (heap_lt b2)).trans b2
  have b16 := (hk06.blk _ (heap_lt b1)).trans b1
  obtain ⟨i0, hi, hzz⟩ := Option.bind_eq_some_iff.1 infoOpt
  obtain ⟨z0, hz0, hzz⟩ := Option.map_eq_some_iff.1 hzz
  simp only [Prod.mk.injEq] at hzz
  obtain ⟨hzc, hz1, hz2⟩ := hzz
  have CP := Lib.hid hcellP
  have FP := Lib.hid hfrP
  have y1 : ∀ n, (w6.drewN n).cell? ⟨g, P, none⟩ = some (.slice ra rl rc) := fun n => hcellP _ ((Kept.refl w6).drewN n)
  have y2 := hcellP _ (Kept.refl w6).drew
  obtain ⟨y3, y4⟩ := both2 (show w6.drew.heap[w.heap.size + 1]? = some (.cells #[.int .i64 o.Cost, .slice ta tl tc] 39 (0, 0)) from b26)
  obtain ⟨y5, y6⟩ := both2 b26
  have y7 := hcellP _ (((Kept.refl w6).al (.cells #[.int .i64 o.Cost, .slice ta tl tc] 39)).drew)
  have hL6 : (P : Int) < (L : Int) := hPL
  clear hcellP hfrP
  go_wp2_with fail
  go_region_law (first
    | (go_simp; go_at_call 15; refine (hcR _ (Kept.refl w6).drew).mono ?_; rintro e w7 ⟨v7, rcs, rfl, hk7, hown7, hrel7⟩; obtain ⟨xa, xc, rfl⟩ := own_slice hown7; obtain ⟨y8, y9⟩ := both2 ((((Kept.refl w6).drew.trans hk7).blk _ (heap_lt b26)).trans b26))
    | (go_simp; go_at_call 15; refine (hcR _ (((Kept.refl w6).al _).drew)).mono ?_; rintro e w7 ⟨v7, rcs, rfl, hk7, hown7, hrel7⟩; obtain ⟨xa, xc, rfl⟩ := own_slice hown7)
    | (refine step_append_d rfl _ _ 43 rfl _ 39 i0 z0 2 32 Try.underlying43 hi hz0 hz1 hz2 hzc (by decide) (.slice xa rl xc) rl rcs (by rfl) (hown7.alloc _) ⟨w7.heap.size, 0, none⟩ 1 1 [.int .i64 o.Cost, .slice ta tl tc] (by rfl) rfl (new2 _ _ _ _) (by intro u hu; simp at hu; rcases hu with rfl | rfl <;> rfl) (by simp only [maxLen]; omega) (by omega) (by rw [World.size_alloc]; exact Nat.le_succ_of_le hk7.size) ?_; intro v8 w8 hown8 hgrow8 hdr8; have hk68 : Kept w6 w8 := kept_grown ((Kept.refl w6).drew.trans hk7) hgrow8 (fun b hb => own_ge hown7 b hb) hdr8; obtain ⟨va, vc, rfl⟩ := own_slice hown8; have z1 := CP.out w8 hk68; have z2 := FP.out w8 hk68)
    | (refine step_append_d rfl _ _ 43 rfl _ 39 i0 z0 2 32 Try.underlying43 hi hz0 hz1 hz2 hzc (by decide) (.slice xa rl xc) rl rcs (by rfl) hown7 ⟨w6.heap.size, 0, none⟩ 1 1 [.int .i64 o.Cost, .slice ta tl tc] (by rfl) rfl (new2k (W := w6) hk7) (by intro u hu; simp at hu; rcases hu with rfl | rfl <;> rfl) (by simp only [maxLen]; omega) (by omega) hk7.size ?_; intro v8 w8 hown8 hgrow8 hdr8; have hk68 : Kept w6 w8 := kept_grown0 ((((Kept.refl w6).al _).drew).trans hk7) hgrow8 (fun b hb => Nat.le_trans (Nat.le_of_lt (by simp [World.drew])) (own_ge hown7 b hb)) hdr8; obtain ⟨va, vc, rfl⟩ := own_slice hown8; have z1 := CP.out w8 hk68; have z2 := FP.out w8 hk68))
  all_goals
    have hkw8 := hkw6.trans hk68
    have hPn : P < L := by omega
    have hbb : g < w6.drew.heap.size := hg6
    have hown8r : w8.ownsRow w6.heap.size 39 2 (.slice va (rl + 1) vc) (row.length + 1) (rcs ++ [.int .i64 o.Cost, .slice ta tl tc]) := by
      rw [hrl]
      exact own_le hown8 (by first | exact Nat.le_refl _ | exact Nat.le_of_lt (by simp [World.drew]))
    have hfin := more_fin (mc := mc) hL hPn hkw4 (by first | exact hkw6.trans (Kept.refl w6).drew | exact hkw6.trans (((Kept.refl w6).al _).drew)) hkw8 (by omega) hg6 (own_le (own_kept hown6 hk68) hsz4) hrel5 hown8r hrel7 (rel_up ht (lstA_clean _ _))
    have hw1 : (w8.setCell ⟨g, P, none⟩ (.slice va (rl + 1) vc)).heap[w.heap.size]? = some (.cells #[.int .i64 s.Lateral, .int .i64 s.Vertical] 24 (0, 0)) := by
      rw [Below.heap_setCell _ _ _ _ (by show w.heap.size ≠ g; have := hk4.size; have := hk03.size; omega)]
      exact (hk68.blk _ (heap_lt b16)).trans b16
    obtain ⟨w9, hw9⟩ : ∃ w9, w8.setCell ⟨g, P, none⟩ (.slice va (rl + 1) vc) = w9 := ⟨_, rfl⟩
    rw [hw9] at hfin hw1 ⊢
    obtain ⟨hrel9, hkw9⟩ := hfin
    have hcB2 := best_calls sgJ hc hrel9
    obtain ⟨u1, u2⟩ := both2 hw1
    have hre := Option.some.inj h9
    have HRE := Lib.hid hre
    clear hrel9 hw9 hw1 hown8 hown8r hrel7 hown7 hown6 hown5 hrel5 hcR h9 hre z1 z2 y1 y2 y3 y4 y5 y6 y7
    generalize b.2.2 = be at *
    generalize b.2.1 = bz at *
    obtain ⟨cb, cz, ce⟩ := c
    simp only at HRE hcB2
    go_wp2_with fail
    refine hcB2.mono ?_
    rintro e w10 ⟨v10, rfl, hk10, -⟩
    clear hcB2 u1 u2
    have hfk := hkw9.trans hk10
    cases e1 : (be != 0) with
    | true =>
      go_wp2_with fail
      refine bodyPost_ret (results_tmp rfl _ _ _) rfl ?_
      refine ⟨?_, hfk⟩
      rw [← HRE.out, e1]
      rfl
    | false =>
      cases e2 : (ce != 0) with
      | true =>
        go_wp2_with fail
        refine bodyPost_ret (results_tmp rfl _ _ _) rfl ?_
        refine ⟨?_, hfk⟩
        rw [← HRE.out, e1, e2]
        rfl
      | false =>
        go_wp2_with fail
        refine bodyPost_ret (results_tmp rfl _ _ _) rfl ?_
        refine ⟨?_, hfk⟩
        rw [← HRE.out, e1, e2]
        rfl
end Go.Proofs.Ytlgbioidkbeanaa
