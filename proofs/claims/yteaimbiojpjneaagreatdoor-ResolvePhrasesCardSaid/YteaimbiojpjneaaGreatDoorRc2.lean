/- ResolvePhrases as a plain law: all candidates can be said, and no two are the same. -/
import Derived.Test.YteaimbiojpjneaaGreatDoorRc1
set_option linter.unusedVariables false
set_option linter.unusedSimpArgs false
set_option maxHeartbeats 1000000
namespace Go.Proofs.YteaimbiojpjneaaGreatDoor

def dom (p : Int × Int) : Prop := (p.1 = 0 ∨ p.1 = 1 ∨ p.1 = 2) ∧ -3 ≤ p.2 ∧ p.2 ≤ 3
def full : List (Int × Int) := six 1 ++ six 2 ++ six 3
theorem full_dom : ∀ p ∈ full, dom p := by
  have h : (full.all fun p => decide ((p.1 = 0 ∨ p.1 = 1 ∨ p.1 = 2) ∧ -3 ≤ p.2 ∧ p.2 ≤ 3)) = true := by decide
  intro p hp
  exact of_decide_eq_true (p := (p.1 = 0 ∨ p.1 = 1 ∨ p.1 = 2) ∧ -3 ≤ p.2 ∧ p.2 ≤ 3) (List.all_eq_true.1 h p hp)
theorem full_nodup : full.Nodup := by decide
theorem cf_inj {call : ByteArray} {H S A : Int} {p q : Int × Int} (hp : dom p) (hq : dom q) (h : cf call H S A p = cf call H S A q) : p = q := by
  obtain ⟨a, b⟩ := p
  obtain ⟨c, d⟩ := q
  obtain ⟨h1, h2, h3⟩ := hp
  obtain ⟨g1, g2, g3⟩ := hq
  dsimp only at h1 h2 h3 g1 g2 g3
  rcases h1 with rfl | rfl | rfl <;> rcases g1 with rfl | rfl | rfl <;> simp only [cf, TClearance.mk.injEq] at h <;> first
    | (exfalso; revert h; simp; done)
    | (have : b = d := by
         simp at h
         omega
       rw [this])
theorem list_nodup {call : ByteArray} {H S A : Int} {ok : Int × Int → Prop} {J : List (Int × Int)} (h : Sb ok full J) : (J.map (cf call H S A)).Nodup := by
  have hn : J.Nodup := h.1.nodup full_nodup
  have hd : ∀ p ∈ J, dom p := fun p hp => full_dom p (h.1.subset hp)
  unfold List.Nodup at *
  rw [List.pairwise_map]
  refine List.Pairwise.imp_of_mem ?_ hn
  intro a b ha hb hab e
  exact hab (cf_inj (hd a ha) (hd b hb) e)
theorem name_call {n : Nat} {call : ByteArray} (hn : 16 < n) (h : g8 n ⟨call, 0, 0, ⟨#[]⟩⟩ = some 0) : g30 n call = some true := by
  obtain ⟨b, hb⟩ := pname_tot n hn call
  cases b with
  | true => exact hb
  | false =>
    unfold g8 at h
    rw [hb] at h
    cases h
theorem check_of {n : Nat} {call : ByteArray} (h : g30 n call = some true) {k v m : Int} (hk : (k = 0 ∧ m = 60000) ∨ (k = 1 ∧ m = 4095) ∨ (k = 2 ∧ m = 400)) (h0 : 0 ≤ v) (h1 : v ≤ m) : g8 n ⟨call, k, v, ⟨#[]⟩⟩ = some 0 := by
  unfold g8
  rw [h]
  have e0 : (!((⟨#[]⟩ : ByteArray).toList == (⟨#[]⟩ : ByteArray).toList)) = false := by rw [beq_self_eq_true]; rfl
  have eg : getI ([60000, 4095, 400] : List Int) k = some m := by
    rcases hk with ⟨rfl, rfl⟩ | ⟨rfl, rfl⟩ | ⟨rfl, rfl⟩ <;> rfl
  simp only [Option.bind_some, Bool.not_true, cond_false]
  rw [decide_eq_false (show ¬ k < 0 by omega), decide_eq_false (show ¬ k > 6 by omega), decide_eq_false (show ¬ k > 2 by omega)]
  simp only [cond_false]
  rw [e0, cond_false, decide_eq_false (show ¬ v < 0 by omega), cond_false, eg, Option.bind_some, decide_eq_false (show ¬ v > m by omega), cond_false]
theorem cindex_eq (n : Nat) (o : List TClearance) (c : TClearance) (hl : o.length ≤ 1000000) (hn : o.length < n) : g31 n o c = some (idxL (fun x => decide (c = x)) o) := by
  unfold g31
  refine index_loop (fun x => decide (c = x)) o (by omega) (S := fun y : Int => S31_0 n o (0) (o.length : Int) c.Call c.Kind c.Value c.Fix y) (fun j x hx => ?_) ?_ n hn
  · have := some_lt hx
    unfold S31_0
    rw [decide_eq_true (show (j : Int) < _ by omega), getI_at hx, wS (by omega)]
    simp only [cond_true, Option.bind_some]
    by_cases h : c = x
    · subst h; simp
    · rw [decide_eq_false h]; rfl
  · unfold S31_0
    simp
theorem ccontains_no (n : Nat) (o : List TClearance) (c : TClearance) (hl : o.length ≤ 1000000) (hn : o.length < n) (h : c ∉ o) : g9 n o c = some false := by
  unfold g9
  rw [cindex_eq n o c hl hn, Option.bind_some]
  have e := (idxL_neg (fun x => decide (c = x)) o).2 fun x hx => decide_eq_false (by rintro rfl; exact h hx)
  rw [decide_eq_false (show ¬ idxL (fun x => decide (c = x)) o ≥ 0 by omega)]
theorem course_val (n : Nat) (hn : 4100 < n) (l : List TTubeNode) (ok : TubeOk l) (now : TTubeNode) (hb : NodeB now) : ∃ (h s : Int) (b : Bool), g27 n l now = some (h, s, b) ∧ (0 ≤ h ∧ h ≤ 4095) ∧ (0 ≤ s ∧ s ≤ 3000000) := by
  have hlen := ok.len
  obtain ⟨r, e, h, s, b, rfl, h1, h2⟩ := iterO_rule (S := fun y : Int => S27_0 n (0) false l (l.length : Int) now.Node_Time now.Node_At_X now.Node_At_Y now.Node_Height now.Radius now.Band y) (fun y => ∃ i : Nat, y = (i : Int) ∧ i ≤ l.length) (fun r => ∃ (h s : Int) (b : Bool), r = (h, s, b) ∧ (0 ≤ h ∧ h ≤ 4095) ∧ (0 ≤ s ∧ s ≤ 3000000)) (fun y => l.length - y.toNat) (fun y ⟨i, hy, hi⟩ => by
    subst hy
    unfold S27_0
    rcases Nat.lt_or_ge i l.length with c | c
    · have hx : l[i]? = some l[i] := List.getElem?_eq_getElem c
      have bx := ok.nodes _ (List.mem_of_getElem? hx)
      generalize hX : l[i] = x at *
      rw [decide_eq_true (by omega), cond_true, getI_at hx, Option.bind_some]
      by_cases c2 : x.Node_Time > now.Node_Time
      · rw [decide_eq_true c2, cond_true]
        refine .inr ?_
        obtain ⟨f, cc, ed, f0, f1, f2, f3, -⟩ := dist_val n (by omega) (⟨now.Node_At_X, now.Node_At_Y⟩ : TP) (⟨x.Node_At_X, x.Node_At_Y⟩ : TP) hb.2.2.1 bx.2.2.1
        unfold g55
        rw [Option.bind_some]
        obtain ⟨h, e, eo, h0, h1⟩ := of_tot n hn (⟨IntKind.wrap .i64 (x.Node_At_X - now.Node_At_X), IntKind.wrap .i64 (x.Node_At_Y - now.Node_At_Y)⟩ : TP)
        have t1 := bx.2.1
        have t0 := hb.1
        have hv0 : 0 ≤ f / (x.Node_Time - now.Node_Time) := Int.ediv_nonneg f0 (by omega)
        have hv1 : f / (x.Node_Time - now.Node_Time) ≤ f := Int.ediv_le_self _ f0
        have hd : divO f (IntKind.wrap .i64 (x.Node_Time - now.Node_Time)) = some (f / (x.Node_Time - now.Node_Time)) := by
          rw [wrap64 (by omega) (by omega)]
          simp only [divO, if_neg (show ¬ x.Node_Time - now.Node_Time = 0 by omega)]
          rw [Int.tdiv_eq_ediv_of_nonneg f0]
        rw [eo, Option.bind_some, ed, Option.bind_some, hd, Option.bind_some, wrap64 (by omega) (by omega)]
        exact ⟨_, rfl, _, _, _, rfl, ⟨h0, h1⟩, hv0, by omega⟩
      · rw [decide_eq_false c2, cond_false]
        have nx : IntKind.wrap .i64 ((i : Int) + 1) = ((i + 1 : Nat) : Int) := wS (by omega)
        exact .inl ⟨_, rfl, ⟨i + 1, nx, by omega⟩, by rw [nx]; omega⟩
    · rw [decide_eq_false (by omega), cond_false]
      exact .inr ⟨_, rfl, _, _, _, rfl, ⟨by decide, by decide⟩, by decide, by decide⟩) n 0 ⟨0, rfl, by omega⟩ (by show l.length - 0 < n; omega)
  exact ⟨h, s, b, e, h1, h2⟩
theorem cand_cases (n : Nat) (hn : 4100 < n) (call : ByteArray) (l : List TTubeNode) (t : Int) (k : TKind) : (∃ z, z ≠ 0 ∧ g7 n call l t k = some ([], z)) ∨
    ∃ (H S A : Int) (J : List (Int × Int)), g7 n call l t k = some (J.map (cf call H S A), 0) ∧ Sb (okP H S k) full J ∧ g30 n call = some true ∧ k.Ceiling ≤ 60000 ∧ 1 ≤ k.Slow ∧ k.Fast ≤ 400 := by
  unfold g7
  rcases check_tot n (by omega) l with ⟨ec, ok⟩ | ⟨z, hz, ec⟩
  rotate_left
  · rw [ec, Option.bind_some, bne_iff_ne.2 hz, cond_true]; exact .inl ⟨z, hz, rfl⟩
  rw [ec, Option.bind_some, show ((0 : Int) != 0) = false from rfl, cond_false]
  obtain ⟨z, ek, hk⟩ := craft_tot n (by omega) k
  rw [ek, Option.bind_some]
  by_cases c1 : z = 0
  rotate_left
  · rw [bne_iff_ne.2 c1, cond_true]; exact .inl ⟨z, c1, rfl⟩
  subst c1
  rw [show ((0 : Int) != 0) = false from rfl, cond_false]
  obtain ⟨-, -, -, -, k1, k2, -, k3⟩ := hk rfl
  have hp := ok.pos
  have h0 : l[0]? = some l[0] := List.getElem?_eq_getElem hp
  have h1 : l[l.length - 1]? = some l[l.length - 1] := List.getElem?_eq_getElem (by omega)
  rcases At_cases n (by omega) l ok ec t _ _ h0 h1 with ⟨t0, t1, -⟩ | ⟨-, e2⟩
  rotate_left
  · rw [e2, Option.bind_some]
    exact .inl ⟨12, by decide, rfl⟩
  obtain ⟨now, e2, hb, -, -⟩ := At_seg n (by omega) l ok ec t _ _ h0 h1 t0 t1
  rw [e2, Option.bind_some]
  dsimp only
  rw [show ((0 : Int) != 0) = false from rfl, cond_false]
  obtain ⟨w, ew⟩ := phrase_tot n (by omega) ⟨call, 0, 0, ⟨#[]⟩⟩
  rw [ew, Option.bind_some]
  by_cases c2 : w = 0
  rotate_left
  · rw [bne_iff_ne.2 c2, cond_true]; exact .inl ⟨w, c2, rfl⟩
  subst c2
  rw [show ((0 : Int) != 0) = false from rfl, cond_false]
  obtain ⟨A, S, mv, eq, hA, hS⟩ := course_val n hn l ok now hb
  rw [eq, Option.bind_some]
  obtain ⟨J, hJ, er⟩ := rounds n hn call S A mv k now ⟨hb.2.2.2.1, hb.2.2.2.2.1⟩ hS hA
  exact .inr ⟨now.Node_Height, S, A, J, er, hJ, name_call (by omega) ew, k3, k1, k2⟩
theorem phrases_law (l : List TTubeNode) (call : ByteArray) (t : Int) (k : TKind) : g3 5000 l call t k = some true := by
  unfold g3 g6
  rw [Option.bind_some, Bool.not_true, cond_false]
  rcases cand_cases 5000 (by decide) call l t k with ⟨z, hz, e⟩ | ⟨H, S, A, J, e, hJ, en, k3, k1, k2⟩
  · rw [e, Option.bind_some]
    dsimp only
    rw [bne_iff_ne.2 hz, cond_true]
    rfl
  rw [e, Option.bind_some]
  dsimp only
  rw [show ((0 : Int) != 0) = false from rfl, cond_false]
  have hnd := list_nodup (call := call) (H := H) (S := S) (A := A) hJ
  have hlen : (J.map (cf call H S A)).length ≤ 18 := by rw [List.length_map]; exact hJ.len
  have hgood : ∀ c ∈ J.map (cf call H S A), c.Call = call ∧ g8 5000 c = some 0 := by
    intro c hc
    obtain ⟨p, hp, rfl⟩ := List.mem_map.1 hc
    obtain ⟨d1, d2, d3⟩ := full_dom p (hJ.1.subset hp)
    obtain ⟨o1, o2⟩ := hJ.2 p hp
    unfold cf
    by_cases c0 : p.1 = 0
    · rw [if_pos c0]
      have := o1 c0
      exact ⟨rfl, check_of en (.inl ⟨rfl, rfl⟩) (by omega) (by omega)⟩
    · rw [if_neg c0]
      by_cases c2 : p.1 = 2
      · rw [if_pos c2]
        have := o2 c2
        exact ⟨rfl, check_of en (.inr (.inr ⟨rfl, rfl⟩)) (by omega) (by omega)⟩
      · rw [if_neg c2]
        exact ⟨rfl, check_of en (.inr (.inl ⟨rfl, rfl⟩)) (by omega) (by omega)⟩
  generalize J.map (cf call H S A) = L at *
  refine iterO_eq (S := fun y : Int => S3_0 5000 call false L (L.length : Int) y) (fun y => ∃ i : Nat, y = (i : Int) ∧ i ≤ L.length) true (fun y => L.length - y.toNat) (fun y ⟨i, hy, hi⟩ => ?_) 5000 0 ⟨0, rfl, by omega⟩ (by show L.length - 0 < 5000; omega)
  subst hy
  unfold S3_0
  rcases Nat.lt_or_ge i L.length with c | c
  · have hx : L[i]? = some L[i] := List.getElem?_eq_getElem c
    obtain ⟨g1, g2⟩ := hgood _ (List.getElem_mem c)
    have hni : L[i] ∉ L.take i := by
      intro hm
      obtain ⟨j, hj, ej⟩ := List.getElem_of_mem hm
      rw [List.length_take] at hj
      rw [List.getElem_take] at ej
      have := (List.nodup_iff_pairwise_ne.1 hnd)
      exact (List.pairwise_iff_getElem.1 this j i (by omega) c (by omega)) ej
    generalize L[i] = X at *
    rw [decide_eq_true (by omega), cond_true, getI_at hx, Option.bind_some, g1, beq_self_eq_true, Bool.not_true, cond_false, g2, Option.bind_some, show ((0 : Int) != 0) = false from rfl, cond_false]
    have es : sliceO L none (some (i : Int)) = some (L.take i) := by
      unfold sliceO
      simp only [Option.getD_none, Option.getD_some]
      rw [if_pos (by omega)]
      simp
    rw [es, Option.bind_some, ccontains_no 5000 (L.take i) X (by rw [List.length_take]; omega) (by rw [List.length_take]; omega) hni, Option.bind_some, cond_false]
    have nx : IntKind.wrap .i64 ((i : Int) + 1) = ((i + 1 : Nat) : Int) := wS (by omega)
    exact .inl ⟨_, rfl, ⟨i + 1, nx, by omega⟩, by rw [nx]; omega⟩
  · rw [decide_eq_false (by omega), cond_false, decide_eq_true (by omega)]
    exact .inr rfl
end Go.Proofs.YteaimbiojpjneaaGreatDoor
