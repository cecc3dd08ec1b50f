/- A tube that starts later: the same visits, later. -/
import Derived.Test.YtldiackagnjlgaaSc5
set_option linter.unusedVariables false
set_option linter.unusedSimpArgs false
namespace Go.Proofs.Ytldiackagnjlgaa

def shT (d : Int) (x : TTubeNode) : TTubeNode := ⟨x.Node_Time + d, x.Node_At_X, x.Node_At_Y, x.Node_Height, x.Radius, x.Band⟩
def shV (d : Int) (v : TSectorVisit) : TSectorVisit := ⟨v.Sector, v.From + d, v.To + d⟩
theorem shift_cases (n : Nat) (hn : 100 < n) (t : List TTubeNode) (d : Int) : (∃ r, g17 n t (⟨0, 0⟩ : TP) d = some r ∧ r.2 ≠ 0) ∨
    (TubeOk t ∧ g28 n t = some 0 ∧ -200000 ≤ d ∧ d ≤ 200000 ∧ TubeOk (t.map (shT d)) ∧ g28 n (t.map (shT d)) = some 0 ∧ g17 n t (⟨0, 0⟩ : TP) d = some (t.map (shT d), 0)) := by
  unfold g17
  rcases check_tot n (by omega) t with ⟨hc, ht⟩ | ⟨y, hy, hc⟩
  case inr => rw [hc, Option.bind_some, bne_iff_ne.2 hy, cond_true]; exact .inl ⟨_, rfl, hy⟩
  rw [hc, Option.bind_some, show ((0 : Int) != 0) = false from rfl, cond_false]
  simp only [show decide ((0 : Int) < -2000000) = false from rfl, show decide ((0 : Int) > 2000000) = false from rfl, cond_false]
  by_cases d0 : d < -200000
  · rw [decide_eq_true d0, cond_true]; exact .inl ⟨_, rfl, by decide⟩
  by_cases d1 : d > 200000
  · rw [decide_eq_false d0, cond_false, decide_eq_true d1, cond_true]; exact .inl ⟨_, rfl, by decide⟩
  have hl := ht.len
  rw [decide_eq_false d0, decide_eq_false d1, cond_false, cond_false, room_of (by omega) (by omega), Option.bind_some]
  have hend : ∀ r, iterO (fun y : Int × List TTubeNode => S17_0 n d (0) (t.length : Int) (0) (0) y.1 y.2) n ((0), t) = some r → _ := fun r h => h
  obtain ⟨r, hr, hQ⟩ := iterO_rule (S := fun y : Int × List TTubeNode => S17_0 n d (0) (t.length : Int) (0) (0) y.1 y.2) (fun y => ∃ i : Nat, i ≤ t.length ∧ y = ((i : Int), (t.take i).map (shT d) ++ t.drop i)) (fun r => r.2 ≠ 0 ∨ (TubeOk (t.map (shT d)) ∧ g28 n (t.map (shT d)) = some 0 ∧ r = (t.map (shT d), 0))) (fun y => t.length - y.1.toNat) (by
    rintro _ ⟨i, hi, rfl⟩
    show (∃ y, S17_0 n d (0) (t.length : Int) (0) (0) (i : Int) ((t.take i).map (shT d) ++ t.drop i) = some (.inl y) ∧ _ ∧ _) ∨ ∃ r, S17_0 n d (0) (t.length : Int) (0) (0) (i : Int) ((t.take i).map (shT d) ++ t.drop i) = some (.inr r) ∧ _
    unfold S17_0
    rcases Nat.lt_or_ge i t.length with hlt | hge
    · left
      have hx : t[i]? = some t[i] := List.getElem?_eq_getElem hlt
      have hdr := List.drop_eq_getElem_cons hlt
      have hlm : ((t.take i).map (shT d)).length = i := by rw [List.length_map, List.length_take]; omega
      generalize t[i] = x at hx hdr
      obtain ⟨b1, b2, hpo, -⟩ := ht.nodes x (List.mem_of_getElem? hx)
      have b3 : -1000000 ≤ x.Node_At_X ∧ x.Node_At_X ≤ 1000000 ∧ -1000000 ≤ x.Node_At_Y ∧ x.Node_At_Y ≤ 1000000 := hpo
      rw [hdr]
      have hg : ((t.take i).map (shT d) ++ x :: t.drop (i + 1))[i]? = some x := by
        rw [List.getElem?_append_right (by omega), hlm, Nat.sub_self]; rfl
      have hlen : i < ((t.take i).map (shT d) ++ x :: t.drop (i + 1)).length := some_lt hg
      rw [decide_eq_true (show (i : Int) < _ by omega), cond_true, getI_at hg, Option.bind_some]
      unfold g34
      simp only [Option.bind_some, Int.toNat_natCast, Int.add_zero]
      rw [getI_set hlen, Option.bind_some, Option.bind_some, List.set_set, wS (by omega), wrap64 (z := x.Node_Time + d) (by omega) (by omega), wrap64 (z := x.Node_At_X) (by omega) (by omega), wrap64 (z := x.Node_At_Y) (by omega) (by omega)]
      refine ⟨_, rfl, ⟨i + 1, hlt, ?_⟩, by show t.length - ((i + 1 : Nat) : Int).toNat < t.length - (i : Int).toNat; omega⟩
      congr 1
      rw [List.set_append_right _ _ (by omega), hlm, Nat.sub_self, List.set_cons_zero]
      have : t.take (i + 1) = t.take i ++ [x] := by rw [List.take_add_one, hx]; rfl
      rw [this, List.map_append]
      simp [shT]
    · right
      have hi' : i = t.length := by omega
      subst hi'
      rw [decide_eq_false (Int.lt_irrefl _), cond_false, List.take_length, List.drop_length, List.append_nil]
      rcases check_tot n (by omega) (t.map (shT d)) with ⟨hc2, ht2⟩ | ⟨y, hy, hc2⟩
      · rw [hc2]
        exact ⟨_, rfl, .inr ⟨ht2, by trivial, rfl⟩⟩
      · rw [hc2, Option.bind_some, bne_iff_ne.2 hy, cond_true]
        exact ⟨_, rfl, .inl hy⟩) n ((0), t) ⟨0, Nat.zero_le _, rfl⟩ (by show t.length - (0 : Int).toNat < n; omega)
  rcases hQ with k | ⟨k1, k2, rfl⟩
  · exact .inl ⟨r, hr, k⟩
  · exact .inr ⟨ht, by trivial, by omega, by omega, k1, k2, hr⟩
theorem getI_map {α β : Type} (f : α → β) (l : List α) (i : Int) : getI (l.map f) i = (getI l i).map f := by
  unfold getI
  split
  · rw [List.getElem?_map]
  · rfl
/- the node at a later time -/
theorem at_shift (n : Nat) (t : List TTubeNode) (u d : Int) : g43 n (t.map (shT d)) (u + d) = (g43 n t u).map (shT d) := by
  have hs : g64 n (t.map (shT d)) (u + d) = g64 n t u := by
    unfold g64
    rw [List.length_map]
    congr 1
    funext y
    unfold S64_0
    simp only [getI_map]
    have hc : ∀ x, g65 n (shT d x) (u + d) = g65 n x u := fun x => by
      unfold g65 shT
      simp only
      congr 2
      omega
    have hb : ∀ {γ : Type} (o : Option TTubeNode) (f : Int → Option γ), ((o.map (shT d)).bind fun x => (g65 n x (u + d)).bind f) = o.bind fun x => (g65 n x u).bind f := fun o f => by
      cases o with
      | none => rfl
      | some x => simp only [Option.map_some, Option.bind_some, hc]
    simp only [hb]
  unfold g43
  rw [hs]
  cases g64 n t u with
  | none => rfl
  | some q =>
    simp only [Option.bind_some]
    cases q.2 with
    | true =>
      simp only [cond_true, getI_map]
      cases getI t q.1 <;> rfl
    | false =>
      simp only [cond_false, getI_map]
      cases getI t (IntKind.wrap .i64 (q.1 - 1)) with
      | none => rfl
      | some a =>
      cases getI t q.1 with
      | none => rfl
      | some b =>
        simp only [Option.map_some, Option.bind_some]
        have e1 : u + d - (shT d a).Node_Time = u - a.Node_Time := by unfold shT; simp only; omega
        have e2 : (shT d b).Node_Time - (shT d a).Node_Time = b.Node_Time - a.Node_Time := by unfold shT; simp only; omega
        rw [e1, e2]
        show ((g66 n (⟨a.Node_At_X, a.Node_At_Y⟩ : TP) (⟨b.Node_At_X, b.Node_At_Y⟩ : TP) (IntKind.wrap .i64 (u - a.Node_Time)) (IntKind.wrap .i64 (b.Node_Time - a.Node_Time))).bind _) = _
        cases g66 n (⟨a.Node_At_X, a.Node_At_Y⟩ : TP) (⟨b.Node_At_X, b.Node_At_Y⟩ : TP) (IntKind.wrap .i64 (u - a.Node_Time)) (IntKind.wrap .i64 (b.Node_Time - a.Node_Time)) with
        | none => rfl
        | some p1 =>
        simp only [Option.bind_some]
        show ((g67 n (IntKind.wrap .i64 ((IntKind.wrap .i64 (b.Node_Height - a.Node_Height)) * (IntKind.wrap .i64 (u - a.Node_Time)))) (IntKind.wrap .i64 (b.Node_Time - a.Node_Time))).bind _) = _
        cases g67 n (IntKind.wrap .i64 ((IntKind.wrap .i64 (b.Node_Height - a.Node_Height)) * (IntKind.wrap .i64 (u - a.Node_Time)))) (IntKind.wrap .i64 (b.Node_Time - a.Node_Time)) with
        | none => rfl
        | some p2 =>
        simp only [Option.bind_some]
        show ((g68 n (IntKind.wrap .i64 ((IntKind.wrap .i64 (b.Radius - a.Radius)) * (IntKind.wrap .i64 (u - a.Node_Time)))) (IntKind.wrap .i64 (b.Node_Time - a.Node_Time))).bind _) = _
        cases g68 n (IntKind.wrap .i64 ((IntKind.wrap .i64 (b.Radius - a.Radius)) * (IntKind.wrap .i64 (u - a.Node_Time)))) (IntKind.wrap .i64 (b.Node_Time - a.Node_Time)) with
        | none => rfl
        | some p3 =>
        simp only [Option.bind_some]
        show ((g68 n (IntKind.wrap .i64 ((IntKind.wrap .i64 (b.Band - a.Band)) * (IntKind.wrap .i64 (u - a.Node_Time)))) (IntKind.wrap .i64 (b.Node_Time - a.Node_Time))).bind _) = _
        cases g68 n (IntKind.wrap .i64 ((IntKind.wrap .i64 (b.Band - a.Band)) * (IntKind.wrap .i64 (u - a.Node_Time)))) (IntKind.wrap .i64 (b.Node_Time - a.Node_Time)) with
        | none => rfl
        | some p4 => rfl
theorem add_shift (d : Int) (L : List TSectorVisit) (i u : Int) : visAdd (L.map (shV d)) i (u + d) = (visAdd L i u).map (shV d) := by
  rcases List.eq_nil_or_concat L with rfl | ⟨Q, q, e⟩
  · rfl
  · rw [List.concat_eq_append] at e
    subst e
    rw [List.map_append]
    show visAdd (Q.map (shV d) ++ [shV d q]) i (u + d) = _
    rw [add_last, add_last]
    show (if q.Sector = i then _ else _) = _
    by_cases h : q.Sector = i
    · rw [if_pos h, if_pos h, List.map_append]; rfl
    · rw [if_neg h, if_neg h, List.map_append, List.map_append]; rfl
theorem go_shift (n : Nat) (l : List TSector) (t : List TTubeNode) (d : Int) : ∀ (k : Nat) (u : Int) (L : List TSectorVisit), visGo n l (t.map (shT d)) k (u + d) (L.map (shV d)) = (visGo n l t k u L).map (List.map (shV d))
  | 0, u, L => rfl
  | k + 1, u, L => by
    simp only [visGo]
    rw [at_shift]
    cases g43 n t u with
    | none => rfl
    | some x =>
      simp only [Option.map_some, Option.bind_some]
      show ((g32 n l (⟨x.Node_At_X, x.Node_At_Y⟩ : TP) x.Node_Height).bind _) = _
      cases g32 n l (⟨x.Node_At_X, x.Node_At_Y⟩ : TP) x.Node_Height with
      | none => rfl
      | some i =>
        simp only [Option.bind_some]
        have := go_shift n l t d k (u + 1) (visAdd L i x.Node_Time)
        rw [← this, ← add_shift, show u + d + 1 = u + 1 + d by omega]
        rfl
theorem shifts_law (l : List TSector) (t : List TTubeNode) (d : Int) : g6 5000 l t d = some true := by
  unfold g6
  rw [show g9 5000 = some true from rfl, Option.bind_some, Bool.not_true, cond_false]
  rcases small_cases 5000 (by omega) [t] 1 400 (by simp) (by simp) with ⟨hsm, hs⟩ | hsm
  case inr => rw [hsm]; rfl
  rw [hsm, Option.bind_some, Bool.not_true, cond_false]
  have hshort := (hs t (List.mem_singleton_self t)).2.2
  clear hs hsm
  rcases shift_cases 5000 (by omega) t d with ⟨r, e, hr⟩ | ⟨ht, hc, d0, d1, ht2, hc2, e⟩
  · rw [e, Option.bind_some, bne_iff_ne.2 hr, cond_true]
  rw [e, Option.bind_some]
  simp only [show ((0 : Int) != 0) = false from rfl, cond_false]
  have hp := ht.pos
  have htl := ht.len
  have h0 : t[0]? = some t[0] := List.getElem?_eq_getElem (by omega)
  have h1 : t[t.length - 1]? = some t[t.length - 1] := List.getElem?_eq_getElem (by omega)
  generalize t[0] = x0 at h0
  generalize t[t.length - 1] = x1 at h1
  have g0 : (t.map (shT d))[0]? = some (shT d x0) := by rw [List.getElem?_map, h0]; rfl
  have g1 : (t.map (shT d))[(t.map (shT d)).length - 1]? = some (shT d x1) := by rw [List.length_map, List.getElem?_map, h1]; rfl
  have hsh := hshort x0 x1 h0 h1
  have b0 := ht.nodes x0 (List.mem_of_getElem? h0)
  have b1 := ht.nodes x1 (List.mem_of_getElem? h1)
  have hle := ht.le' (Nat.zero_le _) h0 h1
  obtain ⟨z, hz, kz⟩ := sec_check 5000 (by omega) l
  have hw : IntKind.wrap .i64 ((t.length : Int) - 1) = ((t.length - 1 : Nat) : Int) := by rw [wrap64 (by omega) (by omega)]; omega
  by_cases z0 : z = 0
  case neg =>
    have p : ∀ s, g11 5000 l s = some ([], z) := fun s => by
      unfold g11
      rw [hz, Option.bind_some, bne_iff_ne.2 z0, cond_true]
    rw [p, p, Option.bind_some, Option.bind_some]
    simp only [show (z != z) = false from by simp, cond_false]
    rfl
  have hl := kz z0
  obtain ⟨r, hr, hV⟩ := visits_val 5000 (by omega) l hl t ht hc x0 x1 h0 h1
  have hr2 : g29 5000 l (t.map (shT d)) = some (r.map (shV d)) := by
    have q0 := ht2.nodes _ (List.mem_of_getElem? g0)
    have q1 := ht2.nodes _ (List.mem_of_getElem? g1)
    unfold g29 at hr ⊢
    rw [hc, Option.bind_some, show ((0 : Int) != 0) = false from rfl, cond_false, ends_val 5000 t ht x0 x1 h0 h1, Option.bind_some] at hr
    rw [hc2, Option.bind_some, show ((0 : Int) != 0) = false from rfl, cond_false, ends_val 5000 _ ht2 _ _ g0 g1, Option.bind_some]
    simp only at hr ⊢
    rw [if_pos ⟨b0.1, hle, by have := b1.2.1; omega, htl⟩] at hr
    rw [if_pos ⟨q0.1, by unfold shT; simp only; omega, by have := q1.2.1; omega, by rw [List.length_map]; exact htl⟩]
    have e2 : ((shT d x1).Node_Time - (shT d x0).Node_Time + 1).toNat = (x1.Node_Time - x0.Node_Time + 1).toNat := by unfold shT; simp only; congr 1; omega
    rw [e2]
    have := go_shift 5000 l t d (x1.Node_Time - x0.Node_Time + 1).toNat x0.Node_Time []
    rw [hr] at this
    exact this
  have pt : g11 5000 l t = some (r, 0) := by
    unfold g11
    rw [hz, z0, Option.bind_some, show ((0 : Int) != 0) = false from rfl, cond_false, hc, Option.bind_some, show ((0 : Int) != 0) = false from rfl, cond_false, hw, getI_at h1, Option.bind_some, getI_0 h0, Option.bind_some, wrap64 (z := x1.Node_Time - x0.Node_Time) (by omega) (by omega), decide_eq_false (show ¬ x1.Node_Time - x0.Node_Time > 20000 by omega), cond_false, hr]
    rfl
  have pu : g11 5000 l (t.map (shT d)) = some (r.map (shV d), 0) := by
    unfold g11
    have hw2 : IntKind.wrap .i64 (((t.map (shT d)).length : Int) - 1) = (((t.map (shT d)).length - 1 : Nat) : Int) := by rw [List.length_map]; exact hw
    have e3 : (shT d x1).Node_Time - (shT d x0).Node_Time = x1.Node_Time - x0.Node_Time := by unfold shT; simp only; omega
    rw [hz, z0, Option.bind_some, show ((0 : Int) != 0) = false from rfl, cond_false, hc2, Option.bind_some, show ((0 : Int) != 0) = false from rfl, cond_false, hw2, getI_at g1, Option.bind_some, getI_0 g0, Option.bind_some, e3, wrap64 (z := x1.Node_Time - x0.Node_Time) (by omega) (by omega), decide_eq_false (show ¬ x1.Node_Time - x0.Node_Time > 20000 by omega), cond_false, hr2]
    rfl
  have hrl : r.length ≤ 401 := by
    have hrp : 0 < r.length := List.length_pos_iff.2 hV.ne
    have key : ∀ (i : Nat) (v : TSectorVisit), r[i]? = some v → x0.Node_Time + (i : Int) ≤ v.From := by
      intro i
      induction i with
      | zero => intro v hv; rw [hV.first v hv]; omega
      | succ i ih =>
        intro v hv
        have hlt := some_lt hv
        have hw : r[i]? = some r[i] := List.getElem?_eq_getElem (by omega)
        have k1 := ih _ hw
        have k2 := (hV.next i v _ hw hv).1
        have k3 := hV.each i _ hw
        omega
    have hv : r[r.length - 1]? = some r[r.length - 1] := List.getElem?_eq_getElem (by omega)
    have k1 := key _ _ hv
    have k2 := hV.each _ _ hv
    omega
  rw [pt, Option.bind_some, pu, Option.bind_some]
  simp only [show ((0 : Int) != 0) = false from rfl, cond_false, List.length_map]
  rw [show ((r.length : Int) != (r.length : Int)) = false from by simp, cond_false]
  refine iterO_eq (S := fun y : Int => S6_0 5000 d false r (r.map (shV d)) (r.length : Int) y) (fun y => ∃ i : Nat, y = (i : Int) ∧ i ≤ r.length) true (fun y => r.length - y.toNat) ?_ 5000 0 ⟨0, rfl, Nat.zero_le _⟩ (by show r.length - (0 : Int).toNat < 5000; omega)
  rintro _ ⟨i, rfl, hi⟩
  show (∃ y, S6_0 5000 d false r (r.map (shV d)) (r.length : Int) (i : Int) = some (.inl y) ∧ _ ∧ _) ∨ S6_0 5000 d false r (r.map (shV d)) (r.length : Int) (i : Int) = some (.inr true)
  unfold S6_0
  rcases Nat.lt_or_ge i r.length with hlt | hge
  · left
    have hv : r[i]? = some r[i] := List.getElem?_eq_getElem hlt
    generalize r[i] = v at hv
    have hv2 : (r.map (shV d))[i]? = some (shV d v) := by rw [List.getElem?_map, hv]; rfl
    obtain ⟨k1, k2, k3, k4, k5⟩ := hV.each i v hv
    have m1 := b0.1
    have m2 := b1.2.1
    refine ⟨((i + 1 : Nat) : Int), ?_, ⟨i + 1, rfl, hlt⟩, by show r.length - ((i + 1 : Nat) : Int).toNat < r.length - (i : Int).toNat; omega⟩
    rw [decide_eq_true (show (i : Int) < _ by omega), cond_true, getI_at hv2, Option.bind_some, getI_at hv, Option.bind_some, Option.bind_some, Option.bind_some, wS (by omega), wrap64 (z := v.From + d) (by omega) (by omega), wrap64 (z := v.To + d) (by omega) (by omega)]
    rw [decide_eq_true (show shV d v = (⟨v.Sector, v.From + d, v.To + d⟩ : TSectorVisit) from rfl)]
    rfl
  · right
    rw [decide_eq_false (show ¬ (i : Int) < _ by omega), cond_false]
end Go.Proofs.Ytldiackagnjlgaa
