/- RunwayKeeps and RunwayStays as plain programs. -/
import Derived.Test.YtfmodgffhbljoaaRun7
set_option linter.unusedVariables false
set_option linter.unusedSimpArgs false
namespace Go.Proofs.Ytfmodgffhbljoaa

theorem runway_fact2 : g17 300000 = some true := by decide +kernel
/- slices.Index, ContainsFunc, Equal at movements -/
theorem index_eq (n : Nat) (hn : 100 < n) (L : List TRunwayMove) (hl : L.length ≤ 24) (a : TRunwayMove) : g24 n L a = some (idxL (fun x => decide (a = x)) L) := by
  unfold g24
  refine index_loop _ L (by omega) (fun i x hx => ?_) ?_ n (by omega)
  · have hi := some_lt hx
    unfold S24_0
    rw [decide_eq_true (show (i : Int) < (L.length : Int) by omega), getI_at hx, wS (by omega)]
    simp only [cond_true, Option.bind_some]
    by_cases h : a = x
    · rw [decide_eq_true h]; rfl
    · rw [decide_eq_false h]; rfl
  · unfold S24_0
    rw [decide_eq_false (show ¬ (L.length : Int) < (L.length : Int) by omega)]; rfl
theorem cont_eq (n : Nat) (hn : 100 < n) (L : List TRunwayMove) (hl : L.length ≤ 24) (h : ∀ x ∈ L, x.Departs = true) : g26 n L = some false := by
  unfold g26
  have : g47_1 n L = some (idxL (fun x => !x.Departs) L) := by
    unfold g47_1
    refine index_loop _ L (by omega) (fun i x hx => ?_) ?_ n (by omega)
    · have hi := some_lt hx
      unfold S47_0_x1
      rw [decide_eq_true (show (i : Int) < (L.length : Int) by omega), getI_at hx, wS (by omega)]
      simp only [cond_true, Option.bind_some]
      rw [show g27 n x = some (!x.Departs) from rfl]
      simp only [Option.bind_some]
      cases x.Departs <;> rfl
    · unfold S47_0_x1
      rw [decide_eq_false (show ¬ (L.length : Int) < (L.length : Int) by omega)]; rfl
  rw [this, Option.bind_some]
  have := (idxL_neg (fun x : TRunwayMove => !x.Departs) L).2 (fun x hx => by rw [h x hx]; rfl)
  rw [show decide (idxL (fun x : TRunwayMove => !x.Departs) L ≥ 0) = false from decide_eq_false (by omega)]
theorem equal_eq (n : Nat) (hn : 100 < n) (L M : List TRunwayMove) (hl : L.length ≤ 24) (hm : M.length ≤ 24) (h : L = M) : g22 n L M = some true := by
  subst h
  unfold g22
  rw [bne_self_eq_false, cond_false]
  have := equal_loop L L rfl (S := fun y : Int => S22_0 n L L false (L.length : Int) y) (fun i x y hx hy => by
    have hi := some_lt hx
    show S22_0 n L L false (L.length : Int) (i : Int) = _
    unfold S22_0
    have hxy : x = y := by rw [hx] at hy; exact Option.some.inj hy
    subst hxy
    rw [decide_eq_true (show (i : Int) < (L.length : Int) by omega), getI_at hx, wS (by omega)]
    simp only [cond_true, Option.bind_some]
    simp) (by
    show S22_0 n L L false (L.length : Int) (L.length : Int) = _
    unfold S22_0
    rw [decide_eq_false (show ¬ (L.length : Int) < (L.length : Int) by omega)]; rfl) n (by omega)
  rw [this, decide_eq_true rfl]
theorem keeps_loop (n : Nat) (hn : 100 < n) (l D : List TRunwayMove) (hD : ∀ x ∈ D, x.Departs = true) (hl : l.length + D.length ≤ 24) : ∀ (k v q : Nat) (R : List TRunwayMove), v + k = l.length → k < q → R.Perm (l.drop v ++ D) → iterO (fun y : Int × List TRunwayMove => S7_0 n false l (l.length : Int) y.1 y.2) q ((v : Int), R) = some true := by
  intro k
  induction k with
  | zero =>
    intro v q R hv hq hp
    obtain ⟨q, rfl⟩ : ∃ j, q = j + 1 := ⟨q - 1, by omega⟩
    have hR := hp.length_eq
    simp at hR
    unfold iterO
    have : S7_0 n false l (l.length : Int) (v : Int) R = some (.inr true) := by
      unfold S7_0
      rw [decide_eq_false (show ¬ (v : Int) < (l.length : Int) by omega), cont_eq n hn R (by omega) (fun x hx => by
        have := hp.mem_iff.1 hx
        rw [List.drop_eq_nil_of_le (by omega), List.nil_append] at this
        exact hD x this)]
      rfl
    dsimp only
    rw [this]
  | succ k ih =>
    intro v q R hv hq hp
    obtain ⟨q, rfl⟩ : ∃ j, q = j + 1 := ⟨q - 1, by omega⟩
    have hR := hp.length_eq
    simp at hR
    have hx : l[v]? = some (l[v]'(by omega)) := List.getElem?_eq_getElem (by omega)
    rw [show l.drop v = l[v]'(by omega) :: l.drop (v + 1) from List.drop_eq_getElem_cons (by omega)] at hp
    generalize l[v]'(by omega) = x at hx hp
    have hmem : x ∈ R := hp.mem_iff.2 (by simp)
    have hge : ¬ idxL (fun y => decide (x = y)) R < 0 := fun h => by
      have := (idxL_neg _ R).1 h x hmem
      simp at this
    obtain ⟨y, h1, h2, -⟩ := idxL_at (fun y => decide (x = y)) R (by omega)
    simp only [decide_eq_true_eq] at h2
    subst h2
    have hlt := some_lt h1
    unfold iterO
    have hdel : delO 32 R (idxL (fun y => decide (x = y)) R) (IntKind.wrap .i64 (idxL (fun y => decide (x = y)) R + 1)) = some (R.take (idxL (fun y => decide (x = y)) R).toNat ++ R.drop ((idxL (fun y => decide (x = y)) R).toNat + 1)) := by
      generalize hz : idxL (fun y => decide (x = y)) R = z at hge hlt
      rw [wrap64 (by omega) (by omega)]
      unfold delO
      rw [if_pos ⟨by omega, by omega, by omega, by omega, by omega⟩, show (z + 1).toNat = z.toNat + 1 by omega]
    have hS : S7_0 n false l (l.length : Int) (v : Int) R = some (.inl (((v + 1 : Nat) : Int), R.take (idxL (fun y => decide (x = y)) R).toNat ++ R.drop ((idxL (fun y => decide (x = y)) R).toNat + 1))) := by
      unfold S7_0
      rw [decide_eq_true (show (v : Int) < (l.length : Int) by omega), getI_at hx, wS (by omega)]
      simp only [cond_true, Option.bind_some]
      rw [index_eq n hn R (by omega) x]
      simp only [Option.bind_some]
      rw [decide_eq_false hge, cond_false, hdel]
      rfl
    dsimp only
    rw [hS]
    refine ih (v + 1) q _ (by omega) (by omega) ?_
    have hsplit : R.Perm (x :: (R.take (idxL (fun y => decide (x = y)) R).toNat ++ R.drop ((idxL (fun y => decide (x = y)) R).toNat + 1))) := by
      have e : R = R.take (idxL (fun y => decide (x = y)) R).toNat ++ x :: R.drop ((idxL (fun y => decide (x = y)) R).toNat + 1) := by
        obtain ⟨hlt', h1'⟩ := List.getElem?_eq_some_iff.1 h1
        conv => lhs; rw [← List.take_append_drop (idxL (fun y => decide (x = y)) R).toNat R, List.drop_eq_getElem_cons hlt', h1']
      exact (List.Perm.of_eq e).trans List.perm_middle
    exact (List.perm_cons x).1 (hsplit.symm.trans (by rw [List.cons_append] at hp; exact hp))
theorem keeps_plain (l : List TRunwayMove) (s : List TRunwaySpan) (t : TWakeTable) (d : List TRunwayReady) (hd : d.length ≤ 9223372036854775807) : g7 300000 l s t d = some true := by
  unfold g7
  rw [runway_fact2, Option.bind_some, Bool.not_true, cond_false]
  rcases insert_all 300000 (by decide) s t l d hd with ⟨e, he, h⟩ | ⟨h, hl⟩
  · rw [h]
    simp only [Option.bind_some]
    rw [bne0 he]; rfl
  rw [insert_run 300000 (by decide) s t l d h hl]
  simp only [Option.bind_some]
  rcases fold_ok 300000 (by decide) s t d l h hl with ⟨h1, h2⟩ | ⟨h1, h2, D, h3, h4, h5⟩
  · rw [bne0 h1, h2]; rfl
  have hlen := h5.length_eq
  rw [List.length_append, h3] at hlen
  rw [h1, bne_self_eq_false, cond_false, h2.run (by decide) (by omega)]
  simp only [Option.bind_some, bne_self_eq_false, cond_false]
  rw [wrap64 (by omega) (by omega), show (((foldI 300000 s t d l).1.length : Int) != (l.length : Int) + (d.length : Int)) = false by rw [hlen, Int.natCast_add]; exact bne_self_eq_false _, cond_false, show roomO (foldI 300000 s t d l).1.length 32 = some () from room_of (by omega) (by omega)]
  simp only [Option.bind_some]
  exact keeps_loop 300000 (by decide) l D h4 (by omega) l.length 0 300000 _ (by omega) (by omega) h5
theorem stays_loop (n : Nat) (hn : 200200 < n) (s : List TRunwaySpan) (t : TWakeTable) (d : List TRunwayReady) (m : List TRunwayMove) (hm : SafeOk n m s t) (hml : m.length ≤ 24) : ∀ (k v q : Nat) (L : List TRunwayMove) (e : Int), v + k = d.length → k < q → d.length ≤ 24 → SafeOk n L s t → L.length + k ≤ 24 → foldI n s t (d.drop v) L = (m, 0) → iterO (fun y : Int × List TRunwayMove × Int => S6_0 n s d false m (d.length : Int) t.c0_0 t.c0_1 t.c0_2 t.c0_3 t.c1_0 t.c1_1 t.c1_2 t.c1_3 t.c2_0 t.c2_1 t.c2_2 t.c2_3 t.c3_0 t.c3_1 t.c3_2 t.c3_3 y.1 y.2.1 y.2.2) q (e, L, (v : Int)) = some true := by
  intro k
  induction k with
  | zero =>
    intro v q L e hv hq hd h hl hf
    obtain ⟨q, rfl⟩ : ∃ j, q = j + 1 := ⟨q - 1, by omega⟩
    rw [List.drop_eq_nil_of_le (by omega), foldI] at hf
    have hLm : L = m := congrArg Prod.fst hf
    unfold iterO
    have hz : g21 n m s t [] = some (m, 0) := insert_run n hn s t m [] hm (by simpa using hml)
    have : S6_0 n s d false m (d.length : Int) t.c0_0 t.c0_1 t.c0_2 t.c0_3 t.c1_0 t.c1_1 t.c1_2 t.c1_3 t.c2_0 t.c2_1 t.c2_2 t.c2_3 t.c3_0 t.c3_1 t.c3_2 t.c3_3 e L (v : Int) = some (.inr true) := by
      unfold S6_0
      rw [decide_eq_false (show ¬ (v : Int) < (d.length : Int) by omega), cond_false]
      rw [show g21 n m s ⟨t.c0_0, t.c0_1, t.c0_2, t.c0_3, t.c1_0, t.c1_1, t.c1_2, t.c1_3, t.c2_0, t.c2_1, t.c2_2, t.c2_3, t.c3_0, t.c3_1, t.c3_2, t.c3_3⟩ [] = some (m, 0) from hz]
      simp only [Option.bind_some, beq_self_eq_true, cond_true]
      rw [equal_eq n (by omega) L m (by rw [hLm]; exact hml) hml hLm]
      simp only [Option.bind_some, cond_true]
      rw [equal_eq n (by omega) m m hml hml rfl]
      rfl
    dsimp only
    rw [this]
  | succ k ih =>
    intro v q L e hv hq hd h hl hf
    obtain ⟨q, rfl⟩ : ∃ j, q = j + 1 := ⟨q - 1, by omega⟩
    have hx : d[v]? = some (d[v]'(by omega)) := List.getElem?_eq_getElem (by omega)
    rw [show d.drop v = d[v]'(by omega) :: d.drop (v + 1) from List.drop_eq_getElem_cons (by omega)] at hf
    have hsl : sliceO d (some (v : Int)) (some ((v + 1 : Nat) : Int)) = some [d[v]'(by omega)] := by
      simp only [sliceO, Option.getD_some]
      rw [if_pos ⟨by omega, by omega, by omega⟩, Int.toNat_natCast, show (((v + 1 : Nat) : Int) - (v : Int)).toNat = 1 by omega, List.drop_eq_getElem_cons (by omega), List.take_succ_cons, List.take_zero]
    generalize d[v]'(by omega) = x at hx hf hsl
    obtain ⟨r1, r2, -⟩ := insR_ok n hn s t L h x
    rw [foldI] at hf
    cases hr : insR n s t L x with
    | inr e =>
      rw [hr] at hf
      exact absurd (congrArg Prod.snd hf) (r2 e hr)
    | inl L' =>
      rw [hr] at hf
      obtain ⟨h1, m1, -, h2⟩ := r1 L' hr
      have hlen := h2.length_eq
      simp only [List.length_cons] at hlen
      have hz : g21 n L s t [x] = some (L', 0) := by
        rw [insert_run n hn s t L [x] h (by simp; omega), foldI, hr]; rfl
      unfold iterO
      have : S6_0 n s d false m (d.length : Int) t.c0_0 t.c0_1 t.c0_2 t.c0_3 t.c1_0 t.c1_1 t.c1_2 t.c1_3 t.c2_0 t.c2_1 t.c2_2 t.c2_3 t.c3_0 t.c3_1 t.c3_2 t.c3_3 e L (v : Int) = some (.inl (0, L', ((v + 1 : Nat) : Int))) := by
        unfold S6_0
        rw [decide_eq_true (show (v : Int) < (d.length : Int) by omega), cond_true, wS (by omega), hsl, Option.bind_some]
        rw [show g21 n L s ⟨t.c0_0, t.c0_1, t.c0_2, t.c0_3, t.c1_0, t.c1_1, t.c1_2, t.c1_3, t.c2_0, t.c2_1, t.c2_2, t.c2_3, t.c3_0, t.c3_1, t.c3_2, t.c3_3⟩ [x] = some (L', 0) from hz]
        rfl
      dsimp only
      rw [this]
      exact ih (v + 1) q L' 0 (by omega) (by omega) hd h1 (by omega) hf
theorem stays_plain (l : List TRunwayMove) (s : List TRunwaySpan) (t : TWakeTable) (d : List TRunwayReady) (hd : d.length ≤ 9223372036854775807) : g6 300000 l s t d = some true := by
  unfold g6
  rw [runway_fact2, Option.bind_some, Bool.not_true, cond_false]
  rcases insert_all 300000 (by decide) s t l d hd with ⟨e, he, h⟩ | ⟨h, hl⟩
  · rw [h]
    simp only [Option.bind_some]
    rw [bne0 he]; rfl
  rw [insert_run 300000 (by decide) s t l d h hl]
  simp only [Option.bind_some]
  rcases fold_ok 300000 (by decide) s t d l h hl with ⟨h1, h2⟩ | ⟨h1, h2, D, h3, h4, h5⟩
  · rw [bne0 h1, h2]; rfl
  rw [h1, bne_self_eq_false, cond_false]
  exact stays_loop 300000 (by decide) s t d _ h2 (by have := h5.length_eq; rw [List.length_append, h3] at this; omega) d.length 0 300000 l 0 (by omega) (by omega) (by omega) h (by omega) (by rw [List.drop_zero, ← h1])
end Go.Proofs.Ytfmodgffhbljoaa
