/- ResolveAll: the clashes of all pairs, and the plain law. -/
import Derived.Test.YteaimbiojpjneaaGreatDoorRv1
set_option linter.unusedVariables false
set_option linter.unusedSimpArgs false
namespace Go.Proofs.YteaimbiojpjneaaGreatDoor

def SPo (n : Nat) (l : List (List TTubeNode)) (s : TSep) (i j : Nat) : List TSpan := ((l[i]?).bind fun a => (l[j]?).bind fun b => g45 n a b s).getD []
def clashOf (i j : Nat) (x : TSpan) : TClash := ⟨(i : Int), (j : Int), x.From, IntKind.wrap .i64 (x.To - 1)⟩
def rowC (n : Nat) (l : List (List TTubeNode)) (s : TSep) (i j : Nat) : List TClash := (SPo n l s i j).map (clashOf i j)
def cols (n : Nat) (l : List (List TTubeNode)) (s : TSep) (i : Nat) : Nat → List TClash
  | 0 => []
  | w + 1 => cols n l s i w ++ if i < w then rowC n l s i w else []
def rows (n : Nat) (l : List (List TTubeNode)) (s : TSep) : Nat → List TClash
  | 0 => []
  | v + 1 => rows n l s v ++ cols n l s v l.length
theorem cols_low (n : Nat) (l : List (List TTubeNode)) (s : TSep) (i : Nat) : ∀ w, w ≤ i + 1 → cols n l s i w = []
  | 0, _ => rfl
  | w + 1, h => by
    unfold cols
    rw [cols_low n l s i w (by omega), if_neg (by omega)]; rfl
theorem mem_cols {n : Nat} {l : List (List TTubeNode)} {s : TSep} {i : Nat} {c : TClash} : ∀ {w : Nat}, c ∈ cols n l s i w ↔ ∃ j, i < j ∧ j < w ∧ c ∈ rowC n l s i j
  | 0 => by simp [cols]
  | w + 1 => by
    unfold cols
    rw [List.mem_append, mem_cols (w := w)]
    constructor
    · rintro (⟨j, h1, h2, h3⟩ | h)
      · exact ⟨j, h1, by omega, h3⟩
      · by_cases q : i < w
        · rw [if_pos q] at h; exact ⟨w, q, by omega, h⟩
        · rw [if_neg q] at h; cases h
    · rintro ⟨j, h1, h2, h3⟩
      by_cases q : j = w
      · subst q; exact .inr (by rw [if_pos h1]; exact h3)
      · exact .inl ⟨j, h1, by omega, h3⟩
theorem mem_rows {n : Nat} {l : List (List TTubeNode)} {s : TSep} {c : TClash} : ∀ {v : Nat}, c ∈ rows n l s v ↔ ∃ i j, i < v ∧ i < j ∧ j < l.length ∧ c ∈ rowC n l s i j
  | 0 => by simp [rows]
  | v + 1 => by
    unfold rows
    rw [List.mem_append, mem_rows (v := v), mem_cols]
    constructor
    · rintro (⟨i, j, h1, h2, h3, h4⟩ | ⟨j, h1, h2, h3⟩)
      · exact ⟨i, j, by omega, h2, h3, h4⟩
      · exact ⟨v, j, by omega, h1, h2, h3⟩
    · rintro ⟨i, j, h1, h2, h3, h4⟩
      by_cases q : i = v
      · subst q; exact .inr ⟨j, h2, h3, h4⟩
      · exact .inl ⟨i, j, by omega, h2, h3, h4⟩
def keyC (c : TClash) : Int × Int × Int := (c.From, c.A, c.B)
structure AllOk (n : Nat) (l : List (List TTubeNode)) (s : TSep) : Prop where
  sep : g43 n s = some 0
  len : l.length ≤ 5
  ck : ∀ t ∈ l, g24 n t = some 0 ∧ TubeOk t
theorem AllOk.pair {n : Nat} (hn : big n) {l : List (List TTubeNode)} {s : TSep} (h : AllOk n l s) {i j : Nat} {a b : List TTubeNode} (hi : l[i]? = some a) (hj : l[j]? = some b) : PairS n a b s (SPo n l s i j) ∧ (SPo n l s i j = [] ↔ SPo n l s j i = []) := by
  obtain ⟨c1, t1⟩ := h.ck a (List.mem_of_getElem? hi)
  obtain ⟨c2, t2⟩ := h.ck b (List.mem_of_getElem? hj)
  obtain ⟨L, M, p1, p2, p3⟩ := pair_two n hn t1 t2 c1 c2 s
  have e1 : SPo n l s i j = L := by unfold SPo; rw [hi, hj]; show (g45 n a b s).getD [] = L; rw [p1.val]; rfl
  have e2 : SPo n l s j i = M := by unfold SPo; rw [hi, hj]; show (g45 n b a s).getD [] = M; rw [p2.val]; rfl
  rw [e1, e2]
  exact ⟨p1, p3⟩
theorem SPo_none {n : Nat} {l : List (List TTubeNode)} {s : TSep} {i j : Nat} (h : l.length ≤ i ∨ l.length ≤ j) : SPo n l s i j = [] := by
  unfold SPo
  rcases h with h | h
  · rw [List.getElem?_eq_none h]; rfl
  · rw [List.getElem?_eq_none h]; cases l[i]? <;> rfl
section
variable {n : Nat} (hn : big n) {l : List (List TTubeNode)} {s : TSep} (h : AllOk n l s)
include hn h
theorem SPo_len (i j : Nat) : (SPo n l s i j).length ≤ 200001 := by
  by_cases q : i < l.length ∧ j < l.length
  · exact (h.pair hn (List.getElem?_eq_getElem q.1) (List.getElem?_eq_getElem q.2)).1.len
  · rw [SPo_none (by omega)]; show 0 ≤ 200001; omega
theorem SPo_from (i j : Nat) : ((SPo n l s i j).map TSpan.From).Pairwise (· < ·) ∧ ∀ z ∈ (SPo n l s i j).map TSpan.From, 0 ≤ z ∧ z ≤ 200000 := by
  by_cases q : i < l.length ∧ j < l.length
  · have := (h.pair hn (List.getElem?_eq_getElem q.1) (List.getElem?_eq_getElem q.2)).1
    exact ⟨this.ord, this.bd⟩
  · rw [SPo_none (by omega)]; simp
theorem cols_len (i : Nat) : ∀ w, (cols n l s i w).length ≤ w * 200001
  | 0 => by simp [cols]
  | w + 1 => by
    unfold cols
    have := cols_len i w
    have h2 : (if i < w then rowC n l s i w else []).length ≤ 200001 := by
      split
      · unfold rowC; rw [List.length_map]; exact SPo_len hn h i w
      · simp
    rw [List.length_append]; omega
theorem rows_len : ∀ v, (rows n l s v).length ≤ v * 1000005
  | 0 => by simp [rows]
  | v + 1 => by
    unfold rows
    have := rows_len v
    have h1 := cols_len hn h v l.length
    have h2 := h.len
    rw [List.length_append]
    have : l.length * 200001 ≤ 5 * 200001 := Nat.mul_le_mul_right _ h2
    omega
theorem row_key {i j : Nat} {c : TClash} (hc : c ∈ rowC n l s i j) : c.A = i ∧ c.B = j ∧ 0 ≤ c.From ∧ c.From ≤ 200000 := by
  obtain ⟨x, hx, rfl⟩ := List.mem_map.1 hc
  have := (SPo_from hn h i j).2 x.From (List.mem_map.2 ⟨x, hx, rfl⟩)
  exact ⟨rfl, rfl, this.1, this.2⟩
theorem rows_pw : ∀ v, (rows n l s v).Pairwise fun x y => keyC x ≠ keyC y := by
  have hrow : ∀ i j, (rowC n l s i j).Pairwise fun x y => keyC x ≠ keyC y := fun i j => by
    unfold rowC
    rw [List.pairwise_map]
    exact (List.pairwise_map.1 (SPo_from hn h i j).1).imp fun {x y} hlt e => by
      have : x.From = y.From := congrArg Prod.fst e
      omega
  have hcols : ∀ i w, (cols n l s i w).Pairwise fun x y => keyC x ≠ keyC y := by
    intro i w
    induction w with
    | zero => exact List.Pairwise.nil
    | succ w ih =>
      unfold cols
      rw [List.pairwise_append]
      refine ⟨ih, ?_, fun x hx y hy e => ?_⟩
      · split
        · exact hrow i w
        · exact List.Pairwise.nil
      · obtain ⟨j, j1, j2, j3⟩ := mem_cols.1 hx
        by_cases q : i < w
        · rw [if_pos q] at hy
          have e1 := row_key hn h j3
          have e2 := row_key hn h hy
          have : x.B = y.B := congrArg (fun p => p.2.2) e
          omega
        · rw [if_neg q] at hy; cases hy
  intro v
  induction v with
  | zero => exact List.Pairwise.nil
  | succ v ih =>
    unfold rows
    rw [List.pairwise_append]
    refine ⟨ih, hcols v _, fun x hx y hy e => ?_⟩
    obtain ⟨i, j, i1, i2, i3, i4⟩ := mem_rows.1 hx
    obtain ⟨j', k1, k2, k3⟩ := mem_cols.1 hy
    have e1 := row_key hn h i4
    have e2 := row_key hn h k3
    have : x.A = y.A := congrArg (fun p => p.2.1) e
    omega
end
/- the order -/
theorem or3 (n : Nat) (hn : 4 < n) (p q r : Int) : g48 n [p, q, r] = some (if p ≠ 0 then p else if q ≠ 0 then q else r) := by
  obtain ⟨k, rfl⟩ : ∃ k, n = k + 5 := ⟨n - 5, by omega⟩
  unfold g48
  have s0 : S48_0 (k + 5) 0 [p, q, r] (([p, q, r] : List Int).length : Int) 0 = some (if p ≠ 0 then .inr p else .inl 1) := by
    unfold S48_0
    rw [decide_eq_true (show (0 : Int) < (([p, q, r] : List Int).length : Int) by simp), cond_true, show getI [p, q, r] 0 = some p from getI_at (i := 0) rfl, Option.bind_some]
    by_cases h : p = 0
    · rw [h]; rfl
    · rw [bne_iff_ne.2 h, cond_true, if_pos h]
  have s1 : S48_0 (k + 5) 0 [p, q, r] (([p, q, r] : List Int).length : Int) 1 = some (if q ≠ 0 then .inr q else .inl 2) := by
    unfold S48_0
    rw [decide_eq_true (show (1 : Int) < (([p, q, r] : List Int).length : Int) by simp), cond_true, show getI [p, q, r] 1 = some q from getI_at (i := 1) rfl, Option.bind_some]
    by_cases h : q = 0
    · rw [h]; rfl
    · rw [bne_iff_ne.2 h, cond_true, if_pos h]
  have s2 : S48_0 (k + 5) 0 [p, q, r] (([p, q, r] : List Int).length : Int) 2 = some (if r ≠ 0 then .inr r else .inl 3) := by
    unfold S48_0
    rw [decide_eq_true (show (2 : Int) < (([p, q, r] : List Int).length : Int) by simp), cond_true, show getI [p, q, r] 2 = some r from getI_at (i := 2) rfl, Option.bind_some]
    by_cases h : r = 0
    · rw [h]; rfl
    · rw [bne_iff_ne.2 h, cond_true, if_pos h]
  have s3 : S48_0 (k + 5) 0 [p, q, r] (([p, q, r] : List Int).length : Int) 3 = some (.inr 0) := by
    unfold S48_0
    rw [decide_eq_false (show ¬ (3 : Int) < (([p, q, r] : List Int).length : Int) by simp)]; rfl
  unfold iterO
  rw [s0]
  by_cases hp : p = 0
  · rw [if_neg (by omega), if_neg (by omega)]
    show iterO _ (k + 4) 1 = _
    unfold iterO
    rw [s1]
    by_cases hq : q = 0
    · rw [if_neg (by omega), if_neg (by omega)]
      show iterO _ (k + 3) 2 = _
      unfold iterO
      rw [s2]
      by_cases hr : r = 0
      · rw [if_neg (by omega)]
        show iterO _ (k + 2) 3 = _
        unfold iterO
        rw [s3, hr]
      · rw [if_pos hr]
    · rw [if_pos hq, if_pos hq]
  · rw [if_pos hp, if_pos hp]
def BdC (c : TClash) : Prop := 0 ≤ c.From ∧ c.From ≤ 200000 ∧ 0 ≤ c.A ∧ c.A ≤ 1000 ∧ 0 ≤ c.B ∧ c.B ≤ 1000
def cmpK (x y : TClash) : Int := if x.From - y.From ≠ 0 then x.From - y.From else if x.A - y.A ≠ 0 then x.A - y.A else x.B - y.B
theorem cmp_clash (n : Nat) (hn : 4 < n) {x y : TClash} (hx : BdC x) (hy : BdC y) : g47 n x y = some (cmpK x y) := by
  obtain ⟨x1, x2, x3, x4, x5, x6⟩ := hx
  obtain ⟨y1, y2, y3, y4, y5, y6⟩ := hy
  unfold g47
  rw [wrap64 (z := x.From - y.From) (by omega) (by omega), wrap64 (z := x.A - y.A) (by omega) (by omega), wrap64 (z := x.B - y.B) (by omega) (by omega), or3 n hn]
  rfl
theorem clash_sort (n : Nat) (hn : 4 < n) (L : List TClash) (hb : ∀ c ∈ L, BdC c) (hp : L.Pairwise fun x y => keyC x ≠ keyC y) (hlen : L.length ≤ 10000000) : ∃ k, sortO (fun x y => g47 n x y) L = some k ∧ k.Perm L := by
  have hv : ∀ x ∈ L, ∀ y ∈ L, g47 n x y = some (cmpK x y) := fun x hx y hy => cmp_clash n hn (hb x hx) (hb y hy)
  have hlt : ∀ x ∈ L, ∀ y ∈ L, (ltO (fun x y => g47 n x y) x y = true ↔ cmpK x y < 0) := fun x hx y hy => by
    show decide ((g47 n x y).getD 0 < 0) = true ↔ _
    rw [hv x hx y hy, decide_eq_true_eq]
    exact Iff.rfl
  have c3 : ∀ x y : TClash, (cmpK x y < 0 ∧ 0 < cmpK y x) ∨ (0 < cmpK x y ∧ cmpK y x < 0) ∨ keyC x = keyC y := fun x y => by
    unfold cmpK
    by_cases e1 : x.From = y.From
    · by_cases e2 : x.A = y.A
      · by_cases e3 : x.B = y.B
        · exact .inr (.inr (by unfold keyC; rw [e1, e2, e3]))
        · rw [if_neg (by omega), if_neg (by omega), if_neg (by omega), if_neg (by omega)]; omega
      · rw [if_neg (by omega), if_pos (by omega), if_neg (by omega), if_pos (by omega)]; omega
    · rw [if_pos (by omega), if_pos (by omega)]; omega
  have ho : OrdOn (fun x y => g47 n x y) L := by
    refine ⟨fun x hx y hy => ⟨_, hv x hx y hy⟩, fun x hx y hy => ?_, fun x hx y hy h => ?_, fun x hx y hy z hz h1 h2 => ?_⟩
    · rcases c3 x y with ⟨k, -⟩ | ⟨-, k⟩ | k
      · exact .inl ((hlt x hx y hy).2 k)
      · exact .inr (.inl ((hlt y hy x hx).2 k))
      · exact .inr (.inr (pw_inj keyC hp x hx y hy k))
    · have h1 := (hlt x hx y hy).1 h
      cases hq : ltO (fun x y => g47 n x y) y x with
      | false => rfl
      | true =>
        have h2 := (hlt y hy x hx).1 hq
        rcases c3 x y with ⟨-, k⟩ | ⟨k, -⟩ | k
        · omega
        · omega
        · unfold keyC at k
          have k1 : x.From = y.From := congrArg Prod.fst k
          have k2 : x.A = y.A := congrArg (fun p => p.2.1) k
          have k3 : x.B = y.B := congrArg (fun p => p.2.2) k
          unfold cmpK at h1
          rw [if_neg (by omega), if_neg (by omega)] at h1
          omega
    · have k1 := (hlt x hx y hy).1 h1
      have k2 := (hlt y hy z hz).1 h2
      refine (hlt x hx z hz).2 ?_
      unfold cmpK at k1 k2 ⊢
      split at k1 <;> split at k2 <;> split <;> (try split at k1) <;> (try split at k2) <;> (try split) <;> omega
  have e : sortO (fun x y => g47 n x y) L = some (isortB (ltO (fun x y => g47 n x y)) L) := by
    unfold sortO
    rw [orderB_on.2 ho, decide_eq_true (show L.length < 4611686018427387904 by omega)]; rfl
  exact ⟨_, e, (sortO_facts e).1⟩
section
variable {n : Nat} (hn : big n) {l : List (List TTubeNode)} {s : TSep} (h : AllOk n l s)
include hn h
theorem row_loop (i j : Nat) (hi : i < 5) (hj : j < 5) (c28 : Int) (L0 : List TClash) (hL : L0.length ≤ 10000000) : iterO (fun y : Int × List TClash => S15_0_0_0 n l 0 (i : Int) (j : Int) c28 (SPo n l s i j) ((SPo n l s i j).length : Int) s.Lateral s.Vertical y.1 y.2) n ((0), L0) = some (.inl (((j + 1 : Nat) : Int), L0 ++ rowC n l s i j)) := by
  have hlen := SPo_len hn h i j
  unfold rowC
  generalize SPo n l s i j = R at *
  refine iterO_eq (S := fun y : Int × List TClash => S15_0_0_0 n l 0 (i : Int) (j : Int) c28 R (R.length : Int) s.Lateral s.Vertical y.1 y.2) (fun y => ∃ k : Nat, k ≤ R.length ∧ y = ((k : Int), L0 ++ (R.take k).map (clashOf i j))) _ (fun y => R.length - y.1.toNat) ?_ n _ ⟨0, Nat.zero_le _, by simp⟩ (by unfold big at hn; show R.length - (0 : Int).toNat < n; omega)
  rintro _ ⟨k, hk, rfl⟩
  show (∃ y, S15_0_0_0 n l 0 (i : Int) (j : Int) c28 R (R.length : Int) s.Lateral s.Vertical (k : Int) (L0 ++ (R.take k).map (clashOf i j)) = some (.inl y) ∧ _) ∨ S15_0_0_0 n l 0 (i : Int) (j : Int) c28 R (R.length : Int) s.Lateral s.Vertical (k : Int) (L0 ++ (R.take k).map (clashOf i j)) = _
  unfold S15_0_0_0
  rcases Nat.lt_or_ge k R.length with hlt | hge
  · left
    have hx : R[k]? = some R[k] := List.getElem?_eq_getElem hlt
    generalize R[k] = x at hx
    have ht : R.take (k + 1) = R.take k ++ [x] := by rw [List.take_add_one, hx]; rfl
    rw [decide_eq_true (show (k : Int) < (R.length : Int) by omega), cond_true, getI_at hx, Option.bind_some, wS (by omega), room_of (by simp only [List.length_append, List.length_map, List.length_take, List.length_cons, List.length_nil]; omega) (by simp only [List.length_append, List.length_map, List.length_take, List.length_cons, List.length_nil]; omega), Option.bind_some]
    refine ⟨_, rfl, ⟨k + 1, hlt, ?_⟩, by show R.length - ((k + 1 : Nat) : Int).toNat < R.length - (k : Int).toNat; omega⟩
    rw [ht, List.map_append, ← List.append_assoc]; rfl
  · right
    rw [List.take_of_length_le hge, decide_eq_false (show ¬ (k : Int) < (R.length : Int) by omega), cond_false, wS (by omega)]
theorem col_loop (i : Nat) (hi : i < l.length) (c28 : Int) (L0 : List TClash) (hL : L0.length ≤ 6000000) : iterO (fun y : Int × List TClash => S15_0_0 n l 0 (i : Int) c28 s.Lateral s.Vertical y.1 y.2) n (((i + 1 : Nat) : Int), L0) = some (.inl (((i + 1 : Nat) : Int), L0 ++ cols n l s i l.length)) := by
  have hlen := h.len
  refine iterO_eq (S := fun y : Int × List TClash => S15_0_0 n l 0 (i : Int) c28 s.Lateral s.Vertical y.1 y.2) (fun y => ∃ w : Nat, i + 1 ≤ w ∧ w ≤ l.length ∧ y = ((w : Int), L0 ++ cols n l s i w)) _ (fun y => l.length - y.1.toNat) ?_ n _ ⟨i + 1, Nat.le_refl _, hi, by rw [cols_low n l s i (i + 1) (Nat.le_refl _), List.append_nil]⟩ (by unfold big at hn; show l.length - _ < n; omega)
  rintro _ ⟨w, hw1, hw, rfl⟩
  show (∃ y, S15_0_0 n l 0 (i : Int) c28 s.Lateral s.Vertical (w : Int) (L0 ++ cols n l s i w) = some (.inl y) ∧ _) ∨ S15_0_0 n l 0 (i : Int) c28 s.Lateral s.Vertical (w : Int) (L0 ++ cols n l s i w) = _
  unfold S15_0_0
  rcases Nat.lt_or_ge w l.length with hlt | hge
  · left
    have hx : l[i]? = some l[i] := List.getElem?_eq_getElem hi
    have hy : l[w]? = some l[w] := List.getElem?_eq_getElem hlt
    have hp := (h.pair hn hx hy).1.val
    have hcl := cols_len hn h i w
    have : w * 200001 ≤ 5 * 200001 := Nat.mul_le_mul_right _ (by omega)
    rw [decide_eq_true (show (w : Int) < (l.length : Int) by omega), cond_true, getI_at hx, Option.bind_some, getI_at hy, Option.bind_some, show (⟨s.Lateral, s.Vertical⟩ : TSep) = s from rfl, hp, Option.bind_some, row_loop hn h i w (by omega) (by omega) c28 (L0 ++ cols n l s i w) (by rw [List.length_append]; omega)]
    refine ⟨_, rfl, ⟨w + 1, by omega, hlt, ?_⟩, by show l.length - ((w + 1 : Nat) : Int).toNat < l.length - (w : Int).toNat; omega⟩
    rw [show cols n l s i (w + 1) = cols n l s i w ++ if i < w then rowC n l s i w else [] from rfl, if_pos (by omega), List.append_assoc]
  · right
    have : w = l.length := by omega
    subst this
    rw [decide_eq_false (Int.lt_irrefl _), cond_false, wS (by omega)]
theorem all_val : ∃ r, g15 n l s = some r ∧ (r = ([], 2) ∨ (r.2 = 0 ∧ r.1.Perm (rows n l s l.length))) := by
  have hlen := h.len
  have hn64 : 64 < n := by unfold big at hn; omega
  unfold g15
  rw [h.sep, Option.bind_some, show ((0 : Int) != 0) = false from rfl, cond_false, decide_eq_false (show ¬ (l.length : Int) > 24 by omega), cond_false, chk_all n s h.sep l (by omega) hn (fun t ht => (h.ck t ht).1), Option.bind_some, show ((0 : Int) != 0) = false from rfl, cond_false]
  refine iterO_rule (S := fun y : Int × List TClash => S15_0 n l (0) (l.length : Int) s.Lateral s.Vertical y.1 y.2) (fun y => ∃ v : Nat, v ≤ l.length ∧ y = ((v : Int), rows n l s v)) _ (fun y => l.length - y.1.toNat) ?_ n _ ⟨0, Nat.zero_le _, rfl⟩ (by show l.length - (0 : Int).toNat < n; omega)
  rintro _ ⟨v, hv, rfl⟩
  show (∃ y, S15_0 n l (0) (l.length : Int) s.Lateral s.Vertical (v : Int) (rows n l s v) = some (.inl y) ∧ _) ∨ ∃ r, S15_0 n l (0) (l.length : Int) s.Lateral s.Vertical (v : Int) (rows n l s v) = some (.inr r) ∧ _
  have hrl := rows_len hn h v
  have hv5 : v * 1000005 ≤ 5 * 1000005 := Nat.mul_le_mul_right _ (by omega)
  unfold S15_0
  rcases Nat.lt_or_ge v l.length with hlt | hge
  · left
    rw [decide_eq_true (show (v : Int) < (l.length : Int) by omega), cond_true, wS (by omega), col_loop hn h v hlt (l.length : Int) (rows n l s v) (by omega)]
    exact ⟨_, rfl, ⟨v + 1, hlt, rfl⟩, by show l.length - ((v + 1 : Nat) : Int).toNat < l.length - (v : Int).toNat; omega⟩
  · right
    have : v = l.length := by omega
    subst this
    rw [decide_eq_false (Int.lt_irrefl _), cond_false]
    by_cases c : ((rows n l s l.length).length : Int) > 256
    · rw [decide_eq_true c, cond_true]; exact ⟨_, rfl, .inl rfl⟩
    · rw [decide_eq_false c, cond_false]
      obtain ⟨k, hk, hkp⟩ := clash_sort n (by omega) (rows n l s l.length) (fun c hc => by
        obtain ⟨i, j, i1, i2, i3, i4⟩ := mem_rows.1 hc
        have := row_key hn h i4
        unfold BdC; omega) (rows_pw hn h l.length) (by omega)
      rw [hk, Option.bind_some]
      exact ⟨_, rfl, .inr ⟨rfl, hkp⟩⟩
/- Free -/
theorem chk_free (i : Nat) (hi : i < l.length) : g32 n l (i : Int) s = some 0 := by
  have hlen := h.len
  have hn64 : 64 < n := by unfold big at hn; omega
  unfold g32
  rw [h.sep, Option.bind_some, show ((0 : Int) != 0) = false from rfl, cond_false, decide_eq_false (show ¬ (l.length : Int) > 24 by omega), cond_false]
  refine iterO_eq (fun y => ∃ k : Nat, k ≤ l.length ∧ y = (k : Int)) 0 (fun y => l.length - y.toNat) ?_ n _ ⟨0, Nat.zero_le _, rfl⟩ (by show l.length - (0 : Int).toNat < n; omega)
  rintro _ ⟨k, hk, rfl⟩
  unfold S32_0
  rcases Nat.lt_or_ge k l.length with hlt | hge
  · left
    have hx : l[k]? = some l[k] := List.getElem?_eq_getElem hlt
    rw [decide_eq_true (show (k : Int) < (l.length : Int) by omega), cond_true, getI_at hx, Option.bind_some, (h.ck _ (List.mem_of_getElem? hx)).1, Option.bind_some, show ((0 : Int) != 0) = false from rfl, cond_false, wS (by omega)]
    exact ⟨_, rfl, ⟨k + 1, hlt, rfl⟩, by omega⟩
  · right
    rw [decide_eq_false (by omega), cond_false, decide_eq_false (show ¬ (i : Int) < 0 by omega), cond_false, decide_eq_false (show ¬ (i : Int) ≥ (l.length : Int) by omega), cond_false]
theorem free_val (i : Nat) (hi : i < l.length) : ∃ b, g16 n l (i : Int) s = some (b, 0) ∧ (b = true ↔ ∀ k, k ≠ i → SPo n l s i k = []) := by
  have hlen := h.len
  have hn64 : 64 < n := by unfold big at hn; omega
  have ha : l[i]? = some l[i] := List.getElem?_eq_getElem hi
  generalize l[i] = a at ha
  have hca := (h.ck a (List.mem_of_getElem? ha)).1
  unfold g16
  rw [chk_free hn h i hi, Option.bind_some, show ((0 : Int) != 0) = false from rfl, cond_false, getI_at ha, Option.bind_some]
  have hf : ∃ b, g33 n l (i : Int) a s = some b ∧ (b = true ↔ ∀ k, k ≠ i → SPo n l s i k = []) := by
    unfold g33
    refine iterO_rule (S := fun y : Int => S33_0 n (i : Int) a false l (l.length : Int) s.Lateral s.Vertical y) (fun y => ∃ k : Nat, k ≤ l.length ∧ y = (k : Int) ∧ ∀ j, j < k → j ≠ i → SPo n l s i j = []) _ (fun y => l.length - y.toNat) ?_ n _ ⟨0, Nat.zero_le _, rfl, fun j hj => by omega⟩ (by show l.length - (0 : Int).toNat < n; omega)
    rintro _ ⟨k, hk, rfl, hs⟩
    show (∃ y, S33_0 n (i : Int) a false l (l.length : Int) s.Lateral s.Vertical (k : Int) = some (.inl y) ∧ _) ∨ ∃ r, S33_0 n (i : Int) a false l (l.length : Int) s.Lateral s.Vertical (k : Int) = some (.inr r) ∧ _
    unfold S33_0
    rcases Nat.lt_or_ge k l.length with hlt | hge
    · have hx : l[k]? = some l[k] := List.getElem?_eq_getElem hlt
      generalize l[k] = x at hx
      have hcx := (h.ck x (List.mem_of_getElem? hx)).1
      have dec : l.length - ((k + 1 : Nat) : Int).toNat < l.length - (k : Int).toNat := by omega
      rw [decide_eq_true (show (k : Int) < (l.length : Int) by omega), cond_true, getI_at hx, Option.bind_some, wS (by omega)]
      by_cases e : k = i
      · subst e
        rw [show (((k : Int)) != (k : Int)) = false by simp, cond_false]
        exact .inl ⟨_, rfl, ⟨k + 1, hlt, rfl, fun j hj hji => hs j (by omega) hji⟩, dec⟩
      · rw [bne_iff_ne.2 (show (k : Int) ≠ (i : Int) by omega), cond_true]
        obtain ⟨r, hr, hr2⟩ := first_val n hn hca hcx s h.sep (h.pair hn ha hx).1.val
        rw [show (⟨s.Lateral, s.Vertical⟩ : TSep) = s from rfl, hr, Option.bind_some, hr2]
        by_cases q : SPo n l s i k = []
        · rw [decide_eq_true q]
          refine .inl ⟨_, rfl, ⟨k + 1, hlt, rfl, fun j hj hji => ?_⟩, dec⟩
          by_cases e2 : j = k
          · rw [e2]; exact q
          · exact hs j (by omega) hji
        · rw [decide_eq_false q]
          exact .inr ⟨_, rfl, ⟨(fun hb => by cases hb), fun hall => absurd (hall k e) q⟩⟩
    · right
      rw [decide_eq_false (by omega), cond_false]
      refine ⟨_, rfl, ⟨fun _ j hji => ?_, fun _ => rfl⟩⟩
      by_cases q : j < l.length
      · exact hs j (by omega) hji
      · exact SPo_none (.inr (by omega))
  obtain ⟨b, hb, hb2⟩ := hf
  rw [hb, Option.bind_some]
  exact ⟨b, rfl, hb2⟩
end
theorem met_val (n : Nat) (L : List TClash) (hL : L.length ≤ 10000000) (hn : L.length < n) (i : Int) : ∃ b, g17 n L i = some b ∧ (b = true ↔ ∃ c ∈ L, c.A = i ∨ c.B = i) := by
  unfold g17 g49
  have e := index_loop (fun c : TClash => decide (c.A = i ∨ c.B = i)) L (by omega) (S := fun y : Int => S49_0 n L i (0) (L.length : Int) y) (fun j c hs => by
    have := some_lt hs
    show S49_0 n L i (0) (L.length : Int) (j : Int) = _
    unfold S49_0 g18
    rw [decide_eq_true (show (j : Int) < _ by omega), cond_true, getI_at hs, Option.bind_some, wS (by omega)]
    by_cases c1 : c.A = i
    · rw [beq_iff_eq.2 c1, cond_true, decide_eq_true (.inl c1)]; rfl
    · rw [beq_eq_false_iff_ne.2 c1, cond_false]
      by_cases c2 : c.B = i
      · rw [beq_iff_eq.2 c2, decide_eq_true (.inr c2)]; rfl
      · rw [beq_eq_false_iff_ne.2 c2, decide_eq_false (by omega)]; rfl) (by
    show S49_0 n L i (0) (L.length : Int) (L.length : Int) = _
    unfold S49_0
    rw [decide_eq_false (Int.lt_irrefl _)]; rfl) n hn
  rw [e]
  refine ⟨_, rfl, ?_⟩
  show decide (idxL (fun c : TClash => decide (c.A = i ∨ c.B = i)) L ≥ 0) = true ↔ _
  rw [decide_eq_true_eq]
  have hneg := idxL_neg (fun c : TClash => decide (c.A = i ∨ c.B = i)) L
  constructor
  · intro h
    refine Decidable.byContradiction fun hh => ?_
    have := hneg.2 fun c hc => decide_eq_false fun k => hh ⟨c, hc, k⟩
    omega
  · rintro ⟨c, hc, k⟩
    refine Decidable.byContradiction fun hh => ?_
    have := hneg.1 (by omega) c hc
    rw [decide_eq_true k] at this; cases this
theorem sep_cases (n : Nat) (s : TSep) : g43 n s = some 0 ∨ ∃ z, z ≠ 0 ∧ g43 n s = some z := by
  unfold g43
  cases decide (s.Lateral < 0) <;> cases decide (s.Lateral > 1000000) <;> cases decide (s.Vertical < 0) <;> cases decide (s.Vertical > 60000) <;> first | exact .inl rfl | exact .inr ⟨4, by decide, rfl⟩
theorem resolve_law (n : Nat) (hn : big n) (l : List (List TTubeNode)) (s : TSep) : g5 n l s = some true := by
  have hn64 : 64 < n := by unfold big at hn; omega
  unfold g5 g6
  rw [Option.bind_some, Bool.not_true, cond_false]
  have hsm : (g10 n l 5 300 = some true ∧ l.length ≤ 5 ∧ ∀ t ∈ l, g24 n t = some 0 ∧ TubeOk t) ∨ g10 n l 5 300 = some false := by
    by_cases c : (l.length : Int) > 5
    · right
      unfold g10
      rw [decide_eq_true c, cond_true]
    · rcases small_cases n hn64 l 5 300 (by omega) (by omega) with ⟨h1, h2⟩ | h1
      · exact .inl ⟨h1, by omega, fun t ht => ⟨(h2 t ht).1, (h2 t ht).2.1⟩⟩
      · exact .inr h1
  rcases hsm with ⟨hs, hlen, hck⟩ | hs
  rotate_left
  · rw [hs]; rfl
  rw [hs, Option.bind_some, Bool.not_true, cond_false]
  rcases sep_cases n s with hsep | ⟨z, hz, hsep⟩
  rotate_left
  · have : g15 n l s = some ([], z) := by
      unfold g15
      rw [hsep, Option.bind_some, bne_iff_ne.2 hz, cond_true]
    rw [this, Option.bind_some, bne_iff_ne.2 hz, cond_true]
  have h : AllOk n l s := ⟨hsep, hlen, hck⟩
  obtain ⟨r, hr, rfl | ⟨hr2, hperm⟩⟩ := all_val hn h
  · rw [hr, Option.bind_some]; rfl
  rw [hr, Option.bind_some, hr2, show ((0 : Int) != 0) = false from rfl, cond_false]
  have hrl : r.1.length ≤ 6000000 := by
    have := rows_len hn h l.length
    have : l.length * 1000005 ≤ 5 * 1000005 := Nat.mul_le_mul_right _ hlen
    rw [hperm.length_eq]; omega
  have hrn : r.1.length < n := by unfold big at hn; omega
  -- what is met is not free
  have hmeet : ∀ i, i < l.length → ((∃ c ∈ r.1, c.A = (i : Int) ∨ c.B = (i : Int)) ↔ ¬ ∀ k, k ≠ i → SPo n l s i k = []) := by
    intro i hi
    constructor
    · rintro ⟨c, hc, hk⟩ hall
      obtain ⟨p, q, p1, p2, p3, p4⟩ := mem_rows.1 (hperm.mem_iff.1 hc)
      have key := row_key hn h p4
      have hne : SPo n l s p q ≠ [] := fun e => by
        unfold rowC at p4; rw [e] at p4; cases p4
      have hsym := (h.pair hn (List.getElem?_eq_getElem (show p < l.length by omega)) (List.getElem?_eq_getElem p3)).2
      rcases hk with hk | hk
      · have : p = i := by omega
        subst this
        exact hne (hall q (by omega))
      · have : q = i := by omega
        subst this
        exact hne (hsym.2 (hall p (by omega)))
    · intro hno
      refine Classical.byContradiction fun hh => hno fun k hk => Classical.byContradiction fun hne => hh ?_
      have hkl : k < l.length := by
        refine Decidable.byContradiction fun q => hne (SPo_none (.inr (by omega)))
      have hsym := (h.pair hn (List.getElem?_eq_getElem hi) (List.getElem?_eq_getElem hkl)).2
      have make : ∀ p q, p < q → q < l.length → SPo n l s p q ≠ [] → ∃ c ∈ r.1, c.A = (p : Int) ∧ c.B = (q : Int) := fun p q h1 h2 h3 => by
        obtain ⟨x, hx⟩ := List.exists_mem_of_ne_nil _ h3
        exact ⟨clashOf p q x, hperm.mem_iff.2 (mem_rows.2 ⟨p, q, by omega, h1, h2, List.mem_map.2 ⟨x, hx, rfl⟩⟩), rfl, rfl⟩
      rcases Nat.lt_or_gt_of_ne hk with q | q
      · obtain ⟨c, c1, c2, c3⟩ := make k i q hi (fun e => hne (hsym.2 e))
        exact ⟨c, c1, .inr c3⟩
      · obtain ⟨c, c1, c2, c3⟩ := make i k q hkl hne
        exact ⟨c, c1, .inl c2⟩
  refine iterO_eq (S := fun y : Int × Int => S5_0 n l false r.1 (l.length : Int) s.Lateral s.Vertical y.1 y.2) (fun y => ∃ v f : Nat, v ≤ l.length ∧ f ≤ v ∧ y = ((f : Int), (v : Int)) ∧ (f = v ↔ ∀ i, i < v → ∀ k, k ≠ i → SPo n l s i k = [])) true (fun y => l.length - y.2.toNat) ?_ n _ ⟨0, 0, Nat.zero_le _, Nat.le_refl _, rfl, ⟨fun _ i hi => by omega, fun _ => rfl⟩⟩ (by show l.length - (0 : Int).toNat < n; omega)
  rintro _ ⟨v, f, hv, hf, rfl, hiff⟩
  show (∃ y, S5_0 n l false r.1 (l.length : Int) s.Lateral s.Vertical (f : Int) (v : Int) = some (.inl y) ∧ _) ∨ S5_0 n l false r.1 (l.length : Int) s.Lateral s.Vertical (f : Int) (v : Int) = _
  unfold S5_0
  rcases Nat.lt_or_ge v l.length with hlt | hge
  · left
    obtain ⟨b, hb, hb2⟩ := free_val hn h v hlt
    obtain ⟨m, hm, hm2⟩ := met_val n r.1 (by omega) hrn (v : Int)
    have dec : l.length - ((v + 1 : Nat) : Int).toNat < l.length - (v : Int).toNat := by omega
    rw [decide_eq_true (show (v : Int) < (l.length : Int) by omega), cond_true, show (⟨s.Lateral, s.Vertical⟩ : TSep) = s from rfl, hb, Option.bind_some, show ((0 : Int) != 0) = false from rfl, cond_false, hm, Option.bind_some, wS (by omega), wS (by omega)]
    have hbm : (b = true ↔ ¬ m = true) := by
      rw [hb2, hm2, hmeet v hlt]
      exact ⟨fun h k => k h, fun k => Classical.byContradiction k⟩
    cases b with
    | true =>
      cases m with
      | true => exact absurd rfl (hbm.1 rfl)
      | false =>
        refine ⟨_, rfl, ⟨v + 1, f + 1, hlt, by omega, rfl, ?_⟩, dec⟩
        have hfree := hb2.1 rfl
        constructor
        · intro e i hi
          by_cases q : i = v
          · rw [q]; exact hfree
          · exact hiff.1 (by omega) i (by omega)
        · intro hall
          have := hiff.2 fun i hi => hall i (by omega)
          omega
    | false =>
      cases m with
      | false => exact absurd (hbm.2 (by simp)) (by simp)
      | true =>
        refine ⟨_, rfl, ⟨v + 1, f, hlt, by omega, rfl, ?_⟩, dec⟩
        constructor
        · intro e; omega
        · intro hall
          have := hb2.2 (hall v (by omega))
          cases this
  · right
    have : v = l.length := by omega
    subst this
    rw [decide_eq_false (Int.lt_irrefl _), cond_false]
    have hfin : (f = l.length ↔ r.1 = []) := by
      rw [hiff]
      constructor
      · intro hall
        refine List.eq_nil_iff_forall_not_mem.2 fun c hc => ?_
        obtain ⟨p, q, p1, p2, p3, p4⟩ := mem_rows.1 (hperm.mem_iff.1 hc)
        unfold rowC at p4
        rw [hall p p1 q (by omega)] at p4
        cases p4
      · intro e i hi
        refine Classical.byContradiction fun hh => ?_
        obtain ⟨c, hc, -⟩ := (hmeet i hi).2 hh
        rw [e] at hc; cases hc
    congr 2
    by_cases q : r.1 = []
    · rw [q, hfin.2 q]; simp
    · have hq : ¬ f = l.length := fun e => q (hfin.1 e)
      have h1 : ((f : Int) == (l.length : Int)) = false := beq_eq_false_iff_ne.2 (by omega)
      have h2 : ((r.1.length : Int) == 0) = false := beq_eq_false_iff_ne.2 (by
        have : r.1.length ≠ 0 := fun e => q (List.eq_nil_of_length_eq_zero e)
        omega)
      rw [h1, h2]; rfl
end Go.Proofs.YteaimbiojpjneaaGreatDoor
