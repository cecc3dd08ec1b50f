/- One insertion of runway.Insert. -/
import Derived.Test.YtfmodgffhbljoaaRun6
set_option linter.unusedVariables false
set_option linter.unusedSimpArgs false
namespace Go.Proofs.Ytfmodgffhbljoaa

def fitB (t : TWakeTable) (m x : TRunwayMove) : Bool := !(decide (x.Time ≤ m.Time) && decide (m.Time - x.Time < gapV t x m)) && !(decide (x.Time ≥ m.Time) && decide (x.Time - m.Time < gapV t m x))
theorem fits_eq (n : Nat) (hn : 20000 < n) (L : List TRunwayMove) (m : TRunwayMove) (t : TWakeTable) (ht : TabOk t) (hl : L.length ≤ 10000) (hL : ∀ x ∈ L, mOk x) (m0 : 0 ≤ m.Time) (m1 : m.Time ≤ 200000) (m2 : 0 ≤ m.Wake) (m3 : m.Wake ≤ 3) : g46 n L m t = some (L.all (fitB t m)) := by
  unfold g46
  have := iter_all (S := fun y : Int => S46_0 n false L (L.length : Int) m.Time m.Wake m.Departs m.End t.c0_0 t.c0_1 t.c0_2 t.c0_3 t.c1_0 t.c1_1 t.c1_2 t.c1_3 t.c2_0 t.c2_1 t.c2_2 t.c2_3 t.c3_0 t.c3_1 t.c3_2 t.c3_3 y) L (fitB t m) (fun _ => false) true (fun i x hx => by
    have hi := some_lt hx
    obtain ⟨x0, x1, x2, x3, -⟩ := hL x (List.mem_of_getElem? hx)
    obtain ⟨h1, a0, a1⟩ := gap_eq n t ht x ⟨m.Time, m.Wake, m.Departs, m.End⟩ x2 x3 m2 m3
    obtain ⟨h2, b0, b1⟩ := gap_eq n t ht ⟨m.Time, m.Wake, m.Departs, m.End⟩ x m2 m3 x2 x3
    show S46_0 n false L (L.length : Int) m.Time m.Wake m.Departs m.End t.c0_0 t.c0_1 t.c0_2 t.c0_3 t.c1_0 t.c1_1 t.c1_2 t.c1_3 t.c2_0 t.c2_1 t.c2_2 t.c2_3 t.c3_0 t.c3_1 t.c3_2 t.c3_3 (i : Int) = _
    unfold S46_0 fitB
    rw [decide_eq_true (show (i : Int) < (L.length : Int) by omega), getI_at hx, wS (by omega)]
    simp only [cond_true, Option.bind_some]
    rw [h1, h2, wrap64 (z := m.Time - x.Time) (by omega) (by omega), wrap64 (z := x.Time - m.Time) (by omega) (by omega)]
    simp only [Option.bind_some]
    cases decide (x.Time ≤ m.Time) <;> cases decide (x.Time ≥ m.Time) <;> cases decide (m.Time - x.Time < gapV t x m) <;> cases decide (x.Time - m.Time < gapV t m x) <;> rfl) (by
    show S46_0 n false L (L.length : Int) m.Time m.Wake m.Departs m.End t.c0_0 t.c0_1 t.c0_2 t.c0_3 t.c1_0 t.c1_1 t.c1_2 t.c1_3 t.c2_0 t.c2_1 t.c2_2 t.c2_3 t.c3_0 t.c3_1 t.c3_2 t.c3_3 (L.length : Int) = _
    unfold S46_0
    rw [decide_eq_false (show ¬ (L.length : Int) < (L.length : Int) by omega)]; rfl) n (by omega)
  rw [this]
  congr 1
  cases hf : L.find? (fun x => !fitB t m x) with
  | none =>
    have := find_none.1 hf
    exact (List.all_eq_true.2 this).symm
  | some x =>
    obtain ⟨h1, h2⟩ := find_some hf
    cases ha : L.all (fitB t m) with
    | false => rfl
    | true => rw [List.all_eq_true.1 ha x h1] at h2; cases h2
theorem at_eq (n : Nat) (hn : 20000 < n) (L : List TRunwayMove) (hl : L.length ≤ 10000) (a b : Int) (c : Bool) (d : Int) : g47 n L a b c d = some (idxL (fun x => decide (x.Time > a)) L) := by
  unfold g47
  refine index_loop _ L (by omega) (fun i x hx => ?_) ?_ n (by omega)
  · have hi := some_lt hx
    unfold S47_0
    rw [decide_eq_true (show (i : Int) < (L.length : Int) by omega), getI_at hx, wS (by omega)]
    simp only [cond_true, Option.bind_some]
    rw [show g48 n x a b c d = some (decide (x.Time > a)) from rfl]
    simp only [Option.bind_some]
    cases decide (x.Time > a) <;> rfl
  · unfold S47_0
    rw [decide_eq_false (show ¬ (L.length : Int) < (L.length : Int) by omega)]; rfl
/- where a movement goes -/
def posL (T : Int) (L : List TRunwayMove) : Nat := if idxL (fun x => decide (x.Time > T)) L < 0 then L.length else (idxL (fun x => decide (x.Time > T)) L).toNat
def putL (m : TRunwayMove) (L : List TRunwayMove) : List TRunwayMove := L.take (posL m.Time L) ++ [m] ++ L.drop (posL m.Time L)
theorem posL_le (T : Int) (L : List TRunwayMove) : posL T L ≤ L.length := by
  have := idxL_ge (fun x : TRunwayMove => decide (x.Time > T)) L
  unfold posL
  split <;> omega
theorem put_before (T : Int) (L : List TRunwayMove) : ∀ x ∈ L.take (posL T L), x.Time ≤ T := by
  intro x hx
  obtain ⟨i, hi, rfl⟩ := List.getElem_of_mem hx
  rw [List.length_take] at hi
  rw [List.getElem_take]
  unfold posL at hi
  split at hi
  · rename_i h
    have := (idxL_neg _ L).1 h L[i] (List.getElem_mem _)
    simp at this; exact this
  · rename_i h
    obtain ⟨y, -, -, h3⟩ := idxL_at (fun x : TRunwayMove => decide (x.Time > T)) L (by omega)
    have := h3 i (by omega) L[i] (List.getElem?_eq_getElem (by omega))
    simp at this; exact this
theorem put_after (T : Int) (L : List TRunwayMove) (hs : L.Pairwise (fun a b => a.Time ≤ b.Time)) : ∀ x ∈ L.drop (posL T L), T < x.Time := by
  intro x hx
  obtain ⟨i, hi, rfl⟩ := List.getElem_of_mem hx
  rw [List.length_drop] at hi
  rw [List.getElem_drop]
  have hp : posL T L < L.length := by omega
  unfold posL at hp hi ⊢
  split at hp
  · omega
  · rename_i h
    obtain ⟨y, h1, h2, -⟩ := idxL_at (fun x : TRunwayMove => decide (x.Time > T)) L (by omega)
    simp only [decide_eq_true_eq] at h2
    simp only [if_neg h] at hi ⊢
    rcases Nat.eq_zero_or_pos i with h0 | h0
    · subst h0
      obtain ⟨hlt, h1⟩ := List.getElem?_eq_some_iff.1 h1
      simp only [Nat.add_zero]
      rw [h1]; omega
    · have := pw_at hs h1 (List.getElem?_eq_getElem (show (idxL (fun x : TRunwayMove => decide (x.Time > T)) L).toNat + i < L.length by omega)) (by omega)
      omega
theorem put_perm (m : TRunwayMove) (L : List TRunwayMove) : (putL m L).Perm (m :: L) := by
  unfold putL
  rw [List.append_assoc, List.singleton_append]
  have := (List.perm_middle (a := m) (l₁ := L.take (posL m.Time L)) (l₂ := L.drop (posL m.Time L)))
  rw [List.take_append_drop] at this
  exact this
theorem put_len (m : TRunwayMove) (L : List TRunwayMove) : (putL m L).length = L.length + 1 := (put_perm m L).length_eq.trans rfl
theorem put_pw {R : TRunwayMove → TRunwayMove → Prop} (m : TRunwayMove) (L : List TRunwayMove) (h : L.Pairwise R) (h1 : ∀ x ∈ L.take (posL m.Time L), R x m) (h2 : ∀ x ∈ L.drop (posL m.Time L), R m x) : (putL m L).Pairwise R := by
  unfold putL
  rw [List.append_assoc, List.singleton_append]
  rw [← List.take_append_drop (posL m.Time L) L] at h
  obtain ⟨p1, p2, p3⟩ := List.pairwise_append.1 h
  refine List.pairwise_append.2 ⟨p1, List.pairwise_cons.2 ⟨h2, p2⟩, fun a ha b hb => ?_⟩
  rcases List.mem_cons.1 hb with rfl | hb
  · exact h1 a ha
  · exact p3 a ha b hb
theorem SafeOk.put {n : Nat} {L : List TRunwayMove} {s : List TRunwaySpan} {t : TWakeTable} (h : SafeOk n L s t) {m : TRunwayMove} (hm : mOk m) (hd : dirO m.Time s = (m.End, true)) (hf : L.all (fitB t m) = true) : SafeOk n (putL m L) s t := by
  have hf := List.all_eq_true.1 hf
  refine ⟨h.sp, h.tab, h.tz, fun x hx => ?_, put_pw m L h.time (put_before m.Time L) (fun x hx => by have := put_after m.Time L h.time x hx; omega), put_pw m L h.gaps (fun x hx => ?_) (fun x hx => ?_)⟩
  · rcases List.mem_cons.1 ((put_perm m L).mem_iff.1 hx) with rfl | hx
    · exact ⟨hm, hd⟩
    · exact h.each x hx
  · have h1 := put_before m.Time L x hx
    have h2 := hf x (List.mem_of_mem_take hx)
    unfold fitB at h2
    rw [decide_eq_true h1, Bool.true_and, Bool.and_eq_true, Bool.not_eq_true', decide_eq_false_iff_not] at h2
    omega
  · have h1 := put_after m.Time L h.time x hx
    have h2 := hf x (List.mem_of_mem_drop hx)
    unfold fitB at h2
    rw [decide_eq_true (show x.Time ≥ m.Time by omega), Bool.true_and, Bool.and_eq_true, Bool.not_eq_true', Bool.not_eq_true', decide_eq_false_iff_not] at h2
    have := h2.2
    omega
/- the search of a time -/
abbrev inS (n : Nat) (s : List TRunwaySpan) (d : List TRunwayReady) (c v : Int) (t : TWakeTable) (y : List TRunwayMove × Int × Int × Bool × Int) := S21_0_0 n s 0 d c v t.c0_0 t.c0_1 t.c0_2 t.c0_3 t.c1_0 t.c1_1 t.c1_2 t.c1_3 t.c2_0 t.c2_1 t.c2_2 t.c2_3 t.c3_0 t.c3_1 t.c3_2 t.c3_3 y.1 y.2.1 y.2.2.1 y.2.2.2.1 y.2.2.2.2
def Done (n : Nat) (L L' : List TRunwayMove) (s : List TRunwaySpan) (t : TWakeTable) : Prop := SafeOk n L' s t ∧ ∃ m : TRunwayMove, m.Departs = true ∧ L'.Perm (m :: L)
theorem search (n : Nat) (hn : 20000 < n) (s : List TRunwaySpan) (t : TWakeTable) (L : List TRunwayMove) (h : SafeOk n L s t) (W : Int) (w0 : 0 ≤ W) (w1 : W ≤ 3) : ∀ (k : Nat) (T : Int), 0 ≤ T → T + k = 200001 →
    ∃ r : Option (List TRunwayMove), (∀ L', r = some L' → Done n L L' s t) ∧ ∀ (d : List TRunwayReady) (c : Int) (v : Nat), v < 1000000 → ∀ q, k < q → iterO (fun y => inS n s d c v t y) q (L, T, W, true, 0) = some (match r with | some L' => .inl (((v + 1 : Nat) : Int), L') | none => .inr ([], 8)) := by
  intro k
  induction k with
  | zero =>
    intro T h0 hT
    refine ⟨none, (fun _ h => by cases h), fun d c v hv q hq => ?_⟩
    obtain ⟨q, rfl⟩ : ∃ j, q = j + 1 := ⟨q - 1, by omega⟩
    unfold iterO
    have : inS n s d c v t (L, T, W, true, 0) = some (.inr (.inr ([], 8))) := by
      unfold inS S21_0_0
      rw [decide_eq_false (show ¬ T ≤ 200000 by omega), decide_eq_true (show T > 200000 by omega)]; rfl
    rw [this]
  | succ k ih =>
    intro T h0 hT
    have hdir := dir_eq n (by omega) s h.sp.len h.sp.pos (fun x hx => (h.sp.mem hx).2) T h0 (by omega)
    have hfit := fits_eq n hn L ⟨T, W, true, 0⟩ t h.tab (by have := h.plen; omega) (fun x hx => (h.each x hx).1) h0 (show T ≤ 200000 by omega) w0 w1
    have hgt : ¬ T > 200000 := by omega
    have htl : T ≤ 200000 := by omega
    have next : ∀ (d : List TRunwayReady) (c : Int) (v : Nat), ((dirO T s).2 = false ∨ L.all (fitB t ⟨T, W, true, 0⟩) = false) → inS n s d c v t (L, T, W, true, 0) = some (.inl (L, T + 1, W, true, 0)) := by
      intro d c v hno
      unfold inS S21_0_0
      rw [decide_eq_true htl, wrap64 (z := T + 1) (by omega) (by omega)]
      dsimp only
      rw [hdir, hfit]
      simp only [cond_true, Option.bind_some]
      cases h1 : (dirO T s).2 with
      | false => rfl
      | true =>
        rcases hno with hno | hno
        · rw [h1] at hno; cases hno
        · rw [hno]; rfl
    by_cases hno : (dirO T s).2 = false ∨ L.all (fitB t ⟨T, W, true, 0⟩) = false
    · obtain ⟨r, r1, r2⟩ := ih (T + 1) (by omega) (by omega)
      refine ⟨r, r1, fun d c v hv q hq => ?_⟩
      obtain ⟨q, rfl⟩ : ∃ j, q = j + 1 := ⟨q - 1, by omega⟩
      unfold iterO
      rw [next d c v hno]
      exact r2 d c v hv q (by omega)
    · have h1 : (dirO T s).2 = true := by cases hh : (dirO T s).2 with | true => rfl | false => exact absurd (.inl hh) hno
      have h2 : L.all (fitB t ⟨T, W, true, 0⟩) = true := by cases hh : L.all (fitB t ⟨T, W, true, 0⟩) with | true => rfl | false => exact absurd (.inr hh) hno
      refine ⟨some (putL ⟨T, W, true, (dirO T s).1⟩ L), fun L' hL' => ?_, fun d c v hv q hq => ?_⟩
      · cases hL'
        exact ⟨h.put ⟨h0, htl, w0, w1, dirO_end h.sp T⟩ (by show dirO T s = ((dirO T s).1, true); rw [← h1]) h2, _, rfl, put_perm _ L⟩
      · obtain ⟨q, rfl⟩ : ∃ j, q = j + 1 := ⟨q - 1, by omega⟩
        unfold iterO
        have hlen := h.plen
        have hins : ∀ z : Int, z = (posL T L : Int) → insO 32 L z [(⟨T, W, true, (dirO T s).1⟩ : TRunwayMove)] = some (putL ⟨T, W, true, (dirO T s).1⟩ L) := by
          intro z hz
          subst hz
          have hp := posL_le T L
          unfold insO
          rw [if_pos ⟨by omega, by omega, by simp, by simp; omega, by simp; omega⟩, Int.toNat_natCast]
          rfl
        have : inS n s d c v t (L, T, W, true, 0) = some (.inr (.inl (((v + 1 : Nat) : Int), putL ⟨T, W, true, (dirO T s).1⟩ L))) := by
          unfold inS S21_0_0
          rw [decide_eq_true htl, decide_eq_false hgt]
          dsimp only
          rw [hdir, hfit, h2]
          simp only [cond_true, Option.bind_some]
          rw [h1, at_eq n hn L (by omega), wS (by omega)]
          simp only [cond_true, cond_false, Option.bind_some]
          by_cases hi : idxL (fun x : TRunwayMove => decide (x.Time > T)) L < 0
          · rw [decide_eq_true hi, cond_true, hins (L.length : Int) (by unfold posL; rw [if_pos hi])]; rfl
          · rw [decide_eq_false hi, cond_false, hins (idxL (fun x => decide (x.Time > T)) L) (by unfold posL; rw [if_neg hi]; omega)]; rfl
        rw [this]
/- one departure -/
abbrev outS (n : Nat) (s : List TRunwaySpan) (d : List TRunwayReady) (t : TWakeTable) (y : Int × List TRunwayMove) := S21_0 n s 0 d (d.length : Int) t.c0_0 t.c0_1 t.c0_2 t.c0_3 t.c1_0 t.c1_1 t.c1_2 t.c1_3 t.c2_0 t.c2_1 t.c2_2 t.c2_3 t.c3_0 t.c3_1 t.c3_2 t.c3_3 y.1 y.2
theorem one (n : Nat) (hn : 200200 < n) (s : List TRunwaySpan) (t : TWakeTable) (L : List TRunwayMove) (h : SafeOk n L s t) (x : TRunwayReady) :
    ∃ r : List TRunwayMove ⊕ Int, (∀ L', r = .inl L' → Done n L L' s t) ∧ (∀ e, r = .inr e → e ≠ 0) ∧ ∀ (d : List TRunwayReady) (v : Nat), v < 1000000 → d[v]? = some x → outS n s d t ((v : Int), L) = some (match r with | .inl L' => .inl (((v + 1 : Nat) : Int), L') | .inr e => .inr ([], e)) := by
  by_cases h1 : x.Time < 0 ∨ x.Time > 200000
  · refine ⟨.inr 12, (fun _ h => by cases h), (fun e h => by cases h; decide), fun d v hv hx => ?_⟩
    have := some_lt hx
    unfold outS S21_0
    rw [decide_eq_true (show (v : Int) < (d.length : Int) by omega)]
    dsimp only
    rw [getI_at hx]
    simp only [cond_true, Option.bind_some, wrongT_eq]
    rw [decide_eq_true h1]; rfl
  by_cases h2 : 0 ≤ x.Wake ∧ x.Wake ≤ 3
  · obtain ⟨r, r1, r2⟩ := search n (by omega) s t L h x.Wake h2.1 h2.2 (200001 - x.Time).toNat x.Time (by omega) (by omega)
    refine ⟨(match r with | some L' => .inl L' | none => .inr 8 : List TRunwayMove ⊕ Int), fun L' h => ?_, fun e h => ?_, fun d v hv hx => ?_⟩
    · cases r with
      | none => cases h
      | some L2 => cases h; exact r1 _ rfl
    · cases r with
      | none => cases h; decide
      | some L2 => cases h
    · have := some_lt hx
      unfold outS S21_0
      rw [decide_eq_true (show (v : Int) < (d.length : Int) by omega)]
      dsimp only
      rw [getI_at hx]
      simp only [cond_true, Option.bind_some, wrongT_eq, class2_eq]
      rw [decide_eq_false h1, if_pos h2]
      simp only [cond_false, bne_self_eq_false]
      refine (r2 d (d.length : Int) v hv n (by omega)).trans ?_
      cases r <;> rfl
  · refine ⟨.inr 1, (fun _ h => by cases h), (fun e h => by cases h; decide), fun d v hv hx => ?_⟩
    have := some_lt hx
    unfold outS S21_0
    rw [decide_eq_true (show (v : Int) < (d.length : Int) by omega)]
    dsimp only
    rw [getI_at hx]
    simp only [cond_true, Option.bind_some, wrongT_eq, class2_eq]
    rw [decide_eq_false h1, if_neg h2]; rfl
/- the answer of one departure, by the program itself -/
def insR (n : Nat) (s : List TRunwaySpan) (t : TWakeTable) (L : List TRunwayMove) (x : TRunwayReady) : List TRunwayMove ⊕ Int := match outS n s [x] t (0, L) with
  | some (.inl y) => .inl y.2
  | some (.inr y) => .inr y.2
  | none => .inr 1
theorem insR_ok (n : Nat) (hn : 200200 < n) (s : List TRunwaySpan) (t : TWakeTable) (L : List TRunwayMove) (h : SafeOk n L s t) (x : TRunwayReady) :
    (∀ L', insR n s t L x = .inl L' → Done n L L' s t) ∧ (∀ e, insR n s t L x = .inr e → e ≠ 0) ∧ ∀ (d : List TRunwayReady) (v : Nat), v < 1000000 → d[v]? = some x → outS n s d t ((v : Int), L) = some (match insR n s t L x with | .inl L' => .inl (((v + 1 : Nat) : Int), L') | .inr e => .inr ([], e)) := by
  obtain ⟨r, r1, r2, r3⟩ := one n hn s t L h x
  have e : insR n s t L x = r := by
    unfold insR
    have := r3 [x] 0 (by decide) rfl
    rw [show (((0 : Nat) : Int)) = 0 from rfl] at this
    rw [this]
    cases r <;> rfl
  rw [e]
  exact ⟨r1, r2, r3⟩
def foldI (n : Nat) (s : List TRunwaySpan) (t : TWakeTable) : List TRunwayReady → List TRunwayMove → List TRunwayMove × Int
  | [], L => (L, 0)
  | x :: d, L => match insR n s t L x with
    | .inl L' => foldI n s t d L'
    | .inr e => ([], e)
theorem ins_loop (n : Nat) (hn : 200200 < n) (s : List TRunwaySpan) (t : TWakeTable) (d : List TRunwayReady) (hd : d.length ≤ 24) : ∀ (k i q : Nat) (L : List TRunwayMove), i + k = d.length → k < q → SafeOk n L s t → L.length + k ≤ 24 → iterO (fun y : Int × List TRunwayMove => outS n s d t y) q ((i : Int), L) = some (foldI n s t (d.drop i) L) := by
  intro k
  induction k with
  | zero =>
    intro i q L hi hq h hl
    obtain ⟨q, rfl⟩ : ∃ j, q = j + 1 := ⟨q - 1, by omega⟩
    unfold iterO
    have : outS n s d t ((i : Int), L) = some (.inr (L, 0)) := by
      unfold outS S21_0
      dsimp only
      rw [decide_eq_false (show ¬ (i : Int) < (d.length : Int) by omega)]; rfl
    rw [this, List.drop_eq_nil_of_le (by omega)]; rfl
  | succ k ih =>
    intro i q L hi hq h hl
    obtain ⟨q, rfl⟩ : ∃ j, q = j + 1 := ⟨q - 1, by omega⟩
    unfold iterO
    have hx : d[i]? = some (d[i]'(by omega)) := List.getElem?_eq_getElem (by omega)
    rw [show d.drop i = d[i]'(by omega) :: d.drop (i + 1) from List.drop_eq_getElem_cons (by omega)]
    generalize d[i]'(by omega) = x at hx
    obtain ⟨r1, -, r3⟩ := insR_ok n hn s t L h x
    rw [r3 d i (by omega) hx, foldI]
    cases hr : insR n s t L x with
    | inr e => rfl
    | inl L' =>
      obtain ⟨h1, m, -, h2⟩ := r1 L' hr
      have := h2.length_eq
      simp at this
      exact ih (i + 1) q L' (by omega) (by omega) h1 (by omega)
theorem insert_run (n : Nat) (hn : 200200 < n) (s : List TRunwaySpan) (t : TWakeTable) (l : List TRunwayMove) (d : List TRunwayReady) (h : SafeOk n l s t) (hl : l.length + d.length ≤ 24) : g21 n l s t d = some (foldI n s t d l) := by
  unfold g21
  rw [h.run (by omega) (by omega)]
  simp only [Option.bind_some, bne_self_eq_false, cond_false]
  rw [wrap64 (by omega) (by omega), decide_eq_false (show ¬ ((l.length : Int) + (d.length : Int)) > 24 by omega), cond_false, show roomO l.length 32 = some () from room_of (by omega) (by omega)]
  simp only [Option.bind_some]
  exact ins_loop n hn s t d (by omega) d.length 0 n l (by omega) (by omega) h (by omega)
theorem ins_big (n : Nat) (hn : 200200 < n) (s : List TRunwaySpan) (t : TWakeTable) (d : List TRunwayReady) : ∀ (k i q : Nat) (L : List TRunwayMove), L.length + k = 7000 → i + k < 100000 → i + k < d.length → k < q → SafeOk n L s t → ∃ e, e ≠ 0 ∧ iterO (fun y : Int × List TRunwayMove => outS n s d t y) q ((i : Int), L) = some ([], e) := by
  intro k
  induction k with
  | zero => intro i q L hl _ _ _ h; have := h.plen; omega
  | succ k ih =>
    intro i q L hl hi hd hq h
    obtain ⟨q, rfl⟩ : ∃ j, q = j + 1 := ⟨q - 1, by omega⟩
    unfold iterO
    have hx : d[i]? = some (d[i]'(by omega)) := List.getElem?_eq_getElem (by omega)
    generalize d[i]'(by omega) = x at hx
    obtain ⟨r1, r2, r3⟩ := insR_ok n hn s t L h x
    rw [r3 d i (by omega) hx]
    cases hr : insR n s t L x with
    | inr e => exact ⟨e, r2 e hr, rfl⟩
    | inl L' =>
      obtain ⟨h1, m, -, h2⟩ := r1 L' hr
      have := h2.length_eq
      simp at this
      exact ih (i + 1) q L' (by omega) (by omega) (by omega) (by omega) h1
theorem wrap_over {z : Int} (h1 : 9223372036854775808 ≤ z) (h2 : z ≤ 18446744073709551615) : IntKind.wrap .i64 z = z - 18446744073709551616 := by
  have h : z = (z - 18446744073709551616) + 18446744073709551616 := by omega
  have h3 : IntKind.wrap .i64 (z - 18446744073709551616) = z - 18446744073709551616 := wrap64 (by omega) (by omega)
  have h4 : IntKind.wrap .i64 z = IntKind.wrap .i64 (z - 18446744073709551616) := by
    unfold IntKind.wrap
    rw [show z = (z - 18446744073709551616) + 18446744073709551616 * 1 by omega]
    simp [IntKind.bits, IntKind.signed, Int.add_sub_cancel]
  rw [h4, h3]
theorem insert_all (n : Nat) (hn : 200200 < n) (s : List TRunwaySpan) (t : TWakeTable) (l : List TRunwayMove) (d : List TRunwayReady) (hm : d.length ≤ 9223372036854775807) : (∃ e, e ≠ 0 ∧ g21 n l s t d = some ([], e)) ∨ (SafeOk n l s t ∧ l.length + d.length ≤ 24) := by
  obtain ⟨q, hq, h⟩ := safe_all n (by omega) l s t
  by_cases h0 : q.2.2 = 0
  · obtain ⟨h, hl⟩ := h h0
    by_cases h24 : l.length + d.length ≤ 24
    · exact .inr ⟨h, h24⟩
    left
    unfold g21
    rw [h.run (by omega) hl]
    simp only [Option.bind_some, bne_self_eq_false, cond_false]
    by_cases hov : l.length + d.length ≤ 9223372036854775807
    · refine ⟨2, by decide, ?_⟩
      rw [wrap64 (by omega) (by omega), decide_eq_true (show ((l.length : Int) + (d.length : Int)) > 24 by omega)]; rfl
    · rw [wrap_over (by omega) (by omega), decide_eq_false (show ¬ ((l.length : Int) + (d.length : Int) - 18446744073709551616) > 24 by omega), cond_false, show roomO l.length 32 = some () from room_of (by omega) (by omega)]
      simp only [Option.bind_some]
      exact ins_big n hn s t d (7000 - l.length) 0 n l (by omega) (by omega) (by omega) (by omega) h
  · refine .inl ⟨q.2.2, h0, ?_⟩
    unfold g21
    rw [hq]
    simp only [Option.bind_some]
    rw [bne0 h0]; rfl
theorem fold_ok (n : Nat) (hn : 200200 < n) (s : List TRunwaySpan) (t : TWakeTable) : ∀ (d : List TRunwayReady) (L : List TRunwayMove), SafeOk n L s t → L.length + d.length ≤ 24 → ((foldI n s t d L).2 ≠ 0 ∧ (foldI n s t d L).1 = []) ∨ ((foldI n s t d L).2 = 0 ∧ SafeOk n (foldI n s t d L).1 s t ∧ ∃ D : List TRunwayMove, D.length = d.length ∧ (∀ m ∈ D, m.Departs = true) ∧ (foldI n s t d L).1.Perm (L ++ D))
  | [], L, h, hl => .inr ⟨rfl, h, [], rfl, (fun m hm => by cases hm), by rw [List.append_nil]; exact List.Perm.refl _⟩
  | x :: d, L, h, hl => by
    simp only [List.length_cons] at hl
    obtain ⟨r1, r2, -⟩ := insR_ok n hn s t L h x
    rw [foldI]
    cases hr : insR n s t L x with
    | inr e => exact .inl ⟨r2 e hr, rfl⟩
    | inl L' =>
      obtain ⟨h1, m, hm, h2⟩ := r1 L' hr
      have hlen := h2.length_eq
      simp only [List.length_cons] at hlen
      rcases fold_ok n hn s t d L' h1 (by omega) with hb | ⟨b1, b2, D, b3, b4, b5⟩
      · exact .inl hb
      · refine .inr ⟨b1, b2, m :: D, by simp [b3], fun y hy => ?_, ?_⟩
        · rcases List.mem_cons.1 hy with rfl | hy
          · exact hm
          · exact b4 y hy
        · refine b5.trans ((h2.append_right D).trans ?_)
          rw [List.cons_append]
          exact List.perm_middle.symm
end Go.Proofs.Ytfmodgffhbljoaa
