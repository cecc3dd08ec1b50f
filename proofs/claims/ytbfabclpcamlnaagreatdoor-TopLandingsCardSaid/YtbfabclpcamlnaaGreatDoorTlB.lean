/- Parts Tl1, Run3, Run4, Tr5, Tr6, Tr7. -/
import Derived.Test.YtbfabclpcamlnaaGreatDoorTab
set_option linter.unusedVariables false
set_option linter.unusedSimpArgs false
set_option maxHeartbeats 1000000
namespace Go.Proofs.YtbfabclpcamlnaaGreatDoor
def qF (t : Ao) : Prop := ∀ a b c : Nat, a < 4 → b < 4 → c < 4 → cell t a c ≤ cell t a b + cell t b c
theorem Ae8 (n : Nat) (hn : 100 < n) (t : Ao) (hall : G1 t) (a b : Nat) (ha : a < 4) (hb : b < 4) : ∃ q, Ba (fun y : Int => D3 n (0) (a : Int) (b : Int) t.Cf t.Ce t.Ci t.Cn t.Cd t.Cl t.Cr t.Co t.Cm t.Ck t.Ch t.Cg t.Cb t.Cj t.Cq t.Cp y) n 0 = some q ∧ ((∃ z, q = .inr (.inr z) ∧ z ≠ 0) ∨ q = .inl ((b + 1 : Nat) : Int) ∧ ∀ (c : Nat) (x : Nat), [0, 1, 2, 3][c]? = some x → cell t a c ≤ cell t a b + cell t b c) := by
  refine Fj (S := fun y : Int => D3 n (0) (a : Int) (b : Int) t.Cf t.Ce t.Ci t.Cn t.Cd t.Cl t.Cr t.Co t.Cm t.Ck t.Ch t.Cg t.Cb t.Cj t.Cq t.Cp y) [0, 1, 2, 3] (fun c _ => cell t a c ≤ cell t a b + cell t b c) (fun q => ∃ z, q = .inr (.inr z) ∧ z ≠ 0) (.inl ((b + 1 : Nat) : Int)) (fun c x hx => ?_) ?_ n (by simp; omega)
  · have hc : c < 4 := Dn hx
    obtain ⟨ri, e1, e3, p1, p2⟩ := K7 t hall (a := (a : Int)) (b := (c : Int)) (by omega) (by omega) (by omega) (by omega)
    obtain ⟨ri', e1', e4, p3, p4⟩ := K7 t hall (a := (a : Int)) (b := (b : Int)) (by omega) (by omega) (by omega) (by omega)
    rw [e1] at e1'
    cases e1'
    obtain ⟨rj, e2, e5, p5, p6⟩ := K7 t hall (a := (b : Int)) (b := (c : Int)) (by omega) (by omega) (by omega) (by omega)
    unfold rows at e1 e2
    unfold Ij at e3 e4 e5
    unfold D3
    rw [decide_eq_true (show (c : Int) < 4 by omega), wS (by omega)]
    simp only [cond_true, e1, e2, e3, e4, e5, Option.bind_some]
    rw [wrap64 (by omega) (by omega)]
    by_cases h : cell t a c > cell t a b + cell t b c
    · rw [decide_eq_true h]
      exact .inr ⟨_, rfl, 3, rfl, by decide⟩
    · rw [decide_eq_false h]
      exact .inl ⟨rfl, by omega⟩
  · show D3 n (0) (a : Int) (b : Int) t.Cf t.Ce t.Ci t.Cn t.Cd t.Cl t.Cr t.Co t.Cm t.Ck t.Ch t.Cg t.Cb t.Cj t.Cq t.Cp ((4 : Nat) : Int) = _
    unfold D3
    rw [decide_eq_false (show ¬ ((4 : Nat) : Int) < 4 by omega), wS (i := b) (by omega)]; rfl
theorem Af0 (n : Nat) (hn : 100 < n) (t : Ao) (hall : G1 t) (a : Nat) (ha : a < 4) : ∃ q, Ba (fun y : Int => E4 n (0) (a : Int) t.Cf t.Ce t.Ci t.Cn t.Cd t.Cl t.Cr t.Co t.Cm t.Ck t.Ch t.Cg t.Cb t.Cj t.Cq t.Cp y) n 0 = some q ∧ ((∃ z, q = .inr z ∧ z ≠ 0) ∨ q = .inl ((a + 1 : Nat) : Int) ∧ ∀ (b : Nat) (x : Nat), [0, 1, 2, 3][b]? = some x → ∀ c : Nat, c < 4 → cell t a c ≤ cell t a b + cell t b c) := by
  refine Fj (S := fun y : Int => E4 n (0) (a : Int) t.Cf t.Ce t.Ci t.Cn t.Cd t.Cl t.Cr t.Co t.Cm t.Ck t.Ch t.Cg t.Cb t.Cj t.Cq t.Cp y) [0, 1, 2, 3] (fun b _ => ∀ c : Nat, c < 4 → cell t a c ≤ cell t a b + cell t b c) (fun q => ∃ z, q = .inr z ∧ z ≠ 0) (.inl ((a + 1 : Nat) : Int)) (fun b x hx => ?_) ?_ n (by simp; omega)
  · have hb : b < 4 := Dn hx
    obtain ⟨q, hq, h⟩ := Ae8 n hn t hall a b ha hb
    have hS : E4 n (0) (a : Int) t.Cf t.Ce t.Ci t.Cn t.Cd t.Cl t.Cr t.Co t.Cm t.Ck t.Ch t.Cg t.Cb t.Cj t.Cq t.Cp (b : Int) = some q := by
      unfold E4
      rw [decide_eq_true (show (b : Int) < 4 by omega), cond_true]
      exact hq
    rcases h with ⟨z, rfl, hz⟩ | ⟨rfl, h⟩
    · exact .inr ⟨_, hS, z, rfl, hz⟩
    · exact .inl ⟨hS, fun c hc => h c _ (List.getElem?_eq_getElem (show c < [0, 1, 2, 3].length from hc))⟩
  · show E4 n (0) (a : Int) t.Cf t.Ce t.Ci t.Cn t.Cd t.Cl t.Cr t.Co t.Cm t.Ck t.Ch t.Cg t.Cb t.Cj t.Cq t.Cp ((4 : Nat) : Int) = _
    unfold E4
    rw [decide_eq_false (show ¬ ((4 : Nat) : Int) < 4 by omega), wS (i := a) (by omega)]; rfl
theorem Afn (n : Nat) (hn : 100 < n) (t : Ao) (hall : G1 t) : ∃ q, Ba (fun y : Int => Hd n (0) t.Cf t.Ce t.Ci t.Cn t.Cd t.Cl t.Cr t.Co t.Cm t.Ck t.Ch t.Cg t.Cb t.Cj t.Cq t.Cp y) n 0 = some q ∧ (q ≠ 0 ∨ qF t) := by
  obtain ⟨q, hq, h⟩ := Fj (S := fun y : Int => Hd n (0) t.Cf t.Ce t.Ci t.Cn t.Cd t.Cl t.Cr t.Co t.Cm t.Ck t.Ch t.Cg t.Cb t.Cj t.Cq t.Cp y) [0, 1, 2, 3] (fun a _ => ∀ b : Nat, b < 4 → ∀ c : Nat, c < 4 → cell t a c ≤ cell t a b + cell t b c) (fun q => q ≠ 0) 0 (fun a x hx => by
    have ha : a < 4 := Dn hx
    obtain ⟨q, hq, h⟩ := Af0 n hn t hall a ha
    have hS : Hd n (0) t.Cf t.Ce t.Ci t.Cn t.Cd t.Cl t.Cr t.Co t.Cm t.Ck t.Ch t.Cg t.Cb t.Cj t.Cq t.Cp (a : Int) = some q := by
      unfold Hd
      rw [decide_eq_true (show (a : Int) < 4 by omega), cond_true]
      exact hq
    rcases h with ⟨z, rfl, hz⟩ | ⟨rfl, h⟩
    · exact .inr ⟨_, hS, hz⟩
    · exact .inl ⟨hS, fun b hb c hc => h b _ (List.getElem?_eq_getElem (show b < [0, 1, 2, 3].length from hb)) c hc⟩) (by
    show Hd n (0) t.Cf t.Ce t.Ci t.Cn t.Cd t.Cl t.Cr t.Co t.Cm t.Ck t.Ch t.Cg t.Cb t.Cj t.Cq t.Cp ((4 : Nat) : Int) = _
    unfold Hd
    rw [decide_eq_false (show ¬ ((4 : Nat) : Int) < 4 by omega)]; rfl) n (by simp; omega)
  refine ⟨q, hq, ?_⟩
  rcases h with h | ⟨rfl, h⟩
  · exact .inl h
  · exact .inr fun a b c ha hb hc => h a _ (List.getElem?_eq_getElem (show a < [0, 1, 2, 3].length from ha)) b hb c hc
theorem qB (n : Nat) (hn : 100 < n) (t : Ao) (h : Zi n t = some 0) : G1 t ∧ qF t := by
  have hall : G1 t := by
    obtain ⟨z, h1, h2⟩ := cS n hn t
    rw [h1] at h
    cases h
    exact h2 rfl
  obtain ⟨q, hq, hT⟩ := Afn n hn t hall
  have key : Zi n t = some q := by
    unfold Zi
    refine G4 (fun y => ∃ i : Nat, i ≤ 4 ∧ y = (i : Int)) q (fun y => 4 - y.toNat) ?_ n 0 ⟨0, by omega, rfl⟩ (by simp; omega)
    rintro _ ⟨i, hi, rfl⟩
    rcases Nat.lt_or_ge i 4 with hlt | hge
    · left
      obtain ⟨r, hr, hmem⟩ := Uk t hall (a := (i : Int)) (by omega) (by omega)
      unfold rows at hr
      refine ⟨((i + 1 : Nat) : Int), ?_, ⟨i + 1, hlt, rfl⟩, by omega⟩
      unfold Lx
      rw [decide_eq_true (show (i : Int) < 4 by omega), hr]
      simp only [cond_true, Option.bind_some]
      refine G4 (fun y => ∃ j : Nat, j ≤ 4 ∧ y = (j : Int)) _ (fun y => 4 - y.toNat) ?_ n 0 ⟨0, by omega, rfl⟩ (by simp; omega)
      rintro _ ⟨j, hj, rfl⟩
      unfold Fm
      rcases Nat.lt_or_ge j 4 with hj4 | hj4
      · obtain ⟨x, hx, hxm⟩ := Qx r (b := (j : Int)) (by omega) (by omega)
        have hb := hall r hmem x hxm
        unfold Ij at hx
        rw [decide_eq_true (show (j : Int) < 4 by omega), cond_true, hx, Option.bind_some, decide_eq_false (show ¬ x < 30 by omega), cond_false, decide_eq_false (show ¬ x > 600 by omega), cond_false, wS (by omega)]
        exact .inl ⟨_, rfl, ⟨j + 1, hj4, rfl⟩, by omega⟩
      · rw [decide_eq_false (show ¬ (j : Int) < 4 by omega), cond_false, wS (i := i) (by omega)]
        exact .inr rfl
    · right
      have : i = 4 := by omega
      subst this
      unfold Lx
      rw [decide_eq_false (show ¬ ((4 : Nat) : Int) < 4 by omega), cond_false, hq]; rfl
  rw [key] at h
  cases h
  refine ⟨hall, ?_⟩
  rcases hT with h | h
  · exact absurd rfl h
  · exact h
end Go.Proofs.YtbfabclpcamlnaaGreatDoor
set_option linter.unusedVariables false
set_option linter.unusedSimpArgs false
namespace Go.Proofs.YtbfabclpcamlnaaGreatDoor
theorem Iz (n : Nat) (t : Int) : rJ n t = some (decide (t < 0 ∨ t > 200000)) := by
  unfold rJ
  by_cases h : t < 0
  · rw [decide_eq_true h, show decide (t < 0 ∨ t > 200000) = true from decide_eq_true (.inl h)]; rfl
  · rw [decide_eq_false h, cond_false]
    congr 1
    by_cases h2 : t > 200000
    · rw [decide_eq_true h2, show decide (t < 0 ∨ t > 200000) = true from decide_eq_true (.inr h2)]
    · rw [decide_eq_false h2, show decide (t < 0 ∨ t > 200000) = false from decide_eq_false (by omega)]
theorem Oc (n : Nat) (w : Int) : o9 n w = some (if 0 ≤ w ∧ w ≤ 3 then 0 else 1) := by
  unfold o9
  by_cases h1 : w < 0
  · rw [decide_eq_true h1, cond_true, if_neg (by omega)]
  · by_cases h2 : w > 3
    · rw [decide_eq_false h1, decide_eq_true h2, cond_false, cond_true, if_neg (by omega)]
    · rw [decide_eq_false h1, decide_eq_false h2, cond_false, cond_false, if_pos (by omega)]
structure Aed (l : List Ab) : Prop where
  len : l.length ≤ 24
  each : ∀ x ∈ l, 0 ≤ x.Time ∧ x.Time ≤ 200000 ∧ 0 ≤ x.Bc ∧ x.Bc ≤ 3
  sorted : ∀ (i : Nat) (x y : Ab), l[i]? = some x → l[i + 1]? = some y → x.Time ≤ y.Time
def Kc {α : Type} (l : List α) : Nat → Option α
  | 0 => none
  | k + 1 => l[k]?
def Lk (x : Ah) : Option Ah → Option Int
  | none => none
  | some p => if x.B6 < IntKind.wrap .i64 (p.B6 + 360) then some 12 else if x.End = p.End then some 11 else none
def Jj (p : Option Ah) (x : Ah) : Option Int :=
  if x.End ≠ 0 ∧ x.End ≠ 1 then some 1 else if x.B6 < 0 ∨ x.B6 > 200000 then some 12 else Lk x p
def Xi (i : Nat) : Option Int → Int ⊕ Int
  | none => .inl ((i + 1 : Nat) : Int)
  | some z => .inr z
theorem aU (n : Nat) (l : List Ah) (hl : l.length ≤ 24) (i : Nat) (x : Ah) (hx : l[i]? = some x) : Js n l 0 (l.length : Int) (i : Int) = some (Xi i (Jj (Kc l i) x)) := by
  have hi := Dn hx
  unfold Js Jj
  rw [decide_eq_true (show (i : Int) < _ by omega), Cw hx, wS (by omega)]
  simp only [cond_true, Option.bind_some, Iz]
  have tail : ∀ u : Option (Int ⊕ Int), (x.B6 < 0 ∨ x.B6 > 200000 → u = some (.inr 12)) → (¬ (x.B6 < 0 ∨ x.B6 > 200000) → i = 0 → u = some (.inl ((i + 1 : Nat) : Int))) → (¬ (x.B6 < 0 ∨ x.B6 > 200000) → ∀ k p, i = k + 1 → l[k]? = some p → u = (bif decide (x.B6 < IntKind.wrap .i64 (p.B6 + 360)) then some (.inr 12) else bif x.End == p.End then some (.inr 11) else some (.inl ((i + 1 : Nat) : Int)))) → u = some (Xi i (if x.B6 < 0 ∨ x.B6 > 200000 then some 12 else Lk x (Kc l i))) := by
    intro u h1 h2 h3
    by_cases ht : x.B6 < 0 ∨ x.B6 > 200000
    · rw [if_pos ht, h1 ht]; rfl
    rw [if_neg ht]
    cases i with
    | zero => exact h2 ht rfl
    | succ k =>
      have hp : l[k]? = some (l[k]'(by omega)) := List.getElem?_eq_getElem (by omega)
      generalize l[k]'(by omega) = p at hp
      rw [h3 ht k p rfl hp, show Kc l (k + 1) = some p from hp, Lk]
      by_cases hs : x.B6 < IntKind.wrap .i64 (p.B6 + 360)
      · rw [decide_eq_true hs, if_pos hs]; rfl
      · rw [decide_eq_false hs, if_neg hs, cond_false]
        by_cases he : x.End = p.End
        · rw [show (x.End == p.End) = true from beq_iff_eq.2 he, if_pos he]; rfl
        · rw [show (x.End == p.End) = false from beq_eq_false_iff_ne.2 he, if_neg he]; rfl
  by_cases hb : x.End ≠ 0 ∧ x.End ≠ 1
  · rw [if_pos hb, show (x.End != (0)) = true from bne_iff_ne.2 hb.1, show (x.End != (1)) = true from bne_iff_ne.2 hb.2]; rfl
  rw [if_neg hb]
  have hgo : ∀ A B : Option (Int ⊕ Int), (bif (x.End != (0)) then (bif (x.End != (1)) then A else B) else B) = B := by
    intro A B
    by_cases h1 : x.End = 0
    · rw [show (x.End != (0)) = false by rw [h1]; rfl]; rfl
    · rw [show (x.End != (0)) = true from bne_iff_ne.2 h1, show (x.End != (1)) = false by rw [show x.End = 1 by omega]; rfl]; rfl
  rw [hgo]
  refine tail _ (fun ht => by rw [decide_eq_true ht]; rfl) (fun ht h0 => by rw [decide_eq_false ht]; subst h0; rfl) (fun ht k p hk hp => ?_)
  subst hk
  have e2 : IntKind.wrap .i64 (((k + 1 : Nat) : Int) - 1) = (k : Int) := by rw [wrap64 (by omega) (by omega)]; omega
  rw [decide_eq_false ht, decide_eq_true (show ((k + 1 : Nat) : Int) > 0 by omega), e2, Cw hp]
  rfl
end Go.Proofs.YtbfabclpcamlnaaGreatDoor
set_option linter.unusedVariables false
set_option linter.unusedSimpArgs false
namespace Go.Proofs.YtbfabclpcamlnaaGreatDoor
structure Ff (l : List Ah) : Prop where
  len : l.length ≤ 24
  pos : 0 < l.length
  each : ∀ (i : Nat) (x : Ah), l[i]? = some x → Jj (Kc l i) x = none
theorem Tg (n : Nat) (hn : 100 < n) (l : List Ah) : ∃ z, g45 n l = some z ∧ (z = 0 → Ff l) ∧ (Ff l → z = 0) := by
  unfold g45
  by_cases h1 : (l.length : Int) > 24
  · exact ⟨2, by simp [h1], fun h => absurd h (by decide), fun h => by have := h.len; omega⟩
  rw [decide_eq_false h1, cond_false]
  have hl : l.length ≤ 24 := by omega
  by_cases h2 : (l.length : Int) = 0
  · refine ⟨8, ?_, fun h => absurd h (by decide), fun h => by have := h.pos; omega⟩
    rw [show ((l.length : Int) == 0) = true from beq_iff_eq.2 h2]; rfl
  rw [show ((l.length : Int) == 0) = false from beq_eq_false_iff_ne.2 h2, cond_false]
  obtain ⟨r, h, hr⟩ := Fj (S := fun y : Int => Js n l 0 (l.length : Int) y) l (fun i x => Jj (Kc l i) x = none) (fun r => r ≠ 0 ∧ ¬ Ff l) 0 (fun i x hx => by
    show Js n l 0 (l.length : Int) (i : Int) = _ ∧ _ ∨ ∃ r, Js n l 0 (l.length : Int) (i : Int) = _ ∧ _
    rw [aU n l hl i x hx]
    cases hb : Jj (Kc l i) x with
    | none => exact .inl ⟨rfl, rfl⟩
    | some z =>
      refine .inr ⟨z, rfl, ?_, fun h => by rw [h.each i x hx] at hb; cases hb⟩
      intro h0
      subst h0
      unfold Jj at hb
      split at hb
      · cases hb
      split at hb
      · cases hb
      unfold Lk at hb
      split at hb
      · cases hb
      split at hb
      · cases hb
      split at hb
      · cases hb
      · cases hb) (by
    show Js n l 0 (l.length : Int) (l.length : Int) = _
    unfold Js; simp) n (by omega)
  refine ⟨r, h, fun h0 => ?_, fun hok => ?_⟩
  · rcases hr with hr | ⟨-, hr⟩
    · exact absurd h0 hr.1
    · exact ⟨hl, by omega, hr⟩
  · rcases hr with hr | ⟨hr, -⟩
    · exact absurd hok hr.2
    · exact hr
theorem Ff.one {l : List Ah} (h : Ff l) {i : Nat} {x : Ah} (hx : l[i]? = some x) : (x.End = 0 ∨ x.End = 1) ∧ 0 ≤ x.B6 ∧ x.B6 ≤ 200000 ∧ Lk x (Kc l i) = none := by
  have hb := h.each i x hx
  unfold Jj at hb
  split at hb
  · cases hb
  split at hb
  · cases hb
  exact ⟨by omega, by omega, by omega, hb⟩
theorem Ff.mem {l : List Ah} (h : Ff l) {x : Ah} (hx : x ∈ l) : (x.End = 0 ∨ x.End = 1) ∧ 0 ≤ x.B6 ∧ x.B6 ≤ 200000 := by
  obtain ⟨i, hi, rfl⟩ := List.getElem_of_mem hx
  have := h.one (List.getElem?_eq_getElem hi)
  exact ⟨this.1, this.2.1, this.2.2.1⟩
theorem Ff.step {l : List Ah} (h : Ff l) {i : Nat} {p x : Ah} (hp : l[i]? = some p) (hx : l[i + 1]? = some x) : p.B6 + 360 ≤ x.B6 ∧ x.End ≠ p.End := by
  obtain ⟨-, -, -, hb⟩ := h.one hx
  obtain ⟨-, p0, p1, -⟩ := h.one hp
  rw [show Kc l (i + 1) = some p from hp] at hb
  unfold Lk at hb
  dsimp only at hb
  rw [wrap64 (by omega) (by omega)] at hb
  split at hb
  · cases hb
  split at hb
  · cases hb
  exact ⟨by omega, by assumption⟩
def Z2 (t v : Int) : List Ah → Int × Bool
  | [] => (v, true)
  | x :: xs => if (if x.B6 - t > t - x.B6 then x.B6 - t else t - x.B6) < 180 then (0, false) else Z2 t (if x.B6 ≤ t then x.End else v) xs
def Gj (t : Int) : List Ah → Int × Bool
  | [] => (0, false)
  | x :: xs => if t < x.B6 then (0, false) else Z2 t x.End xs
theorem pI (t : Int) (xs : List Ah) (n : Nat) (hx : ∀ x ∈ xs, 0 ≤ x.B6 ∧ x.B6 ≤ 200000) (t0 : 0 ≤ t) (t1 : t ≤ 200000) (hlen : xs.length ≤ 24) : ∀ (k i m : Nat) (v : Int), i + k = xs.length → k < m → Ba (fun y : Int × Int => L9 n t (0) false xs (xs.length : Int) y.1 y.2) m (v, (i : Int)) = some (Z2 t v (xs.drop i)) := by
  intro k
  induction k with
  | zero =>
    intro i m v hi hm
    obtain ⟨m, rfl⟩ : ∃ q, m = q + 1 := ⟨m - 1, by omega⟩
    have hS : L9 n t (0) false xs (xs.length : Int) v (i : Int) = some (.inr (v, true)) := by
      unfold L9
      rw [decide_eq_false (show ¬ (i : Int) < (xs.length : Int) by omega)]; rfl
    unfold Ba
    dsimp only
    rw [hS, List.drop_eq_nil_of_le (by omega)]; rfl
  | succ k ih =>
    intro i m v hi hm
    obtain ⟨m, rfl⟩ : ∃ q, m = q + 1 := ⟨m - 1, by omega⟩
    have hx1 : xs[i]? = some (xs[i]'(by omega)) := List.getElem?_eq_getElem (by omega)
    have hd : xs.drop i = xs[i]'(by omega) :: xs.drop (i + 1) := List.drop_eq_getElem_cons (by omega)
    have hxx := hx _ (List.getElem_mem (show i < xs.length by omega))
    generalize xs[i]'(by omega) = x at hx1 hd hxx
    have hS : L9 n t (0) false xs (xs.length : Int) v (i : Int) = some (if (if x.B6 - t > t - x.B6 then x.B6 - t else t - x.B6) < 180 then .inr (0, false) else .inl ((if x.B6 ≤ t then x.End else v), ((i + 1 : Nat) : Int))) := by
      unfold L9
      rw [decide_eq_true (show (i : Int) < (xs.length : Int) by omega), Cw hx1, wS (by omega)]
      simp only [cond_true, Option.bind_some]
      rw [wrap64 (z := x.B6 - t) (by omega) (by omega), wrap64 (z := t - x.B6) (by omega) (by omega)]
      by_cases h1 : (if x.B6 - t > t - x.B6 then x.B6 - t else t - x.B6) < 180
      · rw [decide_eq_true h1, if_pos h1]; rfl
      · rw [decide_eq_false h1, if_neg h1]
        by_cases h2 : x.B6 ≤ t
        · rw [decide_eq_true h2, if_pos h2]; rfl
        · rw [decide_eq_false h2, if_neg h2]; rfl
    unfold Ba
    dsimp only
    rw [hS, hd, Z2]
    by_cases h1 : (if x.B6 - t > t - x.B6 then x.B6 - t else t - x.B6) < 180
    · rw [if_pos h1, if_pos h1]
    · rw [if_neg h1, if_neg h1]
      exact ih (i + 1) m _ (by omega) (by omega)
theorem pC (n : Nat) (hn : 100 < n) (l : List Ah) (hl : l.length ≤ 24) (hp : 0 < l.length) (hx : ∀ x ∈ l, 0 ≤ x.B6 ∧ x.B6 ≤ 200000) (t : Int) (t0 : 0 ≤ t) (t1 : t ≤ 200000) : y1 n l t = some (Gj t l) := by
  cases l with
  | nil => exact absurd hp (by simp)
  | cons x xs =>
    have h0 : Bt (x :: xs) 0 = some x := rfl
    have hs : Eb (x :: xs) (some 1) none = some xs := by
      simp only [Eb, Option.getD_none, Option.getD_some]
      rw [if_pos ⟨by omega, by simp; omega, Int.le_refl _⟩]
      have e1 : ((1 : Int)).toNat = 1 := rfl
      rw [e1, List.drop_succ_cons, List.drop_zero, List.take_of_length_le (by simp)]
    unfold y1 Gj
    rw [h0]
    simp only [Option.bind_some]
    by_cases h1 : t < x.B6
    · rw [decide_eq_true h1, if_pos h1]; rfl
    · rw [decide_eq_false h1, if_neg h1, cond_false, hs, Option.bind_some]
      have := pI t xs n (fun y hy => hx y (List.mem_cons_of_mem _ hy)) t0 t1 (by simp at hl; omega) xs.length 0 n x.End (by omega) (by simp at hl; omega)
      rw [List.drop_zero] at this
      exact this
end Go.Proofs.YtbfabclpcamlnaaGreatDoor
set_option linter.unusedVariables false
set_option linter.unusedSimpArgs false
namespace Go.Proofs.YtbfabclpcamlnaaGreatDoor
theorem Aei {a : Int} (h : a ≠ 0) : (a != (0)) = true := bne_iff_ne.2 h
end Go.Proofs.YtbfabclpcamlnaaGreatDoor
set_option linter.unusedVariables false
set_option linter.unusedSimpArgs false
namespace Go.Proofs.YtbfabclpcamlnaaGreatDoor
def Io (t : Ao) (a b : Ab) : Int := (jW 0 t a b).getD 0
theorem Qp (n : Nat) (t : Ao) (h : G1 t) (a b : Ab) (a0 : 0 ≤ a.Bc) (a1 : a.Bc ≤ 3) (b0 : 0 ≤ b.Bc) (b1 : b.Bc ≤ 3) : jW n t a b = some (Io t a b) ∧ 30 ≤ Io t a b ∧ Io t a b ≤ 600 := by
  unfold Io jW
  cases (!(a.Bd == b.Bd)) with
  | true => exact ⟨rfl, show (30 : Int) ≤ 60 by decide, show (60 : Int) ≤ 600 by decide⟩
  | false =>
    obtain ⟨r, h1, h2, h3, h4⟩ := K7 t h a0 a1 b0 b1
    unfold rows at h1
    unfold Ij at h2
    simp only [cond_false]
    rw [h1]
    simp only [Option.bind_some]
    rw [h2]
    exact ⟨rfl, h3, h4⟩
theorem dW {α : Type} {R : α → α → Prop} {l : List α} (h : l.Pairwise R) {i j : Nat} {x y : α} (hx : l[i]? = some x) (hy : l[j]? = some y) (hij : i < j) : R x y := by
  obtain ⟨hi, rfl⟩ := List.getElem?_eq_some_iff.1 hx
  obtain ⟨hj, rfl⟩ := List.getElem?_eq_some_iff.1 hy
  exact List.pairwise_iff_getElem.1 h i j hi hj hij
theorem Acz {α : Type} {R : α → α → Prop} {l : List α} (h : ∀ (i j : Nat) (x y : α), i < j → l[i]? = some x → l[j]? = some y → R x y) : l.Pairwise R :=
  List.pairwise_iff_getElem.2 fun i j hi hj hij => h i j _ _ hij (List.getElem?_eq_getElem hi) (List.getElem?_eq_getElem hj)
def mOk (x : Ab) : Prop := 0 ≤ x.Time ∧ x.Time ≤ 200000 ∧ 0 ≤ x.Bc ∧ x.Bc ≤ 3 ∧ (x.End = 0 ∨ x.End = 1)
theorem aN (n : Nat) (hn : 100 < n) (l : List Ab) (hl : l.length ≤ 24) (he : ∀ x ∈ l, mOk x) (hs : l.Pairwise (fun a b => a.Time ≤ b.Time)) : g44 n l = some 0 := by
  unfold g44
  rw [decide_eq_false (show ¬ (l.length : Int) > 24 by omega), cond_false]
  obtain ⟨r, h, hr⟩ := Fj (S := fun y : Int => Mb n l 0 (l.length : Int) y) l (fun _ _ => True) (fun _ => False) 0 (fun i x hx => by
    refine .inl ⟨?_, trivial⟩
    have hi := Dn hx
    obtain ⟨h1, h2, h3, h4, h5⟩ := he x (List.mem_of_getElem? hx)
    show Mb n l 0 (l.length : Int) (i : Int) = _
    have hend : ∀ A B : Option (Int ⊕ Int), (bif (x.End != (0)) then (bif (x.End != (1)) then A else B) else B) = B := by
      intro A B
      rcases h5 with h5 | h5 <;> rw [h5] <;> rfl
    unfold Mb
    rw [decide_eq_true (show (i : Int) < _ by omega), Cw hx, wS (by omega)]
    simp only [cond_true, Option.bind_some, Iz, Oc, hend]
    rw [decide_eq_false (show ¬ (x.Time < 0 ∨ x.Time > 200000) by omega), if_pos ⟨h3, h4⟩]
    simp only [cond_false, bne_self_eq_false]
    rcases Nat.eq_zero_or_pos i with h0 | h0
    · subst h0; rfl
    · obtain ⟨k, rfl⟩ : ∃ k, i = k + 1 := ⟨i - 1, by omega⟩
      have hp : l[k]? = some (l[k]'(by omega)) := List.getElem?_eq_getElem (by omega)
      generalize l[k]'(by omega) = p at hp
      have hle := dW hs hp hx (Nat.lt_succ_self k)
      have e2 : IntKind.wrap .i64 (((k + 1 : Nat) : Int) - 1) = (k : Int) := by rw [wrap64 (by omega) (by omega)]; omega
      rw [decide_eq_true (show ((k + 1 : Nat) : Int) > 0 by omega), e2, Cw hp]
      simp only [cond_true, Option.bind_some]
      rw [decide_eq_false (show ¬ x.Time < p.Time by omega)]
      rfl) (by
    show Mb n l 0 (l.length : Int) (l.length : Int) = _
    unfold Mb; simp) n (by omega)
  rw [h]
  rcases hr with hr | ⟨hr, -⟩
  · exact hr.elim
  · rw [hr]
theorem Y0 (t : Int) : ∀ (xs : List Ah) (v : Int), (v = 0 ∨ v = 1) → (∀ x ∈ xs, x.End = 0 ∨ x.End = 1) → ((Z2 t v xs).1 = 0 ∨ (Z2 t v xs).1 = 1)
  | [], v, hv, _ => hv
  | x :: xs, v, hv, hx => by
    rw [Z2]
    by_cases hb : (if x.B6 - t > t - x.B6 then x.B6 - t else t - x.B6) < 180
    · rw [if_pos hb]; exact .inl rfl
    · rw [if_neg hb]
      refine Y0 t xs _ ?_ (fun y hy => hx y (List.mem_cons_of_mem _ hy))
      split
      · exact hx x List.mem_cons_self
      · exact hv
theorem mA {s : List Ah} (hs : Ff s) (t : Int) : (Gj t s).1 = 0 ∨ (Gj t s).1 = 1 := by
  cases s with
  | nil => exact .inl rfl
  | cons x xs =>
    rw [Gj]
    split
    · exact .inl rfl
    · exact Y0 t xs _ (hs.mem List.mem_cons_self).1 (fun y hy => (hs.mem (List.mem_cons_of_mem _ hy)).1)
def pS (s : List Ah) (t : Ao) (l : List Ab) : Prop := (∀ x ∈ l, Gj x.Time s = (x.End, true)) ∧ l.Pairwise (fun a b => Io t a b ≤ b.Time - a.Time)
abbrev qI (n : Nat) (l : List Ab) (t : Ao) (y : Int) := Yf n l (0) (l.length : Int) t.Cf t.Ce t.Ci t.Cn t.Cd t.Cl t.Cr t.Co t.Cm t.Ck t.Ch t.Cg t.Cb t.Cj t.Cq t.Cp y
abbrev tF (n : Nat) (l : List Ab) (t : Ao) (i : Int) (x : Ab) (y : Int) := Mf n l (0) i (l.length : Int) t.Cf t.Ce t.Ci t.Cn t.Cd t.Cl t.Cr t.Co t.Cm t.Ck t.Ch t.Cg t.Cb t.Cj t.Cq t.Cp x.Time x.Bc x.Bd x.End y
abbrev x9 (n : Nat) (l : List Ab) (s : List Ah) (t : Ao) (y : Int) := X5 n l s (0) (l.length : Int) t.Cf t.Ce t.Ci t.Cn t.Cd t.Cl t.Cr t.Co t.Cm t.Ck t.Ch t.Cg t.Cb t.Cj t.Cq t.Cp y
theorem Zy (n : Nat) (hn : 100 < n) (l : List Ab) (t : Ao) (ht : G1 t) (hl : l.length ≤ 24) (he : ∀ x ∈ l, 0 ≤ x.Time ∧ x.Time ≤ 200000 ∧ 0 ≤ x.Bc ∧ x.Bc ≤ 3) :
    ∃ q, Ba (fun y : Int => qI n l t y) n 0 = some q ∧ ((q.2.2 ≠ 0 ∧ ¬ l.Pairwise (fun a b => Io t a b ≤ b.Time - a.Time)) ∨ (q = (0, 0, 0) ∧ l.Pairwise (fun a b => Io t a b ≤ b.Time - a.Time))) := by
  have in2 : ∀ (i : Nat) (x : Ab), l[i]? = some x → ∃ q, Ba (fun y : Int => tF n l t (i : Int) x y) n (IntKind.wrap .i64 ((i : Int) + 1)) = some q ∧ ((q = .inl ((i + 1 : Nat) : Int) ∧ ∀ (j : Nat) (y : Ab), i < j → l[j]? = some y → Io t x y ≤ y.Time - x.Time) ∨ ∃ r, q = .inr r ∧ r.2.2 ≠ 0 ∧ ∃ (j : Nat) (y : Ab), i < j ∧ l[j]? = some y ∧ ¬ Io t x y ≤ y.Time - x.Time) := by
    intro i x hx
    have hi := Dn hx
    rw [wS (by omega)]
    refine Et (fun y => ∃ j : Nat, i + 1 ≤ j ∧ j ≤ l.length ∧ y = (j : Int) ∧ ∀ (k : Nat) (z : Ab), i < k → k < j → l[k]? = some z → Io t x z ≤ z.Time - x.Time) _ (fun y => l.length - y.toNat) ?_ n _ ⟨i + 1, Nat.le_refl _, hi, rfl, fun k z h1 h2 => by omega⟩ (by simp; omega)
    rintro _ ⟨j, hij, hj, rfl, hP⟩
    show (∃ y, tF n l t (i : Int) x (j : Int) = _ ∧ _) ∨ (∃ r, tF n l t (i : Int) x (j : Int) = _ ∧ _)
    unfold tF Mf
    rcases Nat.lt_or_ge j l.length with hj2 | hj2
    · have hy : l[j]? = some (l[j]'hj2) := List.getElem?_eq_getElem hj2
      have w1 := he _ (List.mem_of_getElem? hx)
      have w2 := he _ (List.mem_of_getElem? hy)
      generalize l[j]'hj2 = p at hy w2
      obtain ⟨hz, z0, z1⟩ := Qp n t ht ⟨x.Time, x.Bc, x.Bd, x.End⟩ p w1.2.2.1 w1.2.2.2 w2.2.2.1 w2.2.2.2
      rw [decide_eq_true (show (j : Int) < (l.length : Int) by omega), Cw hy, wS (by omega)]
      simp only [cond_true, Option.bind_some]
      rw [show jW n ⟨t.Cf, t.Ce, t.Ci, t.Cn, t.Cd, t.Cl, t.Cr, t.Co, t.Cm, t.Ck, t.Ch, t.Cg, t.Cb, t.Cj, t.Cq, t.Cp⟩ ⟨x.Time, x.Bc, x.Bd, x.End⟩ p = some (Io t x p) from hz, Option.bind_some, wrap64 (z := p.Time - x.Time) (by omega) (by omega)]
      by_cases hb : p.Time - x.Time < Io t x p
      · rw [decide_eq_true hb]
        exact .inr ⟨_, rfl, .inr ⟨_, rfl, by show (15 : Int) ≠ 0; decide, j, p, hij, hy, by omega⟩⟩
      · rw [decide_eq_false hb]
        refine .inl ⟨_, rfl, ⟨j + 1, by omega, hj2, rfl, fun k z h1 h2 hz => ?_⟩, by simp; omega⟩
        rcases Nat.lt_or_ge k j with h3 | h3
        · exact hP k z h1 h3 hz
        · obtain rfl : k = j := by omega
          rw [hy] at hz; cases hz; omega
    · rw [decide_eq_false (show ¬ (j : Int) < (l.length : Int) by omega), cond_false, wS (by omega)]
      exact .inr ⟨_, rfl, .inl ⟨rfl, fun k z h1 hz => hP k z h1 (by have := Dn hz; omega) hz⟩⟩
  obtain ⟨q, e, hq⟩ := Fj (S := fun y : Int => qI n l t y) l (fun i x => ∀ (j : Nat) (y : Ab), i < j → l[j]? = some y → Io t x y ≤ y.Time - x.Time) (fun q => q.2.2 ≠ 0 ∧ ¬ l.Pairwise (fun a b => Io t a b ≤ b.Time - a.Time)) (0, 0, 0) (fun i x hx => by
    have hi := Dn hx
    obtain ⟨q, e, hq⟩ := in2 i x hx
    have hS : qI n l t (i : Int) = some q := by
      unfold qI Yf
      rw [decide_eq_true (show (i : Int) < (l.length : Int) by omega), Cw hx]
      exact e
    show (qI n l t (i : Int) = _ ∧ _) ∨ ∃ r, qI n l t (i : Int) = _ ∧ _
    rw [hS]
    rcases hq with ⟨rfl, h⟩ | ⟨r, rfl, h, j, y, h1, h2, h3⟩
    · exact .inl ⟨rfl, h⟩
    · exact .inr ⟨r, rfl, h, fun hp => h3 (dW hp hx h2 h1)⟩) (by
    show qI n l t (l.length : Int) = _
    unfold qI Yf
    rw [decide_eq_false (show ¬ (l.length : Int) < (l.length : Int) by omega)]; rfl) n (by omega)
  refine ⟨q, e, ?_⟩
  rcases hq with hq | ⟨hq, h⟩
  · exact .inl hq
  · exact .inr ⟨hq, Acz fun i j x y hij hx hy => h i x hx j y hij hy⟩
theorem jA (n : Nat) (hn : 100 < n) (l : List Ab) (s : List Ah) (t : Ao) (hs : Ff s) (ht : G1 t) (hl : l.length ≤ 24) (he : ∀ x ∈ l, 0 ≤ x.Time ∧ x.Time ≤ 200000 ∧ 0 ≤ x.Bc ∧ x.Bc ≤ 3) :
    ∃ q, Ba (fun y : Int => x9 n l s t y) n 0 = some q ∧ ((q.2.2 ≠ 0 ∧ ¬ pS s t l) ∨ (q = (0, 0, 0) ∧ pS s t l)) := by
  obtain ⟨q2, e2, h2⟩ := Zy n hn l t ht hl he
  obtain ⟨q, e, hq⟩ := Fj (S := fun y : Int => x9 n l s t y) l (fun i x => Gj x.Time s = (x.End, true)) (fun q => q.2.2 ≠ 0 ∧ ¬ pS s t l) q2 (fun i x hx => by
    have hi := Dn hx
    have hm := List.mem_of_getElem? hx
    have w2 := he _ hm
    show (x9 n l s t (i : Int) = _ ∧ _) ∨ ∃ r, x9 n l s t (i : Int) = _ ∧ _
    unfold x9 X5
    rw [decide_eq_true (show (i : Int) < (l.length : Int) by omega), Cw hx, wS (by omega)]
    simp only [cond_true, Option.bind_some]
    rw [pC n hn s hs.len hs.pos (fun x hx => (hs.mem hx).2) x.Time w2.1 w2.2.1, Option.bind_some]
    cases h1 : (Gj x.Time s).2 with
    | false => exact .inr ⟨_, rfl, by show (14 : Int) ≠ 0; decide, fun hw => by have := hw.1 x hm; rw [this] at h1; cases h1⟩
    | true =>
      simp only [Bool.not_true, cond_false]
      by_cases h2 : (Gj x.Time s).1 = x.End
      · rw [show ((Gj x.Time s).1 != x.End) = false by rw [h2]; exact bne_self_eq_false _]
        exact .inl ⟨rfl, by rw [← h1, ← h2]⟩
      · rw [show ((Gj x.Time s).1 != x.End) = true from bne_iff_ne.2 h2]
        exact .inr ⟨_, rfl, by show (14 : Int) ≠ 0; decide, fun hw => h2 (by have := hw.1 x hm; rw [this])⟩) (by
    show x9 n l s t (l.length : Int) = _
    unfold x9 X5
    rw [decide_eq_false (show ¬ (l.length : Int) < (l.length : Int) by omega), cond_false]
    show (Ba (fun y : Int => qI n l t y) n 0).map Sum.inr = _
    rw [e2]; rfl) n (by omega)
  refine ⟨q, e, ?_⟩
  rcases hq with hq | ⟨rfl, h⟩
  · exact .inl hq
  · have hall : ∀ x ∈ l, Gj x.Time s = (x.End, true) := fun x hx => by
      obtain ⟨i, hi, rfl⟩ := List.getElem_of_mem hx
      exact h i _ (List.getElem?_eq_getElem hi)
    rcases h2 with ⟨h3, h4⟩ | ⟨h3, h4⟩
    · exact .inl ⟨h3, fun hw => h4 hw.2⟩
    · exact .inr ⟨h3, hall, h4⟩
structure E6 (n : Nat) (l : List Ab) (s : List Ah) (t : Ao) : Prop where
  sp : Ff s
  tab : G1 t
  tz : Zi n t = some 0
  each : ∀ x ∈ l, mOk x ∧ Gj x.Time s = (x.End, true)
  time : l.Pairwise (fun a b => a.Time ≤ b.Time)
  uV : l.Pairwise (fun a b => Io t a b ≤ b.Time - a.Time)
theorem E6.run {n : Nat} (hn : 100 < n) {l : List Ab} {s : List Ah} {t : Ao} (h : E6 n l s t) (hl : l.length ≤ 24) : g7 n l s t = some (0, 0, 0) := by
  unfold g7
  rw [aN n hn l hl (fun x hx => (h.each x hx).1) h.time]
  obtain ⟨w, e, -, hw⟩ := Tg n hn s
  rw [e, hw h.sp, h.tz]
  simp only [Option.bind_some, bne_self_eq_false, cond_false]
  obtain ⟨q, e3, hq⟩ := jA n hn l s t h.sp h.tab hl (fun x hx => by obtain ⟨⟨a, b, c, d, -⟩, -⟩ := h.each x hx; exact ⟨a, b, c, d⟩)
  rcases hq with ⟨-, hq⟩ | ⟨rfl, -⟩
  · exact absurd ⟨fun x hx => (h.each x hx).2, h.uV⟩ hq
  · exact e3
theorem E6.Acf {n : Nat} {l : List Ab} {s : List Ah} {t : Ao} (h : E6 n l s t) : l.length ≤ 6700 := by
  have key : ∀ (i : Nat) (x : Ab), l[i]? = some x → 30 * (i : Int) ≤ x.Time := by
    intro i
    induction i with
    | zero => intro x hx; have := (h.each x (List.mem_of_getElem? hx)).1.1; omega
    | succ i ih =>
      intro x hx
      have hlt := Dn hx
      have hp : l[i]? = some (l[i]'(by omega)) := List.getElem?_eq_getElem (by omega)
      have h1 := ih _ hp
      have h2 := dW h.uV hp hx (Nat.lt_succ_self i)
      obtain ⟨-, -, a, b, -⟩ := (h.each _ (List.mem_of_getElem? hp)).1
      obtain ⟨-, -, c, d, -⟩ := (h.each _ (List.mem_of_getElem? hx)).1
      have h3 := (Qp 0 t h.tab _ x a b c d).2.1
      omega
  rcases Nat.lt_or_ge 6700 l.length with hlt | hge
  · have hx : l[6700]? = some (l[6700]'hlt) := List.getElem?_eq_getElem hlt
    have h1 := key 6700 _ hx
    have h2 := (h.each _ (List.mem_of_getElem? hx)).1.2.1
    omega
  · exact hge
end Go.Proofs.YtbfabclpcamlnaaGreatDoor
set_option linter.unusedVariables false
set_option linter.unusedSimpArgs false
namespace Go.Proofs.YtbfabclpcamlnaaGreatDoor
def Pz (t : Ao) (m x : Ab) : Bool := !(decide (x.Time ≤ m.Time) && decide (m.Time - x.Time < Io t x m)) && !(decide (x.Time ≥ m.Time) && decide (x.Time - m.Time < Io t m x))
theorem u0 (n : Nat) (hn : 20000 < n) (L : List Ab) (m : Ab) (t : Ao) (ht : G1 t) (hl : L.length ≤ 10000) (hL : ∀ x ∈ L, mOk x) (m0 : 0 ≤ m.Time) (m1 : m.Time ≤ 200000) (m2 : 0 ≤ m.Bc) (m3 : m.Bc ≤ 3) : g51 n L m t = some (L.all (Pz t m)) := by
  unfold g51
  have := lE (S := fun y : Int => Ly n false L (L.length : Int) m.Time m.Bc m.Bd m.End t.Cf t.Ce t.Ci t.Cn t.Cd t.Cl t.Cr t.Co t.Cm t.Ck t.Ch t.Cg t.Cb t.Cj t.Cq t.Cp y) L (Pz t m) (fun _ => false) true (fun i x hx => by
    have hi := Dn hx
    obtain ⟨x0, x1, x2, x3, -⟩ := hL x (List.mem_of_getElem? hx)
    obtain ⟨h1, a0, a1⟩ := Qp n t ht x ⟨m.Time, m.Bc, m.Bd, m.End⟩ x2 x3 m2 m3
    obtain ⟨h2, b0, b1⟩ := Qp n t ht ⟨m.Time, m.Bc, m.Bd, m.End⟩ x m2 m3 x2 x3
    show Ly n false L (L.length : Int) m.Time m.Bc m.Bd m.End t.Cf t.Ce t.Ci t.Cn t.Cd t.Cl t.Cr t.Co t.Cm t.Ck t.Ch t.Cg t.Cb t.Cj t.Cq t.Cp (i : Int) = _
    unfold Ly Pz
    rw [decide_eq_true (show (i : Int) < (L.length : Int) by omega), Cw hx, wS (by omega)]
    simp only [cond_true, Option.bind_some]
    rw [h1, h2, wrap64 (z := m.Time - x.Time) (by omega) (by omega), wrap64 (z := x.Time - m.Time) (by omega) (by omega)]
    simp only [Option.bind_some]
    cases decide (x.Time ≤ m.Time) <;> cases decide (x.Time ≥ m.Time) <;> cases decide (m.Time - x.Time < Io t x m) <;> cases decide (x.Time - m.Time < Io t m x) <;> rfl) (by
    show Ly n false L (L.length : Int) m.Time m.Bc m.Bd m.End t.Cf t.Ce t.Ci t.Cn t.Cd t.Cl t.Cr t.Co t.Cm t.Ck t.Ch t.Cg t.Cb t.Cj t.Cq t.Cp (L.length : Int) = _
    unfold Ly
    rw [decide_eq_false (show ¬ (L.length : Int) < (L.length : Int) by omega)]; rfl) n (by omega)
  rw [this]
  congr 1
  cases hf : L.find? (fun x => !Pz t m x) with
  | none =>
    have := jG.1 hf
    exact (List.all_eq_true.2 this).symm
  | some x =>
    obtain ⟨h1, h2⟩ := iJ hf
    cases ha : L.all (Pz t m) with
    | false => rfl
    | true => rw [List.all_eq_true.1 ha x h1] at h2; cases h2
theorem Ad8 (n : Nat) (hn : 20000 < n) (L : List Ab) (hl : L.length ≤ 10000) (a b : Int) (c : Bool) (d : Int) : yQ n L a b c d = some (Em (fun x => decide (x.Time > a)) L) := by
  unfold yQ
  refine Jk _ L (by omega) (fun i x hx => ?_) ?_ n (by omega)
  · have hi := Dn hx
    unfold Q9
    rw [decide_eq_true (show (i : Int) < (L.length : Int) by omega), Cw hx, wS (by omega)]
    simp only [cond_true, Option.bind_some]
    rw [show g53 n x a b c d = some (decide (x.Time > a)) from rfl]
    simp only [Option.bind_some]
    cases decide (x.Time > a) <;> rfl
  · unfold Q9
    rw [decide_eq_false (show ¬ (L.length : Int) < (L.length : Int) by omega)]; rfl
def J6 (T : Int) (L : List Ab) : Nat := if Em (fun x => decide (x.Time > T)) L < 0 then L.length else (Em (fun x => decide (x.Time > T)) L).toNat
def Xt (m : Ab) (L : List Ab) : List Ab := L.take (J6 m.Time L) ++ [m] ++ L.drop (J6 m.Time L)
theorem sV (T : Int) (L : List Ab) : J6 T L ≤ L.length := by
  have := Qb (fun x : Ab => decide (x.Time > T)) L
  unfold J6
  split <;> omega
theorem Rw (T : Int) (L : List Ab) : ∀ x ∈ L.take (J6 T L), x.Time ≤ T := by
  intro x hx
  obtain ⟨i, hi, rfl⟩ := List.getElem_of_mem hx
  rw [List.length_take] at hi
  rw [List.getElem_take]
  unfold J6 at hi
  split at hi
  · rename_i h
    have := (Jx _ L).1 h L[i] (List.getElem_mem _)
    simp at this; exact this
  · rename_i h
    obtain ⟨y, -, -, h3⟩ := Qf (fun x : Ab => decide (x.Time > T)) L (by omega)
    have := h3 i (by omega) L[i] (List.getElem?_eq_getElem (by omega))
    simp at this; exact this
theorem S1 (T : Int) (L : List Ab) (hs : L.Pairwise (fun a b => a.Time ≤ b.Time)) : ∀ x ∈ L.drop (J6 T L), T < x.Time := by
  intro x hx
  obtain ⟨i, hi, rfl⟩ := List.getElem_of_mem hx
  rw [List.length_drop] at hi
  rw [List.getElem_drop]
  have hp : J6 T L < L.length := by omega
  unfold J6 at hp hi ⊢
  split at hp
  · omega
  · rename_i h
    obtain ⟨y, h1, h2, -⟩ := Qf (fun x : Ab => decide (x.Time > T)) L (by omega)
    simp only [decide_eq_true_eq] at h2
    simp only [if_neg h] at hi ⊢
    rcases Nat.eq_zero_or_pos i with h0 | h0
    · subst h0
      obtain ⟨hlt, h1⟩ := List.getElem?_eq_some_iff.1 h1
      simp only [Nat.add_zero]
      rw [h1]; omega
    · have := dW hs h1 (List.getElem?_eq_getElem (show (Em (fun x : Ab => decide (x.Time > T)) L).toNat + i < L.length by omega)) (by omega)
      omega
theorem X1 (m : Ab) (L : List Ab) : (Xt m L).Perm (m :: L) := by
  unfold Xt
  rw [List.append_assoc, List.singleton_append]
  have := (List.perm_middle (a := m) (l₁ := L.take (J6 m.Time L)) (l₂ := L.drop (J6 m.Time L)))
  rw [List.take_append_drop] at this
  exact this
theorem pP {R : Ab → Ab → Prop} (m : Ab) (L : List Ab) (h : L.Pairwise R) (h1 : ∀ x ∈ L.take (J6 m.Time L), R x m) (h2 : ∀ x ∈ L.drop (J6 m.Time L), R m x) : (Xt m L).Pairwise R := by
  unfold Xt
  rw [List.append_assoc, List.singleton_append]
  rw [← List.take_append_drop (J6 m.Time L) L] at h
  obtain ⟨p1, p2, p3⟩ := List.pairwise_append.1 h
  refine List.pairwise_append.2 ⟨p1, List.pairwise_cons.2 ⟨h2, p2⟩, fun a ha b hb => ?_⟩
  rcases List.mem_cons.1 hb with rfl | hb
  · exact h1 a ha
  · exact p3 a ha b hb
theorem E6.put {n : Nat} {L : List Ab} {s : List Ah} {t : Ao} (h : E6 n L s t) {m : Ab} (hm : mOk m) (hd : Gj m.Time s = (m.End, true)) (hf : L.all (Pz t m) = true) : E6 n (Xt m L) s t := by
  have hf := List.all_eq_true.1 hf
  refine ⟨h.sp, h.tab, h.tz, fun x hx => ?_, pP m L h.time (Rw m.Time L) (fun x hx => by have := S1 m.Time L h.time x hx; omega), pP m L h.uV (fun x hx => ?_) (fun x hx => ?_)⟩
  · rcases List.mem_cons.1 ((X1 m L).mem_iff.1 hx) with rfl | hx
    · exact ⟨hm, hd⟩
    · exact h.each x hx
  · have h1 := Rw m.Time L x hx
    have h2 := hf x (List.mem_of_mem_take hx)
    unfold Pz at h2
    rw [decide_eq_true h1, Bool.true_and, Bool.and_eq_true, Bool.not_eq_true', decide_eq_false_iff_not] at h2
    omega
  · have h1 := S1 m.Time L h.time x hx
    have h2 := hf x (List.mem_of_mem_drop hx)
    unfold Pz at h2
    rw [decide_eq_true (show x.Time ≥ m.Time by omega), Bool.true_and, Bool.and_eq_true, Bool.not_eq_true', Bool.not_eq_true', decide_eq_false_iff_not] at h2
    have := h2.2
    omega
abbrev inS (n : Nat) (s : List Ah) (d : List Av) (c v : Int) (t : Ao) (y : List Ab × Int × Int × Bool × Int) := Jr n s 0 d c v t.Cf t.Ce t.Ci t.Cn t.Cd t.Cl t.Cr t.Co t.Cm t.Ck t.Ch t.Cg t.Cb t.Cj t.Cq t.Cp y.1 y.2.1 y.2.2.1 y.2.2.2.1 y.2.2.2.2
def Aan (n : Nat) (L L' : List Ab) (s : List Ah) (t : Ao) : Prop := E6 n L' s t ∧ ∃ m : Ab, m.Bd = true ∧ L'.Perm (m :: L)
theorem search (n : Nat) (hn : 20000 < n) (s : List Ah) (t : Ao) (L : List Ab) (h : E6 n L s t) (W : Int) (w0 : 0 ≤ W) (w1 : W ≤ 3) : ∀ (k : Nat) (T : Int), 0 ≤ T → T + k = 200001 →
    ∃ r : Option (List Ab), (∀ L', r = some L' → Aan n L L' s t) ∧ ∀ (d : List Av) (c : Int) (v : Nat), v < 1000000 → ∀ q, k < q → Ba (fun y => inS n s d c v t y) q (L, T, W, true, 0) = some (match r with | some L' => .inl (((v + 1 : Nat) : Int), L') | none => .inr ([], 8)) := by
  intro k
  induction k with
  | zero =>
    intro T h0 hT
    refine ⟨none, (fun _ h => by cases h), fun d c v hv q hq => ?_⟩
    obtain ⟨q, rfl⟩ : ∃ j, q = j + 1 := ⟨q - 1, by omega⟩
    unfold Ba
    have : inS n s d c v t (L, T, W, true, 0) = some (.inr (.inr ([], 8))) := by
      unfold inS Jr
      rw [decide_eq_false (show ¬ T ≤ 200000 by omega), decide_eq_true (show T > 200000 by omega)]; rfl
    rw [this]
  | succ k ih =>
    intro T h0 hT
    have hdir := pC n (by omega) s h.sp.len h.sp.pos (fun x hx => (h.sp.mem hx).2) T h0 (by omega)
    have hfit := u0 n hn L ⟨T, W, true, 0⟩ t h.tab (by have := h.Acf; omega) (fun x hx => (h.each x hx).1) h0 (show T ≤ 200000 by omega) w0 w1
    have hgt : ¬ T > 200000 := by omega
    have htl : T ≤ 200000 := by omega
    have next : ∀ (d : List Av) (c : Int) (v : Nat), ((Gj T s).2 = false ∨ L.all (Pz t ⟨T, W, true, 0⟩) = false) → inS n s d c v t (L, T, W, true, 0) = some (.inl (L, T + 1, W, true, 0)) := by
      intro d c v hno
      unfold inS Jr
      rw [decide_eq_true htl, wrap64 (z := T + 1) (by omega) (by omega)]
      dsimp only
      rw [hdir, hfit]
      simp only [cond_true, Option.bind_some]
      cases h1 : (Gj T s).2 with
      | false => rfl
      | true =>
        rcases hno with hno | hno
        · rw [h1] at hno; cases hno
        · rw [hno]; rfl
    by_cases hno : (Gj T s).2 = false ∨ L.all (Pz t ⟨T, W, true, 0⟩) = false
    · obtain ⟨r, r1, r2⟩ := ih (T + 1) (by omega) (by omega)
      refine ⟨r, r1, fun d c v hv q hq => ?_⟩
      obtain ⟨q, rfl⟩ : ∃ j, q = j + 1 := ⟨q - 1, by omega⟩
      unfold Ba
      rw [next d c v hno]
      exact r2 d c v hv q (by omega)
    · have h1 : (Gj T s).2 = true := by cases hh : (Gj T s).2 with | true => rfl | false => exact absurd (.inl hh) hno
      have h2 : L.all (Pz t ⟨T, W, true, 0⟩) = true := by cases hh : L.all (Pz t ⟨T, W, true, 0⟩) with | true => rfl | false => exact absurd (.inr hh) hno
      refine ⟨some (Xt ⟨T, W, true, (Gj T s).1⟩ L), fun L' hL' => ?_, fun d c v hv q hq => ?_⟩
      · cases hL'
        exact ⟨h.put ⟨h0, htl, w0, w1, mA h.sp T⟩ (by show Gj T s = ((Gj T s).1, true); rw [← h1]) h2, _, rfl, X1 _ L⟩
      · obtain ⟨q, rfl⟩ : ∃ j, q = j + 1 := ⟨q - 1, by omega⟩
        unfold Ba
        have hlen := h.Acf
        have hins : ∀ z : Int, z = (J6 T L : Int) → Rq 32 L z [(⟨T, W, true, (Gj T s).1⟩ : Ab)] = some (Xt ⟨T, W, true, (Gj T s).1⟩ L) := by
          intro z hz
          subst hz
          have hp := sV T L
          unfold Rq
          rw [if_pos ⟨by omega, by omega, by simp, by simp; omega, by simp; omega⟩, Int.toNat_natCast]
          rfl
        have : inS n s d c v t (L, T, W, true, 0) = some (.inr (.inl (((v + 1 : Nat) : Int), Xt ⟨T, W, true, (Gj T s).1⟩ L))) := by
          unfold inS Jr
          rw [decide_eq_true htl, decide_eq_false hgt]
          dsimp only
          rw [hdir, hfit, h2]
          simp only [cond_true, Option.bind_some]
          rw [h1, Ad8 n hn L (by omega), wS (by omega)]
          simp only [cond_true, cond_false, Option.bind_some]
          by_cases hi : Em (fun x : Ab => decide (x.Time > T)) L < 0
          · rw [decide_eq_true hi, cond_true, hins (L.length : Int) (by unfold J6; rw [if_pos hi])]; rfl
          · rw [decide_eq_false hi, cond_false, hins (Em (fun x => decide (x.Time > T)) L) (by unfold J6; rw [if_neg hi]; omega)]; rfl
        rw [this]
abbrev U8 (n : Nat) (s : List Ah) (d : List Av) (t : Ao) (y : Int × List Ab) := R4 n s 0 d (d.length : Int) t.Cf t.Ce t.Ci t.Cn t.Cd t.Cl t.Cr t.Co t.Cm t.Ck t.Ch t.Cg t.Cb t.Cj t.Cq t.Cp y.1 y.2
theorem one (n : Nat) (hn : 200200 < n) (s : List Ah) (t : Ao) (L : List Ab) (h : E6 n L s t) (x : Av) :
    ∃ r : List Ab ⊕ Int, (∀ L', r = .inl L' → Aan n L L' s t) ∧ (∀ e, r = .inr e → e ≠ 0) ∧ ∀ (d : List Av) (v : Nat), v < 1000000 → d[v]? = some x → U8 n s d t ((v : Int), L) = some (match r with | .inl L' => .inl (((v + 1 : Nat) : Int), L') | .inr e => .inr ([], e)) := by
  by_cases h1 : x.Time < 0 ∨ x.Time > 200000
  · refine ⟨.inr 12, (fun _ h => by cases h), (fun e h => by cases h; decide), fun d v hv hx => ?_⟩
    have := Dn hx
    unfold U8 R4
    rw [decide_eq_true (show (v : Int) < (d.length : Int) by omega)]
    dsimp only
    rw [Cw hx]
    simp only [cond_true, Option.bind_some, Iz]
    rw [decide_eq_true h1]; rfl
  by_cases h2 : 0 ≤ x.Bc ∧ x.Bc ≤ 3
  · obtain ⟨r, r1, r2⟩ := search n (by omega) s t L h x.Bc h2.1 h2.2 (200001 - x.Time).toNat x.Time (by omega) (by omega)
    refine ⟨(match r with | some L' => .inl L' | none => .inr 8 : List Ab ⊕ Int), fun L' h => ?_, fun e h => ?_, fun d v hv hx => ?_⟩
    · cases r with
      | none => cases h
      | some L2 => cases h; exact r1 _ rfl
    · cases r with
      | none => cases h; decide
      | some L2 => cases h
    · have := Dn hx
      unfold U8 R4
      rw [decide_eq_true (show (v : Int) < (d.length : Int) by omega)]
      dsimp only
      rw [Cw hx]
      simp only [cond_true, Option.bind_some, Iz, Oc]
      rw [decide_eq_false h1, if_pos h2]
      simp only [cond_false, bne_self_eq_false]
      refine (r2 d (d.length : Int) v hv n (by omega)).trans ?_
      cases r <;> rfl
  · refine ⟨.inr 1, (fun _ h => by cases h), (fun e h => by cases h; decide), fun d v hv hx => ?_⟩
    have := Dn hx
    unfold U8 R4
    rw [decide_eq_true (show (v : Int) < (d.length : Int) by omega)]
    dsimp only
    rw [Cw hx]
    simp only [cond_true, Option.bind_some, Iz, Oc]
    rw [decide_eq_false h1, if_neg h2]; rfl
def Y1 (n : Nat) (s : List Ah) (t : Ao) (L : List Ab) (x : Av) : List Ab ⊕ Int := match U8 n s [x] t (0, L) with
  | some (.inl y) => .inl y.2
  | some (.inr y) => .inr y.2
  | none => .inr 1
theorem dQ (n : Nat) (hn : 200200 < n) (s : List Ah) (t : Ao) (L : List Ab) (h : E6 n L s t) (x : Av) :
    (∀ L', Y1 n s t L x = .inl L' → Aan n L L' s t) ∧ (∀ e, Y1 n s t L x = .inr e → e ≠ 0) ∧ ∀ (d : List Av) (v : Nat), v < 1000000 → d[v]? = some x → U8 n s d t ((v : Int), L) = some (match Y1 n s t L x with | .inl L' => .inl (((v + 1 : Nat) : Int), L') | .inr e => .inr ([], e)) := by
  obtain ⟨r, r1, r2, r3⟩ := one n hn s t L h x
  have e : Y1 n s t L x = r := by
    unfold Y1
    have := r3 [x] 0 (by decide) rfl
    rw [show (((0 : Nat) : Int)) = 0 from rfl] at this
    rw [this]
    cases r <;> rfl
  rw [e]
  exact ⟨r1, r2, r3⟩
def foldI (n : Nat) (s : List Ah) (t : Ao) : List Av → List Ab → List Ab × Int
  | [], L => (L, 0)
  | x :: d, L => match Y1 n s t L x with
    | .inl L' => foldI n s t d L'
    | .inr e => ([], e)
theorem oO (n : Nat) (hn : 200200 < n) (s : List Ah) (t : Ao) (d : List Av) (hd : d.length ≤ 24) : ∀ (k i q : Nat) (L : List Ab), i + k = d.length → k < q → E6 n L s t → L.length + k ≤ 24 → Ba (fun y : Int × List Ab => U8 n s d t y) q ((i : Int), L) = some (foldI n s t (d.drop i) L) := by
  intro k
  induction k with
  | zero =>
    intro i q L hi hq h hl
    obtain ⟨q, rfl⟩ : ∃ j, q = j + 1 := ⟨q - 1, by omega⟩
    unfold Ba
    have : U8 n s d t ((i : Int), L) = some (.inr (L, 0)) := by
      unfold U8 R4
      dsimp only
      rw [decide_eq_false (show ¬ (i : Int) < (d.length : Int) by omega)]; rfl
    rw [this, List.drop_eq_nil_of_le (by omega)]; rfl
  | succ k ih =>
    intro i q L hi hq h hl
    obtain ⟨q, rfl⟩ : ∃ j, q = j + 1 := ⟨q - 1, by omega⟩
    unfold Ba
    have hx : d[i]? = some (d[i]'(by omega)) := List.getElem?_eq_getElem (by omega)
    rw [show d.drop i = d[i]'(by omega) :: d.drop (i + 1) from List.drop_eq_getElem_cons (by omega)]
    generalize d[i]'(by omega) = x at hx
    obtain ⟨r1, -, r3⟩ := dQ n hn s t L h x
    rw [r3 d i (by omega) hx, foldI]
    cases hr : Y1 n s t L x with
    | inr e => rfl
    | inl L' =>
      obtain ⟨h1, m, -, h2⟩ := r1 L' hr
      have := h2.length_eq
      simp at this
      exact ih (i + 1) q L' (by omega) (by omega) h1 (by omega)
theorem aD (n : Nat) (hn : 200200 < n) (s : List Ah) (t : Ao) (l : List Ab) (d : List Av) (h : E6 n l s t) (hl : l.length + d.length ≤ 24) : g9 n l s t d = some (foldI n s t d l) := by
  unfold g9
  rw [h.run (by omega) (by omega)]
  simp only [Option.bind_some, bne_self_eq_false, cond_false]
  rw [wrap64 (by omega) (by omega), decide_eq_false (show ¬ ((l.length : Int) + (d.length : Int)) > 24 by omega), cond_false, show Gb l.length 32 = some () from Jg (by omega) (by omega)]
  simp only [Option.bind_some]
  exact oO n hn s t d (by omega) d.length 0 n l (by omega) (by omega) h (by omega)
theorem cX (n : Nat) (hn : 200200 < n) (s : List Ah) (t : Ao) : ∀ (d : List Av) (L : List Ab), E6 n L s t → L.length + d.length ≤ 24 → ((foldI n s t d L).2 ≠ 0 ∧ (foldI n s t d L).1 = []) ∨ ((foldI n s t d L).2 = 0 ∧ E6 n (foldI n s t d L).1 s t ∧ ∃ D : List Ab, D.length = d.length ∧ (∀ m ∈ D, m.Bd = true) ∧ (foldI n s t d L).1.Perm (L ++ D))
  | [], L, h, hl => .inr ⟨rfl, h, [], rfl, (fun m hm => by cases hm), by rw [List.append_nil]; exact List.Perm.refl _⟩
  | x :: d, L, h, hl => by
    simp only [List.length_cons] at hl
    obtain ⟨r1, r2, -⟩ := dQ n hn s t L h x
    rw [foldI]
    cases hr : Y1 n s t L x with
    | inr e => exact .inl ⟨r2 e hr, rfl⟩
    | inl L' =>
      obtain ⟨h1, m, hm, h2⟩ := r1 L' hr
      have hlen := h2.length_eq
      simp only [List.length_cons] at hlen
      rcases cX n hn s t d L' h1 (by omega) with hb | ⟨b1, b2, D, b3, b4, b5⟩
      · exact .inl hb
      · refine .inr ⟨b1, b2, m :: D, by simp [b3], fun y hy => ?_, ?_⟩
        · rcases List.mem_cons.1 hy with rfl | hy
          · exact hm
          · exact b4 y hy
        · refine b5.trans ((h2.append_right D).trans ?_)
          rw [List.cons_append]
          exact List.perm_middle.symm
end Go.Proofs.YtbfabclpcamlnaaGreatDoor
