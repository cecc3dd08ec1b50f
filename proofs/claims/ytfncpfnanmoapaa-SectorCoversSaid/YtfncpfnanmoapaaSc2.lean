/- Overlaps of polygons, volumes; sectors: the functions answer. -/
import Derived.Test.YtfncpfnanmoapaaSc1
set_option linter.unusedVariables false
set_option linter.unusedSimpArgs false
namespace Go.Proofs.Ytfncpfnanmoapaa

/- points of one segment at the same distance from its end are one point -/
theorem sq_eq {a b : Int} (h : a * a = b * b) (s : (0 ≤ a ∧ 0 ≤ b) ∨ (a ≤ 0 ∧ b ≤ 0)) : a = b := by
  have h1 : (a - b) * (a + b) = 0 := by
    rw [Int.mul_add, Int.sub_mul, Int.sub_mul, Int.mul_comm b a]; omega
  rcases Int.mul_eq_zero.1 h1 with k | k
  · omega
  · omega
def Seg (u v : TP) : Prop := u.X * v.Y = u.Y * v.X ∧ ((0 ≤ v.X ∧ v.X ≤ u.X) ∨ (u.X ≤ v.X ∧ v.X ≤ 0)) ∧ ((0 ≤ v.Y ∧ v.Y ≤ u.Y) ∨ (u.Y ≤ v.Y ∧ v.Y ≤ 0))
def sqn (v : TP) : Int := v.X * v.X + v.Y * v.Y
theorem mul4 (a b c d : Int) : (a * b) * (c * d) = (a * c) * (b * d) := by rw [Int.mul_assoc, Int.mul_left_comm b, ← Int.mul_assoc]
theorem seg_mul {a b v w : Int} (h : a * w = b * v) : (a * a) * (v * v + w * w) = (v * v) * (a * a + b * b) := by
  have h2 : (a * w) * (a * w) = (b * v) * (b * v) := by rw [h]
  have e1 : (a * w) * (a * w) = (a * a) * (w * w) := mul4 a w a w
  have e2 : (b * v) * (b * v) = (v * v) * (b * b) := by rw [mul4, Int.mul_comm]
  rw [Int.mul_add, Int.mul_add, ← e1, h2, e2, Int.mul_comm (a * a) (v * v)]
theorem seg_inj {u v w : TP} (hv : Seg u v) (hw : Seg u w) (h : sqn v = sqn w) : v = w := by
  obtain ⟨v1, v2, v3⟩ := hv
  obtain ⟨w1, w2, w3⟩ := hw
  unfold sqn at h
  have key : ∀ {a b p q r s : Int}, a * q = b * p → a * s = b * r → p * p + q * q = r * r + s * s → a ≠ 0 → ((0 ≤ p ∧ p ≤ a) ∨ (a ≤ p ∧ p ≤ 0)) → ((0 ≤ r ∧ r ≤ a) ∨ (a ≤ r ∧ r ≤ 0)) → p = r ∧ q = s := by
    intro a b p q r s h1 h2 h3 ha hp hr
    have e1 := seg_mul h1
    have e2 := seg_mul h2
    rw [h3, e2] at e1
    have hs : a * a + b * b ≠ 0 := by
      have q1 : 0 < a * a := by
        rcases Int.lt_or_gt_of_ne ha with k | k
        · exact Int.mul_pos_of_neg_of_neg k k
        · exact Int.mul_pos k k
      have q2 : 0 ≤ b * b := by
        rcases Int.le_total 0 b with k | k
        · exact Int.mul_nonneg k k
        · exact Int.mul_nonneg_of_nonpos_of_nonpos k k
      omega
    have e3 : r * r = p * p := Int.eq_of_mul_eq_mul_right hs e1
    have e4 : r = p := sq_eq e3 (by omega)
    refine ⟨e4.symm, ?_⟩
    rw [e4, ← h1] at h2
    exact (Int.eq_of_mul_eq_mul_left ha h2).symm
  by_cases hx : u.X = 0
  · by_cases hy : u.Y = 0
    · cases v; cases w; simp only at *
      congr 1 <;> omega
    · obtain ⟨k1, k2⟩ := key (a := u.Y) (b := u.X) (p := v.Y) (q := v.X) (r := w.Y) (s := w.X) v1.symm w1.symm (by omega) hy v3 w3
      cases v; cases w; simp only at *
      rw [k1, k2]
  · obtain ⟨k1, k2⟩ := key (a := u.X) (b := u.Y) (p := v.X) (q := v.Y) (r := w.X) (s := w.Y) v1 w1 h hx v2 w2
    cases v; cases w; simp only at *
    rw [k1, k2]
/- points of a doubled polygon -/
def P2 (p : TP) : Prop := -2000000 ≤ p.X ∧ p.X ≤ 2000000 ∧ -2000000 ≤ p.Y ∧ p.Y ≤ 2000000
theorem mul_bd {a b : Int} {M : Int} (ha : -M ≤ a ∧ a ≤ M) (hb : -M ≤ b ∧ b ≤ M) (hM : 0 ≤ M) : -(M * M) ≤ a * b ∧ a * b ≤ M * M := by
  have h1 : 0 ≤ (M - a) * (M - b) := Int.mul_nonneg (by omega) (by omega)
  have h2 : 0 ≤ (M + a) * (M + b) := Int.mul_nonneg (by omega) (by omega)
  have h3 : 0 ≤ (M - a) * (M + b) := Int.mul_nonneg (by omega) (by omega)
  have h4 : 0 ≤ (M + a) * (M - b) := Int.mul_nonneg (by omega) (by omega)
  rw [Int.sub_mul, Int.mul_sub, Int.mul_sub] at h1
  rw [Int.add_mul, Int.mul_add, Int.mul_add] at h2
  rw [Int.sub_mul, Int.mul_add, Int.mul_add] at h3
  rw [Int.add_mul, Int.mul_sub, Int.mul_sub] at h4
  rw [Int.mul_comm a M] at *
  constructor <;> omega
def dif (a b : TP) : TP := ⟨b.X - a.X, b.Y - a.Y⟩
theorem on_seg (n : Nat) (a b c : TP) (ha : P2 a) (hb : P2 b) (hc : P2 c) (h : g52 n a b c = some true) : Seg (dif a b) (dif a c) := by
  obtain ⟨a1, a2, a3, a4⟩ := ha
  obtain ⟨b1, b2, b3, b4⟩ := hb
  obtain ⟨c1, c2, c3, c4⟩ := hc
  unfold g52 g38 at h
  rw [sub_val, sub_val] at h
  simp only [Option.bind_some] at h
  have m1 := mul_bd (a := b.X - a.X) (b := c.Y - a.Y) (M := 4000000) (by omega) (by omega) (by decide)
  have m2 := mul_bd (a := b.Y - a.Y) (b := c.X - a.X) (M := 4000000) (by omega) (by omega) (by decide)
  unfold g41 at h
  rw [wrap64 (z := b.X - a.X) (by omega) (by omega), wrap64 (z := c.Y - a.Y) (by omega) (by omega), wrap64 (z := b.Y - a.Y) (by omega) (by omega), wrap64 (z := c.X - a.X) (by omega) (by omega), wrap64 (z := (b.X - a.X) * (c.Y - a.Y)) (by omega) (by omega), wrap64 (z := (b.Y - a.Y) * (c.X - a.X)) (by omega) (by omega), wrap64 (by omega) (by omega)] at h
  simp only [Option.bind_some] at h
  by_cases z1 : (b.X - a.X) * (c.Y - a.Y) - (b.Y - a.Y) * (c.X - a.X) > 0
  · rw [decide_eq_true z1] at h; simp at h
  by_cases z2 : (b.X - a.X) * (c.Y - a.Y) - (b.Y - a.Y) * (c.X - a.X) < 0
  · rw [decide_eq_false z1, decide_eq_true z2] at h; simp at h
  rw [decide_eq_false z1, decide_eq_false z2] at h
  simp only [cond_false, Option.bind_some, show ((0 : Int) == 0) = true from rfl, cond_true] at h
  refine ⟨by show (b.X - a.X) * (c.Y - a.Y) = (b.Y - a.Y) * (c.X - a.X); omega, ?_, ?_⟩
  all_goals
    unfold g62 at h
    simp only [cond_eq_ite, decide_eq_true_eq] at h
    show (0 ≤ _ - _ ∧ _) ∨ _
    unfold dif
    simp only
    repeat' (split at h)
    all_goals simp only [Option.bind_some, Option.some.injEq, decide_eq_true_eq, Bool.false_eq_true] at h
    all_goals (try omega)
theorem seg_self (a b : TP) : Seg (dif a b) (dif a a) ∧ Seg (dif a b) (dif a b) := by
  unfold Seg dif
  simp only [Int.sub_self, Int.mul_zero]
  refine ⟨⟨trivial, ?_, ?_⟩, Int.mul_comm _ _, ?_, ?_⟩ <;> omega
theorem dif_inj {a c d : TP} (h : dif a c = dif a d) : c = d := by
  unfold dif at h
  cases c; cases d
  simp only [TP.mk.injEq] at h ⊢
  omega
theorem cmp_val (n : Nat) (a x y : TP) (ha : P2 a) (hx : P2 x) (hy : P2 y) : g59 n x y a.X a.Y = some (sqn (dif a x) - sqn (dif a y)) := by
  have sq : ∀ z, P2 z → g60 n (⟨a.X, a.Y⟩ : TP) z = some (sqn (dif a z)) ∧ 0 ≤ sqn (dif a z) ∧ sqn (dif a z) ≤ 32000000000000 := fun z hz => by
    obtain ⟨a1, a2, a3, a4⟩ := ha
    obtain ⟨z1, z2, z3, z4⟩ := hz
    have m1 := mul_bd (a := a.X - z.X) (b := a.X - z.X) (M := 4000000) (by omega) (by omega) (by decide)
    have m2 := mul_bd (a := a.Y - z.Y) (b := a.Y - z.Y) (M := 4000000) (by omega) (by omega) (by decide)
    have e1 : (z.X - a.X) * (z.X - a.X) = (a.X - z.X) * (a.X - z.X) := by rw [show z.X - a.X = -(a.X - z.X) by omega, Int.neg_mul_neg]
    have e2 : (z.Y - a.Y) * (z.Y - a.Y) = (a.Y - z.Y) * (a.Y - z.Y) := by rw [show z.Y - a.Y = -(a.Y - z.Y) by omega, Int.neg_mul_neg]
    have p1 : 0 ≤ (a.X - z.X) * (a.X - z.X) := by
      rcases Int.le_total 0 (a.X - z.X) with k | k
      · exact Int.mul_nonneg k k
      · exact Int.mul_nonneg_of_nonpos_of_nonpos k k
    have p2 : 0 ≤ (a.Y - z.Y) * (a.Y - z.Y) := by
      rcases Int.le_total 0 (a.Y - z.Y) with k | k
      · exact Int.mul_nonneg k k
      · exact Int.mul_nonneg_of_nonpos_of_nonpos k k
    have e3 : sqn (dif a z) = (a.X - z.X) * (a.X - z.X) + (a.Y - z.Y) * (a.Y - z.Y) := by show (z.X - a.X) * (z.X - a.X) + (z.Y - a.Y) * (z.Y - a.Y) = _; rw [e1, e2]
    refine ⟨?_, by rw [e3]; omega, by rw [e3]; omega⟩
    unfold g60
    rw [sub_val, Option.bind_some]
    unfold g61
    simp only [Option.bind_some]
    rw [wrap64 (z := a.X - z.X) (by omega) (by omega), wrap64 (z := a.Y - z.Y) (by omega) (by omega), wrap64 (z := (a.X - z.X) * (a.X - z.X)) (by omega) (by omega), wrap64 (z := (a.Y - z.Y) * (a.Y - z.Y)) (by omega) (by omega), wrap64 (by omega) (by omega), e3]
  obtain ⟨q1, q2, q3⟩ := sq x hx
  obtain ⟨r1, r2, r3⟩ := sq y hy
  unfold g59
  rw [q1, Option.bind_some, r1, Option.bind_some, wrap64 (by omega) (by omega)]
theorem cuts_sort (n : Nat) (a b : TP) (ha : P2 a) (l : List TP) (hl : ∀ c ∈ l, P2 c ∧ Seg (dif a b) (dif a c)) (hlen : l.length ≤ 1000) : ∃ k, sortO (fun x y => g59 n x y a.X a.Y) l = some k ∧ k.Perm l := by
  have hv : ∀ x ∈ l, ∀ y ∈ l, g59 n x y a.X a.Y = some (sqn (dif a x) - sqn (dif a y)) := fun x hx y hy => cmp_val n a x y ha (hl x hx).1 (hl y hy).1
  have hlt : ∀ x ∈ l, ∀ y ∈ l, (ltO (fun x y => g59 n x y a.X a.Y) x y = true ↔ sqn (dif a x) < sqn (dif a y)) := fun x hx y hy => by
    show decide ((g59 n x y a.X a.Y).getD 0 < 0) = true ↔ _
    rw [hv x hx y hy, decide_eq_true_eq]
    show sqn (dif a x) - sqn (dif a y) < 0 ↔ _
    constructor <;> intro h <;> omega
  have ho : OrdOn (fun x y => g59 n x y a.X a.Y) l := by
    refine ⟨fun x hx y hy => ⟨_, hv x hx y hy⟩, fun x hx y hy => ?_, fun x hx y hy h => ?_, fun x hx y hy z hz h1 h2 => ?_⟩
    · rcases Int.lt_trichotomy (sqn (dif a x)) (sqn (dif a y)) with k | k | k
      · exact .inl ((hlt x hx y hy).2 k)
      · exact .inr (.inr (dif_inj (seg_inj (hl x hx).2 (hl y hy).2 k)))
      · exact .inr (.inl ((hlt y hy x hx).2 k))
    · have h1 := (hlt x hx y hy).1 h
      cases hq : ltO (fun x y => g59 n x y a.X a.Y) y x with
      | false => rfl
      | true => have h2 := (hlt y hy x hx).1 hq; omega
    · have k1 := (hlt x hx y hy).1 h1
      have k2 := (hlt y hy z hz).1 h2
      exact (hlt x hx z hz).2 (by omega)
  have e : sortO (fun x y => g59 n x y a.X a.Y) l = some (isortB (ltO (fun x y => g59 n x y a.X a.Y)) l) := by
    unfold sortO
    rw [orderB_on.2 ho, decide_eq_true (show l.length < 4611686018427387904 by omega)]; rfl
  exact ⟨_, e, (sortO_facts e).1⟩
end Go.Proofs.Ytfncpfnanmoapaa
