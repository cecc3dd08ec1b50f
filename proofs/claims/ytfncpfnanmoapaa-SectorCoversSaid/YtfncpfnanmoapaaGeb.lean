/- Ge9 to Ge17. -/
import Derived.Test.YtfncpfnanmoapaaGea
/- Two polygons of which neither enters the other have no inside point in common. -/
set_option linter.unusedVariables false
set_option linter.unusedSimpArgs false
namespace Go.Proofs.Ytfncpfnanmoapaa

def wx (n : Nat) (V : Nat → Pt) (P : Pt) : Int := sumN n fun i => crx (V i) (V (i + 1)) P
theorem wind_wx {B : Int} {n : Nat} {V : Nat → Pt} {P : Pt} (hB : ∀ i, Fit B (V i)) (hP : Fit B P) : wind B n V P = wx n V P := sumN_congr fun i _ => cr_crx (hB i) (hB (i + 1)) hP
/- a point on a segment, as the code says it -/
def onB (a b c : Pt) : Prop := turn a b c = 0 ∧ min a.x b.x ≤ c.x ∧ c.x ≤ max a.x b.x ∧ min a.y b.y ≤ c.y ∧ c.y ≤ max a.y b.y
def cutB (m : Nat) (U : Nat → Pt) (a b c : Pt) : Prop := c = a ∨ c = b ∨ ∃ j, j < m ∧ c = U j ∧ onB a b (U j)
def mid2 (c d : Pt) : Pt := ⟨c.x + d.x, c.y + d.y⟩
def dotP (a b c d : Pt) : Int := (b.x - a.x) * (d.x - c.x) + (b.y - a.y) * (d.y - c.y)
/- no part of a rising edge lies inside of the other polygon, or on an edge of it in the same direction -/
def ENot (n : Nat) (V : Nat → Pt) (m : Nat) (U : Nat → Pt) : Prop := ∀ i, i < n → (V i).y < (V (i + 1)).y → ∀ c d, cutB m U (V i) (V (i + 1)) c → cutB m U (V i) (V (i + 1)) d → c.y < d.y → (∀ f, cutB m U (V i) (V (i + 1)) f → f.y ≤ c.y ∨ d.y ≤ f.y) →
  ((∀ j, j < m → ¬ onB (scl 2 (U j)) (scl 2 (U (j + 1))) (mid2 c d)) → wx m (fun j => scl 2 (U j)) (mid2 c d) ≠ 1) ∧ (∀ j, j < m → onB (scl 2 (U j)) (scl 2 (U (j + 1))) (mid2 c d) → dotP (V i) (V (i + 1)) (U j) (U (j + 1)) ≤ 0)
def CNot (n : Nat) (V : Nat → Pt) (m : Nat) (U : Nat → Pt) : Prop := ∀ i j, i < n → j < m → ¬ (turn (V i) (V (i + 1)) (U j) * turn (V i) (V (i + 1)) (U (j + 1)) < 0 ∧ turn (U j) (U (j + 1)) (V i) * turn (U j) (U (j + 1)) (V (i + 1)) < 0)
/- collinear points of a rising edge, by their heights -/
theorem line_x {a b c : Pt} (h : turn a b c = 0) : (b.y - a.y) * (c.x - a.x) = (b.x - a.x) * (c.y - a.y) := by unfold turn at h; omega
theorem on_of_y {a b c : Pt} (hab : a.y < b.y) (h : turn a b c = 0) (h1 : a.y ≤ c.y) (h2 : c.y ≤ b.y) : onB a b c := by
  have e := line_x h
  have s1 := sgn_pos (a := c.x - a.x) (show 0 < b.y - a.y by omega)
  have s2 := sgn_pos (a := b.x - c.x) (show 0 < b.y - a.y by omega)
  have e2 : (b.x - c.x) * (b.y - a.y) = (b.x - a.x) * (b.y - c.y) := by grind
  have e1 : (c.x - a.x) * (b.y - a.y) = (b.x - a.x) * (c.y - a.y) := by grind
  rw [e1] at s1
  rw [e2] at s2
  refine ⟨h, ?_, ?_, by omega, by omega⟩
  · rcases Int.le_total a.x b.x with q | q
    · have := w_pp (show 0 ≤ b.x - a.x by omega) (show 0 ≤ c.y - a.y by omega); omega
    · have := w_np (show b.x - a.x ≤ 0 by omega) (show 0 ≤ b.y - c.y by omega); omega
  · rcases Int.le_total a.x b.x with q | q
    · have := w_pp (show 0 ≤ b.x - a.x by omega) (show 0 ≤ b.y - c.y by omega); omega
    · have := w_np (show b.x - a.x ≤ 0 by omega) (show 0 ≤ c.y - a.y by omega); omega
theorem same_x {a b c d : Pt} (hab : a.y < b.y) (h : turn a b c = 0) (h' : turn a b d = 0) (hy : c.y = d.y) : c = d := by
  have e := line_x h
  have e' := line_x h'
  rw [hy, ← e'] at e
  have : (c.x - d.x) * (b.y - a.y) = 0 := by
    have : (c.x - d.x) * (b.y - a.y) = (b.y - a.y) * (c.x - a.x) - (b.y - a.y) * (d.x - a.x) := by grind
    omega
  rcases Int.mul_eq_zero.1 this with q | q
  · exact Pt.ext (by omega) hy
  · omega
theorem cut_line {m : Nat} {U : Nat → Pt} {a b c : Pt} (h : cutB m U a b c) : turn a b c = 0 := by
  rcases h with rfl | rfl | ⟨j, -, rfl, h⟩
  · exact (turn_self _ _).1
  · exact (turn_self _ _).2.1
  · exact h.1
theorem cut_y {m : Nat} {U : Nat → Pt} {a b c : Pt} (hab : a.y < b.y) (h : cutB m U a b c) : a.y ≤ c.y ∧ c.y ≤ b.y := by
  rcases h with rfl | rfl | ⟨j, -, rfl, h⟩
  · omega
  · omega
  · obtain ⟨-, -, -, h1, h2⟩ := h; omega
/- the cuts next to a level -/
theorem cut_below (m : Nat) (U : Nat → Pt) {a b : Pt} (k : Int) (hab : a.y ≤ k ∧ k < b.y) : ∃ c, cutB m U a b c ∧ c.y ≤ k ∧ ∀ f, cutB m U a b f → f.y ≤ k → f.y ≤ c.y := by
  classical
  have key : ∀ m', m' ≤ m → ∃ c, cutB m U a b c ∧ c.y ≤ k ∧ a.y ≤ c.y ∧ ∀ j, j < m' → onB a b (U j) → (U j).y ≤ k → (U j).y ≤ c.y := by
    intro m'
    induction m' with
    | zero => intro _; exact ⟨a, .inl rfl, hab.1, Int.le_refl _, fun j hj => by omega⟩
    | succ m' ih =>
      intro hm
      obtain ⟨c, h1, h2, h3, h4⟩ := ih (by omega)
      by_cases q : onB a b (U m') ∧ (U m').y ≤ k ∧ c.y < (U m').y
      · refine ⟨U m', .inr (.inr ⟨m', by omega, rfl, q.1⟩), q.2.1, by omega, fun j hj h5 h6 => ?_⟩
        rcases Nat.lt_succ_iff_lt_or_eq.1 hj with r | r
        · have := h4 j r h5 h6; omega
        · rw [r]; exact Int.le_refl _
      · refine ⟨c, h1, h2, h3, fun j hj h5 h6 => ?_⟩
        rcases Nat.lt_succ_iff_lt_or_eq.1 hj with r | r
        · exact h4 j r h5 h6
        · subst r
          refine Decidable.byContradiction fun hh => q ⟨h5, h6, by omega⟩
  obtain ⟨c, h1, h2, h3, h4⟩ := key m (Nat.le_refl _)
  refine ⟨c, h1, h2, fun f hf hk => ?_⟩
  rcases hf with rfl | rfl | ⟨j, hj, rfl, h⟩
  · exact h3
  · omega
  · exact h4 j hj h hk
theorem cut_above (m : Nat) (U : Nat → Pt) {a b : Pt} (k : Int) (hab : a.y ≤ k ∧ k < b.y) : ∃ c, cutB m U a b c ∧ k < c.y ∧ ∀ f, cutB m U a b f → k < f.y → c.y ≤ f.y := by
  classical
  have key : ∀ m', m' ≤ m → ∃ c, cutB m U a b c ∧ k < c.y ∧ c.y ≤ b.y ∧ ∀ j, j < m' → onB a b (U j) → k < (U j).y → c.y ≤ (U j).y := by
    intro m'
    induction m' with
    | zero => intro _; exact ⟨b, .inr (.inl rfl), hab.2, Int.le_refl _, fun j hj => by omega⟩
    | succ m' ih =>
      intro hm
      obtain ⟨c, h1, h2, h3, h4⟩ := ih (by omega)
      by_cases q : onB a b (U m') ∧ k < (U m').y ∧ (U m').y < c.y
      · refine ⟨U m', .inr (.inr ⟨m', by omega, rfl, q.1⟩), q.2.1, by omega, fun j hj h5 h6 => ?_⟩
        rcases Nat.lt_succ_iff_lt_or_eq.1 hj with r | r
        · have := h4 j r h5 h6; omega
        · rw [r]; exact Int.le_refl _
      · refine ⟨c, h1, h2, h3, fun j hj h5 h6 => ?_⟩
        rcases Nat.lt_succ_iff_lt_or_eq.1 hj with r | r
        · exact h4 j r h5 h6
        · subst r
          refine Decidable.byContradiction fun hh => q ⟨h5, h6, by omega⟩
  obtain ⟨c, h1, h2, h3, h4⟩ := key m (Nat.le_refl _)
  refine ⟨c, h1, h2, fun f hf hk => ?_⟩
  rcases hf with rfl | rfl | ⟨j, hj, rfl, h⟩
  · omega
  · exact h3
  · exact h4 j hj h hk
/- the middle of the cuts lies on a collinear edge that reaches over them -/
theorem mid_on {a b c d u v : Pt} (hab : a.y < b.y) (hc : turn a b c = 0) (hd : turn a b d = 0) (hu : turn a b u = 0) (hv : turn a b v = 0) (huv : u.y < v.y) (h1 : u.y ≤ c.y) (h2 : d.y ≤ v.y) (hcd : c.y < d.y) : onB (scl 2 u) (scl 2 v) (mid2 c d) := by
  have l1 := line_x hc
  have l2 := line_x hd
  have l3 := line_x hu
  have l4 := line_x hv
  refine on_of_y (show 2 * u.y < 2 * v.y by omega) ?_ (show 2 * u.y ≤ c.y + d.y by omega) (show c.y + d.y ≤ 2 * v.y by omega)
  have : turn (scl 2 u) (scl 2 v) (mid2 c d) * (b.y - a.y) = 0 := by
    unfold turn scl mid2
    show ((2 * v.x - 2 * u.x) * (c.y + d.y - 2 * u.y) - (2 * v.y - 2 * u.y) * (c.x + d.x - 2 * u.x)) * (b.y - a.y) = 0
    have e1 : (2 * v.x - 2 * u.x) * (b.y - a.y) = (b.x - a.x) * (2 * v.y - 2 * u.y) := by grind
    have e2 : (c.x + d.x - 2 * u.x) * (b.y - a.y) = (b.x - a.x) * (c.y + d.y - 2 * u.y) := by grind
    have : ((2 * v.x - 2 * u.x) * (c.y + d.y - 2 * u.y) - (2 * v.y - 2 * u.y) * (c.x + d.x - 2 * u.x)) * (b.y - a.y) = ((2 * v.x - 2 * u.x) * (b.y - a.y)) * (c.y + d.y - 2 * u.y) - (2 * v.y - 2 * u.y) * ((c.x + d.x - 2 * u.x) * (b.y - a.y)) := by grind
    rw [this, e1, e2]; grind
  rcases Int.mul_eq_zero.1 this with q | q
  · exact q
  · omega
theorem dot_up {a b u v : Pt} (hab : a.y < b.y) (huv : u.y < v.y) (hu : turn a b u = 0) (hv : turn a b v = 0) : 0 < dotP a b u v := by
  have l3 := line_x hu
  have l4 := line_x hv
  have e : (b.y - a.y) * (v.x - u.x) = (b.x - a.x) * (v.y - u.y) := by grind
  unfold dotP
  have p := m_pp (show 0 < b.y - a.y by omega) (show 0 < v.y - u.y by omega)
  have q : 0 ≤ (b.x - a.x) * (v.x - u.x) := by
    refine Decidable.byContradiction fun h => ?_
    have h1 := m_np (show (b.x - a.x) * (v.x - u.x) < 0 by omega) p
    have e2 : (b.x - a.x) * (v.x - u.x) * ((b.y - a.y) * (v.y - u.y)) = ((b.x - a.x) * (v.y - u.y)) * ((b.y - a.y) * (v.x - u.x)) := by grind
    rw [e2, e] at h1
    have : 0 ≤ (b.x - a.x) * (v.y - u.y) * ((b.x - a.x) * (v.y - u.y)) := by
      rcases Int.le_total 0 ((b.x - a.x) * (v.y - u.y)) with r | r
      · exact w_pp r r
      · exact w_nn r r
    omega
  omega
end Go.Proofs.Ytfncpfnanmoapaa
/- Two polygons of which neither enters the other: the two cases. -/
set_option linter.unusedVariables false
set_option linter.unusedSimpArgs false
namespace Go.Proofs.Ytfncpfnanmoapaa

theorem per_mod {n : Nat} {V : Nat → Pt} (h : ∀ i, V (i + n) = V i) (i : Nat) : V (i % n) = V i := by
  have per : ∀ q r, V (r + n * q) = V r := by
    intro q
    induction q with
    | zero => intro r; rw [Nat.mul_zero, Nat.add_zero]
    | succ q ih => intro r; rw [Nat.mul_succ, ← Nat.add_assoc, h, ih]
  have e := Nat.div_add_mod i n
  rw [← per (i / n) (i % n), show i % n + n * (i / n) = i by omega]
theorem place_inn {M k : Int} {u v : Pt} (hM2 : M % 2 = 0) (h : GoodM M u v) (hk : (u.y ≤ k ∧ k < v.y) ∨ (v.y ≤ k ∧ k < u.y)) : Inn (scl M u) (scl M v) (ptOn M (place M u v k) k) := by
  have hy : u.y ≠ v.y := by omega
  obtain ⟨-, h2⟩ := qOf_spec h hy
  have hx : 2 * (v.y - u.y) * place M u v k = M * ((2 * (v.y - u.y) - (2 * (k - u.y) + 1)) * u.x + (2 * (k - u.y) + 1) * v.x) := by
    unfold place
    have : 2 * (v.y - u.y) * (M * u.x + (v.x - u.x) * (2 * (k - u.y) + 1) * qOf M u v) = 2 * (v.y - u.y) * (M * u.x) + (v.x - u.x) * (2 * (k - u.y) + 1) * (2 * (v.y - u.y) * qOf M u v) := by grind
    rw [this, h2]; grind
  have hM : M = M / 2 * 2 := by omega
  have hyy : 2 * (v.y - u.y) * (M / 2 * (2 * k + 1)) = (2 * (v.y - u.y) - (2 * (k - u.y) + 1)) * (M * u.y) + (2 * (k - u.y) + 1) * (M * v.y) := by
    generalize hm : M / 2 = m at *
    rw [hM]; grind
  rcases hk with hk | hk
  · refine ⟨2 * (v.y - u.y), 2 * (k - u.y) + 1, by omega, by omega, ?_, hyy⟩
    show 2 * (v.y - u.y) * place M u v k = (2 * (v.y - u.y) - (2 * (k - u.y) + 1)) * (M * u.x) + (2 * (k - u.y) + 1) * (M * v.x)
    rw [hx]; grind
  · refine ⟨- (2 * (v.y - u.y)), - (2 * (k - u.y) + 1), by omega, by omega, ?_, ?_⟩
    · show - (2 * (v.y - u.y)) * place M u v k = (- (2 * (v.y - u.y)) - - (2 * (k - u.y) + 1)) * (M * u.x) + - (2 * (k - u.y) + 1) * (M * v.x)
      rw [Int.neg_mul, hx]; grind
    · show - (2 * (v.y - u.y)) * (M / 2 * (2 * k + 1)) = (- (2 * (v.y - u.y)) - - (2 * (k - u.y) + 1)) * (M * u.y) + - (2 * (k - u.y) + 1) * (M * v.y)
      rw [Int.neg_mul, hyy]; grind
/- a point inside of an edge and on a line: the ends are on the line, or on both sides -/
theorem inn_sides {a b X Y Q : Pt} (h : Inn a b Q) (ht : turn X Y Q = 0) : (turn X Y a = 0 ∧ turn X Y b = 0) ∨ turn X Y a * turn X Y b < 0 := by
  obtain ⟨k, s, h1, h2, h3, h4⟩ := h
  have e := affine_turn h3 h4 X Y
  rw [ht, Int.mul_zero] at e
  rcases Int.lt_trichotomy (turn X Y a) 0 with q | q | q
  · have p := m_pn (show 0 < k - s by omega) q
    have r := (sgn_pos (a := turn X Y b) h1).1.1 (by rw [Int.mul_comm]; omega)
    exact .inr (m_np q r)
  · rw [q, Int.mul_zero, Int.zero_add] at e
    rcases Int.mul_eq_zero.1 e.symm with r | r
    · omega
    · exact .inl ⟨q, r⟩
  · have p := m_pp (show 0 < k - s by omega) q
    have r := (sgn_pos (a := turn X Y b) h1).2.1 (by rw [Int.mul_comm]; omega)
    exact .inr (m_pn q r)
theorem turn_scl0 {M : Int} (hM : 0 < M) {a b c : Pt} : turn (scl M a) (scl M b) (scl M c) = 0 ↔ turn a b c = 0 := by
  rw [turn_scl]
  constructor
  · intro h
    rcases Int.mul_eq_zero.1 h with q | q
    · exact q
    · have := m_pp hM hM; omega
  · intro h; rw [h, Int.zero_mul]
theorem prod_scl {M : Int} (hM : 0 < M) {a b c d : Pt} (h : turn (scl M a) (scl M b) (scl M c) * turn (scl M a) (scl M b) (scl M d) < 0) : turn a b c * turn a b d < 0 := by
  rw [turn_scl, turn_scl] at h
  have e : turn a b c * (M * M) * (turn a b d * (M * M)) = turn a b c * turn a b d * ((M * M) * (M * M)) := by grind
  rw [e] at h
  exact (sgn_pos (m_pp (m_pp hM hM) (m_pp hM hM))).2.1 h
theorem col_swap {a b u v : Pt} (huv : u.y < v.y) (h1 : turn u v a = 0) (h2 : turn u v b = 0) : turn a b u = 0 ∧ turn a b v = 0 := by
  have l1 := line_x h1
  have l2 := line_x h2
  have e1 : turn a b u * (v.y - u.y) = 0 := by
    unfold turn
    have : ((b.x - a.x) * (u.y - a.y) - (b.y - a.y) * (u.x - a.x)) * (v.y - u.y) = ((v.y - u.y) * (b.x - u.x) - (v.y - u.y) * (a.x - u.x)) * (u.y - a.y) + (b.y - a.y) * ((v.y - u.y) * (a.x - u.x)) := by grind
    rw [this, l1, l2]; grind
  have e2 : turn a b v * (v.y - u.y) = 0 := by
    unfold turn
    have : ((b.x - a.x) * (v.y - a.y) - (b.y - a.y) * (v.x - a.x)) * (v.y - u.y) = ((v.y - u.y) * (b.x - u.x) - (v.y - u.y) * (a.x - u.x)) * (v.y - a.y) - (b.y - a.y) * ((v.y - u.y) * (v.x - u.x) - (v.y - u.y) * (a.x - u.x)) := by grind
    rw [this, l1, l2]; grind
  constructor
  · rcases Int.mul_eq_zero.1 e1 with q | q
    · exact q
    · omega
  · rcases Int.mul_eq_zero.1 e2 with q | q
    · exact q
    · omega
section
variable {M x0 x1 y0 : Int} {n m H : Nat} {V U : Nat → Pt} (hM : 0 < M) (hM2 : M % 2 = 0) (hg : ∀ i, GoodM M (V i) (V (i + 1))) (hg' : ∀ j, GoodM M (U j) (U (j + 1))) (hc : CNot n V m U) (he : ENot n V m U)
include hM hM2 hg hg' hc he
/- two rising edges of both polygons at one place -/
theorem both_up {i j : Nat} (hi : i < n) (hj : j < m) {k : Int} (hk : (V i).y ≤ k ∧ k < (V (i + 1)).y) (hk' : (U j).y ≤ k ∧ k < (U (j + 1)).y) (hp : place M (V i) (V (i + 1)) k = place M (U j) (U (j + 1)) k) (hperU : ∀ j, U (j + m) = U j) : False := by
  obtain ⟨a, ha⟩ : ∃ a, V i = a := ⟨_, rfl⟩
  obtain ⟨b, hb⟩ : ∃ b, V (i + 1) = b := ⟨_, rfl⟩
  obtain ⟨u, hu⟩ : ∃ u, U j = u := ⟨_, rfl⟩
  obtain ⟨v, hv⟩ : ∃ v, U (j + 1) = v := ⟨_, rfl⟩
  have g1 := hg i
  have g2 := hg' j
  rw [ha, hb] at g1 hk hp
  rw [hu, hv] at g2 hk' hp
  have i1 := place_inn (k := k) hM2 g1 (.inl hk)
  have i2 := place_inn (k := k) hM2 g2 (.inl hk')
  rw [hp] at i1
  -- collinear
  have col : turn a b u = 0 ∧ turn a b v = 0 := by
    have s1 := inn_sides i2 (X := scl M a) (Y := scl M b) i1.turn
    have s2 := inn_sides i1 (X := scl M u) (Y := scl M v) i2.turn
    rw [turn_scl0 hM, turn_scl0 hM] at s1 s2
    rcases s1 with s1 | s1
    · exact s1
    rcases s2 with s2 | s2
    · exact col_swap (by omega) s2.1 s2.2
    · exfalso
      have := hc i j hi hj
      rw [ha, hb, hu, hv] at this
      exact this ⟨prod_scl hM s1, prod_scl hM s2⟩
  obtain ⟨c, c1, c2, c3⟩ := cut_below m U k hk
  obtain ⟨d, d1, d2, d3⟩ := cut_above m U k hk
  have hab : a.y < b.y := by omega
  have yc := cut_y hab c1
  have yd := cut_y hab d1
  have cutU : ∀ t, onB a b (U t) → cutB m U a b (U t) := fun t ht => .inr (.inr ⟨t % m, Nat.mod_lt _ (by omega), (per_mod hperU t).symm, by rw [per_mod hperU t]; exact ht⟩)
  have h1 : u.y ≤ c.y := by
    by_cases q : a.y ≤ u.y
    · have := cutU j (by rw [hu]; exact on_of_y hab col.1 q (by omega))
      rw [hu] at this
      exact c3 u this hk'.1
    · omega
  have h2 : d.y ≤ v.y := by
    by_cases q : v.y ≤ b.y
    · have := cutU (j + 1) (by rw [hv]; exact on_of_y hab col.2 (by omega) q)
      rw [hv] at this
      exact d3 v this hk'.2
    · omega
  have hon := mid_on hab (cut_line c1) (cut_line d1) col.1 col.2 (by omega) h1 h2 (by omega)
  have hdot := dot_up hab (show u.y < v.y by omega) col.1 col.2
  have := (he i hi (by rw [ha, hb]; exact hab) c d (by rw [ha, hb]; exact c1) (by rw [ha, hb]; exact d1) (by omega) (fun f hf => by
    rw [ha, hb] at hf
    by_cases q : f.y ≤ k
    · exact .inl (c3 f hf q)
    · exact .inr (d3 f hf (by omega)))).2 j hj (by rw [hu, hv]; exact hon)
  rw [ha, hb, hu, hv] at this
  omega
end
end Go.Proofs.Ytfncpfnanmoapaa
/- Two polygons of which neither enters the other: a part of an edge inside of the other polygon. -/
set_option linter.unusedVariables false
set_option linter.unusedSimpArgs false
namespace Go.Proofs.Ytfncpfnanmoapaa

theorem on_param {a b c : Pt} (h : onB a b c) (hne : a ≠ b) : ∃ K j : Int, 0 < K ∧ 0 ≤ j ∧ j ≤ K ∧ K * c.x = (K - j) * a.x + j * b.x ∧ K * c.y = (K - j) * a.y + j * b.y := by
  obtain ⟨h1, h2, h3, h4, h5⟩ := h
  have e := line_x h1
  rcases Int.lt_trichotomy a.y b.y with q | q | q
  · exact ⟨b.y - a.y, c.y - a.y, by omega, by omega, by omega, by grind, by grind⟩
  · have hx : a.x ≠ b.x := fun r => hne (Pt.ext r q)
    have hy : c.y = a.y := by omega
    rcases Int.lt_or_gt_of_ne hx with r | r
    · exact ⟨b.x - a.x, c.x - a.x, by omega, by omega, by omega, by grind, by rw [hy, ← q]; grind⟩
    · exact ⟨a.x - b.x, a.x - c.x, by omega, by omega, by omega, by grind, by rw [hy, ← q]; grind⟩
  · exact ⟨a.y - b.y, a.y - c.y, by omega, by omega, by omega, by grind, by grind⟩
theorem inn_of_y {a b Q : Pt} (hab : a.y < b.y) (ht : turn a b Q = 0) (h1 : a.y < Q.y) (h2 : Q.y < b.y) : Inn a b Q := by
  have e := line_x ht
  exact ⟨b.y - a.y, Q.y - a.y, by omega, by omega, by grind, by grind⟩
theorem inn_pos {a b X Y Q : Pt} (h : Inn a b Q) : (0 ≤ turn X Y a → 0 ≤ turn X Y b → (0 < turn X Y a ∨ 0 < turn X Y b) → 0 < turn X Y Q) ∧ (turn X Y a ≤ 0 → turn X Y b ≤ 0 → (turn X Y a < 0 ∨ turn X Y b < 0) → turn X Y Q < 0) := by
  obtain ⟨k, s, h1, h2, h3, h4⟩ := h
  have e := affine_turn h3 h4 X Y
  have sg := sgn_pos (a := turn X Y Q) (show 0 < k by omega)
  rw [Int.mul_comm, e] at sg
  constructor
  · intro a1 a2 a3
    refine sg.1.1 ?_
    rcases a3 with a3 | a3
    · have := m_pp (show 0 < k - s by omega) a3
      have := w_pp (Int.le_of_lt h1) a2
      omega
    · have := w_pp (show 0 ≤ k - s by omega) a1
      have := m_pp h1 a3
      omega
  · intro a1 a2 a3
    refine sg.2.1 ?_
    rcases a3 with a3 | a3
    · have := m_pn (show 0 < k - s by omega) a3
      have := w_pn (Int.le_of_lt h1) a2
      omega
    · have := w_pn (show 0 ≤ k - s by omega) a1
      have := m_pn h1 a3
      omega
theorem no_meet {M : Int} (hM : 0 < M) {a b c d u v Z m : Pt} (hab : a.y < b.y) (hc : a.y ≤ c.y) (hd : d.y ≤ b.y) (hcd : c.y < d.y) (hcr : ¬ (turn a b u * turn a b v < 0 ∧ turn u v a * turn u v b < 0))
    (hu : ¬ (turn a b u = 0 ∧ c.y < u.y ∧ u.y < d.y)) (hv : ¬ (turn a b v = 0 ∧ c.y < v.y ∧ v.y < d.y)) (hz : ¬ (turn a b u = 0 ∧ turn a b v = 0 ∧ ((u.y ≤ c.y ∧ d.y ≤ v.y) ∨ (v.y ≤ c.y ∧ d.y ≤ u.y))))
    (hZ : turn (scl M a) (scl M b) Z = 0) (hZ1 : M * c.y < Z.y) (hZ2 : Z.y < M * d.y) (hm : turn (scl M a) (scl M b) m = 0) (hm1 : M * c.y < m.y) (hm2 : m.y < M * d.y) : ¬ Meets Z m (scl M u) (scl M v) := by
  rintro ⟨K, i, j, g1, g2, g3, g4, g5, g6, g7⟩
  -- heights of the common point
  have y1 : K * (M * c.y) < (K - j) * (M * u.y) + j * (M * v.y) := by
    have g7 : (K - i) * Z.y + i * m.y = (K - j) * (M * u.y) + j * (M * v.y) := g7
    rw [← g7]
    have e : (K - i) * Z.y + i * m.y = K * (M * c.y) + ((K - i) * (Z.y - M * c.y) + i * (m.y - M * c.y)) := by grind
    have p1 := w_pp (show 0 ≤ K - i by omega) (show 0 ≤ Z.y - M * c.y by omega)
    have p2 := w_pp g2 (show 0 ≤ m.y - M * c.y by omega)
    rcases Int.lt_or_le i K with q | q
    · have := m_pp (show 0 < K - i by omega) (show 0 < Z.y - M * c.y by omega); omega
    · have := m_pp (show 0 < i by omega) (show 0 < m.y - M * c.y by omega); omega
  have y2 : (K - j) * (M * u.y) + j * (M * v.y) < K * (M * d.y) := by
    have g7 : (K - i) * Z.y + i * m.y = (K - j) * (M * u.y) + j * (M * v.y) := g7
    rw [← g7]
    have e : (K - i) * Z.y + i * m.y = K * (M * d.y) - ((K - i) * (M * d.y - Z.y) + i * (M * d.y - m.y)) := by grind
    have p1 := w_pp (show 0 ≤ K - i by omega) (show 0 ≤ M * d.y - Z.y by omega)
    have p2 := w_pp g2 (show 0 ≤ M * d.y - m.y by omega)
    rcases Int.lt_or_le i K with q | q
    · have := m_pp (show 0 < K - i by omega) (show 0 < M * d.y - Z.y by omega); omega
    · have := m_pp (show 0 < i by omega) (show 0 < M * d.y - m.y by omega); omega
  -- divided by the scale
  have y1' : K * c.y < (K - j) * u.y + j * v.y := by
    have := mul_lt_iff (M := M) (a := K * c.y) (b := (K - j) * u.y + j * v.y) hM
    have e1 : M * (K * c.y) = K * (M * c.y) := by grind
    have e2 : M * ((K - j) * u.y + j * v.y) = (K - j) * (M * u.y) + j * (M * v.y) := by grind
    omega
  have y2' : (K - j) * u.y + j * v.y < K * d.y := by
    have := mul_lt_iff (M := M) (b := K * d.y) (a := (K - j) * u.y + j * v.y) hM
    have e1 : M * (K * d.y) = K * (M * d.y) := by grind
    have e2 : M * ((K - j) * u.y + j * v.y) = (K - j) * (M * u.y) + j * (M * v.y) := by grind
    omega
  have comb : ∀ X Y : Pt, (K - i) * turn X Y Z + i * turn X Y m = (K - j) * turn X Y (scl M u) + j * turn X Y (scl M v) := fun X Y => by
    have e1 : (K - i) * turn X Y Z + i * turn X Y m = (Y.x - X.x) * (((K - i) * Z.y + i * m.y) - K * X.y) - (Y.y - X.y) * (((K - i) * Z.x + i * m.x) - K * X.x) := by unfold turn; grind
    have e2 : (K - j) * turn X Y (scl M u) + j * turn X Y (scl M v) = (Y.x - X.x) * (((K - j) * (scl M u).y + j * (scl M v).y) - K * X.y) - (Y.y - X.y) * (((K - j) * (scl M u).x + j * (scl M v).x) - K * X.x) := by unfold turn; grind
    rw [e1, e2, g6, g7]
  have tl : (K - j) * turn a b u + j * turn a b v = 0 := by
    have h := comb (scl M a) (scl M b)
    rw [hZ, hm, turn_scl, turn_scl, Int.mul_zero, Int.mul_zero] at h
    have e : (K - j) * (turn a b u * (M * M)) + j * (turn a b v * (M * M)) = ((K - j) * turn a b u + j * turn a b v) * (M * M) := by grind
    have h : ((K - j) * turn a b u + j * turn a b v) * (M * M) = 0 := by omega
    rcases Int.mul_eq_zero.1 h with q | q
    · exact q
    · have := m_pp hM hM; omega
  by_cases j0 : j = 0
  · subst j0
    rw [Int.sub_zero, Int.zero_mul, Int.add_zero] at tl y1' y2'
    have t0 : turn a b u = 0 := by
      rcases Int.mul_eq_zero.1 tl with q | q
      · omega
      · exact q
    exact hu ⟨t0, (mul_lt_iff g1).1 y1', (mul_lt_iff g1).1 y2'⟩
  by_cases jK : j = K
  · subst jK
    rw [Int.sub_self, Int.zero_mul, Int.zero_add] at tl y1' y2'
    have t0 : turn a b v = 0 := by
      rcases Int.mul_eq_zero.1 tl with q | q
      · omega
      · exact q
    exact hv ⟨t0, (mul_lt_iff g1).1 y1', (mul_lt_iff g1).1 y2'⟩
  have w1 : 0 < K - j := by omega
  have w2 : 0 < j := by omega
  by_cases t0 : turn a b u = 0
  · have t1 : turn a b v = 0 := by
      rw [t0, Int.mul_zero, Int.zero_add] at tl
      rcases Int.mul_eq_zero.1 tl with q | q
      · omega
      · exact q
    -- a collinear edge that reaches over the part
    have nu : u.y ≤ c.y ∨ d.y ≤ u.y := by
      refine Decidable.byContradiction fun hh => hu ⟨t0, by omega, by omega⟩
    have nv : v.y ≤ c.y ∨ d.y ≤ v.y := by
      refine Decidable.byContradiction fun hh => hv ⟨t1, by omega, by omega⟩
    rcases nu with nu | nu <;> rcases nv with nv | nv
    · have p1 := Int.mul_le_mul_of_nonneg_left nu (show 0 ≤ K - j by omega)
      have p2 := Int.mul_le_mul_of_nonneg_left nv (show 0 ≤ j by omega)
      have e : (K - j) * c.y + j * c.y = K * c.y := by grind
      omega
    · exact hz ⟨t0, t1, .inl ⟨nu, nv⟩⟩
    · exact hz ⟨t0, t1, .inr ⟨nv, nu⟩⟩
    · have p1 := Int.mul_le_mul_of_nonneg_left nu (show 0 ≤ K - j by omega)
      have p2 := Int.mul_le_mul_of_nonneg_left nv (show 0 ≤ j by omega)
      have e : (K - j) * d.y + j * d.y = K * d.y := by grind
      omega
  -- both ends on both sides: the edges cross
  have hop : turn a b u * turn a b v < 0 := by
    rcases Int.lt_or_gt_of_ne t0 with q | q
    · have p := m_pn w1 q
      have r := (sgn_pos (a := turn a b v) w2).1.1 (by rw [Int.mul_comm]; omega)
      exact m_np q r
    · have p := m_pp w1 q
      have r := (sgn_pos (a := turn a b v) w2).2.1 (by rw [Int.mul_comm]; omega)
      exact m_pn q r
  have hs := comb (scl M u) (scl M v)
  rw [(turn_self (scl M u) (scl M v)).1, (turn_self (scl M u) (scl M v)).2.1, Int.mul_zero, Int.mul_zero] at hs
  have yab : (scl M a).y < (scl M b).y := (mul_lt_iff hM).2 hab
  have ya : M * a.y ≤ M * c.y := Int.mul_le_mul_of_nonneg_left hc (by omega)
  have yb : M * d.y ≤ M * b.y := Int.mul_le_mul_of_nonneg_left hd (by omega)
  have iZ : Inn (scl M a) (scl M b) Z := inn_of_y yab hZ (by show M * a.y < Z.y; omega) (by show Z.y < M * b.y; omega)
  have im : Inn (scl M a) (scl M b) m := inn_of_y yab hm (by show M * a.y < m.y; omega) (by show m.y < M * b.y; omega)
  have pZ := inn_pos iZ (X := scl M u) (Y := scl M v)
  have pm := inn_pos im (X := scl M u) (Y := scl M v)
  have weights : ∀ p q : Int, 0 < p → 0 < q → (K - i) * p + i * q ≠ 0 := fun p q hp hq => by
    rcases Int.lt_or_le i K with r | r
    · have := m_pp (show 0 < K - i by omega) hp
      have := w_pp g2 (Int.le_of_lt hq); omega
    · have := w_pp (show 0 ≤ K - i by omega) (Int.le_of_lt hp)
      have := m_pp (show 0 < i by omega) hq; omega
  have weights' : ∀ p q : Int, p < 0 → q < 0 → (K - i) * p + i * q ≠ 0 := fun p q hp hq => by
    rcases Int.lt_or_le i K with r | r
    · have := m_pn (show 0 < K - i by omega) hp
      have := w_pn g2 (Int.le_of_lt hq); omega
    · have := w_pn (show 0 ≤ K - i by omega) (Int.le_of_lt hp)
      have := m_pn (show 0 < i by omega) hq; omega
  have hsab : turn (scl M u) (scl M v) (scl M a) * turn (scl M u) (scl M v) (scl M b) < 0 ∨ (turn (scl M u) (scl M v) (scl M a) = 0 ∧ turn (scl M u) (scl M v) (scl M b) = 0) := by
    generalize turn (scl M u) (scl M v) (scl M a) = A at *
    generalize turn (scl M u) (scl M v) (scl M b) = B at *
    rcases Int.lt_trichotomy A 0 with q | q | q <;> rcases Int.lt_trichotomy B 0 with r | r | r
    · exact absurd hs (by have := weights' _ _ (pZ.2 (by omega) (by omega) (.inl q)) (pm.2 (by omega) (by omega) (.inl q)); omega)
    · exact absurd hs (by have := weights' _ _ (pZ.2 (by omega) (by omega) (.inl q)) (pm.2 (by omega) (by omega) (.inl q)); omega)
    · exact .inl (m_np q r)
    · exact absurd hs (by have := weights' _ _ (pZ.2 (by omega) (by omega) (.inr r)) (pm.2 (by omega) (by omega) (.inr r)); omega)
    · exact .inr ⟨q, r⟩
    · exact absurd hs (by have := weights _ _ (pZ.1 (by omega) (by omega) (.inr r)) (pm.1 (by omega) (by omega) (.inr r)); omega)
    · exact .inl (m_pn q r)
    · exact absurd hs (by have := weights _ _ (pZ.1 (by omega) (by omega) (.inl q)) (pm.1 (by omega) (by omega) (.inl q)); omega)
    · exact absurd hs (by have := weights _ _ (pZ.1 (by omega) (by omega) (.inl q)) (pm.1 (by omega) (by omega) (.inl q)); omega)
  rcases hsab with hsab | hsab
  · exact hcr ⟨hop, prod_scl hM hsab⟩
  · rw [turn_scl0 hM, turn_scl0 hM] at hsab
    rcases Int.lt_trichotomy u.y v.y with q | q | q
    · exact t0 (col_swap q hsab.1 hsab.2).1
    · obtain ⟨h1, h2⟩ := hsab
      unfold turn at h1 h2
      rw [q, Int.sub_self, Int.zero_mul, Int.sub_zero] at h1 h2
      have e : (v.x - u.x) * (b.y - a.y) = 0 := by
        have : (v.x - u.x) * (b.y - a.y) = (v.x - u.x) * (b.y - v.y) - (v.x - u.x) * (a.y - v.y) := by grind
        omega
      rcases Int.mul_eq_zero.1 e with r | r
      · have : u = v := Pt.ext (by omega) q
        rw [this] at hop
        have : 0 ≤ turn a b v * turn a b v := by
          rcases Int.le_total 0 (turn a b v) with s | s
          · exact w_pp s s
          · exact w_nn s s
        omega
      · omega
    · have := col_swap (a := a) (b := b) q (by rw [turn_swap, hsab.1]; rfl) (by rw [turn_swap, hsab.2]; rfl)
      exact t0 this.2
end Go.Proofs.Ytfncpfnanmoapaa
/- Two polygons of which neither enters the other have no inside point in common. -/
set_option linter.unusedVariables false
set_option linter.unusedSimpArgs false
namespace Go.Proofs.Ytfncpfnanmoapaa

/- a point that moves without meeting an edge -/
theorem wind_move {B : Int} {n : Nat} {V : Nat → Pt} {Z m : Pt} (hper : ∀ i, V (i + n) = V i) (hB : ∀ i, Fit B (V i)) (hZ : Fit B Z) (hm : Fit B m) (h1 : ∀ i, V i ≠ Z) (h2 : ∀ i, V i ≠ m) (hno : ∀ i, ¬ Meets Z m (V i) (V (i + 1))) : wind B n V Z = wind B n V m := by
  have up : ∀ {Z m : Pt}, Fit B Z → Fit B m → (∀ i, V i ≠ Z) → (∀ i, V i ≠ m) → (∀ i, ¬ Meets Z m (V i) (V (i + 1))) → lam B Z < lam B m → wind B n V m - wind B n V Z = 0 := fun {Z m} hZ hm h1 h2 hno hl => by
    unfold wind
    rw [sumN_sub, sumN_congr (g := fun i => psi B Z m (V i) - psi B Z m (V (i + 1))) (fun i _ => move B hl (fun e => h1 i (lam_inj (hB _) hZ e)) (fun e => h2 i (lam_inj (hB _) hm e)) (fun e => h1 (i + 1) (lam_inj (hB _) hZ e)) (fun e => h2 (i + 1) (lam_inj (hB _) hm e)) (fun e => lam_inj (hB _) (hB _) e) (hno i)), sumN_tele n (fun i => psi B Z m (V i))]
    have e : V n = V 0 := by have := hper 0; rwa [Nat.zero_add] at this
    rw [e]; omega
  rcases Int.lt_trichotomy (lam B Z) (lam B m) with q | q | q
  · have := up hZ hm h1 h2 hno q; omega
  · rw [lam_inj hZ hm q]
  · have := up hm hZ h2 h1 (fun i h => hno i h.rev) q; omega
theorem wx_scl {M : Int} (hM : 0 < M) (n : Nat) (V : Nat → Pt) (P : Pt) : wx n (fun i => scl M (V i)) (scl M P) = wx n V P := sumN_congr fun i _ => crx_scl hM _ _ _
theorem scl_half {M : Int} (hM2 : M % 2 = 0) (p : Pt) : scl (M / 2) (scl 2 p) = scl M p := by
  have hM : M = M / 2 * 2 := by omega
  refine Pt.ext ?_ ?_
  · show M / 2 * (2 * p.x) = M * p.x
    rw [← Int.mul_assoc, ← hM]
  · show M / 2 * (2 * p.y) = M * p.y
    rw [← Int.mul_assoc, ← hM]
section
variable {M x0 x1 y0 : Int} {n m H : Nat} {V U : Nat → Pt} (hM : 0 < M) (hM2 : M % 2 = 0) (hq : Area m U x0 x1 y0 H) (hg : ∀ i, GoodM M (V i) (V (i + 1))) (hg' : ∀ j, GoodM M (U j) (U (j + 1))) (hc : CNot n V m U) (he : ENot n V m U)
include hM hM2 hq hg hg' hc he
/- a rising edge at a place inside of the other polygon -/
theorem part_in {i : Nat} (hi : i < n) {k : Int} (hk : (V i).y ≤ k ∧ k < (V (i + 1)).y) (hno : ∀ j, ((U j).y ≤ k ∧ k < (U (j + 1)).y) ∨ ((U (j + 1)).y ≤ k ∧ k < (U j).y) → place M (U j) (U (j + 1)) k ≠ place M (V i) (V (i + 1)) k) (hw : rsum (evP M m U k) (place M (V i) (V (i + 1)) k) = 1) : False := by
  obtain ⟨a, ha⟩ : ∃ a, V i = a := ⟨_, rfl⟩
  obtain ⟨b, hb⟩ : ∃ b, V (i + 1) = b := ⟨_, rfl⟩
  have g1 := hg i
  have hcr := fun j hj => hc i j hi hj
  have hen := he i hi
  rw [ha, hb] at g1 hk hno hw
  rw [ha, hb] at hen
  have hper := hq.poly.per
  have hcr : ∀ j, ¬ (turn a b (U j) * turn a b (U (j + 1)) < 0 ∧ turn (U j) (U (j + 1)) a * turn (U j) (U (j + 1)) b < 0) := fun j h => by
    have := hcr (j % m) (Nat.mod_lt _ (by have := hq.poly.three; omega))
    rw [ha, hb, per_mod hper j] at this
    have e : U (j % m + 1) = U (j + 1) := by
      rw [← per_mod hper (j % m + 1), ← per_mod hper (j + 1), Nat.mod_add_mod]
    rw [e] at this
    exact this h
  obtain ⟨c, c1, c2, c3⟩ := cut_below m U k hk
  obtain ⟨d, d1, d2, d3⟩ := cut_above m U k hk
  have hab : a.y < b.y := by omega
  have yc := cut_y hab c1
  have yd := cut_y hab d1
  have hcd : c.y < d.y := by omega
  have m3 := hq.poly.three
  have cutU : ∀ t, onB a b (U t) → cutB m U a b (U t) := fun t ht => .inr (.inr ⟨t % m, Nat.mod_lt _ (by omega), (per_mod hper t).symm, by rw [per_mod hper t]; exact ht⟩)
  have hadj : ∀ f, cutB m U a b f → f.y ≤ c.y ∨ d.y ≤ f.y := fun f hf => by
    by_cases q : f.y ≤ k
    · exact .inl (c3 f hf q)
    · exact .inr (d3 f hf (by omega))
  have hnoU : ∀ t, ¬ (turn a b (U t) = 0 ∧ c.y < (U t).y ∧ (U t).y < d.y) := fun t ⟨h1, h2, h3⟩ => by
    have := hadj _ (cutU t (on_of_y hab h1 (by omega) (by omega)))
    omega
  -- the two points
  have iZ := place_inn (k := k) hM2 g1 (.inl hk)
  obtain ⟨Z, hZ⟩ : ∃ Z, ptOn M (place M a b k) k = Z := ⟨_, rfl⟩
  have hZy : Z.y = M / 2 * (2 * k + 1) := by rw [← hZ]; rfl
  obtain ⟨P, hP⟩ : ∃ P, scl (M / 2) (mid2 c d) = P := ⟨_, rfl⟩
  have hM' : M = M / 2 * 2 := by omega
  have hh : 0 < M / 2 := by omega
  have hPy : P.y = M / 2 * (c.y + d.y) := by rw [← hP]; rfl
  rw [hZ] at iZ
  have tZ := iZ.turn
  have yM : ∀ t : Int, M * t = M / 2 * (2 * t) := fun t => by rw [← Int.mul_assoc, ← hM']
  have Z1 : M * c.y < Z.y := by rw [hZy, yM]; exact (mul_lt_iff hh).2 (by omega)
  have Z2 : Z.y < M * d.y := by rw [hZy, yM]; exact (mul_lt_iff hh).2 (by omega)
  have P1 : M * c.y < P.y := by rw [hPy, yM]; exact (mul_lt_iff hh).2 (by omega)
  have P2 : P.y < M * d.y := by rw [hPy, yM]; exact (mul_lt_iff hh).2 (by omega)
  have tP : turn (scl M a) (scl M b) P = 0 := by
    rw [← hP, ← scl_half hM2 a, ← scl_half hM2 b, turn_scl0 hh]
    have hc0 := cut_line c1
    have hd0 := cut_line d1
    have : turn (scl 2 a) (scl 2 b) (mid2 c d) = 2 * turn a b c + 2 * turn a b d := by
      unfold turn scl mid2
      show (2 * b.x - 2 * a.x) * (c.y + d.y - 2 * a.y) - (2 * b.y - 2 * a.y) * (c.x + d.x - 2 * a.x) = _
      grind
    rw [this, hc0, hd0]; rfl
  have hmeet : ∀ j, ¬ Meets Z P (scl M (U j)) (scl M (U (j + 1))) := fun j =>
    no_meet hM hab yc.1 yd.2 hcd (hcr j) (hnoU j) (hnoU (j + 1)) (by
      rintro ⟨h1, h2, h3⟩
      have hcross : ((U j).y ≤ k ∧ k < (U (j + 1)).y) ∨ ((U (j + 1)).y ≤ k ∧ k < (U j).y) := by omega
      refine hno j hcross ?_
      have ht := turn_on (X := place M a b k) (k := k) hM2 (hg' j) (by omega)
      have hz : turn (scl M (U j)) (scl M (U (j + 1))) (ptOn M (place M a b k) k) = 0 := by
        rw [hZ]
        have huv : turn (scl M a) (scl M b) (scl M (U j)) = 0 := (turn_scl0 hM).2 h1
        have huv' : turn (scl M a) (scl M b) (scl M (U (j + 1))) = 0 := (turn_scl0 hM).2 h2
        have hy : (scl M a).y < (scl M b).y := (mul_lt_iff hM).2 hab
        have l1 := line_x huv
        have l2 := line_x huv'
        have l3 := line_x tZ
        have : turn (scl M (U j)) (scl M (U (j + 1))) Z * ((scl M b).y - (scl M a).y) = 0 := by
          unfold turn
          generalize scl M (U j) = u at *
          generalize scl M (U (j + 1)) = v at *
          generalize scl M a = a' at *
          generalize scl M b = b' at *
          have : ((v.x - u.x) * (Z.y - u.y) - (v.y - u.y) * (Z.x - u.x)) * (b'.y - a'.y) = ((b'.y - a'.y) * (v.x - a'.x) - (b'.y - a'.y) * (u.x - a'.x)) * (Z.y - u.y) - (v.y - u.y) * ((b'.y - a'.y) * (Z.x - a'.x) - (b'.y - a'.y) * (u.x - a'.x)) := by grind
          rw [this, l1, l2, l3]; grind
        rcases Int.mul_eq_zero.1 this with q | q
        · exact q
        · omega
      rw [ht] at hz
      rcases Int.mul_eq_zero.1 hz with q | q
      · omega
      · rcases Int.mul_eq_zero.1 q with r | r <;> omega) tZ Z1 Z2 tP P1 P2
  -- no corner at the points
  have cZ : ∀ j, scl M (U j) ≠ Z := fun j e => by
    have h1 := (lx_on (X := place M a b k) (k := k) (a := U j) hM hM2).1
    rw [hZ, e] at h1
    exact h1 rfl
  have cP : ∀ j, scl M (U j) ≠ P := fun j e => by
    have t0 : turn a b (U j) = 0 := by rw [← turn_scl0 hM, e]; exact tP
    have ey : M * (U j).y = P.y := by rw [← e]; rfl
    exact hnoU j ⟨t0, (mul_lt_iff hM).1 (by rw [ey]; exact P1), (mul_lt_iff hM).1 (by rw [ey]; exact P2)⟩
  -- bounds
  obtain ⟨B, hB1, hB2, hB3⟩ : ∃ B, (∀ j, Fit B (scl M (U j))) ∧ Fit B Z ∧ Fit B P := by
    refine ⟨M * (2 * x0.natAbs + 2 * x1.natAbs + 1) + 2 * Z.x.natAbs + 2 * P.x.natAbs + 1, fun j => ?_, ?_, ?_⟩
    · have hb : Fit (2 * x0.natAbs + 2 * x1.natAbs + 1) (U j) := by
        have := hq.inx j
        constructor <;> omega
      obtain ⟨q1, q2⟩ := fit_scl hM hb
      constructor <;> omega
    · have := m_pp hM (show (0 : Int) < 2 * x0.natAbs + 2 * x1.natAbs + 1 by omega)
      constructor <;> omega
    · have := m_pp hM (show (0 : Int) < 2 * x0.natAbs + 2 * x1.natAbs + 1 by omega)
      constructor <;> omega
  have hmv := wind_move (V := fun j => scl M (U j)) (n := m) (fun j => by rw [hper]) hB1 hB2 hB3 cZ cP hmeet
  have hwZ := evP_wind (n := m) (V := U) hM hM2 hg' hB1 (X := place M a b k) (k := k) (by rw [hZ]; exact hB2)
  rw [hZ, hw, hmv, wind_wx hB1 hB3] at hwZ
  have e1 : (fun j => scl M (U j)) = fun j => scl (M / 2) (scl 2 (U j)) := by funext j; rw [scl_half hM2]
  rw [e1, ← hP, wx_scl hh m (fun j => scl 2 (U j))] at hwZ
  refine (hen hab c d c1 d1 hcd hadj).1 (fun j hj hon => ?_) hwZ.symm
  have hne : scl 2 (U j) ≠ scl 2 (U (j + 1)) := fun e => by
    have h1 : 2 * (U j).x = 2 * (U (j + 1)).x := congrArg Pt.x e
    have h2 : 2 * (U j).y = 2 * (U (j + 1)).y := congrArg Pt.y e
    exact hq.poly.ne j 1 (by omega) (by omega) (Pt.ext (by omega) (by omega))
  obtain ⟨K, t, k1, k2, k3, k4, k5⟩ := on_param hon hne
  refine hmeet j ⟨K, K, t, k1, by omega, Int.le_refl _, k2, k3, ?_, ?_⟩
  · rw [Int.sub_self, Int.zero_mul, Int.zero_add, ← hP, ← scl_half hM2 (U j), ← scl_half hM2 (U (j + 1))]
    show K * (M / 2 * (mid2 c d).x) = (K - t) * (M / 2 * (scl 2 (U j)).x) + t * (M / 2 * (scl 2 (U (j + 1))).x)
    have : K * (M / 2 * (mid2 c d).x) = M / 2 * (K * (mid2 c d).x) := by grind
    rw [this, k4]; grind
  · rw [Int.sub_self, Int.zero_mul, Int.zero_add, ← hP, ← scl_half hM2 (U j), ← scl_half hM2 (U (j + 1))]
    show K * (M / 2 * (mid2 c d).y) = (K - t) * (M / 2 * (scl 2 (U j)).y) + t * (M / 2 * (scl 2 (U (j + 1))).y)
    have : K * (M / 2 * (mid2 c d).y) = M / 2 * (K * (mid2 c d).y) := by grind
    rw [this, k5]; grind
end
end Go.Proofs.Ytfncpfnanmoapaa
/- Polygons of which none enters another fill no more than their box. -/
set_option linter.unusedVariables false
set_option linter.unusedSimpArgs false
namespace Go.Proofs.Ytfncpfnanmoapaa

theorem rsum_same {l : List (Int × Int)} {X X' : Int} (h : X ≤ X') (hn : ∀ e ∈ l, X < e.1 → X' < e.1) : rsum l X = rsum l X' := by
  induction l with
  | nil => rfl
  | cons e l ih =>
    show (if X < e.1 then e.2 else 0) + rsum l X = (if X' < e.1 then e.2 else 0) + rsum l X'
    rw [ih (fun e he => hn e (by simp [he]))]
    have := hn e (by simp)
    by_cases q : X < e.1
    · rw [if_pos q, if_pos (this q)]
    · rw [if_neg q, if_neg (by omega)]
theorem exists_next : ∀ (l : List (Int × Int)) (X : Int), (∃ e ∈ l, X < e.1) → ∃ e ∈ l, X < e.1 ∧ ∀ f ∈ l, X < f.1 → e.1 ≤ f.1
  | [], X, h => by obtain ⟨e, he, -⟩ := h; cases he
  | a :: l, X, h => by
    by_cases q : ∃ e ∈ l, X < e.1
    · obtain ⟨e, h1, h2, h3⟩ := exists_next l X q
      by_cases r : X < a.1 ∧ a.1 < e.1
      · refine ⟨a, by simp, r.1, fun f hf hX => ?_⟩
        rcases List.mem_cons.1 hf with rfl | hf
        · exact Int.le_refl _
        · have := h3 f hf hX; omega
      · refine ⟨e, by simp [h1], h2, fun f hf hX => ?_⟩
        rcases List.mem_cons.1 hf with rfl | hf
        · omega
        · exact h3 f hf hX
    · obtain ⟨e, he, hX⟩ := h
      rcases List.mem_cons.1 he with rfl | he
      · refine ⟨e, by simp, hX, fun f hf hf2 => ?_⟩
        rcases List.mem_cons.1 hf with rfl | hf
        · exact Int.le_refl _
        · exact absurd ⟨f, hf, hf2⟩ q
      · exact absurd ⟨e, he, hX⟩ q
theorem rsum_none {l : List (Int × Int)} {X : Int} (h : ∀ e ∈ l, ¬ X < e.1) : rsum l X = 0 := by
  induction l with
  | nil => rfl
  | cons e l ih =>
    show (if X < e.1 then e.2 else 0) + rsum l X = 0
    rw [if_neg (h e (by simp)), ih (fun e he => h e (by simp [he]))]; rfl
theorem CNot.symm {n : Nat} {V : Nat → Pt} {m : Nat} {U : Nat → Pt} (h : CNot n V m U) : CNot m U n V := fun j i hj hi ⟨h1, h2⟩ => h i j hi hj ⟨h2, h1⟩
/- an event of a polygon: its edge -/
theorem ev_edge {M k : Int} {n : Nat} {V : Nat → Pt} {e : Int × Int} (h : e ∈ evP M n V k) : ∃ i, i < n ∧ e.1 = place M (V i) (V (i + 1)) k ∧ (((V i).y ≤ k ∧ k < (V (i + 1)).y ∧ e.2 = 1) ∨ ((V (i + 1)).y ≤ k ∧ k < (V i).y ∧ e.2 = -1)) := by
  unfold evP at h
  obtain ⟨i, hi, he⟩ := List.mem_flatMap.1 h
  refine ⟨i, List.mem_range.1 hi, ?_⟩
  unfold evE at he
  split at he
  · rename_i c; rw [List.mem_singleton.1 he]; exact ⟨rfl, .inl ⟨c.1, c.2, rfl⟩⟩
  · split at he
    · rename_i c; rw [List.mem_singleton.1 he]; exact ⟨rfl, .inr ⟨c.1, c.2, rfl⟩⟩
    · cases he
section
variable {M x0 x1 y0 : Int} {n H : Nat} {V : Nat → Pt} (hM : 0 < M) (hM2 : M % 2 = 0) (hp : Area n V x0 x1 y0 H) (hg : ∀ i, GoodM M (V i) (V (i + 1)))
include hM hM2 hp hg
/- where the inside ends, a rising edge lies -/
theorem end_up {k x : Int} (hx : x % 2 = 0) (hw : rsum (evP M n V k) (x - 1) = 1) {i : Nat} (hi : i < n) (hpl : place M (V i) (V (i + 1)) k = x) (hc : ((V i).y ≤ k ∧ k < (V (i + 1)).y) ∨ ((V (i + 1)).y ≤ k ∧ k < (V i).y)) : (V i).y ≤ k ∧ k < (V (i + 1)).y := by
  rcases hc with hc | hc
  · exact hc
  exfalso
  have h01 := evP_01 hp hM hM2 hg (X := x + 1) (k := k) (by omega)
  have e1 : rsum (evP M n V k) (x - 1) = sumN n fun i => rsum (evE M (V i) (V (i + 1)) k) (x - 1) := by unfold evP; rw [rsum_flat]
  have e2 : rsum (evP M n V k) (x + 1) = sumN n fun i => rsum (evE M (V i) (V (i + 1)) k) (x + 1) := by unfold evP; rw [rsum_flat]
  have hd := sumN_single (f := fun i => rsum (evE M (V i) (V (i + 1)) k) (x - 1)) (g := fun i => rsum (evE M (V i) (V (i + 1)) k) (x + 1)) hi (fun j hj hji => by
    refine rsum_same (by omega) fun e he hlt => ?_
    have hev := ev_even hM2 (hg j) e he
    by_cases q : e.1 = x
    · exfalso
      have hcj : ((V j).y ≤ k ∧ k < (V (j + 1)).y) ∨ ((V (j + 1)).y ≤ k ∧ k < (V j).y) := by
        unfold evE at he
        split at he
        · left; assumption
        · split at he
          · right; assumption
          · cases he
      have hpj : place M (V j) (V (j + 1)) k = x := by
        unfold evE at he
        split at he
        · rw [List.mem_singleton.1 he] at q; exact q
        · split at he
          · rw [List.mem_singleton.1 he] at q; exact q
          · cases he
      have i1 := place_inn (k := k) hM2 (hg i) (.inr hc)
      have i2 := place_inn (k := k) hM2 (hg j) hcj
      rw [hpl] at i1
      rw [hpj] at i2
      have hB : ∀ i, Fit (M * (2 * x0.natAbs + 2 * x1.natAbs + 1)) (scl M (V i)) := fun i => fit_scl hM (by have := hp.inx i; constructor <;> omega)
      exact inn_same (hp.poly.scl hM) hi hj (Ne.symm hji) i1 i2
    · omega)
  rw [← e1, ← e2] at hd
  have h3 : ∀ X, rsum (evE M (V i) (V (i + 1)) k) X = if X < x then -1 else 0 := fun X => by
    unfold evE
    rw [if_neg (by omega), if_pos hc, hpl]
    show (if X < x then (-1 : Int) else 0) + 0 = _
    omega
  rw [h3, h3, if_pos (by omega), if_neg (by omega)] at hd
  omega
end
/- Theorem: no point is inside of both -/
theorem apart_inside {M x0 x1 y0 : Int} {n m H : Nat} {V U : Nat → Pt} (hM : 0 < M) (hM2 : M % 2 = 0) (hp : Area n V x0 x1 y0 H) (hq : Area m U x0 x1 y0 H) (hg : ∀ i, GoodM M (V i) (V (i + 1))) (hg' : ∀ j, GoodM M (U j) (U (j + 1))) (hc : CNot n V m U) (he : ENot n V m U) (he' : ENot m U n V)
    {X k : Int} (hX : X % 2 = 1) (h1 : rsum (evP M n V k) X = 1) (h2 : rsum (evP M m U k) X = 1) : False := by
  have hex : ∃ e ∈ evP M n V k ++ evP M m U k, X < e.1 := by
    refine Decidable.byContradiction fun hh => ?_
    have := rsum_none (l := evP M n V k) (X := X) (fun e he hlt => hh ⟨e, List.mem_append_left _ he, hlt⟩)
    omega
  obtain ⟨e, e1, e2, e3⟩ := exists_next _ X hex
  have hev : e.1 % 2 = 0 := by
    rcases List.mem_append.1 e1 with q | q
    · exact (evP_mem hp hM hM2 hg k e q).2.2
    · exact (evP_mem hq hM hM2 hg' k e q).2.2
  have s1 : rsum (evP M n V k) (e.1 - 1) = 1 := by
    rw [← h1]
    refine (rsum_same (by omega) fun f hf hlt => ?_).symm
    have := e3 f (List.mem_append_left _ hf) hlt
    omega
  have s2 : rsum (evP M m U k) (e.1 - 1) = 1 := by
    rw [← h2]
    refine (rsum_same (by omega) fun f hf hlt => ?_).symm
    have := e3 f (List.mem_append_right _ hf) hlt
    omega
  -- one polygon ends at e; the other one goes on there, or ends there, too
  have core : ∀ {n m : Nat} {V U : Nat → Pt}, Area n V x0 x1 y0 H → Area m U x0 x1 y0 H → (∀ i, GoodM M (V i) (V (i + 1))) → (∀ j, GoodM M (U j) (U (j + 1))) → CNot n V m U → ENot n V m U → rsum (evP M n V k) (e.1 - 1) = 1 → rsum (evP M m U k) (e.1 - 1) = 1 → e ∈ evP M n V k → False := by
    intro n m V U hp hq hg hg' hc he s1 s2 hmem
    obtain ⟨i, hi, hpl, hcr⟩ := ev_edge hmem
    have hup := end_up hM hM2 hp hg hev s1 hi hpl.symm (by rcases hcr with h | h; exact .inl ⟨h.1, h.2.1⟩; exact .inr ⟨h.1, h.2.1⟩)
    by_cases q : ∃ j, (((U j).y ≤ k ∧ k < (U (j + 1)).y) ∨ ((U (j + 1)).y ≤ k ∧ k < (U j).y)) ∧ place M (U j) (U (j + 1)) k = e.1
    · obtain ⟨j, hj1, hj2⟩ := q
      have m3 := hq.poly.three
      have per := hq.poly.per
      have ej : U (j % m) = U j := per_mod per j
      have ej1 : U (j % m + 1) = U (j + 1) := by rw [← per_mod per (j % m + 1), ← per_mod per (j + 1), Nat.mod_add_mod]
      have hup' := end_up hM hM2 hq hg' hev s2 (Nat.mod_lt j (by omega)) (by rw [ej, ej1]; exact hj2) (by rw [ej, ej1]; exact hj1)
      exact both_up hM hM2 hg hg' hc he hi (Nat.mod_lt j (by omega)) hup hup' (by rw [ej, ej1, hj2, ← hpl]) per
    · refine part_in hM hM2 hq hg hg' hc he hi hup (fun j hj e4 => q ⟨j, hj, by rw [e4, ← hpl]⟩) ?_
      rw [← hpl, ← s2]
      refine (rsum_same (by omega) fun f hf hlt => ?_).symm
      have hfe := (evP_mem hq hM hM2 hg' k f hf).2.2
      obtain ⟨j, -, hfp, hfc⟩ := ev_edge hf
      refine Decidable.byContradiction fun hh => q ⟨j, by rcases hfc with h | h; exact .inl ⟨h.1, h.2.1⟩; exact .inr ⟨h.1, h.2.1⟩, by omega⟩
  rcases List.mem_append.1 e1 with q | q
  · exact core hp hq hg hg' hc he s1 s2 q
  · exact core hq hp hg' hg hc.symm he' s2 s1 q
end Go.Proofs.Ytfncpfnanmoapaa
/- Rooms over polygons of which none enters another fill no more than their box. -/
set_option linter.unusedVariables false
set_option linter.unusedSimpArgs false
namespace Go.Proofs.Ytfncpfnanmoapaa

def lsum {α : Type} : List α → (α → Int) → Int
  | [], _ => 0
  | a :: l, f => f a + lsum l f
theorem lsum_congr {α : Type} {l : List α} {f g : α → Int} (h : ∀ a ∈ l, f a = g a) : lsum l f = lsum l g := by
  induction l with
  | nil => rfl
  | cons a l ih => unfold lsum; rw [h a (by simp), ih (fun a ha => h a (by simp [ha]))]
theorem lsum_sumN {α : Type} (l : List α) (n : Nat) (f : α → Nat → Int) : lsum l (fun a => sumN n (f a)) = sumN n fun t => lsum l fun a => f a t := by
  induction l with
  | nil => exact (sumN_zero n fun _ _ => rfl).symm
  | cons a l ih =>
    show sumN n (f a) + lsum l (fun a => sumN n (f a)) = _
    rw [ih, ← sumN_add]
    rfl
theorem lsum_mul {α : Type} (l : List α) (c : Int) (f : α → Int) : lsum l (fun a => c * f a) = c * lsum l f := by
  induction l with
  | nil => show (0 : Int) = c * 0; omega
  | cons a l ih =>
    show c * f a + lsum l (fun a => c * f a) = c * (f a + lsum l f)
    rw [ih, Int.mul_add]
theorem lsum_filter {α : Type} (l : List α) (p : α → Bool) (f : α → Int) : lsum (l.filter p) f = lsum l fun a => if p a then f a else 0 := by
  induction l with
  | nil => rfl
  | cons a l ih =>
    show lsum ((a :: l).filter p) f = (if p a then f a else 0) + lsum l fun a => if p a then f a else 0
    rw [List.filter_cons]
    cases h : p a with
    | true =>
      rw [if_pos rfl, if_pos rfl]
      show f a + lsum (l.filter p) f = _
      rw [ih]
    | false => rw [if_neg (by decide), if_neg (by decide), ih]; omega
theorem rsum_list {α : Type} (l : List α) (f : α → List (Int × Int)) (X : Int) : rsum (l.flatMap f) X = lsum l fun a => rsum (f a) X := by
  induction l with
  | nil => rfl
  | cons a l ih => rw [List.flatMap_cons, rsum_app, ih]; rfl
theorem mom_list {α : Type} (l : List α) (f : α → List (Int × Int)) (X : Int) : mom (l.flatMap f) X = lsum l fun a => mom (f a) X := by
  induction l with
  | nil => rfl
  | cons a l ih => rw [List.flatMap_cons, mom_app, ih]; rfl
/- a scale that is good for many edges -/
theorem goodM_mul {M c : Int} {a b : Pt} (h : GoodM M a b) : GoodM (M * c) a b := fun hy => by
  obtain ⟨q, h1, h2⟩ := h hy
  exact ⟨q * c, by rw [Int.mul_emod, h1, Int.zero_mul]; rfl, by rw [← h2]; grind⟩
theorem exists_M : ∀ es : List (Pt × Pt), ∃ M : Int, 0 < M ∧ M % 4 = 0 ∧ ∀ e ∈ es, GoodM M e.1 e.2
  | [] => ⟨4, by decide, by decide, by simp⟩
  | e :: es => by
    obtain ⟨M, h1, h2, h3⟩ := exists_M es
    by_cases hy : e.1.y = e.2.y
    · exact ⟨M, h1, h2, fun f hf => by
        rcases List.mem_cons.1 hf with rfl | hf
        · exact fun h => absurd hy h
        · exact h3 f hf⟩
    rcases Int.lt_or_gt_of_ne hy with q | q
    · refine ⟨M * (e.2.y - e.1.y), m_pp h1 (by omega), by rw [Int.mul_emod, h2, Int.zero_mul]; rfl, fun f hf => ?_⟩
      rcases List.mem_cons.1 hf with rfl | hf
      · exact fun _ => ⟨M / 2, by omega, by
          have : 2 * (f.2.y - f.1.y) * (M / 2) = (M / 2 * 2) * (f.2.y - f.1.y) := by grind
          rw [this, show M / 2 * 2 = M by omega]⟩
      · exact goodM_mul (h3 f hf)
    · refine ⟨M * (e.1.y - e.2.y), m_pp h1 (by omega), by rw [Int.mul_emod, h2, Int.zero_mul]; rfl, fun f hf => ?_⟩
      rcases List.mem_cons.1 hf with rfl | hf
      · exact fun _ => ⟨-(M / 2), by omega, by
          have : 2 * (f.2.y - f.1.y) * -(M / 2) = (M / 2 * 2) * (f.1.y - f.2.y) := by grind
          rw [this, show M / 2 * 2 = M by omega]⟩
      · exact goodM_mul (h3 f hf)
structure Rm where
  n : Nat
  V : Nat → Pt
  low : Int
  high : Int
def Apart (p q : Rm) : Prop := CNot p.n p.V q.n q.V ∧ ENot p.n p.V q.n q.V ∧ ENot q.n q.V p.n p.V
theorem good_all (ps : List Rm) (hper : ∀ p ∈ ps, 0 < p.n ∧ ∀ i, p.V (i + p.n) = p.V i) : ∃ M : Int, 0 < M ∧ M % 2 = 0 ∧ ∀ p ∈ ps, ∀ i, GoodM M (p.V i) (p.V (i + 1)) := by
  obtain ⟨M, h1, h2, h3⟩ := exists_M (ps.flatMap fun p => (List.range p.n).map fun i => (p.V i, p.V (i + 1)))
  refine ⟨M, h1, by omega, fun p hp i => ?_⟩
  obtain ⟨hn, per⟩ := hper p hp
  have := h3 (p.V (i % p.n), p.V (i % p.n + 1)) (List.mem_flatMap.2 ⟨p, hp, List.mem_map.2 ⟨i % p.n, List.mem_range.2 (Nat.mod_lt _ hn), rfl⟩⟩)
  have ej1 : p.V (i % p.n + 1) = p.V (i + 1) := by rw [← per_mod per (i % p.n + 1), ← per_mod per (i + 1), Nat.mod_add_mod]
  rw [per_mod per i, ej1] at this
  exact this
/- of numbers 0 and 1 of which no two are 1 the sum is 1 at most -/
theorem sum_01 {α : Type} {f : α → Int} : ∀ {l : List α}, (∀ a ∈ l, f a = 0 ∨ f a = 1) → l.Pairwise (fun a b => ¬ (f a = 1 ∧ f b = 1)) → 0 ≤ lsum l f ∧ lsum l f ≤ 1 ∧ (lsum l f = 1 → ∃ a ∈ l, f a = 1)
  | [], _, _ => ⟨Int.le_refl _, by show (0 : Int) ≤ 1; decide, fun h => by cases h⟩
  | a :: l, h, hp => by
    obtain ⟨p1, p2⟩ := List.pairwise_cons.1 hp
    obtain ⟨i1, i2, i3⟩ := sum_01 (fun b hb => h b (by simp [hb])) p2
    show 0 ≤ f a + lsum l f ∧ f a + lsum l f ≤ 1 ∧ (f a + lsum l f = 1 → _)
    rcases h a (by simp) with q | q
    · rw [q]
      refine ⟨by omega, by omega, fun e => ?_⟩
      obtain ⟨b, hb, hb2⟩ := i3 (by omega)
      exact ⟨b, by simp [hb], hb2⟩
    · have : lsum l f ≠ 1 := fun e => by
        obtain ⟨b, hb, hb2⟩ := i3 e
        exact p1 b hb ⟨q, hb2⟩
      rw [q]
      exact ⟨by omega, by omega, fun _ => ⟨a, by simp, q⟩⟩
section
variable {x0 x1 y0 : Int} {H : Nat} (hx : x0 ≤ x1)
include hx
/- at each level the rooms fill no more than the width -/
theorem level_le {M : Int} (hM : 0 < M) (hM2 : M % 2 = 0) {ps : List Rm} (hp : ∀ p ∈ ps, Area p.n p.V x0 x1 y0 H) (hg : ∀ p ∈ ps, ∀ i, GoodM M (p.V i) (p.V (i + 1))) (ha : ps.Pairwise Apart) (k : Int) : lsum ps (fun p => mom (evP M p.n p.V k) 0) ≤ M * (x1 - x0) := by
  have h1 : lsum ps (fun p => mom (evP M p.n p.V k) 0) = mom (ps.flatMap fun p => evP M p.n p.V k) (M * x0) := by
    rw [mom_list]
    exact lsum_congr fun p hp' => (evP_mom (hp p hp') k (M * x0)).symm
  rw [h1]
  have := abel (c := 1) (A := M * x0) (B := M * x1) (l := ps.flatMap fun p => evP M p.n p.V k) (by decide) (by rw [Int.mul_emod, hM2, Int.zero_mul]; rfl) (by rw [Int.mul_emod, hM2, Int.zero_mul]; rfl) (Int.mul_le_mul_of_nonneg_left hx (by omega)) (fun e he => by
    obtain ⟨p, h2, h3⟩ := List.mem_flatMap.1 he
    exact evP_mem (hp p h2) hM hM2 (hg p h2) k e h3) (fun X _ _ hX => by
    rw [rsum_list]
    refine (sum_01 (fun p hp' => evP_01 (hp p hp') hM hM2 (hg p hp') hX) ?_).2.1
    refine ha.imp_of_mem fun {p q} hp1 hq1 h ⟨g1, g2⟩ => ?_
    exact apart_inside hM hM2 (hp p hp1) (hp q hq1) (hg p hp1) (hg q hq1) h.1 h.2.1 h.2.2 hX g1 g2)
  rw [Int.one_mul, ← Int.mul_sub] at this
  exact this
theorem area_le {ps : List Rm} (hp : ∀ p ∈ ps, Area p.n p.V x0 x1 y0 H) (ha : ps.Pairwise Apart) : lsum ps (fun p => twiceN p.n p.V) ≤ 2 * (x1 - x0) * H := by
  obtain ⟨M, hM, hM2, hg⟩ := good_all ps (fun p h => ⟨by have := (hp p h).poly.three; omega, (hp p h).poly.per⟩)
  have h1 := sumN_le H (f := fun t => lsum ps fun p => mom (evP M p.n p.V (y0 + t)) 0) (g := fun _ => M * (x1 - x0)) (fun t _ => level_le hx hM hM2 hp hg ha _)
  rw [sumN_const, ← lsum_sumN ps H (fun p t => mom (evP M p.n p.V (y0 + t)) 0), lsum_congr (fun p h => evP_area (hp p h) hM2 (hg p h)), lsum_mul] at h1
  have e : (H : Int) * (M * (x1 - x0)) = M / 2 * (2 * (x1 - x0) * H) := by
    have : M = M / 2 * 2 := by omega
    rw [show M / 2 * (2 * (x1 - x0) * H) = (M / 2 * 2) * ((x1 - x0) * H) by grind, ← this]; grind
  rw [e] at h1
  have h2 := mul_lt_iff (M := M / 2) (a := 2 * (x1 - x0) * H) (b := lsum ps fun p => twiceN p.n p.V) (by omega)
  omega
/- rooms with heights -/
omit hx in
theorem count_levels {lo low high : Int} {D : Nat} (h1 : lo ≤ low) (h2 : low ≤ high) (h3 : high ≤ lo + D) (c : Int) : (sumN D fun t => if low ≤ lo + t ∧ lo + t < high then c else 0) = c * (high - low) := by
  have key : ∀ n : Nat, (sumN n fun t => if low ≤ lo + t ∧ lo + t < high then c else 0) = c * (min (max (lo + n) low) high - low) := by
    intro n
    induction n with
    | zero =>
      show (0 : Int) = _
      rw [show min (max (lo + ((0 : Nat) : Int)) low) high - low = 0 by omega, Int.mul_zero]
    | succ n ih =>
      show (sumN n fun t => if low ≤ lo + t ∧ lo + t < high then c else 0) + (if low ≤ lo + n ∧ lo + n < high then c else 0) = _
      rw [ih]
      by_cases q : low ≤ lo + n ∧ lo + n < high
      · rw [if_pos q, show min (max (lo + ((n + 1 : Nat) : Int)) low) high - low = (min (max (lo + n) low) high - low) + 1 by omega, Int.mul_add, Int.mul_one]
      · rw [if_neg q, show min (max (lo + ((n + 1 : Nat) : Int)) low) high - low = min (max (lo + n) low) high - low by omega]; omega
  rw [key D, show min (max (lo + D) low) high - low = high - low by omega]
theorem vol_le {lo : Int} {D : Nat} {rs : List Rm} (hp : ∀ p ∈ rs, Area p.n p.V x0 x1 y0 H ∧ lo ≤ p.low ∧ p.low ≤ p.high ∧ p.high ≤ lo + D) (ha : rs.Pairwise fun p q => (∃ h, p.low ≤ h ∧ h < p.high ∧ q.low ≤ h ∧ h < q.high) → Apart p q) : lsum rs (fun p => twiceN p.n p.V * (p.high - p.low)) ≤ 2 * (x1 - x0) * H * D := by
  have h1 : lsum rs (fun p => twiceN p.n p.V * (p.high - p.low)) = sumN D fun t => lsum (rs.filter fun p => decide (p.low ≤ lo + t ∧ lo + t < p.high)) fun p => twiceN p.n p.V := by
    rw [sumN_congr (fun t _ => lsum_filter rs (fun p => decide (p.low ≤ lo + t ∧ lo + t < p.high)) fun p => twiceN p.n p.V)]
    rw [← lsum_sumN]
    refine lsum_congr fun p h => ?_
    obtain ⟨-, q1, q2, q3⟩ := hp p h
    rw [← count_levels q1 q2 q3]
    exact sumN_congr fun t _ => by simp only [decide_eq_true_eq]
  rw [h1]
  have h2 := sumN_le D (f := fun t => lsum (rs.filter fun p => decide (p.low ≤ lo + t ∧ lo + t < p.high)) fun p => twiceN p.n p.V) (g := fun _ => 2 * (x1 - x0) * H) (fun t _ => by
    refine area_le hx (y0 := y0) (fun p h => (hp p (List.mem_filter.1 h).1).1) ?_
    refine ((ha.filter _).imp_of_mem ?_)
    intro p q h3 h4 h5
    have h3 := (List.mem_filter.1 h3).2
    have h4 := (List.mem_filter.1 h4).2
    simp only [decide_eq_true_eq] at h3 h4
    exact h5 ⟨lo + t, h3.1, h3.2, h4.1, h4.2⟩)
  rw [sumN_const, Int.mul_comm] at h2
  exact h2
end
end Go.Proofs.Ytfncpfnanmoapaa
/- Two segments with a common point: what the code finds. -/
set_option linter.unusedVariables false
set_option linter.unusedSimpArgs false
namespace Go.Proofs.Ytfncpfnanmoapaa

theorem conv_on {a b X : Pt} {K j : Int} (hK : 0 < K) (h1 : 0 ≤ j) (h2 : j ≤ K) (hx : K * X.x = (K - j) * a.x + j * b.x) (hy : K * X.y = (K - j) * a.y + j * b.y) : onB a b X := by
  have t : turn a b X = 0 := by
    have e := affine_turn hx hy a b
    rw [(turn_self a b).1, (turn_self a b).2.1, Int.mul_zero, Int.mul_zero] at e
    rcases Int.mul_eq_zero.1 e with q | q
    · omega
    · exact q
  have key : ∀ p q r : Int, K * r = (K - j) * p + j * q → min p q ≤ r ∧ r ≤ max p q := fun p q r e => by
    have s1 := sgn_pos (a := r - min p q) hK
    have s2 := sgn_pos (a := max p q - r) hK
    have e1 : (r - min p q) * K = (K - j) * (p - min p q) + j * (q - min p q) := by
      have : (r - min p q) * K = K * r - K * min p q := by grind
      rw [this, e]; grind
    have e2 : (max p q - r) * K = (K - j) * (max p q - p) + j * (max p q - q) := by
      have : (max p q - r) * K = K * max p q - K * r := by grind
      rw [this, e]; grind
    have p1 := w_pp (show 0 ≤ K - j by omega) (show 0 ≤ p - min p q by omega)
    have p2 := w_pp h1 (show 0 ≤ q - min p q by omega)
    have p3 := w_pp (show 0 ≤ K - j by omega) (show 0 ≤ max p q - p by omega)
    have p4 := w_pp h1 (show 0 ≤ max p q - q by omega)
    omega
  have k1 := key _ _ _ hx
  have k2 := key _ _ _ hy
  exact ⟨t, k1.1, k1.2, k2.1, k2.2⟩
theorem onB.swap {a b c : Pt} (h : onB a b c) : onB b a c := by
  obtain ⟨h1, h2, h3, h4, h5⟩ := h
  exact ⟨by rw [turn_swap, h1]; rfl, by omega, by omega, by omega, by omega⟩
def meetB (a b c d : Pt) : Prop := (turn a b c * turn a b d < 0 ∧ turn c d a * turn c d b < 0) ∨ onB a b c ∨ onB a b d ∨ onB c d a ∨ onB c d b
/- on one line -/
theorem col_meet {a b c d : Pt} (hm : Meets a b c d) (h1 : turn a b c = 0) (h2 : turn a b d = 0) : onB a b c ∨ onB a b d ∨ onB c d a ∨ onB c d b := by
  obtain ⟨K, i, j, g1, g2, g3, g4, g5, g6, g7⟩ := hm
  by_cases hab : a = b
  · subst hab
    right; right; left
    refine conv_on g1 g4 g5 ?_ ?_
    · rw [← g6]; grind
    · rw [← g7]; grind
  -- heights of the common point
  have up : ∀ {a b : Pt} {i : Int}, 0 ≤ i → i ≤ K → a.y < b.y → turn a b c = 0 → turn a b d = 0 → (K - i) * a.y + i * b.y = (K - j) * c.y + j * d.y → onB a b c ∨ onB a b d ∨ onB c d a ∨ onB c d b := by
    intro a b i g2 g3 hab h1 h2 g7
    by_cases c1 : a.y ≤ c.y ∧ c.y ≤ b.y
    · exact .inl (on_of_y hab h1 c1.1 c1.2)
    by_cases c2 : a.y ≤ d.y ∧ d.y ≤ b.y
    · exact .inr (.inl (on_of_y hab h2 c2.1 c2.2))
    have b1 : K * a.y ≤ (K - i) * a.y + i * b.y := by
      have := Int.mul_le_mul_of_nonneg_left (Int.le_of_lt hab) g2
      have e : (K - i) * a.y = K * a.y - i * a.y := by grind
      omega
    have b2 : (K - i) * a.y + i * b.y ≤ K * b.y := by
      have := Int.mul_le_mul_of_nonneg_left (Int.le_of_lt hab) (show 0 ≤ K - i by omega)
      have e : (K - i) * b.y = K * b.y - i * b.y := by grind
      omega
    have hcd : (c.y < a.y ∧ b.y < d.y) ∨ (d.y < a.y ∧ b.y < c.y) := by
      refine Decidable.byContradiction fun hh => ?_
      have q : (c.y < a.y ∧ d.y < a.y) ∨ (b.y < c.y ∧ b.y < d.y) := by omega
      rcases q with ⟨q1, q2⟩ | ⟨q1, q2⟩
      · have p1 := Int.mul_le_mul_of_nonneg_left (show c.y ≤ a.y - 1 by omega) (show 0 ≤ K - j by omega)
        have p2 := Int.mul_le_mul_of_nonneg_left (show d.y ≤ a.y - 1 by omega) g4
        have e : (K - j) * (a.y - 1) + j * (a.y - 1) = K * a.y - K := by grind
        omega
      · have p1 := Int.mul_le_mul_of_nonneg_left (show b.y + 1 ≤ c.y by omega) (show 0 ≤ K - j by omega)
        have p2 := Int.mul_le_mul_of_nonneg_left (show b.y + 1 ≤ d.y by omega) g4
        have e : (K - j) * (b.y + 1) + j * (b.y + 1) = K * b.y + K := by grind
        omega
    rcases hcd with ⟨q1, q2⟩ | ⟨q1, q2⟩
    · have := col_swap (a := c) (b := d) hab h1 h2
      exact .inr (.inr (.inl (on_of_y (by omega) this.1 (by omega) (by omega))))
    · have := col_swap (a := c) (b := d) hab h1 h2
      exact .inr (.inr (.inl (on_of_y (a := d) (b := c) (by omega) (by rw [turn_swap, this.1]; rfl) (by omega) (by omega)).swap))
  rcases Int.lt_trichotomy a.y b.y with q | q | q
  · exact up g2 g3 q h1 h2 g7
  · -- a level line
    have hx : a.x ≠ b.x := fun r => hab (Pt.ext r q)
    have l1 := line_x h1
    have l2 := line_x h2
    rw [q, Int.sub_self, Int.zero_mul] at l1 l2
    have y1 : c.y = b.y := by
      rcases Int.mul_eq_zero.1 l1.symm with r | r <;> omega
    have y2 : d.y = b.y := by
      rcases Int.mul_eq_zero.1 l2.symm with r | r <;> omega
    have tz : ∀ p r s : Pt, p.y = b.y → r.y = b.y → s.y = b.y → turn p r s = 0 := fun p r s e1 e2 e3 => by unfold turn; rw [e1, e2, e3]; simp
    have on : ∀ p r s : Pt, p.y = b.y → r.y = b.y → s.y = b.y → min p.x r.x ≤ s.x → s.x ≤ max p.x r.x → onB p r s := fun p r s e1 e2 e3 e4 e5 => ⟨tz p r s e1 e2 e3, e4, e5, by omega, by omega⟩
    by_cases c1 : min a.x b.x ≤ c.x ∧ c.x ≤ max a.x b.x
    · exact .inl (on a b c q rfl y1 c1.1 c1.2)
    by_cases c2 : min a.x b.x ≤ d.x ∧ d.x ≤ max a.x b.x
    · exact .inr (.inl (on a b d q rfl y2 c2.1 c2.2))
    by_cases c3 : min c.x d.x ≤ a.x ∧ a.x ≤ max c.x d.x
    · exact .inr (.inr (.inl (on c d a y1 y2 q c3.1 c3.2)))
    exfalso
    have b1 : K * min a.x b.x ≤ (K - i) * a.x + i * b.x := by
      have p1 := Int.mul_le_mul_of_nonneg_left (show min a.x b.x ≤ a.x by omega) (show 0 ≤ K - i by omega)
      have p2 := Int.mul_le_mul_of_nonneg_left (show min a.x b.x ≤ b.x by omega) g2
      have e : (K - i) * min a.x b.x + i * min a.x b.x = K * min a.x b.x := by grind
      omega
    have b2 : (K - i) * a.x + i * b.x ≤ K * max a.x b.x := by
      have p1 := Int.mul_le_mul_of_nonneg_left (show a.x ≤ max a.x b.x by omega) (show 0 ≤ K - i by omega)
      have p2 := Int.mul_le_mul_of_nonneg_left (show b.x ≤ max a.x b.x by omega) g2
      have e : (K - i) * max a.x b.x + i * max a.x b.x = K * max a.x b.x := by grind
      omega
    have qq : (c.x < min a.x b.x ∧ d.x < min a.x b.x) ∨ (max a.x b.x < c.x ∧ max a.x b.x < d.x) := by omega
    rcases qq with ⟨q1, q2⟩ | ⟨q1, q2⟩
    · have p1 := Int.mul_le_mul_of_nonneg_left (show c.x ≤ min a.x b.x - 1 by omega) (show 0 ≤ K - j by omega)
      have p2 := Int.mul_le_mul_of_nonneg_left (show d.x ≤ min a.x b.x - 1 by omega) g4
      have e : (K - j) * (min a.x b.x - 1) + j * (min a.x b.x - 1) = K * min a.x b.x - K := by grind
      omega
    · have p1 := Int.mul_le_mul_of_nonneg_left (show max a.x b.x + 1 ≤ c.x by omega) (show 0 ≤ K - j by omega)
      have p2 := Int.mul_le_mul_of_nonneg_left (show max a.x b.x + 1 ≤ d.x by omega) g4
      have e : (K - j) * (max a.x b.x + 1) + j * (max a.x b.x + 1) = K * max a.x b.x + K := by grind
      omega
  · have := up (a := b) (b := a) (i := K - i) (by omega) (by omega) q (by rw [turn_swap, h1]; rfl) (by rw [turn_swap, h2]; rfl) (by rw [show K - (K - i) = i by omega]; omega)
    rcases this with r | r | r | r
    · exact .inl r.swap
    · exact .inr (.inl r.swap)
    · exact .inr (.inr (.inr r))
    · exact .inr (.inr (.inl r))
theorem meets_B {a b c d : Pt} (hm : Meets a b c d) : meetB a b c d := by
  have half : ∀ {a b c d : Pt}, Meets a b c d → turn a b c * turn a b d < 0 ∨ onB a b c ∨ onB a b d ∨ onB c d a ∨ onB c d b := by
    intro a b c d hm
    have hm0 := hm
    obtain ⟨K, i, j, g1, g2, g3, g4, g5, g6, g7⟩ := hm
    by_cases j0 : j = 0
    · subst j0
      rw [Int.sub_zero, Int.zero_mul, Int.add_zero] at g6 g7
      exact .inr (.inl (conv_on g1 g2 g3 g6.symm g7.symm))
    by_cases jK : j = K
    · subst jK
      rw [Int.sub_self, Int.zero_mul, Int.zero_add] at g6 g7
      exact .inr (.inr (.inl (conv_on g1 g2 g3 g6.symm g7.symm)))
    have e1 : (K - j) * turn a b c + j * turn a b d = 0 := by
      have : (K - j) * turn a b c + j * turn a b d = (b.x - a.x) * (((K - j) * c.y + j * d.y) - K * a.y) - (b.y - a.y) * (((K - j) * c.x + j * d.x) - K * a.x) := by unfold turn; grind
      rw [this, ← g6, ← g7]; grind
    rcases Int.lt_trichotomy (turn a b c) 0 with q | q | q
    · have p := m_pn (show 0 < K - j by omega) q
      have r := (sgn_pos (a := turn a b d) (show 0 < j by omega)).1.1 (by rw [Int.mul_comm]; omega)
      exact .inl (m_np q r)
    · rw [q, Int.mul_zero, Int.zero_add] at e1
      rcases Int.mul_eq_zero.1 e1 with r | r
      · omega
      · exact .inr (col_meet hm0 q r)
    · have p := m_pp (show 0 < K - j by omega) q
      have r := (sgn_pos (a := turn a b d) (show 0 < j by omega)).2.1 (by rw [Int.mul_comm]; omega)
      exact .inl (m_pn q r)
  rcases half hm with h1 | h1 | h1 | h1 | h1
  · rcases half hm.symm with h2 | h2 | h2 | h2 | h2
    · exact .inl ⟨h1, h2⟩
    · exact .inr (.inr (.inr (.inl h2)))
    · exact .inr (.inr (.inr (.inr h2)))
    · exact .inr (.inl h2)
    · exact .inr (.inr (.inl h2))
  · exact .inr (.inl h1)
  · exact .inr (.inr (.inl h1))
  · exact .inr (.inr (.inr (.inl h1)))
  · exact .inr (.inr (.inr (.inr h1)))
end Go.Proofs.Ytfncpfnanmoapaa
/- Polygons that are enlarged: what holds of them still; sums that reach their bound reach it at each place. -/
set_option linter.unusedVariables false
set_option linter.unusedSimpArgs false
namespace Go.Proofs.Ytfncpfnanmoapaa

theorem mul_le_iff {M a b : Int} (hM : 0 < M) : M * a ≤ M * b ↔ a ≤ b := by
  have := mul_lt_iff (a := b) (b := a) hM
  omega
theorem mul_eq_iff {M a b : Int} (hM : 0 < M) : M * a = M * b ↔ a = b := by
  have h1 := mul_lt_iff (a := b) (b := a) hM
  have h2 := mul_lt_iff (a := a) (b := b) hM
  omega
theorem scl_comm (M N : Int) (p : Pt) : scl M (scl N p) = scl N (scl M p) := by
  unfold scl
  show Pt.mk (M * (N * p.x)) (M * (N * p.y)) = Pt.mk (N * (M * p.x)) (N * (M * p.y))
  rw [Int.mul_left_comm, Int.mul_left_comm M]
theorem onB_scl {N : Int} (hN : 0 < N) {a b c : Pt} : onB (scl N a) (scl N b) (scl N c) ↔ onB a b c := by
  unfold onB
  rw [turn_scl0 hN]
  have i1 := mul_le_iff (a := a.x) (b := c.x) hN
  have i2 := mul_le_iff (a := b.x) (b := c.x) hN
  have i3 := mul_le_iff (a := c.x) (b := a.x) hN
  have i4 := mul_le_iff (a := c.x) (b := b.x) hN
  have j1 := mul_le_iff (a := a.y) (b := c.y) hN
  have j2 := mul_le_iff (a := b.y) (b := c.y) hN
  have j3 := mul_le_iff (a := c.y) (b := a.y) hN
  have j4 := mul_le_iff (a := c.y) (b := b.y) hN
  show _ ∧ min (N * a.x) (N * b.x) ≤ N * c.x ∧ N * c.x ≤ max (N * a.x) (N * b.x) ∧ min (N * a.y) (N * b.y) ≤ N * c.y ∧ N * c.y ≤ max (N * a.y) (N * b.y) ↔ _
  constructor
  · rintro ⟨h0, h1, h2, h3, h4⟩
    exact ⟨h0, by omega, by omega, by omega, by omega⟩
  · rintro ⟨h0, h1, h2, h3, h4⟩
    exact ⟨h0, by omega, by omega, by omega, by omega⟩
theorem cut_scl {N : Int} (hN : 0 < N) {m : Nat} {U : Nat → Pt} {a b c : Pt} (h : cutB m (fun j => scl N (U j)) (scl N a) (scl N b) c) : ∃ c0, c = scl N c0 ∧ cutB m U a b c0 := by
  rcases h with rfl | rfl | ⟨j, hj, rfl, h⟩
  · exact ⟨a, rfl, .inl rfl⟩
  · exact ⟨b, rfl, .inr (.inl rfl)⟩
  · exact ⟨U j, rfl, .inr (.inr ⟨j, hj, rfl, (onB_scl hN).1 h⟩)⟩
theorem cut_scl' {N : Int} (hN : 0 < N) {m : Nat} {U : Nat → Pt} {a b c : Pt} (h : cutB m U a b c) : cutB m (fun j => scl N (U j)) (scl N a) (scl N b) (scl N c) := by
  rcases h with rfl | rfl | ⟨j, hj, rfl, h⟩
  · exact .inl rfl
  · exact .inr (.inl rfl)
  · exact .inr (.inr ⟨j, hj, rfl, (onB_scl hN).2 h⟩)
theorem mid2_scl (N : Int) (c d : Pt) : mid2 (scl N c) (scl N d) = scl N (mid2 c d) := by
  unfold mid2 scl
  show Pt.mk (N * c.x + N * d.x) (N * c.y + N * d.y) = Pt.mk (N * (c.x + d.x)) (N * (c.y + d.y))
  rw [Int.mul_add, Int.mul_add]
theorem dot_sclR {N : Int} (a b c d : Pt) : dotP (scl N a) (scl N b) (scl N c) (scl N d) = dotP a b c d * (N * N) := by unfold dotP scl; grind
theorem ENot.scl {N : Int} (hN : 0 < N) {n m : Nat} {V U : Nat → Pt} (h : ENot n V m U) : ENot n (fun i => scl N (V i)) m (fun j => scl N (U j)) := by
  intro i hi hab c d hc hd hcd hf
  obtain ⟨c0, rfl, hc1⟩ := cut_scl hN hc
  obtain ⟨d0, rfl, hd1⟩ := cut_scl hN hd
  obtain ⟨k1, k2⟩ := h i hi ((mul_lt_iff hN).1 hab) c0 d0 hc1 hd1 ((mul_lt_iff hN).1 hcd) (fun f hf0 => by
    have := hf (Go.Proofs.Ytfncpfnanmoapaa.scl N f) (cut_scl' hN hf0)
    have q1 := mul_le_iff (a := f.y) (b := c0.y) hN
    have q2 := mul_le_iff (a := d0.y) (b := f.y) hN
    have this : N * f.y ≤ N * c0.y ∨ N * d0.y ≤ N * f.y := this
    omega)
  have eo : ∀ j, onB (Go.Proofs.Ytfncpfnanmoapaa.scl 2 (Go.Proofs.Ytfncpfnanmoapaa.scl N (U j))) (Go.Proofs.Ytfncpfnanmoapaa.scl 2 (Go.Proofs.Ytfncpfnanmoapaa.scl N (U (j + 1)))) (mid2 (Go.Proofs.Ytfncpfnanmoapaa.scl N c0) (Go.Proofs.Ytfncpfnanmoapaa.scl N d0)) ↔ onB (Go.Proofs.Ytfncpfnanmoapaa.scl 2 (U j)) (Go.Proofs.Ytfncpfnanmoapaa.scl 2 (U (j + 1))) (mid2 c0 d0) := fun j => by
    rw [scl_comm 2, scl_comm 2, mid2_scl]; exact onB_scl hN
  constructor
  · intro hno
    have e : wx m (fun j => Go.Proofs.Ytfncpfnanmoapaa.scl 2 (Go.Proofs.Ytfncpfnanmoapaa.scl N (U j))) (mid2 (Go.Proofs.Ytfncpfnanmoapaa.scl N c0) (Go.Proofs.Ytfncpfnanmoapaa.scl N d0)) = wx m (fun j => Go.Proofs.Ytfncpfnanmoapaa.scl 2 (U j)) (mid2 c0 d0) := by
      rw [mid2_scl, show (fun j => Go.Proofs.Ytfncpfnanmoapaa.scl 2 (Go.Proofs.Ytfncpfnanmoapaa.scl N (U j))) = fun j => Go.Proofs.Ytfncpfnanmoapaa.scl N (Go.Proofs.Ytfncpfnanmoapaa.scl 2 (U j)) from funext fun j => scl_comm 2 N (U j)]
      exact wx_scl hN m (fun j => Go.Proofs.Ytfncpfnanmoapaa.scl 2 (U j)) (mid2 c0 d0)
    show wx m (fun j => Go.Proofs.Ytfncpfnanmoapaa.scl 2 (Go.Proofs.Ytfncpfnanmoapaa.scl N (U j))) _ ≠ 1
    rw [e]
    exact k1 fun j hj hh => hno j hj ((eo j).2 hh)
  · intro j hj hon
    have := k2 j hj ((eo j).1 hon)
    show dotP (Go.Proofs.Ytfncpfnanmoapaa.scl N (V i)) (Go.Proofs.Ytfncpfnanmoapaa.scl N (V (i + 1))) (Go.Proofs.Ytfncpfnanmoapaa.scl N (U j)) (Go.Proofs.Ytfncpfnanmoapaa.scl N (U (j + 1))) ≤ 0
    rw [dot_sclR]
    exact w_np this (w_pp (by omega) (by omega))
theorem CNot.scl {N : Int} (hN : 0 < N) {n m : Nat} {V U : Nat → Pt} (h : CNot n V m U) : CNot n (fun i => scl N (V i)) m (fun j => scl N (U j)) :=
  fun i j hi hj ⟨h1, h2⟩ => h i j hi hj ⟨prod_scl hN h1, prod_scl hN h2⟩
theorem twice_scl (N : Int) (n : Nat) (V : Nat → Pt) : twiceN n (fun i => scl N (V i)) = N * N * twiceN n V := by
  unfold twiceN
  rw [← sumN_mul]
  exact sumN_congr fun i _ => by unfold scl; grind
theorem Area.scl {K : Nat} (hK : 0 < K) {n H : Nat} {V : Nat → Pt} {x0 x1 y0 : Int} (ha : Area n V x0 x1 y0 H) : Area n (fun i => scl K (V i)) (K * x0) (K * x1) (K * y0) (K * H) := by
  have hK' : (0 : Int) < K := by omega
  refine ⟨ha.poly.scl hK', ?_, fun i => ?_, fun i => ?_⟩
  · rw [twice_scl]
    exact m_pp (m_pp hK' hK') ha.pos
  · obtain ⟨h1, h2⟩ := ha.inx i
    exact ⟨(mul_le_iff hK').2 h1, (mul_le_iff hK').2 h2⟩
  · obtain ⟨h1, h2⟩ := ha.iny i
    refine ⟨(mul_le_iff hK').2 h1, ?_⟩
    have := (mul_le_iff hK').2 h2
    rw [Int.mul_add] at this
    rw [Int.natCast_mul]
    exact this
def Rm.scl (K : Int) (p : Rm) : Rm := ⟨p.n, fun i => Go.Proofs.Ytfncpfnanmoapaa.scl K (p.V i), p.low, p.high⟩
theorem Apart.scl {K : Int} (hK : 0 < K) {p q : Rm} (h : Apart p q) : Apart (p.scl K) (q.scl K) := ⟨h.1.scl hK, h.2.1.scl hK, h.2.2.scl hK⟩
theorem lsum_mapR {α β : Type} (g : α → β) (l : List α) (f : β → Int) : lsum (l.map g) f = lsum l fun a => f (g a) := by
  induction l with
  | nil => rfl
  | cons a l ih => show f (g a) + lsum (l.map g) f = f (g a) + _; rw [ih]
/- sums that are equal, of parts of which none is greater -/
theorem sumN_all {n : Nat} {f g : Nat → Int} (h : ∀ i, i < n → f i ≤ g i) (e : sumN n f = sumN n g) : ∀ i, i < n → f i = g i := by
  induction n with
  | zero => intro i hi; omega
  | succ n ih =>
    have e : sumN n f + f n = sumN n g + g n := e
    have h1 := sumN_le n (fun i hi => h i (by omega))
    have h2 := h n (by omega)
    intro i hi
    rcases Nat.lt_succ_iff_lt_or_eq.1 hi with q | rfl
    · exact ih (fun i hi => h i (by omega)) (by omega) i q
    · omega
section
variable {x0 x1 y0 : Int} {H : Nat} (hx : x0 ≤ x1)
include hx
/- where the area is filled, each level is -/
theorem level_eq {M : Int} (hM : 0 < M) (hM2 : M % 2 = 0) {ps : List Rm} (hp : ∀ p ∈ ps, Area p.n p.V x0 x1 y0 H) (hg : ∀ p ∈ ps, ∀ i, GoodM M (p.V i) (p.V (i + 1))) (ha : ps.Pairwise Apart) (hs : lsum ps (fun p => twiceN p.n p.V) = 2 * (x1 - x0) * H) (t : Nat) (ht : t < H) : lsum ps (fun p => mom (evP M p.n p.V (y0 + t)) 0) = M * (x1 - x0) := by
  refine sumN_all (f := fun t => lsum ps fun p => mom (evP M p.n p.V (y0 + t)) 0) (g := fun _ => M * (x1 - x0)) (fun t _ => level_le hx hM hM2 hp hg ha _) ?_ t ht
  rw [sumN_const, ← lsum_sumN ps H (fun p t => mom (evP M p.n p.V (y0 + t)) 0), lsum_congr (fun p h => evP_area (hp p h) hM2 (hg p h)), lsum_mul, hs]
  have : M = M / 2 * 2 := by omega
  rw [show M / 2 * (2 * (x1 - x0) * H) = (M / 2 * 2) * ((x1 - x0) * H) by grind, ← this]; grind
/- on a filled level each place is in a room -/
theorem level_one {M : Int} (hM : 0 < M) (hM2 : M % 2 = 0) {ps : List Rm} (hp : ∀ p ∈ ps, Area p.n p.V x0 x1 y0 H) (hg : ∀ p ∈ ps, ∀ i, GoodM M (p.V i) (p.V (i + 1))) (ha : ps.Pairwise Apart) {k : Int} (hk : lsum ps (fun p => mom (evP M p.n p.V k) 0) = M * (x1 - x0)) {X : Int} (hX : X % 2 = 1) (h0 : M * x0 < X) (h1 : X < M * x1) : ∃ p ∈ ps, rsum (evP M p.n p.V k) X = 1 := by
  have s01 : ∀ {Y : Int}, Y % 2 = 1 → 0 ≤ lsum ps (fun p => rsum (evP M p.n p.V k) Y) ∧ lsum ps (fun p => rsum (evP M p.n p.V k) Y) ≤ 1 ∧ (lsum ps (fun p => rsum (evP M p.n p.V k) Y) = 1 → ∃ p ∈ ps, rsum (evP M p.n p.V k) Y = 1) := fun {Y} hY => by
    refine sum_01 (fun p hp' => evP_01 (hp p hp') hM hM2 (hg p hp') hY) ?_
    refine ha.imp_of_mem fun {p q} hp1 hq1 h ⟨g1, g2⟩ => ?_
    exact apart_inside hM hM2 (hp p hp1) (hp q hq1) (hg p hp1) (hg q hq1) h.1 h.2.1 h.2.2 hY g1 g2
  refine (s01 hX).2.2 (Decidable.byContradiction fun hn => ?_)
  have hz : lsum ps (fun p => rsum (evP M p.n p.V k) X) = 0 := by have := s01 hX; omega
  have a0 : M * x0 % 2 = 0 := by rw [Int.mul_emod, hM2, Int.zero_mul]; rfl
  have a1 : M * x1 % 2 = 0 := by rw [Int.mul_emod, hM2, Int.zero_mul]; rfl
  have e1 : lsum ps (fun p => mom (evP M p.n p.V k) 0) = mom (ps.flatMap fun p => evP M p.n p.V k) (M * x0) := by
    rw [mom_list]
    exact lsum_congr fun p hp' => (evP_mom (hp p hp') k (M * x0)).symm
  have := abel (c := 1) (A := M * x0) (B := M * x1) (l := (X + 1, 1) :: (X - 1, -1) :: ps.flatMap fun p => evP M p.n p.V k) (by decide) a0 a1 (Int.mul_le_mul_of_nonneg_left hx (by omega)) (fun e he => by
    rcases List.mem_cons.1 he with rfl | he
    · exact ⟨by show M * x0 ≤ X + 1; omega, by show X + 1 ≤ M * x1; omega, by show (X + 1) % 2 = 0; omega⟩
    rcases List.mem_cons.1 he with rfl | he
    · exact ⟨by show M * x0 ≤ X - 1; omega, by show X - 1 ≤ M * x1; omega, by show (X - 1) % 2 = 0; omega⟩
    obtain ⟨p, h2, h3⟩ := List.mem_flatMap.1 he
    exact evP_mem (hp p h2) hM hM2 (hg p h2) k e h3) (fun Y _ _ hY => by
    have hs := s01 hY
    show (if Y < X + 1 then (1 : Int) else 0) + ((if Y < X - 1 then (-1 : Int) else 0) + rsum (ps.flatMap fun p => evP M p.n p.V k) Y) ≤ 1
    rw [rsum_list]
    by_cases q : Y = X
    · subst q
      rw [hz]; split <;> split <;> omega
    · split <;> split <;> omega)
  rw [show mom ((X + 1, 1) :: (X - 1, -1) :: ps.flatMap fun p => evP M p.n p.V k) (M * x0) = 1 * (X + 1 - M * x0) + (-1 * (X - 1 - M * x0) + mom (ps.flatMap fun p => evP M p.n p.V k) (M * x0)) from rfl, ← e1, hk] at this
  have e3 : M * (x1 - x0) = M * x1 - M * x0 := Int.mul_sub _ _ _
  omega
end
end Go.Proofs.Ytfncpfnanmoapaa
/- Rooms that fill their box leave no point of it. -/
set_option linter.unusedVariables false
set_option linter.unusedSimpArgs false
namespace Go.Proofs.Ytfncpfnanmoapaa

/- a segment that is short beside its distance from an edge does not meet the edge -/
theorem short_apart {q m C s1 s2 : Int} {a b P : Pt} (hC : 0 ≤ C) (hm : 0 < m) (hq : 2 * m * C < q) (hq1 : 2 * m < q) (h1 : s1 = 1 ∨ s1 = -1) (h2 : s2 = m ∨ s2 = - m) (hx : -C ≤ b.x - a.x ∧ b.x - a.x ≤ C) (hy : -C ≤ b.y - a.y ∧ b.y - a.y ≤ C) (hon : ¬ onB a b P) : ¬ Meets (scl q P) ⟨q * P.x + s1, q * P.y + s2⟩ (scl q a) (scl q b) := by
  rintro ⟨K, i, j, g1, g2, g3, g4, g5, g6, g7⟩
  have g6 : (K - i) * (q * P.x) + i * (q * P.x + s1) = (K - j) * (q * a.x) + j * (q * b.x) := g6
  have g7 : (K - i) * (q * P.y) + i * (q * P.y + s2) = (K - j) * (q * a.y) + j * (q * b.y) := g7
  have k6 : K * (q * P.x) + i * s1 = K * (q * a.x) + j * (q * b.x - q * a.x) := by grind
  have k7 : K * (q * P.y) + i * s2 = K * (q * a.y) + j * (q * b.y - q * a.y) := by grind
  have qp : 0 < q := by omega
  -- beside the edge
  have key : ∀ {p r s d : Int}, -(2 * m) ≤ 2 * d → 2 * d ≤ 2 * m → K * (q * p) + i * d = K * (q * r) + j * (q * s - q * r) → ¬ (p < r ∧ p < s) ∧ ¬ (r < p ∧ s < p) := by
    intro p r s d d1 d2 e
    have e1 : (K - j) * (q * (r - p)) + j * (q * (s - p)) = i * d := by grind
    have b1 : i * d ≤ K * m := by
      have p1 := Int.mul_le_mul_of_nonneg_left (show d ≤ m by omega) g2
      have p2 := Int.mul_le_mul_of_nonneg_right g3 (show 0 ≤ m by omega)
      omega
    have b2 : -(K * m) ≤ i * d := by
      have p1 := Int.mul_le_mul_of_nonneg_left (show -m ≤ d by omega) g2
      have p2 := Int.mul_le_mul_of_nonneg_right g3 (show 0 ≤ m by omega)
      rw [Int.mul_neg] at p1
      omega
    have b3 := m_pp g1 (show 0 < q - m by omega)
    have e3 : K * (q - m) = K * q - K * m := Int.mul_sub _ _ _
    have e4 : (K - j) * q + j * q = K * q := by grind
    constructor
    · rintro ⟨c1, c2⟩
      have p1 := Int.mul_le_mul_of_nonneg_left (show q * 1 ≤ q * (r - p) from Int.mul_le_mul_of_nonneg_left (by omega) (by omega)) (show 0 ≤ K - j by omega)
      have p2 := Int.mul_le_mul_of_nonneg_left (show q * 1 ≤ q * (s - p) from Int.mul_le_mul_of_nonneg_left (by omega) (by omega)) g4
      rw [Int.mul_one] at p1 p2
      omega
    · rintro ⟨c1, c2⟩
      have p1 := Int.mul_le_mul_of_nonneg_left (show q * (r - p) ≤ q * -1 from Int.mul_le_mul_of_nonneg_left (by omega) (by omega)) (show 0 ≤ K - j by omega)
      have p2 := Int.mul_le_mul_of_nonneg_left (show q * (s - p) ≤ q * -1 from Int.mul_le_mul_of_nonneg_left (by omega) (by omega)) g4
      rw [Int.mul_neg, Int.mul_one, Int.mul_neg] at p1 p2
      omega
  have kx := key (p := P.x) (r := a.x) (s := b.x) (d := s1) (by omega) (by omega) k6
  have ky := key (p := P.y) (r := a.y) (s := b.y) (d := s2) (by omega) (by omega) k7
  have ht : turn a b P ≠ 0 := fun e => hon ⟨e, by omega, by omega, by omega, by omega⟩
  -- the turn
  have e5 : K * (turn a b P * q) + i * ((b.x - a.x) * s2 - (b.y - a.y) * s1) = 0 := by
    have : K * (turn a b P * q) + i * ((b.x - a.x) * s2 - (b.y - a.y) * s1) = (b.x - a.x) * (K * (q * P.y) + i * s2 - K * (q * a.y)) - (b.y - a.y) * (K * (q * P.x) + i * s1 - K * (q * a.x)) := by unfold turn; grind
    rw [this, k6, k7]; grind
  have abs : ∀ {u s : Int}, -C ≤ u → u ≤ C → -m ≤ s → s ≤ m → -(m * C) ≤ u * s ∧ u * s ≤ m * C := fun {u s} a1 a2 a3 a4 => by
    have p1 := w_pp (show 0 ≤ C - u by omega) (show 0 ≤ m + s by omega)
    have p2 := w_pp (show 0 ≤ C + u by omega) (show 0 ≤ m - s by omega)
    have p3 := w_pp (show 0 ≤ C - u by omega) (show 0 ≤ m - s by omega)
    have p4 := w_pp (show 0 ≤ C + u by omega) (show 0 ≤ m + s by omega)
    have x1 : (C - u) * (m + s) = m * C + C * s - m * u - u * s := by grind
    have x2 : (C + u) * (m - s) = m * C - C * s + m * u - u * s := by grind
    have x3 : (C - u) * (m - s) = m * C - C * s - m * u + u * s := by grind
    have x4 : (C + u) * (m + s) = m * C + C * s + m * u + u * s := by grind
    omega
  have a1 := abs hx.1 hx.2 (s := s2) (by omega) (by omega)
  have a2 := abs hy.1 hy.2 (s := s1) (by omega) (by omega)
  have hD : -(2 * (m * C)) ≤ (b.x - a.x) * s2 - (b.y - a.y) * s1 ∧ (b.x - a.x) * s2 - (b.y - a.y) * s1 ≤ 2 * (m * C) := by omega
  generalize (b.x - a.x) * s2 - (b.y - a.y) * s1 = D at *
  have hq' : 2 * (m * C) < q := by rw [Int.mul_assoc] at hq; exact hq
  have d1 : i * D < K * q := by
    have p1 := Int.mul_le_mul_of_nonneg_left hD.2 g2
    have p2 := Int.mul_le_mul_of_nonneg_right g3 (show 0 ≤ 2 * (m * C) from by have := w_pp (show 0 ≤ m by omega) hC; omega)
    have p3 := Int.mul_lt_mul_of_pos_left hq' g1
    omega
  have d2 : -(K * q) < i * D := by
    have p1 := Int.mul_le_mul_of_nonneg_left hD.1 g2
    have p2 := Int.mul_le_mul_of_nonneg_right g3 (show 0 ≤ 2 * (m * C) from by have := w_pp (show 0 ≤ m by omega) hC; omega)
    have p3 := Int.mul_lt_mul_of_pos_left hq' g1
    rw [Int.mul_neg] at p1
    omega
  rcases Int.lt_or_gt_of_ne ht with c | c
  · have p1 := Int.mul_le_mul_of_nonneg_left (show turn a b P * q ≤ -1 * q from Int.mul_le_mul_of_nonneg_right (by omega) (by omega)) (show 0 ≤ K by omega)
    have : K * (-1 * q) = -(K * q) := by grind
    omega
  · have p1 := Int.mul_le_mul_of_nonneg_left (show 1 * q ≤ turn a b P * q from Int.mul_le_mul_of_nonneg_right (by omega) (by omega)) (show 0 ≤ K by omega)
    rw [Int.one_mul] at p1
    omega
theorem covers_at {x0 x1 y0 : Int} {H : Nat} {ps : List Rm} (hx : x0 < x1) (hH : 0 < H) (hp : ∀ p ∈ ps, Area p.n p.V x0 x1 y0 H) (ha : ps.Pairwise Apart) (hs : lsum ps (fun p => twiceN p.n p.V) = 2 * (x1 - x0) * H) (P : Pt) (px : x0 ≤ P.x ∧ P.x ≤ x1) (py : y0 ≤ P.y ∧ P.y ≤ y0 + H) : ∃ p ∈ ps, (∃ i, i < p.n ∧ onB (p.V i) (p.V (i + 1)) P) ∨ wx p.n p.V P = 1 := by
  by_cases hon : ∃ p ∈ ps, ∃ i, i < p.n ∧ onB (p.V i) (p.V (i + 1)) P
  · obtain ⟨p, h1, h2⟩ := hon
    exact ⟨p, h1, .inl h2⟩
  have hno : ∀ p ∈ ps, ∀ i, ¬ onB (p.V i) (p.V (i + 1)) P := fun p h1 i h2 => hon ⟨p, h1, i % p.n, Nat.mod_lt _ (by have := (hp p h1).poly.three; omega), by
    have per := (hp p h1).poly.per
    have e : p.V (i % p.n + 1) = p.V (i + 1) := by rw [← per_mod per (i % p.n + 1), ← per_mod per (i + 1), Nat.mod_add_mod]
    rw [per_mod per i, e]; exact h2⟩
  obtain ⟨C, hC⟩ : ∃ C : Nat, (C : Int) = (x1 - x0) + H := ⟨((x1 - x0) + H).toNat, by omega⟩
  obtain ⟨K, hK⟩ : ∃ K : Nat, K = C + 2 := ⟨_, rfl⟩
  have hK' : (0 : Int) < K := by omega
  have hp' : ∀ p ∈ ps.map (Rm.scl K), Area p.n p.V (K * x0) (K * x1) (K * y0) (K * H) := fun p h => by
    obtain ⟨r, hr, rfl⟩ := List.mem_map.1 h
    exact (hp r hr).scl (by omega)
  have ha' : (ps.map (Rm.scl K)).Pairwise Apart := List.pairwise_map.2 (ha.imp fun h => h.scl hK')
  have hx' : (K : Int) * x0 ≤ K * x1 := (mul_le_iff hK').2 (by omega)
  have hs' : lsum (ps.map (Rm.scl K)) (fun p => twiceN p.n p.V) = 2 * (K * x1 - K * x0) * ((K * H : Nat) : Int) := by
    rw [lsum_mapR]
    rw [lsum_congr (g := fun p => (K : Int) * K * twiceN p.n p.V) (fun p _ => twice_scl K p.n p.V), lsum_mul, hs, Int.natCast_mul]
    grind
  obtain ⟨M, hM, hM2, hg⟩ := good_all (ps.map (Rm.scl K)) (fun p h => ⟨by have := (hp' p h).poly.three; omega, (hp' p h).poly.per⟩)
  have hq : (0 : Int) < M * K := m_pp hM hK'
  -- the place beside P
  obtain ⟨s1, hs1, hs1x⟩ : ∃ s1 : Int, (s1 = 1 ∨ s1 = -1) ∧ ((s1 = 1 → P.x < x1) ∧ (s1 = -1 → x0 < P.x)) := by
    by_cases c : P.x < x1
    · exact ⟨1, .inl rfl, fun _ => c, fun e => by omega⟩
    · exact ⟨-1, .inr rfl, fun e => by omega, fun _ => by omega⟩
  obtain ⟨k, t, s2, hk, ht, hkt, hs2⟩ : ∃ (k : Int) (t : Nat) (s2 : Int), k = K * y0 + t ∧ t < K * H ∧ M / 2 * (2 * k + 1) = M * K * P.y + s2 ∧ (s2 = M / 2 ∨ s2 = - (M / 2)) := by
    obtain ⟨u, hu⟩ : ∃ u : Nat, (u : Int) = P.y - y0 := ⟨(P.y - y0).toNat, by omega⟩
    have hM3 : M = M / 2 * 2 := by omega
    have eP : P.y = y0 + u := by omega
    by_cases c : P.y < y0 + H
    · have : K * u < K * H := Nat.mul_lt_mul_of_pos_left (by omega) (by omega)
      refine ⟨K * P.y, K * u, M / 2, ?_, this, ?_, .inl rfl⟩
      · rw [eP, Int.natCast_mul]; grind
      · generalize hm : M / 2 = m at *
        rw [hM3]; grind
    · have h1 : 0 < K * H := Nat.mul_pos (by omega) hH
      refine ⟨K * P.y - 1, K * H - 1, - (M / 2), ?_, by omega, ?_, .inr rfl⟩
      · have : P.y = y0 + H := by omega
        rw [this, Int.mul_add]
        have : ((K * H - 1 : Nat) : Int) = K * H - 1 := by rw [Int.natCast_sub (by omega), Int.natCast_mul]; rfl
        omega
      · generalize hm : M / 2 = m at *
        rw [hM3]; grind
  have hl := level_eq hx' hM hM2 hp' hg ha' hs' t ht
  rw [← hk] at hl
  have hMK : ∀ z : Int, M * (K * z) = M * K * z := fun z => by rw [Int.mul_assoc]
  have q0 : M * K * x0 ≤ M * K * P.x := (mul_le_iff hq).2 px.1
  have q1 : M * K * P.x ≤ M * K * x1 := (mul_le_iff hq).2 px.2
  have ev : M * K * P.x % 2 = 0 := by rw [Int.mul_assoc, Int.mul_emod, hM2, Int.zero_mul]; rfl
  have hb : M * (K * x0) < M * K * P.x + s1 ∧ M * K * P.x + s1 < M * (K * x1) := by
    rw [hMK, hMK]
    have e0 : M * K * x0 % 2 = 0 := by rw [Int.mul_assoc, Int.mul_emod, hM2, Int.zero_mul]; rfl
    have e1 : M * K * x1 % 2 = 0 := by rw [Int.mul_assoc, Int.mul_emod, hM2, Int.zero_mul]; rfl
    rcases hs1 with rfl | rfl
    · have := (mul_lt_iff hq).2 (hs1x.1 rfl); omega
    · have := (mul_lt_iff hq).2 (hs1x.2 rfl); omega
  obtain ⟨p', h1, h2⟩ := level_one hx' hM hM2 hp' hg ha' hl (X := M * K * P.x + s1) (by omega) hb.1 hb.2
  have har := hp' p' h1
  have hgr := hg p' h1
  obtain ⟨r, hr, rfl⟩ := List.mem_map.1 h1
  refine ⟨r, hr, .inr ?_⟩
  -- from the place back to P
  have hin := fun i => (hp r hr).inx i
  have hiny := fun i => (hp r hr).iny i
  obtain ⟨B, hB1, hB2⟩ : ∃ B : Int, B > 2 * (M * K * x1) + 4 ∧ -B < 2 * (M * K * x0) - 4 := ⟨(2 * (M * K * x1) + 5).natAbs + (2 * (M * K * x0) - 5).natAbs, by omega, by omega⟩
  have es : (fun i => scl M ((Rm.scl K r).V i)) = fun i => scl (M * K) (r.V i) := funext fun i => by
    show scl M (scl K (r.V i)) = scl (M * K) (r.V i)
    unfold scl
    show Pt.mk (M * (K * (r.V i).x)) (M * (K * (r.V i).y)) = Pt.mk (M * K * (r.V i).x) (M * K * (r.V i).y)
    rw [hMK, hMK]
  have fV : ∀ i, Fit B (scl (M * K) (r.V i)) := fun i => by
    have a1 := (mul_le_iff hq).2 (hin i).1
    have a2 := (mul_le_iff hq).2 (hin i).2
    constructor
    · show -B < 2 * (M * K * (r.V i).x); omega
    · show 2 * (M * K * (r.V i).x) < B; omega
  have fP : Fit B (scl (M * K) P) := ⟨by show -B < 2 * (M * K * P.x); omega, by show 2 * (M * K * P.x) < B; omega⟩
  have fX : Fit B (ptOn M (M * K * P.x + s1) k) := ⟨by show -B < 2 * (M * K * P.x + s1); omega, by show 2 * (M * K * P.x + s1) < B; omega⟩
  have eX : ptOn M (M * K * P.x + s1) k = ⟨M * K * P.x + s1, M * K * P.y + s2⟩ := by unfold ptOn; rw [hkt]
  have hw := evP_wind (M := M) (n := r.n) (V := fun i => scl K (r.V i)) hM hM2 hgr (B := B) (X := M * K * P.x + s1) (k := k) (fun i => by
    have := fV i
    rw [← congrFun es i] at this
    exact this) fX
  have h2 : rsum (evP M r.n (fun i => scl K (r.V i)) k) (M * K * P.x + s1) = 1 := h2
  rw [h2] at hw
  have es' : (fun i => scl M (scl K (r.V i))) = fun i => scl (M * K) (r.V i) := es
  rw [show wind B r.n (fun i => scl M ((fun i => scl K (r.V i)) i)) (ptOn M (M * K * P.x + s1) k) = wind B r.n (fun i => scl (M * K) (r.V i)) (ptOn M (M * K * P.x + s1) k) from by rw [← es']] at hw
  have hne1 : ∀ i, scl (M * K) (r.V i) ≠ scl (M * K) P := fun i e => by
    have e1 : M * K * (r.V i).x = M * K * P.x := congrArg Pt.x e
    have e2 : M * K * (r.V i).y = M * K * P.y := congrArg Pt.y e
    have := hno r hr i
    rw [show P = r.V i from Pt.ext ((mul_eq_iff hq).1 e1).symm ((mul_eq_iff hq).1 e2).symm] at this
    exact this ⟨(turn_self _ _).1, by omega, by omega, by omega, by omega⟩
  have hne2 : ∀ i, scl (M * K) (r.V i) ≠ ptOn M (M * K * P.x + s1) k := fun i e => by
    have := (lx_on (X := M * K * P.x + s1) (k := k) (a := scl K (r.V i)) hM hM2).1
    have e2 : M * K * (r.V i).y = (ptOn M (M * K * P.x + s1) k).y := congrArg Pt.y e
    rw [← hMK] at e2
    exact this e2
  have hmeet : ∀ i, ¬ Meets (scl (M * K) P) (ptOn M (M * K * P.x + s1) k) (scl (M * K) (r.V i)) (scl (M * K) (r.V (i + 1))) := fun i => by
    rw [eX]
    have b1 := hin i
    have b2 := hin (i + 1)
    have b3 := hiny i
    have b4 := hiny (i + 1)
    have e2 : M = 2 * (M / 2) := by omega
    have p1 : M * C < M * K := (mul_lt_iff hM).2 (by omega)
    have p2 : M * 1 < M * K := (mul_lt_iff hM).2 (by omega)
    refine short_apart (m := M / 2) (C := C) (by omega) (by omega) ?_ ?_ hs1 hs2 (by omega) (by omega) (hno r hr i)
    · rw [← e2]; exact p1
    · rw [← e2]; omega
  have hmv := wind_move (B := B) (n := r.n) (V := fun i => scl (M * K) (r.V i)) (Z := scl (M * K) P) (m := ptOn M (M * K * P.x + s1) k) (fun i => by rw [(hp r hr).poly.per]) fV fP fX hne1 hne2 hmeet
  rw [← hmv, wind_wx fV fP, wx_scl hq] at hw
  exact hw.symm
/- the same with heights -/
theorem covers_vol {x0 x1 y0 lo : Int} {H D : Nat} {rs : List Rm} (hx : x0 < x1) (hH : 0 < H) (hp : ∀ p ∈ rs, Area p.n p.V x0 x1 y0 H ∧ lo ≤ p.low ∧ p.low ≤ p.high ∧ p.high ≤ lo + D) (ha : rs.Pairwise fun p q => (∃ h, p.low ≤ h ∧ h < p.high ∧ q.low ≤ h ∧ h < q.high) → Apart p q) (hs : lsum rs (fun p => twiceN p.n p.V * (p.high - p.low)) = 2 * (x1 - x0) * H * D) (P : Pt) (px : x0 ≤ P.x ∧ P.x ≤ x1) (py : y0 ≤ P.y ∧ P.y ≤ y0 + H) {h : Int} (h1 : lo ≤ h) (h2 : h < lo + D) : ∃ p ∈ rs, p.low ≤ h ∧ h < p.high ∧ ((∃ i, i < p.n ∧ onB (p.V i) (p.V (i + 1)) P) ∨ wx p.n p.V P = 1) := by
  have e1 : lsum rs (fun p => twiceN p.n p.V * (p.high - p.low)) = sumN D fun t => lsum (rs.filter fun p => decide (p.low ≤ lo + t ∧ lo + t < p.high)) fun p => twiceN p.n p.V := by
    rw [sumN_congr (fun t _ => lsum_filter rs (fun p => decide (p.low ≤ lo + t ∧ lo + t < p.high)) fun p => twiceN p.n p.V)]
    rw [← lsum_sumN]
    refine lsum_congr fun p h => ?_
    obtain ⟨-, q1, q2, q3⟩ := hp p h
    rw [← count_levels q1 q2 q3]
    exact sumN_congr fun t _ => by simp only [decide_eq_true_eq]
  have har : ∀ t : Nat, (rs.filter fun p => decide (p.low ≤ lo + t ∧ lo + t < p.high)).Pairwise Apart := fun t => by
    refine ((ha.filter _).imp_of_mem ?_)
    intro p q h3 h4 h5
    have h3 := (List.mem_filter.1 h3).2
    have h4 := (List.mem_filter.1 h4).2
    simp only [decide_eq_true_eq] at h3 h4
    exact h5 ⟨lo + t, h3.1, h3.2, h4.1, h4.2⟩
  obtain ⟨t, ht⟩ : ∃ t : Nat, (t : Int) = h - lo := ⟨(h - lo).toNat, by omega⟩
  have h3 := sumN_all (n := D) (f := fun t => lsum (rs.filter fun p => decide (p.low ≤ lo + t ∧ lo + t < p.high)) fun p => twiceN p.n p.V) (g := fun _ => 2 * (x1 - x0) * H) (fun t _ => area_le (by omega) (y0 := y0) (fun p h => (hp p (List.mem_filter.1 h).1).1) (har t)) (by rw [← e1, hs, sumN_const, Int.mul_comm]) t (by omega)
  obtain ⟨p, hp1, hp2⟩ := covers_at hx hH (fun p h => (hp p (List.mem_filter.1 h).1).1) (har t) h3 P px py
  obtain ⟨m1, m2⟩ := List.mem_filter.1 hp1
  simp only [decide_eq_true_eq] at m2
  exact ⟨p, m1, by omega, by omega, hp2⟩
end Go.Proofs.Ytfncpfnanmoapaa
