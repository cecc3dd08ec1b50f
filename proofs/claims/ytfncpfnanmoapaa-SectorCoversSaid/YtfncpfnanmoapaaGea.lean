/- Ge1 to Ge8. -/
/- Plane geometry with integers: turns, levels, and what of an edge lies to the right of a point. -/
set_option linter.unusedVariables false
set_option linter.unusedSimpArgs false
namespace Go.Proofs.Ytfncpfnanmoapaa

structure Pt where
  x : Int
  y : Int
def turn (a b c : Pt) : Int := (b.x - a.x) * (c.y - a.y) - (b.y - a.y) * (c.x - a.x)
/- the level of a point: a linear order of the points of a bounded part of the plane -/
def lam (B : Int) (p : Pt) : Int := B * p.y - p.x
/- does an edge cross the level of P to the right of P: 1 upwards, -1 downwards -/
def cr (B : Int) (a b P : Pt) : Int :=
  if lam B a < lam B P ∧ lam B P < lam B b ∧ 0 < turn a b P then 1 else if lam B b < lam B P ∧ lam B P < lam B a ∧ turn a b P < 0 then -1 else 0
def psi (B : Int) (Z m u : Pt) : Int := if lam B Z < lam B u ∧ lam B u < lam B m ∧ turn Z m u < 0 then 1 else 0
/- two segments have a common point -/
def Meets (Z m u v : Pt) : Prop := ∃ k i j : Int, 0 < k ∧ 0 ≤ i ∧ i ≤ k ∧ 0 ≤ j ∧ j ≤ k ∧ (k - i) * Z.x + i * m.x = (k - j) * u.x + j * v.x ∧ (k - i) * Z.y + i * m.y = (k - j) * u.y + j * v.y

theorem turn_swap (a b c : Pt) : turn b a c = - turn a b c := by unfold turn; grind
theorem turn_cyc (a b c : Pt) : turn b c a = turn a b c := by unfold turn; grind
theorem turn_self (a b : Pt) : turn a b a = 0 ∧ turn a b b = 0 ∧ turn a a b = 0 := by unfold turn; grind
/- four points: the identities -/
theorem four_k (Z m u v : Pt) : turn u v m - turn u v Z = turn Z m u - turn Z m v := by unfold turn; grind
theorem four_x (Z m u v : Pt) : turn u v m * Z.x - turn u v Z * m.x = turn Z m u * v.x - turn Z m v * u.x := by unfold turn; grind
theorem four_y (Z m u v : Pt) : turn u v m * Z.y - turn u v Z * m.y = turn Z m u * v.y - turn Z m v * u.y := by unfold turn; grind
theorem meets_of (Z m u v : Pt) (h : (turn u v Z ≤ 0 ∧ 0 ≤ turn u v m ∧ 0 ≤ turn Z m u ∧ turn Z m v ≤ 0 ∧ turn u v Z < turn u v m) ∨ (0 ≤ turn u v Z ∧ turn u v m ≤ 0 ∧ turn Z m u ≤ 0 ∧ 0 ≤ turn Z m v ∧ turn u v m < turn u v Z)) : Meets Z m u v := by
  have hk := four_k Z m u v
  have hx := four_x Z m u v
  have hy := four_y Z m u v
  rcases h with ⟨h1, h2, h3, h4, h5⟩ | ⟨h1, h2, h3, h4, h5⟩
  · refine ⟨turn u v m - turn u v Z, - turn u v Z, turn Z m u, by omega, by omega, by omega, h3, by omega, ?_, ?_⟩
    · rw [show turn u v m - turn u v Z - - turn u v Z = turn u v m by omega, show turn u v m - turn u v Z - turn Z m u = - turn Z m v by omega, Int.neg_mul, Int.neg_mul]
      omega
    · rw [show turn u v m - turn u v Z - - turn u v Z = turn u v m by omega, show turn u v m - turn u v Z - turn Z m u = - turn Z m v by omega, Int.neg_mul, Int.neg_mul]
      omega
  · refine ⟨turn u v Z - turn u v m, turn u v Z, - turn Z m u, by omega, h1, by omega, by omega, by omega, ?_, ?_⟩
    · rw [show turn u v Z - turn u v m - turn u v Z = - turn u v m by omega, show turn u v Z - turn u v m - - turn Z m u = turn Z m v by omega, Int.neg_mul, Int.neg_mul]
      omega
    · rw [show turn u v Z - turn u v m - turn u v Z = - turn u v m by omega, show turn u v Z - turn u v m - - turn Z m u = turn Z m v by omega, Int.neg_mul, Int.neg_mul]
      omega
/- the levels of the common point of two lines -/
theorem four_d (B : Int) (Z m u v : Pt) : turn Z m u * (lam B v - lam B u) = (turn u v m - turn u v Z) * (lam B Z - lam B u) - turn u v Z * (lam B m - lam B Z) := by unfold turn lam; grind
theorem four_e (B : Int) (Z m u v : Pt) : turn Z m v * (lam B v - lam B u) = (turn u v m - turn u v Z) * (lam B m - lam B v) - turn u v m * (lam B m - lam B Z) := by unfold turn lam; grind
theorem sgn_pos {a d : Int} (hd : 0 < d) : (0 < a * d ↔ 0 < a) ∧ (a * d < 0 ↔ a < 0) := by
  have h1 : 0 < a → 0 < a * d := fun h => Int.mul_pos h hd
  have h2 : a < 0 → a * d < 0 := fun h => Int.mul_neg_of_neg_of_pos h hd
  have h3 : a = 0 → a * d = 0 := fun h => by rw [h, Int.zero_mul]
  refine ⟨⟨fun h => ?_, h1⟩, ⟨fun h => ?_, h2⟩⟩ <;> (rcases Int.lt_trichotomy a 0 with q | q | q) <;> first | exact q | (have := h2 q; omega) | (have := h1 q; omega) | (have := h3 q; omega)
theorem m_pp {a b : Int} (h : 0 < a) (k : 0 < b) : 0 < a * b := Int.mul_pos h k
theorem m_pn {a b : Int} (h : 0 < a) (k : b < 0) : a * b < 0 := Int.mul_neg_of_pos_of_neg h k
theorem m_np {a b : Int} (h : a < 0) (k : 0 < b) : a * b < 0 := Int.mul_neg_of_neg_of_pos h k
theorem m_nn {a b : Int} (h : a < 0) (k : b < 0) : 0 < a * b := Int.mul_pos_of_neg_of_neg h k
theorem w_pp {a b : Int} (h : 0 ≤ a) (k : 0 ≤ b) : 0 ≤ a * b := Int.mul_nonneg h k
theorem w_pn {a b : Int} (h : 0 ≤ a) (k : b ≤ 0) : a * b ≤ 0 := by
  have := Int.mul_nonneg h (show 0 ≤ -b by omega)
  rw [Int.mul_neg] at this; omega
theorem w_np {a b : Int} (h : a ≤ 0) (k : 0 ≤ b) : a * b ≤ 0 := by
  have := Int.mul_nonneg (show 0 ≤ -a by omega) k
  rw [Int.neg_mul] at this; omega
theorem w_nn {a b : Int} (h : a ≤ 0) (k : b ≤ 0) : 0 ≤ a * b := by
  have := Int.mul_nonneg (show 0 ≤ -a by omega) (show 0 ≤ -b by omega)
  rw [Int.neg_mul_neg] at this; exact this
/- the kernel: signs of four turns, by the levels -/
theorem core_signs {A C D E z M u v : Int} (huv : u < v) (hzM : z < M) (hk : C - A = D - E) (hD : D * (v - u) = (C - A) * (z - u) - A * (M - z)) (hE : E * (v - u) = (C - A) * (M - v) - C * (M - z))
    (hno : ¬ ((A ≤ 0 ∧ 0 ≤ C ∧ 0 ≤ D ∧ E ≤ 0 ∧ A < C) ∨ (0 ≤ A ∧ C ≤ 0 ∧ D ≤ 0 ∧ 0 ≤ E ∧ C < A))) :
    (u < z → M < v → (0 < A ↔ 0 < C)) ∧ (u < z → z < v → v < M → (0 < A ↔ E < 0)) ∧ (z < u → u < M → M < v → (0 < C ↔ D < 0)) ∧ (z < u → v < M → (D < 0 ↔ E < 0)) := by
  have e1 : D * (v - u) = C * (z - u) - A * (M - u) := by rw [hD]; grind
  have e2 : E * (v - u) = C * (z - v) - A * (M - v) := by rw [hE]; grind
  have e3 : A * (M - z) = D * (z - v) - E * (z - u) := by
    have : A * (M - z) = (D - E) * (z - u) - D * (v - u) := by rw [← hk]; omega
    rw [this]; grind
  have e4 : C * (M - z) = D * (M - v) - E * (M - u) := by
    have : C * (M - z) = (D - E) * (M - v) - E * (v - u) := by rw [← hk]; omega
    rw [this]; grind
  have sD := sgn_pos (a := D) (show 0 < v - u by omega)
  have sE := sgn_pos (a := E) (show 0 < v - u by omega)
  have sA := sgn_pos (a := A) (show 0 < M - z by omega)
  have sC := sgn_pos (a := C) (show 0 < M - z by omega)
  refine ⟨fun h1 h2 => ⟨fun hA => Decidable.byContradiction fun hC => ?_, fun hC => Decidable.byContradiction fun hA => ?_⟩, fun h1 h2 h3 => ⟨fun hA => Decidable.byContradiction fun hEn => ?_, fun hEn => Decidable.byContradiction fun hA => ?_⟩,
    fun h1 h2 h3 => ⟨fun hC => Decidable.byContradiction fun hDn => ?_, fun hDn => Decidable.byContradiction fun hC => ?_⟩, fun h1 h2 => ⟨fun hDn => Decidable.byContradiction fun hEn => ?_, fun hEn => Decidable.byContradiction fun hDn => ?_⟩⟩
  · have hC : C ≤ 0 := by omega
    have p1 := w_np hC (show 0 ≤ z - u by omega)
    have p2 := m_pp hA (show 0 < M - u by omega)
    have p3 := w_nn hC (show z - v ≤ 0 by omega)
    have p4 := m_pn hA (show M - v < 0 by omega)
    have d1 := sD.2.1 (by omega)
    have d2 := sE.1.1 (by omega)
    exact hno (.inr ⟨by omega, hC, by omega, by omega, by omega⟩)
  · have hA : A ≤ 0 := by omega
    have p1 := m_pp hC (show 0 < z - u by omega)
    have p2 := w_np hA (show 0 ≤ M - u by omega)
    have p3 := m_pn hC (show z - v < 0 by omega)
    have p4 := w_nn hA (show M - v ≤ 0 by omega)
    have d1 := sD.1.1 (by omega)
    have d2 := sE.2.1 (by omega)
    exact hno (.inl ⟨hA, by omega, by omega, by omega, by omega⟩)
  · have hE0 : 0 ≤ E := by omega
    have p4 := m_pp hA (show 0 < M - v by omega)
    have hC : C < 0 := by
      refine Decidable.byContradiction fun q => ?_
      have p3 := w_pn (show 0 ≤ C by omega) (show z - v ≤ 0 by omega)
      have := sE.2.1 (by omega)
      omega
    have p1 := m_np hC (show 0 < z - u by omega)
    have p2 := m_pp hA (show 0 < M - u by omega)
    have d1 := sD.2.1 (by omega)
    exact hno (.inr ⟨by omega, by omega, by omega, hE0, by omega⟩)
  · have hA : A ≤ 0 := by omega
    have p2 := m_np hEn (show 0 < z - u by omega)
    have hD0 : 0 < D := by
      refine Decidable.byContradiction fun q => ?_
      have p1 := w_nn (show D ≤ 0 by omega) (show z - v ≤ 0 by omega)
      have := sA.1.1 (by omega)
      omega
    have p3 := m_pp hD0 (show 0 < M - v by omega)
    have p4 := m_np hEn (show 0 < M - u by omega)
    have d1 := sC.1.1 (by omega)
    exact hno (.inl ⟨hA, by omega, by omega, by omega, by omega⟩)
  · have hD0 : 0 ≤ D := by omega
    have p1 := m_pn hC (show z - u < 0 by omega)
    have hA : A < 0 := by
      refine Decidable.byContradiction fun q => ?_
      have p2 := w_pp (show 0 ≤ A by omega) (show 0 ≤ M - u by omega)
      have := sD.2.1 (by omega)
      omega
    have p3 := m_pn hC (show z - v < 0 by omega)
    have p4 := m_nn hA (show M - v < 0 by omega)
    have d1 := sE.2.1 (by omega)
    exact hno (.inl ⟨by omega, by omega, hD0, by omega, by omega⟩)
  · have hC : C ≤ 0 := by omega
    have p1 := m_nn hDn (show M - v < 0 by omega)
    have hE0 : 0 < E := by
      refine Decidable.byContradiction fun q => ?_
      have p2 := w_np (show E ≤ 0 by omega) (show 0 ≤ M - u by omega)
      have := sC.1.1 (by omega)
      omega
    have p3 := m_nn hDn (show z - v < 0 by omega)
    have p4 := m_pn hE0 (show z - u < 0 by omega)
    have d1 := sA.1.1 (by omega)
    exact hno (.inr ⟨by omega, hC, by omega, by omega, by omega⟩)
  · have hE0 : 0 ≤ E := by omega
    have p1 := m_nn hDn (show z - v < 0 by omega)
    have p2 := w_pn hE0 (show z - u ≤ 0 by omega)
    have d1 := sA.1.1 (by omega)
    have p3 := m_np hDn (show 0 < M - v by omega)
    have p4 := w_pp hE0 (show 0 ≤ M - u by omega)
    have d2 := sC.2.1 (by omega)
    exact hno (.inr ⟨by omega, by omega, by omega, hE0, by omega⟩)
  · have hD0 : 0 ≤ D := by omega
    have p1 := w_pn hD0 (show z - v ≤ 0 by omega)
    have p2 := m_nn hEn (show z - u < 0 by omega)
    have d1 := sA.2.1 (by omega)
    have p3 := w_pp hD0 (show 0 ≤ M - v by omega)
    have p4 := m_np hEn (show 0 < M - u by omega)
    have d2 := sC.1.1 (by omega)
    exact hno (.inl ⟨by omega, by omega, hD0, by omega, by omega⟩)
theorem cr_swap (B : Int) (a b P : Pt) : cr B b a P = - cr B a b P := by
  unfold cr
  rw [turn_swap a b P]
  by_cases h1 : lam B a < lam B P ∧ lam B P < lam B b <;> by_cases h2 : lam B b < lam B P ∧ lam B P < lam B a
  · omega
  · by_cases h3 : 0 < turn a b P
    · rw [if_neg (by omega), if_pos (by omega), if_pos (by omega)]
    · rw [if_neg (by omega), if_neg (by omega), if_neg (by omega), if_neg (by omega)]; rfl
  · by_cases h3 : turn a b P < 0
    · rw [if_pos (by omega), if_neg (by omega), if_pos (by omega)]; rfl
    · rw [if_neg (by omega), if_neg (by omega), if_neg (by omega), if_neg (by omega)]; rfl
  · rw [if_neg (by omega), if_neg (by omega), if_neg (by omega), if_neg (by omega)]; rfl
theorem Meets.swap {Z m u v : Pt} (h : Meets Z m u v) : Meets Z m v u := by
  obtain ⟨k, i, j, h1, h2, h3, h4, h5, h6, h7⟩ := h
  refine ⟨k, i, k - j, h1, h2, h3, by omega, by omega, ?_, ?_⟩
  · rw [h6, show k - (k - j) = j by omega]; omega
  · rw [h7, show k - (k - j) = j by omega]; omega
/- what changes to the right of a point that moves along a segment that an edge does not meet -/
theorem move_up (B : Int) {Z m u v : Pt} (hZm : lam B Z < lam B m) (huv : lam B u < lam B v) (h1 : lam B u ≠ lam B Z) (h2 : lam B u ≠ lam B m) (h3 : lam B v ≠ lam B Z) (h4 : lam B v ≠ lam B m) (hno : ¬ Meets Z m u v) :
    cr B u v m - cr B u v Z = psi B Z m u - psi B Z m v := by
  obtain ⟨c1, c2, c3, c4⟩ := core_signs huv hZm (four_k Z m u v) (four_d B Z m u v) (four_e B Z m u v) (fun h => hno (meets_of Z m u v h))
  unfold cr psi
  generalize turn u v m = C at *
  generalize turn u v Z = A at *
  generalize turn Z m u = D at *
  generalize turn Z m v = E at *
  generalize lam B Z = z at *
  generalize lam B m = M at *
  generalize lam B u = u' at *
  generalize lam B v = v' at *
  clear hno
  rcases Int.lt_or_gt_of_ne h1 with q1 | q1 <;> rcases Int.lt_or_gt_of_ne h2 with q2 | q2 <;> rcases Int.lt_or_gt_of_ne h3 with q3 | q3 <;> rcases Int.lt_or_gt_of_ne h4 with q4 | q4 <;> first | omega | (split <;> split <;> split <;> split <;> omega) | (repeat' split) <;> omega
theorem move (B : Int) {Z m u v : Pt} (hZm : lam B Z < lam B m) (h1 : lam B u ≠ lam B Z) (h2 : lam B u ≠ lam B m) (h3 : lam B v ≠ lam B Z) (h4 : lam B v ≠ lam B m) (he : lam B u = lam B v → u = v) (hno : ¬ Meets Z m u v) :
    cr B u v m - cr B u v Z = psi B Z m u - psi B Z m v := by
  rcases Int.lt_trichotomy (lam B u) (lam B v) with q | q | q
  · exact move_up B hZm q h1 h2 h3 h4 hno
  · have := he q
    subst this
    have c : ∀ P, cr B u u P = 0 := fun P => by unfold cr; rw [if_neg (by omega), if_neg (by omega)]
    rw [c, c]; omega
  · have := move_up B hZm q h3 h4 h1 h2 (fun h => hno h.swap)
    rw [cr_swap B v u m, cr_swap B v u Z]
    omega
end Go.Proofs.Ytfncpfnanmoapaa
/- Simple polygons with integer corners: the inside lies on one side of all edges. -/
set_option linter.unusedVariables false
set_option linter.unusedSimpArgs false
namespace Go.Proofs.Ytfncpfnanmoapaa

/- sums -/
def sumN : Nat → (Nat → Int) → Int
  | 0, _ => 0
  | n + 1, f => sumN n f + f n
theorem sumN_congr {n : Nat} {f g : Nat → Int} (h : ∀ i, i < n → f i = g i) : sumN n f = sumN n g := by
  induction n with
  | zero => rfl
  | succ n ih => unfold sumN; rw [ih (fun i hi => h i (by omega)), h n (by omega)]
theorem sumN_sub (n : Nat) (f g : Nat → Int) : sumN n f - sumN n g = sumN n fun i => f i - g i := by
  induction n with
  | zero => rfl
  | succ n ih =>
    show sumN n f + f n - (sumN n g + g n) = sumN n (fun i => f i - g i) + (f n - g n)
    rw [← ih]; omega
theorem sumN_zero (n : Nat) {f : Nat → Int} (h : ∀ i, i < n → f i = 0) : sumN n f = 0 := by
  induction n with
  | zero => rfl
  | succ n ih => unfold sumN; rw [ih (fun i hi => h i (by omega)), h n (by omega)]; rfl
theorem sumN_tele (n : Nat) (g : Nat → Int) : sumN n (fun i => g i - g (i + 1)) = g 0 - g n := by
  induction n with
  | zero => unfold sumN; omega
  | succ n ih =>
    show sumN n (fun i => g i - g (i + 1)) + (g n - g (n + 1)) = _
    rw [ih]; omega
theorem sumN_first (n : Nat) (f : Nat → Int) : sumN (n + 1) f = f 0 + sumN n fun i => f (i + 1) := by
  induction n with
  | zero => unfold sumN sumN; omega
  | succ n ih =>
    rw [show sumN (n + 1 + 1) f = sumN (n + 1) f + f (n + 1) from rfl, ih]
    show _ = f 0 + (sumN n (fun i => f (i + 1)) + f (n + 1))
    omega
theorem sumN_rot {n : Nat} {f : Nat → Int} (h : ∀ i, f (i + n) = f i) : ∀ s, sumN n (fun j => f (s + j)) = sumN n f
  | 0 => by simp
  | s + 1 => by
    have h1 := sumN_first n (fun j => f (s + j))
    have h2 : sumN (n + 1) (fun j => f (s + j)) = sumN n (fun j => f (s + j)) + f (s + n) := rfl
    rw [h s, sumN_rot h s] at h2
    have h3 : (sumN n fun i => f (s + (i + 1))) = sumN n fun j => f (s + 1 + j) := sumN_congr fun i _ => by rw [show s + (i + 1) = s + 1 + i by omega]
    rw [h3] at h1
    simp only [Nat.add_zero] at h1
    omega

structure Poly (n : Nat) (V : Nat → Pt) : Prop where
  three : 3 ≤ n
  per : ∀ i, V (i + n) = V i
  bend : ∀ i, turn (V i) (V (i + 1)) (V (i + 2)) ≠ 0
  apart : ∀ i d, 2 ≤ d → d + 2 ≤ n → ¬ Meets (V i) (V (i + 1)) (V (i + d)) (V (i + d + 1))
def wind (B : Int) (n : Nat) (V : Nat → Pt) (P : Pt) : Int := sumN n fun i => cr B (V i) (V (i + 1)) P
theorem wind_rot {B : Int} {n : Nat} {V : Nat → Pt} (h : ∀ i, V (i + n) = V i) (P : Pt) (s : Nat) : wind B n V P = sumN n fun j => cr B (V (s + j)) (V (s + j + 1)) P := by
  have := sumN_rot (n := n) (f := fun i => cr B (V i) (V (i + 1)) P) (fun i => by rw [h i, show i + n + 1 = (i + 1) + n by omega, h (i + 1)]) s
  exact this.symm
/- points of a bounded part of the plane have levels of their own -/
def Fit (B : Int) (p : Pt) : Prop := -B < 2 * p.x ∧ 2 * p.x < B
theorem Pt.ext {p q : Pt} (h1 : p.x = q.x) (h2 : p.y = q.y) : p = q := by cases p; cases q; simp_all
theorem lam_inj {B : Int} {p q : Pt} (hp : Fit B p) (hq : Fit B q) (h : lam B p = lam B q) : p = q := by
  obtain ⟨a1, a2⟩ := hp
  obtain ⟨b1, b2⟩ := hq
  unfold lam at h
  have key : B * (p.y - q.y) = p.x - q.x := by rw [Int.mul_sub]; omega
  have hB : 0 < B := by omega
  have hy : p.y = q.y := by
    rcases Int.lt_trichotomy p.y q.y with k | k | k
    · have := Int.mul_le_mul_of_nonneg_left (show p.y - q.y ≤ -1 by omega) (show 0 ≤ B by omega)
      rw [key, Int.mul_neg, Int.mul_one] at this
      omega
    · exact k
    · have := Int.mul_le_mul_of_nonneg_left (show 1 ≤ p.y - q.y by omega) (show 0 ≤ B by omega)
      rw [key, Int.mul_one] at this
      omega
  refine Pt.ext ?_ hy
  rw [hy, Int.sub_self, Int.mul_zero] at key
  omega
/- a point inside of an edge -/
def Inn (a b Q : Pt) : Prop := ∃ k s : Int, 0 < s ∧ s < k ∧ k * Q.x = (k - s) * a.x + s * b.x ∧ k * Q.y = (k - s) * a.y + s * b.y
theorem Inn.swap {a b Q : Pt} (h : Inn a b Q) : Inn b a Q := by
  obtain ⟨k, s, h1, h2, h3, h4⟩ := h
  exact ⟨k, k - s, by omega, by omega, by rw [h3, show k - (k - s) = s by omega]; omega, by rw [h4, show k - (k - s) = s by omega]; omega⟩
theorem affine_turn {k s : Int} {a b Q : Pt} (h1 : k * Q.x = (k - s) * a.x + s * b.x) (h2 : k * Q.y = (k - s) * a.y + s * b.y) (X Y : Pt) : k * turn X Y Q = (k - s) * turn X Y a + s * turn X Y b := by
  have e : k * turn X Y Q = (Y.x - X.x) * (k * Q.y - k * X.y) - (Y.y - X.y) * (k * Q.x - k * X.x) := by unfold turn; grind
  rw [e, h1, h2]
  unfold turn
  grind
theorem affine_lam {k s B : Int} {a b Q : Pt} (h1 : k * Q.x = (k - s) * a.x + s * b.x) (h2 : k * Q.y = (k - s) * a.y + s * b.y) : k * lam B Q = (k - s) * lam B a + s * lam B b := by
  have e : k * lam B Q = B * (k * Q.y) - k * Q.x := by unfold lam; grind
  rw [e, h1, h2]
  unfold lam
  grind
theorem Inn.turn {a b Q : Pt} (h : Inn a b Q) : turn a b Q = 0 := by
  obtain ⟨k, s, h1, h2, h3, h4⟩ := h
  have := affine_turn h3 h4 a b
  rw [(turn_self a b).1, (turn_self a b).2.1, Int.mul_zero, Int.mul_zero] at this
  rcases Int.mul_eq_zero.1 this with q | q
  · omega
  · exact q
theorem Inn.fit {B : Int} {a b Q : Pt} (h : Inn a b Q) (ha : Fit B a) (hb : Fit B b) : Fit B Q := by
  obtain ⟨k, s, h1, h2, h3, h4⟩ := h
  obtain ⟨a1, a2⟩ := ha
  obtain ⟨b1, b2⟩ := hb
  have p1 := m_pp (show 0 < k - s by omega) (show 0 < 2 * a.x + B by omega)
  have p2 := m_pp (show 0 < s by omega) (show 0 < 2 * b.x + B by omega)
  have p3 := m_pp (show 0 < k - s by omega) (show 0 < B - 2 * a.x by omega)
  have p4 := m_pp (show 0 < s by omega) (show 0 < B - 2 * b.x by omega)
  constructor
  · have : 0 < (2 * Q.x + B) * k := by
      have e : (2 * Q.x + B) * k = (k - s) * (2 * a.x + B) + s * (2 * b.x + B) := by
        have : (2 * Q.x + B) * k = 2 * (k * Q.x) + B * k := by grind
        rw [this, h3]; grind
      omega
    have := (sgn_pos (a := 2 * Q.x + B) (show 0 < k by omega)).1.1 this
    omega
  · have : 0 < (B - 2 * Q.x) * k := by
      have e : (B - 2 * Q.x) * k = (k - s) * (B - 2 * a.x) + s * (B - 2 * b.x) := by
        have : (B - 2 * Q.x) * k = B * k - 2 * (k * Q.x) := by grind
        rw [this, h3]; grind
      omega
    have := (sgn_pos (a := B - 2 * Q.x) (show 0 < k by omega)).1.1 this
    omega
theorem Inn.lam {B : Int} {a b Q : Pt} (h : Inn a b Q) (hab : lam B a < lam B b) : lam B a < lam B Q ∧ lam B Q < lam B b := by
  obtain ⟨k, s, h1, h2, h3, h4⟩ := h
  have e := affine_lam (B := B) h3 h4
  have p1 := m_pp (show 0 < s by omega) (show 0 < Go.Proofs.Ytfncpfnanmoapaa.lam B b - Go.Proofs.Ytfncpfnanmoapaa.lam B a by omega)
  have p2 := m_pp (show 0 < k - s by omega) (show 0 < Go.Proofs.Ytfncpfnanmoapaa.lam B b - Go.Proofs.Ytfncpfnanmoapaa.lam B a by omega)
  constructor
  · have : 0 < (Go.Proofs.Ytfncpfnanmoapaa.lam B Q - Go.Proofs.Ytfncpfnanmoapaa.lam B a) * k := by
      have e2 : (Go.Proofs.Ytfncpfnanmoapaa.lam B Q - Go.Proofs.Ytfncpfnanmoapaa.lam B a) * k = s * (Go.Proofs.Ytfncpfnanmoapaa.lam B b - Go.Proofs.Ytfncpfnanmoapaa.lam B a) := by
        have : (Go.Proofs.Ytfncpfnanmoapaa.lam B Q - Go.Proofs.Ytfncpfnanmoapaa.lam B a) * k = k * Go.Proofs.Ytfncpfnanmoapaa.lam B Q - k * Go.Proofs.Ytfncpfnanmoapaa.lam B a := by grind
        rw [this, e]; grind
      omega
    have := (sgn_pos (a := Go.Proofs.Ytfncpfnanmoapaa.lam B Q - Go.Proofs.Ytfncpfnanmoapaa.lam B a) (show 0 < k by omega)).1.1 this
    omega
  · have : 0 < (Go.Proofs.Ytfncpfnanmoapaa.lam B b - Go.Proofs.Ytfncpfnanmoapaa.lam B Q) * k := by
      have e2 : (Go.Proofs.Ytfncpfnanmoapaa.lam B b - Go.Proofs.Ytfncpfnanmoapaa.lam B Q) * k = (k - s) * (Go.Proofs.Ytfncpfnanmoapaa.lam B b - Go.Proofs.Ytfncpfnanmoapaa.lam B a) := by
        have : (Go.Proofs.Ytfncpfnanmoapaa.lam B b - Go.Proofs.Ytfncpfnanmoapaa.lam B Q) * k = k * Go.Proofs.Ytfncpfnanmoapaa.lam B b - k * Go.Proofs.Ytfncpfnanmoapaa.lam B Q := by grind
        rw [this, e]; grind
      omega
    have := (sgn_pos (a := Go.Proofs.Ytfncpfnanmoapaa.lam B b - Go.Proofs.Ytfncpfnanmoapaa.lam B Q) (show 0 < k by omega)).1.1 this
    omega
theorem Inn.turn1 {a b Q c : Pt} (h : Inn a b Q) : (0 < Go.Proofs.Ytfncpfnanmoapaa.turn b c Q ↔ 0 < Go.Proofs.Ytfncpfnanmoapaa.turn a b c) ∧ (Go.Proofs.Ytfncpfnanmoapaa.turn b c Q < 0 ↔ Go.Proofs.Ytfncpfnanmoapaa.turn a b c < 0) := by
  obtain ⟨k, s, h1, h2, h3, h4⟩ := h
  have e := affine_turn h3 h4 b c
  rw [(turn_self b c).1, Int.mul_zero, Int.add_zero, turn_cyc a b c, Int.mul_comm, Int.mul_comm (k - s)] at e
  have s1 := sgn_pos (a := Go.Proofs.Ytfncpfnanmoapaa.turn b c Q) (show 0 < k by omega)
  have s2 := sgn_pos (a := Go.Proofs.Ytfncpfnanmoapaa.turn a b c) (show 0 < k - s by omega)
  rw [← e] at s2
  exact ⟨s1.1.symm.trans s2.1, s1.2.symm.trans s2.2⟩
theorem Inn.turn2 {a b c Q : Pt} (h : Inn b c Q) : (0 < Go.Proofs.Ytfncpfnanmoapaa.turn a b Q ↔ 0 < Go.Proofs.Ytfncpfnanmoapaa.turn a b c) ∧ (Go.Proofs.Ytfncpfnanmoapaa.turn a b Q < 0 ↔ Go.Proofs.Ytfncpfnanmoapaa.turn a b c < 0) := by
  obtain ⟨k, s, h1, h2, h3, h4⟩ := h
  have e := affine_turn h3 h4 a b
  rw [(turn_self a b).2.1, Int.mul_zero, Int.zero_add, Int.mul_comm, Int.mul_comm s] at e
  have s1 := sgn_pos (a := Go.Proofs.Ytfncpfnanmoapaa.turn a b Q) (show 0 < k by omega)
  have s2 := sgn_pos (a := Go.Proofs.Ytfncpfnanmoapaa.turn a b c) (show 0 < s by omega)
  rw [← e] at s2
  exact ⟨s1.1.symm.trans s2.1, s1.2.symm.trans s2.2⟩
/- parts of edges -/
theorem Inn.meets {a b Q u v : Pt} (h : Inn a b Q) (hm : Meets Q b u v) : Meets a b u v := by
  obtain ⟨k, s, h1, h2, h3, h4⟩ := h
  obtain ⟨k', i, j, g1, g2, g3, g4, g5, g6, g7⟩ := hm
  refine ⟨k * k', (k' - i) * s + k * i, k * j, m_pp (by omega) g1, by have := w_pp (show 0 ≤ k' - i by omega) (show 0 ≤ s by omega); have := w_pp (show 0 ≤ k by omega) g2; omega, ?_, w_pp (by omega) g4, Int.mul_le_mul_of_nonneg_left g5 (by omega), ?_, ?_⟩
  · have e : k * k' - ((k' - i) * s + k * i) = (k' - i) * (k - s) := by grind
    have := w_pp (show 0 ≤ k' - i by omega) (show 0 ≤ k - s by omega)
    omega
  · have e1 : k * k' - ((k' - i) * s + k * i) = (k' - i) * (k - s) := by grind
    have e2 : k * k' - k * j = k * (k' - j) := by grind
    rw [e1, e2]
    have : (k' - i) * (k - s) * a.x + ((k' - i) * s + k * i) * b.x = (k' - i) * ((k - s) * a.x + s * b.x) + k * (i * b.x) := by grind
    rw [this, ← h3]
    have : (k' - i) * (k * Q.x) + k * (i * b.x) = k * ((k' - i) * Q.x + i * b.x) := by grind
    rw [this, g6]; grind
  · have e1 : k * k' - ((k' - i) * s + k * i) = (k' - i) * (k - s) := by grind
    have e2 : k * k' - k * j = k * (k' - j) := by grind
    rw [e1, e2]
    have : (k' - i) * (k - s) * a.y + ((k' - i) * s + k * i) * b.y = (k' - i) * ((k - s) * a.y + s * b.y) + k * (i * b.y) := by grind
    rw [this, ← h4]
    have : (k' - i) * (k * Q.y) + k * (i * b.y) = k * ((k' - i) * Q.y + i * b.y) := by grind
    rw [this, g7]; grind
theorem Meets.rev {Z m u v : Pt} (h : Meets Z m u v) : Meets m Z u v := by
  obtain ⟨k, i, j, h1, h2, h3, h4, h5, h6, h7⟩ := h
  refine ⟨k, k - i, j, h1, by omega, by omega, h4, h5, ?_, ?_⟩
  · rw [← h6, show k - (k - i) = i by omega]; omega
  · rw [← h7, show k - (k - i) = i by omega]; omega
theorem Meets.symm {Z m u v : Pt} (h : Meets Z m u v) : Meets u v Z m := by
  obtain ⟨k, i, j, h1, h2, h3, h4, h5, h6, h7⟩ := h
  exact ⟨k, j, i, h1, h4, h5, h2, h3, h6.symm, h7.symm⟩
/- the edge before: it meets the part behind its end nowhere -/
theorem before_apart {p a b Q : Pt} (ht : turn p a b ≠ 0) (h : Inn a b Q) : ¬ Meets Q b p a := by
  intro hm
  obtain ⟨k, s, h1, h2, h3, h4⟩ := h
  obtain ⟨k', i, j, g1, g2, g3, g4, g5, g6, g7⟩ := hm
  -- turn p a of the common point
  have e1 := affine_turn h3 h4 p a
  rw [(turn_self p a).2.1, Int.mul_zero, Int.zero_add] at e1
  have e2 : (k' - i) * turn p a Q + i * turn p a b = 0 := by
    have e : (k' - i) * turn p a Q + i * turn p a b = (a.x - p.x) * (((k' - i) * Q.y + i * b.y) - k' * p.y) - (a.y - p.y) * (((k' - i) * Q.x + i * b.x) - k' * p.x) := by unfold turn; grind
    rw [e, g6, g7]; grind
  have e3 : ((k' - i) * s + k * i) * turn p a b = 0 := by
    have : ((k' - i) * s + k * i) * turn p a b = (k' - i) * (s * turn p a b) + k * (i * turn p a b) := by grind
    rw [this, ← e1]
    have : (k' - i) * (k * turn p a Q) + k * (i * turn p a b) = k * ((k' - i) * turn p a Q + i * turn p a b) := by grind
    rw [this, e2, Int.mul_zero]
  rcases Int.mul_eq_zero.1 e3 with q | q
  · have q1 := w_pp (show 0 ≤ k' - i by omega) (show 0 ≤ s by omega)
    have q2 := w_pp (show 0 ≤ k by omega) g2
    have q3 : (k' - i) * s = 0 := by omega
    have q4 : k * i = 0 := by omega
    rcases Int.mul_eq_zero.1 q3 with r | r
    · rcases Int.mul_eq_zero.1 q4 with r' | r' <;> omega
    · omega
  · exact ht q
section
variable {n : Nat} {V : Nat → Pt} (hp : Poly n V)
include hp
theorem Poly.ne (i t : Nat) (h1 : 1 ≤ t) (h2 : t < n) : V i ≠ V (i + t) := by
  intro e
  have h3 := hp.three
  by_cases q1 : t = 1
  · subst q1
    have := hp.bend i
    rw [← e] at this
    unfold turn at this
    simp at this
  by_cases q2 : t = n - 1
  · have := hp.bend (i + t)
    rw [show i + t + 1 = i + n by omega, hp.per i, show i + t + 2 = (i + 1) + n by omega, hp.per (i + 1), ← e] at this
    unfold turn at this
    simp at this
  · refine hp.apart i t (by omega) (by omega) ⟨1, 0, 0, by omega, by omega, by omega, by omega, by omega, ?_, ?_⟩ <;> rw [← e] <;> omega
theorem Poly.ne' (i t u : Nat) (h1 : t < u) (h2 : u < t + n) : V (i + t) ≠ V (i + u) := by
  have := hp.ne (i + t) (u - t) (by omega) (by omega)
  rwa [show i + t + (u - t) = i + u by omega] at this
/- the other edges do not meet the part of an edge behind a point of it -/
theorem Poly.tail_apart (i j : Nat) (hj : j < n - 2) {Q : Pt} (h : Inn (V i) (V (i + 1)) Q) : ¬ Meets Q (V (i + 1)) (V (i + 2 + j)) (V (i + 2 + j + 1)) := by
  have h3 := hp.three
  by_cases q : j = n - 3
  · have e : i + 2 + j = i + (n - 1) := by omega
    have e2 : i + 2 + j + 1 = i + n := by omega
    rw [e2, hp.per i, e]
    have := hp.bend (i + (n - 1))
    rw [show i + (n - 1) + 1 = i + n by omega, hp.per i, show i + (n - 1) + 2 = (i + 1) + n by omega, hp.per (i + 1)] at this
    exact before_apart this h
  · intro hm
    exact hp.apart i (2 + j) (by omega) (by omega) (by have := h.meets hm; rwa [show i + 2 + j = i + (2 + j) by omega] at this)
/- the other edges do not meet the part of an edge before a point of it -/
theorem Poly.head_apart (i j : Nat) (hj : j < n - 2) {Q : Pt} (h : Inn (V (i + 1)) (V (i + 2)) Q) : ¬ Meets (V (i + 1)) Q (V (i + 2 + j)) (V (i + 2 + j + 1)) := by
  have h3 := hp.three
  by_cases q : j = 0
  · subst q
    have := hp.bend (i + 1)
    intro hm
    refine before_apart (p := V (i + 3)) (a := V (i + 2)) (b := V (i + 1)) (Q := Q) ?_ h.swap (hm.rev.swap)
    rw [← turn_cyc, turn_swap]
    rw [show i + 1 + 2 = i + 3 by omega, show i + 1 + 1 = i + 2 by omega] at this
    omega
  · intro hm
    have h1 := h.swap.meets hm.rev
    exact hp.apart (i + 1) (1 + j) (by omega) (by omega) (by have := h1.rev; rwa [show i + 2 + j = i + 1 + (1 + j) by omega] at this)
theorem Poly.split2 (B : Int) (i : Nat) (P : Pt) : wind B n V P = cr B (V i) (V (i + 1)) P + cr B (V (i + 1)) (V (i + 2)) P + sumN (n - 2) fun j => cr B (V (i + 2 + j)) (V (i + 2 + j + 1)) P := by
  have h3 := hp.three
  rw [wind_rot hp.per P i]
  obtain ⟨r, rfl⟩ : ∃ r, n = r + 2 := ⟨n - 2, by omega⟩
  rw [sumN_first, sumN_first, show r + 2 - 2 = r by omega]
  simp only [Nat.add_zero]
  have : (sumN r fun j => cr B (V (i + (j + 1 + 1))) (V (i + (j + 1 + 1) + 1)) P) = sumN r fun j => cr B (V (i + 2 + j)) (V (i + 2 + j + 1)) P := sumN_congr fun j _ => by rw [show i + (j + 1 + 1) = i + 2 + j by omega]
  rw [this]
  show cr B (V i) (V (i + 1)) P + (cr B (V (i + 1)) (V (i + 1 + 1)) P + _) = _
  rw [show i + 1 + 1 = i + 2 by omega]
  omega
/- levels of corners -/
theorem Poly.lam_ne {B : Int} (hB : ∀ i, Fit B (V i)) (i t u : Nat) (h1 : t < u) (h2 : u < t + n) : lam B (V (i + t)) ≠ lam B (V (i + u)) := fun e => hp.ne' i t u h1 h2 (lam_inj (hB _) (hB _) e)
theorem Poly.on_edge (i t : Nat) (h1 : 2 ≤ t) (h2 : t < n) {Q : Pt} (h : Inn (V i) (V (i + 1)) Q) : V (i + t) ≠ Q := by
  intro e
  have h3 := hp.three
  by_cases q : t = n - 1
  · have := hp.bend (i + t)
    rw [show i + t + 1 = i + n by omega, hp.per i, show i + t + 2 = (i + 1) + n by omega, hp.per (i + 1), e, ← turn_cyc, h.turn] at this
    exact this rfl
  · obtain ⟨k, s, g1, g2, g3, g4⟩ := h
    refine hp.apart i t h1 (by omega) ⟨k, s, 0, by omega, by omega, by omega, by omega, by omega, ?_, ?_⟩ <;> rw [e, Int.sub_zero, Int.zero_mul] <;> omega
end
end Go.Proofs.Ytfncpfnanmoapaa
/- Simple polygons: the inside lies on one side of all edges. -/
set_option linter.unusedVariables false
set_option linter.unusedSimpArgs false
namespace Go.Proofs.Ytfncpfnanmoapaa

theorem cr_edge {B : Int} {a b Q : Pt} (h : turn a b Q = 0) : cr B a b Q = 0 := by
  unfold cr
  rw [if_neg (by omega), if_neg (by omega)]
theorem cr_start (B : Int) (a b : Pt) : cr B a b a = 0 := cr_edge (turn_self a b).1
theorem cr_end (B : Int) (a b : Pt) : cr B a b b = 0 := cr_edge (turn_self a b).2.1
theorem exists_max (f : Nat → Int) : ∀ n, 0 < n → ∃ i, i < n ∧ ∀ j, j < n → f j ≤ f i
  | 1, _ => ⟨0, by omega, fun j hj => by rw [show j = 0 by omega]; exact Int.le_refl _⟩
  | n + 2, _ => by
    obtain ⟨i, h1, h2⟩ := exists_max f (n + 1) (by omega)
    by_cases q : f i ≤ f (n + 1)
    · refine ⟨n + 1, by omega, fun j hj => ?_⟩
      by_cases e : j = n + 1
      · rw [e]; exact Int.le_refl _
      · have := h2 j (by omega); omega
    · refine ⟨i, by omega, fun j hj => ?_⟩
      by_cases e : j = n + 1
      · rw [e]; omega
      · exact h2 j (by omega)
section
variable {B : Int} {n : Nat} {V : Nat → Pt} (hp : Poly n V) (hB : ∀ i, Fit B (V i))
include hp hB
/- along the tail of an edge: the other edges -/
theorem tail_sum (i : Nat) {Q : Pt} (h : Inn (V i) (V (i + 1)) Q) :
    (lam B (V i) < lam B (V (i + 1)) → (sumN (n - 2) fun j => cr B (V (i + 2 + j)) (V (i + 2 + j + 1)) (V (i + 1))) - (sumN (n - 2) fun j => cr B (V (i + 2 + j)) (V (i + 2 + j + 1)) Q) = psi B Q (V (i + 1)) (V (i + 2)) - psi B Q (V (i + 1)) (V i)) ∧
    (lam B (V (i + 1)) < lam B (V i) → (sumN (n - 2) fun j => cr B (V (i + 2 + j)) (V (i + 2 + j + 1)) Q) - (sumN (n - 2) fun j => cr B (V (i + 2 + j)) (V (i + 2 + j + 1)) (V (i + 1))) = psi B (V (i + 1)) Q (V (i + 2)) - psi B (V (i + 1)) Q (V i)) := by
  have h3 := hp.three
  have hQ : Fit B Q := h.fit (hB _) (hB _)
  -- levels
  have lb : ∀ t, 2 ≤ t → t ≤ n → lam B (V (i + t)) ≠ lam B (V (i + 1)) := fun t h1 h2 => (hp.lam_ne hB i 1 t (by omega) (by omega)).symm
  have lQ : ∀ t, 2 ≤ t → t ≤ n → lam B (V i) ≠ lam B (V (i + 1)) → lam B (V (i + t)) ≠ lam B Q := fun t h1 h2 h12 e => by
    have e' := lam_inj (hB _) hQ e
    by_cases q : t = n
    · rw [q, hp.per i] at e
      rcases Int.lt_or_gt_of_ne h12 with k | k
      · have := (h.lam k).1; omega
      · have := (h.swap.lam k).2; omega
    · exact hp.on_edge i t h1 (by omega) h e'
  have he : ∀ j, lam B (V (i + 2 + j)) = lam B (V (i + 2 + j + 1)) → V (i + 2 + j) = V (i + 2 + j + 1) := fun j e => lam_inj (hB _) (hB _) e
  constructor
  · intro hup
    have hQb := (h.lam hup).2
    rw [sumN_sub]
    rw [sumN_congr (g := fun j => psi B Q (V (i + 1)) (V (i + 2 + j)) - psi B Q (V (i + 1)) (V (i + 2 + (j + 1)))) (fun j hj => ?_)]
    · rw [sumN_tele (n - 2) (fun j => psi B Q (V (i + 1)) (V (i + 2 + j)))]
      show psi B Q (V (i + 1)) (V (i + 2 + 0)) - psi B Q (V (i + 1)) (V (i + 2 + (n - 2))) = _
      rw [show i + 2 + (n - 2) = i + n by omega, hp.per i]
    · have := move B hQb (u := V (i + 2 + j)) (v := V (i + 2 + j + 1)) (by have := lQ (2 + j) (by omega) (by omega) (by omega); rwa [show i + (2 + j) = i + 2 + j by omega] at this) (by have := lb (2 + j) (by omega) (by omega); rwa [show i + (2 + j) = i + 2 + j by omega] at this)
        (by have := lQ (3 + j) (by omega) (by omega) (by omega); rwa [show i + (3 + j) = i + 2 + j + 1 by omega] at this) (by have := lb (3 + j) (by omega) (by omega); rwa [show i + (3 + j) = i + 2 + j + 1 by omega] at this) (he j) (hp.tail_apart i j hj h)
      exact this
  · intro hdn
    have hQb := (h.swap.lam hdn).1
    rw [sumN_sub]
    rw [sumN_congr (g := fun j => psi B (V (i + 1)) Q (V (i + 2 + j)) - psi B (V (i + 1)) Q (V (i + 2 + (j + 1)))) (fun j hj => ?_)]
    · rw [sumN_tele (n - 2) (fun j => psi B (V (i + 1)) Q (V (i + 2 + j)))]
      show psi B (V (i + 1)) Q (V (i + 2 + 0)) - psi B (V (i + 1)) Q (V (i + 2 + (n - 2))) = _
      rw [show i + 2 + (n - 2) = i + n by omega, hp.per i]
    · have := move B hQb (u := V (i + 2 + j)) (v := V (i + 2 + j + 1)) (by have := lb (2 + j) (by omega) (by omega); rwa [show i + (2 + j) = i + 2 + j by omega] at this) (by have := lQ (2 + j) (by omega) (by omega) (by omega); rwa [show i + (2 + j) = i + 2 + j by omega] at this)
        (by have := lb (3 + j) (by omega) (by omega); rwa [show i + (3 + j) = i + 2 + j + 1 by omega] at this) (by have := lQ (3 + j) (by omega) (by omega) (by omega); rwa [show i + (3 + j) = i + 2 + j + 1 by omega] at this) (he j) (fun hm => hp.tail_apart i j hj h hm.rev)
      exact this
theorem head_sum (i : Nat) {Q : Pt} (h : Inn (V (i + 1)) (V (i + 2)) Q) :
    (lam B (V (i + 1)) < lam B (V (i + 2)) → (sumN (n - 2) fun j => cr B (V (i + 2 + j)) (V (i + 2 + j + 1)) Q) - (sumN (n - 2) fun j => cr B (V (i + 2 + j)) (V (i + 2 + j + 1)) (V (i + 1))) = psi B (V (i + 1)) Q (V (i + 2)) - psi B (V (i + 1)) Q (V i)) ∧
    (lam B (V (i + 2)) < lam B (V (i + 1)) → (sumN (n - 2) fun j => cr B (V (i + 2 + j)) (V (i + 2 + j + 1)) (V (i + 1))) - (sumN (n - 2) fun j => cr B (V (i + 2 + j)) (V (i + 2 + j + 1)) Q) = psi B Q (V (i + 1)) (V (i + 2)) - psi B Q (V (i + 1)) (V i)) := by
  have h3 := hp.three
  have hQ : Fit B Q := h.fit (hB _) (hB _)
  have lb : ∀ t, 2 ≤ t → t ≤ n → lam B (V (i + t)) ≠ lam B (V (i + 1)) := fun t h1 h2 => (hp.lam_ne hB i 1 t (by omega) (by omega)).symm
  have lQ : ∀ t, 2 ≤ t → t ≤ n → lam B (V (i + 1)) ≠ lam B (V (i + 2)) → lam B (V (i + t)) ≠ lam B Q := fun t h1 h2 h12 e => by
    have e' := lam_inj (hB _) hQ e
    by_cases q : t = 2
    · subst q
      rcases Int.lt_or_gt_of_ne h12 with k | k
      · have := (h.lam k).2; omega
      · have := (h.swap.lam k).1; omega
    · refine hp.on_edge (i + 1) (t - 1) (by omega) (by omega) (Q := Q) h ?_
      rw [show i + 1 + (t - 1) = i + t by omega]; exact e'
  have he : ∀ j, lam B (V (i + 2 + j)) = lam B (V (i + 2 + j + 1)) → V (i + 2 + j) = V (i + 2 + j + 1) := fun j e => lam_inj (hB _) (hB _) e
  constructor
  · intro hup
    have hQb := (h.lam hup).1
    rw [sumN_sub]
    rw [sumN_congr (g := fun j => psi B (V (i + 1)) Q (V (i + 2 + j)) - psi B (V (i + 1)) Q (V (i + 2 + (j + 1)))) (fun j hj => ?_)]
    · rw [sumN_tele (n - 2) (fun j => psi B (V (i + 1)) Q (V (i + 2 + j)))]
      show psi B (V (i + 1)) Q (V (i + 2 + 0)) - psi B (V (i + 1)) Q (V (i + 2 + (n - 2))) = _
      rw [show i + 2 + (n - 2) = i + n by omega, hp.per i]
    · have := move B hQb (u := V (i + 2 + j)) (v := V (i + 2 + j + 1)) (by have := lb (2 + j) (by omega) (by omega); rwa [show i + (2 + j) = i + 2 + j by omega] at this) (by have := lQ (2 + j) (by omega) (by omega) (by omega); rwa [show i + (2 + j) = i + 2 + j by omega] at this)
        (by have := lb (3 + j) (by omega) (by omega); rwa [show i + (3 + j) = i + 2 + j + 1 by omega] at this) (by have := lQ (3 + j) (by omega) (by omega) (by omega); rwa [show i + (3 + j) = i + 2 + j + 1 by omega] at this) (he j) (hp.head_apart i j hj h)
      exact this
  · intro hdn
    have hQb := (h.swap.lam hdn).2
    rw [sumN_sub]
    rw [sumN_congr (g := fun j => psi B Q (V (i + 1)) (V (i + 2 + j)) - psi B Q (V (i + 1)) (V (i + 2 + (j + 1)))) (fun j hj => ?_)]
    · rw [sumN_tele (n - 2) (fun j => psi B Q (V (i + 1)) (V (i + 2 + j)))]
      show psi B Q (V (i + 1)) (V (i + 2 + 0)) - psi B Q (V (i + 1)) (V (i + 2 + (n - 2))) = _
      rw [show i + 2 + (n - 2) = i + n by omega, hp.per i]
    · have := move B hQb (u := V (i + 2 + j)) (v := V (i + 2 + j + 1)) (by have := lQ (2 + j) (by omega) (by omega) (by omega); rwa [show i + (2 + j) = i + 2 + j by omega] at this) (by have := lb (2 + j) (by omega) (by omega); rwa [show i + (2 + j) = i + 2 + j by omega] at this)
        (by have := lQ (3 + j) (by omega) (by omega) (by omega); rwa [show i + (3 + j) = i + 2 + j + 1 by omega] at this) (by have := lb (3 + j) (by omega) (by omega); rwa [show i + (3 + j) = i + 2 + j + 1 by omega] at this) (he j) (fun hm => hp.head_apart i j hj h hm.rev)
      exact this
/- the number that a corner gives to both of its edges -/
def cornerJ (B : Int) (n : Nat) (V : Nat → Pt) (i : Nat) : Int :=
  wind B n V (V (i + 1)) + (if lam B (V i) < lam B (V (i + 1)) then 1 - (if lam B (V (i + 2)) < lam B (V (i + 1)) ∧ turn (V i) (V (i + 1)) (V (i + 2)) < 0 then 1 else 0) else (if lam B (V (i + 1)) < lam B (V (i + 2)) ∧ 0 < turn (V i) (V (i + 1)) (V (i + 2)) then 1 else 0))
def sideI (B : Int) (n : Nat) (V : Nat → Pt) (i : Nat) (Q : Pt) : Int := wind B n V Q + (if lam B (V i) < lam B (V (i + 1)) then 1 else 0)
theorem side_end (i : Nat) {Q : Pt} (h : Inn (V i) (V (i + 1)) Q) : sideI B n V i Q = cornerJ B n V i := by
  have h3 := hp.three
  obtain ⟨t1, t2⟩ := tail_sum hp hB i h
  have s1 := hp.split2 B i (V (i + 1))
  have s2 := hp.split2 B i Q
  rw [cr_end, cr_start] at s1
  rw [cr_edge h.turn] at s2
  have hab : lam B (V i) ≠ lam B (V (i + 1)) := hp.lam_ne hB i 0 1 (by omega) (by omega)
  have hbc : lam B (V (i + 1)) ≠ lam B (V (i + 2)) := hp.lam_ne hB i 1 2 (by omega) (by omega)
  have hQ : Fit B Q := h.fit (hB _) (hB _)
  have hcQ : lam B (V (i + 2)) ≠ lam B Q := fun e => hp.on_edge i 2 (by omega) (by omega) h (lam_inj (hB _) hQ e)
  have u1 := h.turn1 (c := V (i + 2))
  have u2 : (turn Q (V (i + 1)) (V (i + 2)) < 0 ↔ turn (V i) (V (i + 1)) (V (i + 2)) < 0) := by rw [← turn_cyc]; exact u1.2
  have u3 : (turn (V (i + 1)) Q (V (i + 2)) < 0 ↔ 0 < turn (V i) (V (i + 1)) (V (i + 2))) := by
    rw [turn_swap, ← turn_cyc]
    have := u1.1
    omega
  unfold sideI cornerJ
  rw [s1, s2]
  rcases Int.lt_or_gt_of_ne hab with k | k
  · have hl := h.lam k
    have t := t1 k
    rw [if_pos k, if_pos k]
    have p1 : psi B Q (V (i + 1)) (V i) = 0 := by unfold psi; rw [if_neg (by omega)]
    have p2 : psi B Q (V (i + 1)) (V (i + 2)) - cr B (V (i + 1)) (V (i + 2)) Q = if lam B (V (i + 2)) < lam B (V (i + 1)) ∧ turn (V i) (V (i + 1)) (V (i + 2)) < 0 then 1 else 0 := by
      unfold psi cr
      (repeat' split) <;> omega
    rw [← p2]
    omega
  · have hl := h.swap.lam k
    have t := t2 k
    rw [if_neg (by omega), if_neg (by omega)]
    have p1 : psi B (V (i + 1)) Q (V i) = 0 := by unfold psi; rw [if_neg (by omega)]
    have p2 : psi B (V (i + 1)) Q (V (i + 2)) + cr B (V (i + 1)) (V (i + 2)) Q = if lam B (V (i + 1)) < lam B (V (i + 2)) ∧ 0 < turn (V i) (V (i + 1)) (V (i + 2)) then 1 else 0 := by
      unfold psi cr
      (repeat' split) <;> omega
    rw [← p2]
    omega
theorem side_start (i : Nat) {Q : Pt} (h : Inn (V (i + 1)) (V (i + 2)) Q) : sideI B n V (i + 1) Q = cornerJ B n V i := by
  have h3 := hp.three
  obtain ⟨t1, t2⟩ := head_sum hp hB i h
  have s1 := hp.split2 B i (V (i + 1))
  have s2 := hp.split2 B i Q
  rw [cr_end, cr_start] at s1
  rw [cr_edge h.turn] at s2
  have hab : lam B (V i) ≠ lam B (V (i + 1)) := hp.lam_ne hB i 0 1 (by omega) (by omega)
  have hbc : lam B (V (i + 1)) ≠ lam B (V (i + 2)) := hp.lam_ne hB i 1 2 (by omega) (by omega)
  have hQ : Fit B Q := h.fit (hB _) (hB _)
  have haQ : lam B (V i) ≠ lam B Q := fun e => by
    have := hp.on_edge (i + 1) (n - 1) (by omega) (by omega) (Q := Q) h
    rw [show i + 1 + (n - 1) = i + n by omega, hp.per i] at this
    exact this (lam_inj (hB _) hQ e)
  have hT := hp.bend i
  have u1 := h.turn2 (a := V i)
  have u2 : (turn (V (i + 1)) Q (V i) < 0 ↔ turn (V i) (V (i + 1)) (V (i + 2)) < 0) := by rw [turn_cyc]; exact u1.2
  have u3 : (turn Q (V (i + 1)) (V i) < 0 ↔ 0 < turn (V i) (V (i + 1)) (V (i + 2))) := by
    rw [turn_swap, turn_cyc]
    have := u1.1
    omega
  unfold sideI cornerJ
  rw [s1, s2, show i + 1 + 1 = i + 2 from rfl]
  rcases Int.lt_or_gt_of_ne hbc with k | k
  · have hl := h.lam k
    have t := t1 k
    rw [if_pos k]
    have p1 : psi B (V (i + 1)) Q (V (i + 2)) = 0 := by unfold psi; rw [if_neg (by omega)]
    have p2 : cr B (V i) (V (i + 1)) Q - psi B (V (i + 1)) Q (V i) = if lam B (V (i + 1)) < lam B (V i) ∧ turn (V i) (V (i + 1)) (V (i + 2)) < 0 then -1 else 0 := by
      unfold psi cr
      (repeat' split) <;> omega
    have p3 : cr B (V i) (V (i + 1)) Q - psi B (V (i + 1)) Q (V i) + 1 = (if lam B (V i) < lam B (V (i + 1)) then 1 - (if lam B (V (i + 2)) < lam B (V (i + 1)) ∧ turn (V i) (V (i + 1)) (V (i + 2)) < 0 then 1 else 0) else (if lam B (V (i + 1)) < lam B (V (i + 2)) ∧ 0 < turn (V i) (V (i + 1)) (V (i + 2)) then 1 else 0)) := by
      rw [p2]
      (repeat' split) <;> omega
    rw [← p3]
    omega
  · have hl := h.swap.lam k
    have t := t2 k
    rw [if_neg (by omega)]
    have p1 : psi B Q (V (i + 1)) (V (i + 2)) = 0 := by unfold psi; rw [if_neg (by omega)]
    have p2 : cr B (V i) (V (i + 1)) Q + psi B Q (V (i + 1)) (V i) = if lam B (V i) < lam B (V (i + 1)) ∧ 0 < turn (V i) (V (i + 1)) (V (i + 2)) then 1 else 0 := by
      unfold psi cr
      (repeat' split) <;> omega
    have p3 : cr B (V i) (V (i + 1)) Q + psi B Q (V (i + 1)) (V i) = (if lam B (V i) < lam B (V (i + 1)) then 1 - (if lam B (V (i + 2)) < lam B (V (i + 1)) ∧ turn (V i) (V (i + 1)) (V (i + 2)) < 0 then 1 else 0) else (if lam B (V (i + 1)) < lam B (V (i + 2)) ∧ 0 < turn (V i) (V (i + 1)) (V (i + 2)) then 1 else 0)) := by
      rw [p2]
      (repeat' split) <;> omega
    rw [← p3]
    omega
/- one number for all edges -/
theorem corner_next (i : Nat) (hm : ∃ Q, Inn (V (i + 1)) (V (i + 2)) Q) : cornerJ B n V (i + 1) = cornerJ B n V i := by
  obtain ⟨Q, h⟩ := hm
  rw [← side_end hp hB (i + 1) h, side_start hp hB i h]
theorem corner_all (hm : ∀ i, ∃ Q, Inn (V i) (V (i + 1)) Q) : ∀ i, cornerJ B n V i = cornerJ B n V 0
  | 0 => rfl
  | i + 1 => by rw [corner_next hp hB i (hm (i + 1)), corner_all hm i]
theorem corner_01 (hm : ∀ i, ∃ Q, Inn (V i) (V (i + 1)) Q) : cornerJ B n V 0 = 0 ∨ cornerJ B n V 0 = 1 := by
  have h3 := hp.three
  obtain ⟨i, h1, h2⟩ := exists_max (fun i => lam B (V (i + 1))) n (by omega)
  have hmax : ∀ j, lam B (V j) ≤ lam B (V (i + 1)) := fun j => by
    have h4 := h2 ((j + (n - 1)) % n) (Nat.mod_lt _ (by omega))
    have per : ∀ q r, V (r + n * q) = V r := by
      intro q
      induction q with
      | zero => intro r; rw [Nat.mul_zero, Nat.add_zero]
      | succ q ih => intro r; rw [Nat.mul_succ, ← Nat.add_assoc, hp.per, ih]
    have e := Nat.div_add_mod (j + (n - 1)) n
    have : V ((j + (n - 1)) % n + 1) = V j := by
      rw [← per ((j + (n - 1)) / n) ((j + (n - 1)) % n + 1), show (j + (n - 1)) % n + 1 + n * ((j + (n - 1)) / n) = j + n by omega, hp.per]
    have h4 : lam B (V ((j + (n - 1)) % n + 1)) ≤ lam B (V (i + 1)) := h4
    rwa [this] at h4
  have hw : wind B n V (V (i + 1)) = 0 := sumN_zero n fun j _ => by
    have := hmax j
    have := hmax (j + 1)
    unfold cr
    rw [if_neg (by omega), if_neg (by omega)]
  rw [← corner_all hp hB hm i]
  unfold cornerJ
  have hab : lam B (V i) ≠ lam B (V (i + 1)) := hp.lam_ne hB i 0 1 (by omega) (by omega)
  have := hmax i
  have := hmax (i + 2)
  rw [hw, if_pos (by omega)]
  split <;> omega
end
end Go.Proofs.Ytfncpfnanmoapaa
/- Simple polygons: how often they wind around a point. -/
set_option linter.unusedVariables false
set_option linter.unusedSimpArgs false
namespace Go.Proofs.Ytfncpfnanmoapaa

def lx (p q : Pt) : Prop := p.y < q.y ∨ (p.y = q.y ∧ q.x < p.x)
instance (p q : Pt) : Decidable (lx p q) := by unfold lx; infer_instance
theorem lam_lx {B : Int} {p q : Pt} (hp : Fit B p) (hq : Fit B q) : lam B p < lam B q ↔ lx p q := by
  obtain ⟨a1, a2⟩ := hp
  obtain ⟨b1, b2⟩ := hq
  unfold lam lx
  rcases Int.lt_trichotomy p.y q.y with k | k | k
  · have := Int.mul_le_mul_of_nonneg_left (show 1 ≤ q.y - p.y by omega) (show 0 ≤ B by omega)
    rw [Int.mul_sub, Int.mul_one] at this
    omega
  · rw [k]; omega
  · have := Int.mul_le_mul_of_nonneg_left (show 1 ≤ p.y - q.y by omega) (show 0 ≤ B by omega)
    rw [Int.mul_sub, Int.mul_one] at this
    omega
/- larger by a factor -/
def scl (M : Int) (p : Pt) : Pt := ⟨M * p.x, M * p.y⟩
theorem turn_scl (M : Int) (a b c : Pt) : turn (scl M a) (scl M b) (scl M c) = turn a b c * (M * M) := by unfold turn scl; grind
theorem mul_lt_iff {M a b : Int} (hM : 0 < M) : M * a < M * b ↔ a < b := by
  have := sgn_pos (a := b - a) hM
  have e : (b - a) * M = M * b - M * a := by grind
  rw [e] at this
  omega
theorem lx_scl {M : Int} (hM : 0 < M) (p q : Pt) : lx (scl M p) (scl M q) ↔ lx p q := by
  unfold lx scl
  show (M * p.y < M * q.y ∨ M * p.y = M * q.y ∧ M * q.x < M * p.x) ↔ _
  rw [mul_lt_iff hM, mul_lt_iff hM]
  have : M * p.y = M * q.y ↔ p.y = q.y := ⟨fun h => by have h1 := mul_lt_iff (a := p.y) (b := q.y) hM; have h2 := mul_lt_iff (a := q.y) (b := p.y) hM; omega, fun h => by rw [h]⟩
  rw [this]
theorem Meets.scl {M : Int} (hM : 0 < M) {Z m u v : Pt} (h : Meets (scl M Z) (scl M m) (scl M u) (scl M v)) : Meets Z m u v := by
  obtain ⟨k, i, j, h1, h2, h3, h4, h5, h6, h7⟩ := h
  refine ⟨k, i, j, h1, h2, h3, h4, h5, ?_, ?_⟩
  · have h6 : (k - i) * (M * Z.x) + i * (M * m.x) = (k - j) * (M * u.x) + j * (M * v.x) := h6
    have e : M * ((k - i) * Z.x + i * m.x) = M * ((k - j) * u.x + j * v.x) := by grind
    have h1 := mul_lt_iff (a := (k - i) * Z.x + i * m.x) (b := (k - j) * u.x + j * v.x) hM
    have h2 := mul_lt_iff (a := (k - j) * u.x + j * v.x) (b := (k - i) * Z.x + i * m.x) hM
    omega
  · have h7 : (k - i) * (M * Z.y) + i * (M * m.y) = (k - j) * (M * u.y) + j * (M * v.y) := h7
    have e : M * ((k - i) * Z.y + i * m.y) = M * ((k - j) * u.y + j * v.y) := by grind
    have h1 := mul_lt_iff (a := (k - i) * Z.y + i * m.y) (b := (k - j) * u.y + j * v.y) hM
    have h2 := mul_lt_iff (a := (k - j) * u.y + j * v.y) (b := (k - i) * Z.y + i * m.y) hM
    omega
theorem Poly.scl {n : Nat} {V : Nat → Pt} (hp : Poly n V) {M : Int} (hM : 0 < M) : Poly n (fun i => scl M (V i)) :=
  ⟨hp.three, fun i => by rw [hp.per], fun i e => by
    rw [turn_scl] at e
    rcases Int.mul_eq_zero.1 e with q | q
    · exact hp.bend i q
    · have := m_pp hM hM; omega, fun i d h1 h2 hm => hp.apart i d h1 h2 (hm.scl hM)⟩
def crx (a b P : Pt) : Int :=
  if lx a P ∧ lx P b ∧ 0 < turn a b P then 1 else if lx b P ∧ lx P a ∧ turn a b P < 0 then -1 else 0
theorem ite2 {c c' d d' : Prop} [Decidable c] [Decidable c'] [Decidable d] [Decidable d'] (h1 : c ↔ c') (h2 : d ↔ d') : (if c then (1 : Int) else if d then -1 else 0) = if c' then 1 else if d' then -1 else 0 := by
  by_cases k : c <;> by_cases j : d <;> simp [k, j, ← h1, ← h2]
theorem cr_crx {B : Int} {a b P : Pt} (ha : Fit B a) (hb : Fit B b) (hP : Fit B P) : cr B a b P = crx a b P := by
  unfold cr crx
  exact ite2 (by rw [lam_lx ha hP, lam_lx hP hb]) (by rw [lam_lx hb hP, lam_lx hP ha])
theorem sgn_sq {M t : Int} (hM : 0 < M) : (0 < t * (M * M) ↔ 0 < t) ∧ (t * (M * M) < 0 ↔ t < 0) := sgn_pos (m_pp hM hM)
theorem crx_scl {M : Int} (hM : 0 < M) (a b P : Pt) : crx (scl M a) (scl M b) (scl M P) = crx a b P := by
  unfold crx
  rw [turn_scl]
  have h1 := sgn_sq (t := turn a b P) hM
  have e1 : (lx (scl M a) (scl M P) ∧ lx (scl M P) (scl M b) ∧ 0 < turn a b P * (M * M)) ↔ (lx a P ∧ lx P b ∧ 0 < turn a b P) := by rw [lx_scl hM, lx_scl hM, h1.1]
  have e2 : (lx (scl M b) (scl M P) ∧ lx (scl M P) (scl M a) ∧ turn a b P * (M * M) < 0) ↔ (lx b P ∧ lx P a ∧ turn a b P < 0) := by rw [lx_scl hM, lx_scl hM, h1.2]
  exact ite2 e1 e2
/- the numbers do not change with the scale -/
theorem wind_scl {B B' M : Int} (hM : 0 < M) {n : Nat} {V : Nat → Pt} {P : Pt} (hB : ∀ i, Fit B (V i)) (hP : Fit B P) (hB' : ∀ i, Fit B' (scl M (V i))) (hP' : Fit B' (scl M P)) : wind B' n (fun i => scl M (V i)) (scl M P) = wind B n V P :=
  sumN_congr fun i _ => by rw [cr_crx (hB' i) (hB' (i + 1)) hP', cr_crx (hB i) (hB (i + 1)) hP, crx_scl hM]
theorem corner_scl {B B' M : Int} (hM : 0 < M) {n : Nat} {V : Nat → Pt} (hB : ∀ i, Fit B (V i)) (hB' : ∀ i, Fit B' (scl M (V i))) (i : Nat) : cornerJ B' n (fun i => scl M (V i)) i = cornerJ B n V i := by
  unfold cornerJ
  dsimp only
  rw [wind_scl hM hB (hB (i + 1)) hB' (hB' (i + 1)), turn_scl]
  have h1 := sgn_sq (t := turn (V i) (V (i + 1)) (V (i + 2))) hM
  have l1 : ∀ a b, lam B' (scl M (V a)) < lam B' (scl M (V b)) ↔ lam B (V a) < lam B (V b) := fun a b => by rw [lam_lx (hB' a) (hB' b), lam_lx (hB a) (hB b), lx_scl hM]
  have k1 := l1 i (i + 1)
  have k2 := l1 (i + 2) (i + 1)
  have k3 := l1 (i + 1) (i + 2)
  (repeat' split) <;> omega
theorem fit_scl {M B : Int} (hM : 0 < M) {p : Pt} (h : Fit B p) : Fit (M * B) (scl M p) := by
  unfold Fit scl at *
  obtain ⟨h1, h2⟩ := h
  have a1 := (mul_lt_iff (a := -B) (b := 2 * p.x) hM).2 h1
  have a2 := (mul_lt_iff (a := 2 * p.x) (b := B) hM).2 h2
  rw [Int.mul_neg] at a1
  have e : M * (2 * p.x) = 2 * (M * p.x) := by grind
  rw [e] at a1 a2
  exact ⟨a1, a2⟩
/- all edges have points inside, when the scale is doubled -/
theorem mid_inn (a b : Pt) : Inn (scl 2 a) (scl 2 b) ⟨a.x + b.x, a.y + b.y⟩ := ⟨2, 1, by omega, by omega, by show 2 * (a.x + b.x) = (2 - 1) * (2 * a.x) + 1 * (2 * b.x); omega, by show 2 * (a.y + b.y) = (2 - 1) * (2 * a.y) + 1 * (2 * b.y); omega⟩
theorem corner_const {B : Int} {n : Nat} {V : Nat → Pt} (hp : Poly n V) (hB : ∀ i, Fit B (V i)) (i : Nat) : cornerJ B n V i = cornerJ B n V 0 := by
  have hB2 : ∀ i, Fit (2 * B) (scl 2 (V i)) := fun i => fit_scl (by omega) (hB i)
  rw [← corner_scl (M := 2) (by omega) hB hB2 i, ← corner_scl (M := 2) (by omega) hB hB2 0]
  exact corner_all (hp.scl (by omega)) hB2 (fun i => ⟨_, mid_inn _ _⟩) i
theorem corner_or {B : Int} {n : Nat} {V : Nat → Pt} (hp : Poly n V) (hB : ∀ i, Fit B (V i)) : cornerJ B n V 0 = 0 ∨ cornerJ B n V 0 = 1 := by
  have hB2 : ∀ i, Fit (2 * B) (scl 2 (V i)) := fun i => fit_scl (by omega) (hB i)
  rw [← corner_scl (M := 2) (by omega) hB hB2 0]
  exact corner_01 (hp.scl (by omega)) hB2 (fun i => ⟨_, mid_inn _ _⟩)
end Go.Proofs.Ytfncpfnanmoapaa
/- Simple polygons: a point that lies on no edge is wound around once at most. -/
set_option linter.unusedVariables false
set_option linter.unusedSimpArgs false
namespace Go.Proofs.Ytfncpfnanmoapaa

theorem exists_min_frac {p : Nat → Prop} [DecidablePred p] {num den : Nat → Int} (hd : ∀ i, p i → 0 < den i) : ∀ n, (∃ i, i < n ∧ p i) → ∃ i, i < n ∧ p i ∧ ∀ j, j < n → p j → num i * den j ≤ num j * den i
  | 0, h => by obtain ⟨i, h, -⟩ := h; omega
  | n + 1, h => by
    by_cases q : ∃ i, i < n ∧ p i
    · obtain ⟨i, h1, h2, h3⟩ := exists_min_frac (p := p) (num := num) (den := den) hd n q
      by_cases pn : p n ∧ num n * den i < num i * den n
      · refine ⟨n, by omega, pn.1, fun j hj pj => ?_⟩
        by_cases e : j = n
        · rw [e]; exact Int.le_refl _
        · have k1 := h3 j (by omega) pj
          have di := hd i h2
          have dn := hd n pn.1
          have dj := hd j pj
          have a1 := Int.mul_le_mul_of_nonneg_right (Int.le_of_lt pn.2) (Int.le_of_lt dj)
          have a2 := Int.mul_le_mul_of_nonneg_right k1 (Int.le_of_lt dn)
          have e1 : num i * den n * den j = num i * den j * den n := by grind
          have e2 : num n * den i * den j = num n * den j * den i := by grind
          have e3 : num j * den i * den n = num j * den n * den i := by grind
          have a3 : num n * den j * den i ≤ num j * den n * den i := by omega
          refine Decidable.byContradiction fun hh => ?_
          have := m_pp (show 0 < num n * den j - num j * den n by omega) di
          rw [Int.sub_mul] at this
          omega
      · refine ⟨i, by omega, h2, fun j hj pj => ?_⟩
        by_cases e : j = n
        · subst e
          refine Decidable.byContradiction fun hh => pn ⟨pj, by omega⟩
        · exact h3 j (by omega) pj
    · obtain ⟨i, h1, h2⟩ := h
      have : i = n := by
        rcases Nat.lt_succ_iff_lt_or_eq.1 h1 with r | r
        · exact absurd ⟨i, r, h2⟩ q
        · exact r
      subst this
      refine ⟨i, by omega, h2, fun j hj pj => ?_⟩
      by_cases e : j = i
      · rw [e]; exact Int.le_refl _
      · exact absurd ⟨j, by omega, pj⟩ q
theorem sumN_single {n : Nat} {f g : Nat → Int} {i : Nat} (hi : i < n) (h : ∀ j, j < n → j ≠ i → f j = g j) : sumN n f - sumN n g = f i - g i := by
  induction n with
  | zero => omega
  | succ n ih =>
    show sumN n f + f n - (sumN n g + g n) = _
    by_cases e : i = n
    · subst e
      rw [sumN_congr (g := g) (fun j hj => h j (by omega) (by omega))]
      omega
    · have := ih (by omega) (fun j hj hji => h j (by omega) hji)
      have := h n (by omega) (by omega)
      omega
/- a point whose height is that of no corner -/
theorem lx_y {a P : Pt} (h : a.y ≠ P.y) : (lx a P ↔ a.y < P.y) ∧ (lx P a ↔ P.y < a.y) := by unfold lx; omega
theorem crx_y {a b P : Pt} (ha : a.y ≠ P.y) (hb : b.y ≠ P.y) : crx a b P = if a.y < P.y ∧ P.y < b.y ∧ 0 < turn a b P then 1 else if b.y < P.y ∧ P.y < a.y ∧ turn a b P < 0 then -1 else 0 :=
  ite2 (by rw [(lx_y ha).1, (lx_y hb).2]) (by rw [(lx_y hb).1, (lx_y ha).2])
def numE (a b P : Pt) : Int := if a.y < b.y then turn a b P else - turn a b P
def denE (a b : Pt) : Int := if a.y < b.y then b.y - a.y else a.y - b.y
def right (a b P : Pt) : Prop := (a.y < P.y ∧ P.y < b.y ∧ 0 < turn a b P) ∨ (b.y < P.y ∧ P.y < a.y ∧ turn a b P < 0)
instance (a b P : Pt) : Decidable (right a b P) := by unfold right; infer_instance
/- the point of an edge at the height of P, at the scale denE -/
def hitQ (a b P : Pt) : Pt := ⟨denE a b * P.x + numE a b P, denE a b * P.y⟩
theorem hit_inn {a b P : Pt} (h : right a b P) : Inn (scl (denE a b) a) (scl (denE a b) b) (hitQ a b P) := by
  unfold right at h
  rcases h with ⟨h1, h2, h3⟩ | ⟨h1, h2, h3⟩
  · refine ⟨denE a b, P.y - a.y, by omega, by unfold denE; rw [if_pos (by omega)]; omega, ?_, ?_⟩
    · unfold hitQ denE numE scl
      simp only [if_pos (show a.y < b.y by omega)]
      unfold turn; grind
    · unfold hitQ denE scl
      simp only [if_pos (show a.y < b.y by omega)]
      grind
  · refine ⟨denE a b, a.y - P.y, by omega, by unfold denE; rw [if_neg (by omega)]; omega, ?_, ?_⟩
    · unfold hitQ denE numE scl
      simp only [if_neg (show ¬ a.y < b.y by omega)]
      unfold turn; grind
    · unfold hitQ denE scl
      simp only [if_neg (show ¬ a.y < b.y by omega)]
      grind
theorem hit_turn (a b u v P : Pt) : turn (scl (denE a b) u) (scl (denE a b) v) (hitQ a b P) = denE a b * (denE a b * turn u v P - (v.y - u.y) * numE a b P) := by
  unfold hitQ scl turn
  generalize numE a b P = m
  generalize denE a b = d
  show (d * v.x - d * u.x) * (d * P.y - d * u.y) - (d * v.y - d * u.y) * (d * P.x + m - d * u.x) = _
  grind
theorem on_line {N m : Int} {u v P : Pt} (e : N * turn u v P = (v.y - u.y) * m) (hy : (u.y < P.y ∧ P.y < v.y) ∨ (v.y < P.y ∧ P.y < u.y)) : Inn (scl N u) (scl N v) ⟨N * P.x + m, N * P.y⟩ := by
  unfold turn at e
  rcases hy with h | h
  · refine ⟨v.y - u.y, P.y - u.y, by omega, by omega, ?_, ?_⟩
    · show (v.y - u.y) * (N * P.x + m) = (v.y - u.y - (P.y - u.y)) * (N * u.x) + (P.y - u.y) * (N * v.x)
      grind
    · show (v.y - u.y) * (N * P.y) = (v.y - u.y - (P.y - u.y)) * (N * u.y) + (P.y - u.y) * (N * v.y)
      grind
  · refine ⟨u.y - v.y, u.y - P.y, by omega, by omega, ?_, ?_⟩
    · show (u.y - v.y) * (N * P.x + m) = (u.y - v.y - (u.y - P.y)) * (N * u.x) + (u.y - P.y) * (N * v.x)
      grind
    · show (u.y - v.y) * (N * P.y) = (u.y - v.y - (u.y - P.y)) * (N * u.y) + (u.y - P.y) * (N * v.y)
      grind
section
variable {B : Int} {n : Nat} {V : Nat → Pt} (hp : Poly n V) (hB : ∀ i, Fit B (V i))
include hp hB
omit hB in
/- two edges with a common point inside of both are the same -/
theorem inn_same {i j : Nat} (hi : i < n) (hj : j < n) (hij : i ≠ j) {Q : Pt} (h : Inn (V i) (V (i + 1)) Q) (h2 : Inn (V j) (V (j + 1)) Q) : False := by
  have h3 := hp.three
  have key : ∀ i d, 1 ≤ d → d < n → ∀ {Q : Pt}, Inn (V i) (V (i + 1)) Q → Inn (V (i + d)) (V (i + d + 1)) Q → False := by
    intro i d h1 hd Q h h2
    by_cases e1 : d = 1
    · subst e1
      have t := h2.turn
      have u := h.turn1 (c := V (i + 2))
      rw [show i + 1 + 1 = i + 2 from rfl] at t
      have := hp.bend i
      omega
    by_cases e2 : d = n - 1
    · have t := h2.turn
      rw [show i + d + 1 = i + n by omega, hp.per i] at t
      have u := h.turn2 (a := V (i + d))
      have := hp.bend (i + d)
      rw [show i + d + 1 = i + n by omega, hp.per i, show i + d + 2 = i + 1 + n by omega, hp.per (i + 1)] at this
      omega
    · obtain ⟨k, s, a1, a2, a3, a4⟩ := h
      obtain ⟨k', s', b1, b2, b3, b4⟩ := h2
      refine hp.apart i d (by omega) (by omega) ⟨k * k', k' * s, k * s', m_pp (by omega) (by omega), w_pp (by omega) (by omega), ?_, w_pp (by omega) (by omega), Int.mul_le_mul_of_nonneg_left (by omega) (by omega), ?_, ?_⟩
      · rw [Int.mul_comm k]; exact Int.mul_le_mul_of_nonneg_left (by omega) (by omega)
      · have x1 : (k * k' - k' * s) * (V i).x + k' * s * (V (i + 1)).x = k' * (k * Q.x) := by rw [a3]; grind
        have x2 : (k * k' - k * s') * (V (i + d)).x + k * s' * (V (i + d + 1)).x = k * (k' * Q.x) := by rw [b3]; grind
        rw [x1, x2]; grind
      · have x1 : (k * k' - k' * s) * (V i).y + k' * s * (V (i + 1)).y = k' * (k * Q.y) := by rw [a4]; grind
        have x2 : (k * k' - k * s') * (V (i + d)).y + k * s' * (V (i + d + 1)).y = k * (k' * Q.y) := by rw [b4]; grind
        rw [x1, x2]; grind
  rcases Nat.lt_or_gt_of_ne hij with q | q
  · exact key i (j - i) (by omega) (by omega) h (by rw [show i + (j - i) = j by omega]; exact h2)
  · exact key j (i - j) (by omega) (by omega) h2 (by rw [show j + (i - j) = i by omega]; exact h)
theorem wind_cases {P : Pt} (hP : Fit B P) (hy : ∀ i, (V i).y ≠ P.y) (hnb : ∀ i, ((V i).y < P.y ∧ P.y < (V (i + 1)).y) ∨ ((V (i + 1)).y < P.y ∧ P.y < (V i).y) → turn (V i) (V (i + 1)) P ≠ 0) :
    wind B n V P = 0 ∨ wind B n V P = cornerJ B n V 0 ∨ wind B n V P = cornerJ B n V 0 - 1 := by
  by_cases hex : ∃ i, i < n ∧ right (V i) (V (i + 1)) P
  case neg =>
    left
    refine sumN_zero n fun i hi => ?_
    rw [cr_crx (hB i) (hB (i + 1)) hP, crx_y (hy i) (hy (i + 1))]
    have : ¬ right (V i) (V (i + 1)) P := fun h => hex ⟨i, hi, h⟩
    unfold right at this
    rw [if_neg (fun h => this (.inl h)), if_neg (fun h => this (.inr h))]
  have hdpos : ∀ i, right (V i) (V (i + 1)) P → 0 < denE (V i) (V (i + 1)) := fun i h => by
    unfold right at h
    unfold denE
    split <;> omega
  obtain ⟨i, hi, hr, hmin⟩ := exists_min_frac (p := fun i => right (V i) (V (i + 1)) P) (num := fun i => numE (V i) (V (i + 1)) P) (den := fun i => denE (V i) (V (i + 1))) hdpos n hex
  right
  have hN := hdpos i hr
  have hN1 : 0 < numE (V i) (V (i + 1)) P := by
    unfold right at hr
    unfold numE
    split <;> omega
  obtain ⟨a, ha⟩ : ∃ a, V i = a := ⟨_, rfl⟩
  obtain ⟨b, hb⟩ : ∃ b, V (i + 1) = b := ⟨_, rfl⟩
  have hinn := hit_inn hr
  rw [ha, hb] at hN hN1 hinn hr
  have hp' := hp.scl hN
  have hB' : ∀ j, Fit (denE a b * B) (scl (denE a b) (V j)) := fun j => fit_scl hN (hB j)
  have hP' : Fit (denE a b * B) (scl (denE a b) P) := fit_scl hN hP
  have hinn' : Inn ((fun j => scl (denE a b) (V j)) i) ((fun j => scl (denE a b) (V j)) (i + 1)) (hitQ a b P) := by
    show Inn (scl (denE a b) (V i)) (scl (denE a b) (V (i + 1))) _
    rw [ha, hb]; exact hinn
  have hQ' : Fit (denE a b * B) (hitQ a b P) := hinn'.fit (hB' i) (hB' (i + 1))
  have hside := side_end hp' hB' i hinn'
  rw [corner_scl hN hB hB' i, corner_const hp hB i] at hside
  have hyN : ∀ j, (scl (denE a b) (V j)).y ≠ (scl (denE a b) P).y := fun j e => by
    have e : denE a b * (V j).y = denE a b * P.y := e
    have h1 := mul_lt_iff (a := (V j).y) (b := P.y) hN
    have h2 := mul_lt_iff (a := P.y) (b := (V j).y) hN
    have := hy j
    omega
  have hyQ : ∀ j, (scl (denE a b) (V j)).y ≠ (hitQ a b P).y := hyN
  have hlt : ∀ j, ((scl (denE a b) (V j)).y < (hitQ a b P).y ↔ (V j).y < P.y) ∧ ((hitQ a b P).y < (scl (denE a b) (V j)).y ↔ P.y < (V j).y) := fun j => ⟨mul_lt_iff hN, mul_lt_iff hN⟩
  -- one term alone differs
  have hdiff := sumN_single (n := n) (i := i) hi (f := fun j => cr B (V j) (V (j + 1)) P) (g := fun j => cr (denE a b * B) (scl (denE a b) (V j)) (scl (denE a b) (V (j + 1))) (hitQ a b P)) (fun j hj hji => ?_)
  · have hw1 : sumN n (fun j => cr B (V j) (V (j + 1)) P) = wind B n V P := rfl
    have hw2 : sumN n (fun j => cr (denE a b * B) (scl (denE a b) (V j)) (scl (denE a b) (V (j + 1))) (hitQ a b P)) = wind (denE a b * B) n (fun j => scl (denE a b) (V j)) (hitQ a b P) := rfl
    rw [hw1, hw2] at hdiff
    rw [cr_crx (hB i) (hB (i + 1)) hP, crx_y (hy i) (hy (i + 1)), cr_edge hinn'.turn] at hdiff
    unfold sideI at hside
    have hl : lam (denE a b * B) ((fun j => scl (denE a b) (V j)) i) < lam (denE a b * B) ((fun j => scl (denE a b) (V j)) (i + 1)) ↔ lx a b := by
      rw [lam_lx (hB' i) (hB' (i + 1))]
      show lx (scl (denE a b) (V i)) (scl (denE a b) (V (i + 1))) ↔ lx a b
      rw [ha, hb]
      exact lx_scl hN a b
    rw [ha, hb] at hdiff
    unfold right at hr
    rcases hr with ⟨r1, r2, r3⟩ | ⟨r1, r2, r3⟩
    · left
      rw [if_pos (hl.2 (.inl (by omega)))] at hside
      rw [if_pos ⟨r1, r2, r3⟩] at hdiff
      omega
    · right
      rw [if_neg (fun h => by have := hl.1 h; unfold lx at this; omega)] at hside
      rw [if_neg (by omega), if_pos ⟨r1, r2, r3⟩] at hdiff
      omega
  · rw [cr_crx (hB j) (hB (j + 1)) hP, crx_y (hy j) (hy (j + 1)), cr_crx (hB' j) (hB' (j + 1)) hQ', (crx_y (hyQ j) (hyQ (j + 1))).trans (ite2 (c' := (V j).y < P.y ∧ P.y < (V (j + 1)).y ∧ 0 < denE a b * (denE a b * turn (V j) (V (j + 1)) P - ((V (j + 1)).y - (V j).y) * numE a b P)) (d' := (V (j + 1)).y < P.y ∧ P.y < (V j).y ∧ denE a b * (denE a b * turn (V j) (V (j + 1)) P - ((V (j + 1)).y - (V j).y) * numE a b P) < 0) (by rw [(hlt j).1, (hlt (j + 1)).2, hit_turn]) (by rw [(hlt (j + 1)).1, (hlt j).2, hit_turn]))]
    have hm := hmin j hj
    have hb' := hnb j
    -- the sign
    have key : ∀ c : Int, (0 < denE a b * c ↔ 0 < c) ∧ (denE a b * c < 0 ↔ c < 0) := fun c => by
      have := sgn_pos (a := c) hN
      rw [Int.mul_comm] at this
      exact this
    have hne : ((V j).y < P.y ∧ P.y < (V (j + 1)).y) ∨ ((V (j + 1)).y < P.y ∧ P.y < (V j).y) → denE a b * turn (V j) (V (j + 1)) P - ((V (j + 1)).y - (V j).y) * numE a b P ≠ 0 := fun hbt e =>
      inn_same hp' hi hj (Ne.symm hji) hinn' (on_line (by omega) hbt)
    have hkey := key (denE a b * turn (V j) (V (j + 1)) P - ((V (j + 1)).y - (V j).y) * numE a b P)
    have hyj := hy j
    have hyj1 := hy (j + 1)
    unfold right at hm
    have hmi : numE (V i) (V (i + 1)) P = numE a b P ∧ denE (V i) (V (i + 1)) = denE a b := by rw [ha, hb]; exact ⟨rfl, rfl⟩
    rw [hmi.1, hmi.2] at hm
    by_cases c1 : (V j).y < P.y ∧ P.y < (V (j + 1)).y
    · have hT := hb' (.inl c1)
      have hn2 := hne (.inl c1)
      have nj : numE (V j) (V (j + 1)) P = turn (V j) (V (j + 1)) P := by unfold numE; rw [if_pos (by omega)]
      have dj : denE (V j) (V (j + 1)) = (V (j + 1)).y - (V j).y := by unfold denE; rw [if_pos (by omega)]
      rw [nj, dj] at hm
      have iff1 : 0 < turn (V j) (V (j + 1)) P ↔ 0 < denE a b * (denE a b * turn (V j) (V (j + 1)) P - ((V (j + 1)).y - (V j).y) * numE a b P) := by
        rw [hkey.1]
        constructor
        · intro hT0
          have h1 := hm (.inl ⟨c1.1, c1.2, hT0⟩)
          rw [Int.mul_comm (numE a b P), Int.mul_comm (turn _ _ _)] at h1
          omega
        · intro hc0
          refine Decidable.byContradiction fun hn => ?_
          have q1 := m_pn hN (show turn (V j) (V (j + 1)) P < 0 by omega)
          have q2 := m_pp (show 0 < (V (j + 1)).y - (V j).y by omega) hN1
          omega
      by_cases c2 : 0 < turn (V j) (V (j + 1)) P
      · rw [if_pos ⟨c1.1, c1.2, c2⟩, if_pos ⟨c1.1, c1.2, iff1.1 c2⟩]
      · rw [if_neg (fun h => c2 h.2.2), if_neg (by omega), if_neg (fun h => c2 (iff1.2 h.2.2)), if_neg (by omega)]
    by_cases c3 : (V (j + 1)).y < P.y ∧ P.y < (V j).y
    · have hT := hb' (.inr c3)
      have hn2 := hne (.inr c3)
      have nj : numE (V j) (V (j + 1)) P = - turn (V j) (V (j + 1)) P := by unfold numE; rw [if_neg (by omega)]
      have dj : denE (V j) (V (j + 1)) = (V j).y - (V (j + 1)).y := by unfold denE; rw [if_neg (by omega)]
      rw [nj, dj] at hm
      have e3 : ((V j).y - (V (j + 1)).y) * numE a b P = - (((V (j + 1)).y - (V j).y) * numE a b P) := by grind
      have iff1 : turn (V j) (V (j + 1)) P < 0 ↔ denE a b * (denE a b * turn (V j) (V (j + 1)) P - ((V (j + 1)).y - (V j).y) * numE a b P) < 0 := by
        rw [hkey.2]
        constructor
        · intro hT0
          have h1 := hm (.inr ⟨c3.1, c3.2, hT0⟩)
          rw [Int.mul_comm (numE a b P), Int.neg_mul, Int.mul_comm (turn _ _ _)] at h1
          omega
        · intro hc0
          refine Decidable.byContradiction fun hn => ?_
          have q1 := m_pp hN (show 0 < turn (V j) (V (j + 1)) P by omega)
          have q2 := m_pp (show 0 < (V j).y - (V (j + 1)).y by omega) hN1
          omega
      by_cases c2 : turn (V j) (V (j + 1)) P < 0
      · rw [if_neg (by omega), if_pos ⟨c3.1, c3.2, c2⟩, if_neg (by omega), if_pos ⟨c3.1, c3.2, iff1.1 c2⟩]
      · rw [if_neg (by omega), if_neg (fun h => c2 h.2.2), if_neg (by omega), if_neg (fun h => c2 (iff1.2 h.2.2))]
    · rw [if_neg (fun h => c1 ⟨h.1, h.2.1⟩), if_neg (fun h => c3 ⟨h.1, h.2.1⟩), if_neg (fun h => c1 ⟨h.1, h.2.1⟩), if_neg (fun h => c3 ⟨h.1, h.2.1⟩)]
end
end Go.Proofs.Ytfncpfnanmoapaa
/- Sums of signed places on a line. -/
set_option linter.unusedVariables false
set_option linter.unusedSimpArgs false
namespace Go.Proofs.Ytfncpfnanmoapaa

def rsum : List (Int × Int) → Int → Int
  | [], _ => 0
  | e :: l, X => (if X < e.1 then e.2 else 0) + rsum l X
def tots : List (Int × Int) → Int
  | [] => 0
  | e :: l => e.2 + tots l
def mom : List (Int × Int) → Int → Int
  | [], _ => 0
  | e :: l, A => e.2 * (e.1 - A) + mom l A
theorem mom_move (l : List (Int × Int)) (A A' : Int) : mom l A = mom l A' + tots l * (A' - A) := by
  induction l with
  | nil => simp [mom, tots]
  | cons e l ih => unfold mom tots; rw [ih]; grind
theorem rsum_all {l : List (Int × Int)} {X : Int} (h : ∀ e ∈ l, X < e.1) : rsum l X = tots l := by
  induction l with
  | nil => rfl
  | cons e l ih => unfold rsum tots; rw [if_pos (h e (by simp)), ih (fun e he => h e (by simp [he]))]
theorem abel_sorted {c B : Int} (hc : 0 ≤ c) (hB2 : B % 2 = 0) : ∀ (l : List (Int × Int)) (A : Int), l.Pairwise (fun a b => a.1 ≤ b.1) → (∀ e ∈ l, A ≤ e.1 ∧ e.1 ≤ B ∧ e.1 % 2 = 0) → A % 2 = 0 → A ≤ B → (∀ X, A < X → X < B → X % 2 = 1 → rsum l X ≤ c) → mom l A ≤ c * (B - A)
  | [], A, _, _, _, hAB, _ => w_pp0 hc (by omega)
  | e :: l, A, hs, he, hA, hAB, hr => by
    obtain ⟨s1, s2⟩ := List.pairwise_cons.1 hs
    obtain ⟨a1, a2, a3⟩ := he e (by simp)
    have ih := abel_sorted hc hB2 l e.1 s2 (fun f hf => ⟨s1 f hf, (he f (by simp [hf])).2⟩) a3 a2 (fun X h1 h2 h3 => by
      have := hr X (by omega) h2 h3
      unfold rsum at this
      rw [if_neg (by omega)] at this
      omega)
    rw [mom_move (e :: l) A e.1]
    have hm : mom (e :: l) e.1 = mom l e.1 := by
      show e.2 * (e.1 - e.1) + mom l e.1 = mom l e.1
      rw [Int.sub_self, Int.mul_zero, Int.zero_add]
    rw [hm]
    by_cases q : A = e.1
    · rw [q, Int.sub_self, Int.mul_zero]; omega
    · have ht : tots (e :: l) ≤ c := by
        have h1 := hr (e.1 - 1) (by omega) (by omega) (by omega)
        rwa [rsum_all (fun f hf => by
          rcases List.mem_cons.1 hf with rfl | hf
          · omega
          · have := s1 f hf; omega)] at h1
      have := Int.mul_le_mul_of_nonneg_right ht (show 0 ≤ e.1 - A by omega)
      have e2 : c * (B - A) = c * (B - e.1) + c * (e.1 - A) := by rw [← Int.mul_add]; congr 1; omega
      omega
where w_pp0 {c b : Int} (h : 0 ≤ c) (k : 0 ≤ b) : mom [] 0 ≤ c * b := Int.mul_nonneg h k
theorem rsum_perm {l l' : List (Int × Int)} (h : l.Perm l') (X : Int) : rsum l X = rsum l' X := by
  induction h with
  | nil => rfl
  | cons e _ ih => unfold rsum; rw [ih]
  | swap a b l => unfold rsum rsum; omega
  | trans _ _ i j => rw [i, j]
theorem mom_perm {l l' : List (Int × Int)} (h : l.Perm l') (X : Int) : mom l X = mom l' X := by
  induction h with
  | nil => rfl
  | cons e _ ih => unfold mom; rw [ih]
  | swap a b l => unfold mom mom; omega
  | trans _ _ i j => rw [i, j]
/- signed places, of which at most c lie to the right of any place: their moment -/
theorem abel {c A B : Int} {l : List (Int × Int)} (hc : 0 ≤ c) (hA : A % 2 = 0) (hB : B % 2 = 0) (hAB : A ≤ B) (he : ∀ e ∈ l, A ≤ e.1 ∧ e.1 ≤ B ∧ e.1 % 2 = 0) (hr : ∀ X, A < X → X < B → X % 2 = 1 → rsum l X ≤ c) : mom l A ≤ c * (B - A) := by
  have hp := List.mergeSort_perm l (fun a b => decide (a.1 ≤ b.1))
  have hs : (l.mergeSort fun a b => decide (a.1 ≤ b.1)).Pairwise (fun a b => decide (a.1 ≤ b.1) = true) := List.pairwise_mergeSort (fun a b c h1 h2 => by simp only [decide_eq_true_eq] at *; omega) (fun a b => by simp only [Bool.or_eq_true, decide_eq_true_eq]; omega) l
  rw [← mom_perm hp A]
  exact abel_sorted hc hB _ A (hs.imp fun h => by simpa using h) (fun e h => he e (hp.mem_iff.1 h)) hA hAB (fun X h1 h2 h3 => by rw [rsum_perm hp X]; exact hr X h1 h2 h3)
end Go.Proofs.Ytfncpfnanmoapaa
/- Polygons, level by level: where edges cross a level, and what that says of the area. -/
set_option linter.unusedVariables false
set_option linter.unusedSimpArgs false
namespace Go.Proofs.Ytfncpfnanmoapaa

/- a scale at which an edge has even places at all half levels -/
def GoodM (M : Int) (a b : Pt) : Prop := a.y ≠ b.y → ∃ q, q % 2 = 0 ∧ 2 * (b.y - a.y) * q = M
def qOf (M : Int) (a b : Pt) : Int := M / (2 * (b.y - a.y))
theorem qOf_spec {M : Int} {a b : Pt} (h : GoodM M a b) (hy : a.y ≠ b.y) : qOf M a b % 2 = 0 ∧ 2 * (b.y - a.y) * qOf M a b = M := by
  obtain ⟨q, h1, h2⟩ := h hy
  have : qOf M a b = q := by
    unfold qOf
    rw [← h2]
    exact Int.mul_ediv_cancel_left q (by omega)
  rw [this]; exact ⟨h1, h2⟩
def place (M : Int) (a b : Pt) (k : Int) : Int := M * a.x + (b.x - a.x) * (2 * (k - a.y) + 1) * qOf M a b
/- the events of an edge at the level k + 1/2 -/
def evE (M : Int) (a b : Pt) (k : Int) : List (Int × Int) := if a.y ≤ k ∧ k < b.y then [(place M a b k, 1)] else if b.y ≤ k ∧ k < a.y then [(place M a b k, -1)] else []
/- the point with the first coordinate X on that level, at the scale M -/
def ptOn (M X k : Int) : Pt := ⟨X, M / 2 * (2 * k + 1)⟩
theorem turn_on {M X k : Int} {a b : Pt} (hM : M % 2 = 0) (h : GoodM M a b) (hy : a.y ≠ b.y) : turn (scl M a) (scl M b) (ptOn M X k) = (place M a b k - X) * (M * (b.y - a.y)) := by
  obtain ⟨-, h2⟩ := qOf_spec h hy
  unfold turn scl ptOn place
  generalize qOf M a b = q at *
  have h3 : M / 2 = (b.y - a.y) * q := by rw [Int.mul_assoc] at h2; omega
  show (M * b.x - M * a.x) * (M / 2 * (2 * k + 1) - M * a.y) - (M * b.y - M * a.y) * (X - M * a.x) = _
  rw [h3]
  grind
theorem lx_on {M X k : Int} {a : Pt} (hM : 0 < M) (hM2 : M % 2 = 0) : (scl M a).y ≠ (ptOn M X k).y ∧ ((scl M a).y < (ptOn M X k).y ↔ a.y ≤ k) ∧ ((ptOn M X k).y < (scl M a).y ↔ k < a.y) := by
  have h1 := mul_lt_iff (M := M / 2) (a := 2 * a.y) (b := 2 * k + 1) (by omega)
  have h2 := mul_lt_iff (M := M / 2) (a := 2 * k + 1) (b := 2 * a.y) (by omega)
  have e : M * a.y = M / 2 * (2 * a.y) := by
    have : M = M / 2 * 2 := by omega
    rw [show M / 2 * (2 * a.y) = M / 2 * 2 * a.y by grind, ← this]
  show M * a.y ≠ M / 2 * (2 * k + 1) ∧ (M * a.y < M / 2 * (2 * k + 1) ↔ _) ∧ (M / 2 * (2 * k + 1) < M * a.y ↔ _)
  rw [e]
  omega
theorem ev_cr {M X k : Int} {a b : Pt} (hM : 0 < M) (hM2 : M % 2 = 0) (h : GoodM M a b) : rsum (evE M a b k) X = crx (scl M a) (scl M b) (ptOn M X k) := by
  have la := lx_on (X := X) (k := k) (a := a) hM hM2
  have lb := lx_on (X := X) (k := k) (a := b) hM hM2
  rw [crx_y la.1 lb.1]
  unfold evE
  by_cases c1 : a.y ≤ k ∧ k < b.y
  · rw [if_pos c1]
    have ht := turn_on (X := X) (k := k) hM2 h (by omega)
    have s := sgn_pos (a := place M a b k - X) (m_pp hM (show 0 < b.y - a.y by omega))
    rw [← ht] at s
    show (if X < place M a b k then (1 : Int) else 0) + 0 = _
    by_cases c : X < place M a b k
    · rw [if_pos c, if_pos ⟨la.2.1.2 c1.1, lb.2.2.2 c1.2, s.1.2 (by omega)⟩]; rfl
    · rw [if_neg c, if_neg (fun hh => c (by have := s.1.1 hh.2.2; omega)), if_neg (fun hh => by have := lb.2.1.1 hh.1; omega)]; rfl
  · rw [if_neg c1]
    by_cases c2 : b.y ≤ k ∧ k < a.y
    · rw [if_pos c2]
      have ht := turn_on (X := X) (k := k) hM2 h (by omega)
      have s := sgn_pos (a := place M a b k - X) (m_pp hM (show 0 < a.y - b.y by omega))
      have e : (place M a b k - X) * (M * (a.y - b.y)) = - turn (scl M a) (scl M b) (ptOn M X k) := by rw [ht]; grind
      rw [e] at s
      show (if X < place M a b k then (-1 : Int) else 0) + 0 = _
      by_cases c : X < place M a b k
      · rw [if_pos c, if_neg (fun hh => by have := la.2.1.1 hh.1; omega), if_pos ⟨lb.2.1.2 c2.1, la.2.2.2 c2.2, by have := s.1.2 (by omega); omega⟩]; rfl
      · rw [if_neg c, if_neg (fun hh => by have := la.2.1.1 hh.1; omega), if_neg (fun hh => c (by have := s.1.1 (by omega); omega))]; rfl
    · rw [if_neg c2, if_neg (fun hh => c1 ⟨la.2.1.1 hh.1, lb.2.2.1 hh.2.1⟩), if_neg (fun hh => c2 ⟨lb.2.1.1 hh.1, la.2.2.1 hh.2.1⟩)]
      rfl
theorem ev_even {M k : Int} {a b : Pt} (hM : M % 2 = 0) (h : GoodM M a b) : ∀ e ∈ evE M a b k, e.1 % 2 = 0 := by
  intro e he
  have key : a.y ≠ b.y → place M a b k % 2 = 0 := fun hy => by
    obtain ⟨h1, -⟩ := qOf_spec h hy
    unfold place
    have e1 : M * a.x % 2 = 0 := by rw [Int.mul_emod, hM, Int.zero_mul]; rfl
    have e2 : (b.x - a.x) * (2 * (k - a.y) + 1) * qOf M a b % 2 = 0 := by rw [Int.mul_emod, h1, Int.mul_zero]; rfl
    omega
  unfold evE at he
  split at he
  · rw [List.mem_singleton.1 he]; exact key (by omega)
  · split at he
    · rw [List.mem_singleton.1 he]; exact key (by omega)
    · cases he
theorem ev_between {M k lo hi : Int} {a b : Pt} (hM : 0 < M) (h : GoodM M a b) (ha : lo ≤ a.x ∧ a.x ≤ hi) (hb : lo ≤ b.x ∧ b.x ≤ hi) : ∀ e ∈ evE M a b k, M * lo ≤ e.1 ∧ e.1 ≤ M * hi := by
  intro e he
  have key : ∀ {a b : Pt}, lo ≤ a.x ∧ a.x ≤ hi → lo ≤ b.x ∧ b.x ≤ hi → ∀ D r : Int, 0 < r → r < 2 * D → 2 * D * e.1 = M * ((2 * D - r) * a.x + r * b.x) → M * lo ≤ e.1 ∧ e.1 ≤ M * hi := fun {a b} ha hb D r h1 h2 h3 => by
    have p1 := w_pp (Int.le_of_lt hM) (w_pp (show 0 ≤ 2 * D - r by omega) (show 0 ≤ a.x - lo by omega))
    have p2 := w_pp (Int.le_of_lt hM) (w_pp (show 0 ≤ r by omega) (show 0 ≤ b.x - lo by omega))
    have p3 := w_pp (Int.le_of_lt hM) (w_pp (show 0 ≤ 2 * D - r by omega) (show 0 ≤ hi - a.x by omega))
    have p4 := w_pp (Int.le_of_lt hM) (w_pp (show 0 ≤ r by omega) (show 0 ≤ hi - b.x by omega))
    have e1 : (e.1 - M * lo) * (2 * D) = M * ((2 * D - r) * (a.x - lo)) + M * (r * (b.x - lo)) := by
      have : (e.1 - M * lo) * (2 * D) = 2 * D * e.1 - 2 * D * (M * lo) := by grind
      rw [this, h3]; grind
    have e2 : (M * hi - e.1) * (2 * D) = M * ((2 * D - r) * (hi - a.x)) + M * (r * (hi - b.x)) := by
      have : (M * hi - e.1) * (2 * D) = 2 * D * (M * hi) - 2 * D * e.1 := by grind
      rw [this, h3]; grind
    have s1 := sgn_pos (a := e.1 - M * lo) (show 0 < 2 * D by omega)
    have s2 := sgn_pos (a := M * hi - e.1) (show 0 < 2 * D by omega)
    omega
  unfold evE at he
  split at he
  · rename_i c
    obtain ⟨-, h2⟩ := qOf_spec h (by omega)
    obtain rfl := List.mem_singleton.1 he
    refine key ha hb (b.y - a.y) (2 * (k - a.y) + 1) (by omega) (by omega) ?_
    show 2 * (b.y - a.y) * place M a b k = _
    unfold place
    have : 2 * (b.y - a.y) * (M * a.x + (b.x - a.x) * (2 * (k - a.y) + 1) * qOf M a b) = 2 * (b.y - a.y) * (M * a.x) + (b.x - a.x) * (2 * (k - a.y) + 1) * (2 * (b.y - a.y) * qOf M a b) := by grind
    rw [this, h2]; grind
  · split at he
    · rename_i c
      obtain ⟨-, h2⟩ := qOf_spec h (by omega)
      obtain rfl := List.mem_singleton.1 he
      refine key hb ha (a.y - b.y) (2 * (k - b.y) + 1) (by omega) (by omega) ?_
      show 2 * (a.y - b.y) * place M a b k = _
      unfold place
      have : 2 * (a.y - b.y) * (M * a.x + (b.x - a.x) * (2 * (k - a.y) + 1) * qOf M a b) = 2 * (a.y - b.y) * (M * a.x) - (b.x - a.x) * (2 * (k - a.y) + 1) * (2 * (b.y - a.y) * qOf M a b) := by grind
      rw [this, h2]; grind
    · cases he
/- the sum over levels of what an edge contributes -/
theorem edge_area {M lo : Int} {a b : Pt} {H : Nat} (h : GoodM M a b) (hM2 : M % 2 = 0) (ha : lo ≤ a.y ∧ a.y ≤ lo + H) (hb : lo ≤ b.y ∧ b.y ≤ lo + H) : sumN H (fun t => mom (evE M a b (lo + t)) 0) = M / 2 * ((b.y - a.y) * (a.x + b.x)) := by
  have one : ∀ (x s : Int), mom [(x, s)] 0 = s * x := fun x s => by show s * (x - 0) + 0 = _; rw [Int.sub_zero, Int.add_zero]
  by_cases hab : a.y = b.y
  · rw [hab, Int.sub_self, Int.zero_mul, Int.mul_zero]
    refine sumN_zero H fun t _ => ?_
    unfold evE
    rw [if_neg (by omega), if_neg (by omega)]
    rfl
  obtain ⟨-, h2⟩ := qOf_spec h hab
  have hM3 : M / 2 = (b.y - a.y) * qOf M a b := by have h2 := h2; rw [Int.mul_assoc] at h2; omega
  rcases Int.lt_or_gt_of_ne hab with q | q
  · have key : ∀ n : Nat, lo + n ≤ lo + H → sumN n (fun t => mom (evE M a b (lo + t)) 0) = (if lo + n ≤ a.y then 0 else if b.y ≤ lo + n then (b.y - a.y) * (M * a.x) + (b.x - a.x) * ((b.y - a.y) * (b.y - a.y)) * qOf M a b else (lo + n - a.y) * (M * a.x) + (b.x - a.x) * ((lo + n - a.y) * (lo + n - a.y)) * qOf M a b) := by
      intro n
      induction n with
      | zero => intro _; rw [if_pos (by omega)]; rfl
      | succ n ih =>
        intro hn
        show sumN n (fun t => mom (evE M a b (lo + t)) 0) + mom (evE M a b (lo + n)) 0 = _
        rw [ih (by omega)]
        unfold evE
        by_cases c1 : a.y ≤ lo + n ∧ lo + n < b.y
        · rw [if_pos c1, one, if_neg (show ¬ lo + ((n + 1 : Nat) : Int) ≤ a.y by omega)]
          unfold place
          by_cases c2 : lo + n = a.y
          · rw [if_pos (by omega)]
            by_cases c3 : b.y ≤ lo + ((n + 1 : Nat) : Int)
            · rw [if_pos c3, show b.y - a.y = 1 by omega, show lo + (n : Int) - a.y = 0 by omega]; grind
            · rw [if_neg c3, show lo + ((n + 1 : Nat) : Int) - a.y = 1 by omega, show lo + (n : Int) - a.y = 0 by omega]; grind
          · rw [if_neg (by omega), if_neg (by omega)]
            by_cases c3 : b.y ≤ lo + ((n + 1 : Nat) : Int)
            · rw [if_pos c3, show b.y - a.y = (lo + n - a.y) + 1 by omega]; grind
            · rw [if_neg c3, show lo + ((n + 1 : Nat) : Int) - a.y = (lo + n - a.y) + 1 by omega]; grind
        · rw [if_neg c1, if_neg (show ¬ (b.y ≤ lo + (n : Int) ∧ lo + (n : Int) < a.y) by omega)]
          show _ + (0 : Int) = _
          by_cases c2 : lo + n < a.y
          · rw [if_pos (by omega), if_pos (by omega)]; rfl
          · rw [if_neg (by omega), if_pos (by omega), if_neg (by omega), if_pos (by omega)]; omega
    rw [key H (Int.le_refl _)]
    rw [if_neg (by omega), if_pos (by omega), hM3]
    have e : (b.y - a.y) * (M * a.x) = (b.y - a.y) * (2 * (b.y - a.y) * qOf M a b * a.x) := by rw [h2]
    rw [e]; grind
  · have key : ∀ n : Nat, lo + n ≤ lo + H → sumN n (fun t => mom (evE M a b (lo + t)) 0) = (if lo + n ≤ b.y then 0 else if a.y ≤ lo + n then - ((a.y - b.y) * (M * a.x) - (b.x - a.x) * ((a.y - b.y) * (a.y - b.y)) * qOf M a b) else - ((lo + n - b.y) * (M * a.x) + (b.x - a.x) * ((lo + n - b.y) * (lo + n - b.y) - 2 * (lo + n - b.y) * (a.y - b.y)) * qOf M a b)) := by
      intro n
      induction n with
      | zero => intro _; rw [if_pos (by omega)]; rfl
      | succ n ih =>
        intro hn
        show sumN n (fun t => mom (evE M a b (lo + t)) 0) + mom (evE M a b (lo + n)) 0 = _
        rw [ih (by omega)]
        unfold evE
        by_cases c1 : b.y ≤ lo + n ∧ lo + n < a.y
        · rw [if_neg (show ¬ (a.y ≤ lo + n ∧ lo + n < b.y) by omega), if_pos c1, one, if_neg (show ¬ lo + ((n + 1 : Nat) : Int) ≤ b.y by omega)]
          unfold place
          by_cases c2 : lo + n = b.y
          · rw [if_pos (by omega)]
            by_cases c3 : a.y ≤ lo + ((n + 1 : Nat) : Int)
            · rw [if_pos c3, show a.y - b.y = 1 by omega, show lo + (n : Int) - a.y = -1 by omega]; grind
            · rw [if_neg c3, show lo + ((n + 1 : Nat) : Int) - b.y = 1 by omega, show lo + (n : Int) - a.y = - (a.y - b.y) by omega]; grind
          · rw [if_neg (by omega), if_neg (by omega)]
            by_cases c3 : a.y ≤ lo + ((n + 1 : Nat) : Int)
            · rw [if_pos c3, show a.y - b.y = (lo + n - b.y) + 1 by omega, show lo + (n : Int) - a.y = -1 by omega]; grind
            · rw [if_neg c3, show lo + ((n + 1 : Nat) : Int) - b.y = (lo + n - b.y) + 1 by omega, show lo + (n : Int) - a.y = (lo + n - b.y) - (a.y - b.y) by omega]; grind
        · rw [if_neg (show ¬ (a.y ≤ lo + n ∧ lo + n < b.y) by omega), if_neg c1]
          show _ + (0 : Int) = _
          by_cases c2 : lo + n < b.y
          · rw [if_pos (by omega), if_pos (by omega)]; rfl
          · rw [if_neg (by omega), if_pos (by omega), if_neg (by omega), if_pos (by omega)]; omega
    rw [key H (Int.le_refl _)]
    rw [if_neg (by omega), if_pos (by omega), hM3]
    have e : (a.y - b.y) * (M * a.x) = (a.y - b.y) * (2 * (b.y - a.y) * qOf M a b * a.x) := by rw [h2]
    rw [e]; grind
end Go.Proofs.Ytfncpfnanmoapaa
/- Polygons, level by level: sums over all edges; a polygon of positive area is wound around once inside. -/
set_option linter.unusedVariables false
set_option linter.unusedSimpArgs false
namespace Go.Proofs.Ytfncpfnanmoapaa

theorem rsum_app (l l' : List (Int × Int)) (X : Int) : rsum (l ++ l') X = rsum l X + rsum l' X := by
  induction l with
  | nil => show rsum l' X = 0 + rsum l' X; omega
  | cons e l ih =>
    show (if X < e.1 then e.2 else 0) + rsum (l ++ l') X = (if X < e.1 then e.2 else 0) + rsum l X + rsum l' X
    rw [ih]; omega
theorem mom_app (l l' : List (Int × Int)) (X : Int) : mom (l ++ l') X = mom l X + mom l' X := by
  induction l with
  | nil => show mom l' X = 0 + mom l' X; omega
  | cons e l ih =>
    show e.2 * (e.1 - X) + mom (l ++ l') X = e.2 * (e.1 - X) + mom l X + mom l' X
    rw [ih]; omega
theorem tots_app (l l' : List (Int × Int)) : tots (l ++ l') = tots l + tots l' := by
  induction l with
  | nil => show tots l' = 0 + tots l'; omega
  | cons e l ih =>
    show e.2 + tots (l ++ l') = e.2 + tots l + tots l'
    rw [ih]; omega
theorem rsum_flat (f : Nat → List (Int × Int)) (X : Int) (n : Nat) : rsum ((List.range n).flatMap f) X = sumN n fun i => rsum (f i) X := by
  induction n with
  | zero => rfl
  | succ n ih => rw [List.range_succ, List.flatMap_append, rsum_app, ih, List.flatMap_singleton]; rfl
theorem mom_flat (f : Nat → List (Int × Int)) (X : Int) (n : Nat) : mom ((List.range n).flatMap f) X = sumN n fun i => mom (f i) X := by
  induction n with
  | zero => rfl
  | succ n ih => rw [List.range_succ, List.flatMap_append, mom_app, ih, List.flatMap_singleton]; rfl
theorem tots_flat (f : Nat → List (Int × Int)) (n : Nat) : tots ((List.range n).flatMap f) = sumN n fun i => tots (f i) := by
  induction n with
  | zero => rfl
  | succ n ih => rw [List.range_succ, List.flatMap_append, tots_app, ih, List.flatMap_singleton]; rfl
theorem sumN_add (n : Nat) (f g : Nat → Int) : (sumN n fun i => f i + g i) = sumN n f + sumN n g := by
  induction n with
  | zero => rfl
  | succ n ih =>
    show (sumN n fun i => f i + g i) + (f n + g n) = sumN n f + f n + (sumN n g + g n)
    rw [ih]; omega
theorem sumN_swap (n m : Nat) (f : Nat → Nat → Int) : (sumN n fun i => sumN m fun j => f i j) = sumN m fun j => sumN n fun i => f i j := by
  induction n with
  | zero => exact (sumN_zero m fun _ _ => rfl).symm
  | succ n ih =>
    show (sumN n fun i => sumN m fun j => f i j) + sumN m (fun j => f n j) = _
    rw [ih, ← sumN_add]
    rfl
theorem sumN_mul (n : Nat) (c : Int) (f : Nat → Int) : (sumN n fun i => c * f i) = c * sumN n f := by
  induction n with
  | zero => show (0 : Int) = c * 0; omega
  | succ n ih =>
    show (sumN n fun i => c * f i) + c * f n = c * (sumN n f + f n)
    rw [ih, Int.mul_add]
theorem sumN_le (n : Nat) {f g : Nat → Int} (h : ∀ i, i < n → f i ≤ g i) : sumN n f ≤ sumN n g := by
  induction n with
  | zero => exact Int.le_refl _
  | succ n ih =>
    have := ih (fun i hi => h i (by omega))
    have := h n (by omega)
    show sumN n f + f n ≤ sumN n g + g n
    omega
theorem sumN_const (n : Nat) (c : Int) : (sumN n fun _ => c) = n * c := by
  induction n with
  | zero => show (0 : Int) = _; simp
  | succ n ih =>
    show (sumN n fun _ => c) + c = _
    rw [ih]
    have : ((n + 1 : Nat) : Int) = (n : Int) + 1 := by omega
    rw [this, Int.add_mul]; omega
def evP (M : Int) (n : Nat) (V : Nat → Pt) (k : Int) : List (Int × Int) := (List.range n).flatMap fun i => evE M (V i) (V (i + 1)) k
def twiceN (n : Nat) (V : Nat → Pt) : Int := sumN n fun i => (V i).x * (V (i + 1)).y - (V i).y * (V (i + 1)).x
theorem twice_eq {n : Nat} {V : Nat → Pt} (h : ∀ i, V (i + n) = V i) : (sumN n fun i => ((V (i + 1)).y - (V i).y) * ((V i).x + (V (i + 1)).x)) = twiceN n V := by
  have h1 := sumN_tele n (fun i => (V i).x * (V i).y)
  have e : (V n) = V 0 := by have := h 0; rwa [Nat.zero_add] at this
  simp only [e] at h1
  have h2 : (sumN n fun i => ((V (i + 1)).y - (V i).y) * ((V i).x + (V (i + 1)).x)) = sumN n fun i => ((V i).x * (V (i + 1)).y - (V i).y * (V (i + 1)).x) + (-1) * ((V i).x * (V i).y - (V (i + 1)).x * (V (i + 1)).y) := sumN_congr fun i _ => by grind
  rw [h2, sumN_add, sumN_mul, h1]
  unfold twiceN
  omega
/- what is asked of a polygon: corners, bounds, area -/
structure Area (n : Nat) (V : Nat → Pt) (x0 x1 y0 : Int) (H : Nat) : Prop where
  poly : Poly n V
  pos : 0 < twiceN n V
  inx : ∀ i, x0 ≤ (V i).x ∧ (V i).x ≤ x1
  iny : ∀ i, y0 ≤ (V i).y ∧ (V i).y ≤ y0 + H
section
variable {M B x0 x1 y0 : Int} {n H : Nat} {V : Nat → Pt} (ha : Area n V x0 x1 y0 H) (hM : 0 < M) (hM2 : M % 2 = 0) (hg : ∀ i, GoodM M (V i) (V (i + 1)))
include ha hM hM2 hg
omit ha in
theorem evP_wind (hB : ∀ i, Fit B (scl M (V i))) {X k : Int} (hX : Fit B (ptOn M X k)) : rsum (evP M n V k) X = wind B n (fun i => scl M (V i)) (ptOn M X k) := by
  unfold evP
  rw [rsum_flat]
  exact sumN_congr fun i _ => by rw [ev_cr hM hM2 (hg i), cr_crx (hB i) (hB (i + 1)) hX]
omit hM hM2 hg in
theorem evP_tots (k : Int) : tots (evP M n V k) = 0 := by
  unfold evP
  rw [tots_flat]
  have key : ∀ i, tots (evE M (V i) (V (i + 1)) k) = (if (V i).y ≤ k then 1 else 0) - (if (V (i + 1)).y ≤ k then 1 else 0) := fun i => by
    unfold evE
    by_cases c1 : (V i).y ≤ k ∧ k < (V (i + 1)).y
    · rw [if_pos c1, if_pos c1.1, if_neg (by omega)]; rfl
    · rw [if_neg c1]
      by_cases c2 : (V (i + 1)).y ≤ k ∧ k < (V i).y
      · rw [if_pos c2, if_neg (by omega), if_pos c2.1]; rfl
      · rw [if_neg c2]
        show (0 : Int) = _
        split <;> split <;> omega
  rw [sumN_congr (fun i _ => key i), sumN_tele n (fun i => if (V i).y ≤ k then (1 : Int) else 0)]
  have e : (V n) = V 0 := by have := ha.poly.per 0; rwa [Nat.zero_add] at this
  rw [e]; omega
omit hM hM2 hg in
theorem evP_mom (k A : Int) : mom (evP M n V k) A = mom (evP M n V k) 0 := by
  rw [mom_move _ A 0, evP_tots ha k]; omega
omit hM in
theorem evP_area : (sumN H fun t => mom (evP M n V (y0 + t)) 0) = M / 2 * twiceN n V := by
  have h1 : (sumN H fun t => mom (evP M n V (y0 + t)) 0) = sumN H fun t => sumN n fun i => mom (evE M (V i) (V (i + 1)) (y0 + t)) 0 := sumN_congr fun t _ => by
    unfold evP; rw [mom_flat]
  rw [h1, sumN_swap, sumN_congr (fun i _ => edge_area (hg i) hM2 (ha.iny i) (ha.iny (i + 1))), sumN_mul, twice_eq ha.poly.per]
theorem evP_mem (k : Int) : ∀ e ∈ evP M n V k, M * x0 ≤ e.1 ∧ e.1 ≤ M * x1 ∧ e.1 % 2 = 0 := by
  intro e he
  unfold evP at he
  obtain ⟨i, -, hi⟩ := List.mem_flatMap.1 he
  obtain ⟨h1, h2⟩ := ev_between hM (hg i) (ha.inx i) (ha.inx (i + 1)) e hi
  exact ⟨h1, h2, ev_even hM2 (hg i) e hi⟩
theorem evP_cases (hB : ∀ i, Fit B (V i)) {X k : Int} (hX2 : X % 2 = 1) : rsum (evP M n V k) X = 0 ∨ rsum (evP M n V k) X = cornerJ B n V 0 ∨ rsum (evP M n V k) X = cornerJ B n V 0 - 1 := by
  -- bounds for the larger scale
  obtain ⟨B', h1, h2, h3⟩ : ∃ B', (∀ i, Fit B' (scl M (V i))) ∧ Fit B' (ptOn M X k) ∧ True := by
    refine ⟨M * B + 2 * X.natAbs + 1, fun i => ?_, ?_, trivial⟩
    · obtain ⟨a, b⟩ := fit_scl hM (hB i)
      exact ⟨by omega, by omega⟩
    · obtain ⟨q1, q2⟩ := hB 0
      have := m_pp hM (show 0 < B by omega)
      constructor <;> show _ < _ <;> show _ < _ <;> simp only [ptOn] <;> omega
  rw [evP_wind hM hM2 hg h1 h2]
  have hc := wind_cases (ha.poly.scl hM) h1 h2 (fun i => (lx_on hM hM2).1) (fun i hb => ?_)
  · rw [corner_scl hM hB h1 0] at hc
    exact hc
  · have hy : (V i).y ≠ (V (i + 1)).y := by
      rcases hb with ⟨a, b⟩ | ⟨a, b⟩
      · have h4 := (lx_on (X := X) (k := k) (a := V i) hM hM2).2.1.1 a
        have h5 := (lx_on (X := X) (k := k) (a := V (i + 1)) hM hM2).2.2.1 b
        omega
      · have h4 := (lx_on (X := X) (k := k) (a := V (i + 1)) hM hM2).2.1.1 a
        have h5 := (lx_on (X := X) (k := k) (a := V i) hM hM2).2.2.1 b
        omega
    show turn (scl M (V i)) (scl M (V (i + 1))) (ptOn M X k) ≠ 0
    rw [turn_on hM2 (hg i) hy]
    intro e
    rcases Int.mul_eq_zero.1 e with q | q
    · have : place M (V i) (V (i + 1)) k % 2 = 0 := by
        obtain ⟨g1, -⟩ := qOf_spec (hg i) hy
        unfold place
        have e1 : M * (V i).x % 2 = 0 := by rw [Int.mul_emod, hM2, Int.zero_mul]; rfl
        have e2 : ((V (i + 1)).x - (V i).x) * (2 * (k - (V i).y) + 1) * qOf M (V i) (V (i + 1)) % 2 = 0 := by rw [Int.mul_emod, g1, Int.mul_zero]; rfl
        omega
      omega
    · rcases Int.mul_eq_zero.1 q with r | r <;> omega
theorem corner_one (hB : ∀ i, Fit B (V i)) : cornerJ B n V 0 = 1 := by
  rcases corner_or ha.poly hB with h | h
  case inr => exact h
  exfalso
  have hx := ha.inx 0
  have key : ∀ k, mom (evP M n V k) 0 ≤ 0 := fun k => by
    have := abel (c := 0) (A := M * x0) (B := M * x1) (l := evP M n V k) (Int.le_refl _) (by rw [Int.mul_emod, hM2, Int.zero_mul]; rfl) (by rw [Int.mul_emod, hM2, Int.zero_mul]; rfl) (Int.mul_le_mul_of_nonneg_left (by omega) (by omega)) (evP_mem ha hM hM2 hg k) (fun X _ _ hX => by
      have := evP_cases ha hM hM2 hg hB (k := k) hX
      rw [h] at this
      omega)
    rw [evP_mom ha] at this
    omega
  have h1 := evP_area ha hM2 hg
  have h2 := sumN_le H (f := fun t => mom (evP M n V (y0 + t)) 0) (g := fun _ => 0) (fun t _ => key _)
  rw [sumN_zero H (f := fun _ => 0) (fun _ _ => rfl), h1] at h2
  have := m_pp (show 0 < M / 2 by omega) ha.pos
  omega
theorem evP_01 {X k : Int} (hX2 : X % 2 = 1) : rsum (evP M n V k) X = 0 ∨ rsum (evP M n V k) X = 1 := by
  have hB : ∀ i, Fit (2 * x0.natAbs + 2 * x1.natAbs + 1) (V i) := fun i => by
    have := ha.inx i
    constructor <;> omega
  have := evP_cases ha hM hM2 hg hB (k := k) hX2
  rw [corner_one ha hM hM2 hg hB] at this
  omega
end
end Go.Proofs.Ytfncpfnanmoapaa
