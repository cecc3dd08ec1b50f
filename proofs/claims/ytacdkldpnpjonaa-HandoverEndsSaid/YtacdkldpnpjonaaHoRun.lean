/- Whatever a script does, the invariant of the handover holds. -/
import Derived.Test.YtacdkldpnpjonaaHoStep2
import Derived.Test.YtacdkldpnpjonaaHoInv
set_option linter.unusedVariables false
set_option linter.unusedSimpArgs false
namespace Go.Proofs.Ytacdkldpnpjonaa
open Go.RowKit
attribute [local go_sem ↓] Go.wp_at_zero Go.wp_at_succ

def Good (w : World) (b : Nat) (k : Int) (e : Ending) (w' : World) : Prop :=
  ∃ k' s0 c0 s1 c1 m0 m1, e = .returned (.bool true) ∧ PairAt w' b s0 c0 s1 c1 m0 m1 ∧ Inv k' s0 c0 s1 c1 m0 m1 ∧ k' ≤ k + 1 ∧ Below b w w'
theorem good_of {w : World} {b : Nat} {k k' s0 c0 s1 c1 : Int} {m0 m1 : List (Bool × Int)} {r : Bool} {e : Ending} {w' : World} (h : Stepped w b r s0 c0 s1 c1 m0 m1 e w') (hr : r = true) (hi : Inv k' s0 c0 s1 c1 m0 m1) (hk : k' ≤ k + 1) : Good w b k e w' := by
  subst hr
  exact ⟨k', s0, c0, s1, c1, m0, m1, h.1, h.2.1, hi, hk, h.2.2⟩
theorem mem_of_get {m : List (Bool × Int)} {q : Nat} {x : Bool × Int} (h : m[q]? = some x) : x ∈ m := List.mem_of_getElem? h
theorem core_not1 {i k sx cx sy cy : Int} {mx my : List (Bool × Int)} (h : Core i k sx cx sy cy mx my) : sy ≠ 1 := by
  obtain ⟨-, -, -, -, h4, -⟩ := h; omega

theorem core_eraseX {i k sx cx sy cy : Int} {mx my : List (Bool × Int)} (h : Core i k sx cx sy cy mx my) (q : Nat) : Core i k sx cx sy cy (mx.eraseIdx q) my := by
  obtain ⟨h0, h1, h2, h3, h4, h5, h6, h7, h8⟩ := h
  exact ⟨h0, h1, h2, h3, h4, erase_all _ _ h5, h6, erase_len _ _ h7, h8⟩
theorem core_eraseY {i k sx cx sy cy : Int} {mx my : List (Bool × Int)} (h : Core i k sx cx sy cy mx my) (q : Nat) : Core i k sx cx sy cy mx (my.eraseIdx q) := by
  obtain ⟨h0, h1, h2, h3, h4, h5, h6, h7, h8⟩ := h
  exact ⟨h0, h1, h2, h3, h4, h5, erase_all _ _ h6, h7, erase_len _ _ h8⟩

theorem inv00 (b : Nat) (k s0 c0 s1 c1 : Int) (m0 m1 : List (Bool × Int)) (i : Int) (w : World) (hP : PairAt w b s0 c0 s1 c1 m0 m1) (hI : Inv k s0 c0 s1 c1 m0 m1) (hk : k < 1999) :
    Calls Try.prog 11 #[.pointer (some ⟨b, 0, none⟩), .int .i64 0, .int .i64 0, .int .i64 i] w (Good w b k) := by
  rcases hI with h | h
  · have hc := core_chkX h (by omega)
    by_cases hs : s0 = 1
    · subst hs
      have hck : c0 = k := h.2.2.2.1
      have hg := give_yes hc (by omega)
      have h' := step00_any b 1 c0 s1 c1 m0 m1 i w hP
      rw [hg] at h'
      exact h'.mono fun e w' hh => good_of (by simpa using hh) rfl (.inl (core_give h)) (by omega)
    · have hg := give_not hc hs
      have h' := step00_any b s0 c0 s1 c1 m0 m1 i w hP
      rw [hg] at h'
      exact h'.mono fun e w' hh => good_of (by simpa using hh) (by simp [hs]) (.inl h) (by omega)
  · have hc := core_chkY h (by omega)
    have hs := core_not1 h
    have hg := give_not hc hs
    have h' := step00_any b s0 c0 s1 c1 m0 m1 i w hP
    rw [hg] at h'
    exact h'.mono fun e w' hh => good_of (by simpa using hh) (by simp [hs]) (.inr h) (by omega)

theorem inv10 (b : Nat) (k s0 c0 s1 c1 : Int) (m0 m1 : List (Bool × Int)) (i : Int) (w : World) (hP : PairAt w b s0 c0 s1 c1 m0 m1) (hI : Inv k s0 c0 s1 c1 m0 m1) (hk : k < 1999) :
    Calls Try.prog 11 #[.pointer (some ⟨b, 0, none⟩), .int .i64 1, .int .i64 0, .int .i64 i] w (Good w b k) := by
  rcases hI with h | h
  · have hc := core_chkX h (by omega)
    by_cases hs : s0 = 2
    · subst hs
      have hg := again_yes hc
      have h' := step10_any b 2 c0 s1 c1 m0 m1 i w hP
      rw [hg] at h'
      exact h'.mono fun e w' hh => good_of (by simpa using hh) rfl (.inl (core_againX h)) (by omega)
    · have hg := again_not hc hs
      have h' := step10_any b s0 c0 s1 c1 m0 m1 i w hP
      rw [hg] at h'
      exact h'.mono fun e w' hh => good_of (by simpa using hh) (by simp [hs]) (.inl h) (by omega)
  · have hc := core_chkY h (by omega)
    by_cases hs : s0 = 2
    · subst hs
      have hg := again_yes hc
      have h' := step10_any b 2 c0 s1 c1 m0 m1 i w hP
      rw [hg] at h'
      exact h'.mono fun e w' hh => good_of (by simpa using hh) rfl (.inr (core_againY h)) (by omega)
    · have hg := again_not hc hs
      have h' := step10_any b s0 c0 s1 c1 m0 m1 i w hP
      rw [hg] at h'
      exact h'.mono fun e w' hh => good_of (by simpa using hh) (by simp [hs]) (.inr h) (by omega)

theorem inv20 (b : Nat) (k s0 c0 s1 c1 : Int) (m0 m1 : List (Bool × Int)) (i : Int) (w : World) (hP : PairAt w b s0 c0 s1 c1 m0 m1) (hI : Inv k s0 c0 s1 c1 m0 m1) (hk : k < 1999) :
    Calls Try.prog 11 #[.pointer (some ⟨b, 0, none⟩), .int .i64 2, .int .i64 0, .int .i64 i] w (Good w b k) := by
  rcases hI with h | h
  · have hm : m0.length ≤ 40 := h.2.2.2.2.2.2.2.1
    rcases Nat.eq_zero_or_pos m0.length with h0 | h0
    · exact (stepE20_any b s0 c0 s1 c1 m0 m1 i w hP h0).mono fun e w' hh => good_of hh rfl (.inl h) (by omega)
    · obtain ⟨p1, p2⟩ := pickv_in i (n := (m0.length : Int)) (by omega)
      obtain ⟨q, hq⟩ := Int.eq_ofNat_of_zero_le p1
      have hql : q < m0.length := by omega
      obtain ⟨⟨xa, xn⟩, hx⟩ : ∃ x, m0[q]? = some x := ⟨_, List.getElem?_eq_getElem hql⟩
      have h' := step20_get b s0 c0 s1 c1 m0 m1 i q xa xn w hP hq hx hm
      obtain ⟨r, hr, he, hcore⟩ := core_hearX (mx' := (m0.eraseIdx q)) h (by omega) (mem_of_get hx) (fun y hy => List.mem_of_mem_eraseIdx hy) (erase_len _ _ hm)
      rw [hr] at h'
      exact h'.mono fun e w' hh => good_of (by unfold Heard0 at hh; rw [if_pos he] at hh; exact hh) rfl (.inl hcore) (by omega)
  · have hm : m0.length ≤ 40 := h.2.2.2.2.2.2.2.2
    rcases Nat.eq_zero_or_pos m0.length with h0 | h0
    · exact (stepE20_any b s0 c0 s1 c1 m0 m1 i w hP h0).mono fun e w' hh => good_of hh rfl (.inr h) (by omega)
    · obtain ⟨p1, p2⟩ := pickv_in i (n := (m0.length : Int)) (by omega)
      obtain ⟨q, hq⟩ := Int.eq_ofNat_of_zero_le p1
      have hql : q < m0.length := by omega
      obtain ⟨⟨xa, xn⟩, hx⟩ : ∃ x, m0[q]? = some x := ⟨_, List.getElem?_eq_getElem hql⟩
      have h' := step20_get b s0 c0 s1 c1 m0 m1 i q xa xn w hP hq hx hm
      obtain ⟨r, hr, he, hcore⟩ := core_hearY (my' := (m0.eraseIdx q)) h (by omega) (mem_of_get hx) (fun y hy => List.mem_of_mem_eraseIdx hy) (erase_len _ _ hm)
      rw [hr] at h'
      rcases hcore with hcore | hcore
      · exact h'.mono fun e w' hh => good_of (by unfold Heard0 at hh; rw [if_pos he] at hh; exact hh) rfl (.inr hcore) (by omega)
      · exact h'.mono fun e w' hh => good_of (by unfold Heard0 at hh; rw [if_pos he] at hh; exact hh) rfl (.inl (by simpa using hcore)) (by omega)

theorem inv30 (b : Nat) (k s0 c0 s1 c1 : Int) (m0 m1 : List (Bool × Int)) (i : Int) (w : World) (hP : PairAt w b s0 c0 s1 c1 m0 m1) (hI : Inv k s0 c0 s1 c1 m0 m1) (hk : k < 1999) :
    Calls Try.prog 11 #[.pointer (some ⟨b, 0, none⟩), .int .i64 3, .int .i64 0, .int .i64 i] w (Good w b k) := by
  rcases hI with h | h
  · have hm : m0.length ≤ 40 := h.2.2.2.2.2.2.2.1
    rcases Nat.eq_zero_or_pos m0.length with h0 | h0
    · exact (stepE30_any b s0 c0 s1 c1 m0 m1 i w hP h0).mono fun e w' hh => good_of hh rfl (.inl h) (by omega)
    · obtain ⟨p1, p2⟩ := pickv_in i (n := (m0.length : Int)) (by omega)
      obtain ⟨q, hq⟩ := Int.eq_ofNat_of_zero_le p1
      have hql : q < m0.length := by omega
      obtain ⟨⟨xa, xn⟩, hx⟩ : ∃ x, m0[q]? = some x := ⟨_, List.getElem?_eq_getElem hql⟩
      have h' := step30_get b s0 c0 s1 c1 m0 m1 i q xa xn w hP hq hx hm
      exact h'.mono fun e w' hh => good_of hh rfl (.inl (core_eraseX h q)) (by omega)
  · have hm : m0.length ≤ 40 := h.2.2.2.2.2.2.2.2
    rcases Nat.eq_zero_or_pos m0.length with h0 | h0
    · exact (stepE30_any b s0 c0 s1 c1 m0 m1 i w hP h0).mono fun e w' hh => good_of hh rfl (.inr h) (by omega)
    · obtain ⟨p1, p2⟩ := pickv_in i (n := (m0.length : Int)) (by omega)
      obtain ⟨q, hq⟩ := Int.eq_ofNat_of_zero_le p1
      have hql : q < m0.length := by omega
      obtain ⟨⟨xa, xn⟩, hx⟩ : ∃ x, m0[q]? = some x := ⟨_, List.getElem?_eq_getElem hql⟩
      have h' := step30_get b s0 c0 s1 c1 m0 m1 i q xa xn w hP hq hx hm
      exact h'.mono fun e w' hh => good_of hh rfl (.inr (core_eraseY h q)) (by omega)

theorem inv40 (b : Nat) (k s0 c0 s1 c1 : Int) (m0 m1 : List (Bool × Int)) (i : Int) (w : World) (hP : PairAt w b s0 c0 s1 c1 m0 m1) (hI : Inv k s0 c0 s1 c1 m0 m1) (hk : k < 1999) :
    Calls Try.prog 11 #[.pointer (some ⟨b, 0, none⟩), .int .i64 4, .int .i64 0, .int .i64 i] w (Good w b k) := by
  rcases hI with h | h
  · have hm : m0.length ≤ 40 := h.2.2.2.2.2.2.2.1
    rcases Nat.eq_zero_or_pos m0.length with h0 | h0
    · exact (stepE40_any b s0 c0 s1 c1 m0 m1 i w hP h0).mono fun e w' hh => good_of hh rfl (.inl h) (by omega)
    · obtain ⟨p1, p2⟩ := pickv_in i (n := (m0.length : Int)) (by omega)
      obtain ⟨q, hq⟩ := Int.eq_ofNat_of_zero_le p1
      have hql : q < m0.length := by omega
      obtain ⟨⟨xa, xn⟩, hx⟩ : ∃ x, m0[q]? = some x := ⟨_, List.getElem?_eq_getElem hql⟩
      have h' := step40_get b s0 c0 s1 c1 m0 m1 i q xa xn w hP hq hx hm
      obtain ⟨r, hr, he, hcore⟩ := core_hearX (mx' := m0) h (by omega) (mem_of_get hx) (fun y hy => hy) (hm)
      rw [hr] at h'
      exact h'.mono fun e w' hh => good_of (by unfold Heard0 at hh; rw [if_pos he] at hh; exact hh) rfl (.inl hcore) (by omega)
  · have hm : m0.length ≤ 40 := h.2.2.2.2.2.2.2.2
    rcases Nat.eq_zero_or_pos m0.length with h0 | h0
    · exact (stepE40_any b s0 c0 s1 c1 m0 m1 i w hP h0).mono fun e w' hh => good_of hh rfl (.inr h) (by omega)
    · obtain ⟨p1, p2⟩ := pickv_in i (n := (m0.length : Int)) (by omega)
      obtain ⟨q, hq⟩ := Int.eq_ofNat_of_zero_le p1
      have hql : q < m0.length := by omega
      obtain ⟨⟨xa, xn⟩, hx⟩ : ∃ x, m0[q]? = some x := ⟨_, List.getElem?_eq_getElem hql⟩
      have h' := step40_get b s0 c0 s1 c1 m0 m1 i q xa xn w hP hq hx hm
      obtain ⟨r, hr, he, hcore⟩ := core_hearY (my' := m0) h (by omega) (mem_of_get hx) (fun y hy => hy) (hm)
      rw [hr] at h'
      rcases hcore with hcore | hcore
      · exact h'.mono fun e w' hh => good_of (by unfold Heard0 at hh; rw [if_pos he] at hh; exact hh) rfl (.inr hcore) (by omega)
      · exact h'.mono fun e w' hh => good_of (by unfold Heard0 at hh; rw [if_pos he] at hh; exact hh) rfl (.inl (by simpa using hcore)) (by omega)

theorem inv01 (b : Nat) (k s0 c0 s1 c1 : Int) (m0 m1 : List (Bool × Int)) (i : Int) (w : World) (hP : PairAt w b s0 c0 s1 c1 m0 m1) (hI : Inv k s0 c0 s1 c1 m0 m1) (hk : k < 1999) :
    Calls Try.prog 11 #[.pointer (some ⟨b, 0, none⟩), .int .i64 0, .int .i64 1, .int .i64 i] w (Good w b k) := by
  rcases hI with h | h
  · have hc := core_chkY h (by omega)
    have hs := core_not1 h
    have hg := give_not hc hs
    have h' := step01_any b s0 c0 s1 c1 m0 m1 i w hP
    rw [hg] at h'
    exact h'.mono fun e w' hh => good_of (by simpa using hh) (by simp [hs]) (.inl h) (by omega)
  · have hc := core_chkX h (by omega)
    by_cases hs : s1 = 1
    · subst hs
      have hck : c1 = k := h.2.2.2.1
      have hg := give_yes hc (by omega)
      have h' := step01_any b s0 c0 1 c1 m0 m1 i w hP
      rw [hg] at h'
      exact h'.mono fun e w' hh => good_of (by simpa using hh) rfl (.inr (core_give h)) (by omega)
    · have hg := give_not hc hs
      have h' := step01_any b s0 c0 s1 c1 m0 m1 i w hP
      rw [hg] at h'
      exact h'.mono fun e w' hh => good_of (by simpa using hh) (by simp [hs]) (.inr h) (by omega)

theorem inv11 (b : Nat) (k s0 c0 s1 c1 : Int) (m0 m1 : List (Bool × Int)) (i : Int) (w : World) (hP : PairAt w b s0 c0 s1 c1 m0 m1) (hI : Inv k s0 c0 s1 c1 m0 m1) (hk : k < 1999) :
    Calls Try.prog 11 #[.pointer (some ⟨b, 0, none⟩), .int .i64 1, .int .i64 1, .int .i64 i] w (Good w b k) := by
  rcases hI with h | h
  · have hc := core_chkY h (by omega)
    by_cases hs : s1 = 2
    · subst hs
      have hg := again_yes hc
      have h' := step11_any b s0 c0 2 c1 m0 m1 i w hP
      rw [hg] at h'
      exact h'.mono fun e w' hh => good_of (by simpa using hh) rfl (.inl (core_againY h)) (by omega)
    · have hg := again_not hc hs
      have h' := step11_any b s0 c0 s1 c1 m0 m1 i w hP
      rw [hg] at h'
      exact h'.mono fun e w' hh => good_of (by simpa using hh) (by simp [hs]) (.inl h) (by omega)
  · have hc := core_chkX h (by omega)
    by_cases hs : s1 = 2
    · subst hs
      have hg := again_yes hc
      have h' := step11_any b s0 c0 2 c1 m0 m1 i w hP
      rw [hg] at h'
      exact h'.mono fun e w' hh => good_of (by simpa using hh) rfl (.inr (core_againX h)) (by omega)
    · have hg := again_not hc hs
      have h' := step11_any b s0 c0 s1 c1 m0 m1 i w hP
      rw [hg] at h'
      exact h'.mono fun e w' hh => good_of (by simpa using hh) (by simp [hs]) (.inr h) (by omega)

theorem inv21 (b : Nat) (k s0 c0 s1 c1 : Int) (m0 m1 : List (Bool × Int)) (i : Int) (w : World) (hP : PairAt w b s0 c0 s1 c1 m0 m1) (hI : Inv k s0 c0 s1 c1 m0 m1) (hk : k < 1999) :
    Calls Try.prog 11 #[.pointer (some ⟨b, 0, none⟩), .int .i64 2, .int .i64 1, .int .i64 i] w (Good w b k) := by
  rcases hI with h | h
  · have hm : m1.length ≤ 40 := h.2.2.2.2.2.2.2.2
    rcases Nat.eq_zero_or_pos m1.length with h0 | h0
    · exact (stepE21_any b s0 c0 s1 c1 m0 m1 i w hP h0).mono fun e w' hh => good_of hh rfl (.inl h) (by omega)
    · obtain ⟨p1, p2⟩ := pickv_in i (n := (m1.length : Int)) (by omega)
      obtain ⟨q, hq⟩ := Int.eq_ofNat_of_zero_le p1
      have hql : q < m1.length := by omega
      obtain ⟨⟨xa, xn⟩, hx⟩ : ∃ x, m1[q]? = some x := ⟨_, List.getElem?_eq_getElem hql⟩
      have h' := step21_get b s0 c0 s1 c1 m0 m1 i q xa xn w hP hq hx hm
      obtain ⟨r, hr, he, hcore⟩ := core_hearY (my' := (m1.eraseIdx q)) h (by omega) (mem_of_get hx) (fun y hy => List.mem_of_mem_eraseIdx hy) (erase_len _ _ hm)
      rw [hr] at h'
      rcases hcore with hcore | hcore
      · exact h'.mono fun e w' hh => good_of (by unfold Heard1 at hh; rw [if_pos he] at hh; exact hh) rfl (.inl hcore) (by omega)
      · exact h'.mono fun e w' hh => good_of (by unfold Heard1 at hh; rw [if_pos he] at hh; exact hh) rfl (.inr (by simpa using hcore)) (by omega)
  · have hm : m1.length ≤ 40 := h.2.2.2.2.2.2.2.1
    rcases Nat.eq_zero_or_pos m1.length with h0 | h0
    · exact (stepE21_any b s0 c0 s1 c1 m0 m1 i w hP h0).mono fun e w' hh => good_of hh rfl (.inr h) (by omega)
    · obtain ⟨p1, p2⟩ := pickv_in i (n := (m1.length : Int)) (by omega)
      obtain ⟨q, hq⟩ := Int.eq_ofNat_of_zero_le p1
      have hql : q < m1.length := by omega
      obtain ⟨⟨xa, xn⟩, hx⟩ : ∃ x, m1[q]? = some x := ⟨_, List.getElem?_eq_getElem hql⟩
      have h' := step21_get b s0 c0 s1 c1 m0 m1 i q xa xn w hP hq hx hm
      obtain ⟨r, hr, he, hcore⟩ := core_hearX (mx' := (m1.eraseIdx q)) h (by omega) (mem_of_get hx) (fun y hy => List.mem_of_mem_eraseIdx hy) (erase_len _ _ hm)
      rw [hr] at h'
      exact h'.mono fun e w' hh => good_of (by unfold Heard1 at hh; rw [if_pos he] at hh; exact hh) rfl (.inr hcore) (by omega)

theorem inv31 (b : Nat) (k s0 c0 s1 c1 : Int) (m0 m1 : List (Bool × Int)) (i : Int) (w : World) (hP : PairAt w b s0 c0 s1 c1 m0 m1) (hI : Inv k s0 c0 s1 c1 m0 m1) (hk : k < 1999) :
    Calls Try.prog 11 #[.pointer (some ⟨b, 0, none⟩), .int .i64 3, .int .i64 1, .int .i64 i] w (Good w b k) := by
  rcases hI with h | h
  · have hm : m1.length ≤ 40 := h.2.2.2.2.2.2.2.2
    rcases Nat.eq_zero_or_pos m1.length with h0 | h0
    · exact (stepE31_any b s0 c0 s1 c1 m0 m1 i w hP h0).mono fun e w' hh => good_of hh rfl (.inl h) (by omega)
    · obtain ⟨p1, p2⟩ := pickv_in i (n := (m1.length : Int)) (by omega)
      obtain ⟨q, hq⟩ := Int.eq_ofNat_of_zero_le p1
      have hql : q < m1.length := by omega
      obtain ⟨⟨xa, xn⟩, hx⟩ : ∃ x, m1[q]? = some x := ⟨_, List.getElem?_eq_getElem hql⟩
      have h' := step31_get b s0 c0 s1 c1 m0 m1 i q xa xn w hP hq hx hm
      exact h'.mono fun e w' hh => good_of hh rfl (.inl (core_eraseY h q)) (by omega)
  · have hm : m1.length ≤ 40 := h.2.2.2.2.2.2.2.1
    rcases Nat.eq_zero_or_pos m1.length with h0 | h0
    · exact (stepE31_any b s0 c0 s1 c1 m0 m1 i w hP h0).mono fun e w' hh => good_of hh rfl (.inr h) (by omega)
    · obtain ⟨p1, p2⟩ := pickv_in i (n := (m1.length : Int)) (by omega)
      obtain ⟨q, hq⟩ := Int.eq_ofNat_of_zero_le p1
      have hql : q < m1.length := by omega
      obtain ⟨⟨xa, xn⟩, hx⟩ : ∃ x, m1[q]? = some x := ⟨_, List.getElem?_eq_getElem hql⟩
      have h' := step31_get b s0 c0 s1 c1 m0 m1 i q xa xn w hP hq hx hm
      exact h'.mono fun e w' hh => good_of hh rfl (.inr (core_eraseX h q)) (by omega)

theorem inv41 (b : Nat) (k s0 c0 s1 c1 : Int) (m0 m1 : List (Bool × Int)) (i : Int) (w : World) (hP : PairAt w b s0 c0 s1 c1 m0 m1) (hI : Inv k s0 c0 s1 c1 m0 m1) (hk : k < 1999) :
    Calls Try.prog 11 #[.pointer (some ⟨b, 0, none⟩), .int .i64 4, .int .i64 1, .int .i64 i] w (Good w b k) := by
  rcases hI with h | h
  · have hm : m1.length ≤ 40 := h.2.2.2.2.2.2.2.2
    rcases Nat.eq_zero_or_pos m1.length with h0 | h0
    · exact (stepE41_any b s0 c0 s1 c1 m0 m1 i w hP h0).mono fun e w' hh => good_of hh rfl (.inl h) (by omega)
    · obtain ⟨p1, p2⟩ := pickv_in i (n := (m1.length : Int)) (by omega)
      obtain ⟨q, hq⟩ := Int.eq_ofNat_of_zero_le p1
      have hql : q < m1.length := by omega
      obtain ⟨⟨xa, xn⟩, hx⟩ : ∃ x, m1[q]? = some x := ⟨_, List.getElem?_eq_getElem hql⟩
      have h' := step41_get b s0 c0 s1 c1 m0 m1 i q xa xn w hP hq hx hm
      obtain ⟨r, hr, he, hcore⟩ := core_hearY (my' := m1) h (by omega) (mem_of_get hx) (fun y hy => hy) (hm)
      rw [hr] at h'
      rcases hcore with hcore | hcore
      · exact h'.mono fun e w' hh => good_of (by unfold Heard1 at hh; rw [if_pos he] at hh; exact hh) rfl (.inl hcore) (by omega)
      · exact h'.mono fun e w' hh => good_of (by unfold Heard1 at hh; rw [if_pos he] at hh; exact hh) rfl (.inr (by simpa using hcore)) (by omega)
  · have hm : m1.length ≤ 40 := h.2.2.2.2.2.2.2.1
    rcases Nat.eq_zero_or_pos m1.length with h0 | h0
    · exact (stepE41_any b s0 c0 s1 c1 m0 m1 i w hP h0).mono fun e w' hh => good_of hh rfl (.inr h) (by omega)
    · obtain ⟨p1, p2⟩ := pickv_in i (n := (m1.length : Int)) (by omega)
      obtain ⟨q, hq⟩ := Int.eq_ofNat_of_zero_le p1
      have hql : q < m1.length := by omega
      obtain ⟨⟨xa, xn⟩, hx⟩ : ∃ x, m1[q]? = some x := ⟨_, List.getElem?_eq_getElem hql⟩
      have h' := step41_get b s0 c0 s1 c1 m0 m1 i q xa xn w hP hq hx hm
      obtain ⟨r, hr, he, hcore⟩ := core_hearX (mx' := m1) h (by omega) (mem_of_get hx) (fun y hy => hy) (hm)
      rw [hr] at h'
      exact h'.mono fun e w' hh => good_of (by unfold Heard1 at hh; rw [if_pos he] at hh; exact hh) rfl (.inr hcore) (by omega)

theorem step_inv (b : Nat) (k s0 c0 s1 c1 : Int) (m0 m1 : List (Bool × Int)) (op side i : Int) (w : World) (hP : PairAt w b s0 c0 s1 c1 m0 m1) (hI : Inv k s0 c0 s1 c1 m0 m1) (hk : k < 1999) (ho : 0 ≤ op) (ho2 : op ≤ 4) (hs : 0 ≤ side) (hs2 : side ≤ 1) :
    Calls Try.prog 11 #[.pointer (some ⟨b, 0, none⟩), .int .i64 op, .int .i64 side, .int .i64 i] w (Good w b k) := by
  rcases (by omega : side = 0 ∨ side = 1) with rfl | rfl
  · rcases (by omega : op = 0 ∨ op = 1 ∨ op = 2 ∨ op = 3 ∨ op = 4) with rfl | rfl | rfl | rfl | rfl
    · exact inv00 b k s0 c0 s1 c1 m0 m1 i w hP hI hk
    · exact inv10 b k s0 c0 s1 c1 m0 m1 i w hP hI hk
    · exact inv20 b k s0 c0 s1 c1 m0 m1 i w hP hI hk
    · exact inv30 b k s0 c0 s1 c1 m0 m1 i w hP hI hk
    · exact inv40 b k s0 c0 s1 c1 m0 m1 i w hP hI hk
  · rcases (by omega : op = 0 ∨ op = 1 ∨ op = 2 ∨ op = 3 ∨ op = 4) with rfl | rfl | rfl | rfl | rfl
    · exact inv01 b k s0 c0 s1 c1 m0 m1 i w hP hI hk
    · exact inv11 b k s0 c0 s1 c1 m0 m1 i w hP hI hk
    · exact inv21 b k s0 c0 s1 c1 m0 m1 i w hP hI hk
    · exact inv31 b k s0 c0 s1 c1 m0 m1 i w hP hI hk
    · exact inv41 b k s0 c0 s1 c1 m0 m1 i w hP hI hk

end Go.Proofs.Ytacdkldpnpjonaa
