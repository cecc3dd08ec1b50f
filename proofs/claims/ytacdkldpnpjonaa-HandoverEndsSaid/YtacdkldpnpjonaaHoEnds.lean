/- If messages then arrive, each transfer is completed: HandoverEnds returns true at every input. -/
import Derived.Test.YtacdkldpnpjonaaHoOne
set_option linter.unusedVariables false
set_option linter.unusedSimpArgs false
namespace Go.Proofs.Ytacdkldpnpjonaa
open Go.RowKit
attribute [local go_sem ↓] Go.wp_at_zero Go.wp_at_succ

theorem core_clear {i k sx cx sy cy : Int} {mx my : List (Bool × Int)} (h : Core i k sx cx sy cy mx my) : Core i k sx cx sy cy [] [] := by
  obtain ⟨h0, h1, h2, h3, h4, -⟩ := h
  exact ⟨h0, h1, h2, h3, h4, by simp, by simp, by simp, by simp⟩
theorem pick_zero : pickv 0 ((1 : Nat) : Int) = ((0 : Nat) : Int) := by decide
/- the responsible side gives: the three steps -/
theorem settleX {i k cx sy cy : Int} {mx my : List (Bool × Int)} (h : Core i k 2 cx sy cy mx my) (hk : k < 1999) :
    again 2 cx = (k + 1, 0) ∧ hear sy cy (k + 1) false = ⟨1, k + 1, true, k + 1, true, 0⟩ ∧ hear 2 cx (k + 1) true = ⟨0, k + 1, false, 0, false, 0⟩ ∧ Core (1 - i) (k + 1) 1 (k + 1) 0 (k + 1) [] [] := by
  have hc := core_chkX h (by omega)
  have hd := core_chkY h (by omega)
  obtain ⟨h0, h1, h2, h3, h4, -⟩ := h
  subst h3
  refine ⟨again_yes hc, ?_, ?_, by omega, by omega, .inl rfl, rfl, .inl ⟨rfl, rfl⟩, by simp, by simp, by simp, by simp⟩
  · rw [hear_eq hd (by omega) (by omega), if_neg (by decide)]
    rcases h4 with h4 | h4
    · rw [if_neg (by omega), if_pos (by omega)]
    · rw [if_pos (by omega)]
  · rw [hear_eq hc (by omega) (by omega), if_pos rfl, if_pos (by omega)]
/- the other side still gives: the three steps -/
theorem settleY {i k sx cx cy : Int} {mx my : List (Bool × Int)} (h : Core i k sx cx 2 cy mx my) (hk : k < 1999) :
    again 2 cy = (k, 0) ∧ hear sx cx k false = ⟨sx, cx, true, k, true, 0⟩ ∧ hear 2 cy k true = ⟨0, k, false, 0, false, 0⟩ ∧ Core i k sx cx 0 k [] [] := by
  have hc := core_chkX h (by omega)
  have hd := core_chkY h (by omega)
  obtain ⟨h0, h1, h2, h3, h4, -⟩ := h
  have h5 : cy = k - 1 ∧ 1 ≤ k := by omega
  refine ⟨by rw [again_yes hd, h5.1]; simp, ?_, ?_, h0, h1, h2, h3, .inl ⟨rfl, rfl⟩, by simp, by simp, by simp, by simp⟩
  · rw [hear_eq hc (by omega) (by omega), if_neg (by decide), if_neg (by omega), if_neg (by omega), if_pos (by omega)]
  · rw [hear_eq hd (by omega) (by omega), if_pos rfl, if_pos (by omega)]
theorem PairAt.clear {w : World} {b : Nat} {s0 c0 s1 c1 : Int} {m0 m1 : List (Bool × Int)} (h : PairAt w b s0 c0 s1 c1 m0 m1) : PairAt ((w.setCell ⟨b, 4, none⟩ (.slice none 0 0)).setCell ⟨b, 5, none⟩ (.slice none 0 0)) b s0 c0 s1 c1 [] [] := by
  obtain ⟨v0, v1, h1, -⟩ := h
  exact ⟨_, _, (h1.set 4 _).set 5 _, World.ownsRow_nil _ _ _ _, World.ownsRow_nil _ _ _ _, .inl rfl⟩
theorem PairAt.tocells {w : World} {b : Nat} {s0 c0 s1 c1 : Int} {m0 m1 : List (Bool × Int)} (h : PairAt w b s0 c0 s1 c1 m0 m1) :
    ∃ v0 v1, w.cell? ⟨b, 4, none⟩ = some v0 ∧ w.cell? ⟨b, 5, none⟩ = some v1 ∧ w.frozen? ⟨b, 4, none⟩ = false ∧ w.frozen? ⟨b, 5, none⟩ = false := by
  obtain ⟨v0, v1, h1, -⟩ := h
  exact ⟨v0, v1, h1.get 4 _ rfl, h1.get 5 _ rfl, h1.free 4, h1.free 5⟩
/- the contracts of the three steps, at channels that are empty or hold one message -/

theorem ask0 (b : Nat) (s c so co n : Int) (i : Int) (w : World) (hP : PairAt w b s c so co [] []) (ha : again s c = (n, 0)) :
    Calls Try.prog 11 #[.pointer (some ⟨b, 0, none⟩), .int .i64 1, .int .i64 0, .int .i64 i] w (Stepped w b true s c so co [] [(false, n)]) := by
  have h := step10_any b s c so co [] [] i w hP
  rw [ha] at h
  simpa [sendM] using h
theorem askNot0 (b : Nat) (s c so co : Int) (i : Int) (w : World) (hP : PairAt w b s c so co [] []) (hc : chk s c = 0) (hs : s ≠ 2) :
    Calls Try.prog 11 #[.pointer (some ⟨b, 0, none⟩), .int .i64 1, .int .i64 0, .int .i64 i] w (Stepped w b true s c so co [] []) := by
  have h := step10_any b s c so co [] [] i w hP
  rw [again_not hc hs] at h
  simpa [hs] using h
theorem tell0 (b : Nat) (s c so co n : Int) (a : Bool) (r : HR) (w : World) (hP : PairAt w b s c so co [(a, n)] []) (hr : hear s c n a = r) (he : r.er = 0) :
    Calls Try.prog 11 #[.pointer (some ⟨b, 0, none⟩), .int .i64 2, .int .i64 0, .int .i64 0] w (Stepped w b true r.st r.ct so co [] (if r.is = true then [(r.ak, r.nm)] else [])) := by
  have h := step20_get b s c so co [(a, n)] [] 0 0 a n w hP pick_zero rfl (by simp)
  rw [hr] at h
  refine h.mono fun e w' hh => ?_
  unfold Heard0 at hh
  rw [if_pos he] at hh
  simpa [sendM] using hh

theorem ask1 (b : Nat) (s c so co n : Int) (i : Int) (w : World) (hP : PairAt w b so co s c [] []) (ha : again s c = (n, 0)) :
    Calls Try.prog 11 #[.pointer (some ⟨b, 0, none⟩), .int .i64 1, .int .i64 1, .int .i64 i] w (Stepped w b true so co s c [(false, n)] []) := by
  have h := step11_any b so co s c [] [] i w hP
  rw [ha] at h
  simpa [sendM] using h
theorem askNot1 (b : Nat) (s c so co : Int) (i : Int) (w : World) (hP : PairAt w b so co s c [] []) (hc : chk s c = 0) (hs : s ≠ 2) :
    Calls Try.prog 11 #[.pointer (some ⟨b, 0, none⟩), .int .i64 1, .int .i64 1, .int .i64 i] w (Stepped w b true so co s c [] []) := by
  have h := step11_any b so co s c [] [] i w hP
  rw [again_not hc hs] at h
  simpa [hs] using h
theorem tell1 (b : Nat) (s c so co n : Int) (a : Bool) (r : HR) (w : World) (hP : PairAt w b so co s c [] [(a, n)]) (hr : hear s c n a = r) (he : r.er = 0) :
    Calls Try.prog 11 #[.pointer (some ⟨b, 0, none⟩), .int .i64 2, .int .i64 1, .int .i64 0] w (Stepped w b true so co r.st r.ct (if r.is = true then [(r.ak, r.nm)] else []) []) := by
  have h := step21_get b so co s c [] [(a, n)] 0 0 a n w hP pick_zero rfl (by simp)
  rw [hr] at h
  refine h.mono fun e w' hh => ?_
  unfold Heard1 at hh
  rw [if_pos he] at hh
  simpa [sendM] using hh

end Go.Proofs.Ytacdkldpnpjonaa
