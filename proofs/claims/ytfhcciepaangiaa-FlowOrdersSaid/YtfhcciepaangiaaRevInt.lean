/- What slices.Reverse does to a row of integers. -/
import Derived.Test.YtfhcciepaangiaaFlow5
set_option linter.unusedVariables false
set_option linter.unusedSimpArgs false
namespace Go.Proofs.Ytfhcciepaangiaa
open Go.RowKit
attribute [local go_sem ↓] Go.wp_at_zero Go.wp_at_succ

/- slices.Reverse on a row that the caller owns -/
def revTo (l : List Int) (i : Nat) : List Int := listOf l.length (fun k => if k < i ∨ l.length - i ≤ k then nth l (l.length - 1 - k) else nth l k)
theorem revTo_len (l : List Int) (i : Nat) : (revTo l i).length = l.length := listOf_len _ _
theorem revTo_nth {l : List Int} {i k : Nat} (h : k < l.length) : nth (revTo l i) k = if k < i ∨ l.length - i ≤ k then nth l (l.length - 1 - k) else nth l k := listOf_nth h
theorem revTo_zero (l : List Int) : revTo l 0 = l := by
  unfold revTo
  have : ∀ k, k < l.length → (if k < 0 ∨ l.length - 0 ≤ k then nth l (l.length - 1 - k) else nth l k) = nth l k := fun k hk => by rw [if_neg (by omega)]
  have h2 : listOf l.length (fun k => if k < 0 ∨ l.length - 0 ≤ k then nth l (l.length - 1 - k) else nth l k) = listOf l.length (nth l) := by
    unfold listOf; apply List.map_congr_left; intro k hk; exact this k (List.mem_range.1 hk)
  rw [h2, listOf_self]
theorem revTo_end {l : List Int} {i : Nat} (h : l.length ≤ 2 * i + 1) : revTo l i = l.reverse := by
  apply List.ext_getElem?
  intro k
  rcases Nat.lt_or_ge k l.length with hk | hk
  · unfold revTo
    rw [listOf_get hk, List.getElem?_reverse hk]
    by_cases h1 : k < i ∨ l.length - i ≤ k
    · rw [if_pos h1, nth_get (by omega)]
    · rw [if_neg h1, nth_get (by omega)]
      congr 2; omega
  · rw [List.getElem?_eq_none (by rw [revTo_len]; exact hk), List.getElem?_eq_none (by simpa using hk)]
theorem revTo_next {l : List Int} {i : Nat} (h : 2 * i + 1 < l.length) : ((revTo l i).set i (nth l (l.length - 1 - i))).set (l.length - 1 - i) (nth l i) = revTo l (i + 1) := by
  apply List.ext_getElem?
  intro k
  rw [List.getElem?_set, List.getElem?_set, List.length_set, revTo_len]
  rcases Nat.lt_or_ge k l.length with hk | hk
  · unfold revTo
    rw [listOf_get hk, listOf_get hk]
    by_cases h1 : l.length - 1 - i = k
    · rw [if_pos h1, if_pos (by omega), if_pos (by omega)]
      congr 2; omega
    · rw [if_neg h1]
      by_cases h2 : i = k
      · rw [if_pos h2, if_pos (by omega), if_pos (by omega), h2]
      · rw [if_neg h2]
        by_cases h3 : k < i ∨ l.length - i ≤ k
        · rw [if_pos h3, if_pos (by omega)]
        · rw [if_neg h3, if_neg (by omega)]
  · rw [List.getElem?_eq_none (by rw [revTo_len]; exact hk), List.getElem?_eq_none (by rw [revTo_len]; exact hk)]
    rw [if_neg (by omega), if_neg (by omega)]
theorem ownsRow_two {w : World} {base : Nat} {E : TypeId} {g n cap : Nat} {xs : List Value} (h : w.ownsRow base E 1 (.slice (some ⟨g, 0, none⟩) n cap) n xs) (i j : Nat) (u v : Value) : ((w.setCell ⟨g, i, none⟩ u).setCell ⟨g, j, none⟩ v).ownsRow base E 1 (.slice (some ⟨g, 0, none⟩) n cap) n ((xs.set i u).set j v) ∧ w.grownBy ((w.setCell ⟨g, i, none⟩ u).setCell ⟨g, j, none⟩ v) (some g) :=
  ⟨((h.stored i u).1.stored j v).1, grownBy_two (h.stored i u).2 ((h.stored i u).1.stored j v).2⟩
def Reversed (w : World) (E : TypeId) (base g n cap : Nat) (l : List Int) (e : Ending) (w' : World) : Prop :=
  e = .returned (.tuple #[]) ∧ w'.ownsRow base E 1 (.slice (some ⟨g, 0, none⟩) n cap) n (ints l.reverse) ∧ w.grownBy w' (some g)
set_option maxRecDepth 100000 in
set_option maxHeartbeats 2000000 in
theorem reverse_ints (g n cap base : Nat) (l : List Int) (w : World) (hn : n = l.length) (hm : n ≤ maxLen) (hown : w.ownsRow base 3 1 (.slice (some ⟨g, 0, none⟩) n cap) n (ints l)) :
    Calls Try.prog 15 #[.slice (some ⟨g, 0, none⟩) n cap] w (Reversed w 3 base g n cap l) := by
  unfold maxLen at hm
  have HO := Lib.hid hown; clear hown
  have HN := Lib.hid hn; clear hn
  have x0 : IntKind.i64.wrap ((n : Int) - 1) = (n : Int) - 1 := IntWalk.i64_in _ (by omega)
  go_enter Try.func15, Try.ntmps15
  go_wp2_with fail
  go_loopw [2, 3] (fun i j wr => ∃ k : Nat, 2 * k ≤ n + 1 ∧ i = .int .i64 k ∧ j = .int .i64 ((n : Int) - 1 - k) ∧ Hid (wr.ownsRow base 3 1 (.slice (some ⟨g, 0, none⟩) n cap) n (ints (revTo l k))) ∧ Hid (w.grownBy wr (some g))) (fun i _ _ => n - (intOf i).toNat)
  case atStart => exact ⟨0, by omega, rfl, by simp, Lib.hid (by rw [revTo_zero]; exact HO.out), Lib.hid (World.grownBy.refl _ _)⟩
  case round =>
    clear HO
    obtain ⟨k, hk, rfl, rfl, HO, HG⟩ := hrel
    by_cases hlt : 2 * k + 1 < n
    · have y1 : wr.cell? ⟨g, k, none⟩ = some (.int .i64 (nth l k)) := by
        rw [HO.out.cellAt k (by omega), ints_get (by rw [revTo_len, ← HN.out]; omega), revTo_nth (by rw [← HN.out]; omega), if_neg (by rw [← HN.out]; omega)]
      have y2 : wr.cell? ⟨g, n - 1 - k, none⟩ = some (.int .i64 (nth l (n - 1 - k))) := by
        rw [HO.out.cellAt (n - 1 - k) (by omega), ints_get (by rw [revTo_len, ← HN.out]; omega), revTo_nth (by rw [← HN.out]; omega), if_neg (by rw [← HN.out]; omega)]
      have y3 := HO.out.frozenAt k
      have y4 := HO.out.frozenAt (n - 1 - k)
      have q1 : ((n : Int) - 1 - k).toNat = n - 1 - k := by omega
      have q2 : (0 : Int) ≤ (n : Int) - 1 - k := by omega
      have q3 : (n : Int) - 1 - k < n := by omega
      have q4 : (k : Int) < (n : Int) - 1 - k := by omega
      have q5 : (0 : Int) ≤ (k : Int) := by omega
      have q6 : (k : Int) < (n : Int) := by omega
      have HX := Lib.hid (ownsRow_two HO.out k (n - 1 - k) (.int .i64 (nth l (n - 1 - k))) (.int .i64 (nth l k)))
      go_wp2_with fail
      go_region
      clear x0 q1 q2 q3
      go_wp2_with fail
      go_roundw
      case rel =>
        refine ⟨k + 1, by omega, by go_num, by go_num, Lib.hid ?_, Lib.hid ?_⟩
        · have := HX.out.1
          rw [ints_set, ints_set, show (nth l (n - 1 - k)) = nth l (l.length - 1 - k) by rw [← HN.out], show n - 1 - k = l.length - 1 - k by rw [← HN.out], revTo_next (by rw [← HN.out]; omega), ← HN.out] at this
          exact this
        · exact grownBy_two (grownBy_two HG.out HX.out.2) ⟨rfl, rfl, rfl, Nat.le_refl _, fun _ _ _ => rfl⟩
      case measure => simp [intOf]; omega
    · have hge : ¬ ((k : Int) < (n : Int) - 1 - k) := by omega
      have HE : Hid (revTo l k = l.reverse) := Lib.hid (revTo_end (by rw [← HN.out]; omega))
      go_wp2_with fail
      go_returns
      exact ⟨rfl, by rw [← HE.out]; exact HO.out, HG.out⟩

set_option maxHeartbeats 400000 in
theorem reverse_empty (a : Option Addr) (c : Nat) (w : World) : Calls Try.prog 15 #[.slice a 0 c] w fun e w' => e = .returned (.tuple #[]) ∧ w = w' := by
  go_enter Try.func15, Try.ntmps15
  go_wp2_with fail
  go_loop [2, 3] (fun i j => i = .int .i64 0 ∧ j = .int .i64 (-1)) (fun _ _ => 0)
  case atStart => exact ⟨rfl, rfl⟩
  case round =>
    obtain ⟨rfl, rfl⟩ := hrel
    go_wp2_with fail
    go_returns
    exact ⟨rfl, rfl⟩

def ReversedAny (w : World) (E : TypeId) (base : Nat) (v : Value) (l : List Int) (e : Ending) (w' : World) : Prop :=
  e = .returned (.tuple #[]) ∧ w'.ownsRow base E 1 v l.reverse.length (ints l.reverse) ∧ w.grownBy w' v.ownBlock
theorem reverse_any (v : Value) (base : Nat) (l : List Int) (w : World) (hm : l.length ≤ maxLen) (hown : w.ownsRow base 3 1 v l.length (ints l)) :
    Calls Try.prog 15 #[v] w (ReversedAny w 3 base v l) := by
  rcases hown.2 with ⟨hv, h0⟩ | ⟨g, cap, cur, hv, -⟩
  · subst hv
    obtain rfl : l = [] := List.length_eq_zero_iff.1 h0
    refine (reverse_empty none 0 w).mono ?_
    rintro e w' ⟨rfl, rfl⟩
    exact ⟨rfl, hown, World.grownBy.refl _ _⟩
  · subst hv
    refine (reverse_ints g l.length cap base l w rfl hm hown).mono ?_
    rintro e w' ⟨rfl, h1, h2⟩
    exact ⟨rfl, by rw [List.length_reverse]; exact h1, h2⟩

end Go.Proofs.Ytfhcciepaangiaa
