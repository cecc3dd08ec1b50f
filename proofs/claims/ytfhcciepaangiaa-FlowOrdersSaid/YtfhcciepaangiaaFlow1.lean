/- What flow.Check and flow.index return, for every input. -/
import Derived.Test.YtfhcciepaangiaaOwned
set_option linter.unusedVariables false
set_option linter.unusedSimpArgs false
namespace Go.Proofs.Ytfhcciepaangiaa
open Go.RowKit
attribute [local go_sem ↓] Go.wp_at_zero Go.wp_at_succ

/- n capacities lie at a: the spans from F to T, with M slots -/
def capV (F T M : Nat → Int) (k : Nat) : Value := .int .i64 (if k % 3 = 0 then F (k / 3) else if k % 3 = 1 then T (k / 3) else M (k / 3))
def CapsAt (w : World) (a : Option Addr) (n : Nat) (F T M : Nat → Int) : Prop := RowAt w 3 a n (capV F T M)
theorem capV0 (F T M : Nat → Int) (i : Nat) : capV F T M (i * 3) = .int .i64 (F i) := by unfold capV; rw [if_pos (by omega)]; congr 2; omega
theorem capV1 (F T M : Nat → Int) (i : Nat) : capV F T M (i * 3 + 1) = .int .i64 (T i) := by unfold capV; rw [if_neg (by omega), if_pos (by omega)]; congr 2; omega
theorem capV2 (F T M : Nat → Int) (i : Nat) : capV F T M (i * 3 + 2) = .int .i64 (M i) := by unfold capV; rw [if_neg (by omega), if_neg (by omega)]; congr 2; omega
theorem caps_cells {w : World} {b off n : Nat} {F T M : Nat → Int} (h : ∀ k, k < n * 3 → w.cell? ⟨b, off + k, none⟩ = some (capV F T M k)) (i : Nat) (hi : i < n) :
    w.cell? ⟨b, off + i * 3, none⟩ = some (.int .i64 (F i)) ∧ w.cell? ⟨b, off + i * 3 + 1, none⟩ = some (.int .i64 (T i)) ∧ w.cell? ⟨b, off + i * 3 + 2, none⟩ = some (.int .i64 (M i)) := by
  refine ⟨?_, ?_, ?_⟩
  · rw [h (i * 3) (by omega), capV0]
  · rw [Nat.add_assoc, h (i * 3 + 1) (by omega), capV1]
  · rw [Nat.add_assoc, h (i * 3 + 2) (by omega), capV2]

def fbad (f t m : Int) : Prop := f < 0 ∨ 200000 < t ∨ t ≤ f ∨ m < 0 ∨ 24 < m
instance (f t m : Int) : Decidable (fbad f t m) := inferInstanceAs (Decidable (_ ∨ _))
def fsc (F T M : Nat → Int) : Nat → Int
  | 0 => 0
  | k + 1 => if fsc F T M k ≠ 0 then fsc F T M k else if fbad (F k) (T k) (M k) then 4 else if 0 < k ∧ F k < T (k - 1) then 12 else 0
def fchk (n : Nat) (F T M : Nat → Int) : Int := if 256 < n then 2 else fsc F T M n
theorem fsc_bad {F T M : Nat → Int} {k : Nat} (h : fsc F T M k = 0) (hb : fbad (F k) (T k) (M k)) : fsc F T M (k + 1) = 4 := by
  rw [fsc, if_neg (by omega), if_pos hb]
theorem fsc_time {F T M : Nat → Int} {k : Nat} (h : fsc F T M k = 0) (hb : ¬ fbad (F k) (T k) (M k)) (ht : 0 < k ∧ F k < T (k - 1)) : fsc F T M (k + 1) = 12 := by
  rw [fsc, if_neg (by omega), if_neg hb, if_pos ht]
theorem fsc_next {F T M : Nat → Int} {k : Nat} (h : fsc F T M k = 0) (hb : ¬ fbad (F k) (T k) (M k)) (ht : ¬ (0 < k ∧ F k < T (k - 1))) : fsc F T M (k + 1) = 0 := by
  rw [fsc, if_neg (by omega), if_neg hb, if_neg ht]
theorem fsc_stays {F T M : Nat → Int} {m : Nat} (h : fsc F T M m ≠ 0) : ∀ n, m ≤ n → fsc F T M n = fsc F T M m := by
  intro n hn
  induction n with
  | zero => obtain rfl : m = 0 := by omega
            rfl
  | succ n ih =>
    rcases Nat.lt_or_ge n m with h' | h'
    · obtain rfl : m = n + 1 := by omega
      rfl
    · have := ih h'
      rw [fsc, this, if_pos h]
theorem fchk_at {F T M : Nat → Int} {n m : Nat} {e : Int} (hn : n ≤ 256) (h : fsc F T M m = e) (he : e ≠ 0) (hm : m ≤ n) : fchk n F T M = e := by
  unfold fchk; rw [if_neg (by omega), fsc_stays (by rw [h]; exact he) n hm, h]
theorem fchk_ok {F T M : Nat → Int} {n : Nat} (hn : n ≤ 256) (h : fsc F T M n = 0) : fchk n F T M = 0 := by
  unfold fchk; rw [if_neg (by omega), h]

set_option maxRecDepth 100000 in
set_option maxHeartbeats 2000000 in
theorem fcheck_any (a : Option Addr) (n c : Nat) (F T M : Nat → Int) (w : World) (hm : n ≤ maxLen) (hR : CapsAt w a n F T M) :
    Calls Try.prog 10 #[.slice a n c] w fun e w' => e = .returned (.int .i64 (fchk n F T M)) ∧ Below w.heap.size w w' := by
  unfold maxLen at hm
  generalize hr : fchk n F T M = r
  have HR := Lib.hid hr; clear hr
  have HRow := Lib.hid hR; clear hR
  go_enter Try.func10, Try.ntmps10
  by_cases hb : 256 < n
  · have hd : decide (256 < n) = true := by simpa using hb
    go_wp2_with fail
    go_returns
    exact ⟨ret_int (by rw [← HR.out, fchk, if_pos hb]), by go_grown⟩
  have hd : decide (256 < n) = false := by simpa using hb
  go_wp2_with fail
  go_loopw [10] (fun i wr => ∃ k : Nat, k ≤ n ∧ i = .int .i64 k ∧ Hid (fsc F T M k = 0) ∧ Below w.heap.size w wr) (fun i _ => n - (intOf i).toNat)
  case atStart => exact ⟨0, by omega, rfl, Lib.hid rfl, by go_grown⟩
  case round =>
    obtain ⟨k, hk, rfl, HS, hB⟩ := hrel
    have hz := hB.size
    by_cases hlt : k < n
    · obtain ⟨b, off, rfl, hbl, hcell⟩ := (HRow.out.below hB (Nat.le_refl _)) (by omega)
      obtain ⟨e1, e2, e3⟩ := caps_cells hcell k hlt
      have HC := Lib.hid hcell; clear hcell
      by_cases hbad : fbad (F k) (T k) (M k)
      · have HV := Lib.hid (fchk_at (by omega) (fsc_bad HS.out hbad) (by decide) hlt)
        have hd1 : (decide (F k < 0) || decide (200000 < T k) || decide (T k ≤ F k) || decide (M k < 0) || decide (24 < M k)) = true := by
          unfold fbad at hbad; simp; omega
        clear hbad
        go_wp2_with fail
        all_goals
          go_returns
          exact ⟨ret_int (by rw [← HR.out, HV.out]), by go_grown⟩
      · obtain ⟨g1, g2, g3, g4, g5⟩ : 0 ≤ F k ∧ T k ≤ 200000 ∧ F k < T k ∧ 0 ≤ M k ∧ M k ≤ 24 := by unfold fbad at hbad; omega
        have HBad := Lib.hid hbad; clear hbad
        rcases Nat.eq_zero_or_pos k with h0 | h0
        · have HS2 := Lib.hid (fsc_next HS.out HBad.out (fun h => by omega))
          have hk0 : k ≤ 0 := by omega
          have hd2 : decide (0 < k) = false := by simp; omega
          clear h0
          go_wp2_with fail
          go_quiet (fail)
          go_wp2_with fail
          go_roundw
          case rel => exact ⟨k + 1, by omega, by go_num, HS2, below_drewN (by go_grown) _⟩
          case measure => simp [intOf]; omega
        · obtain ⟨-, e4, -⟩ := caps_cells HC.out (k - 1) (by omega)
          have hd2 : decide (0 < k) = true := by simpa using h0
          have x1 : IntKind.i64.wrap ((k : Int) - 1) = (k : Int) - 1 := IntWalk.i64_in _ (by omega)
          have x2 : (0 : Int) ≤ (k : Int) - 1 := by omega
          have x3 : ((k : Int) - 1).toNat = k - 1 := by omega
          have x4 : (k : Int) - 1 < (n : Int) := by omega
          by_cases ht : F k < T (k - 1)
          · have HV := Lib.hid (fchk_at (by omega) (fsc_time HS.out HBad.out ⟨h0, ht⟩) (by decide) hlt)
            have hd3 : decide (F k < T (k - 1)) = true := by simpa using ht
            go_wp2_with fail
            go_quiet (fail)
            go_wp2_with fail
            go_returns
            exact ⟨ret_int (by rw [← HR.out, HV.out]), below_drewN (by go_grown) _⟩
          · have HS2 := Lib.hid (fsc_next HS.out HBad.out (fun h => ht h.2))
            have hd3 : decide (F k < T (k - 1)) = false := by simpa using ht
            clear ht
            go_wp2_with fail
            go_quiet (fail)
            clear x1 x2 x3
            go_wp2_with fail
            go_roundw
            case rel => exact ⟨k + 1, by omega, by go_num, HS2, below_drewN (by go_grown) _⟩
            case measure => simp [intOf]; omega
    · have HV := Lib.hid (fchk_ok (F := F) (T := T) (M := M) (n := n) (by omega) (by rw [show n = k by omega]; exact HS.out))
      go_wp2_with fail
      go_returns
      exact ⟨ret_int (by rw [← HR.out, HV.out]), hB⟩

end Go.Proofs.Ytfhcciepaangiaa
