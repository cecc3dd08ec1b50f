/- What wake.Check, Class and Standard return, for every input. -/
import Derived.Test.YtfmodgffhbljoaaBase
namespace Go.Proofs.Ytfmodgffhbljoaa
open Go.RowKit

theorem idx (x : Nat → Int) (w : World) (i : Nat) (hi : i < 4) : (Instr.index 24 (.agg #[.int .i64 (x 0), .int .i64 (x 1), .int .i64 (x 2), .int .i64 (x 3), .int .i64 (x 4), .int .i64 (x 5), .int .i64 (x 6), .int .i64 (x 7), .int .i64 (x 8), .int .i64 (x 9), .int .i64 (x 10), .int .i64 (x 11), .int .i64 (x 12), .int .i64 (x 13), .int .i64 (x 14), .int .i64 (x 15)]) (.int .i64 i)).run Try.prog w = .ok (.agg #[.int .i64 (x (4 * i)), .int .i64 (x (4 * i + 1)), .int .i64 (x (4 * i + 2)), .int .i64 (x (4 * i + 3))]) w := by
  obtain rfl | rfl | rfl | rfl : i = 0 ∨ i = 1 ∨ i = 2 ∨ i = 3 := by omega
  all_goals kernel_rfl
theorem idx2 (x : Nat → Int) (w : World) (i : Nat) (j : Nat) (hi : j < 4) : (Instr.index 22 (.agg #[.int .i64 (x (4 * i)), .int .i64 (x (4 * i + 1)), .int .i64 (x (4 * i + 2)), .int .i64 (x (4 * i + 3))]) (.int .i64 j)).run Try.prog w = .ok (.int .i64 (x (4 * i + j))) w := by
  obtain rfl | rfl | rfl | rfl : j = 0 ∨ j = 1 ∨ j = 2 ∨ j = 3 := by omega
  all_goals kernel_rfl

def inR (v : Int) : Prop := 30 ≤ v ∧ v ≤ 600
def tri (x : Nat → Int) (a b c : Nat) : Prop := x (4 * a + c) ≤ x (4 * a + b) + x (4 * b + c)
open Classical in
noncomputable def wchk (x : Nat → Int) : Int := if ∀ k, k < 16 → inR (x k) then (if ∀ a b c, a < 4 → b < 4 → c < 4 → tri x a b c then 0 else 3) else 4

theorem tab_cell {w : World} {b : Nat} {x : Nat → Int} {t : TypeId} (h : Blk w b (.cells #[.int .i64 (x 0), .int .i64 (x 1), .int .i64 (x 2), .int .i64 (x 3), .int .i64 (x 4), .int .i64 (x 5), .int .i64 (x 6), .int .i64 (x 7), .int .i64 (x 8), .int .i64 (x 9), .int .i64 (x 10), .int .i64 (x 11), .int .i64 (x 12), .int .i64 (x 13), .int .i64 (x 14), .int .i64 (x 15)] t)) (k : Nat) (hk : k < 16) : w.cell? ⟨b, k, none⟩ = some (.int .i64 (x k)) := by
  rw [h.cell]
  obtain rfl | rfl | rfl | rfl | rfl | rfl | rfl | rfl | rfl | rfl | rfl | rfl | rfl | rfl | rfl | rfl : k = 0 ∨ k = 1 ∨ k = 2 ∨ k = 3 ∨ k = 4 ∨ k = 5 ∨ k = 6 ∨ k = 7 ∨ k = 8 ∨ k = 9 ∨ k = 10 ∨ k = 11 ∨ k = 12 ∨ k = 13 ∨ k = 14 ∨ k = 15 := by omega
  all_goals rfl

theorem tab_cell2 {w : World} {b : Nat} {x : Nat → Int} {t : TypeId} (h : Blk w b (.cells #[.int .i64 (x 0), .int .i64 (x 1), .int .i64 (x 2), .int .i64 (x 3), .int .i64 (x 4), .int .i64 (x 5), .int .i64 (x 6), .int .i64 (x 7), .int .i64 (x 8), .int .i64 (x 9), .int .i64 (x 10), .int .i64 (x 11), .int .i64 (x 12), .int .i64 (x 13), .int .i64 (x 14), .int .i64 (x 15)] t)) (i j : Nat) (hi : i < 4) (hj : j < 4) : w.cell? ⟨b, i * 4 + j, none⟩ = some (.int .i64 (x (4 * i + j))) := by
  rw [Nat.mul_comm i 4]; exact tab_cell h _ (by omega)
theorem wchk_bad (x : Nat → Int) (k : Nat) (hk : k < 16) (h : ¬ inR (x k)) : wchk x = 4 := by
  unfold wchk; rw [if_neg (fun hh => h (hh k hk))]
theorem wchk_tri (x : Nat → Int) (hall : ∀ k, k < 16 → inR (x k)) (a b c : Nat) (ha : a < 4) (hb : b < 4) (hc : c < 4) (h : ¬ tri x a b c) : wchk x = 3 := by
  unfold wchk; rw [if_pos hall, if_neg (fun hh => h (hh a b c ha hb hc))]
theorem wchk_ok (x : Nat → Int) (hall : ∀ k, k < 16 → inR (x k)) (h : ∀ a b c, a < 4 → b < 4 → c < 4 → tri x a b c) : wchk x = 0 := by
  unfold wchk; rw [if_pos hall, if_pos h]

set_option maxRecDepth 100000 in
set_option maxHeartbeats 2000000 in
theorem wcheck (x : Nat → Int) (w : World) :
    Calls Try.prog 36 #[.agg #[.int .i64 (x 0), .int .i64 (x 1), .int .i64 (x 2), .int .i64 (x 3), .int .i64 (x 4), .int .i64 (x 5), .int .i64 (x 6), .int .i64 (x 7), .int .i64 (x 8), .int .i64 (x 9), .int .i64 (x 10), .int .i64 (x 11), .int .i64 (x 12), .int .i64 (x 13), .int .i64 (x 14), .int .i64 (x 15)]] w fun e w' => e = .returned (.int .i64 (wchk x)) ∧ Below w.heap.size w w' := by
  generalize hr : wchk x = r
  have HR := Lib.hid hr; clear hr
  go_enter Try.func36, Try.ntmps36
  go_wp2_with fail
  go_loopw [11] (fun i wr => ∃ k : Nat, k ≤ 4 ∧ i = .int .i64 k ∧ Hid (∀ j, j < 4 * k → inR (x j)) ∧ Hid (Blk wr w.heap.size (.cells #[.int .i64 (x 0), .int .i64 (x 1), .int .i64 (x 2), .int .i64 (x 3), .int .i64 (x 4), .int .i64 (x 5), .int .i64 (x 6), .int .i64 (x 7), .int .i64 (x 8), .int .i64 (x 9), .int .i64 (x 10), .int .i64 (x 11), .int .i64 (x 12), .int .i64 (x 13), .int .i64 (x 14), .int .i64 (x 15)] 24)) ∧ Below w.heap.size w wr) (fun i _ => 4 - (intOf i).toNat)
  case atStart => exact ⟨0, by omega, rfl, Lib.hid (fun j hj => absurd hj (by omega)), Lib.hid (Blk.new _ _), by go_grown⟩
  case round =>
    obtain ⟨k, hk, rfl, HA, HT, hB⟩ := hrel
    have hz := hB.size
    by_cases hlt : k < 4
    · have hi := fun w => idx x w k hlt
      go_wp2_with fail
      go_loop [15] (fun i => ∃ m : Nat, m ≤ 4 ∧ i = .int .i64 m ∧ Hid (∀ j, j < 4 * k + m → inR (x j))) (fun i => 4 - (intOf i).toNat)
      case atStart => exact ⟨0, by omega, rfl, HA⟩
      case round =>
        obtain ⟨m, hm, rfl, HA2⟩ := hrel
        by_cases hlm : m < 4
        · have hi2 := fun w => idx2 x w k m hlm
          by_cases h1 : x (4 * k + m) < 30
          · have hrr := wchk_bad x (4 * k + m) (by omega) (fun h => absurd h.1 (by omega))
            have HRR := Lib.hid hrr; clear hrr
            go_wp2_with fail
            go_returns
            exact ⟨ret_int (by rw [← HR.out, HRR.out]), by go_grown⟩
          by_cases h2 : 600 < x (4 * k + m)
          · have hrr := wchk_bad x (4 * k + m) (by omega) (fun h => absurd h.2 (by omega))
            have HRR := Lib.hid hrr; clear hrr
            go_wp2_with fail
            go_returns
            exact ⟨ret_int (by rw [← HR.out, HRR.out]), by go_grown⟩
          have HA3 : Hid (∀ j, j < 4 * k + (m + 1) → inR (x j)) := Lib.hid (fun j hj => by
            by_cases hjm : j = 4 * k + m
            · subst hjm; exact ⟨by omega, by omega⟩
            · exact HA2.out j (by omega))
          go_wp2_with fail
          go_round
          case rel => exact ⟨m + 1, by omega, by go_num, HA3⟩
          case measure => simp [intOf]; omega
        · go_wp2_with fail
          go_roundw
          case rel => exact ⟨k + 1, by omega, by go_num, Lib.hid (fun j hj => HA2.out j (by omega)), Lib.hid ((HT.out).alloc _), by go_grown⟩
          case measure => simp [intOf]; omega
    · have hall : Hid (∀ j, j < 16 → inR (x j)) := Lib.hid (fun j hj => HA.out j (by omega))
      clear HA
      go_wp2_with fail
      go_loopw [26] (fun i wr => ∃ a : Nat, a ≤ 4 ∧ i = .int .i64 a ∧ Hid (∀ a' b' c', a' < a → b' < 4 → c' < 4 → tri x a' b' c') ∧ Hid (Blk wr w.heap.size (.cells #[.int .i64 (x 0), .int .i64 (x 1), .int .i64 (x 2), .int .i64 (x 3), .int .i64 (x 4), .int .i64 (x 5), .int .i64 (x 6), .int .i64 (x 7), .int .i64 (x 8), .int .i64 (x 9), .int .i64 (x 10), .int .i64 (x 11), .int .i64 (x 12), .int .i64 (x 13), .int .i64 (x 14), .int .i64 (x 15)] 24)) ∧ Below w.heap.size w wr) (fun i _ => 4 - (intOf i).toNat)
      case atStart => exact ⟨0, by omega, rfl, Lib.hid (fun a' b' c' h => absurd h (by omega)), HT, hB⟩
      case round =>
        clear hB hz HT
        obtain ⟨a, ha, rfl, HA, HT, hB⟩ := hrel
        obtain ⟨wo, rfl⟩ : ∃ wo : World, wo = wr := ⟨_, rfl⟩
        by_cases hla : a < 4
        · go_wp2_with fail
          go_loopw [29] (fun i wr => ∃ b : Nat, b ≤ 4 ∧ i = .int .i64 b ∧ Hid (∀ b' c', b' < b → c' < 4 → tri x a b' c') ∧ Hid (Blk wr w.heap.size (.cells #[.int .i64 (x 0), .int .i64 (x 1), .int .i64 (x 2), .int .i64 (x 3), .int .i64 (x 4), .int .i64 (x 5), .int .i64 (x 6), .int .i64 (x 7), .int .i64 (x 8), .int .i64 (x 9), .int .i64 (x 10), .int .i64 (x 11), .int .i64 (x 12), .int .i64 (x 13), .int .i64 (x 14), .int .i64 (x 15)] 24)) ∧ Below w.heap.size w wr) (fun i _ => 4 - (intOf i).toNat)
          case atStart => exact ⟨0, by omega, rfl, Lib.hid (fun b' c' h => absurd h (by omega)), HT, hB⟩
          case round =>
            clear hB HT
            obtain ⟨b, hb, rfl, HA2, HT, hB⟩ := hrel
            obtain ⟨wo, rfl⟩ : ∃ wo : World, wo = wr := ⟨_, rfl⟩
            by_cases hlb : b < 4
            · go_wp2_with fail
              go_loopw [32] (fun i wr => ∃ c : Nat, c ≤ 4 ∧ i = .int .i64 c ∧ Hid (∀ c', c' < c → tri x a b c') ∧ Hid (Blk wr w.heap.size (.cells #[.int .i64 (x 0), .int .i64 (x 1), .int .i64 (x 2), .int .i64 (x 3), .int .i64 (x 4), .int .i64 (x 5), .int .i64 (x 6), .int .i64 (x 7), .int .i64 (x 8), .int .i64 (x 9), .int .i64 (x 10), .int .i64 (x 11), .int .i64 (x 12), .int .i64 (x 13), .int .i64 (x 14), .int .i64 (x 15)] 24)) ∧ Below w.heap.size w wr) (fun i _ => 4 - (intOf i).toNat)
              case atStart => exact ⟨0, by omega, rfl, Lib.hid (fun c' h => absurd h (by omega)), HT, hB⟩
              case round =>
                clear hB HT
                obtain ⟨c, hc, rfl, HA3, HT, hB⟩ := hrel
                obtain ⟨wo, rfl⟩ : ∃ wo : World, wo = wr := ⟨_, rfl⟩
                by_cases hlc : c < 4
                · have e1 := tab_cell2 HT.out a c hla hlc
                  have e2 := tab_cell2 HT.out a b hla hlb
                  have e3 := tab_cell2 HT.out b c hlb hlc
                  obtain ⟨b1, b2⟩ := hall.out (4 * a + c) (by omega)
                  obtain ⟨b3, b4⟩ := hall.out (4 * a + b) (by omega)
                  obtain ⟨b5, b6⟩ := hall.out (4 * b + c) (by omega)
                  go_wp2_with fail
                  go_quiet (fail)
                  by_cases ht : tri x a b c
                  · have htt : x (4 * a + c) ≤ x (4 * a + b) + x (4 * b + c) := ht
                    have HA4 : Hid (∀ c', c' < c + 1 → tri x a b c') := Lib.hid (fun c' h' => by
                      by_cases hcc : c' = c
                      · subst hcc; exact ht
                      · exact HA3.out c' (by omega))
                    clear ht
                    go_wp2_with fail
                    go_roundw
                    case rel => exact ⟨c + 1, by omega, by go_num, HA4, Lib.hid (Blk.drewN HT.out _), below_drewN hB _⟩
                    case measure => simp [intOf]; omega
                  · have hrr := wchk_tri x hall.out a b c hla hlb hlc ht
                    have HRR := Lib.hid hrr; clear hrr
                    have htt : x (4 * a + b) + x (4 * b + c) < x (4 * a + c) := by unfold tri at ht; omega
                    clear ht
                    go_wp2_with fail
                    go_returns
                    exact ⟨ret_int (by rw [← HR.out, HRR.out]), below_drewN hB _⟩
                · go_wp2_with fail
                  go_roundw
                  case rel => exact ⟨b + 1, by omega, by go_num, Lib.hid (fun b' c' h1 h2 => by
                      by_cases hbb : b' = b
                      · subst hbb; exact HA3.out c' (by omega)
                      · exact HA2.out b' c' (by omega) h2), HT, hB⟩
                  case measure => simp [intOf]; omega
            · go_wp2_with fail
              go_roundw
              case rel => exact ⟨a + 1, by omega, by go_num, Lib.hid (fun a' b' c' h1 h2 h3 => by
                  by_cases haa : a' = a
                  · subst haa; exact HA2.out b' c' (by omega) h3
                  · exact HA.out a' b' c' (by omega) h2 h3), HT, hB⟩
              case measure => simp [intOf]; omega
        · have hrr := wchk_ok x hall.out (fun a' b' c' h1 h2 h3 => HA.out a' b' c' (by omega) h2 h3)
          have HRR := Lib.hid hrr; clear hrr
          go_wp2_with fail
          go_returns
          exact ⟨ret_int (by rw [← HR.out, HRR.out]), hB⟩

end Go.Proofs.Ytfmodgffhbljoaa
