/- What chart.Name returns, for every input. -/
import Derived.Test.YtekjoddmohjpbaaOwned
import Derived.Lib.ConvBytes
set_option linter.unusedVariables false
set_option linter.unusedSimpArgs false
namespace Go.Proofs.Ytekjoddmohjpbaa
open Go.RowKit
attribute [local go_sem ↓] Go.wp_at_zero Go.wp_at_succ

def byteAt (s : ByteArray) (i : Nat) : Int := (s.data.toList.getD i 0).toNat
def okc (i : Nat) (c : Int) : Prop := (65 ≤ c ∧ c ≤ 90) ∨ (0 < i ∧ 48 ≤ c ∧ c ≤ 57)
instance (i : Nat) (c : Int) : Decidable (okc i c) := inferInstanceAs (Decidable (_ ∨ _))
def nameB (s : ByteArray) : Bool := decide (1 ≤ s.size ∧ s.size ≤ 8 ∧ ∀ i, i < s.size → okc i (byteAt s i))
theorem bytesBelow (w : World) (e : TypeId) (s : ByteArray) : Below w.heap.size w (Lib.bytesWorld w e s) :=
  ⟨rfl, rfl, rfl, by rw [Lib.bytesWorld_size]; omega, fun k hk => Lib.bytesWorld_at_old w e s k hk⟩
set_option maxRecDepth 100000 in
set_option maxHeartbeats 2000000 in
theorem name_any (s : ByteArray) (w : World) (hs : s.size ≤ maxLen) :
    Calls Try.prog 34 #[.string s] w fun e w' => e = .returned (.bool (nameB s)) ∧ Below w.heap.size w w' := by
  unfold maxLen at hs
  generalize hr : nameB s = r
  have HR := Lib.hid hr; clear hr
  by_cases h1 : s.size < 1
  · have hd : decide (s.size < 1) = true := decide_eq_true h1
    have hd2 : decide ((s.size : Int) < 1) = true := decide_eq_true (by omega)
    have HV : Hid (r = false) := Lib.hid (by rw [← HR.out]; exact decide_eq_false (by omega))
    go_enter Try.func34, Try.ntmps34
    go_wp2_with fail
    go_returns
    exact ⟨ret_bool HV.out.symm, by go_grown⟩
  by_cases h2 : 8 < s.size
  · have hd : decide (8 < s.size) = true := decide_eq_true h2
    have HV : Hid (r = false) := Lib.hid (by rw [← HR.out]; exact decide_eq_false (by omega))
    go_enter Try.func34, Try.ntmps34
    go_wp2_with fail
    go_returns
    exact ⟨ret_bool HV.out.symm, by go_grown⟩
  have hd : decide (8 < s.size) = false := decide_eq_false h2
  have hd1 : decide (s.size < 1) = false := decide_eq_false h1
  have hs1 : 1 ≤ s.size := by omega
  have hs8 : s.size ≤ 8 := by omega
  clear h1 h2
  have hconv := Lib.run_convert_string_bytes (P := Try.prog) w 9 74 5 s Try.underlying9 Try.underlying74 Try.underlying5
  have hcell := fun j hj => Lib.bytesWorld_cell w 5 s j hj
  have hB := bytesBelow w 5 s
  generalize Lib.bytesWorld w 5 s = wb at hconv hcell hB
  generalize grownCap w s.size 0 5 = cap at hconv
  have HC := Lib.hid hcell; clear hcell
  go_enter Try.func34, Try.ntmps34
  go_wp2_with fail
  go_loop [16] (fun i => ∃ k : Nat, k ≤ s.size ∧ i = .int .i64 k ∧ Hid (∀ j, j < k → okc j (byteAt s j))) (fun i => s.size - (intOf i).toNat)
  case atStart => exact ⟨0, by omega, rfl, Lib.hid (fun j hj => absurd hj (by omega))⟩
  case round =>
    obtain ⟨k, hk, rfl, HA⟩ := hrel
    by_cases hlt : k < s.size
    · have e1 := HC.out k hlt
      have hc1 : 0 ≤ byteAt s k := by unfold byteAt; omega
      have hc2 : byteAt s k ≤ 255 := by unfold byteAt; have := (s.data.toList.getD k 0).toNat_lt; omega
      have e2 : wb.cell? ⟨w.heap.size, k, none⟩ = some (.int .u8 (byteAt s k)) := e1
      clear e1
      by_cases hok : okc k (byteAt s k)
      · have HA2 : Hid (∀ j, j < k + 1 → okc j (byteAt s j)) := Lib.hid (fun j hj => by
          rcases Nat.lt_or_ge j k with h | h
          · exact HA.out j h
          · obtain rfl : j = k := by omega
            exact hok)
        generalize byteAt s k = c at e2 hc1 hc2 hok
        unfold okc at hok
        rcases hok with ⟨g1, g2⟩ | ⟨g0, g1, g2⟩
        · go_wp2_with fail
          go_round
          case rel => exact ⟨k + 1, by omega, by go_num, HA2⟩
          case measure => simp [intOf]; omega
        · have g3 : c < 65 := by omega
          go_wp2_with fail
          go_round
          case rel => exact ⟨k + 1, by omega, by go_num, HA2⟩
          case measure => simp [intOf]; omega
      · have HV : Hid (r = false) := Lib.hid (by rw [← HR.out]; exact decide_eq_false (fun h => hok (h.2.2 k hlt)))
        generalize byteAt s k = c at e2 hc1 hc2 hok
        have hcase : (90 < c ∧ k ≤ 0) ∨ (90 < c ∧ 0 < k) ∨ (c < 65 ∧ k ≤ 0) ∨ (c < 48 ∧ 0 < k) ∨ (57 < c ∧ c < 65 ∧ 0 < k) := by unfold okc at hok; omega
        clear hok
        rcases hcase with ⟨g1, g2⟩ | ⟨g1, g2⟩ | ⟨g1, g2⟩ | ⟨g1, g2⟩ | ⟨g1, g0, g2⟩
        all_goals
          go_wp2_with fail
        all_goals first
          | (go_returns; exact ⟨ret_bool HV.out.symm, hB⟩)
          | (exfalso; omega)
          | (exfalso; simp at *; omega)
          | (exfalso; simp at *; done)
    · have HV : Hid (r = true) := Lib.hid (by rw [← HR.out]; exact decide_eq_true ⟨hs1, hs8, fun i hi => HA.out i (by omega)⟩)
      go_wp2_with fail
      go_returns
      exact ⟨ret_bool HV.out.symm, hB⟩

end Go.Proofs.Ytekjoddmohjpbaa
