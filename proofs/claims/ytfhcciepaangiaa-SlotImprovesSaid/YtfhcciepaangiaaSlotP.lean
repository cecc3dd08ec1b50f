/- pick, and Equal of slots. -/
import Derived.Test.YtfhcciepaangiaaSlot3
set_option linter.unusedVariables false
set_option linter.unusedSimpArgs false
namespace Go.Proofs.Ytfhcciepaangiaa
theorem pick_tot (n : Nat) (a : Int) (m : Nat) (h0 : 0 < m) (h1 : m ≤ 1000000) : ∃ p : Nat, g20 n a (m : Int) = some (p : Int) ∧ p < m := by
  unfold g20
  have hm : IntKind.wrap .u64 (m : Int) = (m : Int) := by simp [IntKind.wrap, IntKind.signed, IntKind.bits]; omega
  have ha : 0 ≤ IntKind.wrap .u64 a := by simp [IntKind.wrap, IntKind.signed, IntKind.bits]; omega
  generalize IntKind.wrap .u64 a = b at ha
  have ht : Int.tmod b (m : Int) = ((b.toNat % m : Nat) : Int) := by
    obtain ⟨q, rfl⟩ := Int.eq_ofNat_of_zero_le ha
    rw [Int.tmod_eq_emod_of_nonneg ha, Int.toNat_natCast]; simp
  have hlt : b.toNat % m < m := Nat.mod_lt _ h0
  refine ⟨b.toNat % m, ?_, hlt⟩
  rw [hm]
  unfold modO
  rw [ht]
  have : ¬ ((m : Int) = 0) := by omega
  simp only [this, if_false, decide_false, cond_false, Option.bind_some]
  rw [wrap64 (by omega) (by omega)]
theorem equalS_eq (n : Nat) (a b : List TSlot) (ha : a.length ≤ 1000) (hn : a.length < n) : g22 n a b = some (decide (a = b)) := by
  unfold g22
  by_cases h : a.length = b.length
  · rw [show ((a.length : Int) != (b.length : Int)) = false by simp [h], cond_false]
    refine equal_loop a b h (fun i x y hx hy => ?_) (by unfold S22_0; simp) n hn
    have := some_lt hx
    unfold S22_0
    rw [decide_eq_true (show (i : Int) < _ by omega), getI_at hx, getI_at hy, wS (by omega)]
    simp only [cond_true, Option.bind_some]
    by_cases e : x = y <;> simp [e]
  · rw [show ((a.length : Int) != (b.length : Int)) = true from bne_iff_ne.2 (by omega), cond_true, decide_eq_false]
    intro e; rw [e] at h; exact h rfl
theorem nodup_of {l : List TSlotDemand} (h : DemOk l) : l.Nodup := by
  rw [List.nodup_iff_pairwise_ne]
  exact h.one.imp fun {a b} k e => k (by rw [e])
end Go.Proofs.Ytfhcciepaangiaa
