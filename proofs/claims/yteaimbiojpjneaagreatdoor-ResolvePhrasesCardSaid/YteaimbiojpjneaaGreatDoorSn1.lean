/- The argument of the sine after its reduction, at all 4096 angles. -/
import Derived.Test.YteaimbiojpjneaaGreatDoorSn0
set_option linter.unusedVariables false
set_option linter.unusedSimpArgs false
set_option maxRecDepth 100000
namespace Go.Proofs.YteaimbiojpjneaaGreatDoor

def allZ : Nat → Nat → Bool
  | 0, _ => true
  | n + 1, a => zOk (a + n) && allZ n a
theorem allZ_at : ∀ {n a : Nat}, allZ n a = true → ∀ k, k < n → zOk (a + k) = true
  | 0, a, _, k, hk => by omega
  | n + 1, a, h, k, hk => by
    unfold allZ at h
    rw [Bool.and_eq_true] at h
    rcases Nat.lt_succ_iff_lt_or_eq.1 hk with q | rfl
    · exact allZ_at h.2 k q
    · exact h.1
theorem z_0 : allZ 128 0 = true := by decide +kernel
theorem z_1 : allZ 128 128 = true := by decide +kernel
theorem z_2 : allZ 128 256 = true := by decide +kernel
theorem z_3 : allZ 128 384 = true := by decide +kernel
theorem z_4 : allZ 128 512 = true := by decide +kernel
theorem z_5 : allZ 128 640 = true := by decide +kernel
theorem z_6 : allZ 128 768 = true := by decide +kernel
theorem z_7 : allZ 128 896 = true := by decide +kernel
theorem z_8 : allZ 128 1024 = true := by decide +kernel
theorem z_9 : allZ 128 1152 = true := by decide +kernel
theorem z_10 : allZ 128 1280 = true := by decide +kernel
theorem z_11 : allZ 128 1408 = true := by decide +kernel
theorem z_12 : allZ 128 1536 = true := by decide +kernel
theorem z_13 : allZ 128 1664 = true := by decide +kernel
theorem z_14 : allZ 128 1792 = true := by decide +kernel
theorem z_15 : allZ 128 1920 = true := by decide +kernel
theorem z_16 : allZ 128 2048 = true := by decide +kernel
theorem z_17 : allZ 128 2176 = true := by decide +kernel
theorem z_18 : allZ 128 2304 = true := by decide +kernel
theorem z_19 : allZ 128 2432 = true := by decide +kernel
theorem z_20 : allZ 128 2560 = true := by decide +kernel
theorem z_21 : allZ 128 2688 = true := by decide +kernel
theorem z_22 : allZ 128 2816 = true := by decide +kernel
theorem z_23 : allZ 128 2944 = true := by decide +kernel
theorem z_24 : allZ 128 3072 = true := by decide +kernel
theorem z_25 : allZ 128 3200 = true := by decide +kernel
theorem z_26 : allZ 128 3328 = true := by decide +kernel
theorem z_27 : allZ 128 3456 = true := by decide +kernel
theorem z_28 : allZ 128 3584 = true := by decide +kernel
theorem z_29 : allZ 128 3712 = true := by decide +kernel
theorem z_30 : allZ 128 3840 = true := by decide +kernel
theorem z_31 : allZ 128 3968 = true := by decide +kernel
theorem z_all (h : Nat) (hh : h < 4096) : zOk h = true := by
  have key : ∀ b, b < 32 → allZ 128 (128 * b) = true := by
    intro b hb
    match b, hb with
    | 0, _ => exact z_0
    | 1, _ => exact z_1
    | 2, _ => exact z_2
    | 3, _ => exact z_3
    | 4, _ => exact z_4
    | 5, _ => exact z_5
    | 6, _ => exact z_6
    | 7, _ => exact z_7
    | 8, _ => exact z_8
    | 9, _ => exact z_9
    | 10, _ => exact z_10
    | 11, _ => exact z_11
    | 12, _ => exact z_12
    | 13, _ => exact z_13
    | 14, _ => exact z_14
    | 15, _ => exact z_15
    | 16, _ => exact z_16
    | 17, _ => exact z_17
    | 18, _ => exact z_18
    | 19, _ => exact z_19
    | 20, _ => exact z_20
    | 21, _ => exact z_21
    | 22, _ => exact z_22
    | 23, _ => exact z_23
    | 24, _ => exact z_24
    | 25, _ => exact z_25
    | 26, _ => exact z_26
    | 27, _ => exact z_27
    | 28, _ => exact z_28
    | 29, _ => exact z_29
    | 30, _ => exact z_30
    | 31, _ => exact z_31
    | n + 32, hb => omega
  have := allZ_at (key (h / 128) (by omega)) (h % 128) (Nat.mod_lt _ (by decide))
  rwa [show 128 * (h / 128) + h % 128 = h by omega] at this
end Go.Proofs.YteaimbiojpjneaaGreatDoor
