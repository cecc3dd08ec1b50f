/- flowFact returns true. -/
import Derived.Test.YtfhcciepaangiaaFlow5
set_option linter.unusedVariables false
set_option linter.unusedSimpArgs false
namespace Go.Proofs.Ytfhcciepaangiaa
open Go.RowKit
attribute [local go_sem ↓] Go.wp_at_zero Go.wp_at_succ

set_option maxRecDepth 100000 in
set_option maxHeartbeats 2000000 in
theorem ffact_any (w : World) : Calls Try.prog 9 #[] w fun e w' => e = .returned (.bool true) ∧ Below w.heap.size w w' := by
  go_enter Try.func9, Try.ntmps9
  go_wp2_with fail
  refine (caps_any _).mono ?_
  rintro e w1 ⟨g1, rfl, hc, hb⟩
  have hS : Below w.heap.size w w1 := Below.step (by repeat' (first | exact Below.refl _ _ | assumption | (with_reducible refine Below.alloc ?_ ?_ _) | (with_reducible refine below_drewN ?_ _) | (with_reducible refine Below.drew ?_) | (with_reducible refine Below.setCell ?_ ?_ _) | go_size)) hb (by go_size)
  have hB1 : Below w.heap.size w w1 := hS
  have hz1 := hB1.size
  clear hS hb
  have C1 := Lib.hid (hc)
  clear hc
  go_wp2_with fail
  refine (fat_any _ 2 2 (nth [0, 10]) (nth [10, 20]) (nth [1, 1]) 10 _ (by decide) C1.out).mono ?_
  rintro e w2 ⟨rfl, hb⟩
  have hS : Below w1.heap.size w1 w2 := Below.step (by repeat' (first | exact Below.refl _ _ | assumption | (with_reducible refine Below.alloc ?_ ?_ _) | (with_reducible refine below_drewN ?_ _) | (with_reducible refine Below.drew ?_) | (with_reducible refine Below.setCell ?_ ?_ _) | go_size)) hb (by go_size)
  replace C1 := Lib.hid (RowAt.after C1.out hS)
  have hB2 : Below w.heap.size w w2 := hB1.trans (hS.mono hB1.size)
  have hz2 := hB2.size
  clear hS hb hB1 hz1
  rw [show atI 2 (nth [0, 10]) (nth [10, 20]) (nth [1, 1]) 10 = 1 by decide, show atE 2 (nth [0, 10]) (nth [10, 20]) (nth [1, 1]) 10 = 0 by decide]
  clear C1
  go_wp2_with fail
  refine (caps_any _).mono ?_
  rintro e w3 ⟨g2, rfl, hc, hb⟩
  have hS : Below w2.heap.size w2 w3 := Below.step (by repeat' (first | exact Below.refl _ _ | assumption | (with_reducible refine Below.alloc ?_ ?_ _) | (with_reducible refine below_drewN ?_ _) | (with_reducible refine Below.drew ?_) | (with_reducible refine Below.setCell ?_ ?_ _) | go_size)) hb (by go_size)
  have hB3 : Below w.heap.size w w3 := hB2.trans (hS.mono hB2.size)
  have hz3 := hB3.size
  clear hS hb hB2 hz2
  have C2 := Lib.hid (hc)
  clear hc
  go_wp2_with fail
  refine (fdemand_any _ 2 2 (nth [0, 10]) (nth [10, 20]) (nth [1, 1]) _ 3 3 (nth [3, 4, 20]) _ (by decide) (RowAt.after C2.out (by repeat' (first | exact Below.refl _ _ | assumption | (with_reducible refine Below.alloc ?_ ?_ _) | (with_reducible refine below_drewN ?_ _) | (with_reducible refine Below.drew ?_) | (with_reducible refine Below.setCell ?_ ?_ _) | go_size))) (by decide) (ints_block (l := [3, 4, 20]) (Blk.newAt _ _ _ rfl) rfl)).mono ?_
  rintro e w4 ⟨v1, rfl, ho, hb⟩
  have hS : Below w3.heap.size w3 w4 := Below.step (by repeat' (first | exact Below.refl _ _ | assumption | (with_reducible refine Below.alloc ?_ ?_ _) | (with_reducible refine below_drewN ?_ _) | (with_reducible refine Below.drew ?_) | (with_reducible refine Below.setCell ?_ ?_ _) | go_size)) hb (by go_size)
  replace C2 := Lib.hid (RowAt.after C2.out hS)
  have hB4 : Below w.heap.size w w4 := hB3.trans (hS.mono hB3.size)
  have hz4 := hB4.size
  clear hS hb hB3 hz3
  rw [show demL 2 (nth [0, 10]) (nth [10, 20]) (nth [1, 1]) 3 (nth [3, 4, 20]) = [2, 0] by decide] at ho
  rw [show demN 2 (nth [0, 10]) (nth [10, 20]) (nth [1, 1]) 3 (nth [3, 4, 20]) = 1 by decide, show demE 2 (nth [0, 10]) (nth [10, 20]) (nth [1, 1]) 3 (nth [3, 4, 20]) = 0 by decide]
  clear C2
  obtain ⟨a1, c1, hv1, -, -, -, hi1⟩ := ints_at ho
  subst hv1
  have I1 := Lib.hid (hi1)
  clear hi1 ho
  go_wp2_with fail
  refine (caps_any _).mono ?_
  rintro e w5 ⟨g3, rfl, hc, hb⟩
  have hS : Below w4.heap.size w4 w5 := Below.step (by repeat' (first | exact Below.refl _ _ | assumption | (with_reducible refine Below.alloc ?_ ?_ _) | (with_reducible refine below_drewN ?_ _) | (with_reducible refine Below.drew ?_) | (with_reducible refine Below.setCell ?_ ?_ _) | go_size)) hb (by go_size)
  replace I1 := Lib.hid (RowAt.after I1.out hS)
  have hB5 : Below w.heap.size w w5 := hB4.trans (hS.mono hB4.size)
  have hz5 := hB5.size
  clear hS hb hB4 hz4
  have C3 := Lib.hid (hc)
  clear hc
  go_wp2_with fail
  refine (fover_any _ 2 2 (nth [0, 10]) (nth [10, 20]) (nth [1, 1]) _ 3 3 (nth [3, 4, 20]) _ (by decide) (RowAt.after C3.out (by repeat' (first | exact Below.refl _ _ | assumption | (with_reducible refine Below.alloc ?_ ?_ _) | (with_reducible refine below_drewN ?_ _) | (with_reducible refine Below.drew ?_) | (with_reducible refine Below.setCell ?_ ?_ _) | go_size))) (by decide) (ints_block (l := [3, 4, 20]) (Blk.newAt _ _ _ rfl) rfl)).mono ?_
  rintro e w6 ⟨v2, rfl, ho, hb⟩
  have hS : Below w5.heap.size w5 w6 := Below.step (by repeat' (first | exact Below.refl _ _ | assumption | (with_reducible refine Below.alloc ?_ ?_ _) | (with_reducible refine below_drewN ?_ _) | (with_reducible refine Below.drew ?_) | (with_reducible refine Below.setCell ?_ ?_ _) | go_size)) hb (by go_size)
  replace I1 := Lib.hid (RowAt.after I1.out hS)
  replace C3 := Lib.hid (RowAt.after C3.out hS)
  have hB6 : Below w.heap.size w w6 := hB5.trans (hS.mono hB5.size)
  have hz6 := hB6.size
  clear hS hb hB5 hz5
  rw [show overL 2 (nth [0, 10]) (nth [10, 20]) (nth [1, 1]) 3 (nth [3, 4, 20]) = [0] by decide] at ho
  rw [show demE 2 (nth [0, 10]) (nth [10, 20]) (nth [1, 1]) 3 (nth [3, 4, 20]) = 0 by decide]
  clear C3
  obtain ⟨a2, c2, hv2, -, -, -, hi2⟩ := ints_at ho
  subst hv2
  have I2 := Lib.hid (hi2)
  clear hi2 ho
  go_wp2_with fail
  refine (caps_any _).mono ?_
  rintro e w7 ⟨g4, rfl, hc, hb⟩
  have hS : Below w6.heap.size w6 w7 := Below.step (by repeat' (first | exact Below.refl _ _ | assumption | (with_reducible refine Below.alloc ?_ ?_ _) | (with_reducible refine below_drewN ?_ _) | (with_reducible refine Below.drew ?_) | (with_reducible refine Below.setCell ?_ ?_ _) | go_size)) hb (by go_size)
  replace I1 := Lib.hid (RowAt.after I1.out hS)
  replace I2 := Lib.hid (RowAt.after I2.out hS)
  have hB7 : Below w.heap.size w w7 := hB6.trans (hS.mono hB6.size)
  have hz7 := hB7.size
  clear hS hb hB6 hz6
  have C4 := Lib.hid (hc)
  clear hc
  go_wp2_with fail
  refine (froom_any _ 2 2 (nth [0, 10]) (nth [10, 20]) (nth [1, 1]) 10 _ (by decide) C4.out).mono ?_
  rintro e w8 ⟨rfl, hb⟩
  have hS : Below w7.heap.size w7 w8 := Below.step (by repeat' (first | exact Below.refl _ _ | assumption | (with_reducible refine Below.alloc ?_ ?_ _) | (with_reducible refine below_drewN ?_ _) | (with_reducible refine Below.drew ?_) | (with_reducible refine Below.setCell ?_ ?_ _) | go_size)) hb (by go_size)
  replace I1 := Lib.hid (RowAt.after I1.out hS)
  replace I2 := Lib.hid (RowAt.after I2.out hS)
  replace C4 := Lib.hid (RowAt.after C4.out hS)
  have hB8 : Below w.heap.size w w8 := hB7.trans (hS.mono hB7.size)
  have hz8 := hB8.size
  clear hS hb hB7 hz7
  rw [show roomN 2 (nth [0, 10]) (nth [10, 20]) (nth [1, 1]) 10 = 1 by decide, show fchk 2 (nth [0, 10]) (nth [10, 20]) (nth [1, 1]) = 0 by decide]
  clear C4
  go_wp2_with fail
  refine (caps_any _).mono ?_
  rintro e w9 ⟨g5, rfl, hc, hb⟩
  have hS : Below w8.heap.size w8 w9 := Below.step (by repeat' (first | exact Below.refl _ _ | assumption | (with_reducible refine Below.alloc ?_ ?_ _) | (with_reducible refine below_drewN ?_ _) | (with_reducible refine Below.drew ?_) | (with_reducible refine Below.setCell ?_ ?_ _) | go_size)) hb (by go_size)
  replace I1 := Lib.hid (RowAt.after I1.out hS)
  replace I2 := Lib.hid (RowAt.after I2.out hS)
  have hB9 : Below w.heap.size w w9 := hB8.trans (hS.mono hB8.size)
  have hz9 := hB9.size
  clear hS hb hB8 hz8
  have C5 := Lib.hid (hc)
  clear hc
  go_wp2_with fail
  refine (fless_any _ 2 2 (nth [0, 10]) (nth [10, 20]) (nth [1, 1]) 3 _ (by decide) (fun h => by cases h) C5.out).mono ?_
  rintro e w10 ⟨v3, rfl, -, ho, hb⟩
  have hS : Below w9.heap.size w9 w10 := Below.step (by repeat' (first | exact Below.refl _ _ | assumption | (with_reducible refine Below.alloc ?_ ?_ _) | (with_reducible refine below_drewN ?_ _) | (with_reducible refine Below.drew ?_) | (with_reducible refine Below.setCell ?_ ?_ _) | go_size)) hb (by go_size)
  replace I1 := Lib.hid (RowAt.after I1.out hS)
  replace I2 := Lib.hid (RowAt.after I2.out hS)
  replace C5 := Lib.hid (RowAt.after C5.out hS)
  have hB10 : Below w.heap.size w w10 := hB9.trans (hS.mono hB9.size)
  have hz10 := hB10.size
  clear hS hb hB9 hz9
  have hE : lessE 2 (nth [0, 10]) (nth [10, 20]) (nth [1, 1]) 3 = 0 := by decide
  have ho2 := ho hE
  rw [hE]
  clear ho hE
  clear C5
  obtain ⟨g6, cap6, hv3, hcap1, hcap2, hgb, hgl⟩ := owned_some ho2 (by decide)
  subst hv3
  have O3 := Lib.hid (ho2)
  clear ho2
  go_wp2_with fail
  refine (equal_ints _ 2 _ _ _ 2 2 (nth [2, 0]) _ (by decide) (by decide) (RowAt.after I1.out (by repeat' (first | exact Below.refl _ _ | assumption | (with_reducible refine Below.alloc ?_ ?_ _) | (with_reducible refine below_drewN ?_ _) | (with_reducible refine Below.drew ?_) | (with_reducible refine Below.setCell ?_ ?_ _) | go_size))) (ints_block (l := [2, 0]) (Blk.newAt _ _ _ rfl) rfl)).mono ?_
  rintro e w11 ⟨rfl, hb⟩
  have hS : Below w10.heap.size w10 w11 := Below.step (by repeat' (first | exact Below.refl _ _ | assumption | (with_reducible refine Below.alloc ?_ ?_ _) | (with_reducible refine below_drewN ?_ _) | (with_reducible refine Below.drew ?_) | (with_reducible refine Below.setCell ?_ ?_ _) | go_size)) hb (by go_size)
  replace I1 := Lib.hid (RowAt.after I1.out hS)
  replace I2 := Lib.hid (RowAt.after I2.out hS)
  replace O3 := Lib.hid (ownsRow_after O3.out hS)
  have hB11 : Below w.heap.size w w11 := hB10.trans (hS.mono hB10.size)
  have hz11 := hB11.size
  clear hS hb hB10 hz10
  rw [decide_eq_true (rfl : listOf 2 (nth [2, 0]) = listOf 2 (nth [2, 0]))]
  clear I1
  go_wp2_with fail
  refine (equal_ints _ 1 _ _ _ 1 1 (nth [0]) _ (by decide) (by decide) (RowAt.after I2.out (by repeat' (first | exact Below.refl _ _ | assumption | (with_reducible refine Below.alloc ?_ ?_ _) | (with_reducible refine below_drewN ?_ _) | (with_reducible refine Below.drew ?_) | (with_reducible refine Below.setCell ?_ ?_ _) | go_size))) (ints_block (l := [0]) (Blk.newAt _ _ _ rfl) rfl)).mono ?_
  rintro e w12 ⟨rfl, hb⟩
  have hS : Below w11.heap.size w11 w12 := Below.step (by repeat' (first | exact Below.refl _ _ | assumption | (with_reducible refine Below.alloc ?_ ?_ _) | (with_reducible refine below_drewN ?_ _) | (with_reducible refine Below.drew ?_) | (with_reducible refine Below.setCell ?_ ?_ _) | go_size)) hb (by go_size)
  replace I2 := Lib.hid (RowAt.after I2.out hS)
  replace O3 := Lib.hid (ownsRow_after O3.out hS)
  have hB12 : Below w.heap.size w w12 := hB11.trans (hS.mono hB11.size)
  have hz12 := hB12.size
  clear hS hb hB11 hz11
  rw [decide_eq_true (rfl : listOf 1 (nth [0]) = listOf 1 (nth [0]))]
  clear I2
  have y0 : w12.cell? ⟨g6, 2, none⟩ = some (.int .i64 0) := O3.out.cellAt 2 (by decide)
  have y1 : w12.cell? ⟨g6, 5, none⟩ = some (.int .i64 1) := O3.out.cellAt 5 (by decide)
  clear O3
  go_wp2_with fail
  refine (fcheck_any _ 1 1 (nth [0]) (nth [0]) (nth [0]) _ (by decide) (fun _ => ⟨_, _, rfl, by simp, fun k hk => by rw [(Blk.newAt _ _ _ rfl : Blk _ _ (.cells #[.int .i64 0, .int .i64 0, .int .i64 0] 64)).cell]; rcases (by omega : k = 0 ∨ k = 1 ∨ k = 2) with rfl | rfl | rfl <;> rfl⟩)).mono ?_
  rintro e w13 ⟨rfl, hb⟩
  have hS : Below w12.heap.size w12 w13 := Below.step (by repeat' (first | exact Below.refl _ _ | assumption | (with_reducible refine Below.alloc ?_ ?_ _) | (with_reducible refine below_drewN ?_ _) | (with_reducible refine Below.drew ?_) | (with_reducible refine Below.setCell ?_ ?_ _) | go_size)) hb (by go_size)
  have hB13 : Below w.heap.size w w13 := hB12.trans (hS.mono hB12.size)
  have hz13 := hB13.size
  clear hS hb hB12 hz12
  rw [show fchk 1 (nth [0]) (nth [0]) (nth [0]) = 4 by decide]
  go_wp2_with fail
  go_returns
  exact ⟨rfl, hB13⟩

end Go.Proofs.Ytfhcciepaangiaa
