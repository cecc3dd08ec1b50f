/- FlowOrders returns true at every input: the walk. -/
import Derived.Test.YtfhcciepaangiaaFlowOrdersMath
set_option linter.unusedVariables false
set_option linter.unusedSimpArgs false
namespace Go.Proofs.Ytfhcciepaangiaa
open Go.RowKit
attribute [local go_sem ↓] Go.wp_at_zero Go.wp_at_succ

theorem range_ints (n : Nat) (z : Nat → Int) : (List.range (n * 1)).map (fun k => Value.int .i64 (z k)) = ints (listOf n z) := by
  unfold ints listOf; rw [Nat.mul_one, List.map_map]; rfl
/- u := slices.Clone(t); slices.Reverse(u) -/
set_option maxRecDepth 100000 in
set_option maxHeartbeats 4000000 in
theorem forders_any (a : Option Addr) (n c : Nat) (F T M : Nat → Int) (at_ : Option Addr) (nt ct : Nat) (z : Nat → Int) (w : World) (hm : n ≤ maxLen) (hR : CapsAt w a n F T M) (hmt : nt ≤ maxLen) (hby : nt * 8 ≤ 140737488355328) (hnil : at_ = none → nt = 0) (hRt : IntsAt w at_ nt z) :
    Calls Try.prog 4 #[.slice a n c, .slice at_ nt ct] w fun e w' => e = .returned (.bool true) ∧ Below w.heap.size w w' := by
  have HRow := Lib.hid (show RowAt w 3 a n (capV F T M) from hR); clear hR
  have HRt := Lib.hid hRt; clear hRt
  have HRow0 := HRow; have HRt0 := HRt
  have HNil := Lib.hid hnil; clear hnil
  have HM := Lib.hid hm
  have HMt := Lib.hid hmt
  unfold maxLen at hm hmt
  go_enter Try.func4, Try.ntmps4
  go_wp2_with fail
  refine (ffact_any _).mono ?_
  rintro e w1 ⟨rfl, hb⟩
  have hS : Below w.heap.size w w1 := Below.step (by repeat' (first | exact Below.refl _ _ | assumption | (with_reducible refine Below.alloc ?_ ?_ _) | (with_reducible refine below_drewN ?_ _) | (with_reducible refine Below.drew ?_) | (with_reducible refine Below.setCell ?_ ?_ _) | go_size)) hb (by go_size)
  replace HRow := Lib.hid (RowAt.after HRow.out hS)
  replace HRt := Lib.hid (RowAt.after HRt.out hS)
  have hB1 : Below w.heap.size w w1 := hS
  have hz1 := hB1.size
  clear hS hb
  go_wp2_with fail
  refine (clone_int at_ nt ct (fun k => .int .i64 (z k)) _ HMt.out (by omega) HNil.out HRt.out (fun k _ => rfl)).mono ?_
  rintro e w2 ⟨v, rfl, hown, hb, -⟩
  have hS : Below w1.heap.size w1 w2 := Below.step (by repeat' (first | exact Below.refl _ _ | assumption | (with_reducible refine Below.alloc ?_ ?_ _) | (with_reducible refine below_drewN ?_ _) | (with_reducible refine Below.drew ?_) | (with_reducible refine Below.setCell ?_ ?_ _) | go_size)) hb (by go_size)
  replace HRow := Lib.hid (RowAt.after HRow.out hS)
  replace HRt := Lib.hid (RowAt.after HRt.out hS)
  have hB2 : Below w.heap.size w w2 := hB1.trans (hS.mono hB1.size)
  have hz2 := hB2.size
  clear hS hb hB1
  have hown2 : w2.ownsRow w1.heap.size 3 1 v nt (ints (listOf nt z)) := by rw [← range_ints]; exact hown
  clear hown
  have hlen : (listOf nt z).length = nt := listOf_len _ _
  go_wp2_with fail
  refine (reverse_any v w1.heap.size (listOf nt z) _ (by rw [hlen]; exact HMt.out) (by rw [hlen]; exact hown2)).mono ?_
  rintro e w3 ⟨rfl, ho, hg⟩
  have hB3 : Below w.heap.size w w3 := hB2.grown hg hz2 (fun k hk => by have := (hown2.lt k hk).1; omega)
  have hz3 := hB3.size
  obtain ⟨au, cu, hv, hcu1, hcu2, hnu, hIu⟩ := ints_at ho
  subst hv
  rw [List.length_reverse, hlen] at hIu hcu1
  simp only [List.length_reverse, hlen]
  replace HRow := Lib.hid (RowAt.below HRow0.out hB3 (Nat.le_refl _))
  replace HRt := Lib.hid (RowAt.below HRt0.out hB3 (Nat.le_refl _))
  have HU := Lib.hid hIu
  clear hIu ho hg hown2 hB2 hnu hlen
  go_wp2_with fail
  refine (fdemand_any a n c F T M at_ nt ct z _ HM.out HRow.out HMt.out HRt.out).mono ?_
  rintro e w4 ⟨v1, rfl, ho, hb⟩
  have hS : Below w3.heap.size w3 w4 := Below.step (by repeat' (first | exact Below.refl _ _ | assumption | (with_reducible refine Below.alloc ?_ ?_ _) | (with_reducible refine below_drewN ?_ _) | (with_reducible refine Below.drew ?_) | (with_reducible refine Below.setCell ?_ ?_ _) | go_size)) hb (by go_size)
  replace HRow := Lib.hid (RowAt.after HRow.out hS)
  replace HRt := Lib.hid (RowAt.after HRt.out hS)
  replace HU := Lib.hid (RowAt.after HU.out hS)
  have hB4 : Below w.heap.size w w4 := hB3.trans (hS.mono hB3.size)
  have hz4 := hB4.size
  clear hS hb hB3
  obtain ⟨a1, c1, hv1, -, -, -, hi1⟩ := ints_at ho
  subst hv1
  have HA := Lib.hid (hi1)
  clear hi1 ho
  go_wp2_with fail
  refine (fdemand_any a n c F T M au nt cu (nth (listOf nt z).reverse) _ HM.out HRow.out HMt.out HU.out).mono ?_
  rintro e w5 ⟨v2, rfl, ho, hb⟩
  have hS : Below w4.heap.size w4 w5 := Below.step (by repeat' (first | exact Below.refl _ _ | assumption | (with_reducible refine Below.alloc ?_ ?_ _) | (with_reducible refine below_drewN ?_ _) | (with_reducible refine Below.drew ?_) | (with_reducible refine Below.setCell ?_ ?_ _) | go_size)) hb (by go_size)
  replace HRow := Lib.hid (RowAt.after HRow.out hS)
  replace HRt := Lib.hid (RowAt.after HRt.out hS)
  replace HU := Lib.hid (RowAt.after HU.out hS)
  replace HA := Lib.hid (RowAt.after HA.out hS)
  have hB5 : Below w.heap.size w w5 := hB4.trans (hS.mono hB4.size)
  have hz5 := hB5.size
  clear hS hb hB4
  obtain ⟨a2, c2, hv2, -, -, -, hi2⟩ := ints_at ho
  subst hv2
  have HBq := Lib.hid (hi2)
  clear hi2 ho
  clear HRow
  clear HRt
  clear HU
  rw [demL_rev] at HBq
  rw [demL_rev, demN_rev, demE_rev]
  generalize hdn : demN n F T M nt z = dn
  generalize hdl : demL n F T M nt z = dl at HA HBq ⊢
  generalize hde : demE n F T M nt z = de
  obtain ⟨q1, q2, q3, q4⟩ := dem_in n F T M nt z
  rw [hdn] at q1 q2
  rw [hdl] at q3 q4
  have HQ := Lib.hid q4
  have HDN := Lib.hid hdn; have HDL := Lib.hid hdl; have HDE := Lib.hid hde
  clear q4 hdn hdl hde
  go_wp2_with fail
  go_loop [12, 38] (fun s i => ∃ k : Nat, k ≤ dl.length ∧ i = .int .i64 k ∧ s = .int .i64 (dn + sumN (nth dl) k)) (fun _ i => dl.length - (intOf i).toNat)
  case atStart => exact ⟨0, by omega, rfl, by simp [sumN]⟩
  case round =>
    obtain ⟨k, hk, rfl, rfl⟩ := hrel
    by_cases hlt : k < dl.length
    · obtain ⟨b, off, rfl, hbl, hcell⟩ := HA.out (by omega)
      have e1 := int_cell hcell k hlt
      have HC := Lib.hid hcell; clear hcell
      obtain ⟨r1, r2⟩ := HQ.out k hlt
      obtain ⟨r3, r4⟩ := sumN_in (f := nth dl) (n := k) (fun j hj => HQ.out j (by omega))
      go_wp2_with fail
      go_round
      case rel => exact ⟨k + 1, by omega, by go_num, by rw [sumN]; go_num⟩
      case measure => simp [intOf]; omega
    · obtain rfl : k = dl.length := by omega
      have hd1 : (de == de) = true := by simp
      have hd2 : (dn == dn) = true := by simp
      have hE := (equal_ints a1 dl.length c1 (nth dl) a2 dl.length c2 (nth dl) w5 (by unfold maxLen; omega) (by unfold maxLen; omega) HA.out HBq.out)
      rw [decide_eq_true rfl] at hE
      have HE := Lib.hid hE; clear hE
      by_cases h0 : de = 0
      · subst h0
        have hs : dn + sumN (nth dl) dl.length = nt := by
          have := dem_sum HDE.out
          rw [HDN.out, HDL.out] at this
          exact this
        have hd3 : (dn + sumN (nth dl) dl.length == (nt : Int)) = true := by rw [hs]; simp
        have HS := Lib.hid hs; clear hs
        go_wp2_with fail
        refine HE.out.mono ?_
        rintro e w6 ⟨rfl, hb⟩
        have hB6 := hB5.trans (hb.mono hz5)
        clear hb
        go_wp2_with fail
        go_returns
        exact ⟨rfl, hB6⟩
      · have hk1 : (de != 0) = true := by simpa using h0
        have H0 := Lib.hid h0; clear h0
        go_wp2_with fail
        refine HE.out.mono ?_
        rintro e w6 ⟨rfl, hb⟩
        have hB6 := hB5.trans (hb.mono hz5)
        clear hb
        go_wp2_with fail
        go_returns
        exact ⟨rfl, hB6⟩

end Go.Proofs.Ytfhcciepaangiaa
