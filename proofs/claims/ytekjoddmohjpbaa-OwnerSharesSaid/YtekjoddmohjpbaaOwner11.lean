/- Begin at nil. -/
import Derived.Test.YtekjoddmohjpbaaOwner10
set_option linter.unusedVariables false
set_option linter.unusedSimpArgs false
namespace Go.Proofs.Ytekjoddmohjpbaa
open Go.RowKit
attribute [local go_sem ↓] Go.wp_at_zero Go.wp_at_succ

set_option maxRecDepth 100000 in
set_option maxHeartbeats 1000000 in
theorem begin_nil (s by_ : ByteArray) (w : World) (hs : s.size ≤ maxLen) (hb : by_.size ≤ maxLen) (n1 : nameB s = true) (n2 : nameB by_ = true) :
    Calls Try.prog 19 #[.slice none 0 0, .string s, .string by_] w fun e w' => ∃ v, e = .returned (.tuple #[v, .int .i64 0]) ∧ entE.Own w' w.heap.size 32 v [⟨s, by_, noS⟩] ∧ Below w.heap.size w w' := by
  obtain ⟨a0, c0, hv0, hS0⟩ := (Enc.Own.nil entE w w.heap.size 32).slc
  have hS0 : entE.Slc w none 0 [] := by
    obtain ⟨rfl, rfl⟩ : a0 = none ∧ c0 = 0 := by
      simp at hv0
      exact ⟨hv0.1.symm ▸ rfl, hv0.2.symm ▸ rfl⟩
    exact hS0
  have HS := Lib.hid hS0; clear hS0 hv0
  have N1 := Lib.hid n1; have N2 := Lib.hid n2; clear n1 n2
  go_enter Try.func19, Try.ntmps19
  go_wp2_with fail
  refine (ocheck_any none 0 [] _ HS.out (fun x hx => by cases hx)).mono ?_
  rintro e w1 ⟨rfl, hb1⟩
  have hz1 := hb1.size
  rw [show ochk [] = 0 from rfl]
  go_wp2_with fail
  refine (place_any none 0 [] s _ (HS.out.after hb1)).mono ?_
  rintro e w2 ⟨rfl, hb2⟩
  have hB2 := hb1.trans (hb2.mono hz1)
  have hz2 := hB2.size
  clear hb2
  rw [show plB [] s = false from rfl, show plN [] s = 0 from rfl]
  go_wp2_with fail
  refine (oname_any s _ hs).mono ?_
  rintro e w3 ⟨rfl, hb3⟩
  have hB3 := hB2.trans (hb3.mono hz2)
  have hz3 := hB3.size
  clear hb3
  rw [N1.out]
  go_wp2_with fail
  refine (oname_any by_ _ hb).mono ?_
  rintro e w4 ⟨rfl, hb4⟩
  have hB4 := hB3.trans (hb4.mono hz3)
  have hz4 := hB4.size
  clear hb4
  rw [N2.out]
  go_wp2_with fail
  refine (cloneL_ent none 0 [] _ (HS.out.after hB4) (by simp)).mono ?_
  rintro e w5 ⟨v, rfl, -, hb5, hiff⟩
  have hB5 := hB4.trans (hb5.mono hz4)
  have hz5 := hB5.size
  clear hb5
  obtain rfl := hiff.2 rfl
  go_wp2_with fail
  refine (insert_nil _ ⟨s, by_, noS⟩ _ (Blk.newAt _ _ _ (by first | rfl | (simp; done)))).mono ?_
  rintro e w6 ⟨g, cap, rfl, ho, hb6⟩
  have hB6 : Below w.heap.size w w6 := Below.step (hB5.trans (by repeat' (first | exact Below.refl _ _ | assumption | (with_reducible refine Below.alloc ?_ ?_ _) | (with_reducible refine below_drewN ?_ _) | (with_reducible refine Below.drew ?_) | (with_reducible refine Below.setCell ?_ ?_ _) | go_size))) hb6 (by go_size)
  have HO := Lib.hid (ho.base (base' := w.heap.size) (by go_size))
  clear ho hb6
  go_wp2_with fail
  go_returns
  exact ⟨_, rfl, HO.out, hB6⟩

end Go.Proofs.Ytekjoddmohjpbaa
